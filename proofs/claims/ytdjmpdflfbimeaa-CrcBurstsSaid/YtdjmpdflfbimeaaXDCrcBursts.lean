-- Written by wip/tool/xprint.py of this work (a front end of its own to the kit's printer): the functions of the seat Ytdjmpdflfbimeaa as plain Lean functions, and what the Go code's calls come to. Lean checks it.
import Derived.Test.YtdjmpdflfbimeaaBurst
import Derived.Test.YtdjmpdflfbimeaaYOpens
import Derived.OpenShut
namespace Go.Proofs.Ytdjmpdflfbimeaa.X
open Go.RowKit Go.Proofs.Ytdjmpdflfbimeaa.X Go.Proofs.YtdjmpdflfbimeaaW.PrintWords Go.Proofs.YtdjmpdflfbimeaaW.PrintLast Go.Proofs.YtdjmpdflfbimeaaW.PrintMore Go.Proofs.Ytdjmpdflfbimeaa.Y
set_option linter.unusedVariables false
/-- The pure statement of CrcBursts. -/
def mewslaw14_CrcBursts.PureX : Prop := ∀ (a0 : ByteArray) (a1 : Int) (a2 : Int), (a0.size ≤ 140737488351232) → ((Lit.int .i64 a1).wf = true) → ((Lit.int .u32 a2).wf = true) → ∃ k, mewslaw14_CrcBursts.f k a0 a1 a2 = some true
end Go.Proofs.Ytdjmpdflfbimeaa.X
