-- Written by wip/tool/xprint.py of this work (a front end of its own to the kit's printer): the functions of the seat Ytdjmpdflfbimeaa as plain Lean functions, and what the Go code's calls come to. Lean checks it.
import Derived.Test.YtdjmpdflfbimeaaX5
import Derived.Test.YtdjmpdflfbimeaaYOpens
import Derived.OpenShut
namespace Go.Proofs.Ytdjmpdflfbimeaa.X
open Go.RowKit Go.Proofs.Ytdjmpdflfbimeaa.X Go.Proofs.YtdjmpdflfbimeaaW.PrintWords Go.Proofs.YtdjmpdflfbimeaaW.PrintLast Go.Proofs.YtdjmpdflfbimeaaW.PrintMore Go.Proofs.Ytdjmpdflfbimeaa.Y
set_option linter.unusedVariables false
/-- The pure statement of CrcSays. -/
def mewslaw14_CrcSays.PureX : Prop := ∀ (a0 : Int) (a1 : Int) (a2 : ByteArray), ((Lit.int .u32 a0).wf = true) → ((Lit.int .u8 a1).wf = true) → (a2.size ≤ 140737488351232) → ∃ k, mewslaw14_CrcSays.f k a0 a1 a2 = some true
end Go.Proofs.Ytdjmpdflfbimeaa.X
