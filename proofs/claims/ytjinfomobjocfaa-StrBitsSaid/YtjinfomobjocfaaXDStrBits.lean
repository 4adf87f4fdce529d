-- Written by wip/tool/xprint.py of this work (a front end of its own to the kit's printer): the functions of the seat Ytjinfomobjocfaa as plain Lean functions, and what the Go code's calls come to. Lean checks it.
import Derived.Test.YtjinfomobjocfaaX17
import Derived.Test.YtjinfomobjocfaaYOpens
import Derived.OpenShut
namespace Go.Proofs.Ytjinfomobjocfaa.X
open Go.RowKit Go.Proofs.Ytjinfomobjocfaa.X Go.Proofs.YtjinfomobjocfaaW.PrintWords Go.Proofs.YtjinfomobjocfaaW.PrintLast Go.Proofs.YtjinfomobjocfaaW.PrintMore Go.Proofs.Ytjinfomobjocfaa.Y
set_option linter.unusedVariables false
/-- The pure statement of StrBits. -/
def mewslaw20_StrBits.PureX : Prop := ∀ (a0 : ByteArray) (a1 : Int) (a2 : Int) (a3 : Bool), (a0.size ≤ 140737488351232) → ((Lit.int .i64 a1).wf = true) → ((Lit.int .i64 a2).wf = true) → ∃ k, mewslaw20_StrBits.f k a0 a1 a2 a3 = some true
end Go.Proofs.Ytjinfomobjocfaa.X
