-- Written by wip/tool/xprint.py of this work (a front end of its own to the kit's printer): the functions of the seat Ytjinfomobjocfaa as plain Lean functions, and what the Go code's calls come to. Lean checks it.
import Derived.Test.YtjinfomobjocfaaX11
import Derived.Test.YtjinfomobjocfaaYOpens
import Derived.OpenShut
namespace Go.Proofs.Ytjinfomobjocfaa.X
open Go.RowKit Go.Proofs.Ytjinfomobjocfaa.X Go.Proofs.YtjinfomobjocfaaW.PrintWords Go.Proofs.YtjinfomobjocfaaW.PrintLast Go.Proofs.YtjinfomobjocfaaW.PrintMore Go.Proofs.Ytjinfomobjocfaa.Y
set_option linter.unusedVariables false
/-- The pure statement of StrBack. -/
def mewslaw20_StrBack.PureX : Prop := ∀ (a0 : ByteArray) (a1 : ByteArray) (a2 : Int), (a0.size ≤ 140737488351232) → (a1.size ≤ 140737488351232) → ((Lit.int .i64 a2).wf = true) → ∃ k, mewslaw20_StrBack.f k a0 a1 a2 = some true
end Go.Proofs.Ytjinfomobjocfaa.X
