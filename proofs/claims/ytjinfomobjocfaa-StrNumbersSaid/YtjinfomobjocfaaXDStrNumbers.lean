-- Written by wip/tool/xprint.py of this work (a front end of its own to the kit's printer): the functions of the seat Ytjinfomobjocfaa as plain Lean functions, and what the Go code's calls come to. Lean checks it.
import Derived.Test.YtjinfomobjocfaaX16
import Derived.Test.YtjinfomobjocfaaYOpens
import Derived.OpenShut
namespace Go.Proofs.Ytjinfomobjocfaa.X
open Go.RowKit Go.Proofs.Ytjinfomobjocfaa.X Go.Proofs.YtjinfomobjocfaaW.PrintWords Go.Proofs.YtjinfomobjocfaaW.PrintLast Go.Proofs.YtjinfomobjocfaaW.PrintMore Go.Proofs.Ytjinfomobjocfaa.Y
set_option linter.unusedVariables false
/-- The pure statement of StrNumbers. -/
def mewslaw20_StrNumbers.PureX : Prop := ∀ (a0 : ByteArray) (a1 : S41), (a0.size ≤ 140737488351232) → (((Lit.int .i64 a1.f0).wf = true) ∧ ((Lit.int .i64 a1.f1).wf = true) ∧ ((Lit.int .i64 a1.f2).wf = true)) → ∃ k, mewslaw20_StrNumbers.f k a0 a1.f0 a1.f1 a1.f2 = some true
end Go.Proofs.Ytjinfomobjocfaa.X
