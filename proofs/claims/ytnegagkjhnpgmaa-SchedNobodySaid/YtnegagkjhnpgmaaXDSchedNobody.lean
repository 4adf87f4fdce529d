-- Written by wip/tool/xprint.py of this work (a front end of its own to the kit's printer): the functions of the seat Ytnegagkjhnpgmaa as plain Lean functions, and what the Go code's calls come to. Lean checks it.
import Derived.Test.YtnegagkjhnpgmaaLaw44n
import Derived.Test.YtnegagkjhnpgmaaYOpens
import Derived.OpenShut
namespace Go.Proofs.Ytnegagkjhnpgmaa.X
open Go.RowKit Go.Proofs.Ytnegagkjhnpgmaa.X Go.Proofs.YtnegagkjhnpgmaaW.PrintWords Go.Proofs.YtnegagkjhnpgmaaW.PrintLast Go.Proofs.YtnegagkjhnpgmaaW.PrintMore Go.Proofs.Ytnegagkjhnpgmaa.Y
set_option linter.unusedVariables false
/-- The pure statement of SchedNobody. -/
def mewslaw44_SchedNobody.PureX : Prop := ∀ (a0 : S29), (((Lit.int .i64 a0.f0).wf = true) ∧ (a0.f1.length * 16 ≤ 140737488351232 ∧ ∀ x ∈ a0.f1, x.size ≤ 140737488351232) ∧ ((Lit.int .i64 a0.f2).wf = true) ∧ (a0.f3.size ≤ 140737488351232)) → ∃ k, mewslaw44_SchedNobody.f k a0.f0 a0.f1 a0.f2 a0.f3 = some true
end Go.Proofs.Ytnegagkjhnpgmaa.X
