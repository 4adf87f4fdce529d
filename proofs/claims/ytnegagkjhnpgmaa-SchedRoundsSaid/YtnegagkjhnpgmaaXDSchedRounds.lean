-- Written by wip/tool/xprint.py of this work (a front end of its own to the kit's printer): the functions of the seat Ytnegagkjhnpgmaa as plain Lean functions, and what the Go code's calls come to. Lean checks it.
import Derived.Test.YtnegagkjhnpgmaaLaw44r
import Derived.Test.YtnegagkjhnpgmaaYOpens
import Derived.OpenShut
namespace Go.Proofs.Ytnegagkjhnpgmaa.X
open Go.RowKit Go.Proofs.Ytnegagkjhnpgmaa.X Go.Proofs.YtnegagkjhnpgmaaW.PrintWords Go.Proofs.YtnegagkjhnpgmaaW.PrintLast Go.Proofs.YtnegagkjhnpgmaaW.PrintMore Go.Proofs.Ytnegagkjhnpgmaa.Y
set_option linter.unusedVariables false
/-- The pure statement of SchedRounds. -/
def mewslaw44_SchedRounds.PureX : Prop := ∀ (a0 : Int) (a1 : Int) (l2 : List (S29)), ((Lit.int .u8 a0).wf = true) → ((Lit.int .i64 a1).wf = true) → (l2.length * 56 ≤ 140737488351232 ∧ ∀ x ∈ l2, ((Lit.int .i64 x.f0).wf = true) ∧ (x.f1.length * 16 ≤ 140737488351232 ∧ ∀ y ∈ x.f1, y.size ≤ 140737488351232) ∧ ((Lit.int .i64 x.f2).wf = true) ∧ (x.f3.size ≤ 140737488351232)) → ∃ k, mewslaw44_SchedRounds.f k a0 a1 l2 = some true
end Go.Proofs.Ytnegagkjhnpgmaa.X
