-- Written by wip/tool/xprint.py of this work (a front end of its own to the kit's printer): the functions of the seat Ytnegagkjhnpgmaa as plain Lean functions, and what the Go code's calls come to. Lean checks it.
import Derived.Test.YtnegagkjhnpgmaaLaw44p
import Derived.Test.YtnegagkjhnpgmaaYOpens
import Derived.OpenShut
namespace Go.Proofs.Ytnegagkjhnpgmaa.X
open Go.RowKit Go.Proofs.Ytnegagkjhnpgmaa.X Go.Proofs.YtnegagkjhnpgmaaW.PrintWords Go.Proofs.YtnegagkjhnpgmaaW.PrintLast Go.Proofs.YtnegagkjhnpgmaaW.PrintMore Go.Proofs.Ytnegagkjhnpgmaa.Y
set_option linter.unusedVariables false
/-- The pure statement of SchedPlays. -/
def mewslaw44_SchedPlays.PureX : Prop := ∀ (l0 : List (S40)), (l0.length * 88 ≤ 140737488351232 ∧ ∀ x ∈ l0, ((Lit.int .i64 x.f0).wf = true) ∧ (((Lit.int .i64 x.f1.f0).wf = true) ∧ (x.f1.f1.length * 16 ≤ 140737488351232 ∧ ∀ y ∈ x.f1.f1, y.size ≤ 140737488351232) ∧ ((Lit.int .i64 x.f1.f2).wf = true) ∧ (x.f1.f3.size ≤ 140737488351232)) ∧ (x.f2.length * 8 ≤ 140737488351232 ∧ ∀ y ∈ x.f2, (Lit.int .i64 y).wf = true)) → ∃ k, mewslaw44_SchedPlays.f k l0 = some true
end Go.Proofs.Ytnegagkjhnpgmaa.X
namespace Go.Proofs.Ytnegagkjhnpgmaa.Pure
open Go.RowKit Go.Proofs.Ytnegagkjhnpgmaa.X Go.Proofs.Ytnegagkjhnpgmaa.Y

theorem SchedPlays : mewslaw44_SchedPlays.PureX := by
  intro l0 h
  exact ⟨0, if_pos (by have := h.1; omega)⟩

end Go.Proofs.Ytnegagkjhnpgmaa.Pure
