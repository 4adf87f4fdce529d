/- Whatever befalls a transaction: each answer, and it, are the document's. -/
import Derived.Test.YtkamejnccmapkaaLaw37d
import Derived.Test.YtkamejnccmapkaaYOpens
import Derived.OpenShut
namespace Go.Proofs.Ytkamejnccmapkaa.X
open Go.RowKit Go.Proofs.Ytkamejnccmapkaa.X Go.Proofs.YtkamejnccmapkaaW.PrintWords Go.Proofs.YtkamejnccmapkaaW.PrintLast Go.Proofs.YtkamejnccmapkaaW.PrintMore Go.Proofs.Ytkamejnccmapkaa.Y
set_option linter.unusedVariables false
/-- The pure statement of MultiPlays. -/
def mewslaw37_MultiPlays.PureX : Prop := ∀ (l0 : List (S45)), (l0.length * 32 ≤ 140737488351232 ∧ ∀ x ∈ l0, ((Lit.int .i64 x.f0).wf = true) ∧ (x.f1.length * 16 ≤ 140737488351232 ∧ ∀ y ∈ x.f1, y.size ≤ 140737488351232)) → ∃ k, mewslaw37_MultiPlays.f k l0 = some true
end Go.Proofs.Ytkamejnccmapkaa.X
namespace Go.Proofs.Ytkamejnccmapkaa.Pure
open Go.RowKit Go.Proofs.Ytkamejnccmapkaa.X Go.Proofs.Ytkamejnccmapkaa.Y Go.Proofs.Ytkamejnccmapkaa.Mu
set_option linter.unusedVariables false

theorem MultiPlays : mewslaw37_MultiPlays.PureX := by
  intro l0 h0
  exact ⟨0, if_pos ⟨by have := h0.1; omega, fun o ho => ⟨by have := (h0.2 o ho).2.1; omega, (h0.2 o ho).2.2⟩⟩⟩
end Go.Proofs.Ytkamejnccmapkaa.Pure
