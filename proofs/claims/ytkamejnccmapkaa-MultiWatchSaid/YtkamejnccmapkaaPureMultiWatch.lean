/- What is watched makes a transaction dirty when it changes, and nothing else does. -/
import Derived.Test.YtkamejnccmapkaaXDMultiWatch
namespace Go.Proofs.Ytkamejnccmapkaa.Pure
open Go.RowKit Go.Proofs.Ytkamejnccmapkaa.X Go.Proofs.Ytkamejnccmapkaa.Y Go.Proofs.Ytkamejnccmapkaa.Mu
set_option linter.unusedVariables false

theorem MultiWatch : mewslaw37_MultiWatch.PureX := by
  intro l0 l1 a2 h0 h1
  exact ⟨0, if_pos ⟨⟨by have := h0.1; omega, h0.2⟩, ⟨by have := h1.1; omega, h1.2⟩⟩⟩

end Go.Proofs.Ytkamejnccmapkaa.Pure
