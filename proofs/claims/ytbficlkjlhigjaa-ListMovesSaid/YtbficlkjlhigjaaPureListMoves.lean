/- A text that is taken from an end of a list comes to an end of another one, or of the same. -/
import Derived.Test.YtbficlkjlhigjaaXDListMoves
namespace Go.Proofs.Ytbficlkjlhigjaa.Pure
open Go.RowKit Go.Proofs.Ytbficlkjlhigjaa.X Go.Proofs.Ytbficlkjlhigjaa.Y
set_option linter.unusedVariables false

theorem ListMoves : mewslaw21_ListMoves.PureX := by
  intro l0 l1 a2 h0 h1 h2
  exact ⟨0, if_pos ⟨by omega, by omega⟩⟩

end Go.Proofs.Ytbficlkjlhigjaa.Pure
