/- What comes beside a text of any list is the document's. -/
import Derived.Test.YtbficlkjlhigjaaXDListBeside
namespace Go.Proofs.Ytbficlkjlhigjaa.Pure
open Go.RowKit Go.Proofs.Ytbficlkjlhigjaa.X Go.Proofs.Ytbficlkjlhigjaa.Y
set_option linter.unusedVariables false

theorem ListBeside : mewslaw21_ListBeside.PureX := by
  intro l0 a1 a2 h0 h1
  exact ⟨0, if_pos (by omega)⟩

end Go.Proofs.Ytbficlkjlhigjaa.Pure
