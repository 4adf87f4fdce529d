/- What goes of any list, and what is left, is the document's. -/
import Derived.Test.YtbficlkjlhigjaaXDListDrops
namespace Go.Proofs.Ytbficlkjlhigjaa.Pure
open Go.RowKit Go.Proofs.Ytbficlkjlhigjaa.X Go.Proofs.Ytbficlkjlhigjaa.Y
set_option linter.unusedVariables false

theorem ListDrops : mewslaw21_ListDrops.PureX := by
  intro l0 a1 a2 h0 h1 h2
  have hb := wf_i64 h1
  exact ⟨0, if_pos ⟨by omega, hb.1, hb.2⟩⟩

end Go.Proofs.Ytbficlkjlhigjaa.Pure
