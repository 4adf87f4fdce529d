/- What goes and what is left are what was there. -/
import Derived.Test.YtbficlkjlhigjaaXDListParts
namespace Go.Proofs.Ytbficlkjlhigjaa.Pure
open Go.RowKit Go.Proofs.Ytbficlkjlhigjaa.X Go.Proofs.Ytbficlkjlhigjaa.Y
set_option linter.unusedVariables false

theorem ListParts : mewslaw21_ListParts.PureX := by
  intro l0 a1 a2 h0 h1 h2
  have hb := wf_i64 h1
  exact ⟨0, if_pos ⟨by omega, hb.1, hb.2⟩⟩

end Go.Proofs.Ytbficlkjlhigjaa.Pure
