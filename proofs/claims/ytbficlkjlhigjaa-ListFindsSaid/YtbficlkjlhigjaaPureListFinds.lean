/- Where texts stand in any list, from either end on, is the document's; what is found is there. -/
import Derived.Test.YtbficlkjlhigjaaXDListFinds
namespace Go.Proofs.Ytbficlkjlhigjaa.Pure
open Go.RowKit Go.Proofs.Ytbficlkjlhigjaa.X Go.Proofs.Ytbficlkjlhigjaa.Y
set_option linter.unusedVariables false

theorem ListFinds : mewslaw21_ListFinds.PureX := by
  intro l0 a1 a2 h0 h1 h2
  have hb := wf_i64 h2.1
  exact ⟨0, if_pos ⟨by omega, hb.1, hb.2⟩⟩

end Go.Proofs.Ytbficlkjlhigjaa.Pure
