/- Jobs of one handle are done in order, whoever waits when; for all handles and all that wait. -/
import Derived.Test.YtnegagkjhnpgmaaXDSchedOrder
namespace Go.Proofs.Ytnegagkjhnpgmaa.Pure
open Go.RowKit Go.Proofs.Ytnegagkjhnpgmaa.X Go.Proofs.Ytnegagkjhnpgmaa.Y

theorem rg_u8 {a : Int} (h : (Lit.int .u8 a).wf = true) : 0 ≤ a ∧ a ≤ 255 := by simpa [Lit.wf, IntKind.min, IntKind.max, IntKind.bits, IntKind.signed] using h
theorem SchedOrder : mewslaw44_SchedOrder.PureX := by
  intro l0 l1 h0 h1
  exact ⟨0, if_pos ⟨fun x hx => rg_u8 (h0.2 x hx), fun x hx => rg_u8 (h1.2 x hx)⟩⟩

end Go.Proofs.Ytnegagkjhnpgmaa.Pure
