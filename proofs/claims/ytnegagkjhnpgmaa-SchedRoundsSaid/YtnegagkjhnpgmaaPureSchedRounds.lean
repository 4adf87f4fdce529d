/- Where no handle waits, the job at a place is done in the rounds that are told; for every place, every quantum, whatever comes behind. -/
import Derived.Test.YtnegagkjhnpgmaaXDSchedRounds
namespace Go.Proofs.Ytnegagkjhnpgmaa.Pure
open Go.RowKit Go.Proofs.Ytnegagkjhnpgmaa.X Go.Proofs.Ytnegagkjhnpgmaa.Y

theorem rg_u8 {a : Int} (h : (Lit.int .u8 a).wf = true) : 0 ≤ a ∧ a ≤ 255 := by simpa [Lit.wf, IntKind.min, IntKind.max, IntKind.bits, IntKind.signed] using h
theorem rg_i64 {a : Int} (h : (Lit.int .i64 a).wf = true) : -9223372036854775808 ≤ a ∧ a ≤ 9223372036854775807 := by simpa [Lit.wf, IntKind.min, IntKind.max, IntKind.bits, IntKind.signed] using h
theorem SchedRounds : mewslaw44_SchedRounds.PureX := by
  intro a0 a1 l2 h0 h1 h2
  exact ⟨0, if_pos ⟨rg_u8 h0, rg_i64 h1⟩⟩

end Go.Proofs.Ytnegagkjhnpgmaa.Pure
