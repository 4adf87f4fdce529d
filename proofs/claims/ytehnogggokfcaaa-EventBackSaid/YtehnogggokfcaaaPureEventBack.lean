/- What is put is taken; what is taken may be, and is put, and taken again, as it was: the walk (Law47c) says so for all events and lines. -/
import Derived.Test.YtehnogggokfcaaaXDEventBack
namespace Go.Proofs.Ytehnogggokfcaaa.Pure
open Go.RowKit Go.Proofs.Ytehnogggokfcaaa.X Go.Proofs.Ytehnogggokfcaaa.Y Go.Proofs.Ytehnogggokfcaaa.Ev

theorem rg_i64 {a : Int} (h : (Lit.int .i64 a).wf = true) : i64 a := by simpa [i64, Lit.wf, IntKind.min, IntKind.max, IntKind.bits, IntKind.signed] using h
theorem EventBack : mewslaw47_EventBack.PureX := by
  intro a0 a1 h0 h1
  obtain ⟨_, g1, _, g3, g4, ⟨_, g6, g7⟩, g8, g9⟩ := h0
  exact ⟨0, if_pos ⟨⟨rg_i64 g1, rg_i64 g3, rg_i64 g4, rg_i64 g6, rg_i64 g7, fun y hy => ⟨rg_i64 (g9 y hy).1, rg_i64 (g9 y hy).2.2⟩⟩, g8⟩⟩

end Go.Proofs.Ytehnogggokfcaaa.Pure
