/- Any event's line, or that it may not be, and whether two are the same, is the document's: the walk (Law47a) says so for all events. -/
import Derived.Test.YtehnogggokfcaaaXDEventPuts
namespace Go.Proofs.Ytehnogggokfcaaa.Pure
open Go.RowKit Go.Proofs.Ytehnogggokfcaaa.X Go.Proofs.Ytehnogggokfcaaa.Y Go.Proofs.Ytehnogggokfcaaa.Ev

theorem rg_i64 {a : Int} (h : (Lit.int .i64 a).wf = true) : i64 a := by simpa [i64, Lit.wf, IntKind.min, IntKind.max, IntKind.bits, IntKind.signed] using h
theorem EventPuts : mewslaw47_EventPuts.PureX := by
  intro a0 a1 h0 h1
  obtain ⟨_, g1, _, g3, g4, ⟨_, g6, g7⟩, g8, g9⟩ := h0
  obtain ⟨_, f1, _, f3, f4, ⟨_, f6, f7⟩, f8, f9⟩ := h1
  exact ⟨0, if_pos ⟨⟨⟨rg_i64 g1, rg_i64 g3, rg_i64 g4, rg_i64 g6, rg_i64 g7, fun y hy => ⟨rg_i64 (g9 y hy).1, rg_i64 (g9 y hy).2.2⟩⟩, g8⟩, ⟨⟨rg_i64 f1, rg_i64 f3, rg_i64 f4, rg_i64 f6, rg_i64 f7, fun y hy => ⟨rg_i64 (f9 y hy).1, rg_i64 (f9 y hy).2.2⟩⟩, f8⟩⟩⟩

end Go.Proofs.Ytehnogggokfcaaa.Pure
