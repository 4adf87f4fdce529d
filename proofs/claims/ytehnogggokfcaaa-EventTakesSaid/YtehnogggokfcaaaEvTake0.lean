/- The event of any line (event.Take): the short ends; the whole. -/
import Derived.Test.YtehnogggokfcaaaEvTake
namespace Go.Proofs.Ytehnogggokfcaaa.Ev
open Go.RowKit Go.Proofs.YtehnogggokfcaaaW.PrintWords Go.Proofs.YtehnogggokfcaaaW.PrintMore Go.Proofs.YtehnogggokfcaaaW.PrintLast Go.Proofs.Ytehnogggokfcaaa.Y Go.Proofs.Ytehnogggokfcaaa.X Go.Proofs.Ytehnogggokfcaaa.Pure Go.Proofs.Ytehnogggokfcaaa.LM
set_option linter.unusedVariables false
set_option linter.unusedSimpArgs false
attribute [local go_sem ↓] Go.wp_at_zero Go.wp_at_succ
theorem split_bounds (s : ByteArray) (l : List ByteArray) (h : splitB s = some l) : l.length ≤ s.size ∧ ∀ w ∈ l, w.size ≤ s.size := by
  unfold splitB at h
  cases hw : splitL s.data.toList with
  | none => rw [hw] at h; cases h
  | some ws =>
    rw [hw] at h
    injection h with h
    subst h
    obtain ⟨h1, h2⟩ := splitL_len _ _ (Nat.le_refl _) ws hw
    rw [ba_size]
    refine ⟨by rw [List.length_map]; exact h1, fun w hm => ?_⟩
    obtain ⟨u, hu, rfl⟩ := List.mem_map.1 hm
    rw [ofL_size]
    exact h2 u hu
set_option maxHeartbeats 4000000 in
set_option maxRecDepth 100000 in
theorem take_none (s : ByteArray) (hs : s.size ≤ 1000000000) (hsp : splitB s = none) (R : S26 × Int) (hR : R = (z26, 16)) (w : World) : Calls Try.prog 12 #[.string s] w fun e w' => ∃ A c, e = .returned (.tuple #[.agg (ecL (ecOf R.1 A c)), .int .i64 R.2]) ∧ R.1.f6.length ≤ c ∧ Kd.C k43 w' A R.1.f6.length R.1.f6 ∧ Below w.heap.size w w' := by
  have hu := Try.underlying26
  obtain ⟨r1, r2, hr, hcon, -⟩ := split_c s hs
  rw [hsp] at hr
  injection hr with hr1 hr2
  obtain rfl : r1 = [] := hr1
  obtain rfl : r2 = false := hr2
  try clear hr1
  try clear hr2
  have HCON := Aside0.mk hcon
  have HR := Aside0.mk hR
  clear hcon hR hsp
  go_enter Try.func12, Try.ntmps12
  go_wp2_with (first | ((with_reducible refine gate_dst (N := 2) rfl ?_); refine box_event ?hg (N := 2) ?hd (cs := #[.int .i64 0, .int .i64 0, .string (⟨#[]⟩ : ByteArray), .int .i64 0, .int .i64 0, .string (⟨#[]⟩ : ByteArray), .int .i64 0, .int .i64 0, .slice none 0 0]) (t := 26) ?hr ?_; (case hd => rfl); (case hg => rfl); (case hr => first | (go_simp; done) | (go_simp; rfl)); intro g2 hg_ w1 hbox hb; have Gg2 := Aside0.mk hg_; have Eg2 := Aside0.mk (show EB w1 g2 Ec.z from hbox); have Bg2 := Aside0.mk hb; clear hbox hb hg_; ) | (go_at_call 24; (with_reducible refine Calls.mono (HCON.out _) ?_); rintro _ wx ⟨v0_, rfl, hOT, hb⟩; obtain ⟨A0_, c0_, hv, hc1, htx⟩ := hOT.reads; rw [List.length_nil] at hv; subst hv; have BX := Aside0.mk hb; clear hOT hb htx hc1) | ((with_reducible refine gate_dst (N := 4) rfl ?_); refine box_event ?hg (N := 4) ?hd (cs := #[.slice none 0 0]) (t := 45) ?hr ?_; (case hd => rfl); (case hg => rfl); (case hr => first | (go_simp; done) | (go_simp; rfl)); intro g4 hg_ w3 hbox hb; have G4 := Aside0.mk hg_; have E40 := Aside0.mk hbox; have BG4 := Aside0.mk hb; have c40 := (blk_cell hbox 0).trans rfl; have f40 := blk_frozen hbox 0; clear hbox hb hg_; ) | ((with_reducible refine gate_store (t := 45) (p := 4) rfl ?_); refine ev_store (w1 := w3.setCell ⟨g4, 0, none⟩ (.slice A0_ 0 c0_)) ?hg ?hn ?hr ?_; (case hg => rfl); (case hn => rfl); (case hr => first | (go_simp; done) | (go_simp; rfl)); intro w4 hW_; have HW4 := Aside0.mk hW_; clear hW_; clear c40 f40; have E4 := Aside0.mk (show w4.heap[g4]? = some (.cells #[.slice A0_ 0 c0_] 45 (0, 0)) from by rw [HW4.out]; exact blk_put E40.out 0 _ rfl); have N24 := Aside0.mk (show g2 ≠ g4 from by have := Eg2.out.lt; have := BX.out.size; have := G4.out; omega); have E2 := Aside0.mk (show EB w4 g2 ⟨0, 0, ⟨#[]⟩, 0, 0, ⟨#[]⟩, 0, 0, none, 0, 0⟩ from by rw [HW4.out]; exact ((Eg2.out.below BX.out).below BG4.out).other N24.out _); have HG2 := Aside0.mk (show w.heap.size ≤ g2 from Nat.le_of_eq Gg2.out.symm); have HG4 := Aside0.mk (show w.heap.size ≤ g4 from by have := Bg2.out.size; have := BX.out.size; have := G4.out; omega); have B4 := Aside0.mk (show Below w.heap.size w w4 from by rw [HW4.out]; exact ev_below_set (below_all_ (below_all_ Bg2.out BX.out) BG4.out) HG4.out); have c4 : w4.cell? ⟨g4, 0, none⟩ = some (.slice A0_ 0 c0_) := (blk_cell E4.out 0).trans rfl; clear HW4 E40 BG4; obtain ⟨p0, p1, p2, p3, p4, p5, p6, p7, p8⟩ := E2.out.cells; dsimp only at p0 p1 p2 p3 p4 p5 p6 p7 p8; obtain ⟨r0, r1, r2, r3, r4, r5, r6, r7, r8⟩ := E2.out.free) | ((with_reducible refine gate_store (t := 26) (p := 2) rfl ?_); refine ev_store (w1 := (((((((((w4.setCell ⟨g2, 0, none⟩ (.int .i64 0)).setCell ⟨g2, 1, none⟩ (.int .i64 0)).setCell ⟨g2, 2, none⟩ (.string (⟨#[]⟩ : ByteArray))).setCell ⟨g2, 3, none⟩ (.int .i64 0)).setCell ⟨g2, 4, none⟩ (.int .i64 0)).setCell ⟨g2, 5, none⟩ (.string (⟨#[]⟩ : ByteArray))).setCell ⟨g2, 6, none⟩ (.int .i64 0)).setCell ⟨g2, 7, none⟩ (.int .i64 0)).setCell ⟨g2, 8, none⟩ (.slice none 0 0))) ?hg ?hn ?hr ?_; (case hg => rfl); (case hn => rfl); (case hr => first | (go_simp; done) | (go_simp; rfl)); intro wz hW_; have HWZ := Aside0.mk hW_; clear hW_; clear p0 p1 p2 p3 p4 p5 p6 p7 p8 r0 r1 r2 r3 r4 r5 r6 r7 r8))
  have EZ := Aside0.mk (show EB wz g2 Ec.z from by rw [HWZ.out]; exact EB.put E2.out Ec.z)
  have hB_ : Below w.heap.size w wz := by rw [HWZ.out]; exact w9_below B4.out HG2.out Ec.z
  refine bodyPost_ret (results_ct rfl _ _ g2 26 #[.int .i64 0, .int .i64 0, .string (⟨#[]⟩ : ByteArray), .int .i64 0, .int .i64 0, .string (⟨#[]⟩ : ByteArray), .int .i64 0, .int .i64 0, .slice none 0 0] (0, 0) _ rfl EZ.out Try.underlying26 rfl (by kernel_rfl)) rfl ?_
  have hR_ : R = (z26, 16) := by exact HR.out
  rw [hR_]
  exact ⟨none, 0, rfl, Nat.le_refl _, c43_nil _, hB_⟩
set_option maxHeartbeats 4000000 in
set_option maxRecDepth 100000 in
theorem take_empty (s : ByteArray) (hs : s.size ≤ 1000000000) (hsp : splitB s = some []) (R : S26 × Int) (hR : R = (z26, 5)) (w : World) : Calls Try.prog 12 #[.string s] w fun e w' => ∃ A c, e = .returned (.tuple #[.agg (ecL (ecOf R.1 A c)), .int .i64 R.2]) ∧ R.1.f6.length ≤ c ∧ Kd.C k43 w' A R.1.f6.length R.1.f6 ∧ Below w.heap.size w w' := by
  have hu := Try.underlying26
  obtain ⟨r1, r2, hr, hcon, -⟩ := split_c s hs
  rw [hsp] at hr
  injection hr with hr1 hr2
  obtain rfl : r1 = [] := hr1
  obtain rfl : r2 = true := hr2
  try clear hr1
  try clear hr2
  have HCON := Aside0.mk hcon
  have HR := Aside0.mk hR
  clear hcon hR hsp
  go_enter Try.func12, Try.ntmps12
  go_wp2_with (first | ((with_reducible refine gate_dst (N := 2) rfl ?_); refine box_event ?hg (N := 2) ?hd (cs := #[.int .i64 0, .int .i64 0, .string (⟨#[]⟩ : ByteArray), .int .i64 0, .int .i64 0, .string (⟨#[]⟩ : ByteArray), .int .i64 0, .int .i64 0, .slice none 0 0]) (t := 26) ?hr ?_; (case hd => rfl); (case hg => rfl); (case hr => first | (go_simp; done) | (go_simp; rfl)); intro g2 hg_ w1 hbox hb; have Gg2 := Aside0.mk hg_; have Eg2 := Aside0.mk (show EB w1 g2 Ec.z from hbox); have Bg2 := Aside0.mk hb; clear hbox hb hg_; ) | (go_at_call 24; (with_reducible refine Calls.mono (HCON.out _) ?_); rintro _ wx ⟨v0_, rfl, hOT, hb⟩; obtain ⟨A0_, c0_, hv, hc1, htx⟩ := hOT.reads; rw [List.length_nil] at hv; subst hv; have BX := Aside0.mk hb; clear hOT hb htx hc1) | ((with_reducible refine gate_dst (N := 4) rfl ?_); refine box_event ?hg (N := 4) ?hd (cs := #[.slice none 0 0]) (t := 45) ?hr ?_; (case hd => rfl); (case hg => rfl); (case hr => first | (go_simp; done) | (go_simp; rfl)); intro g4 hg_ w3 hbox hb; have G4 := Aside0.mk hg_; have E40 := Aside0.mk hbox; have BG4 := Aside0.mk hb; have c40 := (blk_cell hbox 0).trans rfl; have f40 := blk_frozen hbox 0; clear hbox hb hg_; ) | ((with_reducible refine gate_store (t := 45) (p := 4) rfl ?_); refine ev_store (w1 := w3.setCell ⟨g4, 0, none⟩ (.slice A0_ 0 c0_)) ?hg ?hn ?hr ?_; (case hg => rfl); (case hn => rfl); (case hr => first | (go_simp; done) | (go_simp; rfl)); intro w4 hW_; have HW4 := Aside0.mk hW_; clear hW_; clear c40 f40; have E4 := Aside0.mk (show w4.heap[g4]? = some (.cells #[.slice A0_ 0 c0_] 45 (0, 0)) from by rw [HW4.out]; exact blk_put E40.out 0 _ rfl); have N24 := Aside0.mk (show g2 ≠ g4 from by have := Eg2.out.lt; have := BX.out.size; have := G4.out; omega); have E2 := Aside0.mk (show EB w4 g2 ⟨0, 0, ⟨#[]⟩, 0, 0, ⟨#[]⟩, 0, 0, none, 0, 0⟩ from by rw [HW4.out]; exact ((Eg2.out.below BX.out).below BG4.out).other N24.out _); have HG2 := Aside0.mk (show w.heap.size ≤ g2 from Nat.le_of_eq Gg2.out.symm); have HG4 := Aside0.mk (show w.heap.size ≤ g4 from by have := Bg2.out.size; have := BX.out.size; have := G4.out; omega); have B4 := Aside0.mk (show Below w.heap.size w w4 from by rw [HW4.out]; exact ev_below_set (below_all_ (below_all_ Bg2.out BX.out) BG4.out) HG4.out); have c4 : w4.cell? ⟨g4, 0, none⟩ = some (.slice A0_ 0 c0_) := (blk_cell E4.out 0).trans rfl; clear HW4 E40 BG4; obtain ⟨p0, p1, p2, p3, p4, p5, p6, p7, p8⟩ := E2.out.cells; dsimp only at p0 p1 p2 p3 p4 p5 p6 p7 p8; obtain ⟨r0, r1, r2, r3, r4, r5, r6, r7, r8⟩ := E2.out.free) | ((with_reducible refine gate_store (t := 26) (p := 2) rfl ?_); refine ev_store (w1 := (((((((((w4.setCell ⟨g2, 0, none⟩ (.int .i64 0)).setCell ⟨g2, 1, none⟩ (.int .i64 0)).setCell ⟨g2, 2, none⟩ (.string (⟨#[]⟩ : ByteArray))).setCell ⟨g2, 3, none⟩ (.int .i64 0)).setCell ⟨g2, 4, none⟩ (.int .i64 0)).setCell ⟨g2, 5, none⟩ (.string (⟨#[]⟩ : ByteArray))).setCell ⟨g2, 6, none⟩ (.int .i64 0)).setCell ⟨g2, 7, none⟩ (.int .i64 0)).setCell ⟨g2, 8, none⟩ (.slice none 0 0))) ?hg ?hn ?hr ?_; (case hg => rfl); (case hn => rfl); (case hr => first | (go_simp; done) | (go_simp; rfl)); intro wz hW_; have HWZ := Aside0.mk hW_; clear hW_; clear p0 p1 p2 p3 p4 p5 p6 p7 p8 r0 r1 r2 r3 r4 r5 r6 r7 r8))
  have EZ := Aside0.mk (show EB wz g2 Ec.z from by rw [HWZ.out]; exact EB.put E2.out Ec.z)
  have hB_ : Below w.heap.size w wz := by rw [HWZ.out]; exact w9_below B4.out HG2.out Ec.z
  refine bodyPost_ret (results_ct rfl _ _ g2 26 #[.int .i64 0, .int .i64 0, .string (⟨#[]⟩ : ByteArray), .int .i64 0, .int .i64 0, .string (⟨#[]⟩ : ByteArray), .int .i64 0, .int .i64 0, .slice none 0 0] (0, 0) _ rfl EZ.out Try.underlying26 rfl (by kernel_rfl)) rfl ?_
  have hR_ : R = (z26, 5) := by exact HR.out
  rw [hR_]
  exact ⟨none, 0, rfl, Nat.le_refl _, c43_nil _, hB_⟩
theorem take_calls (s : ByteArray) (hs : s.size ≤ 1000000) (w : World) : Calls Try.prog 12 #[.string s] w fun e w' => ∃ A c, e = .returned (.tuple #[.agg (ecL (ecOf (takeP s).1 A c)), .int .i64 (takeP s).2]) ∧ (takeP s).1.f6.length ≤ c ∧ Kd.C k43 w' A (takeP s).1.f6.length (takeP s).1.f6 ∧ Below w.heap.size w w' := by
  cases hsp : splitB s with
  | none => exact take_none s (by omega) hsp _ (by unfold takeP; rw [hsp]; rfl) w
  | some l =>
    cases l with
    | nil => exact take_empty s (by omega) hsp _ (by unfold takeP; rw [hsp]; rfl) w
    | cons wd a =>
      obtain ⟨h1, h2⟩ := split_bounds s _ hsp
      exact take_words s wd a a.length rfl (by rw [List.length_cons] at h1; omega) (by omega) (by have := h2 wd (List.mem_cons_self ..); omega) hsp _ (by unfold takeP; rw [hsp]; rfl) w
end Go.Proofs.Ytehnogggokfcaaa.Ev
