/- The document's short ends; alive. -/
import Derived.Test.YtehnogggokfcaaaEvFin
namespace Go.Proofs.Ytehnogggokfcaaa.Ev
open Go.RowKit Go.Proofs.YtehnogggokfcaaaW.PrintWords Go.Proofs.YtehnogggokfcaaaW.PrintMore Go.Proofs.YtehnogggokfcaaaW.PrintLast Go.Proofs.Ytehnogggokfcaaa.Y Go.Proofs.Ytehnogggokfcaaa.X Go.Proofs.Ytehnogggokfcaaa.Pure Go.Proofs.Ytehnogggokfcaaa.LM
set_option linter.unusedVariables false
set_option linter.unusedSimpArgs false
attribute [local go_sem ↓] Go.wp_at_zero Go.wp_at_succ
noncomputable section
set_option maxHeartbeats 4000000 in
set_option maxRecDepth 100000 in
theorem rtake_none (s : ByteArray) (hs : s.size ≤ 1000000000) (hsp : splitB s = none) (R : S26 × Int) (hR : R = (z26, 16)) (w : World) : Calls Try.prog 13 #[.string s] w fun e w' => ∃ A c, e = .returned (.tuple #[.agg (ecL (ecOf R.1 A c)), .int .i64 R.2]) ∧ R.1.f6.length ≤ c ∧ Kd.C k43 w' A R.1.f6.length R.1.f6 ∧ Below w.heap.size w w' := by
  have hu := Try.underlying26
  obtain ⟨r1, r2, hr, -, hcon⟩ := split_c s hs
  rw [hsp] at hr
  injection hr with hr1 hr2
  obtain rfl : r1 = [] := hr1
  obtain rfl : r2 = false := hr2
  try clear hr1
  try clear hr2
  have HCON := Aside0.mk hcon
  have HR := Aside0.mk hR
  clear hcon hR hsp
  go_enter Try.func13, Try.ntmps13
  go_wp2_with (first | ((with_reducible refine gate_dst (N := 2) rfl ?_); refine box_event ?hg (N := 2) ?hd (cs := #[.int .i64 0, .int .i64 0, .string (⟨#[]⟩ : ByteArray), .int .i64 0, .int .i64 0, .string (⟨#[]⟩ : ByteArray), .int .i64 0, .int .i64 0, .slice none 0 0]) (t := 26) ?hr ?_; (case hd => rfl); (case hg => rfl); (case hr => first | (go_simp; done) | (go_simp; rfl)); intro g2 hg_ w1 hbox hb; have Gg2 := Aside0.mk hg_; have Eg2 := Aside0.mk (show EB w1 g2 Ec.z from hbox); have Bg2 := Aside0.mk hb; clear hbox hb hg_; ) | (go_at_call 30; (with_reducible refine Calls.mono (HCON.out _) ?_); rintro _ wx ⟨v0_, rfl, hOT, hb⟩; obtain ⟨A0_, c0_, hv, hc1, htx⟩ := hOT.reads; rw [List.length_nil] at hv; subst hv; have E2 := Aside0.mk (Eg2.out.below hb); have HG2 := Aside0.mk (show w.heap.size ≤ g2 from Nat.le_of_eq Gg2.out.symm); have B2 := Aside0.mk (below_all_ Bg2.out hb); clear hOT hb htx hc1; obtain ⟨p0, p1, p2, p3, p4, p5, p6, p7, p8⟩ := (show EB wx g2 ⟨0, 0, ⟨#[]⟩, 0, 0, ⟨#[]⟩, 0, 0, none, 0, 0⟩ from E2.out).cells; dsimp only at p0 p1 p2 p3 p4 p5 p6 p7 p8; obtain ⟨r0, r1, r2, r3, r4, r5, r6, r7, r8⟩ := E2.out.free) | ((with_reducible refine gate_store (t := 26) (p := 2) rfl ?_); refine ev_store (w1 := (((((((((wx.setCell ⟨g2, 0, none⟩ (.int .i64 0)).setCell ⟨g2, 1, none⟩ (.int .i64 0)).setCell ⟨g2, 2, none⟩ (.string (⟨#[]⟩ : ByteArray))).setCell ⟨g2, 3, none⟩ (.int .i64 0)).setCell ⟨g2, 4, none⟩ (.int .i64 0)).setCell ⟨g2, 5, none⟩ (.string (⟨#[]⟩ : ByteArray))).setCell ⟨g2, 6, none⟩ (.int .i64 0)).setCell ⟨g2, 7, none⟩ (.int .i64 0)).setCell ⟨g2, 8, none⟩ (.slice none 0 0))) ?hg ?hn ?hr ?_; (case hg => rfl); (case hn => rfl); (case hr => first | (go_simp; done) | (go_simp; rfl)); intro wz hW_; have HWZ := Aside0.mk hW_; clear hW_; clear p0 p1 p2 p3 p4 p5 p6 p7 p8 r0 r1 r2 r3 r4 r5 r6 r7 r8))
  have EZ := Aside0.mk (show EB wz g2 Ec.z from by rw [HWZ.out]; exact EB.put E2.out Ec.z)
  have hB_ : Below w.heap.size w wz := by rw [HWZ.out]; exact w9_below B2.out HG2.out Ec.z
  refine bodyPost_ret (results_ct rfl _ _ g2 26 #[.int .i64 0, .int .i64 0, .string (⟨#[]⟩ : ByteArray), .int .i64 0, .int .i64 0, .string (⟨#[]⟩ : ByteArray), .int .i64 0, .int .i64 0, .slice none 0 0] (0, 0) _ rfl EZ.out Try.underlying26 rfl (by kernel_rfl)) rfl ?_
  have hR_ : R = (z26, 16) := by exact HR.out
  rw [hR_]
  exact ⟨none, 0, rfl, Nat.le_refl _, c43_nil _, hB_⟩
set_option maxHeartbeats 4000000 in
set_option maxRecDepth 100000 in
theorem rtake_empty (s : ByteArray) (hs : s.size ≤ 1000000000) (hsp : splitB s = some []) (R : S26 × Int) (hR : R = (z26, 5)) (w : World) : Calls Try.prog 13 #[.string s] w fun e w' => ∃ A c, e = .returned (.tuple #[.agg (ecL (ecOf R.1 A c)), .int .i64 R.2]) ∧ R.1.f6.length ≤ c ∧ Kd.C k43 w' A R.1.f6.length R.1.f6 ∧ Below w.heap.size w w' := by
  have hu := Try.underlying26
  obtain ⟨r1, r2, hr, -, hcon⟩ := split_c s hs
  rw [hsp] at hr
  injection hr with hr1 hr2
  obtain rfl : r1 = [] := hr1
  obtain rfl : r2 = true := hr2
  try clear hr1
  try clear hr2
  have HCON := Aside0.mk hcon
  have HR := Aside0.mk hR
  clear hcon hR hsp
  go_enter Try.func13, Try.ntmps13
  go_wp2_with (first | ((with_reducible refine gate_dst (N := 2) rfl ?_); refine box_event ?hg (N := 2) ?hd (cs := #[.int .i64 0, .int .i64 0, .string (⟨#[]⟩ : ByteArray), .int .i64 0, .int .i64 0, .string (⟨#[]⟩ : ByteArray), .int .i64 0, .int .i64 0, .slice none 0 0]) (t := 26) ?hr ?_; (case hd => rfl); (case hg => rfl); (case hr => first | (go_simp; done) | (go_simp; rfl)); intro g2 hg_ w1 hbox hb; have Gg2 := Aside0.mk hg_; have Eg2 := Aside0.mk (show EB w1 g2 Ec.z from hbox); have Bg2 := Aside0.mk hb; clear hbox hb hg_; ) | (go_at_call 30; (with_reducible refine Calls.mono (HCON.out _) ?_); rintro _ wx ⟨v0_, rfl, hOT, hb⟩; obtain ⟨A0_, c0_, hv, hc1, htx⟩ := hOT.reads; rw [List.length_nil] at hv; subst hv; have E2 := Aside0.mk (Eg2.out.below hb); have HG2 := Aside0.mk (show w.heap.size ≤ g2 from Nat.le_of_eq Gg2.out.symm); have B2 := Aside0.mk (below_all_ Bg2.out hb); clear hOT hb htx hc1; obtain ⟨p0, p1, p2, p3, p4, p5, p6, p7, p8⟩ := (show EB wx g2 ⟨0, 0, ⟨#[]⟩, 0, 0, ⟨#[]⟩, 0, 0, none, 0, 0⟩ from E2.out).cells; dsimp only at p0 p1 p2 p3 p4 p5 p6 p7 p8; obtain ⟨r0, r1, r2, r3, r4, r5, r6, r7, r8⟩ := E2.out.free) | ((with_reducible refine gate_store (t := 26) (p := 2) rfl ?_); refine ev_store (w1 := (((((((((wx.setCell ⟨g2, 0, none⟩ (.int .i64 0)).setCell ⟨g2, 1, none⟩ (.int .i64 0)).setCell ⟨g2, 2, none⟩ (.string (⟨#[]⟩ : ByteArray))).setCell ⟨g2, 3, none⟩ (.int .i64 0)).setCell ⟨g2, 4, none⟩ (.int .i64 0)).setCell ⟨g2, 5, none⟩ (.string (⟨#[]⟩ : ByteArray))).setCell ⟨g2, 6, none⟩ (.int .i64 0)).setCell ⟨g2, 7, none⟩ (.int .i64 0)).setCell ⟨g2, 8, none⟩ (.slice none 0 0))) ?hg ?hn ?hr ?_; (case hg => rfl); (case hn => rfl); (case hr => first | (go_simp; done) | (go_simp; rfl)); intro wz hW_; have HWZ := Aside0.mk hW_; clear hW_; clear p0 p1 p2 p3 p4 p5 p6 p7 p8 r0 r1 r2 r3 r4 r5 r6 r7 r8))
  have EZ := Aside0.mk (show EB wz g2 Ec.z from by rw [HWZ.out]; exact EB.put E2.out Ec.z)
  have hB_ : Below w.heap.size w wz := by rw [HWZ.out]; exact w9_below B2.out HG2.out Ec.z
  refine bodyPost_ret (results_ct rfl _ _ g2 26 #[.int .i64 0, .int .i64 0, .string (⟨#[]⟩ : ByteArray), .int .i64 0, .int .i64 0, .string (⟨#[]⟩ : ByteArray), .int .i64 0, .int .i64 0, .slice none 0 0] (0, 0) _ rfl EZ.out Try.underlying26 rfl (by kernel_rfl)) rfl ?_
  have hR_ : R = (z26, 5) := by exact HR.out
  rw [hR_]
  exact ⟨none, 0, rfl, Nat.le_refl _, c43_nil _, hB_⟩
theorem rtake_calls (s : ByteArray) (hs : s.size ≤ 1000000) (w : World) : Calls Try.prog 13 #[.string s] w fun e w' => ∃ A c, e = .returned (.tuple #[.agg (ecL (ecOf (takeP s).1 A c)), .int .i64 (takeP s).2]) ∧ (takeP s).1.f6.length ≤ c ∧ Kd.C k43 w' A (takeP s).1.f6.length (takeP s).1.f6 ∧ Below w.heap.size w w' := by
  cases hsp : splitB s with
  | none => exact rtake_none s (by omega) hsp _ (by unfold takeP; rw [hsp]; rfl) w
  | some l =>
    cases l with
    | nil => exact rtake_empty s (by omega) hsp _ (by unfold takeP; rw [hsp]; rfl) w
    | cons wd a =>
      obtain ⟨h1, h2⟩ := split_bounds s _ hsp
      exact rtake_words s wd a a.length rfl (by rw [List.length_cons] at h1; omega) (by omega) (by have := h2 wd (List.mem_cons_self ..); omega) (fun x hx => by have := h2 x (List.mem_cons_of_mem _ hx); omega) hsp _ (by unfold takeP; rw [hsp]; rfl) w
def evA : S26 := ⟨2, 3, (⟨#[71, 69, 84, 32, 97, 10]⟩ : ByteArray), 0, 0, ⟨⟨#[]⟩, 0, 0⟩, []⟩
theorem evA_in : In evA := ⟨⟨by decide, by decide⟩, i64_0, i64_0, i64_0, i64_0, fun q h => by cases h⟩
theorem evA_sm : Sm evA := ⟨by decide, by decide, by decide, fun q h => by cases h⟩
theorem lineA_split : splitB (⟨#[98, 121, 116, 101, 115, 32, 51, 32, 34, 71, 69, 84, 32, 97, 92, 110, 34]⟩ : ByteArray) = some [⟨#[98, 121, 116, 101, 115]⟩, ⟨#[51]⟩, (⟨#[71, 69, 84, 32, 97, 10]⟩ : ByteArray)] := by decide +kernel
theorem kindA : kindOf (up ⟨#[98, 121, 116, 101, 115]⟩) = 2 := by decide +kernel
theorem pvA : pv ⟨#[51]⟩ = 3 ∧ pk ⟨#[51]⟩ = true := by decide +kernel
theorem joinA : joinB [nm 2, tx 3, (⟨#[71, 69, 84, 32, 97, 10]⟩ : ByteArray)] = (⟨#[66, 89, 84, 69, 83, 32, 51, 32, 34, 71, 69, 84, 32, 97, 92, 120, 48, 97, 34]⟩ : ByteArray) := by decide +kernel
theorem takeA (w : World) : Calls Try.prog 12 #[.string (⟨#[98, 121, 116, 101, 115, 32, 51, 32, 34, 71, 69, 84, 32, 97, 92, 110, 34]⟩ : ByteArray)] w fun e w' => ∃ A c, e = .returned (.tuple #[.agg (ecL (ecOf evA A c)), .int .i64 0]) ∧ evA.f6.length ≤ c ∧ Kd.C k43 w' A evA.f6.length evA.f6 ∧ Below w.heap.size w w' :=
  take_words (⟨#[98, 121, 116, 101, 115, 32, 51, 32, 34, 71, 69, 84, 32, 97, 92, 110, 34]⟩ : ByteArray) ⟨#[98, 121, 116, 101, 115]⟩ [⟨#[51]⟩, (⟨#[71, 69, 84, 32, 97, 10]⟩ : ByteArray)] 2 rfl (by decide) (by decide) (by decide) lineA_split (evA, 0) (by rw [kindA, kind_2, pvA.2, pvA.1]; rfl) w
theorem putA (A : Option Addr) (c : Nat) (w : World) : Calls Try.prog 8 #[.agg (ecL (ecOf evA A c))] w fun e w' => e = .returned (.tuple #[.string (⟨#[66, 89, 84, 69, 83, 32, 51, 32, 34, 71, 69, 84, 32, 97, 92, 120, 48, 97, 34]⟩ : ByteArray), .int .i64 0]) ∧ Below w.heap.size w w' := by
  have h := put_kind evA 2 rfl (by decide) (by decide) rfl evA_in evA_sm A c w (Nat.zero_le _) ⟨rfl, by decide, fun h => absurd h (by decide)⟩ ((⟨#[66, 89, 84, 69, 83, 32, 51, 32, 34, 71, 69, 84, 32, 97, 92, 120, 48, 97, 34]⟩ : ByteArray), 0) (by unfold putP; rw [if_pos ⟨⟨by decide, by decide⟩, eqP_iff.2 rfl⟩]; exact congrArg (fun z => (z, (0 : Int))) joinA.symm)
  exact h
set_option maxHeartbeats 8000000 in
set_option maxRecDepth 100000 in
theorem alive_c (w : World) : Calls Try.prog 7 #[] w fun e w' => e = .returned (.bool true) ∧ Below w.heap.size w w' := by
  have hu := Try.underlying26
  have B_0 := Aside0.mk (Below.refl w.heap.size w)
  go_enter Try.func7, Try.ntmps7
  go_wp2_with (first | (go_at_call 12; have c_ := takeA w; (with_reducible refine Calls.mono c_ ?_); clear c_; rintro e_ wv1 ⟨AT, cT, he_, hcT, hCT, hb⟩; (replace he_ : e_ = .returned (.tuple #[.agg #[.int .i64 2, .int .i64 3, .string (⟨#[71, 69, 84, 32, 97, 10]⟩ : ByteArray), .int .i64 0, .int .i64 0, .string (⟨#[]⟩ : ByteArray), .int .i64 0, .int .i64 0, .slice AT 0 cT], .int .i64 0]) := he_); subst he_; have B_1 := Aside0.mk (below_all_ B_0.out hb); clear hcT hCT hb) | ((with_reducible refine gate_dst (N := 1) rfl ?_); refine box_event ?hg (N := 1) ?hd (cs := #[.int .i64 0, .int .i64 0, .string (⟨#[]⟩ : ByteArray), .int .i64 0, .int .i64 0, .string (⟨#[]⟩ : ByteArray), .int .i64 0, .int .i64 0, .slice none 0 0]) (t := 26) ?hr ?_; (case hd => rfl); (case hg => rfl); (case hr => first | (go_simp; done) | (go_simp; rfl)); intro g1 hg_ wa1 hbox hb; have G1 := Aside0.mk hg_; have Z1 := Aside0.mk (show EB wa1 g1 ⟨0, 0, ⟨#[]⟩, 0, 0, ⟨#[]⟩, 0, 0, none, 0, 0⟩ from hbox); have BZ1 := Aside0.mk hb; clear hbox hb hg_; obtain ⟨u0, u1, u2, u3, u4, u5, u6, u7, u8⟩ := Z1.out.cells; dsimp only at u0 u1 u2 u3 u4 u5 u6 u7 u8; obtain ⟨v0, v1, v2, v3, v4, v5, v6, v7, v8⟩ := Z1.out.free) | ((with_reducible refine gate_store (t := 26) (p := 1) rfl ?_); refine ev_store (w1 := (((((((((wa1.setCell ⟨g1, 0, none⟩ (.int .i64 2)).setCell ⟨g1, 1, none⟩ (.int .i64 3)).setCell ⟨g1, 2, none⟩ (.string (⟨#[71, 69, 84, 32, 97, 10]⟩ : ByteArray))).setCell ⟨g1, 3, none⟩ (.int .i64 0)).setCell ⟨g1, 4, none⟩ (.int .i64 0)).setCell ⟨g1, 5, none⟩ (.string (⟨#[]⟩ : ByteArray))).setCell ⟨g1, 6, none⟩ (.int .i64 0)).setCell ⟨g1, 7, none⟩ (.int .i64 0)).setCell ⟨g1, 8, none⟩ (.slice AT 0 cT))) ?hg ?hn ?hr ?_; (case hg => rfl); (case hn => rfl); (case hr => first | (go_simp; done) | (go_simp; rfl)); intro wv2 hW_; have HW1 := Aside0.mk hW_; clear hW_; clear u0 u1 u2 u3 u4 u5 u6 u7 u8 v0 v1 v2 v3 v4 v5 v6 v7 v8; have BT1 := Aside0.mk (show Below wv1.heap.size wv1 wv2 from by rw [HW1.out]; exact w9_below BZ1.out (Nat.le_of_eq G1.out.symm) ⟨2, 3, (⟨#[71, 69, 84, 32, 97, 10]⟩ : ByteArray), 0, 0, ⟨#[]⟩, 0, 0, AT, 0, cT⟩); have B_2 := Aside0.mk (below_all_ B_1.out BT1.out); have Ep_2 := Aside0.mk (show EB wv2 g1 ⟨2, 3, (⟨#[71, 69, 84, 32, 97, 10]⟩ : ByteArray), 0, 0, ⟨#[]⟩, 0, 0, AT, 0, cT⟩ from by rw [HW1.out]; exact EB.put Z1.out ⟨2, 3, (⟨#[71, 69, 84, 32, 97, 10]⟩ : ByteArray), 0, 0, ⟨#[]⟩, 0, 0, AT, 0, cT⟩); clear HW1; obtain ⟨p0, p1, p2, p3, p4, p5, p6, p7, p8⟩ := Ep_2.out.cells; dsimp only at p0 p1 p2 p3 p4 p5 p6 p7 p8) | (go_at_call 8; have c_ := putA AT cT wv2; (replace c_ : Calls Try.prog 8 #[.agg #[.int .i64 2, .int .i64 3, .string (⟨#[71, 69, 84, 32, 97, 10]⟩ : ByteArray), .int .i64 0, .int .i64 0, .string (⟨#[]⟩ : ByteArray), .int .i64 0, .int .i64 0, .slice AT 0 cT]] wv2 (fun e w' => e = .returned (.tuple #[.string (⟨#[66, 89, 84, 69, 83, 32, 51, 32, 34, 71, 69, 84, 32, 97, 92, 120, 48, 97, 34]⟩ : ByteArray), .int .i64 0]) ∧ Below wv2.heap.size wv2 w') := c_); (with_reducible refine Calls.mono c_ ?_); clear c_; rintro _ wv3 ⟨rfl, hb⟩; clear p0 p1 p2 p3 p4 p5 p6 p7 p8; have Ep_3 := Aside0.mk (show EB _ g1 ⟨2, 3, (⟨#[71, 69, 84, 32, 97, 10]⟩ : ByteArray), 0, 0, ⟨#[]⟩, 0, 0, AT, 0, cT⟩ from Ep_2.out.below hb); have B_3 := Aside0.mk (below_all_ B_2.out hb); clear hb; obtain ⟨p0, p1, p2, p3, p4, p5, p6, p7, p8⟩ := Ep_3.out.cells; dsimp only at p0 p1 p2 p3 p4 p5 p6 p7 p8))
  go_ret
  exact ⟨rfl, B_3.out⟩
end
end Go.Proofs.Ytehnogggokfcaaa.Ev
