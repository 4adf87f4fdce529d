/- The contract of the statement MultiWatch, walked by hand. -/
import Derived.Test.YtkamejnccmapkaaLaw37a
import Derived.LoopTactic
namespace Go.Proofs.Ytkamejnccmapkaa.X
open Go.Proofs.Ytkamejnccmapkaa.Mu
open Classical in
noncomputable def mewslaw37_MultiWatch.f (_k : Nat) (l0 l1 : List ByteArray) (_a2 : Bool) : Option Bool := if BdC l0 ∧ BdC l1 then some true else none
end Go.Proofs.Ytkamejnccmapkaa.X
namespace Go.Proofs.Ytkamejnccmapkaa.Mu
open Go.RowKit Go.Proofs.Ytkamejnccmapkaa.X Go.Proofs.Ytkamejnccmapkaa.Y Go.Proofs.YtkamejnccmapkaaW.PrintWords Go.Proofs.YtkamejnccmapkaaW.PrintMore Go.Proofs.YtkamejnccmapkaaW.PrintLast
set_option linter.unusedVariables false
set_option linter.unusedSimpArgs false
attribute [local go_sem ↓] Go.wp_at_zero Go.wp_at_succ
/-- A literal row of two calls. -/
theorem far_two (A0 A1 : Option Addr) (n0 c0 n1 c1 : Nat) (l0 l1 : List ByteArray) (w : World) (h0 : Rd w (.slice A0 n0 c0) l0) (h1 : Rd w (.slice A1 n1 c1) l1) (b0 : BdC l0) (b1 : BdC l1) :
    Calls Try.prog 15 #[.slice (some ⟨w.heap.size, 0, none⟩) 2 2] (w.alloc (.cells #[.int .i64 0, .slice A0 n0 c0, .int .i64 0, .slice A1 n1 c1] 45)) fun e w' => ∃ b, e = .returned (.bool b) ∧ (b = false → l0.length ≤ 300 ∧ l1.length ≤ 300 ∧ csize l0 + csize l1 ≤ 300000) ∧ Below w.heap.size w w' := by
  obtain ⟨b, hb1, hb2⟩ := far_ev [⟨0, l0⟩, ⟨0, l1⟩] (by simp) (by
    intro o ho
    rcases List.mem_cons.1 ho with rfl | ho
    · exact b0
    · rw [List.mem_singleton.1 ho]; exact b1)
  obtain ⟨k, hk⟩ := hb1.rounds
  obtain ⟨W, hW⟩ : ∃ W, W = w.alloc (.cells #[.int .i64 0, .slice A0 n0 c0, .int .i64 0, .slice A1 n1 c1] 45) := ⟨_, rfl⟩
  have hbl : Below w.heap.size w W := by rw [hW]; exact below_lit _ _
  have hblk : W.heap[w.heap.size]? = some (.cells #[.int .i64 0, .slice A0 n0 c0, .int .i64 0, .slice A1 n1 c1] 45 (0, 0)) := by rw [hW]; exact blk_new w _
  rw [← hW]
  obtain ⟨_, _, e1, g1, r1⟩ := h0.below hbl
  obtain ⟨_, _, e2, g2, r2⟩ := h1.below hbl
  injection e1 with e11 e12 e13
  injection e2 with e21 e22 e23
  subst e11 e12 e13 e21 e22 e23
  have hC : Kd.C k45 W (some ⟨w.heap.size, 0, none⟩) 2 [⟨0, l0⟩, ⟨0, l1⟩] := by
    refine ⟨rfl, by decide, fun _ => ⟨_, rfl, fun j p hj => ?_⟩⟩
    rcases j with _ | _ | j
    · obtain rfl : (⟨0, l0⟩ : S45) = p := by simpa using hj
      refine ⟨_, rfl, k45_mk W ⟨0, l0⟩ g1 (C_of_readsOf r1), fun i u hu => ?_⟩
      rw [add_plain]
      rcases i with _ | _ | i
      · exact (blk_cell hblk 0).trans (by simpa using hu)
      · exact (blk_cell hblk 1).trans (by simpa using hu)
      · simp at hu
    · obtain rfl : (⟨0, l1⟩ : S45) = p := by simpa using hj
      refine ⟨_, rfl, k45_mk W ⟨0, l1⟩ g2 (C_of_readsOf r2), fun i u hu => ?_⟩
      rw [add_plain]
      rcases i with _ | _ | i
      · exact (blk_cell hblk 2).trans (by simpa using hu)
      · exact (blk_cell hblk 3).trans (by simpa using hu)
      · simp at hu
    · simp at hj
  refine (mewslaw37_far.calls k _ 2 _ b W hC (Nat.le_refl 2) hk).mono ?_
  rintro e w' ⟨rfl, hb⟩
  refine ⟨b, rfl, fun h => ?_, below_tr hbl hb⟩
  obtain ⟨_, h3, h4⟩ := hb2 h
  refine ⟨h4 _ (List.mem_cons_self ..), h4 ⟨0, l1⟩ (by simp), ?_⟩
  have : tot [l0, l1] ≤ 300000 := h3
  simp only [tot] at this
  omega
theorem field_dirty (c0 c1 c3 c4 c5 : Value) (z : Bool) (W : World) : (Instr.field 27 (.agg #[c0, c1, .bool z, c3, c4, c5]) 2).run Try.prog W = .ok (.bool z) W := by
  have hu := Try.underlying27
  simp [Instr.field, go_sem, run_underlying hu, asAgg]
theorem meet_any (wl ks : List ByteArray) : meetB (watchF [] wl) ks = wl.any (hasB ks) := by
  rw [Bool.eq_iff_iff]
  unfold meetB
  simp only [List.any_eq_true, hasB_watchF, hasB_iff]
  constructor
  · rintro ⟨x, hx, h⟩
    rw [show hasB [] x = false from rfl, Bool.false_or, hasB_iff] at h
    exact ⟨x, h, hx⟩
  · rintro ⟨x, hx, h⟩
    refine ⟨x, h, ?_⟩
    rw [show hasB [] x = false from rfl, Bool.false_or, hasB_iff]
    exact hx
theorem meet_nil (ks : List ByteArray) : meetB [] ks = false := by
  unfold meetB
  rw [List.any_eq_false]
  intro x _
  simp [hasB]
set_option maxHeartbeats 4000000 in
set_option maxRecDepth 100000 in
theorem mwatch_calls (kA lA : Option Addr) (kn kc ln lc : Nat) (keys chg : List ByteArray) (u : Bool) (w : World) (ha : Rd w (.slice kA kn kc) keys) (hb : Rd w (.slice lA ln lc) chg) (b0 : BdC keys) (b1 : BdC chg) :
    Calls Try.prog 4 #[.slice kA kn kc, .slice lA ln lc, .bool u] w fun e w' => e = .returned (.bool true) ∧ Below w.heap.size w w' := by
  have hu := Try.underlying27
  have hu2 := Try.underlying30
  have hfd := field_dirty
  have hf : Calls Try.prog 15 #[.slice (some ⟨w.heap.size, 0, none⟩) 2 2] (w.alloc (.cells #[.int .i64 0, .slice kA kn kc, .int .i64 0, .slice lA ln lc] 45)) _ := far_two kA lA kn kc ln lc keys chg w ha hb b0 b1
  have HF := Aside0.mk hf
  have HA := Aside0.mk ha
  have HB := Aside0.mk hb
  obtain ⟨_, _, q1, _, har⟩ := ha
  injection q1 with q11 q12 q13
  subst q11 q12 q13
  obtain ⟨_, _, q2, _, hbr⟩ := hb
  injection q2 with q21 q22 q23
  subst q21 q22 q23
  obtain ⟨kn, hkn⟩ : ∃ kn, kn = keys.length := ⟨_, rfl⟩
  obtain ⟨ln, hln⟩ : ∃ ln, ln = chg.length := ⟨_, rfl⟩
  have HKN := Aside0.mk hkn
  have HLN := Aside0.mk hln
  rw [← hkn] at HF HA har ⊢
  rw [← hln] at HF HB hbr ⊢
  have HAR := Aside0.mk har
  have HBR := Aside0.mk hbr
  clear hf har hbr b0 b1 hkn hln
  go_enter Try.func4, Try.ntmps4
  go_wp2_with fail
  go_at_call 15
  with_reducible refine Calls.mono HF.out ?_
  rintro e w1 ⟨b, rfl, hfb, hb⟩
  have BB := Aside0.mk hb
  cases b with
  | true =>
    clear hfb hb
    go_wp2_with (first | (go_at_call 7; (with_reducible refine Calls.mono (alive_calls _) ?_); rintro e wx ⟨rfl, hb⟩; have T_ := Aside0.mk (below_tr BB.out hb); clear BB; have BB := T_; clear T_; clear hb))
    go_ret
    exact ⟨rfl, BB.out⟩
  | false =>
    obtain ⟨h1, h2, h3⟩ := hfb rfl
    have k1_ := HKN.out
    have k2_ := HLN.out
    have HAL := Aside0.mk (show keys.length ≤ 1000000 by omega)
    have HBL := Aside0.mk (show chg.length ≤ 1000000 by omega)
    have hk9 : (kn : Int) ≤ 1000000 := by omega
    have hl9 : (ln : Int) ≤ 1000000 := by omega
    have HZ := Aside0.mk (show (false || meetB [] chg) = false by rw [meet_nil]; rfl)
    obtain ⟨L, hL⟩ : ∃ L, watchF [] keys = L := ⟨_, rfl⟩
    obtain ⟨m, hm⟩ : ∃ m, L.length = m := ⟨_, rfl⟩
    obtain ⟨Q, hQ⟩ : ∃ Q, (false || meetB L chg) = Q := ⟨_, rfl⟩
    have hlen := watchF_len [] keys
    rw [hL] at hlen
    have HLL := Aside0.mk (show L.length ≤ 1000000000 by have := HAL.out; simp at hlen; omega)
    have HL := Aside0.mk hL
    have HM := Aside0.mk hm
    have HQ := Aside0.mk hQ
    have HQ2 := Aside0.mk (show Q = keys.any (hasB chg) by rw [← hQ, ← hL, meet_any]; rfl)
    clear hfb hb h1 h2 h3 hL hm hQ hlen k1_ k2_
    cases u with
    | true =>
      go_wp2_with fail
      go_at_call 8
      with_reducible refine Calls.mono (watch_new _ keys L m HL.out HM.out w1 (HA.out.below BB.out) HAL.out) ?_
      rintro e u1 ⟨A1, c1, rfl, hr, hbd, hb⟩
      have Rw := Aside0.mk (show Rd u1 (.slice A1 m c1) (L) from hr)
      have Lw := Aside0.mk (show ∀ k_, own1 (.slice A1 m c1) k_ → k_ < u1.heap.size from fun k_ hk_ => (hbd k_ hk_).2)
      have T_ := Aside0.mk (below_tr BB.out hb); clear BB; have BB := T_; clear T_
      clear hb hr hbd
      go_wp2_with (first | ((with_reducible refine gate_dst (N := 7) rfl ?_); refine box_event ?hg (N := 7) ?hd (cs := #[.bool false, .bool false, .bool false, .slice none 0 0, .int .i64 0, .slice none 0 0]) (t := 27) ?hr ?_; (case hd => rfl); (case hg => rfl); (case hr => first | (go_simp; done) | (go_simp; rfl)); intro g7 hg u2 hbox hb; have GE7 := Aside0.mk (show w.heap.size ≤ g7 from by rw [hg]; exact BB.out.size); have Xw_7 := Aside0.mk (show ∀ k_, own1 (.slice A1 m c1) k_ → k_ ≠ g7 from by rw [hg]; exact fun k_ hk_ => Nat.ne_of_lt (Lw.out k_ hk_)); have T_ := Aside0.mk (Rw.out.below hb); clear Rw; have Rw := T_; clear T_; have T_ := Aside0.mk ((fun k_ hk_ => Nat.lt_of_lt_of_le (Lw.out k_ hk_) hb.size : ∀ k_, own1 (.slice A1 m c1) k_ → k_ < u2.heap.size)); clear Lw; have Lw := T_; clear T_; have T_ := Aside0.mk (below_tr BB.out hb); clear BB; have BB := T_; clear T_; have BK7 := Aside0.mk (show u2.heap[g7]? = some (.cells #[.bool false, .bool false, .bool false, .slice none 0 0, .int .i64 0, .slice none 0 0] 27 (0, 0)) from hbox); clear hbox hb hg; obtain ⟨p7_0, p7_1, p7_2, p7_3, p7_4, p7_5, f7_0, f7_1, f7_2, f7_3, f7_4, f7_5⟩ := cells6 BK7.out) | ((with_reducible refine gate_dst (N := 8) rfl ?_); refine box_event ?hg (N := 8) ?hd (cs := #[.int .i64 0, .int .i64 0, .string (⟨#[]⟩ : ByteArray), .slice none 0 0]) (t := 30) ?hr ?_; (case hd => rfl); (case hg => rfl); (case hr => first | (go_simp; done) | (go_simp; rfl)); intro g8 hg u3 hbox hb; have NE7_8 := Aside0.mk (show g7 ≠ g8 from by rw [hg]; exact Nat.ne_of_lt (blk_lt BK7.out)); have GE8 := Aside0.mk (show w.heap.size ≤ g8 from by rw [hg]; exact BB.out.size); have Xw_8 := Aside0.mk (show ∀ k_, own1 (.slice A1 m c1) k_ → k_ ≠ g8 from by rw [hg]; exact fun k_ hk_ => Nat.ne_of_lt (Lw.out k_ hk_)); have T_ := Aside0.mk ((show u3.heap[g7]? = some (.cells #[.bool false, .bool false, .bool false, .slice none 0 0, .int .i64 0, .slice none 0 0] 27 (0, 0)) from old_blk BK7.out hb)); clear BK7; have BK7 := T_; clear T_; have T_ := Aside0.mk (Rw.out.below hb); clear Rw; have Rw := T_; clear T_; have T_ := Aside0.mk ((fun k_ hk_ => Nat.lt_of_lt_of_le (Lw.out k_ hk_) hb.size : ∀ k_, own1 (.slice A1 m c1) k_ → k_ < u3.heap.size)); clear Lw; have Lw := T_; clear T_; have T_ := Aside0.mk (below_tr BB.out hb); clear BB; have BB := T_; clear T_; have BK8 := Aside0.mk (show u3.heap[g8]? = some (.cells #[.int .i64 0, .int .i64 0, .string (⟨#[]⟩ : ByteArray), .slice none 0 0] 30 (0, 0)) from hbox); clear hbox hb hg; clear p7_0 p7_1 p7_2 p7_3 p7_4 p7_5 f7_0 f7_1 f7_2 f7_3 f7_4 f7_5; obtain ⟨p7_0, p7_1, p7_2, p7_3, p7_4, p7_5, f7_0, f7_1, f7_2, f7_3, f7_4, f7_5⟩ := cells6 BK7.out; obtain ⟨p8_0, p8_1, p8_2, p8_3, f8_0, f8_1, f8_2, f8_3⟩ := cells4 BK8.out) | ((with_reducible refine gate_store (t := 27) (p := 7) rfl ?_); refine store_event (t := 27) (p := 7) (v := ?vo_u4) (w1 := ((((((u3.setCell ⟨g7, 0, none⟩ (.bool false)).setCell ⟨g7, 1, none⟩ (.bool false)).setCell ⟨g7, 2, none⟩ (.bool false)).setCell ⟨g7, 3, none⟩ (.slice none 0 0)).setCell ⟨g7, 4, none⟩ (.int .i64 0)).setCell ⟨g7, 5, none⟩ (.slice A1 m c1))) ?hg ?ho ?hn ?hr ?_; (case ho => rfl); (case hg => rfl); (case hn => rfl); (case hr => first | (go_simp; done) | (go_simp; rfl)); intro u4 hW_; have hW : u4 = set6 u3 g7 (.bool false) (.bool false) (.bool false) (.slice none 0 0) (.int .i64 0) (.slice A1 m c1) := hW_; clear hW_; have T_ := Aside0.mk ((show u4.heap[g8]? = some (.cells #[.int .i64 0, .int .i64 0, .string (⟨#[]⟩ : ByteArray), .slice none 0 0] 30 (0, 0)) from by rw [hW]; exact old_blk_k BK8.out (set6_heap NE7_8.out.symm _ _ _ _ _ _))); clear BK8; have BK8 := T_; clear T_; have T_ := Aside0.mk ((show u4.heap[g7]? = some (.cells #[.bool false, .bool false, .bool false, .slice none 0 0, .int .i64 0, .slice A1 m c1] 27 (0, 0)) from by rw [hW]; exact put6g BK7.out _ _ _ _ _ _)); clear BK7; have BK7 := T_; clear T_; have T_ := Aside0.mk ((show Rd u4 (.slice A1 m c1) (L) from by rw [hW]; exact Rw.out.keep1 (fun k_ hk_ => set6_heap (Xw_7.out k_ hk_) _ _ _ _ _ _))); clear Rw; have Rw := T_; clear T_; have T_ := Aside0.mk ((show ∀ k_, own1 (.slice A1 m c1) k_ → k_ < u4.heap.size from by rw [hW, set6_size]; exact Lw.out)); clear Lw; have Lw := T_; clear T_; have T_ := Aside0.mk ((show Below w.heap.size w u4 from by rw [hW]; exact set6_below BB.out GE7.out _ _ _ _ _ _)); clear BB; have BB := T_; clear T_; clear hW; clear p7_0 p7_1 p7_2 p7_3 p7_4 p7_5 f7_0 f7_1 f7_2 f7_3 f7_4 f7_5 p8_0 p8_1 p8_2 p8_3 f8_0 f8_1 f8_2 f8_3; obtain ⟨p7_0, p7_1, p7_2, p7_3, p7_4, p7_5, f7_0, f7_1, f7_2, f7_3, f7_4, f7_5⟩ := cells6 BK7.out; obtain ⟨p8_0, p8_1, p8_2, p8_3, f8_0, f8_1, f8_2, f8_3⟩ := cells4 BK8.out) | ((with_reducible refine gate_store (t := 30) (p := 8) rfl ?_); refine store_event (t := 30) (p := 8) (v := ?vo_u5) (w1 := ((((u4.setCell ⟨g8, 0, none⟩ (.int .i64 1)).setCell ⟨g8, 1, none⟩ (.int .i64 0)).setCell ⟨g8, 2, none⟩ (.string (⟨#[79, 75]⟩ : ByteArray))).setCell ⟨g8, 3, none⟩ (.slice none 0 0))) ?hg ?ho ?hn ?hr ?_; (case ho => rfl); (case hg => rfl); (case hn => rfl); (case hr => first | (go_simp; done) | (go_simp; rfl)); intro u5 hW_; have hW : u5 = set4 u4 g8 (.int .i64 1) (.int .i64 0) (.string (⟨#[79, 75]⟩ : ByteArray)) (.slice none 0 0) := hW_; clear hW_; have T_ := Aside0.mk ((show u5.heap[g7]? = some (.cells #[.bool false, .bool false, .bool false, .slice none 0 0, .int .i64 0, .slice A1 m c1] 27 (0, 0)) from by rw [hW]; exact old_blk_k BK7.out (set4_heap NE7_8.out _ _ _ _))); clear BK7; have BK7 := T_; clear T_; have T_ := Aside0.mk ((show u5.heap[g8]? = some (.cells #[.int .i64 1, .int .i64 0, .string (⟨#[79, 75]⟩ : ByteArray), .slice none 0 0] 30 (0, 0)) from by rw [hW]; exact put4g BK8.out _ _ _ _)); clear BK8; have BK8 := T_; clear T_; have T_ := Aside0.mk ((show Rd u5 (.slice A1 m c1) (L) from by rw [hW]; exact Rw.out.keep1 (fun k_ hk_ => set4_heap (Xw_8.out k_ hk_) _ _ _ _))); clear Rw; have Rw := T_; clear T_; have T_ := Aside0.mk ((show ∀ k_, own1 (.slice A1 m c1) k_ → k_ < u5.heap.size from by rw [hW, set4_size]; exact Lw.out)); clear Lw; have Lw := T_; clear T_; have T_ := Aside0.mk ((show Below w.heap.size w u5 from by rw [hW]; exact set4_below BB.out GE8.out _ _ _ _)); clear BB; have BB := T_; clear T_; clear hW; clear p7_0 p7_1 p7_2 p7_3 p7_4 p7_5 f7_0 f7_1 f7_2 f7_3 f7_4 f7_5 p8_0 p8_1 p8_2 p8_3 f8_0 f8_1 f8_2 f8_3; obtain ⟨p7_0, p7_1, p7_2, p7_3, p7_4, p7_5, f7_0, f7_1, f7_2, f7_3, f7_4, f7_5⟩ := cells6 BK7.out; obtain ⟨p8_0, p8_1, p8_2, p8_3, f8_0, f8_1, f8_2, f8_3⟩ := cells4 BK8.out))
      go_at_call 16
      with_reducible refine Calls.mono (unwatch_calls false false false none 0 0 0 A1 m c1 u5) ?_
      rintro e u6 ⟨rfl, hb⟩
      have T_ := Aside0.mk ((show u6.heap[g7]? = some (.cells #[.bool false, .bool false, .bool false, .slice none 0 0, .int .i64 0, .slice A1 m c1] 27 (0, 0)) from old_blk BK7.out hb)); clear BK7; have BK7 := T_; clear T_
      have T_ := Aside0.mk ((show u6.heap[g8]? = some (.cells #[.int .i64 1, .int .i64 0, .string (⟨#[79, 75]⟩ : ByteArray), .slice none 0 0] 30 (0, 0)) from old_blk BK8.out hb)); clear BK8; have BK8 := T_; clear T_
      have T_ := Aside0.mk (Rw.out.below hb); clear Rw
      have Rw := T_; clear T_
      have T_ := Aside0.mk ((fun k_ hk_ => Nat.lt_of_lt_of_le (Lw.out k_ hk_) hb.size : ∀ k_, own1 (.slice A1 m c1) k_ → k_ < u6.heap.size)); clear Lw
      have Lw := T_; clear T_
      have T_ := Aside0.mk (below_tr BB.out hb); clear BB; have BB := T_; clear T_
      clear hb 
      clear p7_0 p7_1 p7_2 p7_3 p7_4 p7_5 f7_0 f7_1 f7_2 f7_3 f7_4 f7_5 p8_0 p8_1 p8_2 p8_3 f8_0 f8_1 f8_2 f8_3
      obtain ⟨p7_0, p7_1, p7_2, p7_3, p7_4, p7_5, f7_0, f7_1, f7_2, f7_3, f7_4, f7_5⟩ := cells6 BK7.out
      obtain ⟨p8_0, p8_1, p8_2, p8_3, f8_0, f8_1, f8_2, f8_3⟩ := cells4 BK8.out
      clear Rw Lw Xw_7 Xw_8
      go_wp2_with (first | ((with_reducible refine gate_store (t := 27) (p := 7) rfl ?_); refine store_event (t := 27) (p := 7) (v := ?vo_u7) (w1 := ((((((u6.setCell ⟨g7, 0, none⟩ (.bool false)).setCell ⟨g7, 1, none⟩ (.bool false)).setCell ⟨g7, 2, none⟩ (.bool false)).setCell ⟨g7, 3, none⟩ (.slice none 0 0)).setCell ⟨g7, 4, none⟩ (.int .i64 0)).setCell ⟨g7, 5, none⟩ (.slice none 0 0))) ?hg ?ho ?hn ?hr ?_; (case ho => rfl); (case hg => rfl); (case hn => rfl); (case hr => first | (go_simp; done) | (go_simp; rfl)); intro u7 hW_; have hW : u7 = set6 u6 g7 (.bool false) (.bool false) (.bool false) (.slice none 0 0) (.int .i64 0) (.slice none 0 0) := hW_; clear hW_; have T_ := Aside0.mk ((show u7.heap[g8]? = some (.cells #[.int .i64 1, .int .i64 0, .string (⟨#[79, 75]⟩ : ByteArray), .slice none 0 0] 30 (0, 0)) from by rw [hW]; exact old_blk_k BK8.out (set6_heap NE7_8.out.symm _ _ _ _ _ _))); clear BK8; have BK8 := T_; clear T_; have T_ := Aside0.mk ((show u7.heap[g7]? = some (.cells #[.bool false, .bool false, .bool false, .slice none 0 0, .int .i64 0, .slice none 0 0] 27 (0, 0)) from by rw [hW]; exact put6g BK7.out _ _ _ _ _ _)); clear BK7; have BK7 := T_; clear T_; have T_ := Aside0.mk ((show Below w.heap.size w u7 from by rw [hW]; exact set6_below BB.out GE7.out _ _ _ _ _ _)); clear BB; have BB := T_; clear T_; clear hW; clear p7_0 p7_1 p7_2 p7_3 p7_4 p7_5 f7_0 f7_1 f7_2 f7_3 f7_4 f7_5 p8_0 p8_1 p8_2 p8_3 f8_0 f8_1 f8_2 f8_3; obtain ⟨p7_0, p7_1, p7_2, p7_3, p7_4, p7_5, f7_0, f7_1, f7_2, f7_3, f7_4, f7_5⟩ := cells6 BK7.out; obtain ⟨p8_0, p8_1, p8_2, p8_3, f8_0, f8_1, f8_2, f8_3⟩ := cells4 BK8.out))
      go_at_call 12
      with_reducible refine Calls.mono (mark_at false false false false none 0 0 0 none 0 0 [] rfl _ chg HZ.out u7 (rd_nil _) (HB.out.below BB.out) (by decide) HBL.out) ?_
      rintro e u8 ⟨rfl, hb⟩
      have T_ := Aside0.mk ((show u8.heap[g7]? = some (.cells #[.bool false, .bool false, .bool false, .slice none 0 0, .int .i64 0, .slice none 0 0] 27 (0, 0)) from old_blk BK7.out hb)); clear BK7; have BK7 := T_; clear T_
      have T_ := Aside0.mk ((show u8.heap[g8]? = some (.cells #[.int .i64 1, .int .i64 0, .string (⟨#[79, 75]⟩ : ByteArray), .slice none 0 0] 30 (0, 0)) from old_blk BK8.out hb)); clear BK8; have BK8 := T_; clear T_
      have T_ := Aside0.mk (below_tr BB.out hb); clear BB; have BB := T_; clear T_
      clear hb 
      clear p7_0 p7_1 p7_2 p7_3 p7_4 p7_5 f7_0 f7_1 f7_2 f7_3 f7_4 f7_5 p8_0 p8_1 p8_2 p8_3 f8_0 f8_1 f8_2 f8_3
      obtain ⟨p7_0, p7_1, p7_2, p7_3, p7_4, p7_5, f7_0, f7_1, f7_2, f7_3, f7_4, f7_5⟩ := cells6 BK7.out
      obtain ⟨p8_0, p8_1, p8_2, p8_3, f8_0, f8_1, f8_2, f8_3⟩ := cells4 BK8.out
      go_wp2_with (first | ((with_reducible refine gate_dst (N := 9) rfl ?_); refine box_event ?hg (N := 9) ?hd (cs := #[.bool false, .bool false, .bool false, .slice none 0 0, .int .i64 0, .slice none 0 0]) (t := 27) ?hr ?_; (case hd => rfl); (case hg => rfl); (case hr => first | (go_simp; done) | (go_simp; rfl)); intro g9 hg u9 hbox hb; have NE7_9 := Aside0.mk (show g7 ≠ g9 from by rw [hg]; exact Nat.ne_of_lt (blk_lt BK7.out)); have NE8_9 := Aside0.mk (show g8 ≠ g9 from by rw [hg]; exact Nat.ne_of_lt (blk_lt BK8.out)); have GE9 := Aside0.mk (show w.heap.size ≤ g9 from by rw [hg]; exact BB.out.size); have T_ := Aside0.mk ((show u9.heap[g7]? = some (.cells #[.bool false, .bool false, .bool false, .slice none 0 0, .int .i64 0, .slice none 0 0] 27 (0, 0)) from old_blk BK7.out hb)); clear BK7; have BK7 := T_; clear T_; have T_ := Aside0.mk ((show u9.heap[g8]? = some (.cells #[.int .i64 1, .int .i64 0, .string (⟨#[79, 75]⟩ : ByteArray), .slice none 0 0] 30 (0, 0)) from old_blk BK8.out hb)); clear BK8; have BK8 := T_; clear T_; have T_ := Aside0.mk (below_tr BB.out hb); clear BB; have BB := T_; clear T_; have BK9 := Aside0.mk (show u9.heap[g9]? = some (.cells #[.bool false, .bool false, .bool false, .slice none 0 0, .int .i64 0, .slice none 0 0] 27 (0, 0)) from hbox); clear hbox hb hg; clear p7_0 p7_1 p7_2 p7_3 p7_4 p7_5 f7_0 f7_1 f7_2 f7_3 f7_4 f7_5 p8_0 p8_1 p8_2 p8_3 f8_0 f8_1 f8_2 f8_3; obtain ⟨p7_0, p7_1, p7_2, p7_3, p7_4, p7_5, f7_0, f7_1, f7_2, f7_3, f7_4, f7_5⟩ := cells6 BK7.out; obtain ⟨p8_0, p8_1, p8_2, p8_3, f8_0, f8_1, f8_2, f8_3⟩ := cells4 BK8.out; obtain ⟨p9_0, p9_1, p9_2, p9_3, p9_4, p9_5, f9_0, f9_1, f9_2, f9_3, f9_4, f9_5⟩ := cells6 BK9.out) | ((with_reducible refine gate_store (t := 27) (p := 9) rfl ?_); refine store_event (t := 27) (p := 9) (v := ?vo_u10) (w1 := ((((((u9.setCell ⟨g9, 0, none⟩ (.bool false)).setCell ⟨g9, 1, none⟩ (.bool false)).setCell ⟨g9, 2, none⟩ (.bool false)).setCell ⟨g9, 3, none⟩ (.slice none 0 0)).setCell ⟨g9, 4, none⟩ (.int .i64 0)).setCell ⟨g9, 5, none⟩ (.slice none 0 0))) ?hg ?ho ?hn ?hr ?_; (case ho => rfl); (case hg => rfl); (case hn => rfl); (case hr => first | (go_simp; done) | (go_simp; rfl)); intro u10 hW_; have hW : u10 = set6 u9 g9 (.bool false) (.bool false) (.bool false) (.slice none 0 0) (.int .i64 0) (.slice none 0 0) := hW_; clear hW_; have T_ := Aside0.mk ((show u10.heap[g7]? = some (.cells #[.bool false, .bool false, .bool false, .slice none 0 0, .int .i64 0, .slice none 0 0] 27 (0, 0)) from by rw [hW]; exact old_blk_k BK7.out (set6_heap NE7_9.out _ _ _ _ _ _))); clear BK7; have BK7 := T_; clear T_; have T_ := Aside0.mk ((show u10.heap[g8]? = some (.cells #[.int .i64 1, .int .i64 0, .string (⟨#[79, 75]⟩ : ByteArray), .slice none 0 0] 30 (0, 0)) from by rw [hW]; exact old_blk_k BK8.out (set6_heap NE8_9.out _ _ _ _ _ _))); clear BK8; have BK8 := T_; clear T_; have T_ := Aside0.mk ((show u10.heap[g9]? = some (.cells #[.bool false, .bool false, .bool false, .slice none 0 0, .int .i64 0, .slice none 0 0] 27 (0, 0)) from by rw [hW]; exact put6g BK9.out _ _ _ _ _ _)); clear BK9; have BK9 := T_; clear T_; have T_ := Aside0.mk ((show Below w.heap.size w u10 from by rw [hW]; exact set6_below BB.out GE9.out _ _ _ _ _ _)); clear BB; have BB := T_; clear T_; clear hW; clear p7_0 p7_1 p7_2 p7_3 p7_4 p7_5 f7_0 f7_1 f7_2 f7_3 f7_4 f7_5 p8_0 p8_1 p8_2 p8_3 f8_0 f8_1 f8_2 f8_3 p9_0 p9_1 p9_2 p9_3 p9_4 p9_5 f9_0 f9_1 f9_2 f9_3 f9_4 f9_5; obtain ⟨p7_0, p7_1, p7_2, p7_3, p7_4, p7_5, f7_0, f7_1, f7_2, f7_3, f7_4, f7_5⟩ := cells6 BK7.out; obtain ⟨p8_0, p8_1, p8_2, p8_3, f8_0, f8_1, f8_2, f8_3⟩ := cells4 BK8.out; obtain ⟨p9_0, p9_1, p9_2, p9_3, p9_4, p9_5, f9_0, f9_1, f9_2, f9_3, f9_4, f9_5⟩ := cells6 BK9.out))
      have BK9 := BK9
      clear p7_0 p7_1 p7_2 p7_3 p7_4 p7_5 f7_0 f7_1 f7_2 f7_3 f7_4 f7_5 p8_0 p8_1 p8_2 p8_3 f8_0 f8_1 f8_2 f8_3 p9_0 p9_1 p9_2 p9_3 p9_4 p9_5 f9_0 f9_1 f9_2 f9_3 f9_4 f9_5
      go_loopw [10, 36] (fun v10 v36 wr => ∃ i : Nat, i ≤ kn ∧ v36 = .int .i64 i ∧ v10 = .bool ((keys.take i).any (hasB chg)) ∧ u10 = wr) (fun _ v36 _ => kn - (intOf v36).toNat)
      case atStart => exact ⟨0, Nat.zero_le _, rfl, rfl, rfl⟩
      case round =>
        obtain ⟨i, hik, rfl, rfl, rfl⟩ := hrel
        by_cases hlt : i < kn
        · have e1 : decide ((i : Int) < (kn : Int)) = true := decide_eq_true (by omega)
          have e2 : decide (i < kn) = true := decide_eq_true hlt
          have hkl : i < keys.length := by rw [← HKN.out]; exact hlt
          have hkr := HAR.out.below BB.out
          obtain ⟨adl, rfl, hcl2⟩ := hkr.2.2 (by omega)
          have xl := hcl2 i hlt
          obtain ⟨x, hx⟩ : ∃ x, x = keys.getD i ByteArray.empty := ⟨_, rfl⟩
          rw [← hx] at xl
          have htk : keys.take (i + 1) = keys.take i ++ [x] := by
            rw [List.take_add_one, List.getElem?_eq_getElem hkl]
            rw [hx, List.getD_eq_getElem?_getD, List.getElem?_eq_getElem hkl]
            rfl
          obtain ⟨q, hq⟩ : ∃ q, q = (keys.take i).any (hasB chg) := ⟨_, rfl⟩
          have HNX := Aside0.mk (show (keys.take (i + 1)).any (hasB chg) = (q || hasB chg x) by rw [htk, List.any_append, ← hq]; simp)
          rw [← hq]
          have i0 : (0 : Int) ≤ (i : Int) := Int.natCast_nonneg _
          have i1 : (i : Int) < (kn : Int) := by omega
          have i2 := eq_true i1
          have hk8 : (i : Int) ≤ 1000000 := by omega
          have Hlt := Aside0.mk hlt
          clear hlt hkr hcl2 htk hkl hx hq hik
          go_wp2
          go_loopw [10, 42] (fun v10 v42 wr => ∃ j : Nat, j ≤ ln ∧ v42 = .int .i64 j ∧ v10 = .bool (q || hasB (chg.take j) x) ∧ u10 = wr) (fun _ v42 _ => ln - (intOf v42).toNat)
          case atStart => exact ⟨0, Nat.zero_le _, rfl, by rw [show hasB (chg.take 0) x = false from rfl, Bool.or_false], rfl⟩
          case round =>
            obtain ⟨j, hjk, rfl, rfl, rfl⟩ := hrel
            by_cases hltj : j < ln
            · have d1 : decide ((j : Int) < (ln : Int)) = true := decide_eq_true (by omega)
              have d2 : decide (j < ln) = true := decide_eq_true hltj
              have hkl : j < chg.length := by rw [← HLN.out]; exact hltj
              have hkr := HBR.out.below BB.out
              obtain ⟨adm, rfl, hcl2⟩ := hkr.2.2 (by omega)
              have yl := hcl2 j hltj
              obtain ⟨y, hy⟩ : ∃ y, y = chg.getD j ByteArray.empty := ⟨_, rfl⟩
              rw [← hy] at yl
              have htk : chg.take (j + 1) = chg.take j ++ [y] := by
                rw [List.take_add_one, List.getElem?_eq_getElem hkl]
                rw [hy, List.getD_eq_getElem?_getD, List.getElem?_eq_getElem hkl]
                rfl
              obtain ⟨p, hp⟩ : ∃ p, p = (q || hasB (chg.take j) x) := ⟨_, rfl⟩
              have HNY := Aside0.mk (show (q || hasB (chg.take (j + 1)) x) = (p || hasB [y] x) by rw [htk, hasB_append, ← Bool.or_assoc, ← hp])
              rw [← hp]
              have j0 : (0 : Int) ≤ (j : Int) := Int.natCast_nonneg _
              have j1 : (j : Int) < (ln : Int) := by omega
              have j2 := eq_true j1
              have hj8 : (j : Int) ≤ 1000000 := by omega
              have Hltj := Aside0.mk hltj
              clear hltj hkr hcl2 htk hkl hy hp hjk
              by_cases hxy : y = x
              · have g1 : (x.toList == y.toList) = true := by rw [hxy]; exact beq_self_eq_true _
                have g2 : decide (x.toList = y.toList) = true := decide_eq_true (by rw [hxy])
                have HE := Aside0.mk (show hasB [y] x = true from hasB_hit [] hxy)
                clear hxy
                cases p with
                | true =>
                  go_wp2
                  go_roundw
                  case rel => exact ⟨j + 1, by have := Hltj.out; omega, by simp, by rw [HNY.out]; rfl, by first | rfl | trivial⟩
                  case measure => have := Hltj.out; simp [intOf]; omega
                | false =>
                  go_wp2
                  go_roundw
                  case rel => exact ⟨j + 1, by have := Hltj.out; omega, by simp, by rw [HNY.out, HE.out]; first | rfl | (simp; done) | (simp [g1, g2]; done), by first | rfl | trivial⟩
                  case measure => have := Hltj.out; simp [intOf]; omega
              · have g1 : (x.toList == y.toList) = false := beq_eq_false_iff_ne.mpr (fun h => hxy (ba_eq h).symm)
                have g2 : decide (x.toList = y.toList) = false := decide_eq_false (fun h => hxy (ba_eq h).symm)
                have HE := Aside0.mk (show hasB [y] x = false from hasB_miss [] hxy)
                clear hxy
                cases p with
                | true =>
                  go_wp2
                  go_roundw
                  case rel => exact ⟨j + 1, by have := Hltj.out; omega, by simp, by rw [HNY.out]; rfl, by first | rfl | trivial⟩
                  case measure => have := Hltj.out; simp [intOf]; omega
                | false =>
                  go_wp2
                  go_roundw
                  case rel => exact ⟨j + 1, by have := Hltj.out; omega, by simp, by rw [HNY.out, HE.out]; first | rfl | (simp; done) | (simp [g1, g2]; done), by first | rfl | trivial⟩
                  case measure => have := Hltj.out; simp [intOf]; omega
            · have d1 : decide ((j : Int) < (ln : Int)) = false := decide_eq_false (by omega)
              have d2 : decide (j < ln) = false := decide_eq_false hltj
              have HJ := Aside0.mk (show chg.take j = chg from List.take_of_length_le (by have := HLN.out; omega))
              clear hltj hjk
              go_wp2
              go_roundw
              case rel => exact ⟨i + 1, by have := Hlt.out; omega, by simp, by rw [HNX.out, HJ.out], by first | rfl | trivial⟩
              case measure => have := Hlt.out; simp [intOf]; omega
        · have e1 : decide ((i : Int) < (kn : Int)) = false := decide_eq_false (by omega)
          have e2 : decide (i < kn) = false := decide_eq_false hlt
          have HI := Aside0.mk (show keys.take i = keys from List.take_of_length_le (by have := HKN.out; omega))
          clear hlt hik
          rw [HI.out]
          generalize keys.any (hasB chg) = z
          obtain ⟨p7_0, p7_1, p7_2, p7_3, p7_4, p7_5, f7_0, f7_1, f7_2, f7_3, f7_4, f7_5⟩ := cells6 BK7.out; obtain ⟨p8_0, p8_1, p8_2, p8_3, f8_0, f8_1, f8_2, f8_3⟩ := cells4 BK8.out; obtain ⟨p9_0, p9_1, p9_2, p9_3, p9_4, p9_5, f9_0, f9_1, f9_2, f9_3, f9_4, f9_5⟩ := cells6 BK9.out
          cases z
          all_goals
            go_wp2_with (first | (go_at_call 16; (with_reducible refine Calls.mono (unwatch_calls false false false none 0 0 0 none 0 0 _) ?_); rintro e wx ⟨rfl, hb⟩; have T_ := Aside0.mk (below_tr BB.out hb); clear BB; have BB := T_; clear T_; clear hb) | (go_at_call 7; (with_reducible refine Calls.mono (alive_calls _) ?_); rintro e wx ⟨rfl, hb⟩; have T_ := Aside0.mk (below_tr BB.out hb); clear BB; have BB := T_; clear T_; clear hb))
            go_ret
            exact ⟨by first | rfl | (simp; done), BB.out⟩
    | false =>
      go_wp2_with fail
      go_at_call 8
      with_reducible refine Calls.mono (watch_new _ keys L m HL.out HM.out w1 (HA.out.below BB.out) HAL.out) ?_
      rintro e u1 ⟨A1, c1, rfl, hr, hbd, hb⟩
      have Rw := Aside0.mk (show Rd u1 (.slice A1 m c1) (L) from hr)
      have Lw := Aside0.mk (show ∀ k_, own1 (.slice A1 m c1) k_ → k_ < u1.heap.size from fun k_ hk_ => (hbd k_ hk_).2)
      have T_ := Aside0.mk (below_tr BB.out hb); clear BB; have BB := T_; clear T_
      clear hb hr hbd
      go_wp2_with (first | ((with_reducible refine gate_dst (N := 7) rfl ?_); refine box_event ?hg (N := 7) ?hd (cs := #[.bool false, .bool false, .bool false, .slice none 0 0, .int .i64 0, .slice none 0 0]) (t := 27) ?hr ?_; (case hd => rfl); (case hg => rfl); (case hr => first | (go_simp; done) | (go_simp; rfl)); intro g7 hg u2 hbox hb; have GE7 := Aside0.mk (show w.heap.size ≤ g7 from by rw [hg]; exact BB.out.size); have Xw_7 := Aside0.mk (show ∀ k_, own1 (.slice A1 m c1) k_ → k_ ≠ g7 from by rw [hg]; exact fun k_ hk_ => Nat.ne_of_lt (Lw.out k_ hk_)); have T_ := Aside0.mk (Rw.out.below hb); clear Rw; have Rw := T_; clear T_; have T_ := Aside0.mk ((fun k_ hk_ => Nat.lt_of_lt_of_le (Lw.out k_ hk_) hb.size : ∀ k_, own1 (.slice A1 m c1) k_ → k_ < u2.heap.size)); clear Lw; have Lw := T_; clear T_; have T_ := Aside0.mk (below_tr BB.out hb); clear BB; have BB := T_; clear T_; have BK7 := Aside0.mk (show u2.heap[g7]? = some (.cells #[.bool false, .bool false, .bool false, .slice none 0 0, .int .i64 0, .slice none 0 0] 27 (0, 0)) from hbox); clear hbox hb hg; obtain ⟨p7_0, p7_1, p7_2, p7_3, p7_4, p7_5, f7_0, f7_1, f7_2, f7_3, f7_4, f7_5⟩ := cells6 BK7.out) | ((with_reducible refine gate_dst (N := 8) rfl ?_); refine box_event ?hg (N := 8) ?hd (cs := #[.int .i64 0, .int .i64 0, .string (⟨#[]⟩ : ByteArray), .slice none 0 0]) (t := 30) ?hr ?_; (case hd => rfl); (case hg => rfl); (case hr => first | (go_simp; done) | (go_simp; rfl)); intro g8 hg u3 hbox hb; have NE7_8 := Aside0.mk (show g7 ≠ g8 from by rw [hg]; exact Nat.ne_of_lt (blk_lt BK7.out)); have GE8 := Aside0.mk (show w.heap.size ≤ g8 from by rw [hg]; exact BB.out.size); have Xw_8 := Aside0.mk (show ∀ k_, own1 (.slice A1 m c1) k_ → k_ ≠ g8 from by rw [hg]; exact fun k_ hk_ => Nat.ne_of_lt (Lw.out k_ hk_)); have T_ := Aside0.mk ((show u3.heap[g7]? = some (.cells #[.bool false, .bool false, .bool false, .slice none 0 0, .int .i64 0, .slice none 0 0] 27 (0, 0)) from old_blk BK7.out hb)); clear BK7; have BK7 := T_; clear T_; have T_ := Aside0.mk (Rw.out.below hb); clear Rw; have Rw := T_; clear T_; have T_ := Aside0.mk ((fun k_ hk_ => Nat.lt_of_lt_of_le (Lw.out k_ hk_) hb.size : ∀ k_, own1 (.slice A1 m c1) k_ → k_ < u3.heap.size)); clear Lw; have Lw := T_; clear T_; have T_ := Aside0.mk (below_tr BB.out hb); clear BB; have BB := T_; clear T_; have BK8 := Aside0.mk (show u3.heap[g8]? = some (.cells #[.int .i64 0, .int .i64 0, .string (⟨#[]⟩ : ByteArray), .slice none 0 0] 30 (0, 0)) from hbox); clear hbox hb hg; clear p7_0 p7_1 p7_2 p7_3 p7_4 p7_5 f7_0 f7_1 f7_2 f7_3 f7_4 f7_5; obtain ⟨p7_0, p7_1, p7_2, p7_3, p7_4, p7_5, f7_0, f7_1, f7_2, f7_3, f7_4, f7_5⟩ := cells6 BK7.out; obtain ⟨p8_0, p8_1, p8_2, p8_3, f8_0, f8_1, f8_2, f8_3⟩ := cells4 BK8.out) | ((with_reducible refine gate_store (t := 27) (p := 7) rfl ?_); refine store_event (t := 27) (p := 7) (v := ?vo_u4) (w1 := ((((((u3.setCell ⟨g7, 0, none⟩ (.bool false)).setCell ⟨g7, 1, none⟩ (.bool false)).setCell ⟨g7, 2, none⟩ (.bool false)).setCell ⟨g7, 3, none⟩ (.slice none 0 0)).setCell ⟨g7, 4, none⟩ (.int .i64 0)).setCell ⟨g7, 5, none⟩ (.slice A1 m c1))) ?hg ?ho ?hn ?hr ?_; (case ho => rfl); (case hg => rfl); (case hn => rfl); (case hr => first | (go_simp; done) | (go_simp; rfl)); intro u4 hW_; have hW : u4 = set6 u3 g7 (.bool false) (.bool false) (.bool false) (.slice none 0 0) (.int .i64 0) (.slice A1 m c1) := hW_; clear hW_; have T_ := Aside0.mk ((show u4.heap[g8]? = some (.cells #[.int .i64 0, .int .i64 0, .string (⟨#[]⟩ : ByteArray), .slice none 0 0] 30 (0, 0)) from by rw [hW]; exact old_blk_k BK8.out (set6_heap NE7_8.out.symm _ _ _ _ _ _))); clear BK8; have BK8 := T_; clear T_; have T_ := Aside0.mk ((show u4.heap[g7]? = some (.cells #[.bool false, .bool false, .bool false, .slice none 0 0, .int .i64 0, .slice A1 m c1] 27 (0, 0)) from by rw [hW]; exact put6g BK7.out _ _ _ _ _ _)); clear BK7; have BK7 := T_; clear T_; have T_ := Aside0.mk ((show Rd u4 (.slice A1 m c1) (L) from by rw [hW]; exact Rw.out.keep1 (fun k_ hk_ => set6_heap (Xw_7.out k_ hk_) _ _ _ _ _ _))); clear Rw; have Rw := T_; clear T_; have T_ := Aside0.mk ((show ∀ k_, own1 (.slice A1 m c1) k_ → k_ < u4.heap.size from by rw [hW, set6_size]; exact Lw.out)); clear Lw; have Lw := T_; clear T_; have T_ := Aside0.mk ((show Below w.heap.size w u4 from by rw [hW]; exact set6_below BB.out GE7.out _ _ _ _ _ _)); clear BB; have BB := T_; clear T_; clear hW; clear p7_0 p7_1 p7_2 p7_3 p7_4 p7_5 f7_0 f7_1 f7_2 f7_3 f7_4 f7_5 p8_0 p8_1 p8_2 p8_3 f8_0 f8_1 f8_2 f8_3; obtain ⟨p7_0, p7_1, p7_2, p7_3, p7_4, p7_5, f7_0, f7_1, f7_2, f7_3, f7_4, f7_5⟩ := cells6 BK7.out; obtain ⟨p8_0, p8_1, p8_2, p8_3, f8_0, f8_1, f8_2, f8_3⟩ := cells4 BK8.out) | ((with_reducible refine gate_store (t := 30) (p := 8) rfl ?_); refine store_event (t := 30) (p := 8) (v := ?vo_u5) (w1 := ((((u4.setCell ⟨g8, 0, none⟩ (.int .i64 1)).setCell ⟨g8, 1, none⟩ (.int .i64 0)).setCell ⟨g8, 2, none⟩ (.string (⟨#[79, 75]⟩ : ByteArray))).setCell ⟨g8, 3, none⟩ (.slice none 0 0))) ?hg ?ho ?hn ?hr ?_; (case ho => rfl); (case hg => rfl); (case hn => rfl); (case hr => first | (go_simp; done) | (go_simp; rfl)); intro u5 hW_; have hW : u5 = set4 u4 g8 (.int .i64 1) (.int .i64 0) (.string (⟨#[79, 75]⟩ : ByteArray)) (.slice none 0 0) := hW_; clear hW_; have T_ := Aside0.mk ((show u5.heap[g7]? = some (.cells #[.bool false, .bool false, .bool false, .slice none 0 0, .int .i64 0, .slice A1 m c1] 27 (0, 0)) from by rw [hW]; exact old_blk_k BK7.out (set4_heap NE7_8.out _ _ _ _))); clear BK7; have BK7 := T_; clear T_; have T_ := Aside0.mk ((show u5.heap[g8]? = some (.cells #[.int .i64 1, .int .i64 0, .string (⟨#[79, 75]⟩ : ByteArray), .slice none 0 0] 30 (0, 0)) from by rw [hW]; exact put4g BK8.out _ _ _ _)); clear BK8; have BK8 := T_; clear T_; have T_ := Aside0.mk ((show Rd u5 (.slice A1 m c1) (L) from by rw [hW]; exact Rw.out.keep1 (fun k_ hk_ => set4_heap (Xw_8.out k_ hk_) _ _ _ _))); clear Rw; have Rw := T_; clear T_; have T_ := Aside0.mk ((show ∀ k_, own1 (.slice A1 m c1) k_ → k_ < u5.heap.size from by rw [hW, set4_size]; exact Lw.out)); clear Lw; have Lw := T_; clear T_; have T_ := Aside0.mk ((show Below w.heap.size w u5 from by rw [hW]; exact set4_below BB.out GE8.out _ _ _ _)); clear BB; have BB := T_; clear T_; clear hW; clear p7_0 p7_1 p7_2 p7_3 p7_4 p7_5 f7_0 f7_1 f7_2 f7_3 f7_4 f7_5 p8_0 p8_1 p8_2 p8_3 f8_0 f8_1 f8_2 f8_3; obtain ⟨p7_0, p7_1, p7_2, p7_3, p7_4, p7_5, f7_0, f7_1, f7_2, f7_3, f7_4, f7_5⟩ := cells6 BK7.out; obtain ⟨p8_0, p8_1, p8_2, p8_3, f8_0, f8_1, f8_2, f8_3⟩ := cells4 BK8.out))
      go_at_call 12
      with_reducible refine Calls.mono (mark_at false false false Q none 0 0 0 A1 m c1 L HM.out _ chg HQ.out u5 Rw.out (HB.out.below BB.out) HLL.out HBL.out) ?_
      rintro e u6 ⟨rfl, hb⟩
      have T_ := Aside0.mk ((show u6.heap[g7]? = some (.cells #[.bool false, .bool false, .bool false, .slice none 0 0, .int .i64 0, .slice A1 m c1] 27 (0, 0)) from old_blk BK7.out hb)); clear BK7; have BK7 := T_; clear T_
      have T_ := Aside0.mk ((show u6.heap[g8]? = some (.cells #[.int .i64 1, .int .i64 0, .string (⟨#[79, 75]⟩ : ByteArray), .slice none 0 0] 30 (0, 0)) from old_blk BK8.out hb)); clear BK8; have BK8 := T_; clear T_
      have T_ := Aside0.mk (Rw.out.below hb); clear Rw
      have Rw := T_; clear T_
      have T_ := Aside0.mk ((fun k_ hk_ => Nat.lt_of_lt_of_le (Lw.out k_ hk_) hb.size : ∀ k_, own1 (.slice A1 m c1) k_ → k_ < u6.heap.size)); clear Lw
      have Lw := T_; clear T_
      have T_ := Aside0.mk (below_tr BB.out hb); clear BB; have BB := T_; clear T_
      clear hb 
      clear p7_0 p7_1 p7_2 p7_3 p7_4 p7_5 f7_0 f7_1 f7_2 f7_3 f7_4 f7_5 p8_0 p8_1 p8_2 p8_3 f8_0 f8_1 f8_2 f8_3
      obtain ⟨p7_0, p7_1, p7_2, p7_3, p7_4, p7_5, f7_0, f7_1, f7_2, f7_3, f7_4, f7_5⟩ := cells6 BK7.out
      obtain ⟨p8_0, p8_1, p8_2, p8_3, f8_0, f8_1, f8_2, f8_3⟩ := cells4 BK8.out
      clear Rw Lw Xw_7 Xw_8
      go_wp2_with (first | ((with_reducible refine gate_dst (N := 9) rfl ?_); refine box_event ?hg (N := 9) ?hd (cs := #[.bool false, .bool false, .bool false, .slice none 0 0, .int .i64 0, .slice none 0 0]) (t := 27) ?hr ?_; (case hd => rfl); (case hg => rfl); (case hr => first | (go_simp; done) | (go_simp; rfl)); intro g9 hg u7 hbox hb; have NE7_9 := Aside0.mk (show g7 ≠ g9 from by rw [hg]; exact Nat.ne_of_lt (blk_lt BK7.out)); have NE8_9 := Aside0.mk (show g8 ≠ g9 from by rw [hg]; exact Nat.ne_of_lt (blk_lt BK8.out)); have GE9 := Aside0.mk (show w.heap.size ≤ g9 from by rw [hg]; exact BB.out.size); have T_ := Aside0.mk ((show u7.heap[g7]? = some (.cells #[.bool false, .bool false, .bool false, .slice none 0 0, .int .i64 0, .slice A1 m c1] 27 (0, 0)) from old_blk BK7.out hb)); clear BK7; have BK7 := T_; clear T_; have T_ := Aside0.mk ((show u7.heap[g8]? = some (.cells #[.int .i64 1, .int .i64 0, .string (⟨#[79, 75]⟩ : ByteArray), .slice none 0 0] 30 (0, 0)) from old_blk BK8.out hb)); clear BK8; have BK8 := T_; clear T_; have T_ := Aside0.mk (below_tr BB.out hb); clear BB; have BB := T_; clear T_; have BK9 := Aside0.mk (show u7.heap[g9]? = some (.cells #[.bool false, .bool false, .bool false, .slice none 0 0, .int .i64 0, .slice none 0 0] 27 (0, 0)) from hbox); clear hbox hb hg; clear p7_0 p7_1 p7_2 p7_3 p7_4 p7_5 f7_0 f7_1 f7_2 f7_3 f7_4 f7_5 p8_0 p8_1 p8_2 p8_3 f8_0 f8_1 f8_2 f8_3; obtain ⟨p7_0, p7_1, p7_2, p7_3, p7_4, p7_5, f7_0, f7_1, f7_2, f7_3, f7_4, f7_5⟩ := cells6 BK7.out; obtain ⟨p8_0, p8_1, p8_2, p8_3, f8_0, f8_1, f8_2, f8_3⟩ := cells4 BK8.out; obtain ⟨p9_0, p9_1, p9_2, p9_3, p9_4, p9_5, f9_0, f9_1, f9_2, f9_3, f9_4, f9_5⟩ := cells6 BK9.out) | ((with_reducible refine gate_store (t := 27) (p := 9) rfl ?_); refine store_event (t := 27) (p := 9) (v := ?vo_u8) (w1 := ((((((u7.setCell ⟨g9, 0, none⟩ (.bool false)).setCell ⟨g9, 1, none⟩ (.bool false)).setCell ⟨g9, 2, none⟩ (.bool Q)).setCell ⟨g9, 3, none⟩ (.slice none 0 0)).setCell ⟨g9, 4, none⟩ (.int .i64 0)).setCell ⟨g9, 5, none⟩ (.slice A1 m c1))) ?hg ?ho ?hn ?hr ?_; (case ho => rfl); (case hg => rfl); (case hn => rfl); (case hr => first | (go_simp; done) | (go_simp; rfl)); intro u8 hW_; have hW : u8 = set6 u7 g9 (.bool false) (.bool false) (.bool Q) (.slice none 0 0) (.int .i64 0) (.slice A1 m c1) := hW_; clear hW_; have T_ := Aside0.mk ((show u8.heap[g7]? = some (.cells #[.bool false, .bool false, .bool false, .slice none 0 0, .int .i64 0, .slice A1 m c1] 27 (0, 0)) from by rw [hW]; exact old_blk_k BK7.out (set6_heap NE7_9.out _ _ _ _ _ _))); clear BK7; have BK7 := T_; clear T_; have T_ := Aside0.mk ((show u8.heap[g8]? = some (.cells #[.int .i64 1, .int .i64 0, .string (⟨#[79, 75]⟩ : ByteArray), .slice none 0 0] 30 (0, 0)) from by rw [hW]; exact old_blk_k BK8.out (set6_heap NE8_9.out _ _ _ _ _ _))); clear BK8; have BK8 := T_; clear T_; have T_ := Aside0.mk ((show u8.heap[g9]? = some (.cells #[.bool false, .bool false, .bool Q, .slice none 0 0, .int .i64 0, .slice A1 m c1] 27 (0, 0)) from by rw [hW]; exact put6g BK9.out _ _ _ _ _ _)); clear BK9; have BK9 := T_; clear T_; have T_ := Aside0.mk ((show Below w.heap.size w u8 from by rw [hW]; exact set6_below BB.out GE9.out _ _ _ _ _ _)); clear BB; have BB := T_; clear T_; clear hW; clear p7_0 p7_1 p7_2 p7_3 p7_4 p7_5 f7_0 f7_1 f7_2 f7_3 f7_4 f7_5 p8_0 p8_1 p8_2 p8_3 f8_0 f8_1 f8_2 f8_3 p9_0 p9_1 p9_2 p9_3 p9_4 p9_5 f9_0 f9_1 f9_2 f9_3 f9_4 f9_5; obtain ⟨p7_0, p7_1, p7_2, p7_3, p7_4, p7_5, f7_0, f7_1, f7_2, f7_3, f7_4, f7_5⟩ := cells6 BK7.out; obtain ⟨p8_0, p8_1, p8_2, p8_3, f8_0, f8_1, f8_2, f8_3⟩ := cells4 BK8.out; obtain ⟨p9_0, p9_1, p9_2, p9_3, p9_4, p9_5, f9_0, f9_1, f9_2, f9_3, f9_4, f9_5⟩ := cells6 BK9.out))
      have BK9 := BK9
      clear p7_0 p7_1 p7_2 p7_3 p7_4 p7_5 f7_0 f7_1 f7_2 f7_3 f7_4 f7_5 p8_0 p8_1 p8_2 p8_3 f8_0 f8_1 f8_2 f8_3 p9_0 p9_1 p9_2 p9_3 p9_4 p9_5 f9_0 f9_1 f9_2 f9_3 f9_4 f9_5
      go_loopw [10, 36] (fun v10 v36 wr => ∃ i : Nat, i ≤ kn ∧ v36 = .int .i64 i ∧ v10 = .bool ((keys.take i).any (hasB chg)) ∧ u8 = wr) (fun _ v36 _ => kn - (intOf v36).toNat)
      case atStart => exact ⟨0, Nat.zero_le _, rfl, rfl, rfl⟩
      case round =>
        obtain ⟨i, hik, rfl, rfl, rfl⟩ := hrel
        by_cases hlt : i < kn
        · have e1 : decide ((i : Int) < (kn : Int)) = true := decide_eq_true (by omega)
          have e2 : decide (i < kn) = true := decide_eq_true hlt
          have hkl : i < keys.length := by rw [← HKN.out]; exact hlt
          have hkr := HAR.out.below BB.out
          obtain ⟨adl, rfl, hcl2⟩ := hkr.2.2 (by omega)
          have xl := hcl2 i hlt
          obtain ⟨x, hx⟩ : ∃ x, x = keys.getD i ByteArray.empty := ⟨_, rfl⟩
          rw [← hx] at xl
          have htk : keys.take (i + 1) = keys.take i ++ [x] := by
            rw [List.take_add_one, List.getElem?_eq_getElem hkl]
            rw [hx, List.getD_eq_getElem?_getD, List.getElem?_eq_getElem hkl]
            rfl
          obtain ⟨q, hq⟩ : ∃ q, q = (keys.take i).any (hasB chg) := ⟨_, rfl⟩
          have HNX := Aside0.mk (show (keys.take (i + 1)).any (hasB chg) = (q || hasB chg x) by rw [htk, List.any_append, ← hq]; simp)
          rw [← hq]
          have i0 : (0 : Int) ≤ (i : Int) := Int.natCast_nonneg _
          have i1 : (i : Int) < (kn : Int) := by omega
          have i2 := eq_true i1
          have hk8 : (i : Int) ≤ 1000000 := by omega
          have Hlt := Aside0.mk hlt
          clear hlt hkr hcl2 htk hkl hx hq hik
          go_wp2
          go_loopw [10, 42] (fun v10 v42 wr => ∃ j : Nat, j ≤ ln ∧ v42 = .int .i64 j ∧ v10 = .bool (q || hasB (chg.take j) x) ∧ u8 = wr) (fun _ v42 _ => ln - (intOf v42).toNat)
          case atStart => exact ⟨0, Nat.zero_le _, rfl, by rw [show hasB (chg.take 0) x = false from rfl, Bool.or_false], rfl⟩
          case round =>
            obtain ⟨j, hjk, rfl, rfl, rfl⟩ := hrel
            by_cases hltj : j < ln
            · have d1 : decide ((j : Int) < (ln : Int)) = true := decide_eq_true (by omega)
              have d2 : decide (j < ln) = true := decide_eq_true hltj
              have hkl : j < chg.length := by rw [← HLN.out]; exact hltj
              have hkr := HBR.out.below BB.out
              obtain ⟨adm, rfl, hcl2⟩ := hkr.2.2 (by omega)
              have yl := hcl2 j hltj
              obtain ⟨y, hy⟩ : ∃ y, y = chg.getD j ByteArray.empty := ⟨_, rfl⟩
              rw [← hy] at yl
              have htk : chg.take (j + 1) = chg.take j ++ [y] := by
                rw [List.take_add_one, List.getElem?_eq_getElem hkl]
                rw [hy, List.getD_eq_getElem?_getD, List.getElem?_eq_getElem hkl]
                rfl
              obtain ⟨p, hp⟩ : ∃ p, p = (q || hasB (chg.take j) x) := ⟨_, rfl⟩
              have HNY := Aside0.mk (show (q || hasB (chg.take (j + 1)) x) = (p || hasB [y] x) by rw [htk, hasB_append, ← Bool.or_assoc, ← hp])
              rw [← hp]
              have j0 : (0 : Int) ≤ (j : Int) := Int.natCast_nonneg _
              have j1 : (j : Int) < (ln : Int) := by omega
              have j2 := eq_true j1
              have hj8 : (j : Int) ≤ 1000000 := by omega
              have Hltj := Aside0.mk hltj
              clear hltj hkr hcl2 htk hkl hy hp hjk
              by_cases hxy : y = x
              · have g1 : (x.toList == y.toList) = true := by rw [hxy]; exact beq_self_eq_true _
                have g2 : decide (x.toList = y.toList) = true := decide_eq_true (by rw [hxy])
                have HE := Aside0.mk (show hasB [y] x = true from hasB_hit [] hxy)
                clear hxy
                cases p with
                | true =>
                  go_wp2
                  go_roundw
                  case rel => exact ⟨j + 1, by have := Hltj.out; omega, by simp, by rw [HNY.out]; rfl, by first | rfl | trivial⟩
                  case measure => have := Hltj.out; simp [intOf]; omega
                | false =>
                  go_wp2
                  go_roundw
                  case rel => exact ⟨j + 1, by have := Hltj.out; omega, by simp, by rw [HNY.out, HE.out]; first | rfl | (simp; done) | (simp [g1, g2]; done), by first | rfl | trivial⟩
                  case measure => have := Hltj.out; simp [intOf]; omega
              · have g1 : (x.toList == y.toList) = false := beq_eq_false_iff_ne.mpr (fun h => hxy (ba_eq h).symm)
                have g2 : decide (x.toList = y.toList) = false := decide_eq_false (fun h => hxy (ba_eq h).symm)
                have HE := Aside0.mk (show hasB [y] x = false from hasB_miss [] hxy)
                clear hxy
                cases p with
                | true =>
                  go_wp2
                  go_roundw
                  case rel => exact ⟨j + 1, by have := Hltj.out; omega, by simp, by rw [HNY.out]; rfl, by first | rfl | trivial⟩
                  case measure => have := Hltj.out; simp [intOf]; omega
                | false =>
                  go_wp2
                  go_roundw
                  case rel => exact ⟨j + 1, by have := Hltj.out; omega, by simp, by rw [HNY.out, HE.out]; first | rfl | (simp; done) | (simp [g1, g2]; done), by first | rfl | trivial⟩
                  case measure => have := Hltj.out; simp [intOf]; omega
            · have d1 : decide ((j : Int) < (ln : Int)) = false := decide_eq_false (by omega)
              have d2 : decide (j < ln) = false := decide_eq_false hltj
              have HJ := Aside0.mk (show chg.take j = chg from List.take_of_length_le (by have := HLN.out; omega))
              clear hltj hjk
              go_wp2
              go_roundw
              case rel => exact ⟨i + 1, by have := Hlt.out; omega, by simp, by rw [HNX.out, HJ.out], by first | rfl | trivial⟩
              case measure => have := Hlt.out; simp [intOf]; omega
        · have e1 : decide ((i : Int) < (kn : Int)) = false := decide_eq_false (by omega)
          have e2 : decide (i < kn) = false := decide_eq_false hlt
          have HI := Aside0.mk (show keys.take i = keys from List.take_of_length_le (by have := HKN.out; omega))
          clear hlt hik
          rw [HI.out]
          rw [← HQ2.out]
          obtain ⟨p7_0, p7_1, p7_2, p7_3, p7_4, p7_5, f7_0, f7_1, f7_2, f7_3, f7_4, f7_5⟩ := cells6 BK7.out; obtain ⟨p8_0, p8_1, p8_2, p8_3, f8_0, f8_1, f8_2, f8_3⟩ := cells4 BK8.out; obtain ⟨p9_0, p9_1, p9_2, p9_3, p9_4, p9_5, f9_0, f9_1, f9_2, f9_3, f9_4, f9_5⟩ := cells6 BK9.out
          cases Q
          all_goals
            go_wp2_with (first | (go_at_call 16; (with_reducible refine Calls.mono (unwatch_calls false false _ none 0 0 0 A1 m c1 _) ?_); rintro e wx ⟨rfl, hb⟩; have T_ := Aside0.mk (below_tr BB.out hb); clear BB; have BB := T_; clear T_; clear hb) | (go_at_call 7; (with_reducible refine Calls.mono (alive_calls _) ?_); rintro e wx ⟨rfl, hb⟩; have T_ := Aside0.mk (below_tr BB.out hb); clear BB; have BB := T_; clear T_; clear hb))
            go_ret
            exact ⟨by first | rfl | (simp; done), BB.out⟩
end Go.Proofs.Ytkamejnccmapkaa.Mu
namespace Go.Proofs.Ytkamejnccmapkaa.X
open Go.RowKit Go.Proofs.YtkamejnccmapkaaW.PrintWords Go.Proofs.YtkamejnccmapkaaW.PrintMore Go.Proofs.YtkamejnccmapkaaW.PrintLast Go.Proofs.Ytkamejnccmapkaa.Mu
set_option linter.unusedVariables false
theorem mewslaw37_MultiWatch.calls (k : Nat) (A0 : Option Addr) (c0 : Nat) (l0 : List ByteArray) (A1 : Option Addr) (c1 : Nat) (l1 : List ByteArray) (a2 : Bool) (r : Bool) (w : World) (hr0 : Kd.C Kd.string w A0 l0.length l0) (hc0 : l0.length ≤ c0) (hr1 : Kd.C Kd.string w A1 l1.length l1) (hc1 : l1.length ≤ c1) (hr_ : Aside0 (r = true)) (h : mewslaw37_MultiWatch.f k l0 l1 a2 = some r) :
    Calls Try.prog 4 #[.slice A0 l0.length c0, .slice A1 l1.length c1, .bool a2] w fun e w' => e = .returned (.bool r) ∧ Below w.heap.size w w' := by
  have hbd : BdC l0 ∧ BdC l1 := by
    unfold mewslaw37_MultiWatch.f at h
    by_cases q : BdC l0 ∧ BdC l1
    · exact q
    · rw [if_neg q] at h; cases h
  rw [hr_.out]
  exact mwatch_calls A0 A1 _ c0 _ c1 l0 l1 a2 w ⟨A0, c0, rfl, hc0, readsOf_of_C hr0⟩ ⟨A1, c1, rfl, hc1, readsOf_of_C hr1⟩ hbd.1 hbd.2
end Go.Proofs.Ytkamejnccmapkaa.X
