/- multi.Watch: as what it does to values, and to the rows that are read. -/
import Derived.Test.YtkamejnccmapkaaMuHas
import Derived.Test.YtkamejnccmapkaaMuKeep
namespace Go.Proofs.Ytkamejnccmapkaa.Mu
open Go.RowKit Go.Proofs.YtkamejnccmapkaaW.PrintWords Go.Proofs.YtkamejnccmapkaaW.PrintMore Go.Proofs.YtkamejnccmapkaaW.PrintLast
set_option linter.unusedVariables false
set_option linter.unusedSimpArgs false
attribute [local go_sem ↓] Go.wp_at_zero Go.wp_at_succ
def watchT : ByteArray := ⟨#[69, 82, 82, 32, 87, 65, 84, 67, 72, 32, 105, 110, 115, 105, 100, 101, 32, 77, 85, 76, 84, 73, 32, 105, 115, 32, 110, 111, 116, 32, 97, 108, 108, 111, 119, 101, 100]⟩
/-- What is watched, and another key. -/
def addK (l : List ByteArray) (x : ByteArray) : List ByteArray := if hasB l x = true then l else l ++ [x]
def watchF (l ks : List ByteArray) : List ByteArray := ks.foldl addK l
theorem watchF_snoc (l ks : List ByteArray) (x : ByteArray) : watchF l (ks ++ [x]) = addK (watchF l ks) x := by
  unfold watchF
  rw [List.foldl_append]
  rfl
theorem addK_len (l : List ByteArray) (x : ByteArray) : (addK l x).length ≤ l.length + 1 := by
  unfold addK
  split
  · omega
  · simp
theorem watchF_len (l ks : List ByteArray) : (watchF l ks).length ≤ l.length + ks.length := by
  induction ks generalizing l with
  | nil => exact Nat.le_refl _
  | cons x xs ih =>
    have h1 := ih (addK l x)
    have h2 := addK_len l x
    show (watchF (addK l x) xs).length ≤ l.length + (xs.length + 1)
    omega
theorem hasB_append (l m : List ByteArray) (s : ByteArray) : hasB (l ++ m) s = (hasB l s || hasB m s) := by
  unfold hasB
  rw [List.any_append]
theorem hasB_addK (l : List ByteArray) (x s : ByteArray) : hasB (addK l x) s = (hasB l s || hasB [x] s) := by
  unfold addK
  by_cases h : hasB l x = true
  · rw [if_pos h]
    by_cases e : x = s
    · subst e; rw [h]; rfl
    · rw [hasB_miss [] e]; simp [hasB]
  · rw [if_neg h, hasB_append]
/-- What is watched behind it all. -/
theorem hasB_watchF (l ks : List ByteArray) (s : ByteArray) : hasB (watchF l ks) s = (hasB l s || hasB ks s) := by
  induction ks generalizing l with
  | nil => show hasB l s = (hasB l s || false); rw [Bool.or_false]
  | cons x xs ih =>
    show hasB (watchF (addK l x) xs) s = _
    rw [ih, hasB_addK, Bool.or_assoc, hasB_cons x xs, hasB_cons x []]
    show (hasB l s || ((decide (x.data = s.data) || false) || hasB xs s)) = _
    rw [Bool.or_false]
set_option maxHeartbeats 1000000 in
set_option maxRecDepth 100000 in
theorem watch_shut (b d : Bool) (qA : Option Addr) (qn qc : Nat) (sz : Int) (wA : Option Addr) (wn wc : Nat) (v : Value) (w : World) :
    Calls Try.prog 8 #[.agg #[.bool true, .bool b, .bool d, .slice qA qn qc, .int .i64 sz, .slice wA wn wc], v] w fun e w' => e = .returned (.tuple #[.agg #[.bool true, .bool true, .bool d, .slice qA qn qc, .int .i64 sz, .slice wA wn wc], .agg #[.int .i64 2, .int .i64 0, .string watchT, .slice none 0 0]]) ∧ Below w.heap.size w w' := by
  have hu := Try.underlying27
  have hu2 := Try.underlying30
  have BB := Aside0.mk (Below.refl w.heap.size w)
  go_enter Try.func8, Try.ntmps8
  go_wp2_with (first | ((with_reducible refine gate_dst (N := 2) rfl ?_); refine box_event ?hg (N := 2) ?hd (cs := #[.bool true, .bool b, .bool d, .slice qA qn qc, .int .i64 sz, .slice wA wn wc]) (t := 27) ?hr ?_; (case hd => rfl); (case hg => rfl); (case hr => first | (go_simp; done) | (go_simp; rfl)); intro g1 hg w1 hbox hb; have GE1 := Aside0.mk (show w.heap.size ≤ g1 from by rw [hg]; exact BB.out.size); have T_ := Aside0.mk (BB.out.trans (hb.mono BB.out.size)); clear BB; have BB := T_; clear T_; have BK1 := Aside0.mk hbox; clear hbox hb hg) | ((with_reducible refine gate_dst (N := 4) rfl ?_); refine box_event ?hg (N := 4) ?hd (cs := #[.bool false, .bool false, .bool false, .slice none 0 0, .int .i64 0, .slice none 0 0]) (t := 27) ?hr ?_; (case hd => rfl); (case hg => rfl); (case hr => first | (go_simp; done) | (go_simp; rfl)); intro g2 hg w2 hbox hb; have NE1_2 := Aside0.mk (show g1 ≠ g2 from by rw [hg]; exact Nat.ne_of_lt (blk_lt BK1.out)); have T_ := Aside0.mk (old_blk BK1.out hb); clear BK1; have BK1 := T_; clear T_; have GE2 := Aside0.mk (show w.heap.size ≤ g2 from by rw [hg]; exact BB.out.size); have T_ := Aside0.mk (BB.out.trans (hb.mono BB.out.size)); clear BB; have BB := T_; clear T_; have BK2 := Aside0.mk hbox; clear hbox hb hg) | ((with_reducible refine gate_dst (N := 5) rfl ?_); refine box_event ?hg (N := 5) ?hd (cs := #[.int .i64 0, .int .i64 0, .string (⟨#[]⟩ : ByteArray), .slice none 0 0]) (t := 30) ?hr ?_; (case hd => rfl); (case hg => rfl); (case hr => first | (go_simp; done) | (go_simp; rfl)); intro g3 hg w3 hbox hb; have NE1_3 := Aside0.mk (show g1 ≠ g3 from by rw [hg]; exact Nat.ne_of_lt (blk_lt BK1.out)); have T_ := Aside0.mk (old_blk BK1.out hb); clear BK1; have BK1 := T_; clear T_; have NE2_3 := Aside0.mk (show g2 ≠ g3 from by rw [hg]; exact Nat.ne_of_lt (blk_lt BK2.out)); have T_ := Aside0.mk (old_blk BK2.out hb); clear BK2; have BK2 := T_; clear T_; have GE3 := Aside0.mk (show w.heap.size ≤ g3 from by rw [hg]; exact BB.out.size); have T_ := Aside0.mk (BB.out.trans (hb.mono BB.out.size)); clear BB; have BB := T_; clear T_; have BK3 := Aside0.mk hbox; clear hbox hb hg; obtain ⟨p1_0, p1_1, p1_2, p1_3, p1_4, p1_5, f1_0, f1_1, f1_2, f1_3, f1_4, f1_5⟩ := cells6 BK1.out; obtain ⟨p2_0, p2_1, p2_2, p2_3, p2_4, p2_5, f2_0, f2_1, f2_2, f2_3, f2_4, f2_5⟩ := cells6 BK2.out; obtain ⟨p3_0, p3_1, p3_2, p3_3, f3_0, f3_1, f3_2, f3_3⟩ := cells4 BK3.out; have ne1_2 := NE1_2.out; have ne2_1 := Ne.symm NE1_2.out; have ne1_3 := NE1_3.out; have ne3_1 := Ne.symm NE1_3.out; have ne2_3 := NE2_3.out; have ne3_2 := Ne.symm NE2_3.out) | (go_at_call 11; (with_reducible refine Calls.mono (spoil_calls true b d qA qn qc sz wA wn wc _) ?_); rintro e w4 ⟨rfl, hb⟩; have T_ := Aside0.mk (old_blk (BK1.out) hb); clear BK1; have BK1 := T_; clear T_; have T_ := Aside0.mk (old_blk (BK2.out) hb); clear BK2; have BK2 := T_; clear T_; have T_ := Aside0.mk (old_blk (BK3.out) hb); clear BK3; have BK3 := T_; clear T_; have T_ := Aside0.mk (BB.out.trans ((show Below _ _ _ from hb).mono BB.out.size)); clear BB; have BB := T_; clear T_; clear hb) | (go_at_call 27; (with_reducible refine Calls.mono (fail_calls _ _) ?_); rintro e w5 ⟨rfl, hb⟩; have T_ := Aside0.mk (old_blk (BK1.out) hb); clear BK1; have BK1 := T_; clear T_; have T_ := Aside0.mk (old_blk (BK2.out) hb); clear BK2; have BK2 := T_; clear T_; have T_ := Aside0.mk (old_blk (BK3.out) hb); clear BK3; have BK3 := T_; clear T_; have T_ := Aside0.mk (BB.out.trans ((show Below _ _ _ from hb).mono BB.out.size)); clear BB; have BB := T_; clear T_; clear hb; obtain ⟨p1_0, p1_1, p1_2, p1_3, p1_4, p1_5, f1_0, f1_1, f1_2, f1_3, f1_4, f1_5⟩ := cells6 BK1.out; obtain ⟨p2_0, p2_1, p2_2, p2_3, p2_4, p2_5, f2_0, f2_1, f2_2, f2_3, f2_4, f2_5⟩ := cells6 BK2.out; obtain ⟨p3_0, p3_1, p3_2, p3_3, f3_0, f3_1, f3_2, f3_3⟩ := cells4 BK3.out))
  refine bodyPost_ret (results_cc rfl _ _ g2 g3 27 30 #[.bool true, .bool true, .bool d, .slice qA qn qc, .int .i64 sz, .slice wA wn wc] #[.int .i64 2, .int .i64 0, .string watchT, .slice none 0 0] (0, 0) (0, 0) _ _ rfl (by (repeat (with_reducible refine blk_far ?_ NE2_3.out _)); refine put6 ?_ _ _ _ _ _ _; exact BK2.out) Try.underlying27 rfl (by kernel_rfl) rfl (by refine put4 ?_ _ _ _ _; (repeat (with_reducible refine blk_far ?_ NE2_3.out.symm _)); exact BK3.out) Try.underlying30 rfl (by kernel_rfl)) rfl ?_
  exact ⟨by first | rfl | (simp; done) | (simp; rfl), by repeat (with_reducible first | exact BB.out | refine below_set ?_ GE3.out | refine below_set ?_ GE2.out)⟩
def RelW (w : World) (B g1 g2 g3 : Nat) (b d : Bool) (qA : Option Addr) (qn qc : Nat) (sz : Int) (wl keys : List ByteArray) (v : Value) (wr : World) : Prop :=
  ∃ (k : Nat) (A : Option Addr) (c : Nat), k ≤ keys.length ∧ v = .int .i64 k ∧ wr.ownsRow B 9 1 (.slice A (watchF wl (keys.take k)).length c) (watchF wl (keys.take k)).length (encs Value.string (watchF wl (keys.take k))) ∧
    wr.heap[g1]? = some (.cells #[.bool false, .bool b, .bool d, .slice qA qn qc, .int .i64 sz, .slice A (watchF wl (keys.take k)).length c] 27 (0, 0)) ∧ wr.heap[g2]? = some (.cells #[.bool false, .bool false, .bool false, .slice none 0 0, .int .i64 0, .slice none 0 0] 27 (0, 0)) ∧ wr.heap[g3]? = some (.cells #[.int .i64 0, .int .i64 0, .string (⟨#[]⟩ : ByteArray), .slice none 0 0] 30 (0, 0)) ∧ Below w.heap.size w wr ∧ B ≤ wr.heap.size
set_option maxHeartbeats 2000000 in
set_option maxRecDepth 100000 in
theorem watch_good (b d : Bool) (qA : Option Addr) (qn qc : Nat) (sz : Int) (wA : Option Addr) (wc : Nat) (wl : List ByteArray) (v : Value) (keys : List ByteArray) (w : World) (hW : Rd w (.slice wA wl.length wc) wl) (hv : Rd w v keys) (hl : wl.length ≤ 1000000) (hk : keys.length ≤ 1000000) :
    Calls Try.prog 8 #[.agg #[.bool false, .bool b, .bool d, .slice qA qn qc, .int .i64 sz, .slice wA wl.length wc], v] w fun e w' => ∃ A' c', e = .returned (.tuple #[.agg #[.bool false, .bool b, .bool d, .slice qA qn qc, .int .i64 sz, .slice A' (watchF wl keys).length c'], .agg #[.int .i64 1, .int .i64 0, .string (⟨#[79, 75]⟩ : ByteArray), .slice none 0 0]]) ∧ Rd w' (.slice A' (watchF wl keys).length c') (watchF wl keys) ∧ Bd w.heap.size w'.heap.size (.slice A' (watchF wl keys).length c') ∧ Below w.heap.size w w' := by
  have hu := Try.underlying27
  have hu2 := Try.underlying30
  have BB := Aside0.mk (Below.refl w.heap.size w)
  have HW := Aside0.mk hW
  have HWL := Aside0.mk hl
  have HKL := Aside0.mk hk
  obtain ⟨wn, hwn⟩ : ∃ wn, wn = wl.length := ⟨_, rfl⟩
  have HWN := Aside0.mk hwn
  rw [← hwn] at HW ⊢
  obtain ⟨kA, kc, rfl, hkc, hkr⟩ := hv
  have HKR := Aside0.mk hkr
  obtain ⟨kn, hkn⟩ : ∃ kn, kn = keys.length := ⟨_, rfl⟩
  have HKN := Aside0.mk hkn
  rw [← hkn] at HKR ⊢
  have hk9 : (kn : Int) ≤ 1000000 := by omega
  clear hW hl hk hwn hkc hkr hkn
  go_enter Try.func8, Try.ntmps8
  go_wp2_with (first | ((with_reducible refine gate_dst (N := 2) rfl ?_); refine box_event ?hg (N := 2) ?hd (cs := #[.bool false, .bool b, .bool d, .slice qA qn qc, .int .i64 sz, .slice wA wn wc]) (t := 27) ?hr ?_; (case hd => rfl); (case hg => rfl); (case hr => first | (go_simp; done) | (go_simp; rfl)); intro g1 hg w1 hbox hb; have GE1 := Aside0.mk (show w.heap.size ≤ g1 from by rw [hg]; exact BB.out.size); have T_ := Aside0.mk (BB.out.trans (hb.mono BB.out.size)); clear BB; have BB := T_; clear T_; have BK1 := Aside0.mk hbox; clear hbox hb hg) | ((with_reducible refine gate_dst (N := 4) rfl ?_); refine box_event ?hg (N := 4) ?hd (cs := #[.bool false, .bool false, .bool false, .slice none 0 0, .int .i64 0, .slice none 0 0]) (t := 27) ?hr ?_; (case hd => rfl); (case hg => rfl); (case hr => first | (go_simp; done) | (go_simp; rfl)); intro g2 hg w2 hbox hb; have NE1_2 := Aside0.mk (show g1 ≠ g2 from by rw [hg]; exact Nat.ne_of_lt (blk_lt BK1.out)); have T_ := Aside0.mk (old_blk BK1.out hb); clear BK1; have BK1 := T_; clear T_; have GE2 := Aside0.mk (show w.heap.size ≤ g2 from by rw [hg]; exact BB.out.size); have T_ := Aside0.mk (BB.out.trans (hb.mono BB.out.size)); clear BB; have BB := T_; clear T_; have BK2 := Aside0.mk hbox; clear hbox hb hg) | ((with_reducible refine gate_dst (N := 5) rfl ?_); refine box_event ?hg (N := 5) ?hd (cs := #[.int .i64 0, .int .i64 0, .string (⟨#[]⟩ : ByteArray), .slice none 0 0]) (t := 30) ?hr ?_; (case hd => rfl); (case hg => rfl); (case hr => first | (go_simp; done) | (go_simp; rfl)); intro g3 hg w3 hbox hb; have NE1_3 := Aside0.mk (show g1 ≠ g3 from by rw [hg]; exact Nat.ne_of_lt (blk_lt BK1.out)); have T_ := Aside0.mk (old_blk BK1.out hb); clear BK1; have BK1 := T_; clear T_; have NE2_3 := Aside0.mk (show g2 ≠ g3 from by rw [hg]; exact Nat.ne_of_lt (blk_lt BK2.out)); have T_ := Aside0.mk (old_blk BK2.out hb); clear BK2; have BK2 := T_; clear T_; have GE3 := Aside0.mk (show w.heap.size ≤ g3 from by rw [hg]; exact BB.out.size); have T_ := Aside0.mk (BB.out.trans (hb.mono BB.out.size)); clear BB; have BB := T_; clear T_; have BK3 := Aside0.mk hbox; clear hbox hb hg; obtain ⟨p1_0, p1_1, p1_2, p1_3, p1_4, p1_5, f1_0, f1_1, f1_2, f1_3, f1_4, f1_5⟩ := cells6 BK1.out; obtain ⟨p2_0, p2_1, p2_2, p2_3, p2_4, p2_5, f2_0, f2_1, f2_2, f2_3, f2_4, f2_5⟩ := cells6 BK2.out; obtain ⟨p3_0, p3_1, p3_2, p3_3, f3_0, f3_1, f3_2, f3_3⟩ := cells4 BK3.out; have ne1_2 := NE1_2.out; have ne2_1 := Ne.symm NE1_2.out; have ne1_3 := NE1_3.out; have ne3_1 := Ne.symm NE1_3.out; have ne2_3 := NE2_3.out; have ne3_2 := Ne.symm NE2_3.out) | (go_at_call 28; (with_reducible refine Calls.mono (clone_calls _ wl _ (HW.out.below BB.out) HWL.out) ?_); rintro e w4 ⟨v4, rfl, ho4, hb⟩; rw [← HWN.out] at ho4; obtain ⟨B, hB⟩ : ∃ B, B = w3.heap.size := ⟨_, rfl⟩; rw [← hB] at ho4; have HO4 := Aside0.mk ho4; have GL1 := Aside0.mk (show g1 < B by rw [hB]; exact blk_lt BK1.out); have GL2 := Aside0.mk (show g2 < B by rw [hB]; exact blk_lt BK2.out); have GL3 := Aside0.mk (show g3 < B by rw [hB]; exact blk_lt BK3.out); have GEB := Aside0.mk (show w.heap.size ≤ B by rw [hB]; exact BB.out.size); have HBS := Aside0.mk (show B ≤ w4.heap.size by rw [hB]; exact hb.size); have T_ := Aside0.mk (old_blk (BK1.out) hb); clear BK1; have BK1 := T_; clear T_; have T_ := Aside0.mk (old_blk (BK2.out) hb); clear BK2; have BK2 := T_; clear T_; have T_ := Aside0.mk (old_blk (BK3.out) hb); clear BK3; have BK3 := T_; clear T_; have T_ := Aside0.mk (BB.out.trans ((show Below _ _ _ from hb).mono BB.out.size)); clear BB; have BB := T_; clear T_; clear hb ho4 hB; obtain ⟨A4, c4, e4⟩ := own_slice HO4.out; subst e4; obtain ⟨p1_0, p1_1, p1_2, p1_3, p1_4, p1_5, f1_0, f1_1, f1_2, f1_3, f1_4, f1_5⟩ := cells6 BK1.out; obtain ⟨p2_0, p2_1, p2_2, p2_3, p2_4, p2_5, f2_0, f2_1, f2_2, f2_3, f2_4, f2_5⟩ := cells6 BK2.out; obtain ⟨p3_0, p3_1, p3_2, p3_3, f3_0, f3_1, f3_2, f3_3⟩ := cells4 BK3.out))
  obtain ⟨W4, hW_⟩ : ∃ W, W = w4.setCell ⟨g1, 5, none⟩ (.slice A4 wn c4) := ⟨_, rfl⟩
  rw [← hW_]
  have T1 := Aside0.mk (show W4.heap[g1]? = some (.cells #[.bool false, .bool b, .bool d, .slice qA qn qc, .int .i64 sz, .slice A4 wn c4] 27 (0, 0)) by rw [hW_]; exact blk_put BK1.out 5 _ rfl)
  have T2 := Aside0.mk (show W4.heap[g2]? = some (.cells #[.bool false, .bool false, .bool false, .slice none 0 0, .int .i64 0, .slice none 0 0] 27 (0, 0)) by rw [hW_]; exact blk_far BK2.out NE1_2.out.symm _)
  have T3 := Aside0.mk (show W4.heap[g3]? = some (.cells #[.int .i64 0, .int .i64 0, .string (⟨#[]⟩ : ByteArray), .slice none 0 0] 30 (0, 0)) by rw [hW_]; exact blk_far BK3.out NE1_3.out.symm _)
  have T4 := Aside0.mk (show Below w.heap.size w W4 by rw [hW_]; first | exact below_set BB.out GE1.out | exact below_set (pw_below_drewN BB.out _) GE1.out | exact below_set (below_drew BB.out) GE1.out)
  clear p1_0 f1_0 p1_1 f1_1 p1_2 f1_2 p1_3 f1_3 p1_4 f1_4 p1_5 f1_5 p2_0 f2_0 p2_1 f2_1 p2_2 f2_2 p2_3 f2_3 p2_4 f2_4 p2_5 f2_5 p3_0 f3_0 p3_1 f3_1 p3_2 f3_2 p3_3 f3_3
  have HO5 := Aside0.mk (show World.ownsRow W4 B 9 1 (.slice A4 wn c4) wn (encs Value.string wl) by
    rw [hW_]
    have NA1 : some g1 ≠ (Value.slice A4 wn c4).ownBlock := fun e => by have h1 := own_base HO4.out _ e.symm; have h2 := GL1.out; omega
    exact own_setCell HO4.out NA1 _)
  have HBS5 := Aside0.mk (show B ≤ W4.heap.size by rw [hW_]; have := HBS.out; simpa using this)
  clear BK1 BK2 BK3 BB hW_ HO4 HBS
  have BK1 := T1
  have BK2 := T2
  have BK3 := T3
  have BB := T4
  clear T1 T2 T3 T4
  obtain ⟨p1_0, p1_1, p1_2, p1_3, p1_4, p1_5, f1_0, f1_1, f1_2, f1_3, f1_4, f1_5⟩ := cells6 BK1.out
  go_loopw [19] (fun v19 wr => RelW w B g1 g2 g3 b d qA qn qc sz wl keys v19 wr) (fun v19 _ => kn - (intOf v19).toNat)
  case atStart =>
    refine ⟨0, A4, c4, Nat.zero_le _, rfl, ?_, ?_, BK2.out, BK3.out, BB.out, HBS5.out⟩
    · rw [show watchF wl (keys.take 0) = wl from rfl, ← HWN.out]; exact HO5.out
    · rw [show watchF wl (keys.take 0) = wl from rfl, ← HWN.out]; exact BK1.out
  case round =>
    obtain ⟨k, A, c, hkk, rfl, ho, h1, h2, h3, hb, hBS⟩ := hrel
    clear BK1 BK2 BK3 BB HO5 HBS5
    rw [← HKN.out] at hkk
    obtain ⟨L, hL⟩ : ∃ L, L = watchF wl (keys.take k) := ⟨_, rfl⟩
    rw [← hL] at ho h1
    have hLlen : L.length ≤ 2000000 := by
      have h5 := watchF_len wl (keys.take k)
      rw [← hL, List.length_take] at h5
      have h6 := HWL.out
      have h7 := HKL.out
      omega
    have HRL := Aside0.mk (rd_of_own ho)
    obtain ⟨m, hm⟩ : ∃ m, m = L.length := ⟨_, rfl⟩
    rw [← hm] at ho h1 HRL
    have HO := Aside0.mk ho
    have BK1 := Aside0.mk h1
    have BK2 := Aside0.mk h2
    have BK3 := Aside0.mk h3
    have BB := Aside0.mk hb
    have HBS := Aside0.mk hBS
    have HM := Aside0.mk hm
    have HLL := Aside0.mk hLlen
    have HLd := Aside0.mk hL
    have hkr := HKR.out.below hb
    clear ho h1 h2 h3 hBS hm hLlen hL
    obtain ⟨p1_0, p1_1, p1_2, p1_3, p1_4, p1_5, f1_0, f1_1, f1_2, f1_3, f1_4, f1_5⟩ := cells6 BK1.out
    by_cases hlt : k < kn
    · have e1 : decide ((k : Int) < (kn : Int)) = true := decide_eq_true (by omega)
      have e2 : decide (k < kn) = true := decide_eq_true hlt
      have hkl : k < keys.length := by rw [← HKN.out]; exact hlt
      obtain ⟨adl, rfl, hcl2⟩ := hkr.2.2 (by omega)
      have xl := hcl2 k hlt
      obtain ⟨x, hx⟩ : ∃ x, x = keys.getD k ByteArray.empty := ⟨_, rfl⟩
      rw [← hx] at xl
      have htk : keys.take (k + 1) = keys.take k ++ [x] := by
        rw [List.take_add_one, List.getElem?_eq_getElem hkl]
        rw [hx, List.getD_eq_getElem?_getD, List.getElem?_eq_getElem hkl]
        rfl
      have HNX := Aside0.mk (show watchF wl (keys.take (k + 1)) = addK L x by rw [htk, watchF_snoc, ← HLd.out])
      have hct := contains_calls (.slice A m c) L x wr HRL.out (by have := HLL.out; omega)
      obtain ⟨q, hq⟩ : ∃ q, q = hasB L x := ⟨_, rfl⟩
      rw [← hq] at hct
      have i0 : (0 : Int) ≤ (k : Int) := Int.natCast_nonneg _
      have i1 : (k : Int) < (kn : Int) := by omega
      have i2 := eq_true i1
      have hk8 : (k : Int) ≤ 1000000 := by omega
      have Hlt := Aside0.mk hlt
      cases q with
      | true =>
        have HCT := Aside0.mk hct
        have HA := Aside0.mk (show addK L x = L from if_pos hq.symm)
        clear hlt hkr hcl2 htk hkl hx hct hq hkk hb
        go_wp2_with (first | (go_at_call 29; (with_reducible refine Calls.mono HCT.out ?_); rintro e w5 ⟨rfl, hd⟩; have hb := hd.below; have HO5 := Aside0.mk (pw_own_below HO.out hb); have HBS5 := Aside0.mk (Nat.le_trans HBS.out hb.size); have T_ := Aside0.mk (old_blk (BK1.out) hb); clear BK1; have BK1 := T_; clear T_; have T_ := Aside0.mk (old_blk (BK2.out) hb); clear BK2; have BK2 := T_; clear T_; have T_ := Aside0.mk (old_blk (BK3.out) hb); clear BK3; have BK3 := T_; clear T_; have T_ := Aside0.mk (BB.out.trans ((show Below _ _ _ from hb).mono BB.out.size)); clear BB; have BB := T_; clear T_; clear hb hd; obtain ⟨p1_0, p1_1, p1_2, p1_3, p1_4, p1_5, f1_0, f1_1, f1_2, f1_3, f1_4, f1_5⟩ := cells6 BK1.out; obtain ⟨p2_0, p2_1, p2_2, p2_3, p2_4, p2_5, f2_0, f2_1, f2_2, f2_3, f2_4, f2_5⟩ := cells6 BK2.out; obtain ⟨p3_0, p3_1, p3_2, p3_3, f3_0, f3_1, f3_2, f3_3⟩ := cells4 BK3.out))
        go_roundw
        case rel =>
          refine ⟨k + 1, A, c, by have := Hlt.out; have := HKN.out; omega, by simp, ?_, ?_, BK2.out, BK3.out, BB.out, HBS5.out⟩
          · rw [HNX.out, HA.out, ← HM.out]; exact HO5.out
          · rw [HNX.out, HA.out, ← HM.out]; exact BK1.out
        case measure => have := Hlt.out; simp [intOf]; omega
      | false =>
        have HCT := Aside0.mk hct
        have HA := Aside0.mk (show addK L x = L ++ [x] from if_neg (by rw [← hq]; decide))
        clear hlt hkr hcl2 htk hkl hx hct hq hkk hb
        go_wp2_with (first | (go_at_call 29; (with_reducible refine Calls.mono HCT.out ?_); rintro e w5 ⟨rfl, hd⟩; have hb := hd.below; have HO5 := Aside0.mk (pw_own_below HO.out hb); have HBS5 := Aside0.mk (Nat.le_trans HBS.out hb.size); have T_ := Aside0.mk (old_blk (BK1.out) hb); clear BK1; have BK1 := T_; clear T_; have T_ := Aside0.mk (old_blk (BK2.out) hb); clear BK2; have BK2 := T_; clear T_; have T_ := Aside0.mk (old_blk (BK3.out) hb); clear BK3; have BK3 := T_; clear T_; have T_ := Aside0.mk (BB.out.trans ((show Below _ _ _ from hb).mono BB.out.size)); clear BB; have BB := T_; clear T_; clear hb hd; obtain ⟨p1_0, p1_1, p1_2, p1_3, p1_4, p1_5, f1_0, f1_1, f1_2, f1_3, f1_4, f1_5⟩ := cells6 BK1.out; obtain ⟨p2_0, p2_1, p2_2, p2_3, p2_4, p2_5, f2_0, f2_1, f2_2, f2_3, f2_4, f2_5⟩ := cells6 BK2.out; obtain ⟨p3_0, p3_1, p3_2, p3_3, f3_0, f3_1, f3_2, f3_3⟩ := cells4 BK3.out) | (at_builtin; refine wp_app rfl (.tmp 29) (.tmp 31) (by rfl) w5 B (.slice A m c) L [x] (some ⟨w5.heap.size, 0, none⟩) 1 1 (by rfl) (by rfl) (by rw [← HM.out]; exact own_alloc HO5.out _) (reads_one w5 x) ((Below.refl B w5).alloc HBS5.out _) (by have := HBS5.out; simp; omega) (by have := HLL.out; omega) ?_; intro v6 w6 ho6 hb6 hs6; have T_ := Aside0.mk ((hb6.block g1 GL1.out).trans BK1.out); clear BK1; have BK1 := T_; clear T_; have T_ := Aside0.mk ((hb6.block g2 GL2.out).trans BK2.out); clear BK2; have BK2 := T_; clear T_; have T_ := Aside0.mk ((hb6.block g3 GL3.out).trans BK3.out); clear BK3; have BK3 := T_; clear T_; have T_ := Aside0.mk (BB.out.trans (hb6.mono GEB.out)); clear BB; have BB := T_; clear T_; rw [show (L ++ [x]).length = m + 1 by rw [List.length_append, HM.out]; rfl] at ho6; have HO6 := Aside0.mk ho6; have HBS6 := Aside0.mk hs6; clear ho6 hb6 hs6; obtain ⟨A6, c6, e6⟩ := own_slice HO6.out; subst e6; obtain ⟨p1_0, p1_1, p1_2, p1_3, p1_4, p1_5, f1_0, f1_1, f1_2, f1_3, f1_4, f1_5⟩ := cells6 BK1.out; obtain ⟨p2_0, p2_1, p2_2, p2_3, p2_4, p2_5, f2_0, f2_1, f2_2, f2_3, f2_4, f2_5⟩ := cells6 BK2.out; obtain ⟨p3_0, p3_1, p3_2, p3_3, f3_0, f3_1, f3_2, f3_3⟩ := cells4 BK3.out))
        go_roundw
        case rel =>
          refine ⟨k + 1, A6, c6, by have := Hlt.out; have := HKN.out; omega, by simp, ?_, ?_, blk_far BK2.out NE1_2.out.symm _, blk_far BK3.out NE1_3.out.symm _, below_set BB.out GE1.out, by simpa using HBS6.out⟩
          · rw [HNX.out, HA.out, show (L ++ [x]).length = m + 1 by rw [List.length_append, HM.out]; rfl]
            have NA1 : some g1 ≠ (Value.slice A6 (m + 1) c6).ownBlock := fun e => by have h1 := own_base HO6.out _ e.symm; have h2 := GL1.out; omega
            exact own_setCell HO6.out NA1 _
          · rw [HNX.out, HA.out, show (L ++ [x]).length = m + 1 by rw [List.length_append, HM.out]; rfl]
            exact blk_put BK1.out 5 _ rfl
        case measure => have := Hlt.out; simp [intOf]; omega
    · have e1 : decide ((k : Int) < (kn : Int)) = false := decide_eq_false (by omega)
      have e2 : decide (k < kn) = false := decide_eq_false hlt
      have hk : k = keys.length := by have := HKN.out; omega
      have htk : keys.take k = keys := by rw [hk]; exact List.take_length
      have HLK := Aside0.mk (show L = watchF wl keys by rw [HLd.out, htk])
      clear hlt hkr hkk htk hk hb
      go_wp2_with fail
      go_region_held3 (fun w' => w'.cell? ⟨g1, 0, none⟩ = some (.bool false) ∧ w'.cell? ⟨g1, 1, none⟩ = some (.bool b) ∧ w'.cell? ⟨g1, 2, none⟩ = some (.bool d) ∧ w'.cell? ⟨g1, 3, none⟩ = some (.slice qA qn qc) ∧ w'.cell? ⟨g1, 4, none⟩ = some (.int .i64 sz) ∧ w'.cell? ⟨g1, 5, none⟩ = some (.slice A m c)) (go_keep) (first | (go_at_call 30; (with_reducible refine Calls.mono (ok_calls _) ?_); rintro e w5 ⟨rfl, hb⟩; have T_ := Aside0.mk (old_blk (blk_drew BK1.out) hb); clear BK1; have BK1 := T_; clear T_; have T_ := Aside0.mk (old_blk (blk_drew BK2.out) hb); clear BK2; have BK2 := T_; clear T_; have T_ := Aside0.mk (old_blk (blk_drew BK3.out) hb); clear BK3; have BK3 := T_; clear T_; have T_ := Aside0.mk (BB.out.trans ((show Below _ _ _ from (below_drew (Below.refl _ _)).trans hb).mono BB.out.size)); clear BB; have BB := T_; clear T_; have HOe := Aside0.mk (pw_own_below (show World.ownsRow (World.drew wr) _ _ _ _ _ _ from HO.out) hb); clear hb; obtain ⟨p1_0, p1_1, p1_2, p1_3, p1_4, p1_5, f1_0, f1_1, f1_2, f1_3, f1_4, f1_5⟩ := cells6 BK1.out; obtain ⟨p2_0, p2_1, p2_2, p2_3, p2_4, p2_5, f2_0, f2_1, f2_2, f2_3, f2_4, f2_5⟩ := cells6 BK2.out; obtain ⟨p3_0, p3_1, p3_2, p3_3, f3_0, f3_1, f3_2, f3_3⟩ := cells4 BK3.out))
      all_goals
        go_wp2
        refine bodyPost_ret (results_cc rfl _ _ g2 g3 27 30 #[.bool false, .bool b, .bool d, .slice qA qn qc, .int .i64 sz, .slice A m c] #[.int .i64 1, .int .i64 0, .string (⟨#[79, 75]⟩ : ByteArray), .slice none 0 0] (0, 0) (0, 0) _ _ rfl (by (repeat (with_reducible refine blk_far ?_ NE2_3.out _)); refine put6 ?_ _ _ _ _ _ _; exact BK2.out) Try.underlying27 rfl (by kernel_rfl) rfl (by refine put4 ?_ _ _ _ _; (repeat (with_reducible refine blk_far ?_ NE2_3.out.symm _)); exact BK3.out) Try.underlying30 rfl (by kernel_rfl)) rfl ?_
        have NA2 : some g2 ≠ (Value.slice A m c).ownBlock := fun e => by have h1 := own_base HOe.out _ e.symm; have h2 := GL2.out; omega
        have NA3 : some g3 ≠ (Value.slice A m c).ownBlock := fun e => by have h1 := own_base HOe.out _ e.symm; have h2 := GL3.out; omega
        refine ⟨A, c, by first | (rw [← HLK.out, ← HM.out]; done) | (rw [← HLK.out, ← HM.out]; rfl) | (rw [← HLK.out, ← HM.out]; simp; done), ?_, ?_, by repeat (with_reducible first | exact BB.out | refine below_set ?_ GE3.out | refine below_set ?_ GE2.out)⟩
        · rw [← HLK.out]
          refine rd_of_own (base := B) (v := .slice A L.length c) ?_
          rw [← HM.out]
          repeat (with_reducible first | exact HOe.out | refine own_setCell ?_ NA3 _ | refine own_setCell ?_ NA2 _)
        · rw [← HLK.out, ← HM.out]
          refine bd_own (base := B) (e := 9) (size := 1) (n := m) (xs := encs Value.string L) ?_ GEB.out
          repeat (with_reducible first | exact HOe.out | refine own_setCell ?_ NA3 _ | refine own_setCell ?_ NA2 _)
end Go.Proofs.Ytkamejnccmapkaa.Mu
