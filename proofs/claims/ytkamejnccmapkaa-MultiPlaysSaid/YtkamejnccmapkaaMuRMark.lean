/- The document's Mark: as what it does to values. -/
import Derived.Test.YtkamejnccmapkaaMuRWatch
namespace Go.Proofs.Ytkamejnccmapkaa.Mu
open Go.RowKit Go.Proofs.YtkamejnccmapkaaW.PrintWords Go.Proofs.YtkamejnccmapkaaW.PrintMore Go.Proofs.YtkamejnccmapkaaW.PrintLast
set_option linter.unusedVariables false
set_option linter.unusedSimpArgs false
attribute [local go_sem ↓] Go.wp_at_zero Go.wp_at_succ
theorem meetB_snoc (wl ks : List ByteArray) (x : ByteArray) : meetB wl (ks ++ [x]) = (meetB wl ks || hasB wl x) := by
  unfold meetB
  rw [List.any_append]
  simp
def RelRM (w : World) (g1 g2 : Nat) (o b d : Bool) (qA : Option Addr) (qn qc : Nat) (sz : Int) (wA : Option Addr) (wn wc : Nat) (wl keys : List ByteArray) (v : Value) (wr : World) : Prop :=
  ∃ (k : Nat), k ≤ keys.length ∧ v = .int .i64 k ∧ wr.heap[g1]? = some (.cells #[.bool o, .bool b, .bool (d || meetB wl (keys.take k)), .slice qA qn qc, .int .i64 sz, .slice wA wn wc] 27 (0, 0)) ∧ wr.heap[g2]? = some (.cells #[.bool false, .bool false, .bool false, .slice none 0 0, .int .i64 0, .slice none 0 0] 27 (0, 0)) ∧ Below w.heap.size w wr
set_option maxHeartbeats 4000000 in
set_option maxRecDepth 100000 in
theorem rmark_calls (o b d : Bool) (qA : Option Addr) (qn qc : Nat) (sz : Int) (wA : Option Addr) (wn wc : Nat) (wl : List ByteArray) (v : Value) (keys : List ByteArray) (w : World) (hW : Rd w (.slice wA wn wc) wl) (hv : Rd w v keys) (hl : wl.length ≤ 1000000000) (hk : keys.length ≤ 1000000) :
    Calls Try.prog 22 #[.agg #[.bool o, .bool b, .bool d, .slice qA qn qc, .int .i64 sz, .slice wA wn wc], v] w fun e w' => e = .returned (.agg #[.bool o, .bool b, .bool (d || meetB wl keys), .slice qA qn qc, .int .i64 sz, .slice wA wn wc]) ∧ Below w.heap.size w w' := by
  have hu := Try.underlying27
  have BB := Aside0.mk (Below.refl w.heap.size w)
  have HW := Aside0.mk hW
  have HWL := Aside0.mk hl
  obtain ⟨kA, kc, rfl, hkc, hkr⟩ := hv
  have HKR := Aside0.mk hkr
  obtain ⟨kn, hkn⟩ : ∃ kn, kn = keys.length := ⟨_, rfl⟩
  have HKN := Aside0.mk hkn
  rw [← hkn] at HKR ⊢
  have hk9 : (kn : Int) ≤ 1000000 := by omega
  clear hW hl hk hkc hkr hkn
  go_enter Try.func22, Try.ntmps22
  go_wp2_with (first | ((with_reducible refine gate_dst (N := 2) rfl ?_); refine box_event ?hg (N := 2) ?hd (cs := #[.bool o, .bool b, .bool d, .slice qA qn qc, .int .i64 sz, .slice wA wn wc]) (t := 27) ?hr ?_; (case hd => rfl); (case hg => rfl); (case hr => first | (go_simp; done) | (go_simp; rfl)); intro g1 hg w1 hbox hb; have GE1 := Aside0.mk (show w.heap.size ≤ g1 from by rw [hg]; exact BB.out.size); have T_ := Aside0.mk (BB.out.trans (hb.mono BB.out.size)); clear BB; have BB := T_; clear T_; have BK1 := Aside0.mk hbox; clear hbox hb hg) | ((with_reducible refine gate_dst (N := 4) rfl ?_); refine box_event ?hg (N := 4) ?hd (cs := #[.bool false, .bool false, .bool false, .slice none 0 0, .int .i64 0, .slice none 0 0]) (t := 27) ?hr ?_; (case hd => rfl); (case hg => rfl); (case hr => first | (go_simp; done) | (go_simp; rfl)); intro g2 hg w2 hbox hb; have NE1_2 := Aside0.mk (show g1 ≠ g2 from by rw [hg]; exact Nat.ne_of_lt (blk_lt BK1.out)); have T_ := Aside0.mk (old_blk BK1.out hb); clear BK1; have BK1 := T_; clear T_; have GE2 := Aside0.mk (show w.heap.size ≤ g2 from by rw [hg]; exact BB.out.size); have T_ := Aside0.mk (BB.out.trans (hb.mono BB.out.size)); clear BB; have BB := T_; clear T_; have BK2 := Aside0.mk hbox; clear hbox hb hg; obtain ⟨p1_0, p1_1, p1_2, p1_3, p1_4, p1_5, f1_0, f1_1, f1_2, f1_3, f1_4, f1_5⟩ := cells6 BK1.out; obtain ⟨p2_0, p2_1, p2_2, p2_3, p2_4, p2_5, f2_0, f2_1, f2_2, f2_3, f2_4, f2_5⟩ := cells6 BK2.out; have ne1_2 := NE1_2.out; have ne2_1 := Ne.symm NE1_2.out))
  clear p1_0 f1_0 p1_1 f1_1 p1_2 f1_2 p1_3 f1_3 p1_4 f1_4 p1_5 f1_5 p2_0 f2_0 p2_1 f2_1 p2_2 f2_2 p2_3 f2_3 p2_4 f2_4 p2_5 f2_5
  go_loopw [5] (fun v5 wr => RelRM w g1 g2 o b d qA qn qc sz wA wn wc wl keys v5 wr) (fun v5 _ => kn - (intOf v5).toNat)
  case atStart => exact ⟨0, Nat.zero_le _, rfl, by rw [show meetB wl (keys.take 0) = false from rfl, Bool.or_false]; exact BK1.out, BK2.out, BB.out⟩
  case round =>
    obtain ⟨k, hkk, rfl, h1, h2, hb⟩ := hrel
    clear BK1 BK2 BB
    rw [← HKN.out] at hkk
    obtain ⟨p, hp⟩ : ∃ p, p = (d || meetB wl (keys.take k)) := ⟨_, rfl⟩
    rw [← hp] at h1
    have HP := Aside0.mk hp
    have BK1 := Aside0.mk h1
    have BK2 := Aside0.mk h2
    have BB := Aside0.mk hb
    have hkr := HKR.out.below hb
    clear h1 h2 hp
    obtain ⟨p1_0, p1_1, p1_2, p1_3, p1_4, p1_5, f1_0, f1_1, f1_2, f1_3, f1_4, f1_5⟩ := cells6 BK1.out; obtain ⟨p2_0, p2_1, p2_2, p2_3, p2_4, p2_5, f2_0, f2_1, f2_2, f2_3, f2_4, f2_5⟩ := cells6 BK2.out
    by_cases hlt : k < kn
    · have e1 : decide ((k : Int) < (kn : Int)) = true := decide_eq_true (by omega)
      have e2 : decide (k < kn) = true := decide_eq_true hlt
      have hkl : k < keys.length := by rw [← HKN.out]; exact hlt
      obtain ⟨adl, rfl, hcl2⟩ := hkr.2.2 (by omega)
      have xl := hcl2 k hlt
      obtain ⟨x, hx⟩ : ∃ x, x = keys.getD k ByteArray.empty := ⟨_, rfl⟩
      rw [← hx] at xl
      have htk : keys.take (k + 1) = keys.take k ++ [x] := by
        rw [List.take_add_one, List.getElem?_eq_getElem hkl]
        rw [hx, List.getD_eq_getElem?_getD, List.getElem?_eq_getElem hkl]
        rfl
      have HNX := Aside0.mk (show (d || meetB wl (keys.take (k + 1))) = (p || hasB wl x) by rw [htk, meetB_snoc, ← Bool.or_assoc, ← HP.out])
      have hct := fun n => rhas_calls (.slice wA wn wc) wl x (wr.drewN n) (HW.out.below (pw_below_drewN BB.out n)) HWL.out
      obtain ⟨q, hq⟩ : ∃ q, q = hasB wl x := ⟨_, rfl⟩
      rw [← hq] at hct
      have HQ := Aside0.mk hq
      have i0 : (0 : Int) ≤ (k : Int) := Int.natCast_nonneg _
      have i1 : (k : Int) < (kn : Int) := by omega
      have i2 := eq_true i1
      have hk8 : (k : Int) ≤ 1000000 := by omega
      have Hlt := Aside0.mk hlt
      have HCT := Aside0.mk hct
      clear hlt hkr hcl2 htk hkl hx hct hq hkk hb
      cases q with
      | true =>
        go_wp2_with fail
        go_quiet ((go_at_call 36; exact quiet_of_drawn (HCT.out _)))
        go_wp2
        go_roundw
        case rel =>
          refine ⟨k + 1, by have := Hlt.out; have := HKN.out; omega, by simp, ?_, ?_, ?_⟩
          · rw [HNX.out, ← HQ.out, Bool.or_true]
            first | exact blk_put (blk_drewN BK1.out _) 2 _ rfl | exact blk_put BK1.out 2 _ rfl
          · first | exact blk_far (blk_drewN BK2.out _) NE1_2.out.symm _ | exact blk_far BK2.out NE1_2.out.symm _
          · first | exact below_set (pw_below_drewN BB.out _) GE1.out | exact below_set BB.out GE1.out
        case measure => have := Hlt.out; simp [intOf]; omega
      | false =>
        go_wp2_with fail
        go_quiet ((go_at_call 36; exact quiet_of_drawn (HCT.out _)))
        go_wp2
        go_roundw
        case rel => exact ⟨k + 1, by have := Hlt.out; have := HKN.out; omega, by simp, by rw [HNX.out, ← HQ.out, Bool.or_false]; exact BK1.out, BK2.out, pw_below_drewN BB.out _⟩
        case measure => have := Hlt.out; simp [intOf]; omega
    · have e1 : decide ((k : Int) < (kn : Int)) = false := decide_eq_false (by omega)
      have e2 : decide (k < kn) = false := decide_eq_false hlt
      have htk : keys.take k = keys := List.take_of_length_le (by have := HKN.out; omega)
      have HPF := Aside0.mk (show p = (d || meetB wl keys) by rw [HP.out, htk])
      clear hlt hkr hkk htk hb
      go_wp2
      refine bodyPost_ret (results_cell_row rfl _ _ g2 27 #[.bool o, .bool b, .bool p, .slice qA qn qc, .int .i64 sz, .slice wA wn wc] (0, 0) _ rfl (by refine put6 ?_ _ _ _ _ _ _; (repeat (with_reducible refine blk_far ?_ NE1_2.out.symm _)); exact BK2.out) Try.underlying27 rfl (by kernel_rfl)) rfl ?_
      exact ⟨by rw [← HPF.out], by repeat (with_reducible first | exact BB.out | refine below_set ?_ GE1.out | refine below_set ?_ GE2.out)⟩
end Go.Proofs.Ytkamejnccmapkaa.Mu
