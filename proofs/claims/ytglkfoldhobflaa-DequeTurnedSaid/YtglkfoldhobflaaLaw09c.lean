/- The contract of the statement DequeTurned, walked by hand. -/
import Derived.Test.YtglkfoldhobflaaLaw09a
import Derived.Test.YtglkfoldhobflaaDqSD
import Derived.Test.YtglkfoldhobflaaX0
namespace Go.Proofs.Ytglkfoldhobflaa.X
set_option linter.unusedVariables false
/-- The statement's own bounds. -/
def BdT (l0 : List Int) (l1 : List S29) : Prop := l0.length ≤ 17592186044416 ∧ l1.length ≤ 17592186044416
open Classical in
noncomputable def mewslaw09_DequeTurned.f (_k : Nat) (l0 : List Int) (l1 : List S29) : Option Bool := if BdT l0 l1 then some true else none
end Go.Proofs.Ytglkfoldhobflaa.X
namespace Go.Proofs.Ytglkfoldhobflaa.Dq
open Go.RowKit Go.Proofs.YtglkfoldhobflaaW.PrintWords Go.Proofs.YtglkfoldhobflaaW.PrintMore Go.Proofs.YtglkfoldhobflaaW.PrintLast Go.Proofs.Ytglkfoldhobflaa.X Go.Proofs.Ytglkfoldhobflaa.Y
set_option linter.unusedVariables false
set_option linter.unusedSimpArgs false
attribute [local go_sem ↓] Go.wp_at_zero Go.wp_at_succ
theorem cells3t {w : World} {g : Nat} {t : TypeId} {a b c : Value} (h : w.heap[g]? = some (.cells #[a, b, c] t (0, 0))) : w.cell? ⟨g, 0, none⟩ = some a ∧ w.cell? ⟨g, 1, none⟩ = some b ∧ w.cell? ⟨g, 2, none⟩ = some c := ⟨(blk_cell h 0).trans rfl, (blk_cell h 1).trans rfl, (blk_cell h 2).trans rfl⟩
set_option maxHeartbeats 8000000 in
set_option maxRecDepth 100000 in
theorem turned_far (A0 A1 : Option Addr) (c0 c1 n0 n1 : Nat) (w : World) (h : 300 < n0 ∨ 300 < n1) :
    Calls Try.prog 3 #[.slice A0 n0 c0, .slice A1 n1 c1] w fun e w' => e = .returned (.bool true) ∧ Below w.heap.size w w' := by
  have HA := Aside0.mk (alive_calls w)
  by_cases c : 300 < n0
  · have d1 : decide (300 < (n0 : Int)) = true := decide_eq_true (by omega)
    have d2 : decide (300 < n0) = true := decide_eq_true c
    clear c h
    go_enter Try.func3, Try.ntmps3
    go_wp2_with (first | (go_at_call 6; (with_reducible refine Calls.mono HA.out ?_); rintro e w' ⟨rfl, hb⟩; have HB := Aside0.mk hb; clear hb))
    go_ret
    exact ⟨rfl, HB.out⟩
  · have d1 : decide (300 < (n0 : Int)) = false := decide_eq_false (by omega)
    have d2 : decide (300 < n0) = false := decide_eq_false c
    have d3 : decide (300 < (n1 : Int)) = true := decide_eq_true (by omega)
    have d4 : decide (300 < n1) = true := decide_eq_true (by omega)
    clear c h
    go_enter Try.func3, Try.ntmps3
    go_wp2_with (first | (go_at_call 6; (with_reducible refine Calls.mono HA.out ?_); rintro e w' ⟨rfl, hb⟩; have HB := Aside0.mk hb; clear hb))
    go_ret
    exact ⟨rfl, HB.out⟩
theorem reads_none (w : World) : ReadsOf (Value.int .i64) 0 w none ([] : List Int).length [] := by
  refine ⟨rfl, by decide, fun h => ?_⟩
  exact absurd h (by decide)
theorem rev_getD (l : List Int) (k : Nat) (hk : k < l.length) : l.reverse.getD (l.length - 1 - k) 0 = l.getD k 0 := by
  rw [List.getD_eq_getElem?_getD, List.getD_eq_getElem?_getD, List.getElem?_reverse (by omega)]
  congr 2
  omega
theorem rev_last (l : List Int) : l.reverse.getD (l.reverse.length - 1) 0 = l.getD 0 0 := by
  cases l with
  | nil => rfl
  | cons x l =>
    have := rev_getD (x :: l) 0 (by simp)
    rw [List.length_reverse]
    exact this
theorem rev_first (l : List Int) : l.reverse.getD 0 0 = l.getD (l.length - 1) 0 := by
  have := rev_last l.reverse
  rw [List.reverse_reverse] at this
  exact this.symm
theorem rev_tail (l : List Int) : l.tail.reverse = l.reverse.dropLast := by
  cases l with
  | nil => rfl
  | cons x l => simp
theorem rev_dropLast (l : List Int) : l.dropLast.reverse = l.reverse.tail := by
  have := rev_tail l.reverse
  rw [List.reverse_reverse] at this
  rw [← this, List.reverse_reverse]
theorem rev_isEmpty (l : List Int) : l.reverse.isEmpty = l.isEmpty := by cases l <;> simp
set_option maxHeartbeats 40000000 in
set_option maxRecDepth 100000 in
theorem turned_near (A0 : Option Addr) (c0 : Nat) (l0 : List Int) (A1 : Option Addr) (c1 : Nat) (l1 : List S29) (w : World) (hr0 : Kd.C (Kd.int .i64) w A0 l0.length l0) (hr1 : Kd.C k29 w A1 l1.length l1) (hn0 : l0.length ≤ 300) (hn1 : l1.length ≤ 300) :
    Calls Try.prog 3 #[.slice A0 l0.length c0, .slice A1 l1.length c1] w fun e w' => e = .returned (.bool true) ∧ Below w.heap.size w w' := by
  obtain ⟨B, hB⟩ : ∃ B, B = w.heap.size := ⟨_, rfl⟩
  obtain ⟨n, hn⟩ : ∃ n, n = l1.length := ⟨_, rfl⟩
  obtain ⟨m, hm⟩ : ∃ m, m = l0.length := ⟨_, rfl⟩
  rw [← hn, ← hB, ← hm]
  rw [← hn] at hr1 hn1
  rw [← hm] at hr0 hn0
  have HB := Aside0.mk hB
  have HR1 := Aside0.mk hr1
  have HR0 := Aside0.mk (readsOf_of_C hr0)
  have Hn := Aside0.mk hn
  have Hm := Aside0.mk hm
  have d1 : decide (300 < (m : Int)) = false := decide_eq_false (by omega)
  have d2 : decide (300 < m) = false := decide_eq_false (by omega)
  have d3 : decide (300 < (n : Int)) = false := decide_eq_false (by omega)
  have d4 : decide (300 < n) = false := decide_eq_false (by omega)
  clear hB hn hm hr0 hr1
  go_enter Try.func3, Try.ntmps3
  go_wp2_with fail
  go_at_call 7
  with_reducible refine Calls.mono (new_calls none 0 [] w (reads_none _) (by decide)) ?_
  rintro e w1 ⟨g, row, rfl, -, hd, hb1⟩
  have HD := Aside0.mk hd
  have HB1 := Aside0.mk hb1
  clear hd hb1
  go_wp2_with fail
  go_at_call 7
  with_reducible refine Calls.mono (new_calls none 0 [] w1 (reads_none _) (by decide)) ?_
  rintro e w2 ⟨g', row', rfl, -, he, hb2⟩
  have hsd : SD w B g g' [] [] w2 := SD.mk_ (HD.out.lower (by rw [HB.out]; exact Nat.le_refl _)) he hb2 (by rw [HB.out]; exact HB1.out) (by rw [HB.out]; exact HB1.out.size)
  have HSD := Aside0.mk hsd
  clear he hb2 hsd
  go_wp2_with fail
  go_loopw [38] (fun v38 wr => ∃ k : Nat, k ≤ m ∧ v38 = .int .i64 k ∧ SD w B g g' (l0.take k) (l0.take k).reverse wr) (fun v38 _ => m - (intOf v38).toNat)
  case atStart => exact ⟨0, Nat.zero_le _, rfl, HSD.out⟩
  case round =>
    obtain ⟨k, hkm, rfl, hs⟩ := hrel
    by_cases hlt : k < m
    · have e1 : decide ((k : Int) < (m : Int)) = true := decide_eq_true (by omega)
      have e2 : decide (k < m) = true := decide_eq_true hlt
      have hkl : k < l0.length := by rw [← Hm.out]; exact hlt
      have hrw := HR0.out.below (show Below w.heap.size w wr by rw [← HB.out]; exact hs.st.out)
      obtain ⟨ad, rfl, hc⟩ := hrw.2.2 (by omega)
      have hcw := hc k hlt
      obtain ⟨V, hV⟩ : ∃ V, V = l0.getD k 0 := ⟨_, rfl⟩
      replace hcw : wr.cell? (ad.add k) = some (.int .i64 V) := by rw [hV]; exact hcw
      have hnx : l0.take k ++ [V] = l0.take (k + 1) := by rw [hV, List.take_succ_eq_append_getElem hkl, List.getD_eq_getElem?_getD, List.getElem?_eq_getElem hkl]; rfl
      have hnr : V :: (l0.take k).reverse = (l0.take (k + 1)).reverse := by rw [← hnx]; simp
      have hlen : (l0.take k).length < 1048576 := by rw [List.length_take]; omega
      have hc1 := hs.push false V hlen
      simp only [Bool.false_eq_true, if_false] at hc1
      rw [hnx] at hc1
      have hc2 := fun W (h : SD w B g g' (l0.take (k + 1)) (l0.take k).reverse W) => h.symm.push true V (by rw [List.length_reverse]; exact hlen)
      simp only [if_true, hnr] at hc2
      have HC1 := Aside0.mk hc1
      have HC2 := Aside0.mk hc2
      have Hlt := Aside0.mk hlt
      have hk9 : (k : Int) ≤ 300 := by omega
      have i1 : (0 : Int) ≤ (k : Int) := Int.natCast_nonneg _
      have i2 : (k : Int) < (m : Int) := by omega
      clear hs hlt hkl hrw hc hV hnx hnr hlen hc1 hc2 hkm
      go_wp2_with fail
      go_at_call 8
      with_reducible refine Calls.mono HC1.out ?_
      rintro e w3 ⟨rfl, hs3, -⟩
      have HS3 := Aside0.mk hs3
      clear hs3
      go_wp2_with fail
      go_at_call 8
      with_reducible refine Calls.mono (HC2.out _ HS3.out) ?_
      rintro e w4 ⟨rfl, hs4, -⟩
      have HS4 := Aside0.mk hs4
      clear hs4
      go_wp2
      go_roundw
      case rel => exact ⟨k + 1, by have := Hlt.out; omega, by simp, HS4.out.symm⟩
      case measure => have := Hlt.out; simp [intOf]; omega
    · have e1 : decide ((k : Int) < (m : Int)) = false := decide_eq_false (by omega)
      have e2 : decide (k < m) = false := decide_eq_false hlt
      rw [List.take_of_length_le (by rw [← Hm.out]; omega)] at hs
      have HS := Aside0.mk hs
      obtain ⟨wo, rfl⟩ : ∃ wo : World, wo = wr := ⟨_, rfl⟩
      clear hs hlt hkm
      go_wp2_with fail
      go_loopw [55] (fun v55 wr => ∃ (k : Nat) (l : List Int), k ≤ n ∧ v55 = .int .i64 k ∧ l.length ≤ 300 + k ∧ SD w B g g' l l.reverse wr) (fun v55 _ => n - (intOf v55).toNat)
      case atStart => exact ⟨0, l0, Nat.zero_le _, rfl, by rw [← Hm.out]; omega, HS.out⟩
      case round =>
        obtain ⟨k2, l, hkn, rfl, hll, hs⟩ := hrel
        by_cases hlt : k2 < n
        · have e3 : decide ((k2 : Int) < (n : Int)) = true := decide_eq_true (by omega)
          have e4 : decide (k2 < n) = true := decide_eq_true hlt
          have hrw := Kd.C_below HR1.out (show Below w.heap.size w wr by rw [← HB.out]; exact hs.st.out)
          obtain ⟨ad, rfl, x0, x1, x2⟩ := at_T29 hrw (k2 : Int) (by omega) (by omega)
          rw [Int.toNat_natCast] at x0 x1 x2
          obtain ⟨q0, hq0⟩ : ∃ q, q = (rd_T29 l1 (k2 : Int)).f0 := ⟨_, rfl⟩
          obtain ⟨q1, hq1⟩ : ∃ q, q = (rd_T29 l1 (k2 : Int)).f1 := ⟨_, rfl⟩
          obtain ⟨q2, hq2⟩ : ∃ q, q = (rd_T29 l1 (k2 : Int)).f2 := ⟨_, rfl⟩
          rw [← hq0] at x0
          rw [← hq1] at x1
          rw [← hq2] at x2
          have HS2 := Aside0.mk hs
          have Hlt := Aside0.mk hlt
          have Hll := Aside0.mk hll
          have hk9 : (k2 : Int) ≤ 300 := by omega
          have i1 : (0 : Int) ≤ (k2 : Int) := Int.natCast_nonneg _
          have i2 : (k2 : Int) < (n : Int) := by omega
          obtain ⟨fb, hfb⟩ : ∃ fb, (Go.bits .and .i64 q0 1 == 1) = fb := ⟨_, rfl⟩
          obtain ⟨tb, htb⟩ : ∃ tb, (Go.bits .and .i64 q0 2 == 0) = tb := ⟨_, rfl⟩
          have HO0 := Aside0.mk (fun (o : Obj) => blk_new wr o)
          obtain ⟨ob, hob⟩ : ∃ ob, ob = wr.heap.size := ⟨_, rfl⟩
          have Hob := Aside0.mk hob
          rw [← hob] at HO0
          have HSA := Aside0.mk (fun (o : Obj) => HS2.out.below (below_alloc (Below.refl _ _) o))
          have hl9 : l.length < 1048575 := by omega
          have HL9 := Aside0.mk hl9
          clear hob hq0 hq1 hq2 hrw hs hlt hll hkn hl9
          cases fb with
          | true =>
            cases tb with
            | true =>
              have hL : (q2 :: l).reverse = l.reverse ++ [q2] := by simp
              obtain ⟨L, hLL⟩ : ∃ L : List Int, L = q2 :: l := ⟨_, rfl⟩
              have hc1 := fun W (h : SD w B g g' l l.reverse W) => h.push true q2 (by have := HL9.out; omega)
              have hc2 := fun W (h : SD w B g g' L l.reverse W) => h.symm.push false q2 (by rw [List.length_reverse]; have := HL9.out; omega)
              have hc3 := fun W (h : SD w B g g' L L.reverse W) => h.pop true
              have hc4 := fun W (h : SD w B g g' l L.reverse W) => h.push true q2 (by have := HL9.out; omega)
              simp only [if_true, ← hLL] at hc1 hc4
              simp only [Bool.false_eq_true, if_false] at hc2
              rw [← hLL] at hL
              simp only [← hL] at hc2
              have g1 : L.getD 0 0 = q2 := by rw [hLL]; rfl
              have g2 : L.tail = l := by rw [hLL]; rfl
              have g3 : L.isEmpty = false := by rw [hLL]; rfl
              simp only [if_true, g1, g2, g3, Bool.not_false] at hc3
              have HLn := Aside0.mk (show L.length ≤ l.length + 1 by rw [hLL]; simp)
              have HC1 := Aside0.mk hc1
              have HC2 := Aside0.mk hc2
              have HC3 := Aside0.mk hc3
              have HC4 := Aside0.mk hc4
              clear hc1 hc2 hc3 hc4 g1 g2 g3 hL hLL
              go_wp2_with fail
              rw [← Hob.out]
              go_at_call 8
              with_reducible refine Calls.mono (HC1.out _ (HSA.out _)) ?_
              rintro e w5 ⟨rfl, hs5, hk5⟩
              have HS5 := Aside0.mk hs5
              have HO5 := Aside0.mk (hk5 _ _ _ (HO0.out _) (by decide) (by decide))
              obtain ⟨y0, y1, y2⟩ := cells3t HO5.out
              clear hs5 hk5
              go_wp2_with fail
              go_at_call 8
              with_reducible refine Calls.mono (HC2.out _ HS5.out) ?_
              rintro e w6 ⟨rfl, hs6, hk6⟩
              have HS6 := Aside0.mk hs6.symm
              have HO6 := Aside0.mk (hk6 _ _ _ HO5.out (by decide) (by decide))
              obtain ⟨s0, s1, s2⟩ := cells3t HO6.out
              clear hs6 hk6
              go_wp2_with fail
              go_at_call 9
              with_reducible refine Calls.mono (HC3.out _ HS6.out) ?_
              rintro e w7 ⟨rfl, hs7, hk7⟩
              have HS7 := Aside0.mk hs7
              have HO7 := Aside0.mk (hk7 _ _ _ HO6.out (by decide) (by decide))
              obtain ⟨t0, t1, t2⟩ := cells3t HO7.out
              clear hs7 hk7
              go_wp2_with fail
              go_at_call 8
              with_reducible refine Calls.mono (HC4.out _ HS7.out) ?_
              rintro e w8 ⟨rfl, hs8, -⟩
              have HS8 := Aside0.mk hs8
              clear hs8
              go_wp2
              go_roundw
              case rel => exact ⟨k2 + 1, L, by have := Hlt.out; omega, by simp, by have := Hll.out; have := HLn.out; omega, HS8.out⟩
              case measure => have := Hlt.out; simp [intOf]; omega
            | false =>
              obtain ⟨X, hX⟩ : ∃ X : Int, X = l.getD 0 0 := ⟨_, rfl⟩
              obtain ⟨b, hb⟩ : ∃ b, b = !l.isEmpty := ⟨_, rfl⟩
              obtain ⟨L, hLL⟩ : ∃ L : List Int, L = l.tail := ⟨_, rfl⟩
              have hc1 := fun W (h : SD w B g g' l l.reverse W) => h.pop true
              have hc2 := fun W (h : SD w B g g' L l.reverse W) => h.symm.pop false
              simp only [if_true, ← hX, ← hb, ← hLL] at hc1
              simp only [Bool.false_eq_true, if_false, rev_isEmpty, rev_last, ← rev_tail, ← hX, ← hb, ← hLL] at hc2
              have HLn := Aside0.mk (show L.length ≤ l.length + 1 by rw [hLL]; simp; omega)
              have HC1 := Aside0.mk hc1
              have HC2 := Aside0.mk hc2
              clear hc1 hc2 hX hb hLL
              go_wp2_with fail
              rw [← Hob.out]
              go_at_call 9
              with_reducible refine Calls.mono (HC1.out _ (HSA.out _)) ?_
              rintro e w5 ⟨rfl, hs5, -⟩
              have HS5 := Aside0.mk hs5
              clear hs5
              go_wp2_with fail
              go_at_call 9
              with_reducible refine Calls.mono (HC2.out _ HS5.out) ?_
              rintro e w6 ⟨rfl, hs6, -⟩
              have HS6 := Aside0.mk hs6.symm
              clear hs6
              go_wp2
              go_roundw
              case rel => exact ⟨k2 + 1, L, by have := Hlt.out; omega, by simp, by have := Hll.out; have := HLn.out; omega, HS6.out⟩
              case measure => have := Hlt.out; simp [intOf]; omega
          | false =>
            cases tb with
            | true =>
              have hL : (l ++ [q2]).reverse = q2 :: l.reverse := by simp
              obtain ⟨L, hLL⟩ : ∃ L : List Int, L = l ++ [q2] := ⟨_, rfl⟩
              have hc1 := fun W (h : SD w B g g' l l.reverse W) => h.push false q2 (by have := HL9.out; omega)
              have hc2 := fun W (h : SD w B g g' L l.reverse W) => h.symm.push true q2 (by rw [List.length_reverse]; have := HL9.out; omega)
              have hc3 := fun W (h : SD w B g g' L L.reverse W) => h.pop false
              have hc4 := fun W (h : SD w B g g' l L.reverse W) => h.push false q2 (by have := HL9.out; omega)
              simp only [Bool.false_eq_true, if_false, ← hLL] at hc1 hc4
              simp only [if_true] at hc2
              rw [← hLL] at hL
              simp only [← hL] at hc2
              have g1 : L.getD (L.length - 1) 0 = q2 := by rw [hLL, List.getD_eq_getElem?_getD]; simp
              have g2 : L.dropLast = l := by rw [hLL]; simp
              have g3 : L.isEmpty = false := by rw [hLL]; simp
              simp only [Bool.false_eq_true, if_false, g1, g2, g3, Bool.not_false] at hc3
              have HLn := Aside0.mk (show L.length ≤ l.length + 1 by rw [hLL]; simp)
              have HC1 := Aside0.mk hc1
              have HC2 := Aside0.mk hc2
              have HC3 := Aside0.mk hc3
              have HC4 := Aside0.mk hc4
              clear hc1 hc2 hc3 hc4 g1 g2 g3 hL hLL
              go_wp2_with fail
              rw [← Hob.out]
              go_at_call 8
              with_reducible refine Calls.mono (HC1.out _ (HSA.out _)) ?_
              rintro e w5 ⟨rfl, hs5, hk5⟩
              have HS5 := Aside0.mk hs5
              have HO5 := Aside0.mk (hk5 _ _ _ (HO0.out _) (by decide) (by decide))
              obtain ⟨y0, y1, y2⟩ := cells3t HO5.out
              clear hs5 hk5
              go_wp2_with fail
              go_at_call 8
              with_reducible refine Calls.mono (HC2.out _ HS5.out) ?_
              rintro e w6 ⟨rfl, hs6, hk6⟩
              have HS6 := Aside0.mk hs6.symm
              have HO6 := Aside0.mk (hk6 _ _ _ HO5.out (by decide) (by decide))
              obtain ⟨s0, s1, s2⟩ := cells3t HO6.out
              clear hs6 hk6
              go_wp2_with fail
              go_at_call 9
              with_reducible refine Calls.mono (HC3.out _ HS6.out) ?_
              rintro e w7 ⟨rfl, hs7, hk7⟩
              have HS7 := Aside0.mk hs7
              have HO7 := Aside0.mk (hk7 _ _ _ HO6.out (by decide) (by decide))
              obtain ⟨t0, t1, t2⟩ := cells3t HO7.out
              clear hs7 hk7
              go_wp2_with fail
              go_at_call 8
              with_reducible refine Calls.mono (HC4.out _ HS7.out) ?_
              rintro e w8 ⟨rfl, hs8, -⟩
              have HS8 := Aside0.mk hs8
              clear hs8
              go_wp2
              go_roundw
              case rel => exact ⟨k2 + 1, L, by have := Hlt.out; omega, by simp, by have := Hll.out; have := HLn.out; omega, HS8.out⟩
              case measure => have := Hlt.out; simp [intOf]; omega
            | false =>
              obtain ⟨X, hX⟩ : ∃ X : Int, X = l.getD (l.length - 1) 0 := ⟨_, rfl⟩
              obtain ⟨b, hb⟩ : ∃ b, b = !l.isEmpty := ⟨_, rfl⟩
              obtain ⟨L, hLL⟩ : ∃ L : List Int, L = l.dropLast := ⟨_, rfl⟩
              have hc1 := fun W (h : SD w B g g' l l.reverse W) => h.pop false
              have hc2 := fun W (h : SD w B g g' L l.reverse W) => h.symm.pop true
              simp only [Bool.false_eq_true, if_false, ← hX, ← hb, ← hLL] at hc1
              simp only [if_true, rev_isEmpty, rev_first, ← rev_dropLast, ← hX, ← hb, ← hLL] at hc2
              have HLn := Aside0.mk (show L.length ≤ l.length + 1 by rw [hLL]; simp; omega)
              have HC1 := Aside0.mk hc1
              have HC2 := Aside0.mk hc2
              clear hc1 hc2 hX hb hLL
              go_wp2_with fail
              rw [← Hob.out]
              go_at_call 9
              with_reducible refine Calls.mono (HC1.out _ (HSA.out _)) ?_
              rintro e w5 ⟨rfl, hs5, -⟩
              have HS5 := Aside0.mk hs5
              clear hs5
              go_wp2_with fail
              go_at_call 9
              with_reducible refine Calls.mono (HC2.out _ HS5.out) ?_
              rintro e w6 ⟨rfl, hs6, -⟩
              have HS6 := Aside0.mk hs6.symm
              clear hs6
              go_wp2
              go_roundw
              case rel => exact ⟨k2 + 1, L, by have := Hlt.out; omega, by simp, by have := Hll.out; have := HLn.out; omega, HS6.out⟩
              case measure => have := Hlt.out; simp [intOf]; omega
        · have e3 : decide ((k2 : Int) < (n : Int)) = false := decide_eq_false (by omega)
          have e4 : decide (k2 < n) = false := decide_eq_false hlt
          have HS2 := Aside0.mk hs
          obtain ⟨wp, rfl⟩ : ∃ wp : World, wp = wr := ⟨_, rfl⟩
          have hkn9 := hkn
          clear hs hlt hkn
          go_wp2_with fail
          go_at_call 10
          with_reducible refine Calls.mono HS2.out.st.all ?_
          rintro e wa ⟨va, rfl, hra, hba, -⟩
          have HRa := Aside0.mk hra
          have HSa := Aside0.mk (HS2.out.below hba)
          clear hra hba
          go_wp2_with fail
          go_at_call 10
          with_reducible refine Calls.mono HSa.out.symm.st.all ?_
          rintro e wb ⟨vb, rfl, hrb, hbb, -⟩
          have HRb := Aside0.mk hrb
          have HRa2 := Aside0.mk (HRa.out.below hbb)
          have HSb := Aside0.mk (HSa.out.below hbb)
          obtain ⟨Aa, ca, ea, -, -⟩ := HRa2.out
          obtain ⟨Ab, cb, eb, -, -⟩ := HRb.out
          rw [List.length_reverse] at eb
          subst ea
          subst eb
          obtain ⟨z, hz⟩ : ∃ z, z = l.length := ⟨_, rfl⟩
          rw [← hz] at HRa2 HRb HRa ⊢
          have Hz := Aside0.mk hz
          have hz9 : (z : Int) ≤ 600 := by omega
          have Hz9 := Aside0.mk (show z ≤ 600 by omega)
          clear hrb hbb hz hll hkn9
          go_wp2_with fail
          go_loopw [132] (fun v132 wr => ∃ k3 : Nat, k3 ≤ z ∧ v132 = .int .i64 k3 ∧ SD w B g g' l l.reverse wr ∧ Rd wr (.slice Aa z ca) l ∧ Rd wr (.slice Ab z cb) l.reverse) (fun v132 _ => z - (intOf v132).toNat)
          case atStart => exact ⟨0, Nat.zero_le _, rfl, HSb.out, HRa2.out, HRb.out⟩
          case round =>
            obtain ⟨k3, hkz, rfl, hs, hra, hrb⟩ := hrel
            have HS3 := Aside0.mk hs
            by_cases hlt : k3 < z
            · have e5 : decide ((k3 : Int) < (z : Int)) = true := decide_eq_true (by omega)
              have e6 : decide (k3 < z) = true := decide_eq_true hlt
              have hzl := Hz.out
              have hkl : k3 < l.length := by omega
              obtain ⟨q, hq⟩ : ∃ q, z = k3 + 1 + q := ⟨z - (k3 + 1), by omega⟩
              obtain ⟨X, hX⟩ : ∃ X, X = l.getD k3 0 := ⟨_, rfl⟩
              have hrv := rev_getD l k3 hkl
              rw [show l.length - 1 - k3 = q by omega, ← hX] at hrv
              have p1 : placeI l.length (k3 : Int) = (k3 : Int) := by unfold placeI; rw [if_neg (by omega)]
              have o1 : okI l.length (k3 : Int) = true := by unfold okI; rw [p1]; simp; omega
              have p2 : placeI l.reverse.length (-1 - (k3 : Int)) = (q : Int) := by unfold placeI; rw [if_pos (by omega), List.length_reverse]; omega
              have o2 : okI l.reverse.length (-1 - (k3 : Int)) = true := by unfold okI; rw [p2]; simp; omega
              have hc1 := fun W (h : SD w B g g' l l.reverse W) => h.st.at_ (k3 : Int) ⟨by omega, by omega⟩
              have hc2 := fun W (h : SD w B g g' l l.reverse W) => h.symm.st.at_ (-1 - (k3 : Int)) ⟨by omega, by omega⟩
              simp only [o1, if_true, p1, Int.toNat_natCast, ← hX] at hc1
              simp only [o2, if_true, p2, Int.toNat_natCast, hrv] at hc2
              have HC1 := Aside0.mk hc1
              have HC2 := Aside0.mk hc2
              have HRA := Aside0.mk hra
              have HRB := Aside0.mk hrb
              have Hlt := Aside0.mk hlt
              have hk9 : (k3 : Int) ≤ 600 := by omega
              have hq9 : (q : Int) ≤ 600 := by omega
              have Hq := Aside0.mk hq
              have Hrv := Aside0.mk hrv
              have HX := Aside0.mk hX
              have Hkl := Aside0.mk hkl
              clear hs hra hrb hlt hkl hrv p1 o1 p2 o2 hc1 hc2 hX hzl hkz hq
              go_wp2_with fail
              go_at_call 11
              with_reducible refine Calls.mono (HC1.out _ HS3.out) ?_
              rintro e w5 ⟨rfl, hb5⟩
              have HS5 := Aside0.mk (HS3.out.below hb5)
              have HA5 := Aside0.mk (HRA.out.below hb5)
              have HB5 := Aside0.mk (HRB.out.below hb5)
              clear hb5
              go_wp2_with fail
              go_at_call 11
              with_reducible refine Calls.mono (HC2.out _ HS5.out) ?_
              rintro e w6 ⟨rfl, hb6⟩
              have HS6 := Aside0.mk (HS5.out.below hb6)
              have HA6 := Aside0.mk (HA5.out.below hb6)
              have HB6 := Aside0.mk (HB5.out.below hb6)
              clear hb6
              obtain ⟨A2, c2, ea, -, -, -, ra⟩ := HA6.out
              obtain ⟨A3, c3, eb, -, -, -, rb⟩ := HB6.out
              injection ea with ea1 ea2 ea3
              injection eb with eb1 eb2 eb3
              subst ea1
              subst eb1
              obtain ⟨ada, rfl, hca⟩ := ra (by have := Hkl.out; omega)
              obtain ⟨adb, rfl, hcb⟩ := rb (by rw [List.length_reverse]; have := Hkl.out; omega)
              have ka := hca k3 Hkl.out
              have kb := hcb q (by rw [List.length_reverse]; have := Hq.out; have := Hz.out; omega)
              rw [← HX.out] at ka
              rw [Hrv.out] at kb
              have j1 : (0 : Int) ≤ (k3 : Int) := Int.natCast_nonneg _
              have j2 : (k3 : Int) < (z : Int) := by have := Hlt.out; omega
              have j3 : (0 : Int) ≤ (q : Int) := Int.natCast_nonneg _
              have j4 : (q : Int) < (z : Int) := by have := Hq.out; omega
              have hw1 : IntKind.i64.wrap ((z : Int) - 1) = (z : Int) - 1 := by rw [IntKind.wrap_i64]; omega
              have hw2 : IntKind.i64.wrap ((z : Int) - 1 - (k3 : Int)) = (q : Int) := by have := Hq.out; rw [IntKind.wrap_i64]; omega
              clear ra rb hca hcb ea2 ea3 eb2 eb3
              go_wp2_with fail
              go_quiet (fail)
              clear hw1 hw2
              go_wp2
              go_roundw
              case rel => exact ⟨k3 + 1, by have := Hlt.out; omega, by simp, HS6.out.below (pw_below_drewN (Below.refl _ _) _), HA6.out.below (pw_below_drewN (Below.refl _ _) _), HB6.out.below (pw_below_drewN (Below.refl _ _) _)⟩
              case measure => have := Hlt.out; simp [intOf]; omega
            · have e5 : decide ((k3 : Int) < (z : Int)) = false := decide_eq_false (by omega)
              have e6 : decide (k3 < z) = false := decide_eq_false hlt
              clear hlt hs hra hrb hkz
              go_wp2_with fail
              go_at_call 6
              with_reducible refine Calls.mono (alive_calls wr) ?_
              rintro e w9 ⟨rfl, hb9⟩
              have H9 := Aside0.mk ((HS3.out.below hb9).st.out)
              clear hb9
              go_wp2
              go_ret
              exact ⟨rfl, H9.out⟩
end Go.Proofs.Ytglkfoldhobflaa.Dq
namespace Go.Proofs.Ytglkfoldhobflaa.X
set_option linter.unusedVariables false
open Go.RowKit Go.Proofs.YtglkfoldhobflaaW.PrintWords Go.Proofs.YtglkfoldhobflaaW.PrintMore Go.Proofs.YtglkfoldhobflaaW.PrintLast Go.Proofs.Ytglkfoldhobflaa.Dq
theorem mewslaw09_DequeTurned.calls (k : Nat) (A0 : Option Addr) (c0 : Nat) (l0 : List Int) (A1 : Option Addr) (c1 : Nat) (l1 : List S29) (r : Bool) (w : World) (hr0 : Kd.C (Kd.int .i64) w A0 l0.length l0) (hc0 : l0.length ≤ c0) (hr1 : Kd.C k29 w A1 l1.length l1) (hc1 : l1.length ≤ c1) (hr_ : Aside0 (r = true)) (h : mewslaw09_DequeTurned.f k l0 l1 = some r) :
    Calls Try.prog 3 #[.slice A0 l0.length c0, .slice A1 l1.length c1] w fun e w' => e = .returned (.bool r) ∧ Below w.heap.size w w' := by
  rw [hr_.out]
  by_cases c : 300 < l0.length ∨ 300 < l1.length
  · exact turned_far A0 A1 c0 c1 l0.length l1.length w c
  · exact turned_near A0 c0 l0 A1 c1 l1 w hr0 hr1 (by omega) (by omega)
end Go.Proofs.Ytglkfoldhobflaa.X
