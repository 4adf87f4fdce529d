/- The deque's New, Keep. -/
import Derived.Test.YtglkfoldhobflaaDqRem
import Derived.Deep.LoopGhost
namespace Go.Proofs.Ytglkfoldhobflaa.Dq
open Go.RowKit Go.Proofs.YtglkfoldhobflaaW.PrintWords Go.Proofs.YtglkfoldhobflaaW.PrintMore Go.Proofs.YtglkfoldhobflaaW.PrintLast
set_option linter.unusedVariables false
set_option linter.unusedSimpArgs false
attribute [local go_sem ↓] Go.wp_at_zero Go.wp_at_succ
theorem Dq.empty {w : World} {base g : Nat} (hg : base ≤ g) (h : w.heap[g]? = some (.cells #[.slice none 0 0, .int .i64 0, .int .i64 0] 50 (0, 0))) : Dq (Value.int .i64) 50 3 w base g none [] :=
  ⟨.slice none 0 0, [], 0, rfl, hg, h, own_nil _ _ _ _, rep_nil, by simp⟩
/-- One that nobody made is as one that is empty. -/
theorem Dq.zero {w : World} {base g : Nat} (hg : base ≤ g) (h : w.heap[g]? = some (.cells #[.slice none 0 0, .int .i64 0, .int .i64 0] 50 (0, 0))) : Dq (Value.int .i64) 50 3 w base g none [] := Dq.empty hg h
def RelN (w : World) (l : List Int) (g : Nat) (v10 : Value) (wr : World) : Prop := ∃ k : Nat, k ≤ l.length ∧ v10 = .int .i64 k ∧ (∃ row, Dq (Value.int .i64) 50 3 wr w.heap.size g row (l.take k)) ∧ Below w.heap.size w wr
set_option maxHeartbeats 4000000 in
set_option maxRecDepth 100000 in
theorem new_calls (A : Option Addr) (c : Nat) (l : List Int) (w : World) (hr : ReadsOf (Value.int .i64) 0 w A l.length l) (hl : l.length < 1048576) :
    Calls Try.prog 7 #[.slice A l.length c] w fun e w' => ∃ g row, e = .returned (.pointer (some ⟨g, 0, none⟩)) ∧ g = w.heap.size ∧ Dq (Value.int .i64) 50 3 w' w.heap.size g row l ∧ Below w.heap.size w w' := by
  have HR := Aside0.mk hr
  have Hl := Aside0.mk hl
  obtain ⟨n, hn⟩ : ∃ n, n = l.length := ⟨_, rfl⟩
  rw [← hn]
  have Hn := Aside0.mk hn
  clear hr hl hn
  go_enter Try.func7, Try.ntmps7
  go_wp2
  obtain ⟨W, hW⟩ : ∃ W, W = w.alloc (.cells #[.slice none 0 0, .int .i64 0, .int .i64 0] 50) := ⟨_, rfl⟩
  obtain ⟨g, hg⟩ : ∃ g, g = w.heap.size := ⟨_, rfl⟩
  rw [← hW, ← hg]
  have H0 : RelN w l g (.int .i64 0) W := ⟨0, Nat.zero_le _, rfl, ⟨none, by rw [hW]; exact Dq.empty (by omega) (by rw [hg]; exact blk_new _ _)⟩, by rw [hW]; exact below_alloc (Below.refl _ _) _⟩
  have HRW := Aside0.mk (show ReadsOf (Value.int .i64) 0 W A l.length l by rw [hW]; exact HR.out.below (below_alloc (Below.refl _ _) _))
  have Hg := Aside0.mk hg
  have HS := Aside0.mk H0
  clear hW hg H0
  go_loopw [10] (fun v10 wr => RelN w l g v10 wr) (fun v10 _ => n - (intOf v10).toNat)
  case atStart => exact HS.out
  case round =>
    obtain ⟨k, hk, rfl, ⟨row, hd⟩, hB⟩ := hrel
    rw [← Hn.out] at hk
    by_cases hlt : k < n
    · have c1 : decide ((k : Int) < (n : Int)) = true := decide_eq_true (by omega)
      have c2 : decide (k < n) = true := decide_eq_true hlt
      have hkl : k < l.length := by rw [← Hn.out]; exact hlt
      obtain ⟨ad, rfl, hc⟩ := HR.out.2.2 (by omega)
      have hcell := hc k hkl
      have hcw : wr.cell? (ad.add k) = some ((Value.int .i64) (l.getD k 0)) := pw_cell_below hB hcell
      obtain ⟨V, hV⟩ : ∃ V, V = l.getD k 0 := ⟨_, rfl⟩
      rw [← hV] at hcw
      have hpush := push_calls g w.heap.size row (l.take k) false V wr hd (by rw [List.length_take]; have := Hl.out; omega)
      have hnx : (l.take k ++ [V]) = l.take (k + 1) := by rw [hV, List.take_succ_eq_append_getElem hkl, List.getD_eq_getElem?_getD, List.getElem?_eq_getElem hkl]; rfl
      simp only [Bool.false_eq_true, if_false] at hpush
      rw [hnx] at hpush
      have HPush := Aside0.mk hpush
      have HB := Aside0.mk hB
      have Hk := Aside0.mk hlt
      have hk9 : k ≤ 1048576 := by have := Hl.out; omega
      have i1 : (0 : Int) ≤ (k : Int) := Int.natCast_nonneg _
      have i2 : (k : Int) < (n : Int) := by omega
      clear hd hB hk hlt hkl hc hcell hV hpush hnx
      go_wp2_with (first | (go_at_call 8; (with_reducible refine HPush.out.mono ?_); rintro e w2 ⟨rfl, row2, hd2, hu2⟩; have HD2 := Aside0.mk hd2; have HU2 := Aside0.mk hu2; clear hd2 hu2))
      go_roundw
      case rel => exact ⟨k + 1, by rw [← Hn.out]; exact Hk.out, by simp, ⟨row2, HD2.out⟩, HB.out.trans HU2.out.below⟩
      case measure => have := Hk.out; simp [intOf]; omega
    · have c1 : decide ((k : Int) < (n : Int)) = false := decide_eq_false (by omega)
      have c2 : decide (k < n) = false := decide_eq_false hlt
      rw [List.take_of_length_le (by rw [← Hn.out]; omega)] at hd
      have HD := Aside0.mk hd
      have HB := Aside0.mk hB
      clear hd hB hlt
      go_wp2
      go_ret
      exact ⟨g, row, rfl, Hg.out, HD.out, HB.out⟩
theorem take_dropLast {α : Type} (l : List α) (k : Nat) (h : k + 1 ≤ l.length) : (l.take (k + 1)).dropLast = l.take k := by
  rw [List.dropLast_eq_take, List.take_take]
  congr 1
  simp
  omega
theorem isEmpty_len {α : Type} {l : List α} (h : 0 < l.length) : l.isEmpty = false := by cases l with
  | nil => simp at h
  | cons _ _ => rfl
set_option maxHeartbeats 4000000 in
set_option maxRecDepth 100000 in
theorem keep_calls (g base : Nat) (row : Option Nat) (l : List Int) (i j : Int) (w : World) (h : Dq (Value.int .i64) 50 3 w base g row l) (hi : Aside0 (-9223372036854775808 ≤ i ∧ i ≤ 9223372036854775807)) (hj : Aside0 (-9223372036854775808 ≤ j ∧ j ≤ 9223372036854775807)) :
    Calls Try.prog 21 #[.pointer (some ⟨g, 0, none⟩), .int .i64 i, .int .i64 j] w fun e w' => e = .returned (.tuple #[]) ∧ Dq (Value.int .i64) 50 3 w' base g row (cutL l (spanN l.length i j).1 (spanN l.length i j).2) ∧ Upd w w' base g row row := by
  have hsp := spanN_le l.length i j
  have HSP := Aside0.mk (span_calls g l.length i j w h.len.1 h.len.2 hi hj)
  obtain ⟨a, ha⟩ : ∃ a, a = (spanN l.length i j).1 := ⟨_, rfl⟩
  obtain ⟨b, hb⟩ : ∃ b, b = (spanN l.length i j).2 := ⟨_, rfl⟩
  rw [← ha, ← hb] at hsp HSP ⊢
  have HAB := Aside0.mk hsp
  have H := Aside0.mk h
  have hb9 : b ≤ 2097152 := by have := h.len.2; omega
  have HN := Aside0.mk h.len.2
  clear h ha hb hsp hi hj
  go_enter Try.func21, Try.ntmps21
  go_wp2_with (first | (go_at_call 30; (with_reducible refine HSP.out.mono ?_); rintro e w' ⟨rfl, rfl⟩))
  go_loopg [] (l.length - b) (fun q wr => ∃ k, k = b + q ∧ k ≤ l.length ∧ Dq (Value.int .i64) 50 3 wr base g row (l.take k) ∧ Upd w wr base g row row)
  case atStart => exact ⟨l.length, by have := HAB.out; omega, Nat.le_refl _, by rw [List.take_length]; exact H.out, Upd.refl _ _ _ _⟩
  case round =>
    obtain ⟨k, hkq, hkl, hd, hu⟩ := hrel
    have hlen : (l.take k).length = k := by simp; omega
    have hL := len_calls g _ wr hd.len.1
    rw [hlen] at hL
    have HL := Aside0.mk hL
    have HU := Aside0.mk hu
    have hk9 : k ≤ 2097152 := by have := HN.out; omega
    by_cases hlt : b < k
    · have c1 : decide ((b : Int) < (k : Int)) = true := decide_eq_true (by omega)
      have c2 : decide (b < k) = true := decide_eq_true hlt
      obtain ⟨p, rfl⟩ : ∃ p, k = p + 1 := ⟨k - 1, by omega⟩
      have c3 : decide ((b : Int) < (p : Int) + 1) = true := decide_eq_true (by omega)
      have hP := pop_calls g base row _ false wr hd
      rw [isEmpty_len (by rw [hlen]; omega)] at hP
      simp only [Bool.false_eq_true, if_false, take_dropLast l p hkl] at hP
      obtain ⟨X, hX⟩ : ∃ X : Int, X = (l.take (p + 1)).getD ((l.take (p + 1)).length - 1) 0 := ⟨_, rfl⟩
      rw [← hX] at hP
      have HP := Aside0.mk hP
      have Hq := Aside0.mk hkq
      have Hl := Aside0.mk hkl
      have Hlt := Aside0.mk hlt
      clear hP hX hd hu hL hlen hkq hkl hlt
      go_wp2_with (first | (go_at_call 25; (with_reducible refine HL.out.mono ?_); rintro e w' ⟨rfl, rfl⟩) | (go_at_call 9; (with_reducible refine HP.out.mono ?_); rintro e w2 ⟨rfl, hd2, hu2⟩; have HD2 := Aside0.mk hd2; have HU2 := Aside0.mk hu2; clear hd2 hu2))
      go_roundg (p - b)
      case measure => have := Hq.out; have := Hlt.out; omega
      case rel => exact ⟨p, by have := Hlt.out; omega, by have := Hl.out; omega, HD2.out, HU.out.trans HU2.out⟩
    · have c1 : decide ((b : Int) < (k : Int)) = false := decide_eq_false (by omega)
      have c2 : decide (b < k) = false := decide_eq_false hlt
      obtain rfl : k = b := by omega
      have HD := Aside0.mk hd
      clear hd hu hL hlen hkq hkl hlt
      go_wp2_with (first | (go_at_call 25; (with_reducible refine HL.out.mono ?_); rintro e w' ⟨rfl, rfl⟩))
      obtain ⟨wo, rfl⟩ : ∃ wo : World, wo = wr := ⟨_, rfl⟩
      obtain ⟨go, rfl⟩ : ∃ go : Nat, go = gk := ⟨_, rfl⟩
      go_loopg [1] a (fun q v1 wr2 => v1 = .int .i64 q ∧ q ≤ a ∧ Dq (Value.int .i64) 50 3 wr2 base g row ((l.take k).drop (a - q)) ∧ Upd w wr2 base g row row)
      case atStart => exact ⟨rfl, Nat.le_refl _, by rw [Nat.sub_self]; exact HD.out, HU.out⟩
      case round =>
        obtain ⟨rfl, hqa, hd, hu2⟩ := hrel
        have hlen : ((l.take k).drop (a - gk)).length = k - (a - gk) := by simp; have := HAB.out; omega
        have hL2 := len_calls g _ wr hd.len.1
        have hP := pop_calls g base row _ true wr hd
        rw [hlen] at hL2
        have HL2 := Aside0.mk hL2
        have HU2 := Aside0.mk hu2
        have HQ := Aside0.mk hqa
        have hq9 : gk ≤ 2097152 := by have := HAB.out; omega
        by_cases hlt : 0 < gk
        · have hpos : 0 < k - (a - gk) := by have := HAB.out; omega
          have d1 : decide ((0 : Int) < (gk : Int)) = true := decide_eq_true (by omega)
          have d2 : decide (0 < gk) = true := decide_eq_true hlt
          rw [isEmpty_len (by rw [hlen]; exact hpos)] at hP
          simp only [if_true, List.tail_drop] at hP
          have hst : a - gk + 1 = a - (gk - 1) := by omega
          rw [hst] at hP
          obtain ⟨X, hX⟩ : ∃ X : Int, X = ((l.take k).drop (a - gk)).getD 0 0 := ⟨_, rfl⟩
          rw [← hX] at hP
          obtain ⟨z, hz⟩ : ∃ z, k - (a - gk) = z := ⟨_, rfl⟩
          rw [hz] at HL2 hpos
          have d3 : decide ((0 : Int) < (z : Int)) = true := decide_eq_true (by omega)
          have d4 : decide (0 < z) = true := decide_eq_true hpos
          have HP := Aside0.mk hP
          have Hlt := Aside0.mk hlt
          have i1 : (1 : Int) ≤ (gk : Int) := by omega
          obtain ⟨y, hy⟩ : ∃ y, gk = y + 1 := ⟨gk - 1, by omega⟩
          have Hy := Aside0.mk hy
          clear hP hX hd hu2 hL2 hlen hqa hlt hst hz hpos hy
          go_wp2_with (first | (go_at_call 25; (with_reducible refine HL2.out.mono ?_); rintro e w' ⟨rfl, rfl⟩) | (go_at_call 9; (with_reducible refine HP.out.mono ?_); rintro e w2 ⟨rfl, hd2, hu2⟩; have HD2 := Aside0.mk hd2; have HU3 := Aside0.mk hu2; clear hd2 hu2))
          go_roundg (gk - 1)
          case measure => have := Hlt.out; omega
          case rel => exact ⟨by congr 1; have := Hlt.out; omega, by have := HQ.out; omega, HD2.out, HU2.out.trans HU3.out⟩
        · have hz : gk = 0 := by omega
          subst hz
          have d1 : decide ((0 : Int) < ((0 : Nat) : Int)) = false := by decide
          rw [Nat.sub_zero] at hd
          have HD2 := Aside0.mk hd
          clear hP hd hu2 hL2 hlen hqa hlt HL2
          go_wp2
          exact bodyPost_end (results_none rfl _ _ _) rfl ⟨rfl, HD2.out, HU2.out⟩
theorem keep_nil (i j : Int) (w : World) (hi : Aside0 (-9223372036854775808 ≤ i ∧ i ≤ 9223372036854775807)) (hj : Aside0 (-9223372036854775808 ≤ j ∧ j ≤ 9223372036854775807)) :
    Calls Try.prog 21 #[.pointer none, .int .i64 i, .int .i64 j] w fun e w' => e = .returned (.tuple #[]) ∧ w = w' := by
  have HSP := Aside0.mk (span_nil i j w hi hj)
  have HL := Aside0.mk (len_nil w)
  clear hi hj
  go_enter Try.func21, Try.ntmps21
  go_wp2_with (first | (go_at_call 30; (with_reducible refine HSP.out.mono ?_); rintro e w' ⟨rfl, rfl⟩))
  go_loopg [] 0 (fun q wr => w = wr)
  case atStart => rfl
  case round =>
    subst hrel
    go_wp2_with (first | (go_at_call 25; (with_reducible refine HL.out.mono ?_); rintro e w' ⟨rfl, rfl⟩))
    go_loopg [1] 0 (fun q v1 wr => v1 = .int .i64 0 ∧ w = wr)
    case atStart => exact ⟨rfl, rfl⟩
    case round =>
      obtain ⟨rfl, rfl⟩ := hrel
      go_wp2
      exact bodyPost_end (results_none rfl _ _ _) rfl ⟨rfl, rfl⟩
end Go.Proofs.Ytglkfoldhobflaa.Dq
