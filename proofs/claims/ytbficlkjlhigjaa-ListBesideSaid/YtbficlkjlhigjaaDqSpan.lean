/- The deque's span. -/
import Derived.Test.YtbficlkjlhigjaaDqPop
namespace Go.Proofs.Ytbficlkjlhigjaa.Dq
open Go.RowKit Go.Proofs.YtbficlkjlhigjaaW.PrintWords Go.Proofs.YtbficlkjlhigjaaW.PrintMore Go.Proofs.YtbficlkjlhigjaaW.PrintLast
set_option linter.unusedVariables false
set_option linter.unusedSimpArgs false
attribute [local go_sem] max2_int min2_int max_two min_two
/-- From which place to ahead of which one things lie. -/
def spanF (n : Nat) (i : Int) : Int := if i < 0 then (if i + n < 0 then 0 else i + n) else i
def spanT (n : Nat) (j : Int) : Int := if (n : Int) - 1 < (if j < 0 then j + n else j) then (n : Int) - 1 else (if j < 0 then j + n else j)
def spanN (n : Nat) (i j : Int) : Nat × Nat := if spanT n j < spanF n i then (0, 0) else ((spanF n i).toNat, (spanT n j + 1).toNat)
theorem spanF_nonneg (n : Nat) (i : Int) : 0 ≤ spanF n i := by
  unfold spanF
  split
  · split <;> omega
  · omega
theorem spanN_le (n : Nat) (i j : Int) : (spanN n i j).1 ≤ (spanN n i j).2 ∧ (spanN n i j).2 ≤ n := by
  unfold spanN
  have := spanF_nonneg n i
  have : spanT n j ≤ (n : Int) - 1 := by unfold spanT; split <;> omega
  split
  · simp
  · constructor
    · show (spanF n i).toNat ≤ (spanT n j + 1).toNat
      omega
    · show (spanT n j + 1).toNat ≤ n
      omega
set_option maxHeartbeats 4000000 in
theorem span_calls (g n : Nat) (i j : Int) (w : World) (h2 : w.cell? ⟨g, 2, none⟩ = some (.int .i64 n)) (hn : n ≤ 2097152) (hi : Aside0 (-9223372036854775808 ≤ i ∧ i ≤ 9223372036854775807)) (hj : Aside0 (-9223372036854775808 ≤ j ∧ j ≤ 9223372036854775807)) :
    Calls Try.prog 38 #[.pointer (some ⟨g, 0, none⟩), .int .i64 i, .int .i64 j] w fun e w' => e = .returned (.tuple #[.int .i64 ((spanN n i j).1 : Nat), .int .i64 ((spanN n i j).2 : Nat)]) ∧ w = w' := by
  have HL := Aside0.mk (len_calls g n w h2)
  obtain ⟨F, hF0⟩ : ∃ F, F = spanF n i := ⟨_, rfl⟩
  obtain ⟨U, hU0⟩ : ∃ U, U = spanT n j := ⟨_, rfl⟩
  have hF1 : 0 ≤ F := by rw [hF0]; exact spanF_nonneg n i
  have hU1 : U ≤ (n : Int) - 1 := by rw [hU0]; unfold spanT; split <;> omega
  have hU2 : -9223372036854775808 ≤ U := by rw [hU0]; unfold spanT; have := hj.out; split <;> split <;> omega
  by_cases ci : i < 0
  · by_cases cj : j < 0
    · skip
      have c1 : decide (i < 0) = true := decide_eq_true ci
      have hw1 : IntKind.i64.wrap (i + (n : Int)) = i + n := by have := hi.out; rw [IntKind.wrap_i64]; omega
      have hF : spanF n i = F := hF0.symm
      have hmx : (if i + (n : Int) < 0 then 0 else i + (n : Int)) = F := by rw [hF0]; unfold spanF; rw [if_pos ci]
      have c2 : decide (j < 0) = true := decide_eq_true cj
      have hw2 : IntKind.i64.wrap (j + (n : Int)) = j + n := by have := hj.out; rw [IntKind.wrap_i64]; omega
      have hmn : (if (n : Int) - 1 < j + (n : Int) then (n : Int) - 1 else j + (n : Int)) = U := by rw [hU0]; unfold spanT; rw [if_pos cj]
      have hU : spanT n j = U := hU0.symm
      have hn1 : IntKind.i64.wrap ((n : Int) - 1) = (n : Int) - 1 := by rw [IntKind.wrap_i64]; omega
      by_cases cc : U < F
      · have c3 : decide (U < F) = true := decide_eq_true cc
        have e : spanN n i j = (0, 0) := by unfold spanN; rw [hF, hU, if_pos cc]
        rw [e]
        clear cc e hF hU hF0 hU0 ci cj hn hF1 hU1 hU2 h2
        go_enter Try.func38, Try.ntmps38
        go_wp2_with (first | (go_at_call 17; (with_reducible refine HL.out.mono ?_); rintro e w' ⟨rfl, rfl⟩))
        go_ret2
        exact ⟨rfl, rfl⟩
      · have c3 : decide (U < F) = false := decide_eq_false cc
        have hw3 : IntKind.i64.wrap (U + 1) = U + 1 := by rw [IntKind.wrap_i64]; omega
        have e : spanN n i j = (F.toNat, (U + 1).toNat) := by unfold spanN; rw [hF, hU, if_neg cc]
        have e1 : ((spanN n i j).1 : Int) = F := by rw [e]; show ((F.toNat : Nat) : Int) = F; omega
        have e2 : ((spanN n i j).2 : Int) = U + 1 := by rw [e]; show (((U + 1).toNat : Nat) : Int) = U + 1; omega
        rw [e1, e2]
        clear cc e e1 e2 hF hU hF0 hU0 ci cj hn hF1 hU1 hU2 h2
        go_enter Try.func38, Try.ntmps38
        go_wp2_with (first | (go_at_call 17; (with_reducible refine HL.out.mono ?_); rintro e w' ⟨rfl, rfl⟩))
        go_ret2
        exact ⟨rfl, rfl⟩
    · skip
      have c1 : decide (i < 0) = true := decide_eq_true ci
      have hw1 : IntKind.i64.wrap (i + (n : Int)) = i + n := by have := hi.out; rw [IntKind.wrap_i64]; omega
      have hF : spanF n i = F := hF0.symm
      have hmx : (if i + (n : Int) < 0 then 0 else i + (n : Int)) = F := by rw [hF0]; unfold spanF; rw [if_pos ci]
      have c2 : decide (j < 0) = false := decide_eq_false cj
      have hmn : (if (n : Int) - 1 < j then (n : Int) - 1 else j) = U := by rw [hU0]; unfold spanT; rw [if_neg cj]
      have hU : spanT n j = U := hU0.symm
      have hn1 : IntKind.i64.wrap ((n : Int) - 1) = (n : Int) - 1 := by rw [IntKind.wrap_i64]; omega
      by_cases cc : U < F
      · have c3 : decide (U < F) = true := decide_eq_true cc
        have e : spanN n i j = (0, 0) := by unfold spanN; rw [hF, hU, if_pos cc]
        rw [e]
        clear cc e hF hU hF0 hU0 ci cj hn hF1 hU1 hU2 h2
        go_enter Try.func38, Try.ntmps38
        go_wp2_with (first | (go_at_call 17; (with_reducible refine HL.out.mono ?_); rintro e w' ⟨rfl, rfl⟩))
        go_ret2
        exact ⟨rfl, rfl⟩
      · have c3 : decide (U < F) = false := decide_eq_false cc
        have hw3 : IntKind.i64.wrap (U + 1) = U + 1 := by rw [IntKind.wrap_i64]; omega
        have e : spanN n i j = (F.toNat, (U + 1).toNat) := by unfold spanN; rw [hF, hU, if_neg cc]
        have e1 : ((spanN n i j).1 : Int) = F := by rw [e]; show ((F.toNat : Nat) : Int) = F; omega
        have e2 : ((spanN n i j).2 : Int) = U + 1 := by rw [e]; show (((U + 1).toNat : Nat) : Int) = U + 1; omega
        rw [e1, e2]
        clear cc e e1 e2 hF hU hF0 hU0 ci cj hn hF1 hU1 hU2 h2
        go_enter Try.func38, Try.ntmps38
        go_wp2_with (first | (go_at_call 17; (with_reducible refine HL.out.mono ?_); rintro e w' ⟨rfl, rfl⟩))
        go_ret2
        exact ⟨rfl, rfl⟩
  · by_cases cj : j < 0
    · skip
      have c1 : decide (i < 0) = false := decide_eq_false ci
      have hF : spanF n i = F := hF0.symm
      obtain rfl : F = i := by rw [hF0]; unfold spanF; rw [if_neg ci]
      have c2 : decide (j < 0) = true := decide_eq_true cj
      have hw2 : IntKind.i64.wrap (j + (n : Int)) = j + n := by have := hj.out; rw [IntKind.wrap_i64]; omega
      have hmn : (if (n : Int) - 1 < j + (n : Int) then (n : Int) - 1 else j + (n : Int)) = U := by rw [hU0]; unfold spanT; rw [if_pos cj]
      have hU : spanT n j = U := hU0.symm
      have hn1 : IntKind.i64.wrap ((n : Int) - 1) = (n : Int) - 1 := by rw [IntKind.wrap_i64]; omega
      by_cases cc : U < F
      · have c3 : decide (U < F) = true := decide_eq_true cc
        have e : spanN n F j = (0, 0) := by unfold spanN; rw [hF, hU, if_pos cc]
        rw [e]
        clear cc e hF hU hF0 hU0 ci cj hn hF1 hU1 hU2 h2
        go_enter Try.func38, Try.ntmps38
        go_wp2_with (first | (go_at_call 17; (with_reducible refine HL.out.mono ?_); rintro e w' ⟨rfl, rfl⟩))
        go_ret2
        exact ⟨rfl, rfl⟩
      · have c3 : decide (U < F) = false := decide_eq_false cc
        have hw3 : IntKind.i64.wrap (U + 1) = U + 1 := by rw [IntKind.wrap_i64]; omega
        have e : spanN n F j = (F.toNat, (U + 1).toNat) := by unfold spanN; rw [hF, hU, if_neg cc]
        have e1 : ((spanN n F j).1 : Int) = F := by rw [e]; show ((F.toNat : Nat) : Int) = F; omega
        have e2 : ((spanN n F j).2 : Int) = U + 1 := by rw [e]; show (((U + 1).toNat : Nat) : Int) = U + 1; omega
        rw [e1, e2]
        clear cc e e1 e2 hF hU hF0 hU0 ci cj hn hF1 hU1 hU2 h2
        go_enter Try.func38, Try.ntmps38
        go_wp2_with (first | (go_at_call 17; (with_reducible refine HL.out.mono ?_); rintro e w' ⟨rfl, rfl⟩))
        go_ret2
        exact ⟨rfl, rfl⟩
    · skip
      have c1 : decide (i < 0) = false := decide_eq_false ci
      have hF : spanF n i = F := hF0.symm
      obtain rfl : F = i := by rw [hF0]; unfold spanF; rw [if_neg ci]
      have c2 : decide (j < 0) = false := decide_eq_false cj
      have hmn : (if (n : Int) - 1 < j then (n : Int) - 1 else j) = U := by rw [hU0]; unfold spanT; rw [if_neg cj]
      have hU : spanT n j = U := hU0.symm
      have hn1 : IntKind.i64.wrap ((n : Int) - 1) = (n : Int) - 1 := by rw [IntKind.wrap_i64]; omega
      by_cases cc : U < F
      · have c3 : decide (U < F) = true := decide_eq_true cc
        have e : spanN n F j = (0, 0) := by unfold spanN; rw [hF, hU, if_pos cc]
        rw [e]
        clear cc e hF hU hF0 hU0 ci cj hn hF1 hU1 hU2 h2
        go_enter Try.func38, Try.ntmps38
        go_wp2_with (first | (go_at_call 17; (with_reducible refine HL.out.mono ?_); rintro e w' ⟨rfl, rfl⟩))
        go_ret2
        exact ⟨rfl, rfl⟩
      · have c3 : decide (U < F) = false := decide_eq_false cc
        have hw3 : IntKind.i64.wrap (U + 1) = U + 1 := by rw [IntKind.wrap_i64]; omega
        have e : spanN n F j = (F.toNat, (U + 1).toNat) := by unfold spanN; rw [hF, hU, if_neg cc]
        have e1 : ((spanN n F j).1 : Int) = F := by rw [e]; show ((F.toNat : Nat) : Int) = F; omega
        have e2 : ((spanN n F j).2 : Int) = U + 1 := by rw [e]; show (((U + 1).toNat : Nat) : Int) = U + 1; omega
        rw [e1, e2]
        clear cc e e1 e2 hF hU hF0 hU0 ci cj hn hF1 hU1 hU2 h2
        go_enter Try.func38, Try.ntmps38
        go_wp2_with (first | (go_at_call 17; (with_reducible refine HL.out.mono ?_); rintro e w' ⟨rfl, rfl⟩))
        go_ret2
        exact ⟨rfl, rfl⟩
set_option maxHeartbeats 4000000 in
theorem span_nil (i j : Int) (w : World) (hi : Aside0 (-9223372036854775808 ≤ i ∧ i ≤ 9223372036854775807)) (hj : Aside0 (-9223372036854775808 ≤ j ∧ j ≤ 9223372036854775807)) :
    Calls Try.prog 38 #[.pointer none, .int .i64 i, .int .i64 j] w fun e w' => e = .returned (.tuple #[.int .i64 0, .int .i64 0]) ∧ w = w' := by
  have HL := Aside0.mk (len_nil w)
  have hw1 : IntKind.i64.wrap i = i := by have := hi.out; rw [IntKind.wrap_i64]; omega
  have hw2 : IntKind.i64.wrap j = j := by have := hj.out; rw [IntKind.wrap_i64]; omega
  by_cases ci : i < 0
  · have c1 : decide (i < 0) = true := decide_eq_true ci
    by_cases cj : j < 0
    · have c2 : decide (j < 0) = true := decide_eq_true cj
      have c3 : decide (j < 0) = true := decide_eq_true (by omega)
      go_enter Try.func38, Try.ntmps38
      go_wp2_with (first | (go_at_call 17; (with_reducible refine HL.out.mono ?_); rintro e w' ⟨rfl, rfl⟩))
      all_goals (go_ret2; exact ⟨rfl, rfl⟩)
    · have c2 : decide (j < 0) = false := decide_eq_false cj
      go_enter Try.func38, Try.ntmps38
      go_wp2_with (first | (go_at_call 17; (with_reducible refine HL.out.mono ?_); rintro e w' ⟨rfl, rfl⟩))
      all_goals (go_ret2; exact ⟨rfl, rfl⟩)
  · have c1 : decide (i < 0) = false := decide_eq_false ci
    by_cases cj : j < 0
    · have c2 : decide (j < 0) = true := decide_eq_true cj
      go_enter Try.func38, Try.ntmps38
      go_wp2_with (first | (go_at_call 17; (with_reducible refine HL.out.mono ?_); rintro e w' ⟨rfl, rfl⟩))
      all_goals (go_ret2; exact ⟨rfl, rfl⟩)
    · have c2 : decide (j < 0) = false := decide_eq_false cj
      go_enter Try.func38, Try.ntmps38
      go_wp2_with (first | (go_at_call 17; (with_reducible refine HL.out.mono ?_); rintro e w' ⟨rfl, rfl⟩))
      all_goals (go_ret2; exact ⟨rfl, rfl⟩)
end Go.Proofs.Ytbficlkjlhigjaa.Dq
