/- The deque's quiet functions: slot, Len, place, span. -/
import Derived.Test.YtbficlkjlhigjaaProg
import Derived.Test.YtbficlkjlhigjaaDqWorld
import Derived.WalkKit
import Derived.WalkLawsBesides
import Derived.WalkSpells
import Derived.OwnWalk
namespace Go.Proofs.Ytbficlkjlhigjaa.Dq
open Go.RowKit Go.Proofs.YtbficlkjlhigjaaW.PrintWords Go.Proofs.YtbficlkjlhigjaaW.PrintMore Go.Proofs.YtbficlkjlhigjaaW.PrintLast
set_option linter.unusedVariables false
set_option linter.unusedSimpArgs false
set_option maxHeartbeats 1000000 in
theorem slot_calls (g f i cap cp : Nat) (A : Option Addr) (w : World) (h0 : w.cell? ⟨g, 0, none⟩ = some (.slice A cap cp)) (h1 : w.cell? ⟨g, 1, none⟩ = some (.int .i64 f)) (hf : f ≤ 2097152) (hc : cap ≤ 2097152) (hi : i ≤ 2097152) :
    Calls Try.prog 36 #[.pointer (some ⟨g, 0, none⟩), .int .i64 i] w fun e w' => e = .returned (.int .i64 (slotN cap f i)) ∧ w = w' := by
  by_cases c : f + i < cap
  · have e : ((slotN cap f i : Nat) : Int) = (f : Int) + (i : Int) := by unfold slotN; rw [if_pos c]; omega
    have c1 : decide ((cap : Int) ≤ (f : Int) + (i : Int)) = false := decide_eq_false (by omega)
    rw [e]
    clear e c
    go_enter Try.func36, Try.ntmps36
    go_wp2
    go_ret
    exact ⟨rfl, rfl⟩
  · have e : ((slotN cap f i : Nat) : Int) = (f : Int) + (i : Int) - (cap : Int) := by unfold slotN; rw [if_neg c]; omega
    have c1 : decide ((cap : Int) ≤ (f : Int) + (i : Int)) = true := decide_eq_true (by omega)
    rw [e]
    clear e c
    go_enter Try.func36, Try.ntmps36
    go_wp2
    go_ret
    exact ⟨rfl, rfl⟩
set_option maxHeartbeats 1000000 in
theorem len_calls (g n : Nat) (w : World) (h2 : w.cell? ⟨g, 2, none⟩ = some (.int .i64 n)) :
    Calls Try.prog 17 #[.pointer (some ⟨g, 0, none⟩)] w fun e w' => e = .returned (.int .i64 n) ∧ w = w' := by
  go_enter Try.func17, Try.ntmps17
  go_wp2
  go_ret
  exact ⟨rfl, rfl⟩
set_option maxHeartbeats 1000000 in
theorem len_nil (w : World) :
    Calls Try.prog 17 #[.pointer none] w fun e w' => e = .returned (.int .i64 0) ∧ w = w' := by
  go_enter Try.func17, Try.ntmps17
  go_wp2
  go_ret
  exact ⟨rfl, rfl⟩
end Go.Proofs.Ytbficlkjlhigjaa.Dq
