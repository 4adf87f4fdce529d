/- Whether a row of numbers has one; the rounds of a place, told as a quiet call. -/
import Derived.Test.YtnegagkjhnpgmaaScStep
import Derived.Test.YtnegagkjhnpgmaaX1
import Derived.IntWalk
namespace Go.Proofs.Ytnegagkjhnpgmaa.Sc
open Go.RowKit Go.Proofs.YtnegagkjhnpgmaaW.PrintWords Go.Proofs.YtnegagkjhnpgmaaW.PrintMore Go.Proofs.YtnegagkjhnpgmaaW.PrintLast Go.Proofs.Ytnegagkjhnpgmaa.Dq Go.Proofs.Ytnegagkjhnpgmaa.X
set_option linter.unusedVariables false
set_option linter.unusedSimpArgs false
theorem rd_int (l : List Int) (i : Nat) (h : i < l.length) : rd l (i : Int) = l[i] := by
  unfold rd
  simp [h]
theorem index_run (l : List Int) (s : Int) (hl : l.length ≤ 1000000000) : ∀ (m i : Nat), i + m = l.length → ∃ r, slices_Index_int_int.l0 (m + 1) l s (l.length : Int) (i : Int) = some r ∧ (decide (r ≥ 0)) = decide (s ∈ l.drop i)
  | 0, i, h => by
    refine ⟨-1, ?_, ?_⟩
    · unfold slices_Index_int_int.l0
      rw [if_neg (by omega)]
    · rw [List.drop_eq_nil_of_le (by omega)]
      rfl
  | m + 1, i, h => by
    have hi : i < l.length := by omega
    have hd : l.drop i = l[i] :: l.drop (i + 1) := List.drop_eq_getElem_cons hi
    unfold slices_Index_int_int.l0
    rw [if_pos (by omega), if_pos (by omega), if_pos (by omega), rd_int l i hi]
    by_cases e : s = l[i]
    · rw [if_pos e]
      refine ⟨_, rfl, ?_⟩
      rw [hd, decide_eq_true (show ((i : Int)) ≥ 0 by omega)]
      exact (decide_eq_true (by rw [← e]; exact List.mem_cons_self)).symm
    · rw [if_neg e, IntWalk.wrap64_in _ (by omega)]
      obtain ⟨r, h1, h2⟩ := index_run l s hl m (i + 1) (by omega)
      refine ⟨r, h1, h2.trans ?_⟩
      rw [hd]
      apply decide_eq_decide.2
      rw [List.mem_cons]
      exact ⟨.inr, fun h => h.resolve_left e⟩
theorem contains_calls (A : Option Addr) (c : Nat) (l : List Int) (s : Int) (w : World) (hr : Kd.C (Kd.int .i64) w A l.length l) (hc : l.length ≤ c) (hl : l.length ≤ 1000000000) :
    Calls Try.prog 29 #[.slice A l.length c, .int .i64 s] w fun e w' => e = .returned (.bool (decide (s ∈ l))) ∧ Below w.heap.size w w' ∧ w'.heap = w.heap := by
  have hf : slices_Contains_int_int.f (l.length + 1) l s = some (decide (s ∈ l)) := by
    obtain ⟨r, h1, h2⟩ := index_run l s hl l.length 0 (by omega)
    unfold slices_Contains_int_int.f slices_Index_int_int.f
    rw [show ((0 : Nat) : Int) = 0 from rfl] at h1
    rw [h1, Option.bind_some, h2, List.drop_zero]
  refine (slices_Contains_int_int.calls (l.length + 1) A c l s _ w hr hc hf).mono fun e w' he => ?_
  obtain ⟨he, ⟨m, rfl⟩⟩ := he
  exact ⟨he, pw_below_drewN (Below.refl _ _) m, rfl⟩
/-- Next, plainly: the first job whose handle does not wait; those ahead of it go aside. -/
def nx (W : List Int) : List Jb → (Int → List Jb) → Option Jb × List Jb × (Int → List Jb)
  | [], S => (none, [], S)
  | x :: q, S => if x.h ∈ W then nx W q (put S x) else (some x, q, S)
theorem nx_wait {W : List Int} {x : Jb} (q : List Jb) (S : Int → List Jb) (h : x.h ∈ W) : nx W (x :: q) S = nx W q (put S x) := if_pos h
theorem nx_free {W : List Int} {x : Jb} (q : List Jb) (S : Int → List Jb) (h : ¬ x.h ∈ W) : nx W (x :: q) S = (some x, q, S) := if_neg h
/-- How many things a deque at a block has, in a world. -/
def mz (d : Nat) (W : World) : Nat := match W.cell? ⟨d, 2, none⟩ with
  | some (.int _ n) => n.toNat
  | _ => 0
theorem mz_of {W : World} {base d : Nat} {A : Option Addr} {l : List Jb} (h : DqJ W base d A l) : mz d W = l.length := by
  unfold mz
  rw [h.len.1]
  rfl
end Go.Proofs.Ytnegagkjhnpgmaa.Sc
