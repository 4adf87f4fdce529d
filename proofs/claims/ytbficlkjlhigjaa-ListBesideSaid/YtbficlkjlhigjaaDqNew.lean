/- The deque's New, Keep. -/
import Derived.Test.YtbficlkjlhigjaaDqRem
import Derived.Deep.LoopGhost
namespace Go.Proofs.Ytbficlkjlhigjaa.Dq
open Go.RowKit Go.Proofs.YtbficlkjlhigjaaW.PrintWords Go.Proofs.YtbficlkjlhigjaaW.PrintMore Go.Proofs.YtbficlkjlhigjaaW.PrintLast
set_option linter.unusedVariables false
set_option linter.unusedSimpArgs false
attribute [local go_sem ↓] Go.wp_at_zero Go.wp_at_succ
theorem Dq.empty {w : World} {base g : Nat} (hg : base ≤ g) (h : w.heap[g]? = some (.cells #[.slice none 0 0, .int .i64 0, .int .i64 0] 51 (0, 0))) : Dq Value.string 51 9 w base g none [] :=
  ⟨.slice none 0 0, [], 0, rfl, hg, h, own_nil _ _ _ _, rep_nil, by simp⟩
/-- One that nobody made is as one that is empty. -/
theorem Dq.zero {w : World} {base g : Nat} (hg : base ≤ g) (h : w.heap[g]? = some (.cells #[.slice none 0 0, .int .i64 0, .int .i64 0] 51 (0, 0))) : Dq Value.string 51 9 w base g none [] := Dq.empty hg h
def RelN (w : World) (l : List ByteArray) (g : Nat) (v10 : Value) (wr : World) : Prop := ∃ k : Nat, k ≤ l.length ∧ v10 = .int .i64 k ∧ (∃ row, Dq Value.string 51 9 wr w.heap.size g row (l.take k)) ∧ Below w.heap.size w wr
set_option maxHeartbeats 4000000 in
set_option maxRecDepth 100000 in
theorem new_calls (A : Option Addr) (c : Nat) (l : List ByteArray) (w : World) (hr : ReadsOf Value.string ByteArray.empty w A l.length l) (hl : l.length < 1048576) :
    Calls Try.prog 10 #[.slice A l.length c] w fun e w' => ∃ g row, e = .returned (.pointer (some ⟨g, 0, none⟩)) ∧ g = w.heap.size ∧ Dq Value.string 51 9 w' w.heap.size g row l ∧ Below w.heap.size w w' := by
  have HR := Aside0.mk hr
  have Hl := Aside0.mk hl
  obtain ⟨n, hn⟩ : ∃ n, n = l.length := ⟨_, rfl⟩
  rw [← hn]
  have Hn := Aside0.mk hn
  clear hr hl hn
  go_enter Try.func10, Try.ntmps10
  go_wp2
  obtain ⟨W, hW⟩ : ∃ W, W = w.alloc (.cells #[.slice none 0 0, .int .i64 0, .int .i64 0] 51) := ⟨_, rfl⟩
  obtain ⟨g, hg⟩ : ∃ g, g = w.heap.size := ⟨_, rfl⟩
  rw [← hW, ← hg]
  have H0 : RelN w l g (.int .i64 0) W := ⟨0, Nat.zero_le _, rfl, ⟨none, by rw [hW]; exact Dq.empty (by omega) (by rw [hg]; exact blk_new _ _)⟩, by rw [hW]; exact below_alloc (Below.refl _ _) _⟩
  have HRW := Aside0.mk (show ReadsOf Value.string ByteArray.empty W A l.length l by rw [hW]; exact HR.out.below (below_alloc (Below.refl _ _) _))
  have Hg := Aside0.mk hg
  have HS := Aside0.mk H0
  clear hW hg H0
  go_loopw [10] (fun v10 wr => RelN w l g v10 wr) (fun v10 _ => n - (intOf v10).toNat)
  case atStart => exact HS.out
  case round =>
    obtain ⟨k, hk, rfl, ⟨row, hd⟩, hB⟩ := hrel
    rw [← Hn.out] at hk
    by_cases hlt : k < n
    · have c1 : decide ((k : Int) < (n : Int)) = true := decide_eq_true (by omega)
      have c2 : decide (k < n) = true := decide_eq_true hlt
      have hkl : k < l.length := by rw [← Hn.out]; exact hlt
      obtain ⟨ad, rfl, hc⟩ := HR.out.2.2 (by omega)
      have hcell := hc k hkl
      have hcw : wr.cell? (ad.add k) = some (Value.string (l.getD k ByteArray.empty)) := pw_cell_below hB hcell
      obtain ⟨V, hV⟩ : ∃ V, V = l.getD k ByteArray.empty := ⟨_, rfl⟩
      rw [← hV] at hcw
      have hpush := push_calls g w.heap.size row (l.take k) false V wr hd (by rw [List.length_take]; have := Hl.out; omega)
      have hnx : (l.take k ++ [V]) = l.take (k + 1) := by rw [hV, List.take_succ_eq_append_getElem hkl, List.getD_eq_getElem?_getD, List.getElem?_eq_getElem hkl]; rfl
      simp only [Bool.false_eq_true, if_false] at hpush
      rw [hnx] at hpush
      have HPush := Aside0.mk hpush
      have HB := Aside0.mk hB
      have Hk := Aside0.mk hlt
      have hk9 : k ≤ 1048576 := by have := Hl.out; omega
      have i1 : (0 : Int) ≤ (k : Int) := Int.natCast_nonneg _
      have i2 : (k : Int) < (n : Int) := by omega
      clear hd hB hk hlt hkl hc hcell hV hpush hnx
      go_wp2_with (first | (go_at_call 24; (with_reducible refine HPush.out.mono ?_); rintro e w2 ⟨rfl, row2, hd2, hu2⟩; have HD2 := Aside0.mk hd2; have HU2 := Aside0.mk hu2; clear hd2 hu2))
      go_roundw
      case rel => exact ⟨k + 1, by rw [← Hn.out]; exact Hk.out, by simp, ⟨row2, HD2.out⟩, HB.out.trans HU2.out.below⟩
      case measure => have := Hk.out; simp [intOf]; omega
    · have c1 : decide ((k : Int) < (n : Int)) = false := decide_eq_false (by omega)
      have c2 : decide (k < n) = false := decide_eq_false hlt
      rw [List.take_of_length_le (by rw [← Hn.out]; omega)] at hd
      have HD := Aside0.mk hd
      have HB := Aside0.mk hB
      clear hd hB hlt
      go_wp2
      go_ret
      exact ⟨g, row, rfl, Hg.out, HD.out, HB.out⟩
theorem take_dropLast {α : Type} (l : List α) (k : Nat) (h : k + 1 ≤ l.length) : (l.take (k + 1)).dropLast = l.take k := by
  rw [List.dropLast_eq_take, List.take_take]
  congr 1
  simp
  omega
theorem isEmpty_len {α : Type} {l : List α} (h : 0 < l.length) : l.isEmpty = false := by cases l with
  | nil => simp at h
  | cons _ _ => rfl
end Go.Proofs.Ytbficlkjlhigjaa.Dq
