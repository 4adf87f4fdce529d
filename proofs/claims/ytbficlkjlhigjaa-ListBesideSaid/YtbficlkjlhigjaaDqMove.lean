/- Lists whose things are moved by one: put in, taken out. No program in sight. -/
import Derived.Test.YtbficlkjlhigjaaDqMath
namespace Go.Proofs.Ytbficlkjlhigjaa.Dq
set_option linter.unusedVariables false
section
variable {α : Type} (l : List α) (v d : α) (i k : Nat)
theorem getD_of_get? {l : List α} {j : Nat} {x : α} (h : l[j]? = some x) : l.getD j d = x := by rw [List.getD_eq_getElem?_getD, h]; rfl
/-- What came ahead goes to its place: k things have moved. -/
def insF : List α := l.take k ++ (v :: l).drop k
theorem insF_zero : insF l v 0 = v :: l := by simp [insF]
theorem insF_len (h : k ≤ l.length) : (insF l v k).length = l.length + 1 := by simp [insF]; omega
theorem insF_get (h : k < l.length) : (insF l v k)[k + 1]? = some l[k] := by
  unfold insF
  rw [List.getElem?_append_right (by simp; omega), List.length_take, List.getElem?_drop, Nat.min_eq_left (by omega), show k + (k + 1 - k) = k + 1 by omega, List.getElem?_cons_succ, List.getElem?_eq_getElem h]
theorem insF_step (h : k < l.length) : (insF l v k).set k ((insF l v k).getD (k + 1) d) = insF l v (k + 1) := by
  rw [getD_of_get? d (insF_get l v k h)]
  unfold insF
  rw [List.set_append_right _ _ (by simp; omega), List.length_take, Nat.min_eq_left (by omega), Nat.sub_self]
  have e : (v :: l).drop k = (v :: l)[k]'(by simp; omega) :: (v :: l).drop (k + 1) := List.drop_eq_getElem_cons (by simp; omega)
  rw [e, List.set_cons_zero, List.take_succ_eq_append_getElem h, List.append_assoc]
  rfl
theorem insF_end (h : k ≤ l.length) : (insF l v k).set k v = l.take k ++ v :: l.drop k := by
  unfold insF
  rw [List.set_append_right _ _ (by simp; omega), List.length_take, Nat.min_eq_left (by omega), Nat.sub_self]
  have e : (v :: l).drop k = (v :: l)[k]'(by simp; omega) :: (v :: l).drop (k + 1) := List.drop_eq_getElem_cons (by simp; omega)
  rw [e, List.set_cons_zero]
  rfl
/-- What came behind goes to its place: down to k things have moved. -/
def insB : List α := (l ++ [v]).take (k + 1) ++ l.drop k
theorem insB_top : insB l v l.length = l ++ [v] := by rw [insB, List.take_of_length_le (by simp), List.drop_length, List.append_nil]
theorem insB_len (h : k ≤ l.length) : (insB l v k).length = l.length + 1 := by simp [insB]; omega
theorem insB_get (h0 : 0 < k) (h : k ≤ l.length) : (insB l v k)[k - 1]? = some (l[k - 1]'(by omega)) := by
  unfold insB
  rw [List.getElem?_append_left (by simp; omega), List.getElem?_take, if_pos (by omega), List.getElem?_append_left (by omega), List.getElem?_eq_getElem (by omega)]
theorem insB_step (h0 : 0 < k) (h : k ≤ l.length) : (insB l v k).set k ((insB l v k).getD (k - 1) d) = insB l v (k - 1) := by
  rw [getD_of_get? d (insB_get l v k h0 h)]
  obtain ⟨j, rfl⟩ : ∃ j, k = j + 1 := ⟨k - 1, by omega⟩
  unfold insB
  simp only [Nat.add_sub_cancel]
  rw [List.take_succ_eq_append_getElem (show j + 1 < (l ++ [v]).length by simp; omega), List.append_assoc, List.set_append_right _ _ (by simp; omega)]
  have e1 : (List.take (j + 1) (l ++ [v])).length = j + 1 := by simp; omega
  rw [e1, Nat.sub_self, List.singleton_append, List.set_cons_zero, List.drop_eq_getElem_cons (show j < l.length by omega)]
theorem insB_end (h : k ≤ l.length) : (insB l v k).set k v = l.take k ++ v :: l.drop k := by
  unfold insB
  rw [List.take_succ_eq_append_getElem (show k < (l ++ [v]).length by simp; omega), List.append_assoc, List.set_append_right _ _ (by simp; omega)]
  have e1 : (List.take k (l ++ [v])).length = k := by simp; omega
  rw [e1, Nat.sub_self, List.singleton_append, List.set_cons_zero, List.take_append_of_le_length h]
/-- What is taken out goes to the front: down to k things have moved. -/
def remF : List α := l.take (k + 1) ++ ((l.take i).drop k ++ l.drop (i + 1))
theorem remF_top (h : i < l.length) : remF l i i = l := by
  unfold remF
  rw [List.drop_of_length_le (by simp; omega), List.nil_append, List.take_append_drop]
theorem remF_len (hk : k ≤ i) (h : i < l.length) : (remF l i k).length = l.length := by simp [remF]; omega
theorem remF_get (h0 : 0 < k) (hk : k ≤ i) (h : i < l.length) : (remF l i k)[k - 1]? = some (l[k - 1]'(by omega)) := by
  unfold remF
  rw [List.getElem?_append_left (by simp; omega), List.getElem?_take, if_pos (by omega), List.getElem?_eq_getElem (by omega)]
theorem remF_step (h0 : 0 < k) (hk : k ≤ i) (h : i < l.length) : (remF l i k).set k ((remF l i k).getD (k - 1) d) = remF l i (k - 1) := by
  rw [getD_of_get? d (remF_get l i k h0 hk h)]
  obtain ⟨j, rfl⟩ : ∃ j, k = j + 1 := ⟨k - 1, by omega⟩
  unfold remF
  simp only [Nat.add_sub_cancel]
  rw [List.take_succ_eq_append_getElem (show j + 1 < l.length by omega), List.append_assoc, List.set_append_right _ _ (by simp; omega)]
  have e1 : (List.take (j + 1) l).length = j + 1 := by simp; omega
  rw [e1, Nat.sub_self, List.singleton_append, List.set_cons_zero]
  have e2 : (l.take i).drop j = l[j]'(by omega) :: (l.take i).drop (j + 1) := by
    rw [List.drop_eq_getElem_cons (by simp; omega)]
    simp
  rw [e2]
  rfl
theorem remF_end (h : i < l.length) : (remF l i 0).tail = l.take i ++ l.drop (i + 1) := by
  unfold remF
  cases l with
  | nil => simp at h
  | cons x l => simp
/-- What is taken out goes to the end: up to k things have moved. -/
def remB : List α := l.take i ++ ((l.take (k + 1)).drop (i + 1) ++ l.drop k)
theorem remB_top (h : i < l.length) : remB l i i = l := by
  unfold remB
  rw [List.drop_of_length_le (by simp; omega), List.nil_append, List.take_append_drop]
theorem remB_len (hk : i ≤ k) (h : k < l.length) : (remB l i k).length = l.length := by simp [remB]; omega
theorem remB_split (hk : i ≤ k) (h : k < l.length) : remB l i k = (l.take i ++ (l.take (k + 1)).drop (i + 1)) ++ l[k] :: l.drop (k + 1) := by
  unfold remB
  rw [List.append_assoc, List.drop_eq_getElem_cons h]
theorem remB_pre (hk : i ≤ k) (h : k < l.length) : (l.take i ++ (l.take (k + 1)).drop (i + 1)).length = k := by simp; omega
theorem remB_get (hk : i ≤ k) (h : k + 1 < l.length) : (remB l i k)[k + 1]? = some l[k + 1] := by
  rw [remB_split l i k hk (by omega), List.getElem?_append_right (by rw [remB_pre l i k hk (by omega)]; omega), remB_pre l i k hk (by omega), show k + 1 - k = 1 by omega]
  simp
theorem remB_step (hk : i ≤ k) (h : k + 1 < l.length) : (remB l i k).set k ((remB l i k).getD (k + 1) d) = remB l i (k + 1) := by
  rw [getD_of_get? d (remB_get l i k hk h), remB_split l i k hk (by omega), List.set_append_right _ _ (by rw [remB_pre l i k hk (by omega)]; omega), remB_pre l i k hk (by omega), Nat.sub_self, List.set_cons_zero]
  unfold remB
  have e : (l.take (k + 2)).drop (i + 1) = (l.take (k + 1)).drop (i + 1) ++ [l[k + 1]] := by
    rw [List.take_succ_eq_append_getElem h, List.drop_append_of_le_length (by simp; omega)]
  rw [show k + 1 + 1 = k + 2 by omega, e]
  simp
theorem remB_end (h : i < l.length) : (remB l i (l.length - 1)).dropLast = l.take i ++ l.drop (i + 1) := by
  rw [remB_split l i (l.length - 1) (by omega) (by omega), List.drop_of_length_le (show l.length ≤ l.length - 1 + 1 by omega), List.dropLast_concat, show l.length - 1 + 1 = l.length by omega, List.take_length]
end
end Go.Proofs.Ytbficlkjlhigjaa.Dq
