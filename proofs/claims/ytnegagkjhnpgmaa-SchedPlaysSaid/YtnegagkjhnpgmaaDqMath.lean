/- A list that goes round in a room: its laws. No program in sight. -/
namespace Go.Proofs.Ytnegagkjhnpgmaa.Dq
set_option linter.unusedVariables false

/-- Where the thing at a place lies. -/
def slotN (cap from_ i : Nat) : Nat := if from_ + i < cap then from_ + i else from_ + i - cap
/-- A room of things holds a list, from a place on. -/
structure Rep {α : Type} (R : List α) (from_ : Nat) (l : List α) : Prop where
  le : l.length ≤ R.length
  fr : from_ < R.length ∨ (R.length = 0 ∧ from_ = 0)
  at_ : ∀ i (h : i < l.length), R[slotN R.length from_ i]? = some l[i]
theorem slotN_lt {cap f i : Nat} (h : i < cap) (hf : f < cap ∨ (cap = 0 ∧ f = 0)) : slotN cap f i < cap := by
  unfold slotN
  split <;> omega
theorem slotN_inj {cap f i j : Nat} (hi : i < cap) (hj : j < cap) (hf : f < cap ∨ (cap = 0 ∧ f = 0)) (h : slotN cap f i = slotN cap f j) : i = j := by
  unfold slotN at h
  split at h <;> split at h <;> omega
theorem slotN_zero {cap f : Nat} (hf : f < cap) : slotN cap f 0 = f := by
  unfold slotN
  rw [if_pos (by omega)]
  omega
variable {α : Type} {R : List α} {f : Nat} {l : List α}
theorem rep_nil : Rep ([] : List α) 0 [] := ⟨by simp, .inr ⟨rfl, rfl⟩, fun i h => by simp at h⟩
theorem Rep.pos (h : Rep R f l) {i : Nat} (hi : i < l.length) : f < R.length := by
  have := h.le
  rcases h.fr with h1 | ⟨h1, _⟩ <;> omega
theorem Rep.slot_lt (h : Rep R f l) {i : Nat} (hi : i < R.length) : slotN R.length f i < R.length := slotN_lt hi h.fr
/-- A thing in the place of another one. -/
theorem Rep.set_ (h : Rep R f l) {i : Nat} (hi : i < l.length) (v : α) : Rep (R.set (slotN R.length f i) v) f (l.set i v) := by
  have hl := h.le
  refine ⟨by simpa using h.le, by simpa using h.fr, fun j hj => ?_⟩
  have hj' : j < l.length := by simpa using hj
  rw [List.length_set, List.getElem_set, List.getElem?_set]
  by_cases e : i = j
  · subst e
    rw [if_pos rfl, if_pos rfl, if_pos (h.slot_lt (by omega))]
  · rw [if_neg e, if_neg (fun e' => e (slotN_inj (by omega) (by omega) h.fr e'))]
    exact h.at_ j hj'
/-- A thing more, behind. -/
theorem Rep.back (h : Rep R f l) (hr : l.length < R.length) (v : α) : Rep (R.set (slotN R.length f l.length) v) f (l ++ [v]) := by
  refine ⟨by simp; omega, by simpa using h.fr, fun j hj => ?_⟩
  have hj' : j < l.length + 1 := by simpa using hj
  rw [List.length_set, List.getElem?_set, List.getElem_append]
  by_cases e : l.length = j
  · subst e
    rw [if_pos rfl, if_pos (h.slot_lt hr), dif_neg (by omega)]
    simp
  · rw [if_neg (fun e' => e (slotN_inj (by omega) (by omega) h.fr e')), dif_pos (by omega)]
    exact h.at_ j (by omega)
/-- A thing more, ahead. -/
theorem Rep.front (h : Rep R f l) (hr : l.length < R.length) (v : α) (f' : Nat) (hf' : f' = if f = 0 then R.length - 1 else f - 1) : Rep (R.set f' v) f' (v :: l) := by
  have hf := h.fr
  have hlt : f' < R.length := by rw [hf']; split <;> omega
  refine ⟨by simp; omega, .inl (by simpa using hlt), fun j hj => ?_⟩
  rw [List.length_set, List.getElem?_set]
  match j with
  | 0 => rw [slotN_zero hlt, if_pos rfl, if_pos hlt]; rfl
  | j + 1 =>
    have hj' : j < l.length := by simpa using hj
    have e : slotN R.length f' (j + 1) = slotN R.length f j := by
      unfold slotN
      rw [hf']
      split <;> split <;> split <;> omega
    have hne : f' ≠ slotN R.length f' (j + 1) := fun h0 => by
      have := slotN_inj (cap := R.length) (f := f') (i := 0) (j := j + 1) (by omega) (by omega) (.inl hlt) (by rw [slotN_zero hlt]; exact h0)
      omega
    rw [if_neg hne, e, h.at_ j hj']
    rfl
/-- A room that is made anew. -/
theorem Rep.grown (h : Rep R f l) (hr : l.length = R.length) (Z : List α) : Rep (R.drop f ++ R.take f ++ Z) 0 l := by
  have hf := h.fr
  have hlen : (R.drop f ++ R.take f ++ Z).length = R.length + Z.length := by simp; omega
  refine ⟨by omega, ?_, fun i hi => ?_⟩
  · rw [hlen]; omega
  · have e : slotN (R.drop f ++ R.take f ++ Z).length 0 i = i := by
      unfold slotN
      rw [hlen, if_pos (by omega)]
      omega
    rw [e, List.getElem?_append_left (by simp; omega), ← h.at_ i hi]
    unfold slotN
    by_cases c : f + i < R.length
    · rw [if_pos c, List.getElem?_append_left (by simp; omega), List.getElem?_drop]
    · rw [if_neg c, List.getElem?_append_right (by simp; omega), List.getElem?_take, if_pos (by simp; omega)]
      congr 1
      simp
      omega
/-- A thing less, behind. -/
theorem Rep.popBack (h : Rep R f l) (h0 : 0 < l.length) (v : α) : Rep (R.set (slotN R.length f (l.length - 1)) v) f l.dropLast := by
  have hl := h.le
  refine ⟨by simp; omega, by simpa using h.fr, fun j hj => ?_⟩
  have hj' : j < l.length - 1 := by simpa using hj
  rw [List.length_set, List.getElem?_set, if_neg (fun e' => by have := slotN_inj (by omega) (by omega) h.fr e'; omega), List.getElem_dropLast]
  exact h.at_ j (by omega)
/-- A thing less, ahead. -/
theorem Rep.popFront (h : Rep R f l) (h0 : 0 < l.length) (v : α) : Rep (R.set f v) (slotN R.length f 1) l.tail := by
  have hl := h.le
  have hf : f < R.length := h.pos h0
  have hlt : slotN R.length f 1 < R.length := by
    unfold slotN
    split <;> omega
  refine ⟨by simp; omega, .inl (by simpa using hlt), fun j hj => ?_⟩
  have hj' : j < l.length - 1 := by simpa using hj
  have e : slotN R.length (slotN R.length f 1) j = slotN R.length f (j + 1) := by
    unfold slotN
    split <;> split <;> split <;> omega
  rw [List.length_set, List.getElem?_set, e, if_neg (fun e' => by have := slotN_inj (cap := R.length) (f := f) (i := 0) (j := j + 1) (by omega) (by omega) h.fr (by rw [slotN_zero hf]; exact e'); omega), List.getElem_tail]
  exact h.at_ (j + 1) (by omega)
end Go.Proofs.Ytnegagkjhnpgmaa.Dq
