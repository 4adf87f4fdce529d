/- What the laws of lines share. No memory. -/
import Derived.Test.YthelnfnkhcjngaaLineJoin
import Derived.Test.YthelnfnkhcjngaaX6
import Derived.Test.YthelnfnkhcjngaaX9
import Derived.Test.YthelnfnkhcjngaaX0
namespace Go.Proofs.Ythelnfnkhcjngaa.Pure
open Go.RowKit Go.Proofs.YthelnfnkhcjngaaW.PrintWords Go.Proofs.YthelnfnkhcjngaaW.PrintMore Go.Proofs.Ythelnfnkhcjngaa.Y Go.Proofs.Ythelnfnkhcjngaa.X Go.Proofs.Ythelnfnkhcjngaa.LM
set_option linter.unusedVariables false
set_option linter.unusedSimpArgs false

theorem alive_ev : Ev (fun k => mewslaw04_alive.f k) true := Ev.of mewslaw04_alive.mono (k := 60) (by decide +kernel)
theorem far_l (l : List ByteArray) (hl : l.length ≤ 1000000000000000) : ∀ (n j : Nat), l.length - j ≤ n → j ≤ l.length → ∀ x : Int, ∃ b, Ev (fun k => mewslaw04_far.l0 k l x l (l.length : Int) (j : Int)) b ∧ (b = false → l.length ≤ 100 ∧ ∀ s ∈ l.drop j, s.size ≤ 2000) := by
  intro n
  have hfin : ∀ j, j ≤ l.length → ¬ j < l.length → ∀ x : Int, ∃ b, Ev (fun k => mewslaw04_far.l0 k l x l (l.length : Int) (j : Int)) b ∧ (b = false → l.length ≤ 100 ∧ ∀ s ∈ l.drop j, s.size ≤ 2000) := by
    intro j h2 hj x
    rw [List.drop_of_length_le (by omega)]
    by_cases h100 : (l.length : Int) > 100
    · refine ⟨true, ev_round ?_, fun h => by cases h⟩
      simp only [mewslaw04_far.l0]
      exact ev_neg (by omega) (ev_pos h100 (ev_some rfl))
    · refine ⟨decide (x > 4000), ev_round ?_, fun _ => ⟨by omega, by simp⟩⟩
      simp only [mewslaw04_far.l0]
      exact ev_neg (by omega) (ev_neg h100 (ev_some rfl))
  induction n with
  | zero => intro j h1 h2 x; exact hfin j h2 (by omega) x
  | succ n ih =>
    intro j h1 h2 x
    by_cases hj : j < l.length
    · by_cases hs : (l[j]).size > 2000
      · refine ⟨true, ev_round ?_, fun h => by cases h⟩
        simp only [mewslaw04_far.l0]
        rw [rdOf_nat _ l j hj]
        exact ev_pos (by omega) (ev_pos (by omega) (ev_pos (by omega) (ev_pos (by omega) (ev_some rfl))))
      · obtain ⟨b, hb, hb2⟩ := ih (j + 1) (by omega) (by omega) (wrap64 (x + ((l[j]).size : Int)))
        refine ⟨b, ev_round ?_, fun h => ⟨(hb2 h).1, ?_⟩⟩
        · simp only [mewslaw04_far.l0]
          rw [rdOf_nat _ l j hj, w64 (i := (j : Int) + 1) (by omega) (by omega)]
          exact ev_pos (by omega) (ev_pos (by omega) (ev_pos (by omega) (ev_neg (by omega) hb)))
        · rw [List.drop_eq_getElem_cons hj]
          intro s hs'
          rcases List.mem_cons.1 hs' with rfl | h3
          · omega
          · exact (hb2 h).2 s h3
    · exact hfin j h2 hj x
theorem far_ev (l : List ByteArray) (hl : l.length ≤ 1000000000000000) : ∃ b, Ev (fun k => mewslaw04_far.f k l) b ∧ (b = false → l.length ≤ 100 ∧ ∀ s ∈ l, s.size ≤ 2000) := far_l l hl l.length 0 (by omega) (by omega) 0
theorem same_l (a b : List ByteArray) (hab : a.length = b.length) (hl : a.length ≤ 1000000000) : ∀ (n j : Nat), a.length - j ≤ n → j ≤ a.length → Ev (fun k => mewsref02_Same.l0 k a b (j : Int)) (decide (a.drop j = b.drop j)) := by
  intro n
  have hfin : ∀ j, ¬ j < a.length → Ev (fun k => mewsref02_Same.l0 k a b (j : Int)) (decide (a.drop j = b.drop j)) := by
    intro j hj
    rw [List.drop_of_length_le (by omega), List.drop_of_length_le (by omega)]
    refine ev_round ?_
    simp only [mewsref02_Same.l0]
    exact ev_neg (by omega) (ev_some (by simp))
  induction n with
  | zero => intro j h1 h2; exact hfin j (by omega)
  | succ n ih =>
    intro j h1 h2
    by_cases hj : j < a.length
    · have hj2 : j < b.length := by omega
      refine ev_round ?_
      simp only [mewsref02_Same.l0]
      rw [rdOf_nat _ a j hj, rdOf_nat _ b j hj2, w1 j (by omega)]
      refine ev_pos (by omega) (ev_pos (by omega) (ev_pos (by omega) ?_))
      rw [List.drop_eq_getElem_cons hj, List.drop_eq_getElem_cons hj2]
      by_cases he : a[j] = b[j]
      · refine ev_pos (by rw [he]) ?_
        have := ih (j + 1) (by omega) (by omega)
        have e : decide (a[j] :: a.drop (j + 1) = b[j] :: b.drop (j + 1)) = decide (a.drop (j + 1) = b.drop (j + 1)) := by
          rw [decide_eq_decide, he]; simp only [List.cons.injEq, true_and]
        rw [e]
        exact this
      · refine ev_neg (fun h => he (ba_eq h)) (ev_some ?_)
        symm
        rw [decide_eq_false_iff_not]
        intro h
        injection h with h1 _
        exact he h1
    · exact hfin j hj
theorem same_ev (a b : List ByteArray) (hl : a.length ≤ 1000000000) : Ev (fun k => mewsref02_Same.f k a b) (decide (a = b)) := by
  unfold mewsref02_Same.f
  by_cases h : a.length = b.length
  · have := same_l a b h hl a.length 0 (by omega) (by omega)
    rw [List.drop_zero, List.drop_zero] at this
    exact ev_pos (by omega) this
  · refine ev_neg (by omega) (ev_some ?_)
    symm
    rw [decide_eq_false_iff_not]
    rintro rfl
    exact h rfl
theorem same_self (a : List ByteArray) (hl : a.length ≤ 1000000000) : Ev (fun k => mewsref02_Same.f k a a) true := by
  have := same_ev a a hl
  rw [decide_eq_true rfl] at this
  exact this
theorem turnL_fst_le (x : UInt8) (r : List UInt8) : 1 + (turnL x r).2.length ≤ (x :: r).length := by
  have := turnL_le x r; simp; omega
theorem quotedL_len (m : UInt8) : ∀ (n : Nat) (l : List UInt8), l.length ≤ n → ∀ x r, quotedL m l = some (x, r) → x.length + r.length ≤ l.length
  | n, [], hl, x, r, h => by rw [quotedL_nil] at h; cases h
  | 0, c :: l, hl, x, r, h => by simp at hl
  | n + 1, c :: l, hl, x, r, h => by
    have hs := stepL_le m c l
    simp only [List.length_cons] at hl ⊢
    rw [quotedL_cons] at h
    split at h
    · split at h
      · simp only [Option.some.injEq, Prod.mk.injEq] at h
        obtain ⟨rfl, rfl⟩ := h
        simp
      · cases h
    · simp only [Option.map_eq_some_iff] at h
      obtain ⟨⟨p1, p2⟩, hp, hq⟩ := h
      simp only [Prod.mk.injEq] at hq
      obtain ⟨rfl, rfl⟩ := hq
      have := quotedL_len m n _ (by omega) _ _ hp
      simp only [List.length_cons]
      omega
theorem wordL_len : ∀ (l x r : List UInt8), wordL l = some (x, r) → x.length + r.length ≤ l.length
  | [], x, r, h => by simp [wordL] at h; obtain ⟨rfl, rfl⟩ := h; simp
  | c :: l, x, r, h => by
    rw [wordL] at h
    split at h
    · simp only [Option.some.injEq, Prod.mk.injEq] at h
      obtain ⟨rfl, rfl⟩ := h
      simp
    · split at h
      · have := quotedL_len _ _ _ (Nat.le_refl _) _ _ h
        simp; omega
      · simp only [Option.map_eq_some_iff] at h
        obtain ⟨⟨p1, p2⟩, hp, hq⟩ := h
        simp only [Prod.mk.injEq] at hq
        obtain ⟨rfl, rfl⟩ := hq
        have := wordL_len l _ _ hp
        simp; omega
theorem splitL_len : ∀ (n : Nat) (l : List UInt8), l.length ≤ n → ∀ ws, splitL l = some ws → ws.length ≤ l.length ∧ ∀ w ∈ ws, w.length ≤ l.length
  | n, [], hl, ws, h => by rw [splitL_nil] at h; cases h; simp
  | 0, c :: l, hl, ws, h => by simp at hl
  | n + 1, c :: l, hl, ws, h => by
    simp only [List.length_cons] at hl ⊢
    by_cases hc : isBl c = true
    · rw [splitL_blank _ _ hc] at h
      obtain ⟨h1, h2⟩ := splitL_len n l (by omega) ws h
      exact ⟨by omega, fun w hw => by have := h2 w hw; omega⟩
    · have hc' : isBl c = false := by simpa using hc
      cases hw : wordL (c :: l) with
      | none => rw [splitL_none _ _ hc' hw] at h; cases h
      | some p =>
        obtain ⟨w, r⟩ := p
        have hlt := wordL_lt c l w r hc' hw
        have hlen := wordL_len _ _ _ hw
        simp only [List.length_cons] at hlt hlen
        rw [splitL_some _ _ _ _ hc' hw] at h
        simp only [Option.map_eq_some_iff] at h
        obtain ⟨a', ha, rfl⟩ := h
        obtain ⟨h1, h2⟩ := splitL_len n r (by omega) a' ha
        refine ⟨by simp; omega, fun v hv => ?_⟩
        rcases List.mem_cons.1 hv with rfl | hv
        · omega
        · have := h2 v hv; omega
theorem tailL_len (m : Nat) : ∀ ls : List (List UInt8), (∀ w ∈ ls, w.length ≤ m) → (tailL ls).length ≤ ls.length * (4 * m + 3)
  | [], h => by simp [tailL]
  | a :: ls, h => by
    have ih := tailL_len m ls fun w hw => h w (by simp [hw])
    have h1 := argL_len a
    have h2 := h a (by simp)
    have e : (tailL (a :: ls)).length = 1 + (argL a).length + (tailL ls).length := by simp [tailL]; omega
    rw [e, List.length_cons, Nat.succ_mul]
    omega
theorem joinL_len (m : Nat) (ls : List (List UInt8)) (h : ∀ w ∈ ls, w.length ≤ m) : (joinL ls).length ≤ ls.length * (4 * m + 3) := by
  cases ls with
  | nil => simp [joinL]
  | cons a ls =>
    have h0 := tailL_len m ls fun w hw => h w (by simp [hw])
    have h1 := argL_len a
    have h2 := h a (by simp)
    rw [joinL, List.length_append, List.length_cons, Nat.succ_mul]
    omega
theorem bs_len (l : List ByteArray) (m : Nat) (h : ∀ s ∈ l, s.size ≤ m) : ∀ w ∈ bs l, w.length ≤ m := by
  intro w hw
  obtain ⟨s, hs, rfl⟩ := List.mem_map.1 hw
  have := h s hs
  rw [ba_size] at this
  exact this
theorem res_nil (o : Option (List (List UInt8))) : res [] o = ((o.getD []).map ofL, o.isSome) := by cases o <;> simp [res]
theorem ofL_app (a b : List UInt8) : ofL (a ++ b) = ofL a ++ ofL b := by
  apply ba_ext
  rw [ba_append]
  rfl
end Go.Proofs.Ythelnfnkhcjngaa.Pure
