/- What the functions of str come to, as lists of bytes. No memory. -/
import Derived.Test.YtjinfomobjocfaaYNumRef
import Derived.Test.YtjinfomobjocfaaX
import Derived.Test.YtjinfomobjocfaaStrGet
namespace Go.Proofs.Ytjinfomobjocfaa.St
open Go.RowKit Go.Proofs.YtjinfomobjocfaaW.PrintWords Go.Proofs.YtjinfomobjocfaaW.PrintMore Go.Proofs.Ytjinfomobjocfaa.Y Go.Proofs.Ytjinfomobjocfaa.X
set_option linter.unusedVariables false
set_option linter.unusedSimpArgs false

/-! A text in which another one stands -/
theorem lay_get (u t : List UInt8) (k i : Nat) (h : k + t.length ≤ u.length) : (lay u k t)[i]? = if i < k then u[i]? else if i < k + t.length then t[i - k]? else u[i]? := by
  unfold lay
  by_cases h1 : i < k
  · rw [if_pos h1, List.append_assoc, List.getElem?_append_left (by rw [List.length_take]; omega), List.getElem?_take_of_lt h1]
  · rw [if_neg h1]
    by_cases h2 : i < k + t.length
    · rw [if_pos h2, List.getElem?_append_left (by rw [List.length_append, List.length_take]; omega), List.getElem?_append_right (by rw [List.length_take]; omega), List.length_take, Nat.min_eq_left (by omega)]
    · rw [if_neg h2, List.getElem?_append_right (by rw [List.length_append, List.length_take]; omega), List.getElem?_drop]
      congr 1
      rw [List.length_append, List.length_take]
      omega
theorem wideL_get (s : List UInt8) (n i : Nat) : (wideL s n)[i]? = if i < s.length then s[i]? else if i < n then some 0 else none := by
  unfold wideL
  rw [lay_get _ _ _ _ (by simp; exact Nat.le_max_right _ _), if_neg (by omega), Nat.zero_add, Nat.sub_zero]
  by_cases h : i < s.length
  · rw [if_pos h, if_pos h]
  · rw [if_neg h, if_neg h, List.getElem?_replicate]
    by_cases h2 : i < n
    · rw [if_pos h2, if_pos (by omega)]
    · rw [if_neg h2, if_neg (by omega)]
/-- The byte at a place of a text in which another one stands. -/
def setF (s t : List UInt8) (k i : Nat) : UInt8 := if k ≤ i ∧ i < k + t.length then t.getD (i - k) 0 else s.getD i 0
def setL (s t : List UInt8) (k : Nat) : List UInt8 := lay (wideL s (k + t.length)) k t
theorem setL_length (s t : List UInt8) (k : Nat) : (setL s t k).length = max (k + t.length) s.length := by
  unfold setL
  rw [lay_length _ _ _ (by rw [wideL_length]; omega), wideL_length]
theorem setL_get (s t : List UInt8) (k i : Nat) (h : i < (setL s t k).length) : (setL s t k)[i] = setF s t k i := by
  have e : (setL s t k)[i]? = some (setF s t k i) := by
    have hlt : i < max (k + t.length) s.length := by rw [← setL_length s t k]; exact h
    clear h
    unfold setL setF
    rw [lay_get _ _ _ _ (by rw [wideL_length]; omega), wideL_get]
    by_cases h1 : i < k
    · rw [if_pos h1, if_neg (show ¬ (k ≤ i ∧ i < k + t.length) by omega)]
      by_cases h2 : i < s.length
      · rw [if_pos h2, List.getD_eq_getElem?_getD, List.getElem?_eq_getElem h2]; rfl
      · rw [if_neg h2, if_pos (show i < k + t.length by omega), List.getD_eq_getElem?_getD, List.getElem?_eq_none (by omega)]; rfl
    · rw [if_neg h1]
      by_cases h3 : i < k + t.length
      · rw [if_pos h3, if_pos ⟨by omega, h3⟩, List.getD_eq_getElem?_getD, List.getElem?_eq_getElem (by omega)]; rfl
      · rw [if_neg h3, if_neg (show ¬ (k ≤ i ∧ i < k + t.length) by omega)]
        have h2 : i < s.length := by omega
        rw [if_pos h2, List.getD_eq_getElem?_getD, List.getElem?_eq_getElem h2]; rfl
  rw [List.getElem?_eq_getElem h] at e
  injection e
theorem setL_take (s t : List UInt8) (k i : Nat) (h : i < (setL s t k).length) : (setL s t k).take (i + 1) = (setL s t k).take i ++ [setF s t k i] := by
  rw [List.take_succ_eq_append_getElem h, setL_get _ _ _ _ h]
def setR (s : ByteArray) (k : Int) (t : ByteArray) : ByteArray × Int :=
  if k < 0 then (⟨#[]⟩, 3) else if t.size = 0 then (s, 0) else if 1048576 < k + t.size then (⟨#[]⟩, 6) else (⟨(setL s.data.toList t.data.toList k.toNat).toArray⟩, 0)
theorem set_is (s : ByteArray) (k : Int) (t : ByteArray) (hs : s.size ≤ 140737488351232) : str_Set.f s k t = some (setR s k t) := by
  unfold str_Set.f setR setL
  rw [← ba_size t]
  split
  · rfl
  · split
    · rfl
    · split
      · rfl
      · first | rfl | rw [if_pos hs]
theorem at_f (s : ByteArray) (i : Nat) : mewsref20_at.f s (i : Int) = some ((s.data.toList.getD i 0).toNat : Int) := by
  have hn := ba_size s
  unfold mewsref20_at.f
  by_cases h : i < s.size
  · rw [if_pos (by omega), if_pos (by omega), bt_nat s i h, List.getD_eq_getElem?_getD, List.getElem?_eq_getElem (by omega)]
    rfl
  · rw [if_neg (by omega), List.getD_eq_getElem?_getD, List.getElem?_eq_none (by omega)]
    rfl
theorem w_succ (i : Nat) (h : i < 3000000) : wrap64 ((i : Int) + 1) = ((i + 1 : Nat) : Int) := by rw [w64 (by omega) (by omega)]; omega
theorem w_add (K t : Nat) (h : K + t ≤ 2000000) : wrap64 ((K : Int) + (t : Int)) = (K : Int) + (t : Int) := w64 (by omega) (by omega)
theorem w_sub (i K : Nat) {t : Nat} (h : i < 3000000) (h2 : K + t ≤ 2000000) : wrap64 ((i : Int) - (K : Int)) = (i : Int) - (K : Int) := w64 (by omega) (by omega)
theorem small_of {i d K t s : Nat} (h : i + (d + 1) = max (K + t) s) (h1 : K + t ≤ 2000000) (h2 : s ≤ 100000) : i < 3000000 := by omega
theorem acc_small (l : List UInt8) (i : Nat) (h : i < 3000000) : (ints (l.take i)).length < 140737488355328 := by
  rw [ints_length, List.length_take]
  exact Nat.lt_of_le_of_lt (Nat.min_le_left _ _) (Nat.lt_trans h (by decide))
theorem ref_set_ev (s : ByteArray) (k : Int) (t : ByteArray) (hs : s.size ≤ 100000) (ht : t.size ≤ 100000) (hk : -9223372036854775808 ≤ k ∧ k ≤ 9223372036854775807) : Ev (fun q => mewsref20_Set.f q s k t) (setR s k t) := by
  unfold mewsref20_Set.f setR
  have hn := ba_size s
  have hm := ba_size t
  by_cases h0 : k < 0
  · rw [if_pos h0]
    exact ev_pos h0 (ev_some rfl)
  rw [if_neg h0]
  refine ev_neg h0 ?_
  rw [ba_toList]
  by_cases h1 : t.size = 0
  · rw [if_pos h1]
    exact ev_pos (List.length_eq_zero_iff.1 (by omega)) (ev_some rfl)
  rw [if_neg h1]
  refine ev_neg (fun h => h1 (by rw [hm, h]; rfl)) ?_
  have hno : Ev (fun q => mewsref20_Set.j0 q s k t true) (⟨#[]⟩, 6) := by
    refine ev_round ?_
    simp only [mewsref20_Set.j0]
    exact ev_pos (by first | rfl | trivial) (ev_some rfl)
  by_cases h2 : k > 1048576
  · rw [if_pos (by omega)]
    exact ev_pos h2 hno
  refine ev_neg h2 ?_
  rw [w64 (by omega) (by omega)]
  by_cases h3 : 1048576 < k + (t.size : Int)
  · rw [if_pos h3, decide_eq_true (show k + (t.size : Int) > 1048576 from h3)]
    exact hno
  rw [if_neg h3, decide_eq_false (show ¬ k + (t.size : Int) > 1048576 from h3)]
  obtain ⟨K, rfl⟩ : ∃ K : Nat, k = K := ⟨k.toNat, by omega⟩
  simp only [Int.toNat_natCast]
  have hget : ∃ L : List UInt8, L = setL s.data.toList t.data.toList K ∧ L.length = max (K + t.size) s.size ∧ ∀ i, i < L.length → L.take (i + 1) = L.take i ++ [setF s.data.toList t.data.toList K i] :=
    ⟨_, rfl, by rw [setL_length, ← hn, ← hm], fun i hi => setL_take _ _ _ _ hi⟩
  obtain ⟨L, hLL, hL, hLt⟩ := hget
  rw [← hLL]
  clear hLL
  have hz1 : K + t.size ≤ 2000000 := by omega
  have hz2 := hs
  clear hk h0 h2 h3 hno
  have hstep : ∀ d i, i + d = L.length → Ev (fun q => mewsref20_Set.l0 q s t (K : Int) (ints (L.take i)) (i : Int)) (⟨L.toArray⟩, 0) := by
    intro d
    induction d with
    | zero =>
      intro i hi
      rw [hL] at hi
      refine ev_round ?_
      simp only [mewsref20_Set.l0]
      refine ev_neg (by omega) ?_
      rw [w64 (by omega) (by omega), decide_eq_false (by omega)]
      refine ev_round ?_
      simp only [mewsref20_Set.j2]
      refine ev_neg (by decide) (ev_some ?_)
      rw [strOf_ints, List.take_of_length_le (by rw [hL]; omega)]
    | succ d ih =>
      intro i hi
      have hi2 : i < L.length := by omega
      have ih := ih (i + 1) (by omega)
      rw [hLt i hi2, ← ints_snoc] at ih
      rw [hL] at hi
      have e1 := Aside0.mk (w_succ i (small_of hi hz1 hz2))
      have e2 := Aside0.mk (w_add K t.size hz1)
      have e3 := Aside0.mk (w_sub i K (small_of hi hz1 hz2) hz1)
      have hacc := Aside0.mk (acc_small L i (small_of hi hz1 hz2))
      clear hi2
      have hj : Ev (fun q => mewsref20_Set.j2 q s t (K : Int) (ints (L.take i)) (i : Int) true) (⟨L.toArray⟩, 0) := by
        refine ev_round ?_
        simp only [mewsref20_Set.j2]
        rw [e2.out, e1.out]
        refine ev_pos (by first | rfl | trivial) ?_
        have hother : ¬ (K ≤ i ∧ i < K + t.data.toList.length) → Ev (fun q => (mewsref20_at.f s (i : Int)).bind fun z => if (ints (L.take i)).length < 140737488355328 then mewsref20_Set.l0 q s t (K : Int) (ints (L.take i) ++ [z]) ((i + 1 : Nat) : Int) else none) (⟨L.toArray⟩, 0) := by
          intro h
          refine ev_bind0 (at_f s i) (ev_pos hacc.out ?_)
          unfold setF at ih
          rw [if_neg h] at ih
          exact ih
        by_cases h4 : K ≤ i
        · refine ev_pos (show (i : Int) ≥ (K : Int) by omega) ?_
          by_cases h5 : i < K + t.size
          · refine ev_pos (show (i : Int) < (K : Int) + (t.size : Int) by omega) ?_
            obtain ⟨j, rfl⟩ : ∃ j, i = K + j := ⟨i - K, by omega⟩
            have h6 : j < t.size := by omega
            have e4 : ((K + j : Nat) : Int) - (K : Int) = (j : Int) := by omega
            have hv : setF s.data.toList t.data.toList K (K + j) = t.data.toList[j]'(by rw [← hm]; exact h6) := by
              unfold setF
              rw [if_pos ⟨h4, by rw [← hm]; exact h5⟩, Nat.add_sub_cancel_left, List.getD_eq_getElem?_getD, List.getElem?_eq_getElem (by rw [← hm]; exact h6)]
              rfl
            rw [hv] at ih
            rw [e3.out, e4, bt_nat t j h6]
            exact ev_pos (Int.natCast_nonneg j) (ev_pos (Int.ofNat_lt.2 h6) (ev_pos hacc.out ih))
          · exact ev_neg (show ¬ (i : Int) < (K : Int) + (t.size : Int) by omega) (hother (fun hh => h5 (by rw [hm]; exact hh.2)))
        · exact ev_neg (show ¬ (i : Int) ≥ (K : Int) by omega) (hother (fun hh => h4 hh.1))
      refine ev_round ?_
      simp only [mewsref20_Set.l0]
      by_cases h4 : i < s.size
      · exact ev_pos (by omega) hj
      · refine ev_neg (by omega) ?_
        rw [e2.out, decide_eq_true (by omega)]
        exact hj
  refine ev_round ?_
  simp only [mewsref20_Set.j0]
  refine ev_neg (by decide) ?_
  have := hstep L.length 0 (by omega)
  simpa [ints] using this
def appR (s t : ByteArray) : ByteArray × Int := if s.size + t.size ≤ 1048576 then (s ++ t, 0) else (⟨#[]⟩, 6)
theorem append_is (s t : ByteArray) (hs : s.size ≤ 1000000) (ht : t.size ≤ 1000000) : str_Append.f s t = some (appR s t) := by
  unfold str_Append.f appR
  rw [if_neg (by omega), w64 (by omega) (by omega)]
  by_cases h : s.size + t.size ≤ 1048576
  · rw [if_neg (by omega), if_pos (by omega), if_pos h]
  · rw [if_pos (by omega), if_neg h]
theorem ref_append_is (s t : ByteArray) (hs : s.size ≤ 1000000) (ht : t.size ≤ 1000000) : mewsref20_Append.f s t = some (appR s t) := by
  unfold mewsref20_Append.f appR
  rw [w64 (by omega) (by omega)]
  by_cases h : s.size + t.size ≤ 1048576
  · rw [if_neg (by omega), if_pos (by omega), if_pos h]
  · rw [if_pos (by omega), if_neg h]
end Go.Proofs.Ytjinfomobjocfaa.St
