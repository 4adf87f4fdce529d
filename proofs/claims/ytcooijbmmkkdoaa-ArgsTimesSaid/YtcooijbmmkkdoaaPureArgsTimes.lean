/- For all texts and numbers: any bound, and any time of an end, are the document's, or refused (ArgsTimes returns true); no condition beyond what the statement itself reads. -/
import Derived.Test.YtcooijbmmkkdoaaArgs
import Derived.Test.YtcooijbmmkkdoaaYNumRef
import Derived.Test.YtcooijbmmkkdoaaXDArgsTimes
namespace Go.Proofs.Ytcooijbmmkkdoaa.Pure
open Go.RowKit Go.Proofs.YtcooijbmmkkdoaaW.PrintWords Go.Proofs.YtcooijbmmkkdoaaW.PrintMore Go.Proofs.Ytcooijbmmkkdoaa.Y Go.Proofs.Ytcooijbmmkkdoaa.X
set_option linter.unusedVariables false
set_option linter.unusedSimpArgs false

/-- What a number behind a bracket, or none, makes of a bound. -/
def numB (op : Bool) (l : List UInt8) : Int × Int × Bool × Bool := if (parseP l).2 = true then (0, (parseP l).1, op, true) else (0, 0, false, false)
def opB (l : List UInt8) : Bool := decide (l.head? = some 40)
def boundR (s : ByteArray) : Int × Int × Bool × Bool :=
  if (up s).toList = [45, 73, 78, 70] then (-1, 0, false, true) else if (up s).toList = [43, 73, 78, 70] ∨ (up s).toList = [73, 78, 70] then (1, 0, false, true)
  else numB (opB s.data.toList) (if opB s.data.toList then s.data.toList.drop 1 else s.data.toList)
theorem drop1 (s : ByteArray) : (s.extract 1 s.size).data.toList = s.data.toList.drop 1 := by
  rw [ba_extract, List.take_of_length_le]
  rw [List.length_drop, ← ba_size]; omega
theorem op_at (s : ByteArray) (h : 0 < s.size) : (bt s 0 == 40) = opB s.data.toList := by
  obtain ⟨c, hc, hb⟩ := at_cons s 0 h
  have hb' : bt s 0 = (c.toNat : Int) := hb
  rw [List.drop_zero] at hc
  unfold opB
  rw [hb', hc]
  simp only [List.head?_cons, Option.some.injEq]
  by_cases h : c = 40
  · rw [h]; rfl
  · rw [decide_eq_false h, beq_eq_false_iff_ne]
    intro h2
    apply h
    apply UInt8.toNat_inj.1
    have : (40 : UInt8).toNat = 40 := rfl
    omega
theorem bound_tail (s : ByteArray) (b : Bool) (hb : b = opB s.data.toList) (h1 : b = true → 0 < s.size) : Ev (fun k => args_Bound.j0 k s b) (numB (opB s.data.toList) (if opB s.data.toList then s.data.toList.drop 1 else s.data.toList)) := by
  rw [← hb]
  refine ev_round ?_
  simp only [args_Bound.j0]
  unfold numB
  cases b with
  | true =>
    have h0 := h1 rfl
    have hp := parse_ev (s.extract 1 s.size)
    rw [drop1] at hp
    refine ev_pos rfl (ev_pos (by omega) (ev_bind hp ?_))
    simp only [if_true]
    by_cases hq : (parseP (s.data.toList.drop 1)).2 = true
    · exact ev_pos hq (ev_some (if_pos hq).symm)
    · exact ev_neg hq (ev_some (if_neg hq).symm)
  | false =>
    refine ev_neg (by decide) (ev_bind (parse_ev s) ?_)
    simp only [Bool.false_eq_true, if_false]
    by_cases hq : (parseP s.data.toList).2 = true
    · exact ev_pos hq (ev_some (if_pos hq).symm)
    · exact ev_neg hq (ev_some (if_neg hq).symm)
theorem rbound_tail (s : ByteArray) (hs : s.size ≤ 1000000) (b : Bool) (hb : b = opB s.data.toList) (h1 : b = true → 0 < s.size) : Ev (fun k => mewsref29_Bound.j1 k s false b) (numB (opB s.data.toList) (if opB s.data.toList then s.data.toList.drop 1 else s.data.toList)) := by
  rw [← hb]
  refine ev_round ?_
  simp only [mewsref29_Bound.j1]
  unfold numB
  cases b with
  | true =>
    have h0 := h1 rfl
    have hsz : (s.extract 1 s.size).size ≤ 140737488351232 := by
      rw [ba_size, drop1, List.length_drop, ← ba_size]; omega
    have hp := ref_parse_ev (s.extract 1 s.size) hsz
    rw [drop1] at hp
    refine ev_pos rfl (ev_pos (by omega) (ev_bind hp ?_))
    simp only [if_true]
    by_cases hq : (parseP (s.data.toList.drop 1)).2 = true
    · exact ev_pos hq (ev_some (if_pos hq).symm)
    · exact ev_neg hq (ev_some (if_neg hq).symm)
  | false =>
    refine ev_neg (by decide) (ev_bind (ref_parse_ev s (by omega)) ?_)
    simp only [Bool.false_eq_true, if_false]
    by_cases hq : (parseP s.data.toList).2 = true
    · exact ev_pos hq (ev_some (if_pos hq).symm)
    · exact ev_neg hq (ev_some (if_neg hq).symm)
theorem size_pos (s : ByteArray) : ¬ s.toList = [] ↔ 0 < s.size := by
  rw [ba_toList, ba_size]
  exact List.length_pos_iff.symm
theorem opB_nil (s : ByteArray) (h : s.toList = []) : opB s.data.toList = false := by
  rw [ba_toList] at h
  rw [h]; rfl
theorem bound_ev (s : ByteArray) (hs : s.size ≤ 1000000) : Ev (fun k => args_Bound.f k s) (boundR s) := by
  unfold args_Bound.f boundR
  refine ev_bind0 (upper_is s (by omega)) ?_
  by_cases h1 : (up s).toList = [45, 73, 78, 70]
  · rw [if_pos h1]; exact ev_pos h1 (ev_some rfl)
  · rw [if_neg h1]
    refine ev_neg h1 ?_
    by_cases h2 : (up s).toList = [43, 73, 78, 70]
    · rw [if_pos (Or.inl h2)]; exact ev_pos h2 (ev_some rfl)
    · refine ev_neg h2 ?_
      by_cases h3 : (up s).toList = [73, 78, 70]
      · rw [if_pos (Or.inr h3)]; exact ev_pos h3 (ev_some rfl)
      · rw [if_neg (fun h => h.elim h2 h3)]
        refine ev_neg h3 ?_
        by_cases h4 : s.toList = []
        · exact ev_pos h4 (bound_tail s false (opB_nil s h4).symm (fun h => by cases h))
        · have hp := (size_pos s).1 h4
          exact ev_neg h4 (ev_pos (by omega) (bound_tail s _ (op_at s hp) (fun _ => hp)))
theorem rbound_ev (s : ByteArray) (hs : s.size ≤ 1000000) : Ev (fun k => mewsref29_Bound.f k s) (boundR s) := by
  have hj0 : ∀ b, b = decide ((up s).toList = [43, 73, 78, 70] ∨ (up s).toList = [73, 78, 70]) → ¬ (up s).toList = [45, 73, 78, 70] → Ev (fun k => mewsref29_Bound.j0 k s b) (boundR s) := by
    intro b hb h1
    unfold boundR
    rw [if_neg h1]
    refine ev_round ?_
    simp only [mewsref29_Bound.j0]
    by_cases h2 : (up s).toList = [43, 73, 78, 70] ∨ (up s).toList = [73, 78, 70]
    · rw [decide_eq_true h2] at hb
      rw [if_pos h2, hb]
      exact ev_pos rfl (ev_some rfl)
    · rw [decide_eq_false h2] at hb
      rw [if_neg h2, hb]
      refine ev_neg (by decide) ?_
      by_cases h4 : s.toList = []
      · have : ¬ 0 < s.size := fun h => (size_pos s).2 h h4
        exact ev_neg (by omega) (rbound_tail s hs false (opB_nil s h4).symm (fun h => by cases h))
      · have hp := (size_pos s).1 h4
        exact ev_pos (by omega) (ev_pos (by omega) (rbound_tail s hs _ (op_at s hp) (fun _ => hp)))
  unfold mewsref29_Bound.f
  refine ev_bind (rupper_ev s hs) ?_
  by_cases h1 : (up s).toList = [45, 73, 78, 70]
  · unfold boundR
    rw [if_pos h1]; exact ev_pos h1 (ev_some rfl)
  · refine ev_neg h1 ?_
    by_cases h3 : (up s).toList = [73, 78, 70]
    · exact ev_pos h3 (hj0 true (decide_eq_true (Or.inr h3)).symm h1)
    · refine ev_neg h3 (hj0 _ ?_ h1)
      by_cases h2 : (up s).toList = [43, 73, 78, 70]
      · rw [h2]; rfl
      · rw [decide_eq_false (fun h => h.elim h2 h3), beq_eq_false_iff_ne]
        exact h2
/-- The time of an end. -/
def endR (l : List UInt8) (u fr : Int) : Int × Int :=
  if (parseP l).2 = true then (if 4503599627370496 < (parseP l).1 ∨ (parseP l).1 < -4503599627370496 ∨ (parseP l).1 * u + fr ≤ 0 ∨ 4503599627370496 < (parseP l).1 * u + fr then (0, 13) else ((parseP l).1 * u + fr, 0)) else (0, 2)
theorem mul_hi {n u M U : Int} (h0 : 0 ≤ u) (hn : n ≤ M) (hM : 0 ≤ M) (hu : u ≤ U) : n * u ≤ M * U :=
  Int.le_trans (Int.mul_le_mul_of_nonneg_right hn h0) (Int.mul_le_mul_of_nonneg_left hu hM)
theorem mul_lo {n u M U : Int} (h0 : 0 ≤ u) (hn : -M ≤ n) (hM : 0 ≤ M) (hu : u ≤ U) : -(M * U) ≤ n * u := by
  have := mul_hi (n := -n) h0 (by omega) hM hu
  rw [Int.neg_mul] at this
  omega
theorem end_ev (s : ByteArray) (u fr : Int) (hu1 : 1 ≤ u) (hu2 : u ≤ 1000) (hf1 : 0 ≤ fr) (hf2 : fr ≤ 4503599627370496) : Ev (fun k => args_End.f k s u fr) (endR s.data.toList u fr) := by
  unfold args_End.f endR
  refine ev_bind (parse_ev s) ?_
  generalize parseP s.data.toList = p
  obtain ⟨n, ok⟩ := p
  simp only
  have hm1 : mn (mx u 1) 1000 = u := by
    unfold mn mx
    by_cases h : u < 1
    · omega
    · rw [if_neg h, if_neg (by omega)]
  have hm2 : mn (mx fr 0) 4503599627370496 = fr := by
    unfold mn mx
    rw [if_neg (by omega), if_neg (by omega)]
  cases ok with
  | false => exact ev_neg (by decide) (ev_some rfl)
  | true =>
    rw [if_pos rfl]
    refine ev_pos rfl ?_
    have ht : (4503599627370496 < n ∨ n < -4503599627370496) → Ev (fun k => args_End.j0 k u fr n true) (0, 13) := by
      intro _
      refine ev_round ?_
      simp only [args_End.j0]
      exact ev_pos (by trivial) (ev_some rfl)
    by_cases h1 : 4503599627370496 < n
    · rw [if_pos (Or.inl h1)]
      exact ev_pos h1 (ht (Or.inl h1))
    · refine ev_neg h1 ?_
      by_cases h2 : n < -4503599627370496
      · rw [if_pos (Or.inr (Or.inl h2)), decide_eq_true h2]
        exact ht (Or.inr h2)
      · rw [decide_eq_false h2]
        have hb1 := mul_hi (n := n) (u := u) (M := 4503599627370496) (U := 1000) (by omega) (by omega) (by decide) hu2
        have hb2 := mul_lo (n := n) (u := u) (M := 4503599627370496) (U := 1000) (by omega) (by omega) (by decide) hu2
        refine ev_round ?_
        simp only [args_End.j0]
        rw [hm1, hm2]
        generalize n * u = m at hb1 hb2 ⊢
        rw [w64 (i := m) (by omega) (by omega), w64 (by omega) (by omega)]
        refine ev_neg (by decide) ?_
        by_cases h3 : m + fr ≤ 0
        · rw [if_pos (Or.inr (Or.inr (Or.inl h3)))]
          exact ev_pos h3 (ev_some rfl)
        · refine ev_neg h3 ?_
          by_cases h4 : 4503599627370496 < m + fr
          · rw [if_pos (Or.inr (Or.inr (Or.inr h4)))]
            exact ev_pos h4 (ev_some rfl)
          · exact ev_neg h4 (ev_some (if_neg (by omega)).symm)
theorem rend_ev (s : ByteArray) (hs : s.size ≤ 1000000) (u fr : Int) (hu1 : 1 ≤ u) (hu2 : u ≤ 1000) (hf1 : 0 ≤ fr) (hf2 : fr ≤ 4503599627370496) : Ev (fun k => mewsref29_End.f k s u fr) (endR s.data.toList u fr) := by
  unfold mewsref29_End.f endR
  refine ev_bind (ref_parse_ev s (by omega)) ?_
  generalize parseP s.data.toList = p
  obtain ⟨n, ok⟩ := p
  simp only
  cases ok with
  | false => exact ev_neg (by decide) (ev_some rfl)
  | true =>
    rw [if_pos rfl]
    refine ev_pos rfl (ev_neg (by omega) ?_)
    have hdm := Int.mul_ediv_add_emod 4503599627370496 u
    have hm1 := Int.emod_nonneg 4503599627370496 (show u ≠ 0 by omega)
    have hm2 := Int.emod_lt_of_pos 4503599627370496 (show 0 < u by omega)
    have htd : Int.tdiv (-4503599627370496) u = -((4503599627370496 : Int) / u) := by
      rw [Int.neg_tdiv, Int.tdiv_eq_ediv_of_nonneg (by decide)]
    have hq0 : 0 ≤ (4503599627370496 : Int) / u := Int.ediv_nonneg (by decide) (by omega)
    have hqM : (4503599627370496 : Int) / u ≤ 4503599627370496 := Int.ediv_le_self _ (by decide)
    rw [htd]
    generalize (4503599627370496 : Int) / u = q at hdm hq0 hqM ⊢
    generalize (4503599627370496 : Int) % u = r at hdm hm1 hm2
    rw [w64 (i := q) (by omega) (by omega), w64 (i := -q) (by omega) (by omega), w64 (i := -q - 1) (by omega) (by omega)]
    rw [Int.mul_comm] at hdm
    have ht : Ev (fun k => mewsref29_End.j0 k u fr n true) (0, 13) := by
      refine ev_round ?_
      simp only [mewsref29_End.j0]
      exact ev_pos (by trivial) (ev_some rfl)
    by_cases h1 : q < n
    · have hc : 4503599627370496 < n ∨ n < -4503599627370496 ∨ n * u + fr ≤ 0 ∨ 4503599627370496 < n * u + fr := by
        have h3 := Int.mul_le_mul_of_nonneg_right (show q + 1 ≤ n by omega) (show 0 ≤ u by omega)
        rw [Int.add_mul] at h3
        omega
      rw [if_pos hc]
      exact ev_pos h1 ht
    · refine ev_neg h1 ?_
      by_cases h2 : n < -q - 1
      · have hc : 4503599627370496 < n ∨ n < -4503599627370496 ∨ n * u + fr ≤ 0 ∨ 4503599627370496 < n * u + fr := by
          have h3 := Int.mul_le_mul_of_nonneg_right (show n ≤ -q - 2 by omega) (show 0 ≤ u by omega)
          rw [Int.sub_mul, Int.neg_mul] at h3
          omega
        rw [if_pos hc, decide_eq_true h2]
        exact ht
      · rw [decide_eq_false h2]
        have hb1 := mul_hi (n := n) (u := u) (M := 4503599627370497) (U := 1000) (by omega) (by omega) (by decide) hu2
        have hb2 := mul_lo (n := n) (u := u) (M := 4503599627370497) (U := 1000) (by omega) (by omega) (by decide) hu2
        have hb3 : n < -4503599627370496 → n * u ≤ -4503599627370497 := by
          intro h
          have h3 := Int.mul_le_mul_of_nonneg_right (show n ≤ -4503599627370497 by omega) (show 0 ≤ u by omega)
          have h4 := Int.mul_le_mul_of_nonneg_left hu1 (show (0 : Int) ≤ 4503599627370497 by decide)
          rw [Int.neg_mul] at h3
          omega
        refine ev_round ?_
        simp only [mewsref29_End.j0]
        generalize n * u = m at hb1 hb2 hb3 ⊢
        rw [w64 (i := m) (by omega) (by omega), w64 (by omega) (by omega)]
        refine ev_neg (by decide) ?_
        by_cases h3 : m + fr < 1
        · exact ev_pos h3 (ev_some (if_pos (by omega)).symm)
        · refine ev_neg h3 ?_
          by_cases h4 : 4503599627370496 < m + fr
          · exact ev_pos h4 (ev_some (if_pos (by omega)).symm)
          · exact ev_neg h4 (ev_some (if_neg (by omega)).symm)
theorem times_j0 (s : ByteArray) (hs : s.size ≤ 1000000) (x1 x2 : Int) (b b0 : Bool) (hx : b0 = false → 1 ≤ x1 ∧ x1 ≤ 1000 ∧ 0 ≤ x2 ∧ x2 ≤ 4503599627370496) (y0 y1 : Int) (y2 : Bool) : Ev (fun k => mewslaw29_ArgsTimes.j0 k s x1 x2 b b b0 y0 y1 y2 y0 y1 y2) true := by
  refine ev_round ?_
  simp only [mewslaw29_ArgsTimes.j0]
  cases b0 with
  | true => exact ev_pos rfl (ev_bind (end_ev s 1000 5 (by decide) (by decide) (by decide) (by decide)) (ev_bind (rend_ev s hs 1000 5 (by decide) (by decide) (by decide) (by decide)) (ev_pos (by simp) (ev_pos (by simp) (ev_pos rfl (ev_pos rfl (ev_bind alive_ev (ev_some rfl))))))))
  | false =>
    obtain ⟨a1, a2, a3, a4⟩ := hx rfl
    exact ev_neg (by decide) (ev_bind (end_ev s x1 x2 a1 a2 a3 a4) (ev_bind (rend_ev s hs x1 x2 a1 a2 a3 a4) (ev_pos (by simp) (ev_pos (by simp) (ev_pos rfl (ev_pos rfl (ev_bind alive_ev (ev_some rfl))))))))
theorem ArgsTimes : mewslaw29_ArgsTimes.PureX := by
  intro s x1 x2 hs h1 h2
  refine Ev.rounds (r := true) ?_
  unfold mewslaw29_ArgsTimes.f
  obtain ⟨b, hb, hb2⟩ := far_ev [s] (by simp)
  refine ev_bind hb ?_
  cases b with
  | true => exact ev_pos rfl (ev_bind alive_ev (ev_some rfl))
  | false =>
    obtain ⟨g1, g2⟩ := hb2 rfl
    have hss : s.size ≤ 1000000 := by have := g2 s (by simp); omega
    refine ev_neg (by decide) (ev_bind (bound_ev s hss) (ev_bind (rbound_ev s hss) ?_))
    refine ev_ite (fun _ => times_j0 s hss x1 x2 _ true (fun h => by cases h) _ _ _) (fun c1 => ev_ite (fun _ => times_j0 s hss x1 x2 _ true (fun h => by cases h) _ _ _) (fun c2 => ev_ite (fun _ => times_j0 s hss x1 x2 _ true (fun h => by cases h) _ _ _) (fun c3 => times_j0 s hss x1 x2 _ _ (fun h => ⟨by omega, by omega, by omega, by have := of_decide_eq_false h; omega⟩) _ _ _)))
end Go.Proofs.Ytcooijbmmkkdoaa.Pure
