/- What num.Parse, and the reference's Text and Parse, come to. -/
import Derived.Test.YtcooijbmmkkdoaaYNum
import Derived.Test.YtcooijbmmkkdoaaX6
import Derived.Test.YtcooijbmmkkdoaaX15
import Derived.Test.YtcooijbmmkkdoaaX14
namespace Go.Proofs.Ytcooijbmmkkdoaa.Y
open Go.RowKit Go.Proofs.YtcooijbmmkkdoaaW.PrintWords Go.Proofs.YtcooijbmmkkdoaaW.PrintMore Go.Proofs.Ytcooijbmmkkdoaa.X
set_option linter.unusedVariables false
set_option linter.unusedSimpArgs false

/-- What is told of the digits behind a sign, if they are read at all. -/
def finP (m : Bool) (l : List UInt8) : Int × Bool :=
  if l.all isDig = true then
    (if m = true then (if val l ≤ 9223372036854775808 then (-(val l : Int), true) else (0, false))
     else if val l < 9223372036854775808 then ((val l : Int), true) else (0, false))
  else (0, false)
theorem take_dig {l : List UInt8} {i : Nat} (hi : i < l.length) (h : ∀ c ∈ l.take i, isDig c = true) (hc : isDig l[i] = true) : ∀ c ∈ l.take (i + 1), isDig c = true := by
  intro c hm
  rw [List.take_succ_eq_append_getElem hi] at hm
  rcases List.mem_append.1 hm with hm | hm
  · exact h c hm
  · rw [List.mem_singleton.1 hm]; exact hc
theorem val_take {l : List UInt8} {i : Nat} (hi : i < l.length) : val (l.take (i + 1)) = val (l.take i) * 10 + (l[i].toNat - 48) := by
  rw [List.take_succ_eq_append_getElem hi, val_snoc]
theorem u64step (v c : Nat) (hv : v < 1000000000000000000) (hc : 48 ≤ c ∧ c ≤ 57) : IntKind.u64.wrap ((IntKind.u64.wrap ((v : Int) * 10)) + ((c : Int) - 48) % 256) = ((v * 10 + (c - 48) : Nat) : Int) := by
  simp only [IntKind.wrap, IntKind.bits, IntKind.signed]
  simp
  omega
theorem parse_loop (m : Bool) (t : ByteArray) (ht : t.size ≤ 19) : ∀ i, i ≤ t.size → (∀ c ∈ t.data.toList.take i, isDig c = true) →
    Ev (fun k => num_Parse.l0 k m t ((val (t.data.toList.take i) : Nat) : Int) (t.size : Int) (i : Int)) (finP m t.data.toList) := by
  have hlen : t.data.toList.length = t.size := (ba_size t).symm
  have key : ∀ d i, i + d = t.size → (∀ c ∈ t.data.toList.take i, isDig c = true) →
    Ev (fun k => num_Parse.l0 k m t ((val (t.data.toList.take i) : Nat) : Int) (t.size : Int) (i : Int)) (finP m t.data.toList) := by
    intro d
    induction d with
    | zero =>
      intro i hi hd
      have hti : t.data.toList.take i = t.data.toList := List.take_of_length_le (by omega)
      rw [hti] at hd ⊢
      have hall : t.data.toList.all isDig = true := List.all_eq_true.2 hd
      have hv := val_lt t.data.toList hd
      have hv2 : (10 : Nat) ^ t.data.toList.length ≤ 10 ^ 19 := Nat.pow_le_pow_right (by decide) (by omega)
      have hv3 : val t.data.toList < 10000000000000000000 := Nat.lt_of_lt_of_le hv (Nat.le_trans hv2 (by decide))
      refine ev_round ?_
      simp only [num_Parse.l0]
      refine ev_neg (by omega) ?_
      unfold finP
      rw [if_pos hall]
      refine ev_ite (fun hm => ?_) (fun hm => ?_)
      · rw [if_pos hm]
        refine ev_round ?_
        simp only [num_Parse.j4]
        by_cases hb : val t.data.toList ≤ 9223372036854775808
        · rw [if_pos hb]
          refine ev_pos (decide_eq_true (by omega)) (ev_some ?_)
          congr 1
          unfold wrap64
          omega
        · rw [if_neg hb]
          exact ev_neg (by rw [decide_eq_true_eq]; omega) (ev_pos hm (ev_some rfl))
      · rw [if_neg hm]
        refine ev_round ?_
        simp only [num_Parse.j4]
        refine ev_neg (by decide) (ev_neg hm ?_)
        by_cases hb : val t.data.toList < 9223372036854775808
        · rw [if_pos hb]
          refine ev_neg (by omega) (ev_some ?_)
          congr 1
          unfold wrap64
          omega
        · rw [if_neg hb]
          exact ev_pos (by omega) (ev_some rfl)
    | succ d ih =>
      intro i hi hd
      have hlt : i < t.data.toList.length := by omega
      refine ev_round ?_
      simp only [num_Parse.l0]
      refine ev_pos (by omega) (ev_pos (by omega) (ev_pos (by omega) ?_))
      rw [bt_nat t i (by omega)]
      by_cases hc : isDig t.data.toList[i] = true
      · have hc' := (isDig_iff _).1 hc
        refine ev_neg (by omega) (ev_neg (by omega) ?_)
        have hv := val_lt _ hd
        have hv2 : (10 : Nat) ^ (t.data.toList.take i).length ≤ 10 ^ 18 := Nat.pow_le_pow_right (by decide) (by rw [List.length_take]; omega)
        have hv3 : val (t.data.toList.take i) < 1000000000000000000 := Nat.lt_of_lt_of_le hv (Nat.le_trans hv2 (by decide))
        have e : IntKind.u64.wrap ((IntKind.u64.wrap (((val (t.data.toList.take i) : Nat) : Int) * 10)) + (((t.data.toList[i].toNat : Int)) - 48) % 256) = ((val (t.data.toList.take (i + 1)) : Nat) : Int) := by
          rw [val_take hlt]
          exact u64step _ _ hv3 hc'
        rw [e, w64 (by omega) (by omega)]
        exact ih (i + 1) (by omega) (take_dig hlt hd hc)
      · have hfin : finP m t.data.toList = (0, false) := by
          unfold finP
          rw [if_neg]
          intro hall
          exact hc (List.all_eq_true.1 hall _ (List.getElem_mem hlt))
        rw [hfin]
        rw [isDig_iff] at hc
        refine ev_ite (fun _ => ev_some rfl) (fun h1 => ev_pos (by omega) (ev_some rfl))
  intro i hi hd
  exact key (t.size - i) i (by omega) hd
def flagP (m : Bool) (l : List UInt8) : Bool := decide (l = []) || decide (19 < l.length) || (decide (l.head? = some 48) && (m || decide (1 < l.length)))
theorem parse_j2 (m : Bool) (t : ByteArray) (hf : flagP m t.data.toList = false) : Ev (fun k => num_Parse.j2 k m t false) (finP m t.data.toList) := by
  refine ev_round ?_
  simp only [num_Parse.j2]
  refine ev_neg (by decide) ?_
  have ht : t.size ≤ 19 := by
    rw [ba_size]
    unfold flagP at hf
    simp only [Bool.or_eq_false_iff, decide_eq_false_iff_not] at hf
    omega
  exact parse_loop m t ht 0 (by omega) (by simp)
theorem parse_j2t (m : Bool) (t : ByteArray) : Ev (fun k => num_Parse.j2 k m t true) (0, false) := by
  refine ev_round ?_
  simp only [num_Parse.j2]
  first | exact ev_some rfl | exact ev_pos rfl (ev_some rfl)
def resP (m : Bool) (l : List UInt8) : Int × Bool := if flagP m l = true then (0, false) else finP m l
theorem parse_j1 (m : Bool) (t : ByteArray) : Ev (fun k => num_Parse.j1 k m t) (resP m t.data.toList) := by
  refine ev_round ?_
  simp only [num_Parse.j1]
  rw [ba_toList]
  have hlen := ba_size t
  unfold resP
  by_cases h1 : t.data.toList = []
  · refine ev_pos h1 ?_
    rw [if_pos (by unfold flagP; simp [h1])]
    exact parse_j2t m t
  refine ev_neg h1 ?_
  by_cases h2 : 19 < t.data.toList.length
  · refine ev_pos (by omega) ?_
    rw [if_pos (by unfold flagP; rw [decide_eq_true h2]; simp)]
    exact parse_j2t m t
  refine ev_neg (by omega) ?_
  have hpos : 0 < t.data.toList.length := by
    cases h : t.data.toList with
    | nil => exact absurd h h1
    | cons c l => simp
  refine ev_pos (by omega) ?_
  have hb := bt_nat t 0 (by omega)
  rw [show ((0 : Nat) : Int) = 0 from rfl] at hb
  rw [hb]
  have hhead : t.data.toList.head? = some t.data.toList[0] := by rw [List.head?_eq_getElem?, List.getElem?_eq_getElem hpos]
  by_cases h3 : t.data.toList[0] = 48
  · refine ev_pos (by rw [h3]; rfl) ?_
    have h3' : t.data.toList.head? = some 48 := by rw [hhead, h3]
    cases m with
    | true =>
      refine ev_pos rfl ?_
      rw [if_pos (by unfold flagP; simp [h3'])]
      exact parse_j2t _ t
    | false =>
      refine ev_neg (by decide) ?_
      by_cases h4 : 1 < t.data.toList.length
      · rw [decide_eq_true (show (t.size : Int) > 1 by omega), if_pos (by unfold flagP; simp only [h3', h4]; simp)]
        exact parse_j2t _ t
      · have hf : flagP false t.data.toList = false := by unfold flagP; rw [decide_eq_false h1, decide_eq_false h2, decide_eq_false h4]; simp
        rw [decide_eq_false (show ¬ (t.size : Int) > 1 by omega), if_neg (by rw [hf]; decide)]
        exact parse_j2 _ t hf
  · have h3n : ¬ ((t.data.toList[0].toNat : Int) = 48) := by
      intro he
      exact h3 (UInt8.toNat_inj.1 (by have : t.data.toList[0].toNat = 48 := by omega
                                      rw [this]; rfl))
    refine ev_neg h3n ?_
    have hf : flagP m t.data.toList = false := by
      unfold flagP
      rw [decide_eq_false h1, decide_eq_false h2, decide_eq_false (show ¬ t.data.toList.head? = some 48 by rw [hhead]; simpa using h3)]
      rfl
    rw [if_neg (by rw [hf]; decide)]
    exact parse_j2 _ t hf
theorem val_ge' {l : List UInt8} (h : good l = true) (hl : 19 < l.length) : ¬ val l ≤ 9223372036854775808 := by
  have := val_ge h hl
  omega
theorem good_of {l : List UInt8} (h1 : l ≠ []) (h2 : l.all isDig = true) (h3 : l.head? = some 48 → l.length = 1) : good l = true := (good_iff l).2 ⟨h1, List.all_eq_true.1 h2, h3⟩
theorem res_minus (t : List UInt8) : resP true t = parseN t := by
  unfold resP parseN
  by_cases hf : flagP true t = true
  · rw [if_pos hf, if_neg]
    rintro ⟨hg, hz, hv⟩
    obtain ⟨g1, g2, g3⟩ := (good_iff t).1 hg
    unfold flagP at hf
    simp only [Bool.or_eq_true, Bool.and_eq_true, decide_eq_true_eq, Bool.true_or] at hf
    rcases hf with (h | h) | h
    · exact g1 h
    · exact val_ge' hg h hv
    · have := g3 h.1
      refine hz ?_
      cases ht : t with
      | nil => exact absurd ht g1
      | cons c r =>
        rw [ht] at h this
        simp at h this
        simp [h, this]
  · rw [if_neg hf]
    unfold finP
    rw [if_pos rfl]
    unfold flagP at hf
    simp only [Bool.or_eq_true, Bool.and_eq_true, decide_eq_true_eq, not_or, not_and] at hf
    obtain ⟨⟨f1, f2⟩, f3⟩ := hf
    have f4 : t.head? ≠ some 48 := fun he => by have := f3 he; simp at this
    by_cases ha : t.all isDig = true
    · rw [if_pos ha]
      have hg := good_of f1 ha (fun he => absurd he f4)
      by_cases hv : val t ≤ 9223372036854775808
      · rw [if_pos hv, if_pos ⟨hg, by rintro rfl; simp at f4, hv⟩]
      · rw [if_neg hv, if_neg (fun h => hv h.2.2)]
    · rw [if_neg ha, if_neg]
      rintro ⟨hg, _⟩
      exact ha (List.all_eq_true.2 ((good_iff t).1 hg).2.1)
theorem res_plus (t : List UInt8) : resP false t = if good t = true ∧ val t < 9223372036854775808 then ((val t : Int), true) else (0, false) := by
  unfold resP
  by_cases hf : flagP false t = true
  · rw [if_pos hf, if_neg]
    rintro ⟨hg, hv⟩
    obtain ⟨g1, g2, g3⟩ := (good_iff t).1 hg
    unfold flagP at hf
    simp only [Bool.or_eq_true, Bool.and_eq_true, decide_eq_true_eq, Bool.false_or, Bool.false_eq_true, false_or] at hf
    rcases hf with (h | h) | h
    · exact g1 h
    · exact val_ge' hg h (by omega)
    · have := g3 h.1
      omega
  · rw [if_neg hf]
    unfold finP
    rw [if_neg (show ¬ (false = true) by decide)]
    unfold flagP at hf
    simp only [Bool.or_eq_true, Bool.and_eq_true, decide_eq_true_eq, not_or, not_and, Bool.false_eq_true, not_false_eq_true, true_and] at hf
    obtain ⟨⟨f1, f2⟩, f3⟩ := hf
    by_cases ha : t.all isDig = true
    · rw [if_pos ha]
      have hg := good_of f1 ha (fun he => by have := f3 he; have : t.length ≠ 0 := fun h0 => f1 (List.length_eq_zero_iff.1 h0); omega)
      by_cases hv : val t < 9223372036854775808
      · rw [if_pos hv, if_pos ⟨hg, hv⟩]
      · rw [if_neg hv, if_neg (fun h => hv h.2)]
    · rw [if_neg ha, if_neg]
      rintro ⟨hg, _⟩
      exact ha (List.all_eq_true.2 ((good_iff t).1 hg).2.1)
/-- num.Parse. -/
theorem parse_ev (s : ByteArray) : Ev (fun k => num_Parse.f k s) (parseP s.data.toList) := by
  unfold num_Parse.f parseP
  rw [ba_toList]
  have hlen := ba_size s
  by_cases h1 : s.data.toList = []
  · rw [h1, if_neg (by simp), ← res_plus]
    refine ev_pos rfl ?_
    refine ev_round ?_
    simp only [num_Parse.j0]
    refine ev_neg (by decide) ?_
    have := parse_j1 false s
    rw [h1] at this
    exact this
  refine ev_neg h1 ?_
  have hpos : 0 < s.data.toList.length := by
    cases h : s.data.toList with
    | nil => exact absurd h h1
    | cons c l => simp
  have hb := bt_nat s 0 (by omega)
  rw [show ((0 : Nat) : Int) = 0 from rfl] at hb
  rw [hb]
  have hhead : s.data.toList.head? = some s.data.toList[0] := by rw [List.head?_eq_getElem?, List.getElem?_eq_getElem hpos]
  refine ev_pos (by omega) ?_
  by_cases h3 : s.data.toList[0] = 45
  · rw [if_pos (by rw [hhead, h3]), h3]
    refine ev_round ?_
    simp only [num_Parse.j0]
    refine ev_pos rfl (ev_pos (by omega) ?_)
    have := parse_j1 true (s.extract 1 s.size)
    have e : (s.extract 1 s.size).data.toList = s.data.toList.tail := by
      rw [ba_extract, List.drop_one, List.take_of_length_le (by first | (simp; done) | (simp; omega))]
    rw [e, res_minus] at this
    exact this
  · rw [if_neg (by rw [hhead]; simpa using h3), ← res_plus]
    have h3n : ((s.data.toList[0].toNat : Int) == 45) = false := by
      rw [beq_eq_false_iff_ne]
      intro he
      exact h3 (UInt8.toNat_inj.1 (by have : s.data.toList[0].toNat = 45 := by omega
                                      rw [this]; rfl))
    rw [h3n]
    refine ev_round ?_
    simp only [num_Parse.j0]
    refine ev_neg (by decide) ?_
    exact parse_j1 false s
theorem text_f (n : Int) (h0 : -9223372036854775808 ≤ n) (h1 : n ≤ 9223372036854775807) : num_Text.f n = some (textB n) := by
  unfold num_Text.f
  rw [if_pos ⟨h0, h1⟩]
end Go.Proofs.Ytcooijbmmkkdoaa.Y
