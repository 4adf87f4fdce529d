/- What the document's join comes to, on lists of bytes. No memory. -/
import Derived.Test.YthelnfnkhcjngaaLineJoin
import Derived.Test.YthelnfnkhcjngaaX13
namespace Go.Proofs.Ythelnfnkhcjngaa.Pure
open Go.RowKit Go.Proofs.YthelnfnkhcjngaaW.PrintWords Go.Proofs.YthelnfnkhcjngaaW.PrintMore Go.Proofs.Ythelnfnkhcjngaa.Y Go.Proofs.Ythelnfnkhcjngaa.X Go.Proofs.Ythelnfnkhcjngaa.LM
set_option linter.unusedVariables false
set_option linter.unusedSimpArgs false

theorem rofL_add (a b : List UInt8) : ofL a ++ ofL b = ofL (a ++ b) := by
  apply ba_ext
  rw [ba_append]
  rfl
theorem rofL_size (a : List UInt8) : (ofL a).size = a.length := by rw [ba_size, ofL_data]
theorem rext1 (s : ByteArray) (i : Nat) (c : UInt8) (h : s.data.toList.drop i = c :: s.data.toList.drop (i + 1)) : s.extract i (i + 1) = ofL [c] := by
  apply ba_ext
  rw [ba_extract, h, ofL_data, Nat.add_sub_cancel_left]
  rfl
def sg : ByteArray := ⟨#[48, 49, 50, 51, 52, 53, 54, 55, 56, 57, 97, 98, 99, 100, 101, 102]⟩
theorem sg_all : ∀ c : Fin 256, (Int.tdiv ((UInt8.ofNat c.val).toNat : Int) 16 % 256 = (((UInt8.ofNat c.val).toNat / 16 : Nat) : Int)) ∧ Int.tmod ((UInt8.ofNat c.val).toNat : Int) 16 = (((UInt8.ofNat c.val).toNat % 16 : Nat) : Int) := by decide +kernel
theorem sg_is (c : UInt8) : (Int.tdiv (c.toNat : Int) 16 % 256 = ((c.toNat / 16 : Nat) : Int)) ∧ Int.tmod (c.toNat : Int) 16 = ((c.toNat % 16 : Nat) : Int) :=
  u8_fin (P := fun c => (Int.tdiv (c.toNat : Int) 16 % 256 = ((c.toNat / 16 : Nat) : Int)) ∧ Int.tmod (c.toNat : Int) 16 = ((c.toNat % 16 : Nat) : Int)) sg_all c
theorem sg_dig : ∀ n : Fin 16, (sg.extract n.val (n.val + 1)).data.toList = [dig n.val] := by decide +kernel
theorem sg_ext (n : Nat) (h : n < 16) : sg.extract n (n + 1) = ofL [dig n] := ba_ext (sg_dig ⟨n, h⟩)
theorem add_mod (n : Nat) (h : n < 16) : ((n : Int) + 1) % 256 = ((n + 1 : Nat) : Int) := by omega
/-- The hex turn of a byte. -/
theorem hex_app (c : UInt8) : (((⟨#[92, 120]⟩ : ByteArray) ++ ofL [dig (c.toNat / 16)]) ++ ofL [dig (c.toNat % 16)]) = ofL [92, 120, dig (c.toNat / 16), dig (c.toNat % 16)] := by
  have : (⟨#[92, 120]⟩ : ByteArray) = ofL [92, 120] := rfl
  rw [this, rofL_add, rofL_add]; rfl
theorem rj3_ev (l : List ByteArray) (out : ByteArray) (j i : Nat) (hj : j < l.length) (hn : (l[j]).size ≤ 1000000) (hl : l.length ≤ 5000) (c : UInt8) (hi : i < (l[j]).size) (hd : (l[j]).data.toList.drop i = c :: (l[j]).data.toList.drop (i + 1)) (pl : Bool) (tx : List UInt8) (ht : tx.length ≤ 1000000000) (R : ByteArray)
    (h : Ev (fun k => mewsref04_Join.l1 k l sg out (j : Int) pl (ofL (tx ++ escL c)) ((i + 1 : Nat) : Int)) R) :
    Ev (fun k => mewsref04_Join.j3 k l sg out (j : Int) pl (ofL tx) (i : Int) (c.toNat : Int) (decide (c = 34 ∨ c = 92))) R := by
  have hext := rext1 (l[j]) i c hd
  have hone : (ofL [c]).size = 1 := rfl
  have htl := rofL_size tx
  refine ev_round ?_
  simp only [mewsref04_Join.j3]
  rw [rdOf_nat _ l j hj, w1 i (by omega)]
  simp only [Int.toNat_natCast]
  rw [hext]
  by_cases h1 : c = 34 ∨ c = 92
  · rw [decide_eq_true h1]
    have he : escL c = [92, c] := by unfold escL; rw [if_pos h1]
    rw [he] at h
    have e : (⟨#[92]⟩ : ByteArray) ++ ofL [c] = ofL [92, c] := rofL_add [92] [c]
    have hs : (ofL [92, c]).size = 2 := rfl
    rw [e, rofL_add]
    exact ev_pos (by trivial) (ev_pos (by omega) (ev_pos (by omega) (ev_pos (by omega) (ev_pos (by omega) (ev_pos (by omega) (ev_pos (by omega) (ev_pos (by omega) h)))))))
  · rw [decide_eq_false h1]
    refine ev_neg (by decide) ?_
    obtain ⟨s1, s2⟩ := sg_is c
    have hlt := UInt8.toNat_lt c
    have d1 : c.toNat / 16 < 16 := by omega
    have d2 : c.toNat % 16 < 16 := by omega
    have hz1 : (ofL [dig (c.toNat / 16)]).size = 1 := rfl
    have hz2 : (ofL [dig (c.toNat % 16)]).size = 1 := rfl
    have hz3 : ((⟨#[92, 120]⟩ : ByteArray) ++ ofL [dig (c.toNat / 16)]).size = 3 := by rw [ByteArray.size_append, hz1]; rfl
    have hz4 : (ofL [92, 120, dig (c.toNat / 16), dig (c.toNat % 16)]).size = 4 := rfl
    have hsg : sg.size = 16 := rfl
    have hh : ∀ R, Ev (fun k => mewsref04_Join.l1 k l sg out (j : Int) pl (ofL (tx ++ [92, 120, dig (c.toNat / 16), dig (c.toNat % 16)])) ((i + 1 : Nat) : Int)) R →
        Ev (fun k => (if 0 ≤ ((c.toNat / 16 : Nat) : Int) then (if ((c.toNat / 16 : Nat) : Int) ≤ ((((c.toNat / 16 : Nat) : Int)) + 1) % 256 then (if ((((c.toNat / 16 : Nat) : Int)) + 1) % 256 ≤ (sg.size : Int) then (if 2 + (sg.extract (c.toNat / 16) (((((c.toNat / 16 : Nat) : Int)) + 1) % 256).toNat).size ≤ 9223372036854775807 then (if 0 ≤ ((c.toNat % 16 : Nat) : Int) then (if ((c.toNat % 16 : Nat) : Int) ≤ ((((c.toNat % 16 : Nat) : Int)) + 1) % 256 then (if ((((c.toNat % 16 : Nat) : Int)) + 1) % 256 ≤ (sg.size : Int) then (if ((⟨#[92, 120]⟩ : ByteArray) ++ (sg.extract (c.toNat / 16) (((((c.toNat / 16 : Nat) : Int)) + 1) % 256).toNat)).size + (sg.extract (c.toNat % 16) (((((c.toNat % 16 : Nat) : Int)) + 1) % 256).toNat).size ≤ 9223372036854775807 then (if (ofL tx).size + (((⟨#[92, 120]⟩ : ByteArray) ++ (sg.extract (c.toNat / 16) (((((c.toNat / 16 : Nat) : Int)) + 1) % 256).toNat)) ++ (sg.extract (c.toNat % 16) (((((c.toNat % 16 : Nat) : Int)) + 1) % 256).toNat)).size ≤ 9223372036854775807 then (mewsref04_Join.l1 k l sg out (j : Int) pl (ofL tx ++ (((⟨#[92, 120]⟩ : ByteArray) ++ (sg.extract (c.toNat / 16) (((((c.toNat / 16 : Nat) : Int)) + 1) % 256).toNat)) ++ (sg.extract (c.toNat % 16) (((((c.toNat % 16 : Nat) : Int)) + 1) % 256).toNat))) ((i + 1 : Nat) : Int)) else (none)) else (none)) else (none)) else (none)) else (none)) else (none)) else (none)) else (none)) else (none))) R := by
      intro R h
      rw [add_mod _ d1, add_mod _ d2, Int.toNat_natCast, Int.toNat_natCast, sg_ext _ d1, sg_ext _ d2, hex_app, rofL_add]
      exact ev_pos (by omega) (ev_pos (by omega) (ev_pos (by omega) (ev_pos (by omega) (ev_pos (by omega) (ev_pos (by omega) (ev_pos (by omega) (ev_pos (by omega) (ev_pos (by omega) h))))))))
    rw [s1, s2]
    simp only [Int.toNat_natCast]
    by_cases h2 : c.toNat < 32
    · have he : escL c = [92, 120, dig (c.toNat / 16), dig (c.toNat % 16)] := by unfold escL; rw [if_neg h1, if_pos (Or.inl h2)]
      rw [he] at h
      exact ev_neg (by omega) (hh R h)
    · refine ev_pos (by omega) ?_
      by_cases h3 : 126 < c.toNat
      · have he : escL c = [92, 120, dig (c.toNat / 16), dig (c.toNat % 16)] := by unfold escL; rw [if_neg h1, if_pos (Or.inr h3)]
        rw [he] at h
        exact ev_neg (by omega) (hh R h)
      · have he : escL c = [c] := by unfold escL; rw [if_neg h1, if_neg (by omega)]
        rw [he] at h
        rw [rofL_add]
        exact ev_pos (by omega) (ev_pos (by omega) (ev_pos (by omega) (ev_pos (by omega) (ev_pos (by omega) (ev_pos (by omega) (ev_pos (by omega) h))))))
theorem rj2_ev (l : List ByteArray) (out : ByteArray) (j i : Nat) (c : UInt8) (pl : Bool) (tx : List UInt8) (R : ByteArray)
    (h : Ev (fun k => mewsref04_Join.j3 k l sg out (j : Int) pl (ofL tx) (i : Int) (c.toNat : Int) (decide (c = 34 ∨ c = 92))) R) :
    Ev (fun k => mewsref04_Join.j2 k l sg out (j : Int) pl (ofL tx) (i : Int) (c.toNat : Int)) R := by
  have e34 : ((c.toNat : Int) = 34) ↔ c = 34 := u8_int c 34
  have e92 : ((c.toNat : Int) = 92) ↔ c = 92 := u8_int c 92
  refine ev_round ?_
  simp only [mewsref04_Join.j2]
  by_cases h3 : c = 34
  · rw [decide_eq_true (Or.inl h3)] at h
    exact ev_pos (e34.2 h3) h
  · refine ev_neg (fun h => h3 (e34.1 h)) ?_
    by_cases h4 : c = 92
    · rw [decide_eq_true (Or.inr h4)] at h
      rw [show ((c.toNat : Int) == 92) = true from beq_iff_eq.2 (e92.2 h4)]
      exact h
    · rw [decide_eq_false (fun h => h.elim h3 h4)] at h
      rw [show ((c.toNat : Int) == 92) = false from beq_eq_false_iff_ne.2 (fun h => h4 (e92.1 h))]
      exact h
def argT (pl : Bool) (t : List UInt8) : List UInt8 := if pl then t else 34 :: (t ++ [34])
theorem rjoin_1 (l : List ByteArray) (j : Nat) (hj : j < l.length) (hn : (l[j]).size ≤ 1000000) (hl : l.length ≤ 5000) (out : List UInt8) (ho : out.length ≤ 100000000000) (R : ByteArray) : ∀ (n i : Nat), (l[j]).size - i ≤ n → i ≤ (l[j]).size → ∀ (pl : Bool) (tx : List UInt8), tx.length ≤ 4 * i →
    Ev (fun k => mewsref04_Join.l0 k l sg (ofL (out ++ ((if j = 0 then [] else [32]) ++ argT (pl && ((l[j]).data.toList.drop i).all plainB) (tx ++ ((l[j]).data.toList.drop i).flatMap escL)))) ((j + 1 : Nat) : Int)) R →
    Ev (fun k => mewsref04_Join.l1 k l sg (ofL out) (j : Int) pl (ofL tx) (i : Int)) R := by
  intro n
  have hfin : ∀ i, i ≤ (l[j]).size → ¬ i < (l[j]).size → ∀ (pl : Bool) (tx : List UInt8), tx.length ≤ 4 * i →
      Ev (fun k => mewsref04_Join.l0 k l sg (ofL (out ++ ((if j = 0 then [] else [32]) ++ argT (pl && ((l[j]).data.toList.drop i).all plainB) (tx ++ ((l[j]).data.toList.drop i).flatMap escL)))) ((j + 1 : Nat) : Int)) R →
      Ev (fun k => mewsref04_Join.l1 k l sg (ofL out) (j : Int) pl (ofL tx) (i : Int)) R := by
    intro i h2 hi pl tx ht h
    rw [drop_end _ i (by omega), List.all_nil, Bool.and_true, List.flatMap_nil, List.append_nil] at h
    have htl := rofL_size tx
    have hol := rofL_size out
    refine ev_round ?_
    simp only [mewsref04_Join.l1]
    rw [rdOf_nat _ l j hj, w1 j (by omega)]
    refine ev_pos (by omega) (ev_pos (by omega) (ev_neg (by omega) ?_))
    have e32 : ofL out ++ (⟨#[32]⟩ : ByteArray) = ofL (out ++ [32]) := rofL_add out [32]
    have e34 : ((⟨#[34]⟩ : ByteArray) ++ ofL tx) ++ (⟨#[34]⟩ : ByteArray) = ofL (34 :: (tx ++ [34])) := by
      have h1 : (⟨#[34]⟩ : ByteArray) = ofL [34] := rfl
      rw [h1, rofL_add, rofL_add]; rfl
    have z1 : ((⟨#[34]⟩ : ByteArray) ++ ofL tx).size = 1 + tx.length := by rw [ByteArray.size_append, htl]; rfl
    have z2 : (ofL (34 :: (tx ++ [34]))).size = tx.length + 2 := by rw [rofL_size]; simp
    have z3 : (ofL (out ++ [32])).size = out.length + 1 := by rw [rofL_size]; simp
    cases pl with
    | true =>
      refine ev_pos rfl ?_
      simp only [argT, if_true] at h
      by_cases h0 : j = 0
      · rw [if_pos h0, List.nil_append] at h
        rw [rofL_add]
        exact ev_neg (by omega) (ev_pos (by omega) h)
      · rw [if_neg h0, ← List.append_assoc] at h
        rw [e32, rofL_add]
        exact ev_pos (by omega) (ev_pos (by omega) (ev_pos (by omega) h))
    | false =>
      refine ev_neg (by decide) ?_
      simp only [argT, Bool.false_eq_true, if_false] at h
      rw [e34]
      refine ev_pos (by omega) (ev_pos (by omega) ?_)
      by_cases h0 : j = 0
      · rw [if_pos h0, List.nil_append] at h
        rw [rofL_add]
        exact ev_neg (by omega) (ev_pos (by omega) h)
      · rw [if_neg h0, ← List.append_assoc] at h
        rw [e32, rofL_add]
        exact ev_pos (by omega) (ev_pos (by omega) (ev_pos (by omega) h))
  induction n with
  | zero => intro i h1 h2 pl tx ht h; exact hfin i h2 (by omega) pl tx ht h
  | succ n ih =>
    intro i h1 h2 pl tx ht h
    by_cases hi : i < (l[j]).size
    · obtain ⟨c, hc, hb⟩ := at_cons (l[j]) i hi
      have hel := escL_len c
      have e34 : ((c.toNat : Int) = 34) ↔ c = 34 := u8_int c 34
      have e39 : ((c.toNat : Int) = 39) ↔ c = 39 := u8_int c 39
      have e92 : ((c.toNat : Int) = 92) ↔ c = 92 := u8_int c 92
      have hnext : ∀ pl', pl' = (pl && plainB c) → Ev (fun k => mewsref04_Join.j2 k l sg (ofL out) (j : Int) pl' (ofL tx) (i : Int) (c.toNat : Int)) R := by
        rintro pl' rfl
        refine rj2_ev l (ofL out) j i c _ tx R (rj3_ev l (ofL out) j i hj hn hl c hi hc _ tx (by omega) R ?_)
        refine ih (i + 1) (by omega) (by omega) _ (tx ++ escL c) (by simp; omega) ?_
        rw [hc, List.all_cons, List.flatMap_cons, ← Bool.and_assoc, ← List.append_assoc tx] at h
        exact h
      refine ev_round ?_
      simp only [mewsref04_Join.l1]
      rw [rdOf_nat _ l j hj, hb]
      refine ev_pos (by omega) (ev_pos (by omega) (ev_pos (by omega) (ev_pos (by omega) ?_)))
      cases pl with
      | false => exact ev_neg (by decide) (hnext false (by simp))
      | true =>
        refine ev_pos rfl ?_
        by_cases p1 : c.toNat < 33
        · exact ev_neg (by omega) (hnext false (by unfold plainB; rw [decide_eq_false (show ¬ 33 ≤ c.toNat by omega)]; rfl))
        · refine ev_pos (by omega) ?_
          by_cases p2 : 126 < c.toNat
          · exact ev_neg (by omega) (hnext false (by unfold plainB; rw [decide_eq_false (show ¬ c.toNat ≤ 126 by omega)]; simp))
          · refine ev_pos (by omega) ?_
            by_cases p3 : c = 34
            · exact ev_pos (e34.2 p3) (hnext false (by rw [p3]; rfl))
            · refine ev_neg (fun h => p3 (e34.1 h)) ?_
              by_cases p4 : c = 39
              · exact ev_pos (e39.2 p4) (hnext false (by rw [p4]; rfl))
              · refine ev_neg (fun h => p4 (e39.1 h)) (hnext _ ?_)
                by_cases p5 : c = 92
                · rw [p5]; rfl
                · rw [bne_iff_ne.2 (fun h => p5 (e92.1 h))]
                  unfold plainB
                  rw [decide_eq_true (show 33 ≤ c.toNat by omega), decide_eq_true (show c.toNat ≤ 126 by omega), bne_iff_ne.2 p3, bne_iff_ne.2 p4, bne_iff_ne.2 p5]; rfl
    · exact hfin i h2 hi pl tx ht h
theorem esc_plain : ∀ u : List UInt8, u.all plainB = true → u.flatMap escL = u
  | [], h => rfl
  | c :: u, h => by
    rw [List.all_cons, Bool.and_eq_true] at h
    have ih := esc_plain u h.2
    rw [List.flatMap_cons, ih]
    have hp := h.1
    unfold plainB at hp
    simp only [Bool.and_eq_true, decide_eq_true_eq, bne_iff_ne] at hp
    have : escL c = [c] := by
      unfold escL
      rw [if_neg (fun h => h.elim hp.1.1.2 hp.2), if_neg (by omega)]
    rw [this]; rfl
theorem argT_is (u : List UInt8) (b : Bool) (hb : b = (!u.isEmpty)) : argT (b && u.all plainB) (u.flatMap escL) = argL u := by
  subst hb
  unfold argT argL plainL
  by_cases h : ((!u.isEmpty) && u.all plainB) = true
  · rw [if_pos h, if_pos h]
    rw [Bool.and_eq_true] at h
    exact esc_plain u h.2
  · rw [if_neg h, if_neg h]
theorem rjoin_l (l : List ByteArray) (hl : l.length ≤ 5000) (hs : ∀ s ∈ l, s.size ≤ 1000000) : ∀ (n j : Nat), l.length - j ≤ n → j ≤ l.length → ∀ acc : List UInt8, acc.length ≤ 4000003 * j →
    Ev (fun k => mewsref04_Join.l0 k l sg (ofL acc) (j : Int)) (ofL (acc ++ (if j = 0 then joinL (bs l) else tailL ((bs l).drop j)))) := by
  intro n
  have hfin : ∀ j, j ≤ l.length → ¬ j < l.length → ∀ acc : List UInt8, Ev (fun k => mewsref04_Join.l0 k l sg (ofL acc) (j : Int)) (ofL (acc ++ (if j = 0 then joinL (bs l) else tailL ((bs l).drop j)))) := by
    intro j h2 hj acc
    have e : (if j = 0 then joinL (bs l) else tailL ((bs l).drop j)) = [] := by
      by_cases h0 : j = 0
      · rw [if_pos h0]
        have : l = [] := List.length_eq_zero_iff.1 (by omega)
        subst this; rfl
      · rw [if_neg h0, List.drop_of_length_le (by simp [bs]; omega)]; rfl
    rw [e, List.append_nil]
    refine ev_round ?_
    simp only [mewsref04_Join.l0]
    exact ev_neg (by omega) (ev_some rfl)
  induction n with
  | zero => intro j h1 h2 acc ha; exact hfin j h2 (by omega) acc
  | succ n ih =>
    intro j h1 h2 acc ha
    by_cases hj : j < l.length
    · have hsz := hs l[j] (List.getElem_mem hj)
      have hbl : (bs l).length = l.length := by simp [bs]
      have hbj : (bs l)[j]'(by omega) = (l[j]).data.toList := by simp [bs]
      have hlen := argL_len (l[j]).data.toList
      rw [← ba_size] at hlen
      have hempty : decide ((((l[j]).size : Nat) : Int) > 0) = !(l[j]).data.toList.isEmpty := by
        rw [ba_size]
        cases (l[j]).data.toList with
        | nil => rfl
        | cons c u => simp
      refine ev_round ?_
      simp only [mewsref04_Join.l0]
      rw [rdOf_nat _ l j hj, hempty]
      refine ev_pos (by omega) (ev_pos (by omega) ?_)
      refine rjoin_1 l j hj hsz hl acc (by omega) _ (l[j]).size 0 (by omega) (by omega) _ [] (by simp) ?_
      rw [List.drop_zero, List.nil_append, argT_is _ _ rfl]
      have := ih (j + 1) (by omega) (by omega) (acc ++ ((if j = 0 then [] else [32]) ++ argL (l[j]).data.toList)) (by
        simp only [List.length_append]
        have : (if j = 0 then ([] : List UInt8) else [32]).length ≤ 1 := by split <;> simp
        omega)
      rw [if_neg (show ¬ (j + 1 = 0) by omega), List.append_assoc acc] at this
      have e : (if j = 0 then joinL (bs l) else tailL ((bs l).drop j)) = ((if j = 0 then [] else [32]) ++ argL (l[j]).data.toList) ++ tailL ((bs l).drop (j + 1)) := by
        by_cases h0 : j = 0
        · subst h0
          rw [if_pos rfl, if_pos rfl, List.nil_append]
          have : bs l = (l[0]).data.toList :: (bs l).drop 1 := by
            rw [← hbj, ← List.drop_eq_getElem_cons (by omega), List.drop_zero]
          conv => lhs; rw [this]
          rfl
        · rw [if_neg h0, if_neg h0, List.drop_eq_getElem_cons (show j < (bs l).length by omega), hbj]
          simp [tailL]
      rw [e]
      exact this
    · exact hfin j h2 hj acc
/-- The document's join. -/
theorem rjoin_ev (l : List ByteArray) (hl : l.length ≤ 5000) (hs : ∀ s ∈ l, s.size ≤ 1000000) : Ev (fun k => mewsref04_Join.f k l) (ofL (joinL (bs l))) := by
  have := rjoin_l l hl hs l.length 0 (by omega) (by omega) [] (by simp)
  rw [if_pos rfl, List.nil_append] at this
  exact this
end Go.Proofs.Ythelnfnkhcjngaa.Pure
