/- What the document's split comes to, on lists of bytes. No memory. -/
import Derived.Test.YthelnfnkhcjngaaLine
import Derived.Test.YthelnfnkhcjngaaX11
import Derived.Test.YthelnfnkhcjngaaX10
import Derived.Test.YthelnfnkhcjngaaX9
namespace Go.Proofs.Ythelnfnkhcjngaa.Pure
open Go.RowKit Go.Proofs.YthelnfnkhcjngaaW.PrintWords Go.Proofs.YthelnfnkhcjngaaW.PrintMore Go.Proofs.Ythelnfnkhcjngaa.Y Go.Proofs.Ythelnfnkhcjngaa.X Go.Proofs.Ythelnfnkhcjngaa.LM
set_option linter.unusedVariables false
set_option linter.unusedSimpArgs false

theorem digit_all : ∀ c : Fin 256, mewsref04_digit.f 20 ((UInt8.ofNat c.val).toNat : Int) = some (hexd (UInt8.ofNat c.val) : Int) := by decide +kernel
theorem digit_ev (c : UInt8) : Ev (fun k => mewsref04_digit.f k (c.toNat : Int)) (hexd c : Int) := Ev.of (mewsref04_digit.mono _) (k := 20) (u8_fin (P := fun c => mewsref04_digit.f 20 (c.toNat : Int) = some (hexd c : Int)) digit_all c)
theorem turned_all : ∀ c : Fin 256, mewsref04_turned.f 20 ((UInt8.ofNat c.val).toNat : Int) = some ((esc (UInt8.ofNat c.val)).toNat : Int) := by decide +kernel
theorem turned_ev (c : UInt8) : Ev (fun k => mewsref04_turned.f k (c.toNat : Int)) ((esc c).toNat : Int) := Ev.of (mewsref04_turned.mono _) (k := 20) (u8_fin (P := fun c => mewsref04_turned.f 20 (c.toNat : Int) = some ((esc c).toNat : Int)) turned_all c)
theorem ext1 (s : ByteArray) (i : Nat) (c : UInt8) (h : s.data.toList.drop i = c :: s.data.toList.drop (i + 1)) : s.extract i (i + 1) = ofL [c] := by
  apply ba_ext
  rw [ba_extract, h, ofL_data, Nat.add_sub_cancel_left]
  rfl
theorem ofL_add (a b : List UInt8) : ofL a ++ ofL b = ofL (a ++ b) := by
  apply ba_ext
  rw [ba_append]
  rfl
theorem ofL_size (a : List UInt8) : (ofL a).size = a.length := by rw [ba_size, ofL_data]
theorem strOf_one (c : UInt8) : strOfNums [(c.toNat : Int)] = ofL [c] := strOf_ints [c]
/-- A byte between quotes, as the document reads it. -/
theorem rstep_ev (s : ByteArray) (q : UInt8) (hn : s.size ≤ 1000000000) (hq : q = 34 ∨ q = 39) (i : Nat) (c : UInt8) (h : i < s.size) (hd : s.data.toList.drop i = c :: s.data.toList.drop (i + 1)) (hb : bt s (i : Int) = (c.toNat : Int)) (hc : c ≠ q) (out : List ByteArray) (op : Bool) (nw : List UInt8) (hw : nw.length ≤ i) :
    ∃ p, i < p ∧ p ≤ s.size ∧ (stepL q c (s.data.toList.drop (i + 1))).2 = s.data.toList.drop p ∧
      ∀ R, Ev (fun k => mewsref04_Split.l0 k s out (q.toNat : Int) op false (ofL (nw ++ [(stepL q c (s.data.toList.drop (i + 1))).1])) (p : Int)) R → Ev (fun k => mewsref04_Split.j4 k s out (q.toNat : Int) op false (ofL nw) (i : Int) (c.toNat : Int) false) R := by
  have hne : ¬ (c.toNat : Int) = (q.toNat : Int) := fun h => hc ((u8_int c q).1 h)
  have hq0 : ¬ (q.toNat : Int) = 0 := fun h => by have := (u8_int q 0).1 h; subst this; simp at hq
  have e92 : ((c.toNat : Int) = 92) ↔ c = 92 := u8_int c 92
  have e34 : ((q.toNat : Int) = 34) ↔ q = 34 := u8_int q 34
  have e39 : ((q.toNat : Int) = 39) ↔ q = 39 := u8_int q 39
  have hsz : (ofL nw).size ≤ i := by rw [ofL_size]; exact hw
  have hext := ext1 s i c hd
  have hone : (ofL [c]).size = 1 := rfl
  have hj6 : ∀ R, (c = 92 → q = 39 → ∀ x, s.data.toList.drop (i + 1) = x :: s.data.toList.drop (i + 2) → i + 1 < s.size → x ≠ 39) → Ev (fun k => mewsref04_Split.l0 k s out (q.toNat : Int) op false (ofL (nw ++ [c])) ((i + 1 : Nat) : Int)) R →
      Ev (fun k => mewsref04_Split.j6 k s out (q.toNat : Int) op false (ofL nw) (i : Int) (c.toNat : Int) false) R := by
    intro R hno hR
    rw [← ofL_add] at hR
    refine ev_round ?_
    simp only [mewsref04_Split.j6]
    rw [w1 i (by omega)]
    simp only [Int.toNat_natCast]
    rw [hext]
    have hdef : ∀ R, Ev (fun k => mewsref04_Split.l0 k s out (q.toNat : Int) op false (ofL nw ++ ofL [c]) ((i + 1 : Nat) : Int)) R → Ev (fun k => if 0 ≤ (i : Int) then (if (i : Int) ≤ ((i + 1 : Nat) : Int) then (if ((i + 1 : Nat) : Int) ≤ (s.size : Int) then (if (ofL nw).size + (ofL [c]).size ≤ 9223372036854775807 then (mewsref04_Split.l0 k s out (q.toNat : Int) op false (ofL nw ++ ofL [c]) ((i + 1 : Nat) : Int)) else (none)) else (none)) else (none)) else (none)) R :=
      fun R h => ev_pos (by omega) (ev_pos (by omega) (ev_pos (by omega) (ev_pos (by omega) h)))
    refine ev_neg (by decide) (ev_ite (fun c1 => ev_ite (fun c2 => ev_ite (fun c3 => ev_pos (by omega) (ev_neg ?_ (hdef R hR))) (fun _ => hdef R hR)) (fun _ => hdef R hR)) (fun _ => hdef R hR))
    intro h4
    obtain ⟨x, hx, hbx⟩ := at_cons s (i + 1) (by omega)
    rw [hbx] at h4
    exact hno (e92.1 c1) (e39.1 c2) x hx (by omega) ((u8_int x 39).1 h4)
  have hj5 : ∀ R, Ev (fun k => mewsref04_Split.j6 k s out (q.toNat : Int) op false (ofL nw) (i : Int) (c.toNat : Int) (decide (c = 92 ∧ q = 34 ∧ i + 1 < s.size))) R → Ev (fun k => mewsref04_Split.j5 k s out (q.toNat : Int) op false (ofL nw) (i : Int) (c.toNat : Int) false) R := by
    intro R hR
    refine ev_round ?_
    simp only [mewsref04_Split.j5]
    rw [w1 i (by omega)]
    refine ev_neg (by decide) ?_
    by_cases h1 : c = 92
    · refine ev_pos (e92.2 h1) ?_
      by_cases h2 : q = 34
      · refine ev_pos (e34.2 h2) ?_
        have : decide (((i + 1 : Nat) : Int) < (s.size : Int)) = decide (c = 92 ∧ q = 34 ∧ i + 1 < s.size) := by
          rw [decide_eq_decide]
          constructor
          · intro h; exact ⟨h1, h2, by omega⟩
          · intro h; have := h.2.2; omega
        rw [this]
        exact hR
      · rw [decide_eq_false (fun h => h2 h.2.1)] at hR
        exact ev_neg (fun h => h2 (e34.1 h)) hR
    · rw [decide_eq_false (fun h => h1 h.1)] at hR
      exact ev_neg (fun h => h1 (e92.1 h)) hR
  have hnot : ∀ R, ¬ (c = 92 ∧ q = 34) → Ev (fun k => mewsref04_Split.j5 k s out (q.toNat : Int) op false (ofL nw) (i : Int) (c.toNat : Int) false) R → Ev (fun k => mewsref04_Split.j4 k s out (q.toNat : Int) op false (ofL nw) (i : Int) (c.toNat : Int) false) R := by
    intro R hno hR
    refine ev_round ?_
    simp only [mewsref04_Split.j4]
    refine ev_neg (by decide) (ev_neg hq0 (ev_neg hne (ev_ite (fun g1 => ev_neg (fun g2 => hno ⟨e92.1 g1, e34.1 g2⟩) hR) (fun _ => hR))))
  by_cases hend : i + 1 < s.size
  · obtain ⟨x, hx, hbx⟩ := at_cons s (i + 1) hend
    rw [hx]
    simp only [stepL]
    by_cases h1 : c = 92 ∧ q = 34
    · rw [if_pos h1]
      have ex : ((x.toNat : Int) = 120) ↔ x = 120 := u8_int x 120
      have hl := drop_len s (i + 2)
      have hen : ∀ R, Ev (fun k => mewsref04_Split.j5 k s out (q.toNat : Int) op false (ofL nw) (i : Int) (c.toNat : Int) (decide (x = 120 ∧ 2 ≤ (s.data.toList.drop (i + 2)).length ∧ hexd ((s.data.toList.drop (i + 2)).getD 0 0) < 16 ∧ hexd ((s.data.toList.drop (i + 2)).getD 1 0) < 16))) R → Ev (fun k => mewsref04_Split.j4 k s out (q.toNat : Int) op false (ofL nw) (i : Int) (c.toNat : Int) false) R := by
        intro R hR
        refine ev_round ?_
        simp only [mewsref04_Split.j4]
        rw [w1 i (by omega), w2 i (by omega), w3 i (by omega), hbx]
        refine ev_neg (by decide) (ev_neg hq0 (ev_neg hne (ev_pos (e92.2 h1.1) (ev_pos (e34.2 h1.2) ?_))))
        by_cases hlen : i + 3 < s.size
        · obtain ⟨c0, d0, b0⟩ := at_cons s (i + 2) (by omega)
          obtain ⟨c1, d1, b1⟩ := at_cons s (i + 3) (by omega)
          have hr : s.data.toList.drop (i + 2) = c0 :: c1 :: s.data.toList.drop (i + 4) := by rw [d0, d1]
          have h2l : 2 ≤ (s.data.toList.drop (i + 2)).length := by omega
          rw [hr] at hR h2l
          simp only [List.getD_cons_zero, List.getD_cons_succ] at hR
          rw [b0, b1]
          refine ev_pos (by omega) (ev_pos (by omega) (ev_pos (by omega) ?_))
          by_cases g1 : x = 120
          · refine ev_pos (ex.2 g1) (ev_pos (by omega) (ev_pos (by omega) (ev_bind (digit_ev c0) ?_)))
            by_cases g2 : hexd c0 < 16
            · refine ev_pos (by omega) (ev_pos (by omega) (ev_bind (digit_ev c1) ?_))
              have : decide ((hexd c1 : Int) < 16) = decide (x = 120 ∧ 2 ≤ (c0 :: c1 :: s.data.toList.drop (i + 4)).length ∧ hexd c0 < 16 ∧ hexd c1 < 16) := by
                rw [decide_eq_decide]
                constructor
                · intro h; exact ⟨g1, h2l, g2, by omega⟩
                · intro h; have := h.2.2.2; omega
              rw [this]
              exact hR
            · rw [decide_eq_false (fun h => g2 h.2.2.1)] at hR
              exact ev_neg (by omega) hR
          · rw [decide_eq_false (fun h => g1 h.1)] at hR
            exact ev_neg (fun h => g1 (ex.1 h)) hR
        · rw [decide_eq_false (fun h => by have := h.2.1; omega)] at hR
          exact ev_neg (by omega) hR
      unfold turnL
      by_cases ht : x = 120 ∧ 2 ≤ (s.data.toList.drop (i + 2)).length ∧ hexd ((s.data.toList.drop (i + 2)).getD 0 0) < 16 ∧ hexd ((s.data.toList.drop (i + 2)).getD 1 0) < 16
      · rw [if_pos ht]
        have hlen : i + 3 < s.size := by have := ht.2.1; omega
        obtain ⟨c0, d0, b0⟩ := at_cons s (i + 2) (by omega)
        obtain ⟨c1, d1, b1⟩ := at_cons s (i + 3) (by omega)
        have hr : s.data.toList.drop (i + 2) = c0 :: c1 :: s.data.toList.drop (i + 4) := by rw [d0, d1]
        refine ⟨i + 4, by omega, by omega, by simp [List.drop_drop], fun R hR => hen R ?_⟩
        rw [decide_eq_true ht]
        rw [hr] at ht hR
        simp only [List.getD_cons_zero, List.getD_cons_succ] at ht hR
        refine ev_round ?_
        simp only [mewsref04_Split.j5]
        rw [w2 i (by omega), w3 i (by omega), w1 (i + 3) (by omega), b0, b1]
        refine ev_pos (by trivial) (ev_pos (by omega) (ev_pos (by omega) (ev_bind (digit_ev c0) (ev_pos (by omega) (ev_pos (by omega) (ev_bind (digit_ev c1) (ev_bind0 rfl ?_)))))))
        have hv : (wrap64 (wrap64 (16 * (hexd c0 : Int)) + (hexd c1 : Int))) % 256 = ((UInt8.ofNat (16 * hexd c0 + hexd c1)).toNat : Int) := by
          have := ht.2.2
          rw [w64 (i := 16 * (hexd c0 : Int)) (by omega) (by omega), w64 (by omega) (by omega), UInt8.toNat_ofNat']
          congr 1
        rw [hv, strOf_one, ofL_add]
        exact ev_pos (by rw [ofL_size]; show _ + 1 ≤ _; omega) hR
      · rw [if_neg ht]
        refine ⟨i + 2, by omega, by omega, rfl, fun R hR => hen R ?_⟩
        rw [decide_eq_false ht]
        refine hj5 R (ev_round ?_)
        simp only [mewsref04_Split.j6]
        rw [w1 i (by omega), w1 (i + 1) (by omega), hbx, decide_eq_true ⟨h1.1, h1.2, hend⟩]
        refine ev_pos (by trivial) (ev_pos (by omega) (ev_pos (by omega) (ev_bind (turned_ev x) (ev_bind0 rfl ?_))))
        rw [strOf_one, ofL_add]
        exact ev_pos (by rw [ofL_size]; show _ + 1 ≤ _; omega) hR
    · rw [if_neg h1]
      have hfl : decide (c = 92 ∧ q = 34 ∧ i + 1 < s.size) = false := decide_eq_false (fun h => h1 ⟨h.1, h.2.1⟩)
      rw [hfl] at hj5
      by_cases h2 : c = 92 ∧ q = 39 ∧ x = 39
      · rw [if_pos h2]
        refine ⟨i + 2, by omega, by omega, rfl, fun R hR => hnot R h1 (hj5 R (ev_round ?_))⟩
        simp only [mewsref04_Split.j6]
        rw [w1 i (by omega), w1 (i + 1) (by omega), hbx]
        obtain ⟨g1, g2, g3⟩ := h2
        subst g1; subst g2; subst g3
        have e : ofL nw ++ (⟨#[39]⟩ : ByteArray) = ofL (nw ++ [39]) := ofL_add nw [39]
        rw [e]
        exact ev_neg (by decide) (ev_pos rfl (ev_pos rfl (ev_pos (by omega) (ev_pos (by omega) (ev_pos rfl (ev_pos (by rw [ofL_size]; omega) hR))))))
      · rw [if_neg h2]
        refine ⟨i + 1, by omega, by omega, hx.symm, fun R hR => hnot R h1 (hj5 R (hj6 R ?_ hR))⟩
        intro g1 g2 y g3 _ g4
        rw [hx] at g3
        injection g3 with g3 _
        exact h2 ⟨g1, g2, by rw [g3]; exact g4⟩
  · rw [drop_end s (i + 1) (by omega)]
    simp only [stepL]
    refine ⟨i + 1, by omega, by omega, (drop_end s (i + 1) (by omega)).symm, fun R hR => ?_⟩
    have h6 := hj6 R (fun _ _ x _ h => absurd h hend) hR
    rw [decide_eq_false (fun h => hend h.2.2)] at hj5
    have h5 := hj5 R h6
    by_cases h1 : c = 92 ∧ q = 34
    · refine ev_round ?_
      simp only [mewsref04_Split.j4]
      rw [w3 i (by omega)]
      exact ev_neg (by decide) (ev_neg hq0 (ev_neg hne (ev_pos (e92.2 h1.1) (ev_pos (e34.2 h1.2) (ev_neg (by omega) h5)))))
    · exact hnot R h1 h5
theorem ref_l (s : ByteArray) (hn : s.size ≤ 1000000000) : ∀ (n i : Nat), s.size - i ≤ n → i ≤ s.size → ∀ (q : UInt8) (op cl : Bool) (nw : List UInt8) (out : List (List UInt8)), (q = 0 ∨ q = 34 ∨ q = 39) → nw.length ≤ i → out.length ≤ i →
    Ev (fun k => mewsref04_Split.l0 k s (out.map ofL) (q.toNat : Int) op cl (ofL nw) (i : Int)) (res [] (refL (s.data.toList.drop i) q op cl nw out)) := by
  intro n
  have hfin : ∀ i, i ≤ s.size → ¬ i < s.size → ∀ (q : UInt8) (op cl : Bool) (nw : List UInt8) (out : List (List UInt8)), out.length ≤ i →
      Ev (fun k => mewsref04_Split.l0 k s (out.map ofL) (q.toNat : Int) op cl (ofL nw) (i : Int)) (res [] (refL (s.data.toList.drop i) q op cl nw out)) := by
    intro i h2 hi q op cl nw out ho
    have e0 : ((q.toNat : Int) = 0) ↔ q = 0 := u8_int q 0
    rw [drop_end s i (by omega), refL_nil]
    refine ev_round ?_
    simp only [mewsref04_Split.l0]
    refine ev_neg (by omega) ?_
    by_cases hq : q = 0
    · refine ev_pos (e0.2 hq) ?_
      rw [if_neg (show ¬ (q ≠ 0) from fun h => h hq)]
      cases op with
      | true => exact ev_pos rfl (ev_pos (by rw [List.length_map]; omega) (ev_some (by simp [res])))
      | false => exact ev_neg (by decide) (ev_some (by simp [res]))
    · rw [if_pos hq]
      exact ev_neg (fun h => hq (e0.1 h)) (ev_some rfl)
  induction n with
  | zero => intro i h1 h2 q op cl nw out hq hw ho; exact hfin i h2 (by omega) q op cl nw out ho
  | succ n ih =>
    intro i h1 h2 q op cl nw out hq hw ho
    by_cases hi : i < s.size
    · obtain ⟨c, hc, hb⟩ := at_cons s i hi
      have e0 : ((q.toNat : Int) = 0) ↔ q = 0 := u8_int q 0
      have e34 : ((c.toNat : Int) = 34) ↔ c = 34 := u8_int c 34
      have e39 : ((c.toNat : Int) = 39) ↔ c = 39 := u8_int c 39
      have e32 : ((c.toNat : Int) = 32) ↔ c = 32 := u8_int c 32
      have e9 : ((c.toNat : Int) = 9) ↔ c = 9 := u8_int c 9
      have hent : ∀ R, Ev (fun k => mewsref04_Split.j2 k s (out.map ofL) (q.toNat : Int) op (ofL nw) (i : Int) (c.toNat : Int) (isBl c) (cl && !isBl c)) R → Ev (fun k => mewsref04_Split.l0 k s (out.map ofL) (q.toNat : Int) op cl (ofL nw) (i : Int)) R := by
        intro R hR
        have h1 : Ev (fun k => mewsref04_Split.j1 k s (out.map ofL) (q.toNat : Int) op cl (ofL nw) (i : Int) (c.toNat : Int) (isBl c)) R := by
          refine ev_round ?_
          simp only [mewsref04_Split.j1]
          cases cl with
          | true => exact ev_pos rfl hR
          | false => exact ev_neg (by decide) hR
        refine ev_round ?_
        simp only [mewsref04_Split.l0]
        rw [hb]
        refine ev_pos (by omega) (ev_pos (by omega) ?_)
        by_cases h32 : c = 32
        · refine ev_pos (e32.2 h32) ?_
          rw [h32] at h1 ⊢
          exact h1
        · refine ev_neg (fun h => h32 (e32.1 h)) ?_
          have : ((c.toNat : Int) == 9) = isBl c := by
            unfold isBl
            rw [show (c == 32) = false from beq_eq_false_iff_ne.2 h32, Bool.false_or]
            by_cases h9 : c = 9
            · rw [h9]; rfl
            · rw [beq_eq_false_iff_ne.2 h9, beq_eq_false_iff_ne.2 (fun h => h9 (e9.1 h))]
          rw [this]
          exact h1
      rw [hc]
      by_cases hcl : (cl && !isBl c) = true
      · rw [refL_cons, if_pos hcl]
        refine hent _ (ev_round ?_)
        simp only [mewsref04_Split.j2]
        exact ev_pos hcl (ev_some rfl)
      · have hcl' : (cl && !isBl c) = false := by simpa using hcl
        rw [refL_cons, if_neg hcl]
        rw [hcl'] at hent
        by_cases hq0 : q = 0
        · rw [if_pos hq0]
          have hent2 : ∀ R, Ev (fun k => mewsref04_Split.j3 k s (out.map ofL) (q.toNat : Int) op false (ofL nw) (i : Int) (c.toNat : Int) (isBl c)) R → Ev (fun k => mewsref04_Split.l0 k s (out.map ofL) (q.toNat : Int) op cl (ofL nw) (i : Int)) R := by
            intro R hR
            refine hent R (ev_round ?_)
            simp only [mewsref04_Split.j2]
            exact ev_neg (by decide) (ev_pos (e0.2 hq0) hR)
          by_cases hbl : isBl c = true
          · rw [if_pos hbl]
            refine hent2 _ (ev_round ?_)
            simp only [mewsref04_Split.j3]
            rw [w1 i (by omega)]
            refine ev_pos hbl ?_
            have hno : (⟨#[]⟩ : ByteArray) = ofL [] := rfl
            rw [hno]
            cases op with
            | true =>
              have := ih (i + 1) (by omega) (by omega) q false false [] (out ++ [nw]) (Or.inl hq0) (by simp) (by simp; omega)
              rw [List.map_append] at this
              rw [hq0] at this ⊢
              exact ev_pos rfl (ev_pos (by rw [List.length_map]; omega) this)
            | false =>
              have := ih (i + 1) (by omega) (by omega) q false false [] out (Or.inl hq0) (by simp) (by omega)
              rw [hq0] at this ⊢
              exact ev_neg (by decide) this
          · have hbl' : isBl c = false := by simpa using hbl
            rw [if_neg hbl]
            rw [hbl'] at hent2
            have hent3 : ∀ R, Ev (fun k => mewsref04_Split.j4 k s (out.map ofL) (q.toNat : Int) op false (ofL nw) (i : Int) (c.toNat : Int) (decide (c = 34 ∨ c = 39))) R → Ev (fun k => mewsref04_Split.l0 k s (out.map ofL) (q.toNat : Int) op cl (ofL nw) (i : Int)) R := by
              intro R hR
              refine hent2 R (ev_round ?_)
              simp only [mewsref04_Split.j3]
              refine ev_neg (by decide) (ev_pos (e0.2 hq0) ?_)
              by_cases h3 : c = 34
              · rw [decide_eq_true (Or.inl h3)] at hR
                exact ev_pos (e34.2 h3) hR
              · refine ev_neg (fun h => h3 (e34.1 h)) ?_
                by_cases h4 : c = 39
                · rw [decide_eq_true (Or.inr h4)] at hR
                  rw [show ((c.toNat : Int) == 39) = true from beq_iff_eq.2 (e39.2 h4)]
                  exact hR
                · rw [decide_eq_false (fun h => h.elim h3 h4)] at hR
                  rw [show ((c.toNat : Int) == 39) = false from beq_eq_false_iff_ne.2 (fun h => h4 (e39.1 h))]
                  exact hR
            by_cases hqu : c = 34 ∨ c = 39
            · rw [if_pos hqu]
              refine hent3 _ (ev_round ?_)
              simp only [mewsref04_Split.j4]
              rw [w1 i (by omega), decide_eq_true hqu]
              exact ev_pos (by trivial) (ih (i + 1) (by omega) (by omega) c true false nw out (Or.inr hqu) (by omega) (by omega))
            · rw [if_neg hqu]
              refine hent3 _ (ev_round ?_)
              simp only [mewsref04_Split.j4]
              rw [w1 i (by omega), decide_eq_false hqu]
              simp only [Int.toNat_natCast]
              rw [ext1 s i c hc, ofL_add]
              have := ih (i + 1) (by omega) (by omega) q true false (nw ++ [c]) out (Or.inl hq0) (by simp; omega) (by omega)
              rw [hq0] at this
              have h0 : (q.toNat : Int) = 0 := e0.2 hq0
              rw [h0]
              refine ev_neg (by decide) (ev_pos rfl (ev_pos (by omega) (ev_pos (by omega) (ev_pos (by omega) (ev_pos ?_ this)))))
              rw [ofL_size, ofL_size]
              simp only [List.length_cons, List.length_nil]
              omega
        · rw [if_neg hq0]
          have hq2 : q = 34 ∨ q = 39 := hq.resolve_left hq0
          have hent2 : ∀ R, Ev (fun k => mewsref04_Split.j4 k s (out.map ofL) (q.toNat : Int) op false (ofL nw) (i : Int) (c.toNat : Int) false) R → Ev (fun k => mewsref04_Split.l0 k s (out.map ofL) (q.toNat : Int) op cl (ofL nw) (i : Int)) R := by
            intro R hR
            refine hent R (ev_round ?_)
            simp only [mewsref04_Split.j2]
            refine ev_neg (by decide) (ev_neg (fun h => hq0 (e0.1 h)) (ev_round ?_))
            simp only [mewsref04_Split.j3]
            exact ev_neg (by decide) (ev_neg (fun h => hq0 (e0.1 h)) hR)
          by_cases hcq : c = q
          · rw [if_pos hcq]
            refine hent2 _ (ev_round ?_)
            simp only [mewsref04_Split.j4]
            rw [w1 i (by omega), hcq]
            have := ih (i + 1) (by omega) (by omega) 0 op true nw out (Or.inl rfl) (by omega) (by omega)
            exact ev_neg (by decide) (ev_neg (fun h => hq0 (e0.1 h)) (ev_pos (by trivial) this))
          · rw [if_neg hcq]
            obtain ⟨p, p1, p2, p3, p4⟩ := rstep_ev s q hn hq2 i c hi hc hb hcq (out.map ofL) op nw hw
            generalize stepL q c (s.data.toList.drop (i + 1)) = st at p3 p4 ⊢
            rw [p3]
            exact hent2 _ (p4 _ (ih p (by omega) p2 q op false (nw ++ [st.1]) out (Or.inr hq2) (by simp; omega) (by omega)))
    · exact hfin i h2 hi q op cl nw out ho
/-- The document's split. -/
theorem rsplit_ev (s : ByteArray) (hn : s.size ≤ 1000000000) : Ev (fun k => mewsref04_Split.f k s) (res [] (splitL s.data.toList)) := by
  have := ref_l s hn s.size 0 (by omega) (by omega) 0 false false [] [] (Or.inl rfl) (by simp) (by simp)
  rw [List.drop_zero, refL_split _ _ (Nat.le_refl _)] at this
  have e : (splitL s.data.toList).map (([] : List (List UInt8)) ++ ·) = splitL s.data.toList := by cases splitL s.data.toList <;> rfl
  rw [e] at this
  exact this
end Go.Proofs.Ythelnfnkhcjngaa.Pure
