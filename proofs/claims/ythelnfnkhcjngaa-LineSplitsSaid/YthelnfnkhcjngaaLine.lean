/- What line.Split comes to, on lists of bytes. No memory. -/
import Derived.Test.YthelnfnkhcjngaaX5
import Derived.Test.YthelnfnkhcjngaaX1
import Derived.Test.YthelnfnkhcjngaaX2
import Derived.Test.YthelnfnkhcjngaaX3
import Derived.Test.YthelnfnkhcjngaaX4
import Derived.Test.YthelnfnkhcjngaaY
import Derived.Test.YthelnfnkhcjngaaLineMath
namespace Go.Proofs.Ythelnfnkhcjngaa.Pure
open Go.RowKit Go.Proofs.YthelnfnkhcjngaaW.PrintWords Go.Proofs.YthelnfnkhcjngaaW.PrintMore Go.Proofs.Ythelnfnkhcjngaa.Y Go.Proofs.Ythelnfnkhcjngaa.X Go.Proofs.Ythelnfnkhcjngaa.LM
set_option linter.unusedVariables false
set_option linter.unusedSimpArgs false

def ofL (u : List UInt8) : ByteArray := ⟨u.toArray⟩
theorem ofL_data (u : List UInt8) : (ofL u).data.toList = u := rfl
theorem ofL_of (s : ByteArray) : ofL s.data.toList = s := ba_ext rfl
def ints (u : List UInt8) : List Int := u.map fun b => (b.toNat : Int)
theorem ints_app (u v : List UInt8) : ints (u ++ v) = ints u ++ ints v := List.map_append ..
theorem ints_len (u : List UInt8) : (ints u).length = u.length := List.length_map ..
theorem strOf_ints (u : List UInt8) : strOfNums (ints u) = ofL u := by
  apply ba_ext
  rw [strOf_data, ofL_data, ints, List.map_map]
  conv => rhs; rw [← List.map_id u]
  apply List.map_congr_left
  intro b _
  simp
theorem at_cons (s : ByteArray) (i : Nat) (h : i < s.size) : ∃ c, s.data.toList.drop i = c :: s.data.toList.drop (i + 1) ∧ bt s (i : Int) = (c.toNat : Int) := by
  rw [ba_size] at h
  exact ⟨s.data.toList[i], List.drop_eq_getElem_cons h, bt_nat s i (by rw [ba_size]; exact h)⟩
theorem drop_end (s : ByteArray) (i : Nat) (h : s.size ≤ i) : s.data.toList.drop i = [] := List.drop_of_length_le (by rw [← ba_size]; exact h)
theorem drop_len (s : ByteArray) (i : Nat) : (s.data.toList.drop i).length = s.size - i := by rw [List.length_drop, ba_size]
theorem u8_int (x y : UInt8) : ((x.toNat : Int) = (y.toNat : Int)) ↔ x = y := by
  constructor
  · intro h
    exact UInt8.toNat_inj.1 (by omega)
  · rintro rfl; rfl
theorem u8_fin {P : UInt8 → Prop} (h : ∀ c : Fin 256, P (UInt8.ofNat c.val)) (x : UInt8) : P x := by
  have := h ⟨x.toNat, UInt8.toNat_lt x⟩
  simpa using this
theorem wN (i d : Nat) (h : i + d ≤ 4000000000) : wrap64 ((i : Int) + (d : Int)) = ((i + d : Nat) : Int) := by
  rw [w64 (by omega) (by omega)]; omega
theorem w1 (i : Nat) (h : i ≤ 2000000000) : wrap64 ((i : Int) + 1) = ((i + 1 : Nat) : Int) := wN i 1 (by omega)
theorem w2 (i : Nat) (h : i ≤ 2000000000) : wrap64 ((i : Int) + 2) = ((i + 2 : Nat) : Int) := wN i 2 (by omega)
theorem w3 (i : Nat) (h : i ≤ 2000000000) : wrap64 ((i : Int) + 3) = ((i + 3 : Nat) : Int) := wN i 3 (by omega)
theorem blank_all : ∀ c : Fin 256, line_blank.f ((UInt8.ofNat c.val).toNat : Int) = some (isBl (UInt8.ofNat c.val)) := by decide +kernel
theorem blank_is (c : UInt8) : line_blank.f (c.toNat : Int) = some (isBl c) := u8_fin (P := fun c => line_blank.f (c.toNat : Int) = some (isBl c)) blank_all c
def hexI (c : UInt8) : Int := if hexd c < 16 then (hexd c : Int) else -1
theorem hex_all : ∀ c : Fin 256, line_hex.f 3 ((UInt8.ofNat c.val).toNat : Int) = some (hexI (UInt8.ofNat c.val)) := by decide +kernel
theorem hex_ev (c : UInt8) : Ev (fun k => line_hex.f k (c.toNat : Int)) (hexI c) := Ev.of (line_hex.mono _) (k := 3) (u8_fin (P := fun c => line_hex.f 3 (c.toNat : Int) = some (hexI c)) hex_all c)
theorem hexI_ge (c : UInt8) : (hexI c ≥ 0) ↔ hexd c < 16 := by
  unfold hexI
  split <;> omega
theorem ends_is (s : ByteArray) (i : Nat) (h : i ≤ s.size) : line_ends.f (i : Int) s = some (endsL (s.data.toList.drop i)) := by
  unfold line_ends.f
  by_cases he : i = s.size
  · rw [if_pos (by omega), drop_end s i (by omega)]; rfl
  · obtain ⟨c, h1, h2⟩ := at_cons s i (by omega)
    rw [if_neg (show ¬ (i : Int) = (s.size : Int) by omega), if_pos (show 0 ≤ (i : Int) by omega), if_pos (show (i : Int) < (s.size : Int) by omega), h1, h2, blank_is]; rfl
theorem esc_if (x : UInt8) (W : Int) : (if (x.toNat : Int) = 110 then (some (10, W)) else (if (x.toNat : Int) = 114 then (some (13, W)) else (if (x.toNat : Int) = 116 then (some (9, W)) else (if (x.toNat : Int) = 98 then (some (8, W)) else (if (x.toNat : Int) = 97 then (some (7, W)) else (some ((x.toNat : Int), W))))))) = some (((esc x).toNat : Int), W) := by
  have e1 : ((x.toNat : Int) = 110) ↔ x = 110 := u8_int x 110
  have e2 : ((x.toNat : Int) = 114) ↔ x = 114 := u8_int x 114
  have e3 : ((x.toNat : Int) = 116) ↔ x = 116 := u8_int x 116
  have e4 : ((x.toNat : Int) = 98) ↔ x = 98 := u8_int x 98
  have e5 : ((x.toNat : Int) = 97) ↔ x = 97 := u8_int x 97
  simp only [e1, e2, e3, e4, e5]
  unfold esc
  split
  · rfl
  · split
    · rfl
    · split
      · rfl
      · split
        · rfl
        · split
          · rfl
          · rfl
theorem turn0_ev (s : ByteArray) (i : Nat) (x : UInt8) (hn : s.size ≤ 1000000000) (h : i < s.size) (hb : bt s (i : Int) = (x.toNat : Int)) :
    Ev (fun k => line_turn.j0 k s (i : Int) false) (((esc x).toNat : Int), ((i + 1 : Nat) : Int)) := by
  refine ev_round ?_
  simp only [line_turn.j0]
  refine ev_neg (by decide) (ev_pos (by omega) (ev_pos (by omega) ?_))
  rw [hb, w1 i (by omega), esc_if]
  exact ev_some rfl
theorem turn1_ev (s : ByteArray) (i : Nat) (c0 c1 : UInt8) (hn : s.size ≤ 1000000000) (h : i + 2 < s.size) (h0 : bt s ((i + 1 : Nat) : Int) = (c0.toNat : Int)) (h1 : bt s ((i + 2 : Nat) : Int) = (c1.toNat : Int)) (h2 : hexd c0 < 16) (h3 : hexd c1 < 16) :
    Ev (fun k => line_turn.j0 k s (i : Int) true) (((UInt8.ofNat (16 * hexd c0 + hexd c1)).toNat : Int), ((i + 3 : Nat) : Int)) := by
  refine ev_round ?_
  simp only [line_turn.j0]
  rw [w1 i (by omega), w2 i (by omega), w3 i (by omega), h0, h1]
  refine ev_pos (by trivial) (ev_pos (by omega) (ev_pos (by omega) (ev_bind (hex_ev c0) (ev_pos (by omega) (ev_pos (by omega) (ev_bind (hex_ev c1) (ev_some ?_)))))))
  have e0 : hexI c0 = (hexd c0 : Int) := if_pos h2
  have e1 : hexI c1 = (hexd c1 : Int) := if_pos h3
  rw [e0, e1, w64 (i := 16 * (hexd c0 : Int)) (by omega) (by omega), w64 (by omega) (by omega), UInt8.toNat_ofNat']
  congr 1
/-- A turn. -/
theorem turn_ev (s : ByteArray) (i : Nat) (x : UInt8) (hn : s.size ≤ 1000000000) (h : i < s.size) (hb : bt s (i : Int) = (x.toNat : Int)) :
    ∃ p, i < p ∧ p ≤ s.size ∧ (turnL x (s.data.toList.drop (i + 1))).2 = s.data.toList.drop p ∧ Ev (fun k => line_turn.f k s (i : Int)) (((turnL x (s.data.toList.drop (i + 1))).1.toNat : Int), (p : Int)) := by
  have hl := drop_len s (i + 1)
  have ex : ((x.toNat : Int) = 120) ↔ x = 120 := u8_int x 120
  unfold line_turn.f
  rw [w1 i (by omega), w2 i (by omega), hb]
  by_cases hlen : i + 2 < s.size
  · obtain ⟨c0, d0, b0⟩ := at_cons s (i + 1) (by omega)
    obtain ⟨c1, d1, b1⟩ := at_cons s (i + 2) (by omega)
    rw [b0, b1]
    have hr : s.data.toList.drop (i + 1) = c0 :: c1 :: s.data.toList.drop (i + 3) := by rw [d0, d1]
    have h2l : 2 ≤ (s.data.toList.drop (i + 1)).length := by omega
    unfold turnL
    rw [hr] at h2l ⊢
    simp only [List.getD_cons_zero, List.getD_cons_succ, List.drop_succ_cons, List.drop_zero]
    by_cases hx : x = 120
    · by_cases a0 : hexd c0 < 16
      · by_cases a1 : hexd c1 < 16
        · refine ⟨i + 3, by omega, by omega, ?_, ?_⟩
          · rw [if_pos ⟨hx, h2l, a0, a1⟩]
          · rw [if_pos (c := x = 120 ∧ _) ⟨hx, h2l, a0, a1⟩]
            refine ev_pos (by omega) (ev_pos (by omega) (ev_pos (ex.2 hx) (ev_pos (by omega) (ev_pos (by omega) (ev_pos (by omega) (ev_bind (hex_ev c0) (ev_pos ((hexI_ge c0).2 a0) (ev_pos (by omega) (ev_bind (hex_ev c1) ?_)))))))))
            rw [decide_eq_true ((hexI_ge c1).2 a1)]
            exact turn1_ev s i c0 c1 hn hlen b0 b1 a0 a1
        · refine ⟨i + 1, by omega, by omega, ?_, ?_⟩
          · rw [if_neg (fun h => a1 h.2.2.2)]; exact hr.symm
          · rw [if_neg (c := x = 120 ∧ _) (fun h => a1 h.2.2.2)]
            refine ev_pos (by omega) (ev_pos (by omega) (ev_pos (ex.2 hx) (ev_pos (by omega) (ev_pos (by omega) (ev_pos (by omega) (ev_bind (hex_ev c0) (ev_pos ((hexI_ge c0).2 a0) (ev_pos (by omega) (ev_bind (hex_ev c1) ?_)))))))))
            rw [decide_eq_false (fun h => a1 ((hexI_ge c1).1 h))]
            exact turn0_ev s i x hn h hb
      · refine ⟨i + 1, by omega, by omega, ?_, ?_⟩
        · rw [if_neg (fun h => a0 h.2.2.1)]; exact hr.symm
        · rw [if_neg (c := x = 120 ∧ _) (fun h => a0 h.2.2.1)]
          exact ev_pos (by omega) (ev_pos (by omega) (ev_pos (ex.2 hx) (ev_pos (by omega) (ev_pos (by omega) (ev_pos (by omega) (ev_bind (hex_ev c0) (ev_neg (fun h => a0 ((hexI_ge c0).1 h)) (turn0_ev s i x hn h hb))))))))
    · refine ⟨i + 1, by omega, by omega, ?_, ?_⟩
      · rw [if_neg (fun h => hx h.1)]; exact hr.symm
      · rw [if_neg (c := x = 120 ∧ _) (fun h => hx h.1)]
        exact ev_pos (by omega) (ev_pos (by omega) (ev_neg (fun h => hx (ex.1 h)) (turn0_ev s i x hn h hb)))
  · have h2l : ¬ 2 ≤ (s.data.toList.drop (i + 1)).length := by omega
    unfold turnL
    refine ⟨i + 1, by omega, by omega, ?_, ?_⟩
    · rw [if_neg (fun h => h2l h.2.1)]
    · rw [if_neg (c := x = 120 ∧ _) (fun h => h2l h.2.1)]
      refine ev_pos (by omega) (ev_pos (by omega) (ev_ite (fun _ => ev_neg (by omega) (turn0_ev s i x hn h hb)) (fun _ => turn0_ev s i x hn h hb)))
/-- A byte between quotes. -/
theorem step_ev (s : ByteArray) (m : UInt8) (hn : s.size ≤ 1000000000) (i : Nat) (c : UInt8) (h : i < s.size) (hb : bt s (i : Int) = (c.toNat : Int)) (hc : c ≠ m) (acc : List UInt8) (ha : acc.length ≤ i) :
    ∃ p, i < p ∧ p ≤ s.size ∧ (stepL m c (s.data.toList.drop (i + 1))).2 = s.data.toList.drop p ∧
      ∀ R, Ev (fun k => line_quoted.l0 k s (p : Int) (m.toNat : Int) (ints (acc ++ [(stepL m c (s.data.toList.drop (i + 1))).1]))) R → Ev (fun k => line_quoted.l0 k s (i : Int) (m.toNat : Int) (ints acc)) R := by
  have hne : ¬ (c.toNat : Int) = (m.toNat : Int) := fun h => hc ((u8_int c m).1 h)
  have e92 : ((c.toNat : Int) = 92) ↔ c = 92 := u8_int c 92
  have e34 : ((m.toNat : Int) = 34) ↔ m = 34 := u8_int m 34
  have e39 : ((m.toNat : Int) = 39) ↔ m = 39 := u8_int m 39
  have hil := ints_len acc
  have hent : ∀ R, Ev (fun k => line_quoted.j1 k s (i : Int) (m.toNat : Int) (ints acc) (c.toNat : Int) (decide (c = 92 ∧ m = 34 ∧ i + 1 < s.size))) R → Ev (fun k => line_quoted.l0 k s (i : Int) (m.toNat : Int) (ints acc)) R := by
    intro R hR
    refine ev_round ?_
    simp only [line_quoted.l0]
    rw [hb, w1 i (by omega)]
    refine ev_pos (by omega) (ev_pos (by omega) (ev_neg hne ?_))
    by_cases h1 : c = 92
    · refine ev_pos (e92.2 h1) ?_
      by_cases h2 : m = 34
      · refine ev_pos (e34.2 h2) ?_
        have : decide (((i + 1 : Nat) : Int) < (s.size : Int)) = decide (c = 92 ∧ m = 34 ∧ i + 1 < s.size) := by
          rw [decide_eq_decide]
          constructor
          · intro h; exact ⟨h1, h2, by omega⟩
          · intro h; have := h.2.2; omega
        rw [this]
        exact hR
      · rw [decide_eq_false (fun h => h2 h.2.1)] at hR
        exact ev_neg (fun h => h2 (e34.1 h)) hR
    · rw [decide_eq_false (fun h => h1 h.1)] at hR
      exact ev_neg (fun h => h1 (e92.1 h)) hR
  have hdef : ∀ R, ¬ (c = 92 ∧ m = 39 ∧ ∃ x, s.data.toList.drop (i + 1) = x :: s.data.toList.drop (i + 2) ∧ x = 39) → Ev (fun k => line_quoted.l0 k s ((i + 1 : Nat) : Int) (m.toNat : Int) (ints (acc ++ [c]))) R → Ev (fun k => line_quoted.j1 k s (i : Int) (m.toNat : Int) (ints acc) (c.toNat : Int) false) R := by
    intro R hno hR
    rw [ints_app] at hR
    refine ev_round ?_
    simp only [line_quoted.j1]
    rw [w1 i (by omega)]
    have hl : (ints acc).length < 140737488355328 := by omega
    refine ev_neg (by decide) (ev_ite (fun c1 => ev_ite (fun c2 => ev_ite (fun c3 => ev_pos (by omega) (ev_neg ?_ (ev_pos hl hR))) (fun _ => ev_pos hl hR)) (fun _ => ev_pos hl hR)) (fun _ => ev_pos hl hR))
    intro h4
    obtain ⟨x, hx, hbx⟩ := at_cons s (i + 1) (by omega)
    rw [hbx] at h4
    exact hno ⟨e92.1 c1, e39.1 c2, x, hx, by rw [(u8_int x m).1 h4]; exact e39.1 c2⟩
  by_cases hend : i + 1 < s.size
  · obtain ⟨x, hx, hbx⟩ := at_cons s (i + 1) hend
    rw [hx]
    simp only [stepL]
    by_cases h1 : c = 92 ∧ m = 34
    · rw [if_pos h1]
      obtain ⟨p, p1, p2, p3, p4⟩ := turn_ev s (i + 1) x hn hend hbx
      refine ⟨p, by omega, p2, p3, fun R hR => hent R ?_⟩
      rw [decide_eq_true ⟨h1.1, h1.2, hend⟩]
      refine ev_round ?_
      simp only [line_quoted.j1]
      rw [w1 i (by omega)]
      rw [ints_app] at hR
      exact ev_pos (by trivial) (ev_bind p4 (ev_pos (by omega) hR))
    · rw [if_neg h1]
      have hfl : decide (c = 92 ∧ m = 34 ∧ i + 1 < s.size) = false := decide_eq_false (fun h => h1 ⟨h.1, h.2.1⟩)
      by_cases h2 : c = 92 ∧ m = 39 ∧ x = 39
      · rw [if_pos h2]
        refine ⟨i + 2, by omega, by omega, rfl, fun R hR => hent R ?_⟩
        rw [hfl]
        rw [ints_app] at hR
        refine ev_round ?_
        simp only [line_quoted.j1]
        rw [w1 i (by omega), w2 i (by omega), hbx]
        obtain ⟨g1, g2, g3⟩ := h2
        subst g1; subst g2; subst g3
        exact ev_neg (by decide) (ev_pos (by trivial) (ev_pos (by trivial) (ev_pos (by omega) (ev_pos (by omega) (ev_pos (by trivial) (ev_pos (by omega) hR))))))
      · rw [if_neg h2]
        refine ⟨i + 1, by omega, by omega, hx.symm, fun R hR => hent R ?_⟩
        rw [hfl]
        refine hdef R ?_ hR
        rintro ⟨g1, g2, y, g3, g4⟩
        rw [hx] at g3
        injection g3 with g3 _
        exact h2 ⟨g1, g2, by rw [g3]; exact g4⟩
  · rw [drop_end s (i + 1) (by omega)]
    simp only [stepL]
    refine ⟨i + 1, by omega, by omega, (drop_end s (i + 1) (by omega)).symm, fun R hR => hent R ?_⟩
    rw [decide_eq_false (fun h => hend h.2.2)]
    refine hdef R ?_ hR
    rintro ⟨_, _, y, g3, _⟩
    rw [drop_end s (i + 1) (by omega)] at g3
    cases g3
/-- What stands between quotes. -/
theorem quoted_ev (s : ByteArray) (m : UInt8) (hn : s.size ≤ 1000000000) : ∀ (n i : Nat), s.size - i ≤ n → i ≤ s.size → ∀ acc : List UInt8, acc.length ≤ i →
    (quotedL m (s.data.toList.drop i) = none → ∃ a b, Ev (fun k => line_quoted.l0 k s (i : Int) (m.toNat : Int) (ints acc)) (a, b, false)) ∧
    (∀ x r, quotedL m (s.data.toList.drop i) = some (x, r) → ∃ p, i < p ∧ p ≤ s.size ∧ r = s.data.toList.drop p ∧ acc.length + x.length ≤ p ∧ Ev (fun k => line_quoted.l0 k s (i : Int) (m.toNat : Int) (ints acc)) (ints (acc ++ x), (p : Int), true)) := by
  intro n
  induction n with
  | zero =>
    intro i h1 h2 acc ha
    rw [drop_end s i (by omega), quotedL_nil]
    refine ⟨fun _ => ⟨[], (i : Int), ?_⟩, fun x r h => by cases h⟩
    refine ev_round ?_
    simp only [line_quoted.l0]
    exact ev_neg (by omega) (ev_some rfl)
  | succ n ih =>
    intro i h1 h2 acc ha
    by_cases hi : i < s.size
    · obtain ⟨c, hc, hb⟩ := at_cons s i hi
      rw [hc, quotedL_cons]
      by_cases hcm : c = m
      · rw [if_pos hcm]
        have hev : Ev (fun k => line_quoted.l0 k s (i : Int) (m.toNat : Int) (ints acc)) (ints acc, ((i + 1 : Nat) : Int), endsL (s.data.toList.drop (i + 1))) := by
          refine ev_round ?_
          simp only [line_quoted.l0]
          rw [hb, w1 i (by omega), hcm]
          exact ev_pos (by omega) (ev_pos (by omega) (ev_pos (by trivial) (ev_bind0 (ends_is s (i + 1) (by omega)) (ev_some rfl))))
        by_cases he : endsL (s.data.toList.drop (i + 1)) = true
        · rw [if_pos he]
          refine ⟨fun h => (by cases h), fun x r h => ?_⟩
          simp only [Option.some.injEq, Prod.mk.injEq] at h
          obtain ⟨rfl, rfl⟩ := h
          rw [he] at hev
          exact ⟨i + 1, by omega, by omega, rfl, by simp; omega, by rw [List.append_nil]; exact hev⟩
        · rw [if_neg he]
          have he' : endsL (s.data.toList.drop (i + 1)) = false := by simpa using he
          rw [he'] at hev
          exact ⟨fun _ => ⟨_, _, hev⟩, fun x r h => by cases h⟩
      · rw [if_neg hcm]
        obtain ⟨p, p1, p2, p3, p4⟩ := step_ev s m hn i c hi hb hcm acc ha
        generalize hst : stepL m c (s.data.toList.drop (i + 1)) = st at p3 p4 ⊢
        obtain ⟨q1, q2⟩ := ih p (by omega) p2 (acc ++ [st.1]) (by simp; omega)
        rw [p3]
        refine ⟨fun h => ?_, fun x r h => ?_⟩
        · simp only [Option.map_eq_none_iff] at h
          obtain ⟨a, b, hab⟩ := q1 h
          exact ⟨a, b, p4 _ hab⟩
        · simp only [Option.map_eq_some_iff] at h
          obtain ⟨⟨y, r'⟩, hy, hq⟩ := h
          simp only [Prod.mk.injEq] at hq
          obtain ⟨rfl, rfl⟩ := hq
          obtain ⟨p', g1, g2, g3, g4, g5⟩ := q2 y r' hy
          refine ⟨p', by omega, g2, g3, by simp at g4 ⊢; omega, p4 _ ?_⟩
          rw [List.append_assoc] at g5
          exact g5
    · rw [drop_end s i (by omega), quotedL_nil]
      refine ⟨fun _ => ⟨[], (i : Int), ?_⟩, fun x r h => by cases h⟩
      refine ev_round ?_
      simp only [line_quoted.l0]
      exact ev_neg (by omega) (ev_some rfl)
/-- An argument ends. -/
theorem stop_ev (s : ByteArray) (p : Nat) (hp : p ≤ s.size) (he : endsL (s.data.toList.drop p) = true) (acc : List UInt8) (out : List ByteArray) (ho : out.length ≤ 1000000000) (R : List ByteArray × Bool) (h : Ev (fun k => line_Split.l0 k s (out ++ [ofL acc]) (p : Int)) R) :
    Ev (fun k => line_Split.l2 k s out (p : Int) (ints acc)) R := by
  have hj : Ev (fun k => line_Split.j4 k s out (p : Int) (ints acc) false) R := by
    refine ev_round ?_
    simp only [line_Split.j4]
    rw [strOf_ints]
    exact ev_neg (by decide) (ev_pos (by omega) h)
  refine ev_round ?_
  simp only [line_Split.l2]
  by_cases hlt : p < s.size
  · obtain ⟨c, hc, hb⟩ := at_cons s p hlt
    rw [hc] at he
    have hbl : isBl c = true := he
    rw [hb]
    refine ev_pos (by omega) (ev_pos (by omega) (ev_bind0 (blank_is c) ?_))
    rw [hbl]
    exact hj
  · exact ev_neg (by omega) hj
/-- An argument. -/
theorem word_ev (s : ByteArray) (hn : s.size ≤ 1000000000) : ∀ (n i : Nat), s.size - i ≤ n → i ≤ s.size → ∀ (acc : List UInt8) (out : List ByteArray), acc.length ≤ i → out.length ≤ 1000000000 →
    (wordL (s.data.toList.drop i) = none → Ev (fun k => line_Split.l2 k s out (i : Int) (ints acc)) ([], false)) ∧
    (∀ x r, wordL (s.data.toList.drop i) = some (x, r) → ∃ p, i ≤ p ∧ p ≤ s.size ∧ r = s.data.toList.drop p ∧ ∀ R, Ev (fun k => line_Split.l0 k s (out ++ [ofL (acc ++ x)]) (p : Int)) R → Ev (fun k => line_Split.l2 k s out (i : Int) (ints acc)) R) := by
  intro n
  induction n with
  | zero =>
    intro i h1 h2 acc out ha ho
    rw [drop_end s i (by omega)]
    refine ⟨fun h => by simp [wordL] at h, fun x r h => ?_⟩
    simp only [wordL, Option.some.injEq, Prod.mk.injEq] at h
    obtain ⟨rfl, rfl⟩ := h
    refine ⟨i, Nat.le_refl _, h2, (drop_end s i (by omega)).symm, fun R hR => ?_⟩
    rw [List.append_nil] at hR
    exact stop_ev s i h2 (by rw [drop_end s i (by omega)]; rfl) acc out ho R hR
  | succ n ih =>
    intro i h1 h2 acc out ha ho
    by_cases hi : i < s.size
    · obtain ⟨c, hc, hb⟩ := at_cons s i hi
      have e34 : ((c.toNat : Int) = 34) ↔ c = 34 := u8_int c 34
      have e39 : ((c.toNat : Int) = 39) ↔ c = 39 := u8_int c 39
      by_cases hbl : isBl c = true
      · have hw : wordL (s.data.toList.drop i) = some ([], s.data.toList.drop i) := by rw [hc, wordL, if_pos hbl]
        rw [hw]
        refine ⟨fun h => (by cases h), fun x r h => ?_⟩
        simp only [Option.some.injEq, Prod.mk.injEq] at h
        obtain ⟨rfl, rfl⟩ := h
        refine ⟨i, Nat.le_refl _, h2, rfl, fun R hR => ?_⟩
        rw [List.append_nil] at hR
        exact stop_ev s i h2 (by rw [hc]; exact hbl) acc out ho R hR
      · have hbl' : isBl c = false := by simpa using hbl
        have hent : ∀ R, Ev (fun k => line_Split.j5 k s out (i : Int) (ints acc) (decide (¬ (c = 34 ∨ c = 39)))) R → Ev (fun k => line_Split.l2 k s out (i : Int) (ints acc)) R := by
          intro R hR
          refine ev_round ?_
          simp only [line_Split.l2]
          rw [hb]
          refine ev_pos (by omega) (ev_pos (by omega) (ev_bind0 (blank_is c) ?_))
          rw [hbl']
          refine ev_round ?_
          simp only [line_Split.j4]
          rw [hb]
          refine ev_pos (by trivial) (ev_pos (by omega) (ev_pos (by omega) ?_))
          by_cases h3 : c = 34
          · rw [decide_eq_false (fun h => h (Or.inl h3))] at hR
            exact ev_pos (e34.2 h3) hR
          · refine ev_neg (fun h => h3 (e34.1 h)) ?_
            by_cases h4 : c = 39
            · rw [decide_eq_false (fun h => h (Or.inr h4))] at hR
              subst h4
              exact hR
            · rw [decide_eq_true (show ¬ (c = 34 ∨ c = 39) from fun h => h.elim h3 h4)] at hR
              rw [show ((c.toNat : Int) != 39) = true from bne_iff_ne.2 (fun h => h4 (e39.1 h))]
              exact hR
        rw [hc, wordL, if_neg hbl]
        by_cases hq : c = 34 ∨ c = 39
        · rw [if_pos hq]
          rw [decide_eq_false (fun h => h hq)] at hent
          obtain ⟨q1, q2⟩ := quoted_ev s c hn (s.size - (i + 1)) (i + 1) (Nat.le_refl _) (by omega) [] (by simp)
          refine ⟨fun h => ?_, fun x r h => ?_⟩
          · obtain ⟨a, b, hab⟩ := q1 h
            refine hent _ (ev_round ?_)
            simp only [line_Split.j5]
            rw [hb, w1 i (by omega)]
            exact ev_neg (by decide) (ev_pos (by omega) (ev_pos (by omega) (ev_bind (show Ev (fun k => line_quoted.f k s ((i + 1 : Nat) : Int) (c.toNat : Int)) (a, b, false) from hab) (ev_neg (fun h => Bool.noConfusion h) (ev_some rfl)))))
          · obtain ⟨p, g1, g2, g3, g4, g5⟩ := q2 x r h
            have hend := (quotedL_ends c _ _ (Nat.le_refl _) _ _ h).1
            rw [List.nil_append] at g5
            refine ⟨p, by omega, g2, g3, fun R hR => hent _ (ev_round ?_)⟩
            simp only [line_Split.j5]
            rw [hb, w1 i (by omega)]
            have hl := ints_len acc
            have hl2 := ints_len x
            refine ev_neg (by decide) (ev_pos (by omega) (ev_pos (by omega) (ev_bind (show Ev (fun k => line_quoted.f k s ((i + 1 : Nat) : Int) (c.toNat : Int)) (ints x, (p : Int), true) from g5) (ev_pos (by trivial) (ev_pos ?_ ?_)))))
            · simp only [List.length_nil] at g4
              show (ints acc).length + (ints x).length < 140737488355328
              omega
            · have := stop_ev s p g2 (by rw [← g3]; exact hend) (acc ++ x) out ho R hR
              rw [ints_app] at this
              exact this
        · rw [if_neg hq]
          rw [decide_eq_true hq] at hent
          have hstep : ∀ R, Ev (fun k => line_Split.l2 k s out ((i + 1 : Nat) : Int) (ints (acc ++ [c]))) R → Ev (fun k => line_Split.l2 k s out (i : Int) (ints acc)) R := by
            intro R hR
            refine hent _ (ev_round ?_)
            simp only [line_Split.j5]
            rw [hb, w1 i (by omega)]
            have hl := ints_len acc
            rw [ints_app] at hR
            exact ev_pos (by trivial) (ev_pos (by omega) (ev_pos (by omega) (ev_pos (by omega) hR)))
          obtain ⟨q1, q2⟩ := ih (i + 1) (by omega) (by omega) (acc ++ [c]) out (by simp; omega) ho
          refine ⟨fun h => ?_, fun x r h => ?_⟩
          · simp only [Option.map_eq_none_iff] at h
            exact hstep _ (q1 h)
          · simp only [Option.map_eq_some_iff] at h
            obtain ⟨⟨y, r'⟩, hy, hq⟩ := h
            simp only [Prod.mk.injEq] at hq
            obtain ⟨rfl, rfl⟩ := hq
            obtain ⟨p, g1, g2, g3, g4⟩ := q2 y r' hy
            refine ⟨p, by omega, g2, g3, fun R hR => hstep R (g4 R ?_)⟩
            rw [List.append_assoc]
            exact hR
    · rw [drop_end s i (by omega)]
      refine ⟨fun h => by simp [wordL] at h, fun x r h => ?_⟩
      simp only [wordL, Option.some.injEq, Prod.mk.injEq] at h
      obtain ⟨rfl, rfl⟩ := h
      refine ⟨i, Nat.le_refl _, h2, (drop_end s i (by omega)).symm, fun R hR => ?_⟩
      rw [List.append_nil] at hR
      exact stop_ev s i h2 (by rw [drop_end s i (by omega)]; rfl) acc out ho R hR
def res (out : List ByteArray) (o : Option (List (List UInt8))) : List ByteArray × Bool := match o with
  | none => ([], false)
  | some ws => (out ++ ws.map ofL, true)
theorem split_l (s : ByteArray) (hn : s.size ≤ 1000000000) : ∀ (n i : Nat), s.size - i ≤ n → i ≤ s.size → ∀ out : List ByteArray, out.length ≤ i →
    Ev (fun k => line_Split.l1 k s out (i : Int)) (res out (splitL (s.data.toList.drop i))) := by
  intro n
  have hfin : ∀ i, i ≤ s.size → ¬ i < s.size → ∀ out : List ByteArray, Ev (fun k => line_Split.l1 k s out (i : Int)) (res out (splitL (s.data.toList.drop i))) := by
    intro i h2 hi out
    rw [drop_end s i (by omega), splitL_nil]
    refine ev_round ?_
    simp only [line_Split.l1]
    refine ev_neg (by omega) (ev_round ?_)
    simp only [line_Split.j2]
    exact ev_pos (by omega) (ev_some (by simp [res]))
  induction n with
  | zero => intro i h1 h2 out ho; exact hfin i h2 (by omega) out
  | succ n ih =>
    intro i h1 h2 out ho
    by_cases hi : i < s.size
    · obtain ⟨c, hc, hb⟩ := at_cons s i hi
      by_cases hbl : isBl c = true
      · rw [hc, splitL_blank _ _ hbl]
        refine ev_round ?_
        simp only [line_Split.l1]
        rw [hb, w1 i (by omega)]
        refine ev_pos (by omega) (ev_pos (by omega) (ev_bind0 (blank_is c) ?_))
        rw [hbl]
        exact ev_pos (by trivial) (ih (i + 1) (by omega) (by omega) out (by omega))
      · have hbl' : isBl c = false := by simpa using hbl
        have hent : ∀ R, Ev (fun k => line_Split.l2 k s out (i : Int) (ints [])) R → Ev (fun k => line_Split.l1 k s out (i : Int)) R := by
          intro R hR
          refine ev_round ?_
          simp only [line_Split.l1]
          rw [hb]
          refine ev_pos (by omega) (ev_pos (by omega) (ev_bind0 (blank_is c) ?_))
          rw [hbl']
          refine ev_neg (by decide) (ev_round ?_)
          simp only [line_Split.j2]
          exact ev_neg (by omega) hR
        obtain ⟨q1, q2⟩ := word_ev s hn (s.size - i) i (Nat.le_refl _) h2 [] out (by simp) (by omega)
        cases hw : wordL (s.data.toList.drop i) with
        | none =>
          have h3 := q1 hw
          rw [hc] at hw
          rw [hc, splitL_none _ _ hbl' hw]
          exact hent _ h3
        | some p =>
          obtain ⟨x, r⟩ := p
          obtain ⟨p, g1, g2, g3, g4⟩ := q2 x r hw
          have hlt : r.length < (s.data.toList.drop i).length := by
            rw [hc] at hw ⊢
            exact wordL_lt c _ x r hbl' hw
          rw [g3, drop_len, drop_len] at hlt
          rw [hc] at hw
          rw [hc, splitL_some _ _ _ _ hbl' hw]
          refine hent _ (g4 _ (ev_round ?_))
          simp only [line_Split.l0]
          have := ih p (by omega) g2 (out ++ [ofL x]) (by simp; omega)
          rw [g3]
          have e : res out ((splitL (s.data.toList.drop p)).map (x :: ·)) = res (out ++ [ofL x]) (splitL (s.data.toList.drop p)) := by
            cases splitL (s.data.toList.drop p) <;> simp [res]
          rw [e]
          exact this
    · exact hfin i h2 hi out
/-- line.Split. -/
theorem split_ev (s : ByteArray) (hn : s.size ≤ 1000000000) : Ev (fun k => line_Split.f k s) (res [] (splitL s.data.toList)) := by
  unfold line_Split.f
  refine ev_round ?_
  simp only [line_Split.l0]
  exact split_l s hn s.size 0 (by omega) (by omega) [] (by simp)
end Go.Proofs.Ythelnfnkhcjngaa.Pure
