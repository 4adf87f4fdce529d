/- What line.Join comes to, on lists of bytes. No memory. -/
import Derived.Test.YthelnfnkhcjngaaLine
import Derived.Test.YthelnfnkhcjngaaX7
import Derived.Test.YthelnfnkhcjngaaX8
namespace Go.Proofs.Ythelnfnkhcjngaa.Pure
open Go.RowKit Go.Proofs.YthelnfnkhcjngaaW.PrintWords Go.Proofs.YthelnfnkhcjngaaW.PrintMore Go.Proofs.Ythelnfnkhcjngaa.Y Go.Proofs.Ythelnfnkhcjngaa.X Go.Proofs.Ythelnfnkhcjngaa.LM
set_option linter.unusedVariables false
set_option linter.unusedSimpArgs false

theorem bytesOf_ints (s : ByteArray) : bytesOf s = ints s.data.toList := by simp [bytesOf, ints]
theorem plain_l (s : ByteArray) (hn : s.size ≤ 1000000000) : ∀ (n i : Nat), s.size - i ≤ n → i ≤ s.size → Ev (fun k => line_plain.l0 k s (s.size : Int) (i : Int)) ((s.data.toList.drop i).all plainB && (s.toList != [])) := by
  intro n
  have hfin : ∀ i, ¬ i < s.size → Ev (fun k => line_plain.l0 k s (s.size : Int) (i : Int)) ((s.data.toList.drop i).all plainB && (s.toList != [])) := by
    intro i hi
    rw [drop_end s i (by omega)]
    refine ev_round ?_
    simp only [line_plain.l0]
    exact ev_neg (by omega) (ev_some (by simp))
  induction n with
  | zero => intro i h1 h2; exact hfin i (by omega)
  | succ n ih =>
    intro i h1 h2
    by_cases hi : i < s.size
    · obtain ⟨c, hc, hb⟩ := at_cons s i hi
      have hih := ih (i + 1) (by omega) (by omega)
      rw [hc, List.all_cons]
      have e34 : ((c.toNat : Int) = 34) ↔ c = 34 := u8_int c 34
      have e39 : ((c.toNat : Int) = 39) ↔ c = 39 := u8_int c 39
      have e92 : ((c.toNat : Int) = 92) ↔ c = 92 := u8_int c 92
      refine ev_round ?_
      simp only [line_plain.l0]
      rw [hb, w1 i (by omega)]
      refine ev_pos (by omega) (ev_pos (by omega) (ev_pos (by omega) ?_))
      by_cases p1 : (c.toNat : Int) < 33
      · refine ev_pos p1 (ev_some ?_)
        have : plainB c = false := by unfold plainB; rw [decide_eq_false (show ¬ 33 ≤ c.toNat by omega)]; rfl
        rw [this]; rfl
      · refine ev_neg p1 ?_
        by_cases p2 : (c.toNat : Int) > 126
        · refine ev_pos p2 (ev_some ?_)
          have : plainB c = false := by unfold plainB; rw [decide_eq_false (show ¬ c.toNat ≤ 126 by omega)]; simp
          rw [this]; rfl
        · refine ev_neg p2 ?_
          by_cases p3 : c = 34
          · refine ev_pos (e34.2 p3) (ev_some ?_)
            subst p3; rfl
          · refine ev_neg (fun h => p3 (e34.1 h)) ?_
            by_cases p4 : c = 39
            · refine ev_pos (e39.2 p4) (ev_some ?_)
              subst p4; rfl
            · refine ev_neg (fun h => p4 (e39.1 h)) ?_
              by_cases p5 : c = 92
              · refine ev_pos (e92.2 p5) (ev_some ?_)
                subst p5; rfl
              · refine ev_neg (fun h => p5 (e92.1 h)) ?_
                have : plainB c = true := by
                  unfold plainB
                  rw [decide_eq_true (show 33 ≤ c.toNat by omega), decide_eq_true (show c.toNat ≤ 126 by omega), bne_iff_ne.2 p3, bne_iff_ne.2 p4, bne_iff_ne.2 p5]; rfl
                rw [this, Bool.true_and]
                exact hih
    · exact hfin i hi
theorem plain_is (s : ByteArray) (hn : s.size ≤ 1000000000) : Ev (fun k => line_plain.f k s) (plainL s.data.toList) := by
  have := plain_l s hn s.size 0 (by omega) (by omega)
  have e : (((s.data.toList.drop 0).all plainB) && (s.toList != [])) = plainL s.data.toList := by
    unfold plainL
    rw [ba_toList, List.drop_zero, Bool.and_comm]
    cases s.data.toList <;> rfl
  rw [e] at this
  exact this
theorem hex_digit : ∀ c : Fin 256, 0 ≤ ((UInt8.ofNat c.val).toNat : Int) / 16 ∧ ((UInt8.ofNat c.val).toNat : Int) / 16 < 16 ∧ 0 ≤ Go.bits .and .u8 ((UInt8.ofNat c.val).toNat : Int) 15 ∧ Go.bits .and .u8 ((UInt8.ofNat c.val).toNat : Int) 15 < 16 ∧
    [92, 120, bt (⟨#[48, 49, 50, 51, 52, 53, 54, 55, 56, 57, 97, 98, 99, 100, 101, 102]⟩ : ByteArray) (((UInt8.ofNat c.val).toNat : Int) / 16), bt (⟨#[48, 49, 50, 51, 52, 53, 54, 55, 56, 57, 97, 98, 99, 100, 101, 102]⟩ : ByteArray) (Go.bits .and .u8 ((UInt8.ofNat c.val).toNat : Int) 15)] = ints [92, 120, dig ((UInt8.ofNat c.val).toNat / 16), dig ((UInt8.ofNat c.val).toNat % 16)] := by decide +kernel
theorem hex_digits (c : UInt8) : 0 ≤ (c.toNat : Int) / 16 ∧ (c.toNat : Int) / 16 < 16 ∧ 0 ≤ Go.bits .and .u8 (c.toNat : Int) 15 ∧ Go.bits .and .u8 (c.toNat : Int) 15 < 16 ∧
    [92, 120, bt (⟨#[48, 49, 50, 51, 52, 53, 54, 55, 56, 57, 97, 98, 99, 100, 101, 102]⟩ : ByteArray) ((c.toNat : Int) / 16), bt (⟨#[48, 49, 50, 51, 52, 53, 54, 55, 56, 57, 97, 98, 99, 100, 101, 102]⟩ : ByteArray) (Go.bits .and .u8 (c.toNat : Int) 15)] = ints [92, 120, dig (c.toNat / 16), dig (c.toNat % 16)] :=
  u8_fin (P := fun c => 0 ≤ (c.toNat : Int) / 16 ∧ (c.toNat : Int) / 16 < 16 ∧ 0 ≤ Go.bits .and .u8 (c.toNat : Int) 15 ∧ Go.bits .and .u8 (c.toNat : Int) 15 < 16 ∧
    [92, 120, bt (⟨#[48, 49, 50, 51, 52, 53, 54, 55, 56, 57, 97, 98, 99, 100, 101, 102]⟩ : ByteArray) ((c.toNat : Int) / 16), bt (⟨#[48, 49, 50, 51, 52, 53, 54, 55, 56, 57, 97, 98, 99, 100, 101, 102]⟩ : ByteArray) (Go.bits .and .u8 (c.toNat : Int) 15)] = ints [92, 120, dig (c.toNat / 16), dig (c.toNat % 16)]) hex_digit c
theorem escL_len (c : UInt8) : (escL c).length ≤ 4 := by unfold escL; split <;> (try split) <;> simp
/-- The bytes of an argument, between quotes. -/
theorem esc_ev (s : ByteArray) (l : List ByteArray) (j : Nat) (hn : s.size ≤ 1000000) (R : ByteArray) : ∀ (n i : Nat), s.size - i ≤ n → i ≤ s.size → ∀ acc : List UInt8, acc.length ≤ 100000000000 + 4 * i →
    Ev (fun k => line_Join.l0 k (ints (acc ++ ((s.data.toList.drop i).flatMap escL ++ [34]))) l (l.length : Int) (wrap64 ((j : Int) + 1))) R →
    Ev (fun k => line_Join.l1 k (ints acc) s l (l.length : Int) (j : Int) (s.size : Int) (i : Int)) R := by
  intro n
  have hfin : ∀ i, i ≤ s.size → ¬ i < s.size → ∀ acc : List UInt8, acc.length ≤ 100000000000 + 4 * i →
    Ev (fun k => line_Join.l0 k (ints (acc ++ ((s.data.toList.drop i).flatMap escL ++ [34]))) l (l.length : Int) (wrap64 ((j : Int) + 1))) R →
    Ev (fun k => line_Join.l1 k (ints acc) s l (l.length : Int) (j : Int) (s.size : Int) (i : Int)) R := by
    intro i h2 hi acc ha h
    rw [drop_end s i (by omega), List.flatMap_nil, List.nil_append, ints_app] at h
    have hl := ints_len acc
    refine ev_round ?_
    simp only [line_Join.l1]
    exact ev_neg (by omega) (ev_pos (by omega) h)
  induction n with
  | zero => intro i h1 h2 acc ha h; exact hfin i h2 (by omega) acc ha h
  | succ n ih =>
    intro i h1 h2 acc ha h
    by_cases hi : i < s.size
    · obtain ⟨c, hc, hb⟩ := at_cons s i hi
      rw [hc, List.flatMap_cons, List.append_assoc, ← List.append_assoc acc] at h
      have hel := escL_len c
      have hnext := ih (i + 1) (by omega) (by omega) (acc ++ escL c) (by simp; omega) h
      rw [ints_app] at hnext
      have hl := ints_len acc
      have e34 : ((c.toNat : Int) = 34) ↔ c = 34 := u8_int c 34
      have e92 : ((c.toNat : Int) = 92) ↔ c = 92 := u8_int c 92
      have hent : Ev (fun k => line_Join.j3 k (ints acc) s (c.toNat : Int) l (l.length : Int) (j : Int) (s.size : Int) (i : Int) (decide (c = 34 ∨ c = 92))) R → Ev (fun k => line_Join.l1 k (ints acc) s l (l.length : Int) (j : Int) (s.size : Int) (i : Int)) R := by
        intro hR
        refine ev_round ?_
        simp only [line_Join.l1]
        rw [hb]
        refine ev_pos (by omega) (ev_pos (by omega) (ev_pos (by omega) ?_))
        by_cases h3 : c = 34
        · rw [decide_eq_true (Or.inl h3)] at hR
          exact ev_pos (e34.2 h3) hR
        · refine ev_neg (fun h => h3 (e34.1 h)) ?_
          by_cases h4 : c = 92
          · rw [decide_eq_true (Or.inr h4)] at hR
            rw [show ((c.toNat : Int) == 92) = true from beq_iff_eq.2 (e92.2 h4)]
            exact hR
          · rw [decide_eq_false (fun h => h.elim h3 h4)] at hR
            rw [show ((c.toNat : Int) == 92) = false from beq_eq_false_iff_ne.2 (fun h => h4 (e92.1 h))]
            exact hR
      refine hent (ev_round ?_)
      simp only [line_Join.j3]
      rw [w1 i (by omega)]
      by_cases h1 : c = 34 ∨ c = 92
      · rw [decide_eq_true h1]
        have he : escL c = [92, c] := by unfold escL; rw [if_pos h1]
        rw [he] at hnext
        exact ev_pos (by trivial) (ev_bind0 rfl (ev_pos (by show (ints acc).length + 2 < _; omega) hnext))
      · rw [decide_eq_false h1]
        refine ev_neg (by decide) ?_
        obtain ⟨d1, d2, d3, d4, d5⟩ := hex_digits c
        by_cases h2 : c.toNat < 32
        · have he : escL c = [92, 120, dig (c.toNat / 16), dig (c.toNat % 16)] := by unfold escL; rw [if_neg h1, if_pos (Or.inl h2)]
          rw [he, ← d5] at hnext
          exact ev_pos (by omega) (ev_pos d1 (ev_pos d2 (ev_pos d3 (ev_pos d4 (ev_bind0 rfl (ev_pos (by show (ints acc).length + 4 < _; omega) hnext))))))
        · refine ev_neg (by omega) ?_
          by_cases h3 : 126 < c.toNat
          · have he : escL c = [92, 120, dig (c.toNat / 16), dig (c.toNat % 16)] := by unfold escL; rw [if_neg h1, if_pos (Or.inr h3)]
            rw [he, ← d5] at hnext
            exact ev_pos (by omega) (ev_pos d1 (ev_pos d2 (ev_pos d3 (ev_pos d4 (ev_bind0 rfl (ev_pos (by show (ints acc).length + 4 < _; omega) hnext))))))
          · have he : escL c = [c] := by unfold escL; rw [if_neg h1, if_neg (by omega)]
            rw [he] at hnext
            exact ev_neg (by omega) (ev_pos (by omega) hnext)
    · exact hfin i h2 hi acc ha h
def bs (l : List ByteArray) : List (List UInt8) := l.map fun s => s.data.toList
theorem bs_ofL (ws : List (List UInt8)) : bs (ws.map ofL) = ws := by
  unfold bs
  rw [List.map_map]
  conv => rhs; rw [← List.map_id ws]
  apply List.map_congr_left
  intro w _
  rfl
theorem ofL_bs (l : List ByteArray) : (bs l).map ofL = l := by
  unfold bs
  rw [List.map_map]
  conv => rhs; rw [← List.map_id l]
  apply List.map_congr_left
  intro w _
  exact ofL_of w
theorem escs_len (u : List UInt8) : (u.flatMap escL).length ≤ 4 * u.length := by
  induction u with
  | nil => simp
  | cons c u ih => rw [List.flatMap_cons, List.length_append, List.length_cons]; have := escL_len c; omega
theorem argL_len (u : List UInt8) : (argL u).length ≤ 4 * u.length + 2 := by
  unfold argL
  split
  · omega
  · have := escs_len u
    simp only [List.length_cons, List.length_append, List.length_nil]
    omega
theorem arg_ev (s : ByteArray) (l : List ByteArray) (j : Nat) (hn : s.size ≤ 1000000) (acc : List UInt8) (ha : acc.length ≤ 90000000000) (R : ByteArray)
    (h : Ev (fun k => line_Join.l0 k (ints (acc ++ argL s.data.toList)) l (l.length : Int) (wrap64 ((j : Int) + 1))) R) :
    Ev (fun k => line_Join.j1 k (ints acc) s l (l.length : Int) (j : Int)) R := by
  have hl := ints_len acc
  refine ev_round ?_
  simp only [line_Join.j1]
  refine ev_bind (plain_is s (by omega)) ?_
  unfold argL at h
  by_cases hp : plainL s.data.toList = true
  · rw [if_pos hp, ints_app, ← bytesOf_ints] at h
    exact ev_pos hp (ev_pos (by omega) h)
  · rw [if_neg hp] at h
    refine ev_neg hp (ev_pos (by omega) ?_)
    have := esc_ev s l j hn R s.size 0 (by omega) (by omega) (acc ++ [34]) (by simp; omega) (by
      rw [List.drop_zero, List.append_assoc]
      exact h)
    rw [ints_app] at this
    exact this
theorem join_l (l : List ByteArray) (hl : l.length ≤ 5000) (hs : ∀ s ∈ l, s.size ≤ 1000000) : ∀ (n j : Nat), l.length - j ≤ n → j ≤ l.length → ∀ acc : List UInt8, acc.length ≤ 4000003 * j →
    Ev (fun k => line_Join.l0 k (ints acc) l (l.length : Int) (j : Int)) (ofL (acc ++ (if j = 0 then joinL (bs l) else tailL ((bs l).drop j)))) := by
  intro n
  have hfin : ∀ j, j ≤ l.length → ¬ j < l.length → ∀ acc : List UInt8, acc.length ≤ 4000003 * j →
    Ev (fun k => line_Join.l0 k (ints acc) l (l.length : Int) (j : Int)) (ofL (acc ++ (if j = 0 then joinL (bs l) else tailL ((bs l).drop j)))) := by
    intro j h2 hj acc ha
    have e : (if j = 0 then joinL (bs l) else tailL ((bs l).drop j)) = [] := by
      by_cases h0 : j = 0
      · rw [if_pos h0]
        have : l = [] := List.length_eq_zero_iff.1 (by omega)
        subst this; rfl
      · rw [if_neg h0, List.drop_of_length_le (by simp [bs]; omega)]; rfl
    rw [e, List.append_nil]
    refine ev_round ?_
    simp only [line_Join.l0]
    exact ev_neg (by omega) (ev_some (strOf_ints acc))
  induction n with
  | zero => intro j h1 h2 acc ha; exact hfin j h2 (by omega) acc ha
  | succ n ih =>
    intro j h1 h2 acc ha
    by_cases hj : j < l.length
    · have hsz := hs l[j] (List.getElem_mem hj)
      have hbl : (bs l).length = l.length := by simp [bs]
      have hbj : (bs l)[j]'(by omega) = (l[j]).data.toList := by simp [bs]
      have hil := ints_len acc
      refine ev_round ?_
      simp only [line_Join.l0]
      rw [rdOf_nat _ l j hj]
      refine ev_pos (by omega) (ev_pos (by omega) (ev_pos (by omega) ?_))
      by_cases h0 : j = 0
      · subst h0
        refine ev_neg (by omega) (arg_ev l[0] l 0 hsz acc (by omega) _ ?_)
        rw [w1 0 (by omega)]
        have hlen := argL_len (l[0]).data.toList
        rw [← ba_size] at hlen
        have := ih 1 (by omega) (by omega) (acc ++ argL (l[0]).data.toList) (by simp; omega)
        rw [if_neg (by omega), List.append_assoc] at this
        rw [if_pos rfl]
        have e : joinL (bs l) = argL (l[0]).data.toList ++ tailL ((bs l).drop 1) := by
          have : bs l = (l[0]).data.toList :: (bs l).drop 1 := by
            rw [← hbj, ← List.drop_eq_getElem_cons (by omega), List.drop_zero]
          conv => lhs; rw [this]
          rfl
        rw [e]
        exact this
      · refine ev_pos (by omega) (ev_pos (by omega) ?_)
        rw [if_neg h0]
        have hlen := argL_len (l[j]).data.toList
        rw [← ba_size] at hlen
        have := ih (j + 1) (by omega) (by omega) ((acc ++ [32]) ++ argL (l[j]).data.toList) (by simp; omega)
        rw [if_neg (by omega)] at this
        have e : tailL ((bs l).drop j) = [32] ++ (argL (l[j]).data.toList ++ tailL ((bs l).drop (j + 1))) := by
          rw [List.drop_eq_getElem_cons (show j < (bs l).length by omega), hbj]
          simp [tailL]
        rw [e]
        have h3 := arg_ev l[j] l j hsz (acc ++ [32]) (by simp; omega) (ofL (acc ++ ([32] ++ (argL (l[j]).data.toList ++ tailL ((bs l).drop (j + 1)))))) (by
          rw [w1 j (by omega)]
          simp only [List.append_assoc] at this ⊢
          exact this)
        rw [ints_app] at h3
        exact h3
    · exact hfin j h2 hj acc ha
/-- line.Join. -/
theorem join_ev (l : List ByteArray) (hl : l.length ≤ 5000) (hs : ∀ s ∈ l, s.size ≤ 1000000) : Ev (fun k => line_Join.f k l) (ofL (joinL (bs l))) := by
  have := join_l l hl hs l.length 0 (by omega) (by omega) [] (by simp)
  rw [if_pos rfl, List.nil_append] at this
  exact this
end Go.Proofs.Ythelnfnkhcjngaa.Pure
