/- What the laws of arguments share: great letters, and what is too long. No memory. -/
import Derived.Test.YtcooijbmmkkdoaaEUpper
import Derived.Test.YtcooijbmmkkdoaaY
import Derived.Test.YtcooijbmmkkdoaaX3
import Derived.Test.YtcooijbmmkkdoaaX8
import Derived.Test.YtcooijbmmkkdoaaX9
namespace Go.Proofs.Ytcooijbmmkkdoaa.Pure
open Go.RowKit Go.Proofs.YtcooijbmmkkdoaaW.PrintWords Go.Proofs.YtcooijbmmkkdoaaW.PrintMore Go.Proofs.Ytcooijbmmkkdoaa.Y Go.Proofs.Ytcooijbmmkkdoaa.X
set_option linter.unusedVariables false
set_option linter.unusedSimpArgs false

def ofL (u : List UInt8) : ByteArray := ⟨u.toArray⟩
theorem ofL_data (u : List UInt8) : (ofL u).data.toList = u := rfl
theorem ofL_of (s : ByteArray) : ofL s.data.toList = s := ba_ext rfl
theorem ofL_size (a : List UInt8) : (ofL a).size = a.length := by rw [ba_size, ofL_data]
theorem ofL_add (a b : List UInt8) : ofL a ++ ofL b = ofL (a ++ b) := by
  apply ba_ext
  rw [ba_append]
  rfl
theorem at_cons (s : ByteArray) (i : Nat) (h : i < s.size) : ∃ c, s.data.toList.drop i = c :: s.data.toList.drop (i + 1) ∧ bt s (i : Int) = (c.toNat : Int) := by
  rw [ba_size] at h
  exact ⟨s.data.toList[i], List.drop_eq_getElem_cons h, bt_nat s i (by rw [ba_size]; exact h)⟩
theorem drop_end (s : ByteArray) (i : Nat) (h : s.size ≤ i) : s.data.toList.drop i = [] := List.drop_of_length_le (by rw [← ba_size]; exact h)
theorem ext1 (s : ByteArray) (i : Nat) (c : UInt8) (h : s.data.toList.drop i = c :: s.data.toList.drop (i + 1)) : s.extract i (i + 1) = ofL [c] := by
  apply ba_ext
  rw [ba_extract, h, ofL_data, Nat.add_sub_cancel_left]
  rfl
theorem w1 (i : Nat) (h : i ≤ 2000000000) : wrap64 ((i : Int) + 1) = ((i + 1 : Nat) : Int) := by
  rw [w64 (by omega) (by omega)]; omega
/-- A text in great letters. -/
def up (s : ByteArray) : ByteArray := ofL (s.data.toList.map upC)
theorem upper_is (s : ByteArray) (h : s.size ≤ 140737488351232) : table_Upper.f s = some (up s) := by
  unfold table_Upper.f
  rw [if_pos h]; rfl
def smalls : ByteArray := ⟨#[97, 98, 99, 100, 101, 102, 103, 104, 105, 106, 107, 108, 109, 110, 111, 112, 113, 114, 115, 116, 117, 118, 119, 120, 121, 122]⟩
def greats : ByteArray := ⟨#[65, 66, 67, 68, 69, 70, 71, 72, 73, 74, 75, 76, 77, 78, 79, 80, 81, 82, 83, 84, 85, 86, 87, 88, 89, 90]⟩
theorem sm_at : ∀ j : Fin 26, bt smalls (j.val : Int) = ((97 + j.val : Nat) : Int) := by decide +kernel
theorem gr_at : ∀ j : Fin 26, (greats.extract j.val (j.val + 1)).data.toList = [UInt8.ofNat (65 + j.val)] := by decide +kernel
/-- A letter, when the first ones of the alphabet have been asked. -/
def mid (c : UInt8) (j : Nat) : UInt8 := if 97 ≤ c.toNat ∧ c.toNat < 97 + j then UInt8.ofNat (c.toNat - 32) else c
theorem mid_end (c : UInt8) : mid c 26 = upC c := by
  unfold mid upC
  by_cases h : 97 ≤ c.toNat ∧ c.toNat ≤ 122
  · rw [if_pos h, if_pos (by omega)]
  · rw [if_neg h, if_neg (by omega)]
theorem rupper_in (s x5 : ByteArray) (i : Nat) (hi : i < s.size) (hs : s.size ≤ 1000000) (h5 : x5.size ≤ 1000000) (c : UInt8) (hb : bt s (i : Int) = (c.toNat : Int)) (R : ByteArray)
    (h : Ev (fun k => mewsref28_Upper.l0 k s smalls greats (x5 ++ ofL [upC c]) ((i + 1 : Nat) : Int)) R) :
    ∀ n j, 26 - j ≤ n → j ≤ 26 → Ev (fun k => mewsref28_Upper.l1 k s smalls greats x5 (i : Int) (ofL [mid c j]) (j : Int)) R := by
  intro n
  have hone : ∀ c, (ofL [c]).size = 1 := fun _ => rfl
  have hfin : Ev (fun k => mewsref28_Upper.l1 k s smalls greats x5 (i : Int) (ofL [mid c 26]) ((26 : Nat) : Int)) R := by
    refine ev_round ?_
    simp only [mewsref28_Upper.l1]
    rw [w1 i (by omega), mid_end]
    exact ev_neg (by omega) (ev_pos (by have := hone (upC c); omega) h)
  induction n with
  | zero =>
    intro j h1 h2
    obtain rfl : j = 26 := by omega
    exact hfin
  | succ n ih =>
    intro j h1 h2
    by_cases hj : j < 26
    · have hih := ih (j + 1) (by omega) (by omega)
      have hsm := sm_at ⟨j, hj⟩
      have hgr := gr_at ⟨j, hj⟩
      simp only at hsm hgr
      have hz1 : smalls.size = 26 := rfl
      have hz2 : greats.size = 26 := rfl
      refine ev_round ?_
      simp only [mewsref28_Upper.l1]
      rw [hb, hsm, w1 j (by omega)]
      refine ev_pos (by omega) (ev_pos (by omega) (ev_pos (by omega) (ev_pos (by omega) (ev_pos (by omega) ?_))))
      by_cases hc : c.toNat = 97 + j
      · refine ev_pos (by omega) (ev_pos (by omega) (ev_pos (by omega) ?_))
        simp only [Int.toNat_natCast]
        have e : greats.extract j (j + 1) = ofL [mid c (j + 1)] := by
          apply ba_ext
          rw [hgr, ofL_data]
          unfold mid
          rw [if_pos (by omega)]
          congr 2
          omega
        rw [e]
        exact hih
      · have e : mid c (j + 1) = mid c j := by
          unfold mid
          by_cases h3 : 97 ≤ c.toNat ∧ c.toNat < 97 + j
          · rw [if_pos h3, if_pos (by omega)]
          · rw [if_neg h3, if_neg (by omega)]
        rw [e] at hih
        exact ev_neg (by omega) hih
    · obtain rfl : j = 26 := by omega
      exact hfin
theorem rupper_l (s : ByteArray) (hs : s.size ≤ 1000000) : ∀ n i, s.size - i ≤ n → i ≤ s.size → Ev (fun k => mewsref28_Upper.l0 k s smalls greats (ofL ((s.data.toList.take i).map upC)) (i : Int)) (up s) := by
  intro n
  have hfin : Ev (fun k => mewsref28_Upper.l0 k s smalls greats (ofL ((s.data.toList.take s.size).map upC)) (s.size : Int)) (up s) := by
    refine ev_round ?_
    simp only [mewsref28_Upper.l0]
    refine ev_neg (by omega) (ev_some ?_)
    rw [List.take_of_length_le (by rw [ba_size]; exact Nat.le_refl _)]; rfl
  induction n with
  | zero =>
    intro i h1 h2
    obtain rfl : i = s.size := by omega
    exact hfin
  | succ n ih =>
    intro i h1 h2
    by_cases hi : i < s.size
    · obtain ⟨c, hc, hb⟩ := at_cons s i hi
      refine ev_round ?_
      simp only [mewsref28_Upper.l0]
      rw [w1 i (by omega)]
      simp only [Int.toNat_natCast]
      rw [ext1 s i c hc]
      refine ev_pos (by omega) (ev_pos (by omega) (ev_pos (by omega) (ev_pos (by omega) ?_)))
      have hm : mid c 0 = c := by unfold mid; rw [if_neg (by omega)]
      have hlen : (ofL ((s.data.toList.take i).map upC)).size ≤ 1000000 := by
        rw [ofL_size, List.length_map, List.length_take, ← ba_size]; omega
      have := rupper_in s _ i hi hs hlen c hb (up s) (by
        rw [ofL_add]
        have e : (s.data.toList.take i).map upC ++ [upC c] = (s.data.toList.take (i + 1)).map upC := by
          have hil : i < s.data.toList.length := by rw [← ba_size]; exact hi
          rw [List.take_succ_eq_append_getElem hil, List.map_append]
          have : s.data.toList[i] = c := by
            have h3 := List.drop_eq_getElem_cons hil
            rw [hc] at h3
            injection h3 with h3 _
            exact h3.symm
          rw [this]; rfl
        rw [e]
        exact ih (i + 1) (by omega) (by omega)) 26 0 (by omega) (by omega)
      rw [hm] at this
      exact this
    · obtain rfl : i = s.size := by omega
      exact hfin
theorem rupper_ev (s : ByteArray) (hs : s.size ≤ 1000000) : Ev (fun k => mewsref28_Upper.f k s) (up s) := rupper_l s hs s.size 0 (by omega) (by omega)
theorem alive_ev : Ev (fun k => mewslaw29_alive.f k) true := Ev.of mewslaw29_alive.mono (k := 60) (by decide +kernel)
theorem far_l (l : List ByteArray) (hl : l.length ≤ 1000000000000000) : ∀ (n j : Nat), l.length - j ≤ n → j ≤ l.length → ∃ b, Ev (fun k => mewslaw29_far.l0 k l l (l.length : Int) (j : Int)) b ∧ (b = false → l.length ≤ 100 ∧ ∀ s ∈ l.drop j, s.size ≤ 300) := by
  intro n
  have hfin : ∀ j, j ≤ l.length → ¬ j < l.length → ∃ b, Ev (fun k => mewslaw29_far.l0 k l l (l.length : Int) (j : Int)) b ∧ (b = false → l.length ≤ 100 ∧ ∀ s ∈ l.drop j, s.size ≤ 300) := by
    intro j h2 hj
    rw [List.drop_of_length_le (by omega)]
    refine ⟨decide ((l.length : Int) > 100), ev_round ?_, fun h => ⟨by have := of_decide_eq_false h; omega, by simp⟩⟩
    simp only [mewslaw29_far.l0]
    exact ev_neg (by omega) (ev_some rfl)
  induction n with
  | zero => intro j h1 h2; exact hfin j h2 (by omega)
  | succ n ih =>
    intro j h1 h2
    by_cases hj : j < l.length
    · by_cases hs : (l[j]).size > 300
      · refine ⟨true, ev_round ?_, fun h => by cases h⟩
        simp only [mewslaw29_far.l0]
        rw [rdOf_nat _ l j hj]
        exact ev_pos (by omega) (ev_pos (by omega) (ev_pos (by omega) (ev_pos (by omega) (ev_some rfl))))
      · obtain ⟨b, hb, hb2⟩ := ih (j + 1) (by omega) (by omega)
        refine ⟨b, ev_round ?_, fun h => ⟨(hb2 h).1, ?_⟩⟩
        · simp only [mewslaw29_far.l0]
          rw [rdOf_nat _ l j hj, w64 (i := (j : Int) + 1) (by omega) (by omega)]
          exact ev_pos (by omega) (ev_pos (by omega) (ev_pos (by omega) (ev_neg (by omega) hb)))
        · rw [List.drop_eq_getElem_cons hj]
          intro s hs'
          rcases List.mem_cons.1 hs' with rfl | h3
          · omega
          · exact (hb2 h).2 s h3
    · exact hfin j h2 hj
theorem far_ev (l : List ByteArray) (hl : l.length ≤ 1000000000000000) : ∃ b, Ev (fun k => mewslaw29_far.f k l) b ∧ (b = false → l.length ≤ 100 ∧ ∀ s ∈ l, s.size ≤ 300) := far_l l hl l.length 0 (by omega) (by omega)
end Go.Proofs.Ytcooijbmmkkdoaa.Pure
