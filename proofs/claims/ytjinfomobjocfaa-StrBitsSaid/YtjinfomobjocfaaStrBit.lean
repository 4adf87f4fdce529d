/- What the functions of str on bits come to. No memory. -/
import Derived.Test.YtjinfomobjocfaaStrSet
namespace Go.Proofs.Ytjinfomobjocfaa.St
open Go.RowKit Go.Proofs.YtjinfomobjocfaaW.PrintWords Go.Proofs.YtjinfomobjocfaaW.PrintMore Go.Proofs.Ytjinfomobjocfaa.Y Go.Proofs.Ytjinfomobjocfaa.X
set_option linter.unusedVariables false
set_option linter.unusedSimpArgs false

/-- A bit of bytes. -/
def bitN (l : List UInt8) (i : Nat) : Nat := (l.getD (i / 8) 0).toNat / 2 ^ (7 - i % 8) % 2
def bitR (s : ByteArray) (a : Int) : Int × Int := if a < 0 ∨ 8388608 ≤ a then (0, 3) else ((bitN s.data.toList a.toNat : Nat), 0)
theorem and_one : ∀ y : Fin 256, Go.bits .and .u8 (y.val : Int) 1 = ((y.val % 2 : Nat) : Int) := by decide +kernel
theorem byte_lt (b : UInt8) : b.toNat < 256 := UInt8.toNat_lt _
theorem getD_out (l : List UInt8) (i : Nat) (h : l.length ≤ i) : l.getD i 0 = 0 := by
  rw [List.getD_eq_getElem?_getD, List.getElem?_eq_none h]
  rfl
theorem getD_in (l : List UInt8) (i : Nat) (h : i < l.length) : l.getD i 0 = l[i] := by
  rw [List.getD_eq_getElem?_getD, List.getElem?_eq_getElem h]
  rfl
theorem q_is (k : Nat) (h : k < 8388608) : wrap64 (Int.tdiv (k : Int) 8) = ((k / 8 : Nat) : Int) := by
  rw [Int.tdiv_eq_ediv_of_nonneg (by omega), w64 (by omega) (by omega)]
  omega
theorem r_is (k : Nat) : Int.tmod (k : Int) 8 = ((k % 8 : Nat) : Int) := by
  rw [Int.tmod_eq_emod_of_nonneg (by omega)]
  omega
theorem m_is (k : Nat) : wrap64 (7 - ((k % 8 : Nat) : Int)) = ((7 - k % 8 : Nat) : Int) := by
  rw [w64 (by omega) (by omega)]
  omega
theorem bit_is (s : ByteArray) (a : Int) : str_Bit.f s a = some (bitR s a) := by
  have hn := ba_size s
  unfold str_Bit.f str_out.f bitR
  by_cases h0 : a < 0
  · rw [if_pos h0, if_pos (show a < 0 ∨ 8388608 ≤ a from .inl h0)]
    rfl
  rw [if_neg h0]
  simp only [Option.bind_some]
  by_cases h1 : 8388608 ≤ a
  · rw [if_pos (show a < 0 ∨ 8388608 ≤ a from .inr h1), decide_eq_true (show a ≥ 8388608 from h1)]
    rfl
  rw [if_neg (show ¬ (a < 0 ∨ 8388608 ≤ a) by omega), decide_eq_false (show ¬ a ≥ 8388608 from h1), if_neg (by decide)]
  obtain ⟨k, rfl⟩ : ∃ k : Nat, a = k := ⟨a.toNat, by omega⟩
  rw [q_is k (by omega), r_is, m_is]
  simp only [Int.toNat_natCast]
  by_cases h2 : s.size ≤ k / 8
  · rw [if_pos (by omega)]
    unfold bitN
    rw [getD_out _ _ (by omega)]
    simp
  · have hb := bt_nat s (k / 8) (by omega)
    rw [if_neg (by omega), if_pos (Int.natCast_nonneg _), if_pos (by omega), if_pos (Int.natCast_nonneg _), hb]
    unfold bitN shr
    rw [getD_in _ _ (by omega), Int.toNat_natCast, show IntKind.bits .u8 = 8 from rfl, Nat.min_eq_left (by omega)]
    generalize hx : (s.data.toList[k / 8]'(by omega)) = x
    have hy : x.toNat / 2 ^ (7 - k % 8) < 256 := Nat.lt_of_le_of_lt (Nat.div_le_self _ _) (byte_lt x)
    have e : (x.toNat : Int) / 2 ^ (7 - k % 8) = ((x.toNat / 2 ^ (7 - k % 8) : Nat) : Int) := by rw [Int.natCast_ediv, Int.natCast_pow]; rfl
    rw [e]
    have := and_one ⟨_, hy⟩
    simp only at this
    rw [this]
    have h2 : x.toNat / 2 ^ (7 - k % 8) % 2 < 2 := Nat.mod_lt _ (by decide)
    rw [w64 (by omega) (by omega)]
theorem half_ev (d : Nat) : ∀ (m c : Nat), m + d = 7 → c < 256 → Ev (fun k => mewsref20_Bit.l0 k (c : Int) (m : Int)) (((c / 2 ^ d % 2 : Nat) : Int), 0) := by
  induction d with
  | zero =>
    intro m c hm hc
    refine ev_round ?_
    simp only [mewsref20_Bit.l0]
    refine ev_neg (by omega) (ev_some ?_)
    rw [Int.tmod_eq_emod_of_nonneg (by omega)]
    simp
  | succ d ih =>
    intro m c hm hc
    refine ev_round ?_
    simp only [mewsref20_Bit.l0]
    refine ev_pos (by omega) ?_
    have e1 : wrap64 (Int.tdiv (c : Int) 2) = ((c / 2 : Nat) : Int) := by
      rw [Int.tdiv_eq_ediv_of_nonneg (by omega), w64 (by omega) (by omega)]
      omega
    have e2 : wrap64 ((m : Int) + 1) = ((m + 1 : Nat) : Int) := by rw [w64 (by omega) (by omega)]; omega
    rw [e1, e2]
    have := ih (m + 1) (c / 2) (by omega) (by omega)
    rw [Nat.div_div_eq_div_mul, show 2 * 2 ^ d = 2 ^ (d + 1) by rw [Nat.pow_succ, Nat.mul_comm]] at this
    exact this
theorem ref_bit_ev (s : ByteArray) (a : Int) : Ev (fun k => mewsref20_Bit.f k s a) (bitR s a) := by
  unfold mewsref20_Bit.f bitR
  have hno : Ev (fun k => mewsref20_Bit.j0 k s a true) (0, 3) := by
    refine ev_round ?_
    simp only [mewsref20_Bit.j0]
    exact ev_pos (by first | rfl | trivial) (ev_some rfl)
  by_cases h0 : a < 0
  · rw [if_pos (show a < 0 ∨ 8388608 ≤ a from .inl h0)]
    exact ev_pos h0 hno
  refine ev_neg h0 ?_
  by_cases h1 : 8388608 ≤ a
  · rw [if_pos (show a < 0 ∨ 8388608 ≤ a from .inr h1), decide_eq_true (show a ≥ 8388608 from h1)]
    exact hno
  rw [if_neg (show ¬ (a < 0 ∨ 8388608 ≤ a) by omega), decide_eq_false (show ¬ a ≥ 8388608 from h1)]
  obtain ⟨k, rfl⟩ : ∃ k : Nat, a = k := ⟨a.toNat, by omega⟩
  refine ev_round ?_
  simp only [mewsref20_Bit.j0]
  rw [q_is k (by omega), r_is]
  refine ev_neg (by decide) (ev_bind0 (at_f s (k / 8)) ?_)
  simp only [Int.toNat_natCast]
  have hlt := byte_lt (s.data.toList.getD (k / 8) 0)
  rw [w64 (by omega) (by omega)]
  have := half_ev (7 - k % 8) (k % 8) _ (by omega) hlt
  exact this
/-! Setting a bit -/
def sbR (s : ByteArray) (a v : Int) : ByteArray × Int × Int :=
  if a < 0 ∨ 8388608 ≤ a then (⟨#[]⟩, 0, 3) else if v ≠ 0 ∧ v ≠ 1 then (⟨#[]⟩, 0, 2)
  else (⟨((wideL s.data.toList (a.toNat / 8 + 1)).set (a.toNat / 8) (putBit (s.data.toList.getD (a.toNat / 8) 0) (7 - a.toNat % 8) (decide (v = 1)))).toArray⟩, (bitN s.data.toList a.toNat : Nat), 0)
theorem wideL_getD (l : List UInt8) (q : Nat) : (wideL l (q + 1)).getD q 0 = l.getD q 0 := by
  rw [List.getD_eq_getElem?_getD, wideL_get, List.getD_eq_getElem?_getD]
  by_cases h : q < l.length
  · rw [if_pos h]
  · rw [if_neg h, if_pos (by omega), List.getElem?_eq_none (by omega)]
    rfl
theorem setbit_is (s : ByteArray) (a v : Int) (hs : s.size ≤ 140737488351232) : str_SetBit.f s a v = some (sbR s a v) := by
  unfold str_SetBit.f sbR
  by_cases h0 : a < 0 ∨ 8388608 ≤ a
  · rw [if_pos h0, if_pos h0]
  rw [if_neg h0, if_neg h0]
  by_cases h1 : v ≠ 0 ∧ v ≠ 1
  · rw [if_pos h1, if_pos h1]
  rw [if_neg h1, if_neg h1, if_pos hs, wideL_getD]
  have e : bitAt s (a.toNat / 8) (7 - a.toNat % 8) = (bitN s.data.toList a.toNat : Nat) := by
    have hn := ba_size s
    unfold bitAt bitN
    by_cases h : a.toNat / 8 < s.size
    · rw [if_pos h, wideL_getD]
    · rw [if_neg h, getD_out _ _ (by omega)]
      simp
  rw [e]
theorem setL_one (l : List UInt8) (q : Nat) (x : UInt8) : setL l [x] q = (wideL l (q + 1)).set q x := by
  unfold setL lay
  have hl : q < (wideL l (q + 1)).length := by rw [wideL_length]; omega
  rw [List.set_eq_take_append_cons_drop, if_pos hl]
  simp
theorem worth_ev (s : ByteArray) (a v was : Int) {R : ByteArray × Int × Int} : ∀ (d m w : Nat), m + d = 7 → w * 2 ^ d ≤ 128 →
    Ev (fun k => mewsref20_SetBit.l0 k s a v was ((w * 2 ^ d : Nat) : Int) 7) R → Ev (fun k => mewsref20_SetBit.l0 k s a v was (w : Int) (m : Int)) R := by
  intro d
  induction d with
  | zero =>
    intro m w hm hw h
    rw [Nat.pow_zero, Nat.mul_one] at h
    rw [show m = 7 by omega]
    exact h
  | succ d ih =>
    intro m w hm hw h
    have hpos : 0 < 2 ^ d := Nat.pos_of_ne_zero (by simp)
    have hww : w * 2 ≤ 128 := by
      rw [Nat.pow_succ, Nat.mul_comm (2 ^ d) 2, ← Nat.mul_assoc] at hw
      exact Nat.le_trans (Nat.le_mul_of_pos_right _ hpos) hw
    refine ev_round ?_
    simp only [mewsref20_SetBit.l0]
    refine ev_pos (by omega) ?_
    have e1 : wrap64 ((w : Int) * 2) = ((w * 2 : Nat) : Int) := by rw [w64 (by omega) (by omega)]; omega
    have e2 : wrap64 ((m : Int) + 1) = ((m + 1 : Nat) : Int) := by rw [w64 (by omega) (by omega)]; omega
    rw [e1, e2]
    refine ih (m + 1) (w * 2) (by omega) ?_ ?_
    · rw [Nat.mul_assoc, Nat.mul_comm 2, ← Nat.pow_succ]; exact hw
    · rw [Nat.mul_assoc, Nat.mul_comm 2, ← Nat.pow_succ]; exact h
theorem put_byte (b : UInt8) (m : Nat) (on : Bool) (c : Int) (h : c = (b.toNat : Int) + ((2 ^ m : Nat) : Int) * ((if on then 1 else 0) - ((b.toNat / 2 ^ m % 2 : Nat) : Int))) : UInt8.ofNat ((c % 256).toNat) = putBit b m on := by
  have h1 : b.toNat / 2 ^ m % 2 * 2 ^ m ≤ b.toNat := Nat.le_trans (Nat.mul_le_mul_right _ (Nat.mod_le _ _)) (Nat.div_mul_le_self _ _)
  unfold putBit
  obtain ⟨N, hN⟩ : ∃ N, N = b.toNat - b.toNat / 2 ^ m % 2 * 2 ^ m + (if on then 2 ^ m else 0) := ⟨_, rfl⟩
  have e : c = (N : Int) := by
    rw [h, hN, Int.mul_sub]
    have e2 : ((2 ^ m : Nat) : Int) * ((b.toNat / 2 ^ m % 2 : Nat) : Int) = ((b.toNat / 2 ^ m % 2 * 2 ^ m : Nat) : Int) := by rw [← Int.natCast_mul, Nat.mul_comm]
    rw [e2]
    generalize b.toNat / 2 ^ m % 2 * 2 ^ m = y at h1
    generalize 2 ^ m = z
    cases on <;> simp <;> omega
  rw [← hN, e]
  apply UInt8.toNat_inj.1
  rw [UInt8.toNat_ofNat', UInt8.toNat_ofNat']
  omega
theorem ref_setbit_ev (s : ByteArray) (a v : Int) (hs : s.size ≤ 100000) : Ev (fun k => mewsref20_SetBit.f k s a v) (sbR s a v) := by
  unfold mewsref20_SetBit.f sbR
  refine ev_bind (ref_bit_ev s a) ?_
  unfold bitR
  by_cases h0 : a < 0 ∨ 8388608 ≤ a
  · rw [if_pos h0, if_pos h0]
    exact ev_neg (by simp) (ev_some rfl)
  rw [if_neg h0, if_neg h0]
  refine ev_pos rfl ?_
  obtain ⟨k, rfl⟩ : ∃ k : Nat, a = k := ⟨a.toNat, by omega⟩
  simp only [Int.toNat_natCast]
  by_cases h1 : v ≠ 0 ∧ v ≠ 1
  · rw [if_pos h1]
    refine ev_neg h1.1 ?_
    rw [show (v != 1) = true from bne_iff_ne.2 h1.2]
    refine ev_round ?_
    simp only [mewsref20_SetBit.j0]
    exact ev_pos (by first | rfl | trivial) (ev_some rfl)
  rw [if_neg h1]
  have hgo : Ev (fun q => mewsref20_SetBit.j0 q s (k : Int) v ((bitN s.data.toList k : Nat) : Int) false) (⟨((wideL s.data.toList (k / 8 + 1)).set (k / 8) (putBit (s.data.toList.getD (k / 8) 0) (7 - k % 8) (decide (v = 1)))).toArray⟩, (bitN s.data.toList k : Nat), 0) := by
    refine ev_round ?_
    simp only [mewsref20_SetBit.j0]
    rw [r_is]
    refine ev_neg (by decide) ?_
    have hm7 : 7 - k % 8 ≤ 7 := Nat.sub_le _ _
    have hp : 1 * 2 ^ (7 - k % 8) ≤ 128 := by
      rw [Nat.one_mul]
      exact Nat.pow_le_pow_right (by decide) hm7
    refine worth_ev s (k : Int) v _ (7 - k % 8) (k % 8) 1 (by omega) hp ?_
    rw [Nat.one_mul] at hp ⊢
    have hb2 : bitN s.data.toList k < 2 := Nat.mod_lt _ (by decide)
    have hbl := byte_lt (s.data.toList.getD (k / 8) 0)
    have hv : v = (if decide (v = 1) = true then (1 : Int) else 0) := by
      by_cases hv1 : v = 1
      · simp [hv1]
      · have : v = 0 := by omega
        simp [this]
    refine ev_round ?_
    simp only [mewsref20_SetBit.l0]
    rw [q_is k (by omega)]
    refine ev_neg (by decide) (ev_bind0 (at_f s (k / 8)) ?_)
    have hput := fun c h => put_byte (s.data.toList.getD (k / 8) 0) (7 - k % 8) (decide (v = 1)) c h
    have hbn : bitN s.data.toList k = (s.data.toList.getD (k / 8) 0).toNat / 2 ^ (7 - k % 8) % 2 := rfl
    rw [← hbn, ← hv] at hput
    generalize hX : putBit (s.data.toList.getD (k / 8) 0) (7 - k % 8) (decide (v = 1)) = X at hput ⊢
    generalize (s.data.toList.getD (k / 8) 0).toNat = B at hbl hput ⊢
    generalize 2 ^ (7 - k % 8) = W at hp hput ⊢
    generalize bitN s.data.toList k = z at hb2 hput ⊢
    clear hbn hX
    have hd : -1 ≤ v - (z : Int) ∧ v - (z : Int) ≤ 1 := by omega
    rw [show wrap64 (v - (z : Int)) = v - (z : Int) from w64 (by omega) (by omega)]
    have hprod : -128 ≤ (W : Int) * (v - (z : Int)) ∧ (W : Int) * (v - (z : Int)) ≤ 128 := by
      rcases (by omega : v - (z : Int) = -1 ∨ v - (z : Int) = 0 ∨ v - (z : Int) = 1) with h | h | h <;> rw [h] <;> omega
    generalize hP : (W : Int) * (v - (z : Int)) = Pr at hprod hput ⊢
    rw [show wrap64 Pr = Pr from w64 (by omega) (by omega), show wrap64 (B : Int) = (B : Int) from w64 (by omega) (by omega), show wrap64 ((B : Int) + Pr) = (B : Int) + Pr from w64 (by omega) (by omega)]
    have hX2 := hput ((B : Int) + Pr) rfl
    have hstr : strOfNums [((B : Int) + Pr) % 256] = ⟨#[X]⟩ := by
      apply ba_ext
      rw [strOf_data]
      simp [hX2]
    rw [hstr]
    have hset := ref_set_ev s ((k / 8 : Nat) : Int) ⟨#[X]⟩ hs (show 1 ≤ 100000 by decide) (by omega)
    have eset : setR s ((k / 8 : Nat) : Int) ⟨#[X]⟩ = (⟨((wideL s.data.toList (k / 8 + 1)).set (k / 8) X).toArray⟩, 0) := by
      unfold setR
      have h1 : (⟨#[X]⟩ : ByteArray).size = 1 := rfl
      rw [h1, if_neg (by omega), if_neg (by decide), if_neg (by omega), Int.toNat_natCast, ← setL_one]
    rw [eset] at hset
    exact ev_bind hset (ev_some rfl)
  by_cases hv0 : v = 0
  · exact ev_pos hv0 hgo
  · refine ev_neg hv0 ?_
    rw [show (v != 1) = false by rw [bne_eq_false_iff_eq]; omega]
    exact hgo
end Go.Proofs.Ytjinfomobjocfaa.St
