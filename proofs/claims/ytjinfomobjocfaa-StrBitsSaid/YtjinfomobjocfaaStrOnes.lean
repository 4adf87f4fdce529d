/- How many bits are 1: what the functions of str and of the reference come to. No memory. -/
import Derived.Test.YtjinfomobjocfaaStrBit
namespace Go.Proofs.Ytjinfomobjocfaa.St
open Go.RowKit Go.Proofs.YtjinfomobjocfaaW.PrintWords Go.Proofs.YtjinfomobjocfaaW.PrintMore Go.Proofs.Ytjinfomobjocfaa.Y Go.Proofs.Ytjinfomobjocfaa.X
set_option linter.unusedVariables false
set_option linter.unusedSimpArgs false

def popN (b : Nat) : Nat := b / 2 ^ 7 % 2 + b / 2 ^ 6 % 2 + b / 2 ^ 5 % 2 + b / 2 ^ 4 % 2 + b / 2 ^ 3 % 2 + b / 2 ^ 2 % 2 + b / 2 ^ 1 % 2 + b / 2 ^ 0 % 2
def popB (b : UInt8) : Nat := popN b.toNat
theorem ones8 : ∀ b : Fin 256, bits_OnesCount8.f (b.val : Int) = some ((popN b.val : Nat) : Int) := by decide +kernel
theorem popB_le (b : UInt8) : popB b ≤ 8 := by
  unfold popB popN
  omega
def onesL : List UInt8 → Nat
  | [] => 0
  | b :: l => popB b + onesL l
theorem onesL_app : ∀ l r : List UInt8, onesL (l ++ r) = onesL l + onesL r
  | [], r => by simp [onesL]
  | b :: l, r => by
    rw [List.cons_append, onesL, onesL, onesL_app l r]
    omega
theorem onesL_snoc (l : List UInt8) (b : UInt8) : onesL (l ++ [b]) = onesL l + popB b := by
  rw [onesL_app]
  rfl
theorem onesL_le : ∀ l : List UInt8, onesL l ≤ 8 * l.length
  | [] => Nat.le_refl _
  | b :: l => by
    have h1 := popB_le b
    have h2 := onesL_le l
    rw [onesL, List.length_cons]
    omega
theorem ones_loop (t : ByteArray) (ht : t.size ≤ 100000) : Ev (fun k => str_Ones.l0 k t 0 (t.size : Int) 0) ((onesL t.data.toList : Nat) : Int) := by
  have hn := ba_size t
  have step : ∀ d i, i + d = t.size → Ev (fun k => str_Ones.l0 k t ((onesL (t.data.toList.take i) : Nat) : Int) (t.size : Int) (i : Int)) ((onesL t.data.toList : Nat) : Int) := by
    intro d
    induction d with
    | zero =>
      intro i hi
      refine ev_round ?_
      simp only [str_Ones.l0]
      refine ev_neg (by omega) (ev_some ?_)
      rw [List.take_of_length_le (by omega)]
    | succ d ih =>
      intro i hi
      have hlt : i < t.size := by omega
      have hltL : i < t.data.toList.length := by omega
      have ih := ih (i + 1) (by omega)
      rw [List.take_succ_eq_append_getElem hltL, onesL_snoc] at ih
      have hle := onesL_le (t.data.toList.take i)
      have hle2 : (t.data.toList.take i).length ≤ i := List.length_take_le _ _
      have hp := popB_le (t.data.toList[i]'hltL)
      have h8 := ones8 ⟨_, byte_lt (t.data.toList[i]'hltL)⟩
      simp only at h8
      refine ev_round ?_
      simp only [str_Ones.l0]
      refine ev_pos (by omega) (ev_pos (by omega) (ev_pos (by omega) ?_))
      rw [bt_nat t i hlt]
      refine ev_bind0 h8 ?_
      change Ev (fun k => str_Ones.l0 k t (wrap64 (((onesL (t.data.toList.take i) : Nat) : Int) + ((popB (t.data.toList[i]'hltL) : Nat) : Int))) (t.size : Int) (wrap64 ((i : Int) + 1))) _
      generalize popB (t.data.toList[i]'hltL) = y at hp ih ⊢
      generalize onesL (t.data.toList.take i) = x at hle ih ⊢
      rw [show wrap64 ((x : Int) + (y : Int)) = ((x + y : Nat) : Int) by rw [w64 (by omega) (by omega)]; omega, show wrap64 ((i : Int) + 1) = ((i + 1 : Nat) : Int) by rw [w64 (by omega) (by omega)]; omega]
      exact ih
  have := step t.size 0 (by omega)
  simpa [onesL] using this
theorem ones_ev (s : ByteArray) (hs : s.size ≤ 100000) (a b : Int) (ha : -9223372036854775808 ≤ a ∧ a ≤ 9223372036854775807) (hb : -9223372036854775808 ≤ b ∧ b ≤ 9223372036854775807) :
    Ev (fun k => str_Ones.f k s a b) ((onesL (getL s.data.toList a b) : Nat) : Int) := by
  unfold str_Ones.f
  refine ev_bind (get_ev s (by omega) a b ha hb) ?_
  have hl : (⟨(getL s.data.toList a b).toArray⟩ : ByteArray).size ≤ 100000 := by
    rw [ba_size]
    show (getL s.data.toList a b).length ≤ 100000
    unfold getL
    rw [List.length_drop, List.length_take, ← ba_size]
    omega
  exact ones_loop _ hl
def sumB (l : List UInt8) : Nat → Nat
  | 0 => 0
  | i + 1 => sumB l i + bitN l i
theorem bitN_at (l : List UInt8) (n j : Nat) (hj : j < 8) : bitN l (8 * n + j) = (l.getD n 0).toNat / 2 ^ (7 - j) % 2 := by
  unfold bitN
  rw [show (8 * n + j) / 8 = n by omega, show (8 * n + j) % 8 = j by omega]
theorem bitN_le (l : List UInt8) (i : Nat) : bitN l i ≤ 1 := Nat.le_of_lt_succ (Nat.mod_lt _ (by decide))
theorem sumB_le (l : List UInt8) : ∀ i, sumB l i ≤ i
  | 0 => Nat.le_refl _
  | i + 1 => by
    have := sumB_le l i
    have := bitN_le l i
    rw [sumB]
    omega
theorem sumB_ones (l : List UInt8) : ∀ n, n ≤ l.length → sumB l (8 * n) = onesL (l.take n)
  | 0, _ => rfl
  | n + 1, h => by
    rw [List.take_succ_eq_append_getElem (by omega), onesL_snoc, ← sumB_ones l n (by omega)]
    have e : sumB l (8 * (n + 1)) = sumB l (8 * n) + bitN l (8 * n + 0) + bitN l (8 * n + 1) + bitN l (8 * n + 2) + bitN l (8 * n + 3) + bitN l (8 * n + 4) + bitN l (8 * n + 5) + bitN l (8 * n + 6) + bitN l (8 * n + 7) := rfl
    rw [e, bitN_at l n 0 (by decide), bitN_at l n 1 (by decide), bitN_at l n 2 (by decide), bitN_at l n 3 (by decide), bitN_at l n 4 (by decide), bitN_at l n 5 (by decide), bitN_at l n 6 (by decide), bitN_at l n 7 (by decide), getD_in l n (by omega)]
    unfold popB popN
    simp only [Nat.add_assoc]
theorem ref_ones_loop (t : ByteArray) (ht : t.size ≤ 100000) : Ev (fun k => mewsref20_Ones.l0 k t 0 0) ((onesL t.data.toList : Nat) : Int) := by
  have hn := ba_size t
  have hfin : sumB t.data.toList (8 * t.size) = onesL t.data.toList := by
    rw [sumB_ones _ _ (by omega), List.take_of_length_le (by omega)]
  have e8 : Aside0 (wrap64 (8 * (t.size : Int)) = ((8 * t.size : Nat) : Int)) := ⟨by rw [w64 (by omega) (by omega)]; omega⟩
  have step : ∀ d i, i + d = 8 * t.size → Ev (fun k => mewsref20_Ones.l0 k t ((sumB t.data.toList i : Nat) : Int) (i : Int)) ((onesL t.data.toList : Nat) : Int) := by
    intro d
    induction d with
    | zero =>
      intro i hi
      refine ev_round ?_
      simp only [mewsref20_Ones.l0]
      rw [e8.out]
      refine ev_neg (by omega) (ev_some ?_)
      rw [show i = 8 * t.size by omega, hfin]
    | succ d ih =>
      intro i hi
      have ih := ih (i + 1) (by omega)
      rw [sumB] at ih
      have h1 := sumB_le t.data.toList i
      have h2 := bitN_le t.data.toList i
      have hb : bitR t (i : Int) = (((bitN t.data.toList i : Nat) : Int), 0) := by
        unfold bitR
        rw [if_neg (by omega), Int.toNat_natCast]
      have hbe := ref_bit_ev t (i : Int)
      rw [hb] at hbe
      refine ev_round ?_
      simp only [mewsref20_Ones.l0]
      rw [e8.out]
      refine ev_pos (by omega) (ev_bind hbe ?_)
      clear hb hbe
      change Ev (fun k => mewsref20_Ones.l0 k t (wrap64 (((sumB t.data.toList i : Nat) : Int) + ((bitN t.data.toList i : Nat) : Int))) (wrap64 ((i : Int) + 1))) _
      generalize bitN t.data.toList i = y at h2 ih ⊢
      generalize sumB t.data.toList i = x at h1 ih ⊢
      rw [show wrap64 ((x : Int) + (y : Int)) = ((x + y : Nat) : Int) by rw [w64 (by omega) (by omega)]; omega, show wrap64 ((i : Int) + 1) = ((i + 1 : Nat) : Int) by rw [w64 (by omega) (by omega)]; omega]
      exact ih
  exact step (8 * t.size) 0 (by omega)
theorem ref_ones_ev (s : ByteArray) (hs : s.size ≤ 100000) (a b : Int) (ha : -9223372036854775808 ≤ a ∧ a ≤ 9223372036854775807) (hb : -9223372036854775808 ≤ b ∧ b ≤ 9223372036854775807) :
    Ev (fun k => mewsref20_Ones.f k s a b) ((onesL (getL s.data.toList a b) : Nat) : Int) := by
  unfold mewsref20_Ones.f
  refine ev_bind (ref_get_ev s (by omega) a b ha hb) ?_
  have hl : (⟨(getL s.data.toList a b).toArray⟩ : ByteArray).size ≤ 100000 := by
    rw [ba_size]
    show (getL s.data.toList a b).length ≤ 100000
    unfold getL
    rw [List.length_drop, List.length_take, ← ba_size]
    omega
  exact ref_ones_loop _ hl
theorem far_is (s t : ByteArray) (x : Int) : ∃ b, mewslaw20_far.f s t x = some b ∧ (b = false → s.size ≤ 1000 ∧ t.size ≤ 1000) := by
  unfold mewslaw20_far.f
  by_cases h1 : (s.size : Int) > 1000
  · exact ⟨true, by rw [if_pos h1], fun h => by cases h⟩
  rw [if_neg h1]
  by_cases h2 : (t.size : Int) > 1000
  · exact ⟨true, by rw [if_pos h2], fun h => by cases h⟩
  rw [if_neg h2]
  split
  · exact ⟨_, rfl, fun _ => ⟨by omega, by omega⟩⟩
  · exact ⟨_, rfl, fun _ => ⟨by omega, by omega⟩⟩
theorem mod_is (x : Int) (m : Nat) (hm : 0 < m) (hm2 : m ≤ 1000000) : ∃ K : Nat, K < m ∧ wrap64 (Int.tmod (IntKind.u64.wrap x) (m : Int)) = (K : Int) := by
  obtain ⟨u, hu⟩ : ∃ u : Nat, IntKind.u64.wrap x = (u : Int) := by
    refine ⟨(IntKind.u64.wrap x).toNat, ?_⟩
    have : 0 ≤ IntKind.u64.wrap x := by
      simp only [IntKind.wrap, IntKind.bits, IntKind.signed]
      simp
      omega
    omega
  refine ⟨u % m, Nat.mod_lt _ hm, ?_⟩
  rw [hu, Int.tmod_eq_emod_of_nonneg (by omega)]
  have h1 : (u : Int) % (m : Int) = ((u % m : Nat) : Int) := by rw [Int.natCast_emod]
  have h2 : u % m < m := Nat.mod_lt _ hm
  rw [h1, w64 (by omega) (by omega)]
end Go.Proofs.Ytjinfomobjocfaa.St
