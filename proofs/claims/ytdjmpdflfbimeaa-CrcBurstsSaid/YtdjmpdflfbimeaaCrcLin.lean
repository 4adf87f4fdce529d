/- The sum's step is linear and takes no two to one; the bits of a text, one by one. No memory. -/
import Derived.Test.YtdjmpdflfbimeaaCrc
namespace Go.Proofs.Ytdjmpdflfbimeaa.Crc
open Go.RowKit Go.Proofs.Ytdjmpdflfbimeaa.Y
set_option linter.unusedVariables false
set_option linter.unusedSimpArgs false

theorem T_zero : T 0#32 = 0#32 := by decide
theorem T_lin (a b : BitVec 32) : T (a ^^^ b) = T a ^^^ T b := by
  unfold T
  rw [BitVec.getLsbD_xor]
  apply BitVec.eq_of_getLsbD_eq
  intro i hi
  cases a.getLsbD 0 <;> cases b.getLsbD 0 <;> simp [BitVec.getLsbD_ushiftRight, BitVec.getLsbD_xor] <;> cases P.getLsbD i <;> cases a.getLsbD (1 + i) <;> cases b.getLsbD (1 + i) <;> rfl
theorem TT_lin : ∀ (n : Nat) (a b : BitVec 32), TT n (a ^^^ b) = TT n a ^^^ TT n b
  | 0, a, b => rfl
  | n + 1, a, b => by rw [TT, TT, TT, T_lin, TT_lin n]
theorem TT_zero : ∀ n, TT n 0#32 = 0#32
  | 0 => rfl
  | n + 1 => by rw [TT, T_zero, TT_zero n]
theorem T_inj0 (v : BitVec 32) (h : T v = 0#32) : v = 0#32 := by
  unfold T at h
  have h31 := congrArg (fun x => x.getLsbD 31) h
  cases hl : v.getLsbD 0 with
  | true =>
    rw [hl] at h31
    simp [BitVec.getLsbD_ushiftRight, P] at h31
  | false =>
    rw [hl] at h
    simp at h
    apply BitVec.eq_of_getLsbD_eq
    intro i hi
    rcases Nat.eq_zero_or_pos i with rfl | hp
    · rw [hl]; simp
    · have := congrArg (fun x => x.getLsbD (i - 1)) h
      simp [BitVec.getLsbD_ushiftRight] at this
      rw [show 1 + (i - 1) = i by omega] at this
      rw [this]; simp
theorem TT_inj0 : ∀ (n : Nat) (v : BitVec 32), TT n v = 0#32 → v = 0#32
  | 0, v, h => h
  | n + 1, v, h => T_inj0 v (TT_inj0 n (T v) h)
def bitV (b : Bool) : BitVec 32 := if b then 1#32 else 0#32
def stepB (v : BitVec 32) (b : Bool) : BitVec 32 := T (v ^^^ bitV b)
/-- Bits, one by one, from v on. -/
def foldN (f : Nat → Bool) (v : BitVec 32) : Nat → BitVec 32
  | 0 => v
  | n + 1 => stepB (foldN f v n) (f n)
def low (m : BitVec 32) : Nat → BitVec 32
  | 0 => 0#32
  | n + 1 => low m n ^^^ (bitV (m.getLsbD n) <<< n)
theorem TT_one : ∀ n : Fin 32, TT n.val (1#32 <<< n.val) = 1#32 := by decide +kernel
theorem TT_bit (n : Nat) (hn : n < 32) (b : Bool) : TT n (bitV b <<< n) = bitV b := by
  cases b with
  | false => simp [bitV, TT_zero]
  | true => exact TT_one ⟨n, hn⟩
theorem foldN_low (m v : BitVec 32) : ∀ n, n ≤ 32 → foldN (fun i => m.getLsbD i) v n = TT n (v ^^^ low m n)
  | 0, _ => by simp [foldN, low, TT]
  | n + 1, h => by
    rw [foldN, foldN_low m v n (by omega), TT_succ, low, ← BitVec.xor_assoc, TT_lin n (v ^^^ low m n), TT_bit n (by omega)]
    rfl
theorem low_bit (m : BitVec 32) : ∀ n i, (low m n).getLsbD i = (decide (i < n) && m.getLsbD i)
  | 0, i => by simp [low]
  | n + 1, i => by
    rw [low, BitVec.getLsbD_xor, low_bit m n i, BitVec.getLsbD_shiftLeft]
    by_cases h : i < n
    · have h2 : i < n + 1 := by omega
      simp [h, h2]
    · by_cases e : i = n
      · subst e
        cases hm : m.getLsbD i with
        | false => simp [bitV, hm]
        | true =>
          have : i < 32 := by
            refine Nat.lt_of_not_le fun hle => ?_
            rw [BitVec.getLsbD_of_ge m i hle] at hm
            cases hm
          simp [bitV, hm, this]
      · have h2 : ¬ i < n + 1 := by omega
        have h3 : i - n ≠ 0 := by omega
        cases m.getLsbD n <;> simp [bitV, h, h2, h3]
theorem low_all (m : BitVec 32) : low m 32 = m := by
  apply BitVec.eq_of_getLsbD_eq
  intro i hi
  rw [low_bit]
  simp [hi]
theorem foldN_32 (m v : BitVec 32) : foldN (fun i => m.getLsbD i) v 32 = TT 32 (v ^^^ m) := by rw [foldN_low m v 32 (Nat.le_refl _), low_all]
theorem foldN_congr (f g : Nat → Bool) (v : BitVec 32) : ∀ n, (∀ i, i < n → f i = g i) → foldN f v n = foldN g v n
  | 0, _ => rfl
  | n + 1, h => by rw [foldN, foldN, foldN_congr f g v n (fun i hi => h i (by omega)), h n (by omega)]
theorem foldN_add (f : Nat → Bool) (v : BitVec 32) (a : Nat) : ∀ b, foldN f v (a + b) = foldN (fun i => f (a + i)) (foldN f v a) b
  | 0 => rfl
  | b + 1 => by rw [← Nat.add_assoc, foldN, foldN, foldN_add f v a b]
theorem byteB_fold (v : BitVec 32) (b : UInt8) : byteB v b = foldN (fun i => b.toBitVec.getLsbD i) v 8 := by
  have h := foldN_low (b.toBitVec.setWidth 32) v 8 (by decide)
  have hl : low (b.toBitVec.setWidth 32) 8 = b.toBitVec.setWidth 32 := by
    apply BitVec.eq_of_getLsbD_eq
    intro i hi
    rw [low_bit]
    by_cases h8 : i < 8
    · simp [h8]
    · simp [h8, BitVec.getLsbD_of_ge b.toBitVec i (by omega)]
  rw [hl] at h
  unfold byteB
  rw [← h]
  refine foldN_congr _ _ _ _ (fun i hi => ?_)
  rw [BitVec.getLsbD_setWidth]
  simp
  omega
/-- A bit of a text. -/
def bitL (l : List UInt8) (j : Nat) : Bool := (l.getD (j / 8) 0).toBitVec.getLsbD (j % 8)
theorem moreB_fold (v : BitVec 32) (l : List UInt8) : ∀ n, n ≤ l.length → moreB v (l.take n) = foldN (bitL l) v (8 * n)
  | 0, _ => rfl
  | n + 1, h => by
    have hn : n < l.length := h
    have e : moreB v (l.take (n + 1)) = byteB (moreB v (l.take n)) l[n] := by
      unfold moreB
      rw [List.take_succ_eq_append_getElem hn, List.foldl_append]
      rfl
    rw [e, moreB_fold v l n (by omega), byteB_fold, show 8 * (n + 1) = 8 * n + 8 by omega, foldN_add]
    refine foldN_congr _ _ _ _ (fun i hi => ?_)
    unfold bitL
    rw [show (8 * n + i) / 8 = n by omega, show (8 * n + i) % 8 = i by omega, List.getD_eq_getElem?_getD, List.getElem?_eq_getElem hn]
    rfl
theorem moreB_all (v : BitVec 32) (l : List UInt8) : moreB v l = foldN (bitL l) v (8 * l.length) := by
  have := moreB_fold v l l.length (Nat.le_refl _)
  rwa [List.take_length] at this
theorem stepB_lin (a b : BitVec 32) (x y : Bool) : stepB (a ^^^ b) (x ^^ y) = stepB a x ^^^ stepB b y := by
  unfold stepB
  rw [← T_lin]
  congr 1
  have : bitV (x ^^ y) = bitV x ^^^ bitV y := by cases x <;> cases y <;> decide
  rw [this]
  ac_rfl
theorem foldN_lin (f g : Nat → Bool) (v : BitVec 32) : ∀ n, foldN (fun i => f i ^^ g i) v n = foldN f v n ^^^ foldN g 0#32 n
  | 0 => by simp [foldN]
  | n + 1 => by rw [foldN, foldN_lin f g v n, stepB_lin]; rfl
theorem foldN_zero (v : BitVec 32) : ∀ n, foldN (fun _ => false) v n = TT n v
  | 0 => rfl
  | n + 1 => by
    rw [foldN, foldN_zero v n, TT_succ]
    simp [stepB, bitV]
def err (a : Nat) (m : BitVec 32) (j : Nat) : Bool := decide (a ≤ j) && decide (j < a + 32) && m.getLsbD (j - a)
theorem err_fold (a r : Nat) (m : BitVec 32) : foldN (err a m) 0#32 (a + (32 + r)) = TT r (TT 32 m) := by
  rw [foldN_add, foldN_add]
  have h1 : foldN (err a m) 0#32 a = 0#32 := by
    rw [foldN_congr (err a m) (fun _ => false) 0#32 a (fun i hi => by unfold err; rw [decide_eq_false (by omega : ¬ a ≤ i)]; rfl), foldN_zero, TT_zero]
  have h2 : foldN (fun i => err a m (a + i)) 0#32 32 = TT 32 m := by
    rw [foldN_congr _ (fun i => m.getLsbD i) 0#32 32 (fun i hi => by unfold err; rw [decide_eq_true (by omega : a ≤ a + i), decide_eq_true (by omega : a + i < a + 32), show a + i - a = i by omega]; rfl), foldN_32]
    simp
  rw [h1, h2]
  rw [foldN_congr _ (fun _ => false) _ r (fun i hi => by unfold err; rw [decide_eq_false (by omega : ¬ a + (32 + i) < a + 32)]; simp), foldN_zero]
theorem err_ne (a r : Nat) (m : BitVec 32) (hm : m ≠ 0#32) : foldN (err a m) 0#32 (a + (32 + r)) ≠ 0#32 := by
  rw [err_fold]
  intro h
  exact hm (TT_inj0 _ _ (TT_inj0 _ _ h))
theorem byte_bit (x e r : Nat) (hr : r < 8) : (UInt8.ofNat (x / 2 ^ e % 256)).toBitVec.getLsbD r = x.testBit (e + r) := by
  show (BitVec.ofNat 8 (x / 2 ^ e % 256)).getLsbD r = _
  rw [BitVec.getLsbD_ofNat, decide_eq_true hr, Bool.true_and, show (256 : Nat) = 2 ^ 8 from rfl, Nat.testBit_mod_two_pow, decide_eq_true hr, Bool.true_and, Nat.testBit_div_two_pow]
  congr 1
  omega
theorem tail_bits (w : BitVec 32) (j : Nat) (hj : j < 32) : bitL (tail4 w) j = w.getLsbD j := by
  have hw : w.getLsbD j = w.toNat.testBit j := rfl
  rw [hw]
  unfold bitL tail4
  have hr : j % 8 < 8 := Nat.mod_lt _ (by decide)
  rcases (by omega : j / 8 = 0 ∨ j / 8 = 1 ∨ j / 8 = 2 ∨ j / 8 = 3) with h | h | h | h <;> rw [h]
  · have := byte_bit w.toNat 0 (j % 8) hr
    rw [Nat.pow_zero, Nat.div_one] at this
    rw [show j = 0 + j % 8 by omega]
    simpa using this
  · have := byte_bit w.toNat 8 (j % 8) hr
    rw [show 8 + j % 8 = j by omega] at this
    exact this
  · have := byte_bit w.toNat 16 (j % 8) hr
    rw [show 16 + j % 8 = j by omega] at this
    exact this
  · have := byte_bit w.toNat 24 (j % 8) hr
    rw [show 24 + j % 8 = j by omega] at this
    exact this
theorem more_tail (v w : BitVec 32) : moreB v (tail4 w) = TT 32 (v ^^^ w) := by
  rw [moreB_all, show 8 * (tail4 w).length = 32 from rfl, foldN_congr _ (fun i => w.getLsbD i) v 32 (fun i hi => tail_bits w i hi), foldN_32]
end Go.Proofs.Ytdjmpdflfbimeaa.Crc
