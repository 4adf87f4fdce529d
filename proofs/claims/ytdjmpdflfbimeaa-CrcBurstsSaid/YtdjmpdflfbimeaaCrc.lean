/- What the sum's functions come to, over bit vectors; no program's text, no memory. -/
import Derived.Test.YtdjmpdflfbimeaaY
import Derived.Test.YtdjmpdflfbimeaaX5
import Derived.Test.YtdjmpdflfbimeaaX6
namespace Go.Proofs.Ytdjmpdflfbimeaa.Crc
open Go.RowKit Go.Proofs.YtdjmpdflfbimeaaW.PrintWords Go.Proofs.YtdjmpdflfbimeaaW.PrintMore Go.Proofs.Ytdjmpdflfbimeaa.Y Go.Proofs.Ytdjmpdflfbimeaa.X
set_option linter.unusedVariables false

def P : BitVec 32 := 0xEDB88320#32
/-- One bit's step. -/
def T (v : BitVec 32) : BitVec 32 := (v >>> 1) ^^^ (if v.getLsbD 0 then P else 0#32)
def TT : Nat → BitVec 32 → BitVec 32
  | 0, v => v
  | n + 1, v => TT n (T v)
def byteB (v : BitVec 32) (b : UInt8) : BitVec 32 := TT 8 (v ^^^ b.toBitVec.setWidth 32)
def moreB (v : BitVec 32) (l : List UInt8) : BitVec 32 := l.foldl byteB v
def ofB (l : List UInt8) : BitVec 32 := ~~~ moreB (~~~ 0#32) l
def tail4 (v : BitVec 32) : List UInt8 := [UInt8.ofNat (v.toNat % 256), UInt8.ofNat (v.toNat / 256 % 256), UInt8.ofNat (v.toNat / 65536 % 256), UInt8.ofNat (v.toNat / 16777216 % 256)]

theorem lt32 (v : BitVec 32) : v.toNat < 4294967296 := v.isLt
theorem xor_u32 (a b : BitVec 32) : Go.bits .xor .u32 (a.toNat : Int) (b.toNat : Int) = ((a ^^^ b).toNat : Int) := by
  show IntKind.u32.wrap ((BitVec.ofInt 32 (a.toNat : Int) ^^^ BitVec.ofInt 32 (b.toNat : Int)).toNat : Int) = _
  rw [BitVec.ofInt_natCast, BitVec.ofInt_natCast, BitVec.ofNat_toNat, BitVec.ofNat_toNat, BitVec.setWidth_eq, BitVec.setWidth_eq, IntKind.wrap_u32]
  have := lt32 (a ^^^ b)
  omega
theorem and_one (a : BitVec 32) : Go.bits .and .u32 (a.toNat : Int) 1 = (a.toNat : Int) % 2 := by
  have h := bits_mask .u32 32 (by decide) (fun n h0 h1 => by rw [IntKind.wrap_u32]; omega) 1 (by decide) (a.toNat : Int) (by omega) (by have := lt32 a; omega)
  simpa using h
theorem lsb (v : BitVec 32) : v.getLsbD 0 = decide (v.toNat % 2 = 1) := by
  rw [BitVec.getLsbD, Nat.testBit_zero]
theorem half (v : BitVec 32) : ((v >>> 1).toNat : Int) = (v.toNat : Int) / 2 := by
  rw [BitVec.toNat_ushiftRight, Nat.shiftRight_eq_div_pow]
  omega
theorem impl_step (v : BitVec 32) : Go.bits .xor .u32 ((v.toNat : Int) / 2) (Go.bits .and .u32 3988292384 ((-(Go.bits .and .u32 (v.toNat : Int) 1)) % 4294967296)) = ((T v).toNat : Int) := by
  rw [and_one, ← half]
  unfold T
  rcases Nat.mod_two_eq_zero_or_one v.toNat with h | h
  · have h1 : (-((v.toNat : Int) % 2)) % 4294967296 = 0 := by omega
    have h2 : Go.bits .and .u32 3988292384 0 = 0 := by decide
    rw [h1, h2, lsb, h]
    exact xor_u32 (v >>> 1) 0#32
  · have h1 : (-((v.toNat : Int) % 2)) % 4294967296 = 4294967295 := by omega
    have h2 : Go.bits .and .u32 3988292384 4294967295 = 3988292384 := by decide
    rw [h1, h2, lsb, h]
    exact xor_u32 (v >>> 1) P
theorem ref_odd (v : BitVec 32) (h : Int.tmod (v.toNat : Int) 2 = 1) : Go.bits .xor .u32 ((Int.tdiv (v.toNat : Int) 2) % 4294967296) 3988292384 = ((T v).toNat : Int) := by
  rw [Int.tmod_eq_emod_of_nonneg (by omega)] at h
  have hv := lt32 v
  have h1 : (Int.tdiv (v.toNat : Int) 2) % (4294967296 : Int) = ((v >>> 1).toNat : Int) := by
    rw [Int.tdiv_eq_ediv_of_nonneg (by omega), half]
    omega
  unfold T
  rw [h1, lsb, decide_eq_true (show v.toNat % 2 = 1 by omega)]
  exact xor_u32 (v >>> 1) P
theorem ref_even (v : BitVec 32) (h : ¬ Int.tmod (v.toNat : Int) 2 = 1) : (Int.tdiv (v.toNat : Int) 2) % 4294967296 = ((T v).toNat : Int) := by
  rw [Int.tmod_eq_emod_of_nonneg (by omega)] at h
  have hv := lt32 v
  have h1 : (Int.tdiv (v.toNat : Int) 2) % (4294967296 : Int) = ((v >>> 1).toNat : Int) := by
    rw [Int.tdiv_eq_ediv_of_nonneg (by omega), half]
    omega
  unfold T
  rw [h1, lsb, decide_eq_false (show ¬ v.toNat % 2 = 1 by omega)]
  simp
theorem TT_add (a b : Nat) (v : BitVec 32) : TT (a + b) v = TT b (TT a v) := by
  induction a generalizing v with
  | zero => simp [TT]
  | succ a ih => rw [Nat.succ_add]; exact ih (T v)
theorem TT_succ (n : Nat) (v : BitVec 32) : TT (n + 1) v = T (TT n v) := by rw [TT_add n 1]; rfl
theorem enter (v : BitVec 32) (b : UInt8) : Go.bits .xor .u32 (v.toNat : Int) (((b.toNat : Int)) % 4294967296) = ((v ^^^ b.toBitVec.setWidth 32).toNat : Int) := by
  have hb := b.toNat_lt
  have h : ((b.toNat : Int)) % 4294967296 = ((b.toBitVec.setWidth 32).toNat : Int) := by
    rw [BitVec.toNat_setWidth]
    show (b.toNat : Int) % 4294967296 = ((b.toNat % 2 ^ 32 : Nat) : Int)
    omega
  rw [h]
  exact xor_u32 v _
theorem impl_byte (v : BitVec 32) (b : UInt8) : Ev (fun k => crc_Byte.f k (v.toNat : Int) (b.toNat : Int)) ((byteB v b).toNat : Int) := by
  unfold crc_Byte.f
  rw [enter]
  refine ev_up (g := fun k i => crc_Byte.l0 k ((TT i (v ^^^ b.toBitVec.setWidth 32)).toNat : Int) (i : Int)) 8 ?_ (fun i hi h => ?_) 0 (by omega)
  · refine ev_round ?_
    simp only [crc_Byte.l0]
    refine ev_neg (by omega) (ev_some rfl)
  · refine ev_round ?_
    simp only [crc_Byte.l0]
    refine ev_pos (by omega) ?_
    rw [impl_step, ← TT_succ, w64 (by omega) (by omega)]
    exact h
theorem ref_byte (v : BitVec 32) (b : UInt8) : Ev (fun k => mewsref14_Byte.f k (v.toNat : Int) (b.toNat : Int)) ((byteB v b).toNat : Int) := by
  unfold mewsref14_Byte.f
  rw [enter]
  refine ev_up (g := fun k i => mewsref14_Byte.l0 k ((TT i (v ^^^ b.toBitVec.setWidth 32)).toNat : Int) (i : Int)) 8 ?_ (fun i hi h => ?_) 0 (by omega)
  · refine ev_round ?_
    simp only [mewsref14_Byte.l0]
    refine ev_neg (by omega) (ev_some rfl)
  · refine ev_round ?_
    simp only [mewsref14_Byte.l0]
    refine ev_pos (by omega) (ev_ite (fun c => ?_) (fun c => ?_))
    · rw [ref_odd _ c, ← TT_succ, w64 (by omega) (by omega)]
      exact h
    · rw [ref_even _ c, ← TT_succ, w64 (by omega) (by omega)]
      exact h
theorem moreB_snoc (v : BitVec 32) (s : ByteArray) (i : Nat) (h : i < s.size) : moreB v (s.data.toList.take (i + 1)) = byteB (moreB v (s.data.toList.take i)) (s.data.toList[i]'(by simpa using h)) := by
  unfold moreB
  rw [List.take_succ_eq_append_getElem (by simpa using h), List.foldl_append]
  rfl
theorem impl_more (v : BitVec 32) (s : ByteArray) (hs : s.size ≤ 140737488351232) : Ev (fun k => crc_More.f k (v.toNat : Int) s) ((moreB v s.data.toList).toNat : Int) := by
  unfold crc_More.f
  refine ev_up (g := fun k i => crc_More.l0 k ((moreB v (s.data.toList.take i)).toNat : Int) s (s.size : Int) (i : Int)) s.size ?_ (fun i hi h => ?_) 0 (by omega)
  · refine ev_round ?_
    simp only [crc_More.l0]
    refine ev_neg (by omega) (ev_some ?_)
    rw [List.take_of_length_le (by simp)]
  · refine ev_round ?_
    simp only [crc_More.l0]
    refine ev_pos (by omega) (ev_pos (by omega) (ev_pos (by omega) ?_))
    rw [bt_nat s i hi]
    refine ev_bind (impl_byte _ _) ?_
    rw [← moreB_snoc v s i hi, w64 (by omega) (by omega)]
    exact h
theorem ref_more (v : BitVec 32) (s : ByteArray) (hs : s.size ≤ 140737488351232) : Ev (fun k => mewsref14_More.f k (v.toNat : Int) s) ((moreB v s.data.toList).toNat : Int) := by
  unfold mewsref14_More.f
  refine ev_up (g := fun k i => mewsref14_More.l0 k ((moreB v (s.data.toList.take i)).toNat : Int) s (i : Int)) s.size ?_ (fun i hi h => ?_) 0 (by omega)
  · refine ev_round ?_
    simp only [mewsref14_More.l0]
    refine ev_neg (by omega) (ev_some ?_)
    rw [List.take_of_length_le (by simp)]
  · refine ev_round ?_
    simp only [mewsref14_More.l0]
    refine ev_pos (by omega) (ev_pos (by omega) ?_)
    rw [bt_nat s i hi]
    refine ev_bind (ref_byte _ _) ?_
    rw [← moreB_snoc v s i hi, w64 (by omega) (by omega)]
    exact h
theorem not_u32 (v : BitVec 32) : Go.bits .xor .u32 4294967295 (v.toNat : Int) = ((~~~ v).toNat : Int) := by
  rw [← BitVec.allOnes_xor]
  exact xor_u32 (BitVec.allOnes 32) v
theorem not_u32' (v : BitVec 32) : Go.bits .xor .u32 (v.toNat : Int) 4294967295 = ((~~~ v).toNat : Int) := by
  rw [← BitVec.xor_allOnes]
  exact xor_u32 v (BitVec.allOnes 32)
/-- All parts' bytes. -/
def flat (l : List ByteArray) : List UInt8 := l.flatMap fun s => s.data.toList
theorem impl_of (l : List ByteArray) (hl : l.length ≤ 140737488351232) (hs : ∀ s ∈ l, s.size ≤ 140737488351232) : Ev (fun k => crc_Of.f k l) ((ofB (flat l)).toNat : Int) := by
  unfold crc_Of.f
  refine ev_up (g := fun k i => crc_Of.l0 k ((moreB (~~~ 0#32) (flat (l.take i))).toNat : Int) l (l.length : Int) (i : Int)) l.length ?_ (fun i hi h => ?_) 0 (by omega)
  · refine ev_round ?_
    simp only [crc_Of.l0]
    refine ev_neg (by omega) (ev_some ?_)
    rw [List.take_of_length_le (by omega), not_u32]
    rfl
  · refine ev_round ?_
    simp only [crc_Of.l0]
    refine ev_pos (by omega) (ev_pos (by omega) (ev_pos (by omega) ?_))
    rw [rdOf_nat _ l i hi]
    refine ev_bind (impl_more _ _ (hs _ (List.getElem_mem hi))) ?_
    rw [w64 (by omega) (by omega)]
    have e : moreB (~~~ 0#32) (flat (l.take (i + 1))) = moreB (moreB (~~~ 0#32) (flat (l.take i))) (l[i]).data.toList := by
      unfold moreB flat
      rw [List.take_succ_eq_append_getElem hi, List.flatMap_append, List.foldl_append]
      simp
    rw [e] at h
    exact h
theorem ref_of (s : ByteArray) (hs : s.size ≤ 140737488351232) : Ev (fun k => mewsref14_Of.f k s) ((ofB s.data.toList).toNat : Int) := by
  unfold mewsref14_Of.f
  refine ev_bind (ref_more (~~~ 0#32) s hs) (ev_some ?_)
  rw [not_u32']
  rfl
end Go.Proofs.Ytdjmpdflfbimeaa.Crc
