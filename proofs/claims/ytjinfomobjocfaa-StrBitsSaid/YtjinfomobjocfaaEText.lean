/- The contract of num.Text, walked by hand: the decimal of a number of 64 bits. -/
import Derived.Test.YtjinfomobjocfaaProg
import Derived.Test.YtjinfomobjocfaaWWords
import Derived.Test.YtjinfomobjocfaaWMore
import Derived.WalkKit
import Derived.WalkLawsBesides
import Derived.WalkSpells
import Derived.Deep.LoopGhost
import Derived.Laws.BytesArg
namespace Go.Proofs.Ytjinfomobjocfaa.X
open Go.RowKit Go.Proofs.YtjinfomobjocfaaW.PrintWords Go.Proofs.YtjinfomobjocfaaW.PrintMore
set_option linter.unusedVariables false
def dgt (u : Nat) : UInt8 := UInt8.ofNat (48 + u % 10)
/-- The digits of u, ahead of what is there. -/
def dg : Nat → Nat → List UInt8 → List UInt8
  | 0, _, acc => acc
  | f + 1, u, acc => if u / 10 = 0 then dgt u :: acc else dg f (u / 10) (dgt u :: acc)
def cs20 (k : Nat) (acc : List UInt8) : Array Value := (List.replicate k (Value.int .u8 0) ++ acc.map (fun b => Value.int .u8 b.toNat)).toArray
theorem cs20_size (k : Nat) (acc : List UInt8) : (cs20 k acc).size = k + acc.length := by simp [cs20]
theorem cs20_set (j : Nat) (acc : List UInt8) (b : UInt8) : (cs20 (j + 1) acc).setIfInBounds j (.int .u8 b.toNat) = cs20 j (b :: acc) := by
  unfold cs20
  rw [List.setIfInBounds_toArray]
  congr 1
  rw [List.replicate_succ', List.append_assoc, List.set_append_right _ _ (by simp)]
  simp
theorem cs20_low (j : Nat) (acc : List UInt8) : (cs20 (j + 1) acc)[j]? = some (.int .u8 0) := by
  simp [cs20, List.getElem?_append]
theorem cs20_high (j : Nat) (acc : List UInt8) (i : Nat) (h : i < acc.length) : (cs20 j acc)[j + i]? = some (.int .u8 ((acc.map fun b => (b.toNat : Int)).getD i 0)) := by
  simp [cs20, h]
def Rel (g : Nat) (w : World) (s : Nat) (R : List UInt8) (v4 v5 : Value) (wr : World) : Prop :=
  ∃ (k u : Nat) (acc : List UInt8), v4 = .int .i64 k ∧ v5 = .int .u64 u ∧ s < k ∧ u < 10 ^ (k - s) ∧ acc.length + k = 20 ∧ dg k u acc = R ∧ wr.heap[g]? = some (.cells (cs20 k acc) 60 (0, 0)) ∧ Below w.heap.size w wr
theorem pow_le (k s : Nat) (h : k ≤ 20) : 10 ^ (k - s) ≤ 100000000000000000000 := Nat.le_trans (Nat.pow_le_pow_right (by decide) (by omega)) (show 10 ^ 20 ≤ 100000000000000000000 by decide)
theorem ofNat_dig (u : Nat) : ((dgt u).toNat : Int) = 48 + (u : Int) % 10 := by
  unfold dgt
  rw [UInt8.toNat_ofNat']
  omega
theorem slice20 (g j : Nat) (hj : j < 20) (W : World) : (Instr.sliceAt 60 (.pointer (some ⟨g, 0, none⟩)) (some (.int .i64 (j : Int))) none none).run Try.prog W = .ok (.slice (some ⟨g, j, none⟩) (20 - j) (20 - j)) W := by
  have hl : Try.prog.arrayLen 60 = 20 := by simp [Program.arrayLen, Try.underlying60]
  have he : Try.prog.elem 60 = 5 := by simp [Program.elem, Try.underlying60]
  have h := run_sliceAt_array_l (P := Try.prog) W 60 ⟨g, 0, none⟩ (by rw [hl, he]; exact Try.underlying60) .i64 (j : Int) (by omega) (by rw [hl]; omega)
  rw [h, hl, he]
  have hs : ∀ W : World, (sizeOf 5).run Try.prog W = .ok 1 W := by intro W; kernel_rfl
  rw [hs]
  simp [slicedAt, Result.andThen, Addr.add_lit, show ¬ (20 = j) by omega]
theorem conv20 (g j : Nat) (acc : List UInt8) (W : World) (hl : acc.length + j = 20) (hW : W.heap[g]? = some (.cells (cs20 j acc) 60 (0, 0))) :
    (convert 55 9 (.slice (some ⟨g, j, none⟩) (20 - j) (20 - j))).run Try.prog W = .ok (.string ⟨acc.toArray⟩) W := by
  have h := run_convert_bytes_arg (P := Try.prog) W 55 5 Try.underlying55 Try.underlying5 g j (20 - j) (20 - j) (acc.map fun b => (b.toNat : Int)) (by simp; omega) (fun i hi => by
    rw [blk_cell hW, cs20_high j acc i (by omega)]) 9 Try.underlying9
  rw [h]
  congr 2
  simp [strOfNums, Function.comp_def]
theorem below_cell {w wr : World} {g j : Nat} {v : Value} (h : Below w.heap.size w wr) (hg : w.heap.size ≤ g) : Below w.heap.size w (wr.setCell ⟨g, j, none⟩ v) := h.setCell (by simpa using hg) _
set_option maxHeartbeats 4000000 in
set_option maxRecDepth 100000 in
theorem text_pos (n : Nat) (h1 : (n : Int) ≤ 9223372036854775807) (w : World) :
    Calls Try.prog 28 #[.int .i64 n] w fun e w' => e = .returned (.string ⟨(dg 20 n []).toArray⟩) ∧ Below w.heap.size w w' := by
  have h0 : 0 ≤ (n : Int) := Int.natCast_nonneg n
  go_enter Try.func28, Try.ntmps28
  go_wp2
  go_loopw [4, 5] (fun v4 v5 wr => Rel w.heap.size w 0 (dg 20 n []) v4 v5 wr) (fun v4 _ _ => (intOf v4).toNat)
  case atStart => exact ⟨20, n, [], rfl, rfl, by omega, by have : (10 : Nat) ^ (20 - 0) = 100000000000000000000 := by decide
                                                           omega, rfl, rfl, blk_new w _, below_alloc (Below.refl _ _) _⟩
  case round =>
    obtain ⟨k, u, acc, rfl, rfl, hk, hu, hl, hR, hH, hB⟩ := hrel
    obtain ⟨j, rfl⟩ : ∃ j, k = j + 1 := ⟨k - 1, by omega⟩
    have hc : wr.cell? ⟨w.heap.size, j, none⟩ = some (.int .u8 0) := by rw [blk_cell hH]; exact cs20_low j acc
    have hf : wr.frozen? ⟨w.heap.size, j, none⟩ = false := blk_frozen hH j
    have hj : j < 20 := by omega
    have hH2 := blk_set hH j (.int .u8 (dgt u).toNat)
    rw [cs20_set, ofNat_dig] at hH2
    have hB2 := below_cell (g := w.heap.size) (j := j) (v := .int .u8 (48 + (u : Int) % 10)) hB (Nat.le_refl _)
    have hs := slice20 w.heap.size j hj (wr.setCell ⟨w.heap.size, j, none⟩ (.int .u8 (48 + (u : Int) % 10)))
    have hv := conv20 w.heap.size j (dgt u :: acc) _ (by simp; omega) hH2
    have HR := Aside0.mk hR
    have HH := Aside0.mk hH2
    have HB := Aside0.mk hB2
    have HU := Aside0.mk hu
    have HL := Aside0.mk hl
    have hu64 : u < 100000000000000000000 := Nat.lt_of_lt_of_le hu (pow_le _ _ (by omega))
    clear hR hH hB hu hH2 hB2 hl
    by_cases hz : u / 10 = 0
    · have hd : dg (j + 1) u acc = dgt u :: acc := by unfold dg; rw [if_pos hz]
      have hR := HR.out
      rw [hd] at hR
      clear hd HR
      rw [hR] at hv
      clear hR
      have hz1 : ((u : Int) / 10 == 0) = true := by rw [beq_iff_eq]; omega
      clear hz
      go_wp2
      go_ret
      exact ⟨rfl, HB.out⟩
    · have hd : dg (j + 1) u acc = dg j (u / 10) (dgt u :: acc) := by rw [dg]; rw [if_neg hz]
      have hR := HR.out
      rw [hd] at hR
      clear hd HR
      have HR := Aside0.mk hR
      clear hR
      have hz1 : ((u : Int) / 10 == 0) = false := by rw [beq_eq_false_iff_ne]; omega
      clear hs hv
      have Hz := Aside0.mk hz
      clear hz
      go_wp2
      go_roundw
      case rel =>
        have hU := HU.out
        have hL := HL.out
        have hz := Hz.out
        have h10 : j ≠ 0 := by rintro rfl; simp at hU; omega
        refine ⟨j, u / 10, dgt u :: acc, rfl, by simp, by omega, ?_, by simp; omega, HR.out, HH.out, HB.out⟩
        have : 10 ^ (j + 1 - 0) = 10 ^ (j - 0) * 10 := Nat.pow_succ 10 j
        omega
      case measure => simp [intOf]
theorem wrapneg (m : Nat) (h : m ≤ 9223372036854775808) : IntKind.u64.wrap (-IntKind.u64.wrap (-(m : Int))) = m := by
  simp only [IntKind.wrap, IntKind.bits, IntKind.signed]
  simp
  omega
set_option maxHeartbeats 4000000 in
set_option maxRecDepth 100000 in
theorem text_neg (m : Nat) (h0 : 0 < m) (h1 : m ≤ 9223372036854775808) (w : World) :
    Calls Try.prog 28 #[.int .i64 (-(m : Int))] w fun e w' => e = .returned (.string ⟨(45 :: dg 20 m []).toArray⟩) ∧ Below w.heap.size w w' := by
  have hn : (-(m : Int)) < 0 := by omega
  have hn1 : -9223372036854775808 ≤ (-(m : Int)) := by omega
  go_enter Try.func28, Try.ntmps28
  go_wp2
  go_loopw [4, 5] (fun v4 v5 wr => Rel w.heap.size w 1 (dg 20 m []) v4 v5 wr) (fun v4 _ _ => (intOf v4).toNat)
  case atStart => exact ⟨20, m, [], rfl, by rw [wrapneg m h1], by omega, by have : (10 : Nat) ^ (20 - 1) = 10000000000000000000 := by decide
                                                                            omega, rfl, rfl, blk_new w _, below_alloc (Below.refl _ _) _⟩
  case round =>
    obtain ⟨k, u, acc, rfl, rfl, hk, hu, hl, hR, hH, hB⟩ := hrel
    obtain ⟨j, rfl⟩ : ∃ j, k = j + 1 := ⟨k - 1, by omega⟩
    obtain ⟨i, hi0⟩ : ∃ i, j = i + 1 := ⟨j - 1, by omega⟩
    have hc : wr.cell? ⟨w.heap.size, j, none⟩ = some (.int .u8 0) := by rw [blk_cell hH]; exact cs20_low j acc
    have hf : wr.frozen? ⟨w.heap.size, j, none⟩ = false := blk_frozen hH j
    have hj : j < 20 := by omega
    have hH2 := blk_set hH j (.int .u8 (dgt u).toNat)
    rw [cs20_set, ofNat_dig] at hH2
    have hB2 := below_cell (g := w.heap.size) (j := j) (v := .int .u8 (48 + (u : Int) % 10)) hB (Nat.le_refl _)
    have HR := Aside0.mk hR
    have HH := Aside0.mk hH2
    have HB := Aside0.mk hB2
    have HU := Aside0.mk hu
    have HL := Aside0.mk hl
    have hu64 : u < 100000000000000000000 := Nat.lt_of_lt_of_le hu (pow_le _ _ (by omega))
    clear hR hH hB hu
    by_cases hz : u / 10 = 0
    · obtain ⟨q, hq⟩ : ∃ q, q = j - 1 := ⟨_, rfl⟩
      have hjq : j = q + 1 := by omega
      have hj1 : 1 ≤ (j : Int) := by omega
      have hH2' := hH2
      rw [show cs20 j = cs20 (q + 1) by rw [hjq]] at hH2'
      have hc2 : (wr.setCell ⟨w.heap.size, j, none⟩ (.int .u8 (48 + (u : Int) % 10))).cell? ⟨w.heap.size, j - 1, none⟩ = some (.int .u8 0) := by rw [← hq, blk_cell hH2']; exact cs20_low q _
      have hf2 : (wr.setCell ⟨w.heap.size, j, none⟩ (.int .u8 (48 + (u : Int) % 10))).frozen? ⟨w.heap.size, j - 1, none⟩ = false := blk_frozen hH2 (j - 1)
      have hH3 := blk_set hH2' q (.int .u8 (45 : UInt8).toNat)
      rw [cs20_set, hq, show (((45 : UInt8).toNat : Nat) : Int) = 45 from rfl] at hH3
      have hB3 := below_cell (g := w.heap.size) (j := j - 1) (v := .int .u8 45) hB2 (Nat.le_refl _)
      have hs := slice20 w.heap.size (j - 1) (by omega) ((wr.setCell ⟨w.heap.size, j, none⟩ (.int .u8 (48 + (u : Int) % 10))).setCell ⟨w.heap.size, j - 1, none⟩ (.int .u8 45))
      rw [show ((j - 1 : Nat) : Int) = (j : Int) - 1 by omega] at hs
      have hv := conv20 w.heap.size (j - 1) (45 :: dgt u :: acc) _ (by simp; omega) hH3
      have hd : dg (j + 1) u acc = dgt u :: acc := by unfold dg; rw [if_pos hz]
      have hR := HR.out
      rw [hd] at hR
      rw [hR] at hv
      clear hd hR HR
      have hz1 : ((u : Int) / 10 == 0) = true := by rw [beq_iff_eq]; omega
      have HB := Aside0.mk hB3
      clear hz hH2 hH3 hB2 hB3 hl hH2' hjq hq hi0
      go_wp2
      go_ret
      exact ⟨rfl, HB.out⟩
    · have hd : dg (j + 1) u acc = dg j (u / 10) (dgt u :: acc) := by rw [dg]; rw [if_neg hz]
      have hR := HR.out
      rw [hd] at hR
      clear hd HR
      have HR := Aside0.mk hR
      clear hR hH2 hB2 hl
      have hz1 : ((u : Int) / 10 == 0) = false := by rw [beq_eq_false_iff_ne]; omega
      have Hz := Aside0.mk hz
      have Hi := Aside0.mk hi0
      clear hz hi0
      go_wp2
      go_roundw
      case rel =>
        have hU := HU.out
        have hL := HL.out
        have hz := Hz.out
        have hi := Hi.out
        have h10 : i ≠ 0 := by rintro rfl; subst hi; simp at hU; omega
        refine ⟨j, u / 10, dgt u :: acc, rfl, by simp, by omega, ?_, by simp; omega, HR.out, HH.out, HB.out⟩
        subst hi
        have : 10 ^ (i + 1 + 1 - 1) = 10 ^ (i + 1 - 1) * 10 := Nat.pow_succ 10 i
        omega
      case measure => simp [intOf]
/-- A number's decimal. -/
def textB (n : Int) : ByteArray := if n < 0 then ⟨(45 :: dg 20 n.natAbs []).toArray⟩ else ⟨(dg 20 n.natAbs []).toArray⟩
def num_Text.f (a0 : Int) : Option ByteArray := if -9223372036854775808 ≤ a0 ∧ a0 ≤ 9223372036854775807 then some (textB a0) else none
theorem num_Text.calls (a0 : Int) (r : ByteArray) (w : World) (h : num_Text.f a0 = some r) :
    Calls Try.prog 28 #[.int .i64 a0] w fun e w' => e = .returned (.string r) ∧ Below w.heap.size w w' := by
  unfold num_Text.f at h
  split at h
  · rename_i hb
    obtain rfl := Option.some.inj h
    unfold textB
    by_cases hn : a0 < 0
    · rw [if_pos hn]
      have := text_neg a0.natAbs (by omega) (by omega) w
      rwa [show (-(a0.natAbs : Int)) = a0 by omega] at this
    · rw [if_neg hn]
      have := text_pos a0.natAbs (by omega) w
      rwa [show ((a0.natAbs : Nat) : Int) = a0 by omega] at this
  · cases h
end Go.Proofs.Ytjinfomobjocfaa.X
