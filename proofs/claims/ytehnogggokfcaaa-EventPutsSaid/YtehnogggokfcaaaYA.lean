/- Texts of this claim, joined: EText, Y, EUpper. -/
import Derived.Test.YtehnogggokfcaaaProg
import Derived.Test.YtehnogggokfcaaaWA
import Derived.WalkKit
import Derived.WalkLawsBesides
import Derived.WalkSpells
import Derived.Deep.LoopGhost
import Derived.Laws.BytesArg
import Derived.Deep.OwnRows
import Derived.Laws.IdiomStrings
section
/- The contract of num.Text, walked by hand: the decimal of a number of 64 bits. -/
namespace Go.Proofs.Ytehnogggokfcaaa.X
open Go.RowKit Go.Proofs.YtehnogggokfcaaaW.PrintWords Go.Proofs.YtehnogggokfcaaaW.PrintMore
set_option linter.unusedVariables false
def dgt (u : Nat) : UInt8 := UInt8.ofNat (48 + u % 10)
def dg : Nat → Nat → List UInt8 → List UInt8
  | 0, _, acc => acc
  | f + 1, u, acc => if u / 10 = 0 then dgt u :: acc else dg f (u / 10) (dgt u :: acc)
def cs20 (k : Nat) (acc : List UInt8) : Array Value := (List.replicate k (Value.int .u8 0) ++ acc.map (fun b => Value.int .u8 b.toNat)).toArray
theorem cs20_set (j : Nat) (acc : List UInt8) (b : UInt8) : (cs20 (j + 1) acc).setIfInBounds j (.int .u8 b.toNat) = cs20 j (b :: acc) := by
  unfold cs20
  rw [List.setIfInBounds_toArray]
  congr 1
  rw [List.replicate_succ', List.append_assoc, List.set_append_right _ _ (by simp)]
  simp
theorem cs20_low (j : Nat) (acc : List UInt8) : (cs20 (j + 1) acc)[j]? = some (.int .u8 0) := by
  simp [cs20, List.getElem?_append]
theorem cs20_high (j : Nat) (acc : List UInt8) (i : Nat) (h : i < acc.length) : (cs20 j acc)[j + i]? = some (.int .u8 ((acc.map fun b => (b.toNat : Int)).getD i 0)) := by
  simp [cs20, h]
def Rel (g : Nat) (w : World) (s : Nat) (R : List UInt8) (v4 v5 : Value) (wr : World) : Prop :=
  ∃ (k u : Nat) (acc : List UInt8), v4 = .int .i64 k ∧ v5 = .int .u64 u ∧ s < k ∧ u < 10 ^ (k - s) ∧ acc.length + k = 20 ∧ dg k u acc = R ∧ wr.heap[g]? = some (.cells (cs20 k acc) 62 (0, 0)) ∧ Below w.heap.size w wr
theorem pow_le (k s : Nat) (h : k ≤ 20) : 10 ^ (k - s) ≤ 100000000000000000000 := Nat.le_trans (Nat.pow_le_pow_right (by decide) (by omega)) (show 10 ^ 20 ≤ 100000000000000000000 by decide)
theorem ofNat_dig (u : Nat) : ((dgt u).toNat : Int) = 48 + (u : Int) % 10 := by
  unfold dgt
  rw [UInt8.toNat_ofNat']
  omega
theorem slice20 (g j : Nat) (hj : j < 20) (W : World) : (Instr.sliceAt 62 (.pointer (some ⟨g, 0, none⟩)) (some (.int .i64 (j : Int))) none none).run Try.prog W = .ok (.slice (some ⟨g, j, none⟩) (20 - j) (20 - j)) W := by
  have hl : Try.prog.arrayLen 62 = 20 := by simp [Program.arrayLen, Try.underlying62]
  have he : Try.prog.elem 62 = 5 := by simp [Program.elem, Try.underlying62]
  have h := run_sliceAt_array_l (P := Try.prog) W 62 ⟨g, 0, none⟩ (by rw [hl, he]; exact Try.underlying62) .i64 (j : Int) (by omega) (by rw [hl]; omega)
  rw [h, hl, he]
  have hs : ∀ W : World, (sizeOf 5).run Try.prog W = .ok 1 W := by intro W; kernel_rfl
  rw [hs]
  simp [slicedAt, Result.andThen, Addr.add_lit, show ¬ (20 = j) by omega]
theorem conv20 (g j : Nat) (acc : List UInt8) (W : World) (hl : acc.length + j = 20) (hW : W.heap[g]? = some (.cells (cs20 j acc) 62 (0, 0))) :
    (convert 64 9 (.slice (some ⟨g, j, none⟩) (20 - j) (20 - j))).run Try.prog W = .ok (.string ⟨acc.toArray⟩) W := by
  have h := run_convert_bytes_arg (P := Try.prog) W 64 5 Try.underlying64 Try.underlying5 g j (20 - j) (20 - j) (acc.map fun b => (b.toNat : Int)) (by simp; omega) (fun i hi => by
    rw [blk_cell hW, cs20_high j acc i (by omega)]) 9 Try.underlying9
  rw [h]
  congr 2
  simp [strOfNums, Function.comp_def]
theorem below_cell {w wr : World} {g j : Nat} {v : Value} (h : Below w.heap.size w wr) (hg : w.heap.size ≤ g) : Below w.heap.size w (wr.setCell ⟨g, j, none⟩ v) := h.setCell (by simpa using hg) _
set_option maxHeartbeats 4000000 in
set_option maxRecDepth 100000 in
theorem text_pos (n : Nat) (h1 : (n : Int) ≤ 9223372036854775807) (w : World) :
    Calls Try.prog 17 #[.int .i64 n] w fun e w' => e = .returned (.string ⟨(dg 20 n []).toArray⟩) ∧ Below w.heap.size w w' := by
  have h0 : 0 ≤ (n : Int) := Int.natCast_nonneg n
  go_enter Try.func17, Try.ntmps17
  go_wp2
  go_loopw [4, 5] (fun v4 v5 wr => Rel w.heap.size w 0 (dg 20 n []) v4 v5 wr) (fun v4 _ _ => (intOf v4).toNat)
  case atStart => exact ⟨20, n, [], rfl, rfl, by omega, by have : (10 : Nat) ^ (20 - 0) = 100000000000000000000 := by decide
                                                           omega, rfl, rfl, blk_new w _, below_alloc (Below.refl _ _) _⟩
  case round =>
    obtain ⟨k, u, acc, rfl, rfl, hk, hu, hl, hR, hH, hB⟩ := hrel
    obtain ⟨j, rfl⟩ : ∃ j, k = j + 1 := ⟨k - 1, by omega⟩
    have hc : wr.cell? ⟨w.heap.size, j, none⟩ = some (.int .u8 0) := by rw [blk_cell hH]; exact cs20_low j acc
    have hf : wr.frozen? ⟨w.heap.size, j, none⟩ = false := blk_frozen hH j
    have hj : j < 20 := by omega
    have hH2 := blk_set hH j (.int .u8 (dgt u).toNat)
    rw [cs20_set, ofNat_dig] at hH2
    have hB2 := below_cell (g := w.heap.size) (j := j) (v := .int .u8 (48 + (u : Int) % 10)) hB (Nat.le_refl _)
    have hs := slice20 w.heap.size j hj (wr.setCell ⟨w.heap.size, j, none⟩ (.int .u8 (48 + (u : Int) % 10)))
    have hv := conv20 w.heap.size j (dgt u :: acc) _ (by simp; omega) hH2
    have HR := Aside0.mk hR
    have HH := Aside0.mk hH2
    have HB := Aside0.mk hB2
    have HU := Aside0.mk hu
    have HL := Aside0.mk hl
    have hu64 : u < 100000000000000000000 := Nat.lt_of_lt_of_le hu (pow_le _ _ (by omega))
    clear hR hH hB hu hH2 hB2 hl
    by_cases hz : u / 10 = 0
    · have hd : dg (j + 1) u acc = dgt u :: acc := by unfold dg; rw [if_pos hz]
      have hR := HR.out
      rw [hd] at hR
      clear hd HR
      rw [hR] at hv
      clear hR
      have hz1 : ((u : Int) / 10 == 0) = true := by rw [beq_iff_eq]; omega
      clear hz
      go_wp2
      go_ret
      exact ⟨rfl, HB.out⟩
    · have hd : dg (j + 1) u acc = dg j (u / 10) (dgt u :: acc) := by rw [dg]; rw [if_neg hz]
      have hR := HR.out
      rw [hd] at hR
      clear hd HR
      have HR := Aside0.mk hR
      clear hR
      have hz1 : ((u : Int) / 10 == 0) = false := by rw [beq_eq_false_iff_ne]; omega
      clear hs hv
      have Hz := Aside0.mk hz
      clear hz
      go_wp2
      go_roundw
      case rel =>
        have hU := HU.out
        have hL := HL.out
        have hz := Hz.out
        have h10 : j ≠ 0 := by rintro rfl; simp at hU; omega
        refine ⟨j, u / 10, dgt u :: acc, rfl, by simp, by omega, ?_, by simp; omega, HR.out, HH.out, HB.out⟩
        have : 10 ^ (j + 1 - 0) = 10 ^ (j - 0) * 10 := Nat.pow_succ 10 j
        omega
      case measure => simp [intOf]
theorem wrapneg (m : Nat) (h : m ≤ 9223372036854775808) : IntKind.u64.wrap (-IntKind.u64.wrap (-(m : Int))) = m := by
  simp only [IntKind.wrap, IntKind.bits, IntKind.signed]
  simp
  omega
set_option maxHeartbeats 4000000 in
set_option maxRecDepth 100000 in
theorem text_neg (m : Nat) (h0 : 0 < m) (h1 : m ≤ 9223372036854775808) (w : World) :
    Calls Try.prog 17 #[.int .i64 (-(m : Int))] w fun e w' => e = .returned (.string ⟨(45 :: dg 20 m []).toArray⟩) ∧ Below w.heap.size w w' := by
  have hn : (-(m : Int)) < 0 := by omega
  have hn1 : -9223372036854775808 ≤ (-(m : Int)) := by omega
  go_enter Try.func17, Try.ntmps17
  go_wp2
  go_loopw [4, 5] (fun v4 v5 wr => Rel w.heap.size w 1 (dg 20 m []) v4 v5 wr) (fun v4 _ _ => (intOf v4).toNat)
  case atStart => exact ⟨20, m, [], rfl, by rw [wrapneg m h1], by omega, by have : (10 : Nat) ^ (20 - 1) = 10000000000000000000 := by decide
                                                                            omega, rfl, rfl, blk_new w _, below_alloc (Below.refl _ _) _⟩
  case round =>
    obtain ⟨k, u, acc, rfl, rfl, hk, hu, hl, hR, hH, hB⟩ := hrel
    obtain ⟨j, rfl⟩ : ∃ j, k = j + 1 := ⟨k - 1, by omega⟩
    obtain ⟨i, hi0⟩ : ∃ i, j = i + 1 := ⟨j - 1, by omega⟩
    have hc : wr.cell? ⟨w.heap.size, j, none⟩ = some (.int .u8 0) := by rw [blk_cell hH]; exact cs20_low j acc
    have hf : wr.frozen? ⟨w.heap.size, j, none⟩ = false := blk_frozen hH j
    have hj : j < 20 := by omega
    have hH2 := blk_set hH j (.int .u8 (dgt u).toNat)
    rw [cs20_set, ofNat_dig] at hH2
    have hB2 := below_cell (g := w.heap.size) (j := j) (v := .int .u8 (48 + (u : Int) % 10)) hB (Nat.le_refl _)
    have HR := Aside0.mk hR
    have HH := Aside0.mk hH2
    have HB := Aside0.mk hB2
    have HU := Aside0.mk hu
    have HL := Aside0.mk hl
    have hu64 : u < 100000000000000000000 := Nat.lt_of_lt_of_le hu (pow_le _ _ (by omega))
    clear hR hH hB hu
    by_cases hz : u / 10 = 0
    · obtain ⟨q, hq⟩ : ∃ q, q = j - 1 := ⟨_, rfl⟩
      have hjq : j = q + 1 := by omega
      have hj1 : 1 ≤ (j : Int) := by omega
      have hH2' := hH2
      rw [show cs20 j = cs20 (q + 1) by rw [hjq]] at hH2'
      have hc2 : (wr.setCell ⟨w.heap.size, j, none⟩ (.int .u8 (48 + (u : Int) % 10))).cell? ⟨w.heap.size, j - 1, none⟩ = some (.int .u8 0) := by rw [← hq, blk_cell hH2']; exact cs20_low q _
      have hf2 : (wr.setCell ⟨w.heap.size, j, none⟩ (.int .u8 (48 + (u : Int) % 10))).frozen? ⟨w.heap.size, j - 1, none⟩ = false := blk_frozen hH2 (j - 1)
      have hH3 := blk_set hH2' q (.int .u8 (45 : UInt8).toNat)
      rw [cs20_set, hq, show (((45 : UInt8).toNat : Nat) : Int) = 45 from rfl] at hH3
      have hB3 := below_cell (g := w.heap.size) (j := j - 1) (v := .int .u8 45) hB2 (Nat.le_refl _)
      have hs := slice20 w.heap.size (j - 1) (by omega) ((wr.setCell ⟨w.heap.size, j, none⟩ (.int .u8 (48 + (u : Int) % 10))).setCell ⟨w.heap.size, j - 1, none⟩ (.int .u8 45))
      rw [show ((j - 1 : Nat) : Int) = (j : Int) - 1 by omega] at hs
      have hv := conv20 w.heap.size (j - 1) (45 :: dgt u :: acc) _ (by simp; omega) hH3
      have hd : dg (j + 1) u acc = dgt u :: acc := by unfold dg; rw [if_pos hz]
      have hR := HR.out
      rw [hd] at hR
      rw [hR] at hv
      clear hd hR HR
      have hz1 : ((u : Int) / 10 == 0) = true := by rw [beq_iff_eq]; omega
      have HB := Aside0.mk hB3
      clear hz hH2 hH3 hB2 hB3 hl hH2' hjq hq hi0
      go_wp2
      go_ret
      exact ⟨rfl, HB.out⟩
    · have hd : dg (j + 1) u acc = dg j (u / 10) (dgt u :: acc) := by rw [dg]; rw [if_neg hz]
      have hR := HR.out
      rw [hd] at hR
      clear hd HR
      have HR := Aside0.mk hR
      clear hR hH2 hB2 hl
      have hz1 : ((u : Int) / 10 == 0) = false := by rw [beq_eq_false_iff_ne]; omega
      have Hz := Aside0.mk hz
      have Hi := Aside0.mk hi0
      clear hz hi0
      go_wp2
      go_roundw
      case rel =>
        have hU := HU.out
        have hL := HL.out
        have hz := Hz.out
        have hi := Hi.out
        have h10 : i ≠ 0 := by rintro rfl; subst hi; simp at hU; omega
        refine ⟨j, u / 10, dgt u :: acc, rfl, by simp, by omega, ?_, by simp; omega, HR.out, HH.out, HB.out⟩
        subst hi
        have : 10 ^ (i + 1 + 1 - 1) = 10 ^ (i + 1 - 1) * 10 := Nat.pow_succ 10 i
        omega
      case measure => simp [intOf]
def textB (n : Int) : ByteArray := if n < 0 then ⟨(45 :: dg 20 n.natAbs []).toArray⟩ else ⟨(dg 20 n.natAbs []).toArray⟩
def num_Text.f (a0 : Int) : Option ByteArray := if -9223372036854775808 ≤ a0 ∧ a0 ≤ 9223372036854775807 then some (textB a0) else none
theorem num_Text.calls (a0 : Int) (r : ByteArray) (w : World) (h : num_Text.f a0 = some r) :
    Calls Try.prog 17 #[.int .i64 a0] w fun e w' => e = .returned (.string r) ∧ Below w.heap.size w w' := by
  unfold num_Text.f at h
  split at h
  · rename_i hb
    obtain rfl := Option.some.inj h
    unfold textB
    by_cases hn : a0 < 0
    · rw [if_pos hn]
      have := text_neg a0.natAbs (by omega) (by omega) w
      rwa [show (-(a0.natAbs : Int)) = a0 by omega] at this
    · rw [if_neg hn]
      have := text_pos a0.natAbs (by omega) w
      rwa [show ((a0.natAbs : Nat) : Int) = a0 by omega] at this
  · cases h
end Go.Proofs.Ytehnogggokfcaaa.X
end
section
/- Small laws on functions with a number of rounds ('Ev g r': from some number of rounds on, g comes to r). No program in sight. -/
namespace Go.Proofs.Ytehnogggokfcaaa.Y
open Go.RowKit Go.Proofs.YtehnogggokfcaaaW.PrintWords
set_option linter.unusedVariables false

theorem ev_pos {α : Type} {c : Prop} [Decidable c] {f g : Nat → Option α} {r : α} (h : c) (k : Ev f r) : Ev (fun n => if c then f n else g n) r := by
  obtain ⟨K, k⟩ := k
  exact ⟨K, fun n hn => (if_pos h).trans (k n hn)⟩
theorem ev_neg {α : Type} {c : Prop} [Decidable c] {f g : Nat → Option α} {r : α} (h : ¬ c) (k : Ev g r) : Ev (fun n => if c then f n else g n) r := by
  obtain ⟨K, k⟩ := k
  exact ⟨K, fun n hn => (if_neg h).trans (k n hn)⟩
theorem ev_ite {α : Type} {c : Prop} [Decidable c] {f g : Nat → Option α} {r : α} (h : c → Ev f r) (k : ¬ c → Ev g r) : Ev (fun n => if c then f n else g n) r := by
  by_cases h' : c
  · exact ev_pos h' (h h')
  · exact ev_neg h' (k h')
theorem ev_some {α : Type} {a r : α} (h : a = r) : Ev (fun _ => some a) r := by subst h; exact Ev.now _
theorem ev_bind {α β : Type} {g : Nat → Option α} {f : Nat → α → Option β} {a : α} {r : β} (h : Ev g a) (k : Ev (fun n => f n a) r) : Ev (fun n => (g n).bind (f n)) r := Ev.bind h k
theorem ev_bind0 {α β : Type} {g : Option α} {f : Nat → α → Option β} {a : α} {r : β} (h : g = some a) (k : Ev (fun n => f n a) r) : Ev (fun n => g.bind (f n)) r := by
  subst h
  exact k
theorem ev_round {α : Type} {g : Nat → Option α} {r : α} (k : Ev (fun n => g (n + 1)) r) : Ev g r := Ev.step (fun _ => rfl) k
theorem w64 {i : Int} (h0 : -9223372036854775808 ≤ i) (h : i ≤ 9223372036854775807) : wrap64 i = i := by
  unfold wrap64
  omega
theorem bt_nat (s : ByteArray) (i : Nat) (h : i < s.size) : bt s (i : Int) = ((s.data.toList[i]'(by simpa using h)).toNat : Int) := by
  unfold bt
  simp only [Int.toNat_natCast]
  rw [dif_pos h]
  rfl
theorem rdOf_nat {α : Type} (d : α) (l : List α) (i : Nat) (h : i < l.length) : rdOf d l (i : Int) = l[i] := by
  unfold rdOf
  simp [h]
theorem ba_ext {a b : ByteArray} (h : a.data.toList = b.data.toList) : a = b := by
  cases a; cases b
  simp only [ByteArray.mk.injEq]
  exact Array.toList_inj.1 h
theorem ba_size (s : ByteArray) : s.size = s.data.toList.length := Array.length_toList.symm
theorem ba_toList (s : ByteArray) : s.toList = s.data.toList := by
  have key : ∀ (d i : Nat) (r : List UInt8), i + d = s.size → ByteArray.toList.loop s i r = r.reverse ++ s.data.toList.drop i := by
    intro d
    induction d with
    | zero =>
      intro i r h
      unfold ByteArray.toList.loop
      rw [if_neg (by omega), List.drop_of_length_le (by simp only [Array.length_toList]; have : s.size = s.data.size := rfl; omega)]
      simp
    | succ d ih =>
      intro i r h
      unfold ByteArray.toList.loop
      have hi : i < s.data.size := by have : s.size = s.data.size := rfl; omega
      rw [if_pos (by omega), ih (i + 1) _ (by omega), List.drop_eq_getElem_cons (i := i) (by simpa using hi)]
      have e : s.get! i = s.data.toList[i]'(by simpa using hi) := by
        have h1 : s.get! i = s.data[i]! := rfl
        rw [h1, getElem!_pos s.data i hi, Array.getElem_toList]
      rw [e]
      simp
  unfold ByteArray.toList
  rw [key s.size 0 [] (by omega)]
  simp
theorem strOf_data (l : List Int) : (strOfNums l).data.toList = l.map fun n => UInt8.ofNat n.toNat := by simp [strOfNums]
theorem ba_append (a b : ByteArray) : (a ++ b).data.toList = a.data.toList ++ b.data.toList := by rw [ByteArray.data_append, Array.toList_append]
theorem ba_extract (a : ByteArray) (i j : Nat) : (a.extract i j).data.toList = (a.data.toList.drop i).take (j - i) := by simp [ByteArray.data_extract]
end Go.Proofs.Ytehnogggokfcaaa.Y
end
section
/- The contract of table.Upper, walked by hand: small letters of a to z become great ones. -/
namespace Go.Proofs.Ytehnogggokfcaaa.X
open Go.RowKit Go.Proofs.YtehnogggokfcaaaW.PrintWords Go.Proofs.YtehnogggokfcaaaW.PrintMore Go.Proofs.YtehnogggokfcaaaW.PrintLast
set_option linter.unusedVariables false
set_option linter.unusedSimpArgs false
def upC (c : UInt8) : UInt8 := if 97 ≤ c.toNat ∧ c.toNat ≤ 122 then UInt8.ofNat (c.toNat - 32) else c
def cellsU (l : List UInt8) (pad : Nat) : Array Value := ((l.map fun b : UInt8 => Value.int .u8 b.toNat) ++ List.replicate pad (Value.int .u8 0)).toArray
theorem cellsU_row (s : ByteArray) (cap : Nat) : bytesRow s cap = cellsU s.data.toList (cap - s.size) := by
  unfold bytesRow cellsU
  apply Array.toList_inj.1
  simp
theorem cellsU_size (l : List UInt8) (pad : Nat) : (cellsU l pad).size = l.length + pad := by simp [cellsU]
theorem cellsU_at (l : List UInt8) (pad i : Nat) (h : i < l.length) : (cellsU l pad)[i]? = some (.int .u8 (l[i].toNat : Int)) := by
  simp [cellsU, List.getElem?_append, h]
theorem cellsU_get (l : List UInt8) (pad i : Nat) (h : i < l.length) : (cellsU l pad)[i]? = some (.int .u8 ((l.map fun b => (b.toNat : Int)).getD i 0)) := by
  rw [cellsU_at l pad i h]
  simp [h]
theorem cellsU_set (l : List UInt8) (pad i : Nat) (b : UInt8) (h : i < l.length) : (cellsU l pad).setIfInBounds i (.int .u8 b.toNat) = cellsU (l.set i b) pad := by
  unfold cellsU
  rw [List.setIfInBounds_toArray, List.set_append_left _ _ (by simpa using h), List.map_set]
def turnU (l : List UInt8) (i : Nat) : List UInt8 := (l.take i).map upC ++ l.drop i
theorem turnU_len (l : List UInt8) (i : Nat) (h : i ≤ l.length) : (turnU l i).length = l.length := by simp [turnU]; omega
theorem turnU_at (l : List UInt8) (i : Nat) (h : i < l.length) : (turnU l i)[i]? = some l[i] := by
  unfold turnU
  rw [List.getElem?_append_right (by simp; omega)]
  have e : i - ((l.take i).map upC).length = 0 := by simp; omega
  rw [e]
  simp [h]
theorem turnU_next (l : List UInt8) (i : Nat) (h : i < l.length) : (turnU l i).set i (upC l[i]) = turnU l (i + 1) := by
  unfold turnU
  rw [List.set_append_right _ _ (by simp; omega)]
  have e : i - (List.map upC (List.take i l)).length = 0 := by simp; omega
  rw [e, List.drop_eq_getElem_cons h, List.set_cons_zero, List.take_succ_eq_append_getElem h, List.map_append]
  simp
theorem turnU_end (l : List UInt8) : turnU l l.length = l.map upC := by simp [turnU]
theorem turnU_zero (l : List UInt8) : turnU l 0 = l := by simp [turnU]
theorem mblk_set {w : World} {g : Nat} {t : TypeId} {cs : Array Value} {fr : Nat × Nat} (h : w.heap[g]? = some (.cells cs t fr)) (i : Nat) (u : Value) : (w.setCell ⟨g, i, none⟩ u).heap[g]? = some (.cells (cs.setIfInBounds i u) t fr) := by
  simp [World.setCell, Array.getElem?_modify, h]
theorem mblk_frozen {w : World} {g : Nat} {t : TypeId} {cs : Array Value} {m : Nat} (h : w.heap[g]? = some (.cells cs t (m, m + 1))) (i : Nat) (hi : i < m) : w.frozen? ⟨g, i, none⟩ = false := by
  simp [World.frozen?, h]; omega
theorem below_cellU {w wr : World} {g j : Nat} {v : Value} (h : Below w.heap.size w wr) (hg : w.heap.size ≤ g) : Below w.heap.size w (wr.setCell ⟨g, j, none⟩ v) := h.setCell (by simpa using hg) _
def RelU (g : Nat) (w : World) (l : List UInt8) (pad : Nat) (v10 : Value) (wr : World) : Prop :=
  ∃ i : Nat, v10 = .int .i64 i ∧ i ≤ l.length ∧ wr.heap[g]? = some (.cells (cellsU (turnU l i) pad) 5 (l.length + pad, l.length + pad + 1)) ∧ Below w.heap.size w wr
theorem upC_low (c : UInt8) (h : 97 ≤ c.toNat) (h2 : c.toNat ≤ 122) : ((upC c).toNat : Int) = IntKind.u8.wrap (IntKind.u8.wrap ((c.toNat : Int) - 97) + 65) := by
  unfold upC
  rw [if_pos ⟨h, h2⟩, UInt8.toNat_ofNat', IntKind.wrap_u8, IntKind.wrap_u8]
  omega
theorem conv_U (W : World) (g : Nat) (l : List UInt8) (pad n c : Nat) (fr : Nat × Nat) (hn : l.length = n) (hW : W.heap[g]? = some (.cells (cellsU l pad) 5 fr)) :
    (convert 64 9 (.slice (some ⟨g, 0, none⟩) n c)).run Try.prog W = .ok (.string ⟨l.toArray⟩) W := by
  have h := run_convert_bytes_arg (P := Try.prog) W 64 5 Try.underlying64 Try.underlying5 g 0 n c (l.map fun b => (b.toNat : Int)) (by simpa using hn) (fun i hi => by
    rw [Nat.zero_add]
    exact (cell_of_row W g i _ _ _ hW).trans (cellsU_get l pad i (by omega))) 9 Try.underlying9
  rw [h]
  congr 2
  simp [strOfNums, Function.comp_def]
set_option maxHeartbeats 4000000 in
set_option maxRecDepth 100000 in
theorem upper_calls (s : ByteArray) (hs : s.size ≤ 140737488351232) (w : World) :
    Calls Try.prog 26 #[.string s] w fun e w' => e = .returned (.string ⟨(s.data.toList.map upC).toArray⟩) ∧ Below w.heap.size w w' := by
  have hl : s.size = s.data.toList.length := Array.length_toList.symm
  obtain ⟨l, hll⟩ : ∃ l, l = s.data.toList := ⟨_, rfl⟩
  have hm := run_bytes_of_string (P := Try.prog) w 9 64 5 s Try.underlying9 Try.underlying64 Try.underlying5
  rw [cellsU_row, ← hll, cellsU_size] at hm
  rw [← hll] at hl
  obtain ⟨cp, hcp⟩ : ∃ c, c = grownCap w s.size 0 5 := ⟨_, rfl⟩
  obtain ⟨pad, hpad⟩ : ∃ p, p = cp - s.size := ⟨_, rfl⟩
  rw [← hcp, ← hpad] at hm
  rw [← hll]
  have hH := blk_new w.drew (.cells (cellsU l pad) 5 (l.length + pad, l.length + pad + 1))
  have hBd : Below w.heap.size w w.drew := ⟨rfl, rfl, rfl, Nat.le_refl _, fun _ _ => rfl⟩
  have hB := below_alloc hBd (.cells (cellsU l pad) 5 (l.length + pad, l.length + pad + 1))
  rw [hl] at hm hs
  have HH := Aside0.mk hH
  have HB := Aside0.mk hB
  clear hH hB hBd hcp hpad hll hl
  go_enter Try.func26, Try.ntmps26
  go_wp2
  go_loopw [10] (fun v10 wr => RelU w.heap.size w l pad v10 wr) (fun v10 _ => (l.length : Int).toNat - (intOf v10).toNat)
  case atStart => exact ⟨0, rfl, by omega, by rw [turnU_zero]; exact HH.out, HB.out⟩
  case round =>
    clear hm HH HB
    obtain ⟨i, rfl, hi, hW, hB⟩ := hrel
    have HW := Aside0.mk hW
    have HB := Aside0.mk hB
    by_cases hlt : i < l.length
    · have hc1 : decide ((i : Int) < (l.length : Int)) = true := decide_eq_true (by omega)
      have hc2 : decide (i < l.length) = true := decide_eq_true hlt
      obtain ⟨c, hc⟩ : ∃ c, c = l[i] := ⟨_, rfl⟩
      have hcell : wr.cell? ⟨w.heap.size, i, none⟩ = some (.int .u8 (c.toNat : Int)) := by
        rw [cell_of_row wr w.heap.size i _ _ _ hW, cellsU_at _ pad i (by rw [turnU_len l i hi]; exact hlt)]
        have := turnU_at l i hlt
        rw [List.getElem?_eq_getElem (by rw [turnU_len l i hi]; exact hlt)] at this
        rw [Option.some.inj this, hc]
      have hfro : wr.frozen? ⟨w.heap.size, i, none⟩ = false := mblk_frozen hW i (by omega)
      have hnext := turnU_next l i hlt
      rw [← hc] at hnext
      by_cases h1 : 97 ≤ c.toNat ∧ c.toNat ≤ 122
      · have d1 : decide (97 ≤ (c.toNat : Int)) = true := decide_eq_true (by omega)
        have d2 : decide ((c.toNat : Int) ≤ 122) = true := decide_eq_true (by omega)
        have d3 : decide (97 ≤ c.toNat) = true := decide_eq_true h1.1
        have d4 : decide (c.toNat ≤ 122) = true := decide_eq_true h1.2
        have hv := upC_low c h1.1 h1.2
        obtain ⟨V, hV⟩ : ∃ V : Int, V = ((upC c).toNat : Int) := ⟨_, rfl⟩
        rw [← hV] at hv
        have hW2 := mblk_set hW i (.int .u8 V)
        rw [hV, cellsU_set _ pad i (upC c) (by rw [turnU_len l i hi]; exact hlt), hnext, ← hV] at hW2
        have hB2 := below_cellU (g := w.heap.size) (j := i) (v := .int .u8 V) hB (Nat.le_refl _)
        obtain ⟨U, hU⟩ : ∃ U : Int, U = IntKind.u8.wrap ((c.toNat : Int) - 97) := ⟨_, rfl⟩
        rw [← hU] at hv
        have hU' := hU.symm
        have hv' := hv.symm
        have HW2 := Aside0.mk hW2
        have HB2 := Aside0.mk hB2
        have Hc := Aside0.mk hc
        have H1 := Aside0.mk h1
        clear hW hB hW2 hB2 hV hv hU hc hnext h1
        obtain ⟨C, hC⟩ : ∃ C : Int, C = (c.toNat : Int) := ⟨_, rfl⟩
        rw [← hC] at hcell d1 d2 hU'
        have d5 := eq_true (of_decide_eq_true d1)
        clear hC d3 d4
        go_wp2
        go_roundw
        case rel => exact ⟨i + 1, by simp, by omega, HW2.out, HB2.out⟩
        case measure => simp [intOf]; omega
      · have hup : upC c = c := by unfold upC; rw [if_neg h1]
        have hsame : turnU l i = turnU l (i + 1) := by
          rw [← hnext, hup, hc]
          apply List.ext_getElem?
          intro j
          by_cases hj : i = j
          · subst hj
            rw [turnU_at l i hlt, List.getElem?_set_self (by rw [turnU_len l i hi]; exact hlt)]
          · rw [List.getElem?_set_ne hj]
        rw [hsame] at hW
        have HW2 := Aside0.mk hW
        obtain ⟨C, hC⟩ : ∃ C : Int, C = (c.toNat : Int) := ⟨_, rfl⟩
        rw [← hC] at hcell
        by_cases h2 : 97 ≤ c.toNat
        · have d1 : decide (97 ≤ C) = true := decide_eq_true (by omega)
          have d2 : decide (C ≤ 122) = false := decide_eq_false (by omega)
          clear hW hB hnext h1 h2 hC hc hup hsame
          go_wp2
          go_roundw
          case rel => exact ⟨i + 1, by simp, by omega, HW2.out, HB.out⟩
          case measure => simp [intOf]; omega
        · have d1 : decide (97 ≤ C) = false := decide_eq_false (by omega)
          clear hW hB hnext h1 h2 hC hc hup hsame
          go_wp2
          go_roundw
          case rel => exact ⟨i + 1, by simp, by omega, HW2.out, HB.out⟩
          case measure => simp [intOf]; omega
    · have hc1 : decide ((i : Int) < (l.length : Int)) = false := decide_eq_false (by omega)
      have hc2 : decide (i < l.length) = false := decide_eq_false hlt
      have hie : i = l.length := by omega
      have hW' := hW
      rw [hie, turnU_end] at hW'
      have hv := conv_U wr w.heap.size (l.map upC) pad l.length cp _ (by simp) hW'
      clear hW hW' hB hlt hie
      go_wp2
      go_ret
      exact ⟨rfl, HB.out⟩
def table_Upper.f (a0 : ByteArray) : Option ByteArray := if a0.size ≤ 140737488351232 then some ⟨(a0.data.toList.map upC).toArray⟩ else none
theorem table_Upper.calls (a0 r : ByteArray) (w : World) (h : table_Upper.f a0 = some r) :
    Calls Try.prog 26 #[.string a0] w fun e w' => e = .returned (.string r) ∧ Below w.heap.size w w' := by
  unfold table_Upper.f at h
  by_cases hs : a0.size ≤ 140737488351232
  · rw [if_pos hs] at h
    simp only [Option.some.injEq] at h
    subst h
    exact upper_calls a0 hs w
  · rw [if_neg hs] at h; cases h
end Go.Proofs.Ytehnogggokfcaaa.X
end
