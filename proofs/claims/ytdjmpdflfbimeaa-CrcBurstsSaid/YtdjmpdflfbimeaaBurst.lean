/- The contract of the statement CrcBursts, walked by hand: '[]byte(s)', a loop that turns bits in it, and back. -/
import Derived.Test.YtdjmpdflfbimeaaX3
import Derived.Test.YtdjmpdflfbimeaaX2
import Derived.Test.YtdjmpdflfbimeaaX1
import Derived.Test.YtdjmpdflfbimeaaWWords
import Derived.Test.YtdjmpdflfbimeaaWMore
import Derived.Test.YtdjmpdflfbimeaaWLast
import Derived.WalkKit
import Derived.WalkLawsBesides
import Derived.WalkSpells
import Derived.Laws.IdiomStrings
import Derived.Laws.BytesArg
import Derived.RegionTactic
import Derived.ChangeAlike
namespace Go.Proofs.Ytdjmpdflfbimeaa.X
open Go.RowKit Go.Proofs.YtdjmpdflfbimeaaW.PrintWords Go.Proofs.YtdjmpdflfbimeaaW.PrintMore Go.Proofs.YtdjmpdflfbimeaaW.PrintLast
set_option linter.unusedVariables false
set_option linter.unusedSimpArgs false
/-- A row of bytes as '[]byte(s)' lays it: behind the bytes there may be room. -/
def RowB (W : World) (g : Nat) (l : List UInt8) : Prop := ∃ C : Array Value, W.heap[g]? = some (.cells C 5 (C.size, C.size + 1)) ∧ l.length ≤ C.size ∧ ∀ i (h : i < l.length), C[i]? = some (.int .u8 (l[i].toNat : Int))
theorem rowB_cell {W : World} {g : Nat} {l : List UInt8} (h : RowB W g l) (i : Nat) (hi : i < l.length) : W.cell? ⟨g, i, none⟩ = some (.int .u8 (l[i].toNat : Int)) := by
  obtain ⟨C, hC, hl, hv⟩ := h
  rw [cell_of_row W g i C 5 _ hC]
  exact hv i hi
theorem rowB_frozen {W : World} {g : Nat} {l : List UInt8} (h : RowB W g l) (i : Nat) (hi : i < l.length) : W.frozen? ⟨g, i, none⟩ = false := by
  obtain ⟨C, hC, hl, hv⟩ := h
  simp [World.frozen?, hC]
  omega
theorem rowB_set {W : World} {g : Nat} {l : List UInt8} (h : RowB W g l) (i : Nat) (x : UInt8) : RowB (W.setCell ⟨g, i, none⟩ (.int .u8 (x.toNat : Int))) g (l.set i x) := by
  obtain ⟨C, hC, hl, hv⟩ := h
  refine ⟨C.setIfInBounds i (.int .u8 (x.toNat : Int)), ?_, by simpa using hl, fun j hj => ?_⟩
  · simp [World.setCell, Array.getElem?_modify, hC]
  · have hj2 : j < l.length := by simpa using hj
    rw [Array.getElem?_setIfInBounds, List.getElem_set]
    by_cases e : i = j
    · subst e
      rw [if_pos rfl, if_pos (by omega), if_pos rfl]
    · rw [if_neg e, if_neg e]
      exact hv j hj2
theorem rowB_conv {W : World} {g : Nat} {l : List UInt8} (h : RowB W g l) (c n : Nat) (hn : l.length = n) : (convert 34 9 (.slice (some ⟨g, 0, none⟩) n c)).run Try.prog W = .ok (.string ⟨l.toArray⟩) W := by
  have h := run_convert_bytes_arg (P := Try.prog) W 34 5 Try.underlying34 Try.underlying5 g 0 n c (l.map fun b => (b.toNat : Int)) (by simpa using hn) (fun i hi => by
    rw [Nat.zero_add, rowB_cell h i (by omega)]
    congr 2
    simp [show i < l.length by omega]) 9 Try.underlying9
  rw [h]
  congr 2
  simp [strOfNums, Function.comp_def]
theorem rowB_new (w : World) (t : ByteArray) : ∃ (c : Nat) (W : World), (convert 9 34 (.string t)).run Try.prog w = .ok (.slice (some ⟨w.heap.size, 0, none⟩) t.size c) W ∧ RowB W w.heap.size t.data.toList ∧ Below w.heap.size w W := by
  refine ⟨_, _, run_bytes_of_string (P := Try.prog) w 9 34 5 t Try.underlying9 Try.underlying34 Try.underlying5, ⟨_, blk_new _ _, ?_, fun i hi => ?_⟩, ?_⟩
  · simp [bytesRow]
  · have h1 : i < t.data.size := by simpa using hi
    have h2 : i < t.size := h1
    simp [bytesRow, Array.getElem?_append, h1, h2]
  · exact Below.alloc (below_drew (Below.refl _ _)) (Nat.le_refl _) _
/-- A bit turned, and more of them. -/
def flipB (l : List UInt8) (j : Nat) : List UInt8 := l.set (j / 8) (UInt8.ofNat ((l.getD (j / 8) 0).toNat ^^^ 2 ^ (j % 8)))
def flips (l : List UInt8) (at_ mask : Nat) : Nat → List UInt8
  | 0 => l
  | n + 1 => if mask / 2 ^ n % 2 = 1 then flipB (flips l at_ mask n) (at_ + n) else flips l at_ mask n
def fromN (a1 : Int) (n : Nat) : Nat := ((IntKind.u64.wrap a1) % ((8 * n - 31 : Nat) : Int)).toNat
def mewslaw14_CrcBursts.f (k : Nat) (a0 : ByteArray) (a1 a2 : Int) : Option Bool :=
  if a2 < 0 ∨ 4294967296 ≤ a2 then none else (mewslaw14_far.f k [a0]).bind fun fb => if fb = true ∨ a2 = 0 then mewslaw14_alive.f k else
    (crc_Seal.f k a0).bind fun t => if t.size < 4 then some false else if 100000000 < t.size then none else
      (crc_Fits.f k ⟨(flips t.data.toList (fromN a1 t.size) a2.toNat 32).toArray⟩).bind fun b => if b = true then some false else mewslaw14_alive.f k
theorem below_go {w W W2 : World} {n : Nat} (h : Below w.heap.size w W) (k : Below (W.drewN n).heap.size (W.drewN n) W2) : Below w.heap.size w W2 := below_then (pw_below_drewN h n) h.size k
set_option maxHeartbeats 4000000 in
set_option maxRecDepth 100000 in
theorem burst_away (k : Nat) (a0 : ByteArray) (a1 a2 : Int) (fb : Bool) (w : World) (hf : mewslaw14_far.f k [a0] = some fb) (hfb : fb = true ∨ a2 = 0) (ha : mewslaw14_alive.f k = some true) :
    Calls Try.prog 5 #[.string a0, .int .i64 a1, .int .u32 a2] w fun e w' => e = .returned (.bool true) ∧ Below w.heap.size w w' := by
  obtain ⟨y, hy⟩ : ∃ y_ : List ByteArray, y_ = [a0] := ⟨_, rfl⟩
  rw [← hy] at hf
  have Ny := Aside0.mk hy
  have HF := Aside0.mk hf
  have HAL := Aside0.mk ha
  clear hy hf ha
  cases fb with
  | true =>
    clear hfb
    go_enter Try.func5, Try.ntmps5
    go_wp2_with (first | ((with_reducible refine gate_dst (N := 12) rfl ?_); (try (refine gate_guard (by rfl) ?_; dsimp only)); refine Kd.R_lit Kd.string _ 9 ?hg (N := 12) ?hd (xs := ([a0] : List ByteArray)) (inner := [.string a0]) (ok := fun _ => True) (okp := fun _ => True) ?hr ?hp (fun _ hk => hk) trivial (Below.refl _ _) (Nat.le_refl _) (by simp) ?_; (case hd => rfl); (case hg => rfl); (case hr => first | (go_simp; done) | (go_simp; rfl)); (case hp => exact (Reps.one (show Kd.M Kd.string _ _ _ a0 [.string a0] from rfl) (Reps.none _ _))); intro v127 w7 ho8 hb hg_ hnew_; clear hg_ hnew_; (first | rw [← Ny.out] at ho8 | (simp only [Int.reduceToNat] at ho8; rw [← Ny.out] at ho8)); have HO := Aside0.mk ho8; have HB := Aside0.mk hb; clear hb ho8; obtain ⟨Ao9, co9, eo9⟩ := Kd.R_slice HO.out; subst eo9) | ((with_reducible refine gate_callee (f := 6) rfl ?_); refine goesL_ (some 13) rfl rfl Try.func6 (by kernel_rfl) rfl #[.slice Ao9 y.length co9] rfl (by (try simp only [List.map_toArray, List.map_cons, List.map_nil]); first | done | rfl | (simp only [List.length_drop, List.length_take]; rfl)) ?_; (with_reducible refine (mewslaw14_far.calls k _ _ y true _ ?side1 ?side2 HF.out).mono ?_); (case side1 => repeat (first | exact (Kd.R_reads' HO.out).2.2 | (with_reducible refine Kd.C_alloc ?_ _) | (with_reducible refine Kd.C_drewN ?_ _) | (with_reducible refine Kd.C_drew ?_))); (case side2 => exact (Kd.R_reads' HO.out).2.1); rintro e w' ⟨rfl, ⟨nd, rfl⟩⟩; refine ⟨_, rfl, ?_⟩) | ((with_reducible refine gate_callee (f := 7) rfl ?_); refine goesL_ (some 18) rfl rfl Try.func7 (by kernel_rfl) rfl #[] rfl (by (try simp only [List.map_toArray, List.map_cons, List.map_nil]); first | done | rfl | (simp only [List.length_drop, List.length_take]; rfl)) ?_; (with_reducible refine (mewslaw14_alive.calls k true _ HAL.out).mono ?_); rintro e w10 ⟨rfl, hb⟩; refine ⟨_, rfl, ?_⟩; have HB2 := Aside0.mk (below_go HB.out hb); clear hb))
    go_ret
    exact ⟨rfl, HB2.out⟩
  | false =>
    have h0 : a2 = 0 := by simpa using hfb
    subst h0
    clear hfb
    go_enter Try.func5, Try.ntmps5
    go_wp2_with (first | ((with_reducible refine gate_dst (N := 12) rfl ?_); (try (refine gate_guard (by rfl) ?_; dsimp only)); refine Kd.R_lit Kd.string _ 9 ?hg (N := 12) ?hd (xs := ([a0] : List ByteArray)) (inner := [.string a0]) (ok := fun _ => True) (okp := fun _ => True) ?hr ?hp (fun _ hk => hk) trivial (Below.refl _ _) (Nat.le_refl _) (by simp) ?_; (case hd => rfl); (case hg => rfl); (case hr => first | (go_simp; done) | (go_simp; rfl)); (case hp => exact (Reps.one (show Kd.M Kd.string _ _ _ a0 [.string a0] from rfl) (Reps.none _ _))); intro v127 w7 ho8 hb hg_ hnew_; clear hg_ hnew_; (first | rw [← Ny.out] at ho8 | (simp only [Int.reduceToNat] at ho8; rw [← Ny.out] at ho8)); have HO := Aside0.mk ho8; have HB := Aside0.mk hb; clear hb ho8; obtain ⟨Ao9, co9, eo9⟩ := Kd.R_slice HO.out; subst eo9) | ((with_reducible refine gate_callee (f := 6) rfl ?_); refine goesL_ (some 13) rfl rfl Try.func6 (by kernel_rfl) rfl #[.slice Ao9 y.length co9] rfl (by (try simp only [List.map_toArray, List.map_cons, List.map_nil]); first | done | rfl | (simp only [List.length_drop, List.length_take]; rfl)) ?_; (with_reducible refine (mewslaw14_far.calls k _ _ y false _ ?side1 ?side2 HF.out).mono ?_); (case side1 => repeat (first | exact (Kd.R_reads' HO.out).2.2 | (with_reducible refine Kd.C_alloc ?_ _) | (with_reducible refine Kd.C_drewN ?_ _) | (with_reducible refine Kd.C_drew ?_))); (case side2 => exact (Kd.R_reads' HO.out).2.1); rintro e w' ⟨rfl, ⟨nd, rfl⟩⟩; refine ⟨_, rfl, ?_⟩) | ((with_reducible refine gate_callee (f := 7) rfl ?_); refine goesL_ (some 18) rfl rfl Try.func7 (by kernel_rfl) rfl #[] rfl (by (try simp only [List.map_toArray, List.map_cons, List.map_nil]); first | done | rfl | (simp only [List.length_drop, List.length_take]; rfl)) ?_; (with_reducible refine (mewslaw14_alive.calls k true _ HAL.out).mono ?_); rintro e w10 ⟨rfl, hb⟩; refine ⟨_, rfl, ?_⟩; have HB2 := Aside0.mk (below_go HB.out hb); clear hb))
    go_ret
    exact ⟨rfl, HB2.out⟩
theorem below_at {w W : World} {g : Nat} (h : Below w.heap.size w W) (hg : w.heap.size ≤ g) (q : Nat) (v : Value) : Below w.heap.size w (W.setCell ⟨g, q, none⟩ v) := h.setCell (by simpa using hg) _
theorem u64_range (a1 : Int) : 0 ≤ IntKind.u64.wrap a1 := by
  simp only [IntKind.wrap, IntKind.bits, IntKind.signed]
  simp
  omega
theorem u64_id (B : Int) (h0 : 0 ≤ B) (h1 : B ≤ 1000000000) : IntKind.u64.wrap B = B := by
  simp only [IntKind.wrap, IntKind.bits, IntKind.signed]
  simp
  omega
theorem w_id (B : Int) (h0 : -1000000000 ≤ B) (h1 : B ≤ 1000000000) : wrap64 B = B := by
  unfold wrap64
  omega
theorem burst_nums (a1 : Int) (n : Nat) (h4 : 4 ≤ n) (hbig : n ≤ 100000000) : ∃ (A B U : Int) (fr : Nat), IntKind.u64.wrap a1 = U ∧ fr = fromN a1 n ∧ wrap64 (8 * (n : Int)) = A ∧ wrap64 (A - 31) = B ∧ IntKind.u64.wrap B = B ∧ (B == 0) = false ∧ decide (B = 0) = false ∧ ¬ B = 0 ∧
    Int.tmod U B = (fr : Int) ∧ wrap64 (fr : Int) = (fr : Int) ∧ IntKind.i64.wrap (fr : Int) = (fr : Int) ∧ fr + 31 < 8 * n := by
  have hB0 : (1 : Int) ≤ 8 * (n : Int) - 31 := by omega
  have hB1 : 8 * (n : Int) - 31 ≤ 1000000000 := by omega
  have hU0 := u64_range a1
  have hfr : ((fromN a1 n : Nat) : Int) = IntKind.u64.wrap a1 % (8 * (n : Int) - 31) := by
    unfold fromN
    rw [show ((8 * n - 31 : Nat) : Int) = 8 * (n : Int) - 31 by omega]
    exact Int.toNat_of_nonneg (Int.emod_nonneg _ (by omega))
  have hlt : ((fromN a1 n : Nat) : Int) < 8 * (n : Int) - 31 := by
    rw [hfr]
    exact Int.emod_lt_of_pos _ (by omega)
  have ht : Int.tmod (IntKind.u64.wrap a1) (8 * (n : Int) - 31) = ((fromN a1 n : Nat) : Int) := by rw [Int.tmod_eq_emod_of_nonneg hU0, hfr]
  generalize hu : IntKind.u64.wrap a1 = U at ht
  generalize hq : fromN a1 n = q at hlt ht
  clear hfr hU0
  refine ⟨8 * (n : Int), 8 * (n : Int) - 31, U, q, rfl, hq.symm ▸ rfl, w_id _ (by omega) (by omega), w_id _ (by omega) (by omega), u64_id _ (by omega) hB1, ?_, ?_, by omega, ht, w_id _ (by omega) (by omega), ?_, by omega⟩
  · rw [beq_eq_false_iff_ne]; omega
  · exact decide_eq_false (by omega)
  · rw [i64_w]; exact w_id _ (by omega) (by omega)
theorem flips_length (l : List UInt8) (f m : Nat) : ∀ n, (flips l f m n).length = l.length
  | 0 => rfl
  | n + 1 => by
    rw [flips]
    split
    · rw [flipB, List.length_set, flips_length l f m n]
    · exact flips_length l f m n
theorem and_one32 (y : Nat) (h : y < 4294967296) : Go.bits .and .u32 (y : Int) 1 = ((y % 2 : Nat) : Int) := by
  have := u32_and (y : Int) 1 (by omega) (by omega) (by omega) (by omega)
  rw [this, Int.toNat_natCast]
  show ((y &&& 1 : Nat) : Int) = _
  rw [Nat.and_one_is_mod]
theorem xor8 : ∀ m : Fin 8, ∀ b : Fin 256, Go.bits .xor .u8 (b.val : Int) ((2 ^ m.val : Nat) : Int) = ((UInt8.ofNat (b.val ^^^ 2 ^ m.val)).toNat : Int) := by decide +kernel
theorem pow8 : ∀ m : Fin 8, IntKind.u8.wrap ((2 ^ m.val : Nat) : Int) = ((2 ^ m.val : Nat) : Int) := by decide
set_option maxHeartbeats 4000000 in
set_option maxRecDepth 100000 in
theorem burst_main (k : Nat) (a0 t : ByteArray) (a1 a2 : Int) (w : World) (hz : a2 ≠ 0) (hm : 0 ≤ a2 ∧ a2 < 4294967296) (hf : mewslaw14_far.f k [a0] = some false) (hs : crc_Seal.f k a0 = some t) (h4 : 4 ≤ t.size) (hbig : t.size ≤ 100000000)
    (hfit : crc_Fits.f k ⟨(flips t.data.toList (fromN a1 t.size) a2.toNat 32).toArray⟩ = some false) (ha : mewslaw14_alive.f k = some true) :
    Calls Try.prog 5 #[.string a0, .int .i64 a1, .int .u32 a2] w fun e w' => e = .returned (.bool true) ∧ Below w.heap.size w w' := by
  obtain ⟨y, hy⟩ : ∃ y_ : List ByteArray, y_ = [a0] := ⟨_, rfl⟩
  rw [← hy] at hf
  have Ny := Aside0.mk hy
  have HF := Aside0.mk hf
  have HS := Aside0.mk hs
  have HAL := Aside0.mk ha
  have HFIT := Aside0.mk hfit
  have Hm := Aside0.mk hm
  have Hbig := Aside0.mk hbig
  have H4 := Aside0.mk h4
  have c1 : (a2 == 0) = false := beq_eq_false_iff_ne.2 hz
  have c2 : decide ((t.size : Int) < 4) = false := decide_eq_false (by omega)
  have c3 : decide (t.size < 4) = false := decide_eq_false (by omega)
  have hlen : Aside0 (t.size = t.data.toList.length) := ⟨Array.length_toList.symm⟩
  obtain ⟨A, B, U, fr, hU, hfr, e1, e2, e3, e4, e4', e4n, e5, e6, e6', hfr4⟩ := burst_nums a1 t.size h4 hbig
  have Hfr := Aside0.mk hfr4
  rw [← hfr] at HFIT
  clear hy hf ha hs hfit hz hm hbig h4 hfr hfr4
  go_enter Try.func5, Try.ntmps5
  go_wp2_with (first | ((with_reducible refine gate_dst (N := 12) rfl ?_); (try (refine gate_guard (by rfl) ?_; dsimp only)); refine Kd.R_lit Kd.string _ 9 ?hg (N := 12) ?hd (xs := ([a0] : List ByteArray)) (inner := [.string a0]) (ok := fun _ => True) (okp := fun _ => True) ?hr ?hp (fun _ hk => hk) trivial (Below.refl _ _) (Nat.le_refl _) (by simp) ?_; (case hd => rfl); (case hg => rfl); (case hr => first | (go_simp; done) | (go_simp; rfl)); (case hp => exact (Reps.one (show Kd.M Kd.string _ _ _ a0 [.string a0] from rfl) (Reps.none _ _))); intro v127 w7 ho8 hb hg_ hnew_; clear hg_ hnew_; (first | rw [← Ny.out] at ho8 | (simp only [Int.reduceToNat] at ho8; rw [← Ny.out] at ho8)); have HO := Aside0.mk ho8; have HB := Aside0.mk hb; clear hb ho8; obtain ⟨Ao9, co9, eo9⟩ := Kd.R_slice HO.out; subst eo9) | ((with_reducible refine gate_callee (f := 6) rfl ?_); refine goesL_ (some 13) rfl rfl Try.func6 (by kernel_rfl) rfl #[.slice Ao9 y.length co9] rfl (by (try simp only [List.map_toArray, List.map_cons, List.map_nil]); first | done | rfl | (simp only [List.length_drop, List.length_take]; rfl)) ?_; (with_reducible refine (mewslaw14_far.calls k _ _ y false _ ?side1 ?side2 HF.out).mono ?_); (case side1 => repeat (first | exact (Kd.R_reads' HO.out).2.2 | (with_reducible refine Kd.C_alloc ?_ _) | (with_reducible refine Kd.C_drewN ?_ _) | (with_reducible refine Kd.C_drew ?_))); (case side2 => exact (Kd.R_reads' HO.out).2.1); rintro e w' ⟨rfl, ⟨nd, rfl⟩⟩; refine ⟨_, rfl, ?_⟩) | ((with_reducible refine gate_callee (f := 15) rfl ?_); refine goesL_ (some 20) rfl rfl Try.func15 (by kernel_rfl) rfl #[.string a0] rfl (by (try simp only [List.map_toArray, List.map_cons, List.map_nil]); first | done | rfl | (simp only [List.length_drop, List.length_take]; rfl)) ?_; (with_reducible refine (crc_Seal.calls k a0 t _ HS.out).mono ?_); rintro e w8 ⟨rfl, hb⟩; refine ⟨_, rfl, ?_⟩; have HB2 := Aside0.mk (below_go HB.out hb); clear hb; obtain ⟨c, W1, hconv, hrow, hb1⟩ := rowB_new w8 t; have HB3 := Aside0.mk (below_then HB2.out HB2.out.size hb1); have Hg := Aside0.mk HB2.out.size; clear hb1; obtain ⟨g, hg⟩ : ∃ g, g = w8.heap.size := ⟨_, rfl⟩; rw [← hg] at hconv hrow; have HR := Aside0.mk hrow; have Hgg := Aside0.mk hg; clear hrow hg))
  go_loopw [34] (fun v34 wr => ∃ i : Nat, v34 = .int .i64 (i : Int) ∧ i ≤ 32 ∧ RowB wr g (flips t.data.toList fr a2.toNat i) ∧ Below w.heap.size w wr) (fun v34 _ => 32 - (intOf v34).toNat)
  case atStart => exact ⟨0, rfl, Nat.zero_le _, HR.out, HB3.out⟩
  case round =>
    obtain ⟨i, rfl, hi, hrow, hb⟩ := hrel
    have HB4 := Aside0.mk hb
    have Hi := Aside0.mk hi
    have Hrow := Aside0.mk hrow
    clear hb hi hrow HR HB3 e1 e2 e3 e4 e4' e4n e5 hU
    by_cases h32 : i < 32
    · have d1 : decide ((i : Int) < 32) = true := decide_eq_true (by omega)
      have d2 : decide (i < 32) = true := decide_eq_true h32
      have H32 := Aside0.mk h32
      have hlt32 : i ≤ 32 := Nat.le_of_lt h32
      obtain ⟨M, hM⟩ : ∃ M : Int, (i : Int) = M := ⟨_, rfl⟩
      obtain ⟨m, hm⟩ : ∃ m : Nat, a2 = (m : Int) := ⟨a2.toNat, by have := Hm.out; omega⟩
      have hmlt : m < 4294967296 := by have := Hm.out; omega
      obtain ⟨J, hJ⟩ : ∃ J : Nat, J = m / 2 ^ i := ⟨_, rfl⟩
      have hJlt : J < 4294967296 := by rw [hJ]; exact Nat.lt_of_le_of_lt (Nat.div_le_self _ _) hmlt
      have hsx : a2 / 2 ^ M.toNat = (J : Int) := by rw [hJ, ← hM, hm, Int.toNat_natCast, Int.natCast_ediv, Int.natCast_pow]; rfl
      have hs2 : a2 / 2 ^ min M.toNat 32 = (J : Int) := by rw [Nat.min_eq_left (by rw [← hM, Int.toNat_natCast]; exact hlt32), hsx]
      have hs3 : M ≤ 32 → a2 / 2 ^ M.toNat = (J : Int) := fun _ => hsx
      have hand := and_one32 J hJlt
      have hM0 := eq_true (show 0 ≤ M by rw [← hM]; exact Int.natCast_nonneg i)
      have hM1 : decide (0 ≤ M) = true := decide_eq_true (by rw [← hM]; exact Int.natCast_nonneg i)
      have hKK : wrap64 ((fr : Int) + M) = ((fr + i : Nat) : Int) := by rw [← hM, w_id _ (by have := Hfr.out; have := Hbig.out; omega) (by have := Hfr.out; have := Hbig.out; omega)]; omega
      have hnext : wrap64 (M + 1) = ((i + 1 : Nat) : Int) := by rw [← hM, w_id _ (by omega) (by omega)]; omega
      have Hbit : a2.toNat / 2 ^ i = J := by rw [hm, Int.toNat_natCast, hJ]
      have HJ := Aside0.mk Hbit
      have HM := Aside0.mk hM
      rw [hM] at d1 ⊢
      clear h32 e6 e6' hlt32 hm hmlt hJ hJlt hsx Hbit hM d2
      by_cases hbit : J % 2 = 1
      · have b1 : (((J % 2 : Nat) : Int) == 1) = true := by rw [hbit]; rfl
        have Hb := Aside0.mk hbit
        clear hbit
        have hlen2 : (flips t.data.toList fr a2.toNat i).length = t.size := by rw [flips_length]; exact hlen.out.symm
        obtain ⟨L, hL⟩ : ∃ L, L = flips t.data.toList fr a2.toNat i := ⟨_, rfl⟩
        have HL := Aside0.mk hL
        rw [← hL] at hlen2
        have Hr0 := Hrow.out
        rw [← hL] at Hr0
        have Hrow2 := Aside0.mk Hr0
        clear hL Hr0
        obtain ⟨q, hq⟩ : ∃ q, q = (fr + i) / 8 := ⟨_, rfl⟩
        have hqlt : q < t.size := by have := Hfr.out; have := H32.out; omega
        obtain ⟨rr, hrr⟩ : ∃ rr, rr = (fr + i) % 8 := ⟨_, rfl⟩
        have hr8 : rr < 8 := by omega
        obtain ⟨P, hP⟩ : ∃ P : Int, ((fr + i : Nat) : Int) = P := ⟨_, rfl⟩
        have q1 : wrap64 (Int.tdiv P 8) = (q : Int) := by rw [← hP, Int.tdiv_eq_ediv_of_nonneg (by omega), w_id _ (by omega) (by have := Hfr.out; have := Hbig.out; have := H32.out; omega)]; omega
        have q2 : IntKind.i64.wrap (Int.tdiv P 8) = (q : Int) := by rw [i64_w]; exact q1
        obtain ⟨R, hR⟩ : ∃ R : Int, R = (rr : Int) := ⟨_, rfl⟩
        have r1 : Int.tmod P 8 = R := by rw [← hP, hR, hrr, Int.tmod_eq_emod_of_nonneg (by omega)]; omega
        have r0 := eq_true (show 0 ≤ R by rw [hR]; exact Int.natCast_nonneg _)
        have r0' : decide (0 ≤ R) = true := decide_eq_true (by rw [hR]; exact Int.natCast_nonneg _)
        obtain ⟨X, hX⟩ : ∃ X : Int, X = ((2 ^ rr : Nat) : Int) := ⟨_, rfl⟩
        have x0 : (2 : Int) ^ R.toNat = X := by rw [hR, hX, Int.toNat_natCast, Int.natCast_pow]; rfl
        have x1 : IntKind.u8.wrap (2 ^ R.toNat) = X := by rw [x0, hX]; exact pow8 ⟨rr, hr8⟩
        have x2 : IntKind.u8.wrap (2 ^ min R.toNat 8) = X := by rw [Nat.min_eq_left (by rw [hR, Int.toNat_natCast]; omega)]; exact x1
        have hqL : q < L.length := by rw [hlen2]; exact hqlt
        obtain ⟨b, hb⟩ : ∃ b, b = L[q] := ⟨_, rfl⟩
        have hcell := rowB_cell Hrow2.out q hqL
        have hfro := rowB_frozen Hrow2.out q hqL
        rw [← hb] at hcell
        obtain ⟨x, hx⟩ : ∃ x, x = UInt8.ofNat (b.toNat ^^^ 2 ^ rr) := ⟨_, rfl⟩
        have hxor : Go.bits .xor .u8 (b.toNat : Int) X = (x.toNat : Int) := by rw [hX, hx]; exact xor8 ⟨rr, hr8⟩ ⟨b.toNat, UInt8.toNat_lt _⟩
        have i1 : decide ((q : Int) < (t.size : Int)) = true := decide_eq_true (by omega)
        have i2 : decide (q < t.size) = true := decide_eq_true hqlt
        have i3 := eq_true (show (q : Int) < (t.size : Int) by omega)
        have HNEW := Aside0.mk (rowB_set Hrow2.out q x)
        have HB7 := Aside0.mk (below_at HB4.out (show w.heap.size ≤ g by rw [Hgg.out]; exact Hg.out) q (.int .u8 (x.toNat : Int)))
        have HFL : Aside0 (L.set q x = flips t.data.toList fr a2.toNat (i + 1)) := ⟨by
          rw [flips, if_pos (by rw [HJ.out]; exact Hb.out), ← HL.out]
          unfold flipB
          rw [← hq, ← hrr, hx, hb, List.getD_eq_getElem?_getD, List.getElem?_eq_getElem hqL]
          rfl⟩
        rw [hP] at hKK
        clear hlen2 hq hrr hr8 hP hR hX x0 hqL hb hx hqlt
        go_wp2
        go_region
        go_wp2
        go_roundw
        case rel =>
          refine ⟨i + 1, by rw [hnext], H32.out, ?_, below_drew HB7.out⟩
          rw [← HFL.out]
          first | exact HNEW.out | (have := HNEW.out; simpa using this)
        case measure =>
          rw [hnext, ← HM.out]
          have := H32.out
          simp [intOf]
          omega
      · have b1 : (((J % 2 : Nat) : Int) == 1) = false := by rw [beq_eq_false_iff_ne]; omega
        have Hb := Aside0.mk hbit
        clear hbit
        go_wp2
        go_roundw
        case rel =>
          refine ⟨i + 1, by rw [hnext], H32.out, ?_, HB4.out⟩
          rw [flips, if_neg (by rw [HJ.out]; exact Hb.out)]
          exact Hrow.out
        case measure =>
          rw [hnext, ← HM.out]
          have := H32.out
          simp [intOf]
          omega
    · have d1 : decide ((i : Int) < 32) = false := decide_eq_false (by omega)
      have d2 : decide (i < 32) = false := decide_eq_false h32
      have e32 : i = 32 := Nat.le_antisymm Hi.out (Nat.le_of_not_lt h32)
      subst e32
      have hv := rowB_conv Hrow.out c t.size (by rw [flips_length]; exact hlen.out.symm)
      clear h32 e6 e6'
      go_wp2_with (first | ((with_reducible refine gate_callee (f := 16) rfl ?_); refine goesL_ (some 58) rfl rfl Try.func16 (by kernel_rfl) rfl #[.string ⟨(flips t.data.toList fr a2.toNat 32).toArray⟩] rfl (by (try simp only [List.map_toArray, List.map_cons, List.map_nil]); first | done | rfl | (simp only [List.length_drop, List.length_take]; rfl)) ?_; (with_reducible refine (crc_Fits.calls k _ false _ HFIT.out).mono ?_); rintro e w9 ⟨rfl, hb⟩; refine ⟨_, rfl, ?_⟩; have HB5 := Aside0.mk (below_then HB4.out HB4.out.size hb); clear hb) | ((with_reducible refine gate_callee (f := 7) rfl ?_); (try (refine gate_guard (by rfl) ?_; dsimp only)); refine goesL_ (some 61) rfl rfl Try.func7 (by kernel_rfl) rfl #[] rfl (by (try simp only [List.map_toArray, List.map_cons, List.map_nil]); first | done | rfl | (simp only [List.length_drop, List.length_take]; rfl)) ?_; (with_reducible refine (mewslaw14_alive.calls k true _ HAL.out).mono ?_); rintro e w10 ⟨rfl, hb⟩; refine ⟨_, rfl, ?_⟩; have HB6 := Aside0.mk (below_then HB5.out HB5.out.size hb); clear hb))
      go_ret
      exact ⟨rfl, HB6.out⟩
theorem mewslaw14_CrcBursts.mono (a0 : ByteArray) (a1 a2 : Int) (k : Nat) : LeO (mewslaw14_CrcBursts.f k a0 a1 a2) (mewslaw14_CrcBursts.f (k + 1) a0 a1 a2) := by
  unfold mewslaw14_CrcBursts.f
  exact LeO.ite (LeO.none _) (LeO.bind (mewslaw14_far.mono _ _) fun _ => LeO.ite (mewslaw14_alive.mono _) (LeO.bind (crc_Seal.mono _ _) fun _ => LeO.ite (LeO.refl _) (LeO.ite (LeO.none _) (LeO.bind (crc_Fits.mono _ _) fun _ => LeO.ite (LeO.refl _) (mewslaw14_alive.mono _)))))
theorem mewslaw14_CrcBursts.calls (k : Nat) (a0 : ByteArray) (a1 a2 : Int) (r : Bool) (w : World) (hr_ : Aside0 (r = true)) (h : mewslaw14_CrcBursts.f k a0 a1 a2 = some r) :
    Calls Try.prog 5 #[.string a0, .int .i64 a1, .int .u32 a2] w fun e w' => e = .returned (.bool r) ∧ Below w.heap.size w w' := by
  have hr := hr_.out
  subst hr
  unfold mewslaw14_CrcBursts.f at h
  by_cases hm : a2 < 0 ∨ 4294967296 ≤ a2
  · rw [if_pos hm] at h; cases h
  rw [if_neg hm] at h
  obtain ⟨fb, hf, h⟩ := Option.bind_eq_some_iff.1 h
  by_cases hfb : fb = true ∨ a2 = 0
  · rw [if_pos hfb] at h
    exact burst_away k a0 a1 a2 fb w hf hfb h
  rw [if_neg hfb] at h
  have hf0 : fb = false := by cases fb with | true => exact absurd (.inl rfl) hfb | false => rfl
  subst hf0
  obtain ⟨t, hs, h⟩ := Option.bind_eq_some_iff.1 h
  by_cases h4 : t.size < 4
  · rw [if_pos h4] at h; cases h
  rw [if_neg h4] at h
  by_cases hb : 100000000 < t.size
  · rw [if_pos hb] at h; cases h
  rw [if_neg hb] at h
  obtain ⟨b, hft, h⟩ := Option.bind_eq_some_iff.1 h
  cases b with
  | true => rw [if_pos rfl] at h; cases h
  | false =>
    rw [if_neg (by decide)] at h
    exact burst_main k a0 t a1 a2 w (fun e => hfb (.inr e)) (by omega) hf hs (by omega) (by omega) hft h
end Go.Proofs.Ytdjmpdflfbimeaa.X
