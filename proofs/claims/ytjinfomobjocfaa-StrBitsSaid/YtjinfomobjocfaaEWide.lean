/- The contracts of str.wide, str.Set and str.SetBit, walked by hand. -/
import Derived.Test.YtjinfomobjocfaaProg
import Derived.Test.YtjinfomobjocfaaWWords
import Derived.Test.YtjinfomobjocfaaWMore
import Derived.Test.YtjinfomobjocfaaWLast
import Derived.Test.YtjinfomobjocfaaY
import Derived.WalkKit
import Derived.WalkLawsBesides
import Derived.WalkSpells
import Derived.Deep.OwnRows
import Derived.Laws.CopyRow
import Derived.Laws.BytesArg
namespace Go.Proofs.Ytjinfomobjocfaa.X
open Go.RowKit Go.Proofs.YtjinfomobjocfaaW.PrintWords Go.Proofs.YtjinfomobjocfaaW.PrintMore Go.Proofs.YtjinfomobjocfaaW.PrintLast
set_option linter.unusedVariables false
set_option linter.unusedSimpArgs false
/-- Bytes as cells. -/
def cellsB (l : List UInt8) : Array Value := (l.map fun b => Value.int .u8 b.toNat).toArray
theorem cellsB_size (l : List UInt8) : (cellsB l).size = l.length := by simp [cellsB]
theorem cellsB_get (l : List UInt8) (i : Nat) (h : i < l.length) : (cellsB l)[i]? = some (.int .u8 ((l.map fun b => (b.toNat : Int)).getD i 0)) := by
  simp [cellsB, h]
theorem cellsB_at (l : List UInt8) (i : Nat) (h : i < l.length) : (cellsB l)[i]? = some (.int .u8 (l[i].toNat : Int)) := by
  simp [cellsB, h]
theorem cellsB_set (l : List UInt8) (i : Nat) (b : UInt8) : (cellsB l).setIfInBounds i (.int .u8 b.toNat) = cellsB (l.set i b) := by
  unfold cellsB
  rw [List.setIfInBounds_toArray, List.map_set]
theorem cellsB_made (n : Nat) : madeCells #[Value.int .u8 0] n = cellsB (List.replicate n 0) := by
  apply Array.ext
  · simp [cellsB, madeCells]
  · intro i h1 h2
    simp [cellsB, madeCells, Nat.mod_one]
/-- Bytes with others laid over them, from a place on. -/
def lay (u : List UInt8) (k : Nat) (t : List UInt8) : List UInt8 := u.take k ++ t ++ u.drop (k + t.length)
theorem lay_length (u t : List UInt8) (k : Nat) (h : k + t.length ≤ u.length) : (lay u k t).length = u.length := by
  unfold lay
  simp only [List.length_append, List.length_take, List.length_drop]
  omega
/-- A text's bytes, with bytes 0 behind, so many at the least. -/
def wideL (s : List UInt8) (n : Nat) : List UInt8 := lay (List.replicate (max n s.length) 0) 0 s
theorem wideL_length (s : List UInt8) (n : Nat) : (wideL s n).length = max n s.length := by
  unfold wideL
  rw [lay_length _ _ _ (by simp; exact Nat.le_max_right _ _), List.length_replicate]
theorem run_copy_text {P : Program} (w : World) (dT sT ty elem : TypeId) (g o dLen dCap : Nat) (s : ByteArray) (l : List UInt8) (t : TypeId)
    (hu : P.underlying dT = some (.slice elem)) (hs : (P.info? elem).map (·.size) = some 1)
    (hg : w.heap[g]? = some (.cells (cellsB l) t (0, 0))) (hd : s.size ≤ dLen) (hfit : o + s.size ≤ l.length) :
    (Builtin.copy_ #[dT, sT] ty #[.slice (some ⟨g, o, none⟩) dLen dCap, .string s]).run P w = .ok (goInt s.size) (w.setRow g (cellsB (lay l o s.data.toList))) := by
  have hst := run_storeCells_at P g o t (s.data.toList.map fun b => Value.int .u8 b.toNat) 0 (cellsB l) w hg (by simp [cellsB_size]; simpa using hfit) (by
    intro v hv
    obtain ⟨b, _, rfl⟩ := List.mem_map.1 hv
    rfl)
  have hn : Nat.min s.size dLen = s.size := Nat.min_eq_left hd
  have he : (cellsB l).toList.take (o + 0) ++ (s.data.toList.map fun b => Value.int .u8 b.toNat) ++ (cellsB l).toList.drop (o + 0 + (s.data.toList.map fun b => Value.int .u8 b.toNat).length) = (cellsB (lay l o s.data.toList)).toList := by
    simp [cellsB, lay]
  rw [he, Array.toArray_toList] at hst
  cases hq : P.info? elem with
  | none => simp [hq] at hs
  | some i =>
    have hi : i.size = 1 := by simpa [hq] using hs
    have ht : (s.data.toList.map fun b => Value.int .u8 (b.toNat : Int)).take s.size = s.data.toList.map fun b => Value.int .u8 b.toNat := List.take_of_length_le (by simp)
    simp [Builtin.copy_, run_underlying hu, Builtin.lenOf, Builtin.firstCells, sizeOf, typeInfo, hq, hi, hn, ht, hst]
theorem heap_setRow {w : World} {g : Nat} {cs cs' : Array Value} {t : TypeId} (h : w.heap[g]? = some (.cells cs t (0, 0))) : (w.setRow g cs').heap[g]? = some (.cells cs' t (0, 0)) := setRow_heap w g cs cs' t _ h
theorem below_setRow {B g : Nat} {w w' : World} (h : Below B w w') (hg : B ≤ g) (cs : Array Value) : Below B w (w'.setRow g cs) :=
  ⟨h.os, h.tape, h.output, by simpa [World.setRow] using h.size, fun k hk => by
    have := h.block k hk
    simp only [World.setRow, Array.getElem?_modify]
    rw [if_neg (by omega)]
    exact this⟩
theorem infoB : (Try.prog.info? 5).map (fun i => (i.zero, i.size, i.bytes)) = some (some (.int .u8 0), 1, 1) := by kernel_rfl
theorem infoB1 : (Try.prog.info? 5).map (·.size) = some 1 := by kernel_rfl
set_option maxHeartbeats 4000000 in
set_option maxRecDepth 100000 in
theorem wide_calls (s : ByteArray) (n : Nat) (hs : s.size ≤ 140737488351232) (hn : n ≤ 140737488351232) (w : World) :
    Calls Try.prog 30 #[.string s, .int .i64 n] w fun e w' => e = .returned (.slice (some ⟨w.heap.size, 0, none⟩) (max n s.size) (max n s.size)) ∧ w'.heap[w.heap.size]? = some (.cells (cellsB (wideL s.data.toList n)) 5 (0, 0)) ∧ Below w.heap.size w w' := by
  have hl : s.size = s.data.toList.length := Array.length_toList.symm
  have hm := run_make_row' (P := Try.prog) 55 5 (.int .u8 0) 1 Try.underlying55 infoB rfl .i64 .i64 (max n s.size) (by omega) (by omega) w
  rw [cellsB_made] at hm
  have hH := blk_new w (.cells (cellsB (List.replicate (max n s.size) 0)) 5)
  have hc := run_copy_text (P := Try.prog) (w.alloc (.cells (cellsB (List.replicate (max n s.size) 0)) 5)) 55 9 3 5 w.heap.size 0 (max n s.size) (max n s.size) s _ _ Try.underlying55 infoB1 hH (by omega) (by simp; omega)
  have hH2 := heap_setRow (cs' := cellsB (wideL s.data.toList n)) hH
  have hB2 := below_setRow (g := w.heap.size) (below_alloc (Below.refl w.heap.size w) (.cells (cellsB (List.replicate (max n s.size) 0)) 5)) (Nat.le_refl _) (cellsB (wideL s.data.toList n))
  have he : lay (List.replicate (max n s.size) 0) 0 s.data.toList = wideL s.data.toList n := by unfold wideL; rw [← hl]
  rw [he] at hc
  have HH := Aside0.mk hH2
  have HB := Aside0.mk hB2
  clear hH hH2 hB2 he hl
  by_cases h : n < s.size
  · rw [Nat.max_eq_right (by omega)] at hm hc HH HB ⊢
    have h1 : (n : Int) < (s.size : Int) := by omega
    have h2 : decide ((n : Int) < (s.size : Int)) = true := decide_eq_true h1
    have h3 : decide (n < s.size) = true := decide_eq_true h
    go_enter Try.func30, Try.ntmps30
    go_wp2
    go_ret
    exact ⟨rfl, HH.out, HB.out⟩
  · rw [Nat.max_eq_left (by omega)] at hm hc HH HB ⊢
    have h1 : ¬ (n : Int) < (s.size : Int) := by omega
    have h2 : decide ((n : Int) < (s.size : Int)) = false := decide_eq_false h1
    have h3 : decide (n < s.size) = false := decide_eq_false h
    go_enter Try.func30, Try.ntmps30
    go_wp2
    go_ret
    exact ⟨rfl, HH.out, HB.out⟩
theorem isEmpty_false {t : ByteArray} (ht : t.size ≠ 0) : t.toList.isEmpty = false := by
  rw [Go.Proofs.Ytjinfomobjocfaa.Y.ba_toList, List.isEmpty_eq_false_iff]
  intro h
  exact ht (by rw [Go.Proofs.Ytjinfomobjocfaa.Y.ba_size, h]; rfl)
theorem conv_all (W : World) (g : Nat) (l : List UInt8) (n : Nat) (hn : l.length = n) (hW : W.heap[g]? = some (.cells (cellsB l) 5 (0, 0))) :
    (convert 55 9 (.slice (some ⟨g, 0, none⟩) n n)).run Try.prog W = .ok (.string ⟨l.toArray⟩) W := by
  have h := run_convert_bytes_arg (P := Try.prog) W 55 5 Try.underlying55 Try.underlying5 g 0 n n (l.map fun b => (b.toNat : Int)) (by simpa using hn) (fun i hi => by
    rw [Nat.zero_add, blk_cell hW, cellsB_get l i (by omega)]) 9 Try.underlying9
  rw [h]
  congr 2
  simp [strOfNums, Function.comp_def]
set_option maxHeartbeats 4000000 in
set_option maxRecDepth 100000 in
theorem set_calls (s t : ByteArray) (k : Nat) (ht : t.size ≠ 0) (hk : k + t.size ≤ 1048576) (hs : s.size ≤ 140737488351232) (w : World) :
    Calls Try.prog 15 #[.string s, .int .i64 k, .string t] w fun e w' => e = .returned (.tuple #[.string ⟨(lay (wideL s.data.toList (k + t.size)) k t.data.toList).toArray⟩, .int .i64 0]) ∧ Below w.heap.size w w' := by
  have hte : t.toList.isEmpty = false := isEmpty_false ht
  have h1 : ¬ (k : Int) > 1048576 := by omega
  have h2 : decide (1048576 < (k : Int)) = false := decide_eq_false (by omega)
  have h3 : decide (1048576 < k) = false := decide_eq_false (by omega)
  have h4 : decide ((1048576 - (k : Int)) < (t.size : Int)) = false := decide_eq_false (by omega)
  have hl := Aside0.mk (show (wideL s.data.toList (k + t.size)).length = max (k + t.size) s.size by rw [wideL_length]; simp)
  have ht2 := Aside0.mk (show t.size = t.data.toList.length from Array.length_toList.symm)
  go_enter Try.func15, Try.ntmps15
  go_wp2_with ((with_reducible refine gate_callee (f := 30) rfl ?_); refine goesL_ (some 31) rfl rfl Try.func30 (by kernel_rfl) rfl #[.string s, .int .i64 ((k + t.size : Nat) : Int)] rfl (by (try simp only [List.map_toArray, List.map_cons, List.map_nil]); first | done | rfl | (simp only [List.length_drop, List.length_take]; rfl)) ?_; (with_reducible refine (wide_calls s (k + t.size) hs (by omega) _).mono ?_); rintro e w8 ⟨rfl, hH, hb⟩; refine ⟨_, rfl, ?_⟩; have hc := run_copy_text (P := Try.prog) w8 55 9 3 5 w.heap.size k (max (k + t.size) s.size - k) (max (k + t.size) s.size - k) t _ _ Try.underlying55 infoB1 hH (by omega) (by rw [hl.out]; omega); have hv := conv_all (w8.setRow w.heap.size (cellsB (lay (wideL s.data.toList (k + t.size)) k t.data.toList))) w.heap.size (lay (wideL s.data.toList (k + t.size)) k t.data.toList) (max (k + t.size) s.size) (by rw [lay_length _ _ _ (by rw [hl.out, ← ht2.out]; omega), hl.out]) (heap_setRow hH); have HB := Aside0.mk (below_setRow (g := w.heap.size) hb (Nat.le_refl _) (cellsB (lay (wideL s.data.toList (k + t.size)) k t.data.toList))); clear hH hb)
  go_ret2
  exact ⟨rfl, HB.out⟩
/-- A text, with others laid over it from a place on. -/
def str_Set.f (a0 : ByteArray) (a1 : Int) (a2 : ByteArray) : Option (ByteArray × Int) :=
  if a1 < 0 then some (⟨#[]⟩, 3) else if a2.size = 0 then some (a0, 0) else if 1048576 < a1 + a2.size then some (⟨#[]⟩, 6)
  else if a0.size ≤ 140737488351232 then some (⟨(lay (wideL a0.data.toList (a1.toNat + a2.size)) a1.toNat a2.data.toList).toArray⟩, 0) else none
set_option maxHeartbeats 4000000 in
set_option maxRecDepth 100000 in
theorem str_Set.calls (a0 : ByteArray) (a1 : Int) (a2 : ByteArray) (r1 : ByteArray) (r2 : Int) (w : World) (h : str_Set.f a0 a1 a2 = some (r1, r2)) :
    Calls Try.prog 15 #[.string a0, .int .i64 a1, .string a2] w fun e w' => e = .returned (.tuple #[.string r1, .int .i64 r2]) ∧ Below w.heap.size w w' := by
  unfold str_Set.f at h
  by_cases h0 : a1 < 0
  · rw [if_pos h0] at h
    simp only [Option.some.injEq, Prod.mk.injEq] at h
    obtain ⟨rfl, rfl⟩ := h
    have c1 : decide (a1 < 0) = true := decide_eq_true h0
    clear h0
    go_enter Try.func15, Try.ntmps15
    go_wp2
    go_ret2
    exact ⟨rfl, Below.refl _ _⟩
  · rw [if_neg h0] at h
    have c1 : decide (a1 < 0) = false := decide_eq_false h0
    by_cases h1 : a2.size = 0
    · rw [if_pos h1] at h
      simp only [Option.some.injEq, Prod.mk.injEq] at h
      obtain ⟨rfl, rfl⟩ := h
      have c2 : a2.toList.isEmpty = true := by
        rw [Go.Proofs.Ytjinfomobjocfaa.Y.ba_toList, List.isEmpty_iff]
        rw [Go.Proofs.Ytjinfomobjocfaa.Y.ba_size] at h1
        exact List.length_eq_zero_iff.1 h1
      clear h1 h0
      go_enter Try.func15, Try.ntmps15
      go_wp2
      go_ret2
      exact ⟨rfl, Below.refl _ _⟩
    · rw [if_neg h1] at h
      have c2 := isEmpty_false h1
      by_cases h2 : 1048576 < a1 + a2.size
      · rw [if_pos h2] at h
        simp only [Option.some.injEq, Prod.mk.injEq] at h
        obtain ⟨rfl, rfl⟩ := h
        by_cases h3 : 1048576 < a1
        · have c3 : decide (1048576 < a1) = true := decide_eq_true h3
          clear h0 h1 h2 h3
          go_enter Try.func15, Try.ntmps15
          go_wp2
          go_ret2
          exact ⟨rfl, Below.refl _ _⟩
        · have c3 : decide (1048576 < a1) = false := decide_eq_false h3
          obtain ⟨k, rfl⟩ : ∃ k : Nat, a1 = k := ⟨a1.toNat, by omega⟩
          have c4 : decide ((1048576 - (k : Int)) < (a2.size : Int)) = true := decide_eq_true (by omega)
          have c5 : decide (1048576 < k) = false := decide_eq_false (by omega)
          have hk : k ≤ 1048576 := by omega
          clear h0 h1 h2 h3
          go_enter Try.func15, Try.ntmps15
          go_wp2
          go_ret2
          exact ⟨rfl, Below.refl _ _⟩
      · rw [if_neg h2] at h
        by_cases h4 : a0.size ≤ 140737488351232
        · rw [if_pos h4] at h
          simp only [Option.some.injEq, Prod.mk.injEq] at h
          obtain ⟨rfl, rfl⟩ := h
          obtain ⟨k, rfl⟩ : ∃ k : Nat, a1 = k := ⟨a1.toNat, by omega⟩
          exact set_calls a0 a2 k h1 (by omega) h4 w
        · rw [if_neg h4] at h; cases h
/-- A bit's worth in a byte, by its place from the right. -/
def bitAt (s : ByteArray) (q m : Nat) : Int := if q < s.size then (((wideL s.data.toList (q + 1)).getD q 0).toNat / 2 ^ m % 2 : Nat) else 0
/-- A byte with its bit so. -/
def putBit (b : UInt8) (m : Nat) (on : Bool) : UInt8 := UInt8.ofNat (b.toNat - b.toNat / 2 ^ m % 2 * 2 ^ m + (if on then 2 ^ m else 0))
theorem bits_clear : ∀ m : Fin 8, ∀ b : Fin 256, Go.bits .andNot .u8 (b.val : Int) ((2 ^ m.val : Nat) : Int) = ((putBit (UInt8.ofNat b.val) m.val false).toNat : Int) := by decide +kernel
theorem bits_set : ∀ m : Fin 8, ∀ b : Fin 256, Go.bits .or .u8 ((putBit (UInt8.ofNat b.val) m.val false).toNat : Int) ((2 ^ m.val : Nat) : Int) = ((putBit (UInt8.ofNat b.val) m.val true).toNat : Int) := by decide +kernel
theorem out_calls (a0 : Int) (w : World) : Calls Try.prog 33 #[.int .i64 a0] w fun e w' => e = .returned (.bool (decide (a0 < 0) || decide (8388608 ≤ a0))) ∧ Drawn0 w w' := by
  by_cases c2 : a0 < 0
  · have c2b0 : decide (a0 < 0) = true := decide_eq_true c2
    rw [c2b0, Bool.true_or]
    clear c2
    go_enter Try.func33, Try.ntmps33
    go_wp2
    go_ret
    exact ⟨by first | rfl | (simp; done) | (simp [*]; done), by repeat (first | exact Drawn0.refl _ | apply Drawn0.step)⟩
  · have c2b0 : decide (a0 < 0) = false := decide_eq_false c2
    rw [c2b0, Bool.false_or]
    clear c2
    go_enter Try.func33, Try.ntmps33
    go_wp2
    go_ret
    exact ⟨by first | rfl | (simp; done) | (simp [*]; done), by repeat (first | exact Drawn0.refl _ | apply Drawn0.step)⟩
attribute [local go_sem] max2_int min2_int max_two min_two
theorem wideL_low (s : ByteArray) (n q : Nat) (h : q < s.size) : (wideL s.data.toList n).getD q 0 = s[q] := by
  have hl := Go.Proofs.Ytjinfomobjocfaa.Y.ba_size s
  unfold wideL lay
  simp only [List.take_zero, List.nil_append, Nat.zero_add]
  rw [List.getD_eq_getElem?_getD, List.getElem?_append_left (by omega), List.getElem?_eq_getElem (by omega)]
  rfl
set_option maxHeartbeats 4000000 in
set_option maxRecDepth 100000 in
theorem bit_calls (s : ByteArray) (a1 : Int) (q m : Nat) (h0 : decide (a1 < 0) = false) (h1 : decide (8388608 ≤ a1) = false) (hq : IntKind.i64.wrap (Int.tdiv a1 8) = (q : Int)) (hm : IntKind.i64.wrap (7 - Int.tmod a1 8) = (m : Int)) (hm7 : m ≤ 7) (w : World) :
    Calls Try.prog 20 #[.string s, .int .i64 a1] w fun e w' => e = .returned (.tuple #[.int .i64 (bitAt s q m), .int .i64 0]) ∧ Drawn0 w w' := by
  have ho : (decide (a1 < 0) || decide (8388608 ≤ a1)) = false := by rw [h0, h1]; rfl
  have hcall := out_calls a1
  rw [ho] at hcall
  have Hc := Aside0.mk hcall
  clear ho h0 h1 hcall
  by_cases hlt : q < s.size
  · have c1 : decide ((s.size : Int) ≤ (q : Int)) = false := decide_eq_false (by omega)
    have c2 : decide (s.size ≤ q) = false := decide_eq_false (by omega)
    have hb : bitAt s q m = (((s[q]).toNat / 2 ^ m % 2 : Nat) : Int) := by
      unfold bitAt
      rw [if_pos hlt, wideL_low s (q + 1) q hlt]
    have ha : Go.bits .and .u8 ((s[q].toNat / 2 ^ m : Nat) : Int) 1 = ((s[q].toNat / 2 ^ m % 2 : Nat) : Int) := by
      have hx : s[q].toNat < 256 := UInt8.toNat_lt _
      have hy : s[q].toNat / 2 ^ m < 256 := Nat.lt_of_le_of_lt (Nat.div_le_self _ _) hx
      generalize s[q].toNat / 2 ^ m = y at hy
      have : ∀ y : Fin 256, Go.bits .and .u8 (y.val : Int) 1 = ((y.val % 2 : Nat) : Int) := by decide +kernel
      exact this ⟨y, hy⟩
    rw [hb]
    clear hb
    obtain ⟨M, hM⟩ : ∃ M : Int, M = (m : Int) := ⟨_, rfl⟩
    obtain ⟨J, hJ⟩ : ∃ J : Int, J = ((s[q].toNat / 2 ^ m : Nat) : Int) := ⟨_, rfl⟩
    have hs1 : (s[q].toNat : Int) / 2 ^ M.toNat = J := by rw [hJ, hM, Int.toNat_natCast, Int.natCast_ediv, Int.natCast_pow]; rfl
    have hs2 : (s[q].toNat : Int) / 2 ^ min M.toNat 8 = J := by rw [Nat.min_eq_left (by omega), hs1]
    have hs3 : M ≤ 8 → (s[q].toNat : Int) / 2 ^ M.toNat = J := fun _ => hs1
    have hM0 := eq_true (show 0 ≤ M by omega)
    have hM1 : decide (0 ≤ M) = true := decide_eq_true (by omega)
    rw [← hJ] at ha
    rw [← hM] at hm
    clear hs1 hJ hM
    go_enter Try.func20, Try.ntmps20
    go_wp2_with (first | ((with_reducible refine gate_callee (f := 33) rfl ?_); refine goesL_ (some 7) rfl rfl Try.func33 (by kernel_rfl) rfl #[.int .i64 a1] rfl (by (try simp only [List.map_toArray, List.map_cons, List.map_nil]); first | done | rfl | (simp only [List.length_drop, List.length_take]; rfl)) ?_; (with_reducible refine (Hc.out _).mono ?_); rintro e w' ⟨rfl, ⟨nd, rfl⟩⟩; refine ⟨_, rfl, ?_⟩))
    go_ret2
    exact ⟨by simp, by repeat (first | exact Drawn0.refl _ | apply Drawn0.step)⟩
  · have c1 : decide ((s.size : Int) ≤ (q : Int)) = true := decide_eq_true (by omega)
    have c2 : decide (s.size ≤ q) = true := decide_eq_true (by omega)
    have hb : bitAt s q m = 0 := by unfold bitAt; rw [if_neg hlt]
    rw [hb]
    clear hb hlt
    go_enter Try.func20, Try.ntmps20
    go_wp2_with (first | ((with_reducible refine gate_callee (f := 33) rfl ?_); refine goesL_ (some 7) rfl rfl Try.func33 (by kernel_rfl) rfl #[.int .i64 a1] rfl (by (try simp only [List.map_toArray, List.map_cons, List.map_nil]); first | done | rfl | (simp only [List.length_drop, List.length_take]; rfl)) ?_; (with_reducible refine (Hc.out _).mono ?_); rintro e w' ⟨rfl, ⟨nd, rfl⟩⟩; refine ⟨_, rfl, ?_⟩))
    go_ret2
    exact ⟨rfl, by repeat (first | exact Drawn0.refl _ | apply Drawn0.step)⟩
theorem set_bit {W : World} {g q : Nat} {l : List UInt8} (x : UInt8) {b1 : Int} (h : b1 = (x.toNat : Int)) (hW : W.heap[g]? = some (.cells (cellsB l) 5 (0, 0))) :
    (W.setCell ⟨g, q, none⟩ (.int .u8 b1)).heap[g]? = some (.cells (cellsB (l.set q x)) 5 (0, 0)) := by
  rw [blk_set hW, h, cellsB_set]
theorem set_at (l : List UInt8) (q : Nat) (x : UInt8) (b1 : Int) (h : b1 = (x.toNat : Int)) (hq : q < l.length) : (cellsB (l.set q x))[q]? = some (.int .u8 b1) := by
  rw [cellsB_at _ q (by simpa using hq), List.getElem_set_self, h]
theorem below_at {w W : World} {g : Nat} (h : Below w.heap.size w W) (hg : w.heap.size ≤ g) (q : Nat) (v : Value) : Below w.heap.size w (W.setCell ⟨g, q, none⟩ v) := h.setCell (by simpa using hg) _
theorem drewN_size (w : World) (n : Nat) : w.heap.size ≤ (w.drewN n).heap.size := Nat.le_refl _
theorem below_of_drawn {w W : World} {n : Nat} (h : Below (w.drewN n).heap.size (w.drewN n) W) : Below w.heap.size w W := ⟨h.os, h.tape, h.output, h.size, h.block⟩
set_option maxHeartbeats 4000000 in
set_option maxRecDepth 100000 in
theorem setbit_calls (s : ByteArray) (a1 : Int) (q m : Nat) (on : Bool) (hs : Aside0 (s.size ≤ 140737488351232)) (hq1 : q ≤ 1048576) (h0 : decide (a1 < 0) = false) (h1 : decide (8388608 ≤ a1) = false) (hq : IntKind.i64.wrap (Int.tdiv a1 8) = (q : Int)) (hm : IntKind.i64.wrap (7 - Int.tmod a1 8) = (m : Int)) (hm7 : m ≤ 7) (w : World) :
    Calls Try.prog 22 #[.string s, .int .i64 a1, .int .i64 (if on then 1 else 0)] w fun e w' => e = .returned (.tuple #[.string ⟨((wideL s.data.toList (q + 1)).set q (putBit ((wideL s.data.toList (q + 1)).getD q 0) m on)).toArray⟩, .int .i64 (bitAt s q m), .int .i64 0]) ∧ Below w.heap.size w w' := by
  have Hbit := Aside0.mk (bit_calls s a1 q m h0 h1 hq hm hm7)
  have hlen := wideL_length s.data.toList (q + 1)
  rw [← Go.Proofs.Ytjinfomobjocfaa.Y.ba_size] at hlen
  have Hlen := Aside0.mk hlen
  have hlt : q < (wideL s.data.toList (q + 1)).length := by rw [hlen]; omega
  obtain ⟨l, hl⟩ : ∃ l, l = wideL s.data.toList (q + 1) := ⟨_, rfl⟩
  obtain ⟨b, hb⟩ : ∃ b, b = l.getD q 0 := ⟨_, rfl⟩
  rw [← hl] at hlt hlen ⊢
  rw [← hb]
  have Hl := Aside0.mk hl
  have hbq : b = l[q] := by rw [hb, List.getD_eq_getElem?_getD, List.getElem?_eq_getElem hlt]; rfl
  have HC := Aside0.mk (show (cellsB l)[q]? = some (.int .u8 (b.toNat : Int)) by rw [hbq]; exact cellsB_at l q hlt)
  have HQ := Aside0.mk hlt
  have Hn := Aside0.mk hlen
  have hx : b.toNat < 256 := UInt8.toNat_lt _
  have hcl := bits_clear ⟨m, by omega⟩ ⟨b.toNat, hx⟩
  have hst := bits_set ⟨m, by omega⟩ ⟨b.toNat, hx⟩
  simp only [UInt8.ofNat_toNat] at hcl hst
  obtain ⟨K, hK⟩ : ∃ K : Int, K = ((2 ^ m : Nat) : Int) := ⟨_, rfl⟩
  rw [← hK] at hcl hst
  obtain ⟨b1, hb1⟩ : ∃ b1 : Int, b1 = ((putBit b m false).toNat : Int) := ⟨_, rfl⟩
  rw [← hb1] at hcl hst
  obtain ⟨M, hM⟩ : ∃ M : Int, M = (m : Int) := ⟨_, rfl⟩
  have hk8 : IntKind.u8.wrap ((2 ^ m : Nat) : Int) = ((2 ^ m : Nat) : Int) := by
    have : ∀ m : Fin 8, IntKind.u8.wrap ((2 ^ m.val : Nat) : Int) = ((2 ^ m.val : Nat) : Int) := by decide
    exact this ⟨m, by omega⟩
  have hpow : (2 : Int) ^ M.toNat = ((2 ^ m : Nat) : Int) := by rw [hM, Int.toNat_natCast, Int.natCast_pow]; rfl
  have hs1 : IntKind.u8.wrap (2 ^ M.toNat) = K := by rw [hpow, hk8, hK]
  have hs2 : IntKind.u8.wrap (2 ^ min M.toNat 8) = K := by rw [Nat.min_eq_left (by omega), hs1]
  have hM0 := eq_true (show 0 ≤ M by omega)
  have hM1 : decide (0 ≤ M) = true := decide_eq_true (by omega)
  rw [← hM] at hm
  have HB1 := Aside0.mk hb1
  have hmax : Aside0 (q < max (q + 1) s.size) := ⟨by omega⟩
  have hqmax := decide_eq_true hmax.out
  have hqmax2 : decide ((q : Int) < ((max (q + 1) s.size : Nat) : Int)) = true := decide_eq_true (by have := hmax.out; omega)
  clear h0 h1 hlen hlt hl hb hbq hx hK hM hk8 hpow hb1
  cases on with
  | false =>
    simp only [Bool.false_eq_true, if_false]
    go_enter Try.func22, Try.ntmps22
    go_wp2_with (first | ((with_reducible refine gate_callee (f := 20) rfl ?_); refine goesL_ (some 16) rfl rfl Try.func20 (by kernel_rfl) rfl #[.string s, .int .i64 a1] rfl (by (try simp only [List.map_toArray, List.map_cons, List.map_nil]); first | done | rfl | (simp only [List.length_drop, List.length_take]; rfl)) ?_; (with_reducible refine (Hbit.out _).mono ?_); rintro e w' ⟨rfl, ⟨nd, rfl⟩⟩; refine ⟨_, rfl, ?_⟩) | ((with_reducible refine gate_callee (f := 30) rfl ?_); refine goesL_ (some 34) rfl rfl Try.func30 (by kernel_rfl) rfl #[.string s, .int .i64 ((q + 1 : Nat) : Int)] rfl (by (try simp only [List.map_toArray, List.map_cons, List.map_nil]); first | done | rfl | (simp only [List.length_drop, List.length_take]; rfl)) ?_; (with_reducible refine (wide_calls s (q + 1) hs.out (by omega) _).mono ?_); rintro e w8 ⟨rfl, hH, hb⟩; refine ⟨_, rfl, ?_⟩; have Hb := Aside0.mk (below_of_drawn hb); clear hb; obtain ⟨g, hg⟩ : ∃ g, g = (w.drewN nd).heap.size := ⟨_, rfl⟩; have Hg := Aside0.mk (show w.heap.size ≤ g by rw [hg]; exact drewN_size w nd); rw [← hg] at hH ⊢; clear hg; rw [← Hl.out] at hH; have hcell := (blk_cell hH q).trans HC.out; have hfro := blk_frozen hH q; have hH1 := set_bit (q := q) (putBit b m false) HB1.out hH; have HB := Aside0.mk (below_at Hb.out Hg.out q (.int .u8 b1)); have hv := conv_all _ g _ (max (q + 1) s.size) (by rw [List.length_set, Hn.out]) hH1; clear hH hH1))
    go_ret3
    exact ⟨rfl, HB.out⟩
  | true =>
    simp only [if_true]
    go_enter Try.func22, Try.ntmps22
    go_wp2_with (first | ((with_reducible refine gate_callee (f := 20) rfl ?_); refine goesL_ (some 16) rfl rfl Try.func20 (by kernel_rfl) rfl #[.string s, .int .i64 a1] rfl (by (try simp only [List.map_toArray, List.map_cons, List.map_nil]); first | done | rfl | (simp only [List.length_drop, List.length_take]; rfl)) ?_; (with_reducible refine (Hbit.out _).mono ?_); rintro e w' ⟨rfl, ⟨nd, rfl⟩⟩; refine ⟨_, rfl, ?_⟩) | ((with_reducible refine gate_callee (f := 30) rfl ?_); refine goesL_ (some 34) rfl rfl Try.func30 (by kernel_rfl) rfl #[.string s, .int .i64 ((q + 1 : Nat) : Int)] rfl (by (try simp only [List.map_toArray, List.map_cons, List.map_nil]); first | done | rfl | (simp only [List.length_drop, List.length_take]; rfl)) ?_; (with_reducible refine (wide_calls s (q + 1) hs.out (by omega) _).mono ?_); rintro e w8 ⟨rfl, hH, hb⟩; refine ⟨_, rfl, ?_⟩; have Hb := Aside0.mk (below_of_drawn hb); clear hb; obtain ⟨g, hg⟩ : ∃ g, g = (w.drewN nd).heap.size := ⟨_, rfl⟩; have Hg := Aside0.mk (show w.heap.size ≤ g by rw [hg]; exact drewN_size w nd); rw [← hg] at hH ⊢; clear hg; rw [← Hl.out] at hH; have hcell := (blk_cell hH q).trans HC.out; have hfro := blk_frozen hH q; have hH1 := set_bit (q := q) (putBit b m false) HB1.out hH; have HB := Aside0.mk (below_at Hb.out Hg.out q (.int .u8 b1)); have hcell1 := (blk_cell hH1 q).trans (set_at l q (putBit b m false) b1 HB1.out HQ.out); have hfro1 := blk_frozen hH1 q; have hH2 := set_bit (q := q) (putBit b m true) rfl hH1; rw [List.set_set] at hH2; have HB2 := Aside0.mk (below_at HB.out Hg.out q (.int .u8 ((putBit b m true).toNat : Int))); have hv := conv_all _ g _ (max (q + 1) s.size) (by rw [List.length_set, Hn.out]) hH2; clear hH hH1 hH2))
    go_ret3
    exact ⟨rfl, HB2.out⟩
set_option maxHeartbeats 4000000 in
set_option maxRecDepth 100000 in
theorem bit_err (s : ByteArray) (a1 : Int) (ho : (decide (a1 < 0) || decide (8388608 ≤ a1)) = true) (w : World) :
    Calls Try.prog 20 #[.string s, .int .i64 a1] w fun e w' => e = .returned (.tuple #[.int .i64 0, .int .i64 3]) ∧ Drawn0 w w' := by
  have hcall := out_calls a1
  rw [ho] at hcall
  have Hc := Aside0.mk hcall
  clear ho hcall
  go_enter Try.func20, Try.ntmps20
  go_wp2_with (first | ((with_reducible refine gate_callee (f := 33) rfl ?_); refine goesL_ (some 7) rfl rfl Try.func33 (by kernel_rfl) rfl #[.int .i64 a1] rfl (by (try simp only [List.map_toArray, List.map_cons, List.map_nil]); first | done | rfl | (simp only [List.length_drop, List.length_take]; rfl)) ?_; (with_reducible refine (Hc.out _).mono ?_); rintro e w' ⟨rfl, ⟨nd, rfl⟩⟩; refine ⟨_, rfl, ?_⟩))
  go_ret2
  exact ⟨rfl, by repeat (first | exact Drawn0.refl _ | apply Drawn0.step)⟩
theorem below_drawnN (w : World) (n : Nat) : Below w.heap.size w (w.drewN n) := ⟨rfl, rfl, rfl, Nat.le_refl _, fun _ _ => rfl⟩
set_option maxHeartbeats 4000000 in
set_option maxRecDepth 100000 in
theorem setbit_err (s : ByteArray) (a1 a2 : Int) (ho : (decide (a1 < 0) || decide (8388608 ≤ a1)) = true) (w : World) :
    Calls Try.prog 22 #[.string s, .int .i64 a1, .int .i64 a2] w fun e w' => e = .returned (.tuple #[.string ⟨#[]⟩, .int .i64 0, .int .i64 3]) ∧ Below w.heap.size w w' := by
  have Hbit := Aside0.mk (bit_err s a1 ho)
  clear ho
  go_enter Try.func22, Try.ntmps22
  go_wp2_with (first | ((with_reducible refine gate_callee (f := 20) rfl ?_); refine goesL_ (some 16) rfl rfl Try.func20 (by kernel_rfl) rfl #[.string s, .int .i64 a1] rfl (by (try simp only [List.map_toArray, List.map_cons, List.map_nil]); first | done | rfl | (simp only [List.length_drop, List.length_take]; rfl)) ?_; (with_reducible refine (Hbit.out _).mono ?_); rintro e w' ⟨rfl, ⟨nd, rfl⟩⟩; refine ⟨_, rfl, ?_⟩))
  go_ret3
  exact ⟨rfl, below_drawnN _ _⟩
set_option maxHeartbeats 4000000 in
set_option maxRecDepth 100000 in
theorem setbit_bad (s : ByteArray) (a1 a2 : Int) (q m : Nat) (hz : a2 ≠ 0) (hz1 : a2 ≠ 1) (h0 : decide (a1 < 0) = false) (h1 : decide (8388608 ≤ a1) = false) (hq : IntKind.i64.wrap (Int.tdiv a1 8) = (q : Int)) (hm : IntKind.i64.wrap (7 - Int.tmod a1 8) = (m : Int)) (hm7 : m ≤ 7) (w : World) :
    Calls Try.prog 22 #[.string s, .int .i64 a1, .int .i64 a2] w fun e w' => e = .returned (.tuple #[.string ⟨#[]⟩, .int .i64 0, .int .i64 2]) ∧ Below w.heap.size w w' := by
  have Hbit := Aside0.mk (bit_calls s a1 q m h0 h1 hq hm hm7)
  have c1 : (a2 == 0) = false := beq_eq_false_iff_ne.2 hz
  have c2 : (a2 == 1) = false := beq_eq_false_iff_ne.2 hz1
  have c3 : (a2 != 0) = true := bne_iff_ne.2 hz
  have c4 : (a2 != 1) = true := bne_iff_ne.2 hz1
  have c5 : decide (a2 = 0) = false := decide_eq_false hz
  have c6 : decide (a2 = 1) = false := decide_eq_false hz1
  clear h0 h1 hq hm hm7
  go_enter Try.func22, Try.ntmps22
  go_wp2_with (first | ((with_reducible refine gate_callee (f := 20) rfl ?_); refine goesL_ (some 16) rfl rfl Try.func20 (by kernel_rfl) rfl #[.string s, .int .i64 a1] rfl (by (try simp only [List.map_toArray, List.map_cons, List.map_nil]); first | done | rfl | (simp only [List.length_drop, List.length_take]; rfl)) ?_; (with_reducible refine (Hbit.out _).mono ?_); rintro e w' ⟨rfl, ⟨nd, rfl⟩⟩; refine ⟨_, rfl, ?_⟩))

  go_ret3
  exact ⟨rfl, below_drawnN _ _⟩
def str_SetBit.f (a0 : ByteArray) (a1 a2 : Int) : Option (ByteArray × Int × Int) :=
  if a1 < 0 ∨ 8388608 ≤ a1 then some (⟨#[]⟩, 0, 3) else if a2 ≠ 0 ∧ a2 ≠ 1 then some (⟨#[]⟩, 0, 2)
  else if a0.size ≤ 140737488351232 then some (⟨((wideL a0.data.toList (a1.toNat / 8 + 1)).set (a1.toNat / 8) (putBit ((wideL a0.data.toList (a1.toNat / 8 + 1)).getD (a1.toNat / 8) 0) (7 - a1.toNat % 8) (decide (a2 = 1)))).toArray⟩, bitAt a0 (a1.toNat / 8) (7 - a1.toNat % 8), 0) else none
theorem str_SetBit.calls (a0 : ByteArray) (a1 a2 : Int) (r1 : ByteArray) (r2 r3 : Int) (w : World) (h : str_SetBit.f a0 a1 a2 = some (r1, r2, r3)) :
    Calls Try.prog 22 #[.string a0, .int .i64 a1, .int .i64 a2] w fun e w' => e = .returned (.tuple #[.string r1, .int .i64 r2, .int .i64 r3]) ∧ Below w.heap.size w w' := by
  unfold str_SetBit.f at h
  by_cases h0 : a1 < 0 ∨ 8388608 ≤ a1
  · rw [if_pos h0] at h
    simp only [Option.some.injEq, Prod.mk.injEq] at h
    obtain ⟨rfl, rfl, rfl⟩ := h
    exact setbit_err a0 a1 a2 (by simpa using h0) w
  · rw [if_neg h0] at h
    obtain ⟨k, rfl⟩ : ∃ k : Nat, a1 = k := ⟨a1.toNat, by omega⟩
    have hk : k < 8388608 := by omega
    simp only [Int.toNat_natCast] at h
    have hq : IntKind.i64.wrap (Int.tdiv (k : Int) 8) = ((k / 8 : Nat) : Int) := by
      rw [IntKind.wrap_i64, Int.tdiv_eq_ediv_of_nonneg (by omega)]; omega
    have hm : IntKind.i64.wrap (7 - Int.tmod (k : Int) 8) = ((7 - k % 8 : Nat) : Int) := by
      rw [IntKind.wrap_i64, Int.tmod_eq_emod_of_nonneg (by omega)]; omega
    have c0 : decide ((k : Int) < 0) = false := decide_eq_false (by omega)
    have c1 : decide (8388608 ≤ (k : Int)) = false := decide_eq_false (by omega)
    by_cases h1 : a2 ≠ 0 ∧ a2 ≠ 1
    · rw [if_pos h1] at h
      simp only [Option.some.injEq, Prod.mk.injEq] at h
      obtain ⟨rfl, rfl, rfl⟩ := h
      exact setbit_bad a0 k a2 (k / 8) (7 - k % 8) h1.1 h1.2 c0 c1 hq hm (by omega) w
    · rw [if_neg h1] at h
      by_cases h4 : a0.size ≤ 140737488351232
      · rw [if_pos h4] at h
        simp only [Option.some.injEq, Prod.mk.injEq] at h
        obtain ⟨rfl, rfl, rfl⟩ := h
        have := setbit_calls a0 k (k / 8) (7 - k % 8) (decide (a2 = 1)) ⟨h4⟩ (by omega) c0 c1 hq hm (by omega) w
        have e : (if decide (a2 = 1) = true then (1 : Int) else 0) = a2 := by
          by_cases ha : a2 = 1
          · simp [ha]
          · have : a2 = 0 := by omega
            simp [this]
        rw [e] at this
        exact this
      · rw [if_neg h4] at h; cases h
end Go.Proofs.Ytjinfomobjocfaa.X
