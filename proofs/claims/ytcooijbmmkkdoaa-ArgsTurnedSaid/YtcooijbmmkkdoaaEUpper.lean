/- The contract of table.Upper, walked by hand: small letters of a to z become great ones. -/
import Derived.Test.YtcooijbmmkkdoaaProg
import Derived.Test.YtcooijbmmkkdoaaWWords
import Derived.Test.YtcooijbmmkkdoaaWMore
import Derived.Test.YtcooijbmmkkdoaaWLast
import Derived.Test.YtcooijbmmkkdoaaY
import Derived.WalkKit
import Derived.WalkLawsBesides
import Derived.WalkSpells
import Derived.Deep.OwnRows
import Derived.Laws.IdiomStrings
import Derived.Laws.BytesArg
namespace Go.Proofs.Ytcooijbmmkkdoaa.X
open Go.RowKit Go.Proofs.YtcooijbmmkkdoaaW.PrintWords Go.Proofs.YtcooijbmmkkdoaaW.PrintMore Go.Proofs.YtcooijbmmkkdoaaW.PrintLast
set_option linter.unusedVariables false
set_option linter.unusedSimpArgs false
def upC (c : UInt8) : UInt8 := if 97 ≤ c.toNat ∧ c.toNat ≤ 122 then UInt8.ofNat (c.toNat - 32) else c
def cellsU (l : List UInt8) (pad : Nat) : Array Value := ((l.map fun b : UInt8 => Value.int .u8 b.toNat) ++ List.replicate pad (Value.int .u8 0)).toArray
theorem cellsU_row (s : ByteArray) (cap : Nat) : bytesRow s cap = cellsU s.data.toList (cap - s.size) := by
  unfold bytesRow cellsU
  apply Array.toList_inj.1
  simp
theorem cellsU_size (l : List UInt8) (pad : Nat) : (cellsU l pad).size = l.length + pad := by simp [cellsU]
theorem cellsU_at (l : List UInt8) (pad i : Nat) (h : i < l.length) : (cellsU l pad)[i]? = some (.int .u8 (l[i].toNat : Int)) := by
  simp [cellsU, List.getElem?_append, h]
theorem cellsU_get (l : List UInt8) (pad i : Nat) (h : i < l.length) : (cellsU l pad)[i]? = some (.int .u8 ((l.map fun b => (b.toNat : Int)).getD i 0)) := by
  rw [cellsU_at l pad i h]
  simp [h]
theorem cellsU_set (l : List UInt8) (pad i : Nat) (b : UInt8) (h : i < l.length) : (cellsU l pad).setIfInBounds i (.int .u8 b.toNat) = cellsU (l.set i b) pad := by
  unfold cellsU
  rw [List.setIfInBounds_toArray, List.set_append_left _ _ (by simpa using h), List.map_set]
/-- The bytes with the first ones turned. -/
def turnU (l : List UInt8) (i : Nat) : List UInt8 := (l.take i).map upC ++ l.drop i
theorem turnU_len (l : List UInt8) (i : Nat) (h : i ≤ l.length) : (turnU l i).length = l.length := by simp [turnU]; omega
theorem turnU_at (l : List UInt8) (i : Nat) (h : i < l.length) : (turnU l i)[i]? = some l[i] := by
  unfold turnU
  rw [List.getElem?_append_right (by simp; omega)]
  have e : i - ((l.take i).map upC).length = 0 := by simp; omega
  rw [e]
  simp [h]
theorem turnU_next (l : List UInt8) (i : Nat) (h : i < l.length) : (turnU l i).set i (upC l[i]) = turnU l (i + 1) := by
  unfold turnU
  rw [List.set_append_right _ _ (by simp; omega)]
  have e : i - (List.map upC (List.take i l)).length = 0 := by simp; omega
  rw [e, List.drop_eq_getElem_cons h, List.set_cons_zero, List.take_succ_eq_append_getElem h, List.map_append]
  simp
theorem turnU_end (l : List UInt8) : turnU l l.length = l.map upC := by simp [turnU]
theorem turnU_zero (l : List UInt8) : turnU l 0 = l := by simp [turnU]
theorem mblk_set {w : World} {g : Nat} {t : TypeId} {cs : Array Value} {fr : Nat × Nat} (h : w.heap[g]? = some (.cells cs t fr)) (i : Nat) (u : Value) : (w.setCell ⟨g, i, none⟩ u).heap[g]? = some (.cells (cs.setIfInBounds i u) t fr) := by
  simp [World.setCell, Array.getElem?_modify, h]
theorem mblk_frozen {w : World} {g : Nat} {t : TypeId} {cs : Array Value} {m : Nat} (h : w.heap[g]? = some (.cells cs t (m, m + 1))) (i : Nat) (hi : i < m) : w.frozen? ⟨g, i, none⟩ = false := by
  simp [World.frozen?, h]; omega
theorem below_cellU {w wr : World} {g j : Nat} {v : Value} (h : Below w.heap.size w wr) (hg : w.heap.size ≤ g) : Below w.heap.size w (wr.setCell ⟨g, j, none⟩ v) := h.setCell (by simpa using hg) _
def RelU (g : Nat) (w : World) (l : List UInt8) (pad : Nat) (v10 : Value) (wr : World) : Prop :=
  ∃ i : Nat, v10 = .int .i64 i ∧ i ≤ l.length ∧ wr.heap[g]? = some (.cells (cellsU (turnU l i) pad) 5 (l.length + pad, l.length + pad + 1)) ∧ Below w.heap.size w wr
theorem upC_low (c : UInt8) (h : 97 ≤ c.toNat) (h2 : c.toNat ≤ 122) : ((upC c).toNat : Int) = IntKind.u8.wrap (IntKind.u8.wrap ((c.toNat : Int) - 97) + 65) := by
  unfold upC
  rw [if_pos ⟨h, h2⟩, UInt8.toNat_ofNat', IntKind.wrap_u8, IntKind.wrap_u8]
  omega
theorem conv_U (W : World) (g : Nat) (l : List UInt8) (pad n c : Nat) (fr : Nat × Nat) (hn : l.length = n) (hW : W.heap[g]? = some (.cells (cellsU l pad) 5 fr)) :
    (convert 69 9 (.slice (some ⟨g, 0, none⟩) n c)).run Try.prog W = .ok (.string ⟨l.toArray⟩) W := by
  have h := run_convert_bytes_arg (P := Try.prog) W 69 5 Try.underlying69 Try.underlying5 g 0 n c (l.map fun b => (b.toNat : Int)) (by simpa using hn) (fun i hi => by
    rw [Nat.zero_add]
    exact (cell_of_row W g i _ _ _ hW).trans (cellsU_get l pad i (by omega))) 9 Try.underlying9
  rw [h]
  congr 2
  simp [strOfNums, Function.comp_def]
set_option maxHeartbeats 4000000 in
set_option maxRecDepth 100000 in
theorem upper_calls (s : ByteArray) (hs : s.size ≤ 140737488351232) (w : World) :
    Calls Try.prog 23 #[.string s] w fun e w' => e = .returned (.string ⟨(s.data.toList.map upC).toArray⟩) ∧ Below w.heap.size w w' := by
  have hl : s.size = s.data.toList.length := Array.length_toList.symm
  obtain ⟨l, hll⟩ : ∃ l, l = s.data.toList := ⟨_, rfl⟩
  have hm := run_bytes_of_string (P := Try.prog) w 9 69 5 s Try.underlying9 Try.underlying69 Try.underlying5
  rw [cellsU_row, ← hll, cellsU_size] at hm
  rw [← hll] at hl
  obtain ⟨cp, hcp⟩ : ∃ c, c = grownCap w s.size 0 5 := ⟨_, rfl⟩
  obtain ⟨pad, hpad⟩ : ∃ p, p = cp - s.size := ⟨_, rfl⟩
  rw [← hcp, ← hpad] at hm
  rw [← hll]
  have hH := blk_new w.drew (.cells (cellsU l pad) 5 (l.length + pad, l.length + pad + 1))
  have hBd : Below w.heap.size w w.drew := ⟨rfl, rfl, rfl, Nat.le_refl _, fun _ _ => rfl⟩
  have hB := below_alloc hBd (.cells (cellsU l pad) 5 (l.length + pad, l.length + pad + 1))
  rw [hl] at hm hs
  have HH := Aside0.mk hH
  have HB := Aside0.mk hB
  clear hH hB hBd hcp hpad hll hl
  go_enter Try.func23, Try.ntmps23
  go_wp2
  go_loopw [10] (fun v10 wr => RelU w.heap.size w l pad v10 wr) (fun v10 _ => (l.length : Int).toNat - (intOf v10).toNat)
  case atStart => exact ⟨0, rfl, by omega, by rw [turnU_zero]; exact HH.out, HB.out⟩
  case round =>
    clear hm HH HB
    obtain ⟨i, rfl, hi, hW, hB⟩ := hrel
    have HW := Aside0.mk hW
    have HB := Aside0.mk hB
    by_cases hlt : i < l.length
    · have hc1 : decide ((i : Int) < (l.length : Int)) = true := decide_eq_true (by omega)
      have hc2 : decide (i < l.length) = true := decide_eq_true hlt
      obtain ⟨c, hc⟩ : ∃ c, c = l[i] := ⟨_, rfl⟩
      have hcell : wr.cell? ⟨w.heap.size, i, none⟩ = some (.int .u8 (c.toNat : Int)) := by
        rw [cell_of_row wr w.heap.size i _ _ _ hW, cellsU_at _ pad i (by rw [turnU_len l i hi]; exact hlt)]
        have := turnU_at l i hlt
        rw [List.getElem?_eq_getElem (by rw [turnU_len l i hi]; exact hlt)] at this
        rw [Option.some.inj this, hc]
      have hfro : wr.frozen? ⟨w.heap.size, i, none⟩ = false := mblk_frozen hW i (by omega)
      have hnext := turnU_next l i hlt
      rw [← hc] at hnext
      by_cases h1 : 97 ≤ c.toNat ∧ c.toNat ≤ 122
      · have d1 : decide (97 ≤ (c.toNat : Int)) = true := decide_eq_true (by omega)
        have d2 : decide ((c.toNat : Int) ≤ 122) = true := decide_eq_true (by omega)
        have d3 : decide (97 ≤ c.toNat) = true := decide_eq_true h1.1
        have d4 : decide (c.toNat ≤ 122) = true := decide_eq_true h1.2
        have hv := upC_low c h1.1 h1.2
        obtain ⟨V, hV⟩ : ∃ V : Int, V = ((upC c).toNat : Int) := ⟨_, rfl⟩
        rw [← hV] at hv
        have hW2 := mblk_set hW i (.int .u8 V)
        rw [hV, cellsU_set _ pad i (upC c) (by rw [turnU_len l i hi]; exact hlt), hnext, ← hV] at hW2
        have hB2 := below_cellU (g := w.heap.size) (j := i) (v := .int .u8 V) hB (Nat.le_refl _)
        obtain ⟨U, hU⟩ : ∃ U : Int, U = IntKind.u8.wrap ((c.toNat : Int) - 97) := ⟨_, rfl⟩
        rw [← hU] at hv
        have hU' := hU.symm
        have hv' := hv.symm
        have HW2 := Aside0.mk hW2
        have HB2 := Aside0.mk hB2
        have Hc := Aside0.mk hc
        have H1 := Aside0.mk h1
        clear hW hB hW2 hB2 hV hv hU hc hnext h1
        obtain ⟨C, hC⟩ : ∃ C : Int, C = (c.toNat : Int) := ⟨_, rfl⟩
        rw [← hC] at hcell d1 d2 hU'
        have d5 := eq_true (of_decide_eq_true d1)
        clear hC d3 d4
        go_wp2
        go_roundw
        case rel => exact ⟨i + 1, by simp, by omega, HW2.out, HB2.out⟩
        case measure => simp [intOf]; omega
      · have hup : upC c = c := by unfold upC; rw [if_neg h1]
        have hsame : turnU l i = turnU l (i + 1) := by
          rw [← hnext, hup, hc]
          apply List.ext_getElem?
          intro j
          by_cases hj : i = j
          · subst hj
            rw [turnU_at l i hlt, List.getElem?_set_self (by rw [turnU_len l i hi]; exact hlt)]
          · rw [List.getElem?_set_ne hj]
        rw [hsame] at hW
        have HW2 := Aside0.mk hW
        obtain ⟨C, hC⟩ : ∃ C : Int, C = (c.toNat : Int) := ⟨_, rfl⟩
        rw [← hC] at hcell
        by_cases h2 : 97 ≤ c.toNat
        · have d1 : decide (97 ≤ C) = true := decide_eq_true (by omega)
          have d2 : decide (C ≤ 122) = false := decide_eq_false (by omega)
          clear hW hB hnext h1 h2 hC hc hup hsame
          go_wp2
          go_roundw
          case rel => exact ⟨i + 1, by simp, by omega, HW2.out, HB.out⟩
          case measure => simp [intOf]; omega
        · have d1 : decide (97 ≤ C) = false := decide_eq_false (by omega)
          clear hW hB hnext h1 h2 hC hc hup hsame
          go_wp2
          go_roundw
          case rel => exact ⟨i + 1, by simp, by omega, HW2.out, HB.out⟩
          case measure => simp [intOf]; omega
    · have hc1 : decide ((i : Int) < (l.length : Int)) = false := decide_eq_false (by omega)
      have hc2 : decide (i < l.length) = false := decide_eq_false hlt
      have hie : i = l.length := by omega
      have hW' := hW
      rw [hie, turnU_end] at hW'
      have hv := conv_U wr w.heap.size (l.map upC) pad l.length cp _ (by simp) hW'
      clear hW hW' hB hlt hie
      go_wp2
      go_ret
      exact ⟨rfl, HB.out⟩
def table_Upper.f (a0 : ByteArray) : Option ByteArray := if a0.size ≤ 140737488351232 then some ⟨(a0.data.toList.map upC).toArray⟩ else none
theorem table_Upper.calls (a0 r : ByteArray) (w : World) (h : table_Upper.f a0 = some r) :
    Calls Try.prog 23 #[.string a0] w fun e w' => e = .returned (.string r) ∧ Below w.heap.size w w' := by
  unfold table_Upper.f at h
  by_cases hs : a0.size ≤ 140737488351232
  · rw [if_pos hs] at h
    simp only [Option.some.injEq] at h
    subst h
    exact upper_calls a0 hs w
  · rw [if_neg hs] at h; cases h
end Go.Proofs.Ytcooijbmmkkdoaa.X
