/- The deque's Pop at its beginning, for jobs. -/
import Derived.Test.YtnegagkjhnpgmaaScPush
namespace Go.Proofs.Ytnegagkjhnpgmaa.Sc
open Go.RowKit Go.Proofs.YtnegagkjhnpgmaaW.PrintWords Go.Proofs.YtnegagkjhnpgmaaW.PrintMore Go.Proofs.YtnegagkjhnpgmaaW.PrintLast Go.Proofs.Ytnegagkjhnpgmaa.Dq
set_option linter.unusedVariables false
set_option linter.unusedSimpArgs false
attribute [local go_sem ↓] Go.wp_at_zero Go.wp_at_succ
/-- A deque in the midst of a doing. -/
structure PtJ (W : World) (base g r : Nat) (R : List Jb) (f n : Int) : Prop where
  hg : base ≤ g
  blk : W.heap[g]? = some (.cells #[.slice (some ⟨r, 0, none⟩) R.length R.length, .int .i64 f, .int .i64 n] 66 (0, 0))
  room : Room W r R
  hr : base ≤ r
theorem PtJ.ne {W : World} {base g r : Nat} {R : List Jb} {f n : Int} (h : PtJ W base g r R f n) : r ≠ g := by
  intro e
  subst e
  have := h.blk
  have hr := h.room
  unfold Room at hr
  rw [hr] at this
  injection this with this
  injection this with _ this
  exact absurd this (by decide)
theorem PtJ.below {W W1 : World} {base g r : Nat} {R : List Jb} {f n : Int} (h : PtJ W base g r R f n) (hb : Below W.heap.size W W1) : PtJ W1 base g r R f n :=
  ⟨h.hg, (hb.block g (blk_lt h.blk)).trans h.blk, h.room.below hb, h.hr⟩
theorem PtJ.other {W : World} {base g r q j : Nat} {R : List Jb} {f n : Int} (h : PtJ W base g r R f n) (h1 : g ≠ q) (h2 : r ≠ q) (v : Value) : PtJ (W.setCell ⟨q, j, none⟩ v) base g r R f n :=
  ⟨h.hg, (heap_other h1 v).trans h.blk, (heap_other h2 v).trans h.room, h.hr⟩
theorem PtJ.setf {W : World} {base g r : Nat} {R : List Jb} {f n : Int} (h : PtJ W base g r R f n) (f' : Int) : PtJ (W.setCell ⟨g, 1, none⟩ (.int .i64 f')) base g r R f' n :=
  ⟨h.hg, blk_put h.blk 1 _ rfl, (heap_other h.ne _).trans h.room, h.hr⟩
theorem PtJ.setn {W : World} {base g r : Nat} {R : List Jb} {f n : Int} (h : PtJ W base g r R f n) (n' : Int) : PtJ (W.setCell ⟨g, 2, none⟩ (.int .i64 n')) base g r R f n' :=
  ⟨h.hg, blk_put h.blk 2 _ rfl, (heap_other h.ne _).trans h.room, h.hr⟩
theorem PtJ.setr {W : World} {base g r : Nat} {R : List Jb} {f n : Int} (h : PtJ W base g r R f n) (i : Nat) (hi : i < R.length) (x : Jb) : PtJ (s4 W r i x) base g r (R.set i x) f n :=
  ⟨h.hg, by rw [List.length_set]; exact (s4_other (fun e => h.ne e.symm) x).trans h.blk, h.room.set i hi x, h.hr⟩
theorem PtJ.cells {W : World} {base g r : Nat} {R : List Jb} {f n : Int} (h : PtJ W base g r R f n) : W.cell? ⟨g, 0, none⟩ = some (.slice (some ⟨r, 0, none⟩) R.length R.length) ∧ W.cell? ⟨g, 1, none⟩ = some (.int .i64 f) ∧ W.cell? ⟨g, 2, none⟩ = some (.int .i64 n) ∧ W.frozen? ⟨g, 0, none⟩ = false ∧ W.frozen? ⟨g, 1, none⟩ = false ∧ W.frozen? ⟨g, 2, none⟩ = false :=
  ⟨(blk_cell h.blk 0).trans rfl, (blk_cell h.blk 1).trans rfl, (blk_cell h.blk 2).trans rfl, blk_frozen h.blk 0, blk_frozen h.blk 1, blk_frozen h.blk 2⟩
theorem PtJ.drew {W : World} {base g r : Nat} {R : List Jb} {f n : Int} (h : PtJ W base g r R f n) : PtJ (World.drew W) base g r R f n := ⟨h.hg, h.blk, h.room, h.hr⟩
theorem DqA.pt {W : World} {base g r f : Nat} {R l : List Jb} (h : DqA W base g (some ⟨r, 0, none⟩) R f l) (h0 : 0 < R.length) : PtJ W base g r R f l.length := by
  rcases h.room with e | ⟨r', e, hR, hb⟩
  · rw [e.1] at h0; exact absurd h0 (by simp)
  · injection e with e
    injection e with e _ _
    subst e
    exact ⟨h.hg, h.blk, hR, hb⟩
theorem PtJ.dq {W : World} {base g r f : Nat} {R l : List Jb} (h : PtJ W base g r R f (l.length : Nat)) (hrep : Rep R f l) (hc : R.length ≤ 2097152) : DqJ W base g (some ⟨r, 0, none⟩) l := ⟨R, f, h.hg, h.blk, .inr ⟨r, rfl, h.room, h.hr⟩, hrep, hc⟩
theorem Fr.more {w W W1 : World} {base g : Nat} {A A' : Option Addr} (h : Fr w W base g A A') (hb : Below W.heap.size W W1) (hbase : base ≤ w.heap.size) : Fr w W1 base g A A' :=
  ⟨Nat.le_trans h.size hb.size, fun k hk hg hA => (hb.block k (Nat.lt_of_lt_of_le hk h.size)).trans (h.keep k hk hg hA), fun w0 e hb0 => below_all hb (by have := h.size; omega) (h.below w0 e hb0), h.row⟩
theorem Fr.set {w W : World} {base g q j : Nat} {A A' : Option Addr} (h : Fr w W base g A A') (hq : base ≤ q) (h1 : q = g ∨ w.heap.size ≤ q ∨ A = some ⟨q, 0, none⟩) (v : Value) : Fr w (W.setCell ⟨q, j, none⟩ v) base g A A' := by
  refine ⟨by rw [size_set]; exact h.size, fun k hk hg hA => ?_, fun w0 e hb0 => below_set (h.below w0 e hb0) (by rw [e]; exact hq), h.row⟩
  have hne : k ≠ q := by
    rcases h1 with e | e | e
    · rw [e]; exact hg
    · omega
    · exact hA q e
  rw [heap_other hne]
  exact h.keep k hk hg hA
theorem Fr.set4 {w W : World} {base g q i : Nat} {A A' : Option Addr} (h : Fr w W base g A A') (hq : base ≤ q) (h1 : q = g ∨ w.heap.size ≤ q ∨ A = some ⟨q, 0, none⟩) (x : Jb) : Fr w (s4 W q i x) base g A A' := (((h.set hq h1 _).set hq h1 _).set hq h1 _).set hq h1 _
theorem Fr.drew {w W : World} {base g : Nat} {A A' : Option Addr} (h : Fr w W base g A A') : Fr w (World.drew W) base g A A' := ⟨h.size, h.keep, fun w0 e hb0 => below_drew (h.below w0 e hb0), h.row⟩
theorem cells4 {w : World} {g : Nat} {t : TypeId} {c0 c1 c2 c3 : Value} (h : w.heap[g]? = some (.cells #[c0, c1, c2, c3] t (0, 0))) :
    w.cell? ⟨g, 0, none⟩ = some c0 ∧ w.cell? ⟨g, 1, none⟩ = some c1 ∧ w.cell? ⟨g, 2, none⟩ = some c2 ∧ w.cell? ⟨g, 3, none⟩ = some c3 ∧ w.frozen? ⟨g, 0, none⟩ = false ∧ w.frozen? ⟨g, 1, none⟩ = false ∧ w.frozen? ⟨g, 2, none⟩ = false ∧ w.frozen? ⟨g, 3, none⟩ = false :=
  ⟨(blk_cell h 0).trans rfl, (blk_cell h 1).trans rfl, (blk_cell h 2).trans rfl, (blk_cell h 3).trans rfl, blk_frozen h 0, blk_frozen h 1, blk_frozen h 2, blk_frozen h 3⟩
theorem old_blk {w W : World} {g : Nat} {o : Obj} (h : w.heap[g]? = some o) (hb : Below w.heap.size w W) : W.heap[g]? = some o := (hb.block g (blk_lt h)).trans h
theorem put4 {w : World} {g : Nat} {t : TypeId} {c0 c1 c2 c3 : Value} (h : w.heap[g]? = some (.cells #[c0, c1, c2, c3] t (0, 0))) (v0 v1 v2 v3 : Value) :
    ((((w.setCell ⟨g, 0, none⟩ v0).setCell ⟨g, 1, none⟩ v1).setCell ⟨g, 2, none⟩ v2).setCell ⟨g, 3, none⟩ v3).heap[g]? = some (.cells #[v0, v1, v2, v3] t (0, 0)) := blk_put (blk_put (blk_put (blk_put h 0 v0 rfl) 1 v1 rfl) 2 v2 rfl) 3 v3 rfl
theorem cells_far {W : World} {g r f4 j : Nat} {v v0 v1 v2 v3 : Value} (hne : r ≠ g) (h : W.cell? ⟨r, f4, none⟩ = some v0 ∧ W.cell? ⟨r, f4 + 1, none⟩ = some v1 ∧ W.cell? ⟨r, f4 + 2, none⟩ = some v2 ∧ W.cell? ⟨r, f4 + 3, none⟩ = some v3) :
    (W.setCell ⟨g, j, none⟩ v).cell? ⟨r, f4, none⟩ = some v0 ∧ (W.setCell ⟨g, j, none⟩ v).cell? ⟨r, f4 + 1, none⟩ = some v1 ∧ (W.setCell ⟨g, j, none⟩ v).cell? ⟨r, f4 + 2, none⟩ = some v2 ∧ (W.setCell ⟨g, j, none⟩ v).cell? ⟨r, f4 + 3, none⟩ = some v3 := by
  have e := heap_other (w := W) (k := r) (g := g) (j := j) hne v
  exact ⟨(cell_keep e _).trans h.1, (cell_keep e _).trans h.2.1, (cell_keep e _).trans h.2.2.1, (cell_keep e _).trans h.2.2.2⟩
theorem cells_fr {w W : World} {base g r f4 : Nat} {A A' : Option Addr} {R : List Jb} {v0 v1 v2 v3 : Value} (h : w.cell? ⟨r, f4, none⟩ = some v0 ∧ w.cell? ⟨r, f4 + 1, none⟩ = some v1 ∧ w.cell? ⟨r, f4 + 2, none⟩ = some v2 ∧ w.cell? ⟨r, f4 + 3, none⟩ = some v3) (hb : Below w.heap.size w W) (hR : Room w r R) :
    W.cell? ⟨r, f4, none⟩ = some v0 ∧ W.cell? ⟨r, f4 + 1, none⟩ = some v1 ∧ W.cell? ⟨r, f4 + 2, none⟩ = some v2 ∧ W.cell? ⟨r, f4 + 3, none⟩ = some v3 :=
  ⟨cell_below h.1 hb, cell_below h.2.1 hb, cell_below h.2.2.1 hb, cell_below h.2.2.2 hb⟩
theorem store_event2 {P : Program} {ops : Array Oper} {rest : List Oper} {o : Oper} {a : Act} {Q : Exit → Act → World → Prop} {W w1 : World} (hgd : o.guard = none) (hN : o.dst = none)
    (hrun : (execOp a.eval o).run P W = .ok .skip w1) (h : ∀ w', w' = w1 → wpList P ops Q rest a w') : wpList P ops Q (o :: rest) a W := by
  refine wpList_plain hgd fun K hK => ?_
  unfold Oper.wp
  rw [hrun]
  show K (a.put o.dst undef) w1
  rw [hN]
  exact hK _ _ (h _ rfl)
set_option maxHeartbeats 4000000 in
set_option maxRecDepth 100000 in
theorem pop_front (g base : Nat) (A : Option Addr) (x : Jb) (l : List Jb) (w : World) (h : DqJ w base g A (x :: l)) :
    Calls Try.prog 28 #[.pointer (some ⟨g, 0, none⟩), .bool true] w fun e w' => e = .returned (.tuple #[.agg #[.int .i64 x.h, .slice x.A x.n x.c, .int .i64 x.sz, .string x.ft], .bool true]) ∧ DqJ w' base g A l ∧ Fr w w' base g A A := by
  have hu := Try.underlying29
  obtain ⟨R, f, hd⟩ := h
  have hle := hd.rep.le
  simp only [List.length_cons] at hle
  obtain ⟨r, e, hR, hbr⟩ : ∃ r, A = some ⟨r, 0, none⟩ ∧ Room w r R ∧ base ≤ r := by
    rcases hd.room with e | h'
    · rw [e.1] at hle; exact absurd hle (by simp)
    · exact h'
  subst e
  have hfr : f < R.length := by have := hd.rep.fr; omega
  have hxf : R[f]'hfr = x := by
    have := hd.rep.at_ 0 (by simp)
    rw [slotN_zero hfr] at this
    rw [List.getElem?_eq_getElem hfr] at this
    simpa using this
  obtain ⟨y0, y1, y2, y3⟩ := hR.at f hfr
  rw [hxf] at y0 y1 y2 y3
  obtain ⟨xh, xA, xn, xc, xs, xf⟩ := x
  have P0 := Aside0.mk (hd.pt (by omega))
  have HREP := Aside0.mk hd.rep
  have HCAP := Aside0.mk hd.cap
  have HBASE := Aside0.mk (show base ≤ w.heap.size by have := hd.hg; have := hd.lt; omega)
  obtain ⟨m, hm⟩ : ∃ m, m = R.length := ⟨_, rfl⟩
  obtain ⟨n, hn⟩ : ∃ n : Nat, n = l.length := ⟨_, rfl⟩
  have hnn : ((List.length ((⟨xh, xA, xn, xc, xs, xf⟩ : Jb) :: l) : Nat) : Int) = (n : Int) + 1 := by simp [hn]
  rw [hnn] at P0
  obtain ⟨k0, k1, k2, z0, z1, z2⟩ := P0.out.cells
  have HFM := Aside0.mk (show f < m by rw [hm]; exact hfr)
  have HCM := Aside0.mk (show m ≤ 2097152 by rw [hm]; exact hd.cap)
  have HNM := Aside0.mk (show n + 1 ≤ m by rw [hm, hn]; exact hle)
  have HY := Aside0.mk (show w.cell? ⟨r, f * 4, none⟩ = some (.int .i64 xh) ∧ w.cell? ⟨r, f * 4 + 1, none⟩ = some (.slice xA xn xc) ∧ w.cell? ⟨r, f * 4 + 2, none⟩ = some (.int .i64 xs) ∧ w.cell? ⟨r, f * 4 + 3, none⟩ = some (.string xf) from ⟨y0, y1, y2, y3⟩)
  have HM := Aside0.mk hm
  have HN := Aside0.mk hn
  obtain ⟨s1, hs1⟩ : ∃ s1, s1 = slotN m f 1 := ⟨_, rfl⟩
  obtain ⟨s2, hs2⟩ : ∃ s2, s2 = slotN m f n := ⟨_, rfl⟩
  have HS1 := Aside0.mk (fun (W : World) h0 h1 => (show Calls Try.prog 37 #[.pointer (some ⟨g, 0, none⟩), .int .i64 1] W (fun e w' => e = .returned (.int .i64 (s1 : Nat)) ∧ W = w') from by rw [hs1]; exact slot_calls g f 1 m (some ⟨r, 0, none⟩) W h0 h1 (by have := HFM.out; omega) HCM.out (by have := HFM.out; have := HCM.out; have := HNM.out; omega)))
  have HS2 := Aside0.mk (fun (W : World) h0 h1 => (show Calls Try.prog 37 #[.pointer (some ⟨g, 0, none⟩), .int .i64 (n : Int)] W (fun e w' => e = .returned (.int .i64 (s2 : Nat)) ∧ W = w') from by rw [hs2]; exact slot_calls g f n m (some ⟨r, 0, none⟩) W h0 h1 (by have := HFM.out; omega) HCM.out (by have := HFM.out; have := HCM.out; have := HNM.out; omega)))
  have HS1E := Aside0.mk hs1
  have HLE := Aside0.mk (fun (W : World) (h : W.cell? ⟨g, 2, none⟩ = some (.int .i64 ((n : Int) + 1))) => (show Calls Try.prog 30 #[.pointer (some ⟨g, 0, none⟩)] W (fun e w' => e = .returned (.int .i64 ((n : Int) + 1)) ∧ W = w') from len_calls g (n + 1) W h))
  clear hd hle hR hbr hfr hxf y0 y1 y2 y3 hm hn hnn hs1 hs2
  rw [← HM.out] at k0
  go_enter Try.func28, Try.ntmps28
  have i1 : (0 : Int) ≤ (f : Int) := Int.natCast_nonneg _
  have i2 : (f : Int) < (m : Int) := by have := HFM.out; omega
  have i3 : ¬ ((n : Int) + 1 = 0) := by omega
  have i4 : decide ((n : Int) + 1 = 0) = false := decide_eq_false i3
  have i5 : (((n : Int) + 1) == 0) = false := beq_eq_false_iff_ne.2 i3
  have i6 : IntKind.i64.wrap ((n : Int) + 1 - 1) = (n : Int) := by have := HNM.out; have := HCM.out; rw [IntKind.wrap_i64]; omega
  have i7 : (n : Int) + 1 - 1 = (n : Int) := by omega
  have i8 : wrap64 (n : Int) = (n : Int) := by have := HNM.out; have := HCM.out; unfold wrap64; omega
  go_wp2_with (first | ((with_reducible refine gate_dst (N := 4) rfl ?_); refine box_event ?hg (N := 4) ?hd (cs := #[.int .i64 0, .slice none 0 0, .int .i64 0, .string (⟨#[]⟩ : ByteArray)]) (t := 29) ?hr ?_; (case hd => rfl); (case hg => rfl); (case hr => first | (go_simp; done) | (go_simp; rfl)); intro g4 hg w1 hbox hb; have GE4 := Aside0.mk (show w.heap.size ≤ g4 from by rw [hg]; exact Nat.le_refl _); have P := Aside0.mk (P0.out.below hb); have BEL := Aside0.mk hb; have FR := Aside0.mk ((Fr.refl w base g (some ⟨r, 0, none⟩)).more hb HBASE.out); have B4 := Aside0.mk (show w1.heap[g4]? = some (.cells #[.int .i64 0, .slice none 0 0, .int .i64 0, .string (⟨#[]⟩ : ByteArray)] 29 (0, 0)) from hbox); clear hbox hb hg) | ((with_reducible refine gate_dst (N := 6) rfl ?_); refine box_event ?hg (N := 6) ?hd (cs := #[.int .i64 0, .slice none 0 0, .int .i64 0, .string (⟨#[]⟩ : ByteArray)]) (t := 29) ?hr ?_; (case hd => rfl); (case hg => rfl); (case hr => first | (go_simp; done) | (go_simp; rfl)); intro g6 hg w2 hbox hb; have GE6 := Aside0.mk (show w.heap.size ≤ g6 from by rw [hg]; exact FR.out.size); have T_ := Aside0.mk (below_tr BEL.out hb); clear BEL; have BEL := T_; clear T_; have N46 := Aside0.mk (show g4 ≠ g6 from by rw [hg]; exact Nat.ne_of_lt (blk_lt B4.out)); have T_ := Aside0.mk (P.out.below hb); clear P; have P := T_; clear T_; have T_ := Aside0.mk (FR.out.more hb HBASE.out); clear FR; have FR := T_; clear T_; have T_ := Aside0.mk ((show w2.heap[g4]? = some (.cells #[.int .i64 0, .slice none 0 0, .int .i64 0, .string (⟨#[]⟩ : ByteArray)] 29 (0, 0)) from old_blk B4.out hb)); clear B4; have B4 := T_; clear T_; have B6 := Aside0.mk (show w2.heap[g6]? = some (.cells #[.int .i64 0, .slice none 0 0, .int .i64 0, .string (⟨#[]⟩ : ByteArray)] 29 (0, 0)) from hbox); clear k0 k1 k2 z0 z1 z2; obtain ⟨k0, k1, k2, z0, z1, z2⟩ := P.out.cells; clear hbox hb hg; have HX2 := Aside0.mk (cells_fr (base := base) (g := g) (A := none) (A' := none) HY.out BEL.out P0.out.room); have NG4 := Aside0.mk (show g ≠ g4 from by have := blk_lt P0.out.blk; have := GE4.out; omega); have NG6 := Aside0.mk (show g ≠ g6 from by have := blk_lt P0.out.blk; have := GE6.out; omega); have NR4 := Aside0.mk (show r ≠ g4 from by have := blk_lt P0.out.room; have := GE4.out; omega); have NR6 := Aside0.mk (show r ≠ g6 from by have := blk_lt P0.out.room; have := GE6.out; omega); rw [← HM.out] at k0) | (go_at_call 30; (with_reducible refine Calls.mono (HLE.out _ (by assumption)) ?_); rintro e w' ⟨rfl, rfl⟩) | (go_at_call 37; (with_reducible refine Calls.mono (HS2.out _ (by assumption) (by assumption)) ?_); rintro e w' ⟨rfl, rfl⟩) | (go_at_call 37; (with_reducible refine Calls.mono (HS1.out _ (by assumption) (by assumption)) ?_); rintro e w' ⟨rfl, rfl⟩) | ((with_reducible refine gate_store (t := 3) (p := 29) rfl ?_); refine store_event2 (w1 := w2.setCell ⟨g, 1, none⟩ (.int .i64 (s1 : Nat))) ?hg ?hn ?hr ?_; (case hg => rfl); (case hn => rfl); (case hr => first | (go_simp; done) | (go_simp; rfl)); intro w3 hW; have T_ := Aside0.mk ((show w3.heap[g4]? = some (.cells #[.int .i64 0, .slice none 0 0, .int .i64 0, .string (⟨#[]⟩ : ByteArray)] 29 (0, 0)) from by rw [hW]; exact (heap_other NG4.out.symm _).trans B4.out)); clear B4; have B4 := T_; clear T_; have T_ := Aside0.mk ((show w3.heap[g6]? = some (.cells #[.int .i64 0, .slice none 0 0, .int .i64 0, .string (⟨#[]⟩ : ByteArray)] 29 (0, 0)) from by rw [hW]; exact (heap_other NG6.out.symm _).trans B6.out)); clear B6; have B6 := T_; clear T_; have T_ := Aside0.mk ((show Fr w w3 base g _ _ from by rw [hW]; exact FR.out.set P.out.hg (.inl rfl) _)); clear FR; have FR := T_; clear T_; have HX := Aside0.mk (show w3.cell? ⟨r, f * 4, none⟩ = some (.int .i64 xh) ∧ w3.cell? ⟨r, f * 4 + 1, none⟩ = some (.slice xA xn xc) ∧ w3.cell? ⟨r, f * 4 + 2, none⟩ = some (.int .i64 xs) ∧ w3.cell? ⟨r, f * 4 + 3, none⟩ = some (.string xf) from by rw [hW]; exact cells_far P.out.ne HX2.out); have T_ := Aside0.mk ((show PtJ w3 base g r R (s1 : Nat) ((n : Int) + 1) from by rw [hW]; exact P.out.setf _)); clear P; have P := T_; clear T_; obtain ⟨x0, x1, x2, x3⟩ := HX.out; clear k0 k1 k2 z0 z1 z2; obtain ⟨k0, k1, k2, z0, z1, z2⟩ := P.out.cells; rw [← HM.out] at k0; clear hW) | ((with_reducible refine gate_dst (N := 8) rfl ?_); refine box_event ?hg (N := 8) ?hd (cs := #[.int .i64 0, .slice none 0 0, .int .i64 0, .string (⟨#[]⟩ : ByteArray)]) (t := 29) ?hr ?_; (case hd => rfl); (case hg => rfl); (case hr => first | (go_simp; done) | (go_simp; rfl)); intro g8 hg w4 hbox hb; have GE8 := Aside0.mk (show w.heap.size ≤ g8 from by rw [hg]; exact FR.out.size); have N48 := Aside0.mk (show g4 ≠ g8 from by rw [hg]; exact Nat.ne_of_lt (blk_lt B4.out)); have N68 := Aside0.mk (show g6 ≠ g8 from by rw [hg]; exact Nat.ne_of_lt (blk_lt B6.out)); have NG8 := Aside0.mk (show g ≠ g8 from by rw [hg]; exact Nat.ne_of_lt (blk_lt P.out.blk)); have NR8 := Aside0.mk (show r ≠ g8 from by rw [hg]; exact Nat.ne_of_lt (blk_lt P.out.room)); have T_ := Aside0.mk (P.out.below hb); clear P; have P := T_; clear T_; have T_ := Aside0.mk (FR.out.more hb HBASE.out); clear FR; have FR := T_; clear T_; have T_ := Aside0.mk ((show w4.heap[g4]? = some (.cells #[.int .i64 0, .slice none 0 0, .int .i64 0, .string (⟨#[]⟩ : ByteArray)] 29 (0, 0)) from old_blk B4.out hb)); clear B4; have B4 := T_; clear T_; have T_ := Aside0.mk ((show w4.heap[g6]? = some (.cells #[.int .i64 0, .slice none 0 0, .int .i64 0, .string (⟨#[]⟩ : ByteArray)] 29 (0, 0)) from old_blk B6.out hb)); clear B6; have B6 := T_; clear T_; have B8 := Aside0.mk (show w4.heap[g8]? = some (.cells #[.int .i64 0, .slice none 0 0, .int .i64 0, .string (⟨#[]⟩ : ByteArray)] 29 (0, 0)) from hbox); clear x0 x1 x2 x3; obtain ⟨u0, u1, u2, u3, v0, v1, v2, v3⟩ := cells4 B8.out; clear k0 k1 k2 z0 z1 z2; obtain ⟨k0, k1, k2, z0, z1, z2⟩ := P.out.cells; rw [← HM.out] at k0; clear hbox hb hg) | ((with_reducible refine gate_store (t := 29) (p := 8) rfl ?_); refine store_event2 (w1 := ((((w4.setCell ⟨g8, 0, none⟩ (.int .i64 xh)).setCell ⟨g8, 1, none⟩ (.slice xA xn xc)).setCell ⟨g8, 2, none⟩ (.int .i64 xs)).setCell ⟨g8, 3, none⟩ (.string xf))) ?hg ?hn ?hr ?_; (case hg => rfl); (case hn => rfl); (case hr => first | (go_simp; done) | (go_simp; rfl)); intro w5 hW; have T_ := Aside0.mk ((show w5.heap[g4]? = some (.cells #[.int .i64 0, .slice none 0 0, .int .i64 0, .string (⟨#[]⟩ : ByteArray)] 29 (0, 0)) from by rw [hW, heap_other N48.out, heap_other N48.out, heap_other N48.out, heap_other N48.out]; exact B4.out)); clear B4; have B4 := T_; clear T_; have T_ := Aside0.mk ((show w5.heap[g6]? = some (.cells #[.int .i64 0, .slice none 0 0, .int .i64 0, .string (⟨#[]⟩ : ByteArray)] 29 (0, 0)) from by rw [hW, heap_other N68.out, heap_other N68.out, heap_other N68.out, heap_other N68.out]; exact B6.out)); clear B6; have B6 := T_; clear T_; have T_ := Aside0.mk ((show Fr w w5 base g _ _ from by rw [hW]; exact (((FR.out.set (Nat.le_trans HBASE.out GE8.out) (.inr (.inl GE8.out)) _).set (Nat.le_trans HBASE.out GE8.out) (.inr (.inl GE8.out)) _).set (Nat.le_trans HBASE.out GE8.out) (.inr (.inl GE8.out)) _).set (Nat.le_trans HBASE.out GE8.out) (.inr (.inl GE8.out)) _)); clear FR; have FR := T_; clear T_; have T_ := Aside0.mk ((show PtJ w5 base g r R (s1 : Nat) ((n : Int) + 1) from by rw [hW]; exact (((P.out.other NG8.out NR8.out _).other NG8.out NR8.out _).other NG8.out NR8.out _).other NG8.out NR8.out _)); clear P; have P := T_; clear T_; have T_ := Aside0.mk ((show w5.heap[g8]? = some (.cells #[.int .i64 xh, .slice xA xn xc, .int .i64 xs, .string xf] 29 (0, 0)) from by rw [hW]; exact put4 B8.out _ _ _ _)); clear B8; have B8 := T_; clear T_; clear u0 u1 u2 u3 v0 v1 v2 v3; clear k0 k1 k2 z0 z1 z2; obtain ⟨k0, k1, k2, z0, z1, z2⟩ := P.out.cells; rw [← HM.out] at k0; clear hW))
  obtain ⟨⟨yh, yA, yn, yc, ys, yf⟩, y0, y1, y2, y3⟩ : ∃ y : Jb, w5.cell? ⟨r, f * 4, none⟩ = some (.int .i64 y.h) ∧ w5.cell? ⟨r, f * 4 + 1, none⟩ = some (.slice y.A y.n y.c) ∧ w5.cell? ⟨r, f * 4 + 2, none⟩ = some (.int .i64 y.sz) ∧ w5.cell? ⟨r, f * 4 + 3, none⟩ = some (.string y.ft) := ⟨_, P.out.room.at f (by rw [← HM.out]; exact HFM.out)⟩
  have t0 := P.out.room.free (f * 4)
  have t1 := P.out.room.free (f * 4 + 1)
  have t2 := P.out.room.free (f * 4 + 2)
  have t3 := P.out.room.free (f * 4 + 3)
  obtain ⟨b0, b1, b2, b3, _, _, _, _⟩ := cells4 B6.out
  have n1 : ¬ g = r := fun e => P.out.ne e.symm
  have n2 : ¬ r = g := P.out.ne
  have n3 : ¬ g6 = r := NR6.out.symm
  have n4 : ¬ r = g6 := NR6.out
  have i9 := eq_true i1
  have i10 := eq_true i2
  go_region_held3 (fun w' => w'.cell? ⟨g, 0, none⟩ = some (.slice (some ⟨r, 0, none⟩) m m) ∧ w'.cell? ⟨g, 2, none⟩ = some (.int .i64 ((n : Int) + 1)) ∧ w'.cell? ⟨g6, 0, none⟩ = some (.int .i64 0) ∧ w'.cell? ⟨g6, 1, none⟩ = some (.slice none 0 0) ∧ w'.cell? ⟨g6, 2, none⟩ = some (.int .i64 0) ∧ w'.cell? ⟨g6, 3, none⟩ = some (.string (⟨#[]⟩ : ByteArray))) (go_keep) (fail)
  go_wp2_with (first | ((with_reducible refine gate_store (t := 3) (p := 50) rfl ?_); refine store_event2 (w1 := ((s4 w5 r f Jb.z).setCell ⟨g, 2, none⟩ (.int .i64 (n : Int))).drew) ?hg ?hn ?hr ?_; (case hg => rfl); (case hn => rfl); (case hr => first | (go_simp; done) | (go_simp; rfl)); intro w7 hW; have T_ := Aside0.mk ((show w7.heap[g4]? = some (.cells #[.int .i64 0, .slice none 0 0, .int .i64 0, .string (⟨#[]⟩ : ByteArray)] 29 (0, 0)) from by rw [hW, drew_heap, heap_other NG4.out.symm, s4_other NR4.out.symm]; exact B4.out)); clear B4; have B4 := T_; clear T_; have T_ := Aside0.mk ((show w7.heap[g8]? = some (.cells #[.int .i64 xh, .slice xA xn xc, .int .i64 xs, .string xf] 29 (0, 0)) from by rw [hW, drew_heap, heap_other NG8.out.symm, s4_other NR8.out.symm]; exact B8.out)); clear B8; have B8 := T_; clear T_; have T_ := Aside0.mk ((show Fr w w7 base g _ _ from by rw [hW]; exact ((FR.out.set4 P.out.hr (.inr (.inr rfl)) Jb.z).set P.out.hg (.inl rfl) _).drew)); clear FR; have FR := T_; clear T_; have T_ := Aside0.mk ((show PtJ w7 base g r (R.set f Jb.z) (s1 : Nat) (n : Int) from by rw [hW]; exact ((P.out.setr f (by rw [← HM.out]; exact HFM.out) Jb.z).setn _).drew)); clear P; have P := T_; clear T_; obtain ⟨u0, u1, u2, u3, v0, v1, v2, v3⟩ := cells4 B8.out; obtain ⟨q0, q1, q2, q3, f0, f1, f2, f3⟩ := cells4 B4.out; clear hW) | ((with_reducible refine gate_store (t := 29) (p := 4) rfl ?_); refine store_event2 (w1 := ((((w7.setCell ⟨g4, 0, none⟩ (.int .i64 xh)).setCell ⟨g4, 1, none⟩ (.slice xA xn xc)).setCell ⟨g4, 2, none⟩ (.int .i64 xs)).setCell ⟨g4, 3, none⟩ (.string xf))) ?hg ?hn ?hr ?_; (case hg => rfl); (case hn => rfl); (case hr => first | (go_simp; done) | (go_simp; rfl)); intro w8 hW; have T_ := Aside0.mk ((show Fr w w8 base g _ _ from by rw [hW]; exact (((FR.out.set (Nat.le_trans HBASE.out GE4.out) (.inr (.inl GE4.out)) _).set (Nat.le_trans HBASE.out GE4.out) (.inr (.inl GE4.out)) _).set (Nat.le_trans HBASE.out GE4.out) (.inr (.inl GE4.out)) _).set (Nat.le_trans HBASE.out GE4.out) (.inr (.inl GE4.out)) _)); clear FR; have FR := T_; clear T_; have T_ := Aside0.mk ((show PtJ w8 base g r (R.set f Jb.z) (s1 : Nat) (n : Int) from by rw [hW]; exact (((P.out.other NG4.out NR4.out _).other NG4.out NR4.out _).other NG4.out NR4.out _).other NG4.out NR4.out _)); clear P; have P := T_; clear T_; have T_ := Aside0.mk ((show w8.heap[g4]? = some (.cells #[.int .i64 xh, .slice xA xn xc, .int .i64 xs, .string xf] 29 (0, 0)) from by rw [hW]; exact put4 B4.out _ _ _ _)); clear B4; have B4 := T_; clear T_; clear hW))
  refine bodyPost_ret (results_ct rfl _ _ g4 29 #[.int .i64 xh, .slice xA xn xc, .int .i64 xs, .string xf] (0, 0) _ rfl B4.out Try.underlying29 rfl (by kernel_rfl)) rfl ?_
  have hpop := HREP.out.popFront (by simp) Jb.z
  rw [← HM.out, ← HS1E.out] at hpop
  refine ⟨rfl, ?_, FR.out⟩
  have hP := P.out
  rw [HN.out] at hP
  exact hP.dq hpop (by rw [List.length_set]; exact HCAP.out)
end Go.Proofs.Ytnegagkjhnpgmaa.Sc
