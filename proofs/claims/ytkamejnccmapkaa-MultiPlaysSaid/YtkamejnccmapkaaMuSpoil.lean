/- Transactions as values: what the small functions on them come to, whatever their rows are. -/
import Derived.Test.YtkamejnccmapkaaX0
import Derived.Deep.RegionLaw
import Derived.Deep.RegionHeld3
import Derived.Deep.DrawnRows
import Derived.Deep.QuietTactic
import Derived.BigQuiet
import Derived.Outline
import Derived.Test.YtkamejnccmapkaaWWords
import Derived.Test.YtkamejnccmapkaaWMore
import Derived.Test.YtkamejnccmapkaaWLast
namespace Go.Proofs.Ytkamejnccmapkaa.Mu
open Go.RowKit Go.Proofs.YtkamejnccmapkaaW.PrintWords Go.Proofs.YtkamejnccmapkaaW.PrintMore Go.Proofs.YtkamejnccmapkaaW.PrintLast
set_option linter.unusedVariables false
set_option linter.unusedSimpArgs false
attribute [local go_sem ↓] Go.wp_at_zero Go.wp_at_succ
abbrev txv (o b d : Bool) (q : Value) (sz : Int) (wt : Value) : Array Value := #[.bool o, .bool b, .bool d, q, .int .i64 sz, wt]
abbrev rpv (k n : Int) (s : ByteArray) (l : Value) : Array Value := #[.int .i64 k, .int .i64 n, .string s, l]
theorem put6 {w : World} {g : Nat} {t : TypeId} (h : w.heap[g]? = some (.cells #[.bool false, .bool false, .bool false, .slice none 0 0, .int .i64 0, .slice none 0 0] t (0, 0))) (v0 v1 v2 v3 v4 v5 : Value) :
    ((((((w.setCell ⟨g, 0, none⟩ v0).setCell ⟨g, 1, none⟩ v1).setCell ⟨g, 2, none⟩ v2).setCell ⟨g, 3, none⟩ v3).setCell ⟨g, 4, none⟩ v4).setCell ⟨g, 5, none⟩ v5).heap[g]? = some (.cells #[v0, v1, v2, v3, v4, v5] t (0, 0)) :=
  blk_put (blk_put (blk_put (blk_put (blk_put (blk_put h 0 v0 rfl) 1 v1 rfl) 2 v2 rfl) 3 v3 rfl) 4 v4 rfl) 5 v5 rfl
theorem put4 {w : World} {g : Nat} {t : TypeId} (h : w.heap[g]? = some (.cells #[.int .i64 0, .int .i64 0, .string (⟨#[]⟩ : ByteArray), .slice none 0 0] t (0, 0))) (v0 v1 v2 v3 : Value) :
    ((((w.setCell ⟨g, 0, none⟩ v0).setCell ⟨g, 1, none⟩ v1).setCell ⟨g, 2, none⟩ v2).setCell ⟨g, 3, none⟩ v3).heap[g]? = some (.cells #[v0, v1, v2, v3] t (0, 0)) :=
  blk_put (blk_put (blk_put (blk_put h 0 v0 rfl) 1 v1 rfl) 2 v2 rfl) 3 v3 rfl
theorem cells6 {w : World} {g : Nat} {t : TypeId} {c0 c1 c2 c3 c4 c5 : Value} (h : w.heap[g]? = some (.cells #[c0, c1, c2, c3, c4, c5] t (0, 0))) :
    w.cell? ⟨g, 0, none⟩ = some c0 ∧ w.cell? ⟨g, 1, none⟩ = some c1 ∧ w.cell? ⟨g, 2, none⟩ = some c2 ∧ w.cell? ⟨g, 3, none⟩ = some c3 ∧ w.cell? ⟨g, 4, none⟩ = some c4 ∧ w.cell? ⟨g, 5, none⟩ = some c5 ∧ w.frozen? ⟨g, 0, none⟩ = false ∧ w.frozen? ⟨g, 1, none⟩ = false ∧ w.frozen? ⟨g, 2, none⟩ = false ∧ w.frozen? ⟨g, 3, none⟩ = false ∧ w.frozen? ⟨g, 4, none⟩ = false ∧ w.frozen? ⟨g, 5, none⟩ = false :=
  ⟨(blk_cell h 0).trans rfl, (blk_cell h 1).trans rfl, (blk_cell h 2).trans rfl, (blk_cell h 3).trans rfl, (blk_cell h 4).trans rfl, (blk_cell h 5).trans rfl, blk_frozen h 0, blk_frozen h 1, blk_frozen h 2, blk_frozen h 3, blk_frozen h 4, blk_frozen h 5⟩
theorem cells4 {w : World} {g : Nat} {t : TypeId} {c0 c1 c2 c3 : Value} (h : w.heap[g]? = some (.cells #[c0, c1, c2, c3] t (0, 0))) :
    w.cell? ⟨g, 0, none⟩ = some c0 ∧ w.cell? ⟨g, 1, none⟩ = some c1 ∧ w.cell? ⟨g, 2, none⟩ = some c2 ∧ w.cell? ⟨g, 3, none⟩ = some c3 ∧ w.frozen? ⟨g, 0, none⟩ = false ∧ w.frozen? ⟨g, 1, none⟩ = false ∧ w.frozen? ⟨g, 2, none⟩ = false ∧ w.frozen? ⟨g, 3, none⟩ = false :=
  ⟨(blk_cell h 0).trans rfl, (blk_cell h 1).trans rfl, (blk_cell h 2).trans rfl, (blk_cell h 3).trans rfl, blk_frozen h 0, blk_frozen h 1, blk_frozen h 2, blk_frozen h 3⟩
/-- A block that was there before a world. -/
theorem old_blk {w W : World} {g : Nat} {o : Obj} (h : w.heap[g]? = some o) (hb : Below w.heap.size w W) : W.heap[g]? = some o := (hb.block g (blk_lt h)).trans h
set_option maxHeartbeats 400000 in
set_option maxRecDepth 100000 in
theorem spoil_calls (o b d : Bool) (qA : Option Addr) (qn qc : Nat) (sz : Int) (wA : Option Addr) (wn wc : Nat) (w : World) :
    Calls Try.prog 11 #[.agg (txv o b d (.slice qA qn qc) sz (.slice wA wn wc))] w fun e w' => e = .returned (.agg (txv o (b || o) d (.slice qA qn qc) sz (.slice wA wn wc))) ∧ Below w.heap.size w w' := by
  have hu := Try.underlying27
  have BB := Aside0.mk (Below.refl w.heap.size w)
  cases b with
  | false =>
    go_enter Try.func11, Try.ntmps11
    go_wp2_with (first | ((with_reducible refine gate_dst (N := 1) rfl ?_); refine box_event ?hg (N := 1) ?hd (cs := #[.bool o, .bool false, .bool d, .slice qA qn qc, .int .i64 sz, .slice wA wn wc]) (t := 27) ?hr ?_; (case hd => rfl); (case hg => rfl); (case hr => first | (go_simp; done) | (go_simp; rfl)); intro g1 hg w1 hbox hb; have GE1 := Aside0.mk (show w.heap.size ≤ g1 from by rw [hg]; exact BB.out.size); have T_ := Aside0.mk (BB.out.trans (hb.mono BB.out.size)); clear BB; have BB := T_; clear T_; have BK1 := Aside0.mk hbox; clear hbox hb hg) | ((with_reducible refine gate_dst (N := 2) rfl ?_); refine box_event ?hg (N := 2) ?hd (cs := #[.bool false, .bool false, .bool false, .slice none 0 0, .int .i64 0, .slice none 0 0]) (t := 27) ?hr ?_; (case hd => rfl); (case hg => rfl); (case hr => first | (go_simp; done) | (go_simp; rfl)); intro g2 hg w2 hbox hb; have NE1_2 := Aside0.mk (show g1 ≠ g2 from by rw [hg]; exact Nat.ne_of_lt (blk_lt BK1.out)); have T_ := Aside0.mk (old_blk BK1.out hb); clear BK1; have BK1 := T_; clear T_; have GE2 := Aside0.mk (show w.heap.size ≤ g2 from by rw [hg]; exact BB.out.size); have T_ := Aside0.mk (BB.out.trans (hb.mono BB.out.size)); clear BB; have BB := T_; clear T_; have BK2 := Aside0.mk hbox; clear hbox hb hg; obtain ⟨p1_0, p1_1, p1_2, p1_3, p1_4, p1_5, f1_0, f1_1, f1_2, f1_3, f1_4, f1_5⟩ := cells6 BK1.out; obtain ⟨p2_0, p2_1, p2_2, p2_3, p2_4, p2_5, f2_0, f2_1, f2_2, f2_3, f2_4, f2_5⟩ := cells6 BK2.out; have ne1_2 := NE1_2.out; have ne2_1 := Ne.symm NE1_2.out))
    refine bodyPost_ret (results_cell_row rfl _ _ g2 27 #[.bool o, .bool o, .bool d, .slice qA qn qc, .int .i64 sz, .slice wA wn wc] (0, 0) _ rfl (by refine put6 ?_ _ _ _ _ _ _; first | exact BK2.out | exact blk_far BK2.out (by exact NE1_2.out.symm) _) Try.underlying27 rfl (by kernel_rfl)) rfl ?_
    exact ⟨rfl, by repeat (with_reducible first | exact BB.out | refine below_set ?_ GE1.out | refine below_set ?_ GE2.out)⟩
  | true =>
    go_enter Try.func11, Try.ntmps11
    go_wp2_with (first | ((with_reducible refine gate_dst (N := 1) rfl ?_); refine box_event ?hg (N := 1) ?hd (cs := #[.bool o, .bool true, .bool d, .slice qA qn qc, .int .i64 sz, .slice wA wn wc]) (t := 27) ?hr ?_; (case hd => rfl); (case hg => rfl); (case hr => first | (go_simp; done) | (go_simp; rfl)); intro g1 hg w1 hbox hb; have GE1 := Aside0.mk (show w.heap.size ≤ g1 from by rw [hg]; exact BB.out.size); have T_ := Aside0.mk (BB.out.trans (hb.mono BB.out.size)); clear BB; have BB := T_; clear T_; have BK1 := Aside0.mk hbox; clear hbox hb hg) | ((with_reducible refine gate_dst (N := 2) rfl ?_); refine box_event ?hg (N := 2) ?hd (cs := #[.bool false, .bool false, .bool false, .slice none 0 0, .int .i64 0, .slice none 0 0]) (t := 27) ?hr ?_; (case hd => rfl); (case hg => rfl); (case hr => first | (go_simp; done) | (go_simp; rfl)); intro g2 hg w2 hbox hb; have NE1_2 := Aside0.mk (show g1 ≠ g2 from by rw [hg]; exact Nat.ne_of_lt (blk_lt BK1.out)); have T_ := Aside0.mk (old_blk BK1.out hb); clear BK1; have BK1 := T_; clear T_; have GE2 := Aside0.mk (show w.heap.size ≤ g2 from by rw [hg]; exact BB.out.size); have T_ := Aside0.mk (BB.out.trans (hb.mono BB.out.size)); clear BB; have BB := T_; clear T_; have BK2 := Aside0.mk hbox; clear hbox hb hg; obtain ⟨p1_0, p1_1, p1_2, p1_3, p1_4, p1_5, f1_0, f1_1, f1_2, f1_3, f1_4, f1_5⟩ := cells6 BK1.out; obtain ⟨p2_0, p2_1, p2_2, p2_3, p2_4, p2_5, f2_0, f2_1, f2_2, f2_3, f2_4, f2_5⟩ := cells6 BK2.out; have ne1_2 := NE1_2.out; have ne2_1 := Ne.symm NE1_2.out))
    refine bodyPost_ret (results_cell_row rfl _ _ g2 27 #[.bool o, .bool true, .bool d, .slice qA qn qc, .int .i64 sz, .slice wA wn wc] (0, 0) _ rfl (by refine put6 ?_ _ _ _ _ _ _; first | exact BK2.out | exact blk_far BK2.out (by exact NE1_2.out.symm) _) Try.underlying27 rfl (by kernel_rfl)) rfl ?_
    exact ⟨rfl, by repeat (with_reducible first | exact BB.out | refine below_set ?_ GE1.out | refine below_set ?_ GE2.out)⟩
end Go.Proofs.Ytkamejnccmapkaa.Mu
