/- Replies as values: what says that all is well, and what went wrong. -/
import Derived.Test.YtkamejnccmapkaaMuSpoil
namespace Go.Proofs.Ytkamejnccmapkaa.Mu
open Go.RowKit Go.Proofs.YtkamejnccmapkaaW.PrintWords Go.Proofs.YtkamejnccmapkaaW.PrintMore Go.Proofs.YtkamejnccmapkaaW.PrintLast
set_option linter.unusedVariables false
set_option linter.unusedSimpArgs false
attribute [local go_sem ↓] Go.wp_at_zero Go.wp_at_succ
set_option maxHeartbeats 400000 in
set_option maxRecDepth 100000 in
theorem ok_calls (w : World) : Calls Try.prog 30 #[] w fun e w' => e = .returned (.agg #[.int .i64 1, .int .i64 0, .string (⟨#[79, 75]⟩ : ByteArray), .slice none 0 0]) ∧ Below w.heap.size w w' := by
  have hu := Try.underlying30
  have BB := Aside0.mk (Below.refl w.heap.size w)
  go_enter Try.func30, Try.ntmps30
  go_wp2_with (first | ((with_reducible refine gate_dst (N := 0) rfl ?_); refine box_event ?hg (N := 0) ?hd (cs := #[.int .i64 0, .int .i64 0, .string (⟨#[]⟩ : ByteArray), .slice none 0 0]) (t := 30) ?hr ?_; (case hd => rfl); (case hg => rfl); (case hr => first | (go_simp; done) | (go_simp; rfl)); intro g1 hg w1 hbox hb; have GE1 := Aside0.mk (show w.heap.size ≤ g1 from by rw [hg]; exact BB.out.size); have T_ := Aside0.mk (BB.out.trans (hb.mono BB.out.size)); clear BB; have BB := T_; clear T_; have BK1 := Aside0.mk hbox; clear hbox hb hg; obtain ⟨p1_0, p1_1, p1_2, p1_3, f1_0, f1_1, f1_2, f1_3⟩ := cells4 BK1.out))
  refine bodyPost_ret (results_cell_row rfl _ _ g1 30 #[.int .i64 1, .int .i64 0, .string (⟨#[79, 75]⟩ : ByteArray), .slice none 0 0] (0, 0) _ rfl (by refine put4 ?_ _ _ _ _; exact BK1.out) Try.underlying30 rfl (by kernel_rfl)) rfl ?_
  exact ⟨rfl, by repeat (with_reducible first | exact BB.out | refine below_set ?_ GE1.out)⟩
set_option maxHeartbeats 400000 in
set_option maxRecDepth 100000 in
theorem rok_calls (w : World) : Calls Try.prog 26 #[] w fun e w' => e = .returned (.agg #[.int .i64 1, .int .i64 0, .string (⟨#[79, 75]⟩ : ByteArray), .slice none 0 0]) ∧ Below w.heap.size w w' := by
  have hu := Try.underlying30
  have BB := Aside0.mk (Below.refl w.heap.size w)
  go_enter Try.func26, Try.ntmps26
  go_wp2_with (first | ((with_reducible refine gate_dst (N := 0) rfl ?_); refine box_event ?hg (N := 0) ?hd (cs := #[.int .i64 0, .int .i64 0, .string (⟨#[]⟩ : ByteArray), .slice none 0 0]) (t := 30) ?hr ?_; (case hd => rfl); (case hg => rfl); (case hr => first | (go_simp; done) | (go_simp; rfl)); intro g1 hg w1 hbox hb; have GE1 := Aside0.mk (show w.heap.size ≤ g1 from by rw [hg]; exact BB.out.size); have T_ := Aside0.mk (BB.out.trans (hb.mono BB.out.size)); clear BB; have BB := T_; clear T_; have BK1 := Aside0.mk hbox; clear hbox hb hg; obtain ⟨p1_0, p1_1, p1_2, p1_3, f1_0, f1_1, f1_2, f1_3⟩ := cells4 BK1.out))
  refine bodyPost_ret (results_cell_row rfl _ _ g1 30 #[.int .i64 1, .int .i64 0, .string (⟨#[79, 75]⟩ : ByteArray), .slice none 0 0] (0, 0) _ rfl (by refine put4 ?_ _ _ _ _; exact BK1.out) Try.underlying30 rfl (by kernel_rfl)) rfl ?_
  exact ⟨rfl, by repeat (with_reducible first | exact BB.out | refine below_set ?_ GE1.out)⟩
set_option maxHeartbeats 400000 in
set_option maxRecDepth 100000 in
theorem fail_calls (s : ByteArray) (w : World) : Calls Try.prog 27 #[.string s] w fun e w' => e = .returned (.agg #[.int .i64 2, .int .i64 0, .string s, .slice none 0 0]) ∧ Below w.heap.size w w' := by
  have hu := Try.underlying30
  have BB := Aside0.mk (Below.refl w.heap.size w)
  go_enter Try.func27, Try.ntmps27
  go_wp2_with (first | ((with_reducible refine gate_dst (N := 2) rfl ?_); refine box_event ?hg (N := 2) ?hd (cs := #[.int .i64 0, .int .i64 0, .string (⟨#[]⟩ : ByteArray), .slice none 0 0]) (t := 30) ?hr ?_; (case hd => rfl); (case hg => rfl); (case hr => first | (go_simp; done) | (go_simp; rfl)); intro g1 hg w1 hbox hb; have GE1 := Aside0.mk (show w.heap.size ≤ g1 from by rw [hg]; exact BB.out.size); have T_ := Aside0.mk (BB.out.trans (hb.mono BB.out.size)); clear BB; have BB := T_; clear T_; have BK1 := Aside0.mk hbox; clear hbox hb hg; obtain ⟨p1_0, p1_1, p1_2, p1_3, f1_0, f1_1, f1_2, f1_3⟩ := cells4 BK1.out))
  refine bodyPost_ret (results_cell_row rfl _ _ g1 30 #[.int .i64 2, .int .i64 0, .string s, .slice none 0 0] (0, 0) _ rfl (by refine put4 ?_ _ _ _ _; exact BK1.out) Try.underlying30 rfl (by kernel_rfl)) rfl ?_
  exact ⟨rfl, by repeat (with_reducible first | exact BB.out | refine below_set ?_ GE1.out)⟩
set_option maxHeartbeats 400000 in
set_option maxRecDepth 100000 in
theorem rfail_calls (s : ByteArray) (w : World) : Calls Try.prog 35 #[.string s] w fun e w' => e = .returned (.agg #[.int .i64 2, .int .i64 0, .string s, .slice none 0 0]) ∧ Below w.heap.size w w' := by
  have hu := Try.underlying30
  have BB := Aside0.mk (Below.refl w.heap.size w)
  go_enter Try.func35, Try.ntmps35
  go_wp2_with (first | ((with_reducible refine gate_dst (N := 2) rfl ?_); refine box_event ?hg (N := 2) ?hd (cs := #[.int .i64 0, .int .i64 0, .string (⟨#[]⟩ : ByteArray), .slice none 0 0]) (t := 30) ?hr ?_; (case hd => rfl); (case hg => rfl); (case hr => first | (go_simp; done) | (go_simp; rfl)); intro g1 hg w1 hbox hb; have GE1 := Aside0.mk (show w.heap.size ≤ g1 from by rw [hg]; exact BB.out.size); have T_ := Aside0.mk (BB.out.trans (hb.mono BB.out.size)); clear BB; have BB := T_; clear T_; have BK1 := Aside0.mk hbox; clear hbox hb hg; obtain ⟨p1_0, p1_1, p1_2, p1_3, f1_0, f1_1, f1_2, f1_3⟩ := cells4 BK1.out))
  refine bodyPost_ret (results_cell_row rfl _ _ g1 30 #[.int .i64 2, .int .i64 0, .string s, .slice none 0 0] (0, 0) _ rfl (by refine put4 ?_ _ _ _ _; exact BK1.out) Try.underlying30 rfl (by kernel_rfl)) rfl ?_
  exact ⟨rfl, by repeat (with_reducible first | exact BB.out | refine below_set ?_ GE1.out)⟩
end Go.Proofs.Ytkamejnccmapkaa.Mu
