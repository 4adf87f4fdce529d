/- The statements' small words on deques of numbers: alive. -/
import Derived.Test.YtglkfoldhobflaaRef09c
import Derived.Test.YtglkfoldhobflaaDqSt
namespace Go.Proofs.Ytglkfoldhobflaa.Dq
open Go.RowKit Go.Proofs.YtglkfoldhobflaaW.PrintWords Go.Proofs.YtglkfoldhobflaaW.PrintMore Go.Proofs.YtglkfoldhobflaaW.PrintLast Go.Proofs.Ytglkfoldhobflaa.X Go.Proofs.Ytglkfoldhobflaa.Y
set_option linter.unusedVariables false
set_option linter.unusedSimpArgs false
attribute [local go_sem ↓] Go.wp_at_zero Go.wp_at_succ
set_option maxHeartbeats 4000000 in
set_option maxRecDepth 100000 in
theorem alive_calls (w : World) : Calls Try.prog 6 #[] w fun e w' => e = .returned (.bool true) ∧ Below w.heap.size w w' := by
  obtain ⟨B, hB⟩ : ∃ B, B = w.heap.size := ⟨_, rfl⟩
  rw [← hB]
  have HB := Aside0.mk hB
  go_enter Try.func6, Try.ntmps6
  clear hB
  go_wp2_with fail
  go_at_call 7
  have hn : Calls Try.prog 7 #[.slice (some ⟨w.heap.size, 0, none⟩) 3 3] (w.alloc (.cells #[.int .i64 1, .int .i64 2, .int .i64 3] 3)) _ := St.new (c := 3) (l := [1, 2, 3]) (w := w) (B := B) (by rw [HB.out]; exact below_alloc (Below.refl _ _) _) (by rw [HB.out]; simp) (reads_lit w [1, 2, 3] (by decide)) (by decide)
  with_reducible refine Calls.mono hn ?_
  clear hn
  rintro e w1 ⟨g, rfl, -, h1, -⟩
  have H1 := Aside0.mk h1
  clear h1
  go_wp2_with fail
  go_at_call 24
  have hn := H1.out.cut (-2) 9 ⟨by omega, by omega⟩ ⟨by omega, by omega⟩
  rw [show cutL ([1, 2, 3] : List Int) (spanN ([1, 2, 3] : List Int).length (-2) 9).1 (spanN ([1, 2, 3] : List Int).length (-2) 9).2 = [2, 3] by decide] at hn
  with_reducible refine Calls.mono hn ?_
  clear hn
  rintro e w2 ⟨v2, rfl, hr2, hb2, -⟩
  have H2 := Aside0.mk (H1.out.below hb2)
  have HR2 := Aside0.mk hr2
  clear hr2 hb2
  go_wp2_with fail
  go_at_call 23
  have hn : Calls Try.prog 23 #[v2, .slice (some ⟨w2.heap.size, 0, none⟩) 2 2] (w2.alloc (.cells #[.int .i64 2, .int .i64 3] 3)) _ := rsame_calls _ _ [2, 3] _ (HR2.out.below (below_alloc (Below.refl _ _) _)) (rd_lit w2 [2, 3] (by decide)) (by decide)
  with_reducible refine Calls.mono hn ?_
  clear hn
  rintro e w3 ⟨rfl, hw3⟩
  have H3 := Aside0.mk ((H2.out.below (below_alloc (Below.refl _ _) _)).below hw3.below)
  clear hw3
  go_wp2_with fail
  go_at_call 17
  have hn := H3.out.insert 3 4 (by decide)
  rw [show decide ((0 : Int) ≤ 3 ∧ (3 : Int) ≤ (([1, 2, 3] : List Int).length : Int)) = true by decide, if_pos (by decide)] at hn
  with_reducible refine Calls.mono hn ?_
  clear hn
  rintro e w4 ⟨rfl, h4, -⟩
  have H4 : Aside0 (St w B g [1, 2, 3, 4] w4) := ⟨h4⟩
  clear h4
  go_wp2_with fail
  go_at_call 8
  with_reducible refine Calls.mono (H4.out.push true 0 (by decide)) ?_
  rintro e w5 ⟨rfl, h5, -⟩
  have H5 : Aside0 (St w B g [0, 1, 2, 3, 4] w5) := ⟨h5⟩
  clear h5
  go_wp2_with fail
  go_at_call 10
  with_reducible refine Calls.mono H5.out.all ?_
  rintro e w6 ⟨v6, rfl, hr6, hb6, -⟩
  have H6 := Aside0.mk (H5.out.below hb6)
  have HR6 := Aside0.mk hr6
  clear hr6 hb6
  go_wp2_with fail
  go_at_call 23
  have hn : Calls Try.prog 23 #[v6, .slice (some ⟨w6.heap.size, 0, none⟩) 5 5] (w6.alloc (.cells #[.int .i64 0, .int .i64 1, .int .i64 2, .int .i64 3, .int .i64 4] 3)) _ := rsame_calls _ _ [0, 1, 2, 3, 4] _ (HR6.out.below (below_alloc (Below.refl _ _) _)) (rd_lit w6 [0, 1, 2, 3, 4] (by decide)) (by decide)
  with_reducible refine Calls.mono hn ?_
  clear hn
  rintro e w7 ⟨rfl, hw7⟩
  have H7 := Aside0.mk ((H6.out.below (below_alloc (Below.refl _ _) _)).below hw7.below)
  clear hw7
  go_wp2
  go_ret
  exact ⟨rfl, H7.out.out⟩
end Go.Proofs.Ytglkfoldhobflaa.Dq
