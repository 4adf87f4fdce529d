/- The contract of the statement DequeNobody, walked by hand. -/
import Derived.Test.YtglkfoldhobflaaLaw09a
namespace Go.Proofs.Ytglkfoldhobflaa.X
set_option linter.unusedVariables false
open Classical in
noncomputable def mewslaw09_DequeNobody.f (_k : Nat) (a b c : Int) : Option Bool := if (-9223372036854775808 ≤ b ∧ b ≤ 9223372036854775807) ∧ (-9223372036854775808 ≤ c ∧ c ≤ 9223372036854775807) then some true else none
end Go.Proofs.Ytglkfoldhobflaa.X
namespace Go.Proofs.Ytglkfoldhobflaa.Dq
open Go.RowKit Go.Proofs.YtglkfoldhobflaaW.PrintWords Go.Proofs.YtglkfoldhobflaaW.PrintMore Go.Proofs.YtglkfoldhobflaaW.PrintLast Go.Proofs.Ytglkfoldhobflaa.X Go.Proofs.Ytglkfoldhobflaa.Y
set_option linter.unusedVariables false
set_option linter.unusedSimpArgs false
attribute [local go_sem ↓] Go.wp_at_zero Go.wp_at_succ
theorem cells3n {w : World} {g : Nat} {t : TypeId} {a b c : Value} (h : w.heap[g]? = some (.cells #[a, b, c] t (0, 0))) : w.cell? ⟨g, 0, none⟩ = some a ∧ w.cell? ⟨g, 1, none⟩ = some b ∧ w.cell? ⟨g, 2, none⟩ = some c := ⟨(blk_cell h 0).trans rfl, (blk_cell h 1).trans rfl, (blk_cell h 2).trans rfl⟩
set_option maxHeartbeats 40000000 in
set_option maxRecDepth 100000 in
theorem nobody_calls (q0 q1 q2 : Int) (w : World) (b1 : -9223372036854775808 ≤ q1 ∧ q1 ≤ 9223372036854775807) (b2 : -9223372036854775808 ≤ q2 ∧ q2 ≤ 9223372036854775807) :
    Calls Try.prog 5 #[.agg #[.int .i64 q0, .int .i64 q1, .int .i64 q2]] w fun e w' => e = .returned (.bool true) ∧ Below w.heap.size w w' := by
  obtain ⟨B, hB⟩ : ∃ B, B = w.heap.size := ⟨_, rfl⟩
  rw [← hB]
  have HB := Aside0.mk hB
  have B1 := Aside0.mk b1
  have B2 := Aside0.mk b2
  clear hB b1 b2
  go_enter Try.func5, Try.ntmps5
  go_wp2_with fail
  obtain ⟨W, hW⟩ : ∃ W, W = w.alloc (.cells #[.int .i64 q0, .int .i64 q1, .int .i64 q2] 29) := ⟨_, rfl⟩
  have hob : W.heap[B]? = some (.cells #[.int .i64 q0, .int .i64 q1, .int .i64 q2] 29 (0, 0)) := by rw [hW, HB.out]; exact blk_new _ _
  have hBW : Below B w W := by rw [hW, HB.out]; exact below_alloc (Below.refl _ _) _
  have hs : B ≤ W.heap.size := Nat.le_of_lt (blk_lt hob)
  rw [← hW, ← HB.out]
  obtain ⟨y0, y1, y2⟩ := cells3n hob
  have HW := Aside0.mk hBW
  have HO := Aside0.mk hob
  clear hW hBW hob
  go_at_call 9
  with_reducible refine Calls.mono (pop_nil true W) ?_
  rintro e w' ⟨rfl, rfl⟩
  go_wp2_with fail
  go_at_call 11
  with_reducible refine Calls.mono (at_nil q1 W B1) ?_
  rintro e W1 ⟨rfl, hb⟩
  have hob := (hb.block _ (blk_lt HO.out)).trans HO.out
  have HO1 := Aside0.mk hob
  have HW1 := Aside0.mk (HW.out.trans (hb.mono hs))
  have hs1 : B ≤ W1.heap.size := Nat.le_of_lt (blk_lt hob)
  obtain ⟨y0, y1, y2⟩ := cells3n hob
  clear hob hb
  go_wp2_with fail
  go_at_call 21
  with_reducible refine Calls.mono (keep_nil q1 q2 W1 B1 B2) ?_
  rintro e w' ⟨rfl, rfl⟩
  have HL := Aside0.mk (len_nil W1)
  have HPu := Aside0.mk (push_nil true q2 W1)
  have HSe := Aside0.mk (set_nil q1 q2 W1 B1)
  have HIn := Aside0.mk (insert_nil q1 q2 W1)
  have HRe := Aside0.mk (remove_nil q1 W1 B1)
  have HCu := Aside0.mk (cut_nil q1 q2 W1 B1 B2)
  have HAl := Aside0.mk (all_nil W1)
  go_wp2_with (first | (go_at_call 25; (with_reducible refine Calls.mono HL.out ?_); rintro e w' ⟨rfl, rfl⟩) | (go_at_call 8; (with_reducible refine Calls.mono HPu.out ?_); rintro e w' ⟨rfl, rfl⟩) | (go_at_call 15; (with_reducible refine Calls.mono HSe.out ?_); rintro e w' ⟨rfl, rfl⟩) | (go_at_call 17; (with_reducible refine Calls.mono HIn.out ?_); rintro e w' ⟨rfl, rfl⟩) | (go_at_call 19; (with_reducible refine Calls.mono HRe.out ?_); rintro e w' ⟨rfl, rfl⟩) | (go_at_call 24; (with_reducible refine Calls.mono HCu.out ?_); rintro e w' ⟨rfl, rfl⟩) | (go_at_call 10; (with_reducible refine Calls.mono HAl.out ?_); rintro e w' ⟨rfl, rfl⟩) | fail)
  obtain ⟨W2, hW2⟩ : ∃ W2, W2 = W1.alloc (.cells #[.slice none 0 0, .int .i64 0, .int .i64 0] 50) := ⟨_, rfl⟩
  obtain ⟨g, hg⟩ : ∃ g, g = W1.heap.size := ⟨_, rfl⟩
  have hst : St w B g [] W2 := ⟨none, by rw [hW2, hg]; exact Dq.empty hs1 (blk_new _ _), by rw [hW2]; exact HW1.out.trans ((below_alloc (Below.refl _ _) _).mono hs1), by rw [hW2]; simp; omega⟩
  have HO2 := Aside0.mk (show W2.heap[B]? = some (.cells #[.int .i64 q0, .int .i64 q1, .int .i64 q2] 29 (0, 0)) by rw [hW2]; exact ((below_alloc (Below.refl W1.heap.size W1) _).block _ (blk_lt HO1.out)).trans HO1.out)
  rw [← hW2, ← hg]
  have HS2 := Aside0.mk hst
  have hp := (show W2.cell? ⟨g, 2, none⟩ = some (.int .i64 ((0 : Nat) : Int)) by obtain ⟨row, hd, _⟩ := hst; exact hd.len.1)
  clear hW2 hst hg
  go_at_call 9
  with_reducible refine Calls.mono (pop_none g false W2 hp) ?_
  clear hp
  rintro e w' ⟨rfl, rfl⟩
  obtain ⟨fb, hfb⟩ : ∃ fb, (Go.bits .and .i64 q1 1 == 0) = fb := ⟨_, rfl⟩
  obtain ⟨y0, y1, y2⟩ := cells3n HO2.out
  have hc1 := fun W (h : St w B g [] W) => h.remove q1 B1
  have hok : okI ([] : List Int).length q1 = false := by
    unfold okI placeI
    first | (simp; done) | (simp; split <;> omega)
  simp only [hok, Bool.false_eq_true, if_false] at hc1
  have HC1 := Aside0.mk hc1
  have hc2 := fun W (h : St w B g [] W) => h.push fb q2 (by simp)
  have hpl : (if fb = true then q2 :: ([] : List Int) else [] ++ [q2]) = [q2] := by cases fb <;> rfl
  simp only [hpl] at hc2
  have HC2 := Aside0.mk hc2
  clear hok hpl hc1 hc2
  go_wp2_with fail
  go_region_held3 (fun w' => w'.cell? ⟨B, 1, none⟩ = some (.int .i64 q1) ∧ w'.cell? ⟨B, 2, none⟩ = some (.int .i64 q2)) (go_keep) (first | (go_at_call 19; (with_reducible refine Calls.mono (HC1.out _ (HS2.out.below (below_drew (Below.refl _ _)))) ?_); rintro e wa ⟨rfl, hsa, hka⟩; have HSa := Aside0.mk hsa; have HOa := Aside0.mk (hka _ _ _ HO2.out (by decide) (by decide)); obtain ⟨z0, z1, z2⟩ := cells3n HOa.out; clear hsa hka) | (go_at_call 8; (with_reducible refine Calls.mono (HC2.out _ HSa.out) ?_); rintro e wb ⟨rfl, hsb, hkb⟩; have HSb := Aside0.mk hsb; have HOb := Aside0.mk (hkb _ _ _ HOa.out (by decide) (by decide)); obtain ⟨s0, s1, s2⟩ := cells3n HOb.out; clear hsb hkb) | (go_at_call 10; (with_reducible refine Calls.mono (St.all (w := w) (B := B) (g := g) (l := [q2]) ?_) ?_); (first | exact HSb.out | exact HSb.out.below (below_alloc (Below.refl _ _) _)); rintro e wc ⟨vc, rfl, hrc, hbc, -⟩; have HRc := Aside0.mk hrc; have HBc := Aside0.mk hbc; have HSc := Aside0.mk (show St w B g [q2] wc by first | exact HSb.out.below HBc.out | exact (HSb.out.below (below_alloc (Below.refl _ _) _)).below HBc.out); have HOc := Aside0.mk (show wc.heap[B]? = some (.cells #[.int .i64 q0, .int .i64 q1, .int .i64 q2] 29 (0, 0)) by first | exact KeepT.of_below HBc.out _ _ _ HOb.out (by decide) (by decide) | exact KeepT.of_below HBc.out _ _ _ (KeepT.of_below (below_alloc (Below.refl _ _) _) _ _ _ HOb.out (by decide) (by decide)) (by decide) (by decide)); obtain ⟨t0, t1, t2⟩ := cells3n HOc.out; clear hrc hbc) | (go_at_call 23; (with_reducible refine Calls.mono (rsame_calls vc _ [q2] _ ?_ ?_ (by simp)) ?_); (first | exact HRc.out | exact HRc.out.below (below_alloc (Below.refl _ _) _)); (first | exact (rd_lit _ [q2] (by simp)).below HBc.out | exact rd_lit _ [q2] (by simp)); rintro e wd ⟨rfl, hwd⟩; have HSd := Aside0.mk (show St w B g [q2] wd by first | exact HSc.out.below hwd.below | exact (HSc.out.below (below_alloc (Below.refl _ _) _)).below hwd.below); have HOd := Aside0.mk (show wd.heap[B]? = some (.cells #[.int .i64 q0, .int .i64 q1, .int .i64 q2] 29 (0, 0)) by first | exact KeepT.of_below hwd.below _ _ _ HOc.out (by decide) (by decide) | exact KeepT.of_below hwd.below _ _ _ (KeepT.of_below (below_alloc (Below.refl _ _) _) _ _ _ HOc.out (by decide) (by decide)) (by decide) (by decide)); obtain ⟨r0, r1, r2⟩ := cells3n HOd.out; clear hwd) | (go_at_call 6; (with_reducible refine Calls.mono (alive_calls _) ?_); rintro e we ⟨rfl, hwe⟩; have HSe := Aside0.mk (HSd.out.below hwe); have HOe := Aside0.mk (KeepT.of_below hwe _ _ _ HOd.out (by decide) (by decide)); obtain ⟨p0, p1, p2⟩ := cells3n HOe.out; clear hwe))
  all_goals
    go_wp2
    go_ret
    exact ⟨rfl, HSe.out.out⟩
end Go.Proofs.Ytglkfoldhobflaa.Dq
namespace Go.Proofs.Ytglkfoldhobflaa.X
open Go.RowKit Go.Proofs.YtglkfoldhobflaaW.PrintWords Go.Proofs.YtglkfoldhobflaaW.PrintMore Go.Proofs.YtglkfoldhobflaaW.PrintLast Go.Proofs.Ytglkfoldhobflaa.Dq
theorem mewslaw09_DequeNobody.calls (k : Nat) (a b c : Int) (r : Bool) (w : World) (hr_ : Aside0 (r = true)) (h : mewslaw09_DequeNobody.f k a b c = some r) :
    Calls Try.prog 5 #[.agg #[.int .i64 a, .int .i64 b, .int .i64 c]] w fun e w' => e = .returned (.bool r) ∧ Below w.heap.size w w' := by
  have hbd : (-9223372036854775808 ≤ b ∧ b ≤ 9223372036854775807) ∧ (-9223372036854775808 ≤ c ∧ c ≤ 9223372036854775807) := by
    unfold mewslaw09_DequeNobody.f at h
    by_cases q : (-9223372036854775808 ≤ b ∧ b ≤ 9223372036854775807) ∧ (-9223372036854775808 ≤ c ∧ c ≤ 9223372036854775807)
    · exact q
    · rw [if_neg q] at h; cases h
  rw [hr_.out]
  exact nobody_calls a b c w hbd.1 hbd.2
end Go.Proofs.Ytglkfoldhobflaa.X
