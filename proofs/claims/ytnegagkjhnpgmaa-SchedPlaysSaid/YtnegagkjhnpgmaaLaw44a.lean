/- The statements' small words on lines of jobs: alive. -/
import Derived.Test.YtnegagkjhnpgmaaScSt
import Derived.Test.YtnegagkjhnpgmaaX2
namespace Go.Proofs.Ytnegagkjhnpgmaa.Sc
open Go.RowKit Go.Proofs.YtnegagkjhnpgmaaW.PrintWords Go.Proofs.YtnegagkjhnpgmaaW.PrintMore Go.Proofs.YtnegagkjhnpgmaaW.PrintLast Go.Proofs.Ytnegagkjhnpgmaa.Dq Go.Proofs.Ytnegagkjhnpgmaa.X
set_option linter.unusedVariables false
set_option linter.unusedSimpArgs false
attribute [local go_sem ↓] Go.wp_at_zero Go.wp_at_succ
def j1 : Jb := ⟨1, none, 0, 0, 7, ⟨#[]⟩⟩
def j2 : Jb := ⟨2, none, 0, 0, 0, ⟨#[]⟩⟩
def j3 : Jb := ⟨1, none, 0, 0, 0, ⟨#[]⟩⟩
theorem al_n1 : nx [1] ([] ++ [j1, j2, j3]) (fun _ => []) = (some j2, [j3], put (fun _ => []) j1) := rfl
theorem al_n2 : nx [] (bk 1 [j3] (put (fun _ => []) j1)) (cut (put (fun _ => []) j1) 1) = (some j1, [j3], cut (put (fun _ => []) j1) 1) := by
  have h : bk 1 [j3] (put (fun _ => []) j1) = [j1, j3] := by
    unfold bk
    rw [if_neg (by simp [put, j1])]
    rfl
  rw [h]
  rfl
theorem al_s (k : Int) : ((put (fun _ => []) j1 : Int → List Jb) k).length ≤ 1 := by
  unfold put
  split <;> simp
theorem al_c (k : Int) : (cut (put (fun _ => []) j1 : Int → List Jb) 1 k).length ≤ 1 := by
  unfold cut
  split
  · simp
  · exact al_s k
theorem al_b : (bk 1 [j3] (put (fun _ => []) j1)).length = 2 := by
  unfold bk
  rw [if_neg (by simp [put, j1])]
  rfl
theorem al_r : sched_Rounds.f 7 3 = some 3 := by kernel_rfl
set_option maxHeartbeats 4000000 in
set_option maxRecDepth 100000 in
theorem alive_calls (w : World) : Calls Try.prog 7 #[] w fun e w' => e = .returned (.bool true) ∧ Below w.heap.size w w' := by
  have hu := Try.underlying29
  go_enter Try.func7, Try.ntmps7
  go_wp2_with fail
  go_at_call 8
  with_reducible refine Calls.mono (LSt.new (w0 := w) (Below.refl _ _) (fun _ => False) (fun _ h => h.elim)) ?_
  rintro e w1 ⟨g, rfl, h1, hb1⟩
  have H1 := Aside0.mk h1
  clear h1 hb1
  go_wp2_with fail
  go_at_call 9
  have hP : Calls Try.prog 9 #[.pointer (some ⟨g, 0, none⟩), .slice (some ⟨w1.heap.size, 0, none⟩) 3 3] (w1.alloc (.cells #[.int .i64 1, .slice none 0 0, .int .i64 7, .string (⟨#[]⟩ : ByteArray), .int .i64 2, .slice none 0 0, .int .i64 0, .string (⟨#[]⟩ : ByteArray), .int .i64 1, .slice none 0 0, .int .i64 0, .string (⟨#[]⟩ : ByteArray)] 29 (0, 0))) _ :=
    LSt.push (w0 := w) (P := fun k => k = w1.heap.size) (R := [j1, j2, j3]) (n := 3) (c := 3) (H1.out.more (below_alloc (Below.refl _ _) _) (fun k hk => .inr ⟨Nat.le_of_eq hk.symm, by rw [hk]; simp⟩)) rfl (reads_block (blk_new w1 _) rfl) (fun ad e => .inl (by injection e with e; rw [← e])) (by decide)
  with_reducible refine Calls.mono hP ?_
  clear hP
  rintro e w2 ⟨rfl, h2, -⟩
  have H2 := Aside0.mk (h2.weak (P' := fun _ => False) (fun _ h => h.elim))
  clear h2
  go_wp2_with fail
  go_at_call 11
  have hP : Calls Try.prog 11 #[.pointer (some ⟨g, 0, none⟩), .slice (some ⟨w2.heap.size, 0, none⟩) 1 1] (w2.alloc (.cells #[.int .i64 1] 3 (0, 0))) _ :=
    LSt.next (w0 := w) (P := fun k => k = w2.heap.size) (l0 := [1]) (c0 := 1) (H2.out.more (below_alloc (Below.refl _ _) _) (fun k hk => .inr ⟨Nat.le_of_eq hk.symm, by rw [hk]; simp⟩)) (by decide) (by decide) (C_lit (blk_new w2 _) rfl (by decide)) (fun ad e => .inl (by injection e with e; rw [← e])) (fun k => by simp)
  rw [al_n1] at hP
  with_reducible refine Calls.mono hP ?_
  clear hP
  rintro e w3 ⟨rfl, h3, -⟩
  have H3 := Aside0.mk (h3.weak (P' := fun _ => False) (fun _ h => h.elim))
  clear h3
  go_wp2_with (first | ((with_reducible refine gate_dst (N := 2) rfl ?_); refine box_event ?hg (N := 2) ?hd (cs := #[.int .i64 0, .slice none 0 0, .int .i64 0, .string (⟨#[]⟩ : ByteArray)]) (t := 29) ?hr ?_; (case hd => rfl); (case hg => rfl); (case hr => first | (go_simp; done) | (go_simp; rfl)); intro ga hg_ w4 hbox hb; have Gga := Aside0.mk hg_; have BW3 := Aside0.mk hb; have B9 := Aside0.mk hbox; clear hbox hb hg_; obtain ⟨u0, u1, u2, u3, v0, v1, v2, v3⟩ := cells4 B9.out) | ((with_reducible refine gate_store (t := 29) (p := 2) rfl ?_); refine store_event2 (w1 := ((((w4.setCell ⟨ga, 0, none⟩ (.int .i64 2)).setCell ⟨ga, 1, none⟩ (.slice none 0 0)).setCell ⟨ga, 2, none⟩ (.int .i64 0)).setCell ⟨ga, 3, none⟩ (.string (⟨#[]⟩ : ByteArray)))) ?hg ?hn ?hr ?_; (case hg => rfl); (case hn => rfl); (case hr => first | (go_simp; done) | (go_simp; rfl)); intro w5 hW_; have HW4 := Aside0.mk hW_; clear hW_; have Wga := Aside0.mk (show Below w3.heap.size w3 w5 from by rw [HW4.out]; exact below_set (below_set (below_set (below_set BW3.out (Nat.le_of_eq Gga.out.symm)) (Nat.le_of_eq Gga.out.symm)) (Nat.le_of_eq Gga.out.symm)) (Nat.le_of_eq Gga.out.symm)); have Xga := Aside0.mk (show w5.heap[ga]? = some (.cells #[.int .i64 2, .slice none 0 0, .int .i64 0, .string (⟨#[]⟩ : ByteArray)] 29 (0, 0)) from by rw [HW4.out]; exact put4 B9.out _ _ _ _); clear u0 u1 u2 u3 v0 v1 v2 v3 BW3 B9 HW4))
  go_at_call 10
  have H5 := Aside0.mk (H3.out.more (P' := fun k => k = ga) Wga.out (fun k hk => .inr ⟨by rw [hk]; exact Nat.le_of_eq Gga.out.symm, by rw [hk]; exact blk_lt Xga.out⟩))
  with_reducible refine Calls.mono (H5.out.back 1 (by have := al_s 1; simp only [List.length_singleton]; omega)) ?_
  rintro e w6 ⟨rfl, h6, hk6⟩
  have H6 := Aside0.mk h6
  have X6 := Aside0.mk ((hk6 ga rfl).trans Xga.out)
  clear h6 hk6
  go_wp2_with fail
  go_at_call 11
  have hP := H6.out.next (l0 := []) (c0 := 0) (by decide) (by decide) (C_nil _) (fun ad e => by cases e) (fun k => by rw [al_b]; have := al_c k; omega)
  rw [al_n2] at hP
  with_reducible refine Calls.mono hP ?_
  clear hP
  rintro e w7 ⟨rfl, h7, hk7⟩
  have H7 := Aside0.mk h7
  have X7 := Aside0.mk ((hk7 ga rfl).trans X6.out)
  clear h7 hk7
  go_wp2_with (first | ((with_reducible refine gate_dst (N := 5) rfl ?_); refine box_event ?hg (N := 5) ?hd (cs := #[.int .i64 0, .slice none 0 0, .int .i64 0, .string (⟨#[]⟩ : ByteArray)]) (t := 29) ?hr ?_; (case hd => rfl); (case hg => rfl); (case hr => first | (go_simp; done) | (go_simp; rfl)); intro gb hg_ w8 hbox hb; have Ggb := Aside0.mk hg_; have BW3 := Aside0.mk hb; have B9 := Aside0.mk hbox; clear hbox hb hg_; obtain ⟨u0, u1, u2, u3, v0, v1, v2, v3⟩ := cells4 B9.out) | ((with_reducible refine gate_store (t := 29) (p := 5) rfl ?_); refine store_event2 (w1 := ((((w8.setCell ⟨gb, 0, none⟩ (.int .i64 1)).setCell ⟨gb, 1, none⟩ (.slice none 0 0)).setCell ⟨gb, 2, none⟩ (.int .i64 7)).setCell ⟨gb, 3, none⟩ (.string (⟨#[]⟩ : ByteArray)))) ?hg ?hn ?hr ?_; (case hg => rfl); (case hn => rfl); (case hr => first | (go_simp; done) | (go_simp; rfl)); intro w9 hW_; have HW4 := Aside0.mk hW_; clear hW_; have Wgb := Aside0.mk (show Below w7.heap.size w7 w9 from by rw [HW4.out]; exact below_set (below_set (below_set (below_set BW3.out (Nat.le_of_eq Ggb.out.symm)) (Nat.le_of_eq Ggb.out.symm)) (Nat.le_of_eq Ggb.out.symm)) (Nat.le_of_eq Ggb.out.symm)); have Xgb := Aside0.mk (show w9.heap[gb]? = some (.cells #[.int .i64 1, .slice none 0 0, .int .i64 7, .string (⟨#[]⟩ : ByteArray)] 29 (0, 0)) from by rw [HW4.out]; exact put4 B9.out _ _ _ _); clear u0 u1 u2 u3 v0 v1 v2 v3 BW3 B9 HW4; have XA := Aside0.mk (old_blk X7.out Wgb.out); have HL := Aside0.mk ((H7.out.below Wgb.out).len); have HB0 := Aside0.mk ((H7.out.below Wgb.out).out); obtain ⟨a0, a1, a2, a3, -, -, -, -⟩ := cells4 XA.out; obtain ⟨b0, b1, b2, b3, -, -, -, -⟩ := cells4 Xgb.out) | (go_at_call 12; (with_reducible refine HL.out.mono ?_); rintro e w_ ⟨rfl, rfl⟩) | (go_at_call 15; (with_reducible refine (sched_Rounds.calls 7 3 3 _ al_r).mono ?_); rintro e wB ⟨rfl, hB⟩; have HB := Aside0.mk (below_all hB HB0.out.size HB0.out); clear hB))
  go_ret
  exact ⟨rfl, HB.out⟩
end Go.Proofs.Ytnegagkjhnpgmaa.Sc
