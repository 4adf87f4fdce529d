/- A line that is none, and one that nobody made. -/
import Derived.Test.YtnegagkjhnpgmaaScSame
import Derived.Test.YtnegagkjhnpgmaaScStepG
namespace Go.Proofs.Ytnegagkjhnpgmaa.X
open Go.RowKit Go.Proofs.YtnegagkjhnpgmaaW.PrintWords Go.Proofs.YtnegagkjhnpgmaaW.PrintMore Go.Proofs.YtnegagkjhnpgmaaW.PrintLast
set_option linter.unusedVariables false
noncomputable def mewslaw44_SchedNobody.f (_k : Nat) (_a0 : Int) (l1 : List ByteArray) (_a2 : Int) (_a3 : ByteArray) : Option Bool := if l1.length ≤ 1000000000000000 then some true else none
end Go.Proofs.Ytnegagkjhnpgmaa.X
namespace Go.Proofs.Ytnegagkjhnpgmaa.Sc
open Go.RowKit Go.Proofs.YtnegagkjhnpgmaaW.PrintWords Go.Proofs.YtnegagkjhnpgmaaW.PrintMore Go.Proofs.YtnegagkjhnpgmaaW.PrintLast Go.Proofs.Ytnegagkjhnpgmaa.Dq Go.Proofs.Ytnegagkjhnpgmaa.X
set_option linter.unusedVariables false
set_option linter.unusedSimpArgs false
attribute [local go_sem ↓] Go.wp_at_zero Go.wp_at_succ
theorem nb_bk {a0 a2 : Int} {A : Option Addr} {n c : Nat} {a3 : ByteArray} : bk a0 [] (put (fun _ => []) ⟨a0, A, n, c, a2, a3⟩) = [⟨a0, A, n, c, a2, a3⟩] := by
  have h : (put (fun _ => []) ⟨a0, A, n, c, a2, a3⟩ : Int → List Jb) a0 = [⟨a0, A, n, c, a2, a3⟩] := by unfold put; rw [if_pos rfl]; rfl
  unfold bk
  rw [h, if_neg (by simp)]
  rfl
set_option maxHeartbeats 40000000 in
set_option maxRecDepth 100000 in
theorem nobody_calls (a0 : Int) (A : Option Addr) (c n : Nat) (l1 : List ByteArray) (a2 : Int) (a3 : ByteArray) (w : World) (hn : n = l1.length) (hC : Kd.C Kd.string w A n l1) (hc : n ≤ c) (hl : n ≤ 1000000000000000) :
    Calls Try.prog 6 #[.agg #[.int .i64 a0, .slice A n c, .int .i64 a2, .string a3]] w fun e w' => e = .returned (.bool true) ∧ Below w.heap.size w w' := by
  have hu := Try.underlying29
  have hu2 := Try.underlying54
  have HC := Aside0.mk hC
  have HFAR := Aside0.mk (fun (W : World) (hb : Below w.heap.size w W) => by
    have h := far_calls ⟨0, ⟨a0, l1, a2, a3⟩, []⟩ (by rw [← hn]; exact hl) (Nat.zero_le _) (W.alloc (.cells #[.int .i64 0, .int .i64 a0, .slice A l1.length c, .int .i64 a2, .string a3, .slice none 0 0] 40 (0, 0))) W.heap.size (C_one40 (A2 := A) (A5 := none) (c2 := c) (c5 := 0) ⟨0, ⟨a0, l1, a2, a3⟩, []⟩ (blk_new W _) (by rw [← hn]; exact hc) (by rw [← hn]; exact Kd.C_below (Kd.C_below HC.out hb) (below_alloc (Below.refl _ _) _)) (Nat.le_refl 0) ⟨rfl, Nat.zero_le _, fun h => absurd h (Nat.lt_irrefl 0)⟩)
    dsimp only at h
    rw [← hn] at h
    exact h)
  have HJI := Aside0.mk (show JOf w ⟨a0, l1, a2, a3⟩ ⟨a0, A, n, c, a2, a3⟩ from ⟨rfl, hn, HC.out, hc, rfl, rfl⟩)
  have HN := Aside0.mk hn
  clear hC hl hn hc
  by_cases hb20 : 20 < n
  · rw [decide_eq_true hb20] at HFAR
    clear hb20
    go_enter Try.func6, Try.ntmps6
    go_wp2_with (first | ((with_reducible refine gate_dst (N := 1) rfl ?_); refine box_event ?hg (N := 1) ?hd (cs := #[.int .i64 a0, .slice A n c, .int .i64 a2, .string a3]) (t := 29) ?hr ?_; (case hd => rfl); (case hg => rfl); (case hr => first | (go_simp; done) | (go_simp; rfl)); intro bj hg_ w1 hbox hb; have GJ := Aside0.mk hg_; have BJ := Aside0.mk hbox; have BW1 := Aside0.mk hb; clear hbox hb hg_; obtain ⟨u0, u1, u2, u3, -, -, -, -⟩ := cells4 BJ.out) | (go_at_call 14; (with_reducible refine (HFAR.out w1 (BW1.out)).mono ?_); rintro e wf ⟨rfl, hbf⟩; have BF := Aside0.mk (below_tr (below_alloc (Below.refl w1.heap.size w1) (.cells #[.int .i64 0, .int .i64 a0, .slice A n c, .int .i64 a2, .string a3, .slice none 0 0] 40 (0, 0))) hbf); clear hbf u0 u1 u2 u3) | (go_at_call 7; (with_reducible refine (alive_calls _).mono ?_); rintro e wZ ⟨rfl, hB⟩; have HZ := Aside0.mk (below_tr (below_tr BW1.out BF.out) hB); clear hB))
    go_ret
    exact ⟨rfl, HZ.out⟩
  · rw [decide_eq_false hb20] at HFAR
    have HB20 := Aside0.mk (show n ≤ 20 by omega)
    have HJQ := Aside0.mk (show JIn w [⟨a0, A, n, c, a2, a3⟩] from fun j hj => ⟨⟨a0, l1, a2, a3⟩, by rw [List.mem_singleton.1 hj]; exact HJI.out, by show l1.length ≤ 20; rw [← HN.out]; exact HB20.out⟩)
    clear hb20
    go_enter Try.func6, Try.ntmps6
    go_wp2_with (first | ((with_reducible refine gate_dst (N := 1) rfl ?_); refine box_event ?hg (N := 1) ?hd (cs := #[.int .i64 a0, .slice A n c, .int .i64 a2, .string a3]) (t := 29) ?hr ?_; (case hd => rfl); (case hg => rfl); (case hr => first | (go_simp; done) | (go_simp; rfl)); intro bj hg_ w1 hbox hb; have GJ := Aside0.mk hg_; have BJ := Aside0.mk hbox; have BW1 := Aside0.mk hb; clear hbox hb hg_; obtain ⟨u0, u1, u2, u3, -, -, -, -⟩ := cells4 BJ.out) | (go_at_call 14; (with_reducible refine (HFAR.out w1 (BW1.out)).mono ?_); rintro e wf ⟨rfl, hbf⟩; have BF := Aside0.mk (below_tr (below_alloc (Below.refl w1.heap.size w1) (.cells #[.int .i64 0, .int .i64 a0, .slice A n c, .int .i64 a2, .string a3, .slice none 0 0] 40 (0, 0))) hbf); clear hbf u0 u1 u2 u3; have Jf := Aside0.mk (old_blk BJ.out BF.out); obtain ⟨u0, u1, u2, u3, -, -, -, -⟩ := cells4 Jf.out) | (go_at_call 9; (with_reducible refine (lnpush_nil _ _).mono ?_); rintro e w_ ⟨rfl, rfl⟩) | (go_at_call 11; (with_reducible refine (next_none (.pointer none) _ _ (fun W _ => lnlen_nil W)).mono ?_); rintro e w2 ⟨rfl, hb⟩; have BW2 := Aside0.mk (below_tr (below_tr BF.out (below_alloc (Below.refl wf.heap.size wf) (.cells #[.int .i64 a0, .slice A n c, .int .i64 a2, .string a3] 29 (0, 0)))) hb); clear hb u0 u1 u2 u3) | ((with_reducible refine gate_dst (N := 4) rfl ?_); refine box_event ?hg (N := 4) ?hd (cs := #[.int .i64 0, .slice none 0 0, .int .i64 0, .string (⟨#[]⟩ : ByteArray)]) (t := 29) ?hr ?_; (case hd => rfl); (case hg => rfl); (case hr => first | (go_simp; done) | (go_simp; rfl)); intro g4 hg_ w3 hbox hb; have G9 := Aside0.mk hg_; have BW3 := Aside0.mk hb; have B9 := Aside0.mk hbox; clear hbox hb hg_; obtain ⟨u0, u1, u2, u3, v0, v1, v2, v3⟩ := cells4 B9.out) | ((with_reducible refine gate_store (t := 29) (p := 4) rfl ?_); refine store_event2 (w1 := ((((w3.setCell ⟨g4, 0, none⟩ (.int .i64 0)).setCell ⟨g4, 1, none⟩ (.slice none 0 0)).setCell ⟨g4, 2, none⟩ (.int .i64 0)).setCell ⟨g4, 3, none⟩ (.string (⟨#[]⟩ : ByteArray)))) ?hg ?hn ?hr ?_; (case hg => rfl); (case hn => rfl); (case hr => first | (go_simp; done) | (go_simp; rfl)); intro w4 hW_; have HW4 := Aside0.mk hW_; clear hW_; have BW := Aside0.mk (show Below w2.heap.size w2 w4 from by rw [HW4.out]; exact below_set (below_set (below_set (below_set BW3.out (Nat.le_of_eq G9.out.symm)) (Nat.le_of_eq G9.out.symm)) (Nat.le_of_eq G9.out.symm)) (Nat.le_of_eq G9.out.symm)); clear u0 u1 u2 u3 v0 v1 v2 v3 BW3 B9 HW4 G9; have B1 := Aside0.mk (below_tr BW2.out BW.out); have J4 := Aside0.mk (old_blk BJ.out B1.out); clear BW; have u0 : w4.cell? ⟨bj, 0, none⟩ = some (.int .i64 a0) := (blk_cell J4.out 0).trans rfl) | (go_at_call 10; (with_reducible refine (back_nil _ _).mono ?_); rintro e w_ ⟨rfl, rfl⟩) | (go_at_call 20; (with_reducible refine (drop_nil _ _).mono ?_); rintro e w5 ⟨rfl, hb⟩; have B2 := Aside0.mk (below_tr B1.out hb); have J5 := Aside0.mk (old_blk BJ.out B2.out); clear hb u0; have u0 : w5.cell? ⟨bj, 0, none⟩ = some (.int .i64 a0) := (blk_cell J5.out 0).trans rfl) | (go_at_call 12; (with_reducible refine (lnlen_nil _).mono ?_); rintro e w_ ⟨rfl, rfl⟩) | (go_at_call 13; (with_reducible refine (aside_nil _ _).mono ?_); rintro e w_ ⟨rfl, rfl⟩) | (go_at_call 24; (with_reducible refine (lnall_nil _).mono ?_); rintro e w_ ⟨rfl, rfl⟩) | ((with_reducible refine gate_dst (N := 60) rfl ?_); refine box_event ?hg (N := 60) ?hd (cs := #[.pointer none, .map none]) (t := 54) ?hr ?_; (case hd => rfl); (case hg => rfl); (case hr => first | (go_simp; done) | (go_simp; rfl)); intro gm hg_ w6 hbox hb; have GM := Aside0.mk hg_; have BM := Aside0.mk hbox; have B3 := Aside0.mk (below_tr B2.out hb); clear hbox hb hg_ u0; have HNE := Aside0.mk (show bj ≠ gm from fun e => by have := blk_lt J5.out; have := GM.out; omega); have HGM := Aside0.mk (show w.heap.size ≤ gm from by have := BW1.out.size; have := B2.out.size; have := GM.out; omega)) | (go_at_call 11; (with_reducible refine (next_none (.pointer (some ⟨gm, 0, none⟩)) _ w6 (fun W hb => lnlen_zero gm W ((blk_cell (old_blk BM.out hb) 0).trans rfl))).mono ?_); rintro e w7 ⟨rfl, hb⟩; have BW7 := Aside0.mk hb; clear hb) | ((with_reducible refine gate_dst (N := 7) rfl ?_); refine box_event ?hg (N := 7) ?hd (cs := #[.int .i64 0, .slice none 0 0, .int .i64 0, .string (⟨#[]⟩ : ByteArray)]) (t := 29) ?hr ?_; (case hd => rfl); (case hg => rfl); (case hr => first | (go_simp; done) | (go_simp; rfl)); intro g7 hg_ w8 hbox hb; have G9 := Aside0.mk hg_; have BW3 := Aside0.mk hb; have B9 := Aside0.mk hbox; clear hbox hb hg_; obtain ⟨u0, u1, u2, u3, v0, v1, v2, v3⟩ := cells4 B9.out) | ((with_reducible refine gate_store (t := 29) (p := 7) rfl ?_); refine store_event2 (w1 := ((((w8.setCell ⟨g7, 0, none⟩ (.int .i64 0)).setCell ⟨g7, 1, none⟩ (.slice none 0 0)).setCell ⟨g7, 2, none⟩ (.int .i64 0)).setCell ⟨g7, 3, none⟩ (.string (⟨#[]⟩ : ByteArray)))) ?hg ?hn ?hr ?_; (case hg => rfl); (case hn => rfl); (case hr => first | (go_simp; done) | (go_simp; rfl)); intro w9 hW_; have HW4 := Aside0.mk hW_; clear hW_; have BW := Aside0.mk (show Below w7.heap.size w7 w9 from by rw [HW4.out]; exact below_set (below_set (below_set (below_set BW3.out (Nat.le_of_eq G9.out.symm)) (Nat.le_of_eq G9.out.symm)) (Nat.le_of_eq G9.out.symm)) (Nat.le_of_eq G9.out.symm)); clear u0 u1 u2 u3 v0 v1 v2 v3 BW3 B9 HW4 G9; have B4 := Aside0.mk (below_tr BW7.out BW.out); clear BW; have J9 := Aside0.mk (old_blk BJ.out (below_tr B3.out B4.out)); have M9 := Aside0.mk (old_blk BM.out B4.out); have u0 : w9.cell? ⟨bj, 0, none⟩ = some (.int .i64 a0) := (blk_cell J9.out 0).trans rfl) | (go_at_call 20; (with_reducible refine (lndrop_zero w.heap.size gm a0 w9 M9.out HGM.out).mono ?_); rintro e w10 ⟨rfl, F', hl, hf⟩; have L0 := Aside0.mk (LSt.does (P := fun k => k = bj) (below_tr BW1.out (below_tr B3.out B4.out)) (fun k hk => by rw [hk]; exact blk_lt J9.out) (fun k hk e => HNE.out (hk.symm.trans e)) hl hf); clear hl hf u0; have J10 := Aside0.mk ((L0.out.2 bj rfl).trans J9.out); obtain ⟨u0, u1, u2, u3, -, -, -, -⟩ := cells4 J10.out))
    go_at_call 9
    have hP : Calls Try.prog 9 #[.pointer (some ⟨gm, 0, none⟩), .slice (some ⟨w10.heap.size, 0, none⟩) 1 1] (w10.alloc (.cells #[.int .i64 a0, .slice A n c, .int .i64 a2, .string a3] 29 (0, 0))) _ :=
      LSt.push (w0 := w) (P := fun k => k = bj ∨ k = w10.heap.size) (R := [⟨a0, A, n, c, a2, a3⟩]) (n := 1) (c := 1) (L0.out.1.more (below_alloc (Below.refl _ _) _) (fun k hk => by rcases hk with hk | hk; exact .inl hk; exact .inr ⟨Nat.le_of_eq hk.symm, by rw [hk]; simp⟩)) rfl (reads_block (blk_new w10 _) rfl) (fun ad e => .inl (.inr (by injection e with e; rw [← e]))) (by simp)
    with_reducible refine Calls.mono hP ?_
    clear hP u0 u1 u2 u3
    rintro e w11 ⟨rfl, h2, hk2⟩
    have L11 := Aside0.mk (h2.weak (P' := fun k => k = bj) (fun k hk => .inl hk))
    have J11 := Aside0.mk ((hk2 bj (.inl rfl)).trans (old_blk J10.out (below_alloc (Below.refl _ _) _)))
    clear h2 hk2
    have u0 : w11.cell? ⟨bj, 0, none⟩ = some (.int .i64 a0) := (blk_cell J11.out 0).trans rfl
    go_wp2_with fail
    go_at_call 11
    have hP : Calls Try.prog 11 #[.pointer (some ⟨gm, 0, none⟩), .slice (some ⟨w11.heap.size, 0, none⟩) 1 1] (w11.alloc (.cells #[.int .i64 a0] 3 (0, 0))) _ :=
      LSt.next (w0 := w) (A0 := some ⟨w11.heap.size, 0, none⟩) (P := fun k => k = bj ∨ k = w11.heap.size) (l0 := [a0]) (c0 := 1) (L11.out.more (below_alloc (Below.refl _ _) (.cells #[.int .i64 a0] 3 (0, 0))) (fun k hk => by rcases hk with hk | hk; exact .inl hk; exact .inr ⟨Nat.le_of_eq hk.symm, by rw [hk]; simp⟩)) (Nat.le_refl 1) (by simp) (C_lit (blk_new w11 _) rfl (by simp)) (fun ad e => .inl (.inr (by injection e with e; rw [← e]))) (fun k => by simp)
    rw [show nx [a0] ([] ++ [⟨a0, A, n, c, a2, a3⟩]) (fun _ => []) = (none, [], put (fun _ => []) ⟨a0, A, n, c, a2, a3⟩) from nx_wait _ _ (by simp)] at hP
    with_reducible refine Calls.mono hP ?_
    clear hP u0
    rintro e w12 ⟨rfl, h2, hk2⟩
    have L12 := Aside0.mk (h2.weak (P' := fun k => k = bj) (fun k hk => .inl hk))
    have J12 := Aside0.mk ((hk2 bj (.inl rfl)).trans (old_blk J11.out (below_alloc (Below.refl _ _) _)))
    clear h2 hk2
    go_wp2_with (first | ((with_reducible refine gate_dst (N := 10) rfl ?_); refine box_event ?hg (N := 10) ?hd (cs := #[.int .i64 0, .slice none 0 0, .int .i64 0, .string (⟨#[]⟩ : ByteArray)]) (t := 29) ?hr ?_; (case hd => rfl); (case hg => rfl); (case hr => first | (go_simp; done) | (go_simp; rfl)); intro g10 hg_ w13 hbox hb; have G9 := Aside0.mk hg_; have BW3 := Aside0.mk hb; have B9 := Aside0.mk hbox; clear hbox hb hg_; obtain ⟨u0, u1, u2, u3, v0, v1, v2, v3⟩ := cells4 B9.out) | ((with_reducible refine gate_store (t := 29) (p := 10) rfl ?_); refine store_event2 (w1 := ((((w13.setCell ⟨g10, 0, none⟩ (.int .i64 0)).setCell ⟨g10, 1, none⟩ (.slice none 0 0)).setCell ⟨g10, 2, none⟩ (.int .i64 0)).setCell ⟨g10, 3, none⟩ (.string (⟨#[]⟩ : ByteArray)))) ?hg ?hn ?hr ?_; (case hg => rfl); (case hn => rfl); (case hr => first | (go_simp; done) | (go_simp; rfl)); intro w14 hW_; have HW4 := Aside0.mk hW_; clear hW_; have BW := Aside0.mk (show Below w12.heap.size w12 w14 from by rw [HW4.out]; exact below_set (below_set (below_set (below_set BW3.out (Nat.le_of_eq G9.out.symm)) (Nat.le_of_eq G9.out.symm)) (Nat.le_of_eq G9.out.symm)) (Nat.le_of_eq G9.out.symm)); clear u0 u1 u2 u3 v0 v1 v2 v3 BW3 B9 HW4 G9; have L14 := Aside0.mk (L12.out.below BW.out); have J14 := Aside0.mk (old_blk J12.out BW.out); clear BW))
    refine region_drew (fun W_ => W_.heap[bj]? = some (.cells #[.int .i64 a0, .slice A n c, .int .i64 a2, .string a3] 29 (0, 0))) (by kernel_rfl) (fun d1 hd1 he1 => ?_)
    have L15 := Aside0.mk (L14.out.below hd1)
    have J15 := Aside0.mk (old_blk J14.out hd1)
    refine ⟨J15.out, fun hHeld => ?_⟩
    refine wpAnyH_take (i := 0) (v := .bool false) rfl (by kernel_rfl) (by kernel_rfl) (by kernel_rfl) (fun _ _ _ h => h) (Or.inl ⟨by kernel_rfl, ?_⟩) (by assumption) ?_
    · intro W_ hSw
      obtain ⟨u0, u1, u2, u3, _, _, _, _⟩ := cells4 hSw
      clear hSw
      first | (go_simp; done) | (go_simp; with_reducible rfl) | (go_simp; rfl)
    try simp only [Act.put, List.getElem_toArray, List.getElem_cons_succ, List.getElem_cons_zero, List.setIfInBounds_toArray, List.set_cons_zero, List.set_cons_succ]
    refine wpAnyH_take (i := 1) (v := .bool true) rfl (by kernel_rfl) (by kernel_rfl) (by kernel_rfl) (fun _ _ _ h => h) (Or.inl ⟨by kernel_rfl, ?_⟩) (by assumption) ?_
    · intro W_ hSw
      obtain ⟨u0, u1, u2, u3, _, _, _, _⟩ := cells4 hSw
      clear hSw
      first | (go_simp; done) | (go_simp; with_reducible rfl) | (go_simp; rfl)
    try simp only [Act.put, List.getElem_toArray, List.getElem_cons_succ, List.getElem_cons_zero, List.setIfInBounds_toArray, List.set_cons_zero, List.set_cons_succ]
    refine wpAnyH_take (i := 2) (v := .bool true) rfl (by kernel_rfl) (by kernel_rfl) (by kernel_rfl) (fun _ _ _ h => h) (Or.inl ⟨by kernel_rfl, ?_⟩) (by assumption) ?_
    · intro W_ hSw
      obtain ⟨u0, u1, u2, u3, _, _, _, _⟩ := cells4 hSw
      clear hSw
      first | (go_simp; done) | (go_simp; with_reducible rfl) | (go_simp; rfl)
    try simp only [Act.put, List.getElem_toArray, List.getElem_cons_succ, List.getElem_cons_zero, List.setIfInBounds_toArray, List.set_cons_zero, List.set_cons_succ]
    refine wpAnyH_take (i := 3) (v := .int .i64 0) rfl (by kernel_rfl) (by kernel_rfl) (by kernel_rfl) (fun _ _ _ h => h) (Or.inl ⟨by kernel_rfl, ?_⟩) (by assumption) ?_
    · intro W_ hSw
      obtain ⟨u0, u1, u2, u3, _, _, _, _⟩ := cells4 hSw
      clear hSw
      first | (go_simp; done) | (go_simp; with_reducible rfl) | (go_simp; rfl)
    try simp only [Act.put, List.getElem_toArray, List.getElem_cons_succ, List.getElem_cons_zero, List.setIfInBounds_toArray, List.set_cons_zero, List.set_cons_succ]
    refine wpAnyH_take (i := 4) (v := .bool true) rfl (by kernel_rfl) (by kernel_rfl) (by kernel_rfl) (fun _ _ _ h => h) (Or.inl ⟨by kernel_rfl, ?_⟩) (by assumption) ?_
    · intro W_ hSw
      obtain ⟨u0, u1, u2, u3, _, _, _, _⟩ := cells4 hSw
      clear hSw
      first | (go_simp; done) | (go_simp; with_reducible rfl) | (go_simp; rfl)
    try simp only [Act.put, List.getElem_toArray, List.getElem_cons_succ, List.getElem_cons_zero, List.setIfInBounds_toArray, List.set_cons_zero, List.set_cons_succ]
    refine wpAnyH_take (i := 5) (v := .bool true) rfl (by kernel_rfl) (by kernel_rfl) (by kernel_rfl) (fun _ _ _ h => h) (Or.inl ⟨by kernel_rfl, ?_⟩) (by assumption) ?_
    · intro W_ hSw
      obtain ⟨u0, u1, u2, u3, _, _, _, _⟩ := cells4 hSw
      clear hSw
      first | (go_simp; done) | (go_simp; with_reducible rfl) | (go_simp; rfl)
    try simp only [Act.put, List.getElem_toArray, List.getElem_cons_succ, List.getElem_cons_zero, List.setIfInBounds_toArray, List.set_cons_zero, List.set_cons_succ]
    refine wpAnyH_take (i := 6) (v := .bool true) rfl (by kernel_rfl) (by kernel_rfl) (by kernel_rfl) (fun _ _ _ h => h) (Or.inl ⟨by kernel_rfl, ?_⟩) (by assumption) ?_
    · intro W_ hSw
      obtain ⟨u0, u1, u2, u3, _, _, _, _⟩ := cells4 hSw
      clear hSw
      first | (go_simp; done) | (go_simp; with_reducible rfl) | (go_simp; rfl)
    try simp only [Act.put, List.getElem_toArray, List.getElem_cons_succ, List.getElem_cons_zero, List.setIfInBounds_toArray, List.set_cons_zero, List.set_cons_succ]
    refine wpAnyH_take (i := 7) (v := .bool false) rfl (by kernel_rfl) (by kernel_rfl) (by kernel_rfl) (fun _ _ _ h => h) (Or.inl ⟨by kernel_rfl, ?_⟩) (by assumption) ?_
    · intro W_ hSw
      obtain ⟨u0, u1, u2, u3, _, _, _, _⟩ := cells4 hSw
      clear hSw
      first | (go_simp; done) | (go_simp; with_reducible rfl) | (go_simp; rfl)
    try simp only [Act.put, List.getElem_toArray, List.getElem_cons_succ, List.getElem_cons_zero, List.setIfInBounds_toArray, List.set_cons_zero, List.set_cons_succ]
    refine wpAnyH_take (i := 8) (v := .bool true) rfl (by kernel_rfl) (by kernel_rfl) (by kernel_rfl) (fun _ _ _ h => h) (Or.inl ⟨by kernel_rfl, ?_⟩) (by assumption) ?_
    · intro W_ hSw
      obtain ⟨u0, u1, u2, u3, _, _, _, _⟩ := cells4 hSw
      clear hSw
      first | (go_simp; done) | (go_simp; with_reducible rfl) | (go_simp; rfl)
    try simp only [Act.put, List.getElem_toArray, List.getElem_cons_succ, List.getElem_cons_zero, List.setIfInBounds_toArray, List.set_cons_zero, List.set_cons_succ]
    refine wpAnyH_take (i := 9) (v := .bool true) rfl (by kernel_rfl) (by kernel_rfl) (by kernel_rfl) (fun _ _ _ h => h) (Or.inl ⟨by kernel_rfl, ?_⟩) (by assumption) ?_
    · intro W_ hSw
      obtain ⟨u0, u1, u2, u3, _, _, _, _⟩ := cells4 hSw
      clear hSw
      first | (go_simp; done) | (go_simp; with_reducible rfl) | (go_simp; rfl)
    try simp only [Act.put, List.getElem_toArray, List.getElem_cons_succ, List.getElem_cons_zero, List.setIfInBounds_toArray, List.set_cons_zero, List.set_cons_succ]
    refine wpAnyH_take (i := 10) (v := .bool true) rfl (by kernel_rfl) (by kernel_rfl) (by kernel_rfl) (fun _ _ _ h => h) (Or.inl ⟨by kernel_rfl, ?_⟩) (by assumption) ?_
    · intro W_ hSw
      obtain ⟨u0, u1, u2, u3, _, _, _, _⟩ := cells4 hSw
      clear hSw
      first | (go_simp; done) | (go_simp; with_reducible rfl) | (go_simp; rfl)
    try simp only [Act.put, List.getElem_toArray, List.getElem_cons_succ, List.getElem_cons_zero, List.setIfInBounds_toArray, List.set_cons_zero, List.set_cons_succ]
    refine wpAnyH_take (i := 11) (v := .pointer (some ⟨gm, 0, none⟩)) rfl (by kernel_rfl) (by kernel_rfl) (by kernel_rfl) (fun _ _ _ h => h) (Or.inl ⟨by kernel_rfl, ?_⟩) (by assumption) ?_
    · intro W_ hSw
      obtain ⟨u0, u1, u2, u3, _, _, _, _⟩ := cells4 hSw
      clear hSw
      first | (go_simp; done) | (go_simp; with_reducible rfl) | (go_simp; rfl)
    try simp only [Act.put, List.getElem_toArray, List.getElem_cons_succ, List.getElem_cons_zero, List.setIfInBounds_toArray, List.set_cons_zero, List.set_cons_succ]
    refine wpAnyH_take (i := 12) (v := .pointer (some ⟨bj, 0, none⟩)) rfl (by kernel_rfl) (by kernel_rfl) (by kernel_rfl) (fun _ _ _ h => h) (Or.inl ⟨by kernel_rfl, ?_⟩) (by assumption) ?_
    · intro W_ hSw
      obtain ⟨u0, u1, u2, u3, _, _, _, _⟩ := cells4 hSw
      clear hSw
      first | (go_simp; done) | (go_simp; with_reducible rfl) | (go_simp; rfl)
    try simp only [Act.put, List.getElem_toArray, List.getElem_cons_succ, List.getElem_cons_zero, List.setIfInBounds_toArray, List.set_cons_zero, List.set_cons_succ]
    refine wpAnyH_take (i := 13) (v := .int .i64 a0) rfl (by kernel_rfl) (by kernel_rfl) (by kernel_rfl) (fun _ _ _ h => h) (Or.inl ⟨by kernel_rfl, ?_⟩) (by assumption) ?_
    · intro W_ hSw
      obtain ⟨u0, u1, u2, u3, _, _, _, _⟩ := cells4 hSw
      clear hSw
      first | (go_simp; done) | (go_simp; with_reducible rfl) | (go_simp; rfl)
    try simp only [Act.put, List.getElem_toArray, List.getElem_cons_succ, List.getElem_cons_zero, List.setIfInBounds_toArray, List.set_cons_zero, List.set_cons_succ]
    clear hHeld
    refine next_le (i := 14) (rs := []) (by kernel_rfl) ?_
    refine cons_callG 14 (N := 96) (xs := #[.tmp 93, .tmp 95]) (ts := #[24, 3]) (by kernel_rfl) Try.func13 (by kernel_rfl) rfl #[.pointer (some ⟨gm, 0, none⟩), .int .i64 a0] (by kernel_rfl) ?_ AllReadyH.nil
    refine (L15.out.held a0).mono ?_
    rintro e w_ ⟨rfl, rfl⟩
    refine ⟨_, rfl, J15.out, ?_⟩
    have hHeld := J15.out
    rw [show ((put (fun _ => []) ⟨a0, A, n, c, a2, a3⟩ : Int → List Jb) a0).length = 1 from by unfold put; rw [if_pos rfl]; rfl]
    try simp only [Act.put, List.getElem_toArray, List.getElem_cons_succ, List.getElem_cons_zero, List.setIfInBounds_toArray, List.set_cons_zero, List.set_cons_succ]
    refine wpAnyH_take (i := 15) (v := .bool true) rfl (by kernel_rfl) (by kernel_rfl) (by kernel_rfl) (fun _ _ _ h => h) (Or.inl ⟨by kernel_rfl, ?_⟩) (by assumption) ?_
    · intro W_ hSw
      obtain ⟨u0, u1, u2, u3, _, _, _, _⟩ := cells4 hSw
      clear hSw
      first | (go_simp; done) | (go_simp; with_reducible rfl) | (go_simp; rfl)
    try simp only [Act.put, List.getElem_toArray, List.getElem_cons_succ, List.getElem_cons_zero, List.setIfInBounds_toArray, List.set_cons_zero, List.set_cons_succ]
    refine wpAnyH_take (i := 16) (v := .bool true) rfl (by kernel_rfl) (by kernel_rfl) (by kernel_rfl) (fun _ _ _ h => h) (Or.inl ⟨by kernel_rfl, ?_⟩) (by assumption) ?_
    · intro W_ hSw
      obtain ⟨u0, u1, u2, u3, _, _, _, _⟩ := cells4 hSw
      clear hSw
      first | (go_simp; done) | (go_simp; with_reducible rfl) | (go_simp; rfl)
    try simp only [Act.put, List.getElem_toArray, List.getElem_cons_succ, List.getElem_cons_zero, List.setIfInBounds_toArray, List.set_cons_zero, List.set_cons_succ]
    refine wpAnyH_take (i := 17) (v := .bool true) rfl (by kernel_rfl) (by kernel_rfl) (by kernel_rfl) (fun _ _ _ h => h) (Or.inl ⟨by kernel_rfl, ?_⟩) (by assumption) ?_
    · intro W_ hSw
      obtain ⟨u0, u1, u2, u3, _, _, _, _⟩ := cells4 hSw
      clear hSw
      first | (go_simp; done) | (go_simp; with_reducible rfl) | (go_simp; rfl)
    try simp only [Act.put, List.getElem_toArray, List.getElem_cons_succ, List.getElem_cons_zero, List.setIfInBounds_toArray, List.set_cons_zero, List.set_cons_succ]
    refine wpAnyH_take (i := 18) (v := .pointer (some ⟨gm, 0, none⟩)) rfl (by kernel_rfl) (by kernel_rfl) (by kernel_rfl) (fun _ _ _ h => h) (Or.inl ⟨by kernel_rfl, ?_⟩) (by assumption) ?_
    · intro W_ hSw
      obtain ⟨u0, u1, u2, u3, _, _, _, _⟩ := cells4 hSw
      clear hSw
      first | (go_simp; done) | (go_simp; with_reducible rfl) | (go_simp; rfl)
    try simp only [Act.put, List.getElem_toArray, List.getElem_cons_succ, List.getElem_cons_zero, List.setIfInBounds_toArray, List.set_cons_zero, List.set_cons_succ]
    refine wpAnyH_take (i := 19) (v := .pointer (some ⟨bj, 0, none⟩)) rfl (by kernel_rfl) (by kernel_rfl) (by kernel_rfl) (fun _ _ _ h => h) (Or.inl ⟨by kernel_rfl, ?_⟩) (by assumption) ?_
    · intro W_ hSw
      obtain ⟨u0, u1, u2, u3, _, _, _, _⟩ := cells4 hSw
      clear hSw
      first | (go_simp; done) | (go_simp; with_reducible rfl) | (go_simp; rfl)
    try simp only [Act.put, List.getElem_toArray, List.getElem_cons_succ, List.getElem_cons_zero, List.setIfInBounds_toArray, List.set_cons_zero, List.set_cons_succ]
    refine wpAnyH_take (i := 20) (v := .int .i64 a0) rfl (by kernel_rfl) (by kernel_rfl) (by kernel_rfl) (fun _ _ _ h => h) (Or.inl ⟨by kernel_rfl, ?_⟩) (by assumption) ?_
    · intro W_ hSw
      obtain ⟨u0, u1, u2, u3, _, _, _, _⟩ := cells4 hSw
      clear hSw
      first | (go_simp; done) | (go_simp; with_reducible rfl) | (go_simp; rfl)
    try simp only [Act.put, List.getElem_toArray, List.getElem_cons_succ, List.getElem_cons_zero, List.setIfInBounds_toArray, List.set_cons_zero, List.set_cons_succ]
    clear hHeld
    refine next_le (i := 21) (rs := []) (by kernel_rfl) ?_
    refine cons_callG 21 (N := 103) (xs := #[.tmp 100, .tmp 102]) (ts := #[24, 3]) (by kernel_rfl) Try.func10 (by kernel_rfl) rfl #[.pointer (some ⟨gm, 0, none⟩), .int .i64 a0] (by kernel_rfl) ?_ AllReadyH.nil
    have hBK := L15.out.back a0 (by unfold put; rw [if_pos rfl]; simp)
    rw [show ((put (fun _ => []) ⟨a0, A, n, c, a2, a3⟩ : Int → List Jb) a0).length = 1 from by unfold put; rw [if_pos rfl]; rfl, nb_bk] at hBK
    refine hBK.mono ?_
    clear hBK
    rintro e wB ⟨rfl, hl, hk⟩
    have LB := Aside0.mk hl
    have JB := Aside0.mk ((hk bj rfl).trans J15.out)
    clear hl hk
    refine ⟨_, rfl, JB.out, ?_⟩
    have hHeld := JB.out
    try simp only [Act.put, List.getElem_toArray, List.getElem_cons_succ, List.getElem_cons_zero, List.setIfInBounds_toArray, List.set_cons_zero, List.set_cons_succ]
    refine wpAnyH_take (i := 22) (v := .bool true) rfl (by kernel_rfl) (by kernel_rfl) (by kernel_rfl) (fun _ _ _ h => h) (Or.inl ⟨by kernel_rfl, ?_⟩) (by assumption) ?_
    · intro W_ hSw
      obtain ⟨u0, u1, u2, u3, _, _, _, _⟩ := cells4 hSw
      clear hSw
      first | (go_simp; done) | (go_simp; with_reducible rfl) | (go_simp; rfl)
    try simp only [Act.put, List.getElem_toArray, List.getElem_cons_succ, List.getElem_cons_zero, List.setIfInBounds_toArray, List.set_cons_zero, List.set_cons_succ]
    refine wpAnyH_take (i := 23) (v := .bool true) rfl (by kernel_rfl) (by kernel_rfl) (by kernel_rfl) (fun _ _ _ h => h) (Or.inl ⟨by kernel_rfl, ?_⟩) (by assumption) ?_
    · intro W_ hSw
      obtain ⟨u0, u1, u2, u3, _, _, _, _⟩ := cells4 hSw
      clear hSw
      first | (go_simp; done) | (go_simp; with_reducible rfl) | (go_simp; rfl)
    try simp only [Act.put, List.getElem_toArray, List.getElem_cons_succ, List.getElem_cons_zero, List.setIfInBounds_toArray, List.set_cons_zero, List.set_cons_succ]
    refine wpAnyH_take (i := 24) (v := .bool true) rfl (by kernel_rfl) (by kernel_rfl) (by kernel_rfl) (fun _ _ _ h => h) (Or.inl ⟨by kernel_rfl, ?_⟩) (by assumption) ?_
    · intro W_ hSw
      obtain ⟨u0, u1, u2, u3, _, _, _, _⟩ := cells4 hSw
      clear hSw
      first | (go_simp; done) | (go_simp; with_reducible rfl) | (go_simp; rfl)
    try simp only [Act.put, List.getElem_toArray, List.getElem_cons_succ, List.getElem_cons_zero, List.setIfInBounds_toArray, List.set_cons_zero, List.set_cons_succ]
    refine wpAnyH_take (i := 25) (v := .pointer (some ⟨gm, 0, none⟩)) rfl (by kernel_rfl) (by kernel_rfl) (by kernel_rfl) (fun _ _ _ h => h) (Or.inl ⟨by kernel_rfl, ?_⟩) (by assumption) ?_
    · intro W_ hSw
      obtain ⟨u0, u1, u2, u3, _, _, _, _⟩ := cells4 hSw
      clear hSw
      first | (go_simp; done) | (go_simp; with_reducible rfl) | (go_simp; rfl)
    try simp only [Act.put, List.getElem_toArray, List.getElem_cons_succ, List.getElem_cons_zero, List.setIfInBounds_toArray, List.set_cons_zero, List.set_cons_succ]
    refine wpAnyH_take (i := 27) (v := .agg #[.int .i64 a0, .slice A n c, .int .i64 a2, .string a3]) rfl (by kernel_rfl) (by kernel_rfl) (by kernel_rfl) (fun _ _ _ h => h) (Or.inl ⟨by kernel_rfl, ?_⟩) (by assumption) ?_
    · intro W_ hSw
      obtain ⟨u0, u1, u2, u3, _, _, _, _⟩ := cells4 hSw
      clear hSw
      first | (go_simp; done) | (go_simp; with_reducible rfl) | (go_simp; rfl)
    try simp only [Act.put, List.getElem_toArray, List.getElem_cons_succ, List.getElem_cons_zero, List.setIfInBounds_toArray, List.set_cons_zero, List.set_cons_succ]
    clear hHeld
    have BO := Aside0.mk (LB.out.out)
    refine next_le (i := 26) (rs := [28]) (by kernel_rfl) ?_
    refine cons_callG 26 (N := 108) (xs := #[.tmp 107]) (ts := #[24]) (by kernel_rfl) Try.func24 (by kernel_rfl) rfl #[.pointer (some ⟨gm, 0, none⟩)] (by kernel_rfl) ?brA ?brB
    case' brA =>
      refine LB.out.all.mono ?_
      rintro e wA ⟨v, rfl, hO, hB⟩
      refine ⟨_, rfl, old_blk JB.out hB, ?_⟩
      try simp only [Act.put, List.getElem_toArray, List.getElem_cons_succ, List.getElem_cons_zero, List.setIfInBounds_toArray, List.set_cons_zero, List.set_cons_succ]
      refine next_le (i := 28) (rs := []) (by kernel_rfl) ?_
      refine cons_bsG 28 110 109 ⟨a0, A, n, c, a2, a3⟩ (by kernel_rfl) (by kernel_rfl) (fun b wC hbs hbb hbl => ⟨old_blk (old_blk JB.out hB) hbl, ?_⟩) AllReadyH.nil
      have HO := Aside0.mk (OwnJ.below hO hbl)
      have HBB := Aside0.mk hbb
      have HBC := Aside0.mk (below_tr hB hbl)
      clear hO hB hbs hbb hbl
    case' brB =>
      refine cons_bsG 28 110 109 ⟨a0, A, n, c, a2, a3⟩ (by kernel_rfl) (by kernel_rfl) (fun b wA hbs hbb hbl => ⟨old_blk JB.out hbl, ?_⟩) AllReadyH.nil
      try simp only [Act.put, List.getElem_toArray, List.getElem_cons_succ, List.getElem_cons_zero, List.setIfInBounds_toArray, List.set_cons_zero, List.set_cons_succ]
      refine next_le (i := 26) (rs := []) (by kernel_rfl) ?_
      refine cons_callG 26 (N := 108) (xs := #[.tmp 107]) (ts := #[24]) (by kernel_rfl) Try.func24 (by kernel_rfl) rfl #[.pointer (some ⟨gm, 0, none⟩)] (by kernel_rfl) ?_ AllReadyH.nil
      refine (LB.out.below hbl).all.mono ?_
      rintro e wC ⟨v, rfl, hO, hB⟩
      refine ⟨_, rfl, old_blk (old_blk JB.out hbl) hB, ?_⟩
      have HO := Aside0.mk hO
      have HBB := Aside0.mk (old_blk hbb hB)
      have HBC := Aside0.mk (below_tr hbl hB)
      clear hO hB hbs hbb hbl
    all_goals
      obtain ⟨Av, cv, hv, hrd⟩ := HO.out.form
      have hcap := own_cap (by have h := HO.out; rw [hv] at h; exact h)
      subst hv
      have JC2 := Aside0.mk (old_blk JB.out HBC.out)
      have BC2 := Aside0.mk (below_all HBC.out BO.out.size BO.out)
      try simp only [Act.put, List.getElem_toArray, List.getElem_cons_succ, List.getElem_cons_zero, List.setIfInBounds_toArray, List.set_cons_zero, List.set_cons_succ]
      refine next_le (i := 29) (rs := []) (by kernel_rfl) ?_
      refine cons_callG 29 (N := 111) (xs := #[.tmp 108, .tmp 110]) (ts := #[36, 36]) (by kernel_rfl) Try.func23 (by kernel_rfl) rfl #[.slice Av 1 cv, .slice (some ⟨b, 0, none⟩) 1 1] (by kernel_rfl) ?_ AllReadyH.nil
      refine (same_calls (w := w) BC2.out (q := [⟨a0, A, n, c, a2, a3⟩]) HJQ.out (by simp) rfl rfl hrd (reads_block HBB.out rfl) hcap (Nat.le_refl 1)).mono ?_
      rintro e wD ⟨rfl, hB⟩
      have JD := Aside0.mk (old_blk JC2.out hB)
      have BD := Aside0.mk (below_all hB BC2.out.size BC2.out)
      clear hB hrd hcap
      refine ⟨_, rfl, JD.out, ?_⟩
      have hHeld := JD.out
      try simp only [Act.put, List.getElem_toArray, List.getElem_cons_succ, List.getElem_cons_zero, List.setIfInBounds_toArray, List.set_cons_zero, List.set_cons_succ]
      refine wpAnyH_take (i := 30) (v := .bool true) rfl (by kernel_rfl) (by kernel_rfl) (by kernel_rfl) (fun _ _ _ h => h) (Or.inl ⟨by kernel_rfl, ?_⟩) (by assumption) ?_
      · intro W_ hSw
        obtain ⟨u0, u1, u2, u3, _, _, _, _⟩ := cells4 hSw
        clear hSw
        first | (go_simp; done) | (go_simp; with_reducible rfl) | (go_simp; rfl)
      try simp only [Act.put, List.getElem_toArray, List.getElem_cons_succ, List.getElem_cons_zero, List.setIfInBounds_toArray, List.set_cons_zero, List.set_cons_succ]
      refine wpAnyH_take (i := 31) (v := .bool true) rfl (by kernel_rfl) (by kernel_rfl) (by kernel_rfl) (fun _ _ _ h => h) (Or.inl ⟨by kernel_rfl, ?_⟩) (by assumption) ?_
      · intro W_ hSw
        obtain ⟨u0, u1, u2, u3, _, _, _, _⟩ := cells4 hSw
        clear hSw
        first | (go_simp; done) | (go_simp; with_reducible rfl) | (go_simp; rfl)
      try simp only [Act.put, List.getElem_toArray, List.getElem_cons_succ, List.getElem_cons_zero, List.setIfInBounds_toArray, List.set_cons_zero, List.set_cons_succ]
      clear hHeld
      refine next_le (i := 32) (rs := []) (by kernel_rfl) ?_
      refine cons_callG 32 (N := 114) (xs := #[]) (ts := #[]) (by kernel_rfl) Try.func7 (by kernel_rfl) rfl #[] (by kernel_rfl) ?_ AllReadyH.nil
      refine (alive_calls wD).mono ?_
      rintro e wZ ⟨rfl, hB⟩
      have JZ := Aside0.mk (old_blk JD.out hB)
      have HZ := Aside0.mk (below_all hB BD.out.size BD.out)
      clear hB
      refine ⟨_, rfl, JZ.out, ?_⟩
      have hHeld := JZ.out
      try simp only [Act.put, List.getElem_toArray, List.getElem_cons_succ, List.getElem_cons_zero, List.setIfInBounds_toArray, List.set_cons_zero, List.set_cons_succ]
      refine wpAnyH_take (i := 33) (v := .bool true) rfl (by kernel_rfl) (by kernel_rfl) (by kernel_rfl) (fun _ _ _ h => h) (Or.inl ⟨by kernel_rfl, ?_⟩) (by assumption) ?_
      · intro W_ hSw
        obtain ⟨u0, u1, u2, u3, _, _, _, _⟩ := cells4 hSw
        clear hSw
        first | (go_simp; done) | (go_simp; with_reducible rfl) | (go_simp; rfl)
      try simp only [Act.put, List.getElem_toArray, List.getElem_cons_succ, List.getElem_cons_zero, List.setIfInBounds_toArray, List.set_cons_zero, List.set_cons_succ]
      refine wpAnyH_take (i := 34) (v := .bool true) rfl (by kernel_rfl) (by kernel_rfl) (by kernel_rfl) (fun _ _ _ h => h) (Or.inl ⟨by kernel_rfl, ?_⟩) (by assumption) ?_
      · intro W_ hSw
        obtain ⟨u0, u1, u2, u3, _, _, _, _⟩ := cells4 hSw
        clear hSw
        first | (go_simp; done) | (go_simp; with_reducible rfl) | (go_simp; rfl)
      try simp only [Act.put, List.getElem_toArray, List.getElem_cons_succ, List.getElem_cons_zero, List.setIfInBounds_toArray, List.set_cons_zero, List.set_cons_succ]
      clear hHeld
      refine wpAnyH_done (by kernel_rfl) ?_ _
      go_wp2_with fail
      go_ret
      exact ⟨rfl, HZ.out⟩
end Go.Proofs.Ytnegagkjhnpgmaa.Sc
namespace Go.Proofs.Ytnegagkjhnpgmaa.X
set_option linter.unusedVariables false
open Go.RowKit Go.Proofs.YtnegagkjhnpgmaaW.PrintWords Go.Proofs.YtnegagkjhnpgmaaW.PrintMore Go.Proofs.YtnegagkjhnpgmaaW.PrintLast Go.Proofs.Ytnegagkjhnpgmaa.Sc
theorem mewslaw44_SchedNobody.calls (k : Nat) (a0 : Int) (A1 : Option Addr) (c1 : Nat) (l1 : List ByteArray) (a2 : Int) (a3 : ByteArray) (r : Bool) (w : World) (hr1 : Kd.C Kd.string w A1 l1.length l1) (hc1 : l1.length ≤ c1) (hr_ : Aside0 (r = true)) (h : mewslaw44_SchedNobody.f k a0 l1 a2 a3 = some r) :
    Calls Try.prog 6 #[.agg #[.int .i64 a0, .slice A1 l1.length c1, .int .i64 a2, .string a3]] w fun e w' => e = .returned (.bool r) ∧ Below w.heap.size w w' := by
  have hbd : l1.length ≤ 1000000000000000 := by
    unfold mewslaw44_SchedNobody.f at h
    by_cases b : l1.length ≤ 1000000000000000
    · exact b
    · rw [if_neg b] at h; cases h
  rw [hr_.out]
  exact nobody_calls a0 A1 c1 l1.length l1 a2 a3 w rfl hr1 hc1 hbd
end Go.Proofs.Ytnegagkjhnpgmaa.X
