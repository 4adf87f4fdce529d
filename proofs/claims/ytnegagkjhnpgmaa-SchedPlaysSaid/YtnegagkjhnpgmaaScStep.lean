/- Steps of a region that draws, told apart of the walk: a lookup, a row of one job, append, mapUpdate. -/
import Derived.Test.YtnegagkjhnpgmaaScLMap
namespace Go.Proofs.Ytnegagkjhnpgmaa.Sc
open Go.RowKit Go.Proofs.YtnegagkjhnpgmaaW.PrintWords Go.Proofs.YtnegagkjhnpgmaaW.PrintMore Go.Proofs.YtnegagkjhnpgmaaW.PrintLast Go.Proofs.Ytnegagkjhnpgmaa.Dq
set_option linter.unusedVariables false
set_option linter.unusedSimpArgs false
set_option maxHeartbeats 1000000
section
variable {ops : Array Oper} {S : World → Prop} {fuel : Nat} {listed : Array Bool} {a : Act} {W : World} {Q : Exit → Act → World → Prop} {rs : List Nat}
theorem oper_of {i : Nat} {dst : Option Tmp} {op : Op} (hi : (ops[i]?).map (fun o => (o.guard.isNone, o.dst, o.op)) = some (true, dst, op)) : ∃ o, ops[i]? = some o ∧ o.guard = none ∧ o.dst = dst ∧ o.op = op := by
  match ho : ops[i]? with
  | none => rw [ho] at hi; cases hi
  | some o =>
    rw [ho] at hi
    injection hi with hi
    injection hi with h1 h2
    injection h2 with h2 h3
    refine ⟨o, rfl, ?_, h2, h3⟩
    cases hg : o.guard with
    | none => rfl
    | some x => rw [hg] at h1; cases h1
theorem cons_val (i : Nat) {dst : Option Tmp} {op : Op} (v : Value) (w1 : World) (hi : (ops[i]?).map (fun o => (o.guard.isNone, o.dst, o.op)) = some (true, dst, op))
    (hrun : ∀ o : Oper, o.op = op → (execOp a.eval o).run Try.prog W = .ok (.value v) w1) (h : S w1 ∧ wpAnyH Try.prog .any ops Q S fuel (listed.setIfInBounds i true) (a.put dst v) w1)
    (hs : AllReadyH Try.prog .any ops Q S fuel listed a W rs) : AllReadyH Try.prog .any ops Q S fuel listed a W (i :: rs) := by
  obtain ⟨o, ho, hg, hd, hop⟩ := oper_of hi
  refine AllReadyH.cons ho (fun K hK => ?_) hs
  have hw : Region.wanted o (yielded ops a.tmps) = true := by simp [Region.wanted, hg]
  rw [if_pos hw]
  unfold Oper.wp
  rw [hrun o hop]
  show K (a.put o.dst v) w1
  rw [hd]
  exact hK.out _ _ h.1 (fun _ => h.2)
theorem cons_lk (i : Nat) (N m k : Tmp) (r : Nat) (kk : Int) (v : Value) (hi : (ops[i]?).map (fun o => (o.guard.isNone, o.dst, o.op)) = some (true, some N, .lookup 52 (.tmp m) (.tmp k) false))
    (hm : a.eval (.tmp m) = .map (some r)) (hk : a.eval (.tmp k) = .int .i64 kk) (hrun : (Instr.lookup 52 (.map (some r)) (.int .i64 kk) false).run Try.prog W = .ok v W)
    (h : S W ∧ wpAnyH Try.prog .any ops Q S fuel (listed.setIfInBounds i true) (a.put (some N) v) W)
    (hs : AllReadyH Try.prog .any ops Q S fuel listed a W rs) : AllReadyH Try.prog .any ops Q S fuel listed a W (i :: rs) := by
  refine cons_val i v W hi (fun o ho => ?_) h hs
  unfold execOp
  simp only [ho, hm, hk, hrun, Sem.run_bind, Sem.run_pure, Result.andThen_ok]
theorem cons_bs (i : Nat) (N s : Tmp) (x : Jb) (hi : (ops[i]?).map (fun o => (o.guard.isNone, o.dst, o.op)) = some (true, some N, .buildSlice 36 1 #[(0, .tmp s)]))
    (hx : a.eval (.tmp s) = .agg #[.int .i64 x.h, .slice x.A x.n x.c, .int .i64 x.sz, .string x.ft])
    (h : ∀ b w1, b = W.heap.size → w1.heap[b]? = some (.cells #[.int .i64 x.h, .slice x.A x.n x.c, .int .i64 x.sz, .string x.ft] 29 (0, 0)) → Below W.heap.size W w1 → w1.heap.size = b + 1 → S w1 ∧ wpAnyH Try.prog .any ops Q S fuel (listed.setIfInBounds i true) (a.put (some N) (.slice (some ⟨b, 0, none⟩) 1 1)) w1)
    (hs : AllReadyH Try.prog .any ops Q S fuel listed a W rs) : AllReadyH Try.prog .any ops Q S fuel listed a W (i :: rs) := by
  have hu := Try.underlying29
  have hu2 := Try.underlying36
  refine cons_val i (.slice (some ⟨W.heap.size, 0, none⟩) 1 1) (W.alloc (.cells #[.int .i64 x.h, .slice x.A x.n x.c, .int .i64 x.sz, .string x.ft] 29 (0, 0))) hi (fun o ho => ?_) (h _ _ rfl (blk_new W _) (below_alloc (Below.refl _ _) _) (by simp)) hs
  clear h hs hi
  generalize a.eval = ev at hx ⊢
  obtain ⟨xh, xA, xn, xc, xs, xf⟩ := x
  unfold execOp
  simp only [ho]
  go_simp
  try (simp [hx]; done)
  try rfl
theorem cons_app (i : Nat) (N s m : Tmp) (base H b : Nat) (v : Value) (L : List Jb) (x : Jb) (hi : (ops[i]?).map (fun o => (o.guard.isNone, o.dst, o.op)) = some (true, some N, .call { callee := .builtin .append, args := #[.tmp s, .tmp m], argTypes := #[36, 36] }))
    (hs0 : a.eval (.tmp s) = v) (hx : a.eval (.tmp m) = .slice (some ⟨b, 0, none⟩) 1 1) (hown : OwnJ W base v L) (hb : W.heap[b]? = some (.cells #[.int .i64 x.h, .slice x.A x.n x.c, .int .i64 x.sz, .string x.ft] 29 (0, 0)))
    (hL : L.length ≤ 2097152) (hbase : base ≤ W.heap.size)
    (h : ∀ gg cap w1, OwnJ w1 base (.slice (some ⟨gg, 0, none⟩) (L.length + 1) cap) (L ++ [x]) → W.grownBy w1 v.ownBlock → (v.ownBlock = some gg ∨ gg = W.heap.size) → S w1 ∧ wpAnyH Try.prog .any ops Q S fuel (listed.setIfInBounds i true) (a.put (some N) (.slice (some ⟨gg, 0, none⟩) (L.length + 1) cap)) w1)
    (hs : AllReadyH Try.prog .any ops Q S fuel listed a W rs) : AllReadyH Try.prog .any ops Q S fuel listed a W (i :: rs) := by
  obtain ⟨o, ho, hg, hd, hop⟩ := oper_of hi
  obtain ⟨i0, hi0, hzz⟩ := Option.map_eq_some_iff.1 infoJ
  simp only [Prod.mk.injEq] at hzz
  obtain ⟨gg, cap, w1, hr, h2, h3, h4, h5⟩ := run_append_lies (P := Try.prog) W 36 o.type base 29 i0 _ 4 56 Try.underlying36 hi0 hzz.1 hzz.2.1 hzz.2.2 rfl (by omega) v L.length (flat L) hown ⟨b, 0, none⟩ 1 1 [.int .i64 x.h, .slice x.A x.n x.c, .int .i64 x.sz, .string x.ft] rfl (World.news_of_block hb) (by simp [Value.oneCell']) (by omega) (max_small _ hL) (lit_small _ hL) hbase _ rfl
  refine AllReadyH.cons ho (fun K hK => ?_) hs
  have hw : Region.wanted o (yielded ops a.tmps) = true := by simp [Region.wanted, hg]
  rw [if_pos hw]
  have h9 := h gg cap w1 (by unfold OwnJ; rw [List.length_append, flat_append]; exact h2) h3 h4
  unfold Oper.wp execOp
  simp only [hop, resolve, invoke, builtin, Sem.run_bind, Sem.run_pure, Result.andThen_ok, List.map_toArray, List.map_cons, List.map_nil, hs0, hx, hr]
  show K (a.put o.dst _) w1
  rw [hd]
  exact hK.out _ _ h9.1 (fun _ => h9.2)
theorem cons_upd (i : Nat) (m k v : Tmp) (r : Nat) (kk : Int) (vv : Value) (M : List (Int × Value)) (hi : (ops[i]?).map (fun o => (o.guard.isNone, o.dst, o.op)) = some (true, none, .mapUpdate 52 (.tmp m) (.tmp k) (.tmp v)))
    (hm : a.eval (.tmp m) = .map (some r)) (hk : a.eval (.tmp k) = .int .i64 kk) (hv : a.eval (.tmp v) = vv) (hM : MapAt W r M)
    (h : ∀ o1 w1, w1 = oset W r o1 → MapAt w1 r (updM M kk vv) → S w1 ∧ wpAnyH Try.prog .any ops Q S fuel (listed.setIfInBounds i true) a w1)
    (hs : AllReadyH Try.prog .any ops Q S fuel listed a W rs) : AllReadyH Try.prog .any ops Q S fuel listed a W (i :: rs) := by
  obtain ⟨o, ho, hg, hd, hop⟩ := oper_of hi
  exact AllReadyH.cons ho (fun K hK => step_upd hg hd _ _ _ hop r kk vv M hm hk hv hM (fun o1 h1 => hK.out _ _ (h o1 _ rfl h1).1 (fun _ => (h o1 _ rfl h1).2))) hs
theorem next_one {i : Nat} (hr : Region.ready .any ops listed = [i]) (h : AllReadyH Try.prog .any ops Q S fuel listed a W [i]) : wpAnyH Try.prog .any ops Q S (fuel + 1) listed a W := wpAnyH_ready hr (by simp) h
theorem next_two {i j : Nat} (hr : Region.ready .any ops listed = [i, j]) (h : AllReadyH Try.prog .any ops Q S fuel listed a W [i, j]) : wpAnyH Try.prog .any ops Q S (fuel + 1) listed a W := wpAnyH_ready hr (by simp) h
theorem put_comm (a : Act) {N1 N2 : Tmp} (hN : N1 ≠ N2) (v1 v2 : Value) : (a.put (some N2) v2).put (some N1) v1 = (a.put (some N1) v1).put (some N2) v2 := by
  show ({ a with tmps := (a.tmps.setIfInBounds N2 v2).setIfInBounds N1 v1 } : Act) = { a with tmps := (a.tmps.setIfInBounds N1 v1).setIfInBounds N2 v2 }
  rw [Array.setIfInBounds_comm v2 v1 (fun e => hN e.symm)]
/-- A lookup and a row of one job that are both ready: whichever comes first, one state. -/
theorem next_lk_bs (i j : Nat) (N1 m k N2 s : Tmp) (r : Nat) (kk : Int) (v : Value) (x : Jb) (hr : Region.ready .any ops listed = [i, j]) (hr1 : Region.ready .any ops (listed.setIfInBounds i true) = [j]) (hr2 : Region.ready .any ops (listed.setIfInBounds j true) = [i]) (hij : i ≠ j) (hN : N1 ≠ N2)
    (hi : (ops[i]?).map (fun o => (o.guard.isNone, o.dst, o.op)) = some (true, some N1, .lookup 52 (.tmp m) (.tmp k) false))
    (hm : a.eval (.tmp m) = .map (some r)) (hk : a.eval (.tmp k) = .int .i64 kk) (hm2 : ∀ c, (a.put (some N2) c).eval (.tmp m) = .map (some r)) (hk2 : ∀ c, (a.put (some N2) c).eval (.tmp k) = .int .i64 kk)
    (hj : (ops[j]?).map (fun o => (o.guard.isNone, o.dst, o.op)) = some (true, some N2, .buildSlice 36 1 #[(0, .tmp s)]))
    (hx : a.eval (.tmp s) = .agg #[.int .i64 x.h, .slice x.A x.n x.c, .int .i64 x.sz, .string x.ft]) (hx2 : ∀ c, (a.put (some N1) c).eval (.tmp s) = .agg #[.int .i64 x.h, .slice x.A x.n x.c, .int .i64 x.sz, .string x.ft])
    (hrun : ∀ W1, Below W.heap.size W W1 → (Instr.lookup 52 (.map (some r)) (.int .i64 kk) false).run Try.prog W1 = .ok v W1)
    (hS : ∀ W1, Below W.heap.size W W1 → S W1)
    (h : ∀ b w1, b = W.heap.size → w1.heap[b]? = some (.cells #[.int .i64 x.h, .slice x.A x.n x.c, .int .i64 x.sz, .string x.ft] 29 (0, 0)) → Below W.heap.size W w1 → w1.heap.size = b + 1 → wpAnyH Try.prog .any ops Q S fuel ((listed.setIfInBounds i true).setIfInBounds j true) ((a.put (some N1) v).put (some N2) (.slice (some ⟨b, 0, none⟩) 1 1)) w1) :
    wpAnyH Try.prog .any ops Q S (fuel + 1 + 1) listed a W := by
  refine next_two hr ?_
  refine cons_lk i N1 m k r kk v hi hm hk (hrun W (Below.refl _ _)) ⟨hS W (Below.refl _ _), ?_⟩ ?_
  · refine next_one hr1 ?_
    exact cons_bs j N2 s x hj (hx2 _) (fun b w1 h1 h2 h3 h4 => ⟨hS w1 h3, h b w1 h1 h2 h3 h4⟩) AllReadyH.nil
  · refine cons_bs j N2 s x hj hx (fun b w1 h1 h2 h3 h4 => ⟨hS w1 h3, ?_⟩) AllReadyH.nil
    refine next_one hr2 ?_
    refine cons_lk i N1 m k r kk v hi (hm2 _) (hk2 _) (hrun w1 h3) ⟨hS w1 h3, ?_⟩ AllReadyH.nil
    rw [put_comm a hN, Array.setIfInBounds_comm true true (fun e => hij e.symm)]
    exact h b w1 h1 h2 h3 h4
theorem region_drew {id : Nat} (S : World → Prop) {w : World} (hm : Try.prog.follows .mixedOrders = true)
    (h : ∀ d, Below w.heap.size w d → d.heap = w.heap → S d ∧ (S d → wpAnyH Try.prog .any ops Q S ops.size (Array.replicate ops.size false) a d)) : (Code.region id ops true).wp Try.prog Q a w :=
  have hd := h _ (below_drew (Below.refl _ _)) rfl
  wp_region_held_drew hm hd.1 hd.2
end
end Go.Proofs.Ytnegagkjhnpgmaa.Sc
