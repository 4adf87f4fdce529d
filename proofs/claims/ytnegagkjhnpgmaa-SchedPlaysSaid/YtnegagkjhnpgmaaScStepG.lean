/- Steps of a region that draws, guarded or not: a call, a row of one job. -/
import Derived.Test.YtnegagkjhnpgmaaScStep
namespace Go.Proofs.Ytnegagkjhnpgmaa.Sc
open Go.RowKit Go.Proofs.YtnegagkjhnpgmaaW.PrintWords Go.Proofs.YtnegagkjhnpgmaaW.PrintMore Go.Proofs.YtnegagkjhnpgmaaW.PrintLast Go.Proofs.Ytnegagkjhnpgmaa.Dq
set_option linter.unusedVariables false
set_option linter.unusedSimpArgs false
set_option maxHeartbeats 1000000
section
variable {ops : Array Oper} {S : World → Prop} {fuel : Nat} {listed : Array Bool} {a : Act} {W : World} {Q : Exit → Act → World → Prop} {rs : List Nat}
theorem operG {i : Nat} {dst : Option Tmp} {op : Op} (hi : (ops[i]?).map (fun o => (Region.wanted o (yielded ops a.tmps), o.dst, o.op)) = some (true, dst, op)) : ∃ o, ops[i]? = some o ∧ Region.wanted o (yielded ops a.tmps) = true ∧ o.dst = dst ∧ o.op = op := by
  match ho : ops[i]? with
  | none => rw [ho] at hi; cases hi
  | some o =>
    rw [ho] at hi
    injection hi with hi
    injection hi with h1 h2
    injection h2 with h2 h3
    exact ⟨o, rfl, h1, h2, h3⟩
theorem cons_callG (i : Nat) {N : Tmp} {f : FuncId} {fn : Func} {xs : Array Operand} {ts : Array TypeId} (hi : (ops[i]?).map (fun o => (Region.wanted o (yielded ops a.tmps), o.dst, o.op)) = some (true, some N, .call { callee := .value (.func f), args := xs, argTypes := ts }))
    (hf : Try.prog.funcs[f]? = some fn) (hname : (fn.name == "runtime.NumGoroutine") = false) (hb : fn.body.isSome = true) (args : Array Value) (hargs : xs.map a.eval = args)
    (h : Calls Try.prog f args W fun e w' => ∃ v, e = .returned v ∧ S w' ∧ wpAnyH Try.prog .any ops Q S fuel (listed.setIfInBounds i true) (a.put (some N) v) w')
    (hs : AllReadyH Try.prog .any ops Q S fuel listed a W rs) : AllReadyH Try.prog .any ops Q S fuel listed a W (i :: rs) := by
  obtain ⟨o, ho, hw, hd, hop⟩ := operG hi
  refine AllReadyH.cons ho (fun K hK => ?_) hs
  have hg := goes_ (P := Try.prog) (ops := ops) (Q := Q) (K := K) hf hname hb args hw hd hop hargs (h.mono fun e w' ⟨v, he, hS, hwp⟩ => ⟨v, he, hK.out _ _ hS (fun _ => hwp)⟩)
  rw [hd]
  exact hg
theorem cons_bsG (i : Nat) (N s : Tmp) (x : Jb) (hi : (ops[i]?).map (fun o => (Region.wanted o (yielded ops a.tmps), o.dst, o.op)) = some (true, some N, .buildSlice 36 1 #[(0, .tmp s)]))
    (hx : a.eval (.tmp s) = .agg #[.int .i64 x.h, .slice x.A x.n x.c, .int .i64 x.sz, .string x.ft])
    (h : ∀ b w1, b = W.heap.size → w1.heap[b]? = some (.cells #[.int .i64 x.h, .slice x.A x.n x.c, .int .i64 x.sz, .string x.ft] 29 (0, 0)) → Below W.heap.size W w1 → S w1 ∧ wpAnyH Try.prog .any ops Q S fuel (listed.setIfInBounds i true) (a.put (some N) (.slice (some ⟨b, 0, none⟩) 1 1)) w1)
    (hs : AllReadyH Try.prog .any ops Q S fuel listed a W rs) : AllReadyH Try.prog .any ops Q S fuel listed a W (i :: rs) := by
  have hu := Try.underlying29
  have hu2 := Try.underlying36
  obtain ⟨o, ho, hw, hd, hop⟩ := operG hi
  refine AllReadyH.cons ho (fun K hK => ?_) hs
  have h9 := h _ (W.alloc (.cells #[.int .i64 x.h, .slice x.A x.n x.c, .int .i64 x.sz, .string x.ft] 29 (0, 0))) rfl (blk_new W _) (below_alloc (Below.refl _ _) _)
  have hrun : (execOp a.eval o).run Try.prog W = .ok (.value (.slice (some ⟨W.heap.size, 0, none⟩) 1 1)) (W.alloc (.cells #[.int .i64 x.h, .slice x.A x.n x.c, .int .i64 x.sz, .string x.ft] 29 (0, 0))) := by
    clear h9 h hs hi hK
    generalize a.eval = ev at hx ⊢
    obtain ⟨xh, xA, xn, xc, xs, xf⟩ := x
    unfold execOp
    simp only [hop]
    go_simp
    try (simp [hx]; done)
    try rfl
  have hv := value_ (P := Try.prog) (ops := ops) (Q := Q) (K := K) hw hd hrun (hK.out _ _ h9.1 (fun _ => h9.2))
  rw [hd]
  exact hv
theorem next_le {i : Nat} {rs : List Nat} (hr : Region.ready .any ops listed = i :: rs) (h : AllReadyH Try.prog .any ops Q S fuel listed a W (i :: rs)) : wpAnyH Try.prog .any ops Q S (fuel + 1) listed a W := wpAnyH_ready hr (by simp) h
end
end Go.Proofs.Ytnegagkjhnpgmaa.Sc
