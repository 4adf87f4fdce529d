/- Events in memory: nine cells; steps of regions that draw, by what an operation is. -/
import Derived.Test.YtehnogggokfcaaaProg
import Derived.Test.YtehnogggokfcaaaWA
import Derived.WalkKit
import Derived.WalkLawsBesides
import Derived.WalkSpells
import Derived.OwnWalk
import Derived.Deep.RegionLaw
import Derived.Deep.RegionHeld3
import Derived.Deep.DrawnRows
import Derived.Deep.QuietTactic
import Derived.BigQuiet
import Derived.Outline
namespace Go.Proofs.Ytehnogggokfcaaa.Ev
open Go.RowKit Go.Proofs.YtehnogggokfcaaaW.PrintWords Go.Proofs.YtehnogggokfcaaaW.PrintMore Go.Proofs.YtehnogggokfcaaaW.PrintLast
set_option linter.unusedVariables false
set_option linter.unusedSimpArgs false
structure Ec where
  k : Int
  h : Int
  s : ByteArray
  n : Int
  t : Int
  fn : ByteArray
  fk : Int
  fz : Int
  A : Option Addr
  nl : Nat
  c : Nat
def Ec.z : Ec := ⟨0, 0, ⟨#[]⟩, 0, 0, ⟨#[]⟩, 0, 0, none, 0, 0⟩
def ecL (e : Ec) : Array Value := #[.int .i64 e.k, .int .i64 e.h, .string e.s, .int .i64 e.n, .int .i64 e.t, .string e.fn, .int .i64 e.fk, .int .i64 e.fz, .slice e.A e.nl e.c]
def EB (W : World) (g : Nat) (e : Ec) : Prop := W.heap[g]? = some (.cells (ecL e) 26 (0, 0))
section
variable {W W1 : World} {g : Nat} {e : Ec}
theorem EB.cells (h : EB W g e) : W.cell? ⟨g, 0, none⟩ = some (.int .i64 e.k) ∧ W.cell? ⟨g, 1, none⟩ = some (.int .i64 e.h) ∧ W.cell? ⟨g, 2, none⟩ = some (.string e.s) ∧ W.cell? ⟨g, 3, none⟩ = some (.int .i64 e.n) ∧ W.cell? ⟨g, 4, none⟩ = some (.int .i64 e.t) ∧ W.cell? ⟨g, 5, none⟩ = some (.string e.fn) ∧ W.cell? ⟨g, 6, none⟩ = some (.int .i64 e.fk) ∧ W.cell? ⟨g, 7, none⟩ = some (.int .i64 e.fz) ∧ W.cell? ⟨g, 8, none⟩ = some (.slice e.A e.nl e.c) :=
  ⟨(blk_cell h 0).trans rfl, (blk_cell h 1).trans rfl, (blk_cell h 2).trans rfl, (blk_cell h 3).trans rfl, (blk_cell h 4).trans rfl, (blk_cell h 5).trans rfl, (blk_cell h 6).trans rfl, (blk_cell h 7).trans rfl, (blk_cell h 8).trans rfl⟩
theorem EB.free (h : EB W g e) : W.frozen? ⟨g, 0, none⟩ = false ∧ W.frozen? ⟨g, 1, none⟩ = false ∧ W.frozen? ⟨g, 2, none⟩ = false ∧ W.frozen? ⟨g, 3, none⟩ = false ∧ W.frozen? ⟨g, 4, none⟩ = false ∧ W.frozen? ⟨g, 5, none⟩ = false ∧ W.frozen? ⟨g, 6, none⟩ = false ∧ W.frozen? ⟨g, 7, none⟩ = false ∧ W.frozen? ⟨g, 8, none⟩ = false :=
  ⟨blk_frozen h 0, blk_frozen h 1, blk_frozen h 2, blk_frozen h 3, blk_frozen h 4, blk_frozen h 5, blk_frozen h 6, blk_frozen h 7, blk_frozen h 8⟩
theorem EB.lt (h : EB W g e) : g < W.heap.size := by
  unfold EB at h
  exact (Array.getElem?_eq_some_iff.1 h).1
theorem EB.below (h : EB W g e) (hb : Below W.heap.size W W1) : EB W1 g e := (hb.block g h.lt).trans h
theorem heap_other {w : World} {k g j : Nat} (h : k ≠ g) (v : Value) : (w.setCell ⟨g, j, none⟩ v).heap[k]? = w.heap[k]? := Below.heap_setCell w ⟨g, j, none⟩ v k h
theorem EB.other (h : EB W g e) {k j : Nat} (hk : g ≠ k) (v : Value) : EB (W.setCell ⟨k, j, none⟩ v) g e := (heap_other hk v).trans h
theorem EB.setH (h : EB W g e) (x : Int) : EB (W.setCell ⟨g, 1, none⟩ (.int .i64 x)) g { e with h := x } := blk_put h 1 _ rfl
theorem EB.setS (h : EB W g e) (x : ByteArray) : EB (W.setCell ⟨g, 2, none⟩ (.string x)) g { e with s := x } := blk_put h 2 _ rfl
theorem EB.setN (h : EB W g e) (x : Int) : EB (W.setCell ⟨g, 3, none⟩ (.int .i64 x)) g { e with n := x } := blk_put h 3 _ rfl
theorem EB.setT (h : EB W g e) (x : Int) : EB (W.setCell ⟨g, 4, none⟩ (.int .i64 x)) g { e with t := x } := blk_put h 4 _ rfl
theorem EB.setF (h : EB W g e) (a : ByteArray) (b c : Int) : EB (((W.setCell ⟨g, 5, none⟩ (.string a)).setCell ⟨g, 6, none⟩ (.int .i64 b)).setCell ⟨g, 7, none⟩ (.int .i64 c)) g { e with fn := a, fk := b, fz := c } := blk_put (blk_put (blk_put h 5 _ rfl) 6 _ rfl) 7 _ rfl
theorem EB.setL (h : EB W g e) (A : Option Addr) (n c : Nat) : EB (W.setCell ⟨g, 8, none⟩ (.slice A n c)) g { e with A := A, nl := n, c := c } := blk_put h 8 _ rfl
def w9 (W : World) (g : Nat) (e : Ec) : World := ((((((((W.setCell ⟨g, 0, none⟩ (.int .i64 e.k)).setCell ⟨g, 1, none⟩ (.int .i64 e.h)).setCell ⟨g, 2, none⟩ (.string e.s)).setCell ⟨g, 3, none⟩ (.int .i64 e.n)).setCell ⟨g, 4, none⟩ (.int .i64 e.t)).setCell ⟨g, 5, none⟩ (.string e.fn)).setCell ⟨g, 6, none⟩ (.int .i64 e.fk)).setCell ⟨g, 7, none⟩ (.int .i64 e.fz)).setCell ⟨g, 8, none⟩ (.slice e.A e.nl e.c)
theorem put9 {w : World} {g : Nat} {t : TypeId} {c0 c1 c2 c3 c4 c5 c6 c7 c8 : Value} (h : w.heap[g]? = some (.cells #[c0, c1, c2, c3, c4, c5, c6, c7, c8] t (0, 0))) (v0 v1 v2 v3 v4 v5 v6 v7 v8 : Value) :
    (((((((((w.setCell ⟨g, 0, none⟩ v0).setCell ⟨g, 1, none⟩ v1).setCell ⟨g, 2, none⟩ v2).setCell ⟨g, 3, none⟩ v3).setCell ⟨g, 4, none⟩ v4).setCell ⟨g, 5, none⟩ v5).setCell ⟨g, 6, none⟩ v6).setCell ⟨g, 7, none⟩ v7).setCell ⟨g, 8, none⟩ v8).heap[g]? = some (.cells #[v0, v1, v2, v3, v4, v5, v6, v7, v8] t (0, 0)) := by
  have h0 := blk_put h 0 v0 (show (#[c0, c1, c2, c3, c4, c5, c6, c7, c8] : Array Value).setIfInBounds 0 v0 = #[v0, c1, c2, c3, c4, c5, c6, c7, c8] from rfl)
  have h1 := blk_put h0 1 v1 (show (#[v0, c1, c2, c3, c4, c5, c6, c7, c8] : Array Value).setIfInBounds 1 v1 = #[v0, v1, c2, c3, c4, c5, c6, c7, c8] from rfl)
  have h2 := blk_put h1 2 v2 (show (#[v0, v1, c2, c3, c4, c5, c6, c7, c8] : Array Value).setIfInBounds 2 v2 = #[v0, v1, v2, c3, c4, c5, c6, c7, c8] from rfl)
  have h3 := blk_put h2 3 v3 (show (#[v0, v1, v2, c3, c4, c5, c6, c7, c8] : Array Value).setIfInBounds 3 v3 = #[v0, v1, v2, v3, c4, c5, c6, c7, c8] from rfl)
  have h4 := blk_put h3 4 v4 (show (#[v0, v1, v2, v3, c4, c5, c6, c7, c8] : Array Value).setIfInBounds 4 v4 = #[v0, v1, v2, v3, v4, c5, c6, c7, c8] from rfl)
  have h5 := blk_put h4 5 v5 (show (#[v0, v1, v2, v3, v4, c5, c6, c7, c8] : Array Value).setIfInBounds 5 v5 = #[v0, v1, v2, v3, v4, v5, c6, c7, c8] from rfl)
  have h6 := blk_put h5 6 v6 (show (#[v0, v1, v2, v3, v4, v5, c6, c7, c8] : Array Value).setIfInBounds 6 v6 = #[v0, v1, v2, v3, v4, v5, v6, c7, c8] from rfl)
  have h7 := blk_put h6 7 v7 (show (#[v0, v1, v2, v3, v4, v5, v6, c7, c8] : Array Value).setIfInBounds 7 v7 = #[v0, v1, v2, v3, v4, v5, v6, v7, c8] from rfl)
  have h8 := blk_put h7 8 v8 (show (#[v0, v1, v2, v3, v4, v5, v6, v7, c8] : Array Value).setIfInBounds 8 v8 = #[v0, v1, v2, v3, v4, v5, v6, v7, v8] from rfl)
  exact h8
theorem EB.put (h : EB W g e) (x : Ec) : EB (w9 W g x) g x := put9 h _ _ _ _ _ _ _ _ _
theorem w9_other {k : Nat} (hk : k ≠ g) (x : Ec) : (w9 W g x).heap[k]? = W.heap[k]? := by
  unfold w9
  rw [heap_other hk, heap_other hk, heap_other hk, heap_other hk, heap_other hk, heap_other hk, heap_other hk, heap_other hk, heap_other hk]
end
theorem ev_below_set {w W : World} {g j : Nat} {v : Value} (h : Below w.heap.size w W) (hg : w.heap.size ≤ g) : Below w.heap.size w (W.setCell ⟨g, j, none⟩ v) := h.setCell (by simpa using hg) v
theorem w9_below {w W : World} {g : Nat} (h : Below w.heap.size w W) (hg : w.heap.size ≤ g) (x : Ec) : Below w.heap.size w (w9 W g x) :=
  ev_below_set (ev_below_set (ev_below_set (ev_below_set (ev_below_set (ev_below_set (ev_below_set (ev_below_set (ev_below_set h hg) hg) hg) hg) hg) hg) hg) hg) hg
theorem ev_store {P : Program} {ops : Array Oper} {rest : List Oper} {o : Oper} {a : Act} {Q : Exit → Act → World → Prop} {W w1 : World} (hgd : o.guard = none) (hN : o.dst = none)
    (hrun : (execOp a.eval o).run P W = .ok .skip w1) (h : ∀ w', w' = w1 → wpList P ops Q rest a w') : wpList P ops Q (o :: rest) a W := by
  refine wpList_plain hgd fun K hK => ?_
  unfold Oper.wp
  rw [hrun]
  show K (a.put o.dst undef) w1
  rw [hN]
  exact hK _ _ (h _ rfl)
section
variable {ops : Array Oper} {S : World → Prop} {fuel : Nat} {listed : Array Bool} {a : Act} {W : World} {Q : Exit → Act → World → Prop} {rs : List Nat}
theorem operG {i : Nat} {dst : Option Tmp} {op : Op} (hi : (ops[i]?).map (fun o => (Region.wanted o (yielded ops a.tmps), o.dst, o.op)) = some (true, dst, op)) : ∃ o, ops[i]? = some o ∧ Region.wanted o (yielded ops a.tmps) = true ∧ o.dst = dst ∧ o.op = op := by
  match ho : ops[i]? with
  | none => rw [ho] at hi; cases hi
  | some o =>
    rw [ho] at hi
    injection hi with hi
    injection hi with h1 h2
    injection h2 with h2 h3
    exact ⟨o, rfl, h1, h2, h3⟩
theorem cons_callG (i : Nat) {N : Tmp} {f : FuncId} {fn : Func} {xs : Array Operand} {ts : Array TypeId} (hi : (ops[i]?).map (fun o => (Region.wanted o (yielded ops a.tmps), o.dst, o.op)) = some (true, some N, .call { callee := .value (.func f), args := xs, argTypes := ts }))
    (hf : Try.prog.funcs[f]? = some fn) (hname : (fn.name == "runtime.NumGoroutine") = false) (hb : fn.body.isSome = true) (args : Array Value) (hargs : xs.map a.eval = args)
    (h : Calls Try.prog f args W fun e w' => ∃ v, e = .returned v ∧ S w' ∧ wpAnyH Try.prog .any ops Q S fuel (listed.setIfInBounds i true) (a.put (some N) v) w')
    (hs : AllReadyH Try.prog .any ops Q S fuel listed a W rs) : AllReadyH Try.prog .any ops Q S fuel listed a W (i :: rs) := by
  obtain ⟨o, ho, hw, hd, hop⟩ := operG hi
  refine AllReadyH.cons ho (fun K hK => ?_) hs
  have hg := goes_ (P := Try.prog) (ops := ops) (Q := Q) (K := K) hf hname hb args hw hd hop hargs (h.mono fun e w' ⟨v, he, hS, hwp⟩ => ⟨v, he, hK.out _ _ hS (fun _ => hwp)⟩)
  rw [hd]
  exact hg
theorem cons_skip (i : Nat) {op : Op} (w1 : World) (hi : (ops[i]?).map (fun o => (Region.wanted o (yielded ops a.tmps), o.dst, o.op)) = some (true, none, op))
    (hrun : ∀ o : Oper, o.op = op → (execOp a.eval o).run Try.prog W = .ok .skip w1)
    (h : ∀ w', w' = w1 → S w' ∧ wpAnyH Try.prog .any ops Q S fuel (listed.setIfInBounds i true) a w')
    (hs : AllReadyH Try.prog .any ops Q S fuel listed a W rs) : AllReadyH Try.prog .any ops Q S fuel listed a W (i :: rs) := by
  obtain ⟨o, ho, hw, hd, hop⟩ := operG hi
  refine AllReadyH.cons ho (fun K hK => ?_) hs
  rw [if_pos hw]
  have h9 := h _ rfl
  unfold Oper.wp
  rw [hrun o hop]
  show K (a.put o.dst undef) _
  rw [hd]
  exact hK.out _ _ h9.1 (fun _ => h9.2)
theorem cons_valG (i : Nat) {N : Tmp} {op : Op} (v : Value) (w1 : World) (hi : (ops[i]?).map (fun o => (Region.wanted o (yielded ops a.tmps), o.dst, o.op)) = some (true, some N, op))
    (hrun : ∀ o : Oper, o.op = op → (execOp a.eval o).run Try.prog W = .ok (.value v) w1) (h : S w1 ∧ wpAnyH Try.prog .any ops Q S fuel (listed.setIfInBounds i true) (a.put (some N) v) w1)
    (hs : AllReadyH Try.prog .any ops Q S fuel listed a W rs) : AllReadyH Try.prog .any ops Q S fuel listed a W (i :: rs) := by
  obtain ⟨o, ho, hw, hd, hop⟩ := operG hi
  refine AllReadyH.cons ho (fun K hK => ?_) hs
  have hv := value_ (P := Try.prog) (ops := ops) (Q := Q) (K := K) hw hd (hrun o hop) (hK.out _ _ h.1 (fun _ => h.2))
  rw [hd]
  exact hv
theorem next_le {i : Nat} {rs : List Nat} (hr : Region.ready .any ops listed = i :: rs) (h : AllReadyH Try.prog .any ops Q S fuel listed a W (i :: rs)) : wpAnyH Try.prog .any ops Q S (fuel + 1) listed a W := wpAnyH_ready hr (by simp) h
theorem region_drew {id : Nat} (S : World → Prop) {w : World} (hm : Try.prog.follows .mixedOrders = true)
    (h : ∀ d, Below w.heap.size w d → d.heap = w.heap → S d ∧ (S d → wpAnyH Try.prog .any ops Q S ops.size (Array.replicate ops.size false) a d)) : (Code.region id ops true).wp Try.prog Q a w :=
  have hd := h _ (below_drew (Below.refl _ _)) rfl
  wp_region_held_drew hm hd.1 hd.2
end
theorem st_int {W : World} {g j : Nat} {v0 : Value} {x : Int} (ev : Operand → Value) (o : Oper) (p s : Tmp) (ho : o.op = .store 3 (.tmp p) (.tmp s)) (hp : ev (.tmp p) = .pointer (some ⟨g, j, none⟩)) (hs : ev (.tmp s) = .int .i64 x) (hc : W.cell? ⟨g, j, none⟩ = some v0) (hf : W.frozen? ⟨g, j, none⟩ = false) :
    (execOp ev o).run Try.prog W = .ok .skip (W.setCell ⟨g, j, none⟩ (.int .i64 x)) := by
  have hu := Try.underlying3
  unfold execOp
  simp only [ho, hp, hs]
  clear ho hp hs
  first | (go_simp; done) | (go_simp; rfl)
theorem st_i64 {W : World} {g j : Nat} {v0 : Value} {x : Int} (ev : Operand → Value) (o : Oper) (p s : Tmp) (ho : o.op = .store 2 (.tmp p) (.tmp s)) (hp : ev (.tmp p) = .pointer (some ⟨g, j, none⟩)) (hs : ev (.tmp s) = .int .i64 x) (hc : W.cell? ⟨g, j, none⟩ = some v0) (hf : W.frozen? ⟨g, j, none⟩ = false) :
    (execOp ev o).run Try.prog W = .ok .skip (W.setCell ⟨g, j, none⟩ (.int .i64 x)) := by
  have hu := Try.underlying2
  unfold execOp
  simp only [ho, hp, hs]
  clear ho hp hs
  first | (go_simp; done) | (go_simp; rfl)
theorem st_str {W : World} {g j : Nat} {v0 : Value} {x : ByteArray} (ev : Operand → Value) (o : Oper) (p s : Tmp) (ho : o.op = .store 9 (.tmp p) (.tmp s)) (hp : ev (.tmp p) = .pointer (some ⟨g, j, none⟩)) (hs : ev (.tmp s) = .string x) (hc : W.cell? ⟨g, j, none⟩ = some v0) (hf : W.frozen? ⟨g, j, none⟩ = false) :
    (execOp ev o).run Try.prog W = .ok .skip (W.setCell ⟨g, j, none⟩ (.string x)) := by
  have hu := Try.underlying9
  unfold execOp
  simp only [ho, hp, hs]
  clear ho hp hs
  first | (go_simp; done) | (go_simp; rfl)
end Go.Proofs.Ytehnogggokfcaaa.Ev
