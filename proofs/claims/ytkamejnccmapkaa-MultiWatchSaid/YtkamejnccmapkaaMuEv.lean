/- Events of a walk, each of which names the world behind it: a literal row, a struct that is stored. -/
import Derived.Test.YtkamejnccmapkaaMuSame
namespace Go.Proofs.Ytkamejnccmapkaa.Mu
open Go.RowKit Go.Proofs.YtkamejnccmapkaaW.PrintWords Go.Proofs.YtkamejnccmapkaaW.PrintMore Go.Proofs.YtkamejnccmapkaaW.PrintLast
set_option linter.unusedVariables false
set_option linter.unusedSimpArgs false
section
variable {P : Program} {ops : Array Oper} {rest : List Oper} {o : Oper} {a : Act} {Q : Exit → Act → World → Prop}
theorem lit_event {W : World} (hgd : o.guard = none) {N : Tmp} (_hd : o.dst = some N) {cs : List Value} {t : TypeId} {n : Nat}
    (hrun : (execOp a.eval o).run P W = .ok (.value (.slice (some ⟨W.heap.size, 0, none⟩) n n)) (W.alloc (.cells cs.toArray t)))
    (h : ∀ g, g = W.heap.size → ∀ w1, w1 = W.alloc (.cells cs.toArray t) → wpList P ops Q rest (a.put o.dst (.slice (some ⟨g, 0, none⟩) n n)) w1) : wpList P ops Q (o :: rest) a W :=
  Kd.event_run hgd hrun (h _ rfl _ rfl)
end
/-- The blocks of a row; those of rows. -/
def own1 (v : Value) (k : Nat) : Prop := v.ownBlock = some k
def ownL (qs : List SV) (k : Nat) : Prop := ∃ x, x ∈ qs ∧ (encV x).ownBlock = some k
theorem own1_nil {n c : Nat} {p : Nat → Prop} : ∀ k, own1 (.slice none n c) k → p k := fun k hk => by simp [own1, Value.ownBlock] at hk
theorem ownL_nil {p : Nat → Prop} : ∀ k, ownL [] k → p k := fun k ⟨x, hx, _⟩ => by cases hx
theorem ownL_snoc {qs : List SV} {x : SV} {p : Nat → Prop} (h1 : ∀ k, ownL qs k → p k) (h2 : ∀ k, own1 (encV x) k → p k) : ∀ k, ownL (qs ++ [x]) k → p k := fun k ⟨y, hy, hk⟩ => by
  rcases List.mem_append.1 hy with hy | hy
  · exact h1 k ⟨y, hy, hk⟩
  · rw [List.mem_singleton.1 hy] at hk; exact h2 k hk
theorem Rd.keep1 {w w1 : World} {v : Value} {l : List ByteArray} (h : Rd w v l) (hk : ∀ k, own1 v k → w1.heap[k]? = w.heap[k]?) : Rd w1 v l := h.keep hk
theorem Rd2.keep1 {w w1 : World} {v : Value} {l : List SV} (h : Rd2 w v l) (hk : ∀ k, own1 v k → w1.heap[k]? = w.heap[k]?) : Rd2 w1 v l := h.keep hk
theorem Cont.keep1 {w w1 : World} : ∀ {qs : List SV} {ls : List (List ByteArray)}, Cont w qs ls → (∀ k, ownL qs k → w1.heap[k]? = w.heap[k]?) → Cont w1 qs ls
  | [], [], _, _ => trivial
  | x :: xs, l :: ls, h, hk => ⟨h.1.keep fun k e => hk k ⟨x, List.mem_cons_self .., e⟩, Cont.keep1 h.2 fun k ⟨y, hy, e⟩ => hk k ⟨y, List.mem_cons_of_mem _ hy, e⟩⟩
  | [], l :: ls, h, _ => h.elim
  | x :: xs, [], h, _ => h.elim
def set6 (w : World) (g : Nat) (v0 v1 v2 v3 v4 v5 : Value) : World := ((((((w.setCell ⟨g, 0, none⟩ v0).setCell ⟨g, 1, none⟩ v1).setCell ⟨g, 2, none⟩ v2).setCell ⟨g, 3, none⟩ v3).setCell ⟨g, 4, none⟩ v4).setCell ⟨g, 5, none⟩ v5)
def set4 (w : World) (g : Nat) (v0 v1 v2 v3 : Value) : World := ((((w.setCell ⟨g, 0, none⟩ v0).setCell ⟨g, 1, none⟩ v1).setCell ⟨g, 2, none⟩ v2).setCell ⟨g, 3, none⟩ v3)
theorem set6_heap {w : World} {k g : Nat} (h : k ≠ g) (v0 v1 v2 v3 v4 v5 : Value) : (set6 w g v0 v1 v2 v3 v4 v5).heap[k]? = w.heap[k]? := by
  unfold set6
  rw [heap_set_ne h, heap_set_ne h, heap_set_ne h, heap_set_ne h, heap_set_ne h, heap_set_ne h]
theorem set4_heap {w : World} {k g : Nat} (h : k ≠ g) (v0 v1 v2 v3 : Value) : (set4 w g v0 v1 v2 v3).heap[k]? = w.heap[k]? := by
  unfold set4
  rw [heap_set_ne h, heap_set_ne h, heap_set_ne h, heap_set_ne h]
theorem set1_heap {w : World} {k g j : Nat} (h : k ≠ g) (v : Value) : (w.setCell ⟨g, j, none⟩ v).heap[k]? = w.heap[k]? := heap_set_ne h v
theorem set6_size (w : World) (g : Nat) (v0 v1 v2 v3 v4 v5 : Value) : (set6 w g v0 v1 v2 v3 v4 v5).heap.size = w.heap.size := by
  unfold set6
  simp only [size_set]
theorem set4_size (w : World) (g : Nat) (v0 v1 v2 v3 : Value) : (set4 w g v0 v1 v2 v3).heap.size = w.heap.size := by
  unfold set4
  simp only [size_set]
theorem set6_below {w0 w : World} {g : Nat} (h : Below w0.heap.size w0 w) (hg : w0.heap.size ≤ g) (v0 v1 v2 v3 v4 v5 : Value) : Below w0.heap.size w0 (set6 w g v0 v1 v2 v3 v4 v5) :=
  below_set (below_set (below_set (below_set (below_set (below_set h hg) hg) hg) hg) hg) hg
theorem set4_below {w0 w : World} {g : Nat} (h : Below w0.heap.size w0 w) (hg : w0.heap.size ≤ g) (v0 v1 v2 v3 : Value) : Below w0.heap.size w0 (set4 w g v0 v1 v2 v3) :=
  below_set (below_set (below_set (below_set h hg) hg) hg) hg
theorem old_blk_k {w w1 : World} {g : Nat} {o : Obj} (h : w.heap[g]? = some o) (hk : w1.heap[g]? = w.heap[g]?) : w1.heap[g]? = some o := hk.trans h
theorem below_lit (w : World) (o : Obj) : Below w.heap.size w (w.alloc o) := below_alloc (Below.refl _ _) _
end Go.Proofs.Ytkamejnccmapkaa.Mu
