/- Events of a walk, each of which names the world behind it: a literal row, a struct that is stored. -/
import Derived.Test.YtkamejnccmapkaaMuSame
namespace Go.Proofs.Ytkamejnccmapkaa.Mu
open Go.RowKit Go.Proofs.YtkamejnccmapkaaW.PrintWords Go.Proofs.YtkamejnccmapkaaW.PrintMore Go.Proofs.YtkamejnccmapkaaW.PrintLast
set_option linter.unusedVariables false
set_option linter.unusedSimpArgs false
section
variable {P : Program} {ops : Array Oper} {rest : List Oper} {o : Oper} {a : Act} {Q : Exit → Act → World → Prop}
theorem lit_event {W : World} (hgd : o.guard = none) {N : Tmp} (_hd : o.dst = some N) {cs : List Value} {t : TypeId} {n : Nat}
    (hrun : (execOp a.eval o).run P W = .ok (.value (.slice (some ⟨W.heap.size, 0, none⟩) n n)) (W.alloc (.cells cs.toArray t)))
    (h : ∀ g, g = W.heap.size → ∀ w1, w1 = W.alloc (.cells cs.toArray t) → wpList P ops Q rest (a.put o.dst (.slice (some ⟨g, 0, none⟩) n n)) w1) : wpList P ops Q (o :: rest) a W :=
  Kd.event_run hgd hrun (h _ rfl _ rfl)
end
section
variable {P : Program} {ops : Array Oper} {rest : List Oper} {o : Oper} {a : Act} {Q : Exit → Act → World → Prop}
theorem store_event2 {W w1 : World} (hgd : o.guard = none) (hN : o.dst = none)
    (hrun : (execOp a.eval o).run P W = .ok .skip w1) (h : ∀ w', w' = w1 → wpList P ops Q rest a w') : wpList P ops Q (o :: rest) a W := by
  refine wpList_plain hgd fun K hK => ?_
  unfold Oper.wp
  rw [hrun]
  show K (a.put o.dst undef) w1
  rw [hN]
  exact hK _ _ (h _ rfl)
end
/-- The blocks of a row; those of rows. -/
def own1 (v : Value) (k : Nat) : Prop := v.ownBlock = some k
def ownL (qs : List SV) (k : Nat) : Prop := ∃ x, x ∈ qs ∧ (encV x).ownBlock = some k
theorem own1_nil {n c : Nat} {p : Nat → Prop} : ∀ k, own1 (.slice none n c) k → p k := fun k hk => by simp [own1, Value.ownBlock] at hk
theorem ownL_nil {p : Nat → Prop} : ∀ k, ownL [] k → p k := fun k ⟨x, hx, _⟩ => by cases hx
theorem ownL_snoc {qs : List SV} {x : SV} {p : Nat → Prop} (h1 : ∀ k, ownL qs k → p k) (h2 : ∀ k, own1 (encV x) k → p k) : ∀ k, ownL (qs ++ [x]) k → p k := fun k ⟨y, hy, hk⟩ => by
  rcases List.mem_append.1 hy with hy | hy
  · exact h1 k ⟨y, hy, hk⟩
  · rw [List.mem_singleton.1 hy] at hk; exact h2 k hk
theorem Rd.keep1 {w w1 : World} {v : Value} {l : List ByteArray} (h : Rd w v l) (hk : ∀ k, own1 v k → w1.heap[k]? = w.heap[k]?) : Rd w1 v l := h.keep hk
theorem Rd2.keep1 {w w1 : World} {v : Value} {l : List SV} (h : Rd2 w v l) (hk : ∀ k, own1 v k → w1.heap[k]? = w.heap[k]?) : Rd2 w1 v l := h.keep hk
theorem Cont.keep1 {w w1 : World} : ∀ {qs : List SV} {ls : List (List ByteArray)}, Cont w qs ls → (∀ k, ownL qs k → w1.heap[k]? = w.heap[k]?) → Cont w1 qs ls
  | [], [], _, _ => trivial
  | x :: xs, l :: ls, h, hk => ⟨h.1.keep fun k e => hk k ⟨x, List.mem_cons_self .., e⟩, Cont.keep1 h.2 fun k ⟨y, hy, e⟩ => hk k ⟨y, List.mem_cons_of_mem _ hy, e⟩⟩
  | [], l :: ls, h, _ => h.elim
  | x :: xs, [], h, _ => h.elim
def set6 (w : World) (g : Nat) (v0 v1 v2 v3 v4 v5 : Value) : World := ((((((w.setCell ⟨g, 0, none⟩ v0).setCell ⟨g, 1, none⟩ v1).setCell ⟨g, 2, none⟩ v2).setCell ⟨g, 3, none⟩ v3).setCell ⟨g, 4, none⟩ v4).setCell ⟨g, 5, none⟩ v5)
def set4 (w : World) (g : Nat) (v0 v1 v2 v3 : Value) : World := ((((w.setCell ⟨g, 0, none⟩ v0).setCell ⟨g, 1, none⟩ v1).setCell ⟨g, 2, none⟩ v2).setCell ⟨g, 3, none⟩ v3)
theorem set6_heap {w : World} {k g : Nat} (h : k ≠ g) (v0 v1 v2 v3 v4 v5 : Value) : (set6 w g v0 v1 v2 v3 v4 v5).heap[k]? = w.heap[k]? := by
  unfold set6
  rw [heap_set_ne h, heap_set_ne h, heap_set_ne h, heap_set_ne h, heap_set_ne h, heap_set_ne h]
theorem set4_heap {w : World} {k g : Nat} (h : k ≠ g) (v0 v1 v2 v3 : Value) : (set4 w g v0 v1 v2 v3).heap[k]? = w.heap[k]? := by
  unfold set4
  rw [heap_set_ne h, heap_set_ne h, heap_set_ne h, heap_set_ne h]
theorem set1_heap {w : World} {k g j : Nat} (h : k ≠ g) (v : Value) : (w.setCell ⟨g, j, none⟩ v).heap[k]? = w.heap[k]? := heap_set_ne h v
theorem set6_size (w : World) (g : Nat) (v0 v1 v2 v3 v4 v5 : Value) : (set6 w g v0 v1 v2 v3 v4 v5).heap.size = w.heap.size := by
  unfold set6
  simp only [size_set]
theorem set4_size (w : World) (g : Nat) (v0 v1 v2 v3 : Value) : (set4 w g v0 v1 v2 v3).heap.size = w.heap.size := by
  unfold set4
  simp only [size_set]
theorem set6_below {w0 w : World} {g : Nat} (h : Below w0.heap.size w0 w) (hg : w0.heap.size ≤ g) (v0 v1 v2 v3 v4 v5 : Value) : Below w0.heap.size w0 (set6 w g v0 v1 v2 v3 v4 v5) :=
  below_set (below_set (below_set (below_set (below_set (below_set h hg) hg) hg) hg) hg) hg
theorem set4_below {w0 w : World} {g : Nat} (h : Below w0.heap.size w0 w) (hg : w0.heap.size ≤ g) (v0 v1 v2 v3 : Value) : Below w0.heap.size w0 (set4 w g v0 v1 v2 v3) :=
  below_set (below_set (below_set (below_set h hg) hg) hg) hg
theorem set6_own {w : World} {g base n : Nat} {e : TypeId} {size : Nat} {v : Value} {xs : List Value} (h : w.ownsRow base e size v n xs) (hne : ∀ k, own1 v k → k ≠ g) (v0 v1 v2 v3 v4 v5 : Value) : (set6 w g v0 v1 v2 v3 v4 v5).ownsRow base e size v n xs := by
  have q : some g ≠ v.ownBlock := fun e => hne g e.symm rfl
  exact own_setCell (own_setCell (own_setCell (own_setCell (own_setCell (own_setCell h q _) q _) q _) q _) q _) q _
theorem set4_own {w : World} {g base n : Nat} {e : TypeId} {size : Nat} {v : Value} {xs : List Value} (h : w.ownsRow base e size v n xs) (hne : ∀ k, own1 v k → k ≠ g) (v0 v1 v2 v3 : Value) : (set4 w g v0 v1 v2 v3).ownsRow base e size v n xs := by
  have q : some g ≠ v.ownBlock := fun e => hne g e.symm rfl
  exact own_setCell (own_setCell (own_setCell (own_setCell h q _) q _) q _) q _
theorem run_app2h (W : World) (base : Nat) (ty : TypeId) (v : Value) (xs ys : List SV) (ad : Addr) (m c : Nat) (hm0 : 0 < m) (HO : W.ownsRow base 23 1 v xs.length (encs encV xs)) (HR : ReadsOf encV ⟨none, 0, 0⟩ W (some ad) m ys) (hbase : base ≤ W.heap.size)
    (hl : (xs.length + m) * 24 ≤ 140737488355328) :
    ∃ v1 w1, (Builtin.append_ #[22, 22] ty #[v, .slice (some ad) m c]).run Try.prog W = .ok v1 w1 ∧ w1.ownsRow base 23 1 v1 (xs ++ ys).length (encs encV (xs ++ ys)) ∧ W.grownBy w1 v.ownBlock ∧ (v1.ownBlock = v.ownBlock ∨ v1.ownBlock = some W.heap.size) := by
  obtain ⟨i0, hi, hz0, hz1, hz2⟩ := info_parts (show (Try.prog.info? 23).map (fun i => (i.zero, i.size, i.bytes)) = some (some (.slice none 0 0), 1, 24) by kernel_rfl)
  have hm : ys.length = m := HR.1
  have hcells : ∀ j u, (encs encV ys)[j]? = some u → W.cell? (ad.add j) = some u := by
    intro j u hu
    have hj : j < ys.length := by
      rcases Nat.lt_or_ge j ys.length with h | h
      · exact h
      · simp [encs, List.getElem?_eq_none h] at hu
    obtain ⟨ad', h', hc⟩ := HR.2.2 (by omega)
    injection h' with h'
    subst h'
    rw [encs_get (d := ⟨none, 0, 0⟩) ys j hj] at hu
    rw [← hu]
    exact hc j (by omega)
  obtain ⟨v1, w1, hr, h2, h3, _, h5⟩ := run_append_own_at (P := Try.prog) W base 22 ty 23 i0 (.slice none 0 0) 1 24 Try.underlying22 hi hz0 hz1 hz2 rfl (by omega) v xs.length (encs encV xs) HO ad m c (encs encV ys) (by simp [encs, hm]) hcells
    (by intro u hu; simp only [encs, List.mem_map] at hu; obtain ⟨q, _, rfl⟩ := hu; rfl) (by simp only [maxLen]; omega) hl hbase
  exact ⟨v1, w1, hr, by simpa [encs, hm] using h2, h3, h5⟩
/-- 'append' of a row that lies somewhere: where the new row lies is told too. -/
theorem wp_app2h {ops : Array Oper} {rest : List Oper} {o : Oper} {a : Act} {W : World} {Q : Exit → Act → World → Prop} (hgd : o.guard = none) (s x : Operand)
    (ho : o.op = .call { callee := .builtin .append, args := #[s, x], argTypes := #[22, 22] })
    (w0 : World) (base : Nat) (v : Value) (xs ys : List SV) (A : Option Addr) (m c : Nat) (hs : a.eval s = v) (hx : a.eval x = .slice A m c)
    (HO : W.ownsRow base 23 1 v xs.length (encs encV xs)) (HR : ReadsOf encV ⟨none, 0, 0⟩ W A m ys) (hm0 : 0 < m) (HB : Below base w0 W) (hbase : base ≤ W.heap.size) (hl : (xs.length + m) * 24 ≤ 140737488355328)
    (h : ∀ v1 w1, w1.ownsRow base 23 1 v1 (xs ++ ys).length (encs encV (xs ++ ys)) → Below base w0 w1 → W.grownBy w1 v.ownBlock → (v1.ownBlock = v.ownBlock ∨ v1.ownBlock = some W.heap.size) → wpList Try.prog ops Q rest (a.put o.dst v1) w1) :
    wpList Try.prog ops Q (o :: rest) a W := by
  obtain ⟨ad, e, _⟩ := HR.2.2 hm0
  subst e
  obtain ⟨v1, w1, hr, hO, hg, h5⟩ := run_app2h W base o.type v xs ys ad m c hm0 HO HR hbase hl
  refine wpList_plain hgd fun K hK => ?_
  unfold Oper.wp execOp
  simp only [ho, resolve, invoke, builtin, Sem.run_bind, Sem.run_pure, Result.andThen_ok, List.map_toArray, List.map_cons, List.map_nil, hs, hx, hr]
  exact hK _ _ (h v1 w1 hO (HB.grown hg hbase (own_base HO)) hg h5)
def set2 (w : World) (g : Nat) (v0 v1 : Value) : World := (w.setCell ⟨g, 0, none⟩ v0).setCell ⟨g, 1, none⟩ v1
theorem set2_heap {w : World} {k g : Nat} (h : k ≠ g) (v0 v1 : Value) : (set2 w g v0 v1).heap[k]? = w.heap[k]? := by
  unfold set2
  rw [heap_set_ne h, heap_set_ne h]
theorem set2_size (w : World) (g : Nat) (v0 v1 : Value) : (set2 w g v0 v1).heap.size = w.heap.size := by
  unfold set2
  simp only [size_set]
theorem set2_below {w0 w : World} {g : Nat} (h : Below w0.heap.size w0 w) (hg : w0.heap.size ≤ g) (v0 v1 : Value) : Below w0.heap.size w0 (set2 w g v0 v1) := below_set (below_set h hg) hg
theorem put2g {w : World} {g : Nat} {t : TypeId} {c0 c1 : Value} (h : w.heap[g]? = some (.cells #[c0, c1] t (0, 0))) (v0 v1 : Value) : (set2 w g v0 v1).heap[g]? = some (.cells #[v0, v1] t (0, 0)) := blk_put (blk_put h 0 v0 rfl) 1 v1 rfl
theorem cells2 {w : World} {g : Nat} {t : TypeId} {c0 c1 : Value} (h : w.heap[g]? = some (.cells #[c0, c1] t (0, 0))) :
    w.cell? ⟨g, 0, none⟩ = some c0 ∧ w.cell? ⟨g, 1, none⟩ = some c1 ∧ w.frozen? ⟨g, 0, none⟩ = false ∧ w.frozen? ⟨g, 1, none⟩ = false :=
  ⟨(blk_cell h 0).trans rfl, (blk_cell h 1).trans rfl, blk_frozen h 0, blk_frozen h 1⟩
theorem old_blk_k {w w1 : World} {g : Nat} {o : Obj} (h : w.heap[g]? = some o) (hk : w1.heap[g]? = w.heap[g]?) : w1.heap[g]? = some o := hk.trans h
theorem below_lit (w : World) (o : Obj) : Below w.heap.size w (w.alloc o) := below_alloc (Below.refl _ _) _
end Go.Proofs.Ytkamejnccmapkaa.Mu
