/- A deque in memory: a block of three cells (its room's row, from where it goes, how many there are), and the row. Laws on what a store into the one or the other leaves. -/
import Derived.Test.YtbficlkjlhigjaaDqMath
import Derived.Test.YtbficlkjlhigjaaWWords
import Derived.Test.YtbficlkjlhigjaaWMore
import Derived.Test.YtbficlkjlhigjaaWLast
namespace Go.Proofs.Ytbficlkjlhigjaa.Dq
open Go.RowKit Go.Proofs.YtbficlkjlhigjaaW.PrintWords Go.Proofs.YtbficlkjlhigjaaW.PrintMore Go.Proofs.YtbficlkjlhigjaaW.PrintLast
set_option linter.unusedVariables false
section
variable {α : Type} (enc : α → Value) (T E : TypeId)
/-- A deque, its parts told: the block g, the room's value v, the room R, from f on. -/
structure DqAt (w : World) (base g : Nat) (v : Value) (R : List α) (f : Nat) (l : List α) : Prop where
  hg : base ≤ g
  blk : w.heap[g]? = some (.cells #[v, .int .i64 f, .int .i64 l.length] T (0, 0))
  own : w.ownsRow base E 1 v R.length (encs enc R)
  rep : Rep R f l
  cap : R.length ≤ 2097152
/-- A deque: the room's block is row. -/
def Dq (w : World) (base g : Nat) (row : Option Nat) (l : List α) : Prop := ∃ v R f, v.ownBlock = row ∧ DqAt enc T E w base g v R f l
end
/-- What a deque's doing has turned: its block, its row, and new blocks. -/
structure Upd (w w' : World) (base g : Nat) (row row' : Option Nat) : Prop where
  keep : KeepBut w w' g row
  below : Below base w w'
  row : row' = row ∨ ∃ b, row' = some b ∧ w.heap.size ≤ b
theorem Upd.refl (w : World) (base g : Nat) (row : Option Nat) : Upd w w base g row row := ⟨KeepBut.refl _ _ _, Below.refl _ _, .inl rfl⟩
theorem Upd.trans {w w1 w2 : World} {base g : Nat} {row row1 row2 : Option Nat} (h : Upd w w1 base g row row1) (k : Upd w1 w2 base g row1 row2) : Upd w w2 base g row row2 := by
  refine ⟨h.keep.trans k.keep h.row, h.below.trans k.below, ?_⟩
  rcases k.row with e | ⟨b, e, hb⟩
  · rw [e]; exact h.row
  · exact .inr ⟨b, e, Nat.le_trans h.keep.1 hb⟩
theorem Upd.of_below {w w1 : World} {base g : Nat} (row : Option Nat) (h : Below w.heap.size w w1) (hb : base ≤ w.heap.size) : Upd w w1 base g row row :=
  ⟨KeepBut.of_below h g row, h.mono hb, .inl rfl⟩
theorem Upd.drewN (w : World) (n base g : Nat) (row : Option Nat) : Upd w (w.drewN n) base g row row := ⟨⟨Nat.le_refl _, fun _ _ _ _ => rfl⟩, pw_below_drewN (Below.refl _ _) n, .inl rfl⟩
theorem Upd.set_ {w : World} {base g : Nat} (row : Option Nat) (hg : base ≤ g) (j : Nat) (u : Value) : Upd w (w.setCell ⟨g, j, none⟩ u) base g row row :=
  ⟨(KeepBut.refl w g row).set_ j u, (Below.refl base w).setCell hg u, .inl rfl⟩
theorem Upd.row_ {w : World} {base g r : Nat} (hr : base ≤ r) (j : Nat) (u : Value) : Upd w (w.setCell ⟨r, j, none⟩ u) base g (some r) (some r) :=
  ⟨⟨by simp [World.setCell], fun i hi _ hne => Below.heap_setCell w ⟨r, j, none⟩ u i (fun e => hne (by rw [e]))⟩, (Below.refl base w).setCell hr u, .inl rfl⟩
theorem Upd.newrow {w w' : World} {base g r : Nat} {row row1 : Option Nat} (h : Upd w w' base g row row1) (hr : w.heap.size ≤ r) : Upd w w' base g row (some r) := ⟨h.keep, h.below, .inr ⟨r, rfl, hr⟩⟩
section
variable {α : Type} {enc : α → Value} {T E : TypeId} {w w1 : World} {base g f : Nat} {v : Value} {R l : List α} {row : Option Nat}
theorem DqAt.bound (h : DqAt enc T E w base g v R f l) : f ≤ 2097152 ∧ l.length ≤ 2097152 := by
  have := h.rep.le
  have := h.cap
  have := h.rep.fr
  omega
/-- The block and the row lie in different blocks. -/
theorem DqAt.ne (h : DqAt enc T E w base g v R f l) (hne : E ≠ T) : some g ≠ v.ownBlock := own_ne h.own h.blk hne
theorem DqAt.lt (h : DqAt enc T E w base g v R f l) : g < w.heap.size := blk_lt h.blk
/-- What the row's block and the deque's block have not been touched by leaves it. -/
theorem DqAt.kept (h : DqAt enc T E w base g v R f l) (hg : w1.heap[g]? = w.heap[g]?) (hr : ∀ k, v.ownBlock = some k → w1.heap[k]? = w.heap[k]?) : DqAt enc T E w1 base g v R f l :=
  ⟨h.hg, hg.trans h.blk, own_move h.own hr, h.rep, h.cap⟩
theorem DqAt.below (h : DqAt enc T E w base g v R f l) (hb : Below w.heap.size w w1) : DqAt enc T E w1 base g v R f l :=
  h.kept (hb.block _ h.lt) fun k hk => hb.block _ (own_lt h.own k hk)
theorem Dq.below (h : Dq enc T E w base g row l) (hb : Below w.heap.size w w1) : Dq enc T E w1 base g row l := by
  obtain ⟨v, R, f, e, h⟩ := h
  exact ⟨v, R, f, e, h.below hb⟩
/-- Another deque's doings. -/
theorem Dq.kept {g' : Nat} {row' : Option Nat} (h : Dq enc T E w base g row l) (hk : KeepBut w w1 g' row') (hg : g ≠ g') (hgr : some g ≠ row') (hrg : row ≠ some g') (hr : row = none ∨ row ≠ row') : Dq enc T E w1 base g row l := by
  obtain ⟨v, R, f, rfl, h⟩ := h
  refine ⟨v, R, f, rfl, h.kept (hk.2 _ h.lt hg hgr) fun k hk' => hk.2 _ (own_lt h.own k hk') (fun e => hrg (by rw [hk', e])) ?_⟩
  rw [← hk']
  rcases hr with hr | hr
  · rw [hr] at hk'; cases hk'
  · exact hr
theorem DqAt.dq (h : DqAt enc T E w base g v R f l) : Dq enc T E w base g v.ownBlock l := ⟨v, R, f, rfl, h⟩
/-- The deque's own cells. -/
theorem DqAt.cells (h : DqAt enc T E w base g v R f l) : w.cell? ⟨g, 0, none⟩ = some v ∧ w.cell? ⟨g, 1, none⟩ = some (.int .i64 f) ∧ w.cell? ⟨g, 2, none⟩ = some (.int .i64 l.length) ∧ w.frozen? ⟨g, 0, none⟩ = false ∧ w.frozen? ⟨g, 1, none⟩ = false ∧ w.frozen? ⟨g, 2, none⟩ = false :=
  ⟨(blk_cell h.blk 0).trans rfl, (blk_cell h.blk 1).trans rfl, (blk_cell h.blk 2).trans rfl, blk_frozen h.blk 0, blk_frozen h.blk 1, blk_frozen h.blk 2⟩
/-- The room's shape. -/
theorem DqAt.room (h : DqAt enc T E w base g v R f l) (h0 : 0 < R.length) : ∃ r cp, v = .slice (some ⟨r, 0, none⟩) R.length cp ∧ R.length ≤ cp ∧ r < w.heap.size ∧ r ≠ g ∨ E = T := by
  by_cases hne : E = T
  · exact ⟨0, 0, .inr hne⟩
  obtain ⟨r, cp, rfl, hb, _⟩ := h.own.form h0
  refine ⟨r, cp, .inl ⟨rfl, ?_, own_lt h.own r rfl, fun e => h.ne hne (by rw [e]; rfl)⟩⟩
  rcases h.own.2 with ⟨h1, _⟩ | ⟨g', cap', cur, he, _, _, h1, h2, _⟩
  · cases h1
  · injection he with _ _ he
    omega
end
section
variable {α : Type} {enc : α → Value} {d : α} {T E : TypeId} {w w1 : World} {base g r cp : Nat} {f n : Int} {R l : List α} {row : Option Nat}
/-- The parts of a deque in the midst of a doing: the block's cells, and the room. -/
structure Pt (enc : α → Value) (T E : TypeId) (w : World) (base g r cp : Nat) (f n : Int) (R : List α) : Prop where
  hg : base ≤ g
  blk : w.heap[g]? = some (.cells #[.slice (some ⟨r, 0, none⟩) R.length cp, .int .i64 f, .int .i64 n] T (0, 0))
  own : w.ownsRow base E 1 (.slice (some ⟨r, 0, none⟩) R.length cp) R.length (encs enc R)
  ne : g ≠ r
theorem DqAt.pt {f : Nat} (h : DqAt enc T E w base g (.slice (some ⟨r, 0, none⟩) R.length cp) R f l) (hne : E ≠ T) : Pt enc T E w base g r cp f l.length R :=
  ⟨h.hg, h.blk, h.own, fun e => h.ne hne (by rw [e]; rfl)⟩
theorem Pt.hr (h : Pt enc T E w base g r cp f n R) : base ≤ r := own_base h.own r rfl
theorem Pt.cells (h : Pt enc T E w base g r cp f n R) : w.cell? ⟨g, 0, none⟩ = some (.slice (some ⟨r, 0, none⟩) R.length cp) ∧ w.cell? ⟨g, 1, none⟩ = some (.int .i64 f) ∧ w.cell? ⟨g, 2, none⟩ = some (.int .i64 n) ∧ w.frozen? ⟨g, 0, none⟩ = false ∧ w.frozen? ⟨g, 1, none⟩ = false ∧ w.frozen? ⟨g, 2, none⟩ = false :=
  ⟨(blk_cell h.blk 0).trans rfl, (blk_cell h.blk 1).trans rfl, (blk_cell h.blk 2).trans rfl, blk_frozen h.blk 0, blk_frozen h.blk 1, blk_frozen h.blk 2⟩
theorem Pt.at_ (h : Pt enc T E w base g r cp f n R) (d : α) (i : Nat) (hi : i < R.length) : w.cell? ⟨r, i, none⟩ = some (enc (R.getD i d)) ∧ w.frozen? ⟨r, i, none⟩ = false := by
  have := own_at_of (d := d) h.own (i : Int) (by omega) (by omega)
  simpa [rdOf] using this
theorem Pt.setf (h : Pt enc T E w base g r cp f n R) (f' : Int) : Pt enc T E (w.setCell ⟨g, 1, none⟩ (.int .i64 f')) base g r cp f' n R :=
  ⟨h.hg, (blk_set h.blk 1 (.int .i64 f')).trans rfl, own_setCell h.own (by simpa [Value.ownBlock] using h.ne) _, h.ne⟩
theorem Pt.setn (h : Pt enc T E w base g r cp f n R) (n' : Int) : Pt enc T E (w.setCell ⟨g, 2, none⟩ (.int .i64 n')) base g r cp f n' R :=
  ⟨h.hg, (blk_set h.blk 2 (.int .i64 n')).trans rfl, own_setCell h.own (by simpa [Value.ownBlock] using h.ne) _, h.ne⟩
theorem Pt.setr (h : Pt enc T E w base g r cp f n R) (i : Nat) (x : α) : Pt enc T E (w.setCell ⟨r, i, none⟩ (enc x)) base g r cp f n (R.set i x) := by
  refine ⟨h.hg, ?_, ?_, h.ne⟩
  · rw [List.length_set]
    exact blk_far h.blk h.ne _
  · have := (own_store_of h.own (i : Int) x).1
    simpa using this
theorem Pt.drew (h : Pt enc T E w base g r cp f n R) : Pt enc T E w.drew base g r cp f n R := ⟨h.hg, h.blk, h.own, h.ne⟩
theorem Pt.drewN (h : Pt enc T E w base g r cp f n R) (k : Nat) : Pt enc T E (w.drewN k) base g r cp f n R := ⟨h.hg, h.blk, h.own, h.ne⟩
theorem Pt.dq {f : Nat} (h : Pt enc T E w base g r cp f l.length R) (hrep : Rep R f l) (hcap : R.length ≤ 2097152) : Dq enc T E w base g (some r) l := ⟨_, R, f, rfl, h.hg, h.blk, h.own, hrep, hcap⟩
theorem Upd.drew_ {w w' : World} {base g : Nat} {row row' : Option Nat} (h : Upd w w' base g row row') : Upd w w'.drew base g row row' := ⟨⟨h.keep.1, h.keep.2⟩, h.below.drew, h.row⟩
theorem Upd.drewN_ {w w' : World} {base g : Nat} {row row' : Option Nat} (h : Upd w w' base g row row') (k : Nat) : Upd w (w'.drewN k) base g row row' := ⟨⟨h.keep.1, h.keep.2⟩, pw_below_drewN h.below k, h.row⟩
theorem Upd.cell {w w' : World} {base g : Nat} {row : Option Nat} {row' : Option Nat} (h : Upd w w' base g row row') (hg : base ≤ g) (j : Nat) (u : Value) : Upd w (w'.setCell ⟨g, j, none⟩ u) base g row row' := h.trans (Upd.set_ _ hg j u)
theorem Upd.rowcell {w w' : World} {base g r : Nat} {row : Option Nat} (h : Upd w w' base g row (some r)) (hr : base ≤ r) (j : Nat) (u : Value) : Upd w (w'.setCell ⟨r, j, none⟩ u) base g row (some r) := h.trans (Upd.row_ hr j u)
end
end Go.Proofs.Ytbficlkjlhigjaa.Dq
