/- Rows that are read, and where their blocks lie: what turns other blocks leaves them. -/
import Derived.Test.YtkamejnccmapkaaMuRow
import Derived.Test.YtkamejnccmapkaaMuRep
namespace Go.Proofs.Ytkamejnccmapkaa.Mu
open Go.RowKit Go.Proofs.YtkamejnccmapkaaW.PrintWords Go.Proofs.YtkamejnccmapkaaW.PrintMore Go.Proofs.YtkamejnccmapkaaW.PrintLast
set_option linter.unusedVariables false
set_option linter.unusedSimpArgs false
theorem put6g {w : World} {g : Nat} {t : TypeId} {c0 c1 c2 c3 c4 c5 : Value} (h : w.heap[g]? = some (.cells #[c0, c1, c2, c3, c4, c5] t (0, 0))) (v0 v1 v2 v3 v4 v5 : Value) :
    ((((((w.setCell ⟨g, 0, none⟩ v0).setCell ⟨g, 1, none⟩ v1).setCell ⟨g, 2, none⟩ v2).setCell ⟨g, 3, none⟩ v3).setCell ⟨g, 4, none⟩ v4).setCell ⟨g, 5, none⟩ v5).heap[g]? = some (.cells #[v0, v1, v2, v3, v4, v5] t (0, 0)) :=
  blk_put (blk_put (blk_put (blk_put (blk_put (blk_put h 0 v0 rfl) 1 v1 rfl) 2 v2 rfl) 3 v3 rfl) 4 v4 rfl) 5 v5 rfl
theorem put4g {w : World} {g : Nat} {t : TypeId} {c0 c1 c2 c3 : Value} (h : w.heap[g]? = some (.cells #[c0, c1, c2, c3] t (0, 0))) (v0 v1 v2 v3 : Value) :
    ((((w.setCell ⟨g, 0, none⟩ v0).setCell ⟨g, 1, none⟩ v1).setCell ⟨g, 2, none⟩ v2).setCell ⟨g, 3, none⟩ v3).heap[g]? = some (.cells #[v0, v1, v2, v3] t (0, 0)) :=
  blk_put (blk_put (blk_put (blk_put h 0 v0 rfl) 1 v1 rfl) 2 v2 rfl) 3 v3 rfl
theorem below_tr {w a c : World} (h1 : Below w.heap.size w a) (h2 : Below a.heap.size a c) : Below w.heap.size w c := h1.trans (h2.mono h1.size)
/-- The block of a value's row, if it has one, lies there. -/
def Bd (lo hi : Nat) (v : Value) : Prop := ∀ k, v.ownBlock = some k → lo ≤ k ∧ k < hi
theorem Bd.wide {lo lo' hi hi' : Nat} {v : Value} (h : Bd lo hi v) (h1 : lo' ≤ lo) (h2 : hi ≤ hi') : Bd lo' hi' v := fun k hk => ⟨Nat.le_trans h1 (h k hk).1, Nat.lt_of_lt_of_le (h k hk).2 h2⟩
theorem Bd.nil (lo hi n c : Nat) : Bd lo hi (.slice none n c) := fun k hk => by simp [Value.ownBlock] at hk
theorem bd_own {w : World} {base lo n : Nat} {e : TypeId} {size : Nat} {v : Value} {xs : List Value} (h : w.ownsRow base e size v n xs) (hlo : lo ≤ base) : Bd lo w.heap.size v := fun k hk => ⟨Nat.le_trans hlo (own_base h k hk), own_lt h k hk⟩
theorem heap_set_ne {w : World} {k g j : Nat} (h : k ≠ g) (v : Value) : (w.setCell ⟨g, j, none⟩ v).heap[k]? = w.heap[k]? := Below.heap_setCell w ⟨g, j, none⟩ v k h
theorem size_set (w : World) (a : Addr) (v : Value) : (w.setCell a v).heap.size = w.heap.size := by simp [World.setCell]
theorem readsOf_keep {α : Type} {enc : α → Value} {d : α} {w w1 : World} {A : Option Addr} {n c : Nat} {l : List α} (h : ReadsOf enc d w A n l) (hk : ∀ k, (Value.slice A n c).ownBlock = some k → w1.heap[k]? = w.heap[k]?) : ReadsOf enc d w1 A n l := by
  obtain ⟨h1, h2, h3⟩ := h
  refine ⟨h1, h2, fun hn => ?_⟩
  obtain ⟨ad, rfl, hcell⟩ := h3 hn
  refine ⟨ad, rfl, fun j hj => ?_⟩
  have hb : (ad.add j).block = ad.block := by unfold Addr.add; split <;> rfl
  rw [← hcell j hj]
  unfold World.cell?
  rw [hb, hk ad.block rfl]
theorem Rd.keep {w w1 : World} {v : Value} {l : List ByteArray} (h : Rd w v l) (hk : ∀ k, v.ownBlock = some k → w1.heap[k]? = w.heap[k]?) : Rd w1 v l := by
  obtain ⟨A, c, rfl, hc, hr⟩ := h
  exact ⟨A, c, rfl, hc, readsOf_keep hr hk⟩
theorem Rd2.keep {w w1 : World} {v : Value} {l : List SV} (h : Rd2 w v l) (hk : ∀ k, v.ownBlock = some k → w1.heap[k]? = w.heap[k]?) : Rd2 w1 v l := by
  obtain ⟨A, c, rfl, hc, hr⟩ := h
  exact ⟨A, c, rfl, hc, readsOf_keep hr hk⟩
theorem reads_lit (W : World) (l : List ByteArray) (h : l.length ≤ 9223372036854775807) : ReadsOf Value.string ByteArray.empty (W.alloc (.cells (encs Value.string l).toArray 9)) (some ⟨W.heap.size, 0, none⟩) l.length l := by
  refine ⟨rfl, h, fun _ => ⟨_, rfl, fun j hj => ?_⟩⟩
  rw [add_plain]
  refine (blk_cell (blk_new W (.cells (encs Value.string l).toArray 9)) j).trans ?_
  have := encs_get (enc := Value.string) (d := ByteArray.empty) l j hj
  simpa using this
theorem rd_lit (W : World) (l : List ByteArray) (h : l.length ≤ 9223372036854775807) : Rd (W.alloc (.cells (encs Value.string l).toArray 9)) (.slice (some ⟨W.heap.size, 0, none⟩) l.length l.length) l := ⟨_, _, rfl, Nat.le_refl _, reads_lit W l h⟩
end Go.Proofs.Ytkamejnccmapkaa.Mu
