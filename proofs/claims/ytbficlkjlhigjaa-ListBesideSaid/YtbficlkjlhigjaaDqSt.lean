/- A deque and a row that is read, side by side, in a call that began at w: what each doing leaves. -/
import Derived.Test.YtbficlkjlhigjaaDqRd
namespace Go.Proofs.Ytbficlkjlhigjaa.Dq
open Go.RowKit Go.Proofs.YtbficlkjlhigjaaW.PrintWords Go.Proofs.YtbficlkjlhigjaaW.PrintMore Go.Proofs.YtbficlkjlhigjaaW.PrintLast
set_option linter.unusedVariables false
set_option linter.unusedSimpArgs false
theorem DqAt.lower {w : World} {base base' g f : Nat} {v : Value} {R l : List ByteArray} (h : DqAt Value.string 51 9 w base g v R f l) (hb : base' ≤ base) : DqAt Value.string 51 9 w base' g v R f l :=
  ⟨Nat.le_trans hb h.hg, h.blk, own_weaken h.own hb, h.rep, h.cap⟩
theorem Dq.lower {w : World} {base base' g : Nat} {row : Option Nat} {l : List ByteArray} (h : Dq Value.string 51 9 w base g row l) (hb : base' ≤ base) : Dq Value.string 51 9 w base' g row l := by
  obtain ⟨v, R, f, e, h⟩ := h
  exact ⟨v, R, f, e, h.lower hb⟩
theorem Dq.glt {w : World} {base g : Nat} {row : Option Nat} {l : List ByteArray} (h : Dq Value.string 51 9 w base g row l) : g < w.heap.size := by
  obtain ⟨v, R, f, e, h⟩ := h
  exact h.lt
theorem Dq.rlt {w : World} {base g k : Nat} {row : Option Nat} {l : List ByteArray} (h : Dq Value.string 51 9 w base g row l) (hk : row = some k) : k < w.heap.size ∧ base ≤ k ∧ k ≠ g := by
  obtain ⟨v, R, f, e, h⟩ := h
  refine ⟨own_lt h.own k (e.trans hk), own_base h.own k (e.trans hk), fun e' => h.ne (by decide) ?_⟩
  rw [e, hk, e']
theorem Dq.hg {w : World} {base g : Nat} {row : Option Nat} {l : List ByteArray} (h : Dq Value.string 51 9 w base g row l) : base ≤ g := by
  obtain ⟨v, R, f, e, h⟩ := h
  exact h.hg
theorem reads_lit (W : World) (l : List ByteArray) (h : l.length ≤ 9223372036854775807) : ReadsOf Value.string ByteArray.empty (W.alloc (.cells (encs Value.string l).toArray 9)) (some ⟨W.heap.size, 0, none⟩) l.length l := by
  refine ⟨rfl, h, fun _ => ⟨_, rfl, fun j hj => ?_⟩⟩
  rw [add_plain]
  refine (blk_cell (blk_new W (.cells (encs Value.string l).toArray 9)) j).trans ?_
  have := encs_get (enc := Value.string) (d := ByteArray.empty) l j hj
  simpa using this
theorem rd_lit (W : World) (l : List ByteArray) (h : l.length ≤ 9223372036854775807) : Rd (W.alloc (.cells (encs Value.string l).toArray 9)) (.slice (some ⟨W.heap.size, 0, none⟩) l.length l.length) l := ⟨_, _, rfl, Nat.le_refl _, reads_lit W l h⟩
/-- A row that is read, whose block is not among those that may be written. -/
theorem Rd.keep {w w1 : World} {v : Value} {l : List ByteArray} {g : Nat} {row : Option Nat} (h : Rd w v l) (hk : KeepBut w w1 g row) (hne : 0 < l.length → ∀ k, v.ownBlock = some k → k ≠ g ∧ some k ≠ row) : Rd w1 v l := by
  obtain ⟨A, c, rfl, hc, h1, h2, h3⟩ := h
  refine ⟨A, c, rfl, hc, h1, h2, fun hn => ?_⟩
  obtain ⟨ad, rfl, hcell⟩ := h3 hn
  refine ⟨ad, rfl, fun j hj => ?_⟩
  have h4 := hne hn ad.block rfl
  have hb : (ad.add j).block = ad.block := by unfold Addr.add; split <;> rfl
  have hlt := World.block_lt_of_cell? w (ad.add j) (hcell j hj)
  rw [hb] at hlt
  rw [← hcell j hj]
  unfold World.cell?
  rw [hb, hk.2 ad.block hlt h4.1 h4.2]
theorem Rd.lt {w : World} {v : Value} {l : List ByteArray} (h : Rd w v l) (hl : 0 < l.length) (k : Nat) (hk : v.ownBlock = some k) : k < w.heap.size := by
  obtain ⟨A, c, rfl, hc, h1, h2, h3⟩ := h
  obtain ⟨ad, rfl, hcell⟩ := h3 hl
  have hlt := World.block_lt_of_cell? w (ad.add 0) (hcell 0 hl)
  have hb : (ad.add 0).block = ad.block := by unfold Addr.add; split <;> rfl
  rw [hb] at hlt
  have : ad.block = k := by simpa [Value.ownBlock] using hk
  omega
/-- Blocks of other types than a deque's and its rooms' are as they were. -/
def KeepT (W W' : World) : Prop := ∀ (k : Nat) (cs : Array Value) (t : TypeId), W.heap[k]? = some (.cells cs t (0, 0)) → t ≠ 51 → t ≠ 9 → W'.heap[k]? = some (.cells cs t (0, 0))
theorem KeepT.of_below {W W' : World} (h : Below W.heap.size W W') : KeepT W W' := fun k cs t hk _ _ => (h.block k (blk_lt hk)).trans hk
theorem KeepT.of_upd {W W' : World} {B g : Nat} {row row' : Option Nat} {l : List ByteArray} (hd : Dq Value.string 51 9 W B g row l) (hu : Upd W W' B g row row') : KeepT W W' := by
  intro k cs t hk h1 h2
  obtain ⟨v, R, f, e, h⟩ := hd
  refine (hu.keep.2 k (blk_lt hk) (fun e' => ?_) (fun e' => ?_)).trans hk
  · subst e'
    rw [h.blk] at hk
    injection hk with hk
    injection hk with _ ht
    exact h1 ht.symm
  · obtain ⟨cells, hc⟩ := own_typed h.own k (e.trans e'.symm)
    rw [hc] at hk
    injection hk with hk
    injection hk with _ ht
    exact h2 ht.symm
/-- A deque at g, of a call that began at w (B: its heap's size). -/
def St (w : World) (B g : Nat) (l : List ByteArray) (W : World) : Prop := ∃ row, Dq Value.string 51 9 W B g row l ∧ Below B w W ∧ B ≤ W.heap.size
theorem St.below {w W W1 : World} {B g : Nat} {l : List ByteArray} (h : St w B g l W) (hb : Below W.heap.size W W1) : St w B g l W1 := by
  obtain ⟨row, hd, hB, hs⟩ := h
  exact ⟨row, hd.below hb, hB.trans (hb.mono hs), Nat.le_trans hs hb.size⟩
theorem St.out {w W : World} {B g : Nat} {l : List ByteArray} (h : St w B g l W) : Below B w W := by
  obtain ⟨row, hd, hB, hs⟩ := h
  exact hB
theorem St.size {w W : World} {B g : Nat} {l : List ByteArray} (h : St w B g l W) : B ≤ W.heap.size := by
  obtain ⟨row, hd, hB, hs⟩ := h
  exact hs
theorem St.upd {w W W1 : World} {B g : Nat} {row row1 : Option Nat} {l1 : List ByteArray} (hB : Below B w W) (hs : B ≤ W.heap.size) (hu : Upd W W1 B g row row1) (hd : Dq Value.string 51 9 W1 B g row1 l1) : St w B g l1 W1 :=
  ⟨row1, hd, hB.trans hu.below, Nat.le_trans hs hu.keep.1⟩
section
variable {w W : World} {B g : Nat} {l : List ByteArray}
theorem St.new {A : Option Addr} {c : Nat} (hB : Below B w W) (hs : B ≤ W.heap.size) (hr : ReadsOf Value.string ByteArray.empty W A l.length l) (hl : l.length < 1048576) :
    Calls Try.prog 10 #[.slice A l.length c] W fun e W' => ∃ g, e = .returned (.pointer (some ⟨g, 0, none⟩)) ∧ W.heap.size ≤ g ∧ St w B g l W' ∧ Below W.heap.size W W' := by
  refine (new_calls A c l W hr hl).mono fun e W' he => ?_
  obtain ⟨g, row, rfl, hg, hd, hb⟩ := he
  exact ⟨g, rfl, by omega, ⟨row, hd.lower hs, hB.trans (hb.mono hs), Nat.le_trans hs hb.size⟩, hb⟩
theorem St.push (h : St w B g l W) (front : Bool) (v : ByteArray) (hl : l.length < 1048576) :
    Calls Try.prog 24 #[.pointer (some ⟨g, 0, none⟩), .bool front, Value.string v] W fun e W' => e = .returned (.bool true) ∧ St w B g (if front then v :: l else l ++ [v]) W' ∧ KeepT W W' := by
  obtain ⟨row, hd, hB, hs⟩ := h
  refine (push_calls g B row l front v W hd hl).mono fun e W' he => ?_
  obtain ⟨rfl, row', hd', hu⟩ := he
  exact ⟨rfl, St.upd hB hs hu hd', KeepT.of_upd hd hu⟩
theorem St.pop (h : St w B g l W) (front : Bool) :
    Calls Try.prog 31 #[.pointer (some ⟨g, 0, none⟩), .bool front] W fun e W' => e = .returned (.tuple #[Value.string (if front then l.getD 0 ByteArray.empty else l.getD (l.length - 1) ByteArray.empty), .bool (!l.isEmpty)]) ∧ St w B g (if front then l.tail else l.dropLast) W' ∧ KeepT W W' := by
  obtain ⟨row, hd, hB, hs⟩ := h
  refine (pop_calls g B row l front W hd).mono fun e W' he => ?_
  obtain ⟨rfl, hd', hu⟩ := he
  exact ⟨rfl, St.upd hB hs hu hd', KeepT.of_upd hd hu⟩
theorem St.len (h : St w B g l W) : Calls Try.prog 17 #[.pointer (some ⟨g, 0, none⟩)] W fun e W' => e = .returned (.int .i64 l.length) ∧ W = W' := by
  obtain ⟨row, hd, hB, hs⟩ := h
  exact len_calls g l.length W hd.len.1
theorem St.at_ (h : St w B g l W) (i : Int) (hi : Aside0 (-9223372036854775808 ≤ i ∧ i ≤ 9223372036854775807)) :
    Calls Try.prog 27 #[.pointer (some ⟨g, 0, none⟩), .int .i64 i] W fun e W' => e = .returned (.tuple #[Value.string (if okI l.length i then l.getD (placeI l.length i).toNat ByteArray.empty else ByteArray.empty), .bool (okI l.length i)]) ∧ Below W.heap.size W W' := by
  obtain ⟨row, hd, hB, hs⟩ := h
  exact at_calls g B row l i W hd hi
theorem St.insert (h : St w B g l W) (i : Int) (v : ByteArray) (hl : l.length < 1048576) :
    Calls Try.prog 33 #[.pointer (some ⟨g, 0, none⟩), .int .i64 i, Value.string v] W fun e W' => e = .returned (.bool (decide (0 ≤ i ∧ i ≤ l.length))) ∧ St w B g (if 0 ≤ i ∧ i ≤ l.length then l.take i.toNat ++ v :: l.drop i.toNat else l) W' ∧ KeepT W W' := by
  obtain ⟨row, hd, hB, hs⟩ := h
  refine (insert_calls g B row l i v W hd hl).mono fun e W' he => ?_
  obtain ⟨rfl, row', hd', hu⟩ := he
  exact ⟨rfl, St.upd hB hs hu hd', KeepT.of_upd hd hu⟩
theorem St.remove (h : St w B g l W) (i : Int) (hi : Aside0 (-9223372036854775808 ≤ i ∧ i ≤ 9223372036854775807)) :
    Calls Try.prog 28 #[.pointer (some ⟨g, 0, none⟩), .int .i64 i] W fun e W' => e = .returned (.bool (okI l.length i)) ∧ St w B g (if okI l.length i then l.take (placeI l.length i).toNat ++ l.drop ((placeI l.length i).toNat + 1) else l) W' ∧ KeepT W W' := by
  obtain ⟨row, hd, hB, hs⟩ := h
  refine (remove_calls g B row l i W hd hi).mono fun e W' he => ?_
  obtain ⟨rfl, hd', hu⟩ := he
  exact ⟨rfl, St.upd hB hs hu hd', KeepT.of_upd hd hu⟩
theorem St.cut (h : St w B g l W) (i j : Int) (hi : Aside0 (-9223372036854775808 ≤ i ∧ i ≤ 9223372036854775807)) (hj : Aside0 (-9223372036854775808 ≤ j ∧ j ≤ 9223372036854775807)) :
    Calls Try.prog 30 #[.pointer (some ⟨g, 0, none⟩), .int .i64 i, .int .i64 j] W fun e W' => ∃ v, e = .returned v ∧ Rd W' v (cutL l (spanN l.length i j).1 (spanN l.length i j).2) ∧ Below W.heap.size W W' ∧ ∀ k, v.ownBlock = some k → W.heap.size ≤ k := by
  obtain ⟨row, hd, hB, hs⟩ := h
  refine (cut_calls g B row l i j W hd hi hj).mono fun e W' he => ?_
  obtain ⟨v, rfl, hO, hb⟩ := he
  exact ⟨v, rfl, rd_of_own hO, hb, own_base hO⟩
theorem St.all (h : St w B g l W) :
    Calls Try.prog 14 #[.pointer (some ⟨g, 0, none⟩)] W fun e W' => ∃ v, e = .returned v ∧ Rd W' v l ∧ Below W.heap.size W W' ∧ ∀ k, v.ownBlock = some k → W.heap.size ≤ k := by
  obtain ⟨row, hd, hB, hs⟩ := h
  refine (all_calls g B row l W hd).mono fun e W' he => ?_
  obtain ⟨v, rfl, hO, hb⟩ := he
  exact ⟨v, rfl, rd_of_own hO, hb, own_base hO⟩
end
end Go.Proofs.Ytbficlkjlhigjaa.Dq
