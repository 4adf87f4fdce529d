/- A deque and a row that is read, side by side. -/
import Derived.Test.YtglkfoldhobflaaDqSt
namespace Go.Proofs.Ytglkfoldhobflaa.Dq
open Go.RowKit Go.Proofs.YtglkfoldhobflaaW.PrintWords Go.Proofs.YtglkfoldhobflaaW.PrintMore Go.Proofs.YtglkfoldhobflaaW.PrintLast
set_option linter.unusedVariables false
set_option linter.unusedSimpArgs false
/-- A deque at g that holds l1, and a row v, elsewhere, in which l2 is read. -/
def S2 (w : World) (B g : Nat) (l1 l2 : List Int) (v : Value) (W : World) : Prop := ∃ row, Dq (Value.int .i64) 50 3 W B g row l1 ∧ Below B w W ∧ B ≤ W.heap.size ∧ Rd W v l2 ∧ (0 < l2.length → ∀ k, v.ownBlock = some k → k ≠ g ∧ some k ≠ row)
section
variable {w W W1 : World} {B g : Nat} {l1 l2 : List Int} {v : Value}
theorem S2.st (h : S2 w B g l1 l2 v W) : St w B g l1 W := by
  obtain ⟨row, hd, hB, hs, _⟩ := h
  exact ⟨row, hd, hB, hs⟩
theorem S2.rd (h : S2 w B g l1 l2 v W) : Rd W v l2 := by
  obtain ⟨row, hd, hB, hs, hr, _⟩ := h
  exact hr
theorem S2.below (h : S2 w B g l1 l2 v W) (hb : Below W.heap.size W W1) : S2 w B g l1 l2 v W1 := by
  obtain ⟨row, hd, hB, hs, hr, hn⟩ := h
  exact ⟨row, hd.below hb, hB.trans (hb.mono hs), Nat.le_trans hs hb.size, hr.below hb, hn⟩
/-- Another row takes the place of the one that is read. -/
theorem S2.fresh {v' : Value} {l' : List Int} (h : S2 w B g l1 l2 v W) (hr : Rd W1 v' l') (hb : Below W.heap.size W W1) (hf : Fresh W v v') : S2 w B g l1 l' v' W1 := by
  obtain ⟨row, hd, hB, hs, hr0, hn⟩ := h
  refine ⟨row, hd.below hb, hB.trans (hb.mono hs), Nat.le_trans hs hb.size, hr, fun hl k hk => ?_⟩
  rcases hf with hf | rfl
  · have h1 := hf k hk
    refine ⟨fun e => ?_, fun e => ?_⟩
    · have := hd.glt
      omega
    · have := (hd.rlt e.symm).1
      omega
  · have hlen : l'.length = l2.length := by
      obtain ⟨A, c, e, _⟩ := hr
      obtain ⟨A', c', e', _⟩ := hr0
      rw [e] at e'
      injection e'
    exact hn (by omega) k hk
theorem S2.upd {row row1 : Option Nat} {l1' : List Int} (hd : Dq (Value.int .i64) 50 3 W B g row l1) (hB : Below B w W) (hs : B ≤ W.heap.size) (hr : Rd W v l2) (hn : 0 < l2.length → ∀ k, v.ownBlock = some k → k ≠ g ∧ some k ≠ row)
    (hu : Upd W W1 B g row row1) (hd1 : Dq (Value.int .i64) 50 3 W1 B g row1 l1') : S2 w B g l1' l2 v W1 := by
  refine ⟨row1, hd1, hB.trans hu.below, Nat.le_trans hs hu.keep.1, hr.keep hu.keep hn, fun hl k hk => ?_⟩
  refine ⟨(hn hl k hk).1, fun e => ?_⟩
  rcases hu.row with e1 | ⟨b, e1, hb⟩
  · exact (hn hl k hk).2 (by rw [e, e1])
  · have := hr.lt hl k hk
    rw [e1] at e
    injection e with e
    omega
theorem S2.push (h : S2 w B g l1 l2 v W) (front : Bool) (x : Int) (hl : l1.length < 1048576) :
    Calls Try.prog 8 #[.pointer (some ⟨g, 0, none⟩), .bool front, (Value.int .i64) x] W fun e W' => e = .returned (.bool true) ∧ S2 w B g (if front then x :: l1 else l1 ++ [x]) l2 v W' ∧ KeepT W W' := by
  obtain ⟨row, hd, hB, hs, hr, hn⟩ := h
  refine (push_calls g B row l1 front x W hd hl).mono fun e W' he => ?_
  obtain ⟨rfl, row', hd', hu⟩ := he
  exact ⟨rfl, S2.upd hd hB hs hr hn hu hd', KeepT.of_upd hd hu⟩
theorem S2.pop (h : S2 w B g l1 l2 v W) (front : Bool) :
    Calls Try.prog 9 #[.pointer (some ⟨g, 0, none⟩), .bool front] W fun e W' => e = .returned (.tuple #[(Value.int .i64) (if front then l1.getD 0 0 else l1.getD (l1.length - 1) 0), .bool (!l1.isEmpty)]) ∧ S2 w B g (if front then l1.tail else l1.dropLast) l2 v W' ∧ KeepT W W' := by
  obtain ⟨row, hd, hB, hs, hr, hn⟩ := h
  refine (pop_calls g B row l1 front W hd).mono fun e W' he => ?_
  obtain ⟨rfl, hd', hu⟩ := he
  exact ⟨rfl, S2.upd hd hB hs hr hn hu hd', KeepT.of_upd hd hu⟩
theorem S2.set_ (h : S2 w B g l1 l2 v W) (i : Int) (x : Int) (hi : Aside0 (-9223372036854775808 ≤ i ∧ i ≤ 9223372036854775807)) :
    Calls Try.prog 15 #[.pointer (some ⟨g, 0, none⟩), .int .i64 i, (Value.int .i64) x] W fun e W' => e = .returned (.bool (okI l1.length i)) ∧ S2 w B g (if okI l1.length i then l1.set (placeI l1.length i).toNat x else l1) l2 v W' ∧ KeepT W W' := by
  obtain ⟨row, hd, hB, hs, hr, hn⟩ := h
  refine (set_calls g B row l1 i x W hd hi).mono fun e W' he => ?_
  obtain ⟨rfl, hd', hu⟩ := he
  exact ⟨rfl, S2.upd hd hB hs hr hn hu hd', KeepT.of_upd hd hu⟩
theorem S2.insert (h : S2 w B g l1 l2 v W) (i : Int) (x : Int) (hl : l1.length < 1048576) :
    Calls Try.prog 17 #[.pointer (some ⟨g, 0, none⟩), .int .i64 i, (Value.int .i64) x] W fun e W' => e = .returned (.bool (decide (0 ≤ i ∧ i ≤ l1.length))) ∧ S2 w B g (if 0 ≤ i ∧ i ≤ l1.length then l1.take i.toNat ++ x :: l1.drop i.toNat else l1) l2 v W' ∧ KeepT W W' := by
  obtain ⟨row, hd, hB, hs, hr, hn⟩ := h
  refine (insert_calls g B row l1 i x W hd hl).mono fun e W' he => ?_
  obtain ⟨rfl, row', hd', hu⟩ := he
  exact ⟨rfl, S2.upd hd hB hs hr hn hu hd', KeepT.of_upd hd hu⟩
theorem S2.remove (h : S2 w B g l1 l2 v W) (i : Int) (hi : Aside0 (-9223372036854775808 ≤ i ∧ i ≤ 9223372036854775807)) :
    Calls Try.prog 19 #[.pointer (some ⟨g, 0, none⟩), .int .i64 i] W fun e W' => e = .returned (.bool (okI l1.length i)) ∧ S2 w B g (if okI l1.length i then l1.take (placeI l1.length i).toNat ++ l1.drop ((placeI l1.length i).toNat + 1) else l1) l2 v W' ∧ KeepT W W' := by
  obtain ⟨row, hd, hB, hs, hr, hn⟩ := h
  refine (remove_calls g B row l1 i W hd hi).mono fun e W' he => ?_
  obtain ⟨rfl, hd', hu⟩ := he
  exact ⟨rfl, S2.upd hd hB hs hr hn hu hd', KeepT.of_upd hd hu⟩
theorem S2.keep (h : S2 w B g l1 l2 v W) (i j : Int) (hi : Aside0 (-9223372036854775808 ≤ i ∧ i ≤ 9223372036854775807)) (hj : Aside0 (-9223372036854775808 ≤ j ∧ j ≤ 9223372036854775807)) :
    Calls Try.prog 21 #[.pointer (some ⟨g, 0, none⟩), .int .i64 i, .int .i64 j] W fun e W' => e = .returned (.tuple #[]) ∧ S2 w B g (cutL l1 (spanN l1.length i j).1 (spanN l1.length i j).2) l2 v W' ∧ KeepT W W' := by
  obtain ⟨row, hd, hB, hs, hr, hn⟩ := h
  refine (keep_calls g B row l1 i j W hd hi hj).mono fun e W' he => ?_
  obtain ⟨rfl, hd', hu⟩ := he
  exact ⟨rfl, S2.upd hd hB hs hr hn hu hd', KeepT.of_upd hd hu⟩
end
end Go.Proofs.Ytglkfoldhobflaa.Dq
