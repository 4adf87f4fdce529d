/- Two deques side by side, in a call that began at w. -/
import Derived.Test.YtbficlkjlhigjaaDqSt
namespace Go.Proofs.Ytbficlkjlhigjaa.Dq
open Go.RowKit Go.Proofs.YtbficlkjlhigjaaW.PrintWords Go.Proofs.YtbficlkjlhigjaaW.PrintMore Go.Proofs.YtbficlkjlhigjaaW.PrintLast
set_option linter.unusedVariables false
set_option linter.unusedSimpArgs false
def SD (w : World) (B g g' : Nat) (l l' : List ByteArray) (W : World) : Prop := ∃ row row', Dq Value.string 51 9 W B g row l ∧ Dq Value.string 51 9 W B g' row' l' ∧ g ≠ g' ∧ (row = none ∨ row ≠ row') ∧ Below B w W ∧ B ≤ W.heap.size
section
variable {w W W1 : World} {B g g' : Nat} {l l' : List ByteArray}
theorem SD.symm (h : SD w B g g' l l' W) : SD w B g' g l' l W := by
  obtain ⟨row, row', hd, he, hg, hr, hB, hs⟩ := h
  refine ⟨row', row, he, hd, fun e => hg e.symm, ?_, hB, hs⟩
  cases row' with
  | none => exact .inl rfl
  | some k =>
    refine .inr fun e => ?_
    rcases hr with hr | hr
    · rw [hr] at e; cases e
    · exact hr e.symm
theorem SD.st (h : SD w B g g' l l' W) : St w B g l W := by
  obtain ⟨row, row', hd, he, hg, hr, hB, hs⟩ := h
  exact ⟨row, hd, hB, hs⟩
theorem SD.below (h : SD w B g g' l l' W) (hb : Below W.heap.size W W1) : SD w B g g' l l' W1 := by
  obtain ⟨row, row', hd, he, hg, hr, hB, hs⟩ := h
  exact ⟨row, row', hd.below hb, he.below hb, hg, hr, hB.trans (hb.mono hs), Nat.le_trans hs hb.size⟩
/-- A deque that has been made behind another one. -/
theorem SD.mk_ {row row' : Option Nat} (hd : Dq Value.string 51 9 W B g row l) (he : Dq Value.string 51 9 W1 W.heap.size g' row' l') (hb : Below W.heap.size W W1) (hB : Below B w W) (hs : B ≤ W.heap.size) : SD w B g g' l l' W1 := by
  refine ⟨row, row', hd.below hb, he.lower hs, fun e => ?_, ?_, hB.trans (hb.mono hs), Nat.le_trans hs hb.size⟩
  · have := hd.glt
    have := he.hg
    omega
  · cases row with
    | none => exact .inl rfl
    | some k =>
      refine .inr fun e => ?_
      have := (hd.rlt rfl).1
      have := (he.rlt e.symm).2.1
      omega
theorem SD.upd {row row' row1 : Option Nat} {l1 : List ByteArray} (hd : Dq Value.string 51 9 W B g row l) (he : Dq Value.string 51 9 W B g' row' l') (hg : g ≠ g') (hr : row = none ∨ row ≠ row') (hB : Below B w W) (hs : B ≤ W.heap.size)
    (hu : Upd W W1 B g row row1) (hd1 : Dq Value.string 51 9 W1 B g row1 l1) : SD w B g g' l1 l' W1 := by
  have hgr : some g' ≠ row := by
    intro e
    obtain ⟨v, R, f, e', h⟩ := hd
    obtain ⟨v', R', f', e2, h'⟩ := he
    obtain ⟨cells, hc⟩ := own_typed h.own g' (e'.trans e.symm)
    rw [h'.blk] at hc
    injection hc with hc
    injection hc with _ ht
    exact absurd ht (by decide)
  have hrg : row' ≠ some g := by
    intro e
    obtain ⟨v, R, f, e', h⟩ := hd
    obtain ⟨v', R', f', e2, h'⟩ := he
    obtain ⟨cells, hc⟩ := own_typed h'.own g (e2.trans e)
    rw [h.blk] at hc
    injection hc with hc
    injection hc with _ ht
    exact absurd ht (by decide)
  have hr' : row' = none ∨ row' ≠ row := by
    cases row' with
    | none => exact .inl rfl
    | some k =>
      refine .inr fun e => ?_
      rcases hr with hr | hr
      · rw [hr] at e; cases e
      · exact hr e.symm
  refine ⟨row1, row', hd1, he.kept hu.keep (fun e => hg e.symm) hgr hrg hr', hg, ?_, hB.trans hu.below, Nat.le_trans hs hu.keep.1⟩
  rcases hu.row with e1 | ⟨b, e1, hb⟩
  · rw [e1]; exact hr
  · refine .inr fun e => ?_
    have := (he.rlt (e.symm.trans e1)).1
    omega
theorem SD.push (h : SD w B g g' l l' W) (front : Bool) (x : ByteArray) (hl : l.length < 1048576) :
    Calls Try.prog 24 #[.pointer (some ⟨g, 0, none⟩), .bool front, Value.string x] W fun e W' => e = .returned (.bool true) ∧ SD w B g g' (if front then x :: l else l ++ [x]) l' W' ∧ KeepT W W' := by
  obtain ⟨row, row', hd, he, hg, hr, hB, hs⟩ := h
  refine (push_calls g B row l front x W hd hl).mono fun e W' hx => ?_
  obtain ⟨rfl, row1, hd', hu⟩ := hx
  exact ⟨rfl, SD.upd hd he hg hr hB hs hu hd', KeepT.of_upd hd hu⟩
theorem SD.pop (h : SD w B g g' l l' W) (front : Bool) :
    Calls Try.prog 31 #[.pointer (some ⟨g, 0, none⟩), .bool front] W fun e W' => e = .returned (.tuple #[Value.string (if front then l.getD 0 ByteArray.empty else l.getD (l.length - 1) ByteArray.empty), .bool (!l.isEmpty)]) ∧ SD w B g g' (if front then l.tail else l.dropLast) l' W' ∧ KeepT W W' := by
  obtain ⟨row, row', hd, he, hg, hr, hB, hs⟩ := h
  refine (pop_calls g B row l front W hd).mono fun e W' hx => ?_
  obtain ⟨rfl, hd', hu⟩ := hx
  exact ⟨rfl, SD.upd hd he hg hr hB hs hu hd', KeepT.of_upd hd hu⟩
end
end Go.Proofs.Ytbficlkjlhigjaa.Dq
