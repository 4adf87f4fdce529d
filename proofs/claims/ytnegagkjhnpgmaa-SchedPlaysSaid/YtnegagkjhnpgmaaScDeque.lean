/- A deque of jobs: its state, and its quiet functions. -/
import Derived.Test.YtnegagkjhnpgmaaScWorld
import Derived.WalkKit
import Derived.WalkLawsBesides
import Derived.WalkSpells
import Derived.OwnWalk
import Derived.Laws.CopyOwn
import Derived.Deep.RegionLaw
import Derived.Deep.RegionHeld3
import Derived.Deep.DrawnRows
import Derived.Deep.QuietTactic
import Derived.BigQuiet
import Derived.Outline
namespace Go.Proofs.Ytnegagkjhnpgmaa.Sc
open Go.RowKit Go.Proofs.YtnegagkjhnpgmaaW.PrintWords Go.Proofs.YtnegagkjhnpgmaaW.PrintMore Go.Proofs.YtnegagkjhnpgmaaW.PrintLast Go.Proofs.Ytnegagkjhnpgmaa.Dq
set_option linter.unusedVariables false
set_option linter.unusedSimpArgs false
/-- A deque of jobs at a block g; its room at A. -/
structure DqA (w : World) (base g : Nat) (A : Option Addr) (R : List Jb) (f : Nat) (l : List Jb) : Prop where
  hg : base ≤ g
  blk : w.heap[g]? = some (.cells #[.slice A R.length R.length, .int .i64 f, .int .i64 l.length] 66 (0, 0))
  room : (R = [] ∧ A = none) ∨ ∃ r, A = some ⟨r, 0, none⟩ ∧ Room w r R ∧ base ≤ r
  rep : Rep R f l
  cap : R.length ≤ 2097152
def DqJ (w : World) (base g : Nat) (A : Option Addr) (l : List Jb) : Prop := ∃ R f, DqA w base g A R f l
/-- What a doing of a deque leaves: all but its block and its room; its room is what it was, or new. -/
structure Fr (w w' : World) (base g : Nat) (A A' : Option Addr) : Prop where
  size : w.heap.size ≤ w'.heap.size
  keep : ∀ k, k < w.heap.size → k ≠ g → (∀ r, A = some ⟨r, 0, none⟩ → k ≠ r) → w'.heap[k]? = w.heap[k]?
  below : ∀ w0 : World, w0.heap.size = base → Below w0.heap.size w0 w → Below w0.heap.size w0 w'
  row : A' = A ∨ ∃ r, A' = some ⟨r, 0, none⟩ ∧ w.heap.size ≤ r
theorem Fr.refl (w : World) (base g : Nat) (A : Option Addr) : Fr w w base g A A := ⟨Nat.le_refl _, fun _ _ _ _ => rfl, fun _ _ h => h, .inl rfl⟩
theorem Fr.trans {w w1 w2 : World} {base g : Nat} {A B C : Option Addr} (h : Fr w w1 base g A B) (k : Fr w1 w2 base g B C) : Fr w w2 base g A C := by
  refine ⟨Nat.le_trans h.size k.size, fun i hi hg hA => ?_, fun w0 e hb => k.below w0 e (h.below w0 e hb), ?_⟩
  · refine (k.keep i (Nat.lt_of_lt_of_le hi h.size) hg (fun r hr => ?_)).trans (h.keep i hi hg hA)
    rcases h.row with e | ⟨q, e, hq⟩
    · exact hA r (by rw [← e]; exact hr)
    · rw [e] at hr
      injection hr with hr
      injection hr with hr
      omega
  · rcases k.row with e | ⟨q, e, hq⟩
    · rw [e]; exact h.row
    · exact .inr ⟨q, e, Nat.le_trans h.size hq⟩
theorem DqA.lt {w : World} {base g f : Nat} {A : Option Addr} {R l : List Jb} (h : DqA w base g A R f l) : g < w.heap.size := blk_lt h.blk
theorem DqA.ne {w : World} {base g f r : Nat} {A : Option Addr} {R l : List Jb} (h : DqA w base g A R f l) (hr : Room w r R) : r ≠ g := by
  intro e
  subst e
  have := h.blk
  unfold Room at hr
  rw [hr] at this
  injection this with this
  injection this with _ this
  exact absurd this (by decide)
theorem DqA.cells {w : World} {base g f : Nat} {A : Option Addr} {R l : List Jb} (h : DqA w base g A R f l) : w.cell? ⟨g, 0, none⟩ = some (.slice A R.length R.length) ∧ w.cell? ⟨g, 1, none⟩ = some (.int .i64 f) ∧ w.cell? ⟨g, 2, none⟩ = some (.int .i64 l.length) ∧ w.frozen? ⟨g, 0, none⟩ = false ∧ w.frozen? ⟨g, 1, none⟩ = false ∧ w.frozen? ⟨g, 2, none⟩ = false :=
  ⟨(blk_cell h.blk 0).trans rfl, (blk_cell h.blk 1).trans rfl, (blk_cell h.blk 2).trans rfl, blk_frozen h.blk 0, blk_frozen h.blk 1, blk_frozen h.blk 2⟩
theorem DqA.kept {w w1 : World} {base g f : Nat} {A : Option Addr} {R l : List Jb} (h : DqA w base g A R f l) (hg : w1.heap[g]? = w.heap[g]?) (hr : ∀ r, A = some ⟨r, 0, none⟩ → r < w.heap.size → w1.heap[r]? = w.heap[r]?) : DqA w1 base g A R f l := by
  refine ⟨h.hg, hg.trans h.blk, ?_, h.rep, h.cap⟩
  rcases h.room with e | ⟨r, e, hR, hb⟩
  · exact .inl e
  · exact .inr ⟨r, e, (hr r e (blk_lt hR)).trans hR, hb⟩
theorem DqA.below {w w1 : World} {base g f : Nat} {A : Option Addr} {R l : List Jb} (h : DqA w base g A R f l) (hb : Below w.heap.size w w1) : DqA w1 base g A R f l :=
  h.kept (hb.block g h.lt) (fun r _ hr => hb.block r hr)
theorem DqJ.below {w w1 : World} {base g : Nat} {A : Option Addr} {l : List Jb} (h : DqJ w base g A l) (hb : Below w.heap.size w w1) : DqJ w1 base g A l := by
  obtain ⟨R, f, h⟩ := h
  exact ⟨R, f, h.below hb⟩
theorem DqA.room_lt {w : World} {base g f r : Nat} {A : Option Addr} {R l : List Jb} (h : DqA w base g A R f l) (e : A = some ⟨r, 0, none⟩) : r < w.heap.size ∧ base ≤ r := by
  rcases h.room with e' | ⟨r', e', hR, hb⟩
  · rw [e'.2] at e; cases e
  · rw [e'] at e
    injection e with e
    injection e with e _ _
    subst e
    exact ⟨blk_lt hR, hb⟩
theorem slot_calls (g f i cap : Nat) (A : Option Addr) (w : World) (h0 : w.cell? ⟨g, 0, none⟩ = some (.slice A cap cap)) (h1 : w.cell? ⟨g, 1, none⟩ = some (.int .i64 f)) (hf : f ≤ cap) (hc : cap ≤ 2097152) (hi : i ≤ 2097152) :
    Calls Try.prog 37 #[.pointer (some ⟨g, 0, none⟩), .int .i64 i] w fun e w' => e = .returned (.int .i64 (slotN cap f i)) ∧ w = w' := by
  have hw : IntKind.i64.wrap ((f : Int) + (i : Int)) = (f : Int) + (i : Int) := by rw [IntKind.wrap_i64]; omega
  by_cases c : f + i < cap
  · have e : ((slotN cap f i : Nat) : Int) = (f : Int) + (i : Int) := by unfold slotN; rw [if_pos c]; omega
    have c1 : decide ((cap : Int) ≤ (f : Int) + (i : Int)) = false := decide_eq_false (by omega)
    rw [e]
    clear e c
    go_enter Try.func37, Try.ntmps37
    go_wp2
    go_ret
    exact ⟨rfl, rfl⟩
  · have e : ((slotN cap f i : Nat) : Int) = (f : Int) + (i : Int) - (cap : Int) := by unfold slotN; rw [if_neg c]; omega
    have c1 : decide ((cap : Int) ≤ (f : Int) + (i : Int)) = true := decide_eq_true (by omega)
    rw [e]
    clear e c
    go_enter Try.func37, Try.ntmps37
    go_wp2
    go_ret
    exact ⟨rfl, rfl⟩
set_option maxHeartbeats 1000000 in
theorem len_calls (g n : Nat) (w : World) (h2 : w.cell? ⟨g, 2, none⟩ = some (.int .i64 n)) :
    Calls Try.prog 30 #[.pointer (some ⟨g, 0, none⟩)] w fun e w' => e = .returned (.int .i64 n) ∧ w = w' := by
  go_enter Try.func30, Try.ntmps30
  go_wp2
  go_ret
  exact ⟨rfl, rfl⟩
set_option maxHeartbeats 1000000 in
theorem len_nil (w : World) :
    Calls Try.prog 30 #[.pointer none] w fun e w' => e = .returned (.int .i64 0) ∧ w = w' := by
  go_enter Try.func30, Try.ntmps30
  go_wp2
  go_ret
  exact ⟨rfl, rfl⟩
end Go.Proofs.Ytnegagkjhnpgmaa.Sc
