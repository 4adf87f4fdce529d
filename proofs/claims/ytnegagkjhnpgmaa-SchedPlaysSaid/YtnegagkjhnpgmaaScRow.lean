/- Rows of jobs that came in; what the statements' far says of one job. -/
import Derived.Test.YtnegagkjhnpgmaaLaw44a
import Derived.Test.YtnegagkjhnpgmaaX3
namespace Go.Proofs.Ytnegagkjhnpgmaa.Sc
open Go.RowKit Go.Proofs.YtnegagkjhnpgmaaW.PrintWords Go.Proofs.YtnegagkjhnpgmaaW.PrintMore Go.Proofs.YtnegagkjhnpgmaaW.PrintLast Go.Proofs.Ytnegagkjhnpgmaa.Dq Go.Proofs.Ytnegagkjhnpgmaa.X
set_option linter.unusedVariables false
set_option linter.unusedSimpArgs false
/-- A job as it lies, of a job told. -/
def JOf (w : World) (x : S29) (j : Jb) : Prop := j.h = x.f0 ∧ j.n = x.f1.length ∧ Kd.string.C w j.A j.n x.f1 ∧ j.n ≤ j.c ∧ j.sz = x.f2 ∧ j.ft = x.f3
theorem JOf.below {w w1 : World} {x : S29} {j : Jb} (h : JOf w x j) (hb : Below w.heap.size w w1) : JOf w1 x j := ⟨h.1, h.2.1, Kd.C_below h.2.2.1 hb, h.2.2.2⟩
theorem flat_of (R : List Jb) (f : Nat → Value → Prop) (h : ∀ i (hi : i < R.length), f (i * 4) (.int .i64 (R[i]'hi).h) ∧ f (i * 4 + 1) (.slice (R[i]'hi).A (R[i]'hi).n (R[i]'hi).c) ∧ f (i * 4 + 2) (.int .i64 (R[i]'hi).sz) ∧ f (i * 4 + 3) (.string (R[i]'hi).ft)) : ∀ j v, (flat R)[j]? = some v → f j v := by
  intro j v hj
  have hl : j < (flat R).length := (List.getElem?_eq_some_iff.1 hj).1
  rw [flat_len] at hl
  have hi : j / 4 < R.length := by omega
  obtain ⟨g0, g1, g2, g3⟩ := flat_get R (j / 4) hi
  obtain ⟨f0, f1, f2, f3⟩ := h (j / 4) hi
  have hc : j = j / 4 * 4 ∨ j = j / 4 * 4 + 1 ∨ j = j / 4 * 4 + 2 ∨ j = j / 4 * 4 + 3 := by omega
  rcases hc with e | e | e | e
  · rw [e] at hj ⊢
    have e2 : j / 4 * 4 / 4 = j / 4 := by omega
    rw [g0] at hj
    injection hj with hj
    rw [← hj]
    exact f0
  · rw [e, g1] at hj
    injection hj with hj
    rw [e, ← hj]
    exact f1
  · rw [e, g2] at hj
    injection hj with hj
    rw [e, ← hj]
    exact f2
  · rw [e, g3] at hj
    injection hj with hj
    rw [e, ← hj]
    exact f3
theorem jobs_of {w : World} {A : Option Addr} {n : Nat} {l : List S29} (h : Kd.C k29 w A n l) : ∃ R : List Jb, R.length = l.length ∧ Reads w A R ∧ ∀ i (h1 : i < l.length) (h2 : i < R.length), JOf w (l[i]'h1) (R[i]'h2) := by
  obtain ⟨hn, hm, hc⟩ := h
  by_cases h0 : 0 < n
  · obtain ⟨ad, e, hc⟩ := hc h0
    have key : ∀ i : Fin l.length, ∃ j : Jb, JOf w (l[i.val]'i.isLt) j ∧ w.cell? (ad.add (i.val * 4)) = some (.int .i64 j.h) ∧ w.cell? (ad.add (i.val * 4 + 1)) = some (.slice j.A j.n j.c) ∧ w.cell? (ad.add (i.val * 4 + 2)) = some (.int .i64 j.sz) ∧ w.cell? (ad.add (i.val * 4 + 3)) = some (.string j.ft) := fun i => by
      obtain ⟨c, hs, hr, hcell⟩ := hc i.val _ (List.getElem?_eq_getElem i.isLt)
      obtain ⟨A1, c1, rfl, h1, h2⟩ := k29_open hr
      exact ⟨⟨(l[i.val]'i.isLt).f0, A1, (l[i.val]'i.isLt).f1.length, c1, (l[i.val]'i.isLt).f2, (l[i.val]'i.isLt).f3⟩, ⟨rfl, rfl, h2, h1, rfl, rfl⟩, hcell 0 _ rfl, hcell 1 _ rfl, hcell 2 _ rfl, hcell 3 _ rfl⟩
    refine ⟨List.ofFn fun i => Classical.choose (key i), by simp, fun _ => ⟨ad, e, ?_⟩, fun i h1 h2 => ?_⟩
    · refine flat_of _ (fun j v => w.cell? (ad.add j) = some v) fun i hi => ?_
      rw [List.getElem_ofFn]
      exact (Classical.choose_spec (key ⟨i, by simpa using hi⟩)).2
    · rw [List.getElem_ofFn]
      exact (Classical.choose_spec (key ⟨i, h1⟩)).1
  · have : l = [] := List.eq_nil_of_length_eq_zero (by omega)
    subst this
    exact ⟨[], rfl, fun h => absurd h (by simp), fun i h1 => absurd h1 (by simp)⟩
/-- One doing's job: has it too many texts? -/
theorem far_ev (x : S40) (hl : x.f1.f1.length ≤ 1000000000000000) (h2 : x.f2.length ≤ 20) : mewslaw44_far.f 5 [x] = some (decide (20 < x.f1.f1.length)) := by
  unfold mewslaw44_far.f mewslaw44_far.l0
  by_cases c : 20 < x.f1.f1.length
  · rw [decide_eq_true c]
    simp only [List.length_singleton]
    rw [if_pos (by omega), if_pos (by omega), if_pos (by omega), show rd_T40 [x] 0 = x from rfl, if_pos (show ((x.f1.f1.length : Int) > 20) by omega)]
  · rw [decide_eq_false c]
    simp only [List.length_singleton]
    rw [if_pos (by omega), if_pos (by omega), if_pos (by omega), show rd_T40 [x] 0 = x from rfl, if_neg (show ¬ ((x.f1.f1.length : Int) > 20) by omega), if_neg (show ¬ ((x.f2.length : Int) > 20) by omega)]
    rw [show wrap64 (0 + 1) = 1 from by unfold wrap64; omega]
    unfold mewslaw44_far.l0
    rw [if_neg (by omega)]
    rfl
theorem C_one40 {W : World} {b : Nat} (x : S40) {A2 A5 : Option Addr} {c2 c5 : Nat} (h : W.heap[b]? = some (.cells #[.int .i64 x.f0, .int .i64 x.f1.f0, .slice A2 x.f1.f1.length c2, .int .i64 x.f1.f2, .string x.f1.f3, .slice A5 x.f2.length c5] 40 (0, 0))) (l2 : x.f1.f1.length ≤ c2) (g2 : Kd.string.C W A2 x.f1.f1.length x.f1.f1) (l5 : x.f2.length ≤ c5) (g5 : (Kd.int .i64).C W A5 x.f2.length x.f2) :
    Kd.C k40 W (some ⟨b, 0, none⟩) ([x] : List S40).length [x] := by
  refine ⟨rfl, by simp, fun _ => ⟨_, rfl, fun j p hj => ?_⟩⟩
  obtain _ | j := j
  · have e : x = p := by simpa using hj
    subst e
    refine ⟨_, rfl, k40_mk W x l2 g2 l5 g5, fun i u hu => ?_⟩
    rw [Nat.zero_mul, Nat.zero_add]
    exact World.news_of_block h i u hu
  · simp at hj
theorem far_calls (x : S40) (hl : x.f1.f1.length ≤ 1000000000000000) (h2 : x.f2.length ≤ 20) (W : World) (b : Nat) (hC : Kd.C k40 W (some ⟨b, 0, none⟩) ([x] : List S40).length [x]) :
    Calls Try.prog 14 #[.slice (some ⟨b, 0, none⟩) 1 1] W fun e w' => e = .returned (.bool (decide (20 < x.f1.f1.length))) ∧ Below W.heap.size W w' :=
  mewslaw44_far.calls 5 (some ⟨b, 0, none⟩) 1 [x] _ W hC (Nat.le_refl 1) (far_ev x hl h2)
theorem far_zero (W : World) (b : Nat) (h : W.heap[b]? = some (.cells #[.int .i64 0, .int .i64 0, .slice none 0 0, .int .i64 0, .string (⟨#[]⟩ : ByteArray), .slice none 0 0] 40 (0, 0))) :
    Calls Try.prog 14 #[.slice (some ⟨b, 0, none⟩) 1 1] W fun e w' => e = .returned (.bool false) ∧ Below W.heap.size W w' :=
  far_calls z40 (by decide) (by decide) W b (C_one40 z40 h (Nat.le_refl 0) ⟨rfl, by decide, fun h => absurd h (by decide)⟩ (Nat.le_refl 0) ⟨rfl, by decide, fun h => absurd h (by decide)⟩)
end Go.Proofs.Ytnegagkjhnpgmaa.Sc
