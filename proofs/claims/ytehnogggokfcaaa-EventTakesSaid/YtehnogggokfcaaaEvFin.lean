/- What the laws want: bounds of what is taken, what is put is taken; far; alive. -/
import Derived.Test.YtehnogggokfcaaaEvRPut
namespace Go.Proofs.Ytehnogggokfcaaa.Ev
open Go.RowKit Go.Proofs.YtehnogggokfcaaaW.PrintWords Go.Proofs.YtehnogggokfcaaaW.PrintMore Go.Proofs.YtehnogggokfcaaaW.PrintLast Go.Proofs.Ytehnogggokfcaaa.Y Go.Proofs.Ytehnogggokfcaaa.X Go.Proofs.Ytehnogggokfcaaa.Pure Go.Proofs.Ytehnogggokfcaaa.LM
set_option linter.unusedVariables false
set_option linter.unusedSimpArgs false
attribute [local go_sem ↓] Go.wp_at_zero Go.wp_at_succ
noncomputable section
theorem i64_0 : i64 0 := ⟨by decide, by decide⟩
structure Good (n : Nat) (x : S26) : Prop where
  i : In x
  s : x.f2.size ≤ 4000
  f : x.f5.f0.size ≤ 4000
  l : x.f6.length ≤ n
  y : ∀ q ∈ x.f6, q.f1.f0.size ≤ 4000
theorem last_mem {f : S43 → S43} {l : List S43} {q : S43} (h : q ∈ setLast f l) (hl : l ≠ []) : q ∈ l ∨ ∃ p ∈ l, q = f p := by
  unfold setLast at h
  rcases List.mem_append.1 h with h | h
  · exact .inl (List.dropLast_subset _ h)
  · rcases List.mem_cons.1 h with rfl | h
    · refine .inr ⟨l.getLastD z43, ?_, rfl⟩
      rw [List.getLastD_eq_getLast?, List.getLast?_eq_some_getLast hl]
      exact List.getLast_mem hl
    · cases h
theorem last_len (f : S43 → S43) (l : List S43) : (setLast f l).length ≤ l.length + 1 := by
  unfold setLast
  rw [List.length_append, List.length_dropLast]
  simp
theorem good_last {n : Nat} {x : S26} {f : S43 → S43} (g : Good n x) (hf : ∀ q ∈ x.f6, (i64 (f q).f0 ∧ i64 (f q).f1.f1) ∧ (f q).f1.f0.size ≤ 4000) (hz : (i64 (f z43).f0 ∧ i64 (f z43).f1.f1) ∧ (f z43).f1.f0.size ≤ 4000) : Good (n + 1) { x with f6 := setLast f x.f6 } := by
  have hm : ∀ q ∈ setLast f x.f6, q ∈ x.f6 ∨ (∃ p ∈ x.f6, q = f p) ∨ q = f z43 := by
    intro q h
    by_cases hl : x.f6 = []
    · rw [hl] at h
      unfold setLast at h
      simp at h
      exact .inr (.inr h)
    · rcases last_mem h hl with h | h
      · exact .inl h
      · exact .inr (.inl h)
  refine ⟨⟨g.i.h, g.i.n, g.i.t, g.i.k, g.i.z, ?_⟩, g.s, g.f, ?_, ?_⟩
  · intro q h
    rcases hm q h with h | ⟨p, hp, rfl⟩ | rfl
    · exact g.i.l q h
    · exact (hf p hp).1
    · exact hz.1
  · have := last_len f x.f6; have := g.l; show (setLast f x.f6).length ≤ n + 1; omega
  · intro q h
    rcases hm q h with h | ⟨p, hp, rfl⟩ | rfl
    · exact g.y q h
    · exact (hf p hp).2
    · exact hz.2
theorem Good.up {n : Nat} {x : S26} (g : Good n x) : Good (n + 1) x := ⟨g.i, g.s, g.f, Nat.le_succ_of_le g.l, g.y⟩
theorem step_good (sg : UInt8) (y : ByteArray) (hy : y.size ≤ 4000) (p : S26 × Bool) (n : Nat) (g : Good n p.1) : Good (n + 1) (stepP sg y p).1 := by
  have hv := pv_64 y
  unfold stepP
  split
  · exact ⟨⟨hv, g.i.n, g.i.t, g.i.k, g.i.z, g.i.l⟩, g.s, g.f, Nat.le_succ_of_le g.l, g.y⟩
  split
  · exact ⟨⟨g.i.h, hv, g.i.t, g.i.k, g.i.z, g.i.l⟩, g.s, g.f, Nat.le_succ_of_le g.l, g.y⟩
  split
  · exact ⟨⟨g.i.h, g.i.n, g.i.t, g.i.k, g.i.z, g.i.l⟩, hy, g.f, Nat.le_succ_of_le g.l, g.y⟩
  split
  · exact ⟨⟨g.i.h, g.i.n, hv, g.i.k, g.i.z, g.i.l⟩, g.s, g.f, Nat.le_succ_of_le g.l, g.y⟩
  split
  · exact ⟨⟨g.i.h, g.i.n, g.i.t, g.i.k, g.i.z, g.i.l⟩, g.s, hy, Nat.le_succ_of_le g.l, g.y⟩
  split
  · exact ⟨⟨g.i.h, g.i.n, g.i.t, hv, g.i.z, g.i.l⟩, g.s, g.f, Nat.le_succ_of_le g.l, g.y⟩
  split
  · exact ⟨⟨g.i.h, g.i.n, g.i.t, g.i.k, hv, g.i.l⟩, g.s, g.f, Nat.le_succ_of_le g.l, g.y⟩
  split
  · refine ⟨⟨g.i.h, g.i.n, g.i.t, g.i.k, g.i.z, ?_⟩, g.s, g.f, ?_, ?_⟩
    · intro q h
      rcases List.mem_append.1 h with h | h
      · exact g.i.l q h
      · rcases List.mem_cons.1 h with rfl | h
        · exact ⟨hv, i64_0⟩
        · cases h
    · have := g.l; show (p.1.f6 ++ _).length ≤ _; rw [List.length_append]; simp; omega
    · intro q h
      rcases List.mem_append.1 h with h | h
      · exact g.y q h
      · rcases List.mem_cons.1 h with rfl | h
        · exact Nat.zero_le _
        · cases h
  split
  · exact good_last g (fun q hq => ⟨g.i.l q hq, hy⟩) ⟨⟨i64_0, i64_0⟩, hy⟩
  · exact good_last g (fun q hq => ⟨⟨(g.i.l q hq).1, hv⟩, g.y q hq⟩) ⟨⟨i64_0, hv⟩, Nat.zero_le _⟩
theorem run_good : ∀ (f : List UInt8) (a : List ByteArray) (p : S26 × Bool) (n : Nat), (∀ y ∈ a, y.size ≤ 4000) → Good n p.1 → Good (n + a.length) (runP f a p).1
  | [], a, p, n, ha, g => ⟨g.i, g.s, g.f, by have := g.l; show p.1.f6.length ≤ _; omega, g.y⟩
  | sg :: f, [], p, n, ha, g => g
  | sg :: f, y :: a, p, n, ha, g => by
    have h := run_good f a (stepP sg y p) (n + 1) (fun z hz => ha z (List.mem_cons_of_mem _ hz)) (step_good sg y (ha y (List.mem_cons_self ..)) p n g)
    rw [List.length_cons, show n + (a.length + 1) = n + 1 + a.length by omega]
    exact h
theorem good_k0 (k : Nat) : Good 0 (k0 k) := ⟨⟨i64_0, i64_0, i64_0, i64_0, i64_0, fun q h => by cases h⟩, Nat.zero_le _, Nat.zero_le _, Nat.le_refl _, fun q h => by cases h⟩
theorem take_good (s : ByteArray) (hs : s.size ≤ 3000) : Good 3000 (takeP s).1 := by
  have gz : Good 3000 z26 := ⟨(good_k0 0).i, (good_k0 0).s, (good_k0 0).f, Nat.zero_le _, (good_k0 0).y⟩
  unfold takeP
  cases hsp : splitB s with
  | none => exact gz
  | some l =>
    cases l with
    | nil => exact gz
    | cons wd a =>
      obtain ⟨h1, h2⟩ := split_bounds s _ hsp
      show Good 3000 (kindP (kindOf (up wd)) a).1
      unfold kindP
      split
      · exact gz
      · unfold doneP
        split
        · have h := run_good (formP (kindOf (up wd)) (a.length / 3)) a (k0 (kindOf (up wd)), true) 0 (fun y hy => by have := h2 y (List.mem_cons_of_mem _ hy); omega) (good_k0 _)
          rw [List.length_cons] at h1
          exact ⟨h.i, h.s, h.f, Nat.le_trans h.l (by omega), h.y⟩
        · exact gz
theorem far_l0 (L : List S43) (hL : L.length * 32 ≤ 140737488351232) : ∀ (j : Nat) (acc : Int), j ≤ L.length → 0 ≤ acc → acc ≤ 30000 → ∃ b, Ev (fun k => mewslaw47_far.l0 k acc L (L.length : Int) ((L.length - j : Nat) : Int)) b ∧ (b = false → acc ≤ 3000 ∧ (j : Int) + acc ≤ 3000 ∧ ∀ y ∈ L.drop (L.length - j), y.f1.f0.size ≤ 3000)
  | 0, acc, _, h0, h1 => by
    refine ⟨decide (acc > 3000), ?_, fun h => ?_⟩
    · refine ev_round ?_
      simp only [mewslaw47_far.l0]
      exact ev_neg (by omega) (ev_some rfl)
    · have h := of_decide_eq_false h
      refine ⟨by omega, by omega, fun y hy => ?_⟩
      rw [Nat.sub_zero, List.drop_of_length_le (Nat.le_refl _)] at hy
      cases hy
  | j + 1, acc, hj, h0, h1 => by
    have hi : L.length - (j + 1) < L.length := by omega
    obtain ⟨q, hq⟩ : ∃ q, q = (L[L.length - (j + 1)]).f1.f0 := ⟨_, rfl⟩
    have hm0 : 0 ≤ mn (q.size : Int) 10000 := by unfold mn; split <;> omega
    have hm1 : mn (q.size : Int) 10000 ≤ 10000 := by unfold mn; split <;> omega
    have hw : wrap64 (acc + (1 + mn (q.size : Int) 10000)) = acc + (1 + mn (q.size : Int) 10000) := by unfold wrap64; omega
    have hd : L.drop (L.length - (j + 1)) = L[L.length - (j + 1)] :: L.drop (L.length - j) := by
      rw [List.drop_eq_getElem_cons hi, show L.length - (j + 1) + 1 = L.length - j by omega]
    by_cases hc : acc + (1 + mn (q.size : Int) 10000) > 3000
    · refine ⟨true, ?_, fun h => absurd h (by decide)⟩
      refine ev_round ?_
      simp only [mewslaw47_far.l0]
      refine ev_pos (by omega) (ev_pos (by omega) (ev_pos (by omega) ?_))
      rw [rd43 L _ hi, ← hq, hw]
      exact ev_pos hc (ev_some rfl)
    · obtain ⟨b, hb, hn⟩ := far_l0 L hL j (acc + (1 + mn (q.size : Int) 10000)) (by omega) (by omega) (by omega)
      refine ⟨b, ?_, fun h => ?_⟩
      · refine ev_round ?_
        simp only [mewslaw47_far.l0]
        refine ev_pos (by omega) (ev_pos (by omega) (ev_pos (by omega) ?_))
        rw [rd43 L _ hi, ← hq, hw]
        refine ev_neg hc ?_
        rw [show wrap64 (((L.length - (j + 1) : Nat) : Int) + 1) = ((L.length - j : Nat) : Int) by unfold wrap64; omega]
        exact hb
      · obtain ⟨g1, g2, g3⟩ := hn h
        refine ⟨by omega, by omega, fun y hy => ?_⟩
        rw [hd] at hy
        rcases List.mem_cons.1 hy with rfl | hy
        · rw [← hq]
          unfold mn at g1
          split at g1 <;> omega
        · exact g3 y hy
theorem mn_le (n : Nat) : 0 ≤ mn (n : Int) 10000 ∧ mn (n : Int) 10000 ≤ 10000 ∧ (mn (n : Int) 10000 ≤ 3000 → n ≤ 3000) := by
  unfold mn
  split <;> refine ⟨by omega, by omega, fun h => by omega⟩
structure Near (x : S26) (s : ByteArray) : Prop where
  g : Sm x
  s : s.size ≤ 3000
theorem far_c (x : S26) (s : ByteArray) (hL : x.f6.length * 32 ≤ 140737488351232) : ∃ b, (b = false → Near x s) ∧ ∀ (A : Option Addr) (c : Nat) (w : World), x.f6.length ≤ c → Kd.C k43 w A x.f6.length x.f6 → Calls Try.prog 6 #[.agg (ecL (ecOf x A c)), .string s] w fun e w' => e = .returned (.bool b) ∧ Below w.heap.size w w' := by
  have m1 := mn_le x.f2.size
  have m2 := mn_le s.size
  have m3 := mn_le x.f5.f0.size
  obtain ⟨b, hb, hn⟩ := far_l0 x.f6 hL x.f6.length ((mn (x.f2.size : Int) 10000 + mn (s.size : Int) 10000) + mn (x.f5.f0.size : Int) 10000) (Nat.le_refl _) (by omega) (by omega)
  rw [Nat.sub_self] at hb hn
  refine ⟨b, fun h => ?_, fun A c w hc hC => ?_⟩
  · obtain ⟨g1, g2, g3⟩ := hn h
    rw [List.drop_zero] at g3
    exact ⟨⟨by have := m1.2.2 (by omega); omega, by have := m3.2.2 (by omega); omega, by omega, fun q hq => by have := g3 q hq; omega⟩, m2.2.2 (by omega)⟩
  · obtain ⟨k, hk⟩ := hb
    exact mewslaw47_far.calls k _ _ _ _ _ _ _ _ A c x.f6 s b w hC hc (hk k (Nat.le_refl _))
end
end Go.Proofs.Ytehnogggokfcaaa.Ev
