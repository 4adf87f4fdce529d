/- What the laws want: bounds of what is taken, what is put is taken; far; alive. -/
import Derived.Test.YtehnogggokfcaaaEvRPut
namespace Go.Proofs.Ytehnogggokfcaaa.Ev
open Go.RowKit Go.Proofs.YtehnogggokfcaaaW.PrintWords Go.Proofs.YtehnogggokfcaaaW.PrintMore Go.Proofs.YtehnogggokfcaaaW.PrintLast Go.Proofs.Ytehnogggokfcaaa.Y Go.Proofs.Ytehnogggokfcaaa.X Go.Proofs.Ytehnogggokfcaaa.Pure Go.Proofs.Ytehnogggokfcaaa.LM
set_option linter.unusedVariables false
set_option linter.unusedSimpArgs false
attribute [local go_sem ↓] Go.wp_at_zero Go.wp_at_succ
noncomputable section
theorem i64_0 : i64 0 := ⟨by decide, by decide⟩
theorem far_l0 (L : List S43) (hL : L.length * 32 ≤ 140737488351232) : ∀ (j : Nat) (acc : Int), j ≤ L.length → 0 ≤ acc → acc ≤ 30000 → ∃ b, Ev (fun k => mewslaw47_far.l0 k acc L (L.length : Int) ((L.length - j : Nat) : Int)) b ∧ (b = false → acc ≤ 3000 ∧ (j : Int) + acc ≤ 3000 ∧ ∀ y ∈ L.drop (L.length - j), y.f1.f0.size ≤ 3000)
  | 0, acc, _, h0, h1 => by
    refine ⟨decide (acc > 3000), ?_, fun h => ?_⟩
    · refine ev_round ?_
      simp only [mewslaw47_far.l0]
      exact ev_neg (by omega) (ev_some rfl)
    · have h := of_decide_eq_false h
      refine ⟨by omega, by omega, fun y hy => ?_⟩
      rw [Nat.sub_zero, List.drop_of_length_le (Nat.le_refl _)] at hy
      cases hy
  | j + 1, acc, hj, h0, h1 => by
    have hi : L.length - (j + 1) < L.length := by omega
    obtain ⟨q, hq⟩ : ∃ q, q = (L[L.length - (j + 1)]).f1.f0 := ⟨_, rfl⟩
    have hm0 : 0 ≤ mn (q.size : Int) 10000 := by unfold mn; split <;> omega
    have hm1 : mn (q.size : Int) 10000 ≤ 10000 := by unfold mn; split <;> omega
    have hw : wrap64 (acc + (1 + mn (q.size : Int) 10000)) = acc + (1 + mn (q.size : Int) 10000) := by unfold wrap64; omega
    have hd : L.drop (L.length - (j + 1)) = L[L.length - (j + 1)] :: L.drop (L.length - j) := by
      rw [List.drop_eq_getElem_cons hi, show L.length - (j + 1) + 1 = L.length - j by omega]
    by_cases hc : acc + (1 + mn (q.size : Int) 10000) > 3000
    · refine ⟨true, ?_, fun h => absurd h (by decide)⟩
      refine ev_round ?_
      simp only [mewslaw47_far.l0]
      refine ev_pos (by omega) (ev_pos (by omega) (ev_pos (by omega) ?_))
      rw [rd43 L _ hi, ← hq, hw]
      exact ev_pos hc (ev_some rfl)
    · obtain ⟨b, hb, hn⟩ := far_l0 L hL j (acc + (1 + mn (q.size : Int) 10000)) (by omega) (by omega) (by omega)
      refine ⟨b, ?_, fun h => ?_⟩
      · refine ev_round ?_
        simp only [mewslaw47_far.l0]
        refine ev_pos (by omega) (ev_pos (by omega) (ev_pos (by omega) ?_))
        rw [rd43 L _ hi, ← hq, hw]
        refine ev_neg hc ?_
        rw [show wrap64 (((L.length - (j + 1) : Nat) : Int) + 1) = ((L.length - j : Nat) : Int) by unfold wrap64; omega]
        exact hb
      · obtain ⟨g1, g2, g3⟩ := hn h
        refine ⟨by omega, by omega, fun y hy => ?_⟩
        rw [hd] at hy
        rcases List.mem_cons.1 hy with rfl | hy
        · rw [← hq]
          unfold mn at g1
          split at g1 <;> omega
        · exact g3 y hy
theorem mn_le (n : Nat) : 0 ≤ mn (n : Int) 10000 ∧ mn (n : Int) 10000 ≤ 10000 ∧ (mn (n : Int) 10000 ≤ 3000 → n ≤ 3000) := by
  unfold mn
  split <;> refine ⟨by omega, by omega, fun h => by omega⟩
structure Near (x : S26) (s : ByteArray) : Prop where
  g : Sm x
  s : s.size ≤ 3000
theorem far_c (x : S26) (s : ByteArray) (hL : x.f6.length * 32 ≤ 140737488351232) : ∃ b, (b = false → Near x s) ∧ ∀ (A : Option Addr) (c : Nat) (w : World), x.f6.length ≤ c → Kd.C k43 w A x.f6.length x.f6 → Calls Try.prog 6 #[.agg (ecL (ecOf x A c)), .string s] w fun e w' => e = .returned (.bool b) ∧ Below w.heap.size w w' := by
  have m1 := mn_le x.f2.size
  have m2 := mn_le s.size
  have m3 := mn_le x.f5.f0.size
  obtain ⟨b, hb, hn⟩ := far_l0 x.f6 hL x.f6.length ((mn (x.f2.size : Int) 10000 + mn (s.size : Int) 10000) + mn (x.f5.f0.size : Int) 10000) (Nat.le_refl _) (by omega) (by omega)
  rw [Nat.sub_self] at hb hn
  refine ⟨b, fun h => ?_, fun A c w hc hC => ?_⟩
  · obtain ⟨g1, g2, g3⟩ := hn h
    rw [List.drop_zero] at g3
    exact ⟨⟨by have := m1.2.2 (by omega); omega, by have := m3.2.2 (by omega); omega, by omega, fun q hq => by have := g3 q hq; omega⟩, m2.2.2 (by omega)⟩
  · obtain ⟨k, hk⟩ := hb
    exact mewslaw47_far.calls k _ _ _ _ _ _ _ _ A c x.f6 s b w hC hc (hk k (Nat.le_refl _))
end
end Go.Proofs.Ytehnogggokfcaaa.Ev
