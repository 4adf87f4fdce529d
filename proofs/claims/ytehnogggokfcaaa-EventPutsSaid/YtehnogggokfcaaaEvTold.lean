/- What the document tells of an event, one argument each. -/
import Derived.Test.YtehnogggokfcaaaEvPut
namespace Go.Proofs.Ytehnogggokfcaaa.Ev
open Go.RowKit Go.Proofs.YtehnogggokfcaaaW.PrintWords Go.Proofs.YtehnogggokfcaaaW.PrintMore Go.Proofs.YtehnogggokfcaaaW.PrintLast Go.Proofs.Ytehnogggokfcaaa.Y Go.Proofs.Ytehnogggokfcaaa.X Go.Proofs.Ytehnogggokfcaaa.Pure Go.Proofs.Ytehnogggokfcaaa.LM
set_option linter.unusedVariables false
set_option linter.unusedSimpArgs false
theorem form_args (k : Nat) (h0 : k ≠ 0) (h8 : k ≤ 8) (x : S26) : (formP k x.f6.length).length = (argsP k x).length := by
  rcases (by omega : k = 1 ∨ k = 2 ∨ k = 3 ∨ k = 4 ∨ k = 5 ∨ k = 6 ∨ k = 7 ∨ k = 8) with rfl | rfl | rfl | rfl | rfl | rfl | rfl | rfl <;> try rfl
  show ((List.replicate x.f6.length [(120 : UInt8), 121, 119]).flatten).length = (triP x.f6).length
  rw [tri_len, triP_len]
def toldP (x : S26) (sg : Int) (d : Nat) : ByteArray :=
  if sg = 104 then tx x.f1 else if sg = 110 then tx x.f3 else if sg = 115 then x.f2 else if sg = 116 then tx x.f4 else if sg = 102 then x.f5.f0 else if sg = 107 then tx x.f5.f1 else if sg = 122 then tx x.f5.f2
  else if sg = 120 then tx (x.f6.getD d z43).f0 else if sg = 121 then (x.f6.getD d z43).f1.f0 else tx (x.f6.getD d z43).f1.f1
theorem told_ev (x : S26) (hi : In x) (sg : Int) (d : Nat) (hd : ¬ (sg = 104 ∨ sg = 110 ∨ sg = 115 ∨ sg = 116 ∨ sg = 102 ∨ sg = 107 ∨ sg = 122) → d < x.f6.length) :
    Ev (fun k => mewsref47_told.f k x.f0 x.f1 x.f2 x.f3 x.f4 x.f5.f0 x.f5.f1 x.f5.f2 x.f6 sg (d : Int)) (toldP x sg d) := by
  have rdd : rd_T43 x.f6 (d : Int) = x.f6.getD d z43 := by unfold rd_T43; rw [Int.toNat_natCast]
  unfold mewsref47_told.f toldP
  by_cases h1 : sg = 104
  · rw [if_pos h1]
    exact ev_pos h1 (ev_bind (ref_text_ev x.f1 hi.h.1 hi.h.2) (ev_some rfl))
  rw [if_neg h1]
  refine ev_neg h1 ?_
  by_cases h2 : sg = 110
  · rw [if_pos h2]
    exact ev_pos h2 (ev_bind (ref_text_ev x.f3 hi.n.1 hi.n.2) (ev_some rfl))
  rw [if_neg h2]
  refine ev_neg h2 ?_
  by_cases h3 : sg = 115
  · rw [if_pos h3]
    exact ev_pos h3 (ev_some rfl)
  rw [if_neg h3]
  refine ev_neg h3 ?_
  by_cases h4 : sg = 116
  · rw [if_pos h4]
    exact ev_pos h4 (ev_bind (ref_text_ev x.f4 hi.t.1 hi.t.2) (ev_some rfl))
  rw [if_neg h4]
  refine ev_neg h4 ?_
  by_cases h5 : sg = 102
  · rw [if_pos h5]
    exact ev_pos h5 (ev_some rfl)
  rw [if_neg h5]
  refine ev_neg h5 ?_
  by_cases h6 : sg = 107
  · rw [if_pos h6]
    exact ev_pos h6 (ev_bind (ref_text_ev x.f5.f1 hi.k.1 hi.k.2) (ev_some rfl))
  rw [if_neg h6]
  refine ev_neg h6 ?_
  by_cases h7 : sg = 122
  · rw [if_pos h7]
    exact ev_pos h7 (ev_bind (ref_text_ev x.f5.f2 hi.z.1 hi.z.2) (ev_some rfl))
  rw [if_neg h7]
  refine ev_neg h7 ?_
  have hdl : d < x.f6.length := hd (by rintro (h | h | h | h | h | h | h) <;> contradiction)
  have hq : x.f6.getD d z43 ∈ x.f6 := by rw [List.getD_eq_getElem?_getD, List.getElem?_eq_getElem hdl]; exact List.getElem_mem _
  have hl := hi.l _ hq
  rw [rdd]
  by_cases h8 : sg = 120
  · rw [if_pos h8]
    exact ev_pos h8 (ev_pos (by omega) (ev_pos (by omega) (ev_bind (ref_text_ev _ hl.1.1 hl.1.2) (ev_some rfl))))
  rw [if_neg h8]
  refine ev_neg h8 ?_
  by_cases h9 : sg = 121
  · rw [if_pos h9]
    exact ev_pos h9 (ev_pos (by omega) (ev_pos (by omega) (ev_some rfl)))
  rw [if_neg h9]
  refine ev_neg h9 (ev_pos (by omega) (ev_pos (by omega) (ev_bind (ref_text_ev _ hl.2.1 hl.2.2) (ev_some rfl))))
theorem get_idx2 (l : List UInt8) (i j : Nat) (hi : i < l.length) (hj : j < l.length) (e : i = j) : l[i] = l[j] := by subst e; rfl
theorem tri_at : ∀ (l : List S43) (j : Nat) (h : j < l.length), (triP l)[3 * j]? = some (tx (l.getD j z43).f0) ∧ (triP l)[3 * j + 1]? = some (l.getD j z43).f1.f0 ∧ (triP l)[3 * j + 2]? = some (tx (l.getD j z43).f1.f1)
  | q :: r, 0, _ => ⟨rfl, rfl, rfl⟩
  | q :: r, j + 1, h => by
    have ih := tri_at r j (by simpa using h)
    have e : (q :: r).getD (j + 1) z43 = r.getD j z43 := rfl
    rw [e, triP, show 3 * (j + 1) = 3 * j + 1 + 1 + 1 by omega, show 3 * j + 1 + 1 + 1 + 2 = 3 * j + 2 + 1 + 1 + 1 by omega]
    exact ih
theorem told_at (k : Nat) (h0 : k ≠ 0) (h8 : k ≤ 8) (x : S26) (i : Nat) (hi : i < (formP k x.f6.length).length) :
    (argsP k x)[i]? = some (toldP x ((formP k x.f6.length)[i].toNat : Int) (i / 3)) ∧ (¬ (((formP k x.f6.length)[i].toNat : Int) = 104 ∨ ((formP k x.f6.length)[i].toNat : Int) = 110 ∨ ((formP k x.f6.length)[i].toNat : Int) = 115 ∨ ((formP k x.f6.length)[i].toNat : Int) = 116 ∨ ((formP k x.f6.length)[i].toNat : Int) = 102 ∨ ((formP k x.f6.length)[i].toNat : Int) = 107 ∨ ((formP k x.f6.length)[i].toNat : Int) = 122) → i / 3 < x.f6.length) := by
  by_cases hk : k = 8
  · subst hk
    have e : formP 8 x.f6.length = (List.replicate x.f6.length [(120 : UInt8), 121, 119]).flatten := rfl
    have ea : argsP 8 x = triP x.f6 := rfl
    simp only [e, ea] at hi ⊢
    rw [tri_len] at hi
    have hj : i / 3 < x.f6.length := by omega
    obtain ⟨t0, t1, t2⟩ := tri_get x.f6.length (i / 3) hj
    obtain ⟨a0, a1, a2⟩ := tri_at x.f6 (i / 3) hj
    obtain ⟨h0', t0⟩ := List.getElem?_eq_some_iff.1 t0
    obtain ⟨h1', t1⟩ := List.getElem?_eq_some_iff.1 t1
    obtain ⟨h2', t2⟩ := List.getElem?_eq_some_iff.1 t2
    have hl := tri_len x.f6.length
    refine ⟨?_, fun _ => hj⟩
    rcases (by omega : i = 3 * (i / 3) ∨ i = 3 * (i / 3) + 1 ∨ i = 3 * (i / 3) + 2) with hx | hx | hx
    · have hz : ((List.replicate x.f6.length [(120 : UInt8), 121, 119]).flatten)[i]'(by omega) = 120 := (get_idx2 _ _ _ _ _ hx).trans t0
      rw [hz]
      rw [show (triP x.f6)[i]? = (triP x.f6)[3 * (i / 3)]? from congrArg (fun z => (triP x.f6)[z]?) hx, a0]; rfl
    · have hz : ((List.replicate x.f6.length [(120 : UInt8), 121, 119]).flatten)[i]'(by omega) = 121 := (get_idx2 _ _ _ _ _ hx).trans t1
      rw [hz]
      rw [show (triP x.f6)[i]? = (triP x.f6)[3 * (i / 3) + 1]? from congrArg (fun z => (triP x.f6)[z]?) hx, a1]; rfl
    · have hz : ((List.replicate x.f6.length [(120 : UInt8), 121, 119]).flatten)[i]'(by omega) = 119 := (get_idx2 _ _ _ _ _ hx).trans t2
      rw [hz]
      rw [show (triP x.f6)[i]? = (triP x.f6)[3 * (i / 3) + 2]? from congrArg (fun z => (triP x.f6)[z]?) hx, a2]; rfl
  · rcases (by omega : k = 1 ∨ k = 2 ∨ k = 3 ∨ k = 4 ∨ k = 5 ∨ k = 6 ∨ k = 7) with rfl | rfl | rfl | rfl | rfl | rfl | rfl
    · have hi : i < 1 := hi
      obtain rfl : i = 0 := by omega
      exact ⟨rfl, fun h => absurd (.inl rfl) h⟩
    · have hi : i < 2 := hi
      rcases (by omega : i = 0 ∨ i = 1) with rfl | rfl
      · exact ⟨rfl, fun h => absurd (.inl rfl) h⟩
      · exact ⟨rfl, fun h => absurd (.inr (.inr (.inl rfl))) h⟩
    · have hi : i < 2 := hi
      rcases (by omega : i = 0 ∨ i = 1) with rfl | rfl
      · exact ⟨rfl, fun h => absurd (.inl rfl) h⟩
      · exact ⟨rfl, fun h => absurd (.inr (.inl rfl)) h⟩
    · have hi : i < 1 := hi
      obtain rfl : i = 0 := by omega
      exact ⟨rfl, fun h => absurd (.inl rfl) h⟩
    · have hi : i < 1 := hi
      obtain rfl : i = 0 := by omega
      exact ⟨rfl, fun h => absurd (.inr (.inl rfl)) h⟩
    · exact absurd hi (Nat.not_lt_zero _)
    · have hi : i < 4 := hi
      rcases (by omega : i = 0 ∨ i = 1 ∨ i = 2 ∨ i = 3) with rfl | rfl | rfl | rfl
      · exact ⟨rfl, fun h => absurd (.inr (.inr (.inr (.inl rfl)))) h⟩
      · exact ⟨rfl, fun h => absurd (.inr (.inr (.inr (.inr (.inl rfl))))) h⟩
      · exact ⟨rfl, fun h => absurd (.inr (.inr (.inr (.inr (.inr (.inl rfl)))))) h⟩
      · exact ⟨rfl, fun h => absurd (.inr (.inr (.inr (.inr (.inr (.inr rfl)))))) h⟩
theorem told_c (x : S26) (hi : In x) (sg : Int) (d : Nat) (hd : ¬ (sg = 104 ∨ sg = 110 ∨ sg = 115 ∨ sg = 116 ∨ sg = 102 ∨ sg = 107 ∨ sg = 122) → d < x.f6.length) (A : Option Addr) (c : Nat) (w : World) (hc : x.f6.length ≤ c) (hC : Kd.C k43 w A x.f6.length x.f6) :
    Calls Try.prog 21 #[.agg (ecL (ecOf x A c)), .int .u8 sg, .int .i64 (d : Int)] w fun e w' => e = .returned (.string (toldP x sg d)) ∧ Below w.heap.size w w' := by
  obtain ⟨k, hk⟩ := told_ev x hi sg d hd
  exact mewsref47_told.calls k _ _ _ _ _ _ _ _ A c x.f6 sg d _ w hC hc (hk k (Nat.le_refl _))
theorem join_size (k : Nat) (h8 : k ≤ 8) (x : S26) (hi : In x) (hs : Sm x) : (joinB (nm k :: argsP k x)).size ≤ 1000000000 := by
  unfold joinB
  rw [ofL_size]
  have h := joinL_len 4000 (bs (nm k :: argsP k x)) (bs_len _ 4000 (all_mem4 k x h8 hi hs))
  have h2 := args_len k x hs
  have h3 : (bs (nm k :: argsP k x)).length = (argsP k x).length + 1 := by simp [bs]
  rw [h3] at h
  have : ((argsP k x).length + 1) * (4 * 4000 + 3) ≤ 15001 * (4 * 4000 + 3) := Nat.mul_le_mul_right _ (by omega)
  omega
end Go.Proofs.Ytehnogggokfcaaa.Ev
