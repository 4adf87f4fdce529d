/- The document's Cut and Same on lists of numbers. -/
import Derived.Test.YtglkfoldhobflaaRef09b
import Derived.Test.YtglkfoldhobflaaY
namespace Go.Proofs.Ytglkfoldhobflaa.Dq
open Go.RowKit Go.Proofs.YtglkfoldhobflaaW.PrintWords Go.Proofs.YtglkfoldhobflaaW.PrintMore Go.Proofs.YtglkfoldhobflaaW.PrintLast Go.Proofs.Ytglkfoldhobflaa.X Go.Proofs.Ytglkfoldhobflaa.Y
set_option linter.unusedVariables false
set_option linter.unusedSimpArgs false
/-- What Cut has taken when it has come to a place. -/
def outAt (l : List Int) (a b k : Nat) : List Int := cutL l a (max a (min k b))
theorem outAt_in (l : List Int) (a b k : Nat) (ha : a ≤ k) (hb : k < b) (hl : k < l.length) : outAt l a b (k + 1) = outAt l a b k ++ [l.getD k 0] := by
  unfold outAt
  rw [show max a (min (k + 1) b) = k + 1 by omega, show max a (min k b) = k by omega]
  exact cutL_next l a k 0 ha hl
theorem outAt_out (l : List Int) (a b k : Nat) (hab : a ≤ b) (h : ¬ (a ≤ k ∧ k < b)) : outAt l a b (k + 1) = outAt l a b k := by
  unfold outAt
  rw [show max a (min (k + 1) b) = max a (min k b) by omega]
/-- Whether a place is taken. -/
def lowB (n : Nat) (i : Int) (k : Nat) : Bool := if i < 0 then decide ((k : Int) - n ≥ i) else decide (i ≤ (k : Int))
def highB (n : Nat) (j : Int) (k : Nat) : Bool := if j < 0 then decide ((k : Int) - n ≤ j) else decide ((k : Int) ≤ j)
theorem taken (n : Nat) (i j : Int) (k : Nat) (hk : k < n) : (lowB n i k && highB n j k) = true ↔ (spanN n i j).1 ≤ k ∧ k < (spanN n i j).2 := by
  have hF : lowB n i k = true ↔ spanF n i ≤ k := by
    unfold lowB spanF
    split
    · simp only [decide_eq_true_eq]
      split <;> omega
    · simp only [decide_eq_true_eq]
  have hT : highB n j k = true ↔ (k : Int) ≤ spanT n j := by
    unfold highB spanT
    split
    · simp only [decide_eq_true_eq]
      split <;> omega
    · simp only [decide_eq_true_eq]
      split <;> omega
  have hn := spanF_nonneg n i
  rw [Bool.and_eq_true, hF, hT]
  unfold spanN
  split
  · simp
    omega
  · show _ ↔ (spanF n i).toNat ≤ k ∧ k < (spanT n j + 1).toNat
    omega
theorem cut_next (l : List Int) (i j : Int) (hl : l.length ≤ 1000000) (k : Nat) (hk : k < l.length) (out r : List Int) (ho : out.length ≤ l.length) (b : Bool)
    (h : Ev (fun q => mewsref09_Cut.l0 q l i j (if (b && highB l.length j k) = true then out ++ [l.getD k 0] else out) ((k + 1 : Nat) : Int)) r) :
    Ev (fun q => mewsref09_Cut.j1 q l i j out (k : Int) b) r := by
  have e1 : wrap64 ((k : Int) + 1) = ((k + 1 : Nat) : Int) := by unfold wrap64; omega
  have e2 : wrap64 ((k : Int) - (l.length : Int)) = (k : Int) - l.length := by unfold wrap64; omega
  have e3 : rd l (k : Int) = l.getD k 0 := rfl
  refine ev_round ?_
  show Ev (fun q => if j < 0 then (if b = true then (if (wrap64 ((k : Int) - (l.length : Int))) ≤ j then (if 0 ≤ (k : Int) then (if (k : Int) < (l.length : Int) then (if out.length < 17592186044416 then (mewsref09_Cut.l0 q l i j (out ++ [rd l (k : Int)]) (wrap64 ((k : Int) + 1))) else (none)) else (none)) else (none)) else (mewsref09_Cut.l0 q l i j out (wrap64 ((k : Int) + 1)))) else (mewsref09_Cut.l0 q l i j out (wrap64 ((k : Int) + 1)))) else (if b = true then (if (k : Int) ≤ j then (if 0 ≤ (k : Int) then (if (k : Int) < (l.length : Int) then (if out.length < 17592186044416 then (mewsref09_Cut.l0 q l i j (out ++ [rd l (k : Int)]) (wrap64 ((k : Int) + 1))) else (none)) else (none)) else (none)) else (mewsref09_Cut.l0 q l i j out (wrap64 ((k : Int) + 1)))) else (mewsref09_Cut.l0 q l i j out (wrap64 ((k : Int) + 1))))) r
  rw [e1, e2, e3]
  by_cases hj : j < 0
  · have hh : highB l.length j k = decide ((k : Int) - l.length ≤ j) := by unfold highB; rw [if_pos hj]
    rw [hh] at h
    refine ev_pos hj ?_
    cases b with
    | false => exact ev_neg (by decide) (by simpa using h)
    | true =>
      refine ev_pos rfl ?_
      by_cases c : (k : Int) - l.length ≤ j
      · refine ev_pos c (ev_pos (by omega) (ev_pos (by omega) (ev_pos (by omega) ?_)))
        simpa [c] using h
      · refine ev_neg c ?_
        simpa [c] using h
  · have hh : highB l.length j k = decide ((k : Int) ≤ j) := by unfold highB; rw [if_neg hj]
    rw [hh] at h
    refine ev_neg hj ?_
    cases b with
    | false => exact ev_neg (by decide) (by simpa using h)
    | true =>
      refine ev_pos rfl ?_
      by_cases c : (k : Int) ≤ j
      · refine ev_pos c (ev_pos (by omega) (ev_pos (by omega) (ev_pos (by omega) ?_)))
        simpa [c] using h
      · refine ev_neg c ?_
        simpa [c] using h
theorem outAt_len (l : List Int) (a b k : Nat) : (outAt l a b k).length ≤ l.length := by simp [outAt, cutL]; omega
theorem rcut_ev (l : List Int) (i j : Int) (hl : l.length ≤ 1000000) : Ev (fun q => mewsref09_Cut.f q l i j) (cutL l (spanN l.length i j).1 (spanN l.length i j).2) := by
  obtain ⟨a, ha⟩ : ∃ a, a = (spanN l.length i j).1 := ⟨_, rfl⟩
  obtain ⟨b, hb⟩ : ∃ b, b = (spanN l.length i j).2 := ⟨_, rfl⟩
  have hab := spanN_le l.length i j
  rw [← ha, ← hb] at hab ⊢
  have hend : outAt l a b l.length = cutL l a b := by
    unfold outAt
    rw [show max a (min l.length b) = b by omega]
  have hstart : outAt l a b 0 = [] := by
    unfold outAt
    rw [show max a (min 0 b) = a by omega]
    exact cutL_same l a
  rw [← hend]
  have key := ev_up (g := fun q k => mewsref09_Cut.l0 q l i j (outAt l a b k) (k : Int)) (r := outAt l a b l.length) l.length ?_ ?_ 0 (Nat.zero_le _)
  · rw [hstart] at key
    exact key
  · refine ev_round ?_
    show Ev (fun q => if (l.length : Int) < (l.length : Int) then _ else some (outAt l a b l.length)) _
    exact ev_neg (by omega) (ev_some rfl)
  · intro k hk ih
    have e2 : wrap64 ((k : Int) - (l.length : Int)) = (k : Int) - l.length := by unfold wrap64; omega
    have ht := taken l.length i j k hk
    rw [← ha, ← hb] at ht
    have hnx : (if (lowB l.length i k && highB l.length j k) = true then outAt l a b k ++ [l.getD k 0] else outAt l a b k) = outAt l a b (k + 1) := by
      by_cases c : a ≤ k ∧ k < b
      · rw [if_pos (ht.2 c), outAt_in l a b k c.1 c.2 hk]
      · rw [if_neg (fun h => c (ht.1 h)), outAt_out l a b k hab.1 c]
    have hJ := cut_next l i j hl k hk (outAt l a b k) (outAt l a b l.length) (outAt_len l a b k) (lowB l.length i k) (by rw [hnx]; exact ih)
    refine ev_round ?_
    show Ev (fun q => if (k : Int) < (l.length : Int) then (if i < 0 then (mewsref09_Cut.j1 q l i j (outAt l a b k) (k : Int) (decide ((wrap64 ((k : Int) - (l.length : Int))) ≥ i))) else (mewsref09_Cut.j1 q l i j (outAt l a b k) (k : Int) (decide (i ≤ (k : Int))))) else (some (outAt l a b k))) _
    refine ev_pos (by omega) ?_
    rw [e2]
    by_cases c : i < 0
    · refine ev_pos c ?_
      have e : lowB l.length i k = decide ((k : Int) - l.length ≥ i) := by unfold lowB; rw [if_pos c]
      rw [e] at hJ
      exact hJ
    · refine ev_neg c ?_
      have e : lowB l.length i k = decide (i ≤ (k : Int)) := by unfold lowB; rw [if_neg c]
      rw [e] at hJ
      exact hJ
theorem rcut_calls (v : Value) (l : List Int) (i j : Int) (w : World) (h : Rd w v l) (hl : l.length ≤ 1000000) :
    Calls Try.prog 22 #[v, .int .i64 i, .int .i64 j] w fun e w' => ∃ v', e = .returned v' ∧ Rd w' v' (cutL l (spanN l.length i j).1 (spanN l.length i j).2) ∧ Below w.heap.size w w' ∧ Fresh w v v' := by
  obtain ⟨A, c, rfl, hc, hr⟩ := h
  obtain ⟨K, hK⟩ := rcut_ev l i j hl
  refine (mewsref09_Cut.calls K A c l i j _ w (C_of_readsOf hr) hc (hK K (Nat.le_refl _))).mono fun e w' he => ?_
  obtain ⟨v0, rfl, hR, hB⟩ := he
  exact ⟨v0, rfl, rd_of_R hR, hB, .inl (Kd.R_base hR)⟩
theorem rsame_ev (l : List Int) (hl : l.length ≤ 1000000) : Ev (fun q => mewsref09_Same.f q l l) true := by
  have key := ev_up (g := fun q k => mewsref09_Same.l0 q l l (k : Int)) (r := true) l.length ?_ ?_ 0 (Nat.zero_le _)
  · show Ev (fun q => if (l.length : Int) = (l.length : Int) then (mewsref09_Same.l0 q l l 0) else (some false)) true
    exact ev_pos rfl key
  · refine ev_round ?_
    show Ev (fun q => if (l.length : Int) < (l.length : Int) then _ else some true) _
    exact ev_neg (by omega) (ev_some rfl)
  · intro k hk ih
    have e1 : wrap64 ((k : Int) + 1) = ((k + 1 : Nat) : Int) := by unfold wrap64; omega
    refine ev_round ?_
    show Ev (fun q => if (k : Int) < (l.length : Int) then (if 0 ≤ (k : Int) then (if (k : Int) < (l.length : Int) then (if (rd l (k : Int)) = (rd l (k : Int)) then (mewsref09_Same.l0 q l l (wrap64 ((k : Int) + 1))) else (some false)) else (none)) else (none)) else (some true)) true
    rw [e1]
    exact ev_pos (by omega) (ev_pos (by omega) (ev_pos (by omega) (ev_pos rfl ih)))
theorem rsame_calls (v v' : Value) (l : List Int) (w : World) (h : Rd w v l) (h' : Rd w v' l) (hl : l.length ≤ 1000000) :
    Calls Try.prog 23 #[v, v'] w fun e w' => e = .returned (.bool true) ∧ Drawn0 w w' := by
  obtain ⟨A, c, rfl, hc, hr⟩ := h
  obtain ⟨A', c', rfl, hc', hr'⟩ := h'
  obtain ⟨K, hK⟩ := rsame_ev l hl
  exact mewsref09_Same.calls K A c l A' c' l true w (C_of_readsOf hr) hc (C_of_readsOf hr') hc' (hK K (Nat.le_refl _))
end Go.Proofs.Ytglkfoldhobflaa.Dq
