/- For all numbers burst, rate and steps of 16 bits: in any time from one call that is let to another one at most burst, and rate for each millisecond between, are let, and what is left is from 0 to burst (BucketWindows returns true); no condition beyond what the statement itself reads. -/
import Derived.Test.YtbkjddcjllmogaaBucket
namespace Go.Proofs.Ytbkjddcjllmogaa.Pure
open Go.RowKit Go.Proofs.YtbkjddcjllmogaaW.PrintWords Go.Proofs.YtbkjddcjllmogaaW.PrintMore Go.Proofs.Ytbkjddcjllmogaa.Y Go.Proofs.Ytbkjddcjllmogaa.X Go.Proofs.Ytbkjddcjllmogaa.Bu
set_option linter.unusedVariables false

/-- In any window as many as may. -/
def Win (m e : Int) (ts : List Int) : Prop := ∀ (i k : Nat) (a b : Int), i ≤ k → ts[i]? = some a → ts[k]? = some b → (k : Int) - i + 1 ≤ m + e * (b - a)
/-- What may still come. -/
def Room (m e L now : Int) (ts : List Int) : Prop := ∀ (i : Nat) (a : Int), ts[i]? = some a → a ≤ now ∧ 0 ≤ a ∧ (ts.length : Int) - i + L ≤ m + e * (now - a)
theorem most_small (m : Int) (h : 1 ≤ m ∧ m ≤ 40) : mostP m = m := by unfold mostP clampP; rw [if_neg (by omega), if_neg (by omega)]
theorem each_small (e : Int) (h : 0 ≤ e ∧ e ≤ 4) : eachP e = e := by unfold eachP clampP; rw [if_neg (by omega), if_neg (by omega)]
/-- The fill from one call to the next one. -/
theorem fill_step (m e L now d : Int) (hm : 1 ≤ m ∧ m ≤ 40) (he : 0 ≤ e ∧ e ≤ 4) (hL : 0 ≤ L ∧ L ≤ m) (hd : 0 ≤ d) :
    ∃ F, fillP L now m e (now + d) = (F, now + d) ∧ 0 ≤ F ∧ F ≤ m ∧ F ≤ L + e * d := by
  unfold fillP
  rw [most_small m hm, each_small e he]
  have hc : clampP L 0 m = L := by unfold clampP; rw [if_neg (by omega), if_neg (by omega)]
  rw [hc]
  have h0 := Int.mul_nonneg he.1 hd
  refine ⟨leftP L m e now (now + d), ?_, ?_, ?_, ?_⟩
  · congr 1
    split <;> omega
  · exact (leftP_b L m e now (now + d) hL.1 hL.2 he.1).1
  · exact (leftP_b L m e now (now + d) hL.1 hL.2 he.1).2
  · unfold leftP mn
    rw [show now + d - now = d by omega]
    repeat' split
    all_goals omega
theorem room_step (m e L now d F : Int) (ts : List Int) (h : Room m e L now ts) (hd : 0 ≤ d) (hF : F ≤ L + e * d) : Room m e F (now + d) ts := by
  intro i a hi
  obtain ⟨h1, h2, h3⟩ := h i a hi
  refine ⟨by omega, h2, ?_⟩
  have : e * (now + d - a) = e * (now - a) + e * d := by rw [← Int.mul_add]; congr 1; omega
  omega
theorem room_take (m e F now : Int) (ts : List Int) (h : Room m e F now ts) (h0 : 0 ≤ now) (hF : F ≤ m) (hp : 1 ≤ F) : Room m e (F - 1) now (ts ++ [now]) := by
  intro i a hi
  rw [List.length_append, List.length_singleton]
  rcases Nat.lt_trichotomy i ts.length with hlt | heq | hgt
  · rw [List.getElem?_append_left hlt] at hi
    obtain ⟨h1, h2, h3⟩ := h i a hi
    exact ⟨h1, h2, by omega⟩
  · rw [List.getElem?_append_right (by omega), heq, Nat.sub_self] at hi
    obtain rfl : now = a := by simpa using hi
    rw [Int.sub_self, Int.mul_zero]
    exact ⟨by omega, h0, by omega⟩
  · rw [List.getElem?_eq_none (by simp; omega)] at hi
    cases hi
theorem win_take (m e F now : Int) (ts : List Int) (hw : Win m e ts) (h : Room m e F now ts) (hF : F ≤ m) (hp : 1 ≤ F) : Win m e (ts ++ [now]) := by
  intro i k a b hik hi hk
  rcases Nat.lt_trichotomy k ts.length with hlt | heq | hgt
  · rw [List.getElem?_append_left (by omega)] at hi hk
    exact hw i k a b hik hi hk
  · rw [List.getElem?_append_right (by omega), heq, Nat.sub_self] at hk
    obtain rfl : now = b := by simpa using hk
    rcases Nat.lt_or_ge i ts.length with hl | hl
    · rw [List.getElem?_append_left hl] at hi
      obtain ⟨h1, h2, h3⟩ := h i a hi
      omega
    · have : i = ts.length := by omega
      rw [List.getElem?_append_right (by omega), this, Nat.sub_self] at hi
      obtain rfl : now = a := by simpa using hi
      rw [Int.sub_self, Int.mul_zero]
      omega
  · rw [List.getElem?_eq_none (by simp; omega)] at hk
    cases hk
/-- The look at all windows. -/
theorem look_ev (m e : Int) (hm : 1 ≤ m ∧ m ≤ 40) (he : 0 ≤ e ∧ e ≤ 4) (ts : List Int) (hl : ts.length ≤ 120) (hw : Win m e ts) (hb : ∀ x ∈ ts, 0 ≤ x ∧ x ≤ 100000000) :
    Ev (fun k => mewslaw41_BucketWindows.l1 k m e ts (ts.length : Int) ((0 : Nat) : Int)) true := by
  refine ev_up (g := fun k i => mewslaw41_BucketWindows.l1 k m e ts (ts.length : Int) (i : Int)) ts.length ?_ (fun i hi hnext => ?_) 0 (by omega)
  · refine ev_round ?_
    simp only [mewslaw41_BucketWindows.l1]
    exact ev_neg (by omega) (ev_bind alive_ev (ev_some rfl))
  · refine ev_round ?_
    simp only [mewslaw41_BucketWindows.l1]
    refine ev_pos (by omega) ?_
    refine ev_from (g := fun k q => mewslaw41_BucketWindows.l2 k m e ts (i : Int) (q : Int) (ts.length : Int) (i : Int)) i ts.length ?_ (fun q hqi hq h2 => ?_) i (Nat.le_refl i) (by omega)
    · refine ev_round ?_
      simp only [mewslaw41_BucketWindows.l2]
      refine ev_neg (by omega) ?_
      rw [w64 (by omega) (by omega)]
      exact hnext
    · refine ev_round ?_
      simp only [mewslaw41_BucketWindows.l2]
      refine ev_pos (by omega) (ev_pos (by omega) (ev_pos (by omega) (ev_pos (by omega) ?_)))
      rw [rd_nat ts q hq, rd_nat ts i hi]
      have hwin := hw i q ts[i] ts[q] hqi (List.getElem?_eq_getElem hi) (List.getElem?_eq_getElem hq)
      have b1 := hb _ (List.getElem_mem hi)
      have b2 := hb _ (List.getElem_mem hq)
      have b3 : e * (ts[q] - ts[i]) ≤ 4 * 100000000 := by
        rcases Int.le_total 0 (ts[q] - ts[i]) with h | h
        · exact Int.le_trans (Int.mul_le_mul_of_nonneg_right he.2 h) (by omega)
        · have := Int.mul_nonneg he.1 (show 0 ≤ -(ts[q] - ts[i]) by omega)
          rw [Int.mul_neg] at this
          omega
      have b4 : -(4 * 100000000) ≤ e * (ts[q] - ts[i]) := by
        rcases Int.le_total 0 (ts[q] - ts[i]) with h | h
        · have := Int.mul_nonneg he.1 h
          omega
        · have := Int.mul_le_mul_of_nonneg_right he.2 (show 0 ≤ -(ts[q] - ts[i]) by omega)
          rw [Int.mul_neg, Int.mul_neg] at this
          omega
      refine ev_neg ?_ ?_
      · rw [w64 (i := (q : Int) - (i : Int)) (by omega) (by omega), w64 (by omega) (by omega), w64 (i := ts[q] - ts[i]) (by omega) (by omega), w64 (i := e * (ts[q] - ts[i])) (by omega) (by omega), w64 (by omega) (by omega)]
        omega
      · rw [w64 (by omega) (by omega)]
        exact h2
theorem calls_ev (m e : Int) (hm : 1 ≤ m ∧ m ≤ 40) (he : 0 ≤ e ∧ e ≤ 4) (ds : List Int) (hl : ds.length ≤ 120) (hd : ∀ x ∈ ds, 0 ≤ x ∧ x ≤ 65535) :
    ∀ (n i : Nat) (L now : Int) (ts : List Int), i + n = ds.length → 0 ≤ L → L ≤ m → 0 ≤ now → now ≤ 65535 * i → ts.length ≤ i → (∀ x ∈ ts, 0 ≤ x ∧ x ≤ 100000000) → Win m e ts → Room m e L now ts →
    Ev (fun k => mewslaw41_BucketWindows.l0 k m e now ts ds (ds.length : Int) (i : Int) L now) true := by
  intro n
  induction n with
  | zero =>
    intro i L now ts hi h0 h1 hn hn2 hts hx hw hr
    refine ev_round ?_
    simp only [mewslaw41_BucketWindows.l0]
    exact ev_neg (by omega) (look_ev m e hm he ts (by omega) hw hx)
  | succ n ih =>
    intro i L now ts hi h0 h1 hn hn2 hts hx hw hr
    have hlt : i < ds.length := by omega
    have hdi := hd _ (List.getElem_mem hlt)
    refine ev_round ?_
    simp only [mewslaw41_BucketWindows.l0]
    refine ev_pos (by omega) (ev_pos (by omega) (ev_pos (by omega) ?_))
    rw [rd_nat ds i hlt, w64 (i := ds[i]) (by omega) (by omega), w64 (by omega) (by omega)]
    obtain ⟨F, hF, f0, f1, f2⟩ := fill_step m e L now ds[i] hm he ⟨h0, h1⟩ hdi.1
    have hr2 := room_step m e L now ds[i] F ts hr hdi.1 f2
    have ht := take_ev L now m e (now + ds[i]) (by omega) (by omega)
    unfold takeP at ht
    rw [hF] at ht
    by_cases hp : F < 1
    · rw [if_pos hp] at ht
      refine ev_bind ht (ev_neg (by simp only; omega) ?_)
      refine ev_round ?_
      simp only [mewslaw41_BucketWindows.j1]
      refine ev_neg (by rw [decide_eq_true_eq]; omega) ?_
      have h2 := ih (i + 1) F (now + ds[i]) ts (by omega) f0 f1 (by omega) (by omega) (by omega) hx hw hr2
      rw [w64 (by omega) (by omega)]
      first | exact h2 | exact ev_neg (by decide) h2
    · rw [if_neg hp] at ht
      refine ev_bind ht (ev_neg (by simp only; omega) ?_)
      refine ev_round ?_
      simp only [mewslaw41_BucketWindows.j1]
      refine ev_neg (by rw [decide_eq_true_eq]; omega) ?_
      have h2 := ih (i + 1) (F - 1) (now + ds[i]) (ts ++ [now + ds[i]]) (by omega) (by omega) (by omega) (by omega) (by omega) (by simp; omega)
        (fun x hm => by
          rcases List.mem_append.1 hm with hm | hm
          · exact hx x hm
          · rw [List.mem_singleton.1 hm]; omega)
        (win_take m e F _ ts hw hr2 f1 (by omega)) (room_take m e F _ ts hr2 (by omega) f1 (by omega))
      rw [w64 (by omega) (by omega)]
      first | exact ev_pos (by omega) h2 | exact ev_pos (by first | rfl | trivial) (ev_pos (by omega) h2)
theorem BucketWindows : mewslaw41_BucketWindows.PureX := by
  intro a b ds ha hb ⟨_, hds⟩
  have ha := wf_u16 ha
  have hb := wf_u16 hb
  refine Ev.rounds (r := true) ?_
  unfold mewslaw41_BucketWindows.f
  refine ev_ite (fun _ => ev_bind alive_ev (ev_some rfl)) (fun hl => ?_)
  rw [Int.tmod_eq_emod_of_nonneg ha.1, Int.tmod_eq_emod_of_nonneg hb.1, w64 (i := a % 40) (by omega) (by omega), w64 (i := a % 40 + 1) (by omega) (by omega), w64 (i := b % 5) (by omega) (by omega)]
  have hnew : bucket_New.f (a % 40 + 1) 0 = some (a % 40 + 1, 0) := by
    unfold bucket_New.f
    rw [limits_is, most_small _ (by omega)]
    rfl
  refine ev_bind0 hnew ?_
  exact calls_ev (a % 40 + 1) (b % 5) (by omega) (by omega) ds (by omega) (fun x hx => wf_u16 (hds x hx)) ds.length 0 (a % 40 + 1) 0 [] (by omega) (by omega) (by omega) (by omega) (by omega) (by simp) (by simp) (by intro i k a b _ h; simp at h) (by intro i a h; simp at h)
end Go.Proofs.Ytbkjddcjllmogaa.Pure
