/- What the bucket's functions, and the reference's, come to; plain facts on numbers behind the printed functions. -/
import Derived.Test.YtbkjddcjllmogaaY
import Derived.Test.YtbkjddcjllmogaaXDBucketFills
import Derived.Test.YtbkjddcjllmogaaXDBucketWindows
namespace Go.Proofs.Ytbkjddcjllmogaa.Bu
open Go.RowKit Go.Proofs.YtbkjddcjllmogaaW.PrintWords Go.Proofs.YtbkjddcjllmogaaW.PrintMore Go.Proofs.Ytbkjddcjllmogaa.Y Go.Proofs.Ytbkjddcjllmogaa.X
set_option linter.unusedVariables false

def clampP (n lo hi : Int) : Int := if n < lo then lo else if n > hi then hi else n
theorem mnmx (n lo hi : Int) (h : lo ≤ hi) : mn (mx n lo) hi = clampP n lo hi := by
  unfold mn mx clampP
  repeat' split
  all_goals omega
theorem clamp_b (n lo hi : Int) (h : lo ≤ hi) : lo ≤ clampP n lo hi ∧ clampP n lo hi ≤ hi := by
  unfold clampP
  repeat' split
  all_goals omega
def mostP (burst : Int) : Int := clampP burst 1 1073741824
def eachP (rate : Int) : Int := clampP rate 0 1048576
/-- What is there, at a time. -/
def leftP (L most each last now : Int) : Int := if now ≤ last then L else if each > 0 then mn (L + each * (now - last)) most else L
def fillP (left last burst rate now : Int) : Int × Int :=
  (leftP (clampP left 0 (mostP burst)) (mostP burst) (eachP rate) last now, if now ≤ last then last else now)
theorem most_b (b : Int) : 1 ≤ mostP b ∧ mostP b ≤ 1073741824 := clamp_b b 1 1073741824 (by omega)
theorem each_b (b : Int) : 0 ≤ eachP b ∧ eachP b ≤ 1048576 := clamp_b b 0 1048576 (by omega)
theorem limits_is (b r : Int) : bucket_limits.f b r = some (mostP b, eachP r) := by
  unfold bucket_limits.f bucket_between_int.f
  rw [mnmx _ _ _ (by omega), mnmx _ _ _ (by omega)]
  rfl
theorem between_is (n hi : Int) (h : 0 ≤ hi) : bucket_between_int64.f n 0 hi = some (clampP n 0 hi) := by
  unfold bucket_between_int64.f
  rw [mnmx _ _ _ h]
theorem leftP_b (L most each last now : Int) (h0 : 0 ≤ L) (h1 : L ≤ most) (he : 0 ≤ each) : 0 ≤ leftP L most each last now ∧ leftP L most each last now ≤ most := by
  unfold leftP mn
  split
  · omega
  · split
    · rename_i hl hp
      have := Int.mul_nonneg he (show 0 ≤ now - last by omega)
      split <;> omega
    · omega
theorem ms_is (now last : Int) (hn : -9223372036854775808 ≤ now ∧ now ≤ 9223372036854775807) (hl : -9223372036854775808 ≤ last ∧ last ≤ 9223372036854775807) (h : ¬ now ≤ last) :
    IntKind.u64.wrap ((IntKind.u64.wrap (now)) - (IntKind.u64.wrap (last))) = now - last := by
  simp only [IntKind.wrap, IntKind.bits, IntKind.signed]
  simp
  omega
theorem u64_id (n : Int) (h0 : 0 ≤ n) (h : n ≤ 9223372036854775807) : IntKind.u64.wrap n = n := by
  simp only [IntKind.wrap, IntKind.bits, IntKind.signed]
  simp
  omega
theorem fill_ev (left last burst rate now : Int) (hl : -9223372036854775808 ≤ last ∧ last ≤ 9223372036854775807) (hn : -9223372036854775808 ≤ now ∧ now ≤ 9223372036854775807) :
    Ev (fun k => bucket_Fill.f k left last burst rate now) (fillP left last burst rate now) := by
  unfold bucket_Fill.f fillP
  obtain ⟨m1, m2⟩ := most_b burst
  obtain ⟨e1, e2⟩ := each_b rate
  obtain ⟨c1, c2⟩ := clamp_b left 0 (mostP burst) (by omega)
  refine ev_bind0 (limits_is burst rate) (ev_bind0 (between_is left _ (by omega)) ?_)
  unfold leftP
  by_cases h : now ≤ last
  · rw [if_pos h, if_pos h]
    exact ev_pos h (ev_some rfl)
  · rw [if_neg h, if_neg h]
    refine ev_neg h ?_
    rw [ms_is now last hn hl h, u64_id (mostP burst) (by omega) (by omega)]
    by_cases hp : eachP rate > 0
    · rw [if_pos hp]
      refine ev_pos hp ?_
      refine ev_round ?_
      simp only [bucket_Fill.j0]
      by_cases hm : now - last ≥ mostP burst
      · refine ev_pos (decide_eq_true hm) (ev_some ?_)
        congr 1
        have h1 : now - last ≤ eachP rate * (now - last) := by
          have := Int.mul_le_mul_of_nonneg_right (show 1 ≤ eachP rate by omega) (show 0 ≤ now - last by omega)
          omega
        unfold mn
        split <;> omega
      · refine ev_neg (by rw [decide_eq_true_eq]; exact hm) (ev_pos hp (ev_some ?_))
        have h1 : 0 ≤ eachP rate * (now - last) := Int.mul_nonneg e1 (by omega)
        have h2 : eachP rate * (now - last) ≤ 1048576 * (now - last) := Int.mul_le_mul_of_nonneg_right e2 (by omega)
        have h3 : wrap64 (now - last) = now - last := w64 (by omega) (by omega)
        rw [h3, w64 (i := eachP rate * (now - last)) (by omega) (by omega), w64 (by omega) (by omega)]
    · rw [if_neg hp]
      refine ev_neg hp ?_
      refine ev_round ?_
      simp only [bucket_Fill.j0]
      exact ev_neg (by decide) (ev_neg hp (ev_some rfl))
theorem in_is (a b c : Int) : mewsref41_in.f a b c = some (clampP a b c) := by
  unfold mewsref41_in.f clampP
  split
  · rfl
  · split <;> rfl
theorem ref_loop (now most each : Int) (hm : 1 ≤ most ∧ most ≤ 1073741824) (he : 0 ≤ each ∧ each ≤ 1048576) (hn : now ≤ 9223372036854775807) (z : Int) : ∀ (n : Nat) (L at_ : Int), (most - L).toNat ≤ n → 0 ≤ L → L ≤ most → -9223372036854775808 ≤ at_ → at_ ≤ now →
    Ev (fun k => mewsref41_Fill.l0 k now most each at_ L z) (if each > 0 then mn (L + each * (now - at_)) most else L, now) := by
  intro n
  induction n with
  | zero =>
    intro L at_ hd h0 h1 ha hb
    refine ev_round ?_
    simp only [mewsref41_Fill.l0]
    have hL : L = most := by omega
    have hr : (if each > 0 then mn (L + each * (now - at_)) most else L) = L := by
      split
      · have := Int.mul_nonneg he.1 (show 0 ≤ now - at_ by omega)
        unfold mn
        split <;> omega
      · rfl
    rw [hr]
    exact ev_ite (fun _ => ev_neg (by omega) (ev_some rfl)) (fun _ => ev_some rfl)
  | succ n ih =>
    intro L at_ hd h0 h1 ha hb
    refine ev_round ?_
    simp only [mewsref41_Fill.l0]
    refine ev_ite (fun hlt => ev_ite (fun hL => ev_ite (fun hp => ?_) (fun hp => ev_some ?_)) (fun hL => ev_some ?_)) (fun hlt => ev_some ?_)
    · rw [if_pos hp, w64 (by omega) (by omega), w64 (by omega) (by omega)]
      refine ev_bind0 (in_is _ _ _) ?_
      have hc := clamp_b (L + each) 0 most (by omega)
      have hc2 : L + each ≤ most → clampP (L + each) 0 most = L + each := by unfold clampP; intro h; rw [if_neg (by omega), if_neg (by omega)]
      have hc3 : most < L + each → clampP (L + each) 0 most = most := by unfold clampP; intro h; rw [if_neg (by omega), if_pos (by omega)]
      have h2 := ih (clampP (L + each) 0 most) (at_ + 1) (by omega) hc.1 hc.2 (by omega) (by omega)
      rw [if_pos hp] at h2
      have e : mn (clampP (L + each) 0 most + each * (now - (at_ + 1))) most = mn (L + each * (now - at_)) most := by
        have e1 : each * (now - at_) = each * (now - (at_ + 1)) + each := by
          rw [show now - at_ = (now - (at_ + 1)) + 1 by omega, Int.mul_add, Int.mul_one]
        have := Int.mul_nonneg he.1 (show 0 ≤ now - (at_ + 1) by omega)
        unfold mn
        rw [e1]
        rcases Int.lt_or_le most (L + each) with h3 | h3
        · rw [hc3 h3]; repeat' split
          all_goals omega
        · rw [hc2 h3]; repeat' split
          all_goals omega
      rw [e] at h2
      exact h2
    · rw [if_neg hp]
    · congr 1
      split
      · have := Int.mul_nonneg he.1 (show 0 ≤ now - at_ by omega)
        unfold mn
        split <;> omega
      · rfl
    · congr 1
      split
      · rw [show now - at_ = 0 by omega, Int.mul_zero]
        unfold mn
        split <;> omega
      · rfl
theorem ref_fill_ev (left last burst rate now : Int) (hl : -9223372036854775808 ≤ last ∧ last ≤ 9223372036854775807) (hn : -9223372036854775808 ≤ now ∧ now ≤ 9223372036854775807) :
    Ev (fun k => mewsref41_Fill.f k left last burst rate now) (fillP left last burst rate now) := by
  unfold mewsref41_Fill.f fillP
  obtain ⟨m1, m2⟩ := most_b burst
  obtain ⟨c1, c2⟩ := clamp_b left 0 (mostP burst) (by omega)
  refine ev_bind0 (in_is _ _ _) (ev_bind0 (in_is _ _ _) (ev_bind0 (in_is _ _ _) ?_))
  unfold leftP
  by_cases h : now ≤ last
  · rw [if_pos h, if_pos h]
    exact ev_pos h (ev_some rfl)
  · rw [if_neg h, if_neg h]
    refine ev_neg h ?_
    exact ref_loop now (mostP burst) (eachP rate) ⟨m1, m2⟩ (each_b rate) (by omega) last _ _ last (Nat.le_refl _) c1 c2 (by omega) (by omega)
def takeP (left last burst rate now : Int) : Int × Int × Bool :=
  if (fillP left last burst rate now).1 < 1 then ((fillP left last burst rate now).1, (fillP left last burst rate now).2, false) else ((fillP left last burst rate now).1 - 1, (fillP left last burst rate now).2, true)
theorem fillP_b (left last burst rate now : Int) : 0 ≤ (fillP left last burst rate now).1 ∧ (fillP left last burst rate now).1 ≤ mostP burst := by
  obtain ⟨m1, m2⟩ := most_b burst
  obtain ⟨c1, c2⟩ := clamp_b left 0 (mostP burst) (by omega)
  exact leftP_b _ _ _ _ _ c1 c2 (each_b rate).1
theorem take_ev (left last burst rate now : Int) (hl : -9223372036854775808 ≤ last ∧ last ≤ 9223372036854775807) (hn : -9223372036854775808 ≤ now ∧ now ≤ 9223372036854775807) :
    Ev (fun k => bucket_Take.f k left last burst rate now) (takeP left last burst rate now) := by
  unfold bucket_Take.f takeP
  have hb := fillP_b left last burst rate now
  have hm := most_b burst
  refine ev_bind (fill_ev left last burst rate now hl hn) (ev_ite (fun h => ?_) (fun h => ?_))
  · rw [if_pos (by omega)]; exact ev_some rfl
  · rw [if_neg (by omega), w64 (by omega) (by omega)]; exact ev_some rfl
theorem ref_take_ev (left last burst rate now : Int) (hl : -9223372036854775808 ≤ last ∧ last ≤ 9223372036854775807) (hn : -9223372036854775808 ≤ now ∧ now ≤ 9223372036854775807) :
    Ev (fun k => mewsref41_Take.f k left last burst rate now) (takeP left last burst rate now) := by
  unfold mewsref41_Take.f takeP
  have hb := fillP_b left last burst rate now
  have hm := most_b burst
  refine ev_bind (ref_fill_ev left last burst rate now hl hn) (ev_ite (fun h => ?_) (fun h => ?_))
  · rw [if_pos h]; exact ev_some rfl
  · rw [if_neg h, w64 (by omega) (by omega)]; exact ev_some rfl
theorem alive_ev : Ev (fun k => mewslaw41_alive.f k) true := Ev.of mewslaw41_alive.mono (k := 40) (by decide +kernel)
end Go.Proofs.Ytbkjddcjllmogaa.Bu
