/- For all numbers a and b of 64 bits: num.Add, num.Sub and num.Clip are the reference's (NumAdds returns true); no condition beyond what the statement itself reads. -/
import Derived.Test.YteppcidcbabfgaaYNumRef
import Derived.Test.YteppcidcbabfgaaXDNumAdds
namespace Go.Proofs.Yteppcidcbabfgaa.Pure
open Go.RowKit Go.Proofs.YteppcidcbabfgaaW.PrintWords Go.Proofs.YteppcidcbabfgaaW.PrintMore Go.Proofs.Yteppcidcbabfgaa.Y Go.Proofs.Yteppcidcbabfgaa.X
set_option linter.unusedVariables false
set_option linter.unusedSimpArgs false

theorem alive_ev4 : Ev (fun k => mewslaw01_alive.f k) true := Ev.of mewslaw01_alive.mono (k := 40) (by decide +kernel)
theorem add_is (a b : Int) (ha : -9223372036854775808 ≤ a ∧ a ≤ 9223372036854775807) (hb : -9223372036854775808 ≤ b ∧ b ≤ 9223372036854775807) :
    num_Add.f a b = some (if -9223372036854775808 ≤ a + b ∧ a + b ≤ 9223372036854775807 then (a + b, true) else (0, false)) := by
  unfold num_Add.f
  by_cases h : -9223372036854775808 ≤ a + b ∧ a + b ≤ 9223372036854775807
  · rw [if_pos h, w64 h.1 h.2]
    by_cases hz : b = 0
    · rw [if_pos hz]; split <;> rfl
    · rw [if_neg]
      have : decide (a + b > a) = decide (b > 0) := by rw [decide_eq_decide]; omega
      rw [this]
      simp
  · rw [if_neg h, if_pos, if_neg (by omega)]
    have : decide (wrap64 (a + b) > a) ≠ decide (b > 0) := by
      rw [Ne, decide_eq_decide]
      unfold wrap64
      omega
    simpa using this
theorem sub_is (a b : Int) (ha : -9223372036854775808 ≤ a ∧ a ≤ 9223372036854775807) (hb : -9223372036854775808 ≤ b ∧ b ≤ 9223372036854775807) :
    num_Sub.f a b = some (if -9223372036854775808 ≤ a - b ∧ a - b ≤ 9223372036854775807 then (a - b, true) else (0, false)) := by
  unfold num_Sub.f
  by_cases h : -9223372036854775808 ≤ a - b ∧ a - b ≤ 9223372036854775807
  · rw [if_pos h, w64 h.1 h.2]
    by_cases hz : b = 0
    · rw [if_pos hz]; split <;> rfl
    · rw [if_neg]
      have : decide (a - b < a) = decide (b > 0) := by rw [decide_eq_decide]; omega
      rw [this]
      simp
  · rw [if_neg h, if_pos, if_neg (by omega)]
    have : decide (wrap64 (a - b) < a) ≠ decide (b > 0) := by
      rw [Ne, decide_eq_decide]
      unfold wrap64
      omega
    simpa using this
theorem ref_add_is (a b : Int) (ha : -9223372036854775808 ≤ a ∧ a ≤ 9223372036854775807) (hb : -9223372036854775808 ≤ b ∧ b ≤ 9223372036854775807) :
    mewsref01_Add.f a b = some (if -9223372036854775808 ≤ a + b ∧ a + b ≤ 9223372036854775807 then (a + b, true) else (0, false)) := by
  unfold mewsref01_Add.f
  have e1 : b > 0 → wrap64 (9223372036854775807 - b) = 9223372036854775807 - b := fun h => w64 (by omega) (by omega)
  have e2 : b < 0 → wrap64 ((-9223372036854775808) - b) = (-9223372036854775808) - b := fun h => w64 (by omega) (by omega)
  by_cases h : -9223372036854775808 ≤ a + b ∧ a + b ≤ 9223372036854775807
  · rw [if_pos h, w64 h.1 h.2]
    by_cases hp : b > 0
    · rw [if_pos hp, e1 hp, if_neg (by omega), if_neg (by omega)]
    · rw [if_neg hp]
      by_cases hq : b < 0
      · rw [if_pos hq, e2 hq, if_neg (by omega)]
      · rw [if_neg hq]
  · rw [if_neg h]
    by_cases hp : b > 0
    · rw [if_pos hp, e1 hp, if_pos (by omega)]
    · rw [if_neg hp, if_pos (by omega), e2 (by omega), if_pos (by omega)]
theorem ref_sub_is (a b : Int) (ha : -9223372036854775808 ≤ a ∧ a ≤ 9223372036854775807) (hb : -9223372036854775808 ≤ b ∧ b ≤ 9223372036854775807) :
    mewsref01_Sub.f a b = some (if -9223372036854775808 ≤ a - b ∧ a - b ≤ 9223372036854775807 then (a - b, true) else (0, false)) := by
  unfold mewsref01_Sub.f
  have e1 : b < 0 → wrap64 (9223372036854775807 + b) = 9223372036854775807 + b := fun h => w64 (by omega) (by omega)
  have e2 : b > 0 → wrap64 ((-9223372036854775808) + b) = (-9223372036854775808) + b := fun h => w64 (by omega) (by omega)
  by_cases h : -9223372036854775808 ≤ a - b ∧ a - b ≤ 9223372036854775807
  · rw [if_pos h, w64 h.1 h.2]
    by_cases hp : b < 0
    · rw [if_pos hp, e1 hp, if_neg (by omega), if_neg (by omega)]
    · rw [if_neg hp]
      by_cases hq : b > 0
      · rw [if_pos hq, e2 hq, if_neg (by omega)]
      · rw [if_neg hq]
  · rw [if_neg h]
    by_cases hp : b < 0
    · rw [if_pos hp, e1 hp, if_pos (by omega)]
    · rw [if_neg hp, if_pos (by omega), e2 (by omega), if_pos (by omega)]
/-- A place. -/
def clipP (n size : Int) : Int := if size < 1 then 0 else if n ≥ 0 then (if n > size then size else n) else if n < -size then 0 else n + size
theorem clip_is (a b : Int) (ha : -9223372036854775808 ≤ a ∧ a ≤ 9223372036854775807) (hb : -9223372036854775808 ≤ b ∧ b ≤ 9223372036854775807) : num_Clip.f a b = some (clipP a b) := by
  unfold num_Clip.f clipP
  by_cases h1 : b < 1
  · rw [if_pos h1, if_pos h1]
  rw [if_neg h1, if_neg h1]
  by_cases h2 : a < 0
  · rw [if_pos h2, if_neg (by omega), w64 (by omega) (by omega)]
    unfold mx
    by_cases h3 : a < -b
    · rw [if_pos h3, if_pos (by omega)]
    · rw [if_neg h3]; split
      · congr 1; omega
      · rfl
  · rw [if_neg h2, if_pos (by omega)]
    unfold mn
    by_cases h3 : a > b
    · rw [if_pos h3]
    · rw [if_neg h3]
theorem ref_clip_is (a b : Int) (ha : -9223372036854775808 ≤ a ∧ a ≤ 9223372036854775807) (hb : -9223372036854775808 ≤ b ∧ b ≤ 9223372036854775807) : mewsref01_Clip.f a b = some (clipP a b) := by
  unfold mewsref01_Clip.f clipP
  by_cases h1 : b < 1
  · rw [if_pos h1, if_pos h1]
  rw [if_neg h1, if_neg h1, w64 (by omega) (by omega)]
  by_cases h2 : a ≥ 0
  · rw [if_pos h2, if_pos h2]
    split <;> rfl
  · rw [if_neg h2, if_neg h2]
    by_cases h3 : a < -b
    · rw [if_pos h3, if_pos h3]
    · rw [if_neg h3, if_neg h3, w64 (by omega) (by omega)]
theorem NumAdds : mewslaw01_NumAdds.PureX := by
  intro a b ha hb
  have ha := wf_i64 ha
  have hb := wf_i64 hb
  refine Ev.rounds (r := true) ?_
  unfold mewslaw01_NumAdds.f
  refine ev_bind0 (add_is a b ha hb) (ev_bind0 (ref_add_is a b ha hb) (ev_bind0 (sub_is a b ha hb) (ev_bind0 (ref_sub_is a b ha hb) ?_)))
  refine ev_pos rfl (ev_pos (by simp) (ev_pos rfl (ev_pos (by simp) ?_)))
  refine ev_bind0 (clip_is a b ha hb) (ev_bind0 (ref_clip_is a b ha hb) (ev_pos rfl ?_))
  exact ev_bind alive_ev4 (ev_some rfl)
end Go.Proofs.Yteppcidcbabfgaa.Pure
