/- What the functions of str come to, as lists of bytes. No memory. -/
import Derived.Test.YtjinfomobjocfaaYNumRef
import Derived.Test.YtjinfomobjocfaaX
namespace Go.Proofs.Ytjinfomobjocfaa.St
open Go.RowKit Go.Proofs.YtjinfomobjocfaaW.PrintWords Go.Proofs.YtjinfomobjocfaaW.PrintMore Go.Proofs.Ytjinfomobjocfaa.Y Go.Proofs.Ytjinfomobjocfaa.X
set_option linter.unusedVariables false
set_option linter.unusedSimpArgs false

theorem alive_ev : Ev (fun k => mewslaw20_alive.f k) true := Ev.of mewslaw20_alive.mono (k := 60) (by decide +kernel)
theorem add_is (a b : Int) (ha : -9223372036854775808 ≤ a ∧ a ≤ 9223372036854775807) (hb : -9223372036854775808 ≤ b ∧ b ≤ 9223372036854775807) :
    num_Add.f a b = some (if -9223372036854775808 ≤ a + b ∧ a + b ≤ 9223372036854775807 then (a + b, true) else (0, false)) := by
  unfold num_Add.f
  by_cases h : -9223372036854775808 ≤ a + b ∧ a + b ≤ 9223372036854775807
  · rw [if_pos h, w64 h.1 h.2]
    by_cases hz : b = 0
    · rw [if_pos hz]; split <;> rfl
    · rw [if_neg]
      have : decide (a + b > a) = decide (b > 0) := by rw [decide_eq_decide]; omega
      rw [this]
      simp
  · rw [if_neg h, if_pos, if_neg (by omega)]
    have : decide (wrap64 (a + b) > a) ≠ decide (b > 0) := by
      rw [Ne, decide_eq_decide]
      unfold wrap64
      omega
    simpa using this
theorem ref_add_is (a b : Int) (ha : -9223372036854775808 ≤ a ∧ a ≤ 9223372036854775807) (hb : -9223372036854775808 ≤ b ∧ b ≤ 9223372036854775807) :
    mewsref01_Add.f a b = some (if -9223372036854775808 ≤ a + b ∧ a + b ≤ 9223372036854775807 then (a + b, true) else (0, false)) := by
  unfold mewsref01_Add.f
  have e1 : b > 0 → wrap64 (9223372036854775807 - b) = 9223372036854775807 - b := fun h => w64 (by omega) (by omega)
  have e2 : b < 0 → wrap64 ((-9223372036854775808) - b) = (-9223372036854775808) - b := fun h => w64 (by omega) (by omega)
  by_cases h : -9223372036854775808 ≤ a + b ∧ a + b ≤ 9223372036854775807
  · rw [if_pos h, w64 h.1 h.2]
    by_cases hp : b > 0
    · rw [if_pos hp, e1 hp, if_neg (by omega), if_neg (by omega)]
    · rw [if_neg hp]
      by_cases hq : b < 0
      · rw [if_pos hq, e2 hq, if_neg (by omega)]
      · rw [if_neg hq]
  · rw [if_neg h]
    by_cases hp : b > 0
    · rw [if_pos hp, e1 hp, if_pos (by omega)]
    · rw [if_neg hp, if_pos (by omega), e2 (by omega), if_pos (by omega)]
theorem parse_range (l : List UInt8) (h : (parseP l).2 = true) : -9223372036854775808 ≤ (parseP l).1 ∧ (parseP l).1 ≤ 9223372036854775807 := by
  have e : parseP l = ((parseP l).1, true) := by rw [← h]
  exact (parse_back l _ e).2
/-- A decimal, to which a number is added. -/
def addR (s : ByteArray) (b : Int) : ByteArray × Int :=
  if (parseP s.data.toList).2 = true then (if -9223372036854775808 ≤ (parseP s.data.toList).1 + b ∧ (parseP s.data.toList).1 + b ≤ 9223372036854775807 then (textB ((parseP s.data.toList).1 + b), 0) else (⟨#[]⟩, 13)) else (⟨#[]⟩, 2)
theorem add_ev (s : ByteArray) (b : Int) (hb : -9223372036854775808 ≤ b ∧ b ≤ 9223372036854775807) : Ev (fun k => str_Add.f k s b) (addR s b) := by
  unfold str_Add.f
  refine ev_bind (parse_ev s) ?_
  by_cases hp : (parseP s.data.toList).2 = true
  · have hr := parse_range _ hp
    have e : addR s b = (if -9223372036854775808 ≤ (parseP s.data.toList).1 + b ∧ (parseP s.data.toList).1 + b ≤ 9223372036854775807 then (textB ((parseP s.data.toList).1 + b), 0) else (⟨#[]⟩, 13)) := by unfold addR; rw [if_pos hp]
    rw [e]
    refine ev_pos hp (ev_bind0 (add_is _ b hr hb) ?_)
    by_cases h : -9223372036854775808 ≤ (parseP s.data.toList).1 + b ∧ (parseP s.data.toList).1 + b ≤ 9223372036854775807
    · rw [if_pos h, if_pos h]
      exact ev_pos rfl (ev_bind0 (text_f _ h.1 h.2) (ev_some rfl))
    · rw [if_neg h, if_neg h]
      exact ev_neg (by decide) (ev_some rfl)
  · have e : addR s b = (⟨#[]⟩, 2) := by unfold addR; rw [if_neg hp]
    rw [e]
    exact ev_neg hp (ev_some rfl)
theorem ref_add_ev (s : ByteArray) (hs : s.size ≤ 140737488351232) (b : Int) (hb : -9223372036854775808 ≤ b ∧ b ≤ 9223372036854775807) : Ev (fun k => mewsref20_Add.f k s b) (addR s b) := by
  unfold mewsref20_Add.f
  refine ev_bind (ref_parse_ev s hs) ?_
  by_cases hp : (parseP s.data.toList).2 = true
  · have hr := parse_range _ hp
    have e : addR s b = (if -9223372036854775808 ≤ (parseP s.data.toList).1 + b ∧ (parseP s.data.toList).1 + b ≤ 9223372036854775807 then (textB ((parseP s.data.toList).1 + b), 0) else (⟨#[]⟩, 13)) := by unfold addR; rw [if_pos hp]
    rw [e]
    refine ev_pos hp (ev_bind0 (ref_add_is _ b hr hb) ?_)
    by_cases h : -9223372036854775808 ≤ (parseP s.data.toList).1 + b ∧ (parseP s.data.toList).1 + b ≤ 9223372036854775807
    · rw [if_pos h, if_pos h]
      exact ev_pos rfl (ev_bind (ref_text_ev _ h.1 h.2) (ev_some rfl))
    · rw [if_neg h, if_neg h]
      exact ev_neg (by decide) (ev_some rfl)
  · have e : addR s b = (⟨#[]⟩, 2) := by unfold addR; rw [if_neg hp]
    rw [e]
    exact ev_neg hp (ev_some rfl)
end Go.Proofs.Ytjinfomobjocfaa.St
