/- For all numbers a, b and size of 64 bits: what num.Add adds num.Sub takes away, and a place (num.Clip) lies from 0 to the size (NumUndo returns true); no condition beyond what the statement itself reads. -/
import Derived.Test.YteppcidcbabfgaaPureNumAdds
import Derived.Test.YteppcidcbabfgaaPureNumReads
import Derived.Test.YteppcidcbabfgaaYNumRef
import Derived.Test.YteppcidcbabfgaaXDNumUndo
namespace Go.Proofs.Yteppcidcbabfgaa.Pure
open Go.RowKit Go.Proofs.YteppcidcbabfgaaW.PrintWords Go.Proofs.YteppcidcbabfgaaW.PrintMore Go.Proofs.Yteppcidcbabfgaa.Y Go.Proofs.Yteppcidcbabfgaa.X
set_option linter.unusedVariables false
set_option linter.unusedSimpArgs false

theorem NumUndo : mewslaw01_NumUndo.PureX := by
  intro a b size ha hb hs
  have ha := wf_i64 ha
  have hb := wf_i64 hb
  have hs := wf_i64 hs
  refine Ev.rounds (r := true) ?_
  unfold mewslaw01_NumUndo.f
  have J : Ev (fun k => mewslaw01_NumUndo.j0 k a size) true := by
    refine ev_round ?_
    simp only [mewslaw01_NumUndo.j0]
    refine ev_bind0 (clip_is a size ha hs) ?_
    have hc : 0 ≤ clipP a size ∧ clipP a size ≤ mx 0 size ∧ mx 0 size ≤ 9223372036854775807 := by
      unfold clipP mx
      repeat' split
      all_goals omega
    refine ev_bind0 (text_f _ (by omega) (by omega)) ?_
    have hr := read_ev (textB (clipP a size)) 0 (mx 0 size)
    unfold readP at hr
    rw [textB_data, parse_text _ (by omega) (by omega), if_pos rfl, if_neg (by simp only; omega), if_neg (by simp only; omega)] at hr
    refine ev_bind hr (ev_pos hc.1 (ev_pos hc.2.1 (ev_pos rfl ?_)))
    exact ev_bind alive_ev4 (ev_some rfl)
  refine ev_bind0 (add_is a b ha hb) ?_
  by_cases h : -9223372036854775808 ≤ a + b ∧ a + b ≤ 9223372036854775807
  · rw [if_pos h]
    have e1 := sub_is (a + b) b h hb
    have e2 := sub_is (a + b) a h ha
    rw [show a + b - b = a by omega, if_pos ha] at e1
    rw [show a + b - a = b by omega, if_pos hb] at e2
    exact ev_pos rfl (ev_bind0 e1 (ev_bind0 e2 (ev_pos rfl (ev_pos rfl (ev_pos rfl (ev_pos rfl J))))))
  · rw [if_neg h]
    refine ev_neg (by decide) (ev_pos rfl (ev_neg ?_ J))
    have : decide (a < 0) = decide (b < 0) := by rw [decide_eq_decide]; omega
    rw [this]
    simp
end Go.Proofs.Yteppcidcbabfgaa.Pure
