/- For all numbers n and by of 64 bits: what str.Add adds to a decimal is taken away by its opposite, and what there is no room for is told (StrUndo returns true); no condition beyond what the statement itself reads. -/
import Derived.Test.YtjinfomobjocfaaStr
import Derived.Test.YtjinfomobjocfaaXDStrUndo
namespace Go.Proofs.Ytjinfomobjocfaa.Pure
open Go.RowKit Go.Proofs.YtjinfomobjocfaaW.PrintWords Go.Proofs.YtjinfomobjocfaaW.PrintMore Go.Proofs.Ytjinfomobjocfaa.Y Go.Proofs.Ytjinfomobjocfaa.X Go.Proofs.Ytjinfomobjocfaa.St
set_option linter.unusedVariables false
set_option linter.unusedSimpArgs false

theorem addR_text (n b : Int) (hn : -9223372036854775808 ≤ n ∧ n ≤ 9223372036854775807) : addR (textB n) b = if -9223372036854775808 ≤ n + b ∧ n + b ≤ 9223372036854775807 then (textB (n + b), 0) else (⟨#[]⟩, 13) := by
  unfold addR
  rw [textB_data, parse_text n hn.1 hn.2, if_pos rfl]
theorem StrUndo : mewslaw20_StrUndo.PureX := by
  intro n b hn hb
  have hn := wf_i64 hn
  have hb := wf_i64 hb
  refine Ev.rounds (r := true) ?_
  unfold mewslaw20_StrUndo.f
  refine ev_bind (ref_text_ev n hn.1 hn.2) (ev_bind (add_ev _ b hb) (ev_bind0 (ref_add_is n b hn hb) ?_))
  rw [addR_text n b hn]
  by_cases h : -9223372036854775808 ≤ n + b ∧ n + b ≤ 9223372036854775807
  · rw [if_pos h, if_pos h]
    refine ev_neg (by simp) (ev_pos rfl ?_)
    refine ev_round ?_
    simp only [mewslaw20_StrUndo.j0]
    refine ev_neg (by decide) ?_
    refine (ev_pos (by first | rfl | trivial) ?_)
    refine ev_round ?_
    simp only [mewslaw20_StrUndo.j1]
    by_cases hm : b = -9223372036854775808
    · exact ev_pos (by rw [hm]; rfl) (ev_bind alive_ev (ev_some rfl))
    · refine ev_neg (by simpa using hm) ?_
      rw [w64 (by omega) (by omega)]
      refine ev_bind (add_ev _ (-b) (by omega)) (ev_bind (ref_text_ev n hn.1 hn.2) ?_)
      rw [addR_text (n + b) (-b) h, show n + b + -b = n by omega, if_pos hn]
      exact ev_pos rfl (ev_pos rfl (ev_bind alive_ev (ev_some rfl)))
  · rw [if_neg h, if_neg h]
    refine ev_neg (by simp) (ev_neg (by simp) (ev_pos (by rw [ba_toList]) ?_))
    refine ev_round ?_
    simp only [mewslaw20_StrUndo.j0]
    refine ev_neg (by decide) ?_
    refine ev_neg (by decide) ?_
    refine ev_round ?_
    simp only [mewslaw20_StrUndo.j1]
    exact ev_pos (by first | rfl | trivial) (ev_bind alive_ev (ev_some rfl))
end Go.Proofs.Ytjinfomobjocfaa.Pure
