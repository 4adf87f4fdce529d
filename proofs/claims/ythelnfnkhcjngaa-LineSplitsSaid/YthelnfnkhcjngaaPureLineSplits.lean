/- For every text: line.Split tells the arguments as the document does, or that its quotes are not right (LineSplits returns true); no condition beyond what the statement itself reads. -/
import Derived.Test.YthelnfnkhcjngaaLineLaw
import Derived.Test.YthelnfnkhcjngaaLineRef
import Derived.Test.YthelnfnkhcjngaaXDLineSplits
namespace Go.Proofs.Ythelnfnkhcjngaa.Pure
open Go.RowKit Go.Proofs.YthelnfnkhcjngaaW.PrintWords Go.Proofs.YthelnfnkhcjngaaW.PrintMore Go.Proofs.Ythelnfnkhcjngaa.Y Go.Proofs.Ythelnfnkhcjngaa.X Go.Proofs.Ythelnfnkhcjngaa.LM
set_option linter.unusedVariables false
set_option linter.unusedSimpArgs false

theorem LineSplits : mewslaw04_LineSplits.PureX := by
  intro s hs
  refine Ev.rounds (r := true) ?_
  unfold mewslaw04_LineSplits.f
  obtain ⟨b, hb, hb2⟩ := far_ev [s] (by simp)
  refine ev_bind hb ?_
  cases b with
  | true => exact ev_pos rfl (ev_bind alive_ev (ev_some rfl))
  | false =>
    obtain ⟨g1, g2⟩ := hb2 rfl
    have hs2 := g2 s (by simp)
    have hlen : (res [] (splitL s.data.toList)).1.length ≤ 1000000000 := by
      rw [res_nil, List.length_map]
      cases h : splitL s.data.toList with
      | none => simp
      | some a =>
        obtain ⟨l1, _⟩ := splitL_len _ _ (Nat.le_refl _) a h
        rw [← ba_size] at l1
        simp; omega
    exact ev_neg (by decide) (ev_bind (split_ev s (by omega)) (ev_bind (rsplit_ev s (by omega)) (ev_bind (same_self _ hlen) (ev_pos rfl (ev_pos (by simp) (ev_bind alive_ev (ev_some rfl)))))))
end Go.Proofs.Ythelnfnkhcjngaa.Pure
