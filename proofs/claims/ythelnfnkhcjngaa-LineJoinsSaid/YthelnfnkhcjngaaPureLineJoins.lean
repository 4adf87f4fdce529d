/- For all lists of texts: line.Join makes of them the line that the document says (LineJoins returns true); no condition beyond what the statement itself reads. -/
import Derived.Test.YthelnfnkhcjngaaLineLaw
import Derived.Test.YthelnfnkhcjngaaLineRefJoin
import Derived.Test.YthelnfnkhcjngaaXDLineJoins
namespace Go.Proofs.Ythelnfnkhcjngaa.Pure
open Go.RowKit Go.Proofs.YthelnfnkhcjngaaW.PrintWords Go.Proofs.YthelnfnkhcjngaaW.PrintMore Go.Proofs.Ythelnfnkhcjngaa.Y Go.Proofs.Ythelnfnkhcjngaa.X Go.Proofs.Ythelnfnkhcjngaa.LM
set_option linter.unusedVariables false
set_option linter.unusedSimpArgs false

theorem LineJoins : mewslaw04_LineJoins.PureX := by
  intro l hl
  refine Ev.rounds (r := true) ?_
  unfold mewslaw04_LineJoins.f
  obtain ⟨b, hb, hb2⟩ := far_ev l (by have := hl.1; omega)
  refine ev_bind hb ?_
  cases b with
  | true => exact ev_pos rfl (ev_bind alive_ev (ev_some rfl))
  | false =>
    obtain ⟨g1, g2⟩ := hb2 rfl
    have h2 : ∀ s ∈ l, s.size ≤ 1000000 := fun s hs => by have := g2 s hs; omega
    exact ev_neg (by decide) (ev_bind (join_ev l (by omega) h2) (ev_bind (rjoin_ev l (by omega) h2) (ev_pos rfl (ev_bind alive_ev (ev_some rfl)))))
end Go.Proofs.Ythelnfnkhcjngaa.Pure
