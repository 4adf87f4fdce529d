/- For every text s of 2^47 bytes at the most and every number n of 64 bits: num.Parse(s) is what the reference parses, num.Text(n) and num.Len(n) are the reference's (NumParses returns true); no condition beyond what the statement itself reads. -/
import Derived.Test.YteppcidcbabfgaaYNumRef
import Derived.Test.YteppcidcbabfgaaXDNumParses
namespace Go.Proofs.Yteppcidcbabfgaa.Pure
open Go.RowKit Go.Proofs.YteppcidcbabfgaaW.PrintWords Go.Proofs.YteppcidcbabfgaaW.PrintMore Go.Proofs.Yteppcidcbabfgaa.Y Go.Proofs.Yteppcidcbabfgaa.X
set_option linter.unusedVariables false
set_option linter.unusedSimpArgs false

theorem alive_ev : Ev (fun k => mewslaw01_alive.f k) true := Ev.of mewslaw01_alive.mono (k := 40) (by decide +kernel)
theorem NumParses : mewslaw01_NumParses.PureX := by
  intro s n hs hn
  have hn := wf_i64 hn
  refine Ev.rounds (r := true) ?_
  unfold mewslaw01_NumParses.f
  refine ev_ite (fun _ => ev_bind alive_ev (ev_some rfl)) (fun hl => ?_)
  refine ev_bind (parse_ev s) (ev_bind (ref_parse_ev s hs) (ev_pos rfl (ev_pos (by simp) ?_)))
  refine ev_bind0 (text_f n hn.1 hn.2) (ev_bind (ref_text_ev n hn.1 hn.2) (ev_pos rfl ?_))
  have hlen : num_Len.f n = some ((textB n).size : Int) := by
    unfold num_Len.f
    rw [text_f n hn.1 hn.2]
    rfl
  refine ev_bind0 hlen (ev_bind (ref_text_ev n hn.1 hn.2) (ev_pos rfl ?_))
  exact ev_bind alive_ev (ev_some rfl)
end Go.Proofs.Yteppcidcbabfgaa.Pure
