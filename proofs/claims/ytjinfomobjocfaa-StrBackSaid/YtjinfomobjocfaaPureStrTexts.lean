/- For all texts s and t and two places: what str.Append, str.Set and str.Get answer is what the reference answers (StrTexts returns true); no condition beyond what the statement itself reads. -/
import Derived.Test.YtjinfomobjocfaaStrSet
import Derived.Test.YtjinfomobjocfaaXDStrTexts
namespace Go.Proofs.Ytjinfomobjocfaa.Pure
open Go.RowKit Go.Proofs.YtjinfomobjocfaaW.PrintWords Go.Proofs.YtjinfomobjocfaaW.PrintMore Go.Proofs.Ytjinfomobjocfaa.Y Go.Proofs.Ytjinfomobjocfaa.X Go.Proofs.Ytjinfomobjocfaa.St
set_option linter.unusedVariables false
set_option linter.unusedSimpArgs false

theorem far_is (s t : ByteArray) (x : Int) : ∃ b, mewslaw20_far.f s t x = some b ∧ (b = false → s.size ≤ 1000 ∧ t.size ≤ 1000) := by
  unfold mewslaw20_far.f
  by_cases h1 : (s.size : Int) > 1000
  · exact ⟨true, by rw [if_pos h1], fun h => by cases h⟩
  rw [if_neg h1]
  by_cases h2 : (t.size : Int) > 1000
  · exact ⟨true, by rw [if_pos h2], fun h => by cases h⟩
  rw [if_neg h2]
  split
  · exact ⟨_, rfl, fun _ => ⟨by omega, by omega⟩⟩
  · exact ⟨_, rfl, fun _ => ⟨by omega, by omega⟩⟩
theorem StrTexts : mewslaw20_StrTexts.PureX := by
  intro s t p hs ht hp
  refine Ev.rounds (r := true) ?_
  have h0 := wf_i64 hp.1
  have h1 := wf_i64 hp.2
  generalize p.f0 = a at h0 ⊢
  generalize p.f1 = b at h1 ⊢
  unfold mewslaw20_StrTexts.f
  obtain ⟨fb, hf, hsz⟩ := far_is s t a
  refine ev_bind0 hf (ev_ite (fun _ => ev_bind alive_ev (ev_some rfl)) (fun hfb => ?_))
  obtain ⟨z1, z2⟩ := hsz (by simpa using hfb)
  refine ev_bind0 (append_is s t (by omega) (by omega)) (ev_bind0 (ref_append_is s t (by omega) (by omega)) (ev_bind0 (set_is s a t hs) (ev_bind (ref_set_ev s a t (by omega) (by omega) h0) ?_)))
  refine ev_pos rfl (ev_pos rfl (ev_pos rfl (ev_pos rfl (ev_bind (get_ev s (by omega) a b h0 h1) (ev_bind (ref_get_ev s (by omega) a b h0 h1) (ev_pos rfl (ev_bind alive_ev (ev_some rfl))))))))
end Go.Proofs.Ytjinfomobjocfaa.Pure
