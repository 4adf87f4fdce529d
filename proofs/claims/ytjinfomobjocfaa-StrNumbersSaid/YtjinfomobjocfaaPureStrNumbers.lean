/- For each text s and three numbers: what str.Add, str.Bit, str.SetBit and str.Ones answer is what the reference answers (StrNumbers returns true); no condition beyond what the statement itself reads. -/
import Derived.Test.YtjinfomobjocfaaStrOnes
import Derived.Test.YtjinfomobjocfaaXDStrNumbers
namespace Go.Proofs.Ytjinfomobjocfaa.Pure
open Go.RowKit Go.Proofs.YtjinfomobjocfaaW.PrintWords Go.Proofs.YtjinfomobjocfaaW.PrintMore Go.Proofs.Ytjinfomobjocfaa.Y Go.Proofs.Ytjinfomobjocfaa.X Go.Proofs.Ytjinfomobjocfaa.St
set_option linter.unusedVariables false
set_option linter.unusedSimpArgs false

theorem StrNumbers : mewslaw20_StrNumbers.PureX := by
  intro s p hs hp
  refine Ev.rounds (r := true) ?_
  have h0 := wf_i64 hp.1
  have h1 := wf_i64 hp.2.1
  have h2 := wf_i64 hp.2.2
  generalize p.f0 = a at h0 ⊢
  generalize p.f1 = b at h1 ⊢
  generalize p.f2 = c at h2 ⊢
  unfold mewslaw20_StrNumbers.f
  obtain ⟨fb, hf, hsz⟩ := far_is s ⟨#[]⟩ a
  refine ev_bind0 hf (ev_ite (fun _ => ev_bind alive_ev (ev_some rfl)) (fun hfb => ?_))
  obtain ⟨z1, z2⟩ := hsz (by simpa using hfb)
  refine ev_bind (add_ev s b h1) (ev_bind (ref_add_ev s hs b h1) (ev_bind0 (bit_is s a) (ev_bind (ref_bit_ev s a) (ev_bind0 (setbit_is s a b hs) (ev_bind (ref_setbit_ev s a b (by omega)) ?_)))))
  refine ev_pos rfl (ev_pos rfl (ev_pos rfl (ev_pos rfl (ev_pos rfl (ev_pos rfl (ev_pos rfl (ev_bind (ones_ev s (by omega) a c h0 h2) (ev_bind (ref_ones_ev s (by omega) a c h0 h2) (ev_pos rfl (ev_bind alive_ev (ev_some rfl)))))))))))
end Go.Proofs.Ytjinfomobjocfaa.Pure
