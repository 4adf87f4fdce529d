/- For every bucket b, all numbers n of burst and rate and every time: bucket.Take, Fill, When and New are the reference's (BucketFills returns true); no condition beyond what the statement itself reads. -/
import Derived.Test.YtbkjddcjllmogaaBucket
namespace Go.Proofs.Ytbkjddcjllmogaa.Pure
open Go.RowKit Go.Proofs.YtbkjddcjllmogaaW.PrintWords Go.Proofs.YtbkjddcjllmogaaW.PrintMore Go.Proofs.Ytbkjddcjllmogaa.Y Go.Proofs.Ytbkjddcjllmogaa.X Go.Proofs.Ytbkjddcjllmogaa.Bu
set_option linter.unusedVariables false

def whenP (left last burst rate : Int) : Int := if (fillP left last burst rate last).1 > 0 then 0 else if rate > 0 then 1 else -1
theorem each_pos (rate : Int) : eachP rate > 0 ↔ rate > 0 := by
  unfold eachP clampP
  repeat' split
  all_goals omega
theorem when_ev (left last burst rate : Int) (hl : -9223372036854775808 ≤ last ∧ last ≤ 9223372036854775807) : Ev (fun k => bucket_When.f k left last burst rate) (whenP left last burst rate) := by
  unfold bucket_When.f whenP
  refine ev_bind0 (limits_is burst rate) (ev_bind (fill_ev left last burst rate last hl hl) (ev_ite (fun h => ?_) (fun h => ?_)))
  · rw [if_pos h]; exact ev_some rfl
  · rw [if_neg h]
    refine ev_ite (fun h => ?_) (fun h => ?_)
    · rw [if_pos ((each_pos rate).1 h)]; exact ev_some rfl
    · rw [if_neg (fun h2 => h ((each_pos rate).2 h2))]; exact ev_some rfl
theorem BucketFills : mewslaw41_BucketFills.PureX := by
  intro b n now ⟨hb0, hb1⟩ ⟨hn0, hn1⟩ hnow
  have hl := wf_i64 hb1
  have hn := wf_i64 hnow
  refine Ev.rounds (r := true) ?_
  unfold mewslaw41_BucketFills.f
  suffices J : ∀ z, Ev (fun k => mewslaw41_BucketFills.j0 k now z b.f0 b.f1 n.f0 n.f1) true from ev_ite (fun _ => J _) (fun _ => J _)
  intro z
  refine ev_round ?_
  simp only [mewslaw41_BucketFills.j0]
  refine ev_ite (fun _ => ev_bind alive_ev (ev_some rfl)) (fun _ => ?_)
  refine ev_bind (take_ev b.f0 b.f1 n.f0 n.f1 now hl hn) (ev_bind (ref_take_ev b.f0 b.f1 n.f0 n.f1 now hl hn) (ev_bind (ref_fill_ev b.f0 b.f1 n.f0 n.f1 b.f1 hl hl) ?_))
  have J : Ev (fun k => mewslaw41_BucketFills.j1 k now (takeP b.f0 b.f1 n.f0 n.f1 now).2.2 (takeP b.f0 b.f1 n.f0 n.f1 now).2.2 (whenP b.f0 b.f1 n.f0 n.f1) b.f0 b.f1 n.f0 n.f1 (takeP b.f0 b.f1 n.f0 n.f1 now).1 (takeP b.f0 b.f1 n.f0 n.f1 now).2.1 (takeP b.f0 b.f1 n.f0 n.f1 now).1 (takeP b.f0 b.f1 n.f0 n.f1 now).2.1) true := by
    refine ev_round ?_
    simp only [mewslaw41_BucketFills.j1]
    refine ev_pos (by simp) (ev_pos (by simp) ?_)
    refine ev_bind (fill_ev b.f0 b.f1 n.f0 n.f1 now hl hn) (ev_bind (ref_fill_ev b.f0 b.f1 n.f0 n.f1 now hl hn) (ev_pos (by simp) ?_))
    refine ev_bind (when_ev b.f0 b.f1 n.f0 n.f1 hl) (ev_pos rfl ?_)
    have hnew : bucket_New.f n.f0 now = some (mostP n.f0, now) := by
      unfold bucket_New.f
      rw [limits_is]
      rfl
    refine ev_bind0 hnew (ev_bind (ref_fill_ev 1099511627776 0 n.f0 0 0 (by omega) (by omega)) (ev_pos ?_ (ev_bind alive_ev (ev_some rfl))))
    have hm := most_b n.f0
    have e : (fillP 1099511627776 0 n.f0 0 0).1 = mostP n.f0 := by
      unfold fillP leftP clampP
      rw [if_pos (by omega), if_neg (by omega), if_pos (by omega)]
    rw [e]
    simp
  unfold whenP at J
  refine ev_ite (fun h => ?_) (fun h => ?_)
  · rw [if_pos h] at J; exact J
  · rw [if_neg h] at J
    refine ev_ite (fun h => ?_) (fun h => ?_)
    · rw [if_pos h] at J; exact J
    · rw [if_neg h] at J; exact J
end Go.Proofs.Ytbkjddcjllmogaa.Pure
