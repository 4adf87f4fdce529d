/- For every text s of 2^47 bytes at the most and all numbers low and high of 64 bits: num.Read is the reference's Read (NumReads returns true); no condition beyond what the statement itself reads. -/
import Derived.Test.YteppcidcbabfgaaYNumRef
import Derived.Test.YteppcidcbabfgaaXDNumReads
namespace Go.Proofs.Yteppcidcbabfgaa.Pure
open Go.RowKit Go.Proofs.YteppcidcbabfgaaW.PrintWords Go.Proofs.YteppcidcbabfgaaW.PrintMore Go.Proofs.Yteppcidcbabfgaa.Y Go.Proofs.Yteppcidcbabfgaa.X
set_option linter.unusedVariables false
set_option linter.unusedSimpArgs false

theorem alive_ev3 : Ev (fun k => mewslaw01_alive.f k) true := Ev.of mewslaw01_alive.mono (k := 40) (by decide +kernel)
/-- What both read. -/
def readP (l : List UInt8) (a b : Int) : Int × Int := if (parseP l).2 = true then (if (parseP l).1 < a then (0, 3) else if (parseP l).1 > b then (0, 3) else ((parseP l).1, 0)) else (0, 2)
theorem read_ev (s : ByteArray) (a b : Int) : Ev (fun k => num_Read.f k s a b) (readP s.data.toList a b) := by
  unfold num_Read.f readP
  refine ev_bind (parse_ev s) (ev_ite (fun h => ?_) (fun h => ?_))
  · rw [if_pos h]
    refine ev_ite (fun h => ?_) (fun h => ?_)
    · rw [if_pos h]; exact ev_some rfl
    · rw [if_neg h]
      refine ev_ite (fun h => ?_) (fun h => ?_)
      · rw [if_pos h]; exact ev_some rfl
      · rw [if_neg h]; exact ev_some rfl
  · rw [if_neg h]; exact ev_some rfl
theorem ref_read_ev (s : ByteArray) (hs : s.size ≤ 140737488351232) (a b : Int) : Ev (fun k => mewsref01_Read.f k s a b) (readP s.data.toList a b) := by
  unfold mewsref01_Read.f readP
  refine ev_bind (ref_parse_ev s hs) (ev_ite (fun h => ?_) (fun h => ?_))
  · rw [if_pos h]
    refine ev_ite (fun h => ?_) (fun h => ?_)
    · rw [if_pos h]; exact ev_some rfl
    · rw [if_neg h]
      refine ev_ite (fun h => ?_) (fun h => ?_)
      · rw [if_pos h]; exact ev_some rfl
      · rw [if_neg h]; exact ev_some rfl
  · rw [if_neg h]; exact ev_some rfl
theorem NumReads : mewslaw01_NumReads.PureX := by
  intro s a b hs _ _
  refine Ev.rounds (r := true) ?_
  unfold mewslaw01_NumReads.f
  refine ev_ite (fun _ => ev_bind alive_ev3 (ev_some rfl)) (fun hl => ?_)
  refine ev_bind (read_ev s a b) (ev_bind (ref_read_ev s hs a b) (ev_pos rfl (ev_pos rfl ?_)))
  exact ev_bind alive_ev3 (ev_some rfl)
end Go.Proofs.Yteppcidcbabfgaa.Pure
