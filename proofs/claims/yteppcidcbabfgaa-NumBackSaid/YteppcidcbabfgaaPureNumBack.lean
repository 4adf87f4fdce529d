/- For every number n of 64 bits and every text s of 2^47 bytes at the most: n's decimal is parsed as n; a text that is parsed is the decimal of what it is parsed as, and with a zero ahead it is none (NumBack returns true); no condition beyond what the statement itself reads. -/
import Derived.Test.YteppcidcbabfgaaYNumRef
import Derived.Test.YteppcidcbabfgaaXDNumBack
namespace Go.Proofs.Yteppcidcbabfgaa.Pure
open Go.RowKit Go.Proofs.YteppcidcbabfgaaW.PrintWords Go.Proofs.YteppcidcbabfgaaW.PrintMore Go.Proofs.Yteppcidcbabfgaa.Y Go.Proofs.Yteppcidcbabfgaa.X
set_option linter.unusedVariables false
set_option linter.unusedSimpArgs false

theorem alive_ev2 : Ev (fun k => mewslaw01_alive.f k) true := Ev.of mewslaw01_alive.mono (k := 40) (by decide +kernel)
theorem zero_ahead (l : List UInt8) (n : Int) (h : parseP l = (n, true)) : (parseP (48 :: l)).2 = false := by
  unfold parseP
  have h1 : ¬ (48 :: l).head? = some (45 : UInt8) := by simp
  rw [if_neg h1, if_neg]
  rintro ⟨hg, _⟩
  have := ((good_iff _).1 hg).2.2 rfl
  have hl : l = [] := by
    cases l with
    | nil => rfl
    | cons c l => simp at this
  subst hl
  have e : parseP [] = (0, false) := by decide
  rw [e] at h
  cases h
theorem NumBack : mewslaw01_NumBack.PureX := by
  intro n s hn hs
  have hn := wf_i64 hn
  refine Ev.rounds (r := true) ?_
  unfold mewslaw01_NumBack.f
  refine ev_ite (fun _ => ev_bind alive_ev2 (ev_some rfl)) (fun hl => ?_)
  have h1 := parse_ev (textB n)
  rw [textB_data, parse_text n hn.1 hn.2] at h1
  refine ev_bind0 (text_f n hn.1 hn.2) (ev_bind h1 (ev_pos rfl ?_))
  refine ev_round ?_
  simp only [mewslaw01_NumBack.j0]
  refine ev_neg (by decide) (ev_bind (parse_ev s) ?_)
  cases hp : (parseP s.data.toList).2 with
  | false =>
    rw [parse_no _ hp]
    exact ev_neg (by decide) (ev_pos rfl (ev_bind alive_ev2 (ev_some rfl)))
  | true =>
    obtain ⟨m, hm⟩ : ∃ m, parseP s.data.toList = (m, true) := ⟨(parseP s.data.toList).1, by rw [← hp]⟩
    obtain ⟨ht, h0, h1⟩ := parse_back _ _ hm
    rw [hm]
    have hz := parse_ev ((⟨#[48]⟩ : ByteArray) ++ s)
    have hd : ((⟨#[48]⟩ : ByteArray) ++ s).data.toList = 48 :: s.data.toList := by rw [ba_append]; rfl
    rw [hd] at hz
    have hz2 := zero_ahead _ _ hm
    have hts : textB m = s := ba_ext (by rw [textB_data, ht])
    refine ev_pos rfl (ev_pos (by omega) (ev_bind hz (ev_bind0 (text_f m h0 h1) ?_)))
    rw [hts]
    have hlen : num_Len.f m = some (s.size : Int) := by
      unfold num_Len.f
      rw [text_f m h0 h1, hts]
      rfl
    refine ev_pos rfl (ev_bind0 hlen (ev_pos rfl (ev_neg (by rw [hz2]; decide) ?_)))
    exact ev_bind alive_ev2 (ev_some rfl)
end Go.Proofs.Yteppcidcbabfgaa.Pure
