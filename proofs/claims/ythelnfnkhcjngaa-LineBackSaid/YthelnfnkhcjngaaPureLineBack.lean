/- For all lists of texts and all texts: what is joined is split as it was and has no line's end; what is split is joined and split again as it was (LineBack returns true); no condition beyond what the statement itself reads. -/
import Derived.Test.YthelnfnkhcjngaaLineLaw
import Derived.Test.YthelnfnkhcjngaaXDLineBack
namespace Go.Proofs.Ythelnfnkhcjngaa.Pure
open Go.RowKit Go.Proofs.YthelnfnkhcjngaaW.PrintWords Go.Proofs.YthelnfnkhcjngaaW.PrintMore Go.Proofs.Ythelnfnkhcjngaa.Y Go.Proofs.Ythelnfnkhcjngaa.X Go.Proofs.Ythelnfnkhcjngaa.LM
set_option linter.unusedVariables false
set_option linter.unusedSimpArgs false

theorem back_end (s : ByteArray) (hs : s.size ≤ 2000) (R : Bool) (hR : R = true) (t : ByteArray) (n : Int) (i : Int) (hi : ¬ i < n) : Ev (fun k => mewslaw04_LineBack.l0 k s t n i) R := by
  subst hR
  refine ev_round ?_
  simp only [mewslaw04_LineBack.l0]
  refine ev_neg hi (ev_bind (split_ev s (by omega)) ?_)
  cases h : splitL s.data.toList with
  | none =>
    simp only [res]
    exact ev_neg (by decide) (ev_pos (by rfl) (ev_bind alive_ev (ev_some rfl)))
  | some ws =>
    obtain ⟨h1, h2⟩ := splitL_len _ _ (Nat.le_refl _) ws h
    rw [← ba_size] at h1 h2
    have hlen : (ws.map ofL).length ≤ 2000 := by rw [List.length_map]; omega
    have hsz : ∀ u ∈ ws.map ofL, u.size ≤ 2000 := by
      intro u hu
      obtain ⟨w, hw, rfl⟩ := List.mem_map.1 hu
      rw [ba_size, ofL_data]
      have := h2 w hw
      omega
    have hj := join_ev (ws.map ofL) (by omega) (fun u hu => by have := hsz u hu; omega)
    rw [bs_ofL] at hj
    have hjl := joinL_len 2000 ws (fun w hw => by have := h2 w hw; omega)
    rw [List.length_map] at hlen
    have hjs : (ofL (joinL ws)).size ≤ 1000000000 := by
      rw [ba_size, ofL_data]
      have : ws.length * (4 * 2000 + 3) ≤ 2000 * (4 * 2000 + 3) := Nat.mul_le_mul_right _ hlen
      omega
    have hsp := split_ev (ofL (joinL ws)) hjs
    rw [ofL_data, splitL_join] at hsp
    simp only [res, List.nil_append] at hsp ⊢
    exact ev_pos (by trivial) (ev_bind hj (ev_bind hsp (ev_pos (by trivial) (ev_bind (same_self _ (by rw [List.length_map]; omega)) (ev_pos (by trivial) (ev_bind alive_ev (ev_some rfl)))))))
theorem back_l (s : ByteArray) (hs : s.size ≤ 2000) (t : ByteArray) (ht : t.size ≤ 1000000000) (hb : ∀ b ∈ t.data.toList, 32 ≤ b.toNat) : ∀ (n i : Nat), t.size - i ≤ n → i ≤ t.size → Ev (fun k => mewslaw04_LineBack.l0 k s t (t.size : Int) (i : Int)) true := by
  intro n
  induction n with
  | zero => intro i h1 h2; exact back_end s hs true rfl t _ _ (by omega)
  | succ n ih =>
    intro i h1 h2
    by_cases hi : i < t.size
    · obtain ⟨c, hc, hbt⟩ := at_cons t i hi
      have hc32 := hb c (by
        have : c ∈ t.data.toList.drop i := by rw [hc]; simp
        exact List.mem_of_mem_drop this)
      refine ev_round ?_
      simp only [mewslaw04_LineBack.l0]
      rw [hbt, w1 i (by omega)]
      exact ev_pos (by omega) (ev_pos (by omega) (ev_pos (by omega) (ev_neg (by omega) (ev_neg (by omega) (ih (i + 1) (by omega) (by omega))))))
    · exact back_end s hs true rfl t _ _ (by omega)
theorem back_t (l : List ByteArray) (s : ByteArray) : Ev (fun k => mewslaw04_LineBack.j0 k l s true) true := by
  refine ev_round ?_
  simp only [mewslaw04_LineBack.j0]
  exact ev_pos (by trivial) (ev_bind alive_ev (ev_some rfl))
theorem LineBack : mewslaw04_LineBack.PureX := by
  intro l s hl hs
  refine Ev.rounds (r := true) ?_
  unfold mewslaw04_LineBack.f
  obtain ⟨b, hb, hb2⟩ := far_ev l (by have := hl.1; omega)
  refine ev_bind hb ?_
  cases b with
  | true => exact ev_pos (by trivial) (back_t l s)
  | false =>
    obtain ⟨g1, g2⟩ := hb2 rfl
    refine ev_neg (by decide) ?_
    obtain ⟨b, hb, hb3⟩ := far_ev [s] (by simp)
    refine ev_bind hb ?_
    cases b with
    | true => exact back_t l s
    | false =>
      obtain ⟨g3, g4⟩ := hb3 rfl
      have hss := g4 s (by simp)
      have hj := join_ev l (by omega) (fun u hu => by have := g2 u hu; omega)
      have hjl := joinL_len 2000 (bs l) (bs_len l 2000 g2)
      have hbl : (bs l).length = l.length := by simp [bs]
      rw [hbl] at hjl
      have hjs : (ofL (joinL (bs l))).size ≤ 1000000000 := by
        rw [ba_size, ofL_data]
        have : l.length * (4 * 2000 + 3) ≤ 100 * (4 * 2000 + 3) := Nat.mul_le_mul_right _ g1
        omega
      have hsp := split_ev (ofL (joinL (bs l))) hjs
      rw [ofL_data, splitL_join] at hsp
      simp only [res, List.nil_append, ofL_bs] at hsp
      refine ev_round ?_
      simp only [mewslaw04_LineBack.j0]
      refine ev_neg (by decide) (ev_bind hj (ev_bind hsp (ev_pos (by trivial) (ev_bind (same_self l (by omega)) (ev_round ?_)))))
      simp only [mewslaw04_LineBack.j1]
      exact ev_neg (by decide) (back_l s hss (ofL (joinL (bs l))) hjs (by rw [ofL_data]; exact joinL_ok (bs l)) _ 0 (Nat.le_refl _) (by omega))
end Go.Proofs.Ythelnfnkhcjngaa.Pure
