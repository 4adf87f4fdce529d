/- For all texts s and t and numbers n: blanks ahead of a line, behind it and between two turn nothing (LineBlanks returns true); no condition beyond what the statement itself reads. -/
import Derived.Test.YthelnfnkhcjngaaLineLaw
import Derived.Test.YthelnfnkhcjngaaXDLineBlanks
namespace Go.Proofs.Ythelnfnkhcjngaa.Pure
open Go.RowKit Go.Proofs.YthelnfnkhcjngaaW.PrintWords Go.Proofs.YthelnfnkhcjngaaW.PrintMore Go.Proofs.Ythelnfnkhcjngaa.Y Go.Proofs.Ythelnfnkhcjngaa.X Go.Proofs.Ythelnfnkhcjngaa.LM
set_option linter.unusedVariables false
set_option linter.unusedSimpArgs false

/-- The gap. -/
def gapL : Nat → List UInt8
  | 0 => [32]
  | n + 1 => gapL n ++ [9, 32]
theorem gapL_len (n : Nat) : (gapL n).length = 1 + 2 * n := by
  induction n with
  | zero => rfl
  | succ n ih => simp [gapL, ih]; omega
theorem gapL_bl (n : Nat) : ∀ b ∈ gapL n, isBl b = true := by
  induction n with
  | zero => intro b hb; simp [gapL] at hb; subst hb; rfl
  | succ n ih =>
    intro b hb
    simp only [gapL, List.mem_append, List.mem_cons, List.not_mem_nil, or_false] at hb
    rcases hb with hb | rfl | rfl
    · exact ih b hb
    · rfl
    · rfl
theorem gapL_head (n : Nat) : ∃ g, gapL n = 32 :: g := by
  induction n with
  | zero => exact ⟨[], rfl⟩
  | succ n ih => obtain ⟨g, hg⟩ := ih; exact ⟨g ++ [9, 32], by rw [gapL, hg]; rfl⟩
theorem blanks_3 (s t : ByteArray) (hs : s.size ≤ 2000) (ht : t.size ≤ 2000) (n : Nat) (hn : n ≤ 5) (a c : List (List UInt8)) (o : Option (List (List UInt8))) (h1 : splitL s.data.toList = some a) (h2 : splitL t.data.toList = some c) :
    Ev (fun k => mewslaw04_LineBlanks.j3 k s t (ofL (gapL n)) (a.map ofL) (c.map ofL) false) true := by
  have hg := gapL_len n
  have hgs : (ofL (gapL n)).size = 1 + 2 * n := by rw [ba_size, ofL_data, hg]
  have e : (s ++ ofL (gapL n)) ++ t = ofL (s.data.toList ++ gapL n ++ t.data.toList) := by
    rw [ofL_app, ofL_app, ofL_of, ofL_of]
  have hsz : (ofL (s.data.toList ++ gapL n ++ t.data.toList)).size ≤ 1000000000 := by
    rw [ba_size, ofL_data, List.length_append, List.length_append, ← ba_size, ← ba_size, hg]; omega
  have hsp := split_ev _ hsz
  have hsum : (s ++ ofL (gapL n)).size = s.size + (1 + 2 * n) := by rw [ByteArray.size_append, hgs]
  obtain ⟨g, hgg⟩ := gapL_head n
  have hbl := gapL_bl n
  rw [ofL_data, hgg, splitL_two 32 g _ _ (by rw [← hgg]; exact hbl) a c h1 h2, ← hgg] at hsp
  simp only [res, List.nil_append] at hsp
  obtain ⟨l1, _⟩ := splitL_len _ _ (Nat.le_refl _) a h1
  obtain ⟨l2, _⟩ := splitL_len _ _ (Nat.le_refl _) c h2
  rw [← ba_size] at l1 l2
  refine ev_round ?_
  simp only [mewslaw04_LineBlanks.j3]
  rw [e]
  refine ev_neg (by decide) (ev_pos (by omega) (ev_pos (by omega) (ev_bind hsp (ev_pos rfl (ev_bind0 rfl (ev_pos (by simp; omega) (ev_bind0 rfl (ev_pos (by simp; omega) ?_))))))))
  have hsame := same_self ((a ++ c).map ofL) (by simp; omega)
  simp only [List.map_append, List.nil_append] at hsame ⊢
  exact ev_bind hsame (ev_pos rfl (ev_bind alive_ev (ev_some rfl)))
theorem blanks_t (s t g : ByteArray) (a c : List ByteArray) : Ev (fun k => mewslaw04_LineBlanks.j3 k s t g a c true) true := by
  refine ev_round ?_
  simp only [mewslaw04_LineBlanks.j3]
  exact ev_pos (by trivial) (ev_bind alive_ev (ev_some rfl))
theorem blanks_l (s t : ByteArray) (hs : s.size ≤ 2000) (ht : t.size ≤ 2000) (m : Nat) (hm : m ≤ 5) : ∀ (n i : Nat), m - i ≤ n → i ≤ m → Ev (fun k => mewslaw04_LineBlanks.l0 k s t (ofL (gapL i)) (m : Int) (i : Int)) true := by
  intro n
  have hfin : ∀ i, i ≤ m → ¬ i < m → Ev (fun k => mewslaw04_LineBlanks.l0 k s t (ofL (gapL i)) (m : Int) (i : Int)) true := by
    intro i h2 hi
    have hg := gapL_len i
    have hgs : (ofL (gapL i)).size = 1 + 2 * i := by rw [ba_size, ofL_data, hg]
    have e : (ofL (gapL i) ++ s) ++ ofL (gapL i) = ofL (gapL i ++ s.data.toList ++ gapL i) := by
      rw [ofL_app, ofL_app, ofL_of]
    have hsz : (ofL (gapL i ++ s.data.toList ++ gapL i)).size ≤ 1000000000 := by
      rw [ba_size, ofL_data, List.length_append, List.length_append, ← ba_size, hg]; omega
    have hsp := split_ev _ hsz
    rw [ofL_data, splitL_gap _ _ (gapL_bl i)] at hsp
    have hsum : (ofL (gapL i) ++ s).size = (1 + 2 * i) + s.size := by rw [ByteArray.size_append, hgs]
    have hs1 := split_ev s (by omega)
    have ht1 := split_ev t (by omega)
    rw [res_nil] at hsp hs1 ht1
    have hlen : (((splitL s.data.toList).getD []).map ofL).length ≤ 2000 := by
      rw [List.length_map]
      cases h : splitL s.data.toList with
      | none => simp
      | some a =>
        obtain ⟨l1, _⟩ := splitL_len _ _ (Nat.le_refl _) a h
        rw [← ba_size] at l1
        simp; omega
    refine ev_round ?_
    simp only [mewslaw04_LineBlanks.l0]
    rw [e]
    refine ev_neg (by omega) (ev_bind hs1 (ev_pos (by omega) (ev_pos (by omega) (ev_bind hsp (ev_neg (by simp) (ev_bind (same_self _ (by show (((splitL s.data.toList).getD []).map ofL).length ≤ _; omega)) (ev_round ?_)))))))
    simp only [mewslaw04_LineBlanks.j2]
    refine ev_neg (by decide) (ev_bind ht1 ?_)
    cases h1 : splitL s.data.toList with
    | none => exact ev_neg (by simp) (blanks_t s t _ _ _)
    | some a =>
      refine ev_pos (by simp) ?_
      cases h2 : splitL t.data.toList with
      | none => exact blanks_t s t _ _ _
      | some c => exact blanks_3 s t hs ht i (by omega) a c none h1 h2
  induction n with
  | zero => intro i h1 h2; exact hfin i h2 (by omega)
  | succ n ih =>
    intro i h1 h2
    by_cases hi : i < m
    · have hgs : (ofL (gapL i)).size = 1 + 2 * i := by rw [ba_size, ofL_data, gapL_len]
      have e : ofL (gapL i) ++ (⟨#[9, 32]⟩ : ByteArray) = ofL (gapL (i + 1)) := by rw [gapL, ofL_app]; rfl
      refine ev_round ?_
      simp only [mewslaw04_LineBlanks.l0]
      rw [e, w1 i (by omega)]
      exact ev_pos (by omega) (ev_pos (by omega) (ih (i + 1) (by omega) (by omega)))
    · exact hfin i h2 hi
theorem blanks_0 (s t : ByteArray) (x : Int) : Ev (fun k => mewslaw04_LineBlanks.j0 k s t x true) true := by
  refine ev_round ?_
  simp only [mewslaw04_LineBlanks.j0]
  exact ev_pos (by trivial) (ev_bind alive_ev (ev_some rfl))
theorem LineBlanks : mewslaw04_LineBlanks.PureX := by
  intro s t x hs ht hx
  refine Ev.rounds (r := true) ?_
  unfold mewslaw04_LineBlanks.f
  obtain ⟨b, hb, hb2⟩ := far_ev [s] (by simp)
  refine ev_bind hb ?_
  cases b with
  | true => exact ev_pos rfl (blanks_0 s t x)
  | false =>
    obtain ⟨g1, g2⟩ := hb2 rfl
    have hs2 := g2 s (by simp)
    refine ev_neg (by decide) ?_
    obtain ⟨b, hb, hb3⟩ := far_ev [t] (by simp)
    refine ev_bind hb ?_
    cases b with
    | true => exact blanks_0 s t x
    | false =>
      obtain ⟨g3, g4⟩ := hb3 rfl
      have ht2 := g4 t (by simp)
      refine ev_round ?_
      simp only [mewslaw04_LineBlanks.j0]
      refine ev_neg (by decide) ?_
      obtain ⟨m, hm, hm5⟩ : ∃ m : Nat, wrap64 (Int.tmod (IntKind.u64.wrap x) 5) = (m : Int) ∧ m ≤ 5 := by
        have h0 : 0 ≤ IntKind.u64.wrap x := by simp only [IntKind.wrap, IntKind.bits, IntKind.signed]; simp; omega
        rw [Int.tmod_eq_emod_of_nonneg h0, w64 (by omega) (by omega)]
        exact ⟨(IntKind.u64.wrap x % 5).toNat, by omega, by omega⟩
      rw [hm]
      exact blanks_l s t hs2 ht2 m hm5 m 0 (by omega) (by omega)
end Go.Proofs.Ythelnfnkhcjngaa.Pure
