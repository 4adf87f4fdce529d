/- For each pattern and texts: with a "]" behind it and quoted, it matches with runs about it what it matches with texts about that; a run matches all, and the empty pattern the empty text alone (GlobRuns returns true); no condition beyond what the statement itself reads. -/
import Derived.Test.YtncdoanemfnjjaaPureGlobAlone
namespace Go.Proofs.Ytncdoanemfnjjaa.Pure
open Go.RowKit Go.Proofs.YtncdoanemfnjjaaW.PrintWords Go.Proofs.YtncdoanemfnjjaaW.PrintMore Go.Proofs.Ytncdoanemfnjjaa.Y Go.Proofs.Ytncdoanemfnjjaa.X Go.Proofs.Ytncdoanemfnjjaa.Gl
set_option linter.unusedVariables false
set_option linter.unusedSimpArgs false

/-- Empty, or it ends in a "]" that no backslash stands before. -/
def Shut (u : List UInt8) : Prop := u = [] ∨ ∃ v, u = v ++ [93] ∧ v.getLast? ≠ some 92
theorem shut_suffix {u w : List UInt8} (h : Shut u) (hs : w <:+ u) : Shut w := by
  rcases h with rfl | ⟨v, rfl, hv⟩
  · exact .inl (List.suffix_nil.1 hs)
  · rcases List.suffix_concat_iff.1 hs with h | ⟨w', rfl, hw⟩
    · exact .inl h
    · refine .inr ⟨w', rfl, ?_⟩
      obtain ⟨x, rfl⟩ := hw
      intro he
      rw [List.getLast?_append, he] at hv
      exact hv rfl
theorem shut_last {u : List UInt8} (h : Shut u) (hn : u ≠ []) : u.getLast? = some 93 := by
  rcases h with rfl | ⟨v, rfl, _⟩
  · exact absurd rfl hn
  · rw [List.getLast?_append]; rfl
theorem shut_two {a d : UInt8} (h : Shut [a, d]) : d = 93 ∧ a ≠ 92 := by
  rcases h with h | ⟨v, hv, hl⟩
  · cases h
  · have hv2 : v ++ [93] = [a] ++ [d] := hv.symm
    obtain ⟨h1, h2⟩ := List.append_inj' hv2 rfl
    subst h1
    injection h2 with h2 _
    refine ⟨h2.symm, ?_⟩
    rintro rfl
    exact hl rfl
theorem clsI_more (c : UInt8) : ∀ (n : Nat) (u : List UInt8) (h : Bool) (q : List UInt8), u.length ≤ n → u ≠ [] → Shut u → clsI c h (u ++ q) = ((clsI c h u).1, (clsI c h u).2 ++ q) := by
  intro n
  induction n with
  | zero =>
    intro u h q hl hn hg
    exact absurd (List.length_eq_zero_iff.1 (by omega : u.length = 0)) hn
  | succ n ih =>
    intro u h q hl hn hg
    match u with
    | [] => exact absurd rfl hn
    | [a] =>
      have ha : a = 93 := by simpa using shut_last hg hn
      subst ha
      match q with
      | [] => simp [clsI]
      | [x] => simp [clsI]
      | x :: y :: z => simp [clsI]
    | [a, d] =>
      obtain ⟨hd, h92⟩ := shut_two hg
      subst hd
      by_cases h93 : a = 93
      · subst h93
        match q with
        | [] => simp [clsI]
        | x :: z => simp [clsI]
      · match q with
        | [] => simp [clsI, h93, h92]
        | [x] => simp [clsI, h93, h92]
        | x :: y :: z => simp [clsI, h93, h92]
    | a :: d :: b :: r =>
      simp only [List.length_cons] at hl
      simp only [List.cons_append, clsI]
      by_cases h93 : a = 93
      · rw [if_pos h93, if_pos h93]; rfl
      rw [if_neg h93, if_neg h93]
      by_cases h92 : a = 92
      · rw [if_pos h92, if_pos h92]
        exact ih (b :: r) (h || d == c) q (by simp only [List.length_cons]; omega) (by simp) (shut_suffix hg ⟨[a, d], rfl⟩)
      rw [if_neg h92, if_neg h92]
      by_cases hd : d = 45 ∧ b ≠ 93
      · rw [if_pos hd, if_pos hd]
        refine ih r (h || within a b c) q (by omega) ?_ (shut_suffix hg ⟨[a, d, b], rfl⟩)
        rintro rfl
        exact hd.2 (by simpa using shut_last hg hn)
      · rw [if_neg hd, if_neg hd]
        exact ih (d :: b :: r) (h || a == c) q (by simp only [List.length_cons]; omega) (by simp) (shut_suffix hg ⟨[a], rfl⟩)
theorem clsP_more (c : UInt8) (u q : List UInt8) (hn : u ≠ []) (hg : Shut u) : clsP (u ++ q) c = ((clsP u c).1, (clsP u c).2 ++ q) := by
  match u with
  | [] => exact absurd rfl hn
  | a :: r =>
    unfold clsP
    by_cases h : (a :: r).head? = some 94
    · have h2 : ((a :: r) ++ q).head? = some 94 := h
      rw [if_pos h, if_pos h2]
      simp only [List.cons_append, List.tail_cons]
      have hr : r ≠ [] := by
        rintro rfl
        have h1 := shut_last hg hn
        rw [List.getLast?_singleton] at h1
        have h3 : some a = some 94 := h
        rw [h3] at h1
        exact absurd h1 (by decide)
      rw [clsI_more c _ r false q (Nat.le_refl _) hr (shut_suffix hg ⟨[a], rfl⟩)]
    · have h2 : ¬ ((a :: r) ++ q).head? = some 94 := h
      rw [if_neg h, if_neg h2]
      rw [clsI_more c _ (a :: r) false q (Nat.le_refl _) hn hg]
theorem oneP_more (a : UInt8) (r q : List UInt8) (c : UInt8) (hg : Shut (a :: r)) : oneP a (r ++ q) c = ((oneP a r c).1, (oneP a r c).2 ++ q) := by
  unfold oneP
  by_cases h63 : a = 63
  · rw [if_pos h63, if_pos h63]
  rw [if_neg h63, if_neg h63]
  have hr : a ≠ 93 → r ≠ [] := by
    rintro h rfl
    exact h (by simpa using shut_last hg (by simp))
  by_cases h91 : a = 91
  · rw [if_pos h91, if_pos h91]
    exact clsP_more c r q (hr (by rw [h91]; decide)) (shut_suffix hg ⟨[a], rfl⟩)
  rw [if_neg h91, if_neg h91]
  by_cases h92 : a = 92
  · rw [if_pos h92, if_pos h92]
    match r, hr with
    | [], hr => exact absurd rfl (hr (by rw [h92]; decide))
    | d :: r', _ => rfl
  · rw [if_neg h92, if_neg h92]
/-- What is appended to a pattern changes none of its parts. -/
def Clo (u : List UInt8) : Prop := ∀ q t1 t2, Mt u t1 → Mt q t2 → Mt (u ++ q) (t1 ++ t2)
theorem clo_shut (u : List UInt8) (hg : Shut u) : Clo u := by
  intro q t1 t2 h1 h2
  induction h1 with
  | nil => exact h2
  | star u t' t hm ih =>
    rw [List.append_assoc]
    exact Mt.star _ _ _ (ih (shut_suffix hg ⟨[42], rfl⟩))
  | one a r c t ha ho hm ih =>
    have e := oneP_more a r q c hg
    refine Mt.one a (r ++ q) c (t ++ t2) ha (by rw [e]; exact ho) ?_
    rw [e]
    exact ih (shut_suffix hg ((oneP_rest a r c 0).2.trans ⟨[a], rfl⟩) )
theorem clo_quote (l : List UInt8) : Clo (quoteL l) := by
  intro q t1 t2 h1 h2
  have e : t1 = l := (plain_mt _ (quoteL l) l (Nat.le_refl _) (plain_quote l) t1).1 h1
  subst e
  clear h1
  induction t1 with
  | nil => exact h2
  | cons c l ih =>
    unfold quoteL at ih ⊢
    rw [List.flatMap_cons]
    by_cases hc : sp c = true
    · rw [if_pos hc]
      exact Mt.one 92 _ c _ (by decide) (by simp [oneP]) (by simpa [oneP] using ih)
    · rw [if_neg hc]
      have e := oneP_plain hc ((l.flatMap fun c => if sp c = true then [92, c] else [c]) ++ q) c
      refine Mt.one c _ c _ (sp_no hc).1 ?_ ?_
      · show (oneP c ((l.flatMap fun c => if sp c = true then [92, c] else [c]) ++ q) c).1 = true
        rw [e]; simp
      · show Mt (oneP c ((l.flatMap fun c => if sp c = true then [92, c] else [c]) ++ q) c).2 (l ++ t2)
        rw [e]; exact ih
theorem runs_step (L : List ByteArray) (i : Nat) (hi : i < L.length) (hL : L.length ≤ 1000) (p A0 A1 A2 : ByteArray) (hp : p.size ≤ 1000) (h0 : A0.size ≤ 1000) (h1 : A1.size ≤ 1000) (h2 : A2.size ≤ 1000) (hc : Clo p.data.toList) (e : L[i] = p)
    (k : Ev (fun k => mewslaw02_GlobRuns.l0 k L (L.length : Int) ((i + 1 : Nat) : Int) A0 A1 A2) true) : Ev (fun k => mewslaw02_GlobRuns.l0 k L (L.length : Int) (i : Int) A0 A1 A2) true := by
  have s1 : ((⟨#[42]⟩ : ByteArray) ++ p).size = 1 + p.size := by rw [ba_size, ba_append, List.length_append, ← ba_size, ← ba_size]; rfl
  have s1' : (((⟨#[42]⟩ : ByteArray) ++ p) ++ (⟨#[42]⟩ : ByteArray)).size = 2 + p.size := by rw [ba_size, ba_append, List.length_append, ← ba_size, ← ba_size, s1]; exact (by omega : 1 + p.size + 1 = 2 + p.size)
  have s2 : ((⟨#[42, 42]⟩ : ByteArray) ++ p).size = 2 + p.size := by rw [ba_size, ba_append, List.length_append, ← ba_size, ← ba_size]; rfl
  have s3 : (A0 ++ A1).size = A0.size + A1.size := by rw [ba_size, ba_append, List.length_append, ← ba_size, ← ba_size]
  have s4 : ((A0 ++ A1) ++ A2).size = A0.size + A1.size + A2.size := by rw [ba_size, ba_append, List.length_append, ← ba_size, ← ba_size, s3]
  obtain ⟨b1, m1, m1'⟩ := match_ev p A1 (by omega) (by omega)
  obtain ⟨b2, m2, m2'⟩ := match_ev (((⟨#[42]⟩ : ByteArray) ++ p) ++ (⟨#[42]⟩ : ByteArray)) ((A0 ++ A1) ++ A2) (by rw [s1']; omega) (by rw [s4]; omega)
  obtain ⟨b3, m3, m3'⟩ := match_ev ((⟨#[42, 42]⟩ : ByteArray) ++ p) (A0 ++ A1) (by rw [s2]; omega) (by rw [s3]; omega)
  have g2 : Mt p.data.toList A1.data.toList → b2 = true := by
    intro h
    refine m2'.2 ?_
    simp only [ba_append]
    show Mt (42 :: (p.data.toList ++ [42])) _
    rw [List.append_assoc]
    exact Mt.star _ _ _ (hc [42] _ _ h (by have := Mt.star [] A2.data.toList [] Mt.nil; simpa using this))
  have g3 : Mt p.data.toList A1.data.toList → b3 = true := by
    intro h
    refine m3'.2 ?_
    simp only [ba_append]
    show Mt (42 :: 42 :: p.data.toList) _
    exact Mt.star _ _ _ (by have := Mt.star _ [] _ h; simpa using this)
  refine ev_round ?_
  simp only [mewslaw02_GlobRuns.l0]
  refine ev_pos (by omega) (ev_pos (by omega) (ev_pos (by omega) ?_))
  rw [rdOf_nat _ L i hi, e, w64 (by omega) (by omega), show ((i : Int) + 1) = ((i + 1 : Nat) : Int) by omega]
  refine ev_bind m1 (ev_ite (fun hb => ?_) (fun hb => ?_))
  · refine ev_pos (by omega) (ev_pos (by rw [s1]; omega) (ev_pos (by omega) (ev_pos (by rw [s3]; omega) (ev_bind m2 (ev_pos (g2 (m1'.1 hb)) (ev_bind m1 (ev_pos hb (ev_pos (by omega) (ev_bind m3 (ev_pos (g3 (m1'.1 hb)) k))))))))))
  · exact ev_bind m1 (ev_neg hb k)
theorem GlobRuns : mewslaw02_GlobRuns.PureX := by
  intro a0 a1 h0 h1
  refine Ev.rounds (r := true) ?_
  unfold mewslaw02_GlobRuns.f
  generalize a1.f0 = A0 at h1 ⊢
  generalize a1.f1 = A1 at h1 ⊢
  generalize a1.f2 = A2 at h1 ⊢
  obtain ⟨hA0, hA1, hA2⟩ := h1
  have haway : Ev (fun k => mewslaw02_GlobRuns.j0 k a0 true A0 A1 A2) true := by
    refine ev_round ?_
    simp only [mewslaw02_GlobRuns.j0]
    refine ev_pos (by first | rfl | trivial) (ev_bind alive_ev (ev_some rfl))
  refine ev_bind (far_ev [a0, A0, A1, A2] (by simp)) (ev_ite (fun _ => haway) (fun hfar => ?_))
  have hz : a0.size ≤ 300 ∧ A0.size ≤ 300 ∧ A1.size ≤ 300 ∧ A2.size ≤ 300 := by
    simp only [List.any_cons, List.any_nil, Bool.or_eq_true, decide_eq_true_eq, not_or] at hfar
    omega
  obtain ⟨z0, z1, z2, z3⟩ := hz
  clear hA0 hA1 hA2 hfar
  have hgo : a0.data.toList.getLast? ≠ some 92 → Ev (fun k => mewslaw02_GlobRuns.j0 k a0 false A0 A1 A2) true := by
    intro hl
    obtain ⟨q, hq⟩ : ∃ q : ByteArray, q = ⟨(quoteL a0.data.toList).toArray⟩ := ⟨_, rfl⟩
    have hqs : q.size ≤ 600 := by rw [hq]; exact quote_size a0 z0
    have hqd : q.data.toList = quoteL a0.data.toList := by rw [hq]
    have hquote := quote_ev a0 (by omega)
    rw [← hq] at hquote
    obtain ⟨p, hp⟩ : ∃ p : ByteArray, p = a0 ++ (⟨#[93]⟩ : ByteArray) := ⟨_, rfl⟩
    have hpd : p.data.toList = a0.data.toList ++ [93] := by rw [hp, ba_append]
    have hps : p.size = a0.size + 1 := by rw [ba_size, hpd, List.length_append, ← ba_size]; rfl
    have hcp : Clo p.data.toList := clo_shut _ (.inr ⟨_, hpd, hl⟩)
    have hcq : Clo q.data.toList := by rw [hqd]; exact clo_quote _
    obtain ⟨b1, m1, m1'⟩ := match_ev ⟨#[42]⟩ A0 (by decide) (by omega)
    obtain ⟨b2, m2, m2'⟩ := match_ev ⟨#[]⟩ A0 (by decide) (by omega)
    have hb1 : b1 = true := m1'.2 (by have := Mt.star [] A0.data.toList [] Mt.nil; simpa using this)
    have hb2 : b2 = (A0.toList == ([] : List UInt8)) := by
      rw [Bool.eq_iff_iff, m2', beq_iff_eq, ba_toList]
      exact mt_nil_pat
    refine ev_round ?_
    simp only [mewslaw02_GlobRuns.j0]
    refine ev_neg (by decide) (ev_pos (by omega) (ev_bind hquote (ev_bind0 rfl ?_)))
    rw [← hp]
    refine runs_step [p, q] 0 (by simp) (by simp) p A0 A1 A2 (by omega) (by omega) (by omega) (by omega) hcp rfl ?_
    refine runs_step [p, q] 1 (by simp) (by simp) q A0 A1 A2 (by omega) (by omega) (by omega) (by omega) hcq rfl ?_
    refine ev_round ?_
    simp only [mewslaw02_GlobRuns.l0]
    refine ev_neg (by simp) (ev_bind m1 (ev_pos hb1 (ev_bind m2 (ev_pos (by rw [hb2]; simp) (ev_bind alive_ev (ev_some rfl))))))
  have hlen := ba_size a0
  rcases Nat.eq_zero_or_pos a0.size with hz | hz
  · refine ev_neg (by omega) (hgo ?_)
    rw [List.length_eq_zero_iff.1 (by omega : a0.data.toList.length = 0)]
    decide
  · have hlt : a0.size - 1 < a0.size := by omega
    have e : wrap64 ((a0.size : Int) - 1) = ((a0.size - 1 : Nat) : Int) := by rw [w64 (by omega) (by omega)]; omega
    have hlast : a0.data.toList.getLast? = some (a0.data.toList[a0.size - 1]'(at_ne a0 _ hlt)) := by
      rw [List.getLast?_eq_getElem?, ← hlen, List.getElem?_eq_getElem]
    refine ev_pos (by omega) ?_
    rw [e, bt_nat a0 _ hlt]
    refine ev_pos (by omega) (ev_pos (by omega) ?_)
    by_cases h92 : a0.data.toList[a0.size - 1]'(at_ne a0 _ hlt) = 92
    · rw [h92]
      exact haway
    · have e2 : (((a0.data.toList[a0.size - 1]'(at_ne a0 _ hlt)).toNat : Int) == 92) = false := by
        rw [beq_eq_false_iff_ne]
        exact fun he => h92 ((byte_eq' _ 92).1 he)
      rw [e2]
      refine hgo ?_
      rw [hlast]
      exact fun he => h92 (by injection he)
end Go.Proofs.Ytncdoanemfnjjaa.Pure
