/- The search of glob.Match tells just whether the pattern matches. -/
import Derived.Test.YtncdoanemfnjjaaGlob
import Derived.Test.YtncdoanemfnjjaaX4
namespace Go.Proofs.Ytncdoanemfnjjaa.Gl
open Go.RowKit Go.Proofs.YtncdoanemfnjjaaW.PrintWords Go.Proofs.YtncdoanemfnjjaaW.PrintMore Go.Proofs.Ytncdoanemfnjjaa.Y Go.Proofs.Ytncdoanemfnjjaa.X
set_option linter.unusedVariables false
set_option linter.unusedSimpArgs false

theorem clsI_rest (c c' : UInt8) : ∀ (n : Nat) (u : List UInt8) (h h' : Bool), u.length ≤ n → (clsI c h u).2 = (clsI c' h' u).2 ∧ (clsI c h u).2 <:+ u := by
  intro n
  induction n with
  | zero =>
    intro u h h' hl
    rw [List.length_eq_zero_iff.1 (by omega : u.length = 0)]
    exact ⟨rfl, List.suffix_refl _⟩
  | succ n ih =>
    intro u h h' hl
    match u with
    | [] => exact ⟨rfl, List.suffix_refl _⟩
    | [a] =>
      simp only [clsI]
      by_cases h93 : a = 93
      · rw [if_pos h93, if_pos h93]; exact ⟨rfl, List.nil_suffix⟩
      · rw [if_neg h93, if_neg h93]; exact ⟨rfl, List.nil_suffix⟩
    | [a, d] =>
      simp only [clsI]
      by_cases h93 : a = 93
      · rw [if_pos h93, if_pos h93]; exact ⟨rfl, List.suffix_cons _ _⟩
      rw [if_neg h93, if_neg h93]
      by_cases h92 : a = 92
      · rw [if_pos h92, if_pos h92]; exact ⟨rfl, List.nil_suffix⟩
      rw [if_neg h92, if_neg h92]
      by_cases hd : d = 93
      · rw [if_pos hd, if_pos hd]; exact ⟨rfl, List.nil_suffix⟩
      · rw [if_neg hd, if_neg hd]; exact ⟨rfl, List.nil_suffix⟩
    | a :: d :: b :: r =>
      simp only [clsI]
      simp only [List.length_cons] at hl
      by_cases h93 : a = 93
      · rw [if_pos h93, if_pos h93]; exact ⟨rfl, List.suffix_cons _ _⟩
      rw [if_neg h93, if_neg h93]
      by_cases h92 : a = 92
      · rw [if_pos h92, if_pos h92]
        have := ih (b :: r) (h || d == c) (h' || d == c') (by simp; omega)
        exact ⟨this.1, this.2.trans ((List.suffix_cons _ _).trans (List.suffix_cons _ _))⟩
      rw [if_neg h92, if_neg h92]
      by_cases hd : d = 45 ∧ b ≠ 93
      · rw [if_pos hd, if_pos hd]
        have := ih r (h || within a b c) (h' || within a b c') (by omega)
        exact ⟨this.1, this.2.trans ((List.suffix_cons _ _).trans ((List.suffix_cons _ _).trans (List.suffix_cons _ _)))⟩
      · rw [if_neg hd, if_neg hd]
        have := ih (d :: b :: r) (h || a == c) (h' || a == c') (by simp; omega)
        exact ⟨this.1, this.2.trans (List.suffix_cons _ _)⟩
theorem clsP_rest (c c' : UInt8) (u : List UInt8) : (clsP u c).2 = (clsP u c').2 ∧ (clsP u c).2 <:+ u := by
  unfold clsP
  by_cases h : u.head? = some 94
  · rw [if_pos h, if_pos h]
    have := clsI_rest c c' _ u.tail false false (Nat.le_refl _)
    exact ⟨this.1, this.2.trans (List.tail_suffix _)⟩
  · rw [if_neg h, if_neg h]
    exact clsI_rest c c' _ u false false (Nat.le_refl _)
theorem oneP_rest (a : UInt8) (r : List UInt8) (c c' : UInt8) : (oneP a r c).2 = (oneP a r c').2 ∧ (oneP a r c).2 <:+ r := by
  unfold oneP
  by_cases h63 : a = 63
  · rw [if_pos h63, if_pos h63]; exact ⟨rfl, List.suffix_refl _⟩
  rw [if_neg h63, if_neg h63]
  by_cases h91 : a = 91
  · rw [if_pos h91, if_pos h91]; exact clsP_rest c c' r
  rw [if_neg h91, if_neg h91]
  by_cases h92 : a = 92
  · rw [if_pos h92, if_pos h92]
    match r with
    | [] => exact ⟨rfl, List.suffix_refl _⟩
    | d :: r' => exact ⟨rfl, List.suffix_cons _ _⟩
  · rw [if_neg h92, if_neg h92]; exact ⟨rfl, List.suffix_refl _⟩
/-- What is left behind a part. -/
def nextR (a : UInt8) (r : List UInt8) : List UInt8 := (oneP a r 0).2
theorem nextR_is (a : UInt8) (r : List UInt8) (c : UInt8) : (oneP a r c).2 = nextR a r := (oneP_rest a r c 0).1
theorem nextR_suffix (a : UInt8) (r : List UInt8) : nextR a r <:+ r := (oneP_rest a r 0 0).2
theorem nextR_lt (a : UInt8) (r : List UInt8) : (nextR a r).length < (a :: r).length := by
  have := (nextR_suffix a r).length_le
  simp only [List.length_cons]
  omega
theorem mt_one {a : UInt8} {r : List UInt8} {c : UInt8} {t : List UInt8} (ha : a ≠ 42) : Mt (a :: r) (c :: t) ↔ ((oneP a r c).1 = true ∧ Mt (nextR a r) t) := by
  constructor
  · intro h
    generalize hx : a :: r = x at h
    generalize hy : c :: t = y at h
    cases h with
    | nil => cases hx
    | star u t' t2 hm => injection hx with h1 _; exact absurd h1 ha
    | one a2 r2 c2 t2 h1 h2 h3 =>
      injection hx with e1 e2
      injection hy with e3 e4
      subst e1; subst e2; subst e3; subst e4
      rw [nextR_is] at h3
      exact ⟨h2, h3⟩
  · rintro ⟨h1, h2⟩
    exact Mt.one a r c t ha h1 (by rw [nextR_is]; exact h2)
theorem mt_nil_text {u : List UInt8} : Mt u [] ↔ ∀ c ∈ u, c = 42 := by
  constructor
  · intro h
    generalize hy : ([] : List UInt8) = y at h
    induction h with
    | nil => simp
    | star u t' t hm ih =>
      have h0 : t' = [] ∧ t = [] := by simpa using hy.symm
      intro c hc
      rcases List.mem_cons.1 hc with rfl | hc
      · rfl
      · exact ih h0.2.symm c hc
    | one => cases hy
  · intro h
    induction u with
    | nil => exact Mt.nil
    | cons a u ih =>
      have : a = 42 := h a (by simp)
      subst this
      exact Mt.star u [] [] (ih (fun c hc => h c (by simp [hc])))
theorem mt_star {u t : List UInt8} : Mt (42 :: u) t ↔ ∃ m, m ≤ t.length ∧ Mt u (t.drop m) := by
  constructor
  · intro h
    generalize hx : 42 :: u = x at h
    cases h with
    | nil => cases hx
    | star u2 t' t2 hm =>
      injection hx with _ e
      subst e
      exact ⟨t'.length, by simp, by simpa using hm⟩
    | one a2 r2 c2 t2 h1 h2 h3 => injection hx with e _; exact absurd e.symm h1
  · rintro ⟨m, hm, h⟩
    have := Mt.star u (t.take m) (t.drop m) h
    rwa [List.take_append_drop] at this
theorem mt_nil_pat {t : List UInt8} : Mt [] t ↔ t = [] := by
  constructor
  · intro h; cases h; rfl
  · rintro rfl; exact Mt.nil
theorem mt_some_text {a : UInt8} {r : List UInt8} (ha : a ≠ 42) : ¬ Mt (a :: r) [] := by
  intro h
  exact ha ((mt_nil_text.1 h) a (by simp))
/-- So many parts, none of them a run, on. -/
inductive Steps : List UInt8 → Nat → List UInt8 → Prop
  | zero (u : List UInt8) : Steps u 0 u
  | succ (u : List UInt8) (n : Nat) (a : UInt8) (r : List UInt8) : Steps u n (a :: r) → a ≠ 42 → Steps u (n + 1) (nextR a r)
theorem steps_mt {u v t : List UInt8} {n : Nat} (h : Steps u n v) (hm : Mt u t) : n ≤ t.length ∧ Mt v (t.drop n) := by
  induction h with
  | zero => exact ⟨Nat.zero_le _, by simpa using hm⟩
  | succ n a r hs ha ih =>
    obtain ⟨h1, h2⟩ := ih
    match hd : t.drop n with
    | [] => rw [hd] at h2; exact absurd h2 (mt_some_text ha)
    | c :: t' =>
      rw [hd] at h2
      have hlt : n < t.length := by
        refine Nat.lt_of_not_le fun hle => ?_
        rw [List.drop_eq_nil_iff.2 hle] at hd
        cases hd
      refine ⟨hlt, ?_⟩
      have : t.drop (n + 1) = t' := by
        rw [← List.drop_drop, hd]
        rfl
      rw [this]
      exact ((mt_one ha).1 h2).2
/-- Does the pattern still match: from here on, or from behind the last run on, of which more is taken. -/
def Wh (T u : List UInt8) (i : Nat) (ro : Option (List UInt8 × Nat)) : Prop :=
  Mt u (T.drop i) ∨ ∃ ru f, ro = some (ru, f) ∧ ∃ j, f < j ∧ j ≤ T.length ∧ Mt ru (T.drop j)
def Inv (T u : List UInt8) (i : Nat) (ro : Option (List UInt8 × Nat)) : Prop := ∀ ru f, ro = some (ru, f) → f ≤ i ∧ Steps ru (i - f) u
theorem wh_star {T u : List UInt8} {i : Nat} {ro : Option (List UInt8 × Nat)} (hi : i ≤ T.length) (hv : Inv T (42 :: u) i ro) : Wh T (42 :: u) i ro ↔ Wh T u i (some (u, i)) := by
  have star_at : ∀ q, q ≤ T.length → Mt (42 :: u) (T.drop q) → i ≤ q → Wh T u i (some (u, i)) := by
    intro q hq hm hiq
    obtain ⟨m, hm1, hm2⟩ := mt_star.1 hm
    rw [List.length_drop] at hm1
    rw [List.drop_drop] at hm2
    rcases Nat.eq_or_lt_of_le (show i ≤ q + m by omega) with h | h
    · rw [← h] at hm2; exact .inl hm2
    · exact .inr ⟨u, i, rfl, q + m, h, by omega, hm2⟩
  constructor
  · rintro (h | ⟨ru, f, hro, j, hj, hjl, hm⟩)
    · exact star_at i hi h (Nat.le_refl _)
    · obtain ⟨h1, h2⟩ := hv ru f hro
      obtain ⟨h3, h4⟩ := steps_mt h2 hm
      rw [List.length_drop] at h3
      rw [List.drop_drop] at h4
      exact star_at (j + (i - f)) (by omega) h4 (by omega)
  · rintro (h | ⟨ru, f, hro, j, hj, hjl, hm⟩)
    · exact .inl (mt_star.2 ⟨0, Nat.zero_le _, by simpa using h⟩)
    · injection hro with hro
      injection hro with e1 e2
      subst e1; subst e2
      refine .inl (mt_star.2 ⟨j - i, by rw [List.length_drop]; omega, ?_⟩)
      rw [List.drop_drop, show i + (j - i) = j by omega]
      exact hm
theorem wh_ok {T r : List UInt8} {a : UInt8} {i : Nat} {ro : Option (List UInt8 × Nat)} (hi : i < T.length) (ha : a ≠ 42) (ho : (oneP a r T[i]).1 = true) : Wh T (a :: r) i ro ↔ Wh T (nextR a r) (i + 1) ro := by
  unfold Wh
  rw [List.drop_eq_getElem_cons hi, mt_one ha]
  constructor
  · rintro (h | h)
    · exact .inl h.2
    · exact .inr h
  · rintro (h | h)
    · exact .inl ⟨ho, h⟩
    · exact .inr h
theorem inv_ok {T r : List UInt8} {a : UInt8} {i : Nat} {ro : Option (List UInt8 × Nat)} (ha : a ≠ 42) (hv : Inv T (a :: r) i ro) : Inv T (nextR a r) (i + 1) ro := by
  intro ru f hro
  obtain ⟨h1, h2⟩ := hv ru f hro
  refine ⟨by omega, ?_⟩
  rw [show i + 1 - f = (i - f) + 1 by omega]
  exact Steps.succ ru (i - f) a r h2 ha
theorem wh_back {T u ru : List UInt8} {i f : Nat} (hn : ¬ Mt u (T.drop i)) (hf : f < T.length) : Wh T u i (some (ru, f)) ↔ Wh T ru (f + 1) (some (ru, f + 1)) := by
  constructor
  · rintro (h | ⟨ru', f', hro, j, hj, hjl, hm⟩)
    · exact absurd h hn
    · injection hro with hro
      injection hro with e1 e2
      subst e1; subst e2
      rcases Nat.eq_or_lt_of_le (show f + 1 ≤ j by omega) with h | h
      · rw [← h] at hm; exact .inl hm
      · exact .inr ⟨ru, f + 1, rfl, j, h, hjl, hm⟩
  · rintro (h | ⟨ru', f', hro, j, hj, hjl, hm⟩)
    · exact .inr ⟨ru, f, rfl, f + 1, by omega, by omega, h⟩
    · injection hro with hro
      injection hro with e1 e2
      subst e1; subst e2
      exact .inr ⟨ru, f, rfl, j, by omega, hjl, hm⟩
theorem wh_end {T u : List UInt8} {i : Nat} {ro : Option (List UInt8 × Nat)} (hi : T.length ≤ i) (hi2 : i ≤ T.length) (hv : Inv T u i ro) : Wh T u i ro ↔ ∀ c ∈ u, c = 42 := by
  constructor
  · rintro (h | ⟨ru, f, hro, j, hj, hjl, hm⟩)
    · rw [List.drop_eq_nil_iff.2 hi] at h
      exact mt_nil_text.1 h
    · obtain ⟨h1, h2⟩ := hv ru f hro
      have := (steps_mt h2 hm).1
      rw [List.length_drop] at this
      omega
  · intro h
    refine .inl ?_
    rw [List.drop_eq_nil_iff.2 hi]
    exact mt_nil_text.2 h
theorem suffix_drop {u l : List UInt8} (h : u <:+ l) : l.drop (l.length - u.length) = u := by
  obtain ⟨p, rfl⟩ := h
  rw [List.length_append, show p.length + u.length - u.length = p.length by omega, List.drop_left]
theorem suffix_le {u l : List UInt8} (h : u <:+ l) : u.length ≤ l.length := h.length_le
section
variable (p s : ByteArray) (hp : p.size ≤ 140737488351232) (hs : s.size ≤ 140737488351232)
/-- A place of the pattern, by what stands from it on. -/
def pos (u : List UInt8) : Int := ((p.size - u.length : Nat) : Int)
theorem pos_at {a : UInt8} {r : List UInt8} (h : (a :: r) <:+ p.data.toList) : ∃ hlt : p.size - (a :: r).length < p.size, p.data.toList[p.size - (a :: r).length]'(at_ne p _ hlt) = a ∧ p.data.toList.drop (p.size - (a :: r).length + 1) = r := by
  have h1 := suffix_le h
  rw [← ba_size] at h1
  have h2 := suffix_drop h
  rw [← ba_size] at h2
  have hlt : p.size - (a :: r).length < p.size := by
    simp only [List.length_cons] at h1 ⊢
    omega
  refine ⟨hlt, ?_⟩
  rw [drop_at p _ hlt] at h2
  injection h2 with e1 e2
  exact ⟨e1, e2⟩
include hp in
theorem pos_succ {a : UInt8} {r : List UInt8} (h : (a :: r) <:+ p.data.toList) : wrap64 (pos p (a :: r) + 1) = pos p r := by
  have h1 := suffix_le h
  rw [← ba_size] at h1
  simp only [List.length_cons] at h1
  unfold pos
  rw [w64 (by simp only [List.length_cons]; omega) (by simp only [List.length_cons]; omega)]
  simp only [List.length_cons]
  omega
include hp in
theorem tail_ev : ∀ (u : List UInt8), u <:+ p.data.toList → ∃ b, Ev (fun k => glob_Match.l1 k p (pos p u)) b ∧ (b = true ↔ ∀ c ∈ u, c = 42)
  | [], h => by
    refine ⟨true, ?_, by simp⟩
    refine ev_round ?_
    simp only [glob_Match.l1]
    have e : pos p [] = (p.size : Int) := by unfold pos; simp
    rw [e]
    exact ev_neg (by omega) (ev_some (by simp))
  | a :: r, h => by
    obtain ⟨hlt, ha, hr⟩ := pos_at p h
    have h1 : pos p (a :: r) < (p.size : Int) := by unfold pos; omega
    have h0 : 0 ≤ pos p (a :: r) := by unfold pos; omega
    have hb : bt p (pos p (a :: r)) = (a.toNat : Int) := by unfold pos; rw [bt_nat p _ hlt, ha]
    by_cases h42 : a = 42
    · obtain ⟨b, hb1, hb2⟩ := tail_ev r ((List.suffix_cons a r).trans h)
      refine ⟨b, ?_, ?_⟩
      · refine ev_round ?_
        simp only [glob_Match.l1]
        refine ev_pos h1 (ev_pos h0 (ev_pos (by rw [hb, h42]; rfl) ?_))
        rw [pos_succ p hp h]
        exact hb1
      · rw [hb2]
        constructor
        · intro hc c hm
          rcases List.mem_cons.1 hm with rfl | hm
          · exact h42
          · exact hc c hm
        · intro hc c hm
          exact hc c (by simp [hm])
    · refine ⟨false, ?_, ?_⟩
      · refine ev_round ?_
        simp only [glob_Match.l1]
        refine ev_pos h1 (ev_pos h0 (ev_neg (by rw [hb]; exact fun he => h42 ((byte_eq' _ 42).1 he)) (ev_some ?_)))
        rw [beq_eq_false_iff_ne]
        exact Int.ne_of_lt h1
      · constructor
        · intro h; cases h
        · intro hc; exact absurd (hc a (by simp)) h42
/-- The run's place, as the program keeps it. -/
def runI (ro : Option (List UInt8 × Nat)) : Int := match ro with | none => -1 | some (ru, _) => pos p ru
def fromI (ro : Option (List UInt8 × Nat)) : Int := match ro with | none => 0 | some (_, f) => (f : Int)
def mu (u : List UInt8) (i : Nat) (ro : Option (List UInt8 × Nat)) : Nat :=
  (match ro with | none => s.size + 2 | some (_, f) => s.size + 1 - f) * (s.size + p.size + 2) + (s.size - i) + u.length
include hp hs in
theorem match_loop : ∀ (n : Nat) (u : List UInt8) (i : Nat) (ro : Option (List UInt8 × Nat)), u <:+ p.data.toList → i ≤ s.size → (∀ ru f, ro = some (ru, f) → ru <:+ p.data.toList) → Inv s.data.toList u i ro → mu p s u i ro ≤ n →
    ∃ b, Ev (fun k => glob_Match.l0 k p s (pos p u) (i : Int) (runI p ro) (fromI ro)) b ∧ (b = true ↔ Wh s.data.toList u i ro) := by
  intro n
  induction n using Nat.strongRecOn with
  | _ n ih =>
    intro u i ro hu hi hru hv hmu
    have hlen := ba_size s
    have hul := suffix_le hu
    rw [← ba_size] at hul
    rcases Nat.lt_or_ge i s.size with hlt | hge
    · have hltT : i < s.data.toList.length := by omega
      -- when nothing fits here
      have hfail : ¬ Mt u (s.data.toList.drop i) → ∃ b, Ev (fun k => if runI p ro < 0 then some false else glob_Match.l0 k p s (runI p ro) (wrap64 (fromI ro + 1)) (runI p ro) (wrap64 (fromI ro + 1))) b ∧ (b = true ↔ Wh s.data.toList u i ro) := by
        intro hn
        match ro, hru, hv, hmu with
        | none, hru, hv, hmu =>
          refine ⟨false, ev_pos (by simp [runI]) (ev_some rfl), ?_⟩
          constructor
          · intro h; cases h
          · rintro (h | ⟨_, _, h, _⟩)
            · exact absurd h hn
            · cases h
        | some (ru, f), hru, hv, hmu =>
          obtain ⟨h1, h2⟩ := hv ru f rfl
          have hrul := suffix_le (hru ru f rfl)
          rw [← ba_size] at hrul
          obtain ⟨b, hb1, hb2⟩ := ih (mu p s ru (f + 1) (some (ru, f + 1))) (by
            refine Nat.lt_of_lt_of_le ?_ hmu
            unfold mu
            simp only
            obtain ⟨q, hq⟩ : ∃ q, s.size + 1 - f = q + 1 := ⟨s.size - f, by omega⟩
            rw [show s.size + 1 - (f + 1) = q by omega, hq, Nat.add_mul]
            omega) ru (f + 1) (some (ru, f + 1)) (hru ru f rfl) (by omega) (fun ru' f' he => by injection he with he; injection he with e1 e2; subst e1; exact hru ru f rfl)
            (fun ru' f' he => by injection he with he; injection he with e1 e2; subst e1; subst e2; exact ⟨Nat.le_refl _, by rw [Nat.sub_self]; exact Steps.zero _⟩) (Nat.le_refl _)
          refine ⟨b, ?_, by rw [hb2]; exact (wh_back hn (by omega)).symm⟩
          refine ev_neg (by simp only [runI, pos]; omega) ?_
          have e : wrap64 (fromI (some (ru, f)) + 1) = ((f + 1 : Nat) : Int) := by simp only [fromI]; rw [w64 (by omega) (by omega)]; omega
          rw [e]
          exact hb1
      match u, hu, hv, hmu, hul, hfail with
      | [], hu, hv, hmu, hul, hfail =>
        obtain ⟨b, hb1, hb2⟩ := hfail (by rw [mt_nil_pat, List.drop_eq_nil_iff]; omega)
        refine ⟨b, ?_, hb2⟩
        refine ev_round ?_
        simp only [glob_Match.l0]
        refine ev_pos (by omega) (ev_neg (by simp [pos]) hb1)
      | a :: r, hu, hv, hmu, hul, hfail =>
        obtain ⟨hplt, ha, hr⟩ := pos_at p hu
        have h1 : pos p (a :: r) < (p.size : Int) := by unfold pos; omega
        have h0 : 0 ≤ pos p (a :: r) := by unfold pos; omega
        have hb : bt p (pos p (a :: r)) = (a.toNat : Int) := by unfold pos; rw [bt_nat p _ hplt, ha]
        by_cases h42 : a = 42
        · subst h42
          obtain ⟨b, hb1, hb2⟩ := ih (mu p s r i (some (r, i))) (by
            refine Nat.lt_of_lt_of_le ?_ hmu
            unfold mu
            simp only [List.length_cons]
            match ro, hv with
            | none, hv =>
              simp only
              have := Nat.mul_le_mul_right (s.size + p.size + 2) (show s.size + 1 - i ≤ s.size + 2 by omega)
              omega
            | some (ru, f), hv =>
              simp only
              have hf := (hv ru f rfl).1
              have := Nat.mul_le_mul_right (s.size + p.size + 2) (show s.size + 1 - i ≤ s.size + 1 - f by omega)
              omega) r i (some (r, i)) ((List.suffix_cons _ _).trans hu) hi (fun ru' f' he => by injection he with he; injection he with e1 e2; subst e1; exact (List.suffix_cons _ _).trans hu)
            (fun ru' f' he => by injection he with he; injection he with e1 e2; subst e1; subst e2; exact ⟨Nat.le_refl _, by rw [Nat.sub_self]; exact Steps.zero _⟩) (Nat.le_refl _)
          refine ⟨b, ?_, by rw [hb2]; exact (wh_star (by omega) hv).symm⟩
          refine ev_round ?_
          simp only [glob_Match.l0]
          refine ev_pos (by omega) (ev_pos h1 (ev_pos h0 (ev_pos (by rw [hb]; rfl) ?_)))
          rw [pos_succ p hp hu]
          exact hb1
        · have hone := one_ev p hp (s.data.toList[i]'hltT) (p.size - (a :: r).length) hplt
          rw [ha, hr] at hone
          have hposn : ((p.size - (oneP a r (s.data.toList[i]'hltT)).2.length : Nat) : Int) = pos p (nextR a r) := by rw [nextR_is]; rfl
          rw [hposn] at hone
          have hgo : ∀ {b : Bool}, Ev (fun k => if (oneP a r (s.data.toList[i]'hltT)).1 = true then glob_Match.l0 k p s (pos p (nextR a r)) (wrap64 ((i : Int) + 1)) (runI p ro) (fromI ro) else if runI p ro < 0 then some false else glob_Match.l0 k p s (runI p ro) (wrap64 (fromI ro + 1)) (runI p ro) (wrap64 (fromI ro + 1))) b →
              Ev (fun k => glob_Match.l0 k p s (pos p (a :: r)) (i : Int) (runI p ro) (fromI ro)) b := by
            intro b hb2
            refine ev_round ?_
            simp only [glob_Match.l0]
            refine ev_pos (by omega) (ev_pos h1 (ev_pos h0 (ev_neg (by rw [hb]; exact fun he => h42 ((byte_eq' _ 42).1 he)) (ev_pos (by omega) ?_))))
            rw [bt_nat s i hlt]
            exact ev_bind hone hb2
          by_cases ho : (oneP a r (s.data.toList[i]'hltT)).1 = true
          · have hnx := nextR_lt a r
            obtain ⟨b, hb1, hb2⟩ := ih (mu p s (nextR a r) (i + 1) ro) (by
              refine Nat.lt_of_lt_of_le ?_ hmu
              unfold mu
              omega) (nextR a r) (i + 1) ro ((nextR_suffix a r).trans ((List.suffix_cons _ _).trans hu)) (by omega) hru (inv_ok h42 hv) (Nat.le_refl _)
            refine ⟨b, hgo (ev_pos ho ?_), by rw [hb2]; exact (wh_ok hltT h42 ho).symm⟩
            have e : wrap64 ((i : Int) + 1) = ((i + 1 : Nat) : Int) := by rw [w64 (by omega) (by omega)]; omega
            rw [e]
            exact hb1
          · obtain ⟨b, hb1, hb2⟩ := hfail (by
              rw [List.drop_eq_getElem_cons hltT, mt_one h42]
              exact fun h => ho h.1)
            exact ⟨b, hgo (ev_neg ho hb1), hb2⟩
    · obtain ⟨b, hb1, hb2⟩ := tail_ev p hp u hu
      refine ⟨b, ?_, by rw [hb2]; exact (wh_end (by omega) (by omega) hv).symm⟩
      refine ev_round ?_
      simp only [glob_Match.l0]
      exact ev_neg (by omega) hb1
include hp hs in
theorem match_ev : ∃ b, Ev (fun k => glob_Match.f k p s) b ∧ (b = true ↔ Mt p.data.toList s.data.toList) := by
  obtain ⟨b, hb1, hb2⟩ := match_loop p s hp hs _ p.data.toList 0 none (List.suffix_refl _) (Nat.zero_le _) (fun _ _ h => by cases h) (fun _ _ h => by cases h) (Nat.le_refl _)
  refine ⟨b, ?_, ?_⟩
  · unfold glob_Match.f
    have e : pos p p.data.toList = 0 := by unfold pos; rw [← ba_size]; simp
    rw [e] at hb1
    exact hb1
  · rw [hb2]
    constructor
    · rintro (h | ⟨_, _, h, _⟩)
      · simpa using h
      · cases h
    · intro h
      exact .inl (by simpa using h)
end
end Go.Proofs.Ytncdoanemfnjjaa.Gl
