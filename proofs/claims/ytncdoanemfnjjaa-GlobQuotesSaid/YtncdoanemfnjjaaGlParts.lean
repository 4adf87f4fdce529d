/- The document's parts of a pattern, and what its table of reaches comes to: plain, no memory. -/
import Derived.Test.YtncdoanemfnjjaaGlobMatch
namespace Go.Proofs.Ytncdoanemfnjjaa.Gl
set_option linter.unusedVariables false
set_option linter.unusedSimpArgs false
/-- A part: its kind, and which bytes it has. -/
abbrev PV := Int × (Nat → Bool)
def partOf (a : UInt8) (r : List UInt8) : PV :=
  if a = 42 then (1, fun _ => false) else if a = 63 then (2, fun _ => false) else if a = 91 then (3, fun c => (clsP r (UInt8.ofNat c)).1)
  else if a = 92 then (match r with | [] => (4, fun c => c == a.toNat) | d :: _ => (4, fun c => c == d.toNat)) else (4, fun c => c == a.toNat)
def restOf (a : UInt8) (r : List UInt8) : List UInt8 := if a = 42 then r else nextR a r
theorem restOf_lt (a : UInt8) (r : List UInt8) : (restOf a r).length < (a :: r).length := by
  unfold restOf
  by_cases h : a = 42
  · rw [if_pos h]; simp
  · rw [if_neg h]; exact nextR_lt a r
theorem restOf_suffix (a : UInt8) (r : List UInt8) : restOf a r <:+ r := by
  unfold restOf
  by_cases h : a = 42
  · rw [if_pos h]; exact List.suffix_refl _
  · rw [if_neg h]; exact nextR_suffix a r
def partsL : List UInt8 → List PV
  | [] => []
  | a :: r => partOf a r :: partsL (restOf a r)
termination_by u => u.length
decreasing_by exact restOf_lt a r
theorem partsL_nil : partsL [] = [] := by rw [partsL]
theorem partsL_cons (a : UInt8) (r : List UInt8) : partsL (a :: r) = partOf a r :: partsL (restOf a r) := by rw [partsL]
theorem parts_len : ∀ (n : Nat) (u : List UInt8), u.length ≤ n → (partsL u).length ≤ u.length := by
  intro n
  induction n with
  | zero =>
    intro u hu
    have : u = [] := List.length_eq_zero_iff.1 (by omega)
    subst this
    rw [partsL_nil]; exact Nat.le_refl _
  | succ n ih =>
    intro u hu
    match u with
    | [] => rw [partsL_nil]; exact Nat.le_refl _
    | a :: r =>
      have h1 := restOf_lt a r
      have h2 := ih (restOf a r) (by simp only [List.length_cons] at hu h1; omega)
      rw [partsL_cons]
      simp only [List.length_cons] at h1 ⊢
      omega
theorem partOf_kind (a : UInt8) (r : List UInt8) : (partOf a r).1 = 1 ∨ (partOf a r).1 = 2 ∨ (partOf a r).1 = 3 ∨ (partOf a r).1 = 4 := by
  unfold partOf
  by_cases h : a = 42
  · rw [if_pos h]; simp
  rw [if_neg h]
  by_cases h63 : a = 63
  · rw [if_pos h63]; simp
  rw [if_neg h63]
  by_cases h91 : a = 91
  · rw [if_pos h91]; simp
  rw [if_neg h91]
  by_cases h92 : a = 92
  · rw [if_pos h92]
    match r with
    | [] => simp
    | d :: r' => simp
  · rw [if_neg h92]; simp
theorem parts_kind : ∀ (n : Nat) (u : List UInt8), u.length ≤ n → ∀ p ∈ partsL u, p.1 = 1 ∨ p.1 = 2 ∨ p.1 = 3 ∨ p.1 = 4 := by
  intro n
  induction n with
  | zero =>
    intro u hu
    have : u = [] := List.length_eq_zero_iff.1 (by omega)
    subst this
    rw [partsL_nil]
    intro p hp; cases hp
  | succ n ih =>
    intro u hu
    match u with
    | [] => rw [partsL_nil]; intro p hp; cases hp
    | a :: r =>
      have h1 := restOf_lt a r
      rw [partsL_cons]
      intro p hp
      rcases List.mem_cons.1 hp with rfl | hp
      · exact partOf_kind a r
      · exact ih (restOf a r) (by simp only [List.length_cons] at hu h1; omega) p hp
/-- Does a part that is no run have a byte? -/
def hits (p : PV) (c : UInt8) : Bool := p.1 == 2 || p.2 c.toNat
theorem ofNat_toNat (c : UInt8) : UInt8.ofNat c.toNat = c := by simp
theorem byte_nat (a b : UInt8) : (a.toNat == b.toNat) = (b == a) := by
  by_cases h : a = b
  · subst h; simp
  · have h1 : ¬ b = a := fun e => h e.symm
    have h2 : ¬ a.toNat = b.toNat := fun e => h (UInt8.toNat_inj.1 e)
    rw [beq_eq_false_iff_ne.2 h2, beq_eq_false_iff_ne.2 h1]
theorem hits_one (a : UInt8) (r : List UInt8) (ha : a ≠ 42) (c : UInt8) : hits (partOf a r) c = (oneP a r c).1 := by
  unfold hits partOf oneP
  rw [if_neg ha]
  by_cases h63 : a = 63
  · rw [if_pos h63, if_pos h63]; rfl
  rw [if_neg h63, if_neg h63]
  by_cases h91 : a = 91
  · rw [if_pos h91, if_pos h91]; simp
  rw [if_neg h91, if_neg h91]
  by_cases h92 : a = 92
  · rw [if_pos h92, if_pos h92]
    match r with
    | [] => show (false || (c.toNat == a.toNat)) = _; rw [Bool.false_or, byte_nat]
    | d :: r' => show (false || (c.toNat == d.toNat)) = _; rw [Bool.false_or, byte_nat]
  · rw [if_neg h92, if_neg h92]
    show (false || (c.toNat == a.toNat)) = _
    rw [Bool.false_or, byte_nat]
theorem kind_one (a : UInt8) (r : List UInt8) : ((partOf a r).1 = 1) ↔ a = 42 := by
  unfold partOf
  by_cases h : a = 42
  · rw [if_pos h]; simp [h]
  rw [if_neg h]
  by_cases h63 : a = 63
  · rw [if_pos h63]; simp [h]
  rw [if_neg h63]
  by_cases h91 : a = 91
  · rw [if_pos h91]; simp [h]
  rw [if_neg h91]
  by_cases h92 : a = 92
  · rw [if_pos h92]
    match r with
    | [] => simp [h]
    | d :: r' => simp [h]
  · rw [if_neg h92]; simp [h]
/-- The next table of reaches. -/
def runF (f : Nat → Bool) : Nat → Bool
  | 0 => f 0
  | i + 1 => f (i + 1) || runF f i
def stepF (s : List UInt8) (f : Nat → Bool) (p : PV) : Nat → Bool := if p.1 = 1 then runF f else fun i => match i with
  | 0 => false
  | i + 1 => f i && hits p (s.getD i 0)
theorem runF_iff (f : Nat → Bool) : ∀ j, runF f j = true ↔ ∃ i, i ≤ j ∧ f i = true := by
  intro j
  induction j with
  | zero =>
    constructor
    · exact fun h => ⟨0, Nat.le_refl _, h⟩
    · rintro ⟨i, hi, h⟩
      have : i = 0 := by omega
      subst this; exact h
  | succ j ih =>
    show (f (j + 1) || runF f j) = true ↔ _
    rw [Bool.or_eq_true, ih]
    constructor
    · rintro (h | ⟨i, hi, h⟩)
      · exact ⟨j + 1, Nat.le_refl _, h⟩
      · exact ⟨i, by omega, h⟩
    · rintro ⟨i, hi, h⟩
      by_cases he : i = j + 1
      · subst he; exact .inl h
      · exact .inr ⟨i, by omega, h⟩
theorem fold_mt (s : List UInt8) : ∀ (n : Nat) (u : List UInt8), u.length ≤ n → ∀ f : Nat → Bool, ((partsL u).foldl (stepF s) f) s.length = true ↔ ∃ i, i ≤ s.length ∧ f i = true ∧ Mt u (s.drop i) := by
  intro n
  induction n with
  | zero =>
    intro u hu f
    have : u = [] := List.length_eq_zero_iff.1 (by omega)
    subst this
    rw [partsL_nil]
    constructor
    · exact fun h => ⟨s.length, Nat.le_refl _, h, by rw [List.drop_length]; exact Mt.nil⟩
    · rintro ⟨i, hi, h, hm⟩
      have := mt_nil_pat.1 hm
      have h2 : i = s.length := by
        have := congrArg List.length this
        simp at this
        omega
      subst h2; exact h
  | succ n ih =>
    intro u hu f
    match u with
    | [] =>
      rw [partsL_nil]
      constructor
      · exact fun h => ⟨s.length, Nat.le_refl _, h, by rw [List.drop_length]; exact Mt.nil⟩
      · rintro ⟨i, hi, h, hm⟩
        have := mt_nil_pat.1 hm
        have h2 : i = s.length := by
          have := congrArg List.length this
          simp at this
          omega
        subst h2; exact h
    | a :: r =>
      rw [partsL_cons, List.foldl_cons, ih _ (by have := restOf_lt a r; simp only [List.length_cons] at this hu; omega)]
      by_cases ha : a = 42
      · have hk := (kind_one a r).2 ha
        have hr : restOf a r = r := if_pos ha
        rw [hr]
        have hs : stepF s f (partOf a r) = runF f := if_pos hk
        rw [hs]
        subst ha
        constructor
        · rintro ⟨j, hj, h, hm⟩
          obtain ⟨i, hi, hf⟩ := (runF_iff f j).1 h
          refine ⟨i, by omega, hf, mt_star.2 ⟨j - i, by simp; omega, ?_⟩⟩
          rw [List.drop_drop, show i + (j - i) = j by omega]
          exact hm
        · rintro ⟨i, hi, hf, hm⟩
          obtain ⟨m, hm1, hm2⟩ := mt_star.1 hm
          rw [List.drop_drop] at hm2
          simp at hm1
          exact ⟨i + m, by omega, (runF_iff f _).2 ⟨i, by omega, hf⟩, hm2⟩
      · have hk : ¬ (partOf a r).1 = 1 := fun e => ha ((kind_one a r).1 e)
        have hr : restOf a r = nextR a r := if_neg ha
        rw [hr]
        have hs : ∀ i, stepF s f (partOf a r) (i + 1) = (f i && hits (partOf a r) (s.getD i 0)) := fun i => by unfold stepF; rw [if_neg hk]
        have hs0 : stepF s f (partOf a r) 0 = false := by unfold stepF; rw [if_neg hk]
        constructor
        · rintro ⟨j, hj, h, hm⟩
          match j with
          | 0 => rw [hs0] at h; cases h
          | i + 1 =>
            rw [hs, Bool.and_eq_true, hits_one a r ha] at h
            refine ⟨i, by omega, h.1, ?_⟩
            have hi : i < s.length := by omega
            rw [List.drop_eq_getElem_cons hi]
            refine (mt_one ha).2 ⟨?_, hm⟩
            have e : s.getD i 0 = s[i] := by rw [List.getD_eq_getElem?_getD, List.getElem?_eq_getElem hi]; rfl
            rw [← e]; exact h.2
        · rintro ⟨i, hi, hf, hm⟩
          by_cases hlt : i < s.length
          · rw [List.drop_eq_getElem_cons hlt] at hm
            obtain ⟨h1, h2⟩ := (mt_one ha).1 hm
            refine ⟨i + 1, by omega, ?_, h2⟩
            rw [hs, Bool.and_eq_true, hits_one a r ha]
            have e : s.getD i 0 = s[i] := by rw [List.getD_eq_getElem?_getD, List.getElem?_eq_getElem hlt]; rfl
            rw [e]; exact ⟨hf, h1⟩
          · have : s.drop i = [] := List.drop_eq_nil_iff.2 (by omega)
            rw [this] at hm
            exact absurd hm (mt_some_text ha)
/-- The document's answer: the last reach, of the beginning alone. -/
def matchL (u s : List UInt8) : Bool := ((partsL u).foldl (stepF s) (fun i => i == 0)) s.length
theorem matchL_mt (u s : List UInt8) : matchL u s = true ↔ Mt u s := by
  unfold matchL
  rw [fold_mt s _ u (Nat.le_refl _)]
  constructor
  · rintro ⟨i, hi, h, hm⟩
    have : i = 0 := by simpa using h
    subst this
    exact hm
  · exact fun h => ⟨0, Nat.zero_le _, rfl, h⟩
end Go.Proofs.Ytncdoanemfnjjaa.Gl
namespace Go.Proofs.Ytncdoanemfnjjaa.Gl
/-- An item of a class: from which byte to which one, and how many bytes it takes. -/
def itemN : List UInt8 → Nat × Nat × Nat
  | [] => (0, 0, 1)
  | [a] => (a.toNat, a.toNat, 1)
  | [a, d] => if a = 92 then (d.toNat, d.toNat, 2) else (a.toNat, a.toNat, 1)
  | a :: d :: b :: _ => if a = 92 then (d.toNat, d.toNat, 2) else if d = 45 ∧ b ≠ 93 then (min a.toNat b.toNat, max a.toNat b.toNat, 3) else (a.toNat, a.toNat, 1)
theorem itemN1 (a : UInt8) : itemN [a] = (a.toNat, a.toNat, 1) := rfl
theorem itemN2 (a d : UInt8) : itemN [a, d] = if a = 92 then (d.toNat, d.toNat, 2) else (a.toNat, a.toNat, 1) := rfl
theorem itemN3 (a d b : UInt8) (r : List UInt8) : itemN (a :: d :: b :: r) = if a = 92 then (d.toNat, d.toNat, 2) else if d = 45 ∧ b ≠ 93 then (min a.toNat b.toNat, max a.toNat b.toNat, 3) else (a.toNat, a.toNat, 1) := rfl
def inN (lo hi c : Nat) : Bool := decide (lo ≤ c) && decide (c ≤ hi)
theorem inN_one (a c : UInt8) : inN a.toNat a.toNat c.toNat = (a == c) := by
  unfold inN
  by_cases h : a = c
  · subst h; simp
  · have h2 : ¬ a.toNat = c.toNat := fun e => h (UInt8.toNat_inj.1 e)
    rw [beq_eq_false_iff_ne.2 h, Bool.and_eq_false_iff]
    by_cases h3 : a.toNat ≤ c.toNat
    · right; exact decide_eq_false (by omega)
    · left; exact decide_eq_false h3
theorem clsI_item (c : UInt8) (has : Bool) (a : UInt8) (r : List UInt8) (h93 : a ≠ 93) : clsI c has (a :: r) = clsI c (has || inN (itemN (a :: r)).1 (itemN (a :: r)).2.1 c.toNat) ((a :: r).drop (itemN (a :: r)).2.2) := by
  match r with
  | [] =>
    rw [clsI_one c has a h93]
    show _ = clsI c (has || inN a.toNat a.toNat c.toNat) []
    rw [inN_one]
  | [d] =>
    by_cases h92 : a = 92
    · subst h92
      rw [clsI_esc]
      show _ = clsI c (has || inN d.toNat d.toNat c.toNat) []
      rw [inN_one]
    · have e : itemN [a, d] = (a.toNat, a.toNat, 1) := by rw [itemN2, if_neg h92]
      rw [clsI_two c has a d h93 h92, e]
      show _ = clsI c (has || inN a.toNat a.toNat c.toNat) [d]
      rw [inN_one]
  | d :: b :: r =>
    by_cases h92 : a = 92
    · subst h92
      rw [clsI_esc]
      show _ = clsI c (has || inN d.toNat d.toNat c.toNat) (b :: r)
      rw [inN_one]
    by_cases hd : d = 45 ∧ b ≠ 93
    · have e : itemN (a :: d :: b :: r) = (min a.toNat b.toNat, max a.toNat b.toNat, 3) := by rw [itemN3, if_neg h92, if_pos hd]
      rw [e]
      conv => lhs; unfold clsI
      rw [if_neg h93, if_neg h92, if_pos hd]
      rfl
    · have e : itemN (a :: d :: b :: r) = (a.toNat, a.toNat, 1) := by rw [itemN3, if_neg h92, if_neg hd]
      rw [e]
      conv => lhs; unfold clsI
      rw [if_neg h93, if_neg h92, if_neg hd]
      show _ = clsI c (has || inN a.toNat a.toNat c.toNat) (d :: b :: r)
      rw [inN_one]
theorem item_pos (a : UInt8) (r : List UInt8) : 1 ≤ (itemN (a :: r)).2.2 ∧ (itemN (a :: r)).2.2 ≤ (a :: r).length ∧ (itemN (a :: r)).1 ≤ (itemN (a :: r)).2.1 ∧ (itemN (a :: r)).2.1 < 256 := by
  have ha : a.toNat < 256 := UInt8.toNat_lt a
  match r with
  | [] =>
    rw [itemN1]
    exact ⟨Nat.le_refl _, Nat.le_refl _, Nat.le_refl _, ha⟩
  | [d] =>
    have hd : d.toNat < 256 := UInt8.toNat_lt d
    rw [itemN2]
    by_cases h92 : a = 92
    · rw [if_pos h92]; exact ⟨by simp, Nat.le_refl _, Nat.le_refl _, hd⟩
    · rw [if_neg h92]; exact ⟨by simp, by simp, Nat.le_refl _, ha⟩
  | d :: b :: r =>
    have hd : d.toNat < 256 := UInt8.toNat_lt d
    have hb : b.toNat < 256 := UInt8.toNat_lt b
    rw [itemN3]
    by_cases h92 : a = 92
    · rw [if_pos h92]; exact ⟨by simp, by simp, Nat.le_refl _, hd⟩
    rw [if_neg h92]
    by_cases he : d = 45 ∧ b ≠ 93
    · rw [if_pos he]; exact ⟨by simp, by simp, by simp only; omega, by simp only; omega⟩
    · rw [if_neg he]; exact ⟨by simp, by simp, Nat.le_refl _, ha⟩
end Go.Proofs.Ytncdoanemfnjjaa.Gl
