/- The plain laws of lines: arguments split and joined. -/
namespace Go.Proofs.Ythelnfnkhcjngaa.LM
set_option linter.unusedVariables false
set_option linter.unusedSimpArgs false
def isBl (c : UInt8) : Bool := c == 32 || c == 9
def hexd (c : UInt8) : Nat := if 48 ≤ c.toNat ∧ c.toNat ≤ 57 then c.toNat - 48 else if 97 ≤ c.toNat ∧ c.toNat ≤ 102 then c.toNat - 87 else if 65 ≤ c.toNat ∧ c.toNat ≤ 70 then c.toNat - 55 else 16
def esc (c : UInt8) : UInt8 := if c = 110 then 10 else if c = 114 then 13 else if c = 116 then 9 else if c = 98 then 8 else if c = 97 then 7 else c
/-- A turn's byte, and what is behind it. -/
def turnL (x : UInt8) (r : List UInt8) : UInt8 × List UInt8 :=
  if x = 120 ∧ 2 ≤ r.length ∧ hexd (r.getD 0 0) < 16 ∧ hexd (r.getD 1 0) < 16 then (UInt8.ofNat (16 * hexd (r.getD 0 0) + hexd (r.getD 1 0)), r.drop 2) else (esc x, r)
/-- A byte between quotes, and what is behind it. -/
def stepL (m c : UInt8) (r : List UInt8) : UInt8 × List UInt8 :=
  match r with
  | [] => (c, [])
  | x :: r' => if c = 92 ∧ m = 34 then turnL x r' else if c = 92 ∧ m = 39 ∧ x = 39 then (39, r') else (c, r)
theorem turnL_le (x : UInt8) (r : List UInt8) : (turnL x r).2.length ≤ r.length := by
  unfold turnL; split <;> simp
theorem stepL_le (m c : UInt8) (r : List UInt8) : (stepL m c r).2.length ≤ r.length := by
  unfold stepL
  split
  · simp
  · rename_i x r'
    split
    · have := turnL_le x r'; simp; omega
    · split <;> simp
def endsL : List UInt8 → Bool
  | [] => true
  | c :: _ => isBl c
def quotedL (m : UInt8) (l : List UInt8) : Option (List UInt8 × List UInt8) :=
  match l with
  | [] => none
  | c :: r => if c = m then (if endsL r then some ([], r) else none) else (quotedL m (stepL m c r).2).map fun p => ((stepL m c r).1 :: p.1, p.2)
termination_by l.length
decreasing_by exact Nat.lt_succ_of_le (stepL_le m c r)
theorem quotedL_nil (m : UInt8) : quotedL m [] = none := by rw [quotedL]
theorem quotedL_cons (m c : UInt8) (r : List UInt8) : quotedL m (c :: r) = if c = m then (if endsL r then some ([], r) else none) else (quotedL m (stepL m c r).2).map fun p => ((stepL m c r).1 :: p.1, p.2) := by rw [quotedL]
def wordL : List UInt8 → Option (List UInt8 × List UInt8)
  | [] => some ([], [])
  | c :: r => if isBl c then some ([], c :: r) else if c = 34 ∨ c = 39 then quotedL c r else (wordL r).map fun p => (c :: p.1, p.2)
/-- What is left behind a quote ends. -/
theorem quotedL_ends (m : UInt8) : ∀ (n : Nat) (l : List UInt8), l.length ≤ n → ∀ x r, quotedL m l = some (x, r) → endsL r = true ∧ r.length < l.length
  | 0, l, hl, x, r, h => by
    have : l = [] := List.length_eq_zero_iff.1 (by omega)
    subst this; rw [quotedL_nil] at h; cases h
  | n + 1, [], hl, x, r, h => by rw [quotedL_nil] at h; cases h
  | n + 1, c :: r', hl, x, r, h => by
    rw [quotedL_cons] at h
    have hs := stepL_le m c r'
    simp only [List.length_cons] at hl ⊢
    split at h
    · split at h
      · rename_i he
        simp only [Option.some.injEq, Prod.mk.injEq] at h
        obtain ⟨rfl, rfl⟩ := h
        exact ⟨he, by omega⟩
      · cases h
    · simp only [Option.map_eq_some_iff] at h
      obtain ⟨⟨p1, p2⟩, hp, hq⟩ := h
      simp only [Prod.mk.injEq] at hq
      obtain ⟨rfl, rfl⟩ := hq
      have := quotedL_ends m n _ (by omega) _ _ hp
      exact ⟨this.1, by omega⟩
theorem wordL_ends : ∀ (l x r : List UInt8), wordL l = some (x, r) → endsL r = true ∧ r.length ≤ l.length
  | [], x, r, h => by simp [wordL] at h; obtain ⟨rfl, rfl⟩ := h; exact ⟨rfl, by simp⟩
  | c :: l, x, r, h => by
    rw [wordL] at h
    split at h
    · rename_i hb
      simp only [Option.some.injEq, Prod.mk.injEq] at h
      obtain ⟨rfl, rfl⟩ := h
      exact ⟨hb, by simp⟩
    · split at h
      · have := quotedL_ends _ _ _ (Nat.le_refl _) _ _ h
        exact ⟨this.1, by simp; omega⟩
      · simp only [Option.map_eq_some_iff] at h
        obtain ⟨⟨p1, p2⟩, hp, hq⟩ := h
        simp only [Prod.mk.injEq] at hq
        obtain ⟨rfl, rfl⟩ := hq
        have := wordL_ends l _ _ hp
        exact ⟨this.1, by simp; omega⟩
theorem wordL_lt (c : UInt8) (l x r : List UInt8) (hc : isBl c = false) (h : wordL (c :: l) = some (x, r)) : r.length < (c :: l).length := by
  rw [wordL, if_neg (by simp [hc])] at h
  split at h
  · have := quotedL_ends _ _ _ (Nat.le_refl _) _ _ h
    simp; omega
  · simp only [Option.map_eq_some_iff] at h
    obtain ⟨⟨p1, p2⟩, hp, hq⟩ := h
    simp only [Prod.mk.injEq] at hq
    obtain ⟨rfl, rfl⟩ := hq
    have := wordL_ends l _ _ hp
    simp; omega
/-- The arguments of a line. -/
def splitL (l : List UInt8) : Option (List (List UInt8)) :=
  match l with
  | [] => some []
  | c :: r => if hc : isBl c then splitL r else
    match hw : wordL (c :: r) with
    | none => none
    | some (w, rest) => (splitL rest).map (w :: ·)
termination_by l.length
decreasing_by
  · simp
  · exact wordL_lt c r w rest (by simpa using hc) hw
theorem splitL_nil : splitL [] = some [] := by rw [splitL]
theorem splitL_blank (c : UInt8) (r : List UInt8) (h : isBl c = true) : splitL (c :: r) = splitL r := by rw [splitL, dif_pos h]
theorem splitL_none (c : UInt8) (r : List UInt8) (h : isBl c = false) (hw : wordL (c :: r) = none) : splitL (c :: r) = none := by
  rw [splitL, dif_neg (by simp [h])]
  split
  · rfl
  · rename_i w rest h2; rw [hw] at h2; cases h2
theorem splitL_some (c : UInt8) (r w rest : List UInt8) (h : isBl c = false) (hw : wordL (c :: r) = some (w, rest)) : splitL (c :: r) = (splitL rest).map (w :: ·) := by
  rw [splitL, dif_neg (by simp [h])]
  split
  · rename_i h2; rw [hw] at h2; cases h2
  · rename_i w' rest' h2
    rw [hw] at h2
    simp only [Option.some.injEq, Prod.mk.injEq] at h2
    obtain ⟨rfl, rfl⟩ := h2
    rfl
/-- The document's way: a byte at a time. -/
def refL (l : List UInt8) (q : UInt8) (op cl : Bool) (now : List UInt8) (out : List (List UInt8)) : Option (List (List UInt8)) :=
  match l with
  | [] => if q ≠ 0 then none else if op then some (out ++ [now]) else some out
  | c :: r => if cl && !isBl c then none
    else if q = 0 then (if isBl c then refL r 0 false false [] (if op then out ++ [now] else out) else if c = 34 ∨ c = 39 then refL r c true false now out else refL r 0 true false (now ++ [c]) out)
    else if c = q then refL r 0 op true now out
    else refL (stepL q c r).2 q op false (now ++ [(stepL q c r).1]) out
termination_by l.length
decreasing_by
  · simp
  · simp
  · simp
  · simp
  · exact Nat.lt_succ_of_le (stepL_le q c r)
theorem refL_nil (q : UInt8) (op cl : Bool) (now out) : refL [] q op cl now out = if q ≠ 0 then none else if op then some (out ++ [now]) else some out := by rw [refL]
theorem refL_cons (c : UInt8) (r : List UInt8) (q : UInt8) (op cl : Bool) (now out) : refL (c :: r) q op cl now out = if cl && !isBl c then none
    else if q = 0 then (if isBl c then refL r 0 false false [] (if op then out ++ [now] else out) else if c = 34 ∨ c = 39 then refL r c true false now out else refL r 0 true false (now ++ [c]) out)
    else if c = q then refL r 0 op true now out
    else refL (stepL q c r).2 q op false (now ++ [(stepL q c r).1]) out := by rw [refL]
theorem refL_shut (c : UInt8) (r : List UInt8) (q : UInt8) (op : Bool) (now out) (h : isBl c = false) : refL (c :: r) q op true now out = none := by
  rw [refL_cons, if_pos (show (true && !isBl c) = true by simp [h])]
theorem refL_gap (c : UInt8) (r : List UInt8) (op cl : Bool) (now out) (h : isBl c = true) : refL (c :: r) 0 op cl now out = refL r 0 false false [] (if op then out ++ [now] else out) := by
  rw [refL_cons, if_neg (show ¬ (cl && !isBl c) = true by simp [h]), if_pos (show (0 : UInt8) = 0 from rfl), if_pos h]
theorem refL_mark (c : UInt8) (r : List UInt8) (op : Bool) (now out) (h : isBl c = false) (hq : c = 34 ∨ c = 39) : refL (c :: r) 0 op false now out = refL r c true false now out := by
  rw [refL_cons, if_neg (show ¬ (false && !isBl c) = true by simp), if_pos (show (0 : UInt8) = 0 from rfl), if_neg (show ¬ isBl c = true by simp [h]), if_pos hq]
theorem refL_byte (c : UInt8) (r : List UInt8) (op : Bool) (now out) (h : isBl c = false) (hq : ¬ (c = 34 ∨ c = 39)) : refL (c :: r) 0 op false now out = refL r 0 true false (now ++ [c]) out := by
  rw [refL_cons, if_neg (show ¬ (false && !isBl c) = true by simp), if_pos (show (0 : UInt8) = 0 from rfl), if_neg (show ¬ isBl c = true by simp [h]), if_neg hq]
theorem refL_close (r : List UInt8) (q : UInt8) (hq : q ≠ 0) (op : Bool) (now out) : refL (q :: r) q op false now out = refL r 0 op true now out := by
  rw [refL_cons, if_neg (show ¬ (false && !isBl q) = true by simp), if_neg hq, if_pos (show q = q from rfl)]
theorem refL_in (c : UInt8) (r : List UInt8) (q : UInt8) (hq : q ≠ 0) (hc : c ≠ q) (op : Bool) (now out) : refL (c :: r) q op false now out = refL (stepL q c r).2 q op false (now ++ [(stepL q c r).1]) out := by
  rw [refL_cons, if_neg (show ¬ (false && !isBl c) = true by simp), if_neg hq, if_neg hc]
theorem refL_quote (q : UInt8) (hq : q ≠ 0) : ∀ (n : Nat) (l : List UInt8), l.length ≤ n → ∀ now out, refL l q true false now out = match quotedL q l with
    | none => none
    | some (x, r) => refL r 0 true true (now ++ x) out
  | n, [], hl, now, out => by rw [refL_nil, quotedL_nil, if_pos hq]
  | 0, c :: r, hl, now, out => by simp at hl
  | n + 1, c :: r, hl, now, out => by
    have hs := stepL_le q c r
    simp only [List.length_cons] at hl
    rw [quotedL_cons]
    by_cases hc : c = q
    · subst hc
      rw [if_pos rfl, refL_close r c hq]
      by_cases he : endsL r = true
      · rw [if_pos he]; simp
      · rw [if_neg he]
        cases r with
        | nil => simp [endsL] at he
        | cons d r => exact refL_shut d r 0 _ _ _ (by simpa [endsL] using he)
    · rw [if_neg hc, refL_in c r q hq hc, refL_quote q hq n _ (by omega)]
      cases quotedL q (stepL q c r).2 <;> simp
theorem refL_closed (r : List UInt8) (h : endsL r = true) (op cl : Bool) (now out) : refL r 0 op cl now out = refL r 0 op false now out := by
  cases r with
  | nil => rw [refL_nil, refL_nil]
  | cons c r => rw [refL_gap c r op cl now out h, refL_gap c r op false now out h]
theorem refL_word : ∀ (l : List UInt8) (now out), refL l 0 true false now out = match wordL l with
    | none => none
    | some (x, r) => refL r 0 true false (now ++ x) out
  | [], now, out => by simp [wordL]
  | c :: r, now, out => by
    rw [wordL]
    by_cases hb : isBl c = true
    · rw [if_pos hb]; simp
    · have hb' : isBl c = false := by simpa using hb
      rw [if_neg hb]
      by_cases hq : c = 34 ∨ c = 39
      · rw [if_pos hq, refL_mark c r _ _ _ hb' hq, refL_quote c (by rcases hq with rfl | rfl <;> decide) _ r (Nat.le_refl _)]
        cases h : quotedL c r with
        | none => rfl
        | some p =>
          obtain ⟨x, r'⟩ := p
          exact refL_closed _ (quotedL_ends _ _ _ (Nat.le_refl _) _ _ h).1 _ _ _ _
      · rw [if_neg hq, refL_byte c r _ _ _ hb' hq, refL_word r]
        cases wordL r <;> simp
theorem refL_split : ∀ (n : Nat) (l : List UInt8), l.length ≤ n → ∀ out, refL l 0 false false [] out = (splitL l).map (out ++ ·)
  | n, [], hl, out => by rw [refL_nil, splitL_nil]; simp
  | 0, c :: r, hl, out => by simp at hl
  | n + 1, c :: r, hl, out => by
    simp only [List.length_cons] at hl
    by_cases hb : isBl c = true
    · rw [refL_gap c r _ _ _ _ hb, splitL_blank _ _ hb]
      exact refL_split n r (by omega) out
    · have hb' : isBl c = false := by simpa using hb
      have h1 : refL (c :: r) 0 false false [] out = refL (c :: r) 0 true false [] out := by
        by_cases hq : c = 34 ∨ c = 39
        · rw [refL_mark c r _ _ _ hb' hq, refL_mark c r _ _ _ hb' hq]
        · rw [refL_byte c r _ _ _ hb' hq, refL_byte c r _ _ _ hb' hq]
      rw [h1, refL_word]
      cases h : wordL (c :: r) with
      | none => rw [splitL_none _ _ hb' h]; rfl
      | some p =>
        obtain ⟨w, rest⟩ := p
        have hlt := wordL_lt c r w rest hb' h
        have he := (wordL_ends _ _ _ h).1
        rw [splitL_some _ _ _ _ hb' h]
        simp only [List.nil_append]
        have h2 : refL rest 0 true false w out = refL rest 0 false false [] (out ++ [w]) := by
          cases rest with
          | nil => rw [refL_nil, refL_nil]; simp
          | cons d t =>
            have hd : isBl d = true := he
            rw [refL_gap d t _ _ _ _ hd, refL_gap d t _ _ _ _ hd]
            simp
        simp only [List.length_cons] at hlt
        rw [h2, refL_split n rest (by omega)]
        cases splitL rest <;> simp
/-- Blanks behind, and more. -/
theorem turnL_app (x : UInt8) (r g : List UInt8) (h : hexd (r.getD 0 0) < 16 → 1 ≤ r.length → 2 ≤ r.length ∨ ¬ hexd (g.getD 0 0) < 16) (h0 : r = [] → ¬ hexd (g.getD 0 0) < 16) : turnL x (r ++ g) = ((turnL x r).1, (turnL x r).2 ++ g) := by
  unfold turnL
  match r with
  | [] =>
    have := h0 rfl
    rw [if_neg (by rintro ⟨_, _, h3, _⟩; exact this h3), if_neg (by simp)]
  | [a] =>
    rw [if_neg (c := x = 120 ∧ 2 ≤ [a].length ∧ _) (by simp), if_neg]
    rintro ⟨_, _, h3, h4⟩
    rcases h h3 (by simp) with h5 | h5
    · simp at h5
    · cases g with
      | nil => simp [hexd] at h4
      | cons b g => exact h5 h4
  | a :: b :: r =>
    simp only [List.cons_append, List.length_cons, List.getD_cons_zero, List.getD_cons_succ, List.drop_succ_cons, List.drop_zero, List.length_append]
    by_cases hc : x = 120 ∧ 2 ≤ r.length + 1 + 1 ∧ hexd a < 16 ∧ hexd b < 16
    · rw [if_pos hc, if_pos ⟨hc.1, by omega, hc.2.2⟩]
    · rw [if_neg hc, if_neg (by rintro ⟨h1, _, h2⟩; exact hc ⟨h1, by omega, h2⟩)]; rfl
theorem blank_hex (b : UInt8) (h : isBl b = true) : ¬ hexd b < 16 := by
  simp only [isBl, Bool.or_eq_true, beq_iff_eq] at h
  rcases h with rfl | rfl <;> decide
theorem stepL_app (m c b : UInt8) (r g : List UInt8) (hb : isBl b = true) (hr : r ≠ []) : stepL m c (r ++ b :: g) = ((stepL m c r).1, (stepL m c r).2 ++ b :: g) := by
  cases r with
  | nil => exact absurd rfl hr
  | cons x r =>
    simp only [List.cons_append, stepL]
    split
    · exact turnL_app x r _ (fun _ _ => Or.inr (blank_hex b hb)) (fun _ => blank_hex b hb)
    · split <;> simp
theorem quotedL_app (m b : UInt8) (g : List UInt8) (hb : isBl b = true) (hm : m ≠ 92) : ∀ (n : Nat) (l : List UInt8), l.length ≤ n → ∀ x r, quotedL m l = some (x, r) → quotedL m (l ++ b :: g) = some (x, r ++ b :: g)
  | n, [], hl, x, r, h => by rw [quotedL_nil] at h; cases h
  | 0, c :: l, hl, x, r, h => by simp at hl
  | n + 1, c :: l, hl, x, r, h => by
    have hs := stepL_le m c l
    simp only [List.length_cons] at hl
    rw [quotedL_cons] at h
    rw [List.cons_append, quotedL_cons]
    split at h
    · rename_i hc
      rw [if_pos hc]
      split at h
      · rename_i he
        simp only [Option.some.injEq, Prod.mk.injEq] at h
        obtain ⟨rfl, rfl⟩ := h
        rw [if_pos]
        cases l with
        | nil => exact hb
        | cons d l => exact he
      · cases h
    · rename_i hc
      rw [if_neg hc]
      by_cases hl0 : l = []
      · subst hl0
        simp [stepL, quotedL_nil] at h
      · rw [stepL_app m c b l g hb hl0]
        simp only [Option.map_eq_some_iff] at h ⊢
        obtain ⟨⟨p1, p2⟩, hp, hq⟩ := h
        simp only [Prod.mk.injEq] at hq
        obtain ⟨rfl, rfl⟩ := hq
        exact ⟨(p1, p2 ++ b :: g), quotedL_app m b g hb hm n _ (by omega) _ _ hp, rfl⟩
theorem wordL_app (b : UInt8) (g : List UInt8) (hb : isBl b = true) : ∀ (l x r : List UInt8), wordL l = some (x, r) → wordL (l ++ b :: g) = some (x, r ++ b :: g)
  | [], x, r, h => by simp [wordL] at h; obtain ⟨rfl, rfl⟩ := h; simp [wordL, hb]
  | c :: l, x, r, h => by
    rw [wordL] at h
    rw [List.cons_append, wordL]
    split at h
    · rename_i hc
      simp only [Option.some.injEq, Prod.mk.injEq] at h
      obtain ⟨rfl, rfl⟩ := h
      rw [if_pos hc]; rfl
    · rename_i hc
      rw [if_neg hc]
      split at h
      · rename_i hq
        rw [if_pos hq]
        exact quotedL_app c b g hb (by rcases hq with rfl | rfl <;> decide) _ l (Nat.le_refl _) _ _ h
      · rename_i hq
        rw [if_neg hq]
        simp only [Option.map_eq_some_iff] at h ⊢
        obtain ⟨⟨p1, p2⟩, hp, hq⟩ := h
        simp only [Prod.mk.injEq] at hq
        obtain ⟨rfl, rfl⟩ := hq
        exact ⟨(p1, p2 ++ b :: g), wordL_app b g hb l _ _ hp, rfl⟩
theorem splitL_app (b : UInt8) (g : List UInt8) (hb : isBl b = true) : ∀ (n : Nat) (l : List UInt8), l.length ≤ n → ∀ a, splitL l = some a → splitL (l ++ b :: g) = (splitL g).map (a ++ ·)
  | n, [], hl, a, h => by
    rw [splitL_nil] at h
    cases h
    rw [List.nil_append, splitL_blank b g hb]
    cases splitL g <;> simp
  | 0, c :: l, hl, a, h => by simp at hl
  | n + 1, c :: l, hl, a, h => by
    simp only [List.length_cons] at hl
    by_cases hc : isBl c = true
    · rw [splitL_blank _ _ hc] at h
      rw [List.cons_append, splitL_blank _ _ hc]
      exact splitL_app b g hb n l (by omega) a h
    · have hc' : isBl c = false := by simpa using hc
      cases hw : wordL (c :: l) with
      | none => rw [splitL_none _ _ hc' hw] at h; cases h
      | some p =>
        obtain ⟨w, r⟩ := p
        have hlt := wordL_lt c l w r hc' hw
        simp only [List.length_cons] at hlt
        rw [splitL_some _ _ _ _ hc' hw] at h
        simp only [Option.map_eq_some_iff] at h
        obtain ⟨a', ha, rfl⟩ := h
        have hw2 := wordL_app b g hb _ _ _ hw
        rw [List.cons_append] at hw2 ⊢
        rw [splitL_some _ _ _ _ hc' hw2, splitL_app b g hb n r (by omega) a' ha]
        cases splitL g <;> simp
theorem splitL_ahead : ∀ (g l : List UInt8), (∀ b ∈ g, isBl b = true) → splitL (g ++ l) = splitL l
  | [], l, h => rfl
  | b :: g, l, h => by
    rw [List.cons_append, splitL_blank _ _ (h b (by simp))]
    exact splitL_ahead g l fun b hb => h b (by simp [hb])
/-- Blanks alone behind mend nothing. -/
theorem quotedL_blanks (m : UInt8) (hm : isBl m = false) (g : List UInt8) (hg : ∀ b ∈ g, isBl b = true) : quotedL m g = none := by
  induction g with
  | nil => exact quotedL_nil m
  | cons b g ih =>
    have hb := hg b (by simp)
    rw [quotedL_cons, if_neg (by rintro rfl; rw [hb] at hm; cases hm)]
    have h92 : b ≠ 92 := by rintro rfl; simp [isBl] at hb
    have hs : stepL m b g = (b, g) := by
      unfold stepL
      cases g with
      | nil => rfl
      | cons x g => simp [h92]
    rw [hs, ih fun b hb => hg b (by simp [hb])]
    rfl
theorem quotedL_none (m : UInt8) (hm : isBl m = false) (g : List UInt8) (hg : ∀ b ∈ g, isBl b = true) : ∀ (n : Nat) (l : List UInt8), l.length ≤ n → quotedL m l = none → quotedL m (l ++ g) = none
  | n, [], hl, h => by rw [List.nil_append]; exact quotedL_blanks m hm g hg
  | 0, c :: l, hl, h => by simp at hl
  | n + 1, c :: l, hl, h => by
    have hs := stepL_le m c l
    simp only [List.length_cons] at hl
    cases g with
    | nil => rw [List.append_nil]; exact h
    | cons b g =>
      have hb := hg b (by simp)
      rw [quotedL_cons] at h
      rw [List.cons_append, quotedL_cons]
      split at h
      · rename_i hc
        rw [if_pos hc]
        split at h
        · cases h
        · rename_i he
          rw [if_neg]
          cases l with
          | nil => simp [endsL] at he
          | cons d l => exact he
      · rename_i hc
        rw [if_neg hc]
        by_cases hl0 : l = []
        · subst hl0
          have hg2 : ∀ x ∈ (stepL m c ([] ++ b :: g)).2, isBl x = true := by
            intro x hx
            apply hg x
            unfold stepL turnL at hx
            simp only [List.nil_append] at hx
            split at hx
            · split at hx
              · exact List.mem_cons_of_mem _ (List.mem_of_mem_drop hx)
              · exact List.mem_cons_of_mem _ hx
            · split at hx
              · exact List.mem_cons_of_mem _ hx
              · exact hx
          rw [quotedL_blanks m hm _ hg2]; rfl
        · rw [stepL_app m c b l g hb hl0]
          simp only [Option.map_eq_none_iff] at h ⊢
          exact quotedL_none m hm (b :: g) hg n _ (by omega) h
theorem wordL_none (g : List UInt8) (hg : ∀ b ∈ g, isBl b = true) : ∀ (l : List UInt8), wordL l = none → wordL (l ++ g) = none
  | [], h => by simp [wordL] at h
  | c :: l, h => by
    rw [wordL] at h
    rw [List.cons_append, wordL]
    split at h
    · cases h
    · rename_i hc
      rw [if_neg hc]
      split at h
      · rename_i hq
        rw [if_pos hq]
        exact quotedL_none c (by simpa using hc) g hg _ l (Nat.le_refl _) h
      · rename_i hq
        rw [if_neg hq]
        simp only [Option.map_eq_none_iff] at h ⊢
        exact wordL_none g hg l h
theorem splitL_blanks : ∀ (g : List UInt8), (∀ b ∈ g, isBl b = true) → splitL g = some []
  | [], h => splitL_nil
  | b :: g, h => by rw [splitL_blank _ _ (h b (by simp))]; exact splitL_blanks g fun b hb => h b (by simp [hb])
theorem splitL_nones (g : List UInt8) (hg : ∀ b ∈ g, isBl b = true) : ∀ (n : Nat) (l : List UInt8), l.length ≤ n → splitL l = none → splitL (l ++ g) = none
  | n, [], hl, h => by rw [splitL_nil] at h; cases h
  | 0, c :: l, hl, h => by simp at hl
  | n + 1, c :: l, hl, h => by
    simp only [List.length_cons] at hl
    by_cases hc : isBl c = true
    · rw [splitL_blank _ _ hc] at h
      rw [List.cons_append, splitL_blank _ _ hc]
      exact splitL_nones g hg n l (by omega) h
    · have hc' : isBl c = false := by simpa using hc
      cases hw : wordL (c :: l) with
      | none =>
        have hw2 := wordL_none g hg _ hw
        rw [List.cons_append] at hw2 ⊢
        exact splitL_none _ _ hc' hw2
      | some p =>
        obtain ⟨w, r⟩ := p
        have hlt := wordL_lt c l w r hc' hw
        simp only [List.length_cons] at hlt
        rw [splitL_some _ _ _ _ hc' hw] at h
        simp only [Option.map_eq_none_iff] at h
        cases g with
        | nil => rw [List.append_nil, splitL_some _ _ _ _ hc' hw, h]; rfl
        | cons b g =>
          have hw2 := wordL_app b g (hg b (by simp)) _ _ _ hw
          rw [List.cons_append] at hw2 ⊢
          rw [splitL_some _ _ _ _ hc' hw2, splitL_nones (b :: g) hg n r (by omega) h]; rfl
theorem splitL_gap (g l : List UInt8) (hg : ∀ b ∈ g, isBl b = true) : splitL (g ++ l ++ g) = splitL l := by
  rw [List.append_assoc, splitL_ahead g _ hg]
  cases h : splitL l with
  | none => exact splitL_nones g hg _ l (Nat.le_refl _) h
  | some a =>
    cases g with
    | nil => rw [List.append_nil]; exact h
    | cons b g => rw [splitL_app b g (hg b (by simp)) _ l (Nat.le_refl _) a h, splitL_blanks g fun b hb => hg b (by simp [hb])]; simp
theorem splitL_two (b : UInt8) (g l t : List UInt8) (hg : ∀ c ∈ b :: g, isBl c = true) (a c : List (List UInt8)) (h : splitL l = some a) (h2 : splitL t = some c) : splitL (l ++ (b :: g) ++ t) = some (a ++ c) := by
  rw [List.append_assoc, List.cons_append, splitL_app b (g ++ t) (hg b (by simp)) _ l (Nat.le_refl _) a h, splitL_ahead g t (fun c hc => hg c (by simp [hc])), h2]; rfl
/-- Joining. -/
def dig (n : Nat) : UInt8 := if n < 10 then UInt8.ofNat (48 + n) else UInt8.ofNat (87 + n)
def escL (c : UInt8) : List UInt8 := if c = 34 ∨ c = 92 then [92, c] else if c.toNat < 32 ∨ 126 < c.toNat then [92, 120, dig (c.toNat / 16), dig (c.toNat % 16)] else [c]
def plainB (c : UInt8) : Bool := 33 ≤ c.toNat && c.toNat ≤ 126 && c != 34 && c != 39 && c != 92
def plainL (s : List UInt8) : Bool := !s.isEmpty && s.all plainB
def argL (s : List UInt8) : List UInt8 := if plainL s then s else 34 :: (s.flatMap escL ++ [34])
def tailL (l : List (List UInt8)) : List UInt8 := l.flatMap fun a => 32 :: argL a
def joinL : List (List UInt8) → List UInt8
  | [] => []
  | a :: r => argL a ++ tailL r
theorem hex_of : ∀ c : Fin 256, hexd (dig (c.val / 16)) = c.val / 16 ∧ hexd (dig (c.val % 16)) = c.val % 16 := by decide +kernel
theorem quotedL_esc (rest : List UInt8) (hr : endsL rest = true) : ∀ s : List UInt8, quotedL 34 (s.flatMap escL ++ 34 :: rest) = some (s, rest)
  | [] => by rw [List.flatMap_nil, List.nil_append, quotedL_cons, if_pos rfl, if_pos hr]
  | c :: s => by
    have ih := quotedL_esc rest hr s
    rw [List.flatMap_cons, List.append_assoc]
    generalize s.flatMap escL ++ 34 :: rest = X at ih ⊢
    unfold escL
    by_cases h1 : c = 34 ∨ c = 92
    · rw [if_pos h1]
      have hs : stepL 34 92 (c :: X) = (c, X) := by
        rcases h1 with rfl | rfl <;> simp [stepL, turnL, esc]
      rw [List.cons_append, List.cons_append, List.nil_append, quotedL_cons, if_neg (by decide), hs, ih]
      rfl
    · rw [if_neg h1]
      by_cases h2 : c.toNat < 32 ∨ 126 < c.toNat
      · rw [if_pos h2]
        have hh := hex_of ⟨c.toNat, UInt8.toNat_lt c⟩
        simp only at hh
        have hlt := UInt8.toNat_lt c
        have hs : stepL 34 92 (120 :: dig (c.toNat / 16) :: dig (c.toNat % 16) :: X) = (c, X) := by
          simp only [stepL, turnL, true_and, and_self, if_true, List.getD_cons_zero, List.getD_cons_succ, hh.1, hh.2, List.length_cons, List.drop_succ_cons, List.drop_zero]
          rw [if_pos ⟨by omega, by omega, by omega⟩]
          congr 1
          rw [show 16 * (c.toNat / 16) + c.toNat % 16 = c.toNat by omega, UInt8.ofNat_toNat]
        simp only [List.cons_append, List.nil_append]
        rw [quotedL_cons, if_neg (by decide), hs, ih]
        rfl
      · rw [if_neg h2]
        have hs : stepL 34 c X = (c, X) := by
          unfold stepL
          cases X with
          | nil => rfl
          | cons x X => simp only; rw [if_neg (by rintro ⟨rfl, _⟩; simp at h1), if_neg (by rintro ⟨rfl, _⟩; simp at h1)]
        rw [List.cons_append, List.nil_append, quotedL_cons, if_neg (by rintro rfl; simp at h1), hs, ih]
        rfl
theorem plainB_not (c : UInt8) (h : plainB c = true) : isBl c = false ∧ ¬ (c = 34 ∨ c = 39) := by
  refine ⟨?_, ?_⟩
  · cases hb : isBl c with
    | false => rfl
    | true =>
      simp only [isBl, Bool.or_eq_true, beq_iff_eq] at hb
      rcases hb with rfl | rfl <;> simp [plainB] at h
  · rintro (rfl | rfl) <;> simp [plainB] at h
theorem wordL_plain (rest : List UInt8) (hr : endsL rest = true) : ∀ s : List UInt8, (∀ c ∈ s, plainB c = true) → wordL (s ++ rest) = some (s, rest)
  | [], h => by
    cases rest with
    | nil => simp [wordL]
    | cons b r => have : isBl b = true := hr; simp [wordL, this]
  | c :: s, h => by
    have hc := plainB_not c (h c (by simp))
    rw [List.cons_append, wordL, if_neg (by simp [hc.1]), if_neg hc.2, wordL_plain rest hr s fun c hc => h c (by simp [hc])]
    rfl
theorem tailL_ends (l : List (List UInt8)) : endsL (tailL l) = true := by
  cases l with
  | nil => rfl
  | cons a l => rfl
theorem argL_word (a rest : List UInt8) (hr : endsL rest = true) : ∃ c r, argL a ++ rest = c :: r ∧ isBl c = false ∧ wordL (c :: r) = some (a, rest) := by
  unfold argL
  split
  · rename_i hp
    simp only [plainL, Bool.and_eq_true, List.all_eq_true] at hp
    cases a with
    | nil => simp at hp
    | cons c s => exact ⟨c, s ++ rest, rfl, (plainB_not c (hp.2 c (by simp))).1, wordL_plain rest hr (c :: s) hp.2⟩
  · refine ⟨34, a.flatMap escL ++ 34 :: rest, by simp, rfl, ?_⟩
    rw [wordL, if_neg (by decide), if_pos (Or.inl rfl)]
    exact quotedL_esc rest hr a
theorem splitL_tail : ∀ l : List (List UInt8), splitL (tailL l) = some l
  | [] => splitL_nil
  | a :: l => by
    have ih := splitL_tail l
    obtain ⟨c, r, h1, h2, h3⟩ := argL_word a (tailL l) (tailL_ends l)
    have : tailL (a :: l) = 32 :: (argL a ++ tailL l) := by simp [tailL]
    rw [this, splitL_blank _ _ (by decide), h1, splitL_some _ _ _ _ h2 h3, ih]; rfl
theorem splitL_join (l : List (List UInt8)) : splitL (joinL l) = some l := by
  cases l with
  | nil => exact splitL_nil
  | cons a l =>
    obtain ⟨c, r, h1, h2, h3⟩ := argL_word a (tailL l) (tailL_ends l)
    rw [joinL, h1, splitL_some _ _ _ _ h2 h3, splitL_tail]; rfl
theorem escL_ok : ∀ c : Fin 256, ∀ b ∈ escL (UInt8.ofNat c.val), 32 ≤ b.toNat := by decide +kernel
theorem argL_ok (a : List UInt8) : ∀ b ∈ argL a, 32 ≤ b.toNat := by
  unfold argL
  split
  · rename_i hp
    simp only [plainL, Bool.and_eq_true, List.all_eq_true] at hp
    intro b hb
    have := hp.2 b hb
    simp only [plainB, Bool.and_eq_true, decide_eq_true_eq] at this
    omega
  · intro b hb
    simp only [List.mem_cons, List.mem_append, List.mem_flatMap, List.not_mem_nil, or_false] at hb
    rcases hb with rfl | ⟨c, _, hc⟩ | rfl
    · decide
    · have := escL_ok ⟨c.toNat, UInt8.toNat_lt c⟩ b
      simp only [UInt8.ofNat_toNat] at this
      exact this hc
    · decide
theorem tailL_ok (l : List (List UInt8)) : ∀ b ∈ tailL l, 32 ≤ b.toNat := by
  intro b hb
  simp only [tailL, List.mem_flatMap, List.mem_cons] at hb
  obtain ⟨a, _, rfl | h⟩ := hb
  · decide
  · exact argL_ok a b h
theorem joinL_ok (l : List (List UInt8)) : ∀ b ∈ joinL l, 32 ≤ b.toNat := by
  cases l with
  | nil => intro b hb; simp [joinL] at hb
  | cons a l =>
    intro b hb
    simp only [joinL, List.mem_append] at hb
    rcases hb with h | h
    · exact argL_ok a b h
    · exact tailL_ok l b h
end Go.Proofs.Ythelnfnkhcjngaa.LM
