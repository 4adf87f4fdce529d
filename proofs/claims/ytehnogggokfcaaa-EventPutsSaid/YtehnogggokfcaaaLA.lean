/- Texts of this claim, joined: LineMath, Line, LineJoin, LineRefJoin, LineRef, LineLen, EvUp. -/
import Derived.Test.YtehnogggokfcaaaX
import Derived.Test.YtehnogggokfcaaaYA
section
/- The plain laws of lines: arguments split and joined. -/
namespace Go.Proofs.Ytehnogggokfcaaa.LM
set_option linter.unusedVariables false
set_option linter.unusedSimpArgs false
def isBl (c : UInt8) : Bool := c == 32 || c == 9
def hexd (c : UInt8) : Nat := if 48 ≤ c.toNat ∧ c.toNat ≤ 57 then c.toNat - 48 else if 97 ≤ c.toNat ∧ c.toNat ≤ 102 then c.toNat - 87 else if 65 ≤ c.toNat ∧ c.toNat ≤ 70 then c.toNat - 55 else 16
def esc (c : UInt8) : UInt8 := if c = 110 then 10 else if c = 114 then 13 else if c = 116 then 9 else if c = 98 then 8 else if c = 97 then 7 else c
def turnL (x : UInt8) (r : List UInt8) : UInt8 × List UInt8 :=
  if x = 120 ∧ 2 ≤ r.length ∧ hexd (r.getD 0 0) < 16 ∧ hexd (r.getD 1 0) < 16 then (UInt8.ofNat (16 * hexd (r.getD 0 0) + hexd (r.getD 1 0)), r.drop 2) else (esc x, r)
def stepL (m c : UInt8) (r : List UInt8) : UInt8 × List UInt8 :=
  match r with
  | [] => (c, [])
  | x :: r' => if c = 92 ∧ m = 34 then turnL x r' else if c = 92 ∧ m = 39 ∧ x = 39 then (39, r') else (c, r)
theorem turnL_le (x : UInt8) (r : List UInt8) : (turnL x r).2.length ≤ r.length := by
  unfold turnL; split <;> simp
theorem stepL_le (m c : UInt8) (r : List UInt8) : (stepL m c r).2.length ≤ r.length := by
  unfold stepL
  split
  · simp
  · rename_i x r'
    split
    · have := turnL_le x r'; simp; omega
    · split <;> simp
def endsL : List UInt8 → Bool
  | [] => true
  | c :: _ => isBl c
def quotedL (m : UInt8) (l : List UInt8) : Option (List UInt8 × List UInt8) :=
  match l with
  | [] => none
  | c :: r => if c = m then (if endsL r then some ([], r) else none) else (quotedL m (stepL m c r).2).map fun p => ((stepL m c r).1 :: p.1, p.2)
termination_by l.length
decreasing_by exact Nat.lt_succ_of_le (stepL_le m c r)
theorem quotedL_nil (m : UInt8) : quotedL m [] = none := by rw [quotedL]
theorem quotedL_cons (m c : UInt8) (r : List UInt8) : quotedL m (c :: r) = if c = m then (if endsL r then some ([], r) else none) else (quotedL m (stepL m c r).2).map fun p => ((stepL m c r).1 :: p.1, p.2) := by rw [quotedL]
def wordL : List UInt8 → Option (List UInt8 × List UInt8)
  | [] => some ([], [])
  | c :: r => if isBl c then some ([], c :: r) else if c = 34 ∨ c = 39 then quotedL c r else (wordL r).map fun p => (c :: p.1, p.2)
theorem quotedL_ends (m : UInt8) : ∀ (n : Nat) (l : List UInt8), l.length ≤ n → ∀ x r, quotedL m l = some (x, r) → endsL r = true ∧ r.length < l.length
  | 0, l, hl, x, r, h => by
    have : l = [] := List.length_eq_zero_iff.1 (by omega)
    subst this; rw [quotedL_nil] at h; cases h
  | n + 1, [], hl, x, r, h => by rw [quotedL_nil] at h; cases h
  | n + 1, c :: r', hl, x, r, h => by
    rw [quotedL_cons] at h
    have hs := stepL_le m c r'
    simp only [List.length_cons] at hl ⊢
    split at h
    · split at h
      · rename_i he
        simp only [Option.some.injEq, Prod.mk.injEq] at h
        obtain ⟨rfl, rfl⟩ := h
        exact ⟨he, by omega⟩
      · cases h
    · simp only [Option.map_eq_some_iff] at h
      obtain ⟨⟨p1, p2⟩, hp, hq⟩ := h
      simp only [Prod.mk.injEq] at hq
      obtain ⟨rfl, rfl⟩ := hq
      have := quotedL_ends m n _ (by omega) _ _ hp
      exact ⟨this.1, by omega⟩
theorem wordL_ends : ∀ (l x r : List UInt8), wordL l = some (x, r) → endsL r = true ∧ r.length ≤ l.length
  | [], x, r, h => by simp [wordL] at h; obtain ⟨rfl, rfl⟩ := h; exact ⟨rfl, by simp⟩
  | c :: l, x, r, h => by
    rw [wordL] at h
    split at h
    · rename_i hb
      simp only [Option.some.injEq, Prod.mk.injEq] at h
      obtain ⟨rfl, rfl⟩ := h
      exact ⟨hb, by simp⟩
    · split at h
      · have := quotedL_ends _ _ _ (Nat.le_refl _) _ _ h
        exact ⟨this.1, by simp; omega⟩
      · simp only [Option.map_eq_some_iff] at h
        obtain ⟨⟨p1, p2⟩, hp, hq⟩ := h
        simp only [Prod.mk.injEq] at hq
        obtain ⟨rfl, rfl⟩ := hq
        have := wordL_ends l _ _ hp
        exact ⟨this.1, by simp; omega⟩
theorem wordL_lt (c : UInt8) (l x r : List UInt8) (hc : isBl c = false) (h : wordL (c :: l) = some (x, r)) : r.length < (c :: l).length := by
  rw [wordL, if_neg (by simp [hc])] at h
  split at h
  · have := quotedL_ends _ _ _ (Nat.le_refl _) _ _ h
    simp; omega
  · simp only [Option.map_eq_some_iff] at h
    obtain ⟨⟨p1, p2⟩, hp, hq⟩ := h
    simp only [Prod.mk.injEq] at hq
    obtain ⟨rfl, rfl⟩ := hq
    have := wordL_ends l _ _ hp
    simp; omega
def splitL (l : List UInt8) : Option (List (List UInt8)) :=
  match l with
  | [] => some []
  | c :: r => if hc : isBl c then splitL r else
    match hw : wordL (c :: r) with
    | none => none
    | some (w, rest) => (splitL rest).map (w :: ·)
termination_by l.length
decreasing_by
  · simp
  · exact wordL_lt c r w rest (by simpa using hc) hw
theorem splitL_nil : splitL [] = some [] := by rw [splitL]
theorem splitL_blank (c : UInt8) (r : List UInt8) (h : isBl c = true) : splitL (c :: r) = splitL r := by rw [splitL, dif_pos h]
theorem splitL_none (c : UInt8) (r : List UInt8) (h : isBl c = false) (hw : wordL (c :: r) = none) : splitL (c :: r) = none := by
  rw [splitL, dif_neg (by simp [h])]
  split
  · rfl
  · rename_i w rest h2; rw [hw] at h2; cases h2
theorem splitL_some (c : UInt8) (r w rest : List UInt8) (h : isBl c = false) (hw : wordL (c :: r) = some (w, rest)) : splitL (c :: r) = (splitL rest).map (w :: ·) := by
  rw [splitL, dif_neg (by simp [h])]
  split
  · rename_i h2; rw [hw] at h2; cases h2
  · rename_i w' rest' h2
    rw [hw] at h2
    simp only [Option.some.injEq, Prod.mk.injEq] at h2
    obtain ⟨rfl, rfl⟩ := h2
    rfl
def refL (l : List UInt8) (q : UInt8) (op cl : Bool) (now : List UInt8) (out : List (List UInt8)) : Option (List (List UInt8)) :=
  match l with
  | [] => if q ≠ 0 then none else if op then some (out ++ [now]) else some out
  | c :: r => if cl && !isBl c then none
    else if q = 0 then (if isBl c then refL r 0 false false [] (if op then out ++ [now] else out) else if c = 34 ∨ c = 39 then refL r c true false now out else refL r 0 true false (now ++ [c]) out)
    else if c = q then refL r 0 op true now out
    else refL (stepL q c r).2 q op false (now ++ [(stepL q c r).1]) out
termination_by l.length
decreasing_by
  · simp
  · simp
  · simp
  · simp
  · exact Nat.lt_succ_of_le (stepL_le q c r)
theorem refL_nil (q : UInt8) (op cl : Bool) (now out) : refL [] q op cl now out = if q ≠ 0 then none else if op then some (out ++ [now]) else some out := by rw [refL]
theorem refL_cons (c : UInt8) (r : List UInt8) (q : UInt8) (op cl : Bool) (now out) : refL (c :: r) q op cl now out = if cl && !isBl c then none
    else if q = 0 then (if isBl c then refL r 0 false false [] (if op then out ++ [now] else out) else if c = 34 ∨ c = 39 then refL r c true false now out else refL r 0 true false (now ++ [c]) out)
    else if c = q then refL r 0 op true now out
    else refL (stepL q c r).2 q op false (now ++ [(stepL q c r).1]) out := by rw [refL]
theorem refL_shut (c : UInt8) (r : List UInt8) (q : UInt8) (op : Bool) (now out) (h : isBl c = false) : refL (c :: r) q op true now out = none := by
  rw [refL_cons, if_pos (show (true && !isBl c) = true by simp [h])]
theorem refL_gap (c : UInt8) (r : List UInt8) (op cl : Bool) (now out) (h : isBl c = true) : refL (c :: r) 0 op cl now out = refL r 0 false false [] (if op then out ++ [now] else out) := by
  rw [refL_cons, if_neg (show ¬ (cl && !isBl c) = true by simp [h]), if_pos (show (0 : UInt8) = 0 from rfl), if_pos h]
theorem refL_mark (c : UInt8) (r : List UInt8) (op : Bool) (now out) (h : isBl c = false) (hq : c = 34 ∨ c = 39) : refL (c :: r) 0 op false now out = refL r c true false now out := by
  rw [refL_cons, if_neg (show ¬ (false && !isBl c) = true by simp), if_pos (show (0 : UInt8) = 0 from rfl), if_neg (show ¬ isBl c = true by simp [h]), if_pos hq]
theorem refL_byte (c : UInt8) (r : List UInt8) (op : Bool) (now out) (h : isBl c = false) (hq : ¬ (c = 34 ∨ c = 39)) : refL (c :: r) 0 op false now out = refL r 0 true false (now ++ [c]) out := by
  rw [refL_cons, if_neg (show ¬ (false && !isBl c) = true by simp), if_pos (show (0 : UInt8) = 0 from rfl), if_neg (show ¬ isBl c = true by simp [h]), if_neg hq]
theorem refL_close (r : List UInt8) (q : UInt8) (hq : q ≠ 0) (op : Bool) (now out) : refL (q :: r) q op false now out = refL r 0 op true now out := by
  rw [refL_cons, if_neg (show ¬ (false && !isBl q) = true by simp), if_neg hq, if_pos (show q = q from rfl)]
theorem refL_in (c : UInt8) (r : List UInt8) (q : UInt8) (hq : q ≠ 0) (hc : c ≠ q) (op : Bool) (now out) : refL (c :: r) q op false now out = refL (stepL q c r).2 q op false (now ++ [(stepL q c r).1]) out := by
  rw [refL_cons, if_neg (show ¬ (false && !isBl c) = true by simp), if_neg hq, if_neg hc]
theorem refL_quote (q : UInt8) (hq : q ≠ 0) : ∀ (n : Nat) (l : List UInt8), l.length ≤ n → ∀ now out, refL l q true false now out = match quotedL q l with
    | none => none
    | some (x, r) => refL r 0 true true (now ++ x) out
  | n, [], hl, now, out => by rw [refL_nil, quotedL_nil, if_pos hq]
  | 0, c :: r, hl, now, out => by simp at hl
  | n + 1, c :: r, hl, now, out => by
    have hs := stepL_le q c r
    simp only [List.length_cons] at hl
    rw [quotedL_cons]
    by_cases hc : c = q
    · subst hc
      rw [if_pos rfl, refL_close r c hq]
      by_cases he : endsL r = true
      · rw [if_pos he]; simp
      · rw [if_neg he]
        cases r with
        | nil => simp [endsL] at he
        | cons d r => exact refL_shut d r 0 _ _ _ (by simpa [endsL] using he)
    · rw [if_neg hc, refL_in c r q hq hc, refL_quote q hq n _ (by omega)]
      cases quotedL q (stepL q c r).2 <;> simp
theorem refL_closed (r : List UInt8) (h : endsL r = true) (op cl : Bool) (now out) : refL r 0 op cl now out = refL r 0 op false now out := by
  cases r with
  | nil => rw [refL_nil, refL_nil]
  | cons c r => rw [refL_gap c r op cl now out h, refL_gap c r op false now out h]
theorem refL_word : ∀ (l : List UInt8) (now out), refL l 0 true false now out = match wordL l with
    | none => none
    | some (x, r) => refL r 0 true false (now ++ x) out
  | [], now, out => by simp [wordL]
  | c :: r, now, out => by
    rw [wordL]
    by_cases hb : isBl c = true
    · rw [if_pos hb]; simp
    · have hb' : isBl c = false := by simpa using hb
      rw [if_neg hb]
      by_cases hq : c = 34 ∨ c = 39
      · rw [if_pos hq, refL_mark c r _ _ _ hb' hq, refL_quote c (by rcases hq with rfl | rfl <;> decide) _ r (Nat.le_refl _)]
        cases h : quotedL c r with
        | none => rfl
        | some p =>
          obtain ⟨x, r'⟩ := p
          exact refL_closed _ (quotedL_ends _ _ _ (Nat.le_refl _) _ _ h).1 _ _ _ _
      · rw [if_neg hq, refL_byte c r _ _ _ hb' hq, refL_word r]
        cases wordL r <;> simp
theorem refL_split : ∀ (n : Nat) (l : List UInt8), l.length ≤ n → ∀ out, refL l 0 false false [] out = (splitL l).map (out ++ ·)
  | n, [], hl, out => by rw [refL_nil, splitL_nil]; simp
  | 0, c :: r, hl, out => by simp at hl
  | n + 1, c :: r, hl, out => by
    simp only [List.length_cons] at hl
    by_cases hb : isBl c = true
    · rw [refL_gap c r _ _ _ _ hb, splitL_blank _ _ hb]
      exact refL_split n r (by omega) out
    · have hb' : isBl c = false := by simpa using hb
      have h1 : refL (c :: r) 0 false false [] out = refL (c :: r) 0 true false [] out := by
        by_cases hq : c = 34 ∨ c = 39
        · rw [refL_mark c r _ _ _ hb' hq, refL_mark c r _ _ _ hb' hq]
        · rw [refL_byte c r _ _ _ hb' hq, refL_byte c r _ _ _ hb' hq]
      rw [h1, refL_word]
      cases h : wordL (c :: r) with
      | none => rw [splitL_none _ _ hb' h]; rfl
      | some p =>
        obtain ⟨w, rest⟩ := p
        have hlt := wordL_lt c r w rest hb' h
        have he := (wordL_ends _ _ _ h).1
        rw [splitL_some _ _ _ _ hb' h]
        simp only [List.nil_append]
        have h2 : refL rest 0 true false w out = refL rest 0 false false [] (out ++ [w]) := by
          cases rest with
          | nil => rw [refL_nil, refL_nil]; simp
          | cons d t =>
            have hd : isBl d = true := he
            rw [refL_gap d t _ _ _ _ hd, refL_gap d t _ _ _ _ hd]
            simp
        simp only [List.length_cons] at hlt
        rw [h2, refL_split n rest (by omega)]
        cases splitL rest <;> simp
def dig (n : Nat) : UInt8 := if n < 10 then UInt8.ofNat (48 + n) else UInt8.ofNat (87 + n)
def escL (c : UInt8) : List UInt8 := if c = 34 ∨ c = 92 then [92, c] else if c.toNat < 32 ∨ 126 < c.toNat then [92, 120, dig (c.toNat / 16), dig (c.toNat % 16)] else [c]
def plainB (c : UInt8) : Bool := 33 ≤ c.toNat && c.toNat ≤ 126 && c != 34 && c != 39 && c != 92
def plainL (s : List UInt8) : Bool := !s.isEmpty && s.all plainB
def argL (s : List UInt8) : List UInt8 := if plainL s then s else 34 :: (s.flatMap escL ++ [34])
def tailL (l : List (List UInt8)) : List UInt8 := l.flatMap fun a => 32 :: argL a
def joinL : List (List UInt8) → List UInt8
  | [] => []
  | a :: r => argL a ++ tailL r
theorem hex_of : ∀ c : Fin 256, hexd (dig (c.val / 16)) = c.val / 16 ∧ hexd (dig (c.val % 16)) = c.val % 16 := by decide +kernel
theorem quotedL_esc (rest : List UInt8) (hr : endsL rest = true) : ∀ s : List UInt8, quotedL 34 (s.flatMap escL ++ 34 :: rest) = some (s, rest)
  | [] => by rw [List.flatMap_nil, List.nil_append, quotedL_cons, if_pos rfl, if_pos hr]
  | c :: s => by
    have ih := quotedL_esc rest hr s
    rw [List.flatMap_cons, List.append_assoc]
    generalize s.flatMap escL ++ 34 :: rest = X at ih ⊢
    unfold escL
    by_cases h1 : c = 34 ∨ c = 92
    · rw [if_pos h1]
      have hs : stepL 34 92 (c :: X) = (c, X) := by
        rcases h1 with rfl | rfl <;> simp [stepL, turnL, esc]
      rw [List.cons_append, List.cons_append, List.nil_append, quotedL_cons, if_neg (by decide), hs, ih]
      rfl
    · rw [if_neg h1]
      by_cases h2 : c.toNat < 32 ∨ 126 < c.toNat
      · rw [if_pos h2]
        have hh := hex_of ⟨c.toNat, UInt8.toNat_lt c⟩
        simp only at hh
        have hlt := UInt8.toNat_lt c
        have hs : stepL 34 92 (120 :: dig (c.toNat / 16) :: dig (c.toNat % 16) :: X) = (c, X) := by
          simp only [stepL, turnL, true_and, and_self, if_true, List.getD_cons_zero, List.getD_cons_succ, hh.1, hh.2, List.length_cons, List.drop_succ_cons, List.drop_zero]
          rw [if_pos ⟨by omega, by omega, by omega⟩]
          congr 1
          rw [show 16 * (c.toNat / 16) + c.toNat % 16 = c.toNat by omega, UInt8.ofNat_toNat]
        simp only [List.cons_append, List.nil_append]
        rw [quotedL_cons, if_neg (by decide), hs, ih]
        rfl
      · rw [if_neg h2]
        have hs : stepL 34 c X = (c, X) := by
          unfold stepL
          cases X with
          | nil => rfl
          | cons x X => simp only; rw [if_neg (by rintro ⟨rfl, _⟩; simp at h1), if_neg (by rintro ⟨rfl, _⟩; simp at h1)]
        rw [List.cons_append, List.nil_append, quotedL_cons, if_neg (by rintro rfl; simp at h1), hs, ih]
        rfl
theorem plainB_not (c : UInt8) (h : plainB c = true) : isBl c = false ∧ ¬ (c = 34 ∨ c = 39) := by
  refine ⟨?_, ?_⟩
  · cases hb : isBl c with
    | false => rfl
    | true =>
      simp only [isBl, Bool.or_eq_true, beq_iff_eq] at hb
      rcases hb with rfl | rfl <;> simp [plainB] at h
  · rintro (rfl | rfl) <;> simp [plainB] at h
theorem wordL_plain (rest : List UInt8) (hr : endsL rest = true) : ∀ s : List UInt8, (∀ c ∈ s, plainB c = true) → wordL (s ++ rest) = some (s, rest)
  | [], h => by
    cases rest with
    | nil => simp [wordL]
    | cons b r => have : isBl b = true := hr; simp [wordL, this]
  | c :: s, h => by
    have hc := plainB_not c (h c (by simp))
    rw [List.cons_append, wordL, if_neg (by simp [hc.1]), if_neg hc.2, wordL_plain rest hr s fun c hc => h c (by simp [hc])]
    rfl
theorem tailL_ends (l : List (List UInt8)) : endsL (tailL l) = true := by
  cases l with
  | nil => rfl
  | cons a l => rfl
theorem argL_word (a rest : List UInt8) (hr : endsL rest = true) : ∃ c r, argL a ++ rest = c :: r ∧ isBl c = false ∧ wordL (c :: r) = some (a, rest) := by
  unfold argL
  split
  · rename_i hp
    simp only [plainL, Bool.and_eq_true, List.all_eq_true] at hp
    cases a with
    | nil => simp at hp
    | cons c s => exact ⟨c, s ++ rest, rfl, (plainB_not c (hp.2 c (by simp))).1, wordL_plain rest hr (c :: s) hp.2⟩
  · refine ⟨34, a.flatMap escL ++ 34 :: rest, by simp, rfl, ?_⟩
    rw [wordL, if_neg (by decide), if_pos (Or.inl rfl)]
    exact quotedL_esc rest hr a
theorem splitL_tail : ∀ l : List (List UInt8), splitL (tailL l) = some l
  | [] => splitL_nil
  | a :: l => by
    have ih := splitL_tail l
    obtain ⟨c, r, h1, h2, h3⟩ := argL_word a (tailL l) (tailL_ends l)
    have : tailL (a :: l) = 32 :: (argL a ++ tailL l) := by simp [tailL]
    rw [this, splitL_blank _ _ (by decide), h1, splitL_some _ _ _ _ h2 h3, ih]; rfl
theorem splitL_join (l : List (List UInt8)) : splitL (joinL l) = some l := by
  cases l with
  | nil => exact splitL_nil
  | cons a l =>
    obtain ⟨c, r, h1, h2, h3⟩ := argL_word a (tailL l) (tailL_ends l)
    rw [joinL, h1, splitL_some _ _ _ _ h2 h3, splitL_tail]; rfl
end Go.Proofs.Ytehnogggokfcaaa.LM
end
section
/- What line.Split comes to, on lists of bytes. No memory. -/
namespace Go.Proofs.Ytehnogggokfcaaa.Pure
open Go.RowKit Go.Proofs.YtehnogggokfcaaaW.PrintWords Go.Proofs.YtehnogggokfcaaaW.PrintMore Go.Proofs.Ytehnogggokfcaaa.Y Go.Proofs.Ytehnogggokfcaaa.X Go.Proofs.Ytehnogggokfcaaa.LM
set_option linter.unusedVariables false
set_option linter.unusedSimpArgs false

def ofL (u : List UInt8) : ByteArray := ⟨u.toArray⟩
theorem ofL_data (u : List UInt8) : (ofL u).data.toList = u := rfl
theorem ofL_of (s : ByteArray) : ofL s.data.toList = s := ba_ext rfl
def ints (u : List UInt8) : List Int := u.map fun b => (b.toNat : Int)
theorem ints_app (u v : List UInt8) : ints (u ++ v) = ints u ++ ints v := List.map_append ..
theorem ints_len (u : List UInt8) : (ints u).length = u.length := List.length_map ..
theorem strOf_ints (u : List UInt8) : strOfNums (ints u) = ofL u := by
  apply ba_ext
  rw [strOf_data, ofL_data, ints, List.map_map]
  conv => rhs; rw [← List.map_id u]
  apply List.map_congr_left
  intro b _
  simp
theorem at_cons (s : ByteArray) (i : Nat) (h : i < s.size) : ∃ c, s.data.toList.drop i = c :: s.data.toList.drop (i + 1) ∧ bt s (i : Int) = (c.toNat : Int) := by
  rw [ba_size] at h
  exact ⟨s.data.toList[i], List.drop_eq_getElem_cons h, bt_nat s i (by rw [ba_size]; exact h)⟩
theorem drop_end (s : ByteArray) (i : Nat) (h : s.size ≤ i) : s.data.toList.drop i = [] := List.drop_of_length_le (by rw [← ba_size]; exact h)
theorem drop_len (s : ByteArray) (i : Nat) : (s.data.toList.drop i).length = s.size - i := by rw [List.length_drop, ba_size]
theorem u8_int (x y : UInt8) : ((x.toNat : Int) = (y.toNat : Int)) ↔ x = y := by
  constructor
  · intro h
    exact UInt8.toNat_inj.1 (by omega)
  · rintro rfl; rfl
theorem u8_fin {P : UInt8 → Prop} (h : ∀ c : Fin 256, P (UInt8.ofNat c.val)) (x : UInt8) : P x := by
  have := h ⟨x.toNat, UInt8.toNat_lt x⟩
  simpa using this
theorem wN (i d : Nat) (h : i + d ≤ 4000000000) : wrap64 ((i : Int) + (d : Int)) = ((i + d : Nat) : Int) := by
  rw [w64 (by omega) (by omega)]; omega
theorem w1 (i : Nat) (h : i ≤ 2000000000) : wrap64 ((i : Int) + 1) = ((i + 1 : Nat) : Int) := wN i 1 (by omega)
theorem w2 (i : Nat) (h : i ≤ 2000000000) : wrap64 ((i : Int) + 2) = ((i + 2 : Nat) : Int) := wN i 2 (by omega)
theorem w3 (i : Nat) (h : i ≤ 2000000000) : wrap64 ((i : Int) + 3) = ((i + 3 : Nat) : Int) := wN i 3 (by omega)
theorem blank_all : ∀ c : Fin 256, line_blank.f ((UInt8.ofNat c.val).toNat : Int) = some (isBl (UInt8.ofNat c.val)) := by decide +kernel
theorem blank_is (c : UInt8) : line_blank.f (c.toNat : Int) = some (isBl c) := u8_fin (P := fun c => line_blank.f (c.toNat : Int) = some (isBl c)) blank_all c
def hexI (c : UInt8) : Int := if hexd c < 16 then (hexd c : Int) else -1
theorem hex_all : ∀ c : Fin 256, line_hex.f 3 ((UInt8.ofNat c.val).toNat : Int) = some (hexI (UInt8.ofNat c.val)) := by decide +kernel
theorem hex_ev (c : UInt8) : Ev (fun k => line_hex.f k (c.toNat : Int)) (hexI c) := Ev.of (line_hex.mono _) (k := 3) (u8_fin (P := fun c => line_hex.f 3 (c.toNat : Int) = some (hexI c)) hex_all c)
theorem hexI_ge (c : UInt8) : (hexI c ≥ 0) ↔ hexd c < 16 := by
  unfold hexI
  split <;> omega
theorem ends_is (s : ByteArray) (i : Nat) (h : i ≤ s.size) : line_ends.f (i : Int) s = some (endsL (s.data.toList.drop i)) := by
  unfold line_ends.f
  by_cases he : i = s.size
  · rw [if_pos (by omega), drop_end s i (by omega)]; rfl
  · obtain ⟨c, h1, h2⟩ := at_cons s i (by omega)
    rw [if_neg (show ¬ (i : Int) = (s.size : Int) by omega), if_pos (show 0 ≤ (i : Int) by omega), if_pos (show (i : Int) < (s.size : Int) by omega), h1, h2, blank_is]; rfl
theorem esc_if (x : UInt8) (W : Int) : (if (x.toNat : Int) = 110 then (some (10, W)) else (if (x.toNat : Int) = 114 then (some (13, W)) else (if (x.toNat : Int) = 116 then (some (9, W)) else (if (x.toNat : Int) = 98 then (some (8, W)) else (if (x.toNat : Int) = 97 then (some (7, W)) else (some ((x.toNat : Int), W))))))) = some (((esc x).toNat : Int), W) := by
  have e1 : ((x.toNat : Int) = 110) ↔ x = 110 := u8_int x 110
  have e2 : ((x.toNat : Int) = 114) ↔ x = 114 := u8_int x 114
  have e3 : ((x.toNat : Int) = 116) ↔ x = 116 := u8_int x 116
  have e4 : ((x.toNat : Int) = 98) ↔ x = 98 := u8_int x 98
  have e5 : ((x.toNat : Int) = 97) ↔ x = 97 := u8_int x 97
  simp only [e1, e2, e3, e4, e5]
  unfold esc
  split
  · rfl
  · split
    · rfl
    · split
      · rfl
      · split
        · rfl
        · split
          · rfl
          · rfl
theorem turn0_ev (s : ByteArray) (i : Nat) (x : UInt8) (hn : s.size ≤ 1000000000) (h : i < s.size) (hb : bt s (i : Int) = (x.toNat : Int)) :
    Ev (fun k => line_turn.j0 k s (i : Int) false) (((esc x).toNat : Int), ((i + 1 : Nat) : Int)) := by
  refine ev_round ?_
  simp only [line_turn.j0]
  refine ev_neg (by decide) (ev_pos (by omega) (ev_pos (by omega) ?_))
  rw [hb, w1 i (by omega), esc_if]
  exact ev_some rfl
theorem turn1_ev (s : ByteArray) (i : Nat) (c0 c1 : UInt8) (hn : s.size ≤ 1000000000) (h : i + 2 < s.size) (h0 : bt s ((i + 1 : Nat) : Int) = (c0.toNat : Int)) (h1 : bt s ((i + 2 : Nat) : Int) = (c1.toNat : Int)) (h2 : hexd c0 < 16) (h3 : hexd c1 < 16) :
    Ev (fun k => line_turn.j0 k s (i : Int) true) (((UInt8.ofNat (16 * hexd c0 + hexd c1)).toNat : Int), ((i + 3 : Nat) : Int)) := by
  refine ev_round ?_
  simp only [line_turn.j0]
  rw [w1 i (by omega), w2 i (by omega), w3 i (by omega), h0, h1]
  refine ev_pos (by trivial) (ev_pos (by omega) (ev_pos (by omega) (ev_bind (hex_ev c0) (ev_pos (by omega) (ev_pos (by omega) (ev_bind (hex_ev c1) (ev_some ?_)))))))
  have e0 : hexI c0 = (hexd c0 : Int) := if_pos h2
  have e1 : hexI c1 = (hexd c1 : Int) := if_pos h3
  rw [e0, e1, w64 (i := 16 * (hexd c0 : Int)) (by omega) (by omega), w64 (by omega) (by omega), UInt8.toNat_ofNat']
  congr 1
theorem turn_ev (s : ByteArray) (i : Nat) (x : UInt8) (hn : s.size ≤ 1000000000) (h : i < s.size) (hb : bt s (i : Int) = (x.toNat : Int)) :
    ∃ p, i < p ∧ p ≤ s.size ∧ (turnL x (s.data.toList.drop (i + 1))).2 = s.data.toList.drop p ∧ Ev (fun k => line_turn.f k s (i : Int)) (((turnL x (s.data.toList.drop (i + 1))).1.toNat : Int), (p : Int)) := by
  have hl := drop_len s (i + 1)
  have ex : ((x.toNat : Int) = 120) ↔ x = 120 := u8_int x 120
  unfold line_turn.f
  rw [w1 i (by omega), w2 i (by omega), hb]
  by_cases hlen : i + 2 < s.size
  · obtain ⟨c0, d0, b0⟩ := at_cons s (i + 1) (by omega)
    obtain ⟨c1, d1, b1⟩ := at_cons s (i + 2) (by omega)
    rw [b0, b1]
    have hr : s.data.toList.drop (i + 1) = c0 :: c1 :: s.data.toList.drop (i + 3) := by rw [d0, d1]
    have h2l : 2 ≤ (s.data.toList.drop (i + 1)).length := by omega
    unfold turnL
    rw [hr] at h2l ⊢
    simp only [List.getD_cons_zero, List.getD_cons_succ, List.drop_succ_cons, List.drop_zero]
    by_cases hx : x = 120
    · by_cases a0 : hexd c0 < 16
      · by_cases a1 : hexd c1 < 16
        · refine ⟨i + 3, by omega, by omega, ?_, ?_⟩
          · rw [if_pos ⟨hx, h2l, a0, a1⟩]
          · rw [if_pos (c := x = 120 ∧ _) ⟨hx, h2l, a0, a1⟩]
            refine ev_pos (by omega) (ev_pos (by omega) (ev_pos (ex.2 hx) (ev_pos (by omega) (ev_pos (by omega) (ev_pos (by omega) (ev_bind (hex_ev c0) (ev_pos ((hexI_ge c0).2 a0) (ev_pos (by omega) (ev_bind (hex_ev c1) ?_)))))))))
            rw [decide_eq_true ((hexI_ge c1).2 a1)]
            exact turn1_ev s i c0 c1 hn hlen b0 b1 a0 a1
        · refine ⟨i + 1, by omega, by omega, ?_, ?_⟩
          · rw [if_neg (fun h => a1 h.2.2.2)]; exact hr.symm
          · rw [if_neg (c := x = 120 ∧ _) (fun h => a1 h.2.2.2)]
            refine ev_pos (by omega) (ev_pos (by omega) (ev_pos (ex.2 hx) (ev_pos (by omega) (ev_pos (by omega) (ev_pos (by omega) (ev_bind (hex_ev c0) (ev_pos ((hexI_ge c0).2 a0) (ev_pos (by omega) (ev_bind (hex_ev c1) ?_)))))))))
            rw [decide_eq_false (fun h => a1 ((hexI_ge c1).1 h))]
            exact turn0_ev s i x hn h hb
      · refine ⟨i + 1, by omega, by omega, ?_, ?_⟩
        · rw [if_neg (fun h => a0 h.2.2.1)]; exact hr.symm
        · rw [if_neg (c := x = 120 ∧ _) (fun h => a0 h.2.2.1)]
          exact ev_pos (by omega) (ev_pos (by omega) (ev_pos (ex.2 hx) (ev_pos (by omega) (ev_pos (by omega) (ev_pos (by omega) (ev_bind (hex_ev c0) (ev_neg (fun h => a0 ((hexI_ge c0).1 h)) (turn0_ev s i x hn h hb))))))))
    · refine ⟨i + 1, by omega, by omega, ?_, ?_⟩
      · rw [if_neg (fun h => hx h.1)]; exact hr.symm
      · rw [if_neg (c := x = 120 ∧ _) (fun h => hx h.1)]
        exact ev_pos (by omega) (ev_pos (by omega) (ev_neg (fun h => hx (ex.1 h)) (turn0_ev s i x hn h hb)))
  · have h2l : ¬ 2 ≤ (s.data.toList.drop (i + 1)).length := by omega
    unfold turnL
    refine ⟨i + 1, by omega, by omega, ?_, ?_⟩
    · rw [if_neg (fun h => h2l h.2.1)]
    · rw [if_neg (c := x = 120 ∧ _) (fun h => h2l h.2.1)]
      refine ev_pos (by omega) (ev_pos (by omega) (ev_ite (fun _ => ev_neg (by omega) (turn0_ev s i x hn h hb)) (fun _ => turn0_ev s i x hn h hb)))
theorem step_ev (s : ByteArray) (m : UInt8) (hn : s.size ≤ 1000000000) (i : Nat) (c : UInt8) (h : i < s.size) (hb : bt s (i : Int) = (c.toNat : Int)) (hc : c ≠ m) (acc : List UInt8) (ha : acc.length ≤ i) :
    ∃ p, i < p ∧ p ≤ s.size ∧ (stepL m c (s.data.toList.drop (i + 1))).2 = s.data.toList.drop p ∧
      ∀ R, Ev (fun k => line_quoted.l0 k s (p : Int) (m.toNat : Int) (ints (acc ++ [(stepL m c (s.data.toList.drop (i + 1))).1]))) R → Ev (fun k => line_quoted.l0 k s (i : Int) (m.toNat : Int) (ints acc)) R := by
  have hne : ¬ (c.toNat : Int) = (m.toNat : Int) := fun h => hc ((u8_int c m).1 h)
  have e92 : ((c.toNat : Int) = 92) ↔ c = 92 := u8_int c 92
  have e34 : ((m.toNat : Int) = 34) ↔ m = 34 := u8_int m 34
  have e39 : ((m.toNat : Int) = 39) ↔ m = 39 := u8_int m 39
  have hil := ints_len acc
  have hent : ∀ R, Ev (fun k => line_quoted.j1 k s (i : Int) (m.toNat : Int) (ints acc) (c.toNat : Int) (decide (c = 92 ∧ m = 34 ∧ i + 1 < s.size))) R → Ev (fun k => line_quoted.l0 k s (i : Int) (m.toNat : Int) (ints acc)) R := by
    intro R hR
    refine ev_round ?_
    simp only [line_quoted.l0]
    rw [hb, w1 i (by omega)]
    refine ev_pos (by omega) (ev_pos (by omega) (ev_neg hne ?_))
    by_cases h1 : c = 92
    · refine ev_pos (e92.2 h1) ?_
      by_cases h2 : m = 34
      · refine ev_pos (e34.2 h2) ?_
        have : decide (((i + 1 : Nat) : Int) < (s.size : Int)) = decide (c = 92 ∧ m = 34 ∧ i + 1 < s.size) := by
          rw [decide_eq_decide]
          constructor
          · intro h; exact ⟨h1, h2, by omega⟩
          · intro h; have := h.2.2; omega
        rw [this]
        exact hR
      · rw [decide_eq_false (fun h => h2 h.2.1)] at hR
        exact ev_neg (fun h => h2 (e34.1 h)) hR
    · rw [decide_eq_false (fun h => h1 h.1)] at hR
      exact ev_neg (fun h => h1 (e92.1 h)) hR
  have hdef : ∀ R, ¬ (c = 92 ∧ m = 39 ∧ ∃ x, s.data.toList.drop (i + 1) = x :: s.data.toList.drop (i + 2) ∧ x = 39) → Ev (fun k => line_quoted.l0 k s ((i + 1 : Nat) : Int) (m.toNat : Int) (ints (acc ++ [c]))) R → Ev (fun k => line_quoted.j1 k s (i : Int) (m.toNat : Int) (ints acc) (c.toNat : Int) false) R := by
    intro R hno hR
    rw [ints_app] at hR
    refine ev_round ?_
    simp only [line_quoted.j1]
    rw [w1 i (by omega)]
    have hl : (ints acc).length < 140737488355328 := by omega
    refine ev_neg (by decide) (ev_ite (fun c1 => ev_ite (fun c2 => ev_ite (fun c3 => ev_pos (by omega) (ev_neg ?_ (ev_pos hl hR))) (fun _ => ev_pos hl hR)) (fun _ => ev_pos hl hR)) (fun _ => ev_pos hl hR))
    intro h4
    obtain ⟨x, hx, hbx⟩ := at_cons s (i + 1) (by omega)
    rw [hbx] at h4
    exact hno ⟨e92.1 c1, e39.1 c2, x, hx, by rw [(u8_int x m).1 h4]; exact e39.1 c2⟩
  by_cases hend : i + 1 < s.size
  · obtain ⟨x, hx, hbx⟩ := at_cons s (i + 1) hend
    rw [hx]
    simp only [stepL]
    by_cases h1 : c = 92 ∧ m = 34
    · rw [if_pos h1]
      obtain ⟨p, p1, p2, p3, p4⟩ := turn_ev s (i + 1) x hn hend hbx
      refine ⟨p, by omega, p2, p3, fun R hR => hent R ?_⟩
      rw [decide_eq_true ⟨h1.1, h1.2, hend⟩]
      refine ev_round ?_
      simp only [line_quoted.j1]
      rw [w1 i (by omega)]
      rw [ints_app] at hR
      exact ev_pos (by trivial) (ev_bind p4 (ev_pos (by omega) hR))
    · rw [if_neg h1]
      have hfl : decide (c = 92 ∧ m = 34 ∧ i + 1 < s.size) = false := decide_eq_false (fun h => h1 ⟨h.1, h.2.1⟩)
      by_cases h2 : c = 92 ∧ m = 39 ∧ x = 39
      · rw [if_pos h2]
        refine ⟨i + 2, by omega, by omega, rfl, fun R hR => hent R ?_⟩
        rw [hfl]
        rw [ints_app] at hR
        refine ev_round ?_
        simp only [line_quoted.j1]
        rw [w1 i (by omega), w2 i (by omega), hbx]
        obtain ⟨g1, g2, g3⟩ := h2
        subst g1; subst g2; subst g3
        exact ev_neg (by decide) (ev_pos (by trivial) (ev_pos (by trivial) (ev_pos (by omega) (ev_pos (by omega) (ev_pos (by trivial) (ev_pos (by omega) hR))))))
      · rw [if_neg h2]
        refine ⟨i + 1, by omega, by omega, hx.symm, fun R hR => hent R ?_⟩
        rw [hfl]
        refine hdef R ?_ hR
        rintro ⟨g1, g2, y, g3, g4⟩
        rw [hx] at g3
        injection g3 with g3 _
        exact h2 ⟨g1, g2, by rw [g3]; exact g4⟩
  · rw [drop_end s (i + 1) (by omega)]
    simp only [stepL]
    refine ⟨i + 1, by omega, by omega, (drop_end s (i + 1) (by omega)).symm, fun R hR => hent R ?_⟩
    rw [decide_eq_false (fun h => hend h.2.2)]
    refine hdef R ?_ hR
    rintro ⟨_, _, y, g3, _⟩
    rw [drop_end s (i + 1) (by omega)] at g3
    cases g3
theorem quoted_ev (s : ByteArray) (m : UInt8) (hn : s.size ≤ 1000000000) : ∀ (n i : Nat), s.size - i ≤ n → i ≤ s.size → ∀ acc : List UInt8, acc.length ≤ i →
    (quotedL m (s.data.toList.drop i) = none → ∃ a b, Ev (fun k => line_quoted.l0 k s (i : Int) (m.toNat : Int) (ints acc)) (a, b, false)) ∧
    (∀ x r, quotedL m (s.data.toList.drop i) = some (x, r) → ∃ p, i < p ∧ p ≤ s.size ∧ r = s.data.toList.drop p ∧ acc.length + x.length ≤ p ∧ Ev (fun k => line_quoted.l0 k s (i : Int) (m.toNat : Int) (ints acc)) (ints (acc ++ x), (p : Int), true)) := by
  intro n
  induction n with
  | zero =>
    intro i h1 h2 acc ha
    rw [drop_end s i (by omega), quotedL_nil]
    refine ⟨fun _ => ⟨[], (i : Int), ?_⟩, fun x r h => by cases h⟩
    refine ev_round ?_
    simp only [line_quoted.l0]
    exact ev_neg (by omega) (ev_some rfl)
  | succ n ih =>
    intro i h1 h2 acc ha
    by_cases hi : i < s.size
    · obtain ⟨c, hc, hb⟩ := at_cons s i hi
      rw [hc, quotedL_cons]
      by_cases hcm : c = m
      · rw [if_pos hcm]
        have hev : Ev (fun k => line_quoted.l0 k s (i : Int) (m.toNat : Int) (ints acc)) (ints acc, ((i + 1 : Nat) : Int), endsL (s.data.toList.drop (i + 1))) := by
          refine ev_round ?_
          simp only [line_quoted.l0]
          rw [hb, w1 i (by omega), hcm]
          exact ev_pos (by omega) (ev_pos (by omega) (ev_pos (by trivial) (ev_bind0 (ends_is s (i + 1) (by omega)) (ev_some rfl))))
        by_cases he : endsL (s.data.toList.drop (i + 1)) = true
        · rw [if_pos he]
          refine ⟨fun h => (by cases h), fun x r h => ?_⟩
          simp only [Option.some.injEq, Prod.mk.injEq] at h
          obtain ⟨rfl, rfl⟩ := h
          rw [he] at hev
          exact ⟨i + 1, by omega, by omega, rfl, by simp; omega, by rw [List.append_nil]; exact hev⟩
        · rw [if_neg he]
          have he' : endsL (s.data.toList.drop (i + 1)) = false := by simpa using he
          rw [he'] at hev
          exact ⟨fun _ => ⟨_, _, hev⟩, fun x r h => by cases h⟩
      · rw [if_neg hcm]
        obtain ⟨p, p1, p2, p3, p4⟩ := step_ev s m hn i c hi hb hcm acc ha
        generalize hst : stepL m c (s.data.toList.drop (i + 1)) = st at p3 p4 ⊢
        obtain ⟨q1, q2⟩ := ih p (by omega) p2 (acc ++ [st.1]) (by simp; omega)
        rw [p3]
        refine ⟨fun h => ?_, fun x r h => ?_⟩
        · simp only [Option.map_eq_none_iff] at h
          obtain ⟨a, b, hab⟩ := q1 h
          exact ⟨a, b, p4 _ hab⟩
        · simp only [Option.map_eq_some_iff] at h
          obtain ⟨⟨y, r'⟩, hy, hq⟩ := h
          simp only [Prod.mk.injEq] at hq
          obtain ⟨rfl, rfl⟩ := hq
          obtain ⟨p', g1, g2, g3, g4, g5⟩ := q2 y r' hy
          refine ⟨p', by omega, g2, g3, by simp at g4 ⊢; omega, p4 _ ?_⟩
          rw [List.append_assoc] at g5
          exact g5
    · rw [drop_end s i (by omega), quotedL_nil]
      refine ⟨fun _ => ⟨[], (i : Int), ?_⟩, fun x r h => by cases h⟩
      refine ev_round ?_
      simp only [line_quoted.l0]
      exact ev_neg (by omega) (ev_some rfl)
theorem stop_ev (s : ByteArray) (p : Nat) (hp : p ≤ s.size) (he : endsL (s.data.toList.drop p) = true) (acc : List UInt8) (out : List ByteArray) (ho : out.length ≤ 1000000000) (R : List ByteArray × Bool) (h : Ev (fun k => line_Split.l0 k s (out ++ [ofL acc]) (p : Int)) R) :
    Ev (fun k => line_Split.l2 k s out (p : Int) (ints acc)) R := by
  have hj : Ev (fun k => line_Split.j4 k s out (p : Int) (ints acc) false) R := by
    refine ev_round ?_
    simp only [line_Split.j4]
    rw [strOf_ints]
    exact ev_neg (by decide) (ev_pos (by omega) h)
  refine ev_round ?_
  simp only [line_Split.l2]
  by_cases hlt : p < s.size
  · obtain ⟨c, hc, hb⟩ := at_cons s p hlt
    rw [hc] at he
    have hbl : isBl c = true := he
    rw [hb]
    refine ev_pos (by omega) (ev_pos (by omega) (ev_bind0 (blank_is c) ?_))
    rw [hbl]
    exact hj
  · exact ev_neg (by omega) hj
theorem word_ev (s : ByteArray) (hn : s.size ≤ 1000000000) : ∀ (n i : Nat), s.size - i ≤ n → i ≤ s.size → ∀ (acc : List UInt8) (out : List ByteArray), acc.length ≤ i → out.length ≤ 1000000000 →
    (wordL (s.data.toList.drop i) = none → Ev (fun k => line_Split.l2 k s out (i : Int) (ints acc)) ([], false)) ∧
    (∀ x r, wordL (s.data.toList.drop i) = some (x, r) → ∃ p, i ≤ p ∧ p ≤ s.size ∧ r = s.data.toList.drop p ∧ ∀ R, Ev (fun k => line_Split.l0 k s (out ++ [ofL (acc ++ x)]) (p : Int)) R → Ev (fun k => line_Split.l2 k s out (i : Int) (ints acc)) R) := by
  intro n
  induction n with
  | zero =>
    intro i h1 h2 acc out ha ho
    rw [drop_end s i (by omega)]
    refine ⟨fun h => by simp [wordL] at h, fun x r h => ?_⟩
    simp only [wordL, Option.some.injEq, Prod.mk.injEq] at h
    obtain ⟨rfl, rfl⟩ := h
    refine ⟨i, Nat.le_refl _, h2, (drop_end s i (by omega)).symm, fun R hR => ?_⟩
    rw [List.append_nil] at hR
    exact stop_ev s i h2 (by rw [drop_end s i (by omega)]; rfl) acc out ho R hR
  | succ n ih =>
    intro i h1 h2 acc out ha ho
    by_cases hi : i < s.size
    · obtain ⟨c, hc, hb⟩ := at_cons s i hi
      have e34 : ((c.toNat : Int) = 34) ↔ c = 34 := u8_int c 34
      have e39 : ((c.toNat : Int) = 39) ↔ c = 39 := u8_int c 39
      by_cases hbl : isBl c = true
      · have hw : wordL (s.data.toList.drop i) = some ([], s.data.toList.drop i) := by rw [hc, wordL, if_pos hbl]
        rw [hw]
        refine ⟨fun h => (by cases h), fun x r h => ?_⟩
        simp only [Option.some.injEq, Prod.mk.injEq] at h
        obtain ⟨rfl, rfl⟩ := h
        refine ⟨i, Nat.le_refl _, h2, rfl, fun R hR => ?_⟩
        rw [List.append_nil] at hR
        exact stop_ev s i h2 (by rw [hc]; exact hbl) acc out ho R hR
      · have hbl' : isBl c = false := by simpa using hbl
        have hent : ∀ R, Ev (fun k => line_Split.j5 k s out (i : Int) (ints acc) (decide (¬ (c = 34 ∨ c = 39)))) R → Ev (fun k => line_Split.l2 k s out (i : Int) (ints acc)) R := by
          intro R hR
          refine ev_round ?_
          simp only [line_Split.l2]
          rw [hb]
          refine ev_pos (by omega) (ev_pos (by omega) (ev_bind0 (blank_is c) ?_))
          rw [hbl']
          refine ev_round ?_
          simp only [line_Split.j4]
          rw [hb]
          refine ev_pos (by trivial) (ev_pos (by omega) (ev_pos (by omega) ?_))
          by_cases h3 : c = 34
          · rw [decide_eq_false (fun h => h (Or.inl h3))] at hR
            exact ev_pos (e34.2 h3) hR
          · refine ev_neg (fun h => h3 (e34.1 h)) ?_
            by_cases h4 : c = 39
            · rw [decide_eq_false (fun h => h (Or.inr h4))] at hR
              subst h4
              exact hR
            · rw [decide_eq_true (show ¬ (c = 34 ∨ c = 39) from fun h => h.elim h3 h4)] at hR
              rw [show ((c.toNat : Int) != 39) = true from bne_iff_ne.2 (fun h => h4 (e39.1 h))]
              exact hR
        rw [hc, wordL, if_neg hbl]
        by_cases hq : c = 34 ∨ c = 39
        · rw [if_pos hq]
          rw [decide_eq_false (fun h => h hq)] at hent
          obtain ⟨q1, q2⟩ := quoted_ev s c hn (s.size - (i + 1)) (i + 1) (Nat.le_refl _) (by omega) [] (by simp)
          refine ⟨fun h => ?_, fun x r h => ?_⟩
          · obtain ⟨a, b, hab⟩ := q1 h
            refine hent _ (ev_round ?_)
            simp only [line_Split.j5]
            rw [hb, w1 i (by omega)]
            exact ev_neg (by decide) (ev_pos (by omega) (ev_pos (by omega) (ev_bind (show Ev (fun k => line_quoted.f k s ((i + 1 : Nat) : Int) (c.toNat : Int)) (a, b, false) from hab) (ev_neg (fun h => Bool.noConfusion h) (ev_some rfl)))))
          · obtain ⟨p, g1, g2, g3, g4, g5⟩ := q2 x r h
            have hend := (quotedL_ends c _ _ (Nat.le_refl _) _ _ h).1
            rw [List.nil_append] at g5
            refine ⟨p, by omega, g2, g3, fun R hR => hent _ (ev_round ?_)⟩
            simp only [line_Split.j5]
            rw [hb, w1 i (by omega)]
            have hl := ints_len acc
            have hl2 := ints_len x
            refine ev_neg (by decide) (ev_pos (by omega) (ev_pos (by omega) (ev_bind (show Ev (fun k => line_quoted.f k s ((i + 1 : Nat) : Int) (c.toNat : Int)) (ints x, (p : Int), true) from g5) (ev_pos (by trivial) (ev_pos ?_ ?_)))))
            · simp only [List.length_nil] at g4
              show (ints acc).length + (ints x).length < 140737488355328
              omega
            · have := stop_ev s p g2 (by rw [← g3]; exact hend) (acc ++ x) out ho R hR
              rw [ints_app] at this
              exact this
        · rw [if_neg hq]
          rw [decide_eq_true hq] at hent
          have hstep : ∀ R, Ev (fun k => line_Split.l2 k s out ((i + 1 : Nat) : Int) (ints (acc ++ [c]))) R → Ev (fun k => line_Split.l2 k s out (i : Int) (ints acc)) R := by
            intro R hR
            refine hent _ (ev_round ?_)
            simp only [line_Split.j5]
            rw [hb, w1 i (by omega)]
            have hl := ints_len acc
            rw [ints_app] at hR
            exact ev_pos (by trivial) (ev_pos (by omega) (ev_pos (by omega) (ev_pos (by omega) hR)))
          obtain ⟨q1, q2⟩ := ih (i + 1) (by omega) (by omega) (acc ++ [c]) out (by simp; omega) ho
          refine ⟨fun h => ?_, fun x r h => ?_⟩
          · simp only [Option.map_eq_none_iff] at h
            exact hstep _ (q1 h)
          · simp only [Option.map_eq_some_iff] at h
            obtain ⟨⟨y, r'⟩, hy, hq⟩ := h
            simp only [Prod.mk.injEq] at hq
            obtain ⟨rfl, rfl⟩ := hq
            obtain ⟨p, g1, g2, g3, g4⟩ := q2 y r' hy
            refine ⟨p, by omega, g2, g3, fun R hR => hstep R (g4 R ?_)⟩
            rw [List.append_assoc]
            exact hR
    · rw [drop_end s i (by omega)]
      refine ⟨fun h => by simp [wordL] at h, fun x r h => ?_⟩
      simp only [wordL, Option.some.injEq, Prod.mk.injEq] at h
      obtain ⟨rfl, rfl⟩ := h
      refine ⟨i, Nat.le_refl _, h2, (drop_end s i (by omega)).symm, fun R hR => ?_⟩
      rw [List.append_nil] at hR
      exact stop_ev s i h2 (by rw [drop_end s i (by omega)]; rfl) acc out ho R hR
def res (out : List ByteArray) (o : Option (List (List UInt8))) : List ByteArray × Bool := match o with
  | none => ([], false)
  | some ws => (out ++ ws.map ofL, true)
theorem split_l (s : ByteArray) (hn : s.size ≤ 1000000000) : ∀ (n i : Nat), s.size - i ≤ n → i ≤ s.size → ∀ out : List ByteArray, out.length ≤ i →
    Ev (fun k => line_Split.l1 k s out (i : Int)) (res out (splitL (s.data.toList.drop i))) := by
  intro n
  have hfin : ∀ i, i ≤ s.size → ¬ i < s.size → ∀ out : List ByteArray, Ev (fun k => line_Split.l1 k s out (i : Int)) (res out (splitL (s.data.toList.drop i))) := by
    intro i h2 hi out
    rw [drop_end s i (by omega), splitL_nil]
    refine ev_round ?_
    simp only [line_Split.l1]
    refine ev_neg (by omega) (ev_round ?_)
    simp only [line_Split.j2]
    exact ev_pos (by omega) (ev_some (by simp [res]))
  induction n with
  | zero => intro i h1 h2 out ho; exact hfin i h2 (by omega) out
  | succ n ih =>
    intro i h1 h2 out ho
    by_cases hi : i < s.size
    · obtain ⟨c, hc, hb⟩ := at_cons s i hi
      by_cases hbl : isBl c = true
      · rw [hc, splitL_blank _ _ hbl]
        refine ev_round ?_
        simp only [line_Split.l1]
        rw [hb, w1 i (by omega)]
        refine ev_pos (by omega) (ev_pos (by omega) (ev_bind0 (blank_is c) ?_))
        rw [hbl]
        exact ev_pos (by trivial) (ih (i + 1) (by omega) (by omega) out (by omega))
      · have hbl' : isBl c = false := by simpa using hbl
        have hent : ∀ R, Ev (fun k => line_Split.l2 k s out (i : Int) (ints [])) R → Ev (fun k => line_Split.l1 k s out (i : Int)) R := by
          intro R hR
          refine ev_round ?_
          simp only [line_Split.l1]
          rw [hb]
          refine ev_pos (by omega) (ev_pos (by omega) (ev_bind0 (blank_is c) ?_))
          rw [hbl']
          refine ev_neg (by decide) (ev_round ?_)
          simp only [line_Split.j2]
          exact ev_neg (by omega) hR
        obtain ⟨q1, q2⟩ := word_ev s hn (s.size - i) i (Nat.le_refl _) h2 [] out (by simp) (by omega)
        cases hw : wordL (s.data.toList.drop i) with
        | none =>
          have h3 := q1 hw
          rw [hc] at hw
          rw [hc, splitL_none _ _ hbl' hw]
          exact hent _ h3
        | some p =>
          obtain ⟨x, r⟩ := p
          obtain ⟨p, g1, g2, g3, g4⟩ := q2 x r hw
          have hlt : r.length < (s.data.toList.drop i).length := by
            rw [hc] at hw ⊢
            exact wordL_lt c _ x r hbl' hw
          rw [g3, drop_len, drop_len] at hlt
          rw [hc] at hw
          rw [hc, splitL_some _ _ _ _ hbl' hw]
          refine hent _ (g4 _ (ev_round ?_))
          simp only [line_Split.l0]
          have := ih p (by omega) g2 (out ++ [ofL x]) (by simp; omega)
          rw [g3]
          have e : res out ((splitL (s.data.toList.drop p)).map (x :: ·)) = res (out ++ [ofL x]) (splitL (s.data.toList.drop p)) := by
            cases splitL (s.data.toList.drop p) <;> simp [res]
          rw [e]
          exact this
    · exact hfin i h2 hi out
theorem split_ev (s : ByteArray) (hn : s.size ≤ 1000000000) : Ev (fun k => line_Split.f k s) (res [] (splitL s.data.toList)) := by
  unfold line_Split.f
  refine ev_round ?_
  simp only [line_Split.l0]
  exact split_l s hn s.size 0 (by omega) (by omega) [] (by simp)
end Go.Proofs.Ytehnogggokfcaaa.Pure
end
section
/- What line.Join comes to, on lists of bytes. No memory. -/
namespace Go.Proofs.Ytehnogggokfcaaa.Pure
open Go.RowKit Go.Proofs.YtehnogggokfcaaaW.PrintWords Go.Proofs.YtehnogggokfcaaaW.PrintMore Go.Proofs.Ytehnogggokfcaaa.Y Go.Proofs.Ytehnogggokfcaaa.X Go.Proofs.Ytehnogggokfcaaa.LM
set_option linter.unusedVariables false
set_option linter.unusedSimpArgs false

theorem bytesOf_ints (s : ByteArray) : bytesOf s = ints s.data.toList := by simp [bytesOf, ints]
theorem plain_l (s : ByteArray) (hn : s.size ≤ 1000000000) : ∀ (n i : Nat), s.size - i ≤ n → i ≤ s.size → Ev (fun k => line_plain.l0 k s (s.size : Int) (i : Int)) ((s.data.toList.drop i).all plainB && (s.toList != [])) := by
  intro n
  have hfin : ∀ i, ¬ i < s.size → Ev (fun k => line_plain.l0 k s (s.size : Int) (i : Int)) ((s.data.toList.drop i).all plainB && (s.toList != [])) := by
    intro i hi
    rw [drop_end s i (by omega)]
    refine ev_round ?_
    simp only [line_plain.l0]
    exact ev_neg (by omega) (ev_some (by simp))
  induction n with
  | zero => intro i h1 h2; exact hfin i (by omega)
  | succ n ih =>
    intro i h1 h2
    by_cases hi : i < s.size
    · obtain ⟨c, hc, hb⟩ := at_cons s i hi
      have hih := ih (i + 1) (by omega) (by omega)
      rw [hc, List.all_cons]
      have e34 : ((c.toNat : Int) = 34) ↔ c = 34 := u8_int c 34
      have e39 : ((c.toNat : Int) = 39) ↔ c = 39 := u8_int c 39
      have e92 : ((c.toNat : Int) = 92) ↔ c = 92 := u8_int c 92
      refine ev_round ?_
      simp only [line_plain.l0]
      rw [hb, w1 i (by omega)]
      refine ev_pos (by omega) (ev_pos (by omega) (ev_pos (by omega) ?_))
      by_cases p1 : (c.toNat : Int) < 33
      · refine ev_pos p1 (ev_some ?_)
        have : plainB c = false := by unfold plainB; rw [decide_eq_false (show ¬ 33 ≤ c.toNat by omega)]; rfl
        rw [this]; rfl
      · refine ev_neg p1 ?_
        by_cases p2 : (c.toNat : Int) > 126
        · refine ev_pos p2 (ev_some ?_)
          have : plainB c = false := by unfold plainB; rw [decide_eq_false (show ¬ c.toNat ≤ 126 by omega)]; simp
          rw [this]; rfl
        · refine ev_neg p2 ?_
          by_cases p3 : c = 34
          · refine ev_pos (e34.2 p3) (ev_some ?_)
            subst p3; rfl
          · refine ev_neg (fun h => p3 (e34.1 h)) ?_
            by_cases p4 : c = 39
            · refine ev_pos (e39.2 p4) (ev_some ?_)
              subst p4; rfl
            · refine ev_neg (fun h => p4 (e39.1 h)) ?_
              by_cases p5 : c = 92
              · refine ev_pos (e92.2 p5) (ev_some ?_)
                subst p5; rfl
              · refine ev_neg (fun h => p5 (e92.1 h)) ?_
                have : plainB c = true := by
                  unfold plainB
                  rw [decide_eq_true (show 33 ≤ c.toNat by omega), decide_eq_true (show c.toNat ≤ 126 by omega), bne_iff_ne.2 p3, bne_iff_ne.2 p4, bne_iff_ne.2 p5]; rfl
                rw [this, Bool.true_and]
                exact hih
    · exact hfin i hi
theorem plain_is (s : ByteArray) (hn : s.size ≤ 1000000000) : Ev (fun k => line_plain.f k s) (plainL s.data.toList) := by
  have := plain_l s hn s.size 0 (by omega) (by omega)
  have e : (((s.data.toList.drop 0).all plainB) && (s.toList != [])) = plainL s.data.toList := by
    unfold plainL
    rw [ba_toList, List.drop_zero, Bool.and_comm]
    cases s.data.toList <;> rfl
  rw [e] at this
  exact this
theorem hex_digit : ∀ c : Fin 256, 0 ≤ ((UInt8.ofNat c.val).toNat : Int) / 16 ∧ ((UInt8.ofNat c.val).toNat : Int) / 16 < 16 ∧ 0 ≤ Go.bits .and .u8 ((UInt8.ofNat c.val).toNat : Int) 15 ∧ Go.bits .and .u8 ((UInt8.ofNat c.val).toNat : Int) 15 < 16 ∧
    [92, 120, bt (⟨#[48, 49, 50, 51, 52, 53, 54, 55, 56, 57, 97, 98, 99, 100, 101, 102]⟩ : ByteArray) (((UInt8.ofNat c.val).toNat : Int) / 16), bt (⟨#[48, 49, 50, 51, 52, 53, 54, 55, 56, 57, 97, 98, 99, 100, 101, 102]⟩ : ByteArray) (Go.bits .and .u8 ((UInt8.ofNat c.val).toNat : Int) 15)] = ints [92, 120, dig ((UInt8.ofNat c.val).toNat / 16), dig ((UInt8.ofNat c.val).toNat % 16)] := by decide +kernel
theorem hex_digits (c : UInt8) : 0 ≤ (c.toNat : Int) / 16 ∧ (c.toNat : Int) / 16 < 16 ∧ 0 ≤ Go.bits .and .u8 (c.toNat : Int) 15 ∧ Go.bits .and .u8 (c.toNat : Int) 15 < 16 ∧
    [92, 120, bt (⟨#[48, 49, 50, 51, 52, 53, 54, 55, 56, 57, 97, 98, 99, 100, 101, 102]⟩ : ByteArray) ((c.toNat : Int) / 16), bt (⟨#[48, 49, 50, 51, 52, 53, 54, 55, 56, 57, 97, 98, 99, 100, 101, 102]⟩ : ByteArray) (Go.bits .and .u8 (c.toNat : Int) 15)] = ints [92, 120, dig (c.toNat / 16), dig (c.toNat % 16)] :=
  u8_fin (P := fun c => 0 ≤ (c.toNat : Int) / 16 ∧ (c.toNat : Int) / 16 < 16 ∧ 0 ≤ Go.bits .and .u8 (c.toNat : Int) 15 ∧ Go.bits .and .u8 (c.toNat : Int) 15 < 16 ∧
    [92, 120, bt (⟨#[48, 49, 50, 51, 52, 53, 54, 55, 56, 57, 97, 98, 99, 100, 101, 102]⟩ : ByteArray) ((c.toNat : Int) / 16), bt (⟨#[48, 49, 50, 51, 52, 53, 54, 55, 56, 57, 97, 98, 99, 100, 101, 102]⟩ : ByteArray) (Go.bits .and .u8 (c.toNat : Int) 15)] = ints [92, 120, dig (c.toNat / 16), dig (c.toNat % 16)]) hex_digit c
theorem escL_len (c : UInt8) : (escL c).length ≤ 4 := by unfold escL; split <;> (try split) <;> simp
theorem esc_ev (s : ByteArray) (l : List ByteArray) (j : Nat) (hn : s.size ≤ 1000000) (R : ByteArray) : ∀ (n i : Nat), s.size - i ≤ n → i ≤ s.size → ∀ acc : List UInt8, acc.length ≤ 100000000000 + 4 * i →
    Ev (fun k => line_Join.l0 k (ints (acc ++ ((s.data.toList.drop i).flatMap escL ++ [34]))) l (l.length : Int) (wrap64 ((j : Int) + 1))) R →
    Ev (fun k => line_Join.l1 k (ints acc) s l (l.length : Int) (j : Int) (s.size : Int) (i : Int)) R := by
  intro n
  have hfin : ∀ i, i ≤ s.size → ¬ i < s.size → ∀ acc : List UInt8, acc.length ≤ 100000000000 + 4 * i →
    Ev (fun k => line_Join.l0 k (ints (acc ++ ((s.data.toList.drop i).flatMap escL ++ [34]))) l (l.length : Int) (wrap64 ((j : Int) + 1))) R →
    Ev (fun k => line_Join.l1 k (ints acc) s l (l.length : Int) (j : Int) (s.size : Int) (i : Int)) R := by
    intro i h2 hi acc ha h
    rw [drop_end s i (by omega), List.flatMap_nil, List.nil_append, ints_app] at h
    have hl := ints_len acc
    refine ev_round ?_
    simp only [line_Join.l1]
    exact ev_neg (by omega) (ev_pos (by omega) h)
  induction n with
  | zero => intro i h1 h2 acc ha h; exact hfin i h2 (by omega) acc ha h
  | succ n ih =>
    intro i h1 h2 acc ha h
    by_cases hi : i < s.size
    · obtain ⟨c, hc, hb⟩ := at_cons s i hi
      rw [hc, List.flatMap_cons, List.append_assoc, ← List.append_assoc acc] at h
      have hel := escL_len c
      have hnext := ih (i + 1) (by omega) (by omega) (acc ++ escL c) (by simp; omega) h
      rw [ints_app] at hnext
      have hl := ints_len acc
      have e34 : ((c.toNat : Int) = 34) ↔ c = 34 := u8_int c 34
      have e92 : ((c.toNat : Int) = 92) ↔ c = 92 := u8_int c 92
      have hent : Ev (fun k => line_Join.j3 k (ints acc) s (c.toNat : Int) l (l.length : Int) (j : Int) (s.size : Int) (i : Int) (decide (c = 34 ∨ c = 92))) R → Ev (fun k => line_Join.l1 k (ints acc) s l (l.length : Int) (j : Int) (s.size : Int) (i : Int)) R := by
        intro hR
        refine ev_round ?_
        simp only [line_Join.l1]
        rw [hb]
        refine ev_pos (by omega) (ev_pos (by omega) (ev_pos (by omega) ?_))
        by_cases h3 : c = 34
        · rw [decide_eq_true (Or.inl h3)] at hR
          exact ev_pos (e34.2 h3) hR
        · refine ev_neg (fun h => h3 (e34.1 h)) ?_
          by_cases h4 : c = 92
          · rw [decide_eq_true (Or.inr h4)] at hR
            rw [show ((c.toNat : Int) == 92) = true from beq_iff_eq.2 (e92.2 h4)]
            exact hR
          · rw [decide_eq_false (fun h => h.elim h3 h4)] at hR
            rw [show ((c.toNat : Int) == 92) = false from beq_eq_false_iff_ne.2 (fun h => h4 (e92.1 h))]
            exact hR
      refine hent (ev_round ?_)
      simp only [line_Join.j3]
      rw [w1 i (by omega)]
      by_cases h1 : c = 34 ∨ c = 92
      · rw [decide_eq_true h1]
        have he : escL c = [92, c] := by unfold escL; rw [if_pos h1]
        rw [he] at hnext
        exact ev_pos (by trivial) (ev_bind0 rfl (ev_pos (by show (ints acc).length + 2 < _; omega) hnext))
      · rw [decide_eq_false h1]
        refine ev_neg (by decide) ?_
        obtain ⟨d1, d2, d3, d4, d5⟩ := hex_digits c
        by_cases h2 : c.toNat < 32
        · have he : escL c = [92, 120, dig (c.toNat / 16), dig (c.toNat % 16)] := by unfold escL; rw [if_neg h1, if_pos (Or.inl h2)]
          rw [he, ← d5] at hnext
          exact ev_pos (by omega) (ev_pos d1 (ev_pos d2 (ev_pos d3 (ev_pos d4 (ev_bind0 rfl (ev_pos (by show (ints acc).length + 4 < _; omega) hnext))))))
        · refine ev_neg (by omega) ?_
          by_cases h3 : 126 < c.toNat
          · have he : escL c = [92, 120, dig (c.toNat / 16), dig (c.toNat % 16)] := by unfold escL; rw [if_neg h1, if_pos (Or.inr h3)]
            rw [he, ← d5] at hnext
            exact ev_pos (by omega) (ev_pos d1 (ev_pos d2 (ev_pos d3 (ev_pos d4 (ev_bind0 rfl (ev_pos (by show (ints acc).length + 4 < _; omega) hnext))))))
          · have he : escL c = [c] := by unfold escL; rw [if_neg h1, if_neg (by omega)]
            rw [he] at hnext
            exact ev_neg (by omega) (ev_pos (by omega) hnext)
    · exact hfin i h2 hi acc ha h
def bs (l : List ByteArray) : List (List UInt8) := l.map fun s => s.data.toList
theorem ofL_bs (l : List ByteArray) : (bs l).map ofL = l := by
  unfold bs
  rw [List.map_map]
  conv => rhs; rw [← List.map_id l]
  apply List.map_congr_left
  intro w _
  exact ofL_of w
theorem escs_len (u : List UInt8) : (u.flatMap escL).length ≤ 4 * u.length := by
  induction u with
  | nil => simp
  | cons c u ih => rw [List.flatMap_cons, List.length_append, List.length_cons]; have := escL_len c; omega
theorem argL_len (u : List UInt8) : (argL u).length ≤ 4 * u.length + 2 := by
  unfold argL
  split
  · omega
  · have := escs_len u
    simp only [List.length_cons, List.length_append, List.length_nil]
    omega
theorem arg_ev (s : ByteArray) (l : List ByteArray) (j : Nat) (hn : s.size ≤ 1000000) (acc : List UInt8) (ha : acc.length ≤ 90000000000) (R : ByteArray)
    (h : Ev (fun k => line_Join.l0 k (ints (acc ++ argL s.data.toList)) l (l.length : Int) (wrap64 ((j : Int) + 1))) R) :
    Ev (fun k => line_Join.j1 k (ints acc) s l (l.length : Int) (j : Int)) R := by
  have hl := ints_len acc
  refine ev_round ?_
  simp only [line_Join.j1]
  refine ev_bind (plain_is s (by omega)) ?_
  unfold argL at h
  by_cases hp : plainL s.data.toList = true
  · rw [if_pos hp, ints_app, ← bytesOf_ints] at h
    exact ev_pos hp (ev_pos (by omega) h)
  · rw [if_neg hp] at h
    refine ev_neg hp (ev_pos (by omega) ?_)
    have := esc_ev s l j hn R s.size 0 (by omega) (by omega) (acc ++ [34]) (by simp; omega) (by
      rw [List.drop_zero, List.append_assoc]
      exact h)
    rw [ints_app] at this
    exact this
theorem join_l (l : List ByteArray) (hl : l.length ≤ 20000) (hs : ∀ s ∈ l, s.size ≤ 1000000) : ∀ (n j : Nat), l.length - j ≤ n → j ≤ l.length → ∀ acc : List UInt8, acc.length ≤ 4000003 * j →
    Ev (fun k => line_Join.l0 k (ints acc) l (l.length : Int) (j : Int)) (ofL (acc ++ (if j = 0 then joinL (bs l) else tailL ((bs l).drop j)))) := by
  intro n
  have hfin : ∀ j, j ≤ l.length → ¬ j < l.length → ∀ acc : List UInt8, acc.length ≤ 4000003 * j →
    Ev (fun k => line_Join.l0 k (ints acc) l (l.length : Int) (j : Int)) (ofL (acc ++ (if j = 0 then joinL (bs l) else tailL ((bs l).drop j)))) := by
    intro j h2 hj acc ha
    have e : (if j = 0 then joinL (bs l) else tailL ((bs l).drop j)) = [] := by
      by_cases h0 : j = 0
      · rw [if_pos h0]
        have : l = [] := List.length_eq_zero_iff.1 (by omega)
        subst this; rfl
      · rw [if_neg h0, List.drop_of_length_le (by simp [bs]; omega)]; rfl
    rw [e, List.append_nil]
    refine ev_round ?_
    simp only [line_Join.l0]
    exact ev_neg (by omega) (ev_some (strOf_ints acc))
  induction n with
  | zero => intro j h1 h2 acc ha; exact hfin j h2 (by omega) acc ha
  | succ n ih =>
    intro j h1 h2 acc ha
    by_cases hj : j < l.length
    · have hsz := hs l[j] (List.getElem_mem hj)
      have hbl : (bs l).length = l.length := by simp [bs]
      have hbj : (bs l)[j]'(by omega) = (l[j]).data.toList := by simp [bs]
      have hil := ints_len acc
      refine ev_round ?_
      simp only [line_Join.l0]
      rw [rdOf_nat _ l j hj]
      refine ev_pos (by omega) (ev_pos (by omega) (ev_pos (by omega) ?_))
      by_cases h0 : j = 0
      · subst h0
        refine ev_neg (by omega) (arg_ev l[0] l 0 hsz acc (by omega) _ ?_)
        rw [w1 0 (by omega)]
        have hlen := argL_len (l[0]).data.toList
        rw [← ba_size] at hlen
        have := ih 1 (by omega) (by omega) (acc ++ argL (l[0]).data.toList) (by simp; omega)
        rw [if_neg (by omega), List.append_assoc] at this
        rw [if_pos rfl]
        have e : joinL (bs l) = argL (l[0]).data.toList ++ tailL ((bs l).drop 1) := by
          have : bs l = (l[0]).data.toList :: (bs l).drop 1 := by
            rw [← hbj, ← List.drop_eq_getElem_cons (by omega), List.drop_zero]
          conv => lhs; rw [this]
          rfl
        rw [e]
        exact this
      · refine ev_pos (by omega) (ev_pos (by omega) ?_)
        rw [if_neg h0]
        have hlen := argL_len (l[j]).data.toList
        rw [← ba_size] at hlen
        have := ih (j + 1) (by omega) (by omega) ((acc ++ [32]) ++ argL (l[j]).data.toList) (by simp; omega)
        rw [if_neg (by omega)] at this
        have e : tailL ((bs l).drop j) = [32] ++ (argL (l[j]).data.toList ++ tailL ((bs l).drop (j + 1))) := by
          rw [List.drop_eq_getElem_cons (show j < (bs l).length by omega), hbj]
          simp [tailL]
        rw [e]
        have h3 := arg_ev l[j] l j hsz (acc ++ [32]) (by simp; omega) (ofL (acc ++ ([32] ++ (argL (l[j]).data.toList ++ tailL ((bs l).drop (j + 1)))))) (by
          rw [w1 j (by omega)]
          simp only [List.append_assoc] at this ⊢
          exact this)
        rw [ints_app] at h3
        exact h3
    · exact hfin j h2 hj acc ha
theorem join_ev (l : List ByteArray) (hl : l.length ≤ 20000) (hs : ∀ s ∈ l, s.size ≤ 1000000) : Ev (fun k => line_Join.f k l) (ofL (joinL (bs l))) := by
  have := join_l l hl hs l.length 0 (by omega) (by omega) [] (by simp)
  rw [if_pos rfl, List.nil_append] at this
  exact this
end Go.Proofs.Ytehnogggokfcaaa.Pure
end
section
/- What the document's join comes to, on lists of bytes. No memory. -/
namespace Go.Proofs.Ytehnogggokfcaaa.Pure
open Go.RowKit Go.Proofs.YtehnogggokfcaaaW.PrintWords Go.Proofs.YtehnogggokfcaaaW.PrintMore Go.Proofs.Ytehnogggokfcaaa.Y Go.Proofs.Ytehnogggokfcaaa.X Go.Proofs.Ytehnogggokfcaaa.LM
set_option linter.unusedVariables false
set_option linter.unusedSimpArgs false

theorem rofL_add (a b : List UInt8) : ofL a ++ ofL b = ofL (a ++ b) := by
  apply ba_ext
  rw [ba_append]
  rfl
theorem rofL_size (a : List UInt8) : (ofL a).size = a.length := by rw [ba_size, ofL_data]
theorem rext1 (s : ByteArray) (i : Nat) (c : UInt8) (h : s.data.toList.drop i = c :: s.data.toList.drop (i + 1)) : s.extract i (i + 1) = ofL [c] := by
  apply ba_ext
  rw [ba_extract, h, ofL_data, Nat.add_sub_cancel_left]
  rfl
def sg : ByteArray := ⟨#[48, 49, 50, 51, 52, 53, 54, 55, 56, 57, 97, 98, 99, 100, 101, 102]⟩
theorem sg_all : ∀ c : Fin 256, (Int.tdiv ((UInt8.ofNat c.val).toNat : Int) 16 % 256 = (((UInt8.ofNat c.val).toNat / 16 : Nat) : Int)) ∧ Int.tmod ((UInt8.ofNat c.val).toNat : Int) 16 = (((UInt8.ofNat c.val).toNat % 16 : Nat) : Int) := by decide +kernel
theorem sg_is (c : UInt8) : (Int.tdiv (c.toNat : Int) 16 % 256 = ((c.toNat / 16 : Nat) : Int)) ∧ Int.tmod (c.toNat : Int) 16 = ((c.toNat % 16 : Nat) : Int) :=
  u8_fin (P := fun c => (Int.tdiv (c.toNat : Int) 16 % 256 = ((c.toNat / 16 : Nat) : Int)) ∧ Int.tmod (c.toNat : Int) 16 = ((c.toNat % 16 : Nat) : Int)) sg_all c
theorem sg_dig : ∀ n : Fin 16, (sg.extract n.val (n.val + 1)).data.toList = [dig n.val] := by decide +kernel
theorem sg_ext (n : Nat) (h : n < 16) : sg.extract n (n + 1) = ofL [dig n] := ba_ext (sg_dig ⟨n, h⟩)
theorem add_mod (n : Nat) (h : n < 16) : ((n : Int) + 1) % 256 = ((n + 1 : Nat) : Int) := by omega
theorem hex_app (c : UInt8) : (((⟨#[92, 120]⟩ : ByteArray) ++ ofL [dig (c.toNat / 16)]) ++ ofL [dig (c.toNat % 16)]) = ofL [92, 120, dig (c.toNat / 16), dig (c.toNat % 16)] := by
  have : (⟨#[92, 120]⟩ : ByteArray) = ofL [92, 120] := rfl
  rw [this, rofL_add, rofL_add]; rfl
theorem rj3_ev (l : List ByteArray) (out : ByteArray) (j i : Nat) (hj : j < l.length) (hn : (l[j]).size ≤ 1000000) (hl : l.length ≤ 20000) (c : UInt8) (hi : i < (l[j]).size) (hd : (l[j]).data.toList.drop i = c :: (l[j]).data.toList.drop (i + 1)) (pl : Bool) (tx : List UInt8) (ht : tx.length ≤ 1000000000) (R : ByteArray)
    (h : Ev (fun k => mewsref04_Join.l1 k l sg out (j : Int) pl (ofL (tx ++ escL c)) ((i + 1 : Nat) : Int)) R) :
    Ev (fun k => mewsref04_Join.j3 k l sg out (j : Int) pl (ofL tx) (i : Int) (c.toNat : Int) (decide (c = 34 ∨ c = 92))) R := by
  have hext := rext1 (l[j]) i c hd
  have hone : (ofL [c]).size = 1 := rfl
  have htl := rofL_size tx
  refine ev_round ?_
  simp only [mewsref04_Join.j3]
  rw [rdOf_nat _ l j hj, w1 i (by omega)]
  simp only [Int.toNat_natCast]
  rw [hext]
  by_cases h1 : c = 34 ∨ c = 92
  · rw [decide_eq_true h1]
    have he : escL c = [92, c] := by unfold escL; rw [if_pos h1]
    rw [he] at h
    have e : (⟨#[92]⟩ : ByteArray) ++ ofL [c] = ofL [92, c] := rofL_add [92] [c]
    have hs : (ofL [92, c]).size = 2 := rfl
    rw [e, rofL_add]
    exact ev_pos (by trivial) (ev_pos (by omega) (ev_pos (by omega) (ev_pos (by omega) (ev_pos (by omega) (ev_pos (by omega) (ev_pos (by omega) (ev_pos (by omega) h)))))))
  · rw [decide_eq_false h1]
    refine ev_neg (by decide) ?_
    obtain ⟨s1, s2⟩ := sg_is c
    have hlt := UInt8.toNat_lt c
    have d1 : c.toNat / 16 < 16 := by omega
    have d2 : c.toNat % 16 < 16 := by omega
    have hz1 : (ofL [dig (c.toNat / 16)]).size = 1 := rfl
    have hz2 : (ofL [dig (c.toNat % 16)]).size = 1 := rfl
    have hz3 : ((⟨#[92, 120]⟩ : ByteArray) ++ ofL [dig (c.toNat / 16)]).size = 3 := by rw [ByteArray.size_append, hz1]; rfl
    have hz4 : (ofL [92, 120, dig (c.toNat / 16), dig (c.toNat % 16)]).size = 4 := rfl
    have hsg : sg.size = 16 := rfl
    have hh : ∀ R, Ev (fun k => mewsref04_Join.l1 k l sg out (j : Int) pl (ofL (tx ++ [92, 120, dig (c.toNat / 16), dig (c.toNat % 16)])) ((i + 1 : Nat) : Int)) R →
        Ev (fun k => (if 0 ≤ ((c.toNat / 16 : Nat) : Int) then (if ((c.toNat / 16 : Nat) : Int) ≤ ((((c.toNat / 16 : Nat) : Int)) + 1) % 256 then (if ((((c.toNat / 16 : Nat) : Int)) + 1) % 256 ≤ (sg.size : Int) then (if 2 + (sg.extract (c.toNat / 16) (((((c.toNat / 16 : Nat) : Int)) + 1) % 256).toNat).size ≤ 9223372036854775807 then (if 0 ≤ ((c.toNat % 16 : Nat) : Int) then (if ((c.toNat % 16 : Nat) : Int) ≤ ((((c.toNat % 16 : Nat) : Int)) + 1) % 256 then (if ((((c.toNat % 16 : Nat) : Int)) + 1) % 256 ≤ (sg.size : Int) then (if ((⟨#[92, 120]⟩ : ByteArray) ++ (sg.extract (c.toNat / 16) (((((c.toNat / 16 : Nat) : Int)) + 1) % 256).toNat)).size + (sg.extract (c.toNat % 16) (((((c.toNat % 16 : Nat) : Int)) + 1) % 256).toNat).size ≤ 9223372036854775807 then (if (ofL tx).size + (((⟨#[92, 120]⟩ : ByteArray) ++ (sg.extract (c.toNat / 16) (((((c.toNat / 16 : Nat) : Int)) + 1) % 256).toNat)) ++ (sg.extract (c.toNat % 16) (((((c.toNat % 16 : Nat) : Int)) + 1) % 256).toNat)).size ≤ 9223372036854775807 then (mewsref04_Join.l1 k l sg out (j : Int) pl (ofL tx ++ (((⟨#[92, 120]⟩ : ByteArray) ++ (sg.extract (c.toNat / 16) (((((c.toNat / 16 : Nat) : Int)) + 1) % 256).toNat)) ++ (sg.extract (c.toNat % 16) (((((c.toNat % 16 : Nat) : Int)) + 1) % 256).toNat))) ((i + 1 : Nat) : Int)) else (none)) else (none)) else (none)) else (none)) else (none)) else (none)) else (none)) else (none)) else (none))) R := by
      intro R h
      rw [add_mod _ d1, add_mod _ d2, Int.toNat_natCast, Int.toNat_natCast, sg_ext _ d1, sg_ext _ d2, hex_app, rofL_add]
      exact ev_pos (by omega) (ev_pos (by omega) (ev_pos (by omega) (ev_pos (by omega) (ev_pos (by omega) (ev_pos (by omega) (ev_pos (by omega) (ev_pos (by omega) (ev_pos (by omega) h))))))))
    rw [s1, s2]
    simp only [Int.toNat_natCast]
    by_cases h2 : c.toNat < 32
    · have he : escL c = [92, 120, dig (c.toNat / 16), dig (c.toNat % 16)] := by unfold escL; rw [if_neg h1, if_pos (Or.inl h2)]
      rw [he] at h
      exact ev_neg (by omega) (hh R h)
    · refine ev_pos (by omega) ?_
      by_cases h3 : 126 < c.toNat
      · have he : escL c = [92, 120, dig (c.toNat / 16), dig (c.toNat % 16)] := by unfold escL; rw [if_neg h1, if_pos (Or.inr h3)]
        rw [he] at h
        exact ev_neg (by omega) (hh R h)
      · have he : escL c = [c] := by unfold escL; rw [if_neg h1, if_neg (by omega)]
        rw [he] at h
        rw [rofL_add]
        exact ev_pos (by omega) (ev_pos (by omega) (ev_pos (by omega) (ev_pos (by omega) (ev_pos (by omega) (ev_pos (by omega) (ev_pos (by omega) h))))))
theorem rj2_ev (l : List ByteArray) (out : ByteArray) (j i : Nat) (c : UInt8) (pl : Bool) (tx : List UInt8) (R : ByteArray)
    (h : Ev (fun k => mewsref04_Join.j3 k l sg out (j : Int) pl (ofL tx) (i : Int) (c.toNat : Int) (decide (c = 34 ∨ c = 92))) R) :
    Ev (fun k => mewsref04_Join.j2 k l sg out (j : Int) pl (ofL tx) (i : Int) (c.toNat : Int)) R := by
  have e34 : ((c.toNat : Int) = 34) ↔ c = 34 := u8_int c 34
  have e92 : ((c.toNat : Int) = 92) ↔ c = 92 := u8_int c 92
  refine ev_round ?_
  simp only [mewsref04_Join.j2]
  by_cases h3 : c = 34
  · rw [decide_eq_true (Or.inl h3)] at h
    exact ev_pos (e34.2 h3) h
  · refine ev_neg (fun h => h3 (e34.1 h)) ?_
    by_cases h4 : c = 92
    · rw [decide_eq_true (Or.inr h4)] at h
      rw [show ((c.toNat : Int) == 92) = true from beq_iff_eq.2 (e92.2 h4)]
      exact h
    · rw [decide_eq_false (fun h => h.elim h3 h4)] at h
      rw [show ((c.toNat : Int) == 92) = false from beq_eq_false_iff_ne.2 (fun h => h4 (e92.1 h))]
      exact h
def argT (pl : Bool) (t : List UInt8) : List UInt8 := if pl then t else 34 :: (t ++ [34])
theorem rjoin_1 (l : List ByteArray) (j : Nat) (hj : j < l.length) (hn : (l[j]).size ≤ 1000000) (hl : l.length ≤ 20000) (out : List UInt8) (ho : out.length ≤ 100000000000) (R : ByteArray) : ∀ (n i : Nat), (l[j]).size - i ≤ n → i ≤ (l[j]).size → ∀ (pl : Bool) (tx : List UInt8), tx.length ≤ 4 * i →
    Ev (fun k => mewsref04_Join.l0 k l sg (ofL (out ++ ((if j = 0 then [] else [32]) ++ argT (pl && ((l[j]).data.toList.drop i).all plainB) (tx ++ ((l[j]).data.toList.drop i).flatMap escL)))) ((j + 1 : Nat) : Int)) R →
    Ev (fun k => mewsref04_Join.l1 k l sg (ofL out) (j : Int) pl (ofL tx) (i : Int)) R := by
  intro n
  have hfin : ∀ i, i ≤ (l[j]).size → ¬ i < (l[j]).size → ∀ (pl : Bool) (tx : List UInt8), tx.length ≤ 4 * i →
      Ev (fun k => mewsref04_Join.l0 k l sg (ofL (out ++ ((if j = 0 then [] else [32]) ++ argT (pl && ((l[j]).data.toList.drop i).all plainB) (tx ++ ((l[j]).data.toList.drop i).flatMap escL)))) ((j + 1 : Nat) : Int)) R →
      Ev (fun k => mewsref04_Join.l1 k l sg (ofL out) (j : Int) pl (ofL tx) (i : Int)) R := by
    intro i h2 hi pl tx ht h
    rw [drop_end _ i (by omega), List.all_nil, Bool.and_true, List.flatMap_nil, List.append_nil] at h
    have htl := rofL_size tx
    have hol := rofL_size out
    refine ev_round ?_
    simp only [mewsref04_Join.l1]
    rw [rdOf_nat _ l j hj, w1 j (by omega)]
    refine ev_pos (by omega) (ev_pos (by omega) (ev_neg (by omega) ?_))
    have e32 : ofL out ++ (⟨#[32]⟩ : ByteArray) = ofL (out ++ [32]) := rofL_add out [32]
    have e34 : ((⟨#[34]⟩ : ByteArray) ++ ofL tx) ++ (⟨#[34]⟩ : ByteArray) = ofL (34 :: (tx ++ [34])) := by
      have h1 : (⟨#[34]⟩ : ByteArray) = ofL [34] := rfl
      rw [h1, rofL_add, rofL_add]; rfl
    have z1 : ((⟨#[34]⟩ : ByteArray) ++ ofL tx).size = 1 + tx.length := by rw [ByteArray.size_append, htl]; rfl
    have z2 : (ofL (34 :: (tx ++ [34]))).size = tx.length + 2 := by rw [rofL_size]; simp
    have z3 : (ofL (out ++ [32])).size = out.length + 1 := by rw [rofL_size]; simp
    cases pl with
    | true =>
      refine ev_pos rfl ?_
      simp only [argT, if_true] at h
      by_cases h0 : j = 0
      · rw [if_pos h0, List.nil_append] at h
        rw [rofL_add]
        exact ev_neg (by omega) (ev_pos (by omega) h)
      · rw [if_neg h0, ← List.append_assoc] at h
        rw [e32, rofL_add]
        exact ev_pos (by omega) (ev_pos (by omega) (ev_pos (by omega) h))
    | false =>
      refine ev_neg (by decide) ?_
      simp only [argT, Bool.false_eq_true, if_false] at h
      rw [e34]
      refine ev_pos (by omega) (ev_pos (by omega) ?_)
      by_cases h0 : j = 0
      · rw [if_pos h0, List.nil_append] at h
        rw [rofL_add]
        exact ev_neg (by omega) (ev_pos (by omega) h)
      · rw [if_neg h0, ← List.append_assoc] at h
        rw [e32, rofL_add]
        exact ev_pos (by omega) (ev_pos (by omega) (ev_pos (by omega) h))
  induction n with
  | zero => intro i h1 h2 pl tx ht h; exact hfin i h2 (by omega) pl tx ht h
  | succ n ih =>
    intro i h1 h2 pl tx ht h
    by_cases hi : i < (l[j]).size
    · obtain ⟨c, hc, hb⟩ := at_cons (l[j]) i hi
      have hel := escL_len c
      have e34 : ((c.toNat : Int) = 34) ↔ c = 34 := u8_int c 34
      have e39 : ((c.toNat : Int) = 39) ↔ c = 39 := u8_int c 39
      have e92 : ((c.toNat : Int) = 92) ↔ c = 92 := u8_int c 92
      have hnext : ∀ pl', pl' = (pl && plainB c) → Ev (fun k => mewsref04_Join.j2 k l sg (ofL out) (j : Int) pl' (ofL tx) (i : Int) (c.toNat : Int)) R := by
        rintro pl' rfl
        refine rj2_ev l (ofL out) j i c _ tx R (rj3_ev l (ofL out) j i hj hn hl c hi hc _ tx (by omega) R ?_)
        refine ih (i + 1) (by omega) (by omega) _ (tx ++ escL c) (by simp; omega) ?_
        rw [hc, List.all_cons, List.flatMap_cons, ← Bool.and_assoc, ← List.append_assoc tx] at h
        exact h
      refine ev_round ?_
      simp only [mewsref04_Join.l1]
      rw [rdOf_nat _ l j hj, hb]
      refine ev_pos (by omega) (ev_pos (by omega) (ev_pos (by omega) (ev_pos (by omega) ?_)))
      cases pl with
      | false => exact ev_neg (by decide) (hnext false (by simp))
      | true =>
        refine ev_pos rfl ?_
        by_cases p1 : c.toNat < 33
        · exact ev_neg (by omega) (hnext false (by unfold plainB; rw [decide_eq_false (show ¬ 33 ≤ c.toNat by omega)]; rfl))
        · refine ev_pos (by omega) ?_
          by_cases p2 : 126 < c.toNat
          · exact ev_neg (by omega) (hnext false (by unfold plainB; rw [decide_eq_false (show ¬ c.toNat ≤ 126 by omega)]; simp))
          · refine ev_pos (by omega) ?_
            by_cases p3 : c = 34
            · exact ev_pos (e34.2 p3) (hnext false (by rw [p3]; rfl))
            · refine ev_neg (fun h => p3 (e34.1 h)) ?_
              by_cases p4 : c = 39
              · exact ev_pos (e39.2 p4) (hnext false (by rw [p4]; rfl))
              · refine ev_neg (fun h => p4 (e39.1 h)) (hnext _ ?_)
                by_cases p5 : c = 92
                · rw [p5]; rfl
                · rw [bne_iff_ne.2 (fun h => p5 (e92.1 h))]
                  unfold plainB
                  rw [decide_eq_true (show 33 ≤ c.toNat by omega), decide_eq_true (show c.toNat ≤ 126 by omega), bne_iff_ne.2 p3, bne_iff_ne.2 p4, bne_iff_ne.2 p5]; rfl
    · exact hfin i h2 hi pl tx ht h
theorem esc_plain : ∀ u : List UInt8, u.all plainB = true → u.flatMap escL = u
  | [], h => rfl
  | c :: u, h => by
    rw [List.all_cons, Bool.and_eq_true] at h
    have ih := esc_plain u h.2
    rw [List.flatMap_cons, ih]
    have hp := h.1
    unfold plainB at hp
    simp only [Bool.and_eq_true, decide_eq_true_eq, bne_iff_ne] at hp
    have : escL c = [c] := by
      unfold escL
      rw [if_neg (fun h => h.elim hp.1.1.2 hp.2), if_neg (by omega)]
    rw [this]; rfl
theorem argT_is (u : List UInt8) (b : Bool) (hb : b = (!u.isEmpty)) : argT (b && u.all plainB) (u.flatMap escL) = argL u := by
  subst hb
  unfold argT argL plainL
  by_cases h : ((!u.isEmpty) && u.all plainB) = true
  · rw [if_pos h, if_pos h]
    rw [Bool.and_eq_true] at h
    exact esc_plain u h.2
  · rw [if_neg h, if_neg h]
theorem rjoin_l (l : List ByteArray) (hl : l.length ≤ 20000) (hs : ∀ s ∈ l, s.size ≤ 1000000) : ∀ (n j : Nat), l.length - j ≤ n → j ≤ l.length → ∀ acc : List UInt8, acc.length ≤ 4000003 * j →
    Ev (fun k => mewsref04_Join.l0 k l sg (ofL acc) (j : Int)) (ofL (acc ++ (if j = 0 then joinL (bs l) else tailL ((bs l).drop j)))) := by
  intro n
  have hfin : ∀ j, j ≤ l.length → ¬ j < l.length → ∀ acc : List UInt8, Ev (fun k => mewsref04_Join.l0 k l sg (ofL acc) (j : Int)) (ofL (acc ++ (if j = 0 then joinL (bs l) else tailL ((bs l).drop j)))) := by
    intro j h2 hj acc
    have e : (if j = 0 then joinL (bs l) else tailL ((bs l).drop j)) = [] := by
      by_cases h0 : j = 0
      · rw [if_pos h0]
        have : l = [] := List.length_eq_zero_iff.1 (by omega)
        subst this; rfl
      · rw [if_neg h0, List.drop_of_length_le (by simp [bs]; omega)]; rfl
    rw [e, List.append_nil]
    refine ev_round ?_
    simp only [mewsref04_Join.l0]
    exact ev_neg (by omega) (ev_some rfl)
  induction n with
  | zero => intro j h1 h2 acc ha; exact hfin j h2 (by omega) acc
  | succ n ih =>
    intro j h1 h2 acc ha
    by_cases hj : j < l.length
    · have hsz := hs l[j] (List.getElem_mem hj)
      have hbl : (bs l).length = l.length := by simp [bs]
      have hbj : (bs l)[j]'(by omega) = (l[j]).data.toList := by simp [bs]
      have hlen := argL_len (l[j]).data.toList
      rw [← ba_size] at hlen
      have hempty : decide ((((l[j]).size : Nat) : Int) > 0) = !(l[j]).data.toList.isEmpty := by
        rw [ba_size]
        cases (l[j]).data.toList with
        | nil => rfl
        | cons c u => simp
      refine ev_round ?_
      simp only [mewsref04_Join.l0]
      rw [rdOf_nat _ l j hj, hempty]
      refine ev_pos (by omega) (ev_pos (by omega) ?_)
      refine rjoin_1 l j hj hsz hl acc (by omega) _ (l[j]).size 0 (by omega) (by omega) _ [] (by simp) ?_
      rw [List.drop_zero, List.nil_append, argT_is _ _ rfl]
      have := ih (j + 1) (by omega) (by omega) (acc ++ ((if j = 0 then [] else [32]) ++ argL (l[j]).data.toList)) (by
        simp only [List.length_append]
        have : (if j = 0 then ([] : List UInt8) else [32]).length ≤ 1 := by split <;> simp
        omega)
      rw [if_neg (show ¬ (j + 1 = 0) by omega), List.append_assoc acc] at this
      have e : (if j = 0 then joinL (bs l) else tailL ((bs l).drop j)) = ((if j = 0 then [] else [32]) ++ argL (l[j]).data.toList) ++ tailL ((bs l).drop (j + 1)) := by
        by_cases h0 : j = 0
        · subst h0
          rw [if_pos rfl, if_pos rfl, List.nil_append]
          have : bs l = (l[0]).data.toList :: (bs l).drop 1 := by
            rw [← hbj, ← List.drop_eq_getElem_cons (by omega), List.drop_zero]
          conv => lhs; rw [this]
          rfl
        · rw [if_neg h0, if_neg h0, List.drop_eq_getElem_cons (show j < (bs l).length by omega), hbj]
          simp [tailL]
      rw [e]
      exact this
    · exact hfin j h2 hj acc
theorem rjoin_ev (l : List ByteArray) (hl : l.length ≤ 20000) (hs : ∀ s ∈ l, s.size ≤ 1000000) : Ev (fun k => mewsref04_Join.f k l) (ofL (joinL (bs l))) := by
  have := rjoin_l l hl hs l.length 0 (by omega) (by omega) [] (by simp)
  rw [if_pos rfl, List.nil_append] at this
  exact this
end Go.Proofs.Ytehnogggokfcaaa.Pure
end
section
/- What the document's split comes to, on lists of bytes. No memory. -/
namespace Go.Proofs.Ytehnogggokfcaaa.Pure
open Go.RowKit Go.Proofs.YtehnogggokfcaaaW.PrintWords Go.Proofs.YtehnogggokfcaaaW.PrintMore Go.Proofs.Ytehnogggokfcaaa.Y Go.Proofs.Ytehnogggokfcaaa.X Go.Proofs.Ytehnogggokfcaaa.LM
set_option linter.unusedVariables false
set_option linter.unusedSimpArgs false

theorem digit_all : ∀ c : Fin 256, mewsref04_digit.f 20 ((UInt8.ofNat c.val).toNat : Int) = some (hexd (UInt8.ofNat c.val) : Int) := by decide +kernel
theorem digit_ev (c : UInt8) : Ev (fun k => mewsref04_digit.f k (c.toNat : Int)) (hexd c : Int) := Ev.of (mewsref04_digit.mono _) (k := 20) (u8_fin (P := fun c => mewsref04_digit.f 20 (c.toNat : Int) = some (hexd c : Int)) digit_all c)
theorem turned_all : ∀ c : Fin 256, mewsref04_turned.f 20 ((UInt8.ofNat c.val).toNat : Int) = some ((esc (UInt8.ofNat c.val)).toNat : Int) := by decide +kernel
theorem turned_ev (c : UInt8) : Ev (fun k => mewsref04_turned.f k (c.toNat : Int)) ((esc c).toNat : Int) := Ev.of (mewsref04_turned.mono _) (k := 20) (u8_fin (P := fun c => mewsref04_turned.f 20 (c.toNat : Int) = some ((esc c).toNat : Int)) turned_all c)
theorem ext1 (s : ByteArray) (i : Nat) (c : UInt8) (h : s.data.toList.drop i = c :: s.data.toList.drop (i + 1)) : s.extract i (i + 1) = ofL [c] := by
  apply ba_ext
  rw [ba_extract, h, ofL_data, Nat.add_sub_cancel_left]
  rfl
theorem ofL_add (a b : List UInt8) : ofL a ++ ofL b = ofL (a ++ b) := by
  apply ba_ext
  rw [ba_append]
  rfl
theorem ofL_size (a : List UInt8) : (ofL a).size = a.length := by rw [ba_size, ofL_data]
theorem strOf_one (c : UInt8) : strOfNums [(c.toNat : Int)] = ofL [c] := strOf_ints [c]
theorem rstep_ev (s : ByteArray) (q : UInt8) (hn : s.size ≤ 1000000000) (hq : q = 34 ∨ q = 39) (i : Nat) (c : UInt8) (h : i < s.size) (hd : s.data.toList.drop i = c :: s.data.toList.drop (i + 1)) (hb : bt s (i : Int) = (c.toNat : Int)) (hc : c ≠ q) (out : List ByteArray) (op : Bool) (nw : List UInt8) (hw : nw.length ≤ i) :
    ∃ p, i < p ∧ p ≤ s.size ∧ (stepL q c (s.data.toList.drop (i + 1))).2 = s.data.toList.drop p ∧
      ∀ R, Ev (fun k => mewsref04_Split.l0 k s out (q.toNat : Int) op false (ofL (nw ++ [(stepL q c (s.data.toList.drop (i + 1))).1])) (p : Int)) R → Ev (fun k => mewsref04_Split.j4 k s out (q.toNat : Int) op false (ofL nw) (i : Int) (c.toNat : Int) false) R := by
  have hne : ¬ (c.toNat : Int) = (q.toNat : Int) := fun h => hc ((u8_int c q).1 h)
  have hq0 : ¬ (q.toNat : Int) = 0 := fun h => by have := (u8_int q 0).1 h; subst this; simp at hq
  have e92 : ((c.toNat : Int) = 92) ↔ c = 92 := u8_int c 92
  have e34 : ((q.toNat : Int) = 34) ↔ q = 34 := u8_int q 34
  have e39 : ((q.toNat : Int) = 39) ↔ q = 39 := u8_int q 39
  have hsz : (ofL nw).size ≤ i := by rw [ofL_size]; exact hw
  have hext := ext1 s i c hd
  have hone : (ofL [c]).size = 1 := rfl
  have hj6 : ∀ R, (c = 92 → q = 39 → ∀ x, s.data.toList.drop (i + 1) = x :: s.data.toList.drop (i + 2) → i + 1 < s.size → x ≠ 39) → Ev (fun k => mewsref04_Split.l0 k s out (q.toNat : Int) op false (ofL (nw ++ [c])) ((i + 1 : Nat) : Int)) R →
      Ev (fun k => mewsref04_Split.j6 k s out (q.toNat : Int) op false (ofL nw) (i : Int) (c.toNat : Int) false) R := by
    intro R hno hR
    rw [← ofL_add] at hR
    refine ev_round ?_
    simp only [mewsref04_Split.j6]
    rw [w1 i (by omega)]
    simp only [Int.toNat_natCast]
    rw [hext]
    have hdef : ∀ R, Ev (fun k => mewsref04_Split.l0 k s out (q.toNat : Int) op false (ofL nw ++ ofL [c]) ((i + 1 : Nat) : Int)) R → Ev (fun k => if 0 ≤ (i : Int) then (if (i : Int) ≤ ((i + 1 : Nat) : Int) then (if ((i + 1 : Nat) : Int) ≤ (s.size : Int) then (if (ofL nw).size + (ofL [c]).size ≤ 9223372036854775807 then (mewsref04_Split.l0 k s out (q.toNat : Int) op false (ofL nw ++ ofL [c]) ((i + 1 : Nat) : Int)) else (none)) else (none)) else (none)) else (none)) R :=
      fun R h => ev_pos (by omega) (ev_pos (by omega) (ev_pos (by omega) (ev_pos (by omega) h)))
    refine ev_neg (by decide) (ev_ite (fun c1 => ev_ite (fun c2 => ev_ite (fun c3 => ev_pos (by omega) (ev_neg ?_ (hdef R hR))) (fun _ => hdef R hR)) (fun _ => hdef R hR)) (fun _ => hdef R hR))
    intro h4
    obtain ⟨x, hx, hbx⟩ := at_cons s (i + 1) (by omega)
    rw [hbx] at h4
    exact hno (e92.1 c1) (e39.1 c2) x hx (by omega) ((u8_int x 39).1 h4)
  have hj5 : ∀ R, Ev (fun k => mewsref04_Split.j6 k s out (q.toNat : Int) op false (ofL nw) (i : Int) (c.toNat : Int) (decide (c = 92 ∧ q = 34 ∧ i + 1 < s.size))) R → Ev (fun k => mewsref04_Split.j5 k s out (q.toNat : Int) op false (ofL nw) (i : Int) (c.toNat : Int) false) R := by
    intro R hR
    refine ev_round ?_
    simp only [mewsref04_Split.j5]
    rw [w1 i (by omega)]
    refine ev_neg (by decide) ?_
    by_cases h1 : c = 92
    · refine ev_pos (e92.2 h1) ?_
      by_cases h2 : q = 34
      · refine ev_pos (e34.2 h2) ?_
        have : decide (((i + 1 : Nat) : Int) < (s.size : Int)) = decide (c = 92 ∧ q = 34 ∧ i + 1 < s.size) := by
          rw [decide_eq_decide]
          constructor
          · intro h; exact ⟨h1, h2, by omega⟩
          · intro h; have := h.2.2; omega
        rw [this]
        exact hR
      · rw [decide_eq_false (fun h => h2 h.2.1)] at hR
        exact ev_neg (fun h => h2 (e34.1 h)) hR
    · rw [decide_eq_false (fun h => h1 h.1)] at hR
      exact ev_neg (fun h => h1 (e92.1 h)) hR
  have hnot : ∀ R, ¬ (c = 92 ∧ q = 34) → Ev (fun k => mewsref04_Split.j5 k s out (q.toNat : Int) op false (ofL nw) (i : Int) (c.toNat : Int) false) R → Ev (fun k => mewsref04_Split.j4 k s out (q.toNat : Int) op false (ofL nw) (i : Int) (c.toNat : Int) false) R := by
    intro R hno hR
    refine ev_round ?_
    simp only [mewsref04_Split.j4]
    refine ev_neg (by decide) (ev_neg hq0 (ev_neg hne (ev_ite (fun g1 => ev_neg (fun g2 => hno ⟨e92.1 g1, e34.1 g2⟩) hR) (fun _ => hR))))
  by_cases hend : i + 1 < s.size
  · obtain ⟨x, hx, hbx⟩ := at_cons s (i + 1) hend
    rw [hx]
    simp only [stepL]
    by_cases h1 : c = 92 ∧ q = 34
    · rw [if_pos h1]
      have ex : ((x.toNat : Int) = 120) ↔ x = 120 := u8_int x 120
      have hl := drop_len s (i + 2)
      have hen : ∀ R, Ev (fun k => mewsref04_Split.j5 k s out (q.toNat : Int) op false (ofL nw) (i : Int) (c.toNat : Int) (decide (x = 120 ∧ 2 ≤ (s.data.toList.drop (i + 2)).length ∧ hexd ((s.data.toList.drop (i + 2)).getD 0 0) < 16 ∧ hexd ((s.data.toList.drop (i + 2)).getD 1 0) < 16))) R → Ev (fun k => mewsref04_Split.j4 k s out (q.toNat : Int) op false (ofL nw) (i : Int) (c.toNat : Int) false) R := by
        intro R hR
        refine ev_round ?_
        simp only [mewsref04_Split.j4]
        rw [w1 i (by omega), w2 i (by omega), w3 i (by omega), hbx]
        refine ev_neg (by decide) (ev_neg hq0 (ev_neg hne (ev_pos (e92.2 h1.1) (ev_pos (e34.2 h1.2) ?_))))
        by_cases hlen : i + 3 < s.size
        · obtain ⟨c0, d0, b0⟩ := at_cons s (i + 2) (by omega)
          obtain ⟨c1, d1, b1⟩ := at_cons s (i + 3) (by omega)
          have hr : s.data.toList.drop (i + 2) = c0 :: c1 :: s.data.toList.drop (i + 4) := by rw [d0, d1]
          have h2l : 2 ≤ (s.data.toList.drop (i + 2)).length := by omega
          rw [hr] at hR h2l
          simp only [List.getD_cons_zero, List.getD_cons_succ] at hR
          rw [b0, b1]
          refine ev_pos (by omega) (ev_pos (by omega) (ev_pos (by omega) ?_))
          by_cases g1 : x = 120
          · refine ev_pos (ex.2 g1) (ev_pos (by omega) (ev_pos (by omega) (ev_bind (digit_ev c0) ?_)))
            by_cases g2 : hexd c0 < 16
            · refine ev_pos (by omega) (ev_pos (by omega) (ev_bind (digit_ev c1) ?_))
              have : decide ((hexd c1 : Int) < 16) = decide (x = 120 ∧ 2 ≤ (c0 :: c1 :: s.data.toList.drop (i + 4)).length ∧ hexd c0 < 16 ∧ hexd c1 < 16) := by
                rw [decide_eq_decide]
                constructor
                · intro h; exact ⟨g1, h2l, g2, by omega⟩
                · intro h; have := h.2.2.2; omega
              rw [this]
              exact hR
            · rw [decide_eq_false (fun h => g2 h.2.2.1)] at hR
              exact ev_neg (by omega) hR
          · rw [decide_eq_false (fun h => g1 h.1)] at hR
            exact ev_neg (fun h => g1 (ex.1 h)) hR
        · rw [decide_eq_false (fun h => by have := h.2.1; omega)] at hR
          exact ev_neg (by omega) hR
      unfold turnL
      by_cases ht : x = 120 ∧ 2 ≤ (s.data.toList.drop (i + 2)).length ∧ hexd ((s.data.toList.drop (i + 2)).getD 0 0) < 16 ∧ hexd ((s.data.toList.drop (i + 2)).getD 1 0) < 16
      · rw [if_pos ht]
        have hlen : i + 3 < s.size := by have := ht.2.1; omega
        obtain ⟨c0, d0, b0⟩ := at_cons s (i + 2) (by omega)
        obtain ⟨c1, d1, b1⟩ := at_cons s (i + 3) (by omega)
        have hr : s.data.toList.drop (i + 2) = c0 :: c1 :: s.data.toList.drop (i + 4) := by rw [d0, d1]
        refine ⟨i + 4, by omega, by omega, by simp [List.drop_drop], fun R hR => hen R ?_⟩
        rw [decide_eq_true ht]
        rw [hr] at ht hR
        simp only [List.getD_cons_zero, List.getD_cons_succ] at ht hR
        refine ev_round ?_
        simp only [mewsref04_Split.j5]
        rw [w2 i (by omega), w3 i (by omega), w1 (i + 3) (by omega), b0, b1]
        refine ev_pos (by trivial) (ev_pos (by omega) (ev_pos (by omega) (ev_bind (digit_ev c0) (ev_pos (by omega) (ev_pos (by omega) (ev_bind (digit_ev c1) (ev_bind0 rfl ?_)))))))
        have hv : (wrap64 (wrap64 (16 * (hexd c0 : Int)) + (hexd c1 : Int))) % 256 = ((UInt8.ofNat (16 * hexd c0 + hexd c1)).toNat : Int) := by
          have := ht.2.2
          rw [w64 (i := 16 * (hexd c0 : Int)) (by omega) (by omega), w64 (by omega) (by omega), UInt8.toNat_ofNat']
          congr 1
        rw [hv, strOf_one, ofL_add]
        exact ev_pos (by rw [ofL_size]; show _ + 1 ≤ _; omega) hR
      · rw [if_neg ht]
        refine ⟨i + 2, by omega, by omega, rfl, fun R hR => hen R ?_⟩
        rw [decide_eq_false ht]
        refine hj5 R (ev_round ?_)
        simp only [mewsref04_Split.j6]
        rw [w1 i (by omega), w1 (i + 1) (by omega), hbx, decide_eq_true ⟨h1.1, h1.2, hend⟩]
        refine ev_pos (by trivial) (ev_pos (by omega) (ev_pos (by omega) (ev_bind (turned_ev x) (ev_bind0 rfl ?_))))
        rw [strOf_one, ofL_add]
        exact ev_pos (by rw [ofL_size]; show _ + 1 ≤ _; omega) hR
    · rw [if_neg h1]
      have hfl : decide (c = 92 ∧ q = 34 ∧ i + 1 < s.size) = false := decide_eq_false (fun h => h1 ⟨h.1, h.2.1⟩)
      rw [hfl] at hj5
      by_cases h2 : c = 92 ∧ q = 39 ∧ x = 39
      · rw [if_pos h2]
        refine ⟨i + 2, by omega, by omega, rfl, fun R hR => hnot R h1 (hj5 R (ev_round ?_))⟩
        simp only [mewsref04_Split.j6]
        rw [w1 i (by omega), w1 (i + 1) (by omega), hbx]
        obtain ⟨g1, g2, g3⟩ := h2
        subst g1; subst g2; subst g3
        have e : ofL nw ++ (⟨#[39]⟩ : ByteArray) = ofL (nw ++ [39]) := ofL_add nw [39]
        rw [e]
        exact ev_neg (by decide) (ev_pos rfl (ev_pos rfl (ev_pos (by omega) (ev_pos (by omega) (ev_pos rfl (ev_pos (by rw [ofL_size]; omega) hR))))))
      · rw [if_neg h2]
        refine ⟨i + 1, by omega, by omega, hx.symm, fun R hR => hnot R h1 (hj5 R (hj6 R ?_ hR))⟩
        intro g1 g2 y g3 _ g4
        rw [hx] at g3
        injection g3 with g3 _
        exact h2 ⟨g1, g2, by rw [g3]; exact g4⟩
  · rw [drop_end s (i + 1) (by omega)]
    simp only [stepL]
    refine ⟨i + 1, by omega, by omega, (drop_end s (i + 1) (by omega)).symm, fun R hR => ?_⟩
    have h6 := hj6 R (fun _ _ x _ h => absurd h hend) hR
    rw [decide_eq_false (fun h => hend h.2.2)] at hj5
    have h5 := hj5 R h6
    by_cases h1 : c = 92 ∧ q = 34
    · refine ev_round ?_
      simp only [mewsref04_Split.j4]
      rw [w3 i (by omega)]
      exact ev_neg (by decide) (ev_neg hq0 (ev_neg hne (ev_pos (e92.2 h1.1) (ev_pos (e34.2 h1.2) (ev_neg (by omega) h5)))))
    · exact hnot R h1 h5
theorem ref_l (s : ByteArray) (hn : s.size ≤ 1000000000) : ∀ (n i : Nat), s.size - i ≤ n → i ≤ s.size → ∀ (q : UInt8) (op cl : Bool) (nw : List UInt8) (out : List (List UInt8)), (q = 0 ∨ q = 34 ∨ q = 39) → nw.length ≤ i → out.length ≤ i →
    Ev (fun k => mewsref04_Split.l0 k s (out.map ofL) (q.toNat : Int) op cl (ofL nw) (i : Int)) (res [] (refL (s.data.toList.drop i) q op cl nw out)) := by
  intro n
  have hfin : ∀ i, i ≤ s.size → ¬ i < s.size → ∀ (q : UInt8) (op cl : Bool) (nw : List UInt8) (out : List (List UInt8)), out.length ≤ i →
      Ev (fun k => mewsref04_Split.l0 k s (out.map ofL) (q.toNat : Int) op cl (ofL nw) (i : Int)) (res [] (refL (s.data.toList.drop i) q op cl nw out)) := by
    intro i h2 hi q op cl nw out ho
    have e0 : ((q.toNat : Int) = 0) ↔ q = 0 := u8_int q 0
    rw [drop_end s i (by omega), refL_nil]
    refine ev_round ?_
    simp only [mewsref04_Split.l0]
    refine ev_neg (by omega) ?_
    by_cases hq : q = 0
    · refine ev_pos (e0.2 hq) ?_
      rw [if_neg (show ¬ (q ≠ 0) from fun h => h hq)]
      cases op with
      | true => exact ev_pos rfl (ev_pos (by rw [List.length_map]; omega) (ev_some (by simp [res])))
      | false => exact ev_neg (by decide) (ev_some (by simp [res]))
    · rw [if_pos hq]
      exact ev_neg (fun h => hq (e0.1 h)) (ev_some rfl)
  induction n with
  | zero => intro i h1 h2 q op cl nw out hq hw ho; exact hfin i h2 (by omega) q op cl nw out ho
  | succ n ih =>
    intro i h1 h2 q op cl nw out hq hw ho
    by_cases hi : i < s.size
    · obtain ⟨c, hc, hb⟩ := at_cons s i hi
      have e0 : ((q.toNat : Int) = 0) ↔ q = 0 := u8_int q 0
      have e34 : ((c.toNat : Int) = 34) ↔ c = 34 := u8_int c 34
      have e39 : ((c.toNat : Int) = 39) ↔ c = 39 := u8_int c 39
      have e32 : ((c.toNat : Int) = 32) ↔ c = 32 := u8_int c 32
      have e9 : ((c.toNat : Int) = 9) ↔ c = 9 := u8_int c 9
      have hent : ∀ R, Ev (fun k => mewsref04_Split.j2 k s (out.map ofL) (q.toNat : Int) op (ofL nw) (i : Int) (c.toNat : Int) (isBl c) (cl && !isBl c)) R → Ev (fun k => mewsref04_Split.l0 k s (out.map ofL) (q.toNat : Int) op cl (ofL nw) (i : Int)) R := by
        intro R hR
        have h1 : Ev (fun k => mewsref04_Split.j1 k s (out.map ofL) (q.toNat : Int) op cl (ofL nw) (i : Int) (c.toNat : Int) (isBl c)) R := by
          refine ev_round ?_
          simp only [mewsref04_Split.j1]
          cases cl with
          | true => exact ev_pos rfl hR
          | false => exact ev_neg (by decide) hR
        refine ev_round ?_
        simp only [mewsref04_Split.l0]
        rw [hb]
        refine ev_pos (by omega) (ev_pos (by omega) ?_)
        by_cases h32 : c = 32
        · refine ev_pos (e32.2 h32) ?_
          rw [h32] at h1 ⊢
          exact h1
        · refine ev_neg (fun h => h32 (e32.1 h)) ?_
          have : ((c.toNat : Int) == 9) = isBl c := by
            unfold isBl
            rw [show (c == 32) = false from beq_eq_false_iff_ne.2 h32, Bool.false_or]
            by_cases h9 : c = 9
            · rw [h9]; rfl
            · rw [beq_eq_false_iff_ne.2 h9, beq_eq_false_iff_ne.2 (fun h => h9 (e9.1 h))]
          rw [this]
          exact h1
      rw [hc]
      by_cases hcl : (cl && !isBl c) = true
      · rw [refL_cons, if_pos hcl]
        refine hent _ (ev_round ?_)
        simp only [mewsref04_Split.j2]
        exact ev_pos hcl (ev_some rfl)
      · have hcl' : (cl && !isBl c) = false := by simpa using hcl
        rw [refL_cons, if_neg hcl]
        rw [hcl'] at hent
        by_cases hq0 : q = 0
        · rw [if_pos hq0]
          have hent2 : ∀ R, Ev (fun k => mewsref04_Split.j3 k s (out.map ofL) (q.toNat : Int) op false (ofL nw) (i : Int) (c.toNat : Int) (isBl c)) R → Ev (fun k => mewsref04_Split.l0 k s (out.map ofL) (q.toNat : Int) op cl (ofL nw) (i : Int)) R := by
            intro R hR
            refine hent R (ev_round ?_)
            simp only [mewsref04_Split.j2]
            exact ev_neg (by decide) (ev_pos (e0.2 hq0) hR)
          by_cases hbl : isBl c = true
          · rw [if_pos hbl]
            refine hent2 _ (ev_round ?_)
            simp only [mewsref04_Split.j3]
            rw [w1 i (by omega)]
            refine ev_pos hbl ?_
            have hno : (⟨#[]⟩ : ByteArray) = ofL [] := rfl
            rw [hno]
            cases op with
            | true =>
              have := ih (i + 1) (by omega) (by omega) q false false [] (out ++ [nw]) (Or.inl hq0) (by simp) (by simp; omega)
              rw [List.map_append] at this
              rw [hq0] at this ⊢
              exact ev_pos rfl (ev_pos (by rw [List.length_map]; omega) this)
            | false =>
              have := ih (i + 1) (by omega) (by omega) q false false [] out (Or.inl hq0) (by simp) (by omega)
              rw [hq0] at this ⊢
              exact ev_neg (by decide) this
          · have hbl' : isBl c = false := by simpa using hbl
            rw [if_neg hbl]
            rw [hbl'] at hent2
            have hent3 : ∀ R, Ev (fun k => mewsref04_Split.j4 k s (out.map ofL) (q.toNat : Int) op false (ofL nw) (i : Int) (c.toNat : Int) (decide (c = 34 ∨ c = 39))) R → Ev (fun k => mewsref04_Split.l0 k s (out.map ofL) (q.toNat : Int) op cl (ofL nw) (i : Int)) R := by
              intro R hR
              refine hent2 R (ev_round ?_)
              simp only [mewsref04_Split.j3]
              refine ev_neg (by decide) (ev_pos (e0.2 hq0) ?_)
              by_cases h3 : c = 34
              · rw [decide_eq_true (Or.inl h3)] at hR
                exact ev_pos (e34.2 h3) hR
              · refine ev_neg (fun h => h3 (e34.1 h)) ?_
                by_cases h4 : c = 39
                · rw [decide_eq_true (Or.inr h4)] at hR
                  rw [show ((c.toNat : Int) == 39) = true from beq_iff_eq.2 (e39.2 h4)]
                  exact hR
                · rw [decide_eq_false (fun h => h.elim h3 h4)] at hR
                  rw [show ((c.toNat : Int) == 39) = false from beq_eq_false_iff_ne.2 (fun h => h4 (e39.1 h))]
                  exact hR
            by_cases hqu : c = 34 ∨ c = 39
            · rw [if_pos hqu]
              refine hent3 _ (ev_round ?_)
              simp only [mewsref04_Split.j4]
              rw [w1 i (by omega), decide_eq_true hqu]
              exact ev_pos (by trivial) (ih (i + 1) (by omega) (by omega) c true false nw out (Or.inr hqu) (by omega) (by omega))
            · rw [if_neg hqu]
              refine hent3 _ (ev_round ?_)
              simp only [mewsref04_Split.j4]
              rw [w1 i (by omega), decide_eq_false hqu]
              simp only [Int.toNat_natCast]
              rw [ext1 s i c hc, ofL_add]
              have := ih (i + 1) (by omega) (by omega) q true false (nw ++ [c]) out (Or.inl hq0) (by simp; omega) (by omega)
              rw [hq0] at this
              have h0 : (q.toNat : Int) = 0 := e0.2 hq0
              rw [h0]
              refine ev_neg (by decide) (ev_pos rfl (ev_pos (by omega) (ev_pos (by omega) (ev_pos (by omega) (ev_pos ?_ this)))))
              rw [ofL_size, ofL_size]
              simp only [List.length_cons, List.length_nil]
              omega
        · rw [if_neg hq0]
          have hq2 : q = 34 ∨ q = 39 := hq.resolve_left hq0
          have hent2 : ∀ R, Ev (fun k => mewsref04_Split.j4 k s (out.map ofL) (q.toNat : Int) op false (ofL nw) (i : Int) (c.toNat : Int) false) R → Ev (fun k => mewsref04_Split.l0 k s (out.map ofL) (q.toNat : Int) op cl (ofL nw) (i : Int)) R := by
            intro R hR
            refine hent R (ev_round ?_)
            simp only [mewsref04_Split.j2]
            refine ev_neg (by decide) (ev_neg (fun h => hq0 (e0.1 h)) (ev_round ?_))
            simp only [mewsref04_Split.j3]
            exact ev_neg (by decide) (ev_neg (fun h => hq0 (e0.1 h)) hR)
          by_cases hcq : c = q
          · rw [if_pos hcq]
            refine hent2 _ (ev_round ?_)
            simp only [mewsref04_Split.j4]
            rw [w1 i (by omega), hcq]
            have := ih (i + 1) (by omega) (by omega) 0 op true nw out (Or.inl rfl) (by omega) (by omega)
            exact ev_neg (by decide) (ev_neg (fun h => hq0 (e0.1 h)) (ev_pos (by trivial) this))
          · rw [if_neg hcq]
            obtain ⟨p, p1, p2, p3, p4⟩ := rstep_ev s q hn hq2 i c hi hc hb hcq (out.map ofL) op nw hw
            generalize stepL q c (s.data.toList.drop (i + 1)) = st at p3 p4 ⊢
            rw [p3]
            exact hent2 _ (p4 _ (ih p (by omega) p2 q op false (nw ++ [st.1]) out (Or.inr hq2) (by simp; omega) (by omega)))
    · exact hfin i h2 hi q op cl nw out ho
theorem rsplit_ev (s : ByteArray) (hn : s.size ≤ 1000000000) : Ev (fun k => mewsref04_Split.f k s) (res [] (splitL s.data.toList)) := by
  have := ref_l s hn s.size 0 (by omega) (by omega) 0 false false [] [] (Or.inl rfl) (by simp) (by simp)
  rw [List.drop_zero, refL_split _ _ (Nat.le_refl _)] at this
  have e : (splitL s.data.toList).map (([] : List (List UInt8)) ++ ·) = splitL s.data.toList := by cases splitL s.data.toList <;> rfl
  rw [e] at this
  exact this
end Go.Proofs.Ytehnogggokfcaaa.Pure
end
section
/- How long lines are. No memory. -/
namespace Go.Proofs.Ytehnogggokfcaaa.Pure
open Go.RowKit Go.Proofs.YtehnogggokfcaaaW.PrintWords Go.Proofs.YtehnogggokfcaaaW.PrintMore Go.Proofs.Ytehnogggokfcaaa.Y Go.Proofs.Ytehnogggokfcaaa.X Go.Proofs.Ytehnogggokfcaaa.LM
set_option linter.unusedVariables false
set_option linter.unusedSimpArgs false

theorem tailL_len (m : Nat) : ∀ ls : List (List UInt8), (∀ w ∈ ls, w.length ≤ m) → (tailL ls).length ≤ ls.length * (4 * m + 3)
  | [], h => by simp [tailL]
  | a :: ls, h => by
    have ih := tailL_len m ls fun w hw => h w (by simp [hw])
    have h1 := argL_len a
    have h2 := h a (by simp)
    have e : (tailL (a :: ls)).length = 1 + (argL a).length + (tailL ls).length := by simp [tailL]; omega
    rw [e, List.length_cons, Nat.succ_mul]
    omega
theorem joinL_len (m : Nat) (ls : List (List UInt8)) (h : ∀ w ∈ ls, w.length ≤ m) : (joinL ls).length ≤ ls.length * (4 * m + 3) := by
  cases ls with
  | nil => simp [joinL]
  | cons a ls =>
    have h0 := tailL_len m ls fun w hw => h w (by simp [hw])
    have h1 := argL_len a
    have h2 := h a (by simp)
    rw [joinL, List.length_append, List.length_cons, Nat.succ_mul]
    omega
theorem bs_len (l : List ByteArray) (m : Nat) (h : ∀ s ∈ l, s.size ≤ m) : ∀ w ∈ bs l, w.length ≤ m := by
  intro w hw
  obtain ⟨s, hs, rfl⟩ := List.mem_map.1 hw
  have := h s hs
  rw [ba_size] at this
  exact this
theorem res_nil (o : Option (List (List UInt8))) : res [] o = ((o.getD []).map ofL, o.isSome) := by cases o <;> simp [res]
end Go.Proofs.Ytehnogggokfcaaa.Pure
end
section
/- Great letters. No memory. -/
namespace Go.Proofs.Ytehnogggokfcaaa.PureU
open Go.RowKit Go.Proofs.YtehnogggokfcaaaW.PrintWords Go.Proofs.YtehnogggokfcaaaW.PrintMore Go.Proofs.Ytehnogggokfcaaa.Y Go.Proofs.Ytehnogggokfcaaa.X
set_option linter.unusedVariables false
set_option linter.unusedSimpArgs false

def ofL (u : List UInt8) : ByteArray := ⟨u.toArray⟩
theorem ofL_data (u : List UInt8) : (ofL u).data.toList = u := rfl
theorem ofL_of (s : ByteArray) : ofL s.data.toList = s := ba_ext rfl
theorem ofL_size (a : List UInt8) : (ofL a).size = a.length := by rw [ba_size, ofL_data]
theorem ofL_add (a b : List UInt8) : ofL a ++ ofL b = ofL (a ++ b) := by
  apply ba_ext
  rw [ba_append]
  rfl
theorem at_cons (s : ByteArray) (i : Nat) (h : i < s.size) : ∃ c, s.data.toList.drop i = c :: s.data.toList.drop (i + 1) ∧ bt s (i : Int) = (c.toNat : Int) := by
  rw [ba_size] at h
  exact ⟨s.data.toList[i], List.drop_eq_getElem_cons h, bt_nat s i (by rw [ba_size]; exact h)⟩
theorem drop_end (s : ByteArray) (i : Nat) (h : s.size ≤ i) : s.data.toList.drop i = [] := List.drop_of_length_le (by rw [← ba_size]; exact h)
theorem ext1 (s : ByteArray) (i : Nat) (c : UInt8) (h : s.data.toList.drop i = c :: s.data.toList.drop (i + 1)) : s.extract i (i + 1) = ofL [c] := by
  apply ba_ext
  rw [ba_extract, h, ofL_data, Nat.add_sub_cancel_left]
  rfl
theorem w1 (i : Nat) (h : i ≤ 2000000000) : wrap64 ((i : Int) + 1) = ((i + 1 : Nat) : Int) := by
  rw [w64 (by omega) (by omega)]; omega
def up (s : ByteArray) : ByteArray := ofL (s.data.toList.map upC)
theorem upper_is (s : ByteArray) (h : s.size ≤ 140737488351232) : table_Upper.f s = some (up s) := by
  unfold table_Upper.f
  rw [if_pos h]; rfl
def smalls : ByteArray := ⟨#[97, 98, 99, 100, 101, 102, 103, 104, 105, 106, 107, 108, 109, 110, 111, 112, 113, 114, 115, 116, 117, 118, 119, 120, 121, 122]⟩
def greats : ByteArray := ⟨#[65, 66, 67, 68, 69, 70, 71, 72, 73, 74, 75, 76, 77, 78, 79, 80, 81, 82, 83, 84, 85, 86, 87, 88, 89, 90]⟩
theorem sm_at : ∀ j : Fin 26, bt smalls (j.val : Int) = ((97 + j.val : Nat) : Int) := by decide +kernel
theorem gr_at : ∀ j : Fin 26, (greats.extract j.val (j.val + 1)).data.toList = [UInt8.ofNat (65 + j.val)] := by decide +kernel
def mid (c : UInt8) (j : Nat) : UInt8 := if 97 ≤ c.toNat ∧ c.toNat < 97 + j then UInt8.ofNat (c.toNat - 32) else c
theorem mid_end (c : UInt8) : mid c 26 = upC c := by
  unfold mid upC
  by_cases h : 97 ≤ c.toNat ∧ c.toNat ≤ 122
  · rw [if_pos h, if_pos (by omega)]
  · rw [if_neg h, if_neg (by omega)]
theorem rupper_in (s x5 : ByteArray) (i : Nat) (hi : i < s.size) (hs : s.size ≤ 1000000) (h5 : x5.size ≤ 1000000) (c : UInt8) (hb : bt s (i : Int) = (c.toNat : Int)) (R : ByteArray)
    (h : Ev (fun k => mewsref28_Upper.l0 k s smalls greats (x5 ++ ofL [upC c]) ((i + 1 : Nat) : Int)) R) :
    ∀ n j, 26 - j ≤ n → j ≤ 26 → Ev (fun k => mewsref28_Upper.l1 k s smalls greats x5 (i : Int) (ofL [mid c j]) (j : Int)) R := by
  intro n
  have hone : ∀ c, (ofL [c]).size = 1 := fun _ => rfl
  have hfin : Ev (fun k => mewsref28_Upper.l1 k s smalls greats x5 (i : Int) (ofL [mid c 26]) ((26 : Nat) : Int)) R := by
    refine ev_round ?_
    simp only [mewsref28_Upper.l1]
    rw [w1 i (by omega), mid_end]
    exact ev_neg (by omega) (ev_pos (by have := hone (upC c); omega) h)
  induction n with
  | zero =>
    intro j h1 h2
    obtain rfl : j = 26 := by omega
    exact hfin
  | succ n ih =>
    intro j h1 h2
    by_cases hj : j < 26
    · have hih := ih (j + 1) (by omega) (by omega)
      have hsm := sm_at ⟨j, hj⟩
      have hgr := gr_at ⟨j, hj⟩
      simp only at hsm hgr
      have hz1 : smalls.size = 26 := rfl
      have hz2 : greats.size = 26 := rfl
      refine ev_round ?_
      simp only [mewsref28_Upper.l1]
      rw [hb, hsm, w1 j (by omega)]
      refine ev_pos (by omega) (ev_pos (by omega) (ev_pos (by omega) (ev_pos (by omega) (ev_pos (by omega) ?_))))
      by_cases hc : c.toNat = 97 + j
      · refine ev_pos (by omega) (ev_pos (by omega) (ev_pos (by omega) ?_))
        simp only [Int.toNat_natCast]
        have e : greats.extract j (j + 1) = ofL [mid c (j + 1)] := by
          apply ba_ext
          rw [hgr, ofL_data]
          unfold mid
          rw [if_pos (by omega)]
          congr 2
          omega
        rw [e]
        exact hih
      · have e : mid c (j + 1) = mid c j := by
          unfold mid
          by_cases h3 : 97 ≤ c.toNat ∧ c.toNat < 97 + j
          · rw [if_pos h3, if_pos (by omega)]
          · rw [if_neg h3, if_neg (by omega)]
        rw [e] at hih
        exact ev_neg (by omega) hih
    · obtain rfl : j = 26 := by omega
      exact hfin
theorem rupper_l (s : ByteArray) (hs : s.size ≤ 1000000) : ∀ n i, s.size - i ≤ n → i ≤ s.size → Ev (fun k => mewsref28_Upper.l0 k s smalls greats (ofL ((s.data.toList.take i).map upC)) (i : Int)) (up s) := by
  intro n
  have hfin : Ev (fun k => mewsref28_Upper.l0 k s smalls greats (ofL ((s.data.toList.take s.size).map upC)) (s.size : Int)) (up s) := by
    refine ev_round ?_
    simp only [mewsref28_Upper.l0]
    refine ev_neg (by omega) (ev_some ?_)
    rw [List.take_of_length_le (by rw [ba_size]; exact Nat.le_refl _)]; rfl
  induction n with
  | zero =>
    intro i h1 h2
    obtain rfl : i = s.size := by omega
    exact hfin
  | succ n ih =>
    intro i h1 h2
    by_cases hi : i < s.size
    · obtain ⟨c, hc, hb⟩ := at_cons s i hi
      refine ev_round ?_
      simp only [mewsref28_Upper.l0]
      rw [w1 i (by omega)]
      simp only [Int.toNat_natCast]
      rw [ext1 s i c hc]
      refine ev_pos (by omega) (ev_pos (by omega) (ev_pos (by omega) (ev_pos (by omega) ?_)))
      have hm : mid c 0 = c := by unfold mid; rw [if_neg (by omega)]
      have hlen : (ofL ((s.data.toList.take i).map upC)).size ≤ 1000000 := by
        rw [ofL_size, List.length_map, List.length_take, ← ba_size]; omega
      have := rupper_in s _ i hi hs hlen c hb (up s) (by
        rw [ofL_add]
        have e : (s.data.toList.take i).map upC ++ [upC c] = (s.data.toList.take (i + 1)).map upC := by
          have hil : i < s.data.toList.length := by rw [← ba_size]; exact hi
          rw [List.take_succ_eq_append_getElem hil, List.map_append]
          have : s.data.toList[i] = c := by
            have h3 := List.drop_eq_getElem_cons hil
            rw [hc] at h3
            injection h3 with h3 _
            exact h3.symm
          rw [this]; rfl
        rw [e]
        exact ih (i + 1) (by omega) (by omega)) 26 0 (by omega) (by omega)
      rw [hm] at this
      exact this
    · obtain rfl : i = s.size := by omega
      exact hfin
theorem rupper_ev (s : ByteArray) (hs : s.size ≤ 1000000) : Ev (fun k => mewsref28_Upper.f k s) (up s) := rupper_l s hs s.size 0 (by omega) (by omega)
end Go.Proofs.Ytehnogggokfcaaa.PureU
end
