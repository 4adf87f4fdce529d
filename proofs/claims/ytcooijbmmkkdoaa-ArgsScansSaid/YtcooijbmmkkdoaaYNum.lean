/- Decimals: plain facts on lists of bytes. No program in sight. -/
import Derived.Test.YtcooijbmmkkdoaaY
import Derived.Test.YtcooijbmmkkdoaaEText
namespace Go.Proofs.Ytcooijbmmkkdoaa.Y
open Go.RowKit Go.Proofs.YtcooijbmmkkdoaaW.PrintWords Go.Proofs.Ytcooijbmmkkdoaa.X
set_option linter.unusedVariables false

def DD (k u : Nat) : List UInt8 := dg k u []
theorem dg_app : ∀ (k u : Nat) (acc : List UInt8), dg k u acc = dg k u [] ++ acc
  | 0, u, acc => by simp [dg]
  | k + 1, u, acc => by
    simp only [dg]
    by_cases h : u / 10 = 0
    · simp [h]
    · rw [if_neg h, if_neg h, dg_app k (u / 10) (dgt u :: acc), dg_app k (u / 10) [dgt u], List.append_assoc]
      rfl
theorem DD_succ (k u : Nat) : DD (k + 1) u = if u / 10 = 0 then [dgt u] else DD k (u / 10) ++ [dgt u] := by
  unfold DD
  simp only [dg]
  by_cases h : u / 10 = 0
  · simp [h]
  · rw [if_neg h, if_neg h, dg_app]
/-- A digit. -/
def isDig (c : UInt8) : Bool := decide (48 ≤ c.toNat) && decide (c.toNat ≤ 57)
def val (l : List UInt8) : Nat := l.foldl (fun a c => a * 10 + (c.toNat - 48)) 0
theorem val_snoc (l : List UInt8) (c : UInt8) : val (l ++ [c]) = val l * 10 + (c.toNat - 48) := by simp [val]
theorem val_nil : val [] = 0 := rfl
/-- Digits, at least one, none of them a zero ahead of others. -/
def good (l : List UInt8) : Bool := !l.isEmpty && l.all isDig && (l.head? != some 48 || decide (l.length = 1))
theorem dgt_nat (u : Nat) : (dgt u).toNat = 48 + u % 10 := by
  unfold dgt
  rw [UInt8.toNat_ofNat']
  omega
theorem isDig_dgt (u : Nat) : isDig (dgt u) = true := by
  unfold isDig
  rw [dgt_nat]
  simp
  omega
theorem isDig_iff (c : UInt8) : isDig c = true ↔ 48 ≤ c.toNat ∧ c.toNat ≤ 57 := by simp [isDig]
theorem good_iff (l : List UInt8) : good l = true ↔ l ≠ [] ∧ (∀ c ∈ l, isDig c = true) ∧ (l.head? = some 48 → l.length = 1) := by
  unfold good
  simp only [Bool.and_eq_true, Bool.or_eq_true, Bool.not_eq_true', List.isEmpty_eq_false_iff, List.all_eq_true, bne_iff_ne, decide_eq_true_eq, and_assoc]
  constructor
  · rintro ⟨h1, h2, h3⟩
    exact ⟨h1, h2, fun h => h3.resolve_left (fun h4 => h4 h)⟩
  · rintro ⟨h1, h2, h3⟩
    refine ⟨h1, h2, ?_⟩
    by_cases h : l.head? = some 48
    · exact .inr (h3 h)
    · exact .inl h
theorem head_app {α : Type} {l r : List α} (h : l ≠ []) : (l ++ r).head? = l.head? := by
  cases l with
  | nil => exact absurd rfl h
  | cons c l => rfl
theorem DD_ne (k u : Nat) : DD (k + 1) u ≠ [] := by
  rw [DD_succ]
  split <;> simp
theorem DD_dig : ∀ (k u : Nat), ∀ c ∈ DD k u, isDig c = true
  | 0, u => by simp [DD, dg]
  | k + 1, u => by
    rw [DD_succ]
    split
    · intro c hc
      rw [List.mem_singleton.1 hc]
      exact isDig_dgt u
    · intro c hc
      rcases List.mem_append.1 hc with hc | hc
      · exact DD_dig k _ c hc
      · rw [List.mem_singleton.1 hc]
        exact isDig_dgt u
theorem DD_val : ∀ (k u : Nat), u < 10 ^ k → val (DD k u) = u
  | 0, u, h => by simp at h; subst h; rfl
  | k + 1, u, h => by
    rw [DD_succ]
    split
    · simp [val, dgt_nat]
      omega
    · rw [val_snoc, DD_val k (u / 10) (by rw [Nat.pow_succ] at h; omega), dgt_nat]
      omega
theorem DD_head : ∀ (k u : Nat), u < 10 ^ k → 0 < u → (DD k u).head? ≠ some 48
  | 0, u, h, h0 => by simp at h; omega
  | k + 1, u, h, h0 => by
    rw [DD_succ]
    split
    · rename_i hz
      intro he
      have : (dgt u).toNat = 48 := by simp at he; rw [he]; rfl
      rw [dgt_nat] at this
      omega
    · rename_i hz
      have h1 := DD_head k (u / 10) (by rw [Nat.pow_succ] at h; omega) (by omega)
      cases k with
      | zero => simp at h; omega
      | succ k =>
        have h2 := DD_ne k (u / 10)
        rw [head_app h2]
        exact h1
theorem DD_good (k u : Nat) (h : u < 10 ^ (k + 1)) : good (DD (k + 1) u) = true := by
  rw [good_iff]
  refine ⟨DD_ne k u, DD_dig _ u, fun hh => ?_⟩
  rcases Nat.eq_zero_or_pos u with rfl | h0
  · rw [DD_succ]
    rfl
  · exact absurd hh (DD_head _ u h h0)
theorem val_pos {l : List UInt8} (h1 : l ≠ []) (h2 : ∀ c ∈ l, isDig c = true) (h3 : l.head? ≠ some 48) : 0 < val l := by
  have key : ∀ (l : List UInt8) (a : Nat), 0 < a → 0 < l.foldl (fun a c => a * 10 + (c.toNat - 48)) a := by
    intro l
    induction l with
    | nil => intro a h; exact h
    | cons c l ih => intro a h; simp only [List.foldl_cons]; exact ih _ (by omega)
  cases l with
  | nil => exact absurd rfl h1
  | cons c l =>
    have hc := (isDig_iff c).1 (h2 c (by simp))
    have hne : c.toNat ≠ 48 := by
      intro he
      refine h3 ?_
      have : c = 48 := UInt8.toNat_inj.1 he
      simp [this]
    unfold val
    simp only [List.foldl_cons]
    exact key l _ (by omega)
theorem snoc_cases {α : Type} (l : List α) : l = [] ∨ ∃ l' c, l = l' ++ [c] := by
  rcases List.eq_nil_or_concat l with h | ⟨l', c, h⟩
  · exact .inl h
  · exact .inr ⟨l', c, by simpa using h⟩
/-- A good text is that of its value. -/
theorem DD_back : ∀ (k : Nat) (l : List UInt8), good l = true → l.length ≤ k → DD k (val l) = l
  | 0, l, h, hl => by
    have := ((good_iff l).1 h).1
    cases l with
    | nil => exact absurd rfl this
    | cons c l => simp at hl
  | k + 1, l, h, hl => by
    obtain ⟨h1, h2, h3⟩ := (good_iff l).1 h
    rcases snoc_cases l with rfl | ⟨l', c, rfl⟩
    · exact absurd rfl h1
    have hc := (isDig_iff c).1 (h2 c (by simp))
    have hdc : dgt (val l' * 10 + (c.toNat - 48)) = c := UInt8.toNat_inj.1 (by rw [dgt_nat]; omega)
    rw [DD_succ, val_snoc, hdc]
    rcases snoc_cases l' with rfl | ⟨l2, c2, rfl⟩
    · rw [if_pos (by simp [val]; omega)]
      rfl
    · have hne : (l2 ++ [c2]) ≠ [] := by simp
      have hh : (l2 ++ [c2]).head? ≠ some 48 := by
        intro he
        have := h3 (by rw [head_app hne]; exact he)
        simp at this
      have hp := val_pos hne (fun x hx => h2 x (by simp only [List.mem_append] at hx ⊢; exact .inl hx)) hh
      rw [if_neg (by omega)]
      have e : (val (l2 ++ [c2]) * 10 + (c.toNat - 48)) / 10 = val (l2 ++ [c2]) := by omega
      rw [e, DD_back k (l2 ++ [c2]) ((good_iff _).2 ⟨hne, fun x hx => h2 x (by simp only [List.mem_append] at hx ⊢; exact .inl hx), fun he => absurd he hh⟩) (by simp at hl ⊢; omega)]
theorem val_mono : ∀ (l r : List UInt8), val l ≤ val (l ++ r) := by
  have key : ∀ (r : List UInt8) (a : Nat), a ≤ r.foldl (fun a c => a * 10 + (c.toNat - 48)) a := by
    intro r
    induction r with
    | nil => intro a; exact Nat.le_refl _
    | cons c r ih => intro a; simp only [List.foldl_cons]; exact Nat.le_trans (by omega) (ih _)
  intro l r
  unfold val
  rw [List.foldl_append]
  exact key r _
theorem val_lt : ∀ (l : List UInt8), (∀ c ∈ l, isDig c = true) → val l < 10 ^ l.length := by
  suffices H : ∀ (n : Nat) (l : List UInt8), l.length = n → (∀ c ∈ l, isDig c = true) → val l < 10 ^ n from fun l h => H _ l rfl h
  intro n
  induction n with
  | zero => intro l hl h; rw [List.length_eq_zero_iff.1 hl]; simp [val]
  | succ n ih =>
    intro l hl h
    rcases snoc_cases l with rfl | ⟨l, c, rfl⟩
    · simp at hl
    have hc := (isDig_iff c).1 (h c (by simp))
    have := ih l (by simpa using hl) (fun x hx => h x (by simp [hx]))
    rw [val_snoc, Nat.pow_succ]
    omega
/-- A good text of more than 19 digits is of a number beyond all. -/
theorem val_ge {l : List UInt8} (h : good l = true) (hl : 19 < l.length) : 10000000000000000000 ≤ val l := by
  obtain ⟨h1, h2, h3⟩ := (good_iff l).1 h
  have hp : ∀ (n : Nat) (l : List UInt8), (∀ c ∈ l, isDig c = true) → l.head? ≠ some 48 → l.length = n + 1 → 10 ^ n ≤ val l := by
    intro n
    induction n with
    | zero => intro l h2 h3 hl; exact val_pos (by rintro rfl; simp at hl) h2 h3
    | succ n ih =>
      intro l h2 h3 hl
      rcases snoc_cases l with rfl | ⟨l', c, rfl⟩
      · simp at hl
      have hne : l' ≠ [] := by rintro rfl; simp at hl
      have := ih l' (fun x hx => h2 x (by simp [hx])) (by rw [head_app hne] at h3; exact h3) (by simpa using hl)
      rw [val_snoc, Nat.pow_succ]
      omega
  obtain ⟨n, hn⟩ : ∃ n, l.length = n + 1 := ⟨l.length - 1, by omega⟩
  have h4 := hp n l h2 (fun he => by have := h3 he; omega) hn
  exact Nat.le_trans (Nat.le_trans (by decide) (Nat.pow_le_pow_right (by decide) (show 19 ≤ n by omega))) h4

/-- What a text is parsed as. -/
def parseN (t : List UInt8) : Int × Bool := if good t = true ∧ t ≠ [48] ∧ val t ≤ 9223372036854775808 then (-(val t : Int), true) else (0, false)
def parseP (l : List UInt8) : Int × Bool :=
  if l.head? = some 45 then parseN l.tail
  else if good l = true ∧ val l < 9223372036854775808 then ((val l : Int), true) else (0, false)
def textL (n : Int) : List UInt8 := if n < 0 then 45 :: DD 20 n.natAbs else DD 20 n.natAbs
theorem textB_data (n : Int) : (textB n).data.toList = textL n := by
  unfold textB textL DD
  split <;> simp
theorem lt20 {m : Nat} (h : m ≤ 9223372036854775808) : m < 10 ^ 20 := Nat.lt_of_le_of_lt h (by decide)
theorem head_DD (n : Nat) : (DD 20 n).head? ≠ some 45 := by
  have h1 := DD_ne 19 n
  have h2 := DD_dig 20 n
  cases h : DD 20 n with
  | nil => exact absurd h h1
  | cons c l =>
    rw [h] at h2
    have := (isDig_iff c).1 (h2 c (by simp))
    intro he
    simp at he
    subst he
    simp at this
/-- A number's text is parsed as it. -/
theorem parse_text (n : Int) (h0 : -9223372036854775808 ≤ n) (h1 : n ≤ 9223372036854775807) : parseP (textL n) = (n, true) := by
  unfold parseP textL
  by_cases hn : n < 0
  · rw [if_pos hn]
    rw [if_pos (by simp)]
    show parseN (DD 20 n.natAbs) = _
    unfold parseN
    have hv := DD_val 20 n.natAbs (lt20 (by omega))
    have hz : DD 20 n.natAbs ≠ [48] := by
      intro he
      rw [he] at hv
      simp [val] at hv
      omega
    rw [hv, if_pos ⟨DD_good 19 _ (lt20 (by omega)), hz, by omega⟩, show (-(n.natAbs : Int)) = n by omega]
  · rw [if_neg hn, if_neg (head_DD _), DD_val 20 n.natAbs (lt20 (by omega)), if_pos ⟨DD_good 19 _ (lt20 (by omega)), by omega⟩]
    congr 1
    omega
/-- What is parsed is in its bounds, and its text is what was parsed. -/
theorem parse_back (l : List UInt8) (n : Int) (h : parseP l = (n, true)) : textL n = l ∧ -9223372036854775808 ≤ n ∧ n ≤ 9223372036854775807 := by
  unfold parseP at h
  split at h
  · rename_i hm
    unfold parseN at h
    split at h
    · rename_i hc
      obtain ⟨hg, hz, hv⟩ := hc
      injection h with h _
      subst h
      have hlen : l.tail.length ≤ 20 := by
        rcases Nat.lt_or_ge 19 l.tail.length with hh | hh
        · have := val_ge hg hh; omega
        · omega
      have hpos : 0 < val l.tail := by
        obtain ⟨g1, g2, g3⟩ := (good_iff _).1 hg
        refine val_pos g1 g2 (fun he => hz ?_)
        have := g3 he
        cases hl : l.tail with
        | nil => exact absurd hl g1
        | cons c t =>
          rw [hl] at he this
          simp at he this
          simp [he, this]
      refine ⟨?_, by omega, by omega⟩
      unfold textL
      rw [if_pos (by omega)]
      have e : (-(val l.tail : Int)).natAbs = val l.tail := by omega
      rw [e, DD_back 20 _ hg hlen]
      cases l with
      | nil => simp at hm
      | cons c t => simp at hm; simp [hm]
    · simp at h
  · split at h
    · rename_i hm hc
      obtain ⟨hg, hv⟩ := hc
      injection h with h _
      subst h
      have hlen : l.length ≤ 20 := by
        rcases Nat.lt_or_ge 19 l.length with hh | hh
        · have := val_ge hg hh; omega
        · omega
      refine ⟨?_, by omega, by omega⟩
      unfold textL
      rw [if_neg (by omega)]
      have e : ((val l : Nat) : Int).natAbs = val l := by omega
      rw [e, DD_back 20 _ hg hlen]
    · simp at h
theorem parse_no (l : List UInt8) (h : (parseP l).2 = false) : parseP l = (0, false) := by
  unfold parseP at h ⊢
  split at h
  · rename_i hm
    rw [if_pos hm]
    unfold parseN at h ⊢
    split at h
    · simp at h
    · rename_i hc; rw [if_neg hc]
  · rename_i hm
    rw [if_neg hm]
    split at h
    · simp at h
    · rename_i hc; rw [if_neg hc]
end Go.Proofs.Ytcooijbmmkkdoaa.Y
