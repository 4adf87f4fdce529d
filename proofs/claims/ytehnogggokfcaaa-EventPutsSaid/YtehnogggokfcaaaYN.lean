/- Texts of this claim, joined: YNum, YNumEv, YNumRef. -/
import Derived.Test.YtehnogggokfcaaaYA
import Derived.Test.YtehnogggokfcaaaX14
import Derived.Test.YtehnogggokfcaaaX22
import Derived.Test.YtehnogggokfcaaaXA
section
/- Decimals: plain facts on lists of bytes. No program in sight. -/
namespace Go.Proofs.Ytehnogggokfcaaa.Y
open Go.RowKit Go.Proofs.YtehnogggokfcaaaW.PrintWords Go.Proofs.Ytehnogggokfcaaa.X
set_option linter.unusedVariables false

def DD (k u : Nat) : List UInt8 := dg k u []
theorem dg_app : ∀ (k u : Nat) (acc : List UInt8), dg k u acc = dg k u [] ++ acc
  | 0, u, acc => by simp [dg]
  | k + 1, u, acc => by
    simp only [dg]
    by_cases h : u / 10 = 0
    · simp [h]
    · rw [if_neg h, if_neg h, dg_app k (u / 10) (dgt u :: acc), dg_app k (u / 10) [dgt u], List.append_assoc]
      rfl
theorem DD_succ (k u : Nat) : DD (k + 1) u = if u / 10 = 0 then [dgt u] else DD k (u / 10) ++ [dgt u] := by
  unfold DD
  simp only [dg]
  by_cases h : u / 10 = 0
  · simp [h]
  · rw [if_neg h, if_neg h, dg_app]
def isDig (c : UInt8) : Bool := decide (48 ≤ c.toNat) && decide (c.toNat ≤ 57)
def val (l : List UInt8) : Nat := l.foldl (fun a c => a * 10 + (c.toNat - 48)) 0
theorem val_snoc (l : List UInt8) (c : UInt8) : val (l ++ [c]) = val l * 10 + (c.toNat - 48) := by simp [val]
def good (l : List UInt8) : Bool := !l.isEmpty && l.all isDig && (l.head? != some 48 || decide (l.length = 1))
theorem dgt_nat (u : Nat) : (dgt u).toNat = 48 + u % 10 := by
  unfold dgt
  rw [UInt8.toNat_ofNat']
  omega
theorem isDig_dgt (u : Nat) : isDig (dgt u) = true := by
  unfold isDig
  rw [dgt_nat]
  simp
  omega
theorem isDig_iff (c : UInt8) : isDig c = true ↔ 48 ≤ c.toNat ∧ c.toNat ≤ 57 := by simp [isDig]
theorem good_iff (l : List UInt8) : good l = true ↔ l ≠ [] ∧ (∀ c ∈ l, isDig c = true) ∧ (l.head? = some 48 → l.length = 1) := by
  unfold good
  simp only [Bool.and_eq_true, Bool.or_eq_true, Bool.not_eq_true', List.isEmpty_eq_false_iff, List.all_eq_true, bne_iff_ne, decide_eq_true_eq, and_assoc]
  constructor
  · rintro ⟨h1, h2, h3⟩
    exact ⟨h1, h2, fun h => h3.resolve_left (fun h4 => h4 h)⟩
  · rintro ⟨h1, h2, h3⟩
    refine ⟨h1, h2, ?_⟩
    by_cases h : l.head? = some 48
    · exact .inr (h3 h)
    · exact .inl h
theorem head_app {α : Type} {l r : List α} (h : l ≠ []) : (l ++ r).head? = l.head? := by
  cases l with
  | nil => exact absurd rfl h
  | cons c l => rfl
theorem DD_ne (k u : Nat) : DD (k + 1) u ≠ [] := by
  rw [DD_succ]
  split <;> simp
theorem DD_dig : ∀ (k u : Nat), ∀ c ∈ DD k u, isDig c = true
  | 0, u => by simp [DD, dg]
  | k + 1, u => by
    rw [DD_succ]
    split
    · intro c hc
      rw [List.mem_singleton.1 hc]
      exact isDig_dgt u
    · intro c hc
      rcases List.mem_append.1 hc with hc | hc
      · exact DD_dig k _ c hc
      · rw [List.mem_singleton.1 hc]
        exact isDig_dgt u
theorem DD_val : ∀ (k u : Nat), u < 10 ^ k → val (DD k u) = u
  | 0, u, h => by simp at h; subst h; rfl
  | k + 1, u, h => by
    rw [DD_succ]
    split
    · simp [val, dgt_nat]
      omega
    · rw [val_snoc, DD_val k (u / 10) (by rw [Nat.pow_succ] at h; omega), dgt_nat]
      omega
theorem DD_head : ∀ (k u : Nat), u < 10 ^ k → 0 < u → (DD k u).head? ≠ some 48
  | 0, u, h, h0 => by simp at h; omega
  | k + 1, u, h, h0 => by
    rw [DD_succ]
    split
    · rename_i hz
      intro he
      have : (dgt u).toNat = 48 := by simp at he; rw [he]; rfl
      rw [dgt_nat] at this
      omega
    · rename_i hz
      have h1 := DD_head k (u / 10) (by rw [Nat.pow_succ] at h; omega) (by omega)
      cases k with
      | zero => simp at h; omega
      | succ k =>
        have h2 := DD_ne k (u / 10)
        rw [head_app h2]
        exact h1
theorem DD_good (k u : Nat) (h : u < 10 ^ (k + 1)) : good (DD (k + 1) u) = true := by
  rw [good_iff]
  refine ⟨DD_ne k u, DD_dig _ u, fun hh => ?_⟩
  rcases Nat.eq_zero_or_pos u with rfl | h0
  · rw [DD_succ]
    rfl
  · exact absurd hh (DD_head _ u h h0)
theorem val_pos {l : List UInt8} (h1 : l ≠ []) (h2 : ∀ c ∈ l, isDig c = true) (h3 : l.head? ≠ some 48) : 0 < val l := by
  have key : ∀ (l : List UInt8) (a : Nat), 0 < a → 0 < l.foldl (fun a c => a * 10 + (c.toNat - 48)) a := by
    intro l
    induction l with
    | nil => intro a h; exact h
    | cons c l ih => intro a h; simp only [List.foldl_cons]; exact ih _ (by omega)
  cases l with
  | nil => exact absurd rfl h1
  | cons c l =>
    have hc := (isDig_iff c).1 (h2 c (by simp))
    have hne : c.toNat ≠ 48 := by
      intro he
      refine h3 ?_
      have : c = 48 := UInt8.toNat_inj.1 he
      simp [this]
    unfold val
    simp only [List.foldl_cons]
    exact key l _ (by omega)
theorem snoc_cases {α : Type} (l : List α) : l = [] ∨ ∃ l' c, l = l' ++ [c] := by
  rcases List.eq_nil_or_concat l with h | ⟨l', c, h⟩
  · exact .inl h
  · exact .inr ⟨l', c, by simpa using h⟩
theorem DD_back : ∀ (k : Nat) (l : List UInt8), good l = true → l.length ≤ k → DD k (val l) = l
  | 0, l, h, hl => by
    have := ((good_iff l).1 h).1
    cases l with
    | nil => exact absurd rfl this
    | cons c l => simp at hl
  | k + 1, l, h, hl => by
    obtain ⟨h1, h2, h3⟩ := (good_iff l).1 h
    rcases snoc_cases l with rfl | ⟨l', c, rfl⟩
    · exact absurd rfl h1
    have hc := (isDig_iff c).1 (h2 c (by simp))
    have hdc : dgt (val l' * 10 + (c.toNat - 48)) = c := UInt8.toNat_inj.1 (by rw [dgt_nat]; omega)
    rw [DD_succ, val_snoc, hdc]
    rcases snoc_cases l' with rfl | ⟨l2, c2, rfl⟩
    · rw [if_pos (by simp [val]; omega)]
      rfl
    · have hne : (l2 ++ [c2]) ≠ [] := by simp
      have hh : (l2 ++ [c2]).head? ≠ some 48 := by
        intro he
        have := h3 (by rw [head_app hne]; exact he)
        simp at this
      have hp := val_pos hne (fun x hx => h2 x (by simp only [List.mem_append] at hx ⊢; exact .inl hx)) hh
      rw [if_neg (by omega)]
      have e : (val (l2 ++ [c2]) * 10 + (c.toNat - 48)) / 10 = val (l2 ++ [c2]) := by omega
      rw [e, DD_back k (l2 ++ [c2]) ((good_iff _).2 ⟨hne, fun x hx => h2 x (by simp only [List.mem_append] at hx ⊢; exact .inl hx), fun he => absurd he hh⟩) (by simp at hl ⊢; omega)]
theorem val_lt : ∀ (l : List UInt8), (∀ c ∈ l, isDig c = true) → val l < 10 ^ l.length := by
  suffices H : ∀ (n : Nat) (l : List UInt8), l.length = n → (∀ c ∈ l, isDig c = true) → val l < 10 ^ n from fun l h => H _ l rfl h
  intro n
  induction n with
  | zero => intro l hl h; rw [List.length_eq_zero_iff.1 hl]; simp [val]
  | succ n ih =>
    intro l hl h
    rcases snoc_cases l with rfl | ⟨l, c, rfl⟩
    · simp at hl
    have hc := (isDig_iff c).1 (h c (by simp))
    have := ih l (by simpa using hl) (fun x hx => h x (by simp [hx]))
    rw [val_snoc, Nat.pow_succ]
    omega
theorem val_ge {l : List UInt8} (h : good l = true) (hl : 19 < l.length) : 10000000000000000000 ≤ val l := by
  obtain ⟨h1, h2, h3⟩ := (good_iff l).1 h
  have hp : ∀ (n : Nat) (l : List UInt8), (∀ c ∈ l, isDig c = true) → l.head? ≠ some 48 → l.length = n + 1 → 10 ^ n ≤ val l := by
    intro n
    induction n with
    | zero => intro l h2 h3 hl; exact val_pos (by rintro rfl; simp at hl) h2 h3
    | succ n ih =>
      intro l h2 h3 hl
      rcases snoc_cases l with rfl | ⟨l', c, rfl⟩
      · simp at hl
      have hne : l' ≠ [] := by rintro rfl; simp at hl
      have := ih l' (fun x hx => h2 x (by simp [hx])) (by rw [head_app hne] at h3; exact h3) (by simpa using hl)
      rw [val_snoc, Nat.pow_succ]
      omega
  obtain ⟨n, hn⟩ : ∃ n, l.length = n + 1 := ⟨l.length - 1, by omega⟩
  have h4 := hp n l h2 (fun he => by have := h3 he; omega) hn
  exact Nat.le_trans (Nat.le_trans (by decide) (Nat.pow_le_pow_right (by decide) (show 19 ≤ n by omega))) h4

def parseN (t : List UInt8) : Int × Bool := if good t = true ∧ t ≠ [48] ∧ val t ≤ 9223372036854775808 then (-(val t : Int), true) else (0, false)
def parseP (l : List UInt8) : Int × Bool :=
  if l.head? = some 45 then parseN l.tail
  else if good l = true ∧ val l < 9223372036854775808 then ((val l : Int), true) else (0, false)
def textL (n : Int) : List UInt8 := if n < 0 then 45 :: DD 20 n.natAbs else DD 20 n.natAbs
theorem textB_data (n : Int) : (textB n).data.toList = textL n := by
  unfold textB textL DD
  split <;> simp
theorem lt20 {m : Nat} (h : m ≤ 9223372036854775808) : m < 10 ^ 20 := Nat.lt_of_le_of_lt h (by decide)
theorem head_DD (n : Nat) : (DD 20 n).head? ≠ some 45 := by
  have h1 := DD_ne 19 n
  have h2 := DD_dig 20 n
  cases h : DD 20 n with
  | nil => exact absurd h h1
  | cons c l =>
    rw [h] at h2
    have := (isDig_iff c).1 (h2 c (by simp))
    intro he
    simp at he
    subst he
    simp at this
theorem parse_text (n : Int) (h0 : -9223372036854775808 ≤ n) (h1 : n ≤ 9223372036854775807) : parseP (textL n) = (n, true) := by
  unfold parseP textL
  by_cases hn : n < 0
  · rw [if_pos hn]
    rw [if_pos (by simp)]
    show parseN (DD 20 n.natAbs) = _
    unfold parseN
    have hv := DD_val 20 n.natAbs (lt20 (by omega))
    have hz : DD 20 n.natAbs ≠ [48] := by
      intro he
      rw [he] at hv
      simp [val] at hv
      omega
    rw [hv, if_pos ⟨DD_good 19 _ (lt20 (by omega)), hz, by omega⟩, show (-(n.natAbs : Int)) = n by omega]
  · rw [if_neg hn, if_neg (head_DD _), DD_val 20 n.natAbs (lt20 (by omega)), if_pos ⟨DD_good 19 _ (lt20 (by omega)), by omega⟩]
    congr 1
    omega
theorem parse_back (l : List UInt8) (n : Int) (h : parseP l = (n, true)) : textL n = l ∧ -9223372036854775808 ≤ n ∧ n ≤ 9223372036854775807 := by
  unfold parseP at h
  split at h
  · rename_i hm
    unfold parseN at h
    split at h
    · rename_i hc
      obtain ⟨hg, hz, hv⟩ := hc
      injection h with h _
      subst h
      have hlen : l.tail.length ≤ 20 := by
        rcases Nat.lt_or_ge 19 l.tail.length with hh | hh
        · have := val_ge hg hh; omega
        · omega
      have hpos : 0 < val l.tail := by
        obtain ⟨g1, g2, g3⟩ := (good_iff _).1 hg
        refine val_pos g1 g2 (fun he => hz ?_)
        have := g3 he
        cases hl : l.tail with
        | nil => exact absurd hl g1
        | cons c t =>
          rw [hl] at he this
          simp at he this
          simp [he, this]
      refine ⟨?_, by omega, by omega⟩
      unfold textL
      rw [if_pos (by omega)]
      have e : (-(val l.tail : Int)).natAbs = val l.tail := by omega
      rw [e, DD_back 20 _ hg hlen]
      cases l with
      | nil => simp at hm
      | cons c t => simp at hm; simp [hm]
    · simp at h
  · split at h
    · rename_i hm hc
      obtain ⟨hg, hv⟩ := hc
      injection h with h _
      subst h
      have hlen : l.length ≤ 20 := by
        rcases Nat.lt_or_ge 19 l.length with hh | hh
        · have := val_ge hg hh; omega
        · omega
      refine ⟨?_, by omega, by omega⟩
      unfold textL
      rw [if_neg (by omega)]
      have e : ((val l : Nat) : Int).natAbs = val l := by omega
      rw [e, DD_back 20 _ hg hlen]
    · simp at h
theorem parse_no (l : List UInt8) (h : (parseP l).2 = false) : parseP l = (0, false) := by
  unfold parseP at h ⊢
  split at h
  · rename_i hm
    rw [if_pos hm]
    unfold parseN at h ⊢
    split at h
    · simp at h
    · rename_i hc; rw [if_neg hc]
  · rename_i hm
    rw [if_neg hm]
    split at h
    · simp at h
    · rename_i hc; rw [if_neg hc]
end Go.Proofs.Ytehnogggokfcaaa.Y
end
section
/- What num.Parse, and the reference's Text and Parse, come to. -/
namespace Go.Proofs.Ytehnogggokfcaaa.Y
open Go.RowKit Go.Proofs.YtehnogggokfcaaaW.PrintWords Go.Proofs.YtehnogggokfcaaaW.PrintMore Go.Proofs.Ytehnogggokfcaaa.X
set_option linter.unusedVariables false
set_option linter.unusedSimpArgs false

def finP (m : Bool) (l : List UInt8) : Int × Bool :=
  if l.all isDig = true then
    (if m = true then (if val l ≤ 9223372036854775808 then (-(val l : Int), true) else (0, false))
     else if val l < 9223372036854775808 then ((val l : Int), true) else (0, false))
  else (0, false)
theorem take_dig {l : List UInt8} {i : Nat} (hi : i < l.length) (h : ∀ c ∈ l.take i, isDig c = true) (hc : isDig l[i] = true) : ∀ c ∈ l.take (i + 1), isDig c = true := by
  intro c hm
  rw [List.take_succ_eq_append_getElem hi] at hm
  rcases List.mem_append.1 hm with hm | hm
  · exact h c hm
  · rw [List.mem_singleton.1 hm]; exact hc
theorem val_take {l : List UInt8} {i : Nat} (hi : i < l.length) : val (l.take (i + 1)) = val (l.take i) * 10 + (l[i].toNat - 48) := by
  rw [List.take_succ_eq_append_getElem hi, val_snoc]
theorem u64step (v c : Nat) (hv : v < 1000000000000000000) (hc : 48 ≤ c ∧ c ≤ 57) : IntKind.u64.wrap ((IntKind.u64.wrap ((v : Int) * 10)) + ((c : Int) - 48) % 256) = ((v * 10 + (c - 48) : Nat) : Int) := by
  simp only [IntKind.wrap, IntKind.bits, IntKind.signed]
  simp
  omega
theorem parse_loop (m : Bool) (t : ByteArray) (ht : t.size ≤ 19) : ∀ i, i ≤ t.size → (∀ c ∈ t.data.toList.take i, isDig c = true) →
    Ev (fun k => num_Parse.l0 k m t ((val (t.data.toList.take i) : Nat) : Int) (t.size : Int) (i : Int)) (finP m t.data.toList) := by
  have hlen : t.data.toList.length = t.size := (ba_size t).symm
  have key : ∀ d i, i + d = t.size → (∀ c ∈ t.data.toList.take i, isDig c = true) →
    Ev (fun k => num_Parse.l0 k m t ((val (t.data.toList.take i) : Nat) : Int) (t.size : Int) (i : Int)) (finP m t.data.toList) := by
    intro d
    induction d with
    | zero =>
      intro i hi hd
      have hti : t.data.toList.take i = t.data.toList := List.take_of_length_le (by omega)
      rw [hti] at hd ⊢
      have hall : t.data.toList.all isDig = true := List.all_eq_true.2 hd
      have hv := val_lt t.data.toList hd
      have hv2 : (10 : Nat) ^ t.data.toList.length ≤ 10 ^ 19 := Nat.pow_le_pow_right (by decide) (by omega)
      have hv3 : val t.data.toList < 10000000000000000000 := Nat.lt_of_lt_of_le hv (Nat.le_trans hv2 (by decide))
      refine ev_round ?_
      simp only [num_Parse.l0]
      refine ev_neg (by omega) ?_
      unfold finP
      rw [if_pos hall]
      refine ev_ite (fun hm => ?_) (fun hm => ?_)
      · rw [if_pos hm]
        refine ev_round ?_
        simp only [num_Parse.j4]
        by_cases hb : val t.data.toList ≤ 9223372036854775808
        · rw [if_pos hb]
          refine ev_pos (decide_eq_true (by omega)) (ev_some ?_)
          congr 1
          unfold wrap64
          omega
        · rw [if_neg hb]
          exact ev_neg (by rw [decide_eq_true_eq]; omega) (ev_pos hm (ev_some rfl))
      · rw [if_neg hm]
        refine ev_round ?_
        simp only [num_Parse.j4]
        refine ev_neg (by decide) (ev_neg hm ?_)
        by_cases hb : val t.data.toList < 9223372036854775808
        · rw [if_pos hb]
          refine ev_neg (by omega) (ev_some ?_)
          congr 1
          unfold wrap64
          omega
        · rw [if_neg hb]
          exact ev_pos (by omega) (ev_some rfl)
    | succ d ih =>
      intro i hi hd
      have hlt : i < t.data.toList.length := by omega
      refine ev_round ?_
      simp only [num_Parse.l0]
      refine ev_pos (by omega) (ev_pos (by omega) (ev_pos (by omega) ?_))
      rw [bt_nat t i (by omega)]
      by_cases hc : isDig t.data.toList[i] = true
      · have hc' := (isDig_iff _).1 hc
        refine ev_neg (by omega) (ev_neg (by omega) ?_)
        have hv := val_lt _ hd
        have hv2 : (10 : Nat) ^ (t.data.toList.take i).length ≤ 10 ^ 18 := Nat.pow_le_pow_right (by decide) (by rw [List.length_take]; omega)
        have hv3 : val (t.data.toList.take i) < 1000000000000000000 := Nat.lt_of_lt_of_le hv (Nat.le_trans hv2 (by decide))
        have e : IntKind.u64.wrap ((IntKind.u64.wrap (((val (t.data.toList.take i) : Nat) : Int) * 10)) + (((t.data.toList[i].toNat : Int)) - 48) % 256) = ((val (t.data.toList.take (i + 1)) : Nat) : Int) := by
          rw [val_take hlt]
          exact u64step _ _ hv3 hc'
        rw [e, w64 (by omega) (by omega)]
        exact ih (i + 1) (by omega) (take_dig hlt hd hc)
      · have hfin : finP m t.data.toList = (0, false) := by
          unfold finP
          rw [if_neg]
          intro hall
          exact hc (List.all_eq_true.1 hall _ (List.getElem_mem hlt))
        rw [hfin]
        rw [isDig_iff] at hc
        refine ev_ite (fun _ => ev_some rfl) (fun h1 => ev_pos (by omega) (ev_some rfl))
  intro i hi hd
  exact key (t.size - i) i (by omega) hd
def flagP (m : Bool) (l : List UInt8) : Bool := decide (l = []) || decide (19 < l.length) || (decide (l.head? = some 48) && (m || decide (1 < l.length)))
theorem parse_j2 (m : Bool) (t : ByteArray) (hf : flagP m t.data.toList = false) : Ev (fun k => num_Parse.j2 k m t false) (finP m t.data.toList) := by
  refine ev_round ?_
  simp only [num_Parse.j2]
  refine ev_neg (by decide) ?_
  have ht : t.size ≤ 19 := by
    rw [ba_size]
    unfold flagP at hf
    simp only [Bool.or_eq_false_iff, decide_eq_false_iff_not] at hf
    omega
  exact parse_loop m t ht 0 (by omega) (by simp)
theorem parse_j2t (m : Bool) (t : ByteArray) : Ev (fun k => num_Parse.j2 k m t true) (0, false) := by
  refine ev_round ?_
  simp only [num_Parse.j2]
  first | exact ev_some rfl | exact ev_pos rfl (ev_some rfl)
def resP (m : Bool) (l : List UInt8) : Int × Bool := if flagP m l = true then (0, false) else finP m l
theorem parse_j1 (m : Bool) (t : ByteArray) : Ev (fun k => num_Parse.j1 k m t) (resP m t.data.toList) := by
  refine ev_round ?_
  simp only [num_Parse.j1]
  rw [ba_toList]
  have hlen := ba_size t
  unfold resP
  by_cases h1 : t.data.toList = []
  · refine ev_pos h1 ?_
    rw [if_pos (by unfold flagP; simp [h1])]
    exact parse_j2t m t
  refine ev_neg h1 ?_
  by_cases h2 : 19 < t.data.toList.length
  · refine ev_pos (by omega) ?_
    rw [if_pos (by unfold flagP; rw [decide_eq_true h2]; simp)]
    exact parse_j2t m t
  refine ev_neg (by omega) ?_
  have hpos : 0 < t.data.toList.length := by
    cases h : t.data.toList with
    | nil => exact absurd h h1
    | cons c l => simp
  refine ev_pos (by omega) ?_
  have hb := bt_nat t 0 (by omega)
  rw [show ((0 : Nat) : Int) = 0 from rfl] at hb
  rw [hb]
  have hhead : t.data.toList.head? = some t.data.toList[0] := by rw [List.head?_eq_getElem?, List.getElem?_eq_getElem hpos]
  by_cases h3 : t.data.toList[0] = 48
  · refine ev_pos (by rw [h3]; rfl) ?_
    have h3' : t.data.toList.head? = some 48 := by rw [hhead, h3]
    cases m with
    | true =>
      refine ev_pos rfl ?_
      rw [if_pos (by unfold flagP; simp [h3'])]
      exact parse_j2t _ t
    | false =>
      refine ev_neg (by decide) ?_
      by_cases h4 : 1 < t.data.toList.length
      · rw [decide_eq_true (show (t.size : Int) > 1 by omega), if_pos (by unfold flagP; simp only [h3', h4]; simp)]
        exact parse_j2t _ t
      · have hf : flagP false t.data.toList = false := by unfold flagP; rw [decide_eq_false h1, decide_eq_false h2, decide_eq_false h4]; simp
        rw [decide_eq_false (show ¬ (t.size : Int) > 1 by omega), if_neg (by rw [hf]; decide)]
        exact parse_j2 _ t hf
  · have h3n : ¬ ((t.data.toList[0].toNat : Int) = 48) := by
      intro he
      exact h3 (UInt8.toNat_inj.1 (by have : t.data.toList[0].toNat = 48 := by omega
                                      rw [this]; rfl))
    refine ev_neg h3n ?_
    have hf : flagP m t.data.toList = false := by
      unfold flagP
      rw [decide_eq_false h1, decide_eq_false h2, decide_eq_false (show ¬ t.data.toList.head? = some 48 by rw [hhead]; simpa using h3)]
      rfl
    rw [if_neg (by rw [hf]; decide)]
    exact parse_j2 _ t hf
theorem val_ge' {l : List UInt8} (h : good l = true) (hl : 19 < l.length) : ¬ val l ≤ 9223372036854775808 := by
  have := val_ge h hl
  omega
theorem good_of {l : List UInt8} (h1 : l ≠ []) (h2 : l.all isDig = true) (h3 : l.head? = some 48 → l.length = 1) : good l = true := (good_iff l).2 ⟨h1, List.all_eq_true.1 h2, h3⟩
theorem res_minus (t : List UInt8) : resP true t = parseN t := by
  unfold resP parseN
  by_cases hf : flagP true t = true
  · rw [if_pos hf, if_neg]
    rintro ⟨hg, hz, hv⟩
    obtain ⟨g1, g2, g3⟩ := (good_iff t).1 hg
    unfold flagP at hf
    simp only [Bool.or_eq_true, Bool.and_eq_true, decide_eq_true_eq, Bool.true_or] at hf
    rcases hf with (h | h) | h
    · exact g1 h
    · exact val_ge' hg h hv
    · have := g3 h.1
      refine hz ?_
      cases ht : t with
      | nil => exact absurd ht g1
      | cons c r =>
        rw [ht] at h this
        simp at h this
        simp [h, this]
  · rw [if_neg hf]
    unfold finP
    rw [if_pos rfl]
    unfold flagP at hf
    simp only [Bool.or_eq_true, Bool.and_eq_true, decide_eq_true_eq, not_or, not_and] at hf
    obtain ⟨⟨f1, f2⟩, f3⟩ := hf
    have f4 : t.head? ≠ some 48 := fun he => by have := f3 he; simp at this
    by_cases ha : t.all isDig = true
    · rw [if_pos ha]
      have hg := good_of f1 ha (fun he => absurd he f4)
      by_cases hv : val t ≤ 9223372036854775808
      · rw [if_pos hv, if_pos ⟨hg, by rintro rfl; simp at f4, hv⟩]
      · rw [if_neg hv, if_neg (fun h => hv h.2.2)]
    · rw [if_neg ha, if_neg]
      rintro ⟨hg, _⟩
      exact ha (List.all_eq_true.2 ((good_iff t).1 hg).2.1)
theorem res_plus (t : List UInt8) : resP false t = if good t = true ∧ val t < 9223372036854775808 then ((val t : Int), true) else (0, false) := by
  unfold resP
  by_cases hf : flagP false t = true
  · rw [if_pos hf, if_neg]
    rintro ⟨hg, hv⟩
    obtain ⟨g1, g2, g3⟩ := (good_iff t).1 hg
    unfold flagP at hf
    simp only [Bool.or_eq_true, Bool.and_eq_true, decide_eq_true_eq, Bool.false_or, Bool.false_eq_true, false_or] at hf
    rcases hf with (h | h) | h
    · exact g1 h
    · exact val_ge' hg h (by omega)
    · have := g3 h.1
      omega
  · rw [if_neg hf]
    unfold finP
    rw [if_neg (show ¬ (false = true) by decide)]
    unfold flagP at hf
    simp only [Bool.or_eq_true, Bool.and_eq_true, decide_eq_true_eq, not_or, not_and, Bool.false_eq_true, not_false_eq_true, true_and] at hf
    obtain ⟨⟨f1, f2⟩, f3⟩ := hf
    by_cases ha : t.all isDig = true
    · rw [if_pos ha]
      have hg := good_of f1 ha (fun he => by have := f3 he; have : t.length ≠ 0 := fun h0 => f1 (List.length_eq_zero_iff.1 h0); omega)
      by_cases hv : val t < 9223372036854775808
      · rw [if_pos hv, if_pos ⟨hg, hv⟩]
      · rw [if_neg hv, if_neg (fun h => hv h.2)]
    · rw [if_neg ha, if_neg]
      rintro ⟨hg, _⟩
      exact ha (List.all_eq_true.2 ((good_iff t).1 hg).2.1)
theorem parse_ev (s : ByteArray) : Ev (fun k => num_Parse.f k s) (parseP s.data.toList) := by
  unfold num_Parse.f parseP
  rw [ba_toList]
  have hlen := ba_size s
  by_cases h1 : s.data.toList = []
  · rw [h1, if_neg (by simp), ← res_plus]
    refine ev_pos rfl ?_
    refine ev_round ?_
    simp only [num_Parse.j0]
    refine ev_neg (by decide) ?_
    have := parse_j1 false s
    rw [h1] at this
    exact this
  refine ev_neg h1 ?_
  have hpos : 0 < s.data.toList.length := by
    cases h : s.data.toList with
    | nil => exact absurd h h1
    | cons c l => simp
  have hb := bt_nat s 0 (by omega)
  rw [show ((0 : Nat) : Int) = 0 from rfl] at hb
  rw [hb]
  have hhead : s.data.toList.head? = some s.data.toList[0] := by rw [List.head?_eq_getElem?, List.getElem?_eq_getElem hpos]
  refine ev_pos (by omega) ?_
  by_cases h3 : s.data.toList[0] = 45
  · rw [if_pos (by rw [hhead, h3]), h3]
    refine ev_round ?_
    simp only [num_Parse.j0]
    refine ev_pos rfl (ev_pos (by omega) ?_)
    have := parse_j1 true (s.extract 1 s.size)
    have e : (s.extract 1 s.size).data.toList = s.data.toList.tail := by
      rw [ba_extract, List.drop_one, List.take_of_length_le (by first | (simp; done) | (simp; omega))]
    rw [e, res_minus] at this
    exact this
  · rw [if_neg (by rw [hhead]; simpa using h3), ← res_plus]
    have h3n : ((s.data.toList[0].toNat : Int) == 45) = false := by
      rw [beq_eq_false_iff_ne]
      intro he
      exact h3 (UInt8.toNat_inj.1 (by have : s.data.toList[0].toNat = 45 := by omega
                                      rw [this]; rfl))
    rw [h3n]
    refine ev_round ?_
    simp only [num_Parse.j0]
    refine ev_neg (by decide) ?_
    exact parse_j1 false s
theorem text_f (n : Int) (h0 : -9223372036854775808 ≤ n) (h1 : n ≤ 9223372036854775807) : num_Text.f n = some (textB n) := by
  unfold num_Text.f
  rw [if_pos ⟨h0, h1⟩]
end Go.Proofs.Ytehnogggokfcaaa.Y
end
section
/- What the reference's Text and Parse come to: the decimal of a number; what a text is parsed as. -/
namespace Go.Proofs.Ytehnogggokfcaaa.Y
open Go.RowKit Go.Proofs.YtehnogggokfcaaaW.PrintWords Go.Proofs.YtehnogggokfcaaaW.PrintMore Go.Proofs.Ytehnogggokfcaaa.X
set_option linter.unusedVariables false
set_option linter.unusedSimpArgs false

theorem tmod_neg (u : Nat) : Int.tmod (-(u : Int)) 10 = -((u % 10 : Nat) : Int) := by
  rw [Int.neg_tmod, Int.tmod_eq_emod_of_nonneg (by omega)]
  omega
theorem tdiv_neg (u : Nat) : Int.tdiv (-(u : Int)) 10 = -((u / 10 : Nat) : Int) := by
  rw [Int.neg_tdiv, Int.tdiv_eq_ediv_of_nonneg (by omega)]
  omega
theorem sign_at (d : Nat) (hd : d < 10) : ((⟨#[48, 49, 50, 51, 52, 53, 54, 55, 56, 57]⟩ : ByteArray).extract d (d + 1)).data.toList = [UInt8.ofNat (48 + d)] := by
  rcases (by omega : d = 0 ∨ d = 1 ∨ d = 2 ∨ d = 3 ∨ d = 4 ∨ d = 5 ∨ d = 6 ∨ d = 7 ∨ d = 8 ∨ d = 9) with rfl | rfl | rfl | rfl | rfl | rfl | rfl | rfl | rfl | rfl <;> decide
theorem sign_dgt (u : Nat) : ((⟨#[48, 49, 50, 51, 52, 53, 54, 55, 56, 57]⟩ : ByteArray).extract (u % 10) (u % 10 + 1)).data.toList = [dgt u] := by
  rw [sign_at _ (by omega)]
  rfl
theorem DD_len : ∀ (k u : Nat), (DD k u).length ≤ k
  | 0, u => by simp [DD, dg]
  | k + 1, u => by
    rw [DD_succ]
    have := DD_len k (u / 10)
    split
    · simp
    · simp; exact this
theorem digits_ev : ∀ (K u : Nat), u < 10 ^ (K + 1) → u ≤ 9223372036854775808 → K < 20 → Ev (fun k => mewsref01_digits.f k (-(u : Int))) ⟨(DD (K + 1) u).toArray⟩ := by
  intro K
  induction K with
  | zero =>
    intro u hu hb _
    refine ev_round ?_
    simp only [mewsref01_digits.f]
    have hm : u % 10 = u := by omega
    rw [tmod_neg, hm]
    have e1 : wrap64 (-(-((u : Nat) : Int))) = (u : Int) := by unfold wrap64; omega
    have e2 : wrap64 ((u : Int) + 1) = ((u + 1 : Nat) : Int) := by unfold wrap64; omega
    rw [e1, e2]
    refine ev_pos (by omega) (ev_pos (by omega) (ev_pos (by omega) (ev_pos (by omega) (ev_some ?_))))
    rw [Int.toNat_natCast, Int.toNat_natCast]
    refine ba_ext ?_
    rw [DD_succ, if_pos (by omega)]
    have := sign_dgt u
    rw [hm] at this
    rw [this]
  | succ K ih =>
    intro u hu hb hK
    refine ev_round ?_
    simp only [mewsref01_digits.f]
    rw [tmod_neg, tdiv_neg]
    have e1 : wrap64 (-(-((u % 10 : Nat) : Int))) = ((u % 10 : Nat) : Int) := by unfold wrap64; omega
    have e2 : wrap64 (((u % 10 : Nat) : Int) + 1) = ((u % 10 + 1 : Nat) : Int) := by unfold wrap64; omega
    have e3 : wrap64 (-((u / 10 : Nat) : Int)) = -((u / 10 : Nat) : Int) := by unfold wrap64; omega
    rw [e1, e2, e3, Int.toNat_natCast, Int.toNat_natCast]
    by_cases hz : u / 10 = 0
    · refine ev_pos (by omega) (ev_pos (by omega) (ev_pos (by omega) (ev_pos (by omega) (ev_some ?_))))
      refine ba_ext ?_
      rw [DD_succ, if_pos hz, sign_dgt]
    · have h1 := ih (u / 10) (by rw [Nat.pow_succ] at hu; omega) (by omega) (by omega)
      refine ev_neg (by omega) (ev_bind h1 ?_)
      refine ev_pos (by omega) (ev_pos (by omega) (ev_pos (by omega) (ev_pos ?_ (ev_some ?_))))
      · have hl := DD_len (K + 1) (u / 10)
        rw [ba_size, ba_size, sign_dgt]
        simp
        omega
      · refine ba_ext ?_
        rw [ba_append, sign_dgt, DD_succ (K + 1), if_neg hz]
theorem ref_text_ev (n : Int) (h0 : -9223372036854775808 ≤ n) (h1 : n ≤ 9223372036854775807) : Ev (fun k => mewsref01_Text.f k n) (textB n) := by
  unfold mewsref01_Text.f textB
  by_cases hn : n < 0
  · rw [if_pos hn]
    have hd := digits_ev 19 n.natAbs (lt20 (by omega)) (by omega) (by omega)
    rw [show (-(n.natAbs : Int)) = n by omega] at hd
    refine ev_pos hn (ev_bind hd (ev_pos ?_ (ev_some ?_)))
    · have := DD_len 20 n.natAbs
      rw [ba_size]
      simp
      omega
    · refine ba_ext ?_
      rw [ba_append]
      rfl
  · rw [if_neg hn]
    have hd := digits_ev 19 n.natAbs (lt20 (by omega)) (by omega) (by omega)
    rw [show (-(n.natAbs : Int)) = -n by omega] at hd
    refine ev_neg hn ?_
    rw [show wrap64 (-n) = -n by unfold wrap64; omega]
    exact ev_bind hd (ev_some rfl)
def endP (s : List UInt8) (m : Bool) (v : Nat) : Int × Bool :=
  if m = true then (if textL (-(v : Int)) = s then (-(v : Int), true) else (0, false))
  else if v = 9223372036854775808 then (0, false) else if textL (v : Int) = s then ((v : Int), true) else (0, false)
theorem ref_end (s : ByteArray) (m : Bool) (v : Nat) (hv : v ≤ 9223372036854775808) (x6 : Int) (hx : ¬ x6 < (s.size : Int)) : Ev (fun k => mewsref01_Parse.l0 k s m (-(v : Int)) x6) (endP s.data.toList m v) := by
  refine ev_round ?_
  simp only [mewsref01_Parse.l0]
  refine ev_neg hx ?_
  unfold endP
  refine ev_ite (fun hm => ?_) (fun hm => ?_)
  · rw [if_pos hm]
    refine ev_round ?_
    simp only [mewsref01_Parse.j4]
    refine ev_neg (by decide) (ev_pos hm (ev_bind (ref_text_ev _ (by omega) (by omega)) ?_))
    rw [ba_toList, ba_toList, textB_data]
    refine ev_ite (fun h => ev_some ?_) (fun h => ev_some ?_)
    · rw [if_pos h]
    · rw [if_neg h]
  · rw [if_neg hm]
    refine ev_round ?_
    simp only [mewsref01_Parse.j4]
    by_cases hb : v = 9223372036854775808
    · rw [if_pos hb]
      exact ev_pos (by rw [beq_iff_eq]; omega) (ev_some rfl)
    · rw [if_neg hb]
      have e : wrap64 (-(-(v : Int))) = (v : Int) := by unfold wrap64; omega
      rw [e]
      refine ev_neg (by rw [beq_iff_eq]; omega) (ev_neg hm (ev_bind (ref_text_ev _ (by omega) (by omega)) ?_))
      rw [ba_toList, ba_toList, textB_data]
      refine ev_ite (fun h => ev_some ?_) (fun h => ev_some ?_)
      · rw [if_pos h]
      · rw [if_neg h]
def goP (s : List UInt8) (m : Bool) : List UInt8 → Nat → Int × Bool
  | [], v => endP s m v
  | c :: r, v => if isDig c = true then (if 9223372036854775808 < v * 10 + (c.toNat - 48) then (0, false) else goP s m r (v * 10 + (c.toNat - 48))) else (0, false)
theorem least_div (c v : Nat) (hc : 48 ≤ c) (hc' : c ≤ 57) : (-(v : Int) < Int.tdiv ((-9223372036854775808) + (((c : Int)) - 48) % 256) 10) ↔ 9223372036854775808 < v * 10 + (c - 48) := by
  obtain ⟨e, he⟩ : ∃ e : Nat, e = 9223372036854775808 - (c - 48) := ⟨_, rfl⟩
  have h1 : (-9223372036854775808 : Int) + (((c : Int)) - 48) % 256 = -(e : Int) := by omega
  rw [h1, tdiv_neg]
  omega
theorem ref_go (s : ByteArray) (hs : s.size ≤ 140737488351232) (m : Bool) (z : Nat) (hz : m = true → 0 < z) : ∀ (r : List UInt8) (i v : Nat), s.data.toList.drop i = r → z ≤ i → i ≤ s.size → v ≤ 9223372036854775808 →
    Ev (fun k => mewsref01_Parse.l0 k s m (-(v : Int)) (i : Int)) (goP s.data.toList m r v)
  | [], i, v, hr, hzi, hi, hv => by
    have : s.data.toList.length ≤ i := List.drop_eq_nil_iff.1 hr
    rw [← ba_size] at this
    exact ref_end s m v hv (i : Int) (by omega)
  | c :: r, i, v, hr, hzi, hi, hv => by
    have hlt : i < s.data.toList.length := by
      refine Nat.lt_of_not_le fun h => ?_
      rw [List.drop_eq_nil_iff.2 h] at hr
      cases hr
    have hlt2 : i < s.size := by rw [ba_size]; exact hlt
    rw [List.drop_eq_getElem_cons hlt] at hr
    injection hr with hc hr
    have hflag : ∀ r', Ev (fun k => mewsref01_Parse.j2 k s m (-(v : Int)) (i : Int) false) r' → Ev (fun k => mewsref01_Parse.l0 k s m (-(v : Int)) (i : Int)) r' := by
      intro r' h
      refine ev_round ?_
      simp only [mewsref01_Parse.l0]
      refine ev_pos (by omega) (ev_ite (fun h0 => ?_) (fun _ => h))
      have hmf : m = false := by
        cases m with
        | false => rfl
        | true => have := hz rfl; omega
      rw [hmf] at h ⊢
      exact h
    refine hflag _ ?_
    refine ev_round ?_
    simp only [mewsref01_Parse.j2]
    refine ev_neg (by decide) (ev_pos (by omega) (ev_pos (by omega) ?_))
    rw [bt_nat s i hlt2, hc]
    have hj3t : Ev (fun k => mewsref01_Parse.j3 k s m (-(v : Int)) (i : Int) true) (0, false) := by
      refine ev_round ?_
      simp only [mewsref01_Parse.j3]
      first | exact ev_some rfl | exact ev_pos rfl (ev_some rfl)
    unfold goP
    by_cases hd : isDig c = true
    · have hd' := (isDig_iff c).1 hd
      rw [if_pos hd]
      refine ev_neg (by omega) ?_
      rw [decide_eq_false (show ¬ (c.toNat : Int) > 57 by omega)]
      refine ev_round ?_
      simp only [mewsref01_Parse.j3]
      refine ev_neg (by decide) (ev_pos (by omega) (ev_pos (by omega) ?_))
      rw [bt_nat s i hlt2, hc]
      by_cases hb : 9223372036854775808 < v * 10 + (c.toNat - 48)
      · rw [if_pos hb]
        exact ev_pos ((least_div c.toNat v hd'.1 hd'.2).2 hb) (ev_some rfl)
      · rw [if_neg hb]
        refine ev_neg (fun h => hb ((least_div c.toNat v hd'.1 hd'.2).1 h)) ?_
        have e : wrap64 ((wrap64 (-(v : Int) * 10)) - (((c.toNat : Int)) - 48) % 256) = -((v * 10 + (c.toNat - 48) : Nat) : Int) := by
          unfold wrap64
          omega
        rw [e, w64 (by omega) (by omega)]
        exact ref_go s hs m z hz r (i + 1) _ hr (by omega) (by omega) (by omega)
    · rw [if_neg hd]
      rw [isDig_iff] at hd
      refine ev_ite (fun _ => hj3t) (fun h1 => ?_)
      rw [decide_eq_true (show (c.toNat : Int) > 57 by omega)]
      exact hj3t
theorem goP_no (s : List UInt8) (m : Bool) : ∀ (r : List UInt8) (v : Nat), (∀ n : Nat, n ≤ 9223372036854775808 → (m = true → textL (-(n : Int)) ≠ s) ∧ (m = false → n < 9223372036854775808 → textL (n : Int) ≠ s)) → v ≤ 9223372036854775808 → goP s m r v = (0, false)
  | [], v, h, hv => by
    unfold goP endP
    cases m with
    | true => rw [if_pos rfl, if_neg ((h v hv).1 rfl)]
    | false =>
      rw [if_neg (by decide)]
      split
      · rfl
      · rw [if_neg ((h v hv).2 rfl (by omega))]
  | c :: r, v, h, hv => by
    unfold goP
    split
    · split
      · rfl
      · exact goP_no s m r _ h (by omega)
    · rfl
theorem foldl_val (r : List UInt8) : ∀ v, r.foldl (fun a c => a * 10 + (c.toNat - 48)) v = v * 10 ^ r.length + val r := by
  induction r with
  | nil => intro v; simp [val]
  | cons c r ih =>
    intro v
    have h2 : val (c :: r) = (0 * 10 + (c.toNat - 48)) * 10 ^ r.length + val r := ih _
    rw [List.foldl_cons, ih, h2, List.length_cons, Nat.pow_succ]
    simp only [Nat.add_mul, Nat.zero_mul, Nat.zero_add, Nat.mul_assoc]
    rw [Nat.mul_comm 10 (10 ^ r.length)]
    omega
theorem goP_yes (s : List UInt8) (m : Bool) : ∀ (r : List UInt8) (v : Nat), (∀ c ∈ r, isDig c = true) → r.foldl (fun a c => a * 10 + (c.toNat - 48)) v ≤ 9223372036854775808 → goP s m r v = endP s m (r.foldl (fun a c => a * 10 + (c.toNat - 48)) v)
  | [], v, _, _ => rfl
  | c :: r, v, h, hv => by
    have hm : v * 10 + (c.toNat - 48) ≤ (c :: r).foldl (fun a c => a * 10 + (c.toNat - 48)) v := by
      rw [List.foldl_cons, foldl_val]
      exact Nat.le_trans (Nat.le_mul_of_pos_right _ (Nat.pow_pos (by decide))) (Nat.le_add_right _ _)
    unfold goP
    rw [if_pos (h c (by simp)), if_neg (by omega)]
    exact goP_yes s m r _ (fun x hx => h x (by simp [hx])) hv
theorem goP_is (s : List UInt8) (m : Bool) (r : List UInt8) (hs : s = if m = true then 45 :: r else r) (hm : m = false → s.head? ≠ some 45) : goP s m r 0 = parseP s := by
  cases hp : (parseP s).2 with
  | false =>
    rw [parse_no s hp]
    refine goP_no s m r 0 (fun n hn => ⟨fun _ he => ?_, fun _ hlt he => ?_⟩) (by omega)
    · have := parse_text (-(n : Int)) (by omega) (by omega)
      rw [he] at this
      rw [this] at hp
      cases hp
    · have := parse_text (n : Int) (by omega) (by omega)
      rw [he] at this
      rw [this] at hp
      cases hp
  | true =>
    obtain ⟨n, hn⟩ : ∃ n, parseP s = (n, true) := ⟨(parseP s).1, by rw [← hp]⟩
    obtain ⟨ht, h0, h1⟩ := parse_back s n hn
    rw [hn]
    have hdr : r = DD 20 n.natAbs ∧ (m = true ↔ n < 0) := by
      unfold textL at ht
      cases m with
      | true =>
        rw [if_pos rfl] at hs
        rw [hs] at ht
        split at ht
        · rename_i hneg
          injection ht with _ ht
          exact ⟨ht.symm, by simp [hneg]⟩
        · exact absurd (by rw [ht]; rfl) (head_DD n.natAbs)
      | false =>
        rw [if_neg (by decide)] at hs
        split at ht
        · exact absurd (by rw [← ht]; rfl) (hm rfl)
        · rename_i hneg
          rw [hs] at ht
          exact ⟨ht.symm, by simp [hneg]⟩
    obtain ⟨hr, hmn⟩ := hdr
    have hv : r.foldl (fun a c => a * 10 + (c.toNat - 48)) 0 = n.natAbs := by
      rw [hr]
      exact DD_val 20 n.natAbs (lt20 (by omega))
    rw [goP_yes s m r 0 (by rw [hr]; exact DD_dig 20 _) (by rw [hv]; omega), hv]
    unfold endP
    by_cases hneg : n < 0
    · rw [if_pos (hmn.2 hneg), show (-(n.natAbs : Int)) = n by omega, if_pos ht]
    · rw [if_neg (fun h => hneg (hmn.1 h)), if_neg (by omega), show ((n.natAbs : Nat) : Int) = n by omega, if_pos ht]
theorem ref_parse_ev (s : ByteArray) (hs : s.size ≤ 140737488351232) : Ev (fun k => mewsref01_Parse.f k s) (parseP s.data.toList) := by
  have hlen := ba_size s
  unfold mewsref01_Parse.f
  by_cases h1 : s.data.toList = []
  · refine ev_neg (by rw [hlen, h1]; simp) ?_
    refine ev_round ?_
    simp only [mewsref01_Parse.j0]
    have := ref_go s hs false 0 (by intro h; cases h) [] 0 0 (by rw [h1]; rfl) (by omega) (by omega) (by omega)
    rw [goP_is s.data.toList false [] (by rw [h1]; rfl) (by intro _; rw [h1]; simp)] at this
    exact this
  · have hpos : 0 < s.data.toList.length := by
      cases h : s.data.toList with
      | nil => exact absurd h h1
      | cons c l => simp
    have hb := bt_nat s 0 (by omega)
    rw [show ((0 : Nat) : Int) = 0 from rfl] at hb
    have hhead : s.data.toList.head? = some s.data.toList[0] := by rw [List.head?_eq_getElem?, List.getElem?_eq_getElem hpos]
    refine ev_pos (by omega) (ev_pos (by omega) ?_)
    rw [hb]
    refine ev_round ?_
    simp only [mewsref01_Parse.j0]
    by_cases h3 : s.data.toList[0] = 45
    · rw [h3]
      have hm : (((45 : UInt8).toNat : Int) == 45) = true := rfl
      rw [hm]
      refine ev_round ?_
      simp only [mewsref01_Parse.l0]
      refine ev_pos (by omega) (ev_pos (by first | rfl | trivial) ?_)
      refine ev_round ?_
      simp only [mewsref01_Parse.j2]
      have hg := ref_go s hs true 1 (by intro _; omega) s.data.toList.tail 1 0 (by rw [List.drop_one]) (by omega) (by omega) (by omega)
      rw [goP_is s.data.toList true s.data.toList.tail (by
        rw [if_pos rfl]
        cases hl : s.data.toList with
        | nil => exact absurd hl h1
        | cons c l => simp only [hl] at h3; simp at h3; simp [h3]) (by intro h; cases h)] at hg
      have hg2 : Ev (fun k => mewsref01_Parse.l0 k s true 0 (wrap64 (0 + 1))) (parseP s.data.toList) := by
        rw [w64 (by omega) (by omega)]
        exact hg
      first | exact hg2 | exact ev_pos rfl hg2
    · have h3n : ((s.data.toList[0].toNat : Int) == 45) = false := by
        rw [beq_eq_false_iff_ne]
        intro he
        exact h3 (UInt8.toNat_inj.1 (by have : s.data.toList[0].toNat = 45 := by omega
                                        rw [this]; rfl))
      rw [h3n]
      have hg := ref_go s hs false 0 (by intro h; cases h) s.data.toList 0 0 rfl (by omega) (by omega) (by omega)
      rw [goP_is s.data.toList false s.data.toList rfl (by intro _; rw [hhead]; simpa using h3)] at hg
      exact hg
end Go.Proofs.Ytehnogggokfcaaa.Y
end
