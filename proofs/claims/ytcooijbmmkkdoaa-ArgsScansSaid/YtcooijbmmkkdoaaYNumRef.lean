/- What the reference's Text and Parse come to: the decimal of a number; what a text is parsed as. -/
import Derived.Test.YtcooijbmmkkdoaaYNumEv
import Derived.Test.YtcooijbmmkkdoaaX15
import Derived.Test.YtcooijbmmkkdoaaX14
namespace Go.Proofs.Ytcooijbmmkkdoaa.Y
open Go.RowKit Go.Proofs.YtcooijbmmkkdoaaW.PrintWords Go.Proofs.YtcooijbmmkkdoaaW.PrintMore Go.Proofs.Ytcooijbmmkkdoaa.X
set_option linter.unusedVariables false
set_option linter.unusedSimpArgs false

theorem tmod_neg (u : Nat) : Int.tmod (-(u : Int)) 10 = -((u % 10 : Nat) : Int) := by
  rw [Int.neg_tmod, Int.tmod_eq_emod_of_nonneg (by omega)]
  omega
theorem tdiv_neg (u : Nat) : Int.tdiv (-(u : Int)) 10 = -((u / 10 : Nat) : Int) := by
  rw [Int.neg_tdiv, Int.tdiv_eq_ediv_of_nonneg (by omega)]
  omega
theorem sign_at (d : Nat) (hd : d < 10) : ((⟨#[48, 49, 50, 51, 52, 53, 54, 55, 56, 57]⟩ : ByteArray).extract d (d + 1)).data.toList = [UInt8.ofNat (48 + d)] := by
  rcases (by omega : d = 0 ∨ d = 1 ∨ d = 2 ∨ d = 3 ∨ d = 4 ∨ d = 5 ∨ d = 6 ∨ d = 7 ∨ d = 8 ∨ d = 9) with rfl | rfl | rfl | rfl | rfl | rfl | rfl | rfl | rfl | rfl <;> decide
theorem sign_dgt (u : Nat) : ((⟨#[48, 49, 50, 51, 52, 53, 54, 55, 56, 57]⟩ : ByteArray).extract (u % 10) (u % 10 + 1)).data.toList = [dgt u] := by
  rw [sign_at _ (by omega)]
  rfl
theorem DD_len : ∀ (k u : Nat), (DD k u).length ≤ k
  | 0, u => by simp [DD, dg]
  | k + 1, u => by
    rw [DD_succ]
    have := DD_len k (u / 10)
    split
    · simp
    · simp; exact this
theorem digits_ev : ∀ (K u : Nat), u < 10 ^ (K + 1) → u ≤ 9223372036854775808 → K < 20 → Ev (fun k => mewsref01_digits.f k (-(u : Int))) ⟨(DD (K + 1) u).toArray⟩ := by
  intro K
  induction K with
  | zero =>
    intro u hu hb _
    refine ev_round ?_
    simp only [mewsref01_digits.f]
    have hm : u % 10 = u := by omega
    rw [tmod_neg, hm]
    have e1 : wrap64 (-(-((u : Nat) : Int))) = (u : Int) := by unfold wrap64; omega
    have e2 : wrap64 ((u : Int) + 1) = ((u + 1 : Nat) : Int) := by unfold wrap64; omega
    rw [e1, e2]
    refine ev_pos (by omega) (ev_pos (by omega) (ev_pos (by omega) (ev_pos (by omega) (ev_some ?_))))
    rw [Int.toNat_natCast, Int.toNat_natCast]
    refine ba_ext ?_
    rw [DD_succ, if_pos (by omega)]
    have := sign_dgt u
    rw [hm] at this
    rw [this]
  | succ K ih =>
    intro u hu hb hK
    refine ev_round ?_
    simp only [mewsref01_digits.f]
    rw [tmod_neg, tdiv_neg]
    have e1 : wrap64 (-(-((u % 10 : Nat) : Int))) = ((u % 10 : Nat) : Int) := by unfold wrap64; omega
    have e2 : wrap64 (((u % 10 : Nat) : Int) + 1) = ((u % 10 + 1 : Nat) : Int) := by unfold wrap64; omega
    have e3 : wrap64 (-((u / 10 : Nat) : Int)) = -((u / 10 : Nat) : Int) := by unfold wrap64; omega
    rw [e1, e2, e3, Int.toNat_natCast, Int.toNat_natCast]
    by_cases hz : u / 10 = 0
    · refine ev_pos (by omega) (ev_pos (by omega) (ev_pos (by omega) (ev_pos (by omega) (ev_some ?_))))
      refine ba_ext ?_
      rw [DD_succ, if_pos hz, sign_dgt]
    · have h1 := ih (u / 10) (by rw [Nat.pow_succ] at hu; omega) (by omega) (by omega)
      refine ev_neg (by omega) (ev_bind h1 ?_)
      refine ev_pos (by omega) (ev_pos (by omega) (ev_pos (by omega) (ev_pos ?_ (ev_some ?_))))
      · have hl := DD_len (K + 1) (u / 10)
        rw [ba_size, ba_size, sign_dgt]
        simp
        omega
      · refine ba_ext ?_
        rw [ba_append, sign_dgt, DD_succ (K + 1), if_neg hz]
theorem ref_text_ev (n : Int) (h0 : -9223372036854775808 ≤ n) (h1 : n ≤ 9223372036854775807) : Ev (fun k => mewsref01_Text.f k n) (textB n) := by
  unfold mewsref01_Text.f textB
  by_cases hn : n < 0
  · rw [if_pos hn]
    have hd := digits_ev 19 n.natAbs (lt20 (by omega)) (by omega) (by omega)
    rw [show (-(n.natAbs : Int)) = n by omega] at hd
    refine ev_pos hn (ev_bind hd (ev_pos ?_ (ev_some ?_)))
    · have := DD_len 20 n.natAbs
      rw [ba_size]
      simp
      omega
    · refine ba_ext ?_
      rw [ba_append]
      rfl
  · rw [if_neg hn]
    have hd := digits_ev 19 n.natAbs (lt20 (by omega)) (by omega) (by omega)
    rw [show (-(n.natAbs : Int)) = -n by omega] at hd
    refine ev_neg hn ?_
    rw [show wrap64 (-n) = -n by unfold wrap64; omega]
    exact ev_bind hd (ev_some rfl)
/-- What the whole is told as, when it has been read to its end. -/
def endP (s : List UInt8) (m : Bool) (v : Nat) : Int × Bool :=
  if m = true then (if textL (-(v : Int)) = s then (-(v : Int), true) else (0, false))
  else if v = 9223372036854775808 then (0, false) else if textL (v : Int) = s then ((v : Int), true) else (0, false)
theorem ref_end (s : ByteArray) (m : Bool) (v : Nat) (hv : v ≤ 9223372036854775808) (x6 : Int) (hx : ¬ x6 < (s.size : Int)) : Ev (fun k => mewsref01_Parse.l0 k s m (-(v : Int)) x6) (endP s.data.toList m v) := by
  refine ev_round ?_
  simp only [mewsref01_Parse.l0]
  refine ev_neg hx ?_
  unfold endP
  refine ev_ite (fun hm => ?_) (fun hm => ?_)
  · rw [if_pos hm]
    refine ev_round ?_
    simp only [mewsref01_Parse.j4]
    refine ev_neg (by decide) (ev_pos hm (ev_bind (ref_text_ev _ (by omega) (by omega)) ?_))
    rw [ba_toList, ba_toList, textB_data]
    refine ev_ite (fun h => ev_some ?_) (fun h => ev_some ?_)
    · rw [if_pos h]
    · rw [if_neg h]
  · rw [if_neg hm]
    refine ev_round ?_
    simp only [mewsref01_Parse.j4]
    by_cases hb : v = 9223372036854775808
    · rw [if_pos hb]
      exact ev_pos (by rw [beq_iff_eq]; omega) (ev_some rfl)
    · rw [if_neg hb]
      have e : wrap64 (-(-(v : Int))) = (v : Int) := by unfold wrap64; omega
      rw [e]
      refine ev_neg (by rw [beq_iff_eq]; omega) (ev_neg hm (ev_bind (ref_text_ev _ (by omega) (by omega)) ?_))
      rw [ba_toList, ba_toList, textB_data]
      refine ev_ite (fun h => ev_some ?_) (fun h => ev_some ?_)
      · rw [if_pos h]
      · rw [if_neg h]
/-- From a place on: the digits ahead of it have the value v, and a sign may stand at the beginning. -/
def goP (s : List UInt8) (m : Bool) : List UInt8 → Nat → Int × Bool
  | [], v => endP s m v
  | c :: r, v => if isDig c = true then (if 9223372036854775808 < v * 10 + (c.toNat - 48) then (0, false) else goP s m r (v * 10 + (c.toNat - 48))) else (0, false)
theorem least_div (c v : Nat) (hc : 48 ≤ c) (hc' : c ≤ 57) : (-(v : Int) < Int.tdiv ((-9223372036854775808) + (((c : Int)) - 48) % 256) 10) ↔ 9223372036854775808 < v * 10 + (c - 48) := by
  obtain ⟨e, he⟩ : ∃ e : Nat, e = 9223372036854775808 - (c - 48) := ⟨_, rfl⟩
  have h1 : (-9223372036854775808 : Int) + (((c : Int)) - 48) % 256 = -(e : Int) := by omega
  rw [h1, tdiv_neg]
  omega
theorem ref_go (s : ByteArray) (hs : s.size ≤ 140737488351232) (m : Bool) (z : Nat) (hz : m = true → 0 < z) : ∀ (r : List UInt8) (i v : Nat), s.data.toList.drop i = r → z ≤ i → i ≤ s.size → v ≤ 9223372036854775808 →
    Ev (fun k => mewsref01_Parse.l0 k s m (-(v : Int)) (i : Int)) (goP s.data.toList m r v)
  | [], i, v, hr, hzi, hi, hv => by
    have : s.data.toList.length ≤ i := List.drop_eq_nil_iff.1 hr
    rw [← ba_size] at this
    exact ref_end s m v hv (i : Int) (by omega)
  | c :: r, i, v, hr, hzi, hi, hv => by
    have hlt : i < s.data.toList.length := by
      refine Nat.lt_of_not_le fun h => ?_
      rw [List.drop_eq_nil_iff.2 h] at hr
      cases hr
    have hlt2 : i < s.size := by rw [ba_size]; exact hlt
    rw [List.drop_eq_getElem_cons hlt] at hr
    injection hr with hc hr
    have hflag : ∀ r', Ev (fun k => mewsref01_Parse.j2 k s m (-(v : Int)) (i : Int) false) r' → Ev (fun k => mewsref01_Parse.l0 k s m (-(v : Int)) (i : Int)) r' := by
      intro r' h
      refine ev_round ?_
      simp only [mewsref01_Parse.l0]
      refine ev_pos (by omega) (ev_ite (fun h0 => ?_) (fun _ => h))
      have hmf : m = false := by
        cases m with
        | false => rfl
        | true => have := hz rfl; omega
      rw [hmf] at h ⊢
      exact h
    refine hflag _ ?_
    refine ev_round ?_
    simp only [mewsref01_Parse.j2]
    refine ev_neg (by decide) (ev_pos (by omega) (ev_pos (by omega) ?_))
    rw [bt_nat s i hlt2, hc]
    have hj3t : Ev (fun k => mewsref01_Parse.j3 k s m (-(v : Int)) (i : Int) true) (0, false) := by
      refine ev_round ?_
      simp only [mewsref01_Parse.j3]
      first | exact ev_some rfl | exact ev_pos rfl (ev_some rfl)
    unfold goP
    by_cases hd : isDig c = true
    · have hd' := (isDig_iff c).1 hd
      rw [if_pos hd]
      refine ev_neg (by omega) ?_
      rw [decide_eq_false (show ¬ (c.toNat : Int) > 57 by omega)]
      refine ev_round ?_
      simp only [mewsref01_Parse.j3]
      refine ev_neg (by decide) (ev_pos (by omega) (ev_pos (by omega) ?_))
      rw [bt_nat s i hlt2, hc]
      by_cases hb : 9223372036854775808 < v * 10 + (c.toNat - 48)
      · rw [if_pos hb]
        exact ev_pos ((least_div c.toNat v hd'.1 hd'.2).2 hb) (ev_some rfl)
      · rw [if_neg hb]
        refine ev_neg (fun h => hb ((least_div c.toNat v hd'.1 hd'.2).1 h)) ?_
        have e : wrap64 ((wrap64 (-(v : Int) * 10)) - (((c.toNat : Int)) - 48) % 256) = -((v * 10 + (c.toNat - 48) : Nat) : Int) := by
          unfold wrap64
          omega
        rw [e, w64 (by omega) (by omega)]
        exact ref_go s hs m z hz r (i + 1) _ hr (by omega) (by omega) (by omega)
    · rw [if_neg hd]
      rw [isDig_iff] at hd
      refine ev_ite (fun _ => hj3t) (fun h1 => ?_)
      rw [decide_eq_true (show (c.toNat : Int) > 57 by omega)]
      exact hj3t
/-- What goP tells is what parseP tells. -/
theorem goP_no (s : List UInt8) (m : Bool) : ∀ (r : List UInt8) (v : Nat), (∀ n : Nat, n ≤ 9223372036854775808 → (m = true → textL (-(n : Int)) ≠ s) ∧ (m = false → n < 9223372036854775808 → textL (n : Int) ≠ s)) → v ≤ 9223372036854775808 → goP s m r v = (0, false)
  | [], v, h, hv => by
    unfold goP endP
    cases m with
    | true => rw [if_pos rfl, if_neg ((h v hv).1 rfl)]
    | false =>
      rw [if_neg (by decide)]
      split
      · rfl
      · rw [if_neg ((h v hv).2 rfl (by omega))]
  | c :: r, v, h, hv => by
    unfold goP
    split
    · split
      · rfl
      · exact goP_no s m r _ h (by omega)
    · rfl
theorem foldl_val (r : List UInt8) : ∀ v, r.foldl (fun a c => a * 10 + (c.toNat - 48)) v = v * 10 ^ r.length + val r := by
  induction r with
  | nil => intro v; simp [val]
  | cons c r ih =>
    intro v
    have h2 : val (c :: r) = (0 * 10 + (c.toNat - 48)) * 10 ^ r.length + val r := ih _
    rw [List.foldl_cons, ih, h2, List.length_cons, Nat.pow_succ]
    simp only [Nat.add_mul, Nat.zero_mul, Nat.zero_add, Nat.mul_assoc]
    rw [Nat.mul_comm 10 (10 ^ r.length)]
    omega
theorem goP_yes (s : List UInt8) (m : Bool) : ∀ (r : List UInt8) (v : Nat), (∀ c ∈ r, isDig c = true) → r.foldl (fun a c => a * 10 + (c.toNat - 48)) v ≤ 9223372036854775808 → goP s m r v = endP s m (r.foldl (fun a c => a * 10 + (c.toNat - 48)) v)
  | [], v, _, _ => rfl
  | c :: r, v, h, hv => by
    have hm : v * 10 + (c.toNat - 48) ≤ (c :: r).foldl (fun a c => a * 10 + (c.toNat - 48)) v := by
      rw [List.foldl_cons, foldl_val]
      exact Nat.le_trans (Nat.le_mul_of_pos_right _ (Nat.pow_pos (by decide))) (Nat.le_add_right _ _)
    unfold goP
    rw [if_pos (h c (by simp)), if_neg (by omega)]
    exact goP_yes s m r _ (fun x hx => h x (by simp [hx])) hv
theorem goP_is (s : List UInt8) (m : Bool) (r : List UInt8) (hs : s = if m = true then 45 :: r else r) (hm : m = false → s.head? ≠ some 45) : goP s m r 0 = parseP s := by
  cases hp : (parseP s).2 with
  | false =>
    rw [parse_no s hp]
    refine goP_no s m r 0 (fun n hn => ⟨fun _ he => ?_, fun _ hlt he => ?_⟩) (by omega)
    · have := parse_text (-(n : Int)) (by omega) (by omega)
      rw [he] at this
      rw [this] at hp
      cases hp
    · have := parse_text (n : Int) (by omega) (by omega)
      rw [he] at this
      rw [this] at hp
      cases hp
  | true =>
    obtain ⟨n, hn⟩ : ∃ n, parseP s = (n, true) := ⟨(parseP s).1, by rw [← hp]⟩
    obtain ⟨ht, h0, h1⟩ := parse_back s n hn
    rw [hn]
    have hdr : r = DD 20 n.natAbs ∧ (m = true ↔ n < 0) := by
      unfold textL at ht
      cases m with
      | true =>
        rw [if_pos rfl] at hs
        rw [hs] at ht
        split at ht
        · rename_i hneg
          injection ht with _ ht
          exact ⟨ht.symm, by simp [hneg]⟩
        · exact absurd (by rw [ht]; rfl) (head_DD n.natAbs)
      | false =>
        rw [if_neg (by decide)] at hs
        split at ht
        · exact absurd (by rw [← ht]; rfl) (hm rfl)
        · rename_i hneg
          rw [hs] at ht
          exact ⟨ht.symm, by simp [hneg]⟩
    obtain ⟨hr, hmn⟩ := hdr
    have hv : r.foldl (fun a c => a * 10 + (c.toNat - 48)) 0 = n.natAbs := by
      rw [hr]
      exact DD_val 20 n.natAbs (lt20 (by omega))
    rw [goP_yes s m r 0 (by rw [hr]; exact DD_dig 20 _) (by rw [hv]; omega), hv]
    unfold endP
    by_cases hneg : n < 0
    · rw [if_pos (hmn.2 hneg), show (-(n.natAbs : Int)) = n by omega, if_pos ht]
    · rw [if_neg (fun h => hneg (hmn.1 h)), if_neg (by omega), show ((n.natAbs : Nat) : Int) = n by omega, if_pos ht]
/-- The reference's Parse. -/
theorem ref_parse_ev (s : ByteArray) (hs : s.size ≤ 140737488351232) : Ev (fun k => mewsref01_Parse.f k s) (parseP s.data.toList) := by
  have hlen := ba_size s
  unfold mewsref01_Parse.f
  by_cases h1 : s.data.toList = []
  · refine ev_neg (by rw [hlen, h1]; simp) ?_
    refine ev_round ?_
    simp only [mewsref01_Parse.j0]
    have := ref_go s hs false 0 (by intro h; cases h) [] 0 0 (by rw [h1]; rfl) (by omega) (by omega) (by omega)
    rw [goP_is s.data.toList false [] (by rw [h1]; rfl) (by intro _; rw [h1]; simp)] at this
    exact this
  · have hpos : 0 < s.data.toList.length := by
      cases h : s.data.toList with
      | nil => exact absurd h h1
      | cons c l => simp
    have hb := bt_nat s 0 (by omega)
    rw [show ((0 : Nat) : Int) = 0 from rfl] at hb
    have hhead : s.data.toList.head? = some s.data.toList[0] := by rw [List.head?_eq_getElem?, List.getElem?_eq_getElem hpos]
    refine ev_pos (by omega) (ev_pos (by omega) ?_)
    rw [hb]
    refine ev_round ?_
    simp only [mewsref01_Parse.j0]
    by_cases h3 : s.data.toList[0] = 45
    · rw [h3]
      have hm : (((45 : UInt8).toNat : Int) == 45) = true := rfl
      rw [hm]
      refine ev_round ?_
      simp only [mewsref01_Parse.l0]
      refine ev_pos (by omega) (ev_pos (by first | rfl | trivial) ?_)
      refine ev_round ?_
      simp only [mewsref01_Parse.j2]
      have hg := ref_go s hs true 1 (by intro _; omega) s.data.toList.tail 1 0 (by rw [List.drop_one]) (by omega) (by omega) (by omega)
      rw [goP_is s.data.toList true s.data.toList.tail (by
        rw [if_pos rfl]
        cases hl : s.data.toList with
        | nil => exact absurd hl h1
        | cons c l => simp only [hl] at h3; simp at h3; simp [h3]) (by intro h; cases h)] at hg
      have hg2 : Ev (fun k => mewsref01_Parse.l0 k s true 0 (wrap64 (0 + 1))) (parseP s.data.toList) := by
        rw [w64 (by omega) (by omega)]
        exact hg
      first | exact hg2 | exact ev_pos rfl hg2
    · have h3n : ((s.data.toList[0].toNat : Int) == 45) = false := by
        rw [beq_eq_false_iff_ne]
        intro he
        exact h3 (UInt8.toNat_inj.1 (by have : s.data.toList[0].toNat = 45 := by omega
                                        rw [this]; rfl))
      rw [h3n]
      have hg := ref_go s hs false 0 (by intro h; cases h) s.data.toList 0 0 rfl (by omega) (by omega) (by omega)
      rw [goP_is s.data.toList false s.data.toList rfl (by intro _; rw [hhead]; simpa using h3)] at hg
      exact hg
end Go.Proofs.Ytcooijbmmkkdoaa.Y
