/- For each text, place and mask that is not 0: what is sealed, with the mask's bits turned from the place on, does not fit (CrcBursts returns true); no condition beyond what the statement itself reads. -/
import Derived.Test.YtdjmpdflfbimeaaPureCrcParts
import Derived.Test.YtdjmpdflfbimeaaCrcLin
import Derived.Test.YtdjmpdflfbimeaaXDCrcBursts
namespace Go.Proofs.Ytdjmpdflfbimeaa.Pure
open Go.RowKit Go.Proofs.YtdjmpdflfbimeaaW.PrintWords Go.Proofs.YtdjmpdflfbimeaaW.PrintMore Go.Proofs.Ytdjmpdflfbimeaa.Y Go.Proofs.Ytdjmpdflfbimeaa.X Go.Proofs.Ytdjmpdflfbimeaa.Crc
set_option linter.unusedVariables false
set_option linter.unusedSimpArgs false

theorem xor_bit : ∀ m : Fin 8, ∀ r : Fin 8, ∀ b : Fin 256, (UInt8.ofNat (b.val ^^^ 2 ^ m.val)).toBitVec.getLsbD r.val = ((UInt8.ofNat b.val).toBitVec.getLsbD r.val ^^ decide (r.val = m.val)) := by decide +kernel
theorem flip_bit (l : List UInt8) (j i : Nat) (hj : j < 8 * l.length) : bitL (flipB l j) i = (bitL l i ^^ decide (i = j)) := by
  unfold bitL flipB
  have hl : j / 8 < l.length := by omega
  rw [List.getD_eq_getElem?_getD, List.getElem?_set]
  by_cases h : j / 8 = i / 8
  · rw [if_pos h, if_pos hl, h]
    have := xor_bit ⟨j % 8, Nat.mod_lt _ (by decide)⟩ ⟨i % 8, Nat.mod_lt _ (by decide)⟩ ⟨(l.getD (i / 8) 0).toNat, UInt8.toNat_lt _⟩
    simp only [UInt8.ofNat_toNat] at this
    rw [show decide (i = j) = decide (i % 8 = j % 8) by rw [decide_eq_decide]; omega]
    exact this
  · rw [if_neg h, ← List.getD_eq_getElem?_getD, decide_eq_false (by omega : ¬ i = j), Bool.xor_false]
theorem flips_bit (l : List UInt8) (a m : Nat) (ha : a + 31 < 8 * l.length) (i : Nat) : ∀ n, n ≤ 32 → bitL (flips l a m n) i = (bitL l i ^^ (decide (a ≤ i) && decide (i < a + n) && m.testBit (i - a)))
  | 0, _ => by
    rw [flips]
    by_cases h : a ≤ i
    · rw [decide_eq_false (by omega : ¬ i < a + 0)]; simp
    · rw [decide_eq_false h]; simp
  | n + 1, hn => by
    have ih := flips_bit l a m ha i n (by omega)
    rw [flips]
    by_cases hb : m / 2 ^ n % 2 = 1
    · rw [if_pos hb, flip_bit _ _ _ (by rw [flips_length]; omega), ih]
      have ht : m.testBit n = true := by rw [Nat.testBit_eq_decide_div_mod_eq, hb]; rfl
      by_cases e : i = a + n
      · subst e
        rw [show a + n - a = n by omega, ht]
        simp
      · rw [decide_eq_false e, Bool.xor_false]
        congr 2
        rw [show decide (i < a + (n + 1)) = decide (i < a + n) by rw [decide_eq_decide]; omega]
    · rw [if_neg hb, ih]
      have ht : m.testBit n = false := by rw [Nat.testBit_eq_decide_div_mod_eq, decide_eq_false hb]
      by_cases e : i = a + n
      · subst e
        rw [show a + n - a = n by omega, ht]
        simp
      · congr 2
        rw [show decide (i < a + (n + 1)) = decide (i < a + n) by rw [decide_eq_decide]; omega]
theorem seal_more (s : List UInt8) : moreB (~~~ 0#32) (sealB s) = TT 32 (~~~ 0#32) := by
  have e : moreB (~~~ 0#32) (sealB s) = moreB (moreB (~~~ 0#32) s) (tail4 (ofB s)) := by
    unfold moreB sealB
    rw [List.foldl_append]
  rw [e, more_tail]
  unfold ofB
  congr 1
  apply BitVec.eq_of_getLsbD_eq
  intro i hi
  have e2 : ∀ i, i < 32 → (4294967295#32).getLsbD i = true := by decide
  simp [hi]
  exact e2 i hi
theorem fits_more (u : ByteArray) (h : fitsB u = true) : moreB (~~~ 0#32) u.data.toList = TT 32 (~~~ 0#32) := by
  unfold fitsB at h
  split at h
  · have := eq_of_beq h
    rw [ba_toList, ba_toList] at this
    rw [← this]
    exact seal_more _
  · cases h
theorem CrcBursts : mewslaw14_CrcBursts.PureX := by
  intro s a m hs ha hm
  have hm := wf_u32 hm
  refine Ev.rounds (r := true) ?_
  unfold mewslaw14_CrcBursts.f
  refine ev_neg (by omega) (ev_bind (far_ev [s] (by simp)) (ev_ite (fun _ => alive_ev) (fun hf => ?_)))
  have hz : s.size ≤ 2000 := by
    refine Nat.le_of_not_lt fun hlt => hf (.inl ?_)
    simp [hlt]
  have hm0 : a ≠ a ∨ m ≠ 0 := .inr fun e => hf (.inr e)
  have hm0 : m ≠ 0 := fun e => hf (.inr e)
  have hl := sealB_length s.data.toList
  have hlz : (sealB s.data.toList).length = s.size + 4 := by rw [hl, ba_size]
  have hsz : (⟨(sealB s.data.toList).toArray⟩ : ByteArray).size = s.size + 4 := by rw [ba_size]; exact hlz
  refine ev_bind (impl_seal s hs) (ev_neg (by rw [hsz]; omega) (ev_neg (by rw [hsz]; omega) ?_))
  have hfr : fromN a (s.size + 4) + 31 < 8 * (s.size + 4) := by
    unfold fromN
    have h1 : 0 ≤ IntKind.u64.wrap a % ((8 * (s.size + 4) - 31 : Nat) : Int) := Int.emod_nonneg _ (by omega)
    have h2 : IntKind.u64.wrap a % ((8 * (s.size + 4) - 31 : Nat) : Int) < ((8 * (s.size + 4) - 31 : Nat) : Int) := Int.emod_lt_of_pos _ (by omega)
    generalize IntKind.u64.wrap a % ((8 * (s.size + 4) - 31 : Nat) : Int) = z at h1 h2
    omega
  rw [hsz]
  generalize fromN a (s.size + 4) = f at hfr
  obtain ⟨M, hM⟩ : ∃ M : Nat, m.toNat = M := ⟨_, rfl⟩
  rw [hM]
  have hMlt : M < 4294967296 := by omega
  have hM0 : M ≠ 0 := by omega
  have hno : fitsB ⟨(flips (sealB s.data.toList) f M 32).toArray⟩ = false := by
    refine Bool.eq_false_iff.2 fun h => ?_
    have h1 := fits_more _ h
    change moreB (~~~ 0#32) (flips (sealB s.data.toList) f M 32) = _ at h1
    have h2 := seal_more s.data.toList
    rw [moreB_all, flips_length, hlz] at h1
    rw [moreB_all, hlz] at h2
    have h3 : foldN (bitL (flips (sealB s.data.toList) f M 32)) (~~~ 0#32) (8 * (s.size + 4)) = foldN (fun i => bitL (sealB s.data.toList) i ^^ err f (BitVec.ofNat 32 M) i) (~~~ 0#32) (8 * (s.size + 4)) := by
      refine foldN_congr _ _ _ _ (fun i hi => ?_)
      rw [flips_bit _ f M (by rw [hlz]; exact hfr) i 32 (Nat.le_refl _)]
      congr 1
      unfold err
      by_cases hlt : i < f + 32
      · rw [BitVec.getLsbD_ofNat]
        by_cases hge : f ≤ i
        · rw [decide_eq_true (by omega : i - f < 32), Bool.true_and]
        · rw [decide_eq_false hge]; rfl
      · rw [decide_eq_false hlt]; simp
    rw [h3, foldN_lin, h2] at h1
    have hne := err_ne f (8 * (s.size + 4) - f - 32) (BitVec.ofNat 32 M) (by
      intro e
      have := congrArg BitVec.toNat e
      rw [BitVec.toNat_ofNat, Nat.mod_eq_of_lt hMlt] at this
      exact hM0 this)
    rw [show f + (32 + (8 * (s.size + 4) - f - 32)) = 8 * (s.size + 4) by omega] at hne
    refine hne ?_
    have := congrArg (fun x => TT 32 (~~~ 0#32) ^^^ x) h1
    simpa [← BitVec.xor_assoc] using this
  have hft := impl_fits ⟨(flips (sealB s.data.toList) f M 32).toArray⟩ (by
    rw [ba_size]
    show (flips (sealB s.data.toList) f M 32).length ≤ _
    rw [flips_length, hlz]
    omega)
  rw [hno] at hft
  exact ev_bind hft (ev_neg (by decide) alive_ev)
end Go.Proofs.Ytdjmpdflfbimeaa.Pure
