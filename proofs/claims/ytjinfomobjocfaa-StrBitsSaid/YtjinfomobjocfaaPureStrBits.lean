/- For each text s and two places: a bit that str.SetBit set is told by str.Bit, no other one is turned, and str.Ones counts one more for one more 1 (StrBits returns true); no condition beyond what the statement itself reads. -/
import Derived.Test.YtjinfomobjocfaaStrOnes
import Derived.Test.YtjinfomobjocfaaXDStrBits
namespace Go.Proofs.Ytjinfomobjocfaa.Pure
open Go.RowKit Go.Proofs.YtjinfomobjocfaaW.PrintWords Go.Proofs.YtjinfomobjocfaaW.PrintMore Go.Proofs.Ytjinfomobjocfaa.Y Go.Proofs.Ytjinfomobjocfaa.X Go.Proofs.Ytjinfomobjocfaa.St
set_option linter.unusedVariables false
set_option linter.unusedSimpArgs false

theorem put_all : ∀ on : Bool, ∀ m : Fin 8, ∀ b : Fin 256, (putBit (UInt8.ofNat b.val) m.val on).toNat / 2 ^ m.val % 2 = (if on then 1 else 0) ∧
    popN (putBit (UInt8.ofNat b.val) m.val on).toNat + b.val / 2 ^ m.val % 2 = popN b.val + (if on then 1 else 0) ∧
    ∀ m' : Fin 8, m' ≠ m → (putBit (UInt8.ofNat b.val) m.val on).toNat / 2 ^ m'.val % 2 = b.val / 2 ^ m'.val % 2 := by decide +kernel
theorem put_facts (b : UInt8) (m : Nat) (hm : m ≤ 7) (on : Bool) : (putBit b m on).toNat / 2 ^ m % 2 = (if on then 1 else 0) ∧
    popB (putBit b m on) + b.toNat / 2 ^ m % 2 = popB b + (if on then 1 else 0) ∧
    ∀ m', m' ≤ 7 → m' ≠ m → (putBit b m on).toNat / 2 ^ m' % 2 = b.toNat / 2 ^ m' % 2 := by
  have h := put_all on ⟨m, by omega⟩ ⟨b.toNat, byte_lt b⟩
  simp only [UInt8.ofNat_toNat] at h
  refine ⟨h.1, h.2.1, fun m' h1 h2 => ?_⟩
  have := h.2.2 ⟨m', by omega⟩ (fun e => h2 (by injection e))
  exact this
def sbL (l : List UInt8) (k : Nat) (on : Bool) : List UInt8 := (wideL l (k / 8 + 1)).set (k / 8) (putBit (l.getD (k / 8) 0) (7 - k % 8) on)
theorem wideL_all (l : List UInt8) (n i : Nat) : (wideL l n).getD i 0 = l.getD i 0 := by
  rw [List.getD_eq_getElem?_getD, wideL_get, List.getD_eq_getElem?_getD]
  by_cases h : i < l.length
  · rw [if_pos h]
  · rw [if_neg h, List.getElem?_eq_none (by omega)]
    split <;> rfl
theorem sbL_get (l : List UInt8) (k : Nat) (on : Bool) (i : Nat) : (sbL l k on).getD i 0 = if i = k / 8 then putBit (l.getD (k / 8) 0) (7 - k % 8) on else l.getD i 0 := by
  unfold sbL
  have hl : k / 8 < (wideL l (k / 8 + 1)).length := by rw [wideL_length]; omega
  rw [List.getD_eq_getElem?_getD, List.getElem?_set]
  by_cases h : i = k / 8
  · subst h
    rw [if_pos rfl, if_pos hl, if_pos rfl]
    rfl
  · rw [if_neg (fun e => h e.symm), if_neg h, ← List.getD_eq_getElem?_getD, wideL_all]
theorem sbL_bit (l : List UInt8) (k : Nat) (on : Bool) : bitN (sbL l k on) k = if on then 1 else 0 := by
  unfold bitN
  rw [sbL_get, if_pos rfl]
  exact (put_facts _ _ (Nat.sub_le _ _) on).1
theorem sbL_other (l : List UInt8) (k : Nat) (on : Bool) (j : Nat) (h : k ≠ j) : bitN (sbL l k on) j = bitN l j := by
  unfold bitN
  rw [sbL_get]
  by_cases hq : j / 8 = k / 8
  · rw [if_pos hq, hq]
    exact (put_facts _ _ (Nat.sub_le _ _) on).2.2 _ (Nat.sub_le _ _) (by omega)
  · rw [if_neg hq]
theorem onesL_set : ∀ (l : List UInt8) (q : Nat) (x : UInt8), q < l.length → onesL (l.set q x) + popB (l.getD q 0) = onesL l + popB x
  | [], q, x, h => by simp at h
  | b :: l, 0, x, h => by
    rw [List.set_cons_zero, onesL, onesL, List.getD_cons_zero]
    omega
  | b :: l, q + 1, x, h => by
    have := onesL_set l q x (by simpa using h)
    rw [List.set_cons_succ, onesL, onesL, List.getD_cons_succ]
    omega
theorem onesL_zeros : ∀ n, onesL (List.replicate n 0) = 0
  | 0 => rfl
  | n + 1 => by
    rw [List.replicate_succ, onesL, onesL_zeros n]
    rfl
theorem onesL_wide (l : List UInt8) (n : Nat) : onesL (wideL l n) = onesL l := by
  unfold wideL lay
  rw [List.take_zero, List.nil_append, onesL_app, List.drop_replicate, onesL_zeros]
  rfl
theorem sbL_ones (l : List UInt8) (k : Nat) (on : Bool) : onesL (sbL l k on) + bitN l k = onesL l + (if on then 1 else 0) := by
  have hl : k / 8 < (wideL l (k / 8 + 1)).length := by rw [wideL_length]; omega
  have h1 := onesL_set _ (k / 8) (putBit (l.getD (k / 8) 0) (7 - k % 8) on) hl
  rw [wideL_all, onesL_wide] at h1
  have h2 := (put_facts (l.getD (k / 8) 0) (7 - k % 8) (Nat.sub_le _ _) on).2.1
  change onesL (sbL l k on) + _ = _ at h1
  unfold bitN
  omega
theorem getL_all (l : List UInt8) : getL l 0 (-1) = l := by
  unfold getL
  have h1 : loI l.length 0 = 0 := rfl
  have h2 : hiI l.length (-1) = l.length := by
    unfold hiI
    rw [if_pos (by decide)]
    omega
  rw [h1, h2, List.take_length, List.drop_zero]
theorem bits_j0 (s : ByteArray) (hs : s.size ≤ 1000) (K M : Nat) (hK : K < 9000) (hM : M < 9000) (on : Bool) : Ev (fun k => mewslaw20_StrBits.j0 k s (K : Int) (M : Int) (if on then 1 else 0)) true := by
  have hn := ba_size s
  have e0 : sbR s (K : Int) (if on then 1 else 0) = (⟨(sbL s.data.toList K on).toArray⟩, (((bitN s.data.toList K : Nat) : Int), 0)) := by
    unfold sbR sbL
    rw [if_neg (by omega), if_neg (by cases on <;> simp), Int.toNat_natCast]
    cases on <;> rfl
  have hlen : (sbL s.data.toList K on).length ≤ 100000 := by
    unfold sbL
    rw [List.length_set, wideL_length, ← hn]
    omega
  have hb1 := sbL_bit s.data.toList K on
  have hb2 := fun h => sbL_other s.data.toList K on M h
  have hon := sbL_ones s.data.toList K on
  have hb3 := bitN_le s.data.toList K
  have hle := onesL_le s.data.toList
  rw [← hn] at hle
  generalize hL : sbL s.data.toList K on = L at e0 hlen hb1 hb2 hon
  have bR : ∀ (u : ByteArray) (j : Nat), j < 9000 → bitR u (j : Int) = (((bitN u.data.toList j : Nat) : Int), 0) := by
    intro u j hj
    unfold bitR
    rw [if_neg (by omega), Int.toNat_natCast]
  have ho1 := ones_ev ⟨L.toArray⟩ (by rw [ba_size]; exact hlen) 0 (-1) (by decide) (by decide)
  have ho2 := ones_ev s (by omega) 0 (-1) (by decide) (by decide)
  rw [getL_all] at ho1 ho2
  have hfin : ((onesL L : Nat) : Int) = wrap64 (wrap64 (((onesL s.data.toList : Nat) : Int) + (if on then 1 else 0)) - ((bitN s.data.toList K : Nat) : Int)) := by
    clear ho1 ho2 hb1 hb2 e0
    generalize onesL L = x at hon
    generalize onesL s.data.toList = y at hon hle
    generalize bitN s.data.toList K = z at hon hb3
    cases on
    · simp only [Bool.false_eq_true, if_false] at hon ⊢
      rw [show wrap64 ((y : Int) + 0) = (y : Int) by rw [w64 (by omega) (by omega)]; omega, w64 (by omega) (by omega)]
      omega
    · simp only [if_true] at hon ⊢
      rw [show wrap64 ((y : Int) + 1) = (y : Int) + 1 from w64 (by omega) (by omega), w64 (by omega) (by omega)]
      omega
  refine ev_round ?_
  simp only [mewslaw20_StrBits.j0]
  refine ev_bind0 (setbit_is s (K : Int) _ (by omega)) ?_
  rw [e0]
  refine ev_bind0 (bit_is _ (K : Int)) (ev_bind0 (bit_is s (K : Int)) (ev_bind0 (bit_is s (M : Int)) (ev_bind0 (bit_is _ (M : Int)) ?_)))
  rw [bR _ K hK, bR _ K hK, bR _ M hM, bR _ M hM]
  have hLL : (⟨L.toArray⟩ : ByteArray).data.toList = L := rfl
  rw [hLL]
  refine ev_pos rfl (ev_pos rfl (ev_pos ?_ (ev_pos rfl (ev_ite (fun h => ?_) (fun h => ev_pos ?_ ?_)))))
  · show ((bitN L K : Nat) : Int) = _
    rw [hb1]
    cases on <;> rfl
  · exact ev_bind ho1 (ev_bind ho2 (ev_pos hfin (ev_bind alive_ev (ev_some rfl))))
  · show ((bitN s.data.toList M : Nat) : Int) = ((bitN L M : Nat) : Int)
    rw [hb2 (fun e => h (by rw [e]))]
  · exact ev_bind ho1 (ev_bind ho2 (ev_pos hfin (ev_bind alive_ev (ev_some rfl))))
theorem StrBits : mewslaw20_StrBits.PureX := by
  intro s a b on hs ha hb
  refine Ev.rounds (r := true) ?_
  unfold mewslaw20_StrBits.f
  obtain ⟨fb, hf, hsz⟩ := far_is s ⟨#[]⟩ 0
  refine ev_bind0 hf (ev_ite (fun _ => ev_bind alive_ev (ev_some rfl)) (fun hfb => ?_))
  obtain ⟨z1, z2⟩ := hsz (by simpa using hfb)
  obtain ⟨K, hK, hKe⟩ := mod_is a 9000 (by decide) (by decide)
  obtain ⟨M, hM, hMe⟩ := mod_is b 9000 (by decide) (by decide)
  rw [show ((9000 : Nat) : Int) = 9000 from rfl] at hKe hMe
  rw [hKe, hMe]
  have h := bits_j0 s z1 K M hK hM on
  cases on
  · exact ev_neg (by decide) h
  · exact ev_pos rfl h
end Go.Proofs.Ytjinfomobjocfaa.Pure
