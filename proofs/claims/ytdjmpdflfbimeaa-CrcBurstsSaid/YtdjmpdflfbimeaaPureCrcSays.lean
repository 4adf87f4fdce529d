/- For every number n of 32 bits, byte b and text s: crc.Byte, crc.More, crc.Of, crc.Seal and crc.Fits answer as the reference does (CrcSays returns true); no condition beyond what the statement itself reads. -/
import Derived.Test.YtdjmpdflfbimeaaXDCrcSays
import Derived.Test.YtdjmpdflfbimeaaCrc
namespace Go.Proofs.Ytdjmpdflfbimeaa.Pure
open Go.RowKit Go.Proofs.YtdjmpdflfbimeaaW.PrintWords Go.Proofs.YtdjmpdflfbimeaaW.PrintMore Go.Proofs.Ytdjmpdflfbimeaa.Y Go.Proofs.Ytdjmpdflfbimeaa.X Go.Proofs.Ytdjmpdflfbimeaa.Crc
set_option linter.unusedVariables false

def sealB (l : List UInt8) : List UInt8 := l ++ tail4 (ofB l)
theorem alive_ev : Ev (fun k => mewslaw14_alive.f k) true := Ev.of mewslaw14_alive.mono (k := 40) (by decide +kernel)
theorem seal_eq (s : ByteArray) (v : BitVec 32) (a b c d : Int) (ha : a = (v.toNat : Int) % 256) (hb : b = (v.toNat : Int) / 256 % 256) (hc : c = (v.toNat : Int) / 65536 % 256) (hd : d = (v.toNat : Int) / 16777216 % 256) :
    s ++ strOfNums [a, b, c, d] = ⟨(s.data.toList ++ tail4 v).toArray⟩ := by
  subst ha hb hc hd
  refine ba_ext ?_
  rw [ByteArray.data_append, Array.toList_append, strOf_data]
  have e : ∀ n : Nat, ((n : Int) % 256).toNat = n % 256 := fun n => by omega
  simp only [tail4, List.map_cons, List.map_nil]
  rw [e, show (((v.toNat : Int) / 256 % 256).toNat) = v.toNat / 256 % 256 by omega, show (((v.toNat : Int) / 65536 % 256).toNat) = v.toNat / 65536 % 256 by omega, show (((v.toNat : Int) / 16777216 % 256).toNat) = v.toNat / 16777216 % 256 by omega]
theorem flat_one (s : ByteArray) : flat [s] = s.data.toList := by simp [flat]
theorem impl_seal (s : ByteArray) (hs : s.size ≤ 140737488351232) : Ev (fun k => crc_Seal.f k s) ⟨(sealB s.data.toList).toArray⟩ := by
  unfold crc_Seal.f
  have h := impl_of [s] (by simp) (by simpa using hs)
  rw [flat_one] at h
  refine ev_bind h (ev_bind0 rfl (ev_pos ?_ (ev_some ?_)))
  · rw [strOf_size]
    simp only [List.length_cons, List.length_nil]
    omega
  · exact seal_eq s _ _ _ _ _ rfl rfl rfl rfl
theorem ref_seal (s : ByteArray) (hs : s.size ≤ 140737488351232) : Ev (fun k => mewsref14_Seal.f k s) ⟨(sealB s.data.toList).toArray⟩ := by
  unfold mewsref14_Seal.f
  refine ev_bind (ref_of s hs) (ev_bind0 rfl (ev_pos ?_ (ev_some ?_)))
  · rw [strOf_size]
    simp only [List.length_cons, List.length_nil]
    omega
  · have := lt32 (ofB s.data.toList)
    refine seal_eq s _ _ _ _ _ rfl ?_ ?_ ?_
    all_goals (rw [Int.tdiv_eq_ediv_of_nonneg (by omega)]; omega)
def fitsB (s : ByteArray) : Bool := if 4 ≤ s.size then (⟨(sealB (s.extract 0 (s.size - 4)).data.toList).toArray⟩ : ByteArray).toList == s.toList else false
theorem cut4 (s : ByteArray) (hs : s.size ≤ 140737488351232) (h : 4 ≤ s.size) : wrap64 ((s.size : Int) - 4) = ((s.size - 4 : Nat) : Int) := by
  rw [w64 (by omega) (by omega)]
  omega
theorem extract_size (s : ByteArray) (n : Nat) (hs : s.size ≤ 140737488351232) : (s.extract 0 n).size ≤ 140737488351232 := by
  rw [ByteArray.size_extract]
  omega
theorem impl_fits (s : ByteArray) (hs : s.size ≤ 140737488351232) : Ev (fun k => crc_Fits.f k s) (fitsB s) := by
  unfold crc_Fits.f fitsB
  by_cases h : 4 ≤ s.size
  · rw [if_pos h]
    refine ev_pos (by omega) (ev_pos ?_ (ev_pos ?_ ?_))
    · rw [cut4 s hs h]; omega
    · rw [cut4 s hs h]; omega
    · rw [cut4 s hs h, Int.toNat_natCast]
      exact ev_bind (impl_seal _ (extract_size s _ hs)) (ev_some rfl)
  · rw [if_neg h]
    exact ev_neg (by omega) (ev_some rfl)
theorem far_ev (l : List ByteArray) (hl : l.length ≤ 140737488351232) : Ev (fun k => mewslaw14_far.f k l) (l.any (fun s => decide (2000 < s.size)) || decide (20 < l.length)) := by
  unfold mewslaw14_far.f
  suffices H : ∀ i, i ≤ l.length → Ev (fun k => mewslaw14_far.l0 k l l (l.length : Int) (i : Int)) ((l.drop i).any (fun s => decide (2000 < s.size)) || decide (20 < l.length)) from by simpa using H 0 (by omega)
  have h : ∀ d i, i + d = l.length → Ev (fun k => mewslaw14_far.l0 k l l (l.length : Int) (i : Int)) ((l.drop i).any (fun s => decide (2000 < s.size)) || decide (20 < l.length)) := by
    intro d
    induction d with
    | zero =>
      intro i hi
      refine ev_round ?_
      simp only [mewslaw14_far.l0]
      refine ev_neg (by omega) (ev_some ?_)
      rw [List.drop_of_length_le (by omega)]
      simp only [List.any_nil, Bool.false_or, decide_eq_decide]
      omega
    | succ d ih =>
      intro i hi
      have hlt : i < l.length := by omega
      refine ev_round ?_
      simp only [mewslaw14_far.l0]
      refine ev_pos (by omega) (ev_pos (by omega) (ev_pos (by omega) ?_))
      rw [rdOf_nat _ l i hlt, List.drop_eq_getElem_cons hlt]
      refine ev_ite (fun c => ev_some ?_) (fun c => ?_)
      · simp only [List.any_cons]
        rw [decide_eq_true (show 2000 < (l[i]).size by omega)]
        rfl
      · simp only [List.any_cons]
        rw [decide_eq_false (show ¬ 2000 < (l[i]).size by omega), Bool.false_or, w64 (by omega) (by omega)]
        exact ih (i + 1) (by omega)
  intro i hi
  exact h (l.length - i) i (by omega)
theorem CrcSays : mewslaw14_CrcSays.PureX := by
  intro a0 a1 s h0 h1 hs
  obtain ⟨v, rfl⟩ : ∃ v : BitVec 32, a0 = (v.toNat : Int) := by
    have := wf_u32 h0
    exact ⟨BitVec.ofNat 32 a0.toNat, by rw [BitVec.toNat_ofNat]; omega⟩
  obtain ⟨b, rfl⟩ : ∃ b : UInt8, a1 = (b.toNat : Int) := by
    have := wf_u8 h1
    exact ⟨UInt8.ofNat a1.toNat, by rw [UInt8.toNat_ofNat']; omega⟩
  refine Ev.rounds (r := true) ?_
  unfold mewslaw14_CrcSays.f
  have hof := impl_of [s] (by simp) (by simpa using hs)
  rw [flat_one] at hof
  have J : Ev (fun k => mewslaw14_CrcSays.j0 k (v.toNat : Int) (b.toNat : Int) s (fitsB s)) true := by
    refine ev_round ?_
    simp only [mewslaw14_CrcSays.j0]
    refine ev_bind (impl_byte v b) (ev_bind (ref_byte v b) (ev_pos rfl ?_))
    refine ev_bind (impl_more v s hs) (ev_bind (ref_more v s hs) (ev_pos rfl ?_))
    refine ev_bind hof (ev_bind (ref_of s hs) (ev_pos rfl ?_))
    refine ev_bind (impl_seal s hs) (ev_bind (ref_seal s hs) (ev_pos rfl ?_))
    refine ev_bind (impl_fits s hs) (ev_pos (by simp) ?_)
    exact ev_bind alive_ev (ev_some rfl)
  refine ev_bind (far_ev [s] (by simp)) ?_
  refine ev_ite (fun _ => ev_bind alive_ev (ev_some rfl)) (fun _ => ?_)
  by_cases h : 4 ≤ s.size
  · refine ev_pos (by omega) (ev_pos ?_ (ev_pos ?_ ?_))
    · rw [cut4 s hs h]; omega
    · rw [cut4 s hs h]; omega
    · rw [cut4 s hs h, Int.toNat_natCast]
      refine ev_bind (ref_seal _ (extract_size s _ hs)) ?_
      have e : fitsB s = ((⟨(sealB (s.extract 0 (s.size - 4)).data.toList).toArray⟩ : ByteArray).toList == s.toList) := by unfold fitsB; rw [if_pos h]
      rw [e] at J
      exact J
  · refine ev_neg (by omega) ?_
    have e : fitsB s = false := by unfold fitsB; rw [if_neg h]
    rw [e] at J
    exact J
end Go.Proofs.Ytdjmpdflfbimeaa.Pure
