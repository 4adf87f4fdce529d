/- For all texts s and t and any place: what str.Set set is got at its place, and all else is as it was, with bytes 0 between; what str.Append appended is got behind (StrBack returns true); no condition beyond what the statement itself reads. -/
import Derived.Test.YtjinfomobjocfaaPureStrTexts
import Derived.Test.YtjinfomobjocfaaXDStrBack
namespace Go.Proofs.Ytjinfomobjocfaa.Pure
open Go.RowKit Go.Proofs.YtjinfomobjocfaaW.PrintWords Go.Proofs.YtjinfomobjocfaaW.PrintMore Go.Proofs.Ytjinfomobjocfaa.Y Go.Proofs.Ytjinfomobjocfaa.X Go.Proofs.Ytjinfomobjocfaa.St
set_option linter.unusedVariables false
set_option linter.unusedSimpArgs false

theorem getL_set (s t : List UInt8) (k : Nat) (ht : t ≠ []) : getL (setL s t k) (k : Int) ((k + t.length - 1 : Nat) : Int) = t := by
  have hpos : 0 < t.length := List.length_pos_iff.2 ht
  unfold getL
  have h1 : loI (setL s t k).length (k : Int) = k := by
    unfold loI
    rw [if_neg (by omega)]
    exact Int.toNat_natCast k
  have h2 : hiI (setL s t k).length ((k + t.length - 1 : Nat) : Int) = k + t.length := by
    rw [setL_length]
    unfold hiI
    rw [if_neg (by omega)]
    omega
  rw [h1, h2]
  unfold setL lay
  have h3 : ((wideL s (k + t.length)).take k).length = k := by rw [List.length_take, wideL_length]; omega
  rw [List.take_left' (by rw [List.length_append, h3])]
  rw [List.drop_left' h3]
theorem getL_app (s t : List UInt8) : getL (s ++ t) (s.length : Int) (-1) = t := by
  unfold getL
  have h1 : loI (s ++ t).length (s.length : Int) = s.length := by
    unfold loI
    rw [if_neg (by omega)]
    exact Int.toNat_natCast _
  have h2 : hiI (s ++ t).length (-1) = (s ++ t).length := by
    unfold hiI
    rw [if_pos (by decide)]
    omega
  rw [h1, h2, List.take_length, List.drop_left]
theorem mod_is (x : Int) (m : Nat) (hm : 0 < m) (hm2 : m ≤ 1000000) : ∃ K : Nat, K < m ∧ wrap64 (Int.tmod (IntKind.u64.wrap x) (m : Int)) = (K : Int) := by
  obtain ⟨u, hu⟩ : ∃ u : Nat, IntKind.u64.wrap x = (u : Int) := by
    refine ⟨(IntKind.u64.wrap x).toNat, ?_⟩
    have : 0 ≤ IntKind.u64.wrap x := by
      simp only [IntKind.wrap, IntKind.bits, IntKind.signed]
      simp
      omega
    omega
  refine ⟨u % m, Nat.mod_lt _ hm, ?_⟩
  rw [hu, Int.tmod_eq_emod_of_nonneg (by omega)]
  have h1 : (u : Int) % (m : Int) = ((u % m : Nat) : Int) := by rw [Int.natCast_emod]
  have h2 : u % m < m := Nat.mod_lt _ hm
  rw [h1, w64 (by omega) (by omega)]
theorem bt_list (L : List UInt8) (i : Nat) (h : i < L.length) : bt ⟨L.toArray⟩ (i : Int) = (L[i].toNat : Int) := by
  rw [bt_nat ⟨L.toArray⟩ i (by rw [ba_size]; exact h)]
theorem StrBack : mewslaw20_StrBack.PureX := by
  intro s t at_ hs ht hat
  refine Ev.rounds (r := true) ?_
  have hn := ba_size s
  have hm := ba_size t
  have haway : Ev (fun k => mewslaw20_StrBack.j0 k s t at_ true) true := by
    refine ev_round ?_
    simp only [mewslaw20_StrBack.j0]
    exact ev_pos (by first | rfl | trivial) (ev_bind alive_ev (ev_some rfl))
  unfold mewslaw20_StrBack.f
  obtain ⟨fb, hf, hsz⟩ := far_is s t 0
  refine ev_bind0 hf (ev_ite (fun _ => haway) (fun hfb => ?_))
  obtain ⟨z1, z2⟩ := hsz (by simpa using hfb)
  by_cases hte : t.data.toList = []
  · rw [ba_toList, hte]
    exact haway
  have e0 : (t.toList == ([] : List UInt8)) = false := by rw [ba_toList, beq_eq_false_iff_ne]; exact hte
  rw [e0]
  have hpos : 0 < t.size := by rw [hm]; exact List.length_pos_iff.2 hte
  refine ev_round ?_
  simp only [mewslaw20_StrBack.j0]
  refine ev_neg (by decide) ?_
  obtain ⟨K, hK, hKe⟩ := mod_is at_ 2000 (by decide) (by decide)
  rw [show ((2000 : Nat) : Int) = 2000 from rfl] at hKe
  rw [hKe]
  have eset : setR s (K : Int) t = (⟨(setL s.data.toList t.data.toList K).toArray⟩, 0) := by
    unfold setR
    rw [if_neg (by omega), if_neg (by omega), if_neg (by omega)]
    rfl
  refine ev_bind0 (set_is s (K : Int) t hs) ?_
  rw [eset]
  have hlen := setL_length s.data.toList t.data.toList K
  rw [← hn, ← hm] at hlen
  have husize : (⟨(setL s.data.toList t.data.toList K).toArray⟩ : ByteArray).size = max (K + t.size) s.size := by rw [ba_size]; exact hlen
  have hg := getL_set s.data.toList t.data.toList K hte
  obtain ⟨L, hLL, hL, hLg, hg⟩ : ∃ L : List UInt8, L = setL s.data.toList t.data.toList K ∧ L.length = max (K + t.size) s.size ∧ (∀ i (h : i < L.length), L[i] = setF s.data.toList t.data.toList K i) ∧ getL L (K : Int) ((K + t.data.toList.length - 1 : Nat) : Int) = t.data.toList :=
    ⟨_, rfl, hlen, fun i h => setL_get _ _ _ _ h, hg⟩
  rw [← hLL] at husize ⊢
  clear hLL hlen eset hKe hat haway hf
  have w1 : Aside0 (wrap64 ((K : Int) + (t.size : Int)) = ((K + t.size : Nat) : Int)) := ⟨by rw [w64 (by omega) (by omega)]; omega⟩
  have w2 : Aside0 (wrap64 (((K + t.size : Nat) : Int) - 1) = ((K + t.size - 1 : Nat) : Int)) := ⟨by rw [w64 (by omega) (by omega)]; omega⟩
  refine ev_pos rfl ?_
  rw [w1.out, w2.out]
  refine ev_pos ?_ ?_
  · show ((⟨L.toArray⟩ : ByteArray).size : Int) = mx (s.size : Int) ((K + t.size : Nat) : Int)
    rw [husize]
    unfold mx
    split <;> omega
  have hget := get_ev ⟨L.toArray⟩ (by rw [husize]; omega) (K : Int) ((K + t.size - 1 : Nat) : Int) (by omega) (by omega)
  rw [hm, hg] at hget
  rw [← hm] at hget
  refine ev_bind hget ?_
  have e1 : ((⟨t.data.toList.toArray⟩ : ByteArray).toList != t.toList) = false := by
    rw [ba_toList]
    simp
  rw [e1]
  refine ev_round ?_
  simp only [mewslaw20_StrBack.j1]
  refine ev_neg (by decide) ?_
  rw [husize]
  have hval : ∀ i, i < L.length → ¬ (K ≤ i ∧ i < K + t.size) → L.getD i 0 = s.data.toList.getD i 0 := by
    intro i hi hno
    rw [List.getD_eq_getElem?_getD, List.getElem?_eq_getElem hi, hLg i hi]
    unfold setF
    rw [if_neg (by rw [← hm]; exact hno)]
    rfl
  have hu : ∀ i (h : i < L.length), bt ⟨L.toArray⟩ (i : Int) = ((L.getD i 0).toNat : Int) := by
    intro i h
    rw [bt_list L i h, List.getD_eq_getElem?_getD, List.getElem?_eq_getElem h]
    rfl
  have hs2 : ∀ i (h : i < s.size), bt s (i : Int) = ((s.data.toList.getD i 0).toNat : Int) := by
    intro i h
    rw [bt_nat s i h, List.getD_eq_getElem?_getD, List.getElem?_eq_getElem (by rw [← hn]; exact h)]
    rfl
  have hs3 : ∀ i, s.size ≤ i → s.data.toList.getD i 0 = 0 := by
    intro i h
    rw [List.getD_eq_getElem?_getD, List.getElem?_eq_none (by rw [← hn]; exact h)]
    rfl
  obtain ⟨n, hnn⟩ : ∃ n, n = max (K + t.size) s.size := ⟨_, rfl⟩
  rw [← hnn] at hL husize ⊢
  have hn0 : n ≤ 4000 := by omega
  have HU := Aside0.mk husize
  clear husize hLg hg hget e1 hte e0
  refine ev_up (g := fun k i => mewslaw20_StrBack.l0 k s t (K : Int) ⟨L.toArray⟩ (n : Int) (i : Int)) n ?_ (fun i hi ih => ?_) 0 (Nat.zero_le _)
  · refine ev_round ?_
    simp only [mewslaw20_StrBack.l0]
    refine ev_neg (by omega) (ev_bind0 (append_is s t (by omega) (by omega)) ?_)
    have ea : appR s t = (s ++ t, 0) := by unfold appR; rw [if_pos (by omega)]
    rw [ea]
    have hsz2 : (s ++ t).size = s.size + t.size := by rw [ba_size, ba_append, List.length_append, ← ba_size, ← ba_size]
    have hget2 := get_ev (s ++ t) (by rw [hsz2]; omega) (s.size : Int) (-1) (by omega) (by decide)
    rw [ba_append, hn, getL_app] at hget2
    rw [← hn] at hget2
    refine ev_pos rfl (ev_bind hget2 (ev_pos ?_ (ev_bind alive_ev (ev_some rfl))))
    rw [ba_toList]
  · have e5 : Aside0 (wrap64 ((i : Int) + 1) = ((i + 1 : Nat) : Int)) := ⟨w_succ i (by omega)⟩
    have hiL : i < L.length := by omega
    have hiu : (i : Int) < ((⟨L.toArray⟩ : ByteArray).size : Int) := by rw [HU.out]; omega
    refine ev_round ?_
    simp only [mewslaw20_StrBack.l0]
    rw [w1.out, e5.out]
    have hi0 : 0 ≤ (i : Int) := Int.natCast_nonneg i
    refine ev_pos (by omega) (ev_ite (fun h1 => ev_pos hi0 (ev_ite (fun h2 => ev_pos hiu (ev_pos ?_ ih)) (fun h2 => ev_ite (fun h3 => ev_pos hiu (ev_pos ?_ ih)) (fun h3 => ih))))
      (fun h1 => ev_ite (fun h2 => ev_pos hi0 (ev_pos hiu (ev_pos ?_ ih))) (fun h2 => ev_ite (fun h3 => ev_pos hi0 (ev_pos hiu (ev_pos ?_ ih))) (fun h3 => ih))))
    · rw [hu i hiL, hs2 i (by omega), hval i hiL (by omega)]
    · rw [hu i hiL, hs2 i (by omega), hval i hiL (by omega)]
    · rw [hu i hiL, hval i hiL (by omega), hs3 i (by omega)]; rfl
    · rw [hu i hiL, hval i hiL (by omega), hs3 i (by omega)]; rfl
end Go.Proofs.Ytjinfomobjocfaa.Pure
