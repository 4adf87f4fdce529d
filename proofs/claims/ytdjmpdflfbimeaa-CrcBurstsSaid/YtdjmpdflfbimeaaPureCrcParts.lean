/- For every list of texts: the sum of the parts is that of all of them, one behind the other, and what is sealed fits (CrcParts returns true); no condition beyond what the statement itself reads. -/
import Derived.Test.YtdjmpdflfbimeaaPureCrcSays
import Derived.Test.YtdjmpdflfbimeaaXDCrcParts
namespace Go.Proofs.Ytdjmpdflfbimeaa.Pure
open Go.RowKit Go.Proofs.YtdjmpdflfbimeaaW.PrintWords Go.Proofs.YtdjmpdflfbimeaaW.PrintMore Go.Proofs.Ytdjmpdflfbimeaa.Y Go.Proofs.Ytdjmpdflfbimeaa.X Go.Proofs.Ytdjmpdflfbimeaa.Crc
set_option linter.unusedVariables false

def cat (l : List ByteArray) : ByteArray := ⟨(flat l).toArray⟩
theorem cat_data (l : List ByteArray) : (cat l).data.toList = flat l := by simp [cat]
theorem flat_snoc (l : List ByteArray) (s : ByteArray) : flat (l ++ [s]) = flat l ++ s.data.toList := by simp [flat]
theorem cat_snoc (l : List ByteArray) (i : Nat) (h : i < l.length) : cat (l.take i) ++ l[i] = cat (l.take (i + 1)) := by
  refine ba_ext ?_
  rw [ba_append, cat_data, cat_data, List.take_succ_eq_append_getElem h, flat_snoc]
theorem cat_size (l : List ByteArray) (h : ∀ s ∈ l, s.size ≤ 2000) : (cat l).size ≤ 2000 * l.length := by
  rw [ba_size, cat_data]
  induction l with
  | nil => simp [flat]
  | cons s l ih =>
    have h1 := h s (by simp)
    have h2 := ih (fun x hx => h x (by simp [hx]))
    rw [ba_size] at h1
    simp only [flat, List.flatMap_cons, List.length_append, List.length_cons] at *
    omega
theorem sealB_length (l : List UInt8) : (sealB l).length = l.length + 4 := by simp [sealB, tail4]
theorem fits_seal (l : List UInt8) : fitsB ⟨(sealB l).toArray⟩ = true := by
  have hs : (⟨(sealB l).toArray⟩ : ByteArray).size = l.length + 4 := by rw [ba_size]; simpa using sealB_length l
  unfold fitsB
  rw [if_pos (by omega), hs, ba_extract]
  have e : (List.take (l.length + 4 - 4 - 0) (List.drop 0 (⟨(sealB l).toArray⟩ : ByteArray).data.toList)) = l := by
    simp [sealB]
  rw [e]
  exact beq_self_eq_true _
theorem CrcParts : mewslaw14_CrcParts.PureX := by
  intro l ⟨hl, hs⟩
  refine Ev.rounds (r := true) ?_
  unfold mewslaw14_CrcParts.f
  refine ev_bind (far_ev l (by omega)) ?_
  refine ev_ite (fun _ => ev_bind alive_ev (ev_some rfl)) (fun hfar => ?_)
  have h2 : ∀ s ∈ l, s.size ≤ 2000 := by
    intro s hm
    refine Nat.le_of_not_lt fun hlt => hfar ?_
    rw [Bool.or_eq_true]
    exact .inl (List.any_eq_true.2 ⟨s, hm, decide_eq_true hlt⟩)
  have h3 : l.length ≤ 20 := by
    refine Nat.le_of_not_lt fun hlt => hfar ?_
    rw [Bool.or_eq_true]
    exact .inr (decide_eq_true hlt)
  refine ev_up (g := fun k i => mewslaw14_CrcParts.l0 k l (cat (l.take i)) l (l.length : Int) (i : Int)) l.length ?_ (fun i hi h => ?_) 0 (by omega)
  · refine ev_round ?_
    simp only [mewslaw14_CrcParts.l0]
    rw [List.take_of_length_le (Nat.le_refl _)]
    have hc := cat_size l h2
    refine ev_neg (by omega) (ev_bind (impl_of l (by omega) (fun s hm => hs s hm)) ?_)
    have h1 := impl_of [cat l] (by simp) (by intro s hm; rw [List.mem_singleton.1 hm]; omega)
    rw [flat_one, cat_data] at h1
    refine ev_bind h1 (ev_pos rfl ?_)
    have h4 := impl_seal (cat l) (by omega)
    rw [cat_data] at h4
    refine ev_bind h4 ?_
    have h5 := impl_fits ⟨(sealB (flat l)).toArray⟩ (by
      rw [ba_size]
      have := sealB_length (flat l)
      rw [ba_size, cat_data] at hc
      simp only
      omega)
    rw [fits_seal] at h5
    exact ev_bind h5 (ev_pos rfl (ev_bind alive_ev (ev_some rfl)))
  · refine ev_round ?_
    simp only [mewslaw14_CrcParts.l0]
    refine ev_pos (by omega) (ev_pos (by omega) (ev_pos (by omega) ?_))
    rw [rdOf_nat _ l i hi]
    have hc := cat_size (l.take i) (fun s hm => h2 s (List.mem_of_mem_take hm))
    have hc1 := h2 _ (List.getElem_mem hi)
    have hc2 : (l.take i).length ≤ 20 := by rw [List.length_take]; omega
    refine ev_pos (by omega) ?_
    rw [cat_snoc l i hi, w64 (by omega) (by omega)]
    exact h
end Go.Proofs.Ytdjmpdflfbimeaa.Pure
