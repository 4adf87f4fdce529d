/- What the document's parts say of a plain pattern: no memory. -/
import Derived.Test.YtncdoanemfnjjaaGlParts
import Derived.Test.YtncdoanemfnjjaaPureGlobAlone
namespace Go.Proofs.Ytncdoanemfnjjaa.Gl
open Go.Proofs.Ytncdoanemfnjjaa.Pure
set_option linter.unusedVariables false
set_option linter.unusedSimpArgs false
/-- The bytes of a part, in order. -/
def bytesP (p : PV) : List UInt8 := ((List.range 256).filter p.2).map UInt8.ofNat
def plainK : List PV → Option (List UInt8)
  | [] => some []
  | p :: ps => if p.1 = 4 then (plainK ps).map (bytesP p ++ ·) else none
theorem filter_one (n b : Nat) (h : b < n) : (List.range n).filter (fun c => c == b) = [b] := by
  induction n with
  | zero => omega
  | succ n ih =>
    rw [List.range_succ, List.filter_append]
    by_cases hb : b = n
    · subst hb
      have : (List.range b).filter (fun c => c == b) = [] := by
        rw [List.filter_eq_nil_iff]
        intro c hc
        have := List.mem_range.1 hc
        simp; omega
      rw [this]; simp
    · rw [ih (by omega)]
      have : ¬ n = b := fun e => hb e.symm
      simp [this]
theorem bytes_one (k : Int) (b : UInt8) : bytesP (k, fun c => c == b.toNat) = [b] := by
  unfold bytesP
  show ((List.range 256).filter (fun c => c == b.toNat)).map UInt8.ofNat = [b]
  rw [filter_one 256 b.toNat (UInt8.toNat_lt b)]
  simp
theorem plainK_is : ∀ (n : Nat) (u : List UInt8), u.length ≤ n → plainK (partsL u) = plainL u := by
  intro n
  induction n with
  | zero =>
    intro u hu
    have : u = [] := List.length_eq_zero_iff.1 (by omega)
    subst this
    rw [partsL_nil]; rfl
  | succ n ih =>
    intro u hu
    match u with
    | [] => rw [partsL_nil]; rfl
    | [a] =>
      rw [partsL_cons]
      by_cases hs : sp a = true
      · by_cases h92 : a = 92
        · subst h92
          show plainK ((4, fun c => c == (92 : UInt8).toNat) :: partsL []) = _
          rw [partsL_nil]
          show (some []).map (bytesP _ ++ ·) = some [92]
          rw [bytes_one]; rfl
        · have h1 : plainL [a] = none := by rw [plainL, if_pos ⟨h92, hs⟩]
          rw [h1, plainK, if_neg]
          unfold sp at hs
          simp only [Bool.or_eq_true, decide_eq_true_eq] at hs
          rcases hs with ((h | h) | h) | h
          · subst h; decide
          · subst h; decide
          · subst h; unfold partOf; simp
          · exact absurd h h92
      · obtain ⟨h1, h2, h3, h4⟩ := sp_no hs
        have hp : partOf a [] = (4, fun c => c == a.toNat) := by unfold partOf; rw [if_neg h1, if_neg h2, if_neg h3, if_neg h4]
        have hr : restOf a [] = [] := by
          unfold restOf nextR
          rw [if_neg h1, oneP_plain hs]
        rw [hp, hr, partsL_nil, plainK, if_pos rfl, bytes_one]
        show some _ = plainL [a]
        rw [plainL, if_neg (fun e => hs e.2)]
        rfl
    | a :: d :: r =>
      rw [partsL_cons]
      by_cases h92 : a = 92
      · subst h92
        have hp : partOf 92 (d :: r) = (4, fun c => c == d.toNat) := rfl
        have hr : restOf 92 (d :: r) = r := rfl
        rw [hp, hr, plainK, if_pos rfl, bytes_one, ih r (by simp only [List.length_cons] at hu; omega), plainL, if_pos rfl]
        rfl
      by_cases hs : sp a = true
      · have h1 : plainL (a :: d :: r) = none := by rw [plainL, if_neg h92, if_pos hs]
        rw [h1, plainK, if_neg]
        unfold sp at hs
        simp only [Bool.or_eq_true, decide_eq_true_eq] at hs
        rcases hs with ((h | h) | h) | h
        · subst h; show ¬ ((1 : Int) = 4); decide
        · subst h; show ¬ ((2 : Int) = 4); decide
        · subst h; unfold partOf; simp
        · exact absurd h h92
      · obtain ⟨h1, h2, h3, h4⟩ := sp_no hs
        have hp : partOf a (d :: r) = (4, fun c => c == a.toNat) := by unfold partOf; rw [if_neg h1, if_neg h2, if_neg h3, if_neg h4]
        have hr : restOf a (d :: r) = d :: r := by
          unfold restOf nextR
          rw [if_neg h1, oneP_plain hs]
        rw [hp, hr, plainK, if_pos rfl, bytes_one, ih (d :: r) (by simp only [List.length_cons] at hu ⊢; omega), plainL, if_neg h92, if_neg hs]
        rfl
end Go.Proofs.Ytncdoanemfnjjaa.Gl
