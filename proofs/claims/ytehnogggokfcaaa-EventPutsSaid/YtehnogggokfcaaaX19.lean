import Derived.Test.YtehnogggokfcaaaXA
import Derived.Test.YtehnogggokfcaaaX17
namespace Go.Proofs.Ytehnogggokfcaaa.X
open Go.RowKit Go.Proofs.YtehnogggokfcaaaW.PrintWords Go.Proofs.YtehnogggokfcaaaW.PrintLast Go.Proofs.YtehnogggokfcaaaW.PrintMore
attribute [local go_sem] max2_int min2_int max_two min_two max_three min_three max_four min_four   -- for this text's walks alone
set_option linter.unusedVariables false
set_option linter.unusedSimpArgs false

mutual
def mewsref04_Split.l0 : Nat → ByteArray → List ByteArray → Int → Bool → Bool → ByteArray → Int → Option (List ByteArray × Bool)
 | 0, _, _, _, _, _, _, _ => none
 | k + 1, x0, x4, x5, x6, x7, x8, x9 => if x9 < (x0.size : Int) then (if 0 ≤ x9 then (if (bt x0 x9) = 32 then (mewsref04_Split.j1 k x0 x4 x5 x6 x7 x8 x9 (bt x0 x9) true) else (mewsref04_Split.j1 k x0 x4 x5 x6 x7 x8 x9 (bt x0 x9) ((bt x0 x9) == 9))) else (none)) else (if x5 = 0 then (if x6 = true then (if x4.length < 8796093022208 then (some ((x4 ++ [x8]), true)) else (none)) else (some (x4, true))) else (some (([] : List ByteArray), false)))
def mewsref04_Split.j1 : Nat → ByteArray → List ByteArray → Int → Bool → Bool → ByteArray → Int → Int → Bool → Option (List ByteArray × Bool)
 | 0, _, _, _, _, _, _, _, _, _ => none
 | k + 1, x0, x4, x5, x6, x7, x8, x9, x10, x11 => if x7 = true then (mewsref04_Split.j2 k x0 x4 x5 x6 x8 x9 x10 x11 (!x11)) else (mewsref04_Split.j2 k x0 x4 x5 x6 x8 x9 x10 x11 false)
def mewsref04_Split.j2 : Nat → ByteArray → List ByteArray → Int → Bool → ByteArray → Int → Int → Bool → Bool → Option (List ByteArray × Bool)
 | 0, _, _, _, _, _, _, _, _, _ => none
 | k + 1, x0, x4, x5, x6, x8, x9, x10, x11, x31 => if x31 = true then (some (([] : List ByteArray), false)) else (if x5 = 0 then (mewsref04_Split.j3 k x0 x4 x5 x6 false x8 x9 x10 x11) else (mewsref04_Split.j3 k x0 x4 x5 x6 false x8 x9 x10 false))
def mewsref04_Split.j3 : Nat → ByteArray → List ByteArray → Int → Bool → Bool → ByteArray → Int → Int → Bool → Option (List ByteArray × Bool)
 | 0, _, _, _, _, _, _, _, _, _ => none
 | k + 1, x0, x4, x5, x6, x7, x8, x9, x10, x39 => if x39 = true then (if x6 = true then (if x4.length < 8796093022208 then (mewsref04_Split.l0 k x0 (x4 ++ [x8]) x5 false x7 (⟨#[]⟩ : ByteArray) (wrap64 (x9 + 1))) else (none)) else (mewsref04_Split.l0 k x0 x4 x5 false x7 (⟨#[]⟩ : ByteArray) (wrap64 (x9 + 1)))) else (if x5 = 0 then (if x10 = 34 then (mewsref04_Split.j4 k x0 x4 x5 x6 x7 x8 x9 x10 true) else (mewsref04_Split.j4 k x0 x4 x5 x6 x7 x8 x9 x10 (x10 == 39))) else (mewsref04_Split.j4 k x0 x4 x5 x6 x7 x8 x9 x10 false))
def mewsref04_Split.j4 : Nat → ByteArray → List ByteArray → Int → Bool → Bool → ByteArray → Int → Int → Bool → Option (List ByteArray × Bool)
 | 0, _, _, _, _, _, _, _, _, _ => none
 | k + 1, x0, x4, x5, x6, x7, x8, x9, x10, x50 => if x50 = true then (mewsref04_Split.l0 k x0 x4 x10 true x7 x8 (wrap64 (x9 + 1))) else (if x5 = 0 then (if 0 ≤ x9 then (if x9 ≤ (wrap64 (x9 + 1)) then (if (wrap64 (x9 + 1)) ≤ (x0.size : Int) then (if x8.size + (x0.extract (x9 : Int).toNat ((wrap64 (x9 + 1)) : Int).toNat).size ≤ 9223372036854775807 then (mewsref04_Split.l0 k x0 x4 x5 true x7 (x8 ++ (x0.extract (x9 : Int).toNat ((wrap64 (x9 + 1)) : Int).toNat)) (wrap64 (x9 + 1))) else (none)) else (none)) else (none)) else (none)) else (if x10 = x5 then (mewsref04_Split.l0 k x0 x4 0 x6 true x8 (wrap64 (x9 + 1))) else (if x10 = 92 then (if x5 = 34 then (if (wrap64 (x9 + 3)) < (x0.size : Int) then (if 0 ≤ (wrap64 (x9 + 1)) then (if (wrap64 (x9 + 1)) < (x0.size : Int) then (if (bt x0 (wrap64 (x9 + 1))) = 120 then (if 0 ≤ (wrap64 (x9 + 2)) then (if (wrap64 (x9 + 2)) < (x0.size : Int) then ((mewsref04_digit.f k (bt x0 (wrap64 (x9 + 2)))).bind fun t270 => (if t270 < 16 then (if 0 ≤ (wrap64 (x9 + 3)) then ((mewsref04_digit.f k (bt x0 (wrap64 (x9 + 3)))).bind fun t271 => (mewsref04_Split.j5 k x0 x4 x5 x6 x7 x8 x9 x10 (decide (t271 < 16)))) else (none)) else (mewsref04_Split.j5 k x0 x4 x5 x6 x7 x8 x9 x10 false))) else (none)) else (none)) else (mewsref04_Split.j5 k x0 x4 x5 x6 x7 x8 x9 x10 false)) else (none)) else (none)) else (mewsref04_Split.j5 k x0 x4 x5 x6 x7 x8 x9 x10 false)) else (mewsref04_Split.j5 k x0 x4 x5 x6 x7 x8 x9 x10 false)) else (mewsref04_Split.j5 k x0 x4 x5 x6 x7 x8 x9 x10 false))))
def mewsref04_Split.j5 : Nat → ByteArray → List ByteArray → Int → Bool → Bool → ByteArray → Int → Int → Bool → Option (List ByteArray × Bool)
 | 0, _, _, _, _, _, _, _, _, _ => none
 | k + 1, x0, x4, x5, x6, x7, x8, x9, x10, x76 => if x76 = true then (if 0 ≤ (wrap64 (x9 + 2)) then (if (wrap64 (x9 + 2)) < (x0.size : Int) then ((mewsref04_digit.f k (bt x0 (wrap64 (x9 + 2)))).bind fun t272 => (if 0 ≤ (wrap64 (x9 + 3)) then (if (wrap64 (x9 + 3)) < (x0.size : Int) then ((mewsref04_digit.f k (bt x0 (wrap64 (x9 + 3)))).bind fun t273 => ((some (([(wrap64 ((wrap64 (16 * t272)) + t273)) % 256] : List Int) : List Int)).bind fun y274 => (if x8.size + (strOfNums y274).size ≤ 9223372036854775807 then (mewsref04_Split.l0 k x0 x4 x5 x6 x7 (x8 ++ (strOfNums y274)) (wrap64 ((wrap64 (x9 + 3)) + 1))) else (none)))) else (none)) else (none))) else (none)) else (none)) else (if x10 = 92 then (if x5 = 34 then (mewsref04_Split.j6 k x0 x4 x5 x6 x7 x8 x9 x10 (decide ((wrap64 (x9 + 1)) < (x0.size : Int)))) else (mewsref04_Split.j6 k x0 x4 x5 x6 x7 x8 x9 x10 false)) else (mewsref04_Split.j6 k x0 x4 x5 x6 x7 x8 x9 x10 false))
def mewsref04_Split.j6 : Nat → ByteArray → List ByteArray → Int → Bool → Bool → ByteArray → Int → Int → Bool → Option (List ByteArray × Bool)
 | 0, _, _, _, _, _, _, _, _, _ => none
 | k + 1, x0, x4, x5, x6, x7, x8, x9, x10, x132 => if x132 = true then (if 0 ≤ (wrap64 (x9 + 1)) then (if (wrap64 (x9 + 1)) < (x0.size : Int) then ((mewsref04_turned.f k (bt x0 (wrap64 (x9 + 1)))).bind fun t277 => ((some (([t277] : List Int) : List Int)).bind fun y278 => (if x8.size + (strOfNums y278).size ≤ 9223372036854775807 then (mewsref04_Split.l0 k x0 x4 x5 x6 x7 (x8 ++ (strOfNums y278)) (wrap64 ((wrap64 (x9 + 1)) + 1))) else (none)))) else (none)) else (none)) else (if x10 = 92 then (if x5 = 39 then (if (wrap64 (x9 + 1)) < (x0.size : Int) then (if 0 ≤ (wrap64 (x9 + 1)) then (if (bt x0 (wrap64 (x9 + 1))) = 39 then (if x8.size + 1 ≤ 9223372036854775807 then (mewsref04_Split.l0 k x0 x4 x5 x6 x7 (x8 ++ (⟨#[39]⟩ : ByteArray)) (wrap64 ((wrap64 (x9 + 1)) + 1))) else (none)) else (if 0 ≤ x9 then (if x9 ≤ (wrap64 (x9 + 1)) then (if (wrap64 (x9 + 1)) ≤ (x0.size : Int) then (if x8.size + (x0.extract (x9 : Int).toNat ((wrap64 (x9 + 1)) : Int).toNat).size ≤ 9223372036854775807 then (mewsref04_Split.l0 k x0 x4 x5 x6 x7 (x8 ++ (x0.extract (x9 : Int).toNat ((wrap64 (x9 + 1)) : Int).toNat)) (wrap64 (x9 + 1))) else (none)) else (none)) else (none)) else (none))) else (none)) else (if 0 ≤ x9 then (if x9 ≤ (wrap64 (x9 + 1)) then (if (wrap64 (x9 + 1)) ≤ (x0.size : Int) then (if x8.size + (x0.extract (x9 : Int).toNat ((wrap64 (x9 + 1)) : Int).toNat).size ≤ 9223372036854775807 then (mewsref04_Split.l0 k x0 x4 x5 x6 x7 (x8 ++ (x0.extract (x9 : Int).toNat ((wrap64 (x9 + 1)) : Int).toNat)) (wrap64 (x9 + 1))) else (none)) else (none)) else (none)) else (none))) else (if 0 ≤ x9 then (if x9 ≤ (wrap64 (x9 + 1)) then (if (wrap64 (x9 + 1)) ≤ (x0.size : Int) then (if x8.size + (x0.extract (x9 : Int).toNat ((wrap64 (x9 + 1)) : Int).toNat).size ≤ 9223372036854775807 then (mewsref04_Split.l0 k x0 x4 x5 x6 x7 (x8 ++ (x0.extract (x9 : Int).toNat ((wrap64 (x9 + 1)) : Int).toNat)) (wrap64 (x9 + 1))) else (none)) else (none)) else (none)) else (none))) else (if 0 ≤ x9 then (if x9 ≤ (wrap64 (x9 + 1)) then (if (wrap64 (x9 + 1)) ≤ (x0.size : Int) then (if x8.size + (x0.extract (x9 : Int).toNat ((wrap64 (x9 + 1)) : Int).toNat).size ≤ 9223372036854775807 then (mewsref04_Split.l0 k x0 x4 x5 x6 x7 (x8 ++ (x0.extract (x9 : Int).toNat ((wrap64 (x9 + 1)) : Int).toNat)) (wrap64 (x9 + 1))) else (none)) else (none)) else (none)) else (none)))
end
def mewsref04_Split.f (k : Nat) (a0 : ByteArray) : Option (List ByteArray × Bool) := mewsref04_Split.l0 k a0 ([] : List ByteArray) 0 false false (⟨#[]⟩ : ByteArray) 0
theorem mewsref04_Split.mono_l : ∀ k, (∀ y0 y1 y2 y3 y4 y5 y6, LeO (mewsref04_Split.l0 k y0 y1 y2 y3 y4 y5 y6) (mewsref04_Split.l0 (k + 1) y0 y1 y2 y3 y4 y5 y6)) ∧ (∀ y0 y1 y2 y3 y4 y5 y6 y7 y8, LeO (mewsref04_Split.j1 k y0 y1 y2 y3 y4 y5 y6 y7 y8) (mewsref04_Split.j1 (k + 1) y0 y1 y2 y3 y4 y5 y6 y7 y8)) ∧ (∀ y0 y1 y2 y3 y4 y5 y6 y7 y8, LeO (mewsref04_Split.j2 k y0 y1 y2 y3 y4 y5 y6 y7 y8) (mewsref04_Split.j2 (k + 1) y0 y1 y2 y3 y4 y5 y6 y7 y8)) ∧ (∀ y0 y1 y2 y3 y4 y5 y6 y7 y8, LeO (mewsref04_Split.j3 k y0 y1 y2 y3 y4 y5 y6 y7 y8) (mewsref04_Split.j3 (k + 1) y0 y1 y2 y3 y4 y5 y6 y7 y8)) ∧ (∀ y0 y1 y2 y3 y4 y5 y6 y7 y8, LeO (mewsref04_Split.j4 k y0 y1 y2 y3 y4 y5 y6 y7 y8) (mewsref04_Split.j4 (k + 1) y0 y1 y2 y3 y4 y5 y6 y7 y8)) ∧ (∀ y0 y1 y2 y3 y4 y5 y6 y7 y8, LeO (mewsref04_Split.j5 k y0 y1 y2 y3 y4 y5 y6 y7 y8) (mewsref04_Split.j5 (k + 1) y0 y1 y2 y3 y4 y5 y6 y7 y8)) ∧ (∀ y0 y1 y2 y3 y4 y5 y6 y7 y8, LeO (mewsref04_Split.j6 k y0 y1 y2 y3 y4 y5 y6 y7 y8) (mewsref04_Split.j6 (k + 1) y0 y1 y2 y3 y4 y5 y6 y7 y8))
 | 0 => ⟨fun _ _ _ _ _ _ _ r h => by simp [mewsref04_Split.l0] at h, fun _ _ _ _ _ _ _ _ _ r h => by simp [mewsref04_Split.j1] at h, fun _ _ _ _ _ _ _ _ _ r h => by simp [mewsref04_Split.j2] at h, fun _ _ _ _ _ _ _ _ _ r h => by simp [mewsref04_Split.j3] at h, fun _ _ _ _ _ _ _ _ _ r h => by simp [mewsref04_Split.j4] at h, fun _ _ _ _ _ _ _ _ _ r h => by simp [mewsref04_Split.j5] at h, fun _ _ _ _ _ _ _ _ _ r h => by simp [mewsref04_Split.j6] at h⟩
 | k + 1 => by
  obtain ⟨ih0, ih1, ih2, ih3, ih4, ih5, ih6⟩ := mewsref04_Split.mono_l k
  refine ⟨?_, ?_, ?_, ?_, ?_, ?_, ?_⟩
  ·intro y0 y1 y2 y3 y4 y5 y6
   unfold mewsref04_Split.l0
   repeat' first
   | (with_reducible exact ih0 _ _ _ _ _ _ _)
   | (with_reducible exact ih1 _ _ _ _ _ _ _ _ _)
   | (with_reducible exact ih2 _ _ _ _ _ _ _ _ _)
   | (with_reducible exact ih3 _ _ _ _ _ _ _ _ _)
   | (with_reducible exact ih4 _ _ _ _ _ _ _ _ _)
   | (with_reducible exact ih5 _ _ _ _ _ _ _ _ _)
   | (with_reducible exact ih6 _ _ _ _ _ _ _ _ _)
   | (with_reducible exact mewsref04_digit.mono _ _)
   | (with_reducible exact mewsref04_turned.mono _ _)
   | (with_reducible exact LeO.refl _)
   | (with_reducible exact LeO.none _)
   | (with_reducible refine LeO.ite ?_ ?_)
   | (with_reducible refine LeO.bind ?_ (fun _ => ?_))
  ·intro y0 y1 y2 y3 y4 y5 y6 y7 y8
   unfold mewsref04_Split.j1
   repeat' first
   | (with_reducible exact ih0 _ _ _ _ _ _ _)
   | (with_reducible exact ih1 _ _ _ _ _ _ _ _ _)
   | (with_reducible exact ih2 _ _ _ _ _ _ _ _ _)
   | (with_reducible exact ih3 _ _ _ _ _ _ _ _ _)
   | (with_reducible exact ih4 _ _ _ _ _ _ _ _ _)
   | (with_reducible exact ih5 _ _ _ _ _ _ _ _ _)
   | (with_reducible exact ih6 _ _ _ _ _ _ _ _ _)
   | (with_reducible exact mewsref04_digit.mono _ _)
   | (with_reducible exact mewsref04_turned.mono _ _)
   | (with_reducible exact LeO.refl _)
   | (with_reducible exact LeO.none _)
   | (with_reducible refine LeO.ite ?_ ?_)
   | (with_reducible refine LeO.bind ?_ (fun _ => ?_))
  ·intro y0 y1 y2 y3 y4 y5 y6 y7 y8
   unfold mewsref04_Split.j2
   repeat' first
   | (with_reducible exact ih0 _ _ _ _ _ _ _)
   | (with_reducible exact ih1 _ _ _ _ _ _ _ _ _)
   | (with_reducible exact ih2 _ _ _ _ _ _ _ _ _)
   | (with_reducible exact ih3 _ _ _ _ _ _ _ _ _)
   | (with_reducible exact ih4 _ _ _ _ _ _ _ _ _)
   | (with_reducible exact ih5 _ _ _ _ _ _ _ _ _)
   | (with_reducible exact ih6 _ _ _ _ _ _ _ _ _)
   | (with_reducible exact mewsref04_digit.mono _ _)
   | (with_reducible exact mewsref04_turned.mono _ _)
   | (with_reducible exact LeO.refl _)
   | (with_reducible exact LeO.none _)
   | (with_reducible refine LeO.ite ?_ ?_)
   | (with_reducible refine LeO.bind ?_ (fun _ => ?_))
  ·intro y0 y1 y2 y3 y4 y5 y6 y7 y8
   unfold mewsref04_Split.j3
   repeat' first
   | (with_reducible exact ih0 _ _ _ _ _ _ _)
   | (with_reducible exact ih1 _ _ _ _ _ _ _ _ _)
   | (with_reducible exact ih2 _ _ _ _ _ _ _ _ _)
   | (with_reducible exact ih3 _ _ _ _ _ _ _ _ _)
   | (with_reducible exact ih4 _ _ _ _ _ _ _ _ _)
   | (with_reducible exact ih5 _ _ _ _ _ _ _ _ _)
   | (with_reducible exact ih6 _ _ _ _ _ _ _ _ _)
   | (with_reducible exact mewsref04_digit.mono _ _)
   | (with_reducible exact mewsref04_turned.mono _ _)
   | (with_reducible exact LeO.refl _)
   | (with_reducible exact LeO.none _)
   | (with_reducible refine LeO.ite ?_ ?_)
   | (with_reducible refine LeO.bind ?_ (fun _ => ?_))
  ·intro y0 y1 y2 y3 y4 y5 y6 y7 y8
   unfold mewsref04_Split.j4
   repeat' first
   | (with_reducible exact ih0 _ _ _ _ _ _ _)
   | (with_reducible exact ih1 _ _ _ _ _ _ _ _ _)
   | (with_reducible exact ih2 _ _ _ _ _ _ _ _ _)
   | (with_reducible exact ih3 _ _ _ _ _ _ _ _ _)
   | (with_reducible exact ih4 _ _ _ _ _ _ _ _ _)
   | (with_reducible exact ih5 _ _ _ _ _ _ _ _ _)
   | (with_reducible exact ih6 _ _ _ _ _ _ _ _ _)
   | (with_reducible exact mewsref04_digit.mono _ _)
   | (with_reducible exact mewsref04_turned.mono _ _)
   | (with_reducible exact LeO.refl _)
   | (with_reducible exact LeO.none _)
   | (with_reducible refine LeO.ite ?_ ?_)
   | (with_reducible refine LeO.bind ?_ (fun _ => ?_))
  ·intro y0 y1 y2 y3 y4 y5 y6 y7 y8
   unfold mewsref04_Split.j5
   repeat' first
   | (with_reducible exact ih0 _ _ _ _ _ _ _)
   | (with_reducible exact ih1 _ _ _ _ _ _ _ _ _)
   | (with_reducible exact ih2 _ _ _ _ _ _ _ _ _)
   | (with_reducible exact ih3 _ _ _ _ _ _ _ _ _)
   | (with_reducible exact ih4 _ _ _ _ _ _ _ _ _)
   | (with_reducible exact ih5 _ _ _ _ _ _ _ _ _)
   | (with_reducible exact ih6 _ _ _ _ _ _ _ _ _)
   | (with_reducible exact mewsref04_digit.mono _ _)
   | (with_reducible exact mewsref04_turned.mono _ _)
   | (with_reducible exact LeO.refl _)
   | (with_reducible exact LeO.none _)
   | (with_reducible refine LeO.ite ?_ ?_)
   | (with_reducible refine LeO.bind ?_ (fun _ => ?_))
  ·intro y0 y1 y2 y3 y4 y5 y6 y7 y8
   unfold mewsref04_Split.j6
   repeat' first
   | (with_reducible exact ih0 _ _ _ _ _ _ _)
   | (with_reducible exact ih1 _ _ _ _ _ _ _ _ _)
   | (with_reducible exact ih2 _ _ _ _ _ _ _ _ _)
   | (with_reducible exact ih3 _ _ _ _ _ _ _ _ _)
   | (with_reducible exact ih4 _ _ _ _ _ _ _ _ _)
   | (with_reducible exact ih5 _ _ _ _ _ _ _ _ _)
   | (with_reducible exact ih6 _ _ _ _ _ _ _ _ _)
   | (with_reducible exact mewsref04_digit.mono _ _)
   | (with_reducible exact mewsref04_turned.mono _ _)
   | (with_reducible exact LeO.refl _)
   | (with_reducible exact LeO.none _)
   | (with_reducible refine LeO.ite ?_ ?_)
   | (with_reducible refine LeO.bind ?_ (fun _ => ?_))
theorem mewsref04_Split.mono : ∀ a0 k, LeO (mewsref04_Split.f k a0) (mewsref04_Split.f (k + 1) a0) := by
 intro a0 k
 obtain ⟨ih0, ih1, ih2, ih3, ih4, ih5, ih6⟩ := mewsref04_Split.mono_l k
 unfold mewsref04_Split.f
 repeat' first
   | (with_reducible exact ih0 _ _ _ _ _ _ _)
   | (with_reducible exact ih1 _ _ _ _ _ _ _ _ _)
   | (with_reducible exact ih2 _ _ _ _ _ _ _ _ _)
   | (with_reducible exact ih3 _ _ _ _ _ _ _ _ _)
   | (with_reducible exact ih4 _ _ _ _ _ _ _ _ _)
   | (with_reducible exact ih5 _ _ _ _ _ _ _ _ _)
   | (with_reducible exact ih6 _ _ _ _ _ _ _ _ _)
   | (with_reducible exact mewsref04_digit.mono _ _)
   | (with_reducible exact mewsref04_turned.mono _ _)
   | (with_reducible exact LeO.refl _)
   | (with_reducible exact LeO.none _)
   | (with_reducible refine LeO.ite ?_ ?_)
   | (with_reducible refine LeO.bind ?_ (fun _ => ?_))
def mewsref04_Split.T26 : Bool × List (List Nat × List Nat) := (true, [([], []), ([], []), ([], []), ([2], [2]), ([1, 3], [1, 3]), ([4], [4]), ([5], [5]), ([], []), ([], []), ([8], [8]), ([7, 9], [7, 9]), ([10, 5], [10]), ([6, 11], [6, 11]), ([12], [12]), ([13], [13]), ([14], [14]), ([0, 15], [0, 15]), ([16, 11, 0, 1, 2, 3, 4, 5, 6, 7, 8, 9, 10, 11, 12, 13, 14, 15, 16], [0, 16])])
def mewsref04_Split.B26 : List Nat := [0, 0, 0, 4, 14, 30, 62, 0, 0, 256, 896, 1982, 4094, 8190, 16382, 32766, 65535, 131071]
theorem mewsref04_Split.tab26 : rtab .any (opsOf Try.f30 26) = mewsref04_Split.T26 := by kernel_rfl
theorem mewsref04_Split.bits26 : waitsOk mewsref04_Split.T26.2 mewsref04_Split.B26 = true := by kernel_rfl
set_option maxHeartbeats 8000000 in
set_option maxRecDepth 100000 in
theorem mewsref04_Split.calls (k : Nat) (a0 : ByteArray) (r1 : List ByteArray) (r2 : Bool) (w : World) (h : mewsref04_Split.f k a0 = some (r1, r2)) :
  Calls Try.prog 30 #[.string a0] w fun e w' => ∃ v0_ : Value, e = .returned (.tuple #[v0_, .bool r2]) ∧ Kd.R Kd.string 9 w' w.heap.size (fun _ => True) v0_ r1 ∧ Below w.heap.size w w' := by
 have HB := Aside0.mk (Below.refl w.heap.size w)
 have H : (mewsref04_Split.l0 k a0 ([] : List ByteArray) 0 false false (⟨#[]⟩ : ByteArray) 0) = some (r1, r2) := h
 clear h
 have H' := Aside0.mk H
 clear H
 go_enter Try.func30, Try.ntmps30
 go_wp2
 go_loopg [4, 5, 6, 7, 8, 9] k (fun kq v4 v5 v6 v7 v8 v9 w' => ∃ (x4_1 : List ByteArray) (x5_1 : Int) (x6_1 : Bool) (x7_1 : Bool) (x8_1 : ByteArray) (x9_1 : Int), v5 = .int .u8 x5_1 ∧ v6 = .bool x6_1 ∧ v7 = .bool x7_1 ∧ v8 = .string x8_1 ∧ v9 = .int .i64 x9_1 ∧ Aside0 (mewsref04_Split.l0 kq a0 x4_1 x5_1 x6_1 x7_1 x8_1 x9_1 = some (r1, r2)) ∧ Aside0 (kq ≤ k) ∧ Aside0 (Kd.R Kd.string 9 w' w.heap.size (fun _ => True) v4 x4_1) ∧ Aside0 (Below w.heap.size w w'))
 case atStart => exact ⟨(([] : List ByteArray)), (0), (false), (false), ((⟨#[]⟩ : ByteArray)), (0), (by first | rfl | (simp; done) | (simp [*]; done)), (by first | rfl | (simp; done) | (simp [*]; done)), (by first | rfl | (simp; done) | (simp [*]; done)), (by first | rfl | (simp; done) | (simp [*]; done)), (by first | rfl | (simp; done) | (simp [*]; done)), H', ⟨Nat.le_refl _⟩, ⟨by first | exact Kd.R_nil _ _ _ _ _ | exact Kd.N_nil _ _ _ _ _ | exact Kd.V_nil _ _ _ _ _ | exact Kd.Q_nil _ _ _ _ _ | exact Kd.S_nil _ _ _ _ _⟩, ⟨by repeat (first | (with_reducible first | exact HB.out | apply below_alloc | apply pw_below_drewN | apply below_drew1) | exact HB.out)⟩⟩
 case round =>
  clear H'
  obtain ⟨x4_1, x5_1, x6_1, x7_1, x8_1, x9_1, rfl, rfl, rfl, rfl, rfl, HA, HK1, HO_4, HB⟩ := hrel
  cases gk with
  | zero => exact absurd HA.out (by simp [mewsref04_Split.l0])
  | succ k1 =>
   have H := HA.out
   clear HA
   simp only [mewsref04_Split.l0] at H
   by_cases c2 : x9_1 < (a0.size : Int)
   ·rw [if_pos c2] at H
    have c2b0 : decide (x9_1 < (a0.size : Int)) = true := decide_eq_true c2
    clear c2
    by_cases c3 : 0 ≤ x9_1
    ·rw [if_pos c3] at H
     have c3b0 : decide (0 ≤ x9_1) = true := decide_eq_true c3
     clear c3
     have HC5 := Aside0.mk H
     clear H
     have p4 : 0 ≤ (x9_1 : Int) := of_decide_eq_true (by first | (with_reducible assumption) | assumption)
     have q4 : x9_1 < (a0.size : Int) := of_decide_eq_true (by first | (with_reducible assumption) | assumption)
     have hx4 := bt_at a0 x9_1
     replace p4 := eq_true p4
     replace q4 := eq_true q4
     go_upto_region 9 with (fail)
     go_cut [11] (fun v11 wc => ∃ (kq : Nat) (x11_4 : Bool), v11 = .bool x11_4 ∧ Aside0 (mewsref04_Split.j1 kq a0 x4_1 x5_1 x6_1 x7_1 x8_1 x9_1 (bt a0 x9_1) x11_4 = some (r1, r2)) ∧ Aside0 (kq ≤ k1) ∧ Aside0 (Kd.R Kd.string 9 wc w.heap.size (fun _ => True) u4 x4_1) ∧ Aside0 (Below w.heap.size w wc))
     case first =>
      have H := HC5.out
      clear HC5
      by_cases c6 : (bt a0 x9_1) = 32
      ·rw [if_pos c6] at H
       have c6b0 : ((bt a0 x9_1) == 32) = true := beq_iff_eq.mpr c6
       have c6b1 : ((bt a0 x9_1) != 32) = false := bne_eq_false_iff_eq.mpr c6
       clear c6
       (first | rw [c6b0] | (simp only [i64_w, i32_w]; rw [c6b0]) | skip)
       have H' := Aside0.mk H
       clear H
       go_wp2
       go_meet
       case rel => exact ⟨_, (true), (by first | rfl | (simp; done) | (simp [*]; done)), H', ⟨by have := HK1.out; first | omega | exact Nat.le_refl _⟩, ⟨by (with_reducible repeat (first | apply Kd.R_alloc | apply Kd.R_drewN | apply Kd.R_drew)); exact HO_4.out⟩, ⟨by repeat (first | (with_reducible first | exact HB.out | apply below_alloc | apply pw_below_drewN | apply below_drew1) | exact HB.out)⟩⟩
      ·rw [if_neg c6] at H
       have c6b0 : ((bt a0 x9_1) == 32) = false := beq_eq_false_iff_ne.mpr c6
       have c6b1 : ((bt a0 x9_1) != 32) = true := bne_iff_ne.mpr c6
       (first | rw [c6b0] | (simp only [i64_w, i32_w]; rw [c6b0]) | skip)
       have H' := Aside0.mk H
       clear H
       go_wp2
       go_meet
       case rel => exact ⟨_, (((bt a0 x9_1) == 9)), (by first | rfl | (simp; done) | (simp [*]; done)), H', ⟨by have := HK1.out; first | omega | exact Nat.le_refl _⟩, ⟨by (with_reducible repeat (first | apply Kd.R_alloc | apply Kd.R_drewN | apply Kd.R_drew)); exact HO_4.out⟩, ⟨by repeat (first | (with_reducible first | exact HB.out | apply below_alloc | apply pw_below_drewN | apply below_drew1) | exact HB.out)⟩⟩
     case rest => as_aux_lemma =>
      clear HC5
      try clear c2
      try clear c2b0
      try clear p2
      try clear c3
      try clear c3b0
      try clear p4
      try clear q4
      try clear hx4
      try clear c6
      try clear c6b0
      try clear c6b1
      try clear p4
      try clear q4
      obtain ⟨kq, x11_4, rfl, HA, HJ4, HO_4, HB⟩ := hcut
      cases kq with
      | zero => exact absurd HA.out (by simp [mewsref04_Split.j1])
      | succ kj4 =>
       have H := HA.out
       clear HA
       simp only [mewsref04_Split.j1] at H
       have HC7 := Aside0.mk H
       clear H
       go_upto_region 10 with (fail)
       go_cut [31] (fun v31 wc => ∃ (kq : Nat) (x31_6 : Bool), v31 = .bool x31_6 ∧ Aside0 (mewsref04_Split.j2 kq a0 x4_1 x5_1 x6_1 x8_1 x9_1 (bt a0 x9_1) x11_4 x31_6 = some (r1, r2)) ∧ Aside0 (kq ≤ kj4) ∧ Aside0 (Kd.R Kd.string 9 wc w.heap.size (fun _ => True) u4 x4_1) ∧ Aside0 (Below w.heap.size w wc))
       case first =>
        have H := HC7.out
        clear HC7
        by_cases c8 : x7_1 = true
        ·subst c8
         rw [if_pos rfl] at H
         have H' := Aside0.mk H
         clear H
         go_wp2
         go_meet
         case rel => exact ⟨_, (!x11_4), (by first | rfl | (simp; done) | (simp [*]; done)), H', ⟨by have := HK1.out; have := HJ4.out; first | omega | exact Nat.le_refl _⟩, ⟨by (with_reducible repeat (first | apply Kd.R_alloc | apply Kd.R_drewN | apply Kd.R_drew)); exact HO_4.out⟩, ⟨by repeat (first | (with_reducible first | exact HB.out | apply below_alloc | apply pw_below_drewN | apply below_drew1) | exact HB.out)⟩⟩
        ·replace c8 := Bool.eq_false_iff.mpr c8
         subst c8
         rw [if_neg (show ¬ (false = true) by decide)] at H
         have H' := Aside0.mk H
         clear H
         go_wp2
         go_meet
         case rel => exact ⟨_, (false), (by first | rfl | (simp; done) | (simp [*]; done)), H', ⟨by have := HK1.out; have := HJ4.out; first | omega | exact Nat.le_refl _⟩, ⟨by (with_reducible repeat (first | apply Kd.R_alloc | apply Kd.R_drewN | apply Kd.R_drew)); exact HO_4.out⟩, ⟨by repeat (first | (with_reducible first | exact HB.out | apply below_alloc | apply pw_below_drewN | apply below_drew1) | exact HB.out)⟩⟩
       case rest => as_aux_lemma =>
        clear HC7
        try clear c2
        try clear c2b0
        try clear p2
        try clear c3
        try clear c3b0
        try clear p4
        try clear q4
        try clear hx4
        try clear c6
        try clear c6b0
        try clear c6b1
        try clear c8
        try clear p2
        try clear p4
        try clear q4
        obtain ⟨kq, x31_6, rfl, HA, HJ6, HO_4, HB⟩ := hcut
        cases kq with
        | zero => exact absurd HA.out (by simp [mewsref04_Split.j2])
        | succ kj6 =>
         have H := HA.out
         clear HA
         simp only [mewsref04_Split.j2] at H
         by_cases c9 : x31_6 = true
         ·subst c9
          rw [if_pos rfl] at H
          simp only [Option.some.injEq, Prod.mk.injEq] at H
          obtain ⟨rfl, rfl⟩ := H
          go_wp2
          go_ret2
          exact ⟨_, by first | rfl | (simp [errW_none, errW_some] <;> rfl) | (simp [*, errW_none, errW_some] <;> rfl), by first | exact Kd.R_nil _ _ _ _ _ | exact Kd.N_nil _ _ _ _ _ | exact Kd.V_nil _ _ _ _ _ | exact Kd.Q_nil _ _ _ _ _ | exact Kd.S_nil _ _ _ _ _, by repeat (first | (with_reducible first | exact HB.out | apply below_alloc | apply pw_below_drewN | apply below_drew1) | exact HB.out)⟩
         ·replace c9 := Bool.eq_false_iff.mpr c9
          subst c9
          rw [if_neg (show ¬ (false = true) by decide)] at H
          have HC10 := Aside0.mk H
          clear H
          go_upto_region 14 with (fail)
          go_cut [39] (fun v39 wc => ∃ (kq : Nat) (x39_9 : Bool), v39 = .bool x39_9 ∧ Aside0 (mewsref04_Split.j3 kq a0 x4_1 x5_1 x6_1 false x8_1 x9_1 (bt a0 x9_1) x39_9 = some (r1, r2)) ∧ Aside0 (kq ≤ kj6) ∧ Aside0 (Kd.R Kd.string 9 wc w.heap.size (fun _ => True) u4 x4_1) ∧ Aside0 (Below w.heap.size w wc))
          case first =>
           have H := HC10.out
           clear HC10
           by_cases c11 : x5_1 = 0
           ·rw [if_pos c11] at H
            have c11b0 : (x5_1 == 0) = true := beq_iff_eq.mpr c11
            have c11b1 : (x5_1 != 0) = false := bne_eq_false_iff_eq.mpr c11
            clear c11
            (first | rw [c11b0] | (simp only [i64_w, i32_w]; rw [c11b0]) | skip)
            have H' := Aside0.mk H
            clear H
            go_wp2
            go_meet
            case rel => exact ⟨_, (x11_4), (by first | rfl | (simp; done) | (simp [*]; done)), H', ⟨by have := HK1.out; have := HJ4.out; have := HJ6.out; first | omega | exact Nat.le_refl _⟩, ⟨by (with_reducible repeat (first | apply Kd.R_alloc | apply Kd.R_drewN | apply Kd.R_drew)); exact HO_4.out⟩, ⟨by repeat (first | (with_reducible first | exact HB.out | apply below_alloc | apply pw_below_drewN | apply below_drew1) | exact HB.out)⟩⟩
           ·rw [if_neg c11] at H
            have c11b0 : (x5_1 == 0) = false := beq_eq_false_iff_ne.mpr c11
            have c11b1 : (x5_1 != 0) = true := bne_iff_ne.mpr c11
            (first | rw [c11b0] | (simp only [i64_w, i32_w]; rw [c11b0]) | skip)
            have H' := Aside0.mk H
            clear H
            go_wp2
            go_meet
            case rel => exact ⟨_, (false), (by first | rfl | (simp; done) | (simp [*]; done)), H', ⟨by have := HK1.out; have := HJ4.out; have := HJ6.out; first | omega | exact Nat.le_refl _⟩, ⟨by (with_reducible repeat (first | apply Kd.R_alloc | apply Kd.R_drewN | apply Kd.R_drew)); exact HO_4.out⟩, ⟨by repeat (first | (with_reducible first | exact HB.out | apply below_alloc | apply pw_below_drewN | apply below_drew1) | exact HB.out)⟩⟩
          case rest => as_aux_lemma =>
           clear HC10
           try clear c1
           try clear c2
           try clear c2b0
           try clear p2
           try clear c3
           try clear c3b0
           try clear p4
           try clear q4
           try clear hx4
           try clear c6
           try clear c6b0
           try clear c6b1
           try clear c8
           try clear c9
           try clear c11
           try clear c11b0
           try clear c11b1
           try clear p2
           try clear p4
           try clear q4
           obtain ⟨kq, x39_9, rfl, HA, HJ9, HO_4, HB⟩ := hcut
           cases kq with
           | zero => exact absurd HA.out (by simp [mewsref04_Split.j3])
           | succ kj9 =>
            have H := HA.out
            clear HA
            simp only [mewsref04_Split.j3] at H
            by_cases c12 : x39_9 = true
            ·subst c12
             rw [if_pos rfl] at H
             by_cases c13 : x6_1 = true
             ·subst c13
              rw [if_pos rfl] at H
              by_cases c14 : x4_1.length < 8796093022208
              ·rw [if_pos c14] at H
               have LMc14 := Aside0.mk c14
               clear c14
               obtain ⟨y267, hy267⟩ : ∃ y_ : List ByteArray, y_ = (x4_1 ++ [x8_1]) := ⟨_, rfl⟩
               replace H : (mewsref04_Split.l0 kj9 a0 y267 x5_1 false false (⟨#[]⟩ : ByteArray) (wrap64 (x9_1 + 1))) = some (r1, r2) := by first | (rw [hy267]; with_reducible exact H) | (have H2_ := (Option.bind_some _ _).symm.trans H; rw [hy267]; with_reducible exact H2_) | (have H2_ := (Option.bind_some _ _).symm.trans H; with_reducible exact H2_) | with_reducible exact H | (rw [hy267]; exact H) | exact H
               have Ny267 := Aside0.mk hy267
               clear hy267
               have H' := Aside0.mk H
               clear H
               go_wp2_with (first | ((with_reducible refine gate_builtin (b := .append) (xs := #[.tmp 46, .tmp 48]) rfl ?_); (try (refine gate_guard (by rfl) ?_; dsimp only)); at_builtin; refine Kd.R_append Kd.string (w0 := w) w.heap.size rfl (.tmp 46) (.tmp 48) 45 9 (.string ⟨#[]⟩) 16 rfl Try.underlying45 info9 rfl (by decide) (by omega) u4 x4_1 x8_1 [.string x8_1] (fun _ => True) (fun _ => False) rfl rfl ?aP (fun _ hk => hk.elim) ?aF ?aO ?aB ?aS ?aL ?_; (case aP => exact rfl); (case aB => exact (by repeat (first | (with_reducible first | exact HB.out | apply below_alloc | apply pw_below_drewN | apply below_drew1) | exact HB.out))); (case aF => exact (fun _ _ => trivial)); (case aO => exact (by (with_reducible repeat (first | apply Kd.R_alloc | apply Kd.R_drewN | apply Kd.R_drew)); exact HO_4.out)); (case aS => exact (below_size (by repeat (first | (with_reducible first | exact HB.out | apply below_alloc | apply pw_below_drewN | apply below_drew1) | exact HB.out)))); (case aL => have := LMc14.out; omega); intro v268 w15 ho hb hg hat; rw [← Ny267.out] at ho; have n0_ := Aside0.mk (hb); have n1_ := Aside0.mk (ho); clear HB; clear HO_4; have HB := n0_; have HO269 := n1_; clear n0_ n1_; clear ho hb hg hat))
               go_roundg kj9
               case measure => have := HK1.out; have := HJ4.out; have := HJ6.out; have := HJ9.out; omega
               case rel => exact ⟨(y267), (x5_1), (false), (false), ((⟨#[]⟩ : ByteArray)), (wrap64 (x9_1 + 1)), (by first | rfl | (simp; done) | (simp [*]; done)), (by first | rfl | (simp; done) | (simp [*]; done)), (by first | rfl | (simp; done) | (simp [*]; done)), (by first | rfl | (simp; done) | (simp [*]; done)), (by first | rfl | (simp; done) | (simp [*]; done)), H', ⟨by have := HK1.out; have := HJ4.out; have := HJ6.out; have := HJ9.out; omega⟩, ⟨by (with_reducible repeat (first | apply Kd.R_alloc | apply Kd.R_drewN | apply Kd.R_drew)); exact HO269.out⟩, ⟨by repeat (first | (with_reducible first | exact HB.out | apply below_alloc | apply pw_below_drewN | apply below_drew1) | exact HB.out)⟩⟩
              ·rw [if_neg c14] at H
               exact absurd H (by simp)
             ·replace c13 := Bool.eq_false_iff.mpr c13
              subst c13
              rw [if_neg (show ¬ (false = true) by decide)] at H
              have H' := Aside0.mk H
              clear H
              go_wp2
              go_roundg kj9
              case measure => have := HK1.out; have := HJ4.out; have := HJ6.out; have := HJ9.out; omega
              case rel => exact ⟨(x4_1), (x5_1), (false), (false), ((⟨#[]⟩ : ByteArray)), (wrap64 (x9_1 + 1)), (by first | rfl | (simp; done) | (simp [*]; done)), (by first | rfl | (simp; done) | (simp [*]; done)), (by first | rfl | (simp; done) | (simp [*]; done)), (by first | rfl | (simp; done) | (simp [*]; done)), (by first | rfl | (simp; done) | (simp [*]; done)), H', ⟨by have := HK1.out; have := HJ4.out; have := HJ6.out; have := HJ9.out; omega⟩, ⟨by (with_reducible repeat (first | apply Kd.R_alloc | apply Kd.R_drewN | apply Kd.R_drew)); exact HO_4.out⟩, ⟨by repeat (first | (with_reducible first | exact HB.out | apply below_alloc | apply pw_below_drewN | apply below_drew1) | exact HB.out)⟩⟩
            ·replace c12 := Bool.eq_false_iff.mpr c12
             subst c12
             rw [if_neg (show ¬ (false = true) by decide)] at H
             have HC16 := Aside0.mk H
             clear H
             go_upto_region 18 with (fail)
             go_cut [50] (fun v50 wc => ∃ (kq : Nat) (x50_15 : Bool), v50 = .bool x50_15 ∧ Aside0 (mewsref04_Split.j4 kq a0 x4_1 x5_1 x6_1 false x8_1 x9_1 (bt a0 x9_1) x50_15 = some (r1, r2)) ∧ Aside0 (kq ≤ kj9) ∧ Aside0 (Kd.R Kd.string 9 wc w.heap.size (fun _ => True) u4 x4_1) ∧ Aside0 (Below w.heap.size w wc))
             case first =>
              have H := HC16.out
              clear HC16
              by_cases c17 : x5_1 = 0
              ·rw [if_pos c17] at H
               have c17b0 : (x5_1 == 0) = true := beq_iff_eq.mpr c17
               have c17b1 : (x5_1 != 0) = false := bne_eq_false_iff_eq.mpr c17
               clear c17
               (first | rw [c17b0] | (simp only [i64_w, i32_w]; rw [c17b0]) | skip)
               by_cases c18 : (bt a0 x9_1) = 34
               ·rw [if_pos c18] at H
                have c18b0 : ((bt a0 x9_1) == 34) = true := beq_iff_eq.mpr c18
                have c18b1 : ((bt a0 x9_1) != 34) = false := bne_eq_false_iff_eq.mpr c18
                clear c18
                have H' := Aside0.mk H
                clear H
                go_wp2
                go_meet
                case rel => exact ⟨_, (true), (by first | rfl | (simp; done) | (simp [*]; done)), H', ⟨by have := HK1.out; have := HJ4.out; have := HJ6.out; have := HJ9.out; first | omega | exact Nat.le_refl _⟩, ⟨by (with_reducible repeat (first | apply Kd.R_alloc | apply Kd.R_drewN | apply Kd.R_drew)); exact HO_4.out⟩, ⟨by repeat (first | (with_reducible first | exact HB.out | apply below_alloc | apply pw_below_drewN | apply below_drew1) | exact HB.out)⟩⟩
               ·rw [if_neg c18] at H
                have c18b0 : ((bt a0 x9_1) == 34) = false := beq_eq_false_iff_ne.mpr c18
                have c18b1 : ((bt a0 x9_1) != 34) = true := bne_iff_ne.mpr c18
                have H' := Aside0.mk H
                clear H
                go_wp2
                go_meet
                case rel => exact ⟨_, (((bt a0 x9_1) == 39)), (by first | rfl | (simp; done) | (simp [*]; done)), H', ⟨by have := HK1.out; have := HJ4.out; have := HJ6.out; have := HJ9.out; first | omega | exact Nat.le_refl _⟩, ⟨by (with_reducible repeat (first | apply Kd.R_alloc | apply Kd.R_drewN | apply Kd.R_drew)); exact HO_4.out⟩, ⟨by repeat (first | (with_reducible first | exact HB.out | apply below_alloc | apply pw_below_drewN | apply below_drew1) | exact HB.out)⟩⟩
              ·rw [if_neg c17] at H
               have c17b0 : (x5_1 == 0) = false := beq_eq_false_iff_ne.mpr c17
               have c17b1 : (x5_1 != 0) = true := bne_iff_ne.mpr c17
               (first | rw [c17b0] | (simp only [i64_w, i32_w]; rw [c17b0]) | skip)
               have H' := Aside0.mk H
               clear H
               go_wp2
               go_meet
               case rel => exact ⟨_, (false), (by first | rfl | (simp; done) | (simp [*]; done)), H', ⟨by have := HK1.out; have := HJ4.out; have := HJ6.out; have := HJ9.out; first | omega | exact Nat.le_refl _⟩, ⟨by (with_reducible repeat (first | apply Kd.R_alloc | apply Kd.R_drewN | apply Kd.R_drew)); exact HO_4.out⟩, ⟨by repeat (first | (with_reducible first | exact HB.out | apply below_alloc | apply pw_below_drewN | apply below_drew1) | exact HB.out)⟩⟩
             case rest => as_aux_lemma =>
              clear HC16
              try clear c1
              try clear c2
              try clear c2b0
              try clear p2
              try clear c3
              try clear c3b0
              try clear p4
              try clear q4
              try clear hx4
              try clear c6
              try clear c6b0
              try clear c6b1
              try clear p6
              try clear c8
              try clear c9
              try clear c11
              try clear c11b0
              try clear c11b1
              try clear c12
              try clear c13
              try clear c14
              try clear c17
              try clear c17b0
              try clear c17b1
              try clear c18
              try clear c18b0
              try clear c18b1
              try clear p2
              try clear p4
              try clear q4
              obtain ⟨kq, x50_15, rfl, HA, HJ15, HO_4, HB⟩ := hcut
              cases kq with
              | zero => exact absurd HA.out (by simp [mewsref04_Split.j4])
              | succ kj15 =>
               have H := HA.out
               clear HA
               simp only [mewsref04_Split.j4] at H
               by_cases c19 : x50_15 = true
               ·subst c19
                rw [if_pos rfl] at H
                have H' := Aside0.mk H
                clear H
                go_wp2
                go_roundg kj15
                case measure => have := HK1.out; have := HJ4.out; have := HJ6.out; have := HJ9.out; have := HJ15.out; omega
                case rel => exact ⟨(x4_1), ((bt a0 x9_1)), (true), (false), (x8_1), (wrap64 (x9_1 + 1)), (by first | rfl | (simp; done) | (simp [*]; done)), (by first | rfl | (simp; done) | (simp [*]; done)), (by first | rfl | (simp; done) | (simp [*]; done)), (by first | rfl | (simp; done) | (simp [*]; done)), (by first | rfl | (simp; done) | (simp [*]; done)), H', ⟨by have := HK1.out; have := HJ4.out; have := HJ6.out; have := HJ9.out; have := HJ15.out; omega⟩, ⟨by (with_reducible repeat (first | apply Kd.R_alloc | apply Kd.R_drewN | apply Kd.R_drew)); exact HO_4.out⟩, ⟨by repeat (first | (with_reducible first | exact HB.out | apply below_alloc | apply pw_below_drewN | apply below_drew1) | exact HB.out)⟩⟩
               ·replace c19 := Bool.eq_false_iff.mpr c19
                subst c19
                rw [if_neg (show ¬ (false = true) by decide)] at H
                by_cases c20 : x5_1 = 0
                ·rw [if_pos c20] at H
                 have c20b0 : (x5_1 == 0) = true := beq_iff_eq.mpr c20
                 have c20b1 : (x5_1 != 0) = false := bne_eq_false_iff_eq.mpr c20
                 clear c20
                 by_cases c21 : 0 ≤ x9_1
                 ·rw [if_pos c21] at H
                  have c21b0 := eq_true c21
                  have c21b1 : decide (0 ≤ x9_1) = true := decide_eq_true c21
                  clear c21
                  by_cases c22 : x9_1 ≤ (wrap64 (x9_1 + 1))
                  ·rw [if_pos c22] at H
                   have c22b0 := eq_true c22
                   have c22b1 : decide (x9_1 ≤ (wrap64 (x9_1 + 1))) = true := decide_eq_true c22
                   by_cases c23 : (wrap64 (x9_1 + 1)) ≤ (a0.size : Int)
                   ·rw [if_pos c23] at H
                    have c23b0 := eq_true c23
                    have c23b1 : decide ((wrap64 (x9_1 + 1)) ≤ (a0.size : Int)) = true := decide_eq_true c23
                    obtain ⟨ji24, hji24⟩ : ∃ j_ : ByteArray, (a0.extract (x9_1 : Int).toNat ((wrap64 (x9_1 + 1)) : Int).toNat) = j_ := ⟨_, rfl⟩
                    replace H : (if x8_1.size + (ji24).size ≤ 9223372036854775807 then (mewsref04_Split.l0 kj15 a0 x4_1 x5_1 true false (x8_1 ++ (ji24)) (wrap64 (x9_1 + 1))) else (none)) = some (r1, r2) := by first | (rw [hji24] at H; exact H) | (simp only [hji24] at H ⊢; exact H)
                    by_cases c25 : x8_1.size + (ji24).size ≤ 9223372036854775807
                    ·rw [if_pos c25] at H
                     have c25b0 := eq_true c25
                     have c25b1 : decide (x8_1.size + (ji24).size ≤ 9223372036854775807) = true := decide_eq_true c25
                     try have c25b2 : (9223372036854775807 < x8_1.size + (ji24).size) = False := eq_false (Nat.not_lt.2 c25)
                     have H' := Aside0.mk H
                     clear H
                     go_wp2
                     go_roundg kj15
                     case measure => have := HK1.out; have := HJ4.out; have := HJ6.out; have := HJ9.out; have := HJ15.out; omega
                     case rel => exact ⟨(x4_1), (x5_1), (true), (false), (x8_1 ++ (ji24)), (wrap64 (x9_1 + 1)), (by first | rfl | (simp; done) | (simp [*]; done)), (by first | rfl | (simp; done) | (simp [*]; done)), (by first | rfl | (simp; done) | (simp [*]; done)), (by first | rfl | (simp; done) | (simp only [← hji24] <;> (first | rfl | simp)) | (simp [*]; done)), (by first | rfl | (simp; done) | (simp [*]; done)), H', ⟨by have := HK1.out; have := HJ4.out; have := HJ6.out; have := HJ9.out; have := HJ15.out; omega⟩, ⟨by (with_reducible repeat (first | apply Kd.R_alloc | apply Kd.R_drewN | apply Kd.R_drew)); exact HO_4.out⟩, ⟨by repeat (first | (with_reducible first | exact HB.out | apply below_alloc | apply pw_below_drewN | apply below_drew1) | exact HB.out)⟩⟩
                    ·rw [if_neg c25] at H
                     exact absurd H (by simp)
                   ·rw [if_neg c23] at H
                    exact absurd H (by simp)
                  ·rw [if_neg c22] at H
                   exact absurd H (by simp)
                 ·rw [if_neg c21] at H
                  exact absurd H (by simp)
                ·rw [if_neg c20] at H
                 have c20b0 : (x5_1 == 0) = false := beq_eq_false_iff_ne.mpr c20
                 have c20b1 : (x5_1 != 0) = true := bne_iff_ne.mpr c20
                 by_cases c26 : (bt a0 x9_1) = x5_1
                 ·rw [if_pos c26] at H
                  have c26b0 : ((bt a0 x9_1) == x5_1) = true := beq_iff_eq.mpr c26
                  have c26b1 : ((bt a0 x9_1) != x5_1) = false := bne_eq_false_iff_eq.mpr c26
                  clear c26
                  have H' := Aside0.mk H
                  clear H
                  go_wp2
                  go_roundg kj15
                  case measure => have := HK1.out; have := HJ4.out; have := HJ6.out; have := HJ9.out; have := HJ15.out; omega
                  case rel => exact ⟨(x4_1), (0), (x6_1), (true), (x8_1), (wrap64 (x9_1 + 1)), (by first | rfl | (simp; done) | (simp [*]; done)), (by first | rfl | (simp; done) | (simp [*]; done)), (by first | rfl | (simp; done) | (simp [*]; done)), (by first | rfl | (simp; done) | (simp [*]; done)), (by first | rfl | (simp; done) | (simp [*]; done)), H', ⟨by have := HK1.out; have := HJ4.out; have := HJ6.out; have := HJ9.out; have := HJ15.out; omega⟩, ⟨by (with_reducible repeat (first | apply Kd.R_alloc | apply Kd.R_drewN | apply Kd.R_drew)); exact HO_4.out⟩, ⟨by repeat (first | (with_reducible first | exact HB.out | apply below_alloc | apply pw_below_drewN | apply below_drew1) | exact HB.out)⟩⟩
                 ·rw [if_neg c26] at H
                  have c26b0 : ((bt a0 x9_1) == x5_1) = false := beq_eq_false_iff_ne.mpr c26
                  have c26b1 : ((bt a0 x9_1) != x5_1) = true := bne_iff_ne.mpr c26
                  have HC27 := Aside0.mk H
                  clear H
                  go_upto_region 25 with (fail)
                  go_cut [76] (fun v76 wc => ∃ (kq : Nat) (x76_26 : Bool), v76 = .bool x76_26 ∧ Aside0 (mewsref04_Split.j5 kq a0 x4_1 x5_1 x6_1 false x8_1 x9_1 (bt a0 x9_1) x76_26 = some (r1, r2)) ∧ Aside0 (kq ≤ kj15) ∧ Aside0 (Kd.R Kd.string 9 wc w.heap.size (fun _ => True) u4 x4_1) ∧ Aside0 (Below w.heap.size w wc))
                  case first =>
                   have H := HC27.out
                   clear HC27
                   by_cases c28 : (bt a0 x9_1) = 92
                   ·rw [if_pos c28] at H
                    have c28b0 : ((bt a0 x9_1) == 92) = true := beq_iff_eq.mpr c28
                    have c28b1 : ((bt a0 x9_1) != 92) = false := bne_eq_false_iff_eq.mpr c28
                    clear c28
                    (first | rw [c28b0] | (simp only [i64_w, i32_w]; rw [c28b0]) | skip)
                    by_cases c29 : x5_1 = 34
                    ·rw [if_pos c29] at H
                     have c29b0 : (x5_1 == 34) = true := beq_iff_eq.mpr c29
                     have c29b1 : (x5_1 != 34) = false := bne_eq_false_iff_eq.mpr c29
                     clear c29
                     by_cases c30 : (wrap64 (x9_1 + 3)) < (a0.size : Int)
                     ·rw [if_pos c30] at H
                      have c30b0 : decide ((wrap64 (x9_1 + 3)) < (a0.size : Int)) = true := decide_eq_true c30
                      clear c30
                      obtain ⟨ji31, hji31⟩ : ∃ j_ : Int, (wrap64 (x9_1 + 1)) = j_ := ⟨_, rfl⟩
                      replace H : (if 0 ≤ (ji31) then (if (ji31) < (a0.size : Int) then (if (bt a0 (ji31)) = 120 then (if 0 ≤ (wrap64 (x9_1 + 2)) then (if (wrap64 (x9_1 + 2)) < (a0.size : Int) then ((mewsref04_digit.f kj15 (bt a0 (wrap64 (x9_1 + 2)))).bind fun t270 => (if t270 < 16 then (if 0 ≤ (wrap64 (x9_1 + 3)) then ((mewsref04_digit.f kj15 (bt a0 (wrap64 (x9_1 + 3)))).bind fun t271 => (mewsref04_Split.j5 kj15 a0 x4_1 x5_1 x6_1 false x8_1 x9_1 (bt a0 x9_1) (decide (t271 < 16)))) else (none)) else (mewsref04_Split.j5 kj15 a0 x4_1 x5_1 x6_1 false x8_1 x9_1 (bt a0 x9_1) false))) else (none)) else (none)) else (mewsref04_Split.j5 kj15 a0 x4_1 x5_1 x6_1 false x8_1 x9_1 (bt a0 x9_1) false)) else (none)) else (none)) = some (r1, r2) := by first | (rw [hji31] at H; exact H) | (simp only [hji31] at H ⊢; exact H)
                      have hji31w : (IntKind.i64.wrap (x9_1 + 1)) = ji31 := (i64_w _).trans hji31
                      by_cases c32 : 0 ≤ (ji31)
                      ·rw [if_pos c32] at H
                       have c32b0 : decide (0 ≤ (ji31)) = true := decide_eq_true c32
                       clear c32
                       by_cases c33 : (ji31) < (a0.size : Int)
                       ·rw [if_pos c33] at H
                        have c33b0 : decide ((ji31) < (a0.size : Int)) = true := decide_eq_true c33
                        clear c33
                        by_cases c35 : (bt a0 (ji31)) = 120
                        ·rw [if_pos c35] at H
                         have c35b0 : ((bt a0 (ji31)) == 120) = true := beq_iff_eq.mpr c35
                         have c35b1 : ((bt a0 (ji31)) != 120) = false := bne_eq_false_iff_eq.mpr c35
                         clear c35
                         obtain ⟨ji36, hji36⟩ : ∃ j_ : Int, (wrap64 (x9_1 + 2)) = j_ := ⟨_, rfl⟩
                         replace H : (if 0 ≤ (ji36) then (if (ji36) < (a0.size : Int) then ((mewsref04_digit.f kj15 (bt a0 (ji36))).bind fun t270 => (if t270 < 16 then (if 0 ≤ (wrap64 (x9_1 + 3)) then ((mewsref04_digit.f kj15 (bt a0 (wrap64 (x9_1 + 3)))).bind fun t271 => (mewsref04_Split.j5 kj15 a0 x4_1 x5_1 x6_1 false x8_1 x9_1 (bt a0 x9_1) (decide (t271 < 16)))) else (none)) else (mewsref04_Split.j5 kj15 a0 x4_1 x5_1 x6_1 false x8_1 x9_1 (bt a0 x9_1) false))) else (none)) else (none)) = some (r1, r2) := by first | (rw [hji36] at H; exact H) | (simp only [hji36] at H ⊢; exact H)
                         have hji36w : (IntKind.i64.wrap (x9_1 + 2)) = ji36 := (i64_w _).trans hji36
                         by_cases c37 : 0 ≤ (ji36)
                         ·rw [if_pos c37] at H
                          have c37b0 : decide (0 ≤ (ji36)) = true := decide_eq_true c37
                          clear c37
                          by_cases c38 : (ji36) < (a0.size : Int)
                          ·rw [if_pos c38] at H
                           have c38b0 : decide ((ji36) < (a0.size : Int)) = true := decide_eq_true c38
                           clear c38
                           replace H := Option.bind_eq_some_iff.mp H
                           obtain ⟨t270, A400, H⟩ := H
                           replace H : (if t270 < 16 then (if 0 ≤ (wrap64 (x9_1 + 3)) then ((mewsref04_digit.f kj15 (bt a0 (wrap64 (x9_1 + 3)))).bind fun t271 => (mewsref04_Split.j5 kj15 a0 x4_1 x5_1 x6_1 false x8_1 x9_1 (bt a0 x9_1) (decide (t271 < 16)))) else (none)) else (mewsref04_Split.j5 kj15 a0 x4_1 x5_1 x6_1 false x8_1 x9_1 (bt a0 x9_1) false)) = some (r1, r2) := H
                           have A40 := Aside0.mk A400
                           clear A400
                           by_cases c41 : t270 < 16
                           ·rw [if_pos c41] at H
                            have c41b0 : decide (t270 < 16) = true := decide_eq_true c41
                            clear c41
                            obtain ⟨ji42, hji42⟩ : ∃ j_ : Int, (wrap64 (x9_1 + 3)) = j_ := ⟨_, rfl⟩
                            replace H : (if 0 ≤ (ji42) then ((mewsref04_digit.f kj15 (bt a0 (ji42))).bind fun t271 => (mewsref04_Split.j5 kj15 a0 x4_1 x5_1 x6_1 false x8_1 x9_1 (bt a0 x9_1) (decide (t271 < 16)))) else (none)) = some (r1, r2) := by first | (rw [hji42] at H; exact H) | (simp only [hji42] at H ⊢; exact H)
                            (try rw [hji42] at c30b0)
                            (try rw [hji42] at A40)
                            have hji42w : (IntKind.i64.wrap (x9_1 + 3)) = ji42 := (i64_w _).trans hji42
                            by_cases c43 : 0 ≤ (ji42)
                            ·rw [if_pos c43] at H
                             have c43b0 : decide (0 ≤ (ji42)) = true := decide_eq_true c43
                             clear c43
                             replace H := Option.bind_eq_some_iff.mp H
                             obtain ⟨t271, A450, H⟩ := H
                             replace H : (mewsref04_Split.j5 kj15 a0 x4_1 x5_1 x6_1 false x8_1 x9_1 (bt a0 x9_1) (decide (t271 < 16))) = some (r1, r2) := H
                             have A45 := Aside0.mk A450
                             clear A450
                             have H' := Aside0.mk H
                             clear H
                             have p34 : 0 ≤ ((ji31) : Int) := of_decide_eq_true (by first | (with_reducible assumption) | assumption)
                             have q34 : (ji31) < (a0.size : Int) := of_decide_eq_true (by first | (with_reducible assumption) | assumption)
                             have hx34 := bt_at a0 (ji31)
                             replace p34 := eq_true p34
                             replace q34 := eq_true q34
                             have p39 : 0 ≤ ((ji36) : Int) := of_decide_eq_true (by first | (with_reducible assumption) | assumption)
                             have q39 : (ji36) < (a0.size : Int) := of_decide_eq_true (by first | (with_reducible assumption) | assumption)
                             have hx39 := bt_at a0 (ji36)
                             replace p39 := eq_true p39
                             replace q39 := eq_true q39
                             go_wp2_with (first | (go_at_call 37; (with_reducible refine (mewsref04_digit.calls kj15 (bt a0 (ji36)) t270 _ A40.out).mono ?_); rintro e w' ⟨rfl, ⟨nd, rfl⟩⟩; have p44 : 0 ≤ ((ji42) : Int) := of_decide_eq_true (by first | (with_reducible assumption) | assumption); have q44 : (ji42) < (a0.size : Int) := of_decide_eq_true (by first | (with_reducible assumption) | assumption); have hx44 := bt_at a0 (ji42); replace p44 := eq_true p44; replace q44 := eq_true q44) | (go_at_call 37; (with_reducible refine (mewsref04_digit.calls kj15 (bt a0 (ji42)) t271 _ A45.out).mono ?_); rintro e w' ⟨rfl, ⟨nd, rfl⟩⟩))
                             go_meet
                             case rel => exact ⟨_, (decide (t271 < 16)), (by first | rfl | (simp; done) | (simp [*]; done)), H', ⟨by have := HK1.out; have := HJ4.out; have := HJ6.out; have := HJ9.out; have := HJ15.out; first | omega | exact Nat.le_refl _⟩, ⟨by (with_reducible repeat (first | apply Kd.R_alloc | apply Kd.R_drewN | apply Kd.R_drew)); exact HO_4.out⟩, ⟨by repeat (first | (with_reducible first | exact HB.out | apply below_alloc | apply pw_below_drewN | apply below_drew1) | exact HB.out)⟩⟩
                            ·rw [if_neg c43] at H
                             exact absurd H (by simp)
                           ·rw [if_neg c41] at H
                            have c41b0 : decide (t270 < 16) = false := decide_eq_false c41
                            clear c41
                            have H' := Aside0.mk H
                            clear H
                            have p34 : 0 ≤ ((ji31) : Int) := of_decide_eq_true (by first | (with_reducible assumption) | assumption)
                            have q34 : (ji31) < (a0.size : Int) := of_decide_eq_true (by first | (with_reducible assumption) | assumption)
                            have hx34 := bt_at a0 (ji31)
                            replace p34 := eq_true p34
                            replace q34 := eq_true q34
                            have p39 : 0 ≤ ((ji36) : Int) := of_decide_eq_true (by first | (with_reducible assumption) | assumption)
                            have q39 : (ji36) < (a0.size : Int) := of_decide_eq_true (by first | (with_reducible assumption) | assumption)
                            have hx39 := bt_at a0 (ji36)
                            replace p39 := eq_true p39
                            replace q39 := eq_true q39
                            go_wp2_with (first | (go_at_call 37; (with_reducible refine (mewsref04_digit.calls kj15 (bt a0 (ji36)) t270 _ A40.out).mono ?_); rintro e w' ⟨rfl, ⟨nd, rfl⟩⟩))
                            go_meet
                            case rel => exact ⟨_, (false), (by first | rfl | (simp; done) | (simp [*]; done)), H', ⟨by have := HK1.out; have := HJ4.out; have := HJ6.out; have := HJ9.out; have := HJ15.out; first | omega | exact Nat.le_refl _⟩, ⟨by (with_reducible repeat (first | apply Kd.R_alloc | apply Kd.R_drewN | apply Kd.R_drew)); exact HO_4.out⟩, ⟨by repeat (first | (with_reducible first | exact HB.out | apply below_alloc | apply pw_below_drewN | apply below_drew1) | exact HB.out)⟩⟩
                          ·rw [if_neg c38] at H
                           exact absurd H (by simp)
                         ·rw [if_neg c37] at H
                          exact absurd H (by simp)
                        ·rw [if_neg c35] at H
                         have c35b0 : ((bt a0 (ji31)) == 120) = false := beq_eq_false_iff_ne.mpr c35
                         have c35b1 : ((bt a0 (ji31)) != 120) = true := bne_iff_ne.mpr c35
                         have H' := Aside0.mk H
                         clear H
                         have p34 : 0 ≤ ((ji31) : Int) := of_decide_eq_true (by first | (with_reducible assumption) | assumption)
                         have q34 : (ji31) < (a0.size : Int) := of_decide_eq_true (by first | (with_reducible assumption) | assumption)
                         have hx34 := bt_at a0 (ji31)
                         replace p34 := eq_true p34
                         replace q34 := eq_true q34
                         go_wp2
                         go_meet
                         case rel => exact ⟨_, (false), (by first | rfl | (simp; done) | (simp [*]; done)), H', ⟨by have := HK1.out; have := HJ4.out; have := HJ6.out; have := HJ9.out; have := HJ15.out; first | omega | exact Nat.le_refl _⟩, ⟨by (with_reducible repeat (first | apply Kd.R_alloc | apply Kd.R_drewN | apply Kd.R_drew)); exact HO_4.out⟩, ⟨by repeat (first | (with_reducible first | exact HB.out | apply below_alloc | apply pw_below_drewN | apply below_drew1) | exact HB.out)⟩⟩
                       ·rw [if_neg c33] at H
                        exact absurd H (by simp)
                      ·rw [if_neg c32] at H
                       exact absurd H (by simp)
                     ·rw [if_neg c30] at H
                      have c30b0 : decide ((wrap64 (x9_1 + 3)) < (a0.size : Int)) = false := decide_eq_false c30
                      clear c30
                      have H' := Aside0.mk H
                      clear H
                      go_wp2
                      go_meet
                      case rel => exact ⟨_, (false), (by first | rfl | (simp; done) | (simp [*]; done)), H', ⟨by have := HK1.out; have := HJ4.out; have := HJ6.out; have := HJ9.out; have := HJ15.out; first | omega | exact Nat.le_refl _⟩, ⟨by (with_reducible repeat (first | apply Kd.R_alloc | apply Kd.R_drewN | apply Kd.R_drew)); exact HO_4.out⟩, ⟨by repeat (first | (with_reducible first | exact HB.out | apply below_alloc | apply pw_below_drewN | apply below_drew1) | exact HB.out)⟩⟩
                    ·rw [if_neg c29] at H
                     have c29b0 : (x5_1 == 34) = false := beq_eq_false_iff_ne.mpr c29
                     have c29b1 : (x5_1 != 34) = true := bne_iff_ne.mpr c29
                     have H' := Aside0.mk H
                     clear H
                     go_wp2
                     go_meet
                     case rel => exact ⟨_, (false), (by first | rfl | (simp; done) | (simp [*]; done)), H', ⟨by have := HK1.out; have := HJ4.out; have := HJ6.out; have := HJ9.out; have := HJ15.out; first | omega | exact Nat.le_refl _⟩, ⟨by (with_reducible repeat (first | apply Kd.R_alloc | apply Kd.R_drewN | apply Kd.R_drew)); exact HO_4.out⟩, ⟨by repeat (first | (with_reducible first | exact HB.out | apply below_alloc | apply pw_below_drewN | apply below_drew1) | exact HB.out)⟩⟩
                   ·rw [if_neg c28] at H
                    have c28b0 : ((bt a0 x9_1) == 92) = false := beq_eq_false_iff_ne.mpr c28
                    have c28b1 : ((bt a0 x9_1) != 92) = true := bne_iff_ne.mpr c28
                    (first | rw [c28b0] | (simp only [i64_w, i32_w]; rw [c28b0]) | skip)
                    have H' := Aside0.mk H
                    clear H
                    go_wp2
                    go_meet
                    case rel => exact ⟨_, (false), (by first | rfl | (simp; done) | (simp [*]; done)), H', ⟨by have := HK1.out; have := HJ4.out; have := HJ6.out; have := HJ9.out; have := HJ15.out; first | omega | exact Nat.le_refl _⟩, ⟨by (with_reducible repeat (first | apply Kd.R_alloc | apply Kd.R_drewN | apply Kd.R_drew)); exact HO_4.out⟩, ⟨by repeat (first | (with_reducible first | exact HB.out | apply below_alloc | apply pw_below_drewN | apply below_drew1) | exact HB.out)⟩⟩
                  case rest => as_aux_lemma =>
                   clear HC27
                   try clear c1
                   try clear c2
                   try clear c2b0
                   try clear p2
                   try clear c3
                   try clear c3b0
                   try clear p3
                   try clear q3
                   try clear hx3
                   try clear c4
                   try clear p4
                   try clear q4
                   try clear hx4
                   try clear c6
                   try clear c6b0
                   try clear c6b1
                   try clear p6
                   try clear c8
                   try clear c9
                   try clear c11
                   try clear c11b0
                   try clear c11b1
                   try clear c12
                   try clear c13
                   try clear c14
                   try clear c17
                   try clear c17b0
                   try clear c17b1
                   try clear c18
                   try clear c18b0
                   try clear c18b1
                   try clear c19
                   try clear c20
                   try clear c20b0
                   try clear c20b1
                   try clear c21
                   try clear c21b0
                   try clear c21b1
                   try clear c22
                   try clear c22b0
                   try clear c22b1
                   try clear c23
                   try clear c23b0
                   try clear c23b1
                   try clear c25
                   try clear c25b0
                   try clear c25b1
                   try clear c25b2
                   try clear c26
                   try clear c26b0
                   try clear c26b1
                   try clear c28
                   try clear c28b0
                   try clear c28b1
                   try clear c29
                   try clear c29b0
                   try clear c29b1
                   try clear c30
                   try clear c30b0
                   try clear c32
                   try clear c32b0
                   try clear c33
                   try clear c33b0
                   try clear p34
                   try clear q34
                   try clear hx34
                   try clear c35
                   try clear c35b0
                   try clear c35b1
                   try clear c37
                   try clear c37b0
                   try clear c38
                   try clear c38b0
                   try clear p39
                   try clear q39
                   try clear hx39
                   try clear c41
                   try clear c41b0
                   try clear c43
                   try clear c43b0
                   try clear p44
                   try clear q44
                   try clear hx44
                   try clear p2
                   try clear p34
                   try clear p39
                   try clear p4
                   try clear p44
                   try clear p6
                   try clear q34
                   try clear q39
                   try clear q4
                   try clear q44
                   obtain ⟨kq, x76_26, rfl, HA, HJ26, HO_4, HB⟩ := hcut
                   cases kq with
                   | zero => exact absurd HA.out (by simp [mewsref04_Split.j5])
                   | succ kj26 =>
                    have H := HA.out
                    clear HA
                    simp only [mewsref04_Split.j5] at H
                    by_cases c46 : x76_26 = true
                    ·subst c46
                     rw [if_pos rfl] at H
                     obtain ⟨ji47, hji47⟩ : ∃ j_ : Int, (wrap64 (x9_1 + 2)) = j_ := ⟨_, rfl⟩
                     replace H : (if 0 ≤ (ji47) then (if (ji47) < (a0.size : Int) then ((mewsref04_digit.f kj26 (bt a0 (ji47))).bind fun t272 => (if 0 ≤ (wrap64 (x9_1 + 3)) then (if (wrap64 (x9_1 + 3)) < (a0.size : Int) then ((mewsref04_digit.f kj26 (bt a0 (wrap64 (x9_1 + 3)))).bind fun t273 => ((some (([(wrap64 ((wrap64 (16 * t272)) + t273)) % 256] : List Int) : List Int)).bind fun y274 => (if x8_1.size + (strOfNums y274).size ≤ 9223372036854775807 then (mewsref04_Split.l0 kj26 a0 x4_1 x5_1 x6_1 false (x8_1 ++ (strOfNums y274)) (wrap64 ((wrap64 (x9_1 + 3)) + 1))) else (none)))) else (none)) else (none))) else (none)) else (none)) = some (r1, r2) := by first | (rw [hji47] at H; exact H) | (simp only [hji47] at H ⊢; exact H)
                     have hji47w : (IntKind.i64.wrap (x9_1 + 2)) = ji47 := (i64_w _).trans hji47
                     by_cases c48 : 0 ≤ (ji47)
                     ·rw [if_pos c48] at H
                      have c48b0 : decide (0 ≤ (ji47)) = true := decide_eq_true c48
                      clear c48
                      by_cases c49 : (ji47) < (a0.size : Int)
                      ·rw [if_pos c49] at H
                       have c49b0 : decide ((ji47) < (a0.size : Int)) = true := decide_eq_true c49
                       clear c49
                       replace H := Option.bind_eq_some_iff.mp H
                       obtain ⟨t272, A510, H⟩ := H
                       replace H : (if 0 ≤ (wrap64 (x9_1 + 3)) then (if (wrap64 (x9_1 + 3)) < (a0.size : Int) then ((mewsref04_digit.f kj26 (bt a0 (wrap64 (x9_1 + 3)))).bind fun t273 => ((some (([(wrap64 ((wrap64 (16 * t272)) + t273)) % 256] : List Int) : List Int)).bind fun y274 => (if x8_1.size + (strOfNums y274).size ≤ 9223372036854775807 then (mewsref04_Split.l0 kj26 a0 x4_1 x5_1 x6_1 false (x8_1 ++ (strOfNums y274)) (wrap64 ((wrap64 (x9_1 + 3)) + 1))) else (none)))) else (none)) else (none)) = some (r1, r2) := H
                       have A51 := Aside0.mk A510
                       clear A510
                       obtain ⟨ji52, hji52⟩ : ∃ j_ : Int, (wrap64 (x9_1 + 3)) = j_ := ⟨_, rfl⟩
                       replace H : (if 0 ≤ (ji52) then (if (ji52) < (a0.size : Int) then ((mewsref04_digit.f kj26 (bt a0 (ji52))).bind fun t273 => ((some (([(wrap64 ((wrap64 (16 * t272)) + t273)) % 256] : List Int) : List Int)).bind fun y274 => (if x8_1.size + (strOfNums y274).size ≤ 9223372036854775807 then (mewsref04_Split.l0 kj26 a0 x4_1 x5_1 x6_1 false (x8_1 ++ (strOfNums y274)) (wrap64 ((ji52) + 1))) else (none)))) else (none)) else (none)) = some (r1, r2) := by first | (rw [hji52] at H; exact H) | (simp only [hji52] at H ⊢; exact H)
                       (try rw [hji52] at A51)
                       have hji52w : (IntKind.i64.wrap (x9_1 + 3)) = ji52 := (i64_w _).trans hji52
                       by_cases c53 : 0 ≤ (ji52)
                       ·rw [if_pos c53] at H
                        have c53b0 : decide (0 ≤ (ji52)) = true := decide_eq_true c53
                        clear c53
                        by_cases c54 : (ji52) < (a0.size : Int)
                        ·rw [if_pos c54] at H
                         have c54b0 : decide ((ji52) < (a0.size : Int)) = true := decide_eq_true c54
                         clear c54
                         replace H := Option.bind_eq_some_iff.mp H
                         obtain ⟨t273, A560, H⟩ := H
                         replace H : ((some (([(wrap64 ((wrap64 (16 * t272)) + t273)) % 256] : List Int) : List Int)).bind fun y274 => (if x8_1.size + (strOfNums y274).size ≤ 9223372036854775807 then (mewsref04_Split.l0 kj26 a0 x4_1 x5_1 x6_1 false (x8_1 ++ (strOfNums y274)) (wrap64 ((ji52) + 1))) else (none))) = some (r1, r2) := H
                         have A56 := Aside0.mk A560
                         clear A560
                         obtain ⟨y274, hy274⟩ : ∃ y_ : List Int, y_ = (([(wrap64 ((wrap64 (16 * t272)) + t273)) % 256] : List Int)) := ⟨_, rfl⟩
                         replace H : (if x8_1.size + (strOfNums y274).size ≤ 9223372036854775807 then (mewsref04_Split.l0 kj26 a0 x4_1 x5_1 x6_1 false (x8_1 ++ (strOfNums y274)) (wrap64 ((ji52) + 1))) else (none)) = some (r1, r2) := by first | (rw [hy274]; with_reducible exact H) | (have H2_ := (Option.bind_some _ _).symm.trans H; rw [hy274]; with_reducible exact H2_) | (have H2_ := (Option.bind_some _ _).symm.trans H; with_reducible exact H2_) | with_reducible exact H | (rw [hy274]; exact H) | exact H
                         have Ny274 := Aside0.mk hy274
                         clear hy274
                         by_cases c57 : x8_1.size + (strOfNums y274).size ≤ 9223372036854775807
                         ·rw [if_pos c57] at H
                          have c57b0 := eq_true c57
                          have c57b1 : decide (x8_1.size + (strOfNums y274).size ≤ 9223372036854775807) = true := decide_eq_true c57
                          try have c57b2 : (9223372036854775807 < x8_1.size + (strOfNums y274).size) = False := eq_false (Nat.not_lt.2 c57)
                          have H' := Aside0.mk H
                          clear H
                          try go_wp2
                          have n0_ := Aside0.mk (Kd.R_drew HO_4.out)
                          have n1_ := Aside0.mk (below_drew1 HB.out)
                          clear HO_4
                          clear HB
                          have HO_4 := n0_
                          have HB := n1_
                          clear n0_ n1_
                          have p50 : 0 ≤ ((ji47) : Int) := of_decide_eq_true (by first | (with_reducible assumption) | assumption)
                          have q50 : (ji47) < (a0.size : Int) := of_decide_eq_true (by first | (with_reducible assumption) | assumption)
                          have hx50 := bt_at a0 (ji47)
                          replace p50 := eq_true p50
                          replace q50 := eq_true q50
                          have p55 : 0 ≤ ((ji52) : Int) := of_decide_eq_true (by first | (with_reducible assumption) | assumption)
                          have q55 : (ji52) < (a0.size : Int) := of_decide_eq_true (by first | (with_reducible assumption) | assumption)
                          have hx55 := bt_at a0 (ji52)
                          replace p55 := eq_true p55
                          replace q55 := eq_true q55
                          refine start_ (n := 18) (S := fun w' => True) (ds := []) #[false, false, false, false, false, false, false, false, false, false, false, false, false, false, false, false, false, false] (by kernel_rfl) rfl rfl trivial (fun hHeld => ?_); refine with_tabW mewsref04_Split.tab26 mewsref04_Split.bits26 (fun HT_ HW_ => ?_)
                          generalize wc.drew = w58 at HO_4 HB hHeld ⊢
                          refine pure_ (i := 0) (N := some 113) (v := ?_) (a' := ?_) #[true, false, false, false, false, false, false, false, false, false, false, false, false, false, false, false, false, false] rfl rfl (any_of HT_.out (by kernel_rfl)) (fun _ _ _ h => h) (Or.inl ⟨by rfl, ?_⟩) ?_ ?_
                          rotate_left
                          ·intro w'
                           go_simp
                           with_reducible rfl
                          rotate_left
                          ·simp only [Act.put, List.setIfInBounds_toArray, List.set_cons_zero, List.set_cons_succ, i64_w, i32_w]
                           rfl
                          refine pure_ (i := 1) (N := some 114) (v := ?_) (a' := ?_) #[true, true, false, false, false, false, false, false, false, false, false, false, false, false, false, false, false, false] rfl rfl (any_of HT_.out (by kernel_rfl)) (fun _ _ _ h => h) (Or.inl ⟨by rfl, ?_⟩) ?_ ?_
                          rotate_left
                          ·intro w'
                           go_simp
                           with_reducible rfl
                          rotate_left
                          ·simp only [Act.put, List.setIfInBounds_toArray, List.set_cons_zero, List.set_cons_succ, i64_w, i32_w]
                           rfl
                          refine pure_ (i := 2) (N := some 115) (v := ?_) (a' := ?_) #[true, true, true, false, false, false, false, false, false, false, false, false, false, false, false, false, false, false] rfl rfl (any_of HT_.out (by kernel_rfl)) (fun _ _ _ h => h) (Or.inl ⟨by rfl, ?_⟩) ?_ ?_
                          rotate_left
                          ·intro w'
                           go_simp
                           with_reducible rfl
                          rotate_left
                          ·simp only [Act.put, List.setIfInBounds_toArray, List.set_cons_zero, List.set_cons_succ, i64_w, i32_w]
                           rfl
                          refine pure_ (i := 3) (N := some 116) (v := ?_) (a' := ?_) #[true, true, true, true, false, false, false, false, false, false, false, false, false, false, false, false, false, false] rfl rfl (any_of HT_.out (by kernel_rfl)) (fun _ _ _ h => h) (Or.inl ⟨by rfl, ?_⟩) ?_ ?_
                          rotate_left
                          ·intro w'
                           go_simp
                           with_reducible rfl
                          rotate_left
                          ·simp only [Act.put, List.setIfInBounds_toArray, List.set_cons_zero, List.set_cons_succ, i64_w, i32_w]
                           rfl
                          refine pure_ (i := 7) (N := some 120) (v := ?_) (a' := ?_) #[true, true, true, true, false, false, false, true, false, false, false, false, false, false, false, false, false, false] rfl rfl (any_of HT_.out (by kernel_rfl)) (fun _ _ _ h => h) (Or.inl ⟨by rfl, ?_⟩) ?_ ?_
                          rotate_left
                          ·intro w'
                           go_simp
                           with_reducible rfl
                          rotate_left
                          ·simp only [Act.put, List.setIfInBounds_toArray, List.set_cons_zero, List.set_cons_succ, i64_w, i32_w]
                           rfl
                          refine pure_ (i := 8) (N := some 121) (v := ?_) (a' := ?_) #[true, true, true, true, false, false, false, true, true, false, false, false, false, false, false, false, false, false] rfl rfl (any_of HT_.out (by kernel_rfl)) (fun _ _ _ h => h) (Or.inl ⟨by rfl, ?_⟩) ?_ ?_
                          rotate_left
                          ·intro w'
                           go_simp
                           with_reducible rfl
                          rotate_left
                          ·simp only [Act.put, List.setIfInBounds_toArray, List.set_cons_zero, List.set_cons_succ, i64_w, i32_w]
                           rfl
                          refine pure_ (i := 9) (N := some 122) (v := ?_) (a' := ?_) #[true, true, true, true, false, false, false, true, true, true, false, false, false, false, false, false, false, false] rfl rfl (any_of HT_.out (by kernel_rfl)) (fun _ _ _ h => h) (Or.inl ⟨by rfl, ?_⟩) ?_ ?_
                          rotate_left
                          ·intro w'
                           go_simp
                           with_reducible rfl
                          rotate_left
                          ·simp only [Act.put, List.setIfInBounds_toArray, List.set_cons_zero, List.set_cons_succ, i64_w, i32_w]
                           rfl
                          refine take_ (i := 4) (N := some 117) (v := ?_) (a' := ?_) #[true, true, true, true, true, false, false, true, true, true, false, false, false, false, false, false, false, false] rfl rfl (take_ofW HT_.out HW_.out (by kernel_rfl)) (fun _ _ _ h => h) (Or.inl ⟨by rfl, ?_⟩) hHeld ?_ ?_
                          rotate_left
                          ·intro w' _
                           go_simp
                           with_reducible rfl
                          rotate_left
                          ·simp only [Act.put, List.setIfInBounds_toArray, List.set_cons_zero, List.set_cons_succ, i64_w, i32_w]
                           rfl
                          refine take_ (i := 10) (N := some 123) (v := ?_) (a' := ?_) #[true, true, true, true, true, false, false, true, true, true, true, false, false, false, false, false, false, false] rfl rfl (take_ofW HT_.out HW_.out (by kernel_rfl)) (fun _ _ _ h => h) (Or.inl ⟨by rfl, ?_⟩) hHeld ?_ ?_
                          rotate_left
                          ·intro w' _
                           go_simp
                           with_reducible rfl
                          rotate_left
                          ·simp only [Act.put, List.setIfInBounds_toArray, List.set_cons_zero, List.set_cons_succ, i64_w, i32_w]
                           rfl
                          refine one_ (i := 5) (N := some 118) #[true, true, true, true, true, true, false, true, true, true, true, false, false, false, false, false, false, false] rfl rfl (one_of HT_.out (by kernel_rfl)) (by decide) (fun K hK => ?_)
                          refine goes_ Try.func37 (by kernel_rfl) rfl #[.int .u8 (bt a0 (ji47))] (by rfl) rfl rfl (by (try simp only [List.map_toArray, List.map_cons, List.map_nil]); first | done | (simp only [hji47]; rfl) | rfl | (simp only [List.length_drop, List.length_take]; rfl)) ?_
                          with_reducible refine (mewsref04_digit.calls kj26 (bt a0 (ji47)) t272 _ A51.out).mono ?_
                          rintro e w' ⟨rfl, ⟨nd, rfl⟩⟩
                          refine ⟨_, rfl, ?_⟩
                          refine hK.out _ _ trivial (fun hHeld => ?_)
                          clear hK K
                          refine norm_ (a' := ?_) ?_ ?_
                          rotate_left
                          ·show Act.put _ (some 118) _ = _
                           simp only [Act.put, List.setIfInBounds_toArray, List.set_cons_zero, List.set_cons_succ, i64_w, i32_w]
                           rfl
                          refine pure_ (i := 6) (N := some 119) (v := ?_) (a' := ?_) #[true, true, true, true, true, true, true, true, true, true, true, false, false, false, false, false, false, false] rfl rfl (any_of HT_.out (by kernel_rfl)) (fun _ _ _ h => h) (Or.inl ⟨by rfl, ?_⟩) ?_ ?_
                          rotate_left
                          ·intro w'
                           go_simp
                           with_reducible rfl
                          rotate_left
                          ·simp only [Act.put, List.setIfInBounds_toArray, List.set_cons_zero, List.set_cons_succ, i64_w, i32_w]
                           rfl
                          refine one_ (i := 11) (N := some 124) #[true, true, true, true, true, true, true, true, true, true, true, true, false, false, false, false, false, false] rfl rfl (one_of HT_.out (by kernel_rfl)) (by decide) (fun K hK => ?_)
                          refine goes_ Try.func37 (by kernel_rfl) rfl #[.int .u8 (bt a0 (ji52))] (by rfl) rfl rfl (by (try simp only [List.map_toArray, List.map_cons, List.map_nil]); first | done | (simp only [hji52]; rfl) | rfl | (simp only [List.length_drop, List.length_take]; rfl)) ?_
                          with_reducible refine (mewsref04_digit.calls kj26 (bt a0 (ji52)) t273 _ A56.out).mono ?_
                          rintro e w' ⟨rfl, ⟨nd, rfl⟩⟩
                          refine ⟨_, rfl, ?_⟩
                          refine hK.out _ _ trivial (fun hHeld => ?_)
                          clear hK K
                          refine norm_ (a' := ?_) ?_ ?_
                          rotate_left
                          ·show Act.put _ (some 124) _ = _
                           simp only [Act.put, List.setIfInBounds_toArray, List.set_cons_zero, List.set_cons_succ, i64_w, i32_w]
                           rfl
                          refine pure_ (i := 12) (N := some 125) (v := ?_) (a' := ?_) #[true, true, true, true, true, true, true, true, true, true, true, true, true, false, false, false, false, false] rfl rfl (any_of HT_.out (by kernel_rfl)) (fun _ _ _ h => h) (Or.inl ⟨by rfl, ?_⟩) ?_ ?_
                          rotate_left
                          ·intro w'
                           go_simp
                           with_reducible rfl
                          rotate_left
                          ·simp only [Act.put, List.setIfInBounds_toArray, List.set_cons_zero, List.set_cons_succ, i64_w, i32_w]
                           rfl
                          refine pure_ (i := 13) (N := some 126) (v := ?_) (a' := ?_) #[true, true, true, true, true, true, true, true, true, true, true, true, true, true, false, false, false, false] rfl rfl (any_of HT_.out (by kernel_rfl)) (fun _ _ _ h => h) (Or.inl ⟨by rfl, ?_⟩) ?_ ?_
                          rotate_left
                          ·intro w'
                           go_simp
                           with_reducible rfl
                          rotate_left
                          ·simp only [Act.put, List.setIfInBounds_toArray, List.set_cons_zero, List.set_cons_succ, i64_w, i32_w]
                           rfl
                          refine one_ (i := 14) (N := some 127) #[true, true, true, true, true, true, true, true, true, true, true, true, true, true, true, false, false, false] rfl rfl (one_of HT_.out (by kernel_rfl)) (by decide) (fun K hK => ?_)
                          refine Kd.R_lit_step (Kd.int .u8) _ 5 ?hg (N := 127) ?hd (xs := ([(wrap64 ((wrap64 (16 * t272)) + t273)) % 256] : List Int)) (inner := [.int .u8 ((wrap64 ((wrap64 (16 * t272)) + t273)) % 256)]) (ok := fun _ => True) (okp := fun _ => True) ?hr ?hp (fun _ hk => hk) trivial (Below.refl _ _) (Nat.le_refl _) (by simp) ?_; (case hd => rfl); (case hg => rfl); (case hr => first | (go_simp; done) | (go_simp; rfl)); (case hp => exact (Reps.one (show Kd.M (Kd.int .u8) _ _ _ ((wrap64 ((wrap64 (16 * t272)) + t273)) % 256) [.int .u8 ((wrap64 ((wrap64 (16 * t272)) + t273)) % 256)] from rfl) (Reps.none _ _)))
                          intro v275 w59 ho60 hb hg_ hnew_
                          clear hg_ hnew_
                          (first | rw [← Ny274.out] at ho60 | (simp only [Int.reduceToNat] at ho60; rw [← Ny274.out] at ho60))
                          have n0_ := Aside0.mk (Kd.R_below (by (with_reducible repeat (first | apply Kd.R_alloc | apply Kd.R_drewN | apply Kd.R_drew)); exact HO_4.out) hb)
                          have n1_ := Aside0.mk (Kd.R_lower ho60 (below_size (by repeat (first | (with_reducible first | exact HB.out | apply below_alloc | apply pw_below_drewN | apply below_drew1) | exact HB.out))))
                          have n2_ := Aside0.mk (below_step (by repeat (first | (with_reducible first | exact HB.out | apply below_alloc | apply pw_below_drewN | apply below_drew1) | exact HB.out)) hb)
                          clear HO_4
                          clear HB
                          have HO_4 := n0_
                          have HO276 := n1_
                          have HB := n2_
                          clear n0_ n1_ n2_
                          clear hb ho60
                          refine hK.out _ _ trivial (fun hHeld => ?_)
                          clear hK K
                          refine norm_ (a' := ?_) ?_ ?_
                          rotate_left
                          ·show Act.put _ (some 127) _ = _
                           simp only [Act.put, List.setIfInBounds_toArray, List.set_cons_zero, List.set_cons_succ, i64_w, i32_w]
                           rfl
                          refine one_ (i := 15) (N := some 128) #[true, true, true, true, true, true, true, true, true, true, true, true, true, true, true, true, false, false] rfl rfl (one_of HT_.out (by kernel_rfl)) (by decide) (fun K hK => ?_)
                          have hcv61 := own_string (P := Try.prog) Try.underlying64 Try.underlying5 Try.underlying9 (Kd.own_of_R HO276.out)
                          refine value_ (w1 := ?_) (v := ?_) (by rfl) rfl ?_ ?_
                          rotate_left 2
                          ·go_simp
                           constructor
                           ·rfl
                           ·rfl
                          clear hcv61
                          refine hK.out _ _ trivial (fun hHeld => ?_)
                          clear hK K
                          refine norm_ (a' := ?_) ?_ ?_
                          rotate_left
                          ·show Act.put _ (some 128) _ = _
                           simp only [Act.put, List.setIfInBounds_toArray, List.set_cons_zero, List.set_cons_succ, i64_w, i32_w]
                           rfl
                          refine pure_ (i := 16) (N := some 129) (v := ?_) (a' := ?_) #[true, true, true, true, true, true, true, true, true, true, true, true, true, true, true, true, true, false] rfl rfl (any_of HT_.out (by kernel_rfl)) (fun _ _ _ h => h) (Or.inl ⟨by rfl, ?_⟩) ?_ ?_
                          rotate_left
                          ·intro w'
                           go_simp
                           with_reducible rfl
                          rotate_left
                          ·simp only [Act.put, List.setIfInBounds_toArray, List.set_cons_zero, List.set_cons_succ, i64_w, i32_w]
                           rfl
                          refine pure_ (i := 17) (N := some 8) (v := ?_) (a' := ?_) #[true, true, true, true, true, true, true, true, true, true, true, true, true, true, true, true, true, true] rfl rfl (any_of HT_.out (by kernel_rfl)) (fun _ _ _ h => h) (Or.inl ⟨by rfl, ?_⟩) ?_ ?_
                          rotate_left
                          ·intro w'
                           go_simp
                           with_reducible rfl
                          rotate_left
                          ·simp only [Act.put, List.setIfInBounds_toArray, List.set_cons_zero, List.set_cons_succ, i64_w, i32_w]
                           rfl
                          refine done_ (done_of HT_.out (by kernel_rfl)) ?_
                          try go_wp2
                          go_roundg kj26
                          case measure => have := HK1.out; have := HJ4.out; have := HJ6.out; have := HJ9.out; have := HJ15.out; have := HJ26.out; omega
                          case rel => exact ⟨(x4_1), (x5_1), (x6_1), (false), (x8_1 ++ (strOfNums y274)), (wrap64 ((ji52) + 1)), (by first | rfl | (simp; done) | (simp [*]; done)), (by first | rfl | (simp; done) | (simp [*]; done)), (by first | rfl | (simp; done) | (simp [*]; done)), (by first | rfl | (simp; done) | (simp [*]; done)), (by first | rfl | (simp; done) | (simp only [← hji52] <;> (first | rfl | simp)) | (simp [*]; done)), H', ⟨by have := HK1.out; have := HJ4.out; have := HJ6.out; have := HJ9.out; have := HJ15.out; have := HJ26.out; omega⟩, ⟨by (with_reducible repeat (first | apply Kd.R_alloc | apply Kd.R_drewN | apply Kd.R_drew)); exact HO_4.out⟩, ⟨by repeat (first | (with_reducible first | exact HB.out | apply below_alloc | apply pw_below_drewN | apply below_drew1) | exact HB.out)⟩⟩
                         ·rw [if_neg c57] at H
                          exact absurd H (by simp)
                        ·rw [if_neg c54] at H
                         exact absurd H (by simp)
                       ·rw [if_neg c53] at H
                        exact absurd H (by simp)
                      ·rw [if_neg c49] at H
                       exact absurd H (by simp)
                     ·rw [if_neg c48] at H
                      exact absurd H (by simp)
                    ·replace c46 := Bool.eq_false_iff.mpr c46
                     subst c46
                     rw [if_neg (show ¬ (false = true) by decide)] at H
                     have HC62 := Aside0.mk H
                     clear H
                     go_upto_region 28 with (fail)
                     go_cut [132] (fun v132 wc => ∃ (kq : Nat) (x132_61 : Bool), v132 = .bool x132_61 ∧ Aside0 (mewsref04_Split.j6 kq a0 x4_1 x5_1 x6_1 false x8_1 x9_1 (bt a0 x9_1) x132_61 = some (r1, r2)) ∧ Aside0 (kq ≤ kj26) ∧ Aside0 (Kd.R Kd.string 9 wc w.heap.size (fun _ => True) u4 x4_1) ∧ Aside0 (Below w.heap.size w wc))
                     case first =>
                      have H := HC62.out
                      clear HC62
                      by_cases c63 : (bt a0 x9_1) = 92
                      ·rw [if_pos c63] at H
                       have c63b0 : ((bt a0 x9_1) == 92) = true := beq_iff_eq.mpr c63
                       have c63b1 : ((bt a0 x9_1) != 92) = false := bne_eq_false_iff_eq.mpr c63
                       clear c63
                       (first | rw [c63b0] | (simp only [i64_w, i32_w]; rw [c63b0]) | skip)
                       by_cases c64 : x5_1 = 34
                       ·rw [if_pos c64] at H
                        have c64b0 : (x5_1 == 34) = true := beq_iff_eq.mpr c64
                        have c64b1 : (x5_1 != 34) = false := bne_eq_false_iff_eq.mpr c64
                        clear c64
                        have H' := Aside0.mk H
                        clear H
                        go_wp2
                        go_meet
                        case rel => exact ⟨_, (decide ((wrap64 (x9_1 + 1)) < (a0.size : Int))), (by first | rfl | (simp; done) | (simp [*]; done)), H', ⟨by have := HK1.out; have := HJ4.out; have := HJ6.out; have := HJ9.out; have := HJ15.out; have := HJ26.out; first | omega | exact Nat.le_refl _⟩, ⟨by (with_reducible repeat (first | apply Kd.R_alloc | apply Kd.R_drewN | apply Kd.R_drew)); exact HO_4.out⟩, ⟨by repeat (first | (with_reducible first | exact HB.out | apply below_alloc | apply pw_below_drewN | apply below_drew1) | exact HB.out)⟩⟩
                       ·rw [if_neg c64] at H
                        have c64b0 : (x5_1 == 34) = false := beq_eq_false_iff_ne.mpr c64
                        have c64b1 : (x5_1 != 34) = true := bne_iff_ne.mpr c64
                        have H' := Aside0.mk H
                        clear H
                        go_wp2
                        go_meet
                        case rel => exact ⟨_, (false), (by first | rfl | (simp; done) | (simp [*]; done)), H', ⟨by have := HK1.out; have := HJ4.out; have := HJ6.out; have := HJ9.out; have := HJ15.out; have := HJ26.out; first | omega | exact Nat.le_refl _⟩, ⟨by (with_reducible repeat (first | apply Kd.R_alloc | apply Kd.R_drewN | apply Kd.R_drew)); exact HO_4.out⟩, ⟨by repeat (first | (with_reducible first | exact HB.out | apply below_alloc | apply pw_below_drewN | apply below_drew1) | exact HB.out)⟩⟩
                      ·rw [if_neg c63] at H
                       have c63b0 : ((bt a0 x9_1) == 92) = false := beq_eq_false_iff_ne.mpr c63
                       have c63b1 : ((bt a0 x9_1) != 92) = true := bne_iff_ne.mpr c63
                       (first | rw [c63b0] | (simp only [i64_w, i32_w]; rw [c63b0]) | skip)
                       have H' := Aside0.mk H
                       clear H
                       go_wp2
                       go_meet
                       case rel => exact ⟨_, (false), (by first | rfl | (simp; done) | (simp [*]; done)), H', ⟨by have := HK1.out; have := HJ4.out; have := HJ6.out; have := HJ9.out; have := HJ15.out; have := HJ26.out; first | omega | exact Nat.le_refl _⟩, ⟨by (with_reducible repeat (first | apply Kd.R_alloc | apply Kd.R_drewN | apply Kd.R_drew)); exact HO_4.out⟩, ⟨by repeat (first | (with_reducible first | exact HB.out | apply below_alloc | apply pw_below_drewN | apply below_drew1) | exact HB.out)⟩⟩
                     case rest => as_aux_lemma =>
                      clear HC62
                      try clear c1
                      try clear c2
                      try clear c2b0
                      try clear p2
                      try clear c3
                      try clear c3b0
                      try clear p3
                      try clear q3
                      try clear hx3
                      try clear c4
                      try clear p4
                      try clear q4
                      try clear hx4
                      try clear c5
                      try clear p5
                      try clear q5
                      try clear hx5
                      try clear c6
                      try clear c6b0
                      try clear c6b1
                      try clear p6
                      try clear hcv6
                      try clear c8
                      try clear c9
                      try clear c11
                      try clear c11b0
                      try clear c11b1
                      try clear c12
                      try clear c13
                      try clear c14
                      try clear c17
                      try clear c17b0
                      try clear c17b1
                      try clear c18
                      try clear c18b0
                      try clear c18b1
                      try clear c19
                      try clear c20
                      try clear c20b0
                      try clear c20b1
                      try clear c21
                      try clear c21b0
                      try clear c21b1
                      try clear c22
                      try clear c22b0
                      try clear c22b1
                      try clear c23
                      try clear c23b0
                      try clear c23b1
                      try clear c25
                      try clear c25b0
                      try clear c25b1
                      try clear c25b2
                      try clear c26
                      try clear c26b0
                      try clear c26b1
                      try clear c28
                      try clear c28b0
                      try clear c28b1
                      try clear c29
                      try clear c29b0
                      try clear c29b1
                      try clear c30
                      try clear c30b0
                      try clear c32
                      try clear c32b0
                      try clear c33
                      try clear c33b0
                      try clear p34
                      try clear q34
                      try clear hx34
                      try clear c35
                      try clear c35b0
                      try clear c35b1
                      try clear c37
                      try clear c37b0
                      try clear c38
                      try clear c38b0
                      try clear p39
                      try clear q39
                      try clear hx39
                      try clear c41
                      try clear c41b0
                      try clear c43
                      try clear c43b0
                      try clear p44
                      try clear q44
                      try clear hx44
                      try clear c46
                      try clear c48
                      try clear c48b0
                      try clear c49
                      try clear c49b0
                      try clear p50
                      try clear q50
                      try clear hx50
                      try clear c53
                      try clear c53b0
                      try clear c54
                      try clear c54b0
                      try clear p55
                      try clear q55
                      try clear hx55
                      try clear c57
                      try clear c57b0
                      try clear c57b1
                      try clear c57b2
                      try clear hcv61
                      try clear c63
                      try clear c63b0
                      try clear c63b1
                      try clear c64
                      try clear c64b0
                      try clear c64b1
                      try clear p64
                      try clear p2
                      try clear p3
                      try clear p34
                      try clear p39
                      try clear p4
                      try clear p44
                      try clear p50
                      try clear p55
                      try clear p6
                      try clear q3
                      try clear q34
                      try clear q39
                      try clear q4
                      try clear q44
                      try clear q50
                      try clear q55
                      obtain ⟨kq, x132_61, rfl, HA, HJ61, HO_4, HB⟩ := hcut
                      cases kq with
                      | zero => exact absurd HA.out (by simp [mewsref04_Split.j6])
                      | succ kj61 =>
                       have H := HA.out
                       clear HA
                       simp only [mewsref04_Split.j6] at H
                       by_cases c65 : x132_61 = true
                       ·subst c65
                        rw [if_pos rfl] at H
                        obtain ⟨ji66, hji66⟩ : ∃ j_ : Int, (wrap64 (x9_1 + 1)) = j_ := ⟨_, rfl⟩
                        replace H : (if 0 ≤ (ji66) then (if (ji66) < (a0.size : Int) then ((mewsref04_turned.f kj61 (bt a0 (ji66))).bind fun t277 => ((some (([t277] : List Int) : List Int)).bind fun y278 => (if x8_1.size + (strOfNums y278).size ≤ 9223372036854775807 then (mewsref04_Split.l0 kj61 a0 x4_1 x5_1 x6_1 false (x8_1 ++ (strOfNums y278)) (wrap64 ((ji66) + 1))) else (none)))) else (none)) else (none)) = some (r1, r2) := by first | (rw [hji66] at H; exact H) | (simp only [hji66] at H ⊢; exact H)
                        have hji66w : (IntKind.i64.wrap (x9_1 + 1)) = ji66 := (i64_w _).trans hji66
                        by_cases c67 : 0 ≤ (ji66)
                        ·rw [if_pos c67] at H
                         have c67b0 : decide (0 ≤ (ji66)) = true := decide_eq_true c67
                         clear c67
                         by_cases c68 : (ji66) < (a0.size : Int)
                         ·rw [if_pos c68] at H
                          have c68b0 : decide ((ji66) < (a0.size : Int)) = true := decide_eq_true c68
                          clear c68
                          replace H := Option.bind_eq_some_iff.mp H
                          obtain ⟨t277, A700, H⟩ := H
                          replace H : ((some (([t277] : List Int) : List Int)).bind fun y278 => (if x8_1.size + (strOfNums y278).size ≤ 9223372036854775807 then (mewsref04_Split.l0 kj61 a0 x4_1 x5_1 x6_1 false (x8_1 ++ (strOfNums y278)) (wrap64 ((ji66) + 1))) else (none))) = some (r1, r2) := H
                          have A70 := Aside0.mk A700
                          clear A700
                          obtain ⟨y278, hy278⟩ : ∃ y_ : List Int, y_ = (([t277] : List Int)) := ⟨_, rfl⟩
                          replace H : (if x8_1.size + (strOfNums y278).size ≤ 9223372036854775807 then (mewsref04_Split.l0 kj61 a0 x4_1 x5_1 x6_1 false (x8_1 ++ (strOfNums y278)) (wrap64 ((ji66) + 1))) else (none)) = some (r1, r2) := by first | (rw [hy278]; with_reducible exact H) | (have H2_ := (Option.bind_some _ _).symm.trans H; rw [hy278]; with_reducible exact H2_) | (have H2_ := (Option.bind_some _ _).symm.trans H; with_reducible exact H2_) | with_reducible exact H | (rw [hy278]; exact H) | exact H
                          have Ny278 := Aside0.mk hy278
                          clear hy278
                          by_cases c71 : x8_1.size + (strOfNums y278).size ≤ 9223372036854775807
                          ·rw [if_pos c71] at H
                           have c71b0 := eq_true c71
                           have c71b1 : decide (x8_1.size + (strOfNums y278).size ≤ 9223372036854775807) = true := decide_eq_true c71
                           try have c71b2 : (9223372036854775807 < x8_1.size + (strOfNums y278).size) = False := eq_false (Nat.not_lt.2 c71)
                           have H' := Aside0.mk H
                           clear H
                           have p69 : 0 ≤ ((ji66) : Int) := of_decide_eq_true (by first | (with_reducible assumption) | assumption)
                           have q69 : (ji66) < (a0.size : Int) := of_decide_eq_true (by first | (with_reducible assumption) | assumption)
                           have hx69 := bt_at a0 (ji66)
                           replace p69 := eq_true p69
                           replace q69 := eq_true q69
                           go_wp2_with (first | ((with_reducible refine gate_callee (f := 38) rfl ?_); refine goesL_ (some 151) rfl rfl Try.func38 (by kernel_rfl) rfl #[.int .u8 (bt a0 (ji66))] rfl (by (try simp only [List.map_toArray, List.map_cons, List.map_nil]); first | done | (simp only [hji66]; rfl) | rfl | (simp only [List.length_drop, List.length_take]; rfl)) ?_; (with_reducible refine (mewsref04_turned.calls kj61 (bt a0 (ji66)) t277 _ A70.out).mono ?_); rintro e w' ⟨rfl, ⟨nd, rfl⟩⟩; refine ⟨_, rfl, ?_⟩) | ((with_reducible refine gate_dst (N := 152) rfl ?_); (try (refine gate_guard (by rfl) ?_; dsimp only)); refine Kd.R_lit (Kd.int .u8) _ 5 ?hg (N := 152) ?hd (xs := ([t277] : List Int)) (inner := [.int .u8 t277]) (ok := fun _ => True) (okp := fun _ => True) ?hr ?hp (fun _ hk => hk) trivial (Below.refl _ _) (Nat.le_refl _) (by simp) ?_; (case hd => rfl); (case hg => rfl); (case hr => first | (go_simp; done) | (go_simp; rfl)); (case hp => exact (Reps.one (show Kd.M (Kd.int .u8) _ _ _ t277 [.int .u8 t277] from rfl) (Reps.none _ _))); intro v279 w72 ho73 hb hg_ hnew_; clear hg_ hnew_; (first | rw [← Ny278.out] at ho73 | (simp only [Int.reduceToNat] at ho73; rw [← Ny278.out] at ho73)); have n0_ := Aside0.mk (Kd.R_below (by (with_reducible repeat (first | apply Kd.R_alloc | apply Kd.R_drewN | apply Kd.R_drew)); exact HO_4.out) hb); have n1_ := Aside0.mk (Kd.R_lower ho73 (below_size (by repeat (first | (with_reducible first | exact HB.out | apply below_alloc | apply pw_below_drewN | apply below_drew1) | exact HB.out)))); have n2_ := Aside0.mk (below_step (by repeat (first | (with_reducible first | exact HB.out | apply below_alloc | apply pw_below_drewN | apply below_drew1) | exact HB.out)) hb); clear HO_4; clear HB; have HO_4 := n0_; have HO280 := n1_; have HB := n2_; clear n0_ n1_ n2_; clear hb ho73; have hcv74 := own_string (P := Try.prog) Try.underlying64 Try.underlying5 Try.underlying9 (Kd.own_of_R HO280.out)))
                           go_roundg kj61
                           case measure => have := HK1.out; have := HJ4.out; have := HJ6.out; have := HJ9.out; have := HJ15.out; have := HJ26.out; have := HJ61.out; omega
                           case rel => exact ⟨(x4_1), (x5_1), (x6_1), (false), (x8_1 ++ (strOfNums y278)), (wrap64 ((ji66) + 1)), (by first | rfl | (simp; done) | (simp [*]; done)), (by first | rfl | (simp; done) | (simp [*]; done)), (by first | rfl | (simp; done) | (simp [*]; done)), (by first | rfl | (simp; done) | (simp [*]; done)), (by first | rfl | (simp; done) | (simp only [← hji66] <;> (first | rfl | simp)) | (simp [*]; done)), H', ⟨by have := HK1.out; have := HJ4.out; have := HJ6.out; have := HJ9.out; have := HJ15.out; have := HJ26.out; have := HJ61.out; omega⟩, ⟨by (with_reducible repeat (first | apply Kd.R_alloc | apply Kd.R_drewN | apply Kd.R_drew)); exact HO_4.out⟩, ⟨by repeat (first | (with_reducible first | exact HB.out | apply below_alloc | apply pw_below_drewN | apply below_drew1) | exact HB.out)⟩⟩
                          ·rw [if_neg c71] at H
                           exact absurd H (by simp)
                         ·rw [if_neg c68] at H
                          exact absurd H (by simp)
                        ·rw [if_neg c67] at H
                         exact absurd H (by simp)
                       ·replace c65 := Bool.eq_false_iff.mpr c65
                        subst c65
                        rw [if_neg (show ¬ (false = true) by decide)] at H
                        by_cases c75 : (bt a0 x9_1) = 92
                        ·rw [if_pos c75] at H
                         have c75b0 : ((bt a0 x9_1) == 92) = true := beq_iff_eq.mpr c75
                         have c75b1 : ((bt a0 x9_1) != 92) = false := bne_eq_false_iff_eq.mpr c75
                         clear c75
                         by_cases c76 : x5_1 = 39
                         ·rw [if_pos c76] at H
                          have c76b0 : (x5_1 == 39) = true := beq_iff_eq.mpr c76
                          have c76b1 : (x5_1 != 39) = false := bne_eq_false_iff_eq.mpr c76
                          clear c76
                          by_cases c77 : (wrap64 (x9_1 + 1)) < (a0.size : Int)
                          ·rw [if_pos c77] at H
                           have c77b0 : decide ((wrap64 (x9_1 + 1)) < (a0.size : Int)) = true := decide_eq_true c77
                           clear c77
                           obtain ⟨ji78, hji78⟩ : ∃ j_ : Int, (wrap64 (x9_1 + 1)) = j_ := ⟨_, rfl⟩
                           replace H : (if 0 ≤ (ji78) then (if (bt a0 (ji78)) = 39 then (if x8_1.size + 1 ≤ 9223372036854775807 then (mewsref04_Split.l0 kj61 a0 x4_1 x5_1 x6_1 false (x8_1 ++ (⟨#[39]⟩ : ByteArray)) (wrap64 ((ji78) + 1))) else (none)) else (if 0 ≤ x9_1 then (if x9_1 ≤ (ji78) then (if (ji78) ≤ (a0.size : Int) then (if x8_1.size + (a0.extract (x9_1 : Int).toNat ((ji78) : Int).toNat).size ≤ 9223372036854775807 then (mewsref04_Split.l0 kj61 a0 x4_1 x5_1 x6_1 false (x8_1 ++ (a0.extract (x9_1 : Int).toNat ((ji78) : Int).toNat)) ji78) else (none)) else (none)) else (none)) else (none))) else (none)) = some (r1, r2) := by first | (rw [hji78] at H; exact H) | (simp only [hji78] at H ⊢; exact H)
                           (try rw [hji78] at c77b0)
                           have hji78w : (IntKind.i64.wrap (x9_1 + 1)) = ji78 := (i64_w _).trans hji78
                           by_cases c79 : 0 ≤ (ji78)
                           ·rw [if_pos c79] at H
                            have c79b0 : decide (0 ≤ (ji78)) = true := decide_eq_true c79
                            clear c79
                            by_cases c81 : (bt a0 (ji78)) = 39
                            ·rw [if_pos c81] at H
                             have c81b0 : ((bt a0 (ji78)) == 39) = true := beq_iff_eq.mpr c81
                             have c81b1 : ((bt a0 (ji78)) != 39) = false := bne_eq_false_iff_eq.mpr c81
                             clear c81
                             by_cases c82 : x8_1.size + 1 ≤ 9223372036854775807
                             ·rw [if_pos c82] at H
                              have c82b0 := eq_true c82
                              have c82b1 : decide (x8_1.size + 1 ≤ 9223372036854775807) = true := decide_eq_true c82
                              try have c82b2 : (9223372036854775807 < x8_1.size + 1) = False := eq_false (Nat.not_lt.2 c82)
                              have H' := Aside0.mk H
                              clear H
                              have p80 : 0 ≤ ((ji78) : Int) := of_decide_eq_true (by first | (with_reducible assumption) | assumption)
                              have q80 : (ji78) < (a0.size : Int) := of_decide_eq_true (by first | (with_reducible assumption) | assumption)
                              have hx80 := bt_at a0 (ji78)
                              replace p80 := eq_true p80
                              replace q80 := eq_true q80
                              go_wp2
                              go_roundg kj61
                              case measure => have := HK1.out; have := HJ4.out; have := HJ6.out; have := HJ9.out; have := HJ15.out; have := HJ26.out; have := HJ61.out; omega
                              case rel => exact ⟨(x4_1), (x5_1), (x6_1), (false), (x8_1 ++ (⟨#[39]⟩ : ByteArray)), (wrap64 ((ji78) + 1)), (by first | rfl | (simp; done) | (simp [*]; done)), (by first | rfl | (simp; done) | (simp [*]; done)), (by first | rfl | (simp; done) | (simp [*]; done)), (by first | rfl | (simp; done) | (simp [*]; done)), (by first | rfl | (simp; done) | (simp only [← hji78] <;> (first | rfl | simp)) | (simp [*]; done)), H', ⟨by have := HK1.out; have := HJ4.out; have := HJ6.out; have := HJ9.out; have := HJ15.out; have := HJ26.out; have := HJ61.out; omega⟩, ⟨by (with_reducible repeat (first | apply Kd.R_alloc | apply Kd.R_drewN | apply Kd.R_drew)); exact HO_4.out⟩, ⟨by repeat (first | (with_reducible first | exact HB.out | apply below_alloc | apply pw_below_drewN | apply below_drew1) | exact HB.out)⟩⟩
                             ·rw [if_neg c82] at H
                              exact absurd H (by simp)
                            ·rw [if_neg c81] at H
                             have c81b0 : ((bt a0 (ji78)) == 39) = false := beq_eq_false_iff_ne.mpr c81
                             have c81b1 : ((bt a0 (ji78)) != 39) = true := bne_iff_ne.mpr c81
                             by_cases c83 : 0 ≤ x9_1
                             ·rw [if_pos c83] at H
                              have c83b0 := eq_true c83
                              have c83b1 : decide (0 ≤ x9_1) = true := decide_eq_true c83
                              clear c83
                              by_cases c84 : x9_1 ≤ (ji78)
                              ·rw [if_pos c84] at H
                               have c84b0 := eq_true c84
                               have c84b1 : decide (x9_1 ≤ (ji78)) = true := decide_eq_true c84
                               clear c84
                               by_cases c85 : (ji78) ≤ (a0.size : Int)
                               ·rw [if_pos c85] at H
                                have c85b0 := eq_true c85
                                have c85b1 : decide ((ji78) ≤ (a0.size : Int)) = true := decide_eq_true c85
                                clear c85
                                obtain ⟨ji86, hji86⟩ : ∃ j_ : ByteArray, (a0.extract (x9_1 : Int).toNat ((ji78) : Int).toNat) = j_ := ⟨_, rfl⟩
                                replace H : (if x8_1.size + (ji86).size ≤ 9223372036854775807 then (mewsref04_Split.l0 kj61 a0 x4_1 x5_1 x6_1 false (x8_1 ++ (ji86)) ji78) else (none)) = some (r1, r2) := by first | (rw [hji86] at H; exact H) | (simp only [hji86] at H ⊢; exact H)
                                by_cases c87 : x8_1.size + (ji86).size ≤ 9223372036854775807
                                ·rw [if_pos c87] at H
                                 have c87b0 := eq_true c87
                                 have c87b1 : decide (x8_1.size + (ji86).size ≤ 9223372036854775807) = true := decide_eq_true c87
                                 try have c87b2 : (9223372036854775807 < x8_1.size + (ji86).size) = False := eq_false (Nat.not_lt.2 c87)
                                 have H' := Aside0.mk H
                                 clear H
                                 have p80 : 0 ≤ ((ji78) : Int) := of_decide_eq_true (by first | (with_reducible assumption) | assumption)
                                 have q80 : (ji78) < (a0.size : Int) := of_decide_eq_true (by first | (with_reducible assumption) | assumption)
                                 have hx80 := bt_at a0 (ji78)
                                 replace p80 := eq_true p80
                                 replace q80 := eq_true q80
                                 go_wp2
                                 go_roundg kj61
                                 case measure => have := HK1.out; have := HJ4.out; have := HJ6.out; have := HJ9.out; have := HJ15.out; have := HJ26.out; have := HJ61.out; omega
                                 case rel => exact ⟨(x4_1), (x5_1), (x6_1), (false), (x8_1 ++ (ji86)), (ji78), (by first | rfl | (simp; done) | (simp [*]; done)), (by first | rfl | (simp; done) | (simp [*]; done)), (by first | rfl | (simp; done) | (simp [*]; done)), (by first | rfl | (simp; done) | (simp only [← hji86] <;> (first | rfl | simp)) | (simp [*]; done)), (by first | rfl | (simp; done) | (simp only [← hji78] <;> (first | rfl | simp)) | (simp [*]; done)), H', ⟨by have := HK1.out; have := HJ4.out; have := HJ6.out; have := HJ9.out; have := HJ15.out; have := HJ26.out; have := HJ61.out; omega⟩, ⟨by (with_reducible repeat (first | apply Kd.R_alloc | apply Kd.R_drewN | apply Kd.R_drew)); exact HO_4.out⟩, ⟨by repeat (first | (with_reducible first | exact HB.out | apply below_alloc | apply pw_below_drewN | apply below_drew1) | exact HB.out)⟩⟩
                                ·rw [if_neg c87] at H
                                 exact absurd H (by simp)
                               ·rw [if_neg c85] at H
                                exact absurd H (by simp)
                              ·rw [if_neg c84] at H
                               exact absurd H (by simp)
                             ·rw [if_neg c83] at H
                              exact absurd H (by simp)
                           ·rw [if_neg c79] at H
                            exact absurd H (by simp)
                          ·rw [if_neg c77] at H
                           have c77b0 : decide ((wrap64 (x9_1 + 1)) < (a0.size : Int)) = false := decide_eq_false c77
                           clear c77
                           by_cases c88 : 0 ≤ x9_1
                           ·rw [if_pos c88] at H
                            have c88b0 := eq_true c88
                            have c88b1 : decide (0 ≤ x9_1) = true := decide_eq_true c88
                            clear c88
                            by_cases c89 : x9_1 ≤ (wrap64 (x9_1 + 1))
                            ·rw [if_pos c89] at H
                             have c89b0 := eq_true c89
                             have c89b1 : decide (x9_1 ≤ (wrap64 (x9_1 + 1))) = true := decide_eq_true c89
                             by_cases c90 : (wrap64 (x9_1 + 1)) ≤ (a0.size : Int)
                             ·rw [if_pos c90] at H
                              have c90b0 := eq_true c90
                              have c90b1 : decide ((wrap64 (x9_1 + 1)) ≤ (a0.size : Int)) = true := decide_eq_true c90
                              obtain ⟨ji91, hji91⟩ : ∃ j_ : ByteArray, (a0.extract (x9_1 : Int).toNat ((wrap64 (x9_1 + 1)) : Int).toNat) = j_ := ⟨_, rfl⟩
                              replace H : (if x8_1.size + (ji91).size ≤ 9223372036854775807 then (mewsref04_Split.l0 kj61 a0 x4_1 x5_1 x6_1 false (x8_1 ++ (ji91)) (wrap64 (x9_1 + 1))) else (none)) = some (r1, r2) := by first | (rw [hji91] at H; exact H) | (simp only [hji91] at H ⊢; exact H)
                              by_cases c92 : x8_1.size + (ji91).size ≤ 9223372036854775807
                              ·rw [if_pos c92] at H
                               have c92b0 := eq_true c92
                               have c92b1 : decide (x8_1.size + (ji91).size ≤ 9223372036854775807) = true := decide_eq_true c92
                               try have c92b2 : (9223372036854775807 < x8_1.size + (ji91).size) = False := eq_false (Nat.not_lt.2 c92)
                               have H' := Aside0.mk H
                               clear H
                               go_wp2
                               go_roundg kj61
                               case measure => have := HK1.out; have := HJ4.out; have := HJ6.out; have := HJ9.out; have := HJ15.out; have := HJ26.out; have := HJ61.out; omega
                               case rel => exact ⟨(x4_1), (x5_1), (x6_1), (false), (x8_1 ++ (ji91)), (wrap64 (x9_1 + 1)), (by first | rfl | (simp; done) | (simp [*]; done)), (by first | rfl | (simp; done) | (simp [*]; done)), (by first | rfl | (simp; done) | (simp [*]; done)), (by first | rfl | (simp; done) | (simp only [← hji91] <;> (first | rfl | simp)) | (simp [*]; done)), (by first | rfl | (simp; done) | (simp [*]; done)), H', ⟨by have := HK1.out; have := HJ4.out; have := HJ6.out; have := HJ9.out; have := HJ15.out; have := HJ26.out; have := HJ61.out; omega⟩, ⟨by (with_reducible repeat (first | apply Kd.R_alloc | apply Kd.R_drewN | apply Kd.R_drew)); exact HO_4.out⟩, ⟨by repeat (first | (with_reducible first | exact HB.out | apply below_alloc | apply pw_below_drewN | apply below_drew1) | exact HB.out)⟩⟩
                              ·rw [if_neg c92] at H
                               exact absurd H (by simp)
                             ·rw [if_neg c90] at H
                              exact absurd H (by simp)
                            ·rw [if_neg c89] at H
                             exact absurd H (by simp)
                           ·rw [if_neg c88] at H
                            exact absurd H (by simp)
                         ·rw [if_neg c76] at H
                          have c76b0 : (x5_1 == 39) = false := beq_eq_false_iff_ne.mpr c76
                          have c76b1 : (x5_1 != 39) = true := bne_iff_ne.mpr c76
                          by_cases c93 : 0 ≤ x9_1
                          ·rw [if_pos c93] at H
                           have c93b0 := eq_true c93
                           have c93b1 : decide (0 ≤ x9_1) = true := decide_eq_true c93
                           clear c93
                           by_cases c94 : x9_1 ≤ (wrap64 (x9_1 + 1))
                           ·rw [if_pos c94] at H
                            have c94b0 := eq_true c94
                            have c94b1 : decide (x9_1 ≤ (wrap64 (x9_1 + 1))) = true := decide_eq_true c94
                            by_cases c95 : (wrap64 (x9_1 + 1)) ≤ (a0.size : Int)
                            ·rw [if_pos c95] at H
                             have c95b0 := eq_true c95
                             have c95b1 : decide ((wrap64 (x9_1 + 1)) ≤ (a0.size : Int)) = true := decide_eq_true c95
                             obtain ⟨ji96, hji96⟩ : ∃ j_ : ByteArray, (a0.extract (x9_1 : Int).toNat ((wrap64 (x9_1 + 1)) : Int).toNat) = j_ := ⟨_, rfl⟩
                             replace H : (if x8_1.size + (ji96).size ≤ 9223372036854775807 then (mewsref04_Split.l0 kj61 a0 x4_1 x5_1 x6_1 false (x8_1 ++ (ji96)) (wrap64 (x9_1 + 1))) else (none)) = some (r1, r2) := by first | (rw [hji96] at H; exact H) | (simp only [hji96] at H ⊢; exact H)
                             by_cases c97 : x8_1.size + (ji96).size ≤ 9223372036854775807
                             ·rw [if_pos c97] at H
                              have c97b0 := eq_true c97
                              have c97b1 : decide (x8_1.size + (ji96).size ≤ 9223372036854775807) = true := decide_eq_true c97
                              try have c97b2 : (9223372036854775807 < x8_1.size + (ji96).size) = False := eq_false (Nat.not_lt.2 c97)
                              have H' := Aside0.mk H
                              clear H
                              go_wp2
                              go_roundg kj61
                              case measure => have := HK1.out; have := HJ4.out; have := HJ6.out; have := HJ9.out; have := HJ15.out; have := HJ26.out; have := HJ61.out; omega
                              case rel => exact ⟨(x4_1), (x5_1), (x6_1), (false), (x8_1 ++ (ji96)), (wrap64 (x9_1 + 1)), (by first | rfl | (simp; done) | (simp [*]; done)), (by first | rfl | (simp; done) | (simp [*]; done)), (by first | rfl | (simp; done) | (simp [*]; done)), (by first | rfl | (simp; done) | (simp only [← hji96] <;> (first | rfl | simp)) | (simp [*]; done)), (by first | rfl | (simp; done) | (simp [*]; done)), H', ⟨by have := HK1.out; have := HJ4.out; have := HJ6.out; have := HJ9.out; have := HJ15.out; have := HJ26.out; have := HJ61.out; omega⟩, ⟨by (with_reducible repeat (first | apply Kd.R_alloc | apply Kd.R_drewN | apply Kd.R_drew)); exact HO_4.out⟩, ⟨by repeat (first | (with_reducible first | exact HB.out | apply below_alloc | apply pw_below_drewN | apply below_drew1) | exact HB.out)⟩⟩
                             ·rw [if_neg c97] at H
                              exact absurd H (by simp)
                            ·rw [if_neg c95] at H
                             exact absurd H (by simp)
                           ·rw [if_neg c94] at H
                            exact absurd H (by simp)
                          ·rw [if_neg c93] at H
                           exact absurd H (by simp)
                        ·rw [if_neg c75] at H
                         have c75b0 : ((bt a0 x9_1) == 92) = false := beq_eq_false_iff_ne.mpr c75
                         have c75b1 : ((bt a0 x9_1) != 92) = true := bne_iff_ne.mpr c75
                         by_cases c98 : 0 ≤ x9_1
                         ·rw [if_pos c98] at H
                          have c98b0 := eq_true c98
                          have c98b1 : decide (0 ≤ x9_1) = true := decide_eq_true c98
                          clear c98
                          by_cases c99 : x9_1 ≤ (wrap64 (x9_1 + 1))
                          ·rw [if_pos c99] at H
                           have c99b0 := eq_true c99
                           have c99b1 : decide (x9_1 ≤ (wrap64 (x9_1 + 1))) = true := decide_eq_true c99
                           by_cases c100 : (wrap64 (x9_1 + 1)) ≤ (a0.size : Int)
                           ·rw [if_pos c100] at H
                            have c100b0 := eq_true c100
                            have c100b1 : decide ((wrap64 (x9_1 + 1)) ≤ (a0.size : Int)) = true := decide_eq_true c100
                            obtain ⟨ji101, hji101⟩ : ∃ j_ : ByteArray, (a0.extract (x9_1 : Int).toNat ((wrap64 (x9_1 + 1)) : Int).toNat) = j_ := ⟨_, rfl⟩
                            replace H : (if x8_1.size + (ji101).size ≤ 9223372036854775807 then (mewsref04_Split.l0 kj61 a0 x4_1 x5_1 x6_1 false (x8_1 ++ (ji101)) (wrap64 (x9_1 + 1))) else (none)) = some (r1, r2) := by first | (rw [hji101] at H; exact H) | (simp only [hji101] at H ⊢; exact H)
                            by_cases c102 : x8_1.size + (ji101).size ≤ 9223372036854775807
                            ·rw [if_pos c102] at H
                             have c102b0 := eq_true c102
                             have c102b1 : decide (x8_1.size + (ji101).size ≤ 9223372036854775807) = true := decide_eq_true c102
                             try have c102b2 : (9223372036854775807 < x8_1.size + (ji101).size) = False := eq_false (Nat.not_lt.2 c102)
                             have H' := Aside0.mk H
                             clear H
                             go_wp2
                             go_roundg kj61
                             case measure => have := HK1.out; have := HJ4.out; have := HJ6.out; have := HJ9.out; have := HJ15.out; have := HJ26.out; have := HJ61.out; omega
                             case rel => exact ⟨(x4_1), (x5_1), (x6_1), (false), (x8_1 ++ (ji101)), (wrap64 (x9_1 + 1)), (by first | rfl | (simp; done) | (simp [*]; done)), (by first | rfl | (simp; done) | (simp [*]; done)), (by first | rfl | (simp; done) | (simp [*]; done)), (by first | rfl | (simp; done) | (simp only [← hji101] <;> (first | rfl | simp)) | (simp [*]; done)), (by first | rfl | (simp; done) | (simp [*]; done)), H', ⟨by have := HK1.out; have := HJ4.out; have := HJ6.out; have := HJ9.out; have := HJ15.out; have := HJ26.out; have := HJ61.out; omega⟩, ⟨by (with_reducible repeat (first | apply Kd.R_alloc | apply Kd.R_drewN | apply Kd.R_drew)); exact HO_4.out⟩, ⟨by repeat (first | (with_reducible first | exact HB.out | apply below_alloc | apply pw_below_drewN | apply below_drew1) | exact HB.out)⟩⟩
                            ·rw [if_neg c102] at H
                             exact absurd H (by simp)
                           ·rw [if_neg c100] at H
                            exact absurd H (by simp)
                          ·rw [if_neg c99] at H
                           exact absurd H (by simp)
                         ·rw [if_neg c98] at H
                          exact absurd H (by simp)
    ·rw [if_neg c3] at H
     exact absurd H (by simp)
   ·rw [if_neg c2] at H
    have c2b0 : decide (x9_1 < (a0.size : Int)) = false := decide_eq_false c2
    clear c2
    by_cases c103 : x5_1 = 0
    ·rw [if_pos c103] at H
     have c103b0 : (x5_1 == 0) = true := beq_iff_eq.mpr c103
     have c103b1 : (x5_1 != 0) = false := bne_eq_false_iff_eq.mpr c103
     clear c103
     by_cases c104 : x6_1 = true
     ·subst c104
      rw [if_pos rfl] at H
      by_cases c105 : x4_1.length < 8796093022208
      ·rw [if_pos c105] at H
       have LMc105 := Aside0.mk c105
       clear c105
       obtain ⟨y281, hy281⟩ : ∃ y_ : List ByteArray, y_ = (x4_1 ++ [x8_1]) := ⟨_, rfl⟩
       replace H : (some (y281, true)) = some (r1, r2) := by first | (rw [hy281]; with_reducible exact H) | (have H2_ := (Option.bind_some _ _).symm.trans H; rw [hy281]; with_reducible exact H2_) | (have H2_ := (Option.bind_some _ _).symm.trans H; with_reducible exact H2_) | with_reducible exact H | (rw [hy281]; exact H) | exact H
       have Ny281 := Aside0.mk hy281
       clear hy281
       simp only [Option.some.injEq, Prod.mk.injEq] at H
       obtain ⟨rfl, rfl⟩ := H
       go_wp2_with (first | ((with_reducible refine gate_builtin (b := .append) (xs := #[.tmp 185, .tmp 187]) rfl ?_); (try (refine gate_guard (by rfl) ?_; dsimp only)); at_builtin; refine Kd.R_append Kd.string (w0 := w) w.heap.size rfl (.tmp 185) (.tmp 187) 45 9 (.string ⟨#[]⟩) 16 rfl Try.underlying45 info9 rfl (by decide) (by omega) u4 x4_1 x8_1 [.string x8_1] (fun _ => True) (fun _ => False) rfl rfl ?aP (fun _ hk => hk.elim) ?aF ?aO ?aB ?aS ?aL ?_; (case aP => exact rfl); (case aB => exact (by repeat (first | (with_reducible first | exact HB.out | apply below_alloc | apply pw_below_drewN | apply below_drew1) | exact HB.out))); (case aF => exact (fun _ _ => trivial)); (case aO => exact (by (with_reducible repeat (first | apply Kd.R_alloc | apply Kd.R_drewN | apply Kd.R_drew)); exact HO_4.out)); (case aS => exact (below_size (by repeat (first | (with_reducible first | exact HB.out | apply below_alloc | apply pw_below_drewN | apply below_drew1) | exact HB.out)))); (case aL => have := LMc105.out; omega); intro v282 w106 ho hb hg hat; rw [← Ny281.out] at ho; have n0_ := Aside0.mk (hb); have n1_ := Aside0.mk (ho); clear HB; clear HO_4; have HB := n0_; have HO283 := n1_; clear n0_ n1_; clear ho hb hg hat))
       go_ret2
       exact ⟨_, by first | rfl | (simp [errW_none, errW_some] <;> rfl) | (simp [*, errW_none, errW_some] <;> rfl), by (with_reducible repeat (first | apply Kd.R_alloc | apply Kd.R_drewN | apply Kd.R_drew)); exact HO283.out, by repeat (first | (with_reducible first | exact HB.out | apply below_alloc | apply pw_below_drewN | apply below_drew1) | exact HB.out)⟩
      ·rw [if_neg c105] at H
       exact absurd H (by simp)
     ·replace c104 := Bool.eq_false_iff.mpr c104
      subst c104
      rw [if_neg (show ¬ (false = true) by decide)] at H
      simp only [Option.some.injEq, Prod.mk.injEq] at H
      obtain ⟨rfl, rfl⟩ := H
      go_wp2
      go_ret2
      exact ⟨_, by first | rfl | (simp [errW_none, errW_some] <;> rfl) | (simp [*, errW_none, errW_some] <;> rfl), by (with_reducible repeat (first | apply Kd.R_alloc | apply Kd.R_drewN | apply Kd.R_drew)); exact HO_4.out, by repeat (first | (with_reducible first | exact HB.out | apply below_alloc | apply pw_below_drewN | apply below_drew1) | exact HB.out)⟩
    ·rw [if_neg c103] at H
     have c103b0 : (x5_1 == 0) = false := beq_eq_false_iff_ne.mpr c103
     have c103b1 : (x5_1 != 0) = true := bne_iff_ne.mpr c103
     simp only [Option.some.injEq, Prod.mk.injEq] at H
     obtain ⟨rfl, rfl⟩ := H
     go_wp2
     go_ret2
     exact ⟨_, by first | rfl | (simp [errW_none, errW_some] <;> rfl) | (simp [*, errW_none, errW_some] <;> rfl), by first | exact Kd.R_nil _ _ _ _ _ | exact Kd.N_nil _ _ _ _ _ | exact Kd.V_nil _ _ _ _ _ | exact Kd.Q_nil _ _ _ _ _ | exact Kd.S_nil _ _ _ _ _, by repeat (first | (with_reducible first | exact HB.out | apply below_alloc | apply pw_below_drewN | apply below_drew1) | exact HB.out)⟩

end Go.Proofs.Ytehnogggokfcaaa.X
