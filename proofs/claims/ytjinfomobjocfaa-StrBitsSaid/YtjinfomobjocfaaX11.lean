-- Written by wip/tool/xprint.py of this work (a front end of its own to the kit's printer): the functions of the seat Ytjinfomobjocfaa as plain Lean functions, and what the Go code's calls come to. Lean checks it.
import Derived.Test.YtjinfomobjocfaaX0
import Derived.Test.YtjinfomobjocfaaX4
import Derived.Test.YtjinfomobjocfaaX5
import Derived.Test.YtjinfomobjocfaaX7
namespace Go.Proofs.Ytjinfomobjocfaa.X
open Go.RowKit Go.Proofs.YtjinfomobjocfaaW.PrintWords Go.Proofs.YtjinfomobjocfaaW.PrintLast Go.Proofs.YtjinfomobjocfaaW.PrintMore
attribute [local go_sem] max2_int min2_int max_two min_two max_three min_three max_four min_four   -- for this text's walks alone
set_option linter.unusedVariables false
set_option linter.unusedSimpArgs false

/-! ### mewslaw20_StrBack: function 5 -/
mutual
def mewslaw20_StrBack.j0 : Nat → ByteArray → ByteArray → Int → Bool → Option (Bool)
  | 0, _, _, _, _ => none
  | k + 1, x0, x1, x2, x20 => if x20 = true then ((mewslaw20_alive.f k).bind fun t163 => (some t163)) else ((str_Set.f x0 (wrap64 (Int.tmod (IntKind.u64.wrap (x2)) 2000)) x1).bind fun bt164 => (if bt164.2 = 0 then (if (bt164.1.size : Int) = (mx (x0.size : Int) (wrap64 ((wrap64 (Int.tmod (IntKind.u64.wrap (x2)) 2000)) + (x1.size : Int)))) then ((str_Get.f k bt164.1 (wrap64 (Int.tmod (IntKind.u64.wrap (x2)) 2000)) (wrap64 ((wrap64 ((wrap64 (Int.tmod (IntKind.u64.wrap (x2)) 2000)) + (x1.size : Int))) - 1))).bind fun t166 => (mewslaw20_StrBack.j1 k x0 x1 (wrap64 (Int.tmod (IntKind.u64.wrap (x2)) 2000)) bt164.1 (t166.toList != x1.toList))) else (mewslaw20_StrBack.j1 k x0 x1 (wrap64 (Int.tmod (IntKind.u64.wrap (x2)) 2000)) bt164.1 true)) else (mewslaw20_StrBack.j1 k x0 x1 (wrap64 (Int.tmod (IntKind.u64.wrap (x2)) 2000)) bt164.1 true)))
def mewslaw20_StrBack.j1 : Nat → ByteArray → ByteArray → Int → ByteArray → Bool → Option (Bool)
  | 0, _, _, _, _, _ => none
  | k + 1, x0, x1, x7, x8, x58 => if x58 = true then (some false) else (mewslaw20_StrBack.l0 k x0 x1 x7 x8 (x8.size : Int) 0)
def mewslaw20_StrBack.l0 : Nat → ByteArray → ByteArray → Int → ByteArray → Int → Int → Option (Bool)
  | 0, _, _, _, _, _, _ => none
  | k + 1, x0, x1, x7, x8, x60, x61 => if x61 < x60 then (if x61 < (x0.size : Int) then (if 0 ≤ x61 then (if x61 < x7 then (if x61 < (x8.size : Int) then (if (bt x8 x61) = (bt x0 x61) then (mewslaw20_StrBack.l0 k x0 x1 x7 x8 x60 (wrap64 (x61 + 1))) else (some false)) else (none)) else (if x61 ≥ (wrap64 (x7 + (x1.size : Int))) then (if x61 < (x8.size : Int) then (if (bt x8 x61) = (bt x0 x61) then (mewslaw20_StrBack.l0 k x0 x1 x7 x8 x60 (wrap64 (x61 + 1))) else (some false)) else (none)) else (mewslaw20_StrBack.l0 k x0 x1 x7 x8 x60 (wrap64 (x61 + 1))))) else (none)) else (if x61 < x7 then (if 0 ≤ x61 then (if x61 < (x8.size : Int) then (if (bt x8 x61) = 0 then (mewslaw20_StrBack.l0 k x0 x1 x7 x8 x60 (wrap64 (x61 + 1))) else (some false)) else (none)) else (none)) else (if x61 ≥ (wrap64 (x7 + (x1.size : Int))) then (if 0 ≤ x61 then (if x61 < (x8.size : Int) then (if (bt x8 x61) = 0 then (mewslaw20_StrBack.l0 k x0 x1 x7 x8 x60 (wrap64 (x61 + 1))) else (some false)) else (none)) else (none)) else (mewslaw20_StrBack.l0 k x0 x1 x7 x8 x60 (wrap64 (x61 + 1)))))) else ((str_Append.f x0 x1).bind fun bt167 => (if bt167.2 = 0 then ((str_Get.f k bt167.1 (x0.size : Int) (-1)).bind fun t169 => (if t169.toList = x1.toList then ((mewslaw20_alive.f k).bind fun t170 => (some t170)) else (some false))) else (some false)))
end
def mewslaw20_StrBack.f (k : Nat) (a0 : ByteArray) (a1 : ByteArray) (a2 : Int) : Option (Bool) := (mewslaw20_far.f a0 a1 0).bind fun t162 => (if t162 = true then (mewslaw20_StrBack.j0 k a0 a1 a2 true) else (mewslaw20_StrBack.j0 k a0 a1 a2 (a1.toList == ([] : List UInt8))))
theorem mewslaw20_StrBack.mono_l : ∀ k, (∀ y0 y1 y2 y3, LeO (mewslaw20_StrBack.j0 k y0 y1 y2 y3) (mewslaw20_StrBack.j0 (k + 1) y0 y1 y2 y3)) ∧ (∀ y0 y1 y2 y3 y4, LeO (mewslaw20_StrBack.j1 k y0 y1 y2 y3 y4) (mewslaw20_StrBack.j1 (k + 1) y0 y1 y2 y3 y4)) ∧ (∀ y0 y1 y2 y3 y4 y5, LeO (mewslaw20_StrBack.l0 k y0 y1 y2 y3 y4 y5) (mewslaw20_StrBack.l0 (k + 1) y0 y1 y2 y3 y4 y5))
  | 0 => ⟨fun _ _ _ _ r h => by simp [mewslaw20_StrBack.j0] at h, fun _ _ _ _ _ r h => by simp [mewslaw20_StrBack.j1] at h, fun _ _ _ _ _ _ r h => by simp [mewslaw20_StrBack.l0] at h⟩
  | k + 1 => by
    obtain ⟨ih0, ih1, ih2⟩ := mewslaw20_StrBack.mono_l k
    refine ⟨?_, ?_, ?_⟩
    · intro y0 y1 y2 y3
      unfold mewslaw20_StrBack.j0
      repeat' first
      | (with_reducible exact ih0 _ _ _ _)
      | (with_reducible exact ih1 _ _ _ _ _)
      | (with_reducible exact ih2 _ _ _ _ _ _)
      | (with_reducible exact mewslaw20_alive.mono _)
      | (with_reducible exact str_Get.mono _ _ _ _)
      | (with_reducible exact LeO.refl _)
      | (with_reducible exact LeO.none _)
      | (with_reducible refine LeO.ite ?_ ?_)
      | (with_reducible refine LeO.bind ?_ (fun _ => ?_))
      | exact ih0 _ _ _ _
      | exact ih1 _ _ _ _ _
      | exact ih2 _ _ _ _ _ _
      | exact mewslaw20_alive.mono _
      | exact str_Get.mono _ _ _ _
      | exact LeO.none _
      | refine LeO.ite ?_ ?_
      | refine LeO.bind ?_ (fun _ => ?_)
    · intro y0 y1 y2 y3 y4
      unfold mewslaw20_StrBack.j1
      repeat' first
      | (with_reducible exact ih0 _ _ _ _)
      | (with_reducible exact ih1 _ _ _ _ _)
      | (with_reducible exact ih2 _ _ _ _ _ _)
      | (with_reducible exact mewslaw20_alive.mono _)
      | (with_reducible exact str_Get.mono _ _ _ _)
      | (with_reducible exact LeO.refl _)
      | (with_reducible exact LeO.none _)
      | (with_reducible refine LeO.ite ?_ ?_)
      | (with_reducible refine LeO.bind ?_ (fun _ => ?_))
      | exact ih0 _ _ _ _
      | exact ih1 _ _ _ _ _
      | exact ih2 _ _ _ _ _ _
      | exact mewslaw20_alive.mono _
      | exact str_Get.mono _ _ _ _
      | exact LeO.none _
      | refine LeO.ite ?_ ?_
      | refine LeO.bind ?_ (fun _ => ?_)
    · intro y0 y1 y2 y3 y4 y5
      unfold mewslaw20_StrBack.l0
      repeat' first
      | (with_reducible exact ih0 _ _ _ _)
      | (with_reducible exact ih1 _ _ _ _ _)
      | (with_reducible exact ih2 _ _ _ _ _ _)
      | (with_reducible exact mewslaw20_alive.mono _)
      | (with_reducible exact str_Get.mono _ _ _ _)
      | (with_reducible exact LeO.refl _)
      | (with_reducible exact LeO.none _)
      | (with_reducible refine LeO.ite ?_ ?_)
      | (with_reducible refine LeO.bind ?_ (fun _ => ?_))
      | exact ih0 _ _ _ _
      | exact ih1 _ _ _ _ _
      | exact ih2 _ _ _ _ _ _
      | exact mewslaw20_alive.mono _
      | exact str_Get.mono _ _ _ _
      | exact LeO.none _
      | refine LeO.ite ?_ ?_
      | refine LeO.bind ?_ (fun _ => ?_)
theorem mewslaw20_StrBack.mono : ∀ a0 a1 a2 k, LeO (mewslaw20_StrBack.f k a0 a1 a2) (mewslaw20_StrBack.f (k + 1) a0 a1 a2) := by
  intro a0 a1 a2 k
  obtain ⟨ih0, ih1, ih2⟩ := mewslaw20_StrBack.mono_l k
  unfold mewslaw20_StrBack.f
  repeat' first
      | (with_reducible exact ih0 _ _ _ _)
      | (with_reducible exact ih1 _ _ _ _ _)
      | (with_reducible exact ih2 _ _ _ _ _ _)
      | (with_reducible exact mewslaw20_alive.mono _)
      | (with_reducible exact str_Get.mono _ _ _ _)
      | (with_reducible exact LeO.refl _)
      | (with_reducible exact LeO.none _)
      | (with_reducible refine LeO.ite ?_ ?_)
      | (with_reducible refine LeO.bind ?_ (fun _ => ?_))
      | exact ih0 _ _ _ _
      | exact ih1 _ _ _ _ _
      | exact ih2 _ _ _ _ _ _
      | exact mewslaw20_alive.mono _
      | exact str_Get.mono _ _ _ _
      | exact LeO.none _
      | refine LeO.ite ?_ ?_
      | refine LeO.bind ?_ (fun _ => ?_)
set_option maxHeartbeats 8000000 in
set_option maxRecDepth 100000 in
theorem mewslaw20_StrBack.calls (k : Nat) (a0 : ByteArray) (a1 : ByteArray) (a2 : Int) (r : Bool) (w : World) (hr_ : Aside0 (r = true)) (h : mewslaw20_StrBack.f k a0 a1 a2 = some r) :
    Calls Try.prog 5 #[.string a0, .string a1, .int .i64 a2] w fun e w' => e = .returned (.bool r) ∧ Below w.heap.size w w' := by
  have HB := Aside0.mk (Below.refl w.heap.size w)
  have H : ((mewslaw20_far.f a0 a1 0).bind fun t162 => (if t162 = true then (mewslaw20_StrBack.j0 k a0 a1 a2 true) else (mewslaw20_StrBack.j0 k a0 a1 a2 (a1.toList == ([] : List UInt8))))) = some r := h
  clear h
  have HC4 := Aside0.mk H
  clear H
  go_enter Try.func5, Try.ntmps5
  go_upto_region 1 with (fail)
  go_cut [20] (fun v20 wc => ∃ (kq : Nat) (x20_3 : Bool), v20 = .bool x20_3 ∧ Aside0 (mewslaw20_StrBack.j0 kq a0 a1 a2 x20_3 = some r) ∧ Aside0 (kq ≤ k) ∧ Aside0 (Below w.heap.size w wc))
  case first =>
    have H := HC4.out
    clear HC4
    replace H := Option.bind_eq_some_iff.mp H
    obtain ⟨t162, A50, H⟩ := H
    replace H : (if t162 = true then (mewslaw20_StrBack.j0 k a0 a1 a2 true) else (mewslaw20_StrBack.j0 k a0 a1 a2 (a1.toList == ([] : List UInt8)))) = some r := H
    have A5 := Aside0.mk A50
    clear A50
    by_cases c6 : t162 = true
    · subst c6
      have H1 : (mewslaw20_StrBack.j0 k a0 a1 a2 true) = some r := by rw [if_pos rfl] at H; exact H
      clear H
      have H := H1
      clear H1
      have H' := Aside0.mk H
      clear H
      go_wp2_with (first | ((with_reducible refine gate_callee (f := 12) rfl ?_); refine goesL_ (some 16) rfl rfl Try.func12 (by kernel_rfl) rfl #[.string a0, .string a1, .int .i64 0] rfl (by (try simp only [List.map_toArray, List.map_cons, List.map_nil]); first | done | rfl | (simp only [List.length_drop, List.length_take]; rfl)) ?_; (with_reducible refine (mewslaw20_far.calls a0 a1 0 true _ A5.out).mono ?_); rintro e w' ⟨rfl, ⟨nd, rfl⟩⟩; refine ⟨_, rfl, ?_⟩))
      go_meet
      case rel => exact ⟨_, (true), (by first | rfl | (simp; done) | (simp [*]; done)), H', ⟨by first | omega | exact Nat.le_refl _⟩, ⟨by repeat (first | (with_reducible first | exact HB.out | apply below_alloc | apply pw_below_drewN | apply below_drew1) | exact HB.out)⟩⟩
    · replace c6 := Bool.eq_false_iff.mpr c6
      subst c6
      have H1 : (mewslaw20_StrBack.j0 k a0 a1 a2 (a1.toList == ([] : List UInt8))) = some r := by rw [if_neg (show ¬ (false = true) by decide)] at H; exact H
      clear H
      have H := H1
      clear H1
      have H' := Aside0.mk H
      clear H
      go_wp2_with (first | ((with_reducible refine gate_callee (f := 12) rfl ?_); refine goesL_ (some 16) rfl rfl Try.func12 (by kernel_rfl) rfl #[.string a0, .string a1, .int .i64 0] rfl (by (try simp only [List.map_toArray, List.map_cons, List.map_nil]); first | done | rfl | (simp only [List.length_drop, List.length_take]; rfl)) ?_; (with_reducible refine (mewslaw20_far.calls a0 a1 0 false _ A5.out).mono ?_); rintro e w' ⟨rfl, ⟨nd, rfl⟩⟩; refine ⟨_, rfl, ?_⟩))
      go_meet
      case rel => exact ⟨_, ((a1.toList == ([] : List UInt8))), (by first | rfl | (simp; done) | (simp [*]; done)), H', ⟨by first | omega | exact Nat.le_refl _⟩, ⟨by repeat (first | (with_reducible first | exact HB.out | apply below_alloc | apply pw_below_drewN | apply below_drew1) | exact HB.out)⟩⟩
  case rest =>
    clear HC4
    try clear c1
    try clear p2
    try clear c5
    try clear c6
    obtain ⟨kq, x20_3, rfl, HA, HJ3, HB⟩ := hcut
    cases kq with
    | zero => exact absurd HA.out (by simp [mewslaw20_StrBack.j0])
    | succ kj3 =>
      have H := HA.out
      clear HA
      simp only [mewslaw20_StrBack.j0] at H
      by_cases c7 : x20_3 = true
      · subst c7
        have H1 : ((mewslaw20_alive.f kj3).bind fun t163 => (some t163)) = some r := by rw [if_pos rfl] at H; exact H
        clear H
        have H := H1
        clear H1
        replace H := Option.bind_eq_some_iff.mp H
        obtain ⟨t163, A80, H⟩ := H
        replace H : (some t163) = some r := H
        have A8 := Aside0.mk A80
        clear A80
        obtain rfl := Option.some.inj H
        go_wp2_with (first | ((with_reducible refine gate_callee (f := 11) rfl ?_); refine goesL_ (some 21) rfl rfl Try.func11 (by kernel_rfl) rfl #[] rfl (by (try simp only [List.map_toArray, List.map_cons, List.map_nil]); first | done | rfl | (simp only [List.length_drop, List.length_take]; rfl)) ?_; (with_reducible refine (mewslaw20_alive.calls kj3  t163 _ A8.out).mono ?_); rintro e w9 ⟨rfl, hb⟩; refine ⟨_, rfl, ?_⟩; have n0_ := Aside0.mk (below_step (by repeat (first | (with_reducible first | exact HB.out | apply below_alloc | apply pw_below_drewN | apply below_drew1) | exact HB.out)) hb); clear HB; have HB := n0_; clear n0_; (try clear hb); (try clear hb2); (try clear hk); (try clear hi)))
        go_ret
        exact ⟨by first | rfl | (simp [errW_none, errW_some] <;> rfl) | (simp [*, errW_none, errW_some] <;> rfl), by repeat (first | (with_reducible first | exact HB.out | apply below_alloc | apply pw_below_drewN | apply below_drew1) | exact HB.out)⟩
      · replace c7 := Bool.eq_false_iff.mpr c7
        subst c7
        have H1 : ((str_Set.f a0 (wrap64 (Int.tmod (IntKind.u64.wrap (a2)) 2000)) a1).bind fun bt164 => (if bt164.2 = 0 then (if (bt164.1.size : Int) = (mx (a0.size : Int) (wrap64 ((wrap64 (Int.tmod (IntKind.u64.wrap (a2)) 2000)) + (a1.size : Int)))) then ((str_Get.f kj3 bt164.1 (wrap64 (Int.tmod (IntKind.u64.wrap (a2)) 2000)) (wrap64 ((wrap64 ((wrap64 (Int.tmod (IntKind.u64.wrap (a2)) 2000)) + (a1.size : Int))) - 1))).bind fun t166 => (mewslaw20_StrBack.j1 kj3 a0 a1 (wrap64 (Int.tmod (IntKind.u64.wrap (a2)) 2000)) bt164.1 (t166.toList != a1.toList))) else (mewslaw20_StrBack.j1 kj3 a0 a1 (wrap64 (Int.tmod (IntKind.u64.wrap (a2)) 2000)) bt164.1 true)) else (mewslaw20_StrBack.j1 kj3 a0 a1 (wrap64 (Int.tmod (IntKind.u64.wrap (a2)) 2000)) bt164.1 true))) = some r := by rw [if_neg (show ¬ (false = true) by decide)] at H; exact H
        clear H
        have H := H1
        clear H1
        replace H := Option.bind_eq_some_iff.mp H
        obtain ⟨⟨t164, t165⟩, A100, H⟩ := H
        replace H : (if t165 = 0 then (if (t164.size : Int) = (mx (a0.size : Int) (wrap64 ((wrap64 (Int.tmod (IntKind.u64.wrap (a2)) 2000)) + (a1.size : Int)))) then ((str_Get.f kj3 t164 (wrap64 (Int.tmod (IntKind.u64.wrap (a2)) 2000)) (wrap64 ((wrap64 ((wrap64 (Int.tmod (IntKind.u64.wrap (a2)) 2000)) + (a1.size : Int))) - 1))).bind fun t166 => (mewslaw20_StrBack.j1 kj3 a0 a1 (wrap64 (Int.tmod (IntKind.u64.wrap (a2)) 2000)) t164 (t166.toList != a1.toList))) else (mewslaw20_StrBack.j1 kj3 a0 a1 (wrap64 (Int.tmod (IntKind.u64.wrap (a2)) 2000)) t164 true)) else (mewslaw20_StrBack.j1 kj3 a0 a1 (wrap64 (Int.tmod (IntKind.u64.wrap (a2)) 2000)) t164 true)) = some r := H
        have A10 := Aside0.mk A100
        clear A100
        have HC11 := Aside0.mk H
        clear H
        go_upto_region 5 with (first | ((with_reducible refine gate_callee (f := 15) rfl ?_); refine goesL_ (some 30) rfl rfl Try.func15 (by kernel_rfl) rfl #[.string a0, .int .i64 (wrap64 (Int.tmod (IntKind.u64.wrap (a2)) 2000)), .string a1] rfl (by (try simp only [List.map_toArray, List.map_cons, List.map_nil]); first | done | rfl | (simp only [List.length_drop, List.length_take]; rfl)) ?_; (with_reducible refine (str_Set.calls a0 (wrap64 (Int.tmod (IntKind.u64.wrap (a2)) 2000)) a1 t164 t165 _ A10.out).mono ?_); rintro e w12 ⟨rfl, hb⟩; refine ⟨_, rfl, ?_⟩; have n0_ := Aside0.mk (below_step (by repeat (first | (with_reducible first | exact HB.out | apply below_alloc | apply pw_below_drewN | apply below_drew1) | exact HB.out)) hb); clear HB; have HB := n0_; clear n0_; (try clear hb); (try clear hb2); (try clear hk); (try clear hi)))
        (try simp only [Act.put, List.setIfInBounds_toArray, List.set_cons_zero, List.set_cons_succ])
        go_cut [58] (fun v58 wc => ∃ (kq : Nat) (x58_10 : Bool), v58 = .bool x58_10 ∧ Aside0 (mewslaw20_StrBack.j1 kq a0 a1 (wrap64 (Int.tmod (IntKind.u64.wrap (a2)) 2000)) t164 x58_10 = some r) ∧ Aside0 (kq ≤ kj3) ∧ Aside0 (Below w.heap.size w wc))
        case first =>
          have H := HC11.out
          clear HC11
          by_cases c13 : t165 = 0
          · rw [if_pos c13] at H
            have c13b0 : (t165 == 0) = true := beq_iff_eq.mpr c13
            have c13b1 : (t165 != 0) = false := bne_eq_false_iff_eq.mpr c13
            clear c13
            (first | rw [c13b0] | (simp only [i64_w, i32_w]; rw [c13b0]) | skip)
            obtain ⟨ji14, hji14⟩ : ∃ j_ : Int, (mx (a0.size : Int) (wrap64 ((wrap64 (Int.tmod (IntKind.u64.wrap (a2)) 2000)) + (a1.size : Int)))) = j_ := ⟨_, rfl⟩
            replace H : (if (t164.size : Int) = (ji14) then ((str_Get.f kj3 t164 (wrap64 (Int.tmod (IntKind.u64.wrap (a2)) 2000)) (wrap64 ((wrap64 ((wrap64 (Int.tmod (IntKind.u64.wrap (a2)) 2000)) + (a1.size : Int))) - 1))).bind fun t166 => (mewslaw20_StrBack.j1 kj3 a0 a1 (wrap64 (Int.tmod (IntKind.u64.wrap (a2)) 2000)) t164 (t166.toList != a1.toList))) else (mewslaw20_StrBack.j1 kj3 a0 a1 (wrap64 (Int.tmod (IntKind.u64.wrap (a2)) 2000)) t164 true)) = some r := by first | (rw [hji14] at H; exact H) | (simp only [hji14] at H ⊢; exact H)
            have hji14_ : (if (a0.size : Int) < (wrap64 ((wrap64 (Int.tmod (IntKind.u64.wrap (a2)) 2000)) + (a1.size : Int))) then (wrap64 ((wrap64 (Int.tmod (IntKind.u64.wrap (a2)) 2000)) + (a1.size : Int))) else (a0.size : Int)) = ji14 := hji14
            by_cases c15 : (t164.size : Int) = (ji14)
            · rw [if_pos c15] at H
              have c15b0 : ((t164.size : Int) == (ji14)) = true := beq_iff_eq.mpr c15
              have c15b1 : ((t164.size : Int) != (ji14)) = false := bne_eq_false_iff_eq.mpr c15
              clear c15
              replace H := Option.bind_eq_some_iff.mp H
              obtain ⟨t166, A160, H⟩ := H
              replace H : (mewslaw20_StrBack.j1 kj3 a0 a1 (wrap64 (Int.tmod (IntKind.u64.wrap (a2)) 2000)) t164 (t166.toList != a1.toList)) = some r := H
              have A16 := Aside0.mk A160
              clear A160
              have H' := Aside0.mk H
              clear H
              go_wp2_with (first | (go_at_call 17; (with_reducible refine (str_Get.calls kj3 t164 (wrap64 (Int.tmod (IntKind.u64.wrap (a2)) 2000)) (wrap64 ((wrap64 ((wrap64 (Int.tmod (IntKind.u64.wrap (a2)) 2000)) + (a1.size : Int))) - 1)) t166 _ A16.out).mono ?_); rintro e w17 ⟨rfl, hb⟩; have n0_ := Aside0.mk (below_step (by repeat (first | (with_reducible first | exact HB.out | apply below_alloc | apply pw_below_drewN | apply below_drew1) | exact HB.out)) hb); clear HB; have HB := n0_; clear n0_; (try clear hb); (try clear hb2); (try clear hk); (try clear hi)))
              go_meet
              case rel => exact ⟨_, ((t166.toList != a1.toList)), (by first | rfl | (simp; done) | (simp [*]; done)), H', ⟨by have := HJ3.out; first | omega | exact Nat.le_refl _⟩, ⟨by repeat (first | (with_reducible first | exact HB.out | apply below_alloc | apply pw_below_drewN | apply below_drew1) | exact HB.out)⟩⟩
            · rw [if_neg c15] at H
              have c15b0 : ((t164.size : Int) == (ji14)) = false := beq_eq_false_iff_ne.mpr c15
              have c15b1 : ((t164.size : Int) != (ji14)) = true := bne_iff_ne.mpr c15
              have H' := Aside0.mk H
              clear H
              go_wp2
              go_meet
              case rel => exact ⟨_, (true), (by first | rfl | (simp; done) | (simp [*]; done)), H', ⟨by have := HJ3.out; first | omega | exact Nat.le_refl _⟩, ⟨by repeat (first | (with_reducible first | exact HB.out | apply below_alloc | apply pw_below_drewN | apply below_drew1) | exact HB.out)⟩⟩
          · rw [if_neg c13] at H
            have c13b0 : (t165 == 0) = false := beq_eq_false_iff_ne.mpr c13
            have c13b1 : (t165 != 0) = true := bne_iff_ne.mpr c13
            (first | rw [c13b0] | (simp only [i64_w, i32_w]; rw [c13b0]) | skip)
            have H' := Aside0.mk H
            clear H
            go_wp2
            go_meet
            case rel => exact ⟨_, (true), (by first | rfl | (simp; done) | (simp [*]; done)), H', ⟨by have := HJ3.out; first | omega | exact Nat.le_refl _⟩, ⟨by repeat (first | (with_reducible first | exact HB.out | apply below_alloc | apply pw_below_drewN | apply below_drew1) | exact HB.out)⟩⟩
        case rest =>
          clear HC11
          try clear c1
          try clear p2
          try clear c5
          try clear c6
          try clear p6
          try clear c7
          try clear c11
          try clear c12
          try clear c13
          try clear c13b0
          try clear c13b1
          try clear c15
          try clear c15b0
          try clear c15b1
          try clear p2
          obtain ⟨kq, x58_10, rfl, HA, HJ10, HB⟩ := hcut
          cases kq with
          | zero => exact absurd HA.out (by simp [mewslaw20_StrBack.j1])
          | succ kj10 =>
            have H := HA.out
            clear HA
            simp only [mewslaw20_StrBack.j1] at H
            by_cases c18 : x58_10 = true
            · subst c18
              have H1 : (some false) = some r := by rw [if_pos rfl] at H; exact H
              clear H
              have H := H1
              clear H1
              exact absurd ((Option.some.inj H).trans hr_.out) (by decide)
            · replace c18 := Bool.eq_false_iff.mpr c18
              subst c18
              have H1 : (mewslaw20_StrBack.l0 kj10 a0 a1 (wrap64 (Int.tmod (IntKind.u64.wrap (a2)) 2000)) t164 (t164.size : Int) 0) = some r := by rw [if_neg (show ¬ (false = true) by decide)] at H; exact H
              clear H
              have H := H1
              clear H1
              have H' := Aside0.mk H
              clear H
              go_wp2
              go_loopg [61] kj10 (fun kq v61 w' => ∃ (x61_3 : Int), v61 = .int .i64 x61_3 ∧ Aside0 (mewslaw20_StrBack.l0 kq a0 a1 (wrap64 (Int.tmod (IntKind.u64.wrap (a2)) 2000)) t164 (t164.size : Int) x61_3 = some r) ∧ Aside0 (kq ≤ kj10) ∧ Aside0 (Below w.heap.size w w'))
              case atStart => exact ⟨(0), (by first | rfl | (simp; done) | (simp [*]; done)), H', ⟨Nat.le_refl _⟩, ⟨by repeat (first | (with_reducible first | exact HB.out | apply below_alloc | apply pw_below_drewN | apply below_drew1) | exact HB.out)⟩⟩
              case round =>
                clear H'
                try clear c1
                try clear p2
                try clear c5
                try clear c6
                try clear p6
                try clear c7
                try clear c11
                try clear c12
                try clear c13
                try clear c13b0
                try clear c13b1
                try clear c15
                try clear c15b0
                try clear c15b1
                try clear c18
                try clear p2
                try clear p6
                obtain ⟨x61_3, rfl, HA, HK3, HB⟩ := hrel
                cases gk with
                | zero => exact absurd HA.out (by simp [mewslaw20_StrBack.l0])
                | succ k3 =>
                  have H := HA.out
                  clear HA
                  simp only [mewslaw20_StrBack.l0] at H
                  by_cases c19 : x61_3 < (t164.size : Int)
                  · rw [if_pos c19] at H
                    have c19b0 : decide (x61_3 < (t164.size : Int)) = true := decide_eq_true c19
                    clear c19
                    by_cases c20 : x61_3 < (a0.size : Int)
                    · rw [if_pos c20] at H
                      have c20b0 : decide (x61_3 < (a0.size : Int)) = true := decide_eq_true c20
                      clear c20
                      by_cases c21 : 0 ≤ x61_3
                      · rw [if_pos c21] at H
                        have c21b0 : decide (0 ≤ x61_3) = true := decide_eq_true c21
                        clear c21
                        by_cases c23 : x61_3 < (wrap64 (Int.tmod (IntKind.u64.wrap (a2)) 2000))
                        · rw [if_pos c23] at H
                          have c23b0 : decide (x61_3 < (wrap64 (Int.tmod (IntKind.u64.wrap (a2)) 2000))) = true := decide_eq_true c23
                          clear c23
                          by_cases c24 : x61_3 < (t164.size : Int)
                          · rw [if_pos c24] at H
                            have c24b0 : decide (x61_3 < (t164.size : Int)) = true := decide_eq_true c24
                            clear c24
                            by_cases c26 : (bt t164 x61_3) = (bt a0 x61_3)
                            · rw [if_pos c26] at H
                              have c26b0 : ((bt t164 x61_3) == (bt a0 x61_3)) = true := beq_iff_eq.mpr c26
                              have c26b1 : ((bt t164 x61_3) != (bt a0 x61_3)) = false := bne_eq_false_iff_eq.mpr c26
                              clear c26
                              have H' := Aside0.mk H
                              clear H
                              have p22 : 0 ≤ (x61_3 : Int) := of_decide_eq_true (by first | (with_reducible assumption) | assumption)
                              have q22 : x61_3 < (a0.size : Int) := of_decide_eq_true (by first | (with_reducible assumption) | assumption)
                              have hx22 := bt_at a0 x61_3
                              replace p22 := eq_true p22
                              replace q22 := eq_true q22
                              have p25 : 0 ≤ (x61_3 : Int) := of_decide_eq_true (by first | (with_reducible assumption) | assumption)
                              have q25 : x61_3 < (t164.size : Int) := of_decide_eq_true (by first | (with_reducible assumption) | assumption)
                              have hx25 := bt_at t164 x61_3
                              replace p25 := eq_true p25
                              replace q25 := eq_true q25
                              go_wp2
                              go_roundg k3
                              case measure => have := HJ3.out; have := HJ10.out; have := HK3.out; omega
                              case rel => exact ⟨(wrap64 (x61_3 + 1)), (by first | rfl | (simp; done) | (simp [*]; done)), H', ⟨by have := HJ3.out; have := HJ10.out; have := HK3.out; omega⟩, ⟨by repeat (first | (with_reducible first | exact HB.out | apply below_alloc | apply pw_below_drewN | apply below_drew1) | exact HB.out)⟩⟩
                            · rw [if_neg c26] at H
                              have c26b0 : ((bt t164 x61_3) == (bt a0 x61_3)) = false := beq_eq_false_iff_ne.mpr c26
                              have c26b1 : ((bt t164 x61_3) != (bt a0 x61_3)) = true := bne_iff_ne.mpr c26
                              exact absurd ((Option.some.inj H).trans hr_.out) (by decide)
                          · rw [if_neg c24] at H
                            exact absurd H (by simp)
                        · rw [if_neg c23] at H
                          have c23b0 : decide (x61_3 < (wrap64 (Int.tmod (IntKind.u64.wrap (a2)) 2000))) = false := decide_eq_false c23
                          clear c23
                          by_cases c27 : x61_3 ≥ (wrap64 ((wrap64 (Int.tmod (IntKind.u64.wrap (a2)) 2000)) + (a1.size : Int)))
                          · rw [if_pos c27] at H
                            have c27b0 : decide ((wrap64 ((wrap64 (Int.tmod (IntKind.u64.wrap (a2)) 2000)) + (a1.size : Int))) ≤ x61_3) = true := decide_eq_true c27
                            clear c27
                            by_cases c28 : x61_3 < (t164.size : Int)
                            · rw [if_pos c28] at H
                              have c28b0 : decide (x61_3 < (t164.size : Int)) = true := decide_eq_true c28
                              clear c28
                              by_cases c30 : (bt t164 x61_3) = (bt a0 x61_3)
                              · rw [if_pos c30] at H
                                have c30b0 : ((bt t164 x61_3) == (bt a0 x61_3)) = true := beq_iff_eq.mpr c30
                                have c30b1 : ((bt t164 x61_3) != (bt a0 x61_3)) = false := bne_eq_false_iff_eq.mpr c30
                                clear c30
                                have H' := Aside0.mk H
                                clear H
                                have p22 : 0 ≤ (x61_3 : Int) := of_decide_eq_true (by first | (with_reducible assumption) | assumption)
                                have q22 : x61_3 < (a0.size : Int) := of_decide_eq_true (by first | (with_reducible assumption) | assumption)
                                have hx22 := bt_at a0 x61_3
                                replace p22 := eq_true p22
                                replace q22 := eq_true q22
                                have p29 : 0 ≤ (x61_3 : Int) := of_decide_eq_true (by first | (with_reducible assumption) | assumption)
                                have q29 : x61_3 < (t164.size : Int) := of_decide_eq_true (by first | (with_reducible assumption) | assumption)
                                have hx29 := bt_at t164 x61_3
                                replace p29 := eq_true p29
                                replace q29 := eq_true q29
                                go_wp2
                                go_roundg k3
                                case measure => have := HJ3.out; have := HJ10.out; have := HK3.out; omega
                                case rel => exact ⟨(wrap64 (x61_3 + 1)), (by first | rfl | (simp; done) | (simp [*]; done)), H', ⟨by have := HJ3.out; have := HJ10.out; have := HK3.out; omega⟩, ⟨by repeat (first | (with_reducible first | exact HB.out | apply below_alloc | apply pw_below_drewN | apply below_drew1) | exact HB.out)⟩⟩
                              · rw [if_neg c30] at H
                                have c30b0 : ((bt t164 x61_3) == (bt a0 x61_3)) = false := beq_eq_false_iff_ne.mpr c30
                                have c30b1 : ((bt t164 x61_3) != (bt a0 x61_3)) = true := bne_iff_ne.mpr c30
                                exact absurd ((Option.some.inj H).trans hr_.out) (by decide)
                            · rw [if_neg c28] at H
                              exact absurd H (by simp)
                          · rw [if_neg c27] at H
                            have c27b0 : decide ((wrap64 ((wrap64 (Int.tmod (IntKind.u64.wrap (a2)) 2000)) + (a1.size : Int))) ≤ x61_3) = false := decide_eq_false c27
                            clear c27
                            have H' := Aside0.mk H
                            clear H
                            have p22 : 0 ≤ (x61_3 : Int) := of_decide_eq_true (by first | (with_reducible assumption) | assumption)
                            have q22 : x61_3 < (a0.size : Int) := of_decide_eq_true (by first | (with_reducible assumption) | assumption)
                            have hx22 := bt_at a0 x61_3
                            replace p22 := eq_true p22
                            replace q22 := eq_true q22
                            go_wp2
                            go_roundg k3
                            case measure => have := HJ3.out; have := HJ10.out; have := HK3.out; omega
                            case rel => exact ⟨(wrap64 (x61_3 + 1)), (by first | rfl | (simp; done) | (simp [*]; done)), H', ⟨by have := HJ3.out; have := HJ10.out; have := HK3.out; omega⟩, ⟨by repeat (first | (with_reducible first | exact HB.out | apply below_alloc | apply pw_below_drewN | apply below_drew1) | exact HB.out)⟩⟩
                      · rw [if_neg c21] at H
                        exact absurd H (by simp)
                    · rw [if_neg c20] at H
                      have c20b0 : decide (x61_3 < (a0.size : Int)) = false := decide_eq_false c20
                      clear c20
                      by_cases c31 : x61_3 < (wrap64 (Int.tmod (IntKind.u64.wrap (a2)) 2000))
                      · rw [if_pos c31] at H
                        have c31b0 : decide (x61_3 < (wrap64 (Int.tmod (IntKind.u64.wrap (a2)) 2000))) = true := decide_eq_true c31
                        clear c31
                        by_cases c32 : 0 ≤ x61_3
                        · rw [if_pos c32] at H
                          have c32b0 : decide (0 ≤ x61_3) = true := decide_eq_true c32
                          clear c32
                          by_cases c33 : x61_3 < (t164.size : Int)
                          · rw [if_pos c33] at H
                            have c33b0 : decide (x61_3 < (t164.size : Int)) = true := decide_eq_true c33
                            clear c33
                            by_cases c35 : (bt t164 x61_3) = 0
                            · rw [if_pos c35] at H
                              have c35b0 : ((bt t164 x61_3) == 0) = true := beq_iff_eq.mpr c35
                              have c35b1 : ((bt t164 x61_3) != 0) = false := bne_eq_false_iff_eq.mpr c35
                              clear c35
                              have H' := Aside0.mk H
                              clear H
                              have p34 : 0 ≤ (x61_3 : Int) := of_decide_eq_true (by first | (with_reducible assumption) | assumption)
                              have q34 : x61_3 < (t164.size : Int) := of_decide_eq_true (by first | (with_reducible assumption) | assumption)
                              have hx34 := bt_at t164 x61_3
                              replace p34 := eq_true p34
                              replace q34 := eq_true q34
                              go_wp2
                              go_roundg k3
                              case measure => have := HJ3.out; have := HJ10.out; have := HK3.out; omega
                              case rel => exact ⟨(wrap64 (x61_3 + 1)), (by first | rfl | (simp; done) | (simp [*]; done)), H', ⟨by have := HJ3.out; have := HJ10.out; have := HK3.out; omega⟩, ⟨by repeat (first | (with_reducible first | exact HB.out | apply below_alloc | apply pw_below_drewN | apply below_drew1) | exact HB.out)⟩⟩
                            · rw [if_neg c35] at H
                              have c35b0 : ((bt t164 x61_3) == 0) = false := beq_eq_false_iff_ne.mpr c35
                              have c35b1 : ((bt t164 x61_3) != 0) = true := bne_iff_ne.mpr c35
                              exact absurd ((Option.some.inj H).trans hr_.out) (by decide)
                          · rw [if_neg c33] at H
                            exact absurd H (by simp)
                        · rw [if_neg c32] at H
                          exact absurd H (by simp)
                      · rw [if_neg c31] at H
                        have c31b0 : decide (x61_3 < (wrap64 (Int.tmod (IntKind.u64.wrap (a2)) 2000))) = false := decide_eq_false c31
                        clear c31
                        by_cases c36 : x61_3 ≥ (wrap64 ((wrap64 (Int.tmod (IntKind.u64.wrap (a2)) 2000)) + (a1.size : Int)))
                        · rw [if_pos c36] at H
                          have c36b0 : decide ((wrap64 ((wrap64 (Int.tmod (IntKind.u64.wrap (a2)) 2000)) + (a1.size : Int))) ≤ x61_3) = true := decide_eq_true c36
                          clear c36
                          by_cases c37 : 0 ≤ x61_3
                          · rw [if_pos c37] at H
                            have c37b0 : decide (0 ≤ x61_3) = true := decide_eq_true c37
                            clear c37
                            by_cases c38 : x61_3 < (t164.size : Int)
                            · rw [if_pos c38] at H
                              have c38b0 : decide (x61_3 < (t164.size : Int)) = true := decide_eq_true c38
                              clear c38
                              by_cases c40 : (bt t164 x61_3) = 0
                              · rw [if_pos c40] at H
                                have c40b0 : ((bt t164 x61_3) == 0) = true := beq_iff_eq.mpr c40
                                have c40b1 : ((bt t164 x61_3) != 0) = false := bne_eq_false_iff_eq.mpr c40
                                clear c40
                                have H' := Aside0.mk H
                                clear H
                                have p39 : 0 ≤ (x61_3 : Int) := of_decide_eq_true (by first | (with_reducible assumption) | assumption)
                                have q39 : x61_3 < (t164.size : Int) := of_decide_eq_true (by first | (with_reducible assumption) | assumption)
                                have hx39 := bt_at t164 x61_3
                                replace p39 := eq_true p39
                                replace q39 := eq_true q39
                                go_wp2
                                go_roundg k3
                                case measure => have := HJ3.out; have := HJ10.out; have := HK3.out; omega
                                case rel => exact ⟨(wrap64 (x61_3 + 1)), (by first | rfl | (simp; done) | (simp [*]; done)), H', ⟨by have := HJ3.out; have := HJ10.out; have := HK3.out; omega⟩, ⟨by repeat (first | (with_reducible first | exact HB.out | apply below_alloc | apply pw_below_drewN | apply below_drew1) | exact HB.out)⟩⟩
                              · rw [if_neg c40] at H
                                have c40b0 : ((bt t164 x61_3) == 0) = false := beq_eq_false_iff_ne.mpr c40
                                have c40b1 : ((bt t164 x61_3) != 0) = true := bne_iff_ne.mpr c40
                                exact absurd ((Option.some.inj H).trans hr_.out) (by decide)
                            · rw [if_neg c38] at H
                              exact absurd H (by simp)
                          · rw [if_neg c37] at H
                            exact absurd H (by simp)
                        · rw [if_neg c36] at H
                          have c36b0 : decide ((wrap64 ((wrap64 (Int.tmod (IntKind.u64.wrap (a2)) 2000)) + (a1.size : Int))) ≤ x61_3) = false := decide_eq_false c36
                          clear c36
                          have H' := Aside0.mk H
                          clear H
                          go_wp2
                          go_roundg k3
                          case measure => have := HJ3.out; have := HJ10.out; have := HK3.out; omega
                          case rel => exact ⟨(wrap64 (x61_3 + 1)), (by first | rfl | (simp; done) | (simp [*]; done)), H', ⟨by have := HJ3.out; have := HJ10.out; have := HK3.out; omega⟩, ⟨by repeat (first | (with_reducible first | exact HB.out | apply below_alloc | apply pw_below_drewN | apply below_drew1) | exact HB.out)⟩⟩
                  · rw [if_neg c19] at H
                    have c19b0 : decide (x61_3 < (t164.size : Int)) = false := decide_eq_false c19
                    clear c19
                    replace H := Option.bind_eq_some_iff.mp H
                    obtain ⟨⟨t167, t168⟩, A410, H⟩ := H
                    replace H : (if t168 = 0 then ((str_Get.f k3 t167 (a0.size : Int) (-1)).bind fun t169 => (if t169.toList = a1.toList then ((mewslaw20_alive.f k3).bind fun t170 => (some t170)) else (some false))) else (some false)) = some r := H
                    have A41 := Aside0.mk A410
                    clear A410
                    by_cases c42 : t168 = 0
                    · rw [if_pos c42] at H
                      have c42b0 : (t168 == 0) = true := beq_iff_eq.mpr c42
                      have c42b1 : (t168 != 0) = false := bne_eq_false_iff_eq.mpr c42
                      clear c42
                      replace H := Option.bind_eq_some_iff.mp H
                      obtain ⟨t169, A430, H⟩ := H
                      replace H : (if t169.toList = a1.toList then ((mewslaw20_alive.f k3).bind fun t170 => (some t170)) else (some false)) = some r := H
                      have A43 := Aside0.mk A430
                      clear A430
                      by_cases c44 : t169.toList = a1.toList
                      · rw [if_pos c44] at H
                        have c44b0 : (t169.toList == a1.toList) = true := beq_iff_eq.mpr c44
                        have c44b1 : (t169.toList != a1.toList) = false := bne_eq_false_iff_eq.mpr c44
                        clear c44
                        replace H := Option.bind_eq_some_iff.mp H
                        obtain ⟨t170, A450, H⟩ := H
                        replace H : (some t170) = some r := H
                        have A45 := Aside0.mk A450
                        clear A450
                        obtain rfl := Option.some.inj H
                        go_wp2_with (first | ((with_reducible refine gate_callee (f := 13) rfl ?_); refine goesL_ (some 93) rfl rfl Try.func13 (by kernel_rfl) rfl #[.string a0, .string a1] rfl (by (try simp only [List.map_toArray, List.map_cons, List.map_nil]); first | done | rfl | (simp only [List.length_drop, List.length_take]; rfl)) ?_; (with_reducible refine (str_Append.calls a0 a1 t167 t168 _ A41.out).mono ?_); rintro e w' ⟨rfl, ⟨nd, rfl⟩⟩; refine ⟨_, rfl, ?_⟩) | (go_at_call 17; (with_reducible refine (str_Get.calls k3 t167 (a0.size : Int) (-1) t169 _ A43.out).mono ?_); rintro e w46 ⟨rfl, hb⟩; have n0_ := Aside0.mk (below_step (by repeat (first | (with_reducible first | exact HB.out | apply below_alloc | apply pw_below_drewN | apply below_drew1) | exact HB.out)) hb); clear HB; have HB := n0_; clear n0_; (try clear hb); (try clear hb2); (try clear hk); (try clear hi)) | (go_at_call 11; (with_reducible refine (mewslaw20_alive.calls k3  t170 _ A45.out).mono ?_); rintro e w47 ⟨rfl, hb⟩; have n0_ := Aside0.mk (below_step (by repeat (first | (with_reducible first | exact HB.out | apply below_alloc | apply pw_below_drewN | apply below_drew1) | exact HB.out)) hb); clear HB; have HB := n0_; clear n0_; (try clear hb); (try clear hb2); (try clear hk); (try clear hi)))
                        go_ret
                        exact ⟨by first | rfl | (simp [errW_none, errW_some] <;> rfl) | (simp [*, errW_none, errW_some] <;> rfl), by repeat (first | (with_reducible first | exact HB.out | apply below_alloc | apply pw_below_drewN | apply below_drew1) | exact HB.out)⟩
                      · rw [if_neg c44] at H
                        have c44b0 : (t169.toList == a1.toList) = false := beq_eq_false_iff_ne.mpr c44
                        have c44b1 : (t169.toList != a1.toList) = true := bne_iff_ne.mpr c44
                        exact absurd ((Option.some.inj H).trans hr_.out) (by decide)
                    · rw [if_neg c42] at H
                      have c42b0 : (t168 == 0) = false := beq_eq_false_iff_ne.mpr c42
                      have c42b1 : (t168 != 0) = true := bne_iff_ne.mpr c42
                      exact absurd ((Option.some.inj H).trans hr_.out) (by decide)

end Go.Proofs.Ytjinfomobjocfaa.X
