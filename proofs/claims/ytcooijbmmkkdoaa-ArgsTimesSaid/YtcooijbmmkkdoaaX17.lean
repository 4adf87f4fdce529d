-- Written by wip/tool/xprint.py of this work (a front end of its own to the kit's printer): the functions of the seat Ytcooijbmmkkdoaa as plain Lean functions, and what the Go code's calls come to. Lean checks it.
import Derived.Test.YtcooijbmmkkdoaaX0
import Derived.Test.YtcooijbmmkkdoaaX1
import Derived.Test.YtcooijbmmkkdoaaX2
import Derived.Test.YtcooijbmmkkdoaaX6
import Derived.Test.YtcooijbmmkkdoaaX7
import Derived.Test.YtcooijbmmkkdoaaX14
import Derived.Test.YtcooijbmmkkdoaaX15
import Derived.Test.YtcooijbmmkkdoaaX16
namespace Go.Proofs.Ytcooijbmmkkdoaa.X
open Go.RowKit Go.Proofs.YtcooijbmmkkdoaaW.PrintWords Go.Proofs.YtcooijbmmkkdoaaW.PrintLast Go.Proofs.YtcooijbmmkkdoaaW.PrintMore
attribute [local go_sem] max2_int min2_int max_two min_two max_three min_three max_four min_four   -- for this text's walks alone
set_option linter.unusedVariables false
set_option linter.unusedSimpArgs false

attribute [local go_sem high] eqA42
/-! ### mewslaw29_ArgsTimes: function 5 -/
def mewslaw29_ArgsTimes.j0 : Nat → ByteArray → Int → Int → Bool → Bool → Bool → Int → Int → Bool → Int → Int → Bool → Option (Bool)
  | 0, _, _, _, _, _, _, _, _, _, _, _, _ => none
  | k + 1, x0, x1, x2, x8, x10, x42, x328000, x328001, x328002, x333000, x333001, x333002 => if x42 = true then ((args_End.f k x0 1000 5).bind fun bt333 => ((mewsref29_End.f k x0 1000 5).bind fun bt335 => (if (x328000 == x333000 && (x328001 == x333001 && (x328002 == x333002))) = true then (if (x8 == x10) = true then (if bt333.1 = bt335.1 then (if bt333.2 = bt335.2 then ((mewslaw29_alive.f k).bind fun t337 => (some t337)) else (some false)) else (some false)) else (some false)) else (some false)))) else ((args_End.f k x0 x1 x2).bind fun bt338 => ((mewsref29_End.f k x0 x1 x2).bind fun bt340 => (if (x328000 == x333000 && (x328001 == x333001 && (x328002 == x333002))) = true then (if (x8 == x10) = true then (if bt338.1 = bt340.1 then (if bt338.2 = bt340.2 then ((mewslaw29_alive.f k).bind fun t342 => (some t342)) else (some false)) else (some false)) else (some false)) else (some false))))
def mewslaw29_ArgsTimes.f (k : Nat) (a0 : ByteArray) (a1 : Int) (a2 : Int) : Option (Bool) := (mewslaw29_far.f k (([a0] : List ByteArray))).bind fun t321 => (if t321 = true then ((mewslaw29_alive.f k).bind fun t322 => (some t322)) else ((args_Bound.f k a0).bind fun bt323 => ((mewsref29_Bound.f k a0).bind fun bt328 => (if a1 < 1 then (mewslaw29_ArgsTimes.j0 k a0 a1 a2 bt323.2.2.2 bt328.2.2.2 true bt323.1 bt323.2.1 bt323.2.2.1 bt328.1 bt328.2.1 bt328.2.2.1) else (if a1 > 1000 then (mewslaw29_ArgsTimes.j0 k a0 a1 a2 bt323.2.2.2 bt328.2.2.2 true bt323.1 bt323.2.1 bt323.2.2.1 bt328.1 bt328.2.1 bt328.2.2.1) else (if a2 < 0 then (mewslaw29_ArgsTimes.j0 k a0 a1 a2 bt323.2.2.2 bt328.2.2.2 true bt323.1 bt323.2.1 bt323.2.2.1 bt328.1 bt328.2.1 bt328.2.2.1) else (mewslaw29_ArgsTimes.j0 k a0 a1 a2 bt323.2.2.2 bt328.2.2.2 (decide (a2 > 4503599627370496)) bt323.1 bt323.2.1 bt323.2.2.1 bt328.1 bt328.2.1 bt328.2.2.1)))))))
theorem mewslaw29_ArgsTimes.mono_l : ∀ k, (∀ y0 y1 y2 y3 y4 y5 y6 y7 y8 y9 y10 y11, LeO (mewslaw29_ArgsTimes.j0 k y0 y1 y2 y3 y4 y5 y6 y7 y8 y9 y10 y11) (mewslaw29_ArgsTimes.j0 (k + 1) y0 y1 y2 y3 y4 y5 y6 y7 y8 y9 y10 y11))
  | 0 => fun _ _ _ _ _ _ _ _ _ _ _ _ r h => by simp [mewslaw29_ArgsTimes.j0] at h
  | k + 1 => by
    have ih0 := mewslaw29_ArgsTimes.mono_l k
    · intro y0 y1 y2 y3 y4 y5 y6 y7 y8 y9 y10 y11
      unfold mewslaw29_ArgsTimes.j0
      repeat' first
      | (with_reducible exact ih0 _ _ _ _ _ _ _ _ _ _ _ _)
      | (with_reducible exact args_Bound.mono _ _)
      | (with_reducible exact args_End.mono _ _ _ _)
      | (with_reducible exact mewslaw29_alive.mono _)
      | (with_reducible exact mewslaw29_far.mono _ _)
      | (with_reducible exact mewsref29_Bound.mono _ _)
      | (with_reducible exact mewsref29_End.mono _ _ _ _)
      | (with_reducible exact LeO.refl _)
      | (with_reducible exact LeO.none _)
      | (with_reducible refine LeO.ite ?_ ?_)
      | (with_reducible refine LeO.bind ?_ (fun _ => ?_))
      | exact ih0 _ _ _ _ _ _ _ _ _ _ _ _
      | exact args_Bound.mono _ _
      | exact args_End.mono _ _ _ _
      | exact mewslaw29_alive.mono _
      | exact mewslaw29_far.mono _ _
      | exact mewsref29_Bound.mono _ _
      | exact mewsref29_End.mono _ _ _ _
      | exact LeO.none _
      | refine LeO.ite ?_ ?_
      | refine LeO.bind ?_ (fun _ => ?_)
theorem mewslaw29_ArgsTimes.mono : ∀ a0 a1 a2 k, LeO (mewslaw29_ArgsTimes.f k a0 a1 a2) (mewslaw29_ArgsTimes.f (k + 1) a0 a1 a2) := by
  intro a0 a1 a2 k
  have ih0 := mewslaw29_ArgsTimes.mono_l k
  unfold mewslaw29_ArgsTimes.f
  repeat' first
      | (with_reducible exact ih0 _ _ _ _ _ _ _ _ _ _ _ _)
      | (with_reducible exact args_Bound.mono _ _)
      | (with_reducible exact args_End.mono _ _ _ _)
      | (with_reducible exact mewslaw29_alive.mono _)
      | (with_reducible exact mewslaw29_far.mono _ _)
      | (with_reducible exact mewsref29_Bound.mono _ _)
      | (with_reducible exact mewsref29_End.mono _ _ _ _)
      | (with_reducible exact LeO.refl _)
      | (with_reducible exact LeO.none _)
      | (with_reducible refine LeO.ite ?_ ?_)
      | (with_reducible refine LeO.bind ?_ (fun _ => ?_))
      | exact ih0 _ _ _ _ _ _ _ _ _ _ _ _
      | exact args_Bound.mono _ _
      | exact args_End.mono _ _ _ _
      | exact mewslaw29_alive.mono _
      | exact mewslaw29_far.mono _ _
      | exact mewsref29_Bound.mono _ _
      | exact mewsref29_End.mono _ _ _ _
      | exact LeO.none _
      | refine LeO.ite ?_ ?_
      | refine LeO.bind ?_ (fun _ => ?_)
set_option maxHeartbeats 8000000 in
set_option maxRecDepth 100000 in
theorem mewslaw29_ArgsTimes.calls (k : Nat) (a0 : ByteArray) (a1 : Int) (a2 : Int) (r : Bool) (w : World) (hr_ : Aside0 (r = true)) (h : mewslaw29_ArgsTimes.f k a0 a1 a2 = some r) :
    Calls Try.prog 5 #[.string a0, .int .i64 a1, .int .i64 a2] w fun e w' => e = .returned (.bool r) ∧ Below w.heap.size w w' := by
  have hu42 := Try.underlying42
  have HB := Aside0.mk (Below.refl w.heap.size w)
  have H : ((mewslaw29_far.f k (([a0] : List ByteArray))).bind fun t321 => (if t321 = true then ((mewslaw29_alive.f k).bind fun t322 => (some t322)) else ((args_Bound.f k a0).bind fun bt323 => ((mewsref29_Bound.f k a0).bind fun bt328 => (if a1 < 1 then (mewslaw29_ArgsTimes.j0 k a0 a1 a2 bt323.2.2.2 bt328.2.2.2 true bt323.1 bt323.2.1 bt323.2.2.1 bt328.1 bt328.2.1 bt328.2.2.1) else (if a1 > 1000 then (mewslaw29_ArgsTimes.j0 k a0 a1 a2 bt323.2.2.2 bt328.2.2.2 true bt323.1 bt323.2.1 bt323.2.2.1 bt328.1 bt328.2.1 bt328.2.2.1) else (if a2 < 0 then (mewslaw29_ArgsTimes.j0 k a0 a1 a2 bt323.2.2.2 bt328.2.2.2 true bt323.1 bt323.2.1 bt323.2.2.1 bt328.1 bt328.2.1 bt328.2.2.1) else (mewslaw29_ArgsTimes.j0 k a0 a1 a2 bt323.2.2.2 bt328.2.2.2 (decide (a2 > 4503599627370496)) bt323.1 bt323.2.1 bt323.2.2.1 bt328.1 bt328.2.1 bt328.2.2.1)))))))) = some r := h
  clear h
  obtain ⟨y318, hy318⟩ : ∃ y_ : List ByteArray, y_ = (([a0] : List ByteArray)) := ⟨_, rfl⟩
  replace H : ((mewslaw29_far.f k y318).bind fun t321 => (if t321 = true then ((mewslaw29_alive.f k).bind fun t322 => (some t322)) else ((args_Bound.f k a0).bind fun bt323 => ((mewsref29_Bound.f k a0).bind fun bt328 => (if a1 < 1 then (mewslaw29_ArgsTimes.j0 k a0 a1 a2 bt323.2.2.2 bt328.2.2.2 true bt323.1 bt323.2.1 bt323.2.2.1 bt328.1 bt328.2.1 bt328.2.2.1) else (if a1 > 1000 then (mewslaw29_ArgsTimes.j0 k a0 a1 a2 bt323.2.2.2 bt328.2.2.2 true bt323.1 bt323.2.1 bt323.2.2.1 bt328.1 bt328.2.1 bt328.2.2.1) else (if a2 < 0 then (mewslaw29_ArgsTimes.j0 k a0 a1 a2 bt323.2.2.2 bt328.2.2.2 true bt323.1 bt323.2.1 bt323.2.2.1 bt328.1 bt328.2.1 bt328.2.2.1) else (mewslaw29_ArgsTimes.j0 k a0 a1 a2 bt323.2.2.2 bt328.2.2.2 (decide (a2 > 4503599627370496)) bt323.1 bt323.2.1 bt323.2.2.1 bt328.1 bt328.2.1 bt328.2.2.1)))))))) = some r := by first | (rw [hy318]; with_reducible exact H) | (have H2_ := (Option.bind_some _ _).symm.trans H; rw [hy318]; with_reducible exact H2_) | (have H2_ := (Option.bind_some _ _).symm.trans H; with_reducible exact H2_) | with_reducible exact H | (rw [hy318]; exact H) | exact H
  have Ny318 := Aside0.mk hy318
  clear hy318
  replace H := Option.bind_eq_some_iff.mp H
  obtain ⟨t321, A40, H⟩ := H
  replace H : (if t321 = true then ((mewslaw29_alive.f k).bind fun t322 => (some t322)) else ((args_Bound.f k a0).bind fun bt323 => ((mewsref29_Bound.f k a0).bind fun bt328 => (if a1 < 1 then (mewslaw29_ArgsTimes.j0 k a0 a1 a2 bt323.2.2.2 bt328.2.2.2 true bt323.1 bt323.2.1 bt323.2.2.1 bt328.1 bt328.2.1 bt328.2.2.1) else (if a1 > 1000 then (mewslaw29_ArgsTimes.j0 k a0 a1 a2 bt323.2.2.2 bt328.2.2.2 true bt323.1 bt323.2.1 bt323.2.2.1 bt328.1 bt328.2.1 bt328.2.2.1) else (if a2 < 0 then (mewslaw29_ArgsTimes.j0 k a0 a1 a2 bt323.2.2.2 bt328.2.2.2 true bt323.1 bt323.2.1 bt323.2.2.1 bt328.1 bt328.2.1 bt328.2.2.1) else (mewslaw29_ArgsTimes.j0 k a0 a1 a2 bt323.2.2.2 bt328.2.2.2 (decide (a2 > 4503599627370496)) bt323.1 bt323.2.1 bt323.2.2.1 bt328.1 bt328.2.1 bt328.2.2.1))))))) = some r := H
  have A4 := Aside0.mk A40
  clear A40
  by_cases c5 : t321 = true
  · subst c5
    have H1 : ((mewslaw29_alive.f k).bind fun t322 => (some t322)) = some r := by rw [if_pos rfl] at H; exact H
    clear H
    have H := H1
    clear H1
    replace H := Option.bind_eq_some_iff.mp H
    obtain ⟨t322, A60, H⟩ := H
    replace H : (some t322) = some r := H
    have A6 := Aside0.mk A60
    clear A60
    obtain rfl := Option.some.inj H
    go_enter Try.func5, Try.ntmps5
    go_wp2_with (first | ((with_reducible refine gate_dst (N := 16) rfl ?_); refine Kd.R_lit Kd.string _ 9 ?hg (N := 16) ?hd (xs := ([a0] : List ByteArray)) (inner := [.string a0]) (ok := fun _ => True) (okp := fun _ => True) ?hr ?hp (fun _ hk => hk) trivial (Below.refl _ _) (Nat.le_refl _) (by simp) ?_; (case hd => rfl); (case hg => rfl); (case hr => first | (go_simp; done) | (go_simp; rfl)); (case hp => exact (Reps.one (show Kd.M Kd.string _ _ _ a0 [.string a0] from rfl) (Reps.none _ _))); intro v319 w7 ho8 hb hg_ hnew_; clear hg_ hnew_; (first | rw [← Ny318.out] at ho8 | (simp only [Int.reduceToNat] at ho8; rw [← Ny318.out] at ho8)); have n0_ := Aside0.mk (Kd.R_lower ho8 (below_size (by repeat (first | (with_reducible first | exact HB.out | apply below_alloc | apply pw_below_drewN | apply below_drew1) | exact HB.out)))); have n1_ := Aside0.mk (below_step (by repeat (first | (with_reducible first | exact HB.out | apply below_alloc | apply pw_below_drewN | apply below_drew1) | exact HB.out)) hb); clear HB; have HO320 := n0_; have HB := n1_; clear n0_ n1_; clear hb ho8; obtain ⟨Ao9, co9, eo9⟩ := Kd.R_slice HO320.out; subst eo9) | ((with_reducible refine gate_callee (f := 7) rfl ?_); refine goesL_ (some 17) rfl rfl Try.func7 (by kernel_rfl) rfl #[.slice Ao9 y318.length co9] rfl (by (try simp only [List.map_toArray, List.map_cons, List.map_nil]); first | done | rfl | (simp only [List.length_drop, List.length_take]; rfl)) ?_; (with_reducible refine (mewslaw29_far.calls k _ _ y318 true _ ?side1 ?side2 A4.out).mono ?_); (case side1 => repeat (first | exact (Kd.R_reads' HO320.out).2.2 | (with_reducible refine Kd.C_alloc ?_ _) | (with_reducible refine Kd.C_drewN ?_ _) | (with_reducible refine Kd.C_drew ?_))); (case side2 => exact (Kd.R_reads' HO320.out).2.1); rintro e w' ⟨rfl, ⟨nd, rfl⟩⟩; refine ⟨_, rfl, ?_⟩) | ((with_reducible refine gate_callee (f := 8) rfl ?_); refine goesL_ (some 18) rfl rfl Try.func8 (by kernel_rfl) rfl #[] rfl (by (try simp only [List.map_toArray, List.map_cons, List.map_nil]); first | done | rfl | (simp only [List.length_drop, List.length_take]; rfl)) ?_; (with_reducible refine (mewslaw29_alive.calls k  t322 _ A6.out).mono ?_); rintro e w10 ⟨rfl, hb⟩; refine ⟨_, rfl, ?_⟩; have n0_ := Aside0.mk (Kd.R_below (by (with_reducible repeat (first | apply Kd.R_alloc | apply Kd.R_drewN | apply Kd.R_drew)); exact HO320.out) hb); have n1_ := Aside0.mk (below_step (by repeat (first | (with_reducible first | exact HB.out | apply below_alloc | apply pw_below_drewN | apply below_drew1) | exact HB.out)) hb); clear HO320; clear HB; have HO320 := n0_; have HB := n1_; clear n0_ n1_; (try clear hb); (try clear hb2); (try clear hk); (try clear hi)))
    go_ret
    exact ⟨by first | rfl | (simp [errW_none, errW_some] <;> rfl) | (simp [*, errW_none, errW_some] <;> rfl), by repeat (first | (with_reducible first | exact HB.out | apply below_alloc | apply pw_below_drewN | apply below_drew1) | exact HB.out)⟩
  · replace c5 := Bool.eq_false_iff.mpr c5
    subst c5
    have H1 : ((args_Bound.f k a0).bind fun bt323 => ((mewsref29_Bound.f k a0).bind fun bt328 => (if a1 < 1 then (mewslaw29_ArgsTimes.j0 k a0 a1 a2 bt323.2.2.2 bt328.2.2.2 true bt323.1 bt323.2.1 bt323.2.2.1 bt328.1 bt328.2.1 bt328.2.2.1) else (if a1 > 1000 then (mewslaw29_ArgsTimes.j0 k a0 a1 a2 bt323.2.2.2 bt328.2.2.2 true bt323.1 bt323.2.1 bt323.2.2.1 bt328.1 bt328.2.1 bt328.2.2.1) else (if a2 < 0 then (mewslaw29_ArgsTimes.j0 k a0 a1 a2 bt323.2.2.2 bt328.2.2.2 true bt323.1 bt323.2.1 bt323.2.2.1 bt328.1 bt328.2.1 bt328.2.2.1) else (mewslaw29_ArgsTimes.j0 k a0 a1 a2 bt323.2.2.2 bt328.2.2.2 (decide (a2 > 4503599627370496)) bt323.1 bt323.2.1 bt323.2.2.1 bt328.1 bt328.2.1 bt328.2.2.1)))))) = some r := by rw [if_neg (show ¬ (false = true) by decide)] at H; exact H
    clear H
    have H := H1
    clear H1
    replace H := Option.bind_eq_some_iff.mp H
    obtain ⟨⟨t323, t324, t325, t326⟩, A110, H⟩ := H
    replace H : ((mewsref29_Bound.f k a0).bind fun bt328 => (if a1 < 1 then (mewslaw29_ArgsTimes.j0 k a0 a1 a2 t326 bt328.2.2.2 true t323 t324 t325 bt328.1 bt328.2.1 bt328.2.2.1) else (if a1 > 1000 then (mewslaw29_ArgsTimes.j0 k a0 a1 a2 t326 bt328.2.2.2 true t323 t324 t325 bt328.1 bt328.2.1 bt328.2.2.1) else (if a2 < 0 then (mewslaw29_ArgsTimes.j0 k a0 a1 a2 t326 bt328.2.2.2 true t323 t324 t325 bt328.1 bt328.2.1 bt328.2.2.1) else (mewslaw29_ArgsTimes.j0 k a0 a1 a2 t326 bt328.2.2.2 (decide (a2 > 4503599627370496)) t323 t324 t325 bt328.1 bt328.2.1 bt328.2.2.1))))) = some r := H
    have A11 := Aside0.mk A110
    clear A110
    replace H := Option.bind_eq_some_iff.mp H
    obtain ⟨⟨t328, t329, t330, t331⟩, A120, H⟩ := H
    replace H : (if a1 < 1 then (mewslaw29_ArgsTimes.j0 k a0 a1 a2 t326 t331 true t323 t324 t325 t328 t329 t330) else (if a1 > 1000 then (mewslaw29_ArgsTimes.j0 k a0 a1 a2 t326 t331 true t323 t324 t325 t328 t329 t330) else (if a2 < 0 then (mewslaw29_ArgsTimes.j0 k a0 a1 a2 t326 t331 true t323 t324 t325 t328 t329 t330) else (mewslaw29_ArgsTimes.j0 k a0 a1 a2 t326 t331 (decide (a2 > 4503599627370496)) t323 t324 t325 t328 t329 t330)))) = some r := H
    have A12 := Aside0.mk A120
    clear A120
    have HC13 := Aside0.mk H
    clear H
    go_enter Try.func5, Try.ntmps5
    go_upto_region 5 with (first | ((with_reducible refine gate_dst (N := 16) rfl ?_); refine Kd.R_lit Kd.string _ 9 ?hg (N := 16) ?hd (xs := ([a0] : List ByteArray)) (inner := [.string a0]) (ok := fun _ => True) (okp := fun _ => True) ?hr ?hp (fun _ hk => hk) trivial (Below.refl _ _) (Nat.le_refl _) (by simp) ?_; (case hd => rfl); (case hg => rfl); (case hr => first | (go_simp; done) | (go_simp; rfl)); (case hp => exact (Reps.one (show Kd.M Kd.string _ _ _ a0 [.string a0] from rfl) (Reps.none _ _))); intro v319 w14 ho15 hb hg_ hnew_; clear hg_ hnew_; (first | rw [← Ny318.out] at ho15 | (simp only [Int.reduceToNat] at ho15; rw [← Ny318.out] at ho15)); have n0_ := Aside0.mk (Kd.R_lower ho15 (below_size (by repeat (first | (with_reducible first | exact HB.out | apply below_alloc | apply pw_below_drewN | apply below_drew1) | exact HB.out)))); have n1_ := Aside0.mk (below_step (by repeat (first | (with_reducible first | exact HB.out | apply below_alloc | apply pw_below_drewN | apply below_drew1) | exact HB.out)) hb); clear HB; have HO320 := n0_; have HB := n1_; clear n0_ n1_; clear hb ho15; obtain ⟨Ao16, co16, eo16⟩ := Kd.R_slice HO320.out; subst eo16) | ((with_reducible refine gate_callee (f := 7) rfl ?_); refine goesL_ (some 17) rfl rfl Try.func7 (by kernel_rfl) rfl #[.slice Ao16 y318.length co16] rfl (by (try simp only [List.map_toArray, List.map_cons, List.map_nil]); first | done | rfl | (simp only [List.length_drop, List.length_take]; rfl)) ?_; (with_reducible refine (mewslaw29_far.calls k _ _ y318 false _ ?side1 ?side2 A4.out).mono ?_); (case side1 => repeat (first | exact (Kd.R_reads' HO320.out).2.2 | (with_reducible refine Kd.C_alloc ?_ _) | (with_reducible refine Kd.C_drewN ?_ _) | (with_reducible refine Kd.C_drew ?_))); (case side2 => exact (Kd.R_reads' HO320.out).2.1); rintro e w' ⟨rfl, ⟨nd, rfl⟩⟩; refine ⟨_, rfl, ?_⟩; (try (rw [drewN_self w14]; generalize hq_ : World.drewN w14 _ = w14; have n0_ : Aside0 (Kd.R Kd.string 9 w14 w.heap.size (fun _ => True) (.slice Ao16 y318.length co16) y318) := ⟨by rw [← hq_]; exact (by (with_reducible repeat (first | apply Kd.R_alloc | apply Kd.R_drewN | apply Kd.R_drew)); exact HO320.out)⟩; have n1_ : Aside0 (Below w.heap.size w w14) := ⟨by rw [← hq_]; exact (by repeat (first | (with_reducible first | exact HB.out | apply below_alloc | apply pw_below_drewN | apply below_drew1) | exact HB.out))⟩; clear HO320 HB hq_; have HO320 := n0_; have HB := n1_; clear n0_ n1_))) | ((with_reducible refine gate_callee (f := 14) rfl ?_); refine goesL_ (some 21) rfl rfl Try.func14 (by kernel_rfl) rfl #[.string a0] rfl (by (try simp only [List.map_toArray, List.map_cons, List.map_nil]); first | done | rfl | (simp only [List.length_drop, List.length_take]; rfl)) ?_; (with_reducible refine (args_Bound.calls k a0 t323 t324 t325 t326 _ A11.out).mono ?_); rintro e w17 ⟨rfl, hb⟩; refine ⟨_, rfl, ?_⟩; have n0_ := Aside0.mk (Kd.R_below (by (with_reducible repeat (first | apply Kd.R_alloc | apply Kd.R_drewN | apply Kd.R_drew)); exact HO320.out) hb); have n1_ := Aside0.mk (below_step (by repeat (first | (with_reducible first | exact HB.out | apply below_alloc | apply pw_below_drewN | apply below_drew1) | exact HB.out)) hb); clear HO320; clear HB; have HO320 := n0_; have HB := n1_; clear n0_ n1_; (try clear hb); (try clear hb2); (try clear hk); (try clear hi)) | ((with_reducible refine gate_dst (N := 7) rfl ?_); refine box_event ?hg (N := 7) ?hd (cs := #[.int .i64 0, .int .i64 0, .bool false]) (t := 42) ?hr ?_; (case hd => rfl); (case hg => rfl); (case hr => first | (go_simp; done) | (go_simp; rfl)); intro gb327 hg w18 hbox hb; have n0_ := Aside0.mk (Kd.R_below (by (with_reducible repeat (first | apply Kd.R_alloc | apply Kd.R_drewN | apply Kd.R_drew)); exact HO320.out) hb); have n1_ := Aside0.mk (below_step (by repeat (first | (with_reducible first | exact HB.out | apply below_alloc | apply pw_below_drewN | apply below_drew1) | exact HB.out)) hb); have n2_ := Aside0.mk (hbox); have n3_ := Aside0.mk ((by rw [hg]; exact (below_size (by repeat (first | (with_reducible first | exact HB.out | apply below_alloc | apply pw_below_drewN | apply below_drew1) | exact HB.out))) : w.heap.size ≤ gb327)); have n4_ := Aside0.mk ((by rw [hg]; exact (below_size (by repeat (first | (with_reducible first | exact HB.out | apply below_alloc | apply pw_below_drewN | apply below_drew1) | exact HB.out))) : w.heap.size ≤ gb327)); clear HO320; clear HB; have HO320 := n0_; have HB := n1_; have BK327 := n2_; have GW327 := n3_; have GE327 := n4_; clear n0_ n1_ n2_ n3_ n4_; clear hb hbox hg; have hcz19_0 : w18.cell? ⟨gb327, 0, none⟩ = some (.int .i64 0) := (blk_cell BK327.out 0).trans rfl; have hcz19_1 : w18.cell? ⟨gb327, 1, none⟩ = some (.int .i64 0) := (blk_cell BK327.out 1).trans rfl; have hcz19_2 : w18.cell? ⟨gb327, 2, none⟩ = some (.bool false) := (blk_cell BK327.out 2).trans rfl; have hfz19_0 := blk_frozen BK327.out 0; have hfz19_1 := blk_frozen BK327.out 1; have hfz19_2 := blk_frozen BK327.out 2) | ((with_reducible refine gate_callee (f := 15) rfl ?_); refine goesL_ (some 26) rfl rfl Try.func15 (by kernel_rfl) rfl #[.string a0] rfl (by (try simp only [List.map_toArray, List.map_cons, List.map_nil]); first | done | rfl | (simp only [List.length_drop, List.length_take]; rfl)) ?_; (with_reducible refine (mewsref29_Bound.calls k a0 t328 t329 t330 t331 _ A12.out).mono ?_); rintro e w20 ⟨rfl, hb⟩; refine ⟨_, rfl, ?_⟩; have n0_ := Aside0.mk (Kd.R_below (by (with_reducible repeat (first | apply Kd.R_alloc | apply Kd.R_drewN | apply Kd.R_drew)); exact (Kd.R_mono (Kd.R_far (p := ⟨gb327, 2, none⟩) (Kd.R_far (p := ⟨gb327, 1, none⟩) (Kd.R_far (p := ⟨gb327, 0, none⟩) (Kd.R_types HO320.out BK327.out (by decide)) (fun _ hk => hk.2) (.int .i64 t323)) (fun _ hk => hk.2) (.int .i64 t324)) (fun _ hk => hk.2) (.bool t325)) (fun _ h_ => h_.1))) hb); have n1_ := Aside0.mk (blk_below (g := gb327) (o := .cells #[.int .i64 t323, .int .i64 t324, .bool t325] 42 (0, 0)) (by (with_reducible repeat (first | refine blk_drewN ?_ _ | refine blk_drew ?_ | refine blk_alloc ?_ _)); refine blk_put (cs := #[.int .i64 t323, .int .i64 t324, .bool false]) ?_ 2 _ rfl; (with_reducible repeat (first | refine blk_drewN ?_ _ | refine blk_drew ?_ | refine blk_alloc ?_ _)); refine blk_put (cs := #[.int .i64 t323, .int .i64 0, .bool false]) ?_ 1 _ rfl; (with_reducible repeat (first | refine blk_drewN ?_ _ | refine blk_drew ?_ | refine blk_alloc ?_ _)); refine blk_put (cs := #[.int .i64 0, .int .i64 0, .bool false]) ?_ 0 _ rfl; (with_reducible repeat (first | refine blk_drewN ?_ _ | refine blk_drew ?_ | refine blk_alloc ?_ _)); exact BK327.out) hb); have n2_ := Aside0.mk (below_step (by repeat (first | (with_reducible first | exact HB.out | apply below_alloc | apply pw_below_drewN | apply below_drew1 | refine below_set ?_ GE327.out) | exact HB.out)) hb); clear HO320; clear BK327; clear HB; have HO320 := n0_; have BK327 := n1_; have HB := n2_; clear n0_ n1_ n2_; (try clear hb); (try clear hb2); (try clear hk); (try clear hi)) | ((with_reducible refine gate_dst (N := 9) rfl ?_); refine box_event ?hg (N := 9) ?hd (cs := #[.int .i64 0, .int .i64 0, .bool false]) (t := 42) ?hr ?_; (case hd => rfl); (case hg => rfl); (case hr => first | (go_simp; done) | (go_simp; rfl)); intro gb332 hg w21 hbox hb; have n0_ := Aside0.mk (Kd.R_below (by (with_reducible repeat (first | apply Kd.R_alloc | apply Kd.R_drewN | apply Kd.R_drew)); exact HO320.out) hb); have n1_ := Aside0.mk (blk_below (g := gb327) (o := .cells #[.int .i64 t323, .int .i64 t324, .bool t325] 42 (0, 0)) (by (with_reducible repeat (first | refine blk_drewN ?_ _ | refine blk_drew ?_ | refine blk_alloc ?_ _)); exact BK327.out) hb); have n2_ := Aside0.mk (below_step (by repeat (first | (with_reducible first | exact HB.out | apply below_alloc | apply pw_below_drewN | apply below_drew1 | refine below_set ?_ GE327.out) | exact HB.out)) hb); have n3_ := Aside0.mk (hbox); have n4_ := Aside0.mk ((by rw [hg]; exact (below_size (by repeat (first | (with_reducible first | exact HB.out | apply below_alloc | apply pw_below_drewN | apply below_drew1 | refine below_set ?_ GE327.out) | exact HB.out))) : w.heap.size ≤ gb332)); have n5_ := Aside0.mk ((by rw [hg]; exact (below_size (by repeat (first | (with_reducible first | exact HB.out | apply below_alloc | apply pw_below_drewN | apply below_drew1 | refine below_set ?_ GE327.out) | exact HB.out))) : w.heap.size ≤ gb332)); have n6_ := Aside0.mk ((by rw [hg]; exact Nat.ne_of_lt (blk_lt (g := gb327) (o := .cells #[.int .i64 t323, .int .i64 t324, .bool t325] 42 (0, 0)) (by (with_reducible repeat (first | refine blk_drewN ?_ _ | refine blk_drew ?_ | refine blk_alloc ?_ _)); exact BK327.out)) : gb327 ≠ gb332)); have n7_ := Aside0.mk ((by rw [hg]; exact Nat.ne_of_gt (blk_lt (g := gb327) (o := .cells #[.int .i64 t323, .int .i64 t324, .bool t325] 42 (0, 0)) (by (with_reducible repeat (first | refine blk_drewN ?_ _ | refine blk_drew ?_ | refine blk_alloc ?_ _)); exact BK327.out)) : gb332 ≠ gb327)); clear HO320; clear BK327; clear HB; have HO320 := n0_; have BK327 := n1_; have HB := n2_; have BK332 := n3_; have GW332 := n4_; have GE332 := n5_; have NB327_332 := n6_; have NB332_327 := n7_; clear n0_ n1_ n2_ n3_ n4_ n5_ n6_ n7_; clear hb hbox hg; have hnb22 := NB332_327.out; have hnc22 := NB327_332.out; have hcz23_0 : w21.cell? ⟨gb332, 0, none⟩ = some (.int .i64 0) := (blk_cell BK332.out 0).trans rfl; have hcz23_1 : w21.cell? ⟨gb332, 1, none⟩ = some (.int .i64 0) := (blk_cell BK332.out 1).trans rfl; have hcz23_2 : w21.cell? ⟨gb332, 2, none⟩ = some (.bool false) := (blk_cell BK332.out 2).trans rfl; have hfz23_0 := blk_frozen BK332.out 0; have hfz23_1 := blk_frozen BK332.out 1; have hfz23_2 := blk_frozen BK332.out 2))
    (try simp only [Act.put, List.setIfInBounds_toArray, List.set_cons_zero, List.set_cons_succ])
    go_cut [42] (fun v42 wc => ∃ (kq : Nat) (x42_12 : Bool), v42 = .bool x42_12 ∧ Aside0 (mewslaw29_ArgsTimes.j0 kq a0 a1 a2 t326 t331 x42_12 t323 t324 t325 t328 t329 t330 = some r) ∧ Aside0 (kq ≤ k) ∧ Aside0 (wc.heap[gb327]? = some (.cells #[.int .i64 t323, .int .i64 t324, .bool t325] 42 (0, 0))) ∧ Aside0 (wc.heap[gb332]? = some (.cells #[.int .i64 t328, .int .i64 t329, .bool t330] 42 (0, 0))) ∧ Aside0 (Below w.heap.size w wc))
    case first =>
      have H := HC13.out
      clear HC13
      by_cases c24 : a1 < 1
      · rw [if_pos c24] at H
        have c24b0 : decide (a1 < 1) = true := decide_eq_true c24
        clear c24
        (first | rw [c24b0] | (simp only [i64_w, i32_w]; rw [c24b0]) | skip)
        have H' := Aside0.mk H
        clear H
        go_wp2
        go_meet
        case rel => exact ⟨_, (true), (by first | rfl | (simp; done) | (simp [*]; done)), H', ⟨by first | omega | exact Nat.le_refl _⟩, ⟨by (with_reducible repeat (first | refine blk_drewN ?_ _ | refine blk_drew ?_ | refine blk_alloc ?_ _)); refine blk_far ?_ NB327_332.out _; (with_reducible repeat (first | refine blk_drewN ?_ _ | refine blk_drew ?_ | refine blk_alloc ?_ _)); refine blk_far ?_ NB327_332.out _; (with_reducible repeat (first | refine blk_drewN ?_ _ | refine blk_drew ?_ | refine blk_alloc ?_ _)); refine blk_far ?_ NB327_332.out _; (with_reducible repeat (first | refine blk_drewN ?_ _ | refine blk_drew ?_ | refine blk_alloc ?_ _)); exact BK327.out⟩, ⟨by (with_reducible repeat (first | refine blk_drewN ?_ _ | refine blk_drew ?_ | refine blk_alloc ?_ _)); refine blk_put (cs := #[.int .i64 t328, .int .i64 t329, .bool false]) ?_ 2 _ rfl; (with_reducible repeat (first | refine blk_drewN ?_ _ | refine blk_drew ?_ | refine blk_alloc ?_ _)); refine blk_put (cs := #[.int .i64 t328, .int .i64 0, .bool false]) ?_ 1 _ rfl; (with_reducible repeat (first | refine blk_drewN ?_ _ | refine blk_drew ?_ | refine blk_alloc ?_ _)); refine blk_put (cs := #[.int .i64 0, .int .i64 0, .bool false]) ?_ 0 _ rfl; (with_reducible repeat (first | refine blk_drewN ?_ _ | refine blk_drew ?_ | refine blk_alloc ?_ _)); exact BK332.out⟩, ⟨by repeat (first | (with_reducible first | exact HB.out | apply below_alloc | apply pw_below_drewN | apply below_drew1 | refine below_set ?_ GE327.out | refine below_set ?_ GE332.out) | exact HB.out)⟩⟩
      · rw [if_neg c24] at H
        have c24b0 : decide (a1 < 1) = false := decide_eq_false c24
        clear c24
        (first | rw [c24b0] | (simp only [i64_w, i32_w]; rw [c24b0]) | skip)
        by_cases c25 : a1 > 1000
        · rw [if_pos c25] at H
          have c25b0 : decide (1000 < a1) = true := decide_eq_true c25
          clear c25
          have H' := Aside0.mk H
          clear H
          go_wp2
          go_meet
          case rel => exact ⟨_, (true), (by first | rfl | (simp; done) | (simp [*]; done)), H', ⟨by first | omega | exact Nat.le_refl _⟩, ⟨by (with_reducible repeat (first | refine blk_drewN ?_ _ | refine blk_drew ?_ | refine blk_alloc ?_ _)); refine blk_far ?_ NB327_332.out _; (with_reducible repeat (first | refine blk_drewN ?_ _ | refine blk_drew ?_ | refine blk_alloc ?_ _)); refine blk_far ?_ NB327_332.out _; (with_reducible repeat (first | refine blk_drewN ?_ _ | refine blk_drew ?_ | refine blk_alloc ?_ _)); refine blk_far ?_ NB327_332.out _; (with_reducible repeat (first | refine blk_drewN ?_ _ | refine blk_drew ?_ | refine blk_alloc ?_ _)); exact BK327.out⟩, ⟨by (with_reducible repeat (first | refine blk_drewN ?_ _ | refine blk_drew ?_ | refine blk_alloc ?_ _)); refine blk_put (cs := #[.int .i64 t328, .int .i64 t329, .bool false]) ?_ 2 _ rfl; (with_reducible repeat (first | refine blk_drewN ?_ _ | refine blk_drew ?_ | refine blk_alloc ?_ _)); refine blk_put (cs := #[.int .i64 t328, .int .i64 0, .bool false]) ?_ 1 _ rfl; (with_reducible repeat (first | refine blk_drewN ?_ _ | refine blk_drew ?_ | refine blk_alloc ?_ _)); refine blk_put (cs := #[.int .i64 0, .int .i64 0, .bool false]) ?_ 0 _ rfl; (with_reducible repeat (first | refine blk_drewN ?_ _ | refine blk_drew ?_ | refine blk_alloc ?_ _)); exact BK332.out⟩, ⟨by repeat (first | (with_reducible first | exact HB.out | apply below_alloc | apply pw_below_drewN | apply below_drew1 | refine below_set ?_ GE327.out | refine below_set ?_ GE332.out) | exact HB.out)⟩⟩
        · rw [if_neg c25] at H
          have c25b0 : decide (1000 < a1) = false := decide_eq_false c25
          clear c25
          by_cases c26 : a2 < 0
          · rw [if_pos c26] at H
            have c26b0 : decide (a2 < 0) = true := decide_eq_true c26
            clear c26
            have H' := Aside0.mk H
            clear H
            go_wp2
            go_meet
            case rel => exact ⟨_, (true), (by first | rfl | (simp; done) | (simp [*]; done)), H', ⟨by first | omega | exact Nat.le_refl _⟩, ⟨by (with_reducible repeat (first | refine blk_drewN ?_ _ | refine blk_drew ?_ | refine blk_alloc ?_ _)); refine blk_far ?_ NB327_332.out _; (with_reducible repeat (first | refine blk_drewN ?_ _ | refine blk_drew ?_ | refine blk_alloc ?_ _)); refine blk_far ?_ NB327_332.out _; (with_reducible repeat (first | refine blk_drewN ?_ _ | refine blk_drew ?_ | refine blk_alloc ?_ _)); refine blk_far ?_ NB327_332.out _; (with_reducible repeat (first | refine blk_drewN ?_ _ | refine blk_drew ?_ | refine blk_alloc ?_ _)); exact BK327.out⟩, ⟨by (with_reducible repeat (first | refine blk_drewN ?_ _ | refine blk_drew ?_ | refine blk_alloc ?_ _)); refine blk_put (cs := #[.int .i64 t328, .int .i64 t329, .bool false]) ?_ 2 _ rfl; (with_reducible repeat (first | refine blk_drewN ?_ _ | refine blk_drew ?_ | refine blk_alloc ?_ _)); refine blk_put (cs := #[.int .i64 t328, .int .i64 0, .bool false]) ?_ 1 _ rfl; (with_reducible repeat (first | refine blk_drewN ?_ _ | refine blk_drew ?_ | refine blk_alloc ?_ _)); refine blk_put (cs := #[.int .i64 0, .int .i64 0, .bool false]) ?_ 0 _ rfl; (with_reducible repeat (first | refine blk_drewN ?_ _ | refine blk_drew ?_ | refine blk_alloc ?_ _)); exact BK332.out⟩, ⟨by repeat (first | (with_reducible first | exact HB.out | apply below_alloc | apply pw_below_drewN | apply below_drew1 | refine below_set ?_ GE327.out | refine below_set ?_ GE332.out) | exact HB.out)⟩⟩
          · rw [if_neg c26] at H
            have c26b0 : decide (a2 < 0) = false := decide_eq_false c26
            clear c26
            have H' := Aside0.mk H
            clear H
            go_wp2
            go_meet
            case rel => exact ⟨_, (decide (a2 > 4503599627370496)), (by first | rfl | (simp; done) | (simp [*]; done)), H', ⟨by first | omega | exact Nat.le_refl _⟩, ⟨by (with_reducible repeat (first | refine blk_drewN ?_ _ | refine blk_drew ?_ | refine blk_alloc ?_ _)); refine blk_far ?_ NB327_332.out _; (with_reducible repeat (first | refine blk_drewN ?_ _ | refine blk_drew ?_ | refine blk_alloc ?_ _)); refine blk_far ?_ NB327_332.out _; (with_reducible repeat (first | refine blk_drewN ?_ _ | refine blk_drew ?_ | refine blk_alloc ?_ _)); refine blk_far ?_ NB327_332.out _; (with_reducible repeat (first | refine blk_drewN ?_ _ | refine blk_drew ?_ | refine blk_alloc ?_ _)); exact BK327.out⟩, ⟨by (with_reducible repeat (first | refine blk_drewN ?_ _ | refine blk_drew ?_ | refine blk_alloc ?_ _)); refine blk_put (cs := #[.int .i64 t328, .int .i64 t329, .bool false]) ?_ 2 _ rfl; (with_reducible repeat (first | refine blk_drewN ?_ _ | refine blk_drew ?_ | refine blk_alloc ?_ _)); refine blk_put (cs := #[.int .i64 t328, .int .i64 0, .bool false]) ?_ 1 _ rfl; (with_reducible repeat (first | refine blk_drewN ?_ _ | refine blk_drew ?_ | refine blk_alloc ?_ _)); refine blk_put (cs := #[.int .i64 0, .int .i64 0, .bool false]) ?_ 0 _ rfl; (with_reducible repeat (first | refine blk_drewN ?_ _ | refine blk_drew ?_ | refine blk_alloc ?_ _)); exact BK332.out⟩, ⟨by repeat (first | (with_reducible first | exact HB.out | apply below_alloc | apply pw_below_drewN | apply below_drew1 | refine below_set ?_ GE327.out | refine below_set ?_ GE332.out) | exact HB.out)⟩⟩
    case rest =>
      clear HC13
      try clear c1
      try clear c2
      try clear p2
      try clear c5
      try clear c7
      try clear c8
      try clear c14
      try clear c15
      try clear c22
      try clear c24
      try clear c24b0
      try clear c25
      try clear c25b0
      try clear c26
      try clear c26b0
      try clear hcz19_0
      try clear hcz19_1
      try clear hcz19_2
      try clear hcz23_0
      try clear hcz23_1
      try clear hcz23_2
      try clear hfz19_0
      try clear hfz19_1
      try clear hfz19_2
      try clear hfz23_0
      try clear hfz23_1
      try clear hfz23_2
      obtain ⟨kq, x42_12, rfl, HA, HJ12, BK327, BK332, HB⟩ := hcut
      cases kq with
      | zero => exact absurd HA.out (by simp [mewslaw29_ArgsTimes.j0])
      | succ kj12 =>
        have H := HA.out
        clear HA
        simp only [mewslaw29_ArgsTimes.j0] at H
        by_cases c27 : x42_12 = true
        · subst c27
          have H1 : ((args_End.f kj12 a0 1000 5).bind fun bt333 => ((mewsref29_End.f kj12 a0 1000 5).bind fun bt335 => (if (t323 == t328 && (t324 == t329 && (t325 == t330))) = true then (if (t326 == t331) = true then (if bt333.1 = bt335.1 then (if bt333.2 = bt335.2 then ((mewslaw29_alive.f kj12).bind fun t337 => (some t337)) else (some false)) else (some false)) else (some false)) else (some false)))) = some r := by rw [if_pos rfl] at H; exact H
          clear H
          have H := H1
          clear H1
          replace H := Option.bind_eq_some_iff.mp H
          obtain ⟨⟨t333, t334⟩, A280, H⟩ := H
          replace H : ((mewsref29_End.f kj12 a0 1000 5).bind fun bt335 => (if (t323 == t328 && (t324 == t329 && (t325 == t330))) = true then (if (t326 == t331) = true then (if t333 = bt335.1 then (if t334 = bt335.2 then ((mewslaw29_alive.f kj12).bind fun t337 => (some t337)) else (some false)) else (some false)) else (some false)) else (some false))) = some r := H
          have A28 := Aside0.mk A280
          clear A280
          replace H := Option.bind_eq_some_iff.mp H
          obtain ⟨⟨t335, t336⟩, A290, H⟩ := H
          replace H : (if (t323 == t328 && (t324 == t329 && (t325 == t330))) = true then (if (t326 == t331) = true then (if t333 = t335 then (if t334 = t336 then ((mewslaw29_alive.f kj12).bind fun t337 => (some t337)) else (some false)) else (some false)) else (some false)) else (some false)) = some r := H
          have A29 := Aside0.mk A290
          clear A290
          by_cases c30 : (t323 == t328 && (t324 == t329 && (t325 == t330))) = true
          · rw [if_pos c30] at H
            have c30b0 : (t323 == t328 && (t324 == t329 && (t325 == t330))) = true := c30
            (try (have c30b1 : decide (t323 = t328 && (t324 == t329 && (t325 == t330))) = true := by simpa using c30))
            (try (have c30b2 : (t323 == t328 && (t324 == t329 && (t325 == t330))) = true := by simpa using c30))
            clear c30
            by_cases c31 : (t326 == t331) = true
            · rw [if_pos c31] at H
              have c31b0 : (t326 == t331) = true := c31
              (try (have c31b1 : decide (t326 = t331) = true := by simpa using c31))
              (try (have c31b2 : (t326 == t331) = true := by simpa using c31))
              clear c31
              by_cases c32 : t333 = t335
              · rw [if_pos c32] at H
                have c32b0 : (t333 == t335) = true := beq_iff_eq.mpr c32
                have c32b1 : (t333 != t335) = false := bne_eq_false_iff_eq.mpr c32
                clear c32
                by_cases c33 : t334 = t336
                · rw [if_pos c33] at H
                  have c33b0 : (t334 == t336) = true := beq_iff_eq.mpr c33
                  have c33b1 : (t334 != t336) = false := bne_eq_false_iff_eq.mpr c33
                  clear c33
                  replace H := Option.bind_eq_some_iff.mp H
                  obtain ⟨t337, A340, H⟩ := H
                  replace H : (some t337) = some r := H
                  have A34 := Aside0.mk A340
                  clear A340
                  obtain rfl := Option.some.inj H
                  go_wp2_with (first | ((with_reducible refine gate_callee (f := 16) rfl ?_); refine goesL_ (some 47) rfl rfl Try.func16 (by kernel_rfl) rfl #[.string a0, .int .i64 1000, .int .i64 5] rfl (by (try simp only [List.map_toArray, List.map_cons, List.map_nil]); first | done | rfl | (simp only [List.length_drop, List.length_take]; rfl)) ?_; (with_reducible refine (args_End.calls kj12 a0 1000 5 t333 t334 _ A28.out).mono ?_); rintro e w35 ⟨rfl, hb⟩; refine ⟨_, rfl, ?_⟩; have n0_ := Aside0.mk (blk_below (g := gb327) (o := .cells #[.int .i64 t323, .int .i64 t324, .bool t325] 42 (0, 0)) (by (with_reducible repeat (first | refine blk_drewN ?_ _ | refine blk_drew ?_ | refine blk_alloc ?_ _)); exact BK327.out) hb); have n1_ := Aside0.mk (blk_below (g := gb332) (o := .cells #[.int .i64 t328, .int .i64 t329, .bool t330] 42 (0, 0)) (by (with_reducible repeat (first | refine blk_drewN ?_ _ | refine blk_drew ?_ | refine blk_alloc ?_ _)); exact BK332.out) hb); have n2_ := Aside0.mk (below_step (by repeat (first | (with_reducible first | exact HB.out | apply below_alloc | apply pw_below_drewN | apply below_drew1 | refine below_set ?_ GE327.out | refine below_set ?_ GE332.out) | exact HB.out)) hb); clear BK327; clear BK332; clear HB; have BK327 := n0_; have BK332 := n1_; have HB := n2_; clear n0_ n1_ n2_; (try clear hb); (try clear hb2); (try clear hk); (try clear hi)) | ((with_reducible refine gate_callee (f := 17) rfl ?_); refine goesL_ (some 54) rfl rfl Try.func17 (by kernel_rfl) rfl #[.string a0, .int .i64 1000, .int .i64 5] rfl (by (try simp only [List.map_toArray, List.map_cons, List.map_nil]); first | done | rfl | (simp only [List.length_drop, List.length_take]; rfl)) ?_; (with_reducible refine (mewsref29_End.calls kj12 a0 1000 5 t335 t336 _ A29.out).mono ?_); rintro e w36 ⟨rfl, hb⟩; refine ⟨_, rfl, ?_⟩; have n0_ := Aside0.mk (blk_below (g := gb327) (o := .cells #[.int .i64 t323, .int .i64 t324, .bool t325] 42 (0, 0)) (by (with_reducible repeat (first | refine blk_drewN ?_ _ | refine blk_drew ?_ | refine blk_alloc ?_ _)); exact BK327.out) hb); have n1_ := Aside0.mk (blk_below (g := gb332) (o := .cells #[.int .i64 t328, .int .i64 t329, .bool t330] 42 (0, 0)) (by (with_reducible repeat (first | refine blk_drewN ?_ _ | refine blk_drew ?_ | refine blk_alloc ?_ _)); exact BK332.out) hb); have n2_ := Aside0.mk (below_step (by repeat (first | (with_reducible first | exact HB.out | apply below_alloc | apply pw_below_drewN | apply below_drew1 | refine below_set ?_ GE327.out | refine below_set ?_ GE332.out) | exact HB.out)) hb); clear BK327; clear BK332; clear HB; have BK327 := n0_; have BK332 := n1_; have HB := n2_; clear n0_ n1_ n2_; (try clear hb); (try clear hb2); (try clear hk); (try clear hi); have hnb37 := NB327_332.out; have hnc37 := NB332_327.out; have hcz38_0 : w36.cell? ⟨gb327, 0, none⟩ = some (.int .i64 t323) := (blk_cell BK327.out 0).trans rfl; have hcz38_1 : w36.cell? ⟨gb327, 1, none⟩ = some (.int .i64 t324) := (blk_cell BK327.out 1).trans rfl; have hcz38_2 : w36.cell? ⟨gb327, 2, none⟩ = some (.bool t325) := (blk_cell BK327.out 2).trans rfl; have hfz38_0 := blk_frozen BK327.out 0; have hfz38_1 := blk_frozen BK327.out 1; have hfz38_2 := blk_frozen BK327.out 2; have hcz39_0 : w36.cell? ⟨gb332, 0, none⟩ = some (.int .i64 t328) := (blk_cell BK332.out 0).trans rfl; have hcz39_1 : w36.cell? ⟨gb332, 1, none⟩ = some (.int .i64 t329) := (blk_cell BK332.out 1).trans rfl; have hcz39_2 : w36.cell? ⟨gb332, 2, none⟩ = some (.bool t330) := (blk_cell BK332.out 2).trans rfl; have hfz39_0 := blk_frozen BK332.out 0; have hfz39_1 := blk_frozen BK332.out 1; have hfz39_2 := blk_frozen BK332.out 2) | (go_at_call 8; (with_reducible refine (mewslaw29_alive.calls kj12  t337 _ A34.out).mono ?_); rintro e w40 ⟨rfl, hb⟩; have n0_ := Aside0.mk (blk_below (g := gb327) (o := .cells #[.int .i64 t323, .int .i64 t324, .bool t325] 42 (0, 0)) (by (with_reducible repeat (first | refine blk_drewN ?_ _ | refine blk_drew ?_ | refine blk_alloc ?_ _)); exact BK327.out) hb); have n1_ := Aside0.mk (blk_below (g := gb332) (o := .cells #[.int .i64 t328, .int .i64 t329, .bool t330] 42 (0, 0)) (by (with_reducible repeat (first | refine blk_drewN ?_ _ | refine blk_drew ?_ | refine blk_alloc ?_ _)); exact BK332.out) hb); have n2_ := Aside0.mk (below_step (by repeat (first | (with_reducible first | exact HB.out | apply below_alloc | apply pw_below_drewN | apply below_drew1 | refine below_set ?_ GE327.out | refine below_set ?_ GE332.out) | exact HB.out)) hb); clear BK327; clear BK332; clear HB; have BK327 := n0_; have BK332 := n1_; have HB := n2_; clear n0_ n1_ n2_; (try clear hb); (try clear hb2); (try clear hk); (try clear hi)))
                  go_ret
                  exact ⟨by first | rfl | (simp [errW_none, errW_some] <;> rfl) | (simp [*, errW_none, errW_some] <;> rfl), by repeat (first | (with_reducible first | exact HB.out | apply below_alloc | apply pw_below_drewN | apply below_drew1 | refine below_set ?_ GE327.out | refine below_set ?_ GE332.out) | exact HB.out)⟩
                · rw [if_neg c33] at H
                  have c33b0 : (t334 == t336) = false := beq_eq_false_iff_ne.mpr c33
                  have c33b1 : (t334 != t336) = true := bne_iff_ne.mpr c33
                  exact absurd ((Option.some.inj H).trans hr_.out) (by decide)
              · rw [if_neg c32] at H
                have c32b0 : (t333 == t335) = false := beq_eq_false_iff_ne.mpr c32
                have c32b1 : (t333 != t335) = true := bne_iff_ne.mpr c32
                exact absurd ((Option.some.inj H).trans hr_.out) (by decide)
            · rw [if_neg c31] at H
              have c31b0 : (t326 == t331) = false := by simpa using c31
              (try (have c31b1 : decide (t326 = t331) = false := by simpa using c31))
              (try (have c31b2 : (t326 == t331) = false := by simpa using c31))
              (try (have c31b3 : ¬ (t326 = t331) := by simpa using c31))
              clear c31
              exact absurd ((Option.some.inj H).trans hr_.out) (by decide)
          · rw [if_neg c30] at H
            have c30b0 : (t323 == t328 && (t324 == t329 && (t325 == t330))) = false := by simpa using c30
            (try (have c30b1 : decide (t323 = t328 && (t324 == t329 && (t325 == t330))) = false := by simpa using c30))
            (try (have c30b2 : (t323 == t328 && (t324 == t329 && (t325 == t330))) = false := by simpa using c30))
            (try (have c30b3 : ¬ (t323 = t328 && (t324 == t329 && (t325 == t330))) := by simpa using c30))
            clear c30
            exact absurd ((Option.some.inj H).trans hr_.out) (by decide)
        · replace c27 := Bool.eq_false_iff.mpr c27
          subst c27
          have H1 : ((args_End.f kj12 a0 a1 a2).bind fun bt338 => ((mewsref29_End.f kj12 a0 a1 a2).bind fun bt340 => (if (t323 == t328 && (t324 == t329 && (t325 == t330))) = true then (if (t326 == t331) = true then (if bt338.1 = bt340.1 then (if bt338.2 = bt340.2 then ((mewslaw29_alive.f kj12).bind fun t342 => (some t342)) else (some false)) else (some false)) else (some false)) else (some false)))) = some r := by rw [if_neg (show ¬ (false = true) by decide)] at H; exact H
          clear H
          have H := H1
          clear H1
          replace H := Option.bind_eq_some_iff.mp H
          obtain ⟨⟨t338, t339⟩, A410, H⟩ := H
          replace H : ((mewsref29_End.f kj12 a0 a1 a2).bind fun bt340 => (if (t323 == t328 && (t324 == t329 && (t325 == t330))) = true then (if (t326 == t331) = true then (if t338 = bt340.1 then (if t339 = bt340.2 then ((mewslaw29_alive.f kj12).bind fun t342 => (some t342)) else (some false)) else (some false)) else (some false)) else (some false))) = some r := H
          have A41 := Aside0.mk A410
          clear A410
          replace H := Option.bind_eq_some_iff.mp H
          obtain ⟨⟨t340, t341⟩, A420, H⟩ := H
          replace H : (if (t323 == t328 && (t324 == t329 && (t325 == t330))) = true then (if (t326 == t331) = true then (if t338 = t340 then (if t339 = t341 then ((mewslaw29_alive.f kj12).bind fun t342 => (some t342)) else (some false)) else (some false)) else (some false)) else (some false)) = some r := H
          have A42 := Aside0.mk A420
          clear A420
          by_cases c43 : (t323 == t328 && (t324 == t329 && (t325 == t330))) = true
          · rw [if_pos c43] at H
            have c43b0 : (t323 == t328 && (t324 == t329 && (t325 == t330))) = true := c43
            (try (have c43b1 : decide (t323 = t328 && (t324 == t329 && (t325 == t330))) = true := by simpa using c43))
            (try (have c43b2 : (t323 == t328 && (t324 == t329 && (t325 == t330))) = true := by simpa using c43))
            clear c43
            by_cases c44 : (t326 == t331) = true
            · rw [if_pos c44] at H
              have c44b0 : (t326 == t331) = true := c44
              (try (have c44b1 : decide (t326 = t331) = true := by simpa using c44))
              (try (have c44b2 : (t326 == t331) = true := by simpa using c44))
              clear c44
              by_cases c45 : t338 = t340
              · rw [if_pos c45] at H
                have c45b0 : (t338 == t340) = true := beq_iff_eq.mpr c45
                have c45b1 : (t338 != t340) = false := bne_eq_false_iff_eq.mpr c45
                clear c45
                by_cases c46 : t339 = t341
                · rw [if_pos c46] at H
                  have c46b0 : (t339 == t341) = true := beq_iff_eq.mpr c46
                  have c46b1 : (t339 != t341) = false := bne_eq_false_iff_eq.mpr c46
                  clear c46
                  replace H := Option.bind_eq_some_iff.mp H
                  obtain ⟨t342, A470, H⟩ := H
                  replace H : (some t342) = some r := H
                  have A47 := Aside0.mk A470
                  clear A470
                  obtain rfl := Option.some.inj H
                  go_wp2_with (first | ((with_reducible refine gate_callee (f := 16) rfl ?_); refine goesL_ (some 47) rfl rfl Try.func16 (by kernel_rfl) rfl #[.string a0, .int .i64 a1, .int .i64 a2] rfl (by (try simp only [List.map_toArray, List.map_cons, List.map_nil]); first | done | rfl | (simp only [List.length_drop, List.length_take]; rfl)) ?_; (with_reducible refine (args_End.calls kj12 a0 a1 a2 t338 t339 _ A41.out).mono ?_); rintro e w48 ⟨rfl, hb⟩; refine ⟨_, rfl, ?_⟩; have n0_ := Aside0.mk (blk_below (g := gb327) (o := .cells #[.int .i64 t323, .int .i64 t324, .bool t325] 42 (0, 0)) (by (with_reducible repeat (first | refine blk_drewN ?_ _ | refine blk_drew ?_ | refine blk_alloc ?_ _)); exact BK327.out) hb); have n1_ := Aside0.mk (blk_below (g := gb332) (o := .cells #[.int .i64 t328, .int .i64 t329, .bool t330] 42 (0, 0)) (by (with_reducible repeat (first | refine blk_drewN ?_ _ | refine blk_drew ?_ | refine blk_alloc ?_ _)); exact BK332.out) hb); have n2_ := Aside0.mk (below_step (by repeat (first | (with_reducible first | exact HB.out | apply below_alloc | apply pw_below_drewN | apply below_drew1 | refine below_set ?_ GE327.out | refine below_set ?_ GE332.out) | exact HB.out)) hb); clear BK327; clear BK332; clear HB; have BK327 := n0_; have BK332 := n1_; have HB := n2_; clear n0_ n1_ n2_; (try clear hb); (try clear hb2); (try clear hk); (try clear hi)) | ((with_reducible refine gate_callee (f := 17) rfl ?_); refine goesL_ (some 54) rfl rfl Try.func17 (by kernel_rfl) rfl #[.string a0, .int .i64 a1, .int .i64 a2] rfl (by (try simp only [List.map_toArray, List.map_cons, List.map_nil]); first | done | rfl | (simp only [List.length_drop, List.length_take]; rfl)) ?_; (with_reducible refine (mewsref29_End.calls kj12 a0 a1 a2 t340 t341 _ A42.out).mono ?_); rintro e w49 ⟨rfl, hb⟩; refine ⟨_, rfl, ?_⟩; have n0_ := Aside0.mk (blk_below (g := gb327) (o := .cells #[.int .i64 t323, .int .i64 t324, .bool t325] 42 (0, 0)) (by (with_reducible repeat (first | refine blk_drewN ?_ _ | refine blk_drew ?_ | refine blk_alloc ?_ _)); exact BK327.out) hb); have n1_ := Aside0.mk (blk_below (g := gb332) (o := .cells #[.int .i64 t328, .int .i64 t329, .bool t330] 42 (0, 0)) (by (with_reducible repeat (first | refine blk_drewN ?_ _ | refine blk_drew ?_ | refine blk_alloc ?_ _)); exact BK332.out) hb); have n2_ := Aside0.mk (below_step (by repeat (first | (with_reducible first | exact HB.out | apply below_alloc | apply pw_below_drewN | apply below_drew1 | refine below_set ?_ GE327.out | refine below_set ?_ GE332.out) | exact HB.out)) hb); clear BK327; clear BK332; clear HB; have BK327 := n0_; have BK332 := n1_; have HB := n2_; clear n0_ n1_ n2_; (try clear hb); (try clear hb2); (try clear hk); (try clear hi); have hnb50 := NB327_332.out; have hnc50 := NB332_327.out; have hcz51_0 : w49.cell? ⟨gb327, 0, none⟩ = some (.int .i64 t323) := (blk_cell BK327.out 0).trans rfl; have hcz51_1 : w49.cell? ⟨gb327, 1, none⟩ = some (.int .i64 t324) := (blk_cell BK327.out 1).trans rfl; have hcz51_2 : w49.cell? ⟨gb327, 2, none⟩ = some (.bool t325) := (blk_cell BK327.out 2).trans rfl; have hfz51_0 := blk_frozen BK327.out 0; have hfz51_1 := blk_frozen BK327.out 1; have hfz51_2 := blk_frozen BK327.out 2; have hcz52_0 : w49.cell? ⟨gb332, 0, none⟩ = some (.int .i64 t328) := (blk_cell BK332.out 0).trans rfl; have hcz52_1 : w49.cell? ⟨gb332, 1, none⟩ = some (.int .i64 t329) := (blk_cell BK332.out 1).trans rfl; have hcz52_2 : w49.cell? ⟨gb332, 2, none⟩ = some (.bool t330) := (blk_cell BK332.out 2).trans rfl; have hfz52_0 := blk_frozen BK332.out 0; have hfz52_1 := blk_frozen BK332.out 1; have hfz52_2 := blk_frozen BK332.out 2) | (go_at_call 8; (with_reducible refine (mewslaw29_alive.calls kj12  t342 _ A47.out).mono ?_); rintro e w53 ⟨rfl, hb⟩; have n0_ := Aside0.mk (blk_below (g := gb327) (o := .cells #[.int .i64 t323, .int .i64 t324, .bool t325] 42 (0, 0)) (by (with_reducible repeat (first | refine blk_drewN ?_ _ | refine blk_drew ?_ | refine blk_alloc ?_ _)); exact BK327.out) hb); have n1_ := Aside0.mk (blk_below (g := gb332) (o := .cells #[.int .i64 t328, .int .i64 t329, .bool t330] 42 (0, 0)) (by (with_reducible repeat (first | refine blk_drewN ?_ _ | refine blk_drew ?_ | refine blk_alloc ?_ _)); exact BK332.out) hb); have n2_ := Aside0.mk (below_step (by repeat (first | (with_reducible first | exact HB.out | apply below_alloc | apply pw_below_drewN | apply below_drew1 | refine below_set ?_ GE327.out | refine below_set ?_ GE332.out) | exact HB.out)) hb); clear BK327; clear BK332; clear HB; have BK327 := n0_; have BK332 := n1_; have HB := n2_; clear n0_ n1_ n2_; (try clear hb); (try clear hb2); (try clear hk); (try clear hi)))
                  go_ret
                  exact ⟨by first | rfl | (simp [errW_none, errW_some] <;> rfl) | (simp [*, errW_none, errW_some] <;> rfl), by repeat (first | (with_reducible first | exact HB.out | apply below_alloc | apply pw_below_drewN | apply below_drew1 | refine below_set ?_ GE327.out | refine below_set ?_ GE332.out) | exact HB.out)⟩
                · rw [if_neg c46] at H
                  have c46b0 : (t339 == t341) = false := beq_eq_false_iff_ne.mpr c46
                  have c46b1 : (t339 != t341) = true := bne_iff_ne.mpr c46
                  exact absurd ((Option.some.inj H).trans hr_.out) (by decide)
              · rw [if_neg c45] at H
                have c45b0 : (t338 == t340) = false := beq_eq_false_iff_ne.mpr c45
                have c45b1 : (t338 != t340) = true := bne_iff_ne.mpr c45
                exact absurd ((Option.some.inj H).trans hr_.out) (by decide)
            · rw [if_neg c44] at H
              have c44b0 : (t326 == t331) = false := by simpa using c44
              (try (have c44b1 : decide (t326 = t331) = false := by simpa using c44))
              (try (have c44b2 : (t326 == t331) = false := by simpa using c44))
              (try (have c44b3 : ¬ (t326 = t331) := by simpa using c44))
              clear c44
              exact absurd ((Option.some.inj H).trans hr_.out) (by decide)
          · rw [if_neg c43] at H
            have c43b0 : (t323 == t328 && (t324 == t329 && (t325 == t330))) = false := by simpa using c43
            (try (have c43b1 : decide (t323 = t328 && (t324 == t329 && (t325 == t330))) = false := by simpa using c43))
            (try (have c43b2 : (t323 == t328 && (t324 == t329 && (t325 == t330))) = false := by simpa using c43))
            (try (have c43b3 : ¬ (t323 = t328 && (t324 == t329 && (t325 == t330))) := by simpa using c43))
            clear c43
            exact absurd ((Option.some.inj H).trans hr_.out) (by decide)

end Go.Proofs.Ytcooijbmmkkdoaa.X
