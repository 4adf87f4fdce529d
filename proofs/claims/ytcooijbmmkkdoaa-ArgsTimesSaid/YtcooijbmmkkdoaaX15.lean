-- Written by wip/tool/xprint.py of this work (a front end of its own to the kit's printer): the functions of the seat Ytcooijbmmkkdoaa as plain Lean functions, and what the Go code's calls come to. Lean checks it.
import Derived.Test.YtcooijbmmkkdoaaX0
import Derived.Test.YtcooijbmmkkdoaaX5
namespace Go.Proofs.Ytcooijbmmkkdoaa.X
open Go.RowKit Go.Proofs.YtcooijbmmkkdoaaW.PrintWords Go.Proofs.YtcooijbmmkkdoaaW.PrintLast Go.Proofs.YtcooijbmmkkdoaaW.PrintMore
attribute [local go_sem] max2_int min2_int max_two min_two max_three min_three max_four min_four   -- for this text's walks alone
set_option linter.unusedVariables false
set_option linter.unusedSimpArgs false

/-! ### args_End: function 16 -/
def args_End.j0 : Nat → Int → Int → Int → Bool → Option (Int × Int)
  | 0, _, _, _, _ => none
  | k + 1, x1, x2, x8, x19 => if x19 = true then (some (0, 13)) else (if (wrap64 ((wrap64 (x8 * (mn (mx x1 1) 1000))) + (mn (mx x2 0) 4503599627370496))) ≤ 0 then (some (0, 13)) else (if (wrap64 ((wrap64 (x8 * (mn (mx x1 1) 1000))) + (mn (mx x2 0) 4503599627370496))) > 4503599627370496 then (some (0, 13)) else (some (wrap64 ((wrap64 (x8 * (mn (mx x1 1) 1000))) + (mn (mx x2 0) 4503599627370496)), 0))))
def args_End.f (k : Nat) (a0 : ByteArray) (a1 : Int) (a2 : Int) : Option (Int × Int) := (num_Parse.f k a0).bind fun bt314 => (if bt314.2 = true then (if bt314.1 > 4503599627370496 then (args_End.j0 k a1 a2 bt314.1 true) else (args_End.j0 k a1 a2 bt314.1 (decide (bt314.1 < (-4503599627370496))))) else (some (0, 2)))
theorem args_End.mono_l : ∀ k, (∀ y0 y1 y2 y3, LeO (args_End.j0 k y0 y1 y2 y3) (args_End.j0 (k + 1) y0 y1 y2 y3))
  | 0 => fun _ _ _ _ r h => by simp [args_End.j0] at h
  | k + 1 => by
    have ih0 := args_End.mono_l k
    · intro y0 y1 y2 y3
      unfold args_End.j0
      repeat' first
      | (with_reducible exact ih0 _ _ _ _)
      | (with_reducible exact num_Parse.mono _ _)
      | (with_reducible exact LeO.refl _)
      | (with_reducible exact LeO.none _)
      | (with_reducible refine LeO.ite ?_ ?_)
      | (with_reducible refine LeO.bind ?_ (fun _ => ?_))
      | exact ih0 _ _ _ _
      | exact num_Parse.mono _ _
      | exact LeO.none _
      | refine LeO.ite ?_ ?_
      | refine LeO.bind ?_ (fun _ => ?_)
theorem args_End.mono : ∀ a0 a1 a2 k, LeO (args_End.f k a0 a1 a2) (args_End.f (k + 1) a0 a1 a2) := by
  intro a0 a1 a2 k
  have ih0 := args_End.mono_l k
  unfold args_End.f
  repeat' first
      | (with_reducible exact ih0 _ _ _ _)
      | (with_reducible exact num_Parse.mono _ _)
      | (with_reducible exact LeO.refl _)
      | (with_reducible exact LeO.none _)
      | (with_reducible refine LeO.ite ?_ ?_)
      | (with_reducible refine LeO.bind ?_ (fun _ => ?_))
      | exact ih0 _ _ _ _
      | exact num_Parse.mono _ _
      | exact LeO.none _
      | refine LeO.ite ?_ ?_
      | refine LeO.bind ?_ (fun _ => ?_)
set_option maxHeartbeats 8000000 in
set_option maxRecDepth 100000 in
theorem args_End.calls (k : Nat) (a0 : ByteArray) (a1 : Int) (a2 : Int) (r1 : Int) (r2 : Int) (w : World) (h : args_End.f k a0 a1 a2 = some (r1, r2)) :
    Calls Try.prog 16 #[.string a0, .int .i64 a1, .int .i64 a2] w fun e w' => e = .returned (.tuple #[.int .i64 r1, .int .i64 r2]) ∧ Below w.heap.size w w' := by
  have HB := Aside0.mk (Below.refl w.heap.size w)
  have H : ((num_Parse.f k a0).bind fun bt314 => (if bt314.2 = true then (if bt314.1 > 4503599627370496 then (args_End.j0 k a1 a2 bt314.1 true) else (args_End.j0 k a1 a2 bt314.1 (decide (bt314.1 < (-4503599627370496))))) else (some (0, 2)))) = some (r1, r2) := h
  clear h
  replace H := Option.bind_eq_some_iff.mp H
  obtain ⟨⟨t314, t315⟩, A40, H⟩ := H
  replace H : (if t315 = true then (if t314 > 4503599627370496 then (args_End.j0 k a1 a2 t314 true) else (args_End.j0 k a1 a2 t314 (decide (t314 < (-4503599627370496))))) else (some (0, 2))) = some (r1, r2) := H
  have A4 := Aside0.mk A40
  clear A40
  by_cases c5 : t315 = true
  · subst c5
    have H1 : (if t314 > 4503599627370496 then (args_End.j0 k a1 a2 t314 true) else (args_End.j0 k a1 a2 t314 (decide (t314 < (-4503599627370496))))) = some (r1, r2) := by rw [if_pos rfl] at H; exact H
    clear H
    have H := H1
    clear H1
    have HC6 := Aside0.mk H
    clear H
    go_enter Try.func16, Try.ntmps16
    go_upto_region 4 with (first | ((with_reducible refine gate_callee (f := 28) rfl ?_); refine goesL_ (some 13) rfl rfl Try.func28 (by kernel_rfl) rfl #[.string a0] rfl (by (try simp only [List.map_toArray, List.map_cons, List.map_nil]); first | done | rfl | (simp only [List.length_drop, List.length_take]; rfl)) ?_; (with_reducible refine (num_Parse.calls k a0 t314 true _ A4.out).mono ?_); rintro e w' ⟨rfl, ⟨nd, rfl⟩⟩; refine ⟨_, rfl, ?_⟩))
    (try simp only [Act.put, List.setIfInBounds_toArray, List.set_cons_zero, List.set_cons_succ])
    go_cut [19] (fun v19 wc => ∃ (kq : Nat) (x19_5 : Bool), v19 = .bool x19_5 ∧ Aside0 (args_End.j0 kq a1 a2 t314 x19_5 = some (r1, r2)) ∧ Aside0 (kq ≤ k) ∧ Aside0 (Below w.heap.size w wc))
    case first =>
      have H := HC6.out
      clear HC6
      by_cases c7 : t314 > 4503599627370496
      · rw [if_pos c7] at H
        have c7b0 : decide (4503599627370496 < t314) = true := decide_eq_true c7
        clear c7
        (first | rw [c7b0] | (simp only [i64_w, i32_w]; rw [c7b0]) | skip)
        have H' := Aside0.mk H
        clear H
        go_wp2
        go_meet
        case rel => exact ⟨_, (true), (by first | rfl | (simp; done) | (simp [*]; done)), H', ⟨by first | omega | exact Nat.le_refl _⟩, ⟨by repeat (first | (with_reducible first | exact HB.out | apply below_alloc | apply pw_below_drewN | apply below_drew1) | exact HB.out)⟩⟩
      · rw [if_neg c7] at H
        have c7b0 : decide (4503599627370496 < t314) = false := decide_eq_false c7
        clear c7
        (first | rw [c7b0] | (simp only [i64_w, i32_w]; rw [c7b0]) | skip)
        have H' := Aside0.mk H
        clear H
        go_wp2
        go_meet
        case rel => exact ⟨_, (decide (t314 < (-4503599627370496))), (by first | rfl | (simp; done) | (simp [*]; done)), H', ⟨by first | omega | exact Nat.le_refl _⟩, ⟨by repeat (first | (with_reducible first | exact HB.out | apply below_alloc | apply pw_below_drewN | apply below_drew1) | exact HB.out)⟩⟩
    case rest =>
      clear HC6
      try clear c1
      try clear c2
      try clear p2
      try clear c5
      try clear c7
      try clear c7b0
      obtain ⟨kq, x19_5, rfl, HA, HJ5, HB⟩ := hcut
      cases kq with
      | zero => exact absurd HA.out (by simp [args_End.j0])
      | succ kj5 =>
        have H := HA.out
        clear HA
        simp only [args_End.j0] at H
        by_cases c8 : x19_5 = true
        · subst c8
          have H1 : (some (0, 13)) = some (r1, r2) := by rw [if_pos rfl] at H; exact H
          clear H
          have H := H1
          clear H1
          simp only [Option.some.injEq, Prod.mk.injEq] at H
          obtain ⟨rfl, rfl⟩ := H
          go_wp2
          go_ret2
          exact ⟨by first | rfl | (simp [errW_none, errW_some] <;> rfl) | (simp [*, errW_none, errW_some] <;> rfl), by repeat (first | (with_reducible first | exact HB.out | apply below_alloc | apply pw_below_drewN | apply below_drew1) | exact HB.out)⟩
        · replace c8 := Bool.eq_false_iff.mpr c8
          subst c8
          have H1 : (if (wrap64 ((wrap64 (t314 * (mn (mx a1 1) 1000))) + (mn (mx a2 0) 4503599627370496))) ≤ 0 then (some (0, 13)) else (if (wrap64 ((wrap64 (t314 * (mn (mx a1 1) 1000))) + (mn (mx a2 0) 4503599627370496))) > 4503599627370496 then (some (0, 13)) else (some (wrap64 ((wrap64 (t314 * (mn (mx a1 1) 1000))) + (mn (mx a2 0) 4503599627370496)), 0)))) = some (r1, r2) := by rw [if_neg (show ¬ (false = true) by decide)] at H; exact H
          clear H
          have H := H1
          clear H1
          obtain ⟨ji9, hji9⟩ : ∃ j_ : Int, (mx a1 1) = j_ := ⟨_, rfl⟩
          replace H : (if (wrap64 ((wrap64 (t314 * (mn (ji9) 1000))) + (mn (mx a2 0) 4503599627370496))) ≤ 0 then (some (0, 13)) else (if (wrap64 ((wrap64 (t314 * (mn (ji9) 1000))) + (mn (mx a2 0) 4503599627370496))) > 4503599627370496 then (some (0, 13)) else (some (wrap64 ((wrap64 (t314 * (mn (ji9) 1000))) + (mn (mx a2 0) 4503599627370496)), 0)))) = some (r1, r2) := by first | (rw [hji9] at H; exact H) | (simp only [hji9] at H ⊢; exact H)
          have hji9_ : (if a1 < 1 then 1 else a1) = ji9 := hji9
          obtain ⟨ji10, hji10⟩ : ∃ j_ : Int, (mn (ji9) 1000) = j_ := ⟨_, rfl⟩
          replace H : (if (wrap64 ((wrap64 (t314 * (ji10))) + (mn (mx a2 0) 4503599627370496))) ≤ 0 then (some (0, 13)) else (if (wrap64 ((wrap64 (t314 * (ji10))) + (mn (mx a2 0) 4503599627370496))) > 4503599627370496 then (some (0, 13)) else (some (wrap64 ((wrap64 (t314 * (ji10))) + (mn (mx a2 0) 4503599627370496)), 0)))) = some (r1, r2) := by first | (rw [hji10] at H; exact H) | (simp only [hji10] at H ⊢; exact H)
          have hji10_ : (if 1000 < (ji9) then 1000 else (ji9)) = ji10 := hji10
          obtain ⟨ji11, hji11⟩ : ∃ j_ : Int, (mx a2 0) = j_ := ⟨_, rfl⟩
          replace H : (if (wrap64 ((wrap64 (t314 * (ji10))) + (mn (ji11) 4503599627370496))) ≤ 0 then (some (0, 13)) else (if (wrap64 ((wrap64 (t314 * (ji10))) + (mn (ji11) 4503599627370496))) > 4503599627370496 then (some (0, 13)) else (some (wrap64 ((wrap64 (t314 * (ji10))) + (mn (ji11) 4503599627370496)), 0)))) = some (r1, r2) := by first | (rw [hji11] at H; exact H) | (simp only [hji11] at H ⊢; exact H)
          have hji11_ : (if a2 < 0 then 0 else a2) = ji11 := hji11
          obtain ⟨ji12, hji12⟩ : ∃ j_ : Int, (mn (ji11) 4503599627370496) = j_ := ⟨_, rfl⟩
          replace H : (if (wrap64 ((wrap64 (t314 * (ji10))) + (ji12))) ≤ 0 then (some (0, 13)) else (if (wrap64 ((wrap64 (t314 * (ji10))) + (ji12))) > 4503599627370496 then (some (0, 13)) else (some (wrap64 ((wrap64 (t314 * (ji10))) + (ji12)), 0)))) = some (r1, r2) := by first | (rw [hji12] at H; exact H) | (simp only [hji12] at H ⊢; exact H)
          have hji12_ : (if 4503599627370496 < (ji11) then 4503599627370496 else (ji11)) = ji12 := hji12
          by_cases c13 : (wrap64 ((wrap64 (t314 * (ji10))) + (ji12))) ≤ 0
          · rw [if_pos c13] at H
            have c13b0 : decide ((wrap64 ((wrap64 (t314 * (ji10))) + (ji12))) ≤ 0) = true := decide_eq_true c13
            clear c13
            simp only [Option.some.injEq, Prod.mk.injEq] at H
            obtain ⟨rfl, rfl⟩ := H
            go_wp2
            go_ret2
            exact ⟨by first | rfl | (simp [errW_none, errW_some] <;> rfl) | (simp only [← hji9, ← hji10, ← hji11, ← hji12]; first | rfl | (simp [errW_none, errW_some] <;> rfl)) | (simp [*, errW_none, errW_some] <;> rfl), by repeat (first | (with_reducible first | exact HB.out | apply below_alloc | apply pw_below_drewN | apply below_drew1) | exact HB.out)⟩
          · rw [if_neg c13] at H
            have c13b0 : decide ((wrap64 ((wrap64 (t314 * (ji10))) + (ji12))) ≤ 0) = false := decide_eq_false c13
            clear c13
            by_cases c14 : (wrap64 ((wrap64 (t314 * (ji10))) + (ji12))) > 4503599627370496
            · rw [if_pos c14] at H
              have c14b0 : decide (4503599627370496 < (wrap64 ((wrap64 (t314 * (ji10))) + (ji12)))) = true := decide_eq_true c14
              clear c14
              simp only [Option.some.injEq, Prod.mk.injEq] at H
              obtain ⟨rfl, rfl⟩ := H
              go_wp2
              go_ret2
              exact ⟨by first | rfl | (simp [errW_none, errW_some] <;> rfl) | (simp only [← hji9, ← hji10, ← hji11, ← hji12]; first | rfl | (simp [errW_none, errW_some] <;> rfl)) | (simp [*, errW_none, errW_some] <;> rfl), by repeat (first | (with_reducible first | exact HB.out | apply below_alloc | apply pw_below_drewN | apply below_drew1) | exact HB.out)⟩
            · rw [if_neg c14] at H
              have c14b0 : decide (4503599627370496 < (wrap64 ((wrap64 (t314 * (ji10))) + (ji12)))) = false := decide_eq_false c14
              clear c14
              simp only [Option.some.injEq, Prod.mk.injEq] at H
              obtain ⟨rfl, rfl⟩ := H
              go_wp2
              go_ret2
              exact ⟨by first | rfl | (simp [errW_none, errW_some] <;> rfl) | (simp only [← hji9, ← hji10, ← hji11, ← hji12]; first | rfl | (simp [errW_none, errW_some] <;> rfl)) | (simp [*, errW_none, errW_some] <;> rfl), by repeat (first | (with_reducible first | exact HB.out | apply below_alloc | apply pw_below_drewN | apply below_drew1) | exact HB.out)⟩
  · replace c5 := Bool.eq_false_iff.mpr c5
    subst c5
    have H1 : (some (0, 2)) = some (r1, r2) := by rw [if_neg (show ¬ (false = true) by decide)] at H; exact H
    clear H
    have H := H1
    clear H1
    simp only [Option.some.injEq, Prod.mk.injEq] at H
    obtain ⟨rfl, rfl⟩ := H
    go_enter Try.func16, Try.ntmps16
    go_wp2_with (first | ((with_reducible refine gate_callee (f := 28) rfl ?_); refine goesL_ (some 13) rfl rfl Try.func28 (by kernel_rfl) rfl #[.string a0] rfl (by (try simp only [List.map_toArray, List.map_cons, List.map_nil]); first | done | rfl | (simp only [List.length_drop, List.length_take]; rfl)) ?_; (with_reducible refine (num_Parse.calls k a0 t314 false _ A4.out).mono ?_); rintro e w' ⟨rfl, ⟨nd, rfl⟩⟩; refine ⟨_, rfl, ?_⟩))
    go_ret2
    exact ⟨by first | rfl | (simp [errW_none, errW_some] <;> rfl) | (simp [*, errW_none, errW_some] <;> rfl), by repeat (first | (with_reducible first | exact HB.out | apply below_alloc | apply pw_below_drewN | apply below_drew1) | exact HB.out)⟩

end Go.Proofs.Ytcooijbmmkkdoaa.X
