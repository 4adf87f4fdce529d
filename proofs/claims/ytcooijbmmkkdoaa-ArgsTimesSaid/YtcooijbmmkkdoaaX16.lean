-- Written by wip/tool/xprint.py of this work (a front end of its own to the kit's printer): the functions of the seat Ytcooijbmmkkdoaa as plain Lean functions, and what the Go code's calls come to. Lean checks it.
import Derived.Test.YtcooijbmmkkdoaaX0
import Derived.Test.YtcooijbmmkkdoaaX13
namespace Go.Proofs.Ytcooijbmmkkdoaa.X
open Go.RowKit Go.Proofs.YtcooijbmmkkdoaaW.PrintWords Go.Proofs.YtcooijbmmkkdoaaW.PrintLast Go.Proofs.YtcooijbmmkkdoaaW.PrintMore
attribute [local go_sem] max2_int min2_int max_two min_two max_three min_three max_four min_four   -- for this text's walks alone
set_option linter.unusedVariables false
set_option linter.unusedSimpArgs false

/-! ### mewsref29_End: function 17 -/
def mewsref29_End.j0 : Nat → Int → Int → Int → Bool → Option (Int × Int)
  | 0, _, _, _, _ => none
  | k + 1, x1, x2, x8, x28 => if x28 = true then (some (0, 13)) else (if (wrap64 ((wrap64 (x8 * x1)) + x2)) < 1 then (some (0, 13)) else (if (wrap64 ((wrap64 (x8 * x1)) + x2)) > 4503599627370496 then (some (0, 13)) else (some (wrap64 ((wrap64 (x8 * x1)) + x2), 0))))
def mewsref29_End.f (k : Nat) (a0 : ByteArray) (a1 : Int) (a2 : Int) : Option (Int × Int) := (mewsref01_Parse.f k a0).bind fun bt316 => (if bt316.2 = true then (if a1 = 0 then (none) else (if bt316.1 > (wrap64 ((4503599627370496 : Int) / a1)) then (mewsref29_End.j0 k a1 a2 bt316.1 true) else (mewsref29_End.j0 k a1 a2 bt316.1 (decide (bt316.1 < (wrap64 ((wrap64 (Int.tdiv (-4503599627370496) a1)) - 1))))))) else (some (0, 2)))
theorem mewsref29_End.mono_l : ∀ k, (∀ y0 y1 y2 y3, LeO (mewsref29_End.j0 k y0 y1 y2 y3) (mewsref29_End.j0 (k + 1) y0 y1 y2 y3))
  | 0 => fun _ _ _ _ r h => by simp [mewsref29_End.j0] at h
  | k + 1 => by
    have ih0 := mewsref29_End.mono_l k
    · intro y0 y1 y2 y3
      unfold mewsref29_End.j0
      repeat' first
      | (with_reducible exact ih0 _ _ _ _)
      | (with_reducible exact mewsref01_Parse.mono _ _)
      | (with_reducible exact LeO.refl _)
      | (with_reducible exact LeO.none _)
      | (with_reducible refine LeO.ite ?_ ?_)
      | (with_reducible refine LeO.bind ?_ (fun _ => ?_))
      | exact ih0 _ _ _ _
      | exact mewsref01_Parse.mono _ _
      | exact LeO.none _
      | refine LeO.ite ?_ ?_
      | refine LeO.bind ?_ (fun _ => ?_)
theorem mewsref29_End.mono : ∀ a0 a1 a2 k, LeO (mewsref29_End.f k a0 a1 a2) (mewsref29_End.f (k + 1) a0 a1 a2) := by
  intro a0 a1 a2 k
  have ih0 := mewsref29_End.mono_l k
  unfold mewsref29_End.f
  repeat' first
      | (with_reducible exact ih0 _ _ _ _)
      | (with_reducible exact mewsref01_Parse.mono _ _)
      | (with_reducible exact LeO.refl _)
      | (with_reducible exact LeO.none _)
      | (with_reducible refine LeO.ite ?_ ?_)
      | (with_reducible refine LeO.bind ?_ (fun _ => ?_))
      | exact ih0 _ _ _ _
      | exact mewsref01_Parse.mono _ _
      | exact LeO.none _
      | refine LeO.ite ?_ ?_
      | refine LeO.bind ?_ (fun _ => ?_)
set_option maxHeartbeats 8000000 in
set_option maxRecDepth 100000 in
theorem mewsref29_End.calls (k : Nat) (a0 : ByteArray) (a1 : Int) (a2 : Int) (r1 : Int) (r2 : Int) (w : World) (h : mewsref29_End.f k a0 a1 a2 = some (r1, r2)) :
    Calls Try.prog 17 #[.string a0, .int .i64 a1, .int .i64 a2] w fun e w' => e = .returned (.tuple #[.int .i64 r1, .int .i64 r2]) ∧ Below w.heap.size w w' := by
  have HB := Aside0.mk (Below.refl w.heap.size w)
  have H : ((mewsref01_Parse.f k a0).bind fun bt316 => (if bt316.2 = true then (if a1 = 0 then (none) else (if bt316.1 > (wrap64 ((4503599627370496 : Int) / a1)) then (mewsref29_End.j0 k a1 a2 bt316.1 true) else (mewsref29_End.j0 k a1 a2 bt316.1 (decide (bt316.1 < (wrap64 ((wrap64 (Int.tdiv (-4503599627370496) a1)) - 1))))))) else (some (0, 2)))) = some (r1, r2) := h
  clear h
  obtain ⟨Q1_, hQ1⟩ : ∃ q : Int, Int.tdiv 4503599627370496 a1 = q := ⟨_, rfl⟩
  have hQ2 : (4503599627370496 : Int) / a1 = Q1_ := by rw [← hQ1, Int.tdiv_eq_ediv_of_nonneg (by decide)]
  have hQ3 : Int.tdiv (-4503599627370496) a1 = -Q1_ := by rw [← hQ1, Int.neg_tdiv]
  rw [hQ2, hQ3] at H
  clear hQ2
  replace H := Option.bind_eq_some_iff.mp H
  obtain ⟨⟨t316, t317⟩, A40, H⟩ := H
  replace H : (if t317 = true then (if a1 = 0 then (none) else (if t316 > (wrap64 Q1_) then (mewsref29_End.j0 k a1 a2 t316 true) else (mewsref29_End.j0 k a1 a2 t316 (decide (t316 < (wrap64 ((wrap64 (-Q1_)) - 1))))))) else (some (0, 2))) = some (r1, r2) := H
  have A4 := Aside0.mk A40
  clear A40
  by_cases c5 : t317 = true
  · subst c5
    have H1 : (if a1 = 0 then (none) else (if t316 > (wrap64 Q1_) then (mewsref29_End.j0 k a1 a2 t316 true) else (mewsref29_End.j0 k a1 a2 t316 (decide (t316 < (wrap64 ((wrap64 (-Q1_)) - 1))))))) = some (r1, r2) := by rw [if_pos rfl] at H; exact H
    clear H
    have H := H1
    clear H1
    have HC6 := Aside0.mk H
    clear H
    go_enter Try.func17, Try.ntmps17
    go_upto_region 4 with (first | ((with_reducible refine gate_callee (f := 29) rfl ?_); refine goesL_ (some 13) rfl rfl Try.func29 (by kernel_rfl) rfl #[.string a0] rfl (by (try simp only [List.map_toArray, List.map_cons, List.map_nil]); first | done | rfl | (simp only [List.length_drop, List.length_take]; rfl)) ?_; (with_reducible refine (mewsref01_Parse.calls k a0 t316 true _ A4.out).mono ?_); rintro e w7 ⟨rfl, hb⟩; refine ⟨_, rfl, ?_⟩; have n0_ := Aside0.mk (below_step (by repeat (first | (with_reducible first | exact HB.out | apply below_alloc | apply pw_below_drewN | apply below_drew1) | exact HB.out)) hb); clear HB; have HB := n0_; clear n0_; (try clear hb); (try clear hb2); (try clear hk); (try clear hi)))
    (try simp only [Act.put, List.setIfInBounds_toArray, List.set_cons_zero, List.set_cons_succ])
    go_cut [28] (fun v28 wc => ∃ (kq : Nat) (x28_5 : Bool), v28 = .bool x28_5 ∧ Aside0 (mewsref29_End.j0 kq a1 a2 t316 x28_5 = some (r1, r2)) ∧ Aside0 (kq ≤ k) ∧ Aside0 (Below w.heap.size w wc))
    case first =>
      have H := HC6.out
      clear HC6
      by_cases c8 : a1 = 0
      · rw [if_pos c8] at H
        exact absurd H (by simp)
      · rw [if_neg c8] at H
        have c8b0 : (a1 == 0) = false := beq_eq_false_iff_ne.mpr c8
        have c8b1 : (a1 != 0) = true := bne_iff_ne.mpr c8
        (first | rw [c8b0] | (simp only [i64_w, i32_w]; rw [c8b0]) | skip)
        by_cases c9 : t316 > (wrap64 Q1_)
        · rw [if_pos c9] at H
          have c9b0 : decide ((wrap64 Q1_) < t316) = true := decide_eq_true c9
          clear c9
          have H' := Aside0.mk H
          clear H
          go_wp2
          go_meet
          case rel => exact ⟨_, (true), (by first | rfl | (simp; done) | (simp [*]; done)), H', ⟨by first | omega | exact Nat.le_refl _⟩, ⟨by repeat (first | (with_reducible first | exact HB.out | apply below_alloc | apply pw_below_drewN | apply below_drew1) | exact HB.out)⟩⟩
        · rw [if_neg c9] at H
          have c9b0 : decide ((wrap64 Q1_) < t316) = false := decide_eq_false c9
          clear c9
          have H' := Aside0.mk H
          clear H
          go_wp2
          go_meet
          case rel => exact ⟨_, (decide (t316 < (wrap64 ((wrap64 (-Q1_)) - 1)))), (by first | rfl | (simp; done) | (simp [*]; done)), H', ⟨by first | omega | exact Nat.le_refl _⟩, ⟨by repeat (first | (with_reducible first | exact HB.out | apply below_alloc | apply pw_below_drewN | apply below_drew1) | exact HB.out)⟩⟩
    case rest =>
      clear HC6
      try clear c1
      try clear c2
      try clear p2
      try clear c5
      try clear p6
      try clear c8
      try clear c8b0
      try clear c8b1
      try clear c9
      try clear c9b0
      obtain ⟨kq, x28_5, rfl, HA, HJ5, HB⟩ := hcut
      cases kq with
      | zero => exact absurd HA.out (by simp [mewsref29_End.j0])
      | succ kj5 =>
        have H := HA.out
        clear HA
        simp only [mewsref29_End.j0] at H
        by_cases c10 : x28_5 = true
        · subst c10
          have H1 : (some (0, 13)) = some (r1, r2) := by rw [if_pos rfl] at H; exact H
          clear H
          have H := H1
          clear H1
          simp only [Option.some.injEq, Prod.mk.injEq] at H
          obtain ⟨rfl, rfl⟩ := H
          go_wp2
          go_ret2
          exact ⟨by first | rfl | (simp [errW_none, errW_some] <;> rfl) | (simp [*, errW_none, errW_some] <;> rfl), by repeat (first | (with_reducible first | exact HB.out | apply below_alloc | apply pw_below_drewN | apply below_drew1) | exact HB.out)⟩
        · replace c10 := Bool.eq_false_iff.mpr c10
          subst c10
          have H1 : (if (wrap64 ((wrap64 (t316 * a1)) + a2)) < 1 then (some (0, 13)) else (if (wrap64 ((wrap64 (t316 * a1)) + a2)) > 4503599627370496 then (some (0, 13)) else (some (wrap64 ((wrap64 (t316 * a1)) + a2), 0)))) = some (r1, r2) := by rw [if_neg (show ¬ (false = true) by decide)] at H; exact H
          clear H
          have H := H1
          clear H1
          by_cases c11 : (wrap64 ((wrap64 (t316 * a1)) + a2)) < 1
          · rw [if_pos c11] at H
            have c11b0 : decide ((wrap64 ((wrap64 (t316 * a1)) + a2)) < 1) = true := decide_eq_true c11
            clear c11
            simp only [Option.some.injEq, Prod.mk.injEq] at H
            obtain ⟨rfl, rfl⟩ := H
            go_wp2
            go_ret2
            exact ⟨by first | rfl | (simp [errW_none, errW_some] <;> rfl) | (simp [*, errW_none, errW_some] <;> rfl), by repeat (first | (with_reducible first | exact HB.out | apply below_alloc | apply pw_below_drewN | apply below_drew1) | exact HB.out)⟩
          · rw [if_neg c11] at H
            have c11b0 : decide ((wrap64 ((wrap64 (t316 * a1)) + a2)) < 1) = false := decide_eq_false c11
            clear c11
            by_cases c12 : (wrap64 ((wrap64 (t316 * a1)) + a2)) > 4503599627370496
            · rw [if_pos c12] at H
              have c12b0 : decide (4503599627370496 < (wrap64 ((wrap64 (t316 * a1)) + a2))) = true := decide_eq_true c12
              clear c12
              simp only [Option.some.injEq, Prod.mk.injEq] at H
              obtain ⟨rfl, rfl⟩ := H
              go_wp2
              go_ret2
              exact ⟨by first | rfl | (simp [errW_none, errW_some] <;> rfl) | (simp [*, errW_none, errW_some] <;> rfl), by repeat (first | (with_reducible first | exact HB.out | apply below_alloc | apply pw_below_drewN | apply below_drew1) | exact HB.out)⟩
            · rw [if_neg c12] at H
              have c12b0 : decide (4503599627370496 < (wrap64 ((wrap64 (t316 * a1)) + a2))) = false := decide_eq_false c12
              clear c12
              simp only [Option.some.injEq, Prod.mk.injEq] at H
              obtain ⟨rfl, rfl⟩ := H
              go_wp2
              go_ret2
              exact ⟨by first | rfl | (simp [errW_none, errW_some] <;> rfl) | (simp [*, errW_none, errW_some] <;> rfl), by repeat (first | (with_reducible first | exact HB.out | apply below_alloc | apply pw_below_drewN | apply below_drew1) | exact HB.out)⟩
  · replace c5 := Bool.eq_false_iff.mpr c5
    subst c5
    have H1 : (some (0, 2)) = some (r1, r2) := by rw [if_neg (show ¬ (false = true) by decide)] at H; exact H
    clear H
    have H := H1
    clear H1
    simp only [Option.some.injEq, Prod.mk.injEq] at H
    obtain ⟨rfl, rfl⟩ := H
    go_enter Try.func17, Try.ntmps17
    go_wp2_with (first | ((with_reducible refine gate_callee (f := 29) rfl ?_); refine goesL_ (some 13) rfl rfl Try.func29 (by kernel_rfl) rfl #[.string a0] rfl (by (try simp only [List.map_toArray, List.map_cons, List.map_nil]); first | done | rfl | (simp only [List.length_drop, List.length_take]; rfl)) ?_; (with_reducible refine (mewsref01_Parse.calls k a0 t316 false _ A4.out).mono ?_); rintro e w13 ⟨rfl, hb⟩; refine ⟨_, rfl, ?_⟩; have n0_ := Aside0.mk (below_step (by repeat (first | (with_reducible first | exact HB.out | apply below_alloc | apply pw_below_drewN | apply below_drew1) | exact HB.out)) hb); clear HB; have HB := n0_; clear n0_; (try clear hb); (try clear hb2); (try clear hk); (try clear hi)))
    go_ret2
    exact ⟨by first | rfl | (simp [errW_none, errW_some] <;> rfl) | (simp [*, errW_none, errW_some] <;> rfl), by repeat (first | (with_reducible first | exact HB.out | apply below_alloc | apply pw_below_drewN | apply below_drew1) | exact HB.out)⟩

end Go.Proofs.Ytcooijbmmkkdoaa.X
