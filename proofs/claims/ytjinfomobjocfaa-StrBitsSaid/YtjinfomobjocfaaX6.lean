-- Written by wip/tool/xprint.py of this work (a front end of its own to the kit's printer): the functions of the seat Ytjinfomobjocfaa as plain Lean functions, and what the Go code's calls come to. Lean checks it.
import Derived.Test.YtjinfomobjocfaaX0
import Derived.Test.YtjinfomobjocfaaX2
import Derived.Test.YtjinfomobjocfaaX3
import Derived.Test.YtjinfomobjocfaaX4
import Derived.Test.YtjinfomobjocfaaX5
namespace Go.Proofs.Ytjinfomobjocfaa.X
open Go.RowKit Go.Proofs.YtjinfomobjocfaaW.PrintWords Go.Proofs.YtjinfomobjocfaaW.PrintLast Go.Proofs.YtjinfomobjocfaaW.PrintMore
attribute [local go_sem] max2_int min2_int max_two min_two max_three min_three max_four min_four   -- for this text's walks alone
set_option linter.unusedVariables false
set_option linter.unusedSimpArgs false

/-! ### mewslaw20_StrUndo: function 3 -/
mutual
def mewslaw20_StrUndo.j0 : Nat → Int → Int → ByteArray → Bool → Bool → Option (Bool)
  | 0, _, _, _, _, _ => none
  | k + 1, x0, x1, x5, x8, x39 => if x39 = true then (some false) else (if x8 = true then (mewslaw20_StrUndo.j1 k x0 x1 x5 (x1 == (-9223372036854775808))) else (mewslaw20_StrUndo.j1 k x0 x1 x5 true))
def mewslaw20_StrUndo.j1 : Nat → Int → Int → ByteArray → Bool → Option (Bool)
  | 0, _, _, _, _ => none
  | k + 1, x0, x1, x5, x45 => if x45 = true then ((mewslaw20_alive.f k).bind fun t126 => (some t126)) else ((str_Add.f k x5 (wrap64 (-x1))).bind fun bt127 => ((mewsref01_Text.f k x0).bind fun t129 => (if bt127.1.toList = t129.toList then (if bt127.2 = 0 then ((mewslaw20_alive.f k).bind fun t130 => (some t130)) else (some false)) else (some false))))
end
def mewslaw20_StrUndo.f (k : Nat) (a0 : Int) (a1 : Int) : Option (Bool) := (mewsref01_Text.f k a0).bind fun t121 => ((str_Add.f k t121 a1).bind fun bt122 => ((mewsref01_Add.f a0 a1).bind fun bt124 => (if ((bt122.2 == 0) != bt124.2) = true then (mewslaw20_StrUndo.j0 k a0 a1 bt122.1 bt124.2 true) else (if bt124.2 = true then (mewslaw20_StrUndo.j0 k a0 a1 bt122.1 bt124.2 false) else (if bt122.1.toList = ([] : List UInt8) then (mewslaw20_StrUndo.j0 k a0 a1 bt122.1 bt124.2 (bt122.2 != 13)) else (mewslaw20_StrUndo.j0 k a0 a1 bt122.1 bt124.2 true))))))
theorem mewslaw20_StrUndo.mono_l : ∀ k, (∀ y0 y1 y2 y3 y4, LeO (mewslaw20_StrUndo.j0 k y0 y1 y2 y3 y4) (mewslaw20_StrUndo.j0 (k + 1) y0 y1 y2 y3 y4)) ∧ (∀ y0 y1 y2 y3, LeO (mewslaw20_StrUndo.j1 k y0 y1 y2 y3) (mewslaw20_StrUndo.j1 (k + 1) y0 y1 y2 y3))
  | 0 => ⟨fun _ _ _ _ _ r h => by simp [mewslaw20_StrUndo.j0] at h, fun _ _ _ _ r h => by simp [mewslaw20_StrUndo.j1] at h⟩
  | k + 1 => by
    obtain ⟨ih0, ih1⟩ := mewslaw20_StrUndo.mono_l k
    refine ⟨?_, ?_⟩
    · intro y0 y1 y2 y3 y4
      unfold mewslaw20_StrUndo.j0
      repeat' first
      | (with_reducible exact ih0 _ _ _ _ _)
      | (with_reducible exact ih1 _ _ _ _)
      | (with_reducible exact mewslaw20_alive.mono _)
      | (with_reducible exact mewsref01_Text.mono _ _)
      | (with_reducible exact str_Add.mono _ _ _)
      | (with_reducible exact LeO.refl _)
      | (with_reducible exact LeO.none _)
      | (with_reducible refine LeO.ite ?_ ?_)
      | (with_reducible refine LeO.bind ?_ (fun _ => ?_))
      | exact ih0 _ _ _ _ _
      | exact ih1 _ _ _ _
      | exact mewslaw20_alive.mono _
      | exact mewsref01_Text.mono _ _
      | exact str_Add.mono _ _ _
      | exact LeO.none _
      | refine LeO.ite ?_ ?_
      | refine LeO.bind ?_ (fun _ => ?_)
    · intro y0 y1 y2 y3
      unfold mewslaw20_StrUndo.j1
      repeat' first
      | (with_reducible exact ih0 _ _ _ _ _)
      | (with_reducible exact ih1 _ _ _ _)
      | (with_reducible exact mewslaw20_alive.mono _)
      | (with_reducible exact mewsref01_Text.mono _ _)
      | (with_reducible exact str_Add.mono _ _ _)
      | (with_reducible exact LeO.refl _)
      | (with_reducible exact LeO.none _)
      | (with_reducible refine LeO.ite ?_ ?_)
      | (with_reducible refine LeO.bind ?_ (fun _ => ?_))
      | exact ih0 _ _ _ _ _
      | exact ih1 _ _ _ _
      | exact mewslaw20_alive.mono _
      | exact mewsref01_Text.mono _ _
      | exact str_Add.mono _ _ _
      | exact LeO.none _
      | refine LeO.ite ?_ ?_
      | refine LeO.bind ?_ (fun _ => ?_)
theorem mewslaw20_StrUndo.mono : ∀ a0 a1 k, LeO (mewslaw20_StrUndo.f k a0 a1) (mewslaw20_StrUndo.f (k + 1) a0 a1) := by
  intro a0 a1 k
  obtain ⟨ih0, ih1⟩ := mewslaw20_StrUndo.mono_l k
  unfold mewslaw20_StrUndo.f
  repeat' first
      | (with_reducible exact ih0 _ _ _ _ _)
      | (with_reducible exact ih1 _ _ _ _)
      | (with_reducible exact mewslaw20_alive.mono _)
      | (with_reducible exact mewsref01_Text.mono _ _)
      | (with_reducible exact str_Add.mono _ _ _)
      | (with_reducible exact LeO.refl _)
      | (with_reducible exact LeO.none _)
      | (with_reducible refine LeO.ite ?_ ?_)
      | (with_reducible refine LeO.bind ?_ (fun _ => ?_))
      | exact ih0 _ _ _ _ _
      | exact ih1 _ _ _ _
      | exact mewslaw20_alive.mono _
      | exact mewsref01_Text.mono _ _
      | exact str_Add.mono _ _ _
      | exact LeO.none _
      | refine LeO.ite ?_ ?_
      | refine LeO.bind ?_ (fun _ => ?_)
set_option maxHeartbeats 8000000 in
set_option maxRecDepth 100000 in
theorem mewslaw20_StrUndo.calls (k : Nat) (a0 : Int) (a1 : Int) (r : Bool) (w : World) (hr_ : Aside0 (r = true)) (h : mewslaw20_StrUndo.f k a0 a1 = some r) :
    Calls Try.prog 3 #[.int .i64 a0, .int .i64 a1] w fun e w' => e = .returned (.bool r) ∧ Below w.heap.size w w' := by
  have HB := Aside0.mk (Below.refl w.heap.size w)
  have H : ((mewsref01_Text.f k a0).bind fun t121 => ((str_Add.f k t121 a1).bind fun bt122 => ((mewsref01_Add.f a0 a1).bind fun bt124 => (if ((bt122.2 == 0) != bt124.2) = true then (mewslaw20_StrUndo.j0 k a0 a1 bt122.1 bt124.2 true) else (if bt124.2 = true then (mewslaw20_StrUndo.j0 k a0 a1 bt122.1 bt124.2 false) else (if bt122.1.toList = ([] : List UInt8) then (mewslaw20_StrUndo.j0 k a0 a1 bt122.1 bt124.2 (bt122.2 != 13)) else (mewslaw20_StrUndo.j0 k a0 a1 bt122.1 bt124.2 true))))))) = some r := h
  clear h
  replace H := Option.bind_eq_some_iff.mp H
  obtain ⟨t121, A30, H⟩ := H
  replace H : ((str_Add.f k t121 a1).bind fun bt122 => ((mewsref01_Add.f a0 a1).bind fun bt124 => (if ((bt122.2 == 0) != bt124.2) = true then (mewslaw20_StrUndo.j0 k a0 a1 bt122.1 bt124.2 true) else (if bt124.2 = true then (mewslaw20_StrUndo.j0 k a0 a1 bt122.1 bt124.2 false) else (if bt122.1.toList = ([] : List UInt8) then (mewslaw20_StrUndo.j0 k a0 a1 bt122.1 bt124.2 (bt122.2 != 13)) else (mewslaw20_StrUndo.j0 k a0 a1 bt122.1 bt124.2 true)))))) = some r := H
  have A3 := Aside0.mk A30
  clear A30
  replace H := Option.bind_eq_some_iff.mp H
  obtain ⟨⟨t122, t123⟩, A40, H⟩ := H
  replace H : ((mewsref01_Add.f a0 a1).bind fun bt124 => (if ((t123 == 0) != bt124.2) = true then (mewslaw20_StrUndo.j0 k a0 a1 t122 bt124.2 true) else (if bt124.2 = true then (mewslaw20_StrUndo.j0 k a0 a1 t122 bt124.2 false) else (if t122.toList = ([] : List UInt8) then (mewslaw20_StrUndo.j0 k a0 a1 t122 bt124.2 (t123 != 13)) else (mewslaw20_StrUndo.j0 k a0 a1 t122 bt124.2 true))))) = some r := H
  have A4 := Aside0.mk A40
  clear A40
  replace H := Option.bind_eq_some_iff.mp H
  obtain ⟨⟨t124, t125⟩, A50, H⟩ := H
  replace H : (if ((t123 == 0) != t125) = true then (mewslaw20_StrUndo.j0 k a0 a1 t122 t125 true) else (if t125 = true then (mewslaw20_StrUndo.j0 k a0 a1 t122 t125 false) else (if t122.toList = ([] : List UInt8) then (mewslaw20_StrUndo.j0 k a0 a1 t122 t125 (t123 != 13)) else (mewslaw20_StrUndo.j0 k a0 a1 t122 t125 true)))) = some r := H
  have A5 := Aside0.mk A50
  clear A50
  have HC6 := Aside0.mk H
  clear H
  go_enter Try.func3, Try.ntmps3
  go_upto_region 3 with (first | ((with_reducible refine gate_callee (f := 9) rfl ?_); refine goesL_ (some 13) rfl rfl Try.func9 (by kernel_rfl) rfl #[.int .i64 a0] rfl (by (try simp only [List.map_toArray, List.map_cons, List.map_nil]); first | done | rfl | (simp only [List.length_drop, List.length_take]; rfl)) ?_; (with_reducible refine (mewsref01_Text.calls k a0 t121 _ A3.out).mono ?_); rintro e w7 ⟨rfl, hb⟩; refine ⟨_, rfl, ?_⟩; have n0_ := Aside0.mk (below_step (by repeat (first | (with_reducible first | exact HB.out | apply below_alloc | apply pw_below_drewN | apply below_drew1) | exact HB.out)) hb); clear HB; have HB := n0_; clear n0_; (try clear hb); (try clear hb2); (try clear hk); (try clear hi)) | ((with_reducible refine gate_callee (f := 8) rfl ?_); refine goesL_ (some 15) rfl rfl Try.func8 (by kernel_rfl) rfl #[.string t121, .int .i64 a1] rfl (by (try simp only [List.map_toArray, List.map_cons, List.map_nil]); first | done | rfl | (simp only [List.length_drop, List.length_take]; rfl)) ?_; (with_reducible refine (str_Add.calls k t121 a1 t122 t123 _ A4.out).mono ?_); rintro e w8 ⟨rfl, hb⟩; refine ⟨_, rfl, ?_⟩; have n0_ := Aside0.mk (below_step (by repeat (first | (with_reducible first | exact HB.out | apply below_alloc | apply pw_below_drewN | apply below_drew1) | exact HB.out)) hb); clear HB; have HB := n0_; clear n0_; (try clear hb); (try clear hb2); (try clear hk); (try clear hi)) | ((with_reducible refine gate_callee (f := 10) rfl ?_); refine goesL_ (some 21) rfl rfl Try.func10 (by kernel_rfl) rfl #[.int .i64 a0, .int .i64 a1] rfl (by (try simp only [List.map_toArray, List.map_cons, List.map_nil]); first | done | rfl | (simp only [List.length_drop, List.length_take]; rfl)) ?_; (with_reducible refine (mewsref01_Add.calls a0 a1 t124 t125 _ A5.out).mono ?_); rintro e w' ⟨rfl, ⟨nd, rfl⟩⟩; refine ⟨_, rfl, ?_⟩))
  (try simp only [Act.put, List.setIfInBounds_toArray, List.set_cons_zero, List.set_cons_succ])
  go_cut [39] (fun v39 wc => ∃ (kq : Nat) (x39_5 : Bool), v39 = .bool x39_5 ∧ Aside0 (mewslaw20_StrUndo.j0 kq a0 a1 t122 t125 x39_5 = some r) ∧ Aside0 (kq ≤ k) ∧ Aside0 (Below w.heap.size w wc))
  case first =>
    have H := HC6.out
    clear HC6
    by_cases c9 : ((t123 == 0) != t125) = true
    · rw [if_pos c9] at H
      have c9b0 : ((t123 == 0) != t125) = true := c9
      (try (have c9b1 : decide ((t123 == 0) = t125) = false := by simpa using c9))
      (try (have c9b2 : ((t123 == 0) == t125) = false := by simpa using c9))
      (try (have c9b3 : ¬ ((t123 == 0) = t125) := by simpa using c9))
      clear c9
      (first | rw [c9b0] | (simp only [i64_w, i32_w]; rw [c9b0]) | skip)
      have H' := Aside0.mk H
      clear H
      go_wp2
      go_meet
      case rel => exact ⟨_, (true), (by first | rfl | (simp; done) | (simp [*]; done)), H', ⟨by first | omega | exact Nat.le_refl _⟩, ⟨by repeat (first | (with_reducible first | exact HB.out | apply below_alloc | apply pw_below_drewN | apply below_drew1) | exact HB.out)⟩⟩
    · rw [if_neg c9] at H
      have c9b0 : ((t123 == 0) != t125) = false := by simpa using c9
      (try (have c9b1 : decide ((t123 == 0) = t125) = true := by simpa using c9))
      (try (have c9b2 : ((t123 == 0) == t125) = true := by simpa using c9))
      clear c9
      (first | rw [c9b0] | (simp only [i64_w, i32_w]; rw [c9b0]) | skip)
      by_cases c10 : t125 = true
      · subst c10
        have H1 : (mewslaw20_StrUndo.j0 k a0 a1 t122 true false) = some r := by rw [if_pos rfl] at H; exact H
        clear H
        have H := H1
        clear H1
        have H' := Aside0.mk H
        clear H
        go_wp2
        go_meet
        case rel => exact ⟨_, (false), (by first | rfl | (simp; done) | (simp [*]; done)), H', ⟨by first | omega | exact Nat.le_refl _⟩, ⟨by repeat (first | (with_reducible first | exact HB.out | apply below_alloc | apply pw_below_drewN | apply below_drew1) | exact HB.out)⟩⟩
      · replace c10 := Bool.eq_false_iff.mpr c10
        subst c10
        have H1 : (if t122.toList = ([] : List UInt8) then (mewslaw20_StrUndo.j0 k a0 a1 t122 false (t123 != 13)) else (mewslaw20_StrUndo.j0 k a0 a1 t122 false true)) = some r := by rw [if_neg (show ¬ (false = true) by decide)] at H; exact H
        clear H
        have H := H1
        clear H1
        by_cases c11 : t122.toList = ([] : List UInt8)
        · rw [if_pos c11] at H
          have c11b0 : (t122.toList == ([] : List UInt8)) = true := beq_iff_eq.mpr c11
          have c11b1 : (t122.toList != ([] : List UInt8)) = false := bne_eq_false_iff_eq.mpr c11
          clear c11
          have H' := Aside0.mk H
          clear H
          go_wp2
          go_meet
          case rel => exact ⟨_, ((t123 != 13)), (by first | rfl | (simp; done) | (simp [*]; done)), H', ⟨by first | omega | exact Nat.le_refl _⟩, ⟨by repeat (first | (with_reducible first | exact HB.out | apply below_alloc | apply pw_below_drewN | apply below_drew1) | exact HB.out)⟩⟩
        · rw [if_neg c11] at H
          have c11b0 : (t122.toList == ([] : List UInt8)) = false := beq_eq_false_iff_ne.mpr c11
          have c11b1 : (t122.toList != ([] : List UInt8)) = true := bne_iff_ne.mpr c11
          have H' := Aside0.mk H
          clear H
          go_wp2
          go_meet
          case rel => exact ⟨_, (true), (by first | rfl | (simp; done) | (simp [*]; done)), H', ⟨by first | omega | exact Nat.le_refl _⟩, ⟨by repeat (first | (with_reducible first | exact HB.out | apply below_alloc | apply pw_below_drewN | apply below_drew1) | exact HB.out)⟩⟩
  case rest =>
    clear HC6
    try clear c1
    try clear p2
    try clear c3
    try clear c8
    try clear c9
    try clear c9b0
    try clear c9b1
    try clear c9b2
    try clear c10
    try clear c11
    try clear c11b0
    try clear c11b1
    obtain ⟨kq, x39_5, rfl, HA, HJ5, HB⟩ := hcut
    cases kq with
    | zero => exact absurd HA.out (by simp [mewslaw20_StrUndo.j0])
    | succ kj5 =>
      have H := HA.out
      clear HA
      simp only [mewslaw20_StrUndo.j0] at H
      by_cases c12 : x39_5 = true
      · subst c12
        have H1 : (some false) = some r := by rw [if_pos rfl] at H; exact H
        clear H
        have H := H1
        clear H1
        exact absurd ((Option.some.inj H).trans hr_.out) (by decide)
      · replace c12 := Bool.eq_false_iff.mpr c12
        subst c12
        have H1 : (if t125 = true then (mewslaw20_StrUndo.j1 kj5 a0 a1 t122 (a1 == (-9223372036854775808))) else (mewslaw20_StrUndo.j1 kj5 a0 a1 t122 true)) = some r := by rw [if_neg (show ¬ (false = true) by decide)] at H; exact H
        clear H
        have H := H1
        clear H1
        have HC13 := Aside0.mk H
        clear H
        go_upto_region 5 with (fail)
        go_cut [45] (fun v45 wc => ∃ (kq : Nat) (x45_12 : Bool), v45 = .bool x45_12 ∧ Aside0 (mewslaw20_StrUndo.j1 kq a0 a1 t122 x45_12 = some r) ∧ Aside0 (kq ≤ kj5) ∧ Aside0 (Below w.heap.size w wc))
        case first =>
          have H := HC13.out
          clear HC13
          by_cases c14 : t125 = true
          · subst c14
            have H1 : (mewslaw20_StrUndo.j1 kj5 a0 a1 t122 (a1 == (-9223372036854775808))) = some r := by rw [if_pos rfl] at H; exact H
            clear H
            have H := H1
            clear H1
            have H' := Aside0.mk H
            clear H
            go_wp2
            go_meet
            case rel => exact ⟨_, ((a1 == (-9223372036854775808))), (by first | rfl | (simp; done) | (simp [*]; done)), H', ⟨by have := HJ5.out; first | omega | exact Nat.le_refl _⟩, ⟨by repeat (first | (with_reducible first | exact HB.out | apply below_alloc | apply pw_below_drewN | apply below_drew1) | exact HB.out)⟩⟩
          · replace c14 := Bool.eq_false_iff.mpr c14
            subst c14
            have H1 : (mewslaw20_StrUndo.j1 kj5 a0 a1 t122 true) = some r := by rw [if_neg (show ¬ (false = true) by decide)] at H; exact H
            clear H
            have H := H1
            clear H1
            have H' := Aside0.mk H
            clear H
            go_wp2
            go_meet
            case rel => exact ⟨_, (true), (by first | rfl | (simp; done) | (simp [*]; done)), H', ⟨by have := HJ5.out; first | omega | exact Nat.le_refl _⟩, ⟨by repeat (first | (with_reducible first | exact HB.out | apply below_alloc | apply pw_below_drewN | apply below_drew1) | exact HB.out)⟩⟩
        case rest =>
          clear HC13
          try clear c1
          try clear p2
          try clear c3
          try clear c8
          try clear c9
          try clear c9b0
          try clear c9b1
          try clear c9b2
          try clear c10
          try clear c11
          try clear c11b0
          try clear c11b1
          try clear c12
          try clear c14
          try clear p2
          obtain ⟨kq, x45_12, rfl, HA, HJ12, HB⟩ := hcut
          cases kq with
          | zero => exact absurd HA.out (by simp [mewslaw20_StrUndo.j1])
          | succ kj12 =>
            have H := HA.out
            clear HA
            simp only [mewslaw20_StrUndo.j1] at H
            by_cases c15 : x45_12 = true
            · subst c15
              have H1 : ((mewslaw20_alive.f kj12).bind fun t126 => (some t126)) = some r := by rw [if_pos rfl] at H; exact H
              clear H
              have H := H1
              clear H1
              replace H := Option.bind_eq_some_iff.mp H
              obtain ⟨t126, A160, H⟩ := H
              replace H : (some t126) = some r := H
              have A16 := Aside0.mk A160
              clear A160
              obtain rfl := Option.some.inj H
              go_wp2_with (first | ((with_reducible refine gate_callee (f := 11) rfl ?_); refine goesL_ (some 46) rfl rfl Try.func11 (by kernel_rfl) rfl #[] rfl (by (try simp only [List.map_toArray, List.map_cons, List.map_nil]); first | done | rfl | (simp only [List.length_drop, List.length_take]; rfl)) ?_; (with_reducible refine (mewslaw20_alive.calls kj12  t126 _ A16.out).mono ?_); rintro e w17 ⟨rfl, hb⟩; refine ⟨_, rfl, ?_⟩; have n0_ := Aside0.mk (below_step (by repeat (first | (with_reducible first | exact HB.out | apply below_alloc | apply pw_below_drewN | apply below_drew1) | exact HB.out)) hb); clear HB; have HB := n0_; clear n0_; (try clear hb); (try clear hb2); (try clear hk); (try clear hi)))
              go_ret
              exact ⟨by first | rfl | (simp [errW_none, errW_some] <;> rfl) | (simp [*, errW_none, errW_some] <;> rfl), by repeat (first | (with_reducible first | exact HB.out | apply below_alloc | apply pw_below_drewN | apply below_drew1) | exact HB.out)⟩
            · replace c15 := Bool.eq_false_iff.mpr c15
              subst c15
              have H1 : ((str_Add.f kj12 t122 (wrap64 (-a1))).bind fun bt127 => ((mewsref01_Text.f kj12 a0).bind fun t129 => (if bt127.1.toList = t129.toList then (if bt127.2 = 0 then ((mewslaw20_alive.f kj12).bind fun t130 => (some t130)) else (some false)) else (some false)))) = some r := by rw [if_neg (show ¬ (false = true) by decide)] at H; exact H
              clear H
              have H := H1
              clear H1
              replace H := Option.bind_eq_some_iff.mp H
              obtain ⟨⟨t127, t128⟩, A180, H⟩ := H
              replace H : ((mewsref01_Text.f kj12 a0).bind fun t129 => (if t127.toList = t129.toList then (if t128 = 0 then ((mewslaw20_alive.f kj12).bind fun t130 => (some t130)) else (some false)) else (some false))) = some r := H
              have A18 := Aside0.mk A180
              clear A180
              replace H := Option.bind_eq_some_iff.mp H
              obtain ⟨t129, A190, H⟩ := H
              replace H : (if t127.toList = t129.toList then (if t128 = 0 then ((mewslaw20_alive.f kj12).bind fun t130 => (some t130)) else (some false)) else (some false)) = some r := H
              have A19 := Aside0.mk A190
              clear A190
              by_cases c20 : t127.toList = t129.toList
              · rw [if_pos c20] at H
                have c20b0 : (t127.toList == t129.toList) = true := beq_iff_eq.mpr c20
                have c20b1 : (t127.toList != t129.toList) = false := bne_eq_false_iff_eq.mpr c20
                clear c20
                by_cases c21 : t128 = 0
                · rw [if_pos c21] at H
                  have c21b0 : (t128 == 0) = true := beq_iff_eq.mpr c21
                  have c21b1 : (t128 != 0) = false := bne_eq_false_iff_eq.mpr c21
                  clear c21
                  replace H := Option.bind_eq_some_iff.mp H
                  obtain ⟨t130, A220, H⟩ := H
                  replace H : (some t130) = some r := H
                  have A22 := Aside0.mk A220
                  clear A220
                  obtain rfl := Option.some.inj H
                  go_wp2_with (first | ((with_reducible refine gate_callee (f := 8) rfl ?_); refine goesL_ (some 51) rfl rfl Try.func8 (by kernel_rfl) rfl #[.string t122, .int .i64 (wrap64 (-a1))] rfl (by (try simp only [List.map_toArray, List.map_cons, List.map_nil]); first | done | rfl | (simp only [List.length_drop, List.length_take]; rfl)) ?_; (with_reducible refine (str_Add.calls kj12 t122 (wrap64 (-a1)) t127 t128 _ A18.out).mono ?_); rintro e w23 ⟨rfl, hb⟩; refine ⟨_, rfl, ?_⟩; have n0_ := Aside0.mk (below_step (by repeat (first | (with_reducible first | exact HB.out | apply below_alloc | apply pw_below_drewN | apply below_drew1) | exact HB.out)) hb); clear HB; have HB := n0_; clear n0_; (try clear hb); (try clear hb2); (try clear hk); (try clear hi)) | ((with_reducible refine gate_callee (f := 9) rfl ?_); refine goesL_ (some 56) rfl rfl Try.func9 (by kernel_rfl) rfl #[.int .i64 a0] rfl (by (try simp only [List.map_toArray, List.map_cons, List.map_nil]); first | done | rfl | (simp only [List.length_drop, List.length_take]; rfl)) ?_; (with_reducible refine (mewsref01_Text.calls kj12 a0 t129 _ A19.out).mono ?_); rintro e w24 ⟨rfl, hb⟩; refine ⟨_, rfl, ?_⟩; have n0_ := Aside0.mk (below_step (by repeat (first | (with_reducible first | exact HB.out | apply below_alloc | apply pw_below_drewN | apply below_drew1) | exact HB.out)) hb); clear HB; have HB := n0_; clear n0_; (try clear hb); (try clear hb2); (try clear hk); (try clear hi)) | (go_at_call 11; (with_reducible refine (mewslaw20_alive.calls kj12  t130 _ A22.out).mono ?_); rintro e w25 ⟨rfl, hb⟩; have n0_ := Aside0.mk (below_step (by repeat (first | (with_reducible first | exact HB.out | apply below_alloc | apply pw_below_drewN | apply below_drew1) | exact HB.out)) hb); clear HB; have HB := n0_; clear n0_; (try clear hb); (try clear hb2); (try clear hk); (try clear hi)))
                  go_ret
                  exact ⟨by first | rfl | (simp [errW_none, errW_some] <;> rfl) | (simp [*, errW_none, errW_some] <;> rfl), by repeat (first | (with_reducible first | exact HB.out | apply below_alloc | apply pw_below_drewN | apply below_drew1) | exact HB.out)⟩
                · rw [if_neg c21] at H
                  have c21b0 : (t128 == 0) = false := beq_eq_false_iff_ne.mpr c21
                  have c21b1 : (t128 != 0) = true := bne_iff_ne.mpr c21
                  exact absurd ((Option.some.inj H).trans hr_.out) (by decide)
              · rw [if_neg c20] at H
                have c20b0 : (t127.toList == t129.toList) = false := beq_eq_false_iff_ne.mpr c20
                have c20b1 : (t127.toList != t129.toList) = true := bne_iff_ne.mpr c20
                exact absurd ((Option.some.inj H).trans hr_.out) (by decide)

end Go.Proofs.Ytjinfomobjocfaa.X
