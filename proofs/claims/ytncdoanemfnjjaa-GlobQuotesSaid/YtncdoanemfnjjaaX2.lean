-- Written by wip/tool/xprint.py of this work (a front end of its own to the kit's printer): the functions of the seat Ytncdoanemfnjjaa as plain Lean functions, and what the Go code's calls come to. Lean checks it.
import Derived.Test.YtncdoanemfnjjaaX0
namespace Go.Proofs.Ytncdoanemfnjjaa.X
open Go.RowKit Go.Proofs.YtncdoanemfnjjaaW.PrintWords Go.Proofs.YtncdoanemfnjjaaW.PrintLast Go.Proofs.YtncdoanemfnjjaaW.PrintMore
attribute [local go_sem] max2_int min2_int max_two min_two max_three min_three max_four min_four   -- for this text's walks alone
set_option linter.unusedVariables false
set_option linter.unusedSimpArgs false

/-! ### glob_class: function 21 -/
mutual
def glob_class.j0 : Nat → ByteArray → Int → Int → Bool → Option (Bool × Int)
  | 0, _, _, _, _ => none
  | k + 1, x0, x1, x2, x8 => if x8 = true then (glob_class.j1 k x0 (wrap64 (x1 + 1)) x2 x8) else (glob_class.j1 k x0 x1 x2 x8)
def glob_class.j1 : Nat → ByteArray → Int → Int → Bool → Option (Bool × Int)
  | 0, _, _, _, _ => none
  | k + 1, x0, x1, x2, x8 => glob_class.l0 k x0 x1 x2 x8 false
def glob_class.l0 : Nat → ByteArray → Int → Int → Bool → Bool → Option (Bool × Int)
  | 0, _, _, _, _, _ => none
  | k + 1, x0, x1, x2, x8, x9 => if x1 < (x0.size : Int) then (if 0 ≤ x1 then (glob_class.j3 k x0 x1 x2 x8 x9 ((bt x0 x1) != 93)) else (none)) else (glob_class.j3 k x0 x1 x2 x8 x9 false)
def glob_class.j3 : Nat → ByteArray → Int → Int → Bool → Bool → Bool → Option (Bool × Int)
  | 0, _, _, _, _, _, _ => none
  | k + 1, x0, x1, x2, x8, x9, x34 => if x34 = true then (if 0 ≤ x1 then (if x1 < (x0.size : Int) then (if (bt x0 x1) = 92 then (glob_class.j4 k x0 x1 x2 x8 x9 (decide ((wrap64 (x1 + 1)) < (x0.size : Int)))) else (glob_class.j4 k x0 x1 x2 x8 x9 false)) else (none)) else (none)) else (some ((x9 != x8), mn (wrap64 (x1 + 1)) (x0.size : Int)))
def glob_class.j4 : Nat → ByteArray → Int → Int → Bool → Bool → Bool → Option (Bool × Int)
  | 0, _, _, _, _, _, _ => none
  | k + 1, x0, x1, x2, x8, x9, x45 => if x45 = true then (if x9 = true then (glob_class.l0 k x0 (wrap64 (x1 + 2)) x2 x8 true) else (if 0 ≤ (wrap64 (x1 + 1)) then (if (wrap64 (x1 + 1)) < (x0.size : Int) then (glob_class.l0 k x0 (wrap64 (x1 + 2)) x2 x8 ((bt x0 (wrap64 (x1 + 1))) == x2)) else (none)) else (none))) else (if (wrap64 (x1 + 2)) < (x0.size : Int) then (if 0 ≤ (wrap64 (x1 + 1)) then (if (wrap64 (x1 + 1)) < (x0.size : Int) then (if (bt x0 (wrap64 (x1 + 1))) = 45 then (if 0 ≤ (wrap64 (x1 + 2)) then (if (bt x0 (wrap64 (x1 + 2))) = 93 then (if x9 = true then (glob_class.l0 k x0 (wrap64 (x1 + 1)) x2 x8 true) else (if 0 ≤ x1 then (if x1 < (x0.size : Int) then (glob_class.l0 k x0 (wrap64 (x1 + 1)) x2 x8 ((bt x0 x1) == x2)) else (none)) else (none))) else (if 0 ≤ x1 then (if x1 < (x0.size : Int) then (if x9 = true then (glob_class.l0 k x0 (wrap64 (x1 + 3)) x2 x8 true) else (if (mn (bt x0 x1) (bt x0 (wrap64 (x1 + 2)))) ≤ x2 then (glob_class.l0 k x0 (wrap64 (x1 + 3)) x2 x8 (decide (x2 ≤ (mx (bt x0 x1) (bt x0 (wrap64 (x1 + 2))))))) else (glob_class.l0 k x0 (wrap64 (x1 + 3)) x2 x8 false))) else (none)) else (none))) else (none)) else (if x9 = true then (glob_class.l0 k x0 (wrap64 (x1 + 1)) x2 x8 true) else (if 0 ≤ x1 then (if x1 < (x0.size : Int) then (glob_class.l0 k x0 (wrap64 (x1 + 1)) x2 x8 ((bt x0 x1) == x2)) else (none)) else (none)))) else (none)) else (none)) else (if x9 = true then (glob_class.l0 k x0 (wrap64 (x1 + 1)) x2 x8 true) else (if 0 ≤ x1 then (if x1 < (x0.size : Int) then (glob_class.l0 k x0 (wrap64 (x1 + 1)) x2 x8 ((bt x0 x1) == x2)) else (none)) else (none))))
end
def glob_class.f (k : Nat) (a0 : ByteArray) (a1 : Int) (a2 : Int) : Option (Bool × Int) := if a1 < (a0.size : Int) then (if 0 ≤ a1 then (glob_class.j0 k a0 a1 a2 ((bt a0 a1) == 94)) else (none)) else (glob_class.j0 k a0 a1 a2 false)
theorem glob_class.mono_l : ∀ k, (∀ y0 y1 y2 y3, LeO (glob_class.j0 k y0 y1 y2 y3) (glob_class.j0 (k + 1) y0 y1 y2 y3)) ∧ (∀ y0 y1 y2 y3, LeO (glob_class.j1 k y0 y1 y2 y3) (glob_class.j1 (k + 1) y0 y1 y2 y3)) ∧ (∀ y0 y1 y2 y3 y4, LeO (glob_class.l0 k y0 y1 y2 y3 y4) (glob_class.l0 (k + 1) y0 y1 y2 y3 y4)) ∧ (∀ y0 y1 y2 y3 y4 y5, LeO (glob_class.j3 k y0 y1 y2 y3 y4 y5) (glob_class.j3 (k + 1) y0 y1 y2 y3 y4 y5)) ∧ (∀ y0 y1 y2 y3 y4 y5, LeO (glob_class.j4 k y0 y1 y2 y3 y4 y5) (glob_class.j4 (k + 1) y0 y1 y2 y3 y4 y5))
  | 0 => ⟨fun _ _ _ _ r h => by simp [glob_class.j0] at h, fun _ _ _ _ r h => by simp [glob_class.j1] at h, fun _ _ _ _ _ r h => by simp [glob_class.l0] at h, fun _ _ _ _ _ _ r h => by simp [glob_class.j3] at h, fun _ _ _ _ _ _ r h => by simp [glob_class.j4] at h⟩
  | k + 1 => by
    obtain ⟨ih0, ih1, ih2, ih3, ih4⟩ := glob_class.mono_l k
    refine ⟨?_, ?_, ?_, ?_, ?_⟩
    · intro y0 y1 y2 y3
      unfold glob_class.j0
      repeat' first
      | (with_reducible exact ih0 _ _ _ _)
      | (with_reducible exact ih1 _ _ _ _)
      | (with_reducible exact ih2 _ _ _ _ _)
      | (with_reducible exact ih3 _ _ _ _ _ _)
      | (with_reducible exact ih4 _ _ _ _ _ _)
      | (with_reducible exact LeO.refl _)
      | (with_reducible exact LeO.none _)
      | (with_reducible refine LeO.ite ?_ ?_)
      | (with_reducible refine LeO.bind ?_ (fun _ => ?_))
      | exact ih0 _ _ _ _
      | exact ih1 _ _ _ _
      | exact ih2 _ _ _ _ _
      | exact ih3 _ _ _ _ _ _
      | exact ih4 _ _ _ _ _ _
      | exact LeO.none _
      | refine LeO.ite ?_ ?_
      | refine LeO.bind ?_ (fun _ => ?_)
    · intro y0 y1 y2 y3
      unfold glob_class.j1
      repeat' first
      | (with_reducible exact ih0 _ _ _ _)
      | (with_reducible exact ih1 _ _ _ _)
      | (with_reducible exact ih2 _ _ _ _ _)
      | (with_reducible exact ih3 _ _ _ _ _ _)
      | (with_reducible exact ih4 _ _ _ _ _ _)
      | (with_reducible exact LeO.refl _)
      | (with_reducible exact LeO.none _)
      | (with_reducible refine LeO.ite ?_ ?_)
      | (with_reducible refine LeO.bind ?_ (fun _ => ?_))
      | exact ih0 _ _ _ _
      | exact ih1 _ _ _ _
      | exact ih2 _ _ _ _ _
      | exact ih3 _ _ _ _ _ _
      | exact ih4 _ _ _ _ _ _
      | exact LeO.none _
      | refine LeO.ite ?_ ?_
      | refine LeO.bind ?_ (fun _ => ?_)
    · intro y0 y1 y2 y3 y4
      unfold glob_class.l0
      repeat' first
      | (with_reducible exact ih0 _ _ _ _)
      | (with_reducible exact ih1 _ _ _ _)
      | (with_reducible exact ih2 _ _ _ _ _)
      | (with_reducible exact ih3 _ _ _ _ _ _)
      | (with_reducible exact ih4 _ _ _ _ _ _)
      | (with_reducible exact LeO.refl _)
      | (with_reducible exact LeO.none _)
      | (with_reducible refine LeO.ite ?_ ?_)
      | (with_reducible refine LeO.bind ?_ (fun _ => ?_))
      | exact ih0 _ _ _ _
      | exact ih1 _ _ _ _
      | exact ih2 _ _ _ _ _
      | exact ih3 _ _ _ _ _ _
      | exact ih4 _ _ _ _ _ _
      | exact LeO.none _
      | refine LeO.ite ?_ ?_
      | refine LeO.bind ?_ (fun _ => ?_)
    · intro y0 y1 y2 y3 y4 y5
      unfold glob_class.j3
      repeat' first
      | (with_reducible exact ih0 _ _ _ _)
      | (with_reducible exact ih1 _ _ _ _)
      | (with_reducible exact ih2 _ _ _ _ _)
      | (with_reducible exact ih3 _ _ _ _ _ _)
      | (with_reducible exact ih4 _ _ _ _ _ _)
      | (with_reducible exact LeO.refl _)
      | (with_reducible exact LeO.none _)
      | (with_reducible refine LeO.ite ?_ ?_)
      | (with_reducible refine LeO.bind ?_ (fun _ => ?_))
      | exact ih0 _ _ _ _
      | exact ih1 _ _ _ _
      | exact ih2 _ _ _ _ _
      | exact ih3 _ _ _ _ _ _
      | exact ih4 _ _ _ _ _ _
      | exact LeO.none _
      | refine LeO.ite ?_ ?_
      | refine LeO.bind ?_ (fun _ => ?_)
    · intro y0 y1 y2 y3 y4 y5
      unfold glob_class.j4
      repeat' first
      | (with_reducible exact ih0 _ _ _ _)
      | (with_reducible exact ih1 _ _ _ _)
      | (with_reducible exact ih2 _ _ _ _ _)
      | (with_reducible exact ih3 _ _ _ _ _ _)
      | (with_reducible exact ih4 _ _ _ _ _ _)
      | (with_reducible exact LeO.refl _)
      | (with_reducible exact LeO.none _)
      | (with_reducible refine LeO.ite ?_ ?_)
      | (with_reducible refine LeO.bind ?_ (fun _ => ?_))
      | exact ih0 _ _ _ _
      | exact ih1 _ _ _ _
      | exact ih2 _ _ _ _ _
      | exact ih3 _ _ _ _ _ _
      | exact ih4 _ _ _ _ _ _
      | exact LeO.none _
      | refine LeO.ite ?_ ?_
      | refine LeO.bind ?_ (fun _ => ?_)
theorem glob_class.mono : ∀ a0 a1 a2 k, LeO (glob_class.f k a0 a1 a2) (glob_class.f (k + 1) a0 a1 a2) := by
  intro a0 a1 a2 k
  obtain ⟨ih0, ih1, ih2, ih3, ih4⟩ := glob_class.mono_l k
  unfold glob_class.f
  repeat' first
      | (with_reducible exact ih0 _ _ _ _)
      | (with_reducible exact ih1 _ _ _ _)
      | (with_reducible exact ih2 _ _ _ _ _)
      | (with_reducible exact ih3 _ _ _ _ _ _)
      | (with_reducible exact ih4 _ _ _ _ _ _)
      | (with_reducible exact LeO.refl _)
      | (with_reducible exact LeO.none _)
      | (with_reducible refine LeO.ite ?_ ?_)
      | (with_reducible refine LeO.bind ?_ (fun _ => ?_))
      | exact ih0 _ _ _ _
      | exact ih1 _ _ _ _
      | exact ih2 _ _ _ _ _
      | exact ih3 _ _ _ _ _ _
      | exact ih4 _ _ _ _ _ _
      | exact LeO.none _
      | refine LeO.ite ?_ ?_
      | refine LeO.bind ?_ (fun _ => ?_)
set_option maxHeartbeats 8000000 in
set_option maxRecDepth 100000 in
theorem glob_class.calls (k : Nat) (a0 : ByteArray) (a1 : Int) (a2 : Int) (r1 : Bool) (r2 : Int) (w : World) (h : glob_class.f k a0 a1 a2 = some (r1, r2)) :
    Calls Try.prog 21 #[.string a0, .int .i64 a1, .int .u8 a2] w fun e w' => e = .returned (.tuple #[.bool r1, .int .i64 r2]) ∧ Below w.heap.size w w' := by
  have HB := Aside0.mk (Below.refl w.heap.size w)
  have H : (if a1 < (a0.size : Int) then (if 0 ≤ a1 then (glob_class.j0 k a0 a1 a2 ((bt a0 a1) == 94)) else (none)) else (glob_class.j0 k a0 a1 a2 false)) = some (r1, r2) := h
  clear h
  have HC4 := Aside0.mk H
  clear H
  go_enter Try.func21, Try.ntmps21
  go_upto_region 1 with (fail)
  repeat (go_quiet (fail); go_upto_region 1 with (fail))
  go_cut [8] (fun v8 wc => ∃ (kq : Nat) (x8_3 : Bool), v8 = .bool x8_3 ∧ Aside0 (glob_class.j0 kq a0 a1 a2 x8_3 = some (r1, r2)) ∧ Aside0 (kq ≤ k) ∧ Aside0 (Below w.heap.size w wc))
  case first =>
    have H := HC4.out
    clear HC4
    by_cases c5 : a1 < (a0.size : Int)
    · rw [if_pos c5] at H
      have c5b0 : decide (a1 < (a0.size : Int)) = true := decide_eq_true c5
      clear c5
      (first | rw [c5b0] | (simp only [i64_w, i32_w]; rw [c5b0]) | skip)
      by_cases c6 : 0 ≤ a1
      · rw [if_pos c6] at H
        have c6b0 : decide (0 ≤ a1) = true := decide_eq_true c6
        clear c6
        have H' := Aside0.mk H
        clear H
        have p7 : 0 ≤ (a1 : Int) := of_decide_eq_true (by first | (with_reducible assumption) | assumption)
        have q7 : a1 < (a0.size : Int) := of_decide_eq_true (by first | (with_reducible assumption) | assumption)
        have hx7 := bt_at a0 a1
        replace p7 := eq_true p7
        replace q7 := eq_true q7
        go_wp2
        repeat (go_quiet (fail); try go_wp2)
        go_meet
        case rel => exact ⟨_, (((bt a0 a1) == 94)), (by first | rfl | (simp; done) | (simp [*]; done)), H', ⟨by first | omega | exact Nat.le_refl _⟩, ⟨by repeat (first | (with_reducible first | exact HB.out | apply below_alloc | apply pw_below_drewN | apply below_drew1) | exact HB.out)⟩⟩
      · rw [if_neg c6] at H
        exact absurd H (by simp)
    · rw [if_neg c5] at H
      have c5b0 : decide (a1 < (a0.size : Int)) = false := decide_eq_false c5
      clear c5
      (first | rw [c5b0] | (simp only [i64_w, i32_w]; rw [c5b0]) | skip)
      have H' := Aside0.mk H
      clear H
      go_wp2
      repeat (go_quiet (fail); try go_wp2)
      go_meet
      case rel => exact ⟨_, (false), (by first | rfl | (simp; done) | (simp [*]; done)), H', ⟨by first | omega | exact Nat.le_refl _⟩, ⟨by repeat (first | (with_reducible first | exact HB.out | apply below_alloc | apply pw_below_drewN | apply below_drew1) | exact HB.out)⟩⟩
  case rest =>
    clear HC4
    try clear c2
    try clear p2
    try clear c5
    try clear c5b0
    try clear c6
    try clear c6b0
    try clear p7
    try clear q7
    try clear hx7
    try clear p7
    try clear q7
    obtain ⟨kq, x8_3, rfl, HA, HJ3, HB⟩ := hcut
    cases kq with
    | zero => exact absurd HA.out (by simp [glob_class.j0])
    | succ kj3 =>
      have H := HA.out
      clear HA
      simp only [glob_class.j0] at H
      have HC8 := Aside0.mk H
      clear H
      go_upto_if 22 with (fail)
      repeat (go_quiet (fail); go_upto_if 22 with (fail))
      go_cut [1] (fun v1 wc => ∃ (kq : Nat) (x1_7 : Int), v1 = .int .i64 x1_7 ∧ Aside0 (glob_class.j1 kq a0 x1_7 a2 x8_3 = some (r1, r2)) ∧ Aside0 (kq ≤ kj3) ∧ Aside0 (Below w.heap.size w wc))
      case first =>
        have H := HC8.out
        clear HC8
        by_cases c9 : x8_3 = true
        · subst c9
          have H1 : (glob_class.j1 kj3 a0 (wrap64 (a1 + 1)) a2 true) = some (r1, r2) := by rw [if_pos rfl] at H; exact H
          clear H
          have H := H1
          clear H1
          have H' := Aside0.mk H
          clear H
          go_wp2
          repeat (go_quiet (fail); try go_wp2)
          go_meet
          case rel => exact ⟨_, (wrap64 (a1 + 1)), (by first | rfl | (simp; done) | (simp [*]; done)), H', ⟨by have := HJ3.out; first | omega | exact Nat.le_refl _⟩, ⟨by repeat (first | (with_reducible first | exact HB.out | apply below_alloc | apply pw_below_drewN | apply below_drew1) | exact HB.out)⟩⟩
        · replace c9 := Bool.eq_false_iff.mpr c9
          subst c9
          have H1 : (glob_class.j1 kj3 a0 a1 a2 false) = some (r1, r2) := by rw [if_neg (show ¬ (false = true) by decide)] at H; exact H
          clear H
          have H := H1
          clear H1
          have H' := Aside0.mk H
          clear H
          go_wp2
          repeat (go_quiet (fail); try go_wp2)
          go_meet
          case rel => exact ⟨_, (a1), (by first | rfl | (simp; done) | (simp [*]; done)), H', ⟨by have := HJ3.out; first | omega | exact Nat.le_refl _⟩, ⟨by repeat (first | (with_reducible first | exact HB.out | apply below_alloc | apply pw_below_drewN | apply below_drew1) | exact HB.out)⟩⟩
      case rest =>
        clear HC8
        try clear c2
        try clear p2
        try clear c5
        try clear c5b0
        try clear c6
        try clear c6b0
        try clear p6
        try clear p7
        try clear q7
        try clear hx7
        try clear c9
        try clear p2
        try clear p7
        try clear q7
        obtain ⟨kq, x1_7, rfl, HA, HJ7, HB⟩ := hcut
        cases kq with
        | zero => exact absurd HA.out (by simp [glob_class.j1])
        | succ kj7 =>
          have H := HA.out
          clear HA
          simp only [glob_class.j1] at H
          have H' := Aside0.mk H
          clear H
          go_wp2
          repeat (go_quiet (fail); try go_wp2)
          go_loopg [1, 9] kj7 (fun kq v1 v9 w' => ∃ (x1_3 : Int) (x9_3 : Bool), v1 = .int .i64 x1_3 ∧ v9 = .bool x9_3 ∧ Aside0 (glob_class.l0 kq a0 x1_3 a2 x8_3 x9_3 = some (r1, r2)) ∧ Aside0 (kq ≤ kj7) ∧ Aside0 (Below w.heap.size w w'))
          case atStart => exact ⟨(x1_7), (false), (by first | rfl | (simp; done) | (simp [*]; done)), (by first | rfl | (simp; done) | (simp [*]; done)), H', ⟨Nat.le_refl _⟩, ⟨by repeat (first | (with_reducible first | exact HB.out | apply below_alloc | apply pw_below_drewN | apply below_drew1) | exact HB.out)⟩⟩
          case round =>
            clear H'
            try clear c2
            try clear p2
            try clear c5
            try clear c5b0
            try clear c6
            try clear c6b0
            try clear p6
            try clear p7
            try clear q7
            try clear hx7
            try clear c9
            try clear p2
            try clear p6
            try clear p7
            try clear q7
            obtain ⟨x1_3, x9_3, rfl, rfl, HA, HK3, HB⟩ := hrel
            cases gk with
            | zero => exact absurd HA.out (by simp [glob_class.l0])
            | succ k3 =>
              have H := HA.out
              clear HA
              simp only [glob_class.l0] at H
              have HC10 := Aside0.mk H
              clear H
              go_upto_region 5 with (fail)
              repeat (go_quiet (fail); go_upto_region 5 with (fail))
              go_cut [34] (fun v34 wc => ∃ (kq : Nat) (x34_9 : Bool), v34 = .bool x34_9 ∧ Aside0 (glob_class.j3 kq a0 x1_3 a2 x8_3 x9_3 x34_9 = some (r1, r2)) ∧ Aside0 (kq ≤ k3) ∧ Aside0 (Below w.heap.size w wc))
              case first =>
                have H := HC10.out
                clear HC10
                by_cases c11 : x1_3 < (a0.size : Int)
                · rw [if_pos c11] at H
                  have c11b0 : decide (x1_3 < (a0.size : Int)) = true := decide_eq_true c11
                  clear c11
                  (first | rw [c11b0] | (simp only [i64_w, i32_w]; rw [c11b0]) | skip)
                  by_cases c12 : 0 ≤ x1_3
                  · rw [if_pos c12] at H
                    have c12b0 : decide (0 ≤ x1_3) = true := decide_eq_true c12
                    clear c12
                    have H' := Aside0.mk H
                    clear H
                    have p13 : 0 ≤ (x1_3 : Int) := of_decide_eq_true (by first | (with_reducible assumption) | assumption)
                    have q13 : x1_3 < (a0.size : Int) := of_decide_eq_true (by first | (with_reducible assumption) | assumption)
                    have hx13 := bt_at a0 x1_3
                    replace p13 := eq_true p13
                    replace q13 := eq_true q13
                    go_wp2
                    repeat (go_quiet (fail); try go_wp2)
                    go_meet
                    case rel => exact ⟨_, (((bt a0 x1_3) != 93)), (by first | rfl | (simp; done) | (simp [*]; done)), H', ⟨by have := HJ3.out; have := HJ7.out; have := HK3.out; first | omega | exact Nat.le_refl _⟩, ⟨by repeat (first | (with_reducible first | exact HB.out | apply below_alloc | apply pw_below_drewN | apply below_drew1) | exact HB.out)⟩⟩
                  · rw [if_neg c12] at H
                    exact absurd H (by simp)
                · rw [if_neg c11] at H
                  have c11b0 : decide (x1_3 < (a0.size : Int)) = false := decide_eq_false c11
                  clear c11
                  (first | rw [c11b0] | (simp only [i64_w, i32_w]; rw [c11b0]) | skip)
                  have H' := Aside0.mk H
                  clear H
                  go_wp2
                  repeat (go_quiet (fail); try go_wp2)
                  go_meet
                  case rel => exact ⟨_, (false), (by first | rfl | (simp; done) | (simp [*]; done)), H', ⟨by have := HJ3.out; have := HJ7.out; have := HK3.out; first | omega | exact Nat.le_refl _⟩, ⟨by repeat (first | (with_reducible first | exact HB.out | apply below_alloc | apply pw_below_drewN | apply below_drew1) | exact HB.out)⟩⟩
              case rest =>
                clear HC10
                try clear c1
                try clear p1
                try clear q1
                try clear hx1
                try clear c2
                try clear p2
                try clear c5
                try clear c5b0
                try clear c6
                try clear c6b0
                try clear p6
                try clear p7
                try clear q7
                try clear hx7
                try clear c9
                try clear c11
                try clear c11b0
                try clear c12
                try clear c12b0
                try clear p13
                try clear q13
                try clear hx13
                try clear p13
                try clear p2
                try clear p6
                try clear p7
                try clear q13
                try clear q7
                obtain ⟨kq, x34_9, rfl, HA, HJ9, HB⟩ := hcut
                cases kq with
                | zero => exact absurd HA.out (by simp [glob_class.j3])
                | succ kj9 =>
                  have H := HA.out
                  clear HA
                  simp only [glob_class.j3] at H
                  by_cases c14 : x34_9 = true
                  · subst c14
                    have H1 : (if 0 ≤ x1_3 then (if x1_3 < (a0.size : Int) then (if (bt a0 x1_3) = 92 then (glob_class.j4 kj9 a0 x1_3 a2 x8_3 x9_3 (decide ((wrap64 (x1_3 + 1)) < (a0.size : Int)))) else (glob_class.j4 kj9 a0 x1_3 a2 x8_3 x9_3 false)) else (none)) else (none)) = some (r1, r2) := by rw [if_pos rfl] at H; exact H
                    clear H
                    have H := H1
                    clear H1
                    have HC15 := Aside0.mk H
                    clear H
                    go_upto_region 8 with (fail)
                    repeat (go_quiet (fail); go_upto_region 8 with (fail))
                    go_cut [45] (fun v45 wc => ∃ (kq : Nat) (x45_14 : Bool), v45 = .bool x45_14 ∧ Aside0 (glob_class.j4 kq a0 x1_3 a2 x8_3 x9_3 x45_14 = some (r1, r2)) ∧ Aside0 (kq ≤ kj9) ∧ Aside0 (Below w.heap.size w wc))
                    case first =>
                      have H := HC15.out
                      clear HC15
                      by_cases c16 : 0 ≤ x1_3
                      · rw [if_pos c16] at H
                        have c16b0 : decide (0 ≤ x1_3) = true := decide_eq_true c16
                        clear c16
                        (first | rw [c16b0] | (simp only [i64_w, i32_w]; rw [c16b0]) | skip)
                        by_cases c17 : x1_3 < (a0.size : Int)
                        · rw [if_pos c17] at H
                          have c17b0 : decide (x1_3 < (a0.size : Int)) = true := decide_eq_true c17
                          clear c17
                          by_cases c19 : (bt a0 x1_3) = 92
                          · rw [if_pos c19] at H
                            have c19b0 : ((bt a0 x1_3) == 92) = true := beq_iff_eq.mpr c19
                            have c19b1 : ((bt a0 x1_3) != 92) = false := bne_eq_false_iff_eq.mpr c19
                            clear c19
                            have H' := Aside0.mk H
                            clear H
                            have p18 : 0 ≤ (x1_3 : Int) := of_decide_eq_true (by first | (with_reducible assumption) | assumption)
                            have q18 : x1_3 < (a0.size : Int) := of_decide_eq_true (by first | (with_reducible assumption) | assumption)
                            have hx18 := bt_at a0 x1_3
                            replace p18 := eq_true p18
                            replace q18 := eq_true q18
                            go_wp2
                            repeat (go_quiet (fail); try go_wp2)
                            go_meet
                            case rel => exact ⟨_, (decide ((wrap64 (x1_3 + 1)) < (a0.size : Int))), (by first | rfl | (simp; done) | (simp [*]; done)), H', ⟨by have := HJ3.out; have := HJ7.out; have := HK3.out; have := HJ9.out; first | omega | exact Nat.le_refl _⟩, ⟨by repeat (first | (with_reducible first | exact HB.out | apply below_alloc | apply pw_below_drewN | apply below_drew1) | exact HB.out)⟩⟩
                          · rw [if_neg c19] at H
                            have c19b0 : ((bt a0 x1_3) == 92) = false := beq_eq_false_iff_ne.mpr c19
                            have c19b1 : ((bt a0 x1_3) != 92) = true := bne_iff_ne.mpr c19
                            have H' := Aside0.mk H
                            clear H
                            have p18 : 0 ≤ (x1_3 : Int) := of_decide_eq_true (by first | (with_reducible assumption) | assumption)
                            have q18 : x1_3 < (a0.size : Int) := of_decide_eq_true (by first | (with_reducible assumption) | assumption)
                            have hx18 := bt_at a0 x1_3
                            replace p18 := eq_true p18
                            replace q18 := eq_true q18
                            go_wp2
                            repeat (go_quiet (fail); try go_wp2)
                            go_meet
                            case rel => exact ⟨_, (false), (by first | rfl | (simp; done) | (simp [*]; done)), H', ⟨by have := HJ3.out; have := HJ7.out; have := HK3.out; have := HJ9.out; first | omega | exact Nat.le_refl _⟩, ⟨by repeat (first | (with_reducible first | exact HB.out | apply below_alloc | apply pw_below_drewN | apply below_drew1) | exact HB.out)⟩⟩
                        · rw [if_neg c17] at H
                          exact absurd H (by simp)
                      · rw [if_neg c16] at H
                        exact absurd H (by simp)
                    case rest =>
                      clear HC15
                      try clear c1
                      try clear p1
                      try clear q1
                      try clear hx1
                      try clear c2
                      try clear p2
                      try clear c5
                      try clear c5b0
                      try clear c6
                      try clear c6b0
                      try clear p6
                      try clear p7
                      try clear q7
                      try clear hx7
                      try clear c9
                      try clear c11
                      try clear c11b0
                      try clear c12
                      try clear c12b0
                      try clear p13
                      try clear q13
                      try clear hx13
                      try clear c14
                      try clear c16
                      try clear c16b0
                      try clear c17
                      try clear c17b0
                      try clear p18
                      try clear q18
                      try clear hx18
                      try clear c19
                      try clear c19b0
                      try clear c19b1
                      try clear p1
                      try clear p13
                      try clear p18
                      try clear p2
                      try clear p6
                      try clear p7
                      try clear q1
                      try clear q13
                      try clear q18
                      try clear q7
                      obtain ⟨kq, x45_14, rfl, HA, HJ14, HB⟩ := hcut
                      cases kq with
                      | zero => exact absurd HA.out (by simp [glob_class.j4])
                      | succ kj14 =>
                        have H := HA.out
                        clear HA
                        simp only [glob_class.j4] at H
                        by_cases c20 : x45_14 = true
                        · subst c20
                          have H1 : (if x9_3 = true then (glob_class.l0 kj14 a0 (wrap64 (x1_3 + 2)) a2 x8_3 true) else (if 0 ≤ (wrap64 (x1_3 + 1)) then (if (wrap64 (x1_3 + 1)) < (a0.size : Int) then (glob_class.l0 kj14 a0 (wrap64 (x1_3 + 2)) a2 x8_3 ((bt a0 (wrap64 (x1_3 + 1))) == a2)) else (none)) else (none))) = some (r1, r2) := by rw [if_pos rfl] at H; exact H
                          clear H
                          have H := H1
                          clear H1
                          by_cases c21 : x9_3 = true
                          · subst c21
                            have H1 : (glob_class.l0 kj14 a0 (wrap64 (x1_3 + 2)) a2 x8_3 true) = some (r1, r2) := by rw [if_pos rfl] at H; exact H
                            clear H
                            have H := H1
                            clear H1
                            have H' := Aside0.mk H
                            clear H
                            go_wp2
                            repeat (go_quiet (fail); try go_wp2)
                            go_roundg kj14
                            case measure => have := HJ3.out; have := HJ7.out; have := HK3.out; have := HJ9.out; have := HJ14.out; omega
                            case rel => exact ⟨(wrap64 (x1_3 + 2)), (true), (by first | rfl | (simp; done) | (simp [*]; done)), (by first | rfl | (simp; done) | (simp [*]; done)), H', ⟨by have := HJ3.out; have := HJ7.out; have := HK3.out; have := HJ9.out; have := HJ14.out; omega⟩, ⟨by repeat (first | (with_reducible first | exact HB.out | apply below_alloc | apply pw_below_drewN | apply below_drew1) | exact HB.out)⟩⟩
                          · replace c21 := Bool.eq_false_iff.mpr c21
                            subst c21
                            have H1 : (if 0 ≤ (wrap64 (x1_3 + 1)) then (if (wrap64 (x1_3 + 1)) < (a0.size : Int) then (glob_class.l0 kj14 a0 (wrap64 (x1_3 + 2)) a2 x8_3 ((bt a0 (wrap64 (x1_3 + 1))) == a2)) else (none)) else (none)) = some (r1, r2) := by rw [if_neg (show ¬ (false = true) by decide)] at H; exact H
                            clear H
                            have H := H1
                            clear H1
                            obtain ⟨ji22, hji22⟩ : ∃ j_ : Int, (wrap64 (x1_3 + 1)) = j_ := ⟨_, rfl⟩
                            replace H : (if 0 ≤ (ji22) then (if (ji22) < (a0.size : Int) then (glob_class.l0 kj14 a0 (wrap64 (x1_3 + 2)) a2 x8_3 ((bt a0 (ji22)) == a2)) else (none)) else (none)) = some (r1, r2) := by first | (rw [hji22] at H; exact H) | (simp only [hji22] at H ⊢; exact H)
                            have hji22w : (IntKind.i64.wrap (x1_3 + 1)) = ji22 := (i64_w _).trans hji22
                            by_cases c23 : 0 ≤ (ji22)
                            · rw [if_pos c23] at H
                              have c23b0 : decide (0 ≤ (ji22)) = true := decide_eq_true c23
                              clear c23
                              by_cases c24 : (ji22) < (a0.size : Int)
                              · rw [if_pos c24] at H
                                have c24b0 : decide ((ji22) < (a0.size : Int)) = true := decide_eq_true c24
                                clear c24
                                have H' := Aside0.mk H
                                clear H
                                have p25 : 0 ≤ ((ji22) : Int) := of_decide_eq_true (by first | (with_reducible assumption) | assumption)
                                have q25 : (ji22) < (a0.size : Int) := of_decide_eq_true (by first | (with_reducible assumption) | assumption)
                                have hx25 := bt_at a0 (ji22)
                                replace p25 := eq_true p25
                                replace q25 := eq_true q25
                                go_wp2
                                repeat (go_quiet (fail); try go_wp2)
                                go_roundg kj14
                                case measure => have := HJ3.out; have := HJ7.out; have := HK3.out; have := HJ9.out; have := HJ14.out; omega
                                case rel => exact ⟨(wrap64 (x1_3 + 2)), (((bt a0 (ji22)) == a2)), (by first | rfl | (simp; done) | (simp [*]; done)), (by first | rfl | (simp; done) | (simp only [← hji22] <;> (first | rfl | simp)) | (simp [*]; done)), H', ⟨by have := HJ3.out; have := HJ7.out; have := HK3.out; have := HJ9.out; have := HJ14.out; omega⟩, ⟨by repeat (first | (with_reducible first | exact HB.out | apply below_alloc | apply pw_below_drewN | apply below_drew1) | exact HB.out)⟩⟩
                              · rw [if_neg c24] at H
                                exact absurd H (by simp)
                            · rw [if_neg c23] at H
                              exact absurd H (by simp)
                        · replace c20 := Bool.eq_false_iff.mpr c20
                          subst c20
                          have H1 : (if (wrap64 (x1_3 + 2)) < (a0.size : Int) then (if 0 ≤ (wrap64 (x1_3 + 1)) then (if (wrap64 (x1_3 + 1)) < (a0.size : Int) then (if (bt a0 (wrap64 (x1_3 + 1))) = 45 then (if 0 ≤ (wrap64 (x1_3 + 2)) then (if (bt a0 (wrap64 (x1_3 + 2))) = 93 then (if x9_3 = true then (glob_class.l0 kj14 a0 (wrap64 (x1_3 + 1)) a2 x8_3 true) else (if 0 ≤ x1_3 then (if x1_3 < (a0.size : Int) then (glob_class.l0 kj14 a0 (wrap64 (x1_3 + 1)) a2 x8_3 ((bt a0 x1_3) == a2)) else (none)) else (none))) else (if 0 ≤ x1_3 then (if x1_3 < (a0.size : Int) then (if x9_3 = true then (glob_class.l0 kj14 a0 (wrap64 (x1_3 + 3)) a2 x8_3 true) else (if (mn (bt a0 x1_3) (bt a0 (wrap64 (x1_3 + 2)))) ≤ a2 then (glob_class.l0 kj14 a0 (wrap64 (x1_3 + 3)) a2 x8_3 (decide (a2 ≤ (mx (bt a0 x1_3) (bt a0 (wrap64 (x1_3 + 2))))))) else (glob_class.l0 kj14 a0 (wrap64 (x1_3 + 3)) a2 x8_3 false))) else (none)) else (none))) else (none)) else (if x9_3 = true then (glob_class.l0 kj14 a0 (wrap64 (x1_3 + 1)) a2 x8_3 true) else (if 0 ≤ x1_3 then (if x1_3 < (a0.size : Int) then (glob_class.l0 kj14 a0 (wrap64 (x1_3 + 1)) a2 x8_3 ((bt a0 x1_3) == a2)) else (none)) else (none)))) else (none)) else (none)) else (if x9_3 = true then (glob_class.l0 kj14 a0 (wrap64 (x1_3 + 1)) a2 x8_3 true) else (if 0 ≤ x1_3 then (if x1_3 < (a0.size : Int) then (glob_class.l0 kj14 a0 (wrap64 (x1_3 + 1)) a2 x8_3 ((bt a0 x1_3) == a2)) else (none)) else (none)))) = some (r1, r2) := by rw [if_neg (show ¬ (false = true) by decide)] at H; exact H
                          clear H
                          have H := H1
                          clear H1
                          by_cases c26 : (wrap64 (x1_3 + 2)) < (a0.size : Int)
                          · rw [if_pos c26] at H
                            have c26b0 : decide ((wrap64 (x1_3 + 2)) < (a0.size : Int)) = true := decide_eq_true c26
                            clear c26
                            obtain ⟨ji27, hji27⟩ : ∃ j_ : Int, (wrap64 (x1_3 + 1)) = j_ := ⟨_, rfl⟩
                            replace H : (if 0 ≤ (ji27) then (if (ji27) < (a0.size : Int) then (if (bt a0 (ji27)) = 45 then (if 0 ≤ (wrap64 (x1_3 + 2)) then (if (bt a0 (wrap64 (x1_3 + 2))) = 93 then (if x9_3 = true then (glob_class.l0 kj14 a0 ji27 a2 x8_3 true) else (if 0 ≤ x1_3 then (if x1_3 < (a0.size : Int) then (glob_class.l0 kj14 a0 ji27 a2 x8_3 ((bt a0 x1_3) == a2)) else (none)) else (none))) else (if 0 ≤ x1_3 then (if x1_3 < (a0.size : Int) then (if x9_3 = true then (glob_class.l0 kj14 a0 (wrap64 (x1_3 + 3)) a2 x8_3 true) else (if (mn (bt a0 x1_3) (bt a0 (wrap64 (x1_3 + 2)))) ≤ a2 then (glob_class.l0 kj14 a0 (wrap64 (x1_3 + 3)) a2 x8_3 (decide (a2 ≤ (mx (bt a0 x1_3) (bt a0 (wrap64 (x1_3 + 2))))))) else (glob_class.l0 kj14 a0 (wrap64 (x1_3 + 3)) a2 x8_3 false))) else (none)) else (none))) else (none)) else (if x9_3 = true then (glob_class.l0 kj14 a0 ji27 a2 x8_3 true) else (if 0 ≤ x1_3 then (if x1_3 < (a0.size : Int) then (glob_class.l0 kj14 a0 ji27 a2 x8_3 ((bt a0 x1_3) == a2)) else (none)) else (none)))) else (none)) else (none)) = some (r1, r2) := by first | (rw [hji27] at H; exact H) | (simp only [hji27] at H ⊢; exact H)
                            have hji27w : (IntKind.i64.wrap (x1_3 + 1)) = ji27 := (i64_w _).trans hji27
                            by_cases c28 : 0 ≤ (ji27)
                            · rw [if_pos c28] at H
                              have c28b0 : decide (0 ≤ (ji27)) = true := decide_eq_true c28
                              clear c28
                              by_cases c29 : (ji27) < (a0.size : Int)
                              · rw [if_pos c29] at H
                                have c29b0 : decide ((ji27) < (a0.size : Int)) = true := decide_eq_true c29
                                clear c29
                                by_cases c31 : (bt a0 (ji27)) = 45
                                · rw [if_pos c31] at H
                                  have c31b0 : ((bt a0 (ji27)) == 45) = true := beq_iff_eq.mpr c31
                                  have c31b1 : ((bt a0 (ji27)) != 45) = false := bne_eq_false_iff_eq.mpr c31
                                  clear c31
                                  obtain ⟨ji32, hji32⟩ : ∃ j_ : Int, (wrap64 (x1_3 + 2)) = j_ := ⟨_, rfl⟩
                                  replace H : (if 0 ≤ (ji32) then (if (bt a0 (ji32)) = 93 then (if x9_3 = true then (glob_class.l0 kj14 a0 ji27 a2 x8_3 true) else (if 0 ≤ x1_3 then (if x1_3 < (a0.size : Int) then (glob_class.l0 kj14 a0 ji27 a2 x8_3 ((bt a0 x1_3) == a2)) else (none)) else (none))) else (if 0 ≤ x1_3 then (if x1_3 < (a0.size : Int) then (if x9_3 = true then (glob_class.l0 kj14 a0 (wrap64 (x1_3 + 3)) a2 x8_3 true) else (if (mn (bt a0 x1_3) (bt a0 (ji32))) ≤ a2 then (glob_class.l0 kj14 a0 (wrap64 (x1_3 + 3)) a2 x8_3 (decide (a2 ≤ (mx (bt a0 x1_3) (bt a0 (ji32)))))) else (glob_class.l0 kj14 a0 (wrap64 (x1_3 + 3)) a2 x8_3 false))) else (none)) else (none))) else (none)) = some (r1, r2) := by first | (rw [hji32] at H; exact H) | (simp only [hji32] at H ⊢; exact H)
                                  (try rw [hji32] at c26b0)
                                  have hji32w : (IntKind.i64.wrap (x1_3 + 2)) = ji32 := (i64_w _).trans hji32
                                  by_cases c33 : 0 ≤ (ji32)
                                  · rw [if_pos c33] at H
                                    have c33b0 : decide (0 ≤ (ji32)) = true := decide_eq_true c33
                                    clear c33
                                    by_cases c35 : (bt a0 (ji32)) = 93
                                    · rw [if_pos c35] at H
                                      have c35b0 : ((bt a0 (ji32)) == 93) = true := beq_iff_eq.mpr c35
                                      have c35b1 : ((bt a0 (ji32)) != 93) = false := bne_eq_false_iff_eq.mpr c35
                                      clear c35
                                      by_cases c36 : x9_3 = true
                                      · subst c36
                                        have H1 : (glob_class.l0 kj14 a0 ji27 a2 x8_3 true) = some (r1, r2) := by rw [if_pos rfl] at H; exact H
                                        clear H
                                        have H := H1
                                        clear H1
                                        have H' := Aside0.mk H
                                        clear H
                                        have p30 : 0 ≤ ((ji27) : Int) := of_decide_eq_true (by first | (with_reducible assumption) | assumption)
                                        have q30 : (ji27) < (a0.size : Int) := of_decide_eq_true (by first | (with_reducible assumption) | assumption)
                                        have hx30 := bt_at a0 (ji27)
                                        replace p30 := eq_true p30
                                        replace q30 := eq_true q30
                                        have p34 : 0 ≤ ((ji32) : Int) := of_decide_eq_true (by first | (with_reducible assumption) | assumption)
                                        have q34 : (ji32) < (a0.size : Int) := of_decide_eq_true (by first | (with_reducible assumption) | assumption)
                                        have hx34 := bt_at a0 (ji32)
                                        replace p34 := eq_true p34
                                        replace q34 := eq_true q34
                                        go_wp2
                                        repeat (go_quiet (fail); try go_wp2)
                                        go_roundg kj14
                                        case measure => have := HJ3.out; have := HJ7.out; have := HK3.out; have := HJ9.out; have := HJ14.out; omega
                                        case rel => exact ⟨(ji27), (true), (by first | rfl | (simp; done) | (simp only [← hji27] <;> (first | rfl | simp)) | (simp [*]; done)), (by first | rfl | (simp; done) | (simp [*]; done)), H', ⟨by have := HJ3.out; have := HJ7.out; have := HK3.out; have := HJ9.out; have := HJ14.out; omega⟩, ⟨by repeat (first | (with_reducible first | exact HB.out | apply below_alloc | apply pw_below_drewN | apply below_drew1) | exact HB.out)⟩⟩
                                      · replace c36 := Bool.eq_false_iff.mpr c36
                                        subst c36
                                        have H1 : (if 0 ≤ x1_3 then (if x1_3 < (a0.size : Int) then (glob_class.l0 kj14 a0 ji27 a2 x8_3 ((bt a0 x1_3) == a2)) else (none)) else (none)) = some (r1, r2) := by rw [if_neg (show ¬ (false = true) by decide)] at H; exact H
                                        clear H
                                        have H := H1
                                        clear H1
                                        by_cases c37 : 0 ≤ x1_3
                                        · rw [if_pos c37] at H
                                          have c37b0 : decide (0 ≤ x1_3) = true := decide_eq_true c37
                                          clear c37
                                          by_cases c38 : x1_3 < (a0.size : Int)
                                          · rw [if_pos c38] at H
                                            have c38b0 : decide (x1_3 < (a0.size : Int)) = true := decide_eq_true c38
                                            clear c38
                                            have H' := Aside0.mk H
                                            clear H
                                            have p30 : 0 ≤ ((ji27) : Int) := of_decide_eq_true (by first | (with_reducible assumption) | assumption)
                                            have q30 : (ji27) < (a0.size : Int) := of_decide_eq_true (by first | (with_reducible assumption) | assumption)
                                            have hx30 := bt_at a0 (ji27)
                                            replace p30 := eq_true p30
                                            replace q30 := eq_true q30
                                            have p34 : 0 ≤ ((ji32) : Int) := of_decide_eq_true (by first | (with_reducible assumption) | assumption)
                                            have q34 : (ji32) < (a0.size : Int) := of_decide_eq_true (by first | (with_reducible assumption) | assumption)
                                            have hx34 := bt_at a0 (ji32)
                                            replace p34 := eq_true p34
                                            replace q34 := eq_true q34
                                            have p39 : 0 ≤ (x1_3 : Int) := of_decide_eq_true (by first | (with_reducible assumption) | assumption)
                                            have q39 : x1_3 < (a0.size : Int) := of_decide_eq_true (by first | (with_reducible assumption) | assumption)
                                            have hx39 := bt_at a0 x1_3
                                            replace p39 := eq_true p39
                                            replace q39 := eq_true q39
                                            go_wp2
                                            repeat (go_quiet (fail); try go_wp2)
                                            go_roundg kj14
                                            case measure => have := HJ3.out; have := HJ7.out; have := HK3.out; have := HJ9.out; have := HJ14.out; omega
                                            case rel => exact ⟨(ji27), (((bt a0 x1_3) == a2)), (by first | rfl | (simp; done) | (simp only [← hji27] <;> (first | rfl | simp)) | (simp [*]; done)), (by first | rfl | (simp; done) | (simp [*]; done)), H', ⟨by have := HJ3.out; have := HJ7.out; have := HK3.out; have := HJ9.out; have := HJ14.out; omega⟩, ⟨by repeat (first | (with_reducible first | exact HB.out | apply below_alloc | apply pw_below_drewN | apply below_drew1) | exact HB.out)⟩⟩
                                          · rw [if_neg c38] at H
                                            exact absurd H (by simp)
                                        · rw [if_neg c37] at H
                                          exact absurd H (by simp)
                                    · rw [if_neg c35] at H
                                      have c35b0 : ((bt a0 (ji32)) == 93) = false := beq_eq_false_iff_ne.mpr c35
                                      have c35b1 : ((bt a0 (ji32)) != 93) = true := bne_iff_ne.mpr c35
                                      by_cases c40 : 0 ≤ x1_3
                                      · rw [if_pos c40] at H
                                        have c40b0 : decide (0 ≤ x1_3) = true := decide_eq_true c40
                                        clear c40
                                        by_cases c41 : x1_3 < (a0.size : Int)
                                        · rw [if_pos c41] at H
                                          have c41b0 : decide (x1_3 < (a0.size : Int)) = true := decide_eq_true c41
                                          clear c41
                                          obtain ⟨ji44, hji44⟩ : ∃ j_ : Int, (mn (bt a0 x1_3) (bt a0 (ji32))) = j_ := ⟨_, rfl⟩
                                          replace H : (if x9_3 = true then (glob_class.l0 kj14 a0 (wrap64 (x1_3 + 3)) a2 x8_3 true) else (if (ji44) ≤ a2 then (glob_class.l0 kj14 a0 (wrap64 (x1_3 + 3)) a2 x8_3 (decide (a2 ≤ (mx (bt a0 x1_3) (bt a0 (ji32)))))) else (glob_class.l0 kj14 a0 (wrap64 (x1_3 + 3)) a2 x8_3 false))) = some (r1, r2) := by first | (rw [hji44] at H; exact H) | (simp only [hji44] at H ⊢; exact H)
                                          have hji44_ : (if (bt a0 (ji32)) < (bt a0 x1_3) then (bt a0 (ji32)) else (bt a0 x1_3)) = ji44 := hji44
                                          obtain ⟨ji47, hji47⟩ : ∃ j_ : Int, (mx (bt a0 x1_3) (bt a0 (ji32))) = j_ := ⟨_, rfl⟩
                                          replace H : (if x9_3 = true then (glob_class.l0 kj14 a0 (wrap64 (x1_3 + 3)) a2 x8_3 true) else (if (ji44) ≤ a2 then (glob_class.l0 kj14 a0 (wrap64 (x1_3 + 3)) a2 x8_3 (decide (a2 ≤ (ji47)))) else (glob_class.l0 kj14 a0 (wrap64 (x1_3 + 3)) a2 x8_3 false))) = some (r1, r2) := by first | (rw [hji47] at H; exact H) | (simp only [hji47] at H ⊢; exact H)
                                          have hji47_ : (if (bt a0 x1_3) < (bt a0 (ji32)) then (bt a0 (ji32)) else (bt a0 x1_3)) = ji47 := hji47
                                          by_cases c48 : x9_3 = true
                                          · subst c48
                                            have H1 : (glob_class.l0 kj14 a0 (wrap64 (x1_3 + 3)) a2 x8_3 true) = some (r1, r2) := by rw [if_pos rfl] at H; exact H
                                            clear H
                                            have H := H1
                                            clear H1
                                            have H' := Aside0.mk H
                                            clear H
                                            have p30 : 0 ≤ ((ji27) : Int) := of_decide_eq_true (by first | (with_reducible assumption) | assumption)
                                            have q30 : (ji27) < (a0.size : Int) := of_decide_eq_true (by first | (with_reducible assumption) | assumption)
                                            have hx30 := bt_at a0 (ji27)
                                            replace p30 := eq_true p30
                                            replace q30 := eq_true q30
                                            have p34 : 0 ≤ ((ji32) : Int) := of_decide_eq_true (by first | (with_reducible assumption) | assumption)
                                            have q34 : (ji32) < (a0.size : Int) := of_decide_eq_true (by first | (with_reducible assumption) | assumption)
                                            have hx34 := bt_at a0 (ji32)
                                            replace p34 := eq_true p34
                                            replace q34 := eq_true q34
                                            have p42 : 0 ≤ (x1_3 : Int) := of_decide_eq_true (by first | (with_reducible assumption) | assumption)
                                            have q42 : x1_3 < (a0.size : Int) := of_decide_eq_true (by first | (with_reducible assumption) | assumption)
                                            have hx42 := bt_at a0 x1_3
                                            replace p42 := eq_true p42
                                            replace q42 := eq_true q42
                                            have p43 : 0 ≤ ((ji32) : Int) := of_decide_eq_true (by first | (with_reducible assumption) | assumption)
                                            have q43 : (ji32) < (a0.size : Int) := of_decide_eq_true (by first | (with_reducible assumption) | assumption)
                                            have hx43 := bt_at a0 (ji32)
                                            replace p43 := eq_true p43
                                            replace q43 := eq_true q43
                                            have p45 : 0 ≤ (x1_3 : Int) := of_decide_eq_true (by first | (with_reducible assumption) | assumption)
                                            have q45 : x1_3 < (a0.size : Int) := of_decide_eq_true (by first | (with_reducible assumption) | assumption)
                                            have hx45 := bt_at a0 x1_3
                                            replace p45 := eq_true p45
                                            replace q45 := eq_true q45
                                            have p46 : 0 ≤ ((ji32) : Int) := of_decide_eq_true (by first | (with_reducible assumption) | assumption)
                                            have q46 : (ji32) < (a0.size : Int) := of_decide_eq_true (by first | (with_reducible assumption) | assumption)
                                            have hx46 := bt_at a0 (ji32)
                                            replace p46 := eq_true p46
                                            replace q46 := eq_true q46
                                            go_wp2
                                            repeat (go_quiet (fail); try go_wp2)
                                            go_roundg kj14
                                            case measure => have := HJ3.out; have := HJ7.out; have := HK3.out; have := HJ9.out; have := HJ14.out; omega
                                            case rel => exact ⟨(wrap64 (x1_3 + 3)), (true), (by first | rfl | (simp; done) | (simp [*]; done)), (by first | rfl | (simp; done) | (simp [*]; done)), H', ⟨by have := HJ3.out; have := HJ7.out; have := HK3.out; have := HJ9.out; have := HJ14.out; omega⟩, ⟨by repeat (first | (with_reducible first | exact HB.out | apply below_alloc | apply pw_below_drewN | apply below_drew1) | exact HB.out)⟩⟩
                                          · replace c48 := Bool.eq_false_iff.mpr c48
                                            subst c48
                                            have H1 : (if (ji44) ≤ a2 then (glob_class.l0 kj14 a0 (wrap64 (x1_3 + 3)) a2 x8_3 (decide (a2 ≤ (ji47)))) else (glob_class.l0 kj14 a0 (wrap64 (x1_3 + 3)) a2 x8_3 false)) = some (r1, r2) := by rw [if_neg (show ¬ (false = true) by decide)] at H; exact H
                                            clear H
                                            have H := H1
                                            clear H1
                                            by_cases c49 : (ji44) ≤ a2
                                            · rw [if_pos c49] at H
                                              have c49b0 : decide ((ji44) ≤ a2) = true := decide_eq_true c49
                                              clear c49
                                              have H' := Aside0.mk H
                                              clear H
                                              have p30 : 0 ≤ ((ji27) : Int) := of_decide_eq_true (by first | (with_reducible assumption) | assumption)
                                              have q30 : (ji27) < (a0.size : Int) := of_decide_eq_true (by first | (with_reducible assumption) | assumption)
                                              have hx30 := bt_at a0 (ji27)
                                              replace p30 := eq_true p30
                                              replace q30 := eq_true q30
                                              have p34 : 0 ≤ ((ji32) : Int) := of_decide_eq_true (by first | (with_reducible assumption) | assumption)
                                              have q34 : (ji32) < (a0.size : Int) := of_decide_eq_true (by first | (with_reducible assumption) | assumption)
                                              have hx34 := bt_at a0 (ji32)
                                              replace p34 := eq_true p34
                                              replace q34 := eq_true q34
                                              have p42 : 0 ≤ (x1_3 : Int) := of_decide_eq_true (by first | (with_reducible assumption) | assumption)
                                              have q42 : x1_3 < (a0.size : Int) := of_decide_eq_true (by first | (with_reducible assumption) | assumption)
                                              have hx42 := bt_at a0 x1_3
                                              replace p42 := eq_true p42
                                              replace q42 := eq_true q42
                                              have p43 : 0 ≤ ((ji32) : Int) := of_decide_eq_true (by first | (with_reducible assumption) | assumption)
                                              have q43 : (ji32) < (a0.size : Int) := of_decide_eq_true (by first | (with_reducible assumption) | assumption)
                                              have hx43 := bt_at a0 (ji32)
                                              replace p43 := eq_true p43
                                              replace q43 := eq_true q43
                                              have p45 : 0 ≤ (x1_3 : Int) := of_decide_eq_true (by first | (with_reducible assumption) | assumption)
                                              have q45 : x1_3 < (a0.size : Int) := of_decide_eq_true (by first | (with_reducible assumption) | assumption)
                                              have hx45 := bt_at a0 x1_3
                                              replace p45 := eq_true p45
                                              replace q45 := eq_true q45
                                              have p46 : 0 ≤ ((ji32) : Int) := of_decide_eq_true (by first | (with_reducible assumption) | assumption)
                                              have q46 : (ji32) < (a0.size : Int) := of_decide_eq_true (by first | (with_reducible assumption) | assumption)
                                              have hx46 := bt_at a0 (ji32)
                                              replace p46 := eq_true p46
                                              replace q46 := eq_true q46
                                              go_wp2
                                              repeat (go_quiet (fail); try go_wp2)
                                              go_roundg kj14
                                              case measure => have := HJ3.out; have := HJ7.out; have := HK3.out; have := HJ9.out; have := HJ14.out; omega
                                              case rel => exact ⟨(wrap64 (x1_3 + 3)), (decide (a2 ≤ (ji47))), (by first | rfl | (simp; done) | (simp [*]; done)), (by first | rfl | (simp; done) | (simp only [← hji47] <;> (first | rfl | simp)) | (simp [*]; done)), H', ⟨by have := HJ3.out; have := HJ7.out; have := HK3.out; have := HJ9.out; have := HJ14.out; omega⟩, ⟨by repeat (first | (with_reducible first | exact HB.out | apply below_alloc | apply pw_below_drewN | apply below_drew1) | exact HB.out)⟩⟩
                                            · rw [if_neg c49] at H
                                              have c49b0 : decide ((ji44) ≤ a2) = false := decide_eq_false c49
                                              clear c49
                                              have H' := Aside0.mk H
                                              clear H
                                              have p30 : 0 ≤ ((ji27) : Int) := of_decide_eq_true (by first | (with_reducible assumption) | assumption)
                                              have q30 : (ji27) < (a0.size : Int) := of_decide_eq_true (by first | (with_reducible assumption) | assumption)
                                              have hx30 := bt_at a0 (ji27)
                                              replace p30 := eq_true p30
                                              replace q30 := eq_true q30
                                              have p34 : 0 ≤ ((ji32) : Int) := of_decide_eq_true (by first | (with_reducible assumption) | assumption)
                                              have q34 : (ji32) < (a0.size : Int) := of_decide_eq_true (by first | (with_reducible assumption) | assumption)
                                              have hx34 := bt_at a0 (ji32)
                                              replace p34 := eq_true p34
                                              replace q34 := eq_true q34
                                              have p42 : 0 ≤ (x1_3 : Int) := of_decide_eq_true (by first | (with_reducible assumption) | assumption)
                                              have q42 : x1_3 < (a0.size : Int) := of_decide_eq_true (by first | (with_reducible assumption) | assumption)
                                              have hx42 := bt_at a0 x1_3
                                              replace p42 := eq_true p42
                                              replace q42 := eq_true q42
                                              have p43 : 0 ≤ ((ji32) : Int) := of_decide_eq_true (by first | (with_reducible assumption) | assumption)
                                              have q43 : (ji32) < (a0.size : Int) := of_decide_eq_true (by first | (with_reducible assumption) | assumption)
                                              have hx43 := bt_at a0 (ji32)
                                              replace p43 := eq_true p43
                                              replace q43 := eq_true q43
                                              have p45 : 0 ≤ (x1_3 : Int) := of_decide_eq_true (by first | (with_reducible assumption) | assumption)
                                              have q45 : x1_3 < (a0.size : Int) := of_decide_eq_true (by first | (with_reducible assumption) | assumption)
                                              have hx45 := bt_at a0 x1_3
                                              replace p45 := eq_true p45
                                              replace q45 := eq_true q45
                                              have p46 : 0 ≤ ((ji32) : Int) := of_decide_eq_true (by first | (with_reducible assumption) | assumption)
                                              have q46 : (ji32) < (a0.size : Int) := of_decide_eq_true (by first | (with_reducible assumption) | assumption)
                                              have hx46 := bt_at a0 (ji32)
                                              replace p46 := eq_true p46
                                              replace q46 := eq_true q46
                                              go_wp2
                                              repeat (go_quiet (fail); try go_wp2)
                                              go_roundg kj14
                                              case measure => have := HJ3.out; have := HJ7.out; have := HK3.out; have := HJ9.out; have := HJ14.out; omega
                                              case rel => exact ⟨(wrap64 (x1_3 + 3)), (false), (by first | rfl | (simp; done) | (simp [*]; done)), (by first | rfl | (simp; done) | (simp [*]; done)), H', ⟨by have := HJ3.out; have := HJ7.out; have := HK3.out; have := HJ9.out; have := HJ14.out; omega⟩, ⟨by repeat (first | (with_reducible first | exact HB.out | apply below_alloc | apply pw_below_drewN | apply below_drew1) | exact HB.out)⟩⟩
                                        · rw [if_neg c41] at H
                                          exact absurd H (by simp)
                                      · rw [if_neg c40] at H
                                        exact absurd H (by simp)
                                  · rw [if_neg c33] at H
                                    exact absurd H (by simp)
                                · rw [if_neg c31] at H
                                  have c31b0 : ((bt a0 (ji27)) == 45) = false := beq_eq_false_iff_ne.mpr c31
                                  have c31b1 : ((bt a0 (ji27)) != 45) = true := bne_iff_ne.mpr c31
                                  by_cases c50 : x9_3 = true
                                  · subst c50
                                    have H1 : (glob_class.l0 kj14 a0 ji27 a2 x8_3 true) = some (r1, r2) := by rw [if_pos rfl] at H; exact H
                                    clear H
                                    have H := H1
                                    clear H1
                                    have H' := Aside0.mk H
                                    clear H
                                    have p30 : 0 ≤ ((ji27) : Int) := of_decide_eq_true (by first | (with_reducible assumption) | assumption)
                                    have q30 : (ji27) < (a0.size : Int) := of_decide_eq_true (by first | (with_reducible assumption) | assumption)
                                    have hx30 := bt_at a0 (ji27)
                                    replace p30 := eq_true p30
                                    replace q30 := eq_true q30
                                    go_wp2
                                    repeat (go_quiet (fail); try go_wp2)
                                    go_roundg kj14
                                    case measure => have := HJ3.out; have := HJ7.out; have := HK3.out; have := HJ9.out; have := HJ14.out; omega
                                    case rel => exact ⟨(ji27), (true), (by first | rfl | (simp; done) | (simp only [← hji27] <;> (first | rfl | simp)) | (simp [*]; done)), (by first | rfl | (simp; done) | (simp [*]; done)), H', ⟨by have := HJ3.out; have := HJ7.out; have := HK3.out; have := HJ9.out; have := HJ14.out; omega⟩, ⟨by repeat (first | (with_reducible first | exact HB.out | apply below_alloc | apply pw_below_drewN | apply below_drew1) | exact HB.out)⟩⟩
                                  · replace c50 := Bool.eq_false_iff.mpr c50
                                    subst c50
                                    have H1 : (if 0 ≤ x1_3 then (if x1_3 < (a0.size : Int) then (glob_class.l0 kj14 a0 ji27 a2 x8_3 ((bt a0 x1_3) == a2)) else (none)) else (none)) = some (r1, r2) := by rw [if_neg (show ¬ (false = true) by decide)] at H; exact H
                                    clear H
                                    have H := H1
                                    clear H1
                                    by_cases c51 : 0 ≤ x1_3
                                    · rw [if_pos c51] at H
                                      have c51b0 : decide (0 ≤ x1_3) = true := decide_eq_true c51
                                      clear c51
                                      by_cases c52 : x1_3 < (a0.size : Int)
                                      · rw [if_pos c52] at H
                                        have c52b0 : decide (x1_3 < (a0.size : Int)) = true := decide_eq_true c52
                                        clear c52
                                        have H' := Aside0.mk H
                                        clear H
                                        have p30 : 0 ≤ ((ji27) : Int) := of_decide_eq_true (by first | (with_reducible assumption) | assumption)
                                        have q30 : (ji27) < (a0.size : Int) := of_decide_eq_true (by first | (with_reducible assumption) | assumption)
                                        have hx30 := bt_at a0 (ji27)
                                        replace p30 := eq_true p30
                                        replace q30 := eq_true q30
                                        have p53 : 0 ≤ (x1_3 : Int) := of_decide_eq_true (by first | (with_reducible assumption) | assumption)
                                        have q53 : x1_3 < (a0.size : Int) := of_decide_eq_true (by first | (with_reducible assumption) | assumption)
                                        have hx53 := bt_at a0 x1_3
                                        replace p53 := eq_true p53
                                        replace q53 := eq_true q53
                                        go_wp2
                                        repeat (go_quiet (fail); try go_wp2)
                                        go_roundg kj14
                                        case measure => have := HJ3.out; have := HJ7.out; have := HK3.out; have := HJ9.out; have := HJ14.out; omega
                                        case rel => exact ⟨(ji27), (((bt a0 x1_3) == a2)), (by first | rfl | (simp; done) | (simp only [← hji27] <;> (first | rfl | simp)) | (simp [*]; done)), (by first | rfl | (simp; done) | (simp [*]; done)), H', ⟨by have := HJ3.out; have := HJ7.out; have := HK3.out; have := HJ9.out; have := HJ14.out; omega⟩, ⟨by repeat (first | (with_reducible first | exact HB.out | apply below_alloc | apply pw_below_drewN | apply below_drew1) | exact HB.out)⟩⟩
                                      · rw [if_neg c52] at H
                                        exact absurd H (by simp)
                                    · rw [if_neg c51] at H
                                      exact absurd H (by simp)
                              · rw [if_neg c29] at H
                                exact absurd H (by simp)
                            · rw [if_neg c28] at H
                              exact absurd H (by simp)
                          · rw [if_neg c26] at H
                            have c26b0 : decide ((wrap64 (x1_3 + 2)) < (a0.size : Int)) = false := decide_eq_false c26
                            clear c26
                            by_cases c54 : x9_3 = true
                            · subst c54
                              have H1 : (glob_class.l0 kj14 a0 (wrap64 (x1_3 + 1)) a2 x8_3 true) = some (r1, r2) := by rw [if_pos rfl] at H; exact H
                              clear H
                              have H := H1
                              clear H1
                              have H' := Aside0.mk H
                              clear H
                              go_wp2
                              repeat (go_quiet (fail); try go_wp2)
                              go_roundg kj14
                              case measure => have := HJ3.out; have := HJ7.out; have := HK3.out; have := HJ9.out; have := HJ14.out; omega
                              case rel => exact ⟨(wrap64 (x1_3 + 1)), (true), (by first | rfl | (simp; done) | (simp [*]; done)), (by first | rfl | (simp; done) | (simp [*]; done)), H', ⟨by have := HJ3.out; have := HJ7.out; have := HK3.out; have := HJ9.out; have := HJ14.out; omega⟩, ⟨by repeat (first | (with_reducible first | exact HB.out | apply below_alloc | apply pw_below_drewN | apply below_drew1) | exact HB.out)⟩⟩
                            · replace c54 := Bool.eq_false_iff.mpr c54
                              subst c54
                              have H1 : (if 0 ≤ x1_3 then (if x1_3 < (a0.size : Int) then (glob_class.l0 kj14 a0 (wrap64 (x1_3 + 1)) a2 x8_3 ((bt a0 x1_3) == a2)) else (none)) else (none)) = some (r1, r2) := by rw [if_neg (show ¬ (false = true) by decide)] at H; exact H
                              clear H
                              have H := H1
                              clear H1
                              by_cases c55 : 0 ≤ x1_3
                              · rw [if_pos c55] at H
                                have c55b0 : decide (0 ≤ x1_3) = true := decide_eq_true c55
                                clear c55
                                by_cases c56 : x1_3 < (a0.size : Int)
                                · rw [if_pos c56] at H
                                  have c56b0 : decide (x1_3 < (a0.size : Int)) = true := decide_eq_true c56
                                  clear c56
                                  have H' := Aside0.mk H
                                  clear H
                                  have p57 : 0 ≤ (x1_3 : Int) := of_decide_eq_true (by first | (with_reducible assumption) | assumption)
                                  have q57 : x1_3 < (a0.size : Int) := of_decide_eq_true (by first | (with_reducible assumption) | assumption)
                                  have hx57 := bt_at a0 x1_3
                                  replace p57 := eq_true p57
                                  replace q57 := eq_true q57
                                  go_wp2
                                  repeat (go_quiet (fail); try go_wp2)
                                  go_roundg kj14
                                  case measure => have := HJ3.out; have := HJ7.out; have := HK3.out; have := HJ9.out; have := HJ14.out; omega
                                  case rel => exact ⟨(wrap64 (x1_3 + 1)), (((bt a0 x1_3) == a2)), (by first | rfl | (simp; done) | (simp [*]; done)), (by first | rfl | (simp; done) | (simp [*]; done)), H', ⟨by have := HJ3.out; have := HJ7.out; have := HK3.out; have := HJ9.out; have := HJ14.out; omega⟩, ⟨by repeat (first | (with_reducible first | exact HB.out | apply below_alloc | apply pw_below_drewN | apply below_drew1) | exact HB.out)⟩⟩
                                · rw [if_neg c56] at H
                                  exact absurd H (by simp)
                              · rw [if_neg c55] at H
                                exact absurd H (by simp)
                  · replace c14 := Bool.eq_false_iff.mpr c14
                    subst c14
                    have H1 : (some ((x9_3 != x8_3), mn (wrap64 (x1_3 + 1)) (a0.size : Int))) = some (r1, r2) := by rw [if_neg (show ¬ (false = true) by decide)] at H; exact H
                    clear H
                    have H := H1
                    clear H1
                    obtain ⟨ji58, hji58⟩ : ∃ j_ : Int, (mn (wrap64 (x1_3 + 1)) (a0.size : Int)) = j_ := ⟨_, rfl⟩
                    replace H : (some ((x9_3 != x8_3), ji58)) = some (r1, r2) := by first | (rw [hji58] at H; exact H) | (simp only [hji58] at H ⊢; exact H)
                    have hji58_ : (if (a0.size : Int) < (wrap64 (x1_3 + 1)) then (a0.size : Int) else (wrap64 (x1_3 + 1))) = ji58 := hji58
                    simp only [Option.some.injEq, Prod.mk.injEq] at H
                    obtain ⟨rfl, rfl⟩ := H
                    go_wp2
                    repeat (go_quiet (fail); try go_wp2)
                    go_ret2
                    exact ⟨by first | rfl | (simp [errW_none, errW_some] <;> rfl) | (simp only [← hji58]; first | rfl | (simp [errW_none, errW_some] <;> rfl)) | (simp [*, errW_none, errW_some] <;> rfl), by repeat (first | (with_reducible first | exact HB.out | apply below_alloc | apply pw_below_drewN | apply below_drew1) | exact HB.out)⟩

end Go.Proofs.Ytncdoanemfnjjaa.X
