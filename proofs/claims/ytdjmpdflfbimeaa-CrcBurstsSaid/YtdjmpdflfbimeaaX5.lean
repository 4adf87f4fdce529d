-- Written by wip/tool/xprint.py of this work (a front end of its own to the kit's printer): the functions of the seat Ytdjmpdflfbimeaa as plain Lean functions, and what the Go code's calls come to. Lean checks it.
import Derived.Test.YtdjmpdflfbimeaaX0
import Derived.Test.YtdjmpdflfbimeaaX1
import Derived.Test.YtdjmpdflfbimeaaX2
import Derived.Test.YtdjmpdflfbimeaaX3
import Derived.Test.YtdjmpdflfbimeaaX4
namespace Go.Proofs.Ytdjmpdflfbimeaa.X
open Go.RowKit Go.Proofs.YtdjmpdflfbimeaaW.PrintWords Go.Proofs.YtdjmpdflfbimeaaW.PrintLast Go.Proofs.YtdjmpdflfbimeaaW.PrintMore
attribute [local go_sem] max2_int min2_int max_two min_two max_three min_three max_four min_four   -- for this text's walks alone
set_option linter.unusedVariables false
set_option linter.unusedSimpArgs false

/-! ### mewslaw14_CrcSays: function 3 -/
def mewslaw14_CrcSays.j0 : Nat → Int → Int → ByteArray → Bool → Option (Bool)
  | 0, _, _, _, _ => none
  | k + 1, x0, x1, x2, x7 => (crc_Byte.f k x0 x1).bind fun t132 => ((mewsref14_Byte.f k x0 x1).bind fun t133 => (if t132 = t133 then ((crc_More.f k x0 x2).bind fun t134 => ((mewsref14_More.f k x0 x2).bind fun t135 => (if t134 = t135 then ((crc_Of.f k (([x2] : List ByteArray))).bind fun t139 => ((mewsref14_Of.f k x2).bind fun t140 => (if t139 = t140 then ((crc_Seal.f k x2).bind fun t141 => ((mewsref14_Seal.f k x2).bind fun t142 => (if t141.toList = t142.toList then ((crc_Fits.f k x2).bind fun t143 => (if (t143 == x7) = true then ((mewslaw14_alive.f k).bind fun t144 => (some t144)) else (some false))) else (some false)))) else (some false)))) else (some false)))) else (some false)))
def mewslaw14_CrcSays.f (k : Nat) (a0 : Int) (a1 : Int) (a2 : ByteArray) : Option (Bool) := (mewslaw14_far.f k (([a2] : List ByteArray))).bind fun t129 => (if t129 = true then ((mewslaw14_alive.f k).bind fun t130 => (some t130)) else (if (a2.size : Int) ≥ 4 then (if 0 ≤ (wrap64 ((a2.size : Int) - 4)) then (if (wrap64 ((a2.size : Int) - 4)) ≤ (a2.size : Int) then ((mewsref14_Seal.f k (a2.extract 0 ((wrap64 ((a2.size : Int) - 4)) : Int).toNat)).bind fun t131 => (mewslaw14_CrcSays.j0 k a0 a1 a2 (t131.toList == a2.toList))) else (none)) else (none)) else (mewslaw14_CrcSays.j0 k a0 a1 a2 false)))
theorem mewslaw14_CrcSays.mono_l : ∀ k, (∀ y0 y1 y2 y3, LeO (mewslaw14_CrcSays.j0 k y0 y1 y2 y3) (mewslaw14_CrcSays.j0 (k + 1) y0 y1 y2 y3))
  | 0 => fun _ _ _ _ r h => by simp [mewslaw14_CrcSays.j0] at h
  | k + 1 => by
    have ih0 := mewslaw14_CrcSays.mono_l k
    · intro y0 y1 y2 y3
      unfold mewslaw14_CrcSays.j0
      repeat' first
      | (with_reducible exact ih0 _ _ _ _)
      | (with_reducible exact crc_Byte.mono _ _ _)
      | (with_reducible exact crc_Fits.mono _ _)
      | (with_reducible exact crc_More.mono _ _ _)
      | (with_reducible exact crc_Of.mono _ _)
      | (with_reducible exact crc_Seal.mono _ _)
      | (with_reducible exact mewslaw14_alive.mono _)
      | (with_reducible exact mewslaw14_far.mono _ _)
      | (with_reducible exact mewsref14_Byte.mono _ _ _)
      | (with_reducible exact mewsref14_More.mono _ _ _)
      | (with_reducible exact mewsref14_Of.mono _ _)
      | (with_reducible exact mewsref14_Seal.mono _ _)
      | (with_reducible exact LeO.refl _)
      | (with_reducible exact LeO.none _)
      | (with_reducible refine LeO.ite ?_ ?_)
      | (with_reducible refine LeO.bind ?_ (fun _ => ?_))
      | exact ih0 _ _ _ _
      | exact crc_Byte.mono _ _ _
      | exact crc_Fits.mono _ _
      | exact crc_More.mono _ _ _
      | exact crc_Of.mono _ _
      | exact crc_Seal.mono _ _
      | exact mewslaw14_alive.mono _
      | exact mewslaw14_far.mono _ _
      | exact mewsref14_Byte.mono _ _ _
      | exact mewsref14_More.mono _ _ _
      | exact mewsref14_Of.mono _ _
      | exact mewsref14_Seal.mono _ _
      | exact LeO.none _
      | refine LeO.ite ?_ ?_
      | refine LeO.bind ?_ (fun _ => ?_)
theorem mewslaw14_CrcSays.mono : ∀ a0 a1 a2 k, LeO (mewslaw14_CrcSays.f k a0 a1 a2) (mewslaw14_CrcSays.f (k + 1) a0 a1 a2) := by
  intro a0 a1 a2 k
  have ih0 := mewslaw14_CrcSays.mono_l k
  unfold mewslaw14_CrcSays.f
  repeat' first
      | (with_reducible exact ih0 _ _ _ _)
      | (with_reducible exact crc_Byte.mono _ _ _)
      | (with_reducible exact crc_Fits.mono _ _)
      | (with_reducible exact crc_More.mono _ _ _)
      | (with_reducible exact crc_Of.mono _ _)
      | (with_reducible exact crc_Seal.mono _ _)
      | (with_reducible exact mewslaw14_alive.mono _)
      | (with_reducible exact mewslaw14_far.mono _ _)
      | (with_reducible exact mewsref14_Byte.mono _ _ _)
      | (with_reducible exact mewsref14_More.mono _ _ _)
      | (with_reducible exact mewsref14_Of.mono _ _)
      | (with_reducible exact mewsref14_Seal.mono _ _)
      | (with_reducible exact LeO.refl _)
      | (with_reducible exact LeO.none _)
      | (with_reducible refine LeO.ite ?_ ?_)
      | (with_reducible refine LeO.bind ?_ (fun _ => ?_))
      | exact ih0 _ _ _ _
      | exact crc_Byte.mono _ _ _
      | exact crc_Fits.mono _ _
      | exact crc_More.mono _ _ _
      | exact crc_Of.mono _ _
      | exact crc_Seal.mono _ _
      | exact mewslaw14_alive.mono _
      | exact mewslaw14_far.mono _ _
      | exact mewsref14_Byte.mono _ _ _
      | exact mewsref14_More.mono _ _ _
      | exact mewsref14_Of.mono _ _
      | exact mewsref14_Seal.mono _ _
      | exact LeO.none _
      | refine LeO.ite ?_ ?_
      | refine LeO.bind ?_ (fun _ => ?_)
set_option maxHeartbeats 8000000 in
set_option maxRecDepth 100000 in
theorem mewslaw14_CrcSays.calls (k : Nat) (a0 : Int) (a1 : Int) (a2 : ByteArray) (r : Bool) (w : World) (hr_ : Aside0 (r = true)) (h : mewslaw14_CrcSays.f k a0 a1 a2 = some r) :
    Calls Try.prog 3 #[.int .u32 a0, .int .u8 a1, .string a2] w fun e w' => e = .returned (.bool r) ∧ Below w.heap.size w w' := by
  have HB := Aside0.mk (Below.refl w.heap.size w)
  have H : ((mewslaw14_far.f k (([a2] : List ByteArray))).bind fun t129 => (if t129 = true then ((mewslaw14_alive.f k).bind fun t130 => (some t130)) else (if (a2.size : Int) ≥ 4 then (if 0 ≤ (wrap64 ((a2.size : Int) - 4)) then (if (wrap64 ((a2.size : Int) - 4)) ≤ (a2.size : Int) then ((mewsref14_Seal.f k (a2.extract 0 ((wrap64 ((a2.size : Int) - 4)) : Int).toNat)).bind fun t131 => (mewslaw14_CrcSays.j0 k a0 a1 a2 (t131.toList == a2.toList))) else (none)) else (none)) else (mewslaw14_CrcSays.j0 k a0 a1 a2 false)))) = some r := h
  clear h
  obtain ⟨y126, hy126⟩ : ∃ y_ : List ByteArray, y_ = (([a2] : List ByteArray)) := ⟨_, rfl⟩
  replace H : ((mewslaw14_far.f k y126).bind fun t129 => (if t129 = true then ((mewslaw14_alive.f k).bind fun t130 => (some t130)) else (if (a2.size : Int) ≥ 4 then (if 0 ≤ (wrap64 ((a2.size : Int) - 4)) then (if (wrap64 ((a2.size : Int) - 4)) ≤ (a2.size : Int) then ((mewsref14_Seal.f k (a2.extract 0 ((wrap64 ((a2.size : Int) - 4)) : Int).toNat)).bind fun t131 => (mewslaw14_CrcSays.j0 k a0 a1 a2 (t131.toList == a2.toList))) else (none)) else (none)) else (mewslaw14_CrcSays.j0 k a0 a1 a2 false)))) = some r := by first | (rw [hy126]; with_reducible exact H) | (have H2_ := (Option.bind_some _ _).symm.trans H; rw [hy126]; with_reducible exact H2_) | (have H2_ := (Option.bind_some _ _).symm.trans H; with_reducible exact H2_) | with_reducible exact H | (rw [hy126]; exact H) | exact H
  have Ny126 := Aside0.mk hy126
  clear hy126
  replace H := Option.bind_eq_some_iff.mp H
  obtain ⟨t129, A40, H⟩ := H
  replace H : (if t129 = true then ((mewslaw14_alive.f k).bind fun t130 => (some t130)) else (if (a2.size : Int) ≥ 4 then (if 0 ≤ (wrap64 ((a2.size : Int) - 4)) then (if (wrap64 ((a2.size : Int) - 4)) ≤ (a2.size : Int) then ((mewsref14_Seal.f k (a2.extract 0 ((wrap64 ((a2.size : Int) - 4)) : Int).toNat)).bind fun t131 => (mewslaw14_CrcSays.j0 k a0 a1 a2 (t131.toList == a2.toList))) else (none)) else (none)) else (mewslaw14_CrcSays.j0 k a0 a1 a2 false))) = some r := H
  have A4 := Aside0.mk A40
  clear A40
  by_cases c5 : t129 = true
  · subst c5
    have H1 : ((mewslaw14_alive.f k).bind fun t130 => (some t130)) = some r := by rw [if_pos rfl] at H; exact H
    clear H
    have H := H1
    clear H1
    replace H := Option.bind_eq_some_iff.mp H
    obtain ⟨t130, A60, H⟩ := H
    replace H : (some t130) = some r := H
    have A6 := Aside0.mk A60
    clear A60
    obtain rfl := Option.some.inj H
    go_enter Try.func3, Try.ntmps3
    go_wp2_with (first | ((with_reducible refine gate_dst (N := 9) rfl ?_); (try (refine gate_guard (by rfl) ?_; dsimp only)); refine Kd.R_lit Kd.string _ 9 ?hg (N := 9) ?hd (xs := ([a2] : List ByteArray)) (inner := [.string a2]) (ok := fun _ => True) (okp := fun _ => True) ?hr ?hp (fun _ hk => hk) trivial (Below.refl _ _) (Nat.le_refl _) (by simp) ?_; (case hd => rfl); (case hg => rfl); (case hr => first | (go_simp; done) | (go_simp; rfl)); (case hp => exact (Reps.one (show Kd.M Kd.string _ _ _ a2 [.string a2] from rfl) (Reps.none _ _))); intro v127 w7 ho8 hb hg_ hnew_; clear hg_ hnew_; (first | rw [← Ny126.out] at ho8 | (simp only [Int.reduceToNat] at ho8; rw [← Ny126.out] at ho8)); have n0_ := Aside0.mk (Kd.R_lower ho8 (below_size (by repeat (first | (with_reducible first | exact HB.out | apply below_alloc | apply pw_below_drewN | apply below_drew1) | exact HB.out)))); have n1_ := Aside0.mk (below_step (by repeat (first | (with_reducible first | exact HB.out | apply below_alloc | apply pw_below_drewN | apply below_drew1) | exact HB.out)) hb); clear HB; have HO128 := n0_; have HB := n1_; clear n0_ n1_; clear hb ho8; obtain ⟨Ao9, co9, eo9⟩ := Kd.R_slice HO128.out; subst eo9) | ((with_reducible refine gate_callee (f := 6) rfl ?_); refine goesL_ (some 10) rfl rfl Try.func6 (by kernel_rfl) rfl #[.slice Ao9 y126.length co9] rfl (by (try simp only [List.map_toArray, List.map_cons, List.map_nil]); first | done | rfl | (simp only [List.length_drop, List.length_take]; rfl)) ?_; (with_reducible refine (mewslaw14_far.calls k _ _ y126 true _ ?side1 ?side2 A4.out).mono ?_); (case side1 => repeat (first | exact (Kd.R_reads' HO128.out).2.2 | (with_reducible refine Kd.C_alloc ?_ _) | (with_reducible refine Kd.C_drewN ?_ _) | (with_reducible refine Kd.C_drew ?_))); (case side2 => exact (Kd.R_reads' HO128.out).2.1); rintro e w' ⟨rfl, ⟨nd, rfl⟩⟩; refine ⟨_, rfl, ?_⟩) | ((with_reducible refine gate_callee (f := 7) rfl ?_); refine goesL_ (some 11) rfl rfl Try.func7 (by kernel_rfl) rfl #[] rfl (by (try simp only [List.map_toArray, List.map_cons, List.map_nil]); first | done | rfl | (simp only [List.length_drop, List.length_take]; rfl)) ?_; (with_reducible refine (mewslaw14_alive.calls k  t130 _ A6.out).mono ?_); rintro e w10 ⟨rfl, hb⟩; refine ⟨_, rfl, ?_⟩; have n0_ := Aside0.mk (Kd.R_below (by (with_reducible repeat (first | apply Kd.R_alloc | apply Kd.R_drewN | apply Kd.R_drew)); exact HO128.out) hb); have n1_ := Aside0.mk (below_step (by repeat (first | (with_reducible first | exact HB.out | apply below_alloc | apply pw_below_drewN | apply below_drew1) | exact HB.out)) hb); clear HO128; clear HB; have HO128 := n0_; have HB := n1_; clear n0_ n1_; (try clear hb); (try clear hb2); (try clear hk); (try clear hi)))
    go_ret
    exact ⟨by first | rfl | (simp [errW_none, errW_some] <;> rfl) | (simp [*, errW_none, errW_some] <;> rfl), by repeat (first | (with_reducible first | exact HB.out | apply below_alloc | apply pw_below_drewN | apply below_drew1) | exact HB.out)⟩
  · replace c5 := Bool.eq_false_iff.mpr c5
    subst c5
    have H1 : (if (a2.size : Int) ≥ 4 then (if 0 ≤ (wrap64 ((a2.size : Int) - 4)) then (if (wrap64 ((a2.size : Int) - 4)) ≤ (a2.size : Int) then ((mewsref14_Seal.f k (a2.extract 0 ((wrap64 ((a2.size : Int) - 4)) : Int).toNat)).bind fun t131 => (mewslaw14_CrcSays.j0 k a0 a1 a2 (t131.toList == a2.toList))) else (none)) else (none)) else (mewslaw14_CrcSays.j0 k a0 a1 a2 false)) = some r := by rw [if_neg (show ¬ (false = true) by decide)] at H; exact H
    clear H
    have H := H1
    clear H1
    have HC11 := Aside0.mk H
    clear H
    go_enter Try.func3, Try.ntmps3
    go_upto_region 3 with (first | ((with_reducible refine gate_dst (N := 9) rfl ?_); (try (refine gate_guard (by rfl) ?_; dsimp only)); refine Kd.R_lit Kd.string _ 9 ?hg (N := 9) ?hd (xs := ([a2] : List ByteArray)) (inner := [.string a2]) (ok := fun _ => True) (okp := fun _ => True) ?hr ?hp (fun _ hk => hk) trivial (Below.refl _ _) (Nat.le_refl _) (by simp) ?_; (case hd => rfl); (case hg => rfl); (case hr => first | (go_simp; done) | (go_simp; rfl)); (case hp => exact (Reps.one (show Kd.M Kd.string _ _ _ a2 [.string a2] from rfl) (Reps.none _ _))); intro v127 w12 ho13 hb hg_ hnew_; clear hg_ hnew_; (first | rw [← Ny126.out] at ho13 | (simp only [Int.reduceToNat] at ho13; rw [← Ny126.out] at ho13)); have n0_ := Aside0.mk (Kd.R_lower ho13 (below_size (by repeat (first | (with_reducible first | exact HB.out | apply below_alloc | apply pw_below_drewN | apply below_drew1) | exact HB.out)))); have n1_ := Aside0.mk (below_step (by repeat (first | (with_reducible first | exact HB.out | apply below_alloc | apply pw_below_drewN | apply below_drew1) | exact HB.out)) hb); clear HB; have HO128 := n0_; have HB := n1_; clear n0_ n1_; clear hb ho13; obtain ⟨Ao14, co14, eo14⟩ := Kd.R_slice HO128.out; subst eo14) | ((with_reducible refine gate_callee (f := 6) rfl ?_); refine goesL_ (some 10) rfl rfl Try.func6 (by kernel_rfl) rfl #[.slice Ao14 y126.length co14] rfl (by (try simp only [List.map_toArray, List.map_cons, List.map_nil]); first | done | rfl | (simp only [List.length_drop, List.length_take]; rfl)) ?_; (with_reducible refine (mewslaw14_far.calls k _ _ y126 false _ ?side1 ?side2 A4.out).mono ?_); (case side1 => repeat (first | exact (Kd.R_reads' HO128.out).2.2 | (with_reducible refine Kd.C_alloc ?_ _) | (with_reducible refine Kd.C_drewN ?_ _) | (with_reducible refine Kd.C_drew ?_))); (case side2 => exact (Kd.R_reads' HO128.out).2.1); rintro e w' ⟨rfl, ⟨nd, rfl⟩⟩; refine ⟨_, rfl, ?_⟩))
    (try simp only [Act.put, List.setIfInBounds_toArray, List.set_cons_zero, List.set_cons_succ])
    go_cut [7] (fun v7 wc => ∃ (kq : Nat) (x7_10 : Bool), v7 = .bool x7_10 ∧ Aside0 (mewslaw14_CrcSays.j0 kq a0 a1 a2 x7_10 = some r) ∧ Aside0 (kq ≤ k) ∧ Aside0 (Below w.heap.size w wc))
    case first =>
      have H := HC11.out
      clear HC11
      by_cases c15 : (a2.size : Int) ≥ 4
      · rw [if_pos c15] at H
        have c15b0 : decide (4 ≤ (a2.size : Int)) = true := decide_eq_true c15
        have c15b1 : decide (4 ≤ a2.size) = true := decide_eq_true (by omega)
        clear c15
        (first | rw [c15b0] | (simp only [i64_w, i32_w]; rw [c15b0]) | skip)
        obtain ⟨ji16, hji16⟩ : ∃ j_ : Int, (wrap64 ((a2.size : Int) - 4)) = j_ := ⟨_, rfl⟩
        replace H : (if 0 ≤ (ji16) then (if (ji16) ≤ (a2.size : Int) then ((mewsref14_Seal.f k (a2.extract 0 ((ji16) : Int).toNat)).bind fun t131 => (mewslaw14_CrcSays.j0 k a0 a1 a2 (t131.toList == a2.toList))) else (none)) else (none)) = some r := by first | (rw [hji16] at H; exact H) | (simp only [hji16] at H ⊢; exact H)
        have hji16w : (IntKind.i64.wrap ((a2.size : Int) - 4)) = ji16 := (i64_w _).trans hji16
        by_cases c17 : 0 ≤ (ji16)
        · rw [if_pos c17] at H
          have c17b0 := eq_true c17
          have c17b1 : decide (0 ≤ (ji16)) = true := decide_eq_true c17
          clear c17
          by_cases c18 : (ji16) ≤ (a2.size : Int)
          · rw [if_pos c18] at H
            have c18b0 := eq_true c18
            have c18b1 : decide ((ji16) ≤ (a2.size : Int)) = true := decide_eq_true c18
            clear c18
            replace H := Option.bind_eq_some_iff.mp H
            obtain ⟨t131, A190, H⟩ := H
            replace H : (mewslaw14_CrcSays.j0 k a0 a1 a2 (t131.toList == a2.toList)) = some r := H
            have A19 := Aside0.mk A190
            clear A190
            have H' := Aside0.mk H
            clear H
            go_wp2_with (first | (go_at_call 8; (with_reducible refine (mewsref14_Seal.calls k (a2.extract 0 ((ji16) : Int).toNat) t131 _ A19.out).mono ?_); rintro e w20 ⟨rfl, hb⟩; have n0_ := Aside0.mk (Kd.R_below (by (with_reducible repeat (first | apply Kd.R_alloc | apply Kd.R_drewN | apply Kd.R_drew)); exact HO128.out) hb); have n1_ := Aside0.mk (below_step (by repeat (first | (with_reducible first | exact HB.out | apply below_alloc | apply pw_below_drewN | apply below_drew1) | exact HB.out)) hb); clear HO128; clear HB; have HO128 := n0_; have HB := n1_; clear n0_ n1_; (try clear hb); (try clear hb2); (try clear hk); (try clear hi)))
            go_meet
            case rel => exact ⟨_, ((t131.toList == a2.toList)), (by first | rfl | (simp; done) | (simp [*]; done)), H', ⟨by first | omega | exact Nat.le_refl _⟩, ⟨by repeat (first | (with_reducible first | exact HB.out | apply below_alloc | apply pw_below_drewN | apply below_drew1) | exact HB.out)⟩⟩
          · rw [if_neg c18] at H
            exact absurd H (by simp)
        · rw [if_neg c17] at H
          exact absurd H (by simp)
      · rw [if_neg c15] at H
        have c15b0 : decide (4 ≤ (a2.size : Int)) = false := decide_eq_false c15
        have c15b1 : decide (4 ≤ a2.size) = false := decide_eq_false (by omega)
        clear c15
        (first | rw [c15b0] | (simp only [i64_w, i32_w]; rw [c15b0]) | skip)
        have H' := Aside0.mk H
        clear H
        go_wp2
        go_meet
        case rel => exact ⟨_, (false), (by first | rfl | (simp; done) | (simp [*]; done)), H', ⟨by first | omega | exact Nat.le_refl _⟩, ⟨by repeat (first | (with_reducible first | exact HB.out | apply below_alloc | apply pw_below_drewN | apply below_drew1) | exact HB.out)⟩⟩
    case rest =>
      clear HC11
      try clear c1
      try clear p2
      try clear c3
      try clear c5
      try clear c6
      try clear p6
      try clear c7
      try clear c15
      try clear c15b0
      try clear c15b1
      try clear c17
      try clear c17b0
      try clear c17b1
      try clear c18
      try clear c18b0
      try clear c18b1
      obtain ⟨kq, x7_10, rfl, HA, HJ10, HB⟩ := hcut
      cases kq with
      | zero => exact absurd HA.out (by simp [mewslaw14_CrcSays.j0])
      | succ kj10 =>
        have H := HA.out
        clear HA
        simp only [mewslaw14_CrcSays.j0] at H
        replace H := Option.bind_eq_some_iff.mp H
        obtain ⟨t132, A210, H⟩ := H
        replace H : ((mewsref14_Byte.f kj10 a0 a1).bind fun t133 => (if t132 = t133 then ((crc_More.f kj10 a0 a2).bind fun t134 => ((mewsref14_More.f kj10 a0 a2).bind fun t135 => (if t134 = t135 then ((crc_Of.f kj10 (([a2] : List ByteArray))).bind fun t139 => ((mewsref14_Of.f kj10 a2).bind fun t140 => (if t139 = t140 then ((crc_Seal.f kj10 a2).bind fun t141 => ((mewsref14_Seal.f kj10 a2).bind fun t142 => (if t141.toList = t142.toList then ((crc_Fits.f kj10 a2).bind fun t143 => (if (t143 == x7_10) = true then ((mewslaw14_alive.f kj10).bind fun t144 => (some t144)) else (some false))) else (some false)))) else (some false)))) else (some false)))) else (some false))) = some r := H
        have A21 := Aside0.mk A210
        clear A210
        replace H := Option.bind_eq_some_iff.mp H
        obtain ⟨t133, A220, H⟩ := H
        replace H : (if t132 = t133 then ((crc_More.f kj10 a0 a2).bind fun t134 => ((mewsref14_More.f kj10 a0 a2).bind fun t135 => (if t134 = t135 then ((crc_Of.f kj10 (([a2] : List ByteArray))).bind fun t139 => ((mewsref14_Of.f kj10 a2).bind fun t140 => (if t139 = t140 then ((crc_Seal.f kj10 a2).bind fun t141 => ((mewsref14_Seal.f kj10 a2).bind fun t142 => (if t141.toList = t142.toList then ((crc_Fits.f kj10 a2).bind fun t143 => (if (t143 == x7_10) = true then ((mewslaw14_alive.f kj10).bind fun t144 => (some t144)) else (some false))) else (some false)))) else (some false)))) else (some false)))) else (some false)) = some r := H
        have A22 := Aside0.mk A220
        clear A220
        by_cases c23 : t132 = t133
        · rw [if_pos c23] at H
          have c23b0 : (t132 == t133) = true := beq_iff_eq.mpr c23
          have c23b1 : (t132 != t133) = false := bne_eq_false_iff_eq.mpr c23
          clear c23
          replace H := Option.bind_eq_some_iff.mp H
          obtain ⟨t134, A240, H⟩ := H
          replace H : ((mewsref14_More.f kj10 a0 a2).bind fun t135 => (if t134 = t135 then ((crc_Of.f kj10 (([a2] : List ByteArray))).bind fun t139 => ((mewsref14_Of.f kj10 a2).bind fun t140 => (if t139 = t140 then ((crc_Seal.f kj10 a2).bind fun t141 => ((mewsref14_Seal.f kj10 a2).bind fun t142 => (if t141.toList = t142.toList then ((crc_Fits.f kj10 a2).bind fun t143 => (if (t143 == x7_10) = true then ((mewslaw14_alive.f kj10).bind fun t144 => (some t144)) else (some false))) else (some false)))) else (some false)))) else (some false))) = some r := H
          have A24 := Aside0.mk A240
          clear A240
          replace H := Option.bind_eq_some_iff.mp H
          obtain ⟨t135, A250, H⟩ := H
          replace H : (if t134 = t135 then ((crc_Of.f kj10 (([a2] : List ByteArray))).bind fun t139 => ((mewsref14_Of.f kj10 a2).bind fun t140 => (if t139 = t140 then ((crc_Seal.f kj10 a2).bind fun t141 => ((mewsref14_Seal.f kj10 a2).bind fun t142 => (if t141.toList = t142.toList then ((crc_Fits.f kj10 a2).bind fun t143 => (if (t143 == x7_10) = true then ((mewslaw14_alive.f kj10).bind fun t144 => (some t144)) else (some false))) else (some false)))) else (some false)))) else (some false)) = some r := H
          have A25 := Aside0.mk A250
          clear A250
          by_cases c26 : t134 = t135
          · rw [if_pos c26] at H
            have c26b0 : (t134 == t135) = true := beq_iff_eq.mpr c26
            have c26b1 : (t134 != t135) = false := bne_eq_false_iff_eq.mpr c26
            clear c26
            obtain ⟨y136, hy136⟩ : ∃ y_ : List ByteArray, y_ = (([a2] : List ByteArray)) := ⟨_, rfl⟩
            replace H : ((crc_Of.f kj10 y136).bind fun t139 => ((mewsref14_Of.f kj10 a2).bind fun t140 => (if t139 = t140 then ((crc_Seal.f kj10 a2).bind fun t141 => ((mewsref14_Seal.f kj10 a2).bind fun t142 => (if t141.toList = t142.toList then ((crc_Fits.f kj10 a2).bind fun t143 => (if (t143 == x7_10) = true then ((mewslaw14_alive.f kj10).bind fun t144 => (some t144)) else (some false))) else (some false)))) else (some false)))) = some r := by first | (rw [hy136]; with_reducible exact H) | (have H2_ := (Option.bind_some _ _).symm.trans H; rw [hy136]; with_reducible exact H2_) | (have H2_ := (Option.bind_some _ _).symm.trans H; with_reducible exact H2_) | with_reducible exact H | (rw [hy136]; exact H) | exact H
            have Ny136 := Aside0.mk hy136
            clear hy136
            replace H := Option.bind_eq_some_iff.mp H
            obtain ⟨t139, A270, H⟩ := H
            replace H : ((mewsref14_Of.f kj10 a2).bind fun t140 => (if t139 = t140 then ((crc_Seal.f kj10 a2).bind fun t141 => ((mewsref14_Seal.f kj10 a2).bind fun t142 => (if t141.toList = t142.toList then ((crc_Fits.f kj10 a2).bind fun t143 => (if (t143 == x7_10) = true then ((mewslaw14_alive.f kj10).bind fun t144 => (some t144)) else (some false))) else (some false)))) else (some false))) = some r := H
            have A27 := Aside0.mk A270
            clear A270
            replace H := Option.bind_eq_some_iff.mp H
            obtain ⟨t140, A280, H⟩ := H
            replace H : (if t139 = t140 then ((crc_Seal.f kj10 a2).bind fun t141 => ((mewsref14_Seal.f kj10 a2).bind fun t142 => (if t141.toList = t142.toList then ((crc_Fits.f kj10 a2).bind fun t143 => (if (t143 == x7_10) = true then ((mewslaw14_alive.f kj10).bind fun t144 => (some t144)) else (some false))) else (some false)))) else (some false)) = some r := H
            have A28 := Aside0.mk A280
            clear A280
            by_cases c29 : t139 = t140
            · rw [if_pos c29] at H
              have c29b0 : (t139 == t140) = true := beq_iff_eq.mpr c29
              have c29b1 : (t139 != t140) = false := bne_eq_false_iff_eq.mpr c29
              clear c29
              replace H := Option.bind_eq_some_iff.mp H
              obtain ⟨t141, A300, H⟩ := H
              replace H : ((mewsref14_Seal.f kj10 a2).bind fun t142 => (if t141.toList = t142.toList then ((crc_Fits.f kj10 a2).bind fun t143 => (if (t143 == x7_10) = true then ((mewslaw14_alive.f kj10).bind fun t144 => (some t144)) else (some false))) else (some false))) = some r := H
              have A30 := Aside0.mk A300
              clear A300
              replace H := Option.bind_eq_some_iff.mp H
              obtain ⟨t142, A310, H⟩ := H
              replace H : (if t141.toList = t142.toList then ((crc_Fits.f kj10 a2).bind fun t143 => (if (t143 == x7_10) = true then ((mewslaw14_alive.f kj10).bind fun t144 => (some t144)) else (some false))) else (some false)) = some r := H
              have A31 := Aside0.mk A310
              clear A310
              by_cases c32 : t141.toList = t142.toList
              · rw [if_pos c32] at H
                have c32b0 : (t141.toList == t142.toList) = true := beq_iff_eq.mpr c32
                have c32b1 : (t141.toList != t142.toList) = false := bne_eq_false_iff_eq.mpr c32
                clear c32
                replace H := Option.bind_eq_some_iff.mp H
                obtain ⟨t143, A330, H⟩ := H
                replace H : (if (t143 == x7_10) = true then ((mewslaw14_alive.f kj10).bind fun t144 => (some t144)) else (some false)) = some r := H
                have A33 := Aside0.mk A330
                clear A330
                by_cases c34 : (t143 == x7_10) = true
                · rw [if_pos c34] at H
                  have c34b0 : (t143 == x7_10) = true := c34
                  (try (have c34b1 : decide (t143 = x7_10) = true := by simpa using c34))
                  (try (have c34b2 : (t143 == x7_10) = true := by simpa using c34))
                  clear c34
                  replace H := Option.bind_eq_some_iff.mp H
                  obtain ⟨t144, A350, H⟩ := H
                  replace H : (some t144) = some r := H
                  have A35 := Aside0.mk A350
                  clear A350
                  obtain rfl := Option.some.inj H
                  go_wp2_with (first | ((with_reducible refine gate_callee (f := 9) rfl ?_); refine goesL_ (some 27) rfl rfl Try.func9 (by kernel_rfl) rfl #[.int .u32 a0, .int .u8 a1] rfl (by (try simp only [List.map_toArray, List.map_cons, List.map_nil]); first | done | rfl | (simp only [List.length_drop, List.length_take]; rfl)) ?_; (with_reducible refine (crc_Byte.calls kj10 a0 a1 t132 _ A21.out).mono ?_); rintro e w' ⟨rfl, ⟨nd, rfl⟩⟩; refine ⟨_, rfl, ?_⟩) | ((with_reducible refine gate_callee (f := 10) rfl ?_); refine goesL_ (some 30) rfl rfl Try.func10 (by kernel_rfl) rfl #[.int .u32 a0, .int .u8 a1] rfl (by (try simp only [List.map_toArray, List.map_cons, List.map_nil]); first | done | rfl | (simp only [List.length_drop, List.length_take]; rfl)) ?_; (with_reducible refine (mewsref14_Byte.calls kj10 a0 a1 t133 _ A22.out).mono ?_); rintro e w' ⟨rfl, ⟨nd, rfl⟩⟩; refine ⟨_, rfl, ?_⟩) | (go_at_call 11; (with_reducible refine (crc_More.calls kj10 a0 a2 t134 _ A24.out).mono ?_); rintro e w' ⟨rfl, ⟨nd, rfl⟩⟩) | (go_at_call 12; (with_reducible refine (mewsref14_More.calls kj10 a0 a2 t135 _ A25.out).mono ?_); rintro e w' ⟨rfl, ⟨nd, rfl⟩⟩) | ((with_reducible refine gate_dst (N := 43) rfl ?_); (try (refine gate_guard (by rfl) ?_; dsimp only)); refine Kd.R_lit Kd.string _ 9 ?hg (N := 43) ?hd (xs := ([a2] : List ByteArray)) (inner := [.string a2]) (ok := fun _ => True) (okp := fun _ => True) ?hr ?hp (fun _ hk => hk) trivial (Below.refl _ _) (Nat.le_refl _) (by simp) ?_; (case hd => rfl); (case hg => rfl); (case hr => first | (go_simp; done) | (go_simp; rfl)); (case hp => exact (Reps.one (show Kd.M Kd.string _ _ _ a2 [.string a2] from rfl) (Reps.none _ _))); intro v137 w36 ho37 hb hg_ hnew_; clear hg_ hnew_; (first | rw [← Ny136.out] at ho37 | (simp only [Int.reduceToNat] at ho37; rw [← Ny136.out] at ho37)); have n0_ := Aside0.mk (Kd.R_lower ho37 (below_size (by repeat (first | (with_reducible first | exact HB.out | apply below_alloc | apply pw_below_drewN | apply below_drew1) | exact HB.out)))); have n1_ := Aside0.mk (below_step (by repeat (first | (with_reducible first | exact HB.out | apply below_alloc | apply pw_below_drewN | apply below_drew1) | exact HB.out)) hb); clear HB; have HO138 := n0_; have HB := n1_; clear n0_ n1_; clear hb ho37; obtain ⟨Ao38, co38, eo38⟩ := Kd.R_slice HO138.out; subst eo38) | (go_at_call 13; (with_reducible refine (crc_Of.calls kj10 _ _ y136 t139 _ ?side1 ?side2 A27.out).mono ?_); (case side1 => repeat (first | exact (Kd.R_reads' HO138.out).2.2 | (with_reducible refine Kd.C_alloc ?_ _) | (with_reducible refine Kd.C_drewN ?_ _) | (with_reducible refine Kd.C_drew ?_))); (case side2 => exact (Kd.R_reads' HO138.out).2.1); rintro e w' ⟨rfl, ⟨nd, rfl⟩⟩) | (go_at_call 14; (with_reducible refine (mewsref14_Of.calls kj10 a2 t140 _ A28.out).mono ?_); rintro e w' ⟨rfl, ⟨nd, rfl⟩⟩) | (go_at_call 15; (with_reducible refine (crc_Seal.calls kj10 a2 t141 _ A30.out).mono ?_); rintro e w39 ⟨rfl, hb⟩; have n0_ := Aside0.mk (Kd.R_below (by (with_reducible repeat (first | apply Kd.R_alloc | apply Kd.R_drewN | apply Kd.R_drew)); exact HO138.out) hb); have n1_ := Aside0.mk (below_step (by repeat (first | (with_reducible first | exact HB.out | apply below_alloc | apply pw_below_drewN | apply below_drew1) | exact HB.out)) hb); clear HO138; clear HB; have HO138 := n0_; have HB := n1_; clear n0_ n1_; (try clear hb); (try clear hb2); (try clear hk); (try clear hi)) | (go_at_call 8; (with_reducible refine (mewsref14_Seal.calls kj10 a2 t142 _ A31.out).mono ?_); rintro e w40 ⟨rfl, hb⟩; have n0_ := Aside0.mk (Kd.R_below (by (with_reducible repeat (first | apply Kd.R_alloc | apply Kd.R_drewN | apply Kd.R_drew)); exact HO138.out) hb); have n1_ := Aside0.mk (below_step (by repeat (first | (with_reducible first | exact HB.out | apply below_alloc | apply pw_below_drewN | apply below_drew1) | exact HB.out)) hb); clear HO138; clear HB; have HO138 := n0_; have HB := n1_; clear n0_ n1_; (try clear hb); (try clear hb2); (try clear hk); (try clear hi)) | (go_at_call 16; (with_reducible refine (crc_Fits.calls kj10 a2 t143 _ A33.out).mono ?_); rintro e w41 ⟨rfl, hb⟩; have n0_ := Aside0.mk (Kd.R_below (by (with_reducible repeat (first | apply Kd.R_alloc | apply Kd.R_drewN | apply Kd.R_drew)); exact HO138.out) hb); have n1_ := Aside0.mk (below_step (by repeat (first | (with_reducible first | exact HB.out | apply below_alloc | apply pw_below_drewN | apply below_drew1) | exact HB.out)) hb); clear HO138; clear HB; have HO138 := n0_; have HB := n1_; clear n0_ n1_; (try clear hb); (try clear hb2); (try clear hk); (try clear hi)) | (go_at_call 7; (with_reducible refine (mewslaw14_alive.calls kj10  t144 _ A35.out).mono ?_); rintro e w42 ⟨rfl, hb⟩; have n0_ := Aside0.mk (Kd.R_below (by (with_reducible repeat (first | apply Kd.R_alloc | apply Kd.R_drewN | apply Kd.R_drew)); exact HO138.out) hb); have n1_ := Aside0.mk (below_step (by repeat (first | (with_reducible first | exact HB.out | apply below_alloc | apply pw_below_drewN | apply below_drew1) | exact HB.out)) hb); clear HO138; clear HB; have HO138 := n0_; have HB := n1_; clear n0_ n1_; (try clear hb); (try clear hb2); (try clear hk); (try clear hi)))
                  go_ret
                  exact ⟨by first | rfl | (simp [errW_none, errW_some] <;> rfl) | (simp [*, errW_none, errW_some] <;> rfl), by repeat (first | (with_reducible first | exact HB.out | apply below_alloc | apply pw_below_drewN | apply below_drew1) | exact HB.out)⟩
                · rw [if_neg c34] at H
                  have c34b0 : (t143 == x7_10) = false := by simpa using c34
                  (try (have c34b1 : decide (t143 = x7_10) = false := by simpa using c34))
                  (try (have c34b2 : (t143 == x7_10) = false := by simpa using c34))
                  (try (have c34b3 : ¬ (t143 = x7_10) := by simpa using c34))
                  clear c34
                  exact absurd ((Option.some.inj H).trans hr_.out) (by decide)
              · rw [if_neg c32] at H
                have c32b0 : (t141.toList == t142.toList) = false := beq_eq_false_iff_ne.mpr c32
                have c32b1 : (t141.toList != t142.toList) = true := bne_iff_ne.mpr c32
                exact absurd ((Option.some.inj H).trans hr_.out) (by decide)
            · rw [if_neg c29] at H
              have c29b0 : (t139 == t140) = false := beq_eq_false_iff_ne.mpr c29
              have c29b1 : (t139 != t140) = true := bne_iff_ne.mpr c29
              exact absurd ((Option.some.inj H).trans hr_.out) (by decide)
          · rw [if_neg c26] at H
            have c26b0 : (t134 == t135) = false := beq_eq_false_iff_ne.mpr c26
            have c26b1 : (t134 != t135) = true := bne_iff_ne.mpr c26
            exact absurd ((Option.some.inj H).trans hr_.out) (by decide)
        · rw [if_neg c23] at H
          have c23b0 : (t132 == t133) = false := beq_eq_false_iff_ne.mpr c23
          have c23b1 : (t132 != t133) = true := bne_iff_ne.mpr c23
          exact absurd ((Option.some.inj H).trans hr_.out) (by decide)

end Go.Proofs.Ytdjmpdflfbimeaa.X
