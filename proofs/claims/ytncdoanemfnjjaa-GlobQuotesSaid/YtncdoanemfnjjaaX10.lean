-- Written by wip/tool/xprint.py of this work (a front end of its own to the kit's printer): the functions of the seat Ytncdoanemfnjjaa as plain Lean functions, and what the Go code's calls come to. Lean checks it.
import Derived.Test.YtncdoanemfnjjaaX0
import Derived.Test.YtncdoanemfnjjaaX1
import Derived.Test.YtncdoanemfnjjaaX4
import Derived.Test.YtncdoanemfnjjaaX6
import Derived.Test.YtncdoanemfnjjaaX7
namespace Go.Proofs.Ytncdoanemfnjjaa.X
open Go.RowKit Go.Proofs.YtncdoanemfnjjaaW.PrintWords Go.Proofs.YtncdoanemfnjjaaW.PrintLast Go.Proofs.YtncdoanemfnjjaaW.PrintMore
attribute [local go_sem] max2_int min2_int max_two min_two max_three min_three max_four min_four   -- for this text's walks alone
set_option linter.unusedVariables false
set_option linter.unusedSimpArgs false

/-! ### mewslaw02_GlobAlone: function 4 -/
def mewslaw02_GlobAlone.j0 : Nat → ByteArray → ByteArray → Bool → Option (Bool)
  | 0, _, _, _ => none
  | k + 1, x0, x1, x43 => if x43 = true then (some false) else ((glob_Plain.f k x1).bind fun bt154 => (if bt154.2 = true then ((glob_Match.f k x1 x0).bind fun t156 => (if (t156 == (x0.toList == bt154.1.toList)) = true then ((glob_Match.f k x1 bt154.1).bind fun t157 => (if t157 = true then ((mewslaw02_alive.f k).bind fun t158 => (some t158)) else (some false))) else (some false))) else ((mewslaw02_alive.f k).bind fun t159 => (some t159))))
def mewslaw02_GlobAlone.f (k : Nat) (a0 : ByteArray) (a1 : ByteArray) : Option (Bool) := (mewslaw02_far.f k (([a0, a1] : List ByteArray))).bind fun t145 => (if t145 = true then ((mewslaw02_alive.f k).bind fun t146 => (some t146)) else ((glob_Quote.f k a0).bind fun t147 => ((glob_Plain.f k t147).bind fun bt148 => (if bt148.1.toList = a0.toList then (if bt148.2 = true then ((glob_Quote.f k a0).bind fun t150 => ((glob_Match.f k t150 a1).bind fun t151 => (if (t151 != (a0.toList == a1.toList)) = true then (mewslaw02_GlobAlone.j0 k a0 a1 true) else ((glob_Quote.f k a0).bind fun t152 => ((glob_Match.f k t152 a0).bind fun t153 => (mewslaw02_GlobAlone.j0 k a0 a1 (!t153))))))) else (mewslaw02_GlobAlone.j0 k a0 a1 true)) else (mewslaw02_GlobAlone.j0 k a0 a1 true)))))
theorem mewslaw02_GlobAlone.mono_l : ∀ k, (∀ y0 y1 y2, LeO (mewslaw02_GlobAlone.j0 k y0 y1 y2) (mewslaw02_GlobAlone.j0 (k + 1) y0 y1 y2))
  | 0 => fun _ _ _ r h => by simp [mewslaw02_GlobAlone.j0] at h
  | k + 1 => by
    have ih0 := mewslaw02_GlobAlone.mono_l k
    · intro y0 y1 y2
      unfold mewslaw02_GlobAlone.j0
      repeat' first
      | (with_reducible exact ih0 _ _ _)
      | (with_reducible exact glob_Match.mono _ _ _)
      | (with_reducible exact glob_Plain.mono _ _)
      | (with_reducible exact glob_Quote.mono _ _)
      | (with_reducible exact mewslaw02_alive.mono _)
      | (with_reducible exact mewslaw02_far.mono _ _)
      | (with_reducible exact LeO.refl _)
      | (with_reducible exact LeO.none _)
      | (with_reducible refine LeO.ite ?_ ?_)
      | (with_reducible refine LeO.bind ?_ (fun _ => ?_))
      | exact ih0 _ _ _
      | exact glob_Match.mono _ _ _
      | exact glob_Plain.mono _ _
      | exact glob_Quote.mono _ _
      | exact mewslaw02_alive.mono _
      | exact mewslaw02_far.mono _ _
      | exact LeO.none _
      | refine LeO.ite ?_ ?_
      | refine LeO.bind ?_ (fun _ => ?_)
theorem mewslaw02_GlobAlone.mono : ∀ a0 a1 k, LeO (mewslaw02_GlobAlone.f k a0 a1) (mewslaw02_GlobAlone.f (k + 1) a0 a1) := by
  intro a0 a1 k
  have ih0 := mewslaw02_GlobAlone.mono_l k
  unfold mewslaw02_GlobAlone.f
  repeat' first
      | (with_reducible exact ih0 _ _ _)
      | (with_reducible exact glob_Match.mono _ _ _)
      | (with_reducible exact glob_Plain.mono _ _)
      | (with_reducible exact glob_Quote.mono _ _)
      | (with_reducible exact mewslaw02_alive.mono _)
      | (with_reducible exact mewslaw02_far.mono _ _)
      | (with_reducible exact LeO.refl _)
      | (with_reducible exact LeO.none _)
      | (with_reducible refine LeO.ite ?_ ?_)
      | (with_reducible refine LeO.bind ?_ (fun _ => ?_))
      | exact ih0 _ _ _
      | exact glob_Match.mono _ _ _
      | exact glob_Plain.mono _ _
      | exact glob_Quote.mono _ _
      | exact mewslaw02_alive.mono _
      | exact mewslaw02_far.mono _ _
      | exact LeO.none _
      | refine LeO.ite ?_ ?_
      | refine LeO.bind ?_ (fun _ => ?_)
set_option maxHeartbeats 8000000 in
set_option maxRecDepth 100000 in
theorem mewslaw02_GlobAlone.calls (k : Nat) (a0 : ByteArray) (a1 : ByteArray) (r : Bool) (w : World) (hr_ : Aside0 (r = true)) (h : mewslaw02_GlobAlone.f k a0 a1 = some r) :
    Calls Try.prog 4 #[.string a0, .string a1] w fun e w' => e = .returned (.bool r) ∧ Below w.heap.size w w' := by
  have HB := Aside0.mk (Below.refl w.heap.size w)
  have H : ((mewslaw02_far.f k (([a0, a1] : List ByteArray))).bind fun t145 => (if t145 = true then ((mewslaw02_alive.f k).bind fun t146 => (some t146)) else ((glob_Quote.f k a0).bind fun t147 => ((glob_Plain.f k t147).bind fun bt148 => (if bt148.1.toList = a0.toList then (if bt148.2 = true then ((glob_Quote.f k a0).bind fun t150 => ((glob_Match.f k t150 a1).bind fun t151 => (if (t151 != (a0.toList == a1.toList)) = true then (mewslaw02_GlobAlone.j0 k a0 a1 true) else ((glob_Quote.f k a0).bind fun t152 => ((glob_Match.f k t152 a0).bind fun t153 => (mewslaw02_GlobAlone.j0 k a0 a1 (!t153))))))) else (mewslaw02_GlobAlone.j0 k a0 a1 true)) else (mewslaw02_GlobAlone.j0 k a0 a1 true)))))) = some r := h
  clear h
  obtain ⟨y142, hy142⟩ : ∃ y_ : List ByteArray, y_ = (([a0, a1] : List ByteArray)) := ⟨_, rfl⟩
  replace H : ((mewslaw02_far.f k y142).bind fun t145 => (if t145 = true then ((mewslaw02_alive.f k).bind fun t146 => (some t146)) else ((glob_Quote.f k a0).bind fun t147 => ((glob_Plain.f k t147).bind fun bt148 => (if bt148.1.toList = a0.toList then (if bt148.2 = true then ((glob_Quote.f k a0).bind fun t150 => ((glob_Match.f k t150 a1).bind fun t151 => (if (t151 != (a0.toList == a1.toList)) = true then (mewslaw02_GlobAlone.j0 k a0 a1 true) else ((glob_Quote.f k a0).bind fun t152 => ((glob_Match.f k t152 a0).bind fun t153 => (mewslaw02_GlobAlone.j0 k a0 a1 (!t153))))))) else (mewslaw02_GlobAlone.j0 k a0 a1 true)) else (mewslaw02_GlobAlone.j0 k a0 a1 true)))))) = some r := by first | (rw [hy142]; with_reducible exact H) | (have H2_ := (Option.bind_some _ _).symm.trans H; rw [hy142]; with_reducible exact H2_) | (have H2_ := (Option.bind_some _ _).symm.trans H; with_reducible exact H2_) | with_reducible exact H | (rw [hy142]; exact H) | exact H
  have Ny142 := Aside0.mk hy142
  clear hy142
  replace H := Option.bind_eq_some_iff.mp H
  obtain ⟨t145, A30, H⟩ := H
  replace H : (if t145 = true then ((mewslaw02_alive.f k).bind fun t146 => (some t146)) else ((glob_Quote.f k a0).bind fun t147 => ((glob_Plain.f k t147).bind fun bt148 => (if bt148.1.toList = a0.toList then (if bt148.2 = true then ((glob_Quote.f k a0).bind fun t150 => ((glob_Match.f k t150 a1).bind fun t151 => (if (t151 != (a0.toList == a1.toList)) = true then (mewslaw02_GlobAlone.j0 k a0 a1 true) else ((glob_Quote.f k a0).bind fun t152 => ((glob_Match.f k t152 a0).bind fun t153 => (mewslaw02_GlobAlone.j0 k a0 a1 (!t153))))))) else (mewslaw02_GlobAlone.j0 k a0 a1 true)) else (mewslaw02_GlobAlone.j0 k a0 a1 true))))) = some r := H
  have A3 := Aside0.mk A30
  clear A30
  by_cases c4 : t145 = true
  · subst c4
    have H1 : ((mewslaw02_alive.f k).bind fun t146 => (some t146)) = some r := by rw [if_pos rfl] at H; exact H
    clear H
    have H := H1
    clear H1
    replace H := Option.bind_eq_some_iff.mp H
    obtain ⟨t146, A50, H⟩ := H
    replace H : (some t146) = some r := H
    have A5 := Aside0.mk A50
    clear A50
    obtain rfl := Option.some.inj H
    go_enter Try.func4, Try.ntmps4
    go_wp2_with (first | ((with_reducible refine gate_dst (N := 11) rfl ?_); refine Kd.R_lit Kd.string _ 9 ?hg (N := 11) ?hd (xs := ([a0, a1] : List ByteArray)) (inner := [.string a0, .string a1]) (ok := fun _ => True) (okp := fun _ => True) ?hr ?hp (fun _ hk => hk) trivial (Below.refl _ _) (Nat.le_refl _) (by simp) ?_; (case hd => rfl); (case hg => rfl); (case hr => first | (go_simp; done) | (go_simp; rfl)); (case hp => exact (Reps.one (show Kd.M Kd.string _ _ _ a0 [.string a0] from rfl) (Reps.one (show Kd.M Kd.string _ _ _ a1 [.string a1] from rfl) (Reps.none _ _)))); intro v143 w6 ho7 hb hg_ hnew_; clear hg_ hnew_; (first | rw [← Ny142.out] at ho7 | (simp only [Int.reduceToNat] at ho7; rw [← Ny142.out] at ho7)); have n0_ := Aside0.mk (Kd.R_lower ho7 (below_size (by repeat (first | (with_reducible first | exact HB.out | apply below_alloc | apply pw_below_drewN | apply below_drew1) | exact HB.out)))); have n1_ := Aside0.mk (below_step (by repeat (first | (with_reducible first | exact HB.out | apply below_alloc | apply pw_below_drewN | apply below_drew1) | exact HB.out)) hb); clear HB; have HO144 := n0_; have HB := n1_; clear n0_ n1_; clear hb ho7; obtain ⟨Ao8, co8, eo8⟩ := Kd.R_slice HO144.out; subst eo8) | ((with_reducible refine gate_callee (f := 7) rfl ?_); refine goesL_ (some 12) rfl rfl Try.func7 (by kernel_rfl) rfl #[.slice Ao8 y142.length co8] rfl (by (try simp only [List.map_toArray, List.map_cons, List.map_nil]); first | done | rfl | (simp only [List.length_drop, List.length_take]; rfl)) ?_; (with_reducible refine (mewslaw02_far.calls k _ _ y142 true _ ?side1 ?side2 A3.out).mono ?_); (case side1 => repeat (first | exact (Kd.R_reads' HO144.out).2.2 | (with_reducible refine Kd.C_alloc ?_ _) | (with_reducible refine Kd.C_drewN ?_ _) | (with_reducible refine Kd.C_drew ?_))); (case side2 => exact (Kd.R_reads' HO144.out).2.1); rintro e w' ⟨rfl, ⟨nd, rfl⟩⟩; refine ⟨_, rfl, ?_⟩) | ((with_reducible refine gate_callee (f := 8) rfl ?_); refine goesL_ (some 13) rfl rfl Try.func8 (by kernel_rfl) rfl #[] rfl (by (try simp only [List.map_toArray, List.map_cons, List.map_nil]); first | done | rfl | (simp only [List.length_drop, List.length_take]; rfl)) ?_; (with_reducible refine (mewslaw02_alive.calls k  t146 _ A5.out).mono ?_); rintro e w9 ⟨rfl, hb⟩; refine ⟨_, rfl, ?_⟩; have n0_ := Aside0.mk (Kd.R_below (by (with_reducible repeat (first | apply Kd.R_alloc | apply Kd.R_drewN | apply Kd.R_drew)); exact HO144.out) hb); have n1_ := Aside0.mk (below_step (by repeat (first | (with_reducible first | exact HB.out | apply below_alloc | apply pw_below_drewN | apply below_drew1) | exact HB.out)) hb); clear HO144; clear HB; have HO144 := n0_; have HB := n1_; clear n0_ n1_; (try clear hb); (try clear hb2); (try clear hk); (try clear hi)))
    go_ret
    exact ⟨by first | rfl | (simp [errW_none, errW_some] <;> rfl) | (simp [*, errW_none, errW_some] <;> rfl), by repeat (first | (with_reducible first | exact HB.out | apply below_alloc | apply pw_below_drewN | apply below_drew1) | exact HB.out)⟩
  · replace c4 := Bool.eq_false_iff.mpr c4
    subst c4
    have H1 : ((glob_Quote.f k a0).bind fun t147 => ((glob_Plain.f k t147).bind fun bt148 => (if bt148.1.toList = a0.toList then (if bt148.2 = true then ((glob_Quote.f k a0).bind fun t150 => ((glob_Match.f k t150 a1).bind fun t151 => (if (t151 != (a0.toList == a1.toList)) = true then (mewslaw02_GlobAlone.j0 k a0 a1 true) else ((glob_Quote.f k a0).bind fun t152 => ((glob_Match.f k t152 a0).bind fun t153 => (mewslaw02_GlobAlone.j0 k a0 a1 (!t153))))))) else (mewslaw02_GlobAlone.j0 k a0 a1 true)) else (mewslaw02_GlobAlone.j0 k a0 a1 true)))) = some r := by rw [if_neg (show ¬ (false = true) by decide)] at H; exact H
    clear H
    have H := H1
    clear H1
    replace H := Option.bind_eq_some_iff.mp H
    obtain ⟨t147, A100, H⟩ := H
    replace H : ((glob_Plain.f k t147).bind fun bt148 => (if bt148.1.toList = a0.toList then (if bt148.2 = true then ((glob_Quote.f k a0).bind fun t150 => ((glob_Match.f k t150 a1).bind fun t151 => (if (t151 != (a0.toList == a1.toList)) = true then (mewslaw02_GlobAlone.j0 k a0 a1 true) else ((glob_Quote.f k a0).bind fun t152 => ((glob_Match.f k t152 a0).bind fun t153 => (mewslaw02_GlobAlone.j0 k a0 a1 (!t153))))))) else (mewslaw02_GlobAlone.j0 k a0 a1 true)) else (mewslaw02_GlobAlone.j0 k a0 a1 true))) = some r := H
    have A10 := Aside0.mk A100
    clear A100
    replace H := Option.bind_eq_some_iff.mp H
    obtain ⟨⟨t148, t149⟩, A110, H⟩ := H
    replace H : (if t148.toList = a0.toList then (if t149 = true then ((glob_Quote.f k a0).bind fun t150 => ((glob_Match.f k t150 a1).bind fun t151 => (if (t151 != (a0.toList == a1.toList)) = true then (mewslaw02_GlobAlone.j0 k a0 a1 true) else ((glob_Quote.f k a0).bind fun t152 => ((glob_Match.f k t152 a0).bind fun t153 => (mewslaw02_GlobAlone.j0 k a0 a1 (!t153))))))) else (mewslaw02_GlobAlone.j0 k a0 a1 true)) else (mewslaw02_GlobAlone.j0 k a0 a1 true)) = some r := H
    have A11 := Aside0.mk A110
    clear A110
    have HC12 := Aside0.mk H
    clear H
    go_enter Try.func4, Try.ntmps4
    go_upto_region 4 with (first | ((with_reducible refine gate_dst (N := 11) rfl ?_); refine Kd.R_lit Kd.string _ 9 ?hg (N := 11) ?hd (xs := ([a0, a1] : List ByteArray)) (inner := [.string a0, .string a1]) (ok := fun _ => True) (okp := fun _ => True) ?hr ?hp (fun _ hk => hk) trivial (Below.refl _ _) (Nat.le_refl _) (by simp) ?_; (case hd => rfl); (case hg => rfl); (case hr => first | (go_simp; done) | (go_simp; rfl)); (case hp => exact (Reps.one (show Kd.M Kd.string _ _ _ a0 [.string a0] from rfl) (Reps.one (show Kd.M Kd.string _ _ _ a1 [.string a1] from rfl) (Reps.none _ _)))); intro v143 w13 ho14 hb hg_ hnew_; clear hg_ hnew_; (first | rw [← Ny142.out] at ho14 | (simp only [Int.reduceToNat] at ho14; rw [← Ny142.out] at ho14)); have n0_ := Aside0.mk (Kd.R_lower ho14 (below_size (by repeat (first | (with_reducible first | exact HB.out | apply below_alloc | apply pw_below_drewN | apply below_drew1) | exact HB.out)))); have n1_ := Aside0.mk (below_step (by repeat (first | (with_reducible first | exact HB.out | apply below_alloc | apply pw_below_drewN | apply below_drew1) | exact HB.out)) hb); clear HB; have HO144 := n0_; have HB := n1_; clear n0_ n1_; clear hb ho14; obtain ⟨Ao15, co15, eo15⟩ := Kd.R_slice HO144.out; subst eo15) | ((with_reducible refine gate_callee (f := 7) rfl ?_); refine goesL_ (some 12) rfl rfl Try.func7 (by kernel_rfl) rfl #[.slice Ao15 y142.length co15] rfl (by (try simp only [List.map_toArray, List.map_cons, List.map_nil]); first | done | rfl | (simp only [List.length_drop, List.length_take]; rfl)) ?_; (with_reducible refine (mewslaw02_far.calls k _ _ y142 false _ ?side1 ?side2 A3.out).mono ?_); (case side1 => repeat (first | exact (Kd.R_reads' HO144.out).2.2 | (with_reducible refine Kd.C_alloc ?_ _) | (with_reducible refine Kd.C_drewN ?_ _) | (with_reducible refine Kd.C_drew ?_))); (case side2 => exact (Kd.R_reads' HO144.out).2.1); rintro e w' ⟨rfl, ⟨nd, rfl⟩⟩; refine ⟨_, rfl, ?_⟩) | ((with_reducible refine gate_callee (f := 12) rfl ?_); refine goesL_ (some 16) rfl rfl Try.func12 (by kernel_rfl) rfl #[.string a0] rfl (by (try simp only [List.map_toArray, List.map_cons, List.map_nil]); first | done | rfl | (simp only [List.length_drop, List.length_take]; rfl)) ?_; (with_reducible refine (glob_Quote.calls k a0 t147 _ A10.out).mono ?_); rintro e w16 ⟨rfl, hb⟩; refine ⟨_, rfl, ?_⟩; have n0_ := Aside0.mk (Kd.R_below (by (with_reducible repeat (first | apply Kd.R_alloc | apply Kd.R_drewN | apply Kd.R_drew)); exact HO144.out) hb); have n1_ := Aside0.mk (below_step (by repeat (first | (with_reducible first | exact HB.out | apply below_alloc | apply pw_below_drewN | apply below_drew1) | exact HB.out)) hb); clear HO144; clear HB; have HO144 := n0_; have HB := n1_; clear n0_ n1_; (try clear hb); (try clear hb2); (try clear hk); (try clear hi)) | ((with_reducible refine gate_callee (f := 11) rfl ?_); refine goesL_ (some 17) rfl rfl Try.func11 (by kernel_rfl) rfl #[.string t147] rfl (by (try simp only [List.map_toArray, List.map_cons, List.map_nil]); first | done | rfl | (simp only [List.length_drop, List.length_take]; rfl)) ?_; (with_reducible refine (glob_Plain.calls k t147 t148 t149 _ A11.out).mono ?_); rintro e w17 ⟨rfl, hb⟩; refine ⟨_, rfl, ?_⟩; have n0_ := Aside0.mk (Kd.R_below (by (with_reducible repeat (first | apply Kd.R_alloc | apply Kd.R_drewN | apply Kd.R_drew)); exact HO144.out) hb); have n1_ := Aside0.mk (below_step (by repeat (first | (with_reducible first | exact HB.out | apply below_alloc | apply pw_below_drewN | apply below_drew1) | exact HB.out)) hb); clear HO144; clear HB; have HO144 := n0_; have HB := n1_; clear n0_ n1_; (try clear hb); (try clear hb2); (try clear hk); (try clear hi)))
    (try simp only [Act.put, List.setIfInBounds_toArray, List.set_cons_zero, List.set_cons_succ])
    go_cut [43] (fun v43 wc => ∃ (kq : Nat) (x43_11 : Bool), v43 = .bool x43_11 ∧ Aside0 (mewslaw02_GlobAlone.j0 kq a0 a1 x43_11 = some r) ∧ Aside0 (kq ≤ k) ∧ Aside0 (Below w.heap.size w wc))
    case first =>
      have H := HC12.out
      clear HC12
      by_cases c18 : t148.toList = a0.toList
      · rw [if_pos c18] at H
        have c18b0 : (t148.toList == a0.toList) = true := beq_iff_eq.mpr c18
        have c18b1 : (t148.toList != a0.toList) = false := bne_eq_false_iff_eq.mpr c18
        clear c18
        (first | rw [c18b0] | (simp only [i64_w, i32_w]; rw [c18b0]) | skip)
        by_cases c19 : t149 = true
        · subst c19
          have H1 : ((glob_Quote.f k a0).bind fun t150 => ((glob_Match.f k t150 a1).bind fun t151 => (if (t151 != (a0.toList == a1.toList)) = true then (mewslaw02_GlobAlone.j0 k a0 a1 true) else ((glob_Quote.f k a0).bind fun t152 => ((glob_Match.f k t152 a0).bind fun t153 => (mewslaw02_GlobAlone.j0 k a0 a1 (!t153))))))) = some r := by rw [if_pos rfl] at H; exact H
          clear H
          have H := H1
          clear H1
          replace H := Option.bind_eq_some_iff.mp H
          obtain ⟨t150, A200, H⟩ := H
          replace H : ((glob_Match.f k t150 a1).bind fun t151 => (if (t151 != (a0.toList == a1.toList)) = true then (mewslaw02_GlobAlone.j0 k a0 a1 true) else ((glob_Quote.f k a0).bind fun t152 => ((glob_Match.f k t152 a0).bind fun t153 => (mewslaw02_GlobAlone.j0 k a0 a1 (!t153)))))) = some r := H
          have A20 := Aside0.mk A200
          clear A200
          obtain rfl : t147 = t150 := Option.some.inj (A10.out.symm.trans A20.out)
          replace H := Option.bind_eq_some_iff.mp H
          obtain ⟨t151, A210, H⟩ := H
          replace H : (if (t151 != (a0.toList == a1.toList)) = true then (mewslaw02_GlobAlone.j0 k a0 a1 true) else ((glob_Quote.f k a0).bind fun t152 => ((glob_Match.f k t152 a0).bind fun t153 => (mewslaw02_GlobAlone.j0 k a0 a1 (!t153))))) = some r := H
          have A21 := Aside0.mk A210
          clear A210
          by_cases c22 : (t151 != (a0.toList == a1.toList)) = true
          · rw [if_pos c22] at H
            have c22b0 : (t151 != (a0.toList == a1.toList)) = true := c22
            (try (have c22b1 : decide (t151 = (a0.toList == a1.toList)) = false := by simpa using c22))
            (try (have c22b2 : (t151 == (a0.toList == a1.toList)) = false := by simpa using c22))
            (try (have c22b3 : ¬ (t151 = (a0.toList == a1.toList)) := by simpa using c22))
            clear c22
            have H' := Aside0.mk H
            clear H
            go_wp2_with (first | (go_at_call 12; (with_reducible refine (glob_Quote.calls k a0 t147 _ A20.out).mono ?_); rintro e w23 ⟨rfl, hb⟩; have n0_ := Aside0.mk (Kd.R_below (by (with_reducible repeat (first | apply Kd.R_alloc | apply Kd.R_drewN | apply Kd.R_drew)); exact HO144.out) hb); have n1_ := Aside0.mk (below_step (by repeat (first | (with_reducible first | exact HB.out | apply below_alloc | apply pw_below_drewN | apply below_drew1) | exact HB.out)) hb); clear HO144; clear HB; have HO144 := n0_; have HB := n1_; clear n0_ n1_; (try clear hb); (try clear hb2); (try clear hk); (try clear hi)) | (go_at_call 9; (with_reducible refine (glob_Match.calls k t147 a1 t151 _ A21.out).mono ?_); rintro e w24 ⟨rfl, hb⟩; have n0_ := Aside0.mk (Kd.R_below (by (with_reducible repeat (first | apply Kd.R_alloc | apply Kd.R_drewN | apply Kd.R_drew)); exact HO144.out) hb); have n1_ := Aside0.mk (below_step (by repeat (first | (with_reducible first | exact HB.out | apply below_alloc | apply pw_below_drewN | apply below_drew1) | exact HB.out)) hb); clear HO144; clear HB; have HO144 := n0_; have HB := n1_; clear n0_ n1_; (try clear hb); (try clear hb2); (try clear hk); (try clear hi)))
            go_meet
            case rel => exact ⟨_, (true), (by first | rfl | (simp; done) | (simp [*]; done)), H', ⟨by first | omega | exact Nat.le_refl _⟩, ⟨by repeat (first | (with_reducible first | exact HB.out | apply below_alloc | apply pw_below_drewN | apply below_drew1) | exact HB.out)⟩⟩
          · rw [if_neg c22] at H
            have c22b0 : (t151 != (a0.toList == a1.toList)) = false := by simpa using c22
            (try (have c22b1 : decide (t151 = (a0.toList == a1.toList)) = true := by simpa using c22))
            (try (have c22b2 : (t151 == (a0.toList == a1.toList)) = true := by simpa using c22))
            clear c22
            replace H := Option.bind_eq_some_iff.mp H
            obtain ⟨t152, A250, H⟩ := H
            replace H : ((glob_Match.f k t152 a0).bind fun t153 => (mewslaw02_GlobAlone.j0 k a0 a1 (!t153))) = some r := H
            have A25 := Aside0.mk A250
            clear A250
            obtain rfl : t147 = t152 := Option.some.inj (A10.out.symm.trans A25.out)
            replace H := Option.bind_eq_some_iff.mp H
            obtain ⟨t153, A260, H⟩ := H
            replace H : (mewslaw02_GlobAlone.j0 k a0 a1 (!t153)) = some r := H
            have A26 := Aside0.mk A260
            clear A260
            have H' := Aside0.mk H
            clear H
            go_wp2_with (first | (go_at_call 12; (with_reducible refine (glob_Quote.calls k a0 t147 _ A20.out).mono ?_); rintro e w27 ⟨rfl, hb⟩; have n0_ := Aside0.mk (Kd.R_below (by (with_reducible repeat (first | apply Kd.R_alloc | apply Kd.R_drewN | apply Kd.R_drew)); exact HO144.out) hb); have n1_ := Aside0.mk (below_step (by repeat (first | (with_reducible first | exact HB.out | apply below_alloc | apply pw_below_drewN | apply below_drew1) | exact HB.out)) hb); clear HO144; clear HB; have HO144 := n0_; have HB := n1_; clear n0_ n1_; (try clear hb); (try clear hb2); (try clear hk); (try clear hi)) | (go_at_call 9; (with_reducible refine (glob_Match.calls k t147 a1 t151 _ A21.out).mono ?_); rintro e w28 ⟨rfl, hb⟩; have n0_ := Aside0.mk (Kd.R_below (by (with_reducible repeat (first | apply Kd.R_alloc | apply Kd.R_drewN | apply Kd.R_drew)); exact HO144.out) hb); have n1_ := Aside0.mk (below_step (by repeat (first | (with_reducible first | exact HB.out | apply below_alloc | apply pw_below_drewN | apply below_drew1) | exact HB.out)) hb); clear HO144; clear HB; have HO144 := n0_; have HB := n1_; clear n0_ n1_; (try clear hb); (try clear hb2); (try clear hk); (try clear hi)) | (go_at_call 12; (with_reducible refine (glob_Quote.calls k a0 t147 _ A25.out).mono ?_); rintro e w29 ⟨rfl, hb⟩; have n0_ := Aside0.mk (Kd.R_below (by (with_reducible repeat (first | apply Kd.R_alloc | apply Kd.R_drewN | apply Kd.R_drew)); exact HO144.out) hb); have n1_ := Aside0.mk (below_step (by repeat (first | (with_reducible first | exact HB.out | apply below_alloc | apply pw_below_drewN | apply below_drew1) | exact HB.out)) hb); clear HO144; clear HB; have HO144 := n0_; have HB := n1_; clear n0_ n1_; (try clear hb); (try clear hb2); (try clear hk); (try clear hi)) | (go_at_call 9; (with_reducible refine (glob_Match.calls k t147 a0 t153 _ A26.out).mono ?_); rintro e w30 ⟨rfl, hb⟩; have n0_ := Aside0.mk (Kd.R_below (by (with_reducible repeat (first | apply Kd.R_alloc | apply Kd.R_drewN | apply Kd.R_drew)); exact HO144.out) hb); have n1_ := Aside0.mk (below_step (by repeat (first | (with_reducible first | exact HB.out | apply below_alloc | apply pw_below_drewN | apply below_drew1) | exact HB.out)) hb); clear HO144; clear HB; have HO144 := n0_; have HB := n1_; clear n0_ n1_; (try clear hb); (try clear hb2); (try clear hk); (try clear hi)))
            go_meet
            case rel => exact ⟨_, (!t153), (by first | rfl | (simp; done) | (simp [*]; done)), H', ⟨by first | omega | exact Nat.le_refl _⟩, ⟨by repeat (first | (with_reducible first | exact HB.out | apply below_alloc | apply pw_below_drewN | apply below_drew1) | exact HB.out)⟩⟩
        · replace c19 := Bool.eq_false_iff.mpr c19
          subst c19
          have H1 : (mewslaw02_GlobAlone.j0 k a0 a1 true) = some r := by rw [if_neg (show ¬ (false = true) by decide)] at H; exact H
          clear H
          have H := H1
          clear H1
          have H' := Aside0.mk H
          clear H
          go_wp2
          go_meet
          case rel => exact ⟨_, (true), (by first | rfl | (simp; done) | (simp [*]; done)), H', ⟨by first | omega | exact Nat.le_refl _⟩, ⟨by repeat (first | (with_reducible first | exact HB.out | apply below_alloc | apply pw_below_drewN | apply below_drew1) | exact HB.out)⟩⟩
      · rw [if_neg c18] at H
        have c18b0 : (t148.toList == a0.toList) = false := beq_eq_false_iff_ne.mpr c18
        have c18b1 : (t148.toList != a0.toList) = true := bne_iff_ne.mpr c18
        (first | rw [c18b0] | (simp only [i64_w, i32_w]; rw [c18b0]) | skip)
        have H' := Aside0.mk H
        clear H
        go_wp2
        go_meet
        case rel => exact ⟨_, (true), (by first | rfl | (simp; done) | (simp [*]; done)), H', ⟨by first | omega | exact Nat.le_refl _⟩, ⟨by repeat (first | (with_reducible first | exact HB.out | apply below_alloc | apply pw_below_drewN | apply below_drew1) | exact HB.out)⟩⟩
    case rest =>
      clear HC12
      try clear c1
      try clear c2
      try clear p2
      try clear c4
      try clear c7
      try clear c8
      try clear c11
      try clear c12
      try clear c18
      try clear c18b0
      try clear c18b1
      try clear c19
      try clear c22
      try clear c22b0
      try clear c22b1
      try clear c22b2
      obtain ⟨kq, x43_11, rfl, HA, HJ11, HB⟩ := hcut
      cases kq with
      | zero => exact absurd HA.out (by simp [mewslaw02_GlobAlone.j0])
      | succ kj11 =>
        have H := HA.out
        clear HA
        simp only [mewslaw02_GlobAlone.j0] at H
        by_cases c31 : x43_11 = true
        · subst c31
          have H1 : (some false) = some r := by rw [if_pos rfl] at H; exact H
          clear H
          have H := H1
          clear H1
          exact absurd ((Option.some.inj H).trans hr_.out) (by decide)
        · replace c31 := Bool.eq_false_iff.mpr c31
          subst c31
          have H1 : ((glob_Plain.f kj11 a1).bind fun bt154 => (if bt154.2 = true then ((glob_Match.f kj11 a1 a0).bind fun t156 => (if (t156 == (a0.toList == bt154.1.toList)) = true then ((glob_Match.f kj11 a1 bt154.1).bind fun t157 => (if t157 = true then ((mewslaw02_alive.f kj11).bind fun t158 => (some t158)) else (some false))) else (some false))) else ((mewslaw02_alive.f kj11).bind fun t159 => (some t159)))) = some r := by rw [if_neg (show ¬ (false = true) by decide)] at H; exact H
          clear H
          have H := H1
          clear H1
          replace H := Option.bind_eq_some_iff.mp H
          obtain ⟨⟨t154, t155⟩, A320, H⟩ := H
          replace H : (if t155 = true then ((glob_Match.f kj11 a1 a0).bind fun t156 => (if (t156 == (a0.toList == t154.toList)) = true then ((glob_Match.f kj11 a1 t154).bind fun t157 => (if t157 = true then ((mewslaw02_alive.f kj11).bind fun t158 => (some t158)) else (some false))) else (some false))) else ((mewslaw02_alive.f kj11).bind fun t159 => (some t159))) = some r := H
          have A32 := Aside0.mk A320
          clear A320
          by_cases c33 : t155 = true
          · subst c33
            have H1 : ((glob_Match.f kj11 a1 a0).bind fun t156 => (if (t156 == (a0.toList == t154.toList)) = true then ((glob_Match.f kj11 a1 t154).bind fun t157 => (if t157 = true then ((mewslaw02_alive.f kj11).bind fun t158 => (some t158)) else (some false))) else (some false))) = some r := by rw [if_pos rfl] at H; exact H
            clear H
            have H := H1
            clear H1
            replace H := Option.bind_eq_some_iff.mp H
            obtain ⟨t156, A340, H⟩ := H
            replace H : (if (t156 == (a0.toList == t154.toList)) = true then ((glob_Match.f kj11 a1 t154).bind fun t157 => (if t157 = true then ((mewslaw02_alive.f kj11).bind fun t158 => (some t158)) else (some false))) else (some false)) = some r := H
            have A34 := Aside0.mk A340
            clear A340
            by_cases c35 : (t156 == (a0.toList == t154.toList)) = true
            · rw [if_pos c35] at H
              have c35b0 : (t156 == (a0.toList == t154.toList)) = true := c35
              (try (have c35b1 : decide (t156 = (a0.toList == t154.toList)) = true := by simpa using c35))
              (try (have c35b2 : (t156 == (a0.toList == t154.toList)) = true := by simpa using c35))
              clear c35
              replace H := Option.bind_eq_some_iff.mp H
              obtain ⟨t157, A360, H⟩ := H
              replace H : (if t157 = true then ((mewslaw02_alive.f kj11).bind fun t158 => (some t158)) else (some false)) = some r := H
              have A36 := Aside0.mk A360
              clear A360
              by_cases c37 : t157 = true
              · subst c37
                have H1 : ((mewslaw02_alive.f kj11).bind fun t158 => (some t158)) = some r := by rw [if_pos rfl] at H; exact H
                clear H
                have H := H1
                clear H1
                replace H := Option.bind_eq_some_iff.mp H
                obtain ⟨t158, A380, H⟩ := H
                replace H : (some t158) = some r := H
                have A38 := Aside0.mk A380
                clear A380
                obtain rfl := Option.some.inj H
                go_wp2_with (first | ((with_reducible refine gate_callee (f := 11) rfl ?_); refine goesL_ (some 46) rfl rfl Try.func11 (by kernel_rfl) rfl #[.string a1] rfl (by (try simp only [List.map_toArray, List.map_cons, List.map_nil]); first | done | rfl | (simp only [List.length_drop, List.length_take]; rfl)) ?_; (with_reducible refine (glob_Plain.calls kj11 a1 t154 true _ A32.out).mono ?_); rintro e w39 ⟨rfl, hb⟩; refine ⟨_, rfl, ?_⟩; have n0_ := Aside0.mk (below_step (by repeat (first | (with_reducible first | exact HB.out | apply below_alloc | apply pw_below_drewN | apply below_drew1) | exact HB.out)) hb); clear HB; have HB := n0_; clear n0_; (try clear hb); (try clear hb2); (try clear hk); (try clear hi)) | (go_at_call 9; (with_reducible refine (glob_Match.calls kj11 a1 a0 t156 _ A34.out).mono ?_); rintro e w40 ⟨rfl, hb⟩; have n0_ := Aside0.mk (below_step (by repeat (first | (with_reducible first | exact HB.out | apply below_alloc | apply pw_below_drewN | apply below_drew1) | exact HB.out)) hb); clear HB; have HB := n0_; clear n0_; (try clear hb); (try clear hb2); (try clear hk); (try clear hi)) | (go_at_call 9; (with_reducible refine (glob_Match.calls kj11 a1 t154 true _ A36.out).mono ?_); rintro e w41 ⟨rfl, hb⟩; have n0_ := Aside0.mk (below_step (by repeat (first | (with_reducible first | exact HB.out | apply below_alloc | apply pw_below_drewN | apply below_drew1) | exact HB.out)) hb); clear HB; have HB := n0_; clear n0_; (try clear hb); (try clear hb2); (try clear hk); (try clear hi)) | (go_at_call 8; (with_reducible refine (mewslaw02_alive.calls kj11  t158 _ A38.out).mono ?_); rintro e w42 ⟨rfl, hb⟩; have n0_ := Aside0.mk (below_step (by repeat (first | (with_reducible first | exact HB.out | apply below_alloc | apply pw_below_drewN | apply below_drew1) | exact HB.out)) hb); clear HB; have HB := n0_; clear n0_; (try clear hb); (try clear hb2); (try clear hk); (try clear hi)))
                go_ret
                exact ⟨by first | rfl | (simp [errW_none, errW_some] <;> rfl) | (simp [*, errW_none, errW_some] <;> rfl), by repeat (first | (with_reducible first | exact HB.out | apply below_alloc | apply pw_below_drewN | apply below_drew1) | exact HB.out)⟩
              · replace c37 := Bool.eq_false_iff.mpr c37
                subst c37
                have H1 : (some false) = some r := by rw [if_neg (show ¬ (false = true) by decide)] at H; exact H
                clear H
                have H := H1
                clear H1
                exact absurd ((Option.some.inj H).trans hr_.out) (by decide)
            · rw [if_neg c35] at H
              have c35b0 : (t156 == (a0.toList == t154.toList)) = false := by simpa using c35
              (try (have c35b1 : decide (t156 = (a0.toList == t154.toList)) = false := by simpa using c35))
              (try (have c35b2 : (t156 == (a0.toList == t154.toList)) = false := by simpa using c35))
              (try (have c35b3 : ¬ (t156 = (a0.toList == t154.toList)) := by simpa using c35))
              clear c35
              exact absurd ((Option.some.inj H).trans hr_.out) (by decide)
          · replace c33 := Bool.eq_false_iff.mpr c33
            subst c33
            have H1 : ((mewslaw02_alive.f kj11).bind fun t159 => (some t159)) = some r := by rw [if_neg (show ¬ (false = true) by decide)] at H; exact H
            clear H
            have H := H1
            clear H1
            replace H := Option.bind_eq_some_iff.mp H
            obtain ⟨t159, A430, H⟩ := H
            replace H : (some t159) = some r := H
            have A43 := Aside0.mk A430
            clear A430
            obtain rfl := Option.some.inj H
            go_wp2_with (first | ((with_reducible refine gate_callee (f := 11) rfl ?_); refine goesL_ (some 46) rfl rfl Try.func11 (by kernel_rfl) rfl #[.string a1] rfl (by (try simp only [List.map_toArray, List.map_cons, List.map_nil]); first | done | rfl | (simp only [List.length_drop, List.length_take]; rfl)) ?_; (with_reducible refine (glob_Plain.calls kj11 a1 t154 false _ A32.out).mono ?_); rintro e w44 ⟨rfl, hb⟩; refine ⟨_, rfl, ?_⟩; have n0_ := Aside0.mk (below_step (by repeat (first | (with_reducible first | exact HB.out | apply below_alloc | apply pw_below_drewN | apply below_drew1) | exact HB.out)) hb); clear HB; have HB := n0_; clear n0_; (try clear hb); (try clear hb2); (try clear hk); (try clear hi)) | (go_at_call 8; (with_reducible refine (mewslaw02_alive.calls kj11  t159 _ A43.out).mono ?_); rintro e w45 ⟨rfl, hb⟩; have n0_ := Aside0.mk (below_step (by repeat (first | (with_reducible first | exact HB.out | apply below_alloc | apply pw_below_drewN | apply below_drew1) | exact HB.out)) hb); clear HB; have HB := n0_; clear n0_; (try clear hb); (try clear hb2); (try clear hk); (try clear hi)))
            go_ret
            exact ⟨by first | rfl | (simp [errW_none, errW_some] <;> rfl) | (simp [*, errW_none, errW_some] <;> rfl), by repeat (first | (with_reducible first | exact HB.out | apply below_alloc | apply pw_below_drewN | apply below_drew1) | exact HB.out)⟩

end Go.Proofs.Ytncdoanemfnjjaa.X
