-- Written by wip/tool/xprint.py of this work (a front end of its own to the kit's printer): the functions of the seat Ytcooijbmmkkdoaa as plain Lean functions, and what the Go code's calls come to. Lean checks it.
import Derived.Test.YtcooijbmmkkdoaaX0
import Derived.Test.YtcooijbmmkkdoaaX3
namespace Go.Proofs.Ytcooijbmmkkdoaa.X
open Go.RowKit Go.Proofs.YtcooijbmmkkdoaaW.PrintWords Go.Proofs.YtcooijbmmkkdoaaW.PrintLast Go.Proofs.YtcooijbmmkkdoaaW.PrintMore
attribute [local go_sem] max2_int min2_int max_two min_two max_three min_three max_four min_four   -- for this text's walks alone
set_option linter.unusedVariables false
set_option linter.unusedSimpArgs false

/-! ### args_Options: function 9 -/
mutual
def args_Options.l0 : Nat → List ByteArray → List ByteArray → List (S38) → Option ((List (S38)) × Bool)
  | 0, _, _, _ => none
  | k + 1, x0, x1, x6 => if (x0.length : Int) > 0 then (if 0 < (x0.length : Int) then ((table_Upper.f (rdOf ByteArray.empty x0 0)).bind fun t114 => ((slices_IndexFunc_string_string.f k x1 t114).bind fun t115 => (if t115 < 0 then (args_Options.j1 k x0 x1 x6 t115 true) else (if 0 ≤ t115 then (if t115 < (x6.length : Int) then (args_Options.j1 k x0 x1 x6 t115 ((rd_T38 x6 t115).f0)) else (none)) else (none))))) else (none)) else (some (x6, true))
def args_Options.j1 : Nat → List ByteArray → List ByteArray → List (S38) → Int → Bool → Option ((List (S38)) × Bool)
  | 0, _, _, _, _, _ => none
  | k + 1, x0, x1, x6, x8, x31 => if x31 = true then (some (([] : List (S38)), false)) else (if 0 ≤ x8 then (if x8 < (x1.length : Int) then (if 0 ≤ (wrap64 (((rdOf ByteArray.empty x1 x8).size : Int) - 1)) then (if (wrap64 (((rdOf ByteArray.empty x1 x8).size : Int) - 1)) < ((rdOf ByteArray.empty x1 x8).size : Int) then (if (1 + (((bt (rdOf ByteArray.empty x1 x8) (wrap64 (((rdOf ByteArray.empty x1 x8).size : Int) - 1))) - 48) % 256)) > (x0.length : Int) then (some (([] : List (S38)), false)) else (if 1 ≤ (1 + (((bt (rdOf ByteArray.empty x1 x8) (wrap64 (((rdOf ByteArray.empty x1 x8).size : Int) - 1))) - 48) % 256)) then (if (1 + (((bt (rdOf ByteArray.empty x1 x8) (wrap64 (((rdOf ByteArray.empty x1 x8).size : Int) - 1))) - 48) % 256)) ≤ (x0.length : Int) then ((slices_Clone_string_string.f ((x0.take ((1 + (((bt (rdOf ByteArray.empty x1 x8) (wrap64 (((rdOf ByteArray.empty x1 x8).size : Int) - 1))) - 48) % 256)) : Int).toNat).drop 1)).bind fun t124 => (if x8 < (x6.length : Int) then (if 0 ≤ (1 + (((bt (rdOf ByteArray.empty x1 x8) (wrap64 (((rdOf ByteArray.empty x1 x8).size : Int) - 1))) - 48) % 256)) then (args_Options.l0 k (x0.drop ((1 + (((bt (rdOf ByteArray.empty x1 x8) (wrap64 (((rdOf ByteArray.empty x1 x8).size : Int) - 1))) - 48) % 256)) : Int).toNat) x1 (x6.set (x8 : Int).toNat (⟨true, t124⟩ : S38))) else (none)) else (none))) else (none)) else (none))) else (none)) else (none)) else (none)) else (none))
end
def args_Options.f (k : Nat) (l0 : List ByteArray) (l1 : List ByteArray) : Option ((List (S38)) × Bool) := if 0 ≤ (l1.length : Int) then (if ((l1.length : Int) : Int).toNat ≤ 8796093022208 then (args_Options.l0 k l0 l1 (List.replicate ((l1.length : Int) : Int).toNat z38)) else (none)) else (none)
theorem args_Options.mono_l : ∀ k, (∀ y0 y1 y2, LeO (args_Options.l0 k y0 y1 y2) (args_Options.l0 (k + 1) y0 y1 y2)) ∧ (∀ y0 y1 y2 y3 y4, LeO (args_Options.j1 k y0 y1 y2 y3 y4) (args_Options.j1 (k + 1) y0 y1 y2 y3 y4))
  | 0 => ⟨fun _ _ _ r h => by simp [args_Options.l0] at h, fun _ _ _ _ _ r h => by simp [args_Options.j1] at h⟩
  | k + 1 => by
    obtain ⟨ih0, ih1⟩ := args_Options.mono_l k
    refine ⟨?_, ?_⟩
    · intro y0 y1 y2
      unfold args_Options.l0
      repeat' first
      | (with_reducible exact ih0 _ _ _)
      | (with_reducible exact ih1 _ _ _ _ _)
      | (with_reducible exact slices_IndexFunc_string_string.mono _ _ _)
      | (with_reducible exact LeO.refl _)
      | (with_reducible exact LeO.none _)
      | (with_reducible refine LeO.ite ?_ ?_)
      | (with_reducible refine LeO.bind ?_ (fun _ => ?_))
      | exact ih0 _ _ _
      | exact ih1 _ _ _ _ _
      | exact slices_IndexFunc_string_string.mono _ _ _
      | exact LeO.none _
      | refine LeO.ite ?_ ?_
      | refine LeO.bind ?_ (fun _ => ?_)
    · intro y0 y1 y2 y3 y4
      unfold args_Options.j1
      repeat' first
      | (with_reducible exact ih0 _ _ _)
      | (with_reducible exact ih1 _ _ _ _ _)
      | (with_reducible exact slices_IndexFunc_string_string.mono _ _ _)
      | (with_reducible exact LeO.refl _)
      | (with_reducible exact LeO.none _)
      | (with_reducible refine LeO.ite ?_ ?_)
      | (with_reducible refine LeO.bind ?_ (fun _ => ?_))
      | exact ih0 _ _ _
      | exact ih1 _ _ _ _ _
      | exact slices_IndexFunc_string_string.mono _ _ _
      | exact LeO.none _
      | refine LeO.ite ?_ ?_
      | refine LeO.bind ?_ (fun _ => ?_)
theorem args_Options.mono : ∀ a0 a1 k, LeO (args_Options.f k a0 a1) (args_Options.f (k + 1) a0 a1) := by
  intro a0 a1 k
  obtain ⟨ih0, ih1⟩ := args_Options.mono_l k
  unfold args_Options.f
  repeat' first
      | (with_reducible exact ih0 _ _ _)
      | (with_reducible exact ih1 _ _ _ _ _)
      | (with_reducible exact slices_IndexFunc_string_string.mono _ _ _)
      | (with_reducible exact LeO.refl _)
      | (with_reducible exact LeO.none _)
      | (with_reducible refine LeO.ite ?_ ?_)
      | (with_reducible refine LeO.bind ?_ (fun _ => ?_))
      | exact ih0 _ _ _
      | exact ih1 _ _ _ _ _
      | exact slices_IndexFunc_string_string.mono _ _ _
      | exact LeO.none _
      | refine LeO.ite ?_ ?_
      | refine LeO.bind ?_ (fun _ => ?_)
set_option maxHeartbeats 8000000 in
set_option maxRecDepth 100000 in
theorem args_Options.calls (k : Nat) (P0_ : Nat → Prop) (A0 : Option Addr) (c0 : Nat) (l0 : List ByteArray) (A1 : Option Addr) (c1 : Nat) (l1 : List ByteArray) (r1 : List (S38)) (r2 : Bool) (w : World) (hs0 : Kd.V Kd.string 9 w w.heap.size (fun k_ => P0_ k_) (.slice A0 l0.length c0) l0) (hr1 : Kd.C Kd.string w A1 l1.length l1) (hc1 : l1.length ≤ c1) (h : args_Options.f k l0 l1 = some (r1, r2)) :
    Calls Try.prog 9 #[.slice A0 l0.length c0, .slice A1 l1.length c1] w fun e w' => ∃ v0_ : Value, e = .returned (.tuple #[v0_, .bool r2]) ∧ Kd.S k38 38 w' w.heap.size (fun k_ => (w.heap.size ≤ k_)) v0_ r1 ∧ Below w.heap.size w w' := by
  have hu38 := Try.underlying38
  have HO0 := Aside0.mk (show Kd.V Kd.string 9 w w.heap.size (fun k_ => (P0_ k_ ∨ w.heap.size ≤ k_)) (.slice A0 l0.length c0) l0 from Kd.V_mono hs0 (fun k_ hk => .inl hk))
  have HR1 := Aside0.mk hr1
  have HC1 := Aside0.mk hc1
  clear hr1 hc1
  have HB := Aside0.mk (Below.refl w.heap.size w)
  have H : (if 0 ≤ (l1.length : Int) then (if ((l1.length : Int) : Int).toNat ≤ 8796093022208 then (args_Options.l0 k l0 l1 (List.replicate ((l1.length : Int) : Int).toNat z38)) else (none)) else (none)) = some (r1, r2) := h
  clear h
  by_cases c3 : 0 ≤ (l1.length : Int)
  · rw [if_pos c3] at H
    have c3b0 := eq_true c3
    have c3b1 : decide (0 ≤ (l1.length : Int)) = true := decide_eq_true c3
    clear c3
    by_cases c4 : ((l1.length : Int) : Int).toNat ≤ 8796093022208
    · rw [if_pos c4] at H
      have c4b0 := eq_true c4
      have c4b1 : decide (((l1.length : Int) : Int).toNat ≤ 8796093022208) = true := decide_eq_true c4
      clear c4
      obtain ⟨y110, hy110⟩ : ∃ y_ : List (S38), y_ = (List.replicate ((l1.length : Int) : Int).toNat z38) := ⟨_, rfl⟩
      replace H : (args_Options.l0 k l0 l1 y110) = some (r1, r2) := by first | (rw [hy110]; with_reducible exact H) | (have H2_ := (Option.bind_some _ _).symm.trans H; rw [hy110]; with_reducible exact H2_) | (have H2_ := (Option.bind_some _ _).symm.trans H; with_reducible exact H2_) | with_reducible exact H | (rw [hy110]; exact H) | exact H
      have Ny110 := Aside0.mk hy110
      clear hy110
      have H' := Aside0.mk H
      clear H
      go_enter Try.func9, Try.ntmps9
      go_wp2_with (first | ((with_reducible refine gate_dst (N := 12) rfl ?_); refine Kd.S_make k38 _ 38 rfl (N := 12) rfl 25 _ _ rfl (l1.length : Int) rfl rfl Try.underlying25 (.agg #[(.bool false), (.slice none 0 0)]) 32 info38 rfl (by decide) (by omega) z38 (ok := fun _ => True) (okp := fun _ => True) (k38_mkM _ _ _ z38 (Kd.R_nil _ _ _ _ _)) (fun _ hk => hk) trivial (of_decide_eq_true (by first | (with_reducible assumption) | assumption)) (Nat.le_trans (Nat.mul_le_mul_right _ (of_decide_eq_true (by first | (with_reducible assumption) | assumption) : (l1.length : Int).toNat ≤ 8796093022208)) (by omega)) (Below.refl _ _) (Nat.le_refl _) ?_; intro v111 w5 ho6 hb hg_ hnew_; clear hg_ hnew_; (first | rw [← Ny110.out] at ho6 | (simp only [Int.reduceToNat] at ho6; rw [← Ny110.out] at ho6)); have n0_ := Aside0.mk (Kd.V_elder' (by (with_reducible repeat (first | apply Kd.V_alloc | apply Kd.V_drewN | apply Kd.V_drew)); exact HO0.out) (Kd.S_base ho6) hb); have n1_ := Aside0.mk (Kd.S_lower (Kd.S_newM (M := fun k_ => (w.heap.size ≤ k_)) ho6 (below_size (by repeat (first | (with_reducible first | exact HB.out | apply below_alloc | apply pw_below_drewN | apply below_drew1) | exact HB.out))) (fun k_ h_ => h_)) (below_size (by repeat (first | (with_reducible first | exact HB.out | apply below_alloc | apply pw_below_drewN | apply below_drew1) | exact HB.out)))); have n2_ := Aside0.mk (below_step (by repeat (first | (with_reducible first | exact HB.out | apply below_alloc | apply pw_below_drewN | apply below_drew1) | exact HB.out)) hb); clear HO0; clear HB; have HO0 := n0_; have HO112 := n1_; have HB := n2_; clear n0_ n1_ n2_; clear hb ho6))
      repeat (go_quiet (first | ((with_reducible refine gate_dst (N := 12) rfl ?_); refine Kd.S_make k38 _ 38 rfl (N := 12) rfl 25 _ _ rfl (l1.length : Int) rfl rfl Try.underlying25 (.agg #[(.bool false), (.slice none 0 0)]) 32 info38 rfl (by decide) (by omega) z38 (ok := fun _ => True) (okp := fun _ => True) (k38_mkM _ _ _ z38 (Kd.R_nil _ _ _ _ _)) (fun _ hk => hk) trivial (of_decide_eq_true (by first | (with_reducible assumption) | assumption)) (Nat.le_trans (Nat.mul_le_mul_right _ (of_decide_eq_true (by first | (with_reducible assumption) | assumption) : (l1.length : Int).toNat ≤ 8796093022208)) (by omega)) (Below.refl _ _) (Nat.le_refl _) ?_; intro v111 w5 ho6 hb hg_ hnew_; clear hg_ hnew_; (first | rw [← Ny110.out] at ho6 | (simp only [Int.reduceToNat] at ho6; rw [← Ny110.out] at ho6)); have n0_ := Aside0.mk (Kd.V_elder' (by (with_reducible repeat (first | apply Kd.V_alloc | apply Kd.V_drewN | apply Kd.V_drew)); exact HO0.out) (Kd.S_base ho6) hb); have n1_ := Aside0.mk (Kd.S_lower (Kd.S_newM (M := fun k_ => (w.heap.size ≤ k_)) ho6 (below_size (by repeat (first | (with_reducible first | exact HB.out | apply below_alloc | apply pw_below_drewN | apply below_drew1) | exact HB.out))) (fun k_ h_ => h_)) (below_size (by repeat (first | (with_reducible first | exact HB.out | apply below_alloc | apply pw_below_drewN | apply below_drew1) | exact HB.out)))); have n2_ := Aside0.mk (below_step (by repeat (first | (with_reducible first | exact HB.out | apply below_alloc | apply pw_below_drewN | apply below_drew1) | exact HB.out)) hb); clear HO0; clear HB; have HO0 := n0_; have HO112 := n1_; have HB := n2_; clear n0_ n1_ n2_; clear hb ho6)); try go_wp2_with (first | ((with_reducible refine gate_dst (N := 12) rfl ?_); refine Kd.S_make k38 _ 38 rfl (N := 12) rfl 25 _ _ rfl (l1.length : Int) rfl rfl Try.underlying25 (.agg #[(.bool false), (.slice none 0 0)]) 32 info38 rfl (by decide) (by omega) z38 (ok := fun _ => True) (okp := fun _ => True) (k38_mkM _ _ _ z38 (Kd.R_nil _ _ _ _ _)) (fun _ hk => hk) trivial (of_decide_eq_true (by first | (with_reducible assumption) | assumption)) (Nat.le_trans (Nat.mul_le_mul_right _ (of_decide_eq_true (by first | (with_reducible assumption) | assumption) : (l1.length : Int).toNat ≤ 8796093022208)) (by omega)) (Below.refl _ _) (Nat.le_refl _) ?_; intro v111 w5 ho6 hb hg_ hnew_; clear hg_ hnew_; (first | rw [← Ny110.out] at ho6 | (simp only [Int.reduceToNat] at ho6; rw [← Ny110.out] at ho6)); have n0_ := Aside0.mk (Kd.V_elder' (by (with_reducible repeat (first | apply Kd.V_alloc | apply Kd.V_drewN | apply Kd.V_drew)); exact HO0.out) (Kd.S_base ho6) hb); have n1_ := Aside0.mk (Kd.S_lower (Kd.S_newM (M := fun k_ => (w.heap.size ≤ k_)) ho6 (below_size (by repeat (first | (with_reducible first | exact HB.out | apply below_alloc | apply pw_below_drewN | apply below_drew1) | exact HB.out))) (fun k_ h_ => h_)) (below_size (by repeat (first | (with_reducible first | exact HB.out | apply below_alloc | apply pw_below_drewN | apply below_drew1) | exact HB.out)))); have n2_ := Aside0.mk (below_step (by repeat (first | (with_reducible first | exact HB.out | apply below_alloc | apply pw_below_drewN | apply below_drew1) | exact HB.out)) hb); clear HO0; clear HB; have HO0 := n0_; have HO112 := n1_; have HB := n2_; clear n0_ n1_ n2_; clear hb ho6)))
      go_loopg [0] k (fun kq v0 w' => ∃ (x0_1 : List ByteArray) (x6_1 : List (S38)), Aside0 (args_Options.l0 kq x0_1 l1 x6_1 = some (r1, r2)) ∧ Aside0 (kq ≤ k) ∧ Aside0 (Kd.V Kd.string 9 w' w.heap.size (fun k_ => (P0_ k_ ∨ w.heap.size ≤ k_) ∧ some k_ ≠ (v111 : Value).ownBlock) v0 x0_1) ∧ Aside0 (Kd.S k38 38 w' w.heap.size (fun k_ => (w.heap.size ≤ k_)) v111 x6_1) ∧ Aside0 (Below w.heap.size w w'))
      case atStart => exact ⟨(l0), (y110), H', ⟨Nat.le_refl _⟩, ⟨by (with_reducible repeat (first | apply Kd.V_alloc | apply Kd.V_drewN | apply Kd.V_drew)); exact HO0.out⟩, ⟨by (with_reducible repeat (first | apply Kd.S_alloc | apply Kd.S_drewN | apply Kd.S_drew)); exact Kd.S_mono HO112.out (fun _ hk => hk.1)⟩, ⟨by repeat (first | (with_reducible first | exact HB.out | apply below_alloc | apply pw_below_drewN | apply below_drew1) | exact HB.out)⟩⟩
      case round =>
        clear H'
        try clear c1
        try clear p2
        try clear c3
        try clear c3b0
        try clear c3b1
        try clear c4
        try clear c4b0
        try clear c4b1
        obtain ⟨x0_1, x6_1, HA, HK1, HO_0, HO_6, HB⟩ := hrel
        cases gk with
        | zero => exact absurd HA.out (by simp [args_Options.l0])
        | succ k1 =>
          have H := HA.out
          clear HA
          simp only [args_Options.l0] at H
          by_cases c7 : (x0_1.length : Int) > 0
          · rw [if_pos c7] at H
            have c7b0 : decide (0 < (x0_1.length : Int)) = true := decide_eq_true c7
            have c7b1 : decide (0 < x0_1.length) = true := decide_eq_true (by omega)
            clear c7
            by_cases c8 : 0 < (x0_1.length : Int)
            · rw [if_pos c8] at H
              have c8b0 : decide (0 < (x0_1.length : Int)) = true := decide_eq_true c8
              have c8b1 : decide (0 < x0_1.length) = true := decide_eq_true (by omega)
              clear c8
              replace H := Option.bind_eq_some_iff.mp H
              obtain ⟨t114, A90, H⟩ := H
              replace H : ((slices_IndexFunc_string_string.f k1 l1 t114).bind fun t115 => (if t115 < 0 then (args_Options.j1 k1 x0_1 l1 x6_1 t115 true) else (if 0 ≤ t115 then (if t115 < (x6_1.length : Int) then (args_Options.j1 k1 x0_1 l1 x6_1 t115 ((rd_T38 x6_1 t115).f0)) else (none)) else (none)))) = some (r1, r2) := H
              have A9 := Aside0.mk A90
              clear A90
              replace H := Option.bind_eq_some_iff.mp H
              obtain ⟨t115, A100, H⟩ := H
              replace H : (if t115 < 0 then (args_Options.j1 k1 x0_1 l1 x6_1 t115 true) else (if 0 ≤ t115 then (if t115 < (x6_1.length : Int) then (args_Options.j1 k1 x0_1 l1 x6_1 t115 ((rd_T38 x6_1 t115).f0)) else (none)) else (none))) = some (r1, r2) := H
              have A10 := Aside0.mk A100
              clear A100
              have HC11 := Aside0.mk H
              clear H
              obtain ⟨Ao12, co12, eo12⟩ := Kd.V_slice HO_0.out
              subst eo12
              have p113 : 0 ≤ (0 : Int) := (by omega)
              have q113 : 0 < (x0_1.length : Int) := of_decide_eq_true (by first | (with_reducible assumption) | assumption)
              obtain ⟨ad113, e113, hx113_0⟩ := Kd.at_string (Kd.V_reads' HO_0.out).2.2 0 p113 q113
              cases e113
              have qi113 : (0 < x0_1.length) = True := eq_true (by omega)
              (try rw [show ((0 : Int)).toNat = 0 from rfl] at hx113_0)
              (try rw [Addr.add_zero'] at hx113_0)
              replace p113 := eq_true p113
              replace q113 := eq_true q113
              go_upto_region 5 with (first | (go_at_call 23; (with_reducible refine (table_Upper.calls (rdOf ByteArray.empty x0_1 0) t114 _ A9.out).mono ?_); rintro e w13 ⟨rfl, hb⟩; have n0_ := Aside0.mk (Kd.V_below (by (with_reducible repeat (first | apply Kd.V_alloc | apply Kd.V_drewN | apply Kd.V_drew)); exact HO_0.out) hb); have n1_ := Aside0.mk (Kd.S_below (by (with_reducible repeat (first | apply Kd.S_alloc | apply Kd.S_drewN | apply Kd.S_drew)); exact HO_6.out) hb); have n2_ := Aside0.mk (below_step (by repeat (first | (with_reducible first | exact HB.out | apply below_alloc | apply pw_below_drewN | apply below_drew1) | exact HB.out)) hb); clear HO_0; clear HO_6; clear HB; have HO_0 := n0_; have HO_6 := n1_; have HB := n2_; clear n0_ n1_ n2_; (try clear hb); have HBX := Aside0.mk (show (w13.alloc (.cells #[.string t114] 9)).cell? ⟨w13.heap.size, 0, none⟩ = some (.string t114) from (blk_cell (blk_new w13 (.cells #[.string t114] 9)) 0).trans rfl); (try clear hb2); (try clear hk); (try clear hi)) | (go_at_call 24; (with_reducible refine (slices_IndexFunc_string_string.calls k1 _ _ l1 t114 t115 w13.heap.size _ (by first | (with_reducible exact HBX.out) | exact box_drewN HBX.out) ?side1 ?side2 A10.out).mono ?_); (case side1 => repeat (first | exact (Kd.C_below HR1.out HB.out) | (with_reducible refine Kd.C_alloc ?_ _) | (with_reducible refine Kd.C_drewN ?_ _) | (with_reducible refine Kd.C_drew ?_))); (case side2 => exact HC1.out); rintro e w' ⟨rfl, ⟨nd, rfl⟩⟩; obtain ⟨w14, hw14⟩ : ∃ W, W = w13.alloc (.cells #[.string t114] 9) := ⟨_, rfl⟩; have hb4_ : Below w13.heap.size w13 w14 := (by rw [hw14]; exact below_alloc (Below.refl _ _) _); have n0_ := Aside0.mk (Kd.V_below HO_0.out hb4_); have n1_ := Aside0.mk (Kd.S_below HO_6.out hb4_); have n2_ := Aside0.mk (below_step HB.out hb4_); clear HO_0; clear HO_6; clear HB; have HO_0 := n0_; have HO_6 := n1_; have HB := n2_; clear n0_ n1_ n2_ hb4_ HBX; rw [← hw14]; clear hw14; (try first | exact ⟨rfl, _, World.drewN_drewN _ _ _⟩ | exact ⟨rfl, _, Eq.trans (World.drewN_drewN _ _ _) (congrArg (World.drewN _) (Nat.add_assoc _ _ _))⟩)))
              repeat (go_quiet (first | (go_at_call 23; (with_reducible refine (table_Upper.calls (rdOf ByteArray.empty x0_1 0) t114 _ A9.out).mono ?_); rintro e w13 ⟨rfl, hb⟩; have n0_ := Aside0.mk (Kd.V_below (by (with_reducible repeat (first | apply Kd.V_alloc | apply Kd.V_drewN | apply Kd.V_drew)); exact HO_0.out) hb); have n1_ := Aside0.mk (Kd.S_below (by (with_reducible repeat (first | apply Kd.S_alloc | apply Kd.S_drewN | apply Kd.S_drew)); exact HO_6.out) hb); have n2_ := Aside0.mk (below_step (by repeat (first | (with_reducible first | exact HB.out | apply below_alloc | apply pw_below_drewN | apply below_drew1) | exact HB.out)) hb); clear HO_0; clear HO_6; clear HB; have HO_0 := n0_; have HO_6 := n1_; have HB := n2_; clear n0_ n1_ n2_; (try clear hb); have HBX := Aside0.mk (show (w13.alloc (.cells #[.string t114] 9)).cell? ⟨w13.heap.size, 0, none⟩ = some (.string t114) from (blk_cell (blk_new w13 (.cells #[.string t114] 9)) 0).trans rfl); (try clear hb2); (try clear hk); (try clear hi)) | (go_at_call 24; (with_reducible refine (slices_IndexFunc_string_string.calls k1 _ _ l1 t114 t115 w13.heap.size _ (by first | (with_reducible exact HBX.out) | exact box_drewN HBX.out) ?side1 ?side2 A10.out).mono ?_); (case side1 => repeat (first | exact (Kd.C_below HR1.out HB.out) | (with_reducible refine Kd.C_alloc ?_ _) | (with_reducible refine Kd.C_drewN ?_ _) | (with_reducible refine Kd.C_drew ?_))); (case side2 => exact HC1.out); rintro e w' ⟨rfl, ⟨nd, rfl⟩⟩; obtain ⟨w14, hw14⟩ : ∃ W, W = w13.alloc (.cells #[.string t114] 9) := ⟨_, rfl⟩; have hb4_ : Below w13.heap.size w13 w14 := (by rw [hw14]; exact below_alloc (Below.refl _ _) _); have n0_ := Aside0.mk (Kd.V_below HO_0.out hb4_); have n1_ := Aside0.mk (Kd.S_below HO_6.out hb4_); have n2_ := Aside0.mk (below_step HB.out hb4_); clear HO_0; clear HO_6; clear HB; have HO_0 := n0_; have HO_6 := n1_; have HB := n2_; clear n0_ n1_ n2_ hb4_ HBX; rw [← hw14]; clear hw14; (try first | exact ⟨rfl, _, World.drewN_drewN _ _ _⟩ | exact ⟨rfl, _, Eq.trans (World.drewN_drewN _ _ _) (congrArg (World.drewN _) (Nat.add_assoc _ _ _))⟩))); go_upto_region 5 with (first | (go_at_call 23; (with_reducible refine (table_Upper.calls (rdOf ByteArray.empty x0_1 0) t114 _ A9.out).mono ?_); rintro e w13 ⟨rfl, hb⟩; have n0_ := Aside0.mk (Kd.V_below (by (with_reducible repeat (first | apply Kd.V_alloc | apply Kd.V_drewN | apply Kd.V_drew)); exact HO_0.out) hb); have n1_ := Aside0.mk (Kd.S_below (by (with_reducible repeat (first | apply Kd.S_alloc | apply Kd.S_drewN | apply Kd.S_drew)); exact HO_6.out) hb); have n2_ := Aside0.mk (below_step (by repeat (first | (with_reducible first | exact HB.out | apply below_alloc | apply pw_below_drewN | apply below_drew1) | exact HB.out)) hb); clear HO_0; clear HO_6; clear HB; have HO_0 := n0_; have HO_6 := n1_; have HB := n2_; clear n0_ n1_ n2_; (try clear hb); have HBX := Aside0.mk (show (w13.alloc (.cells #[.string t114] 9)).cell? ⟨w13.heap.size, 0, none⟩ = some (.string t114) from (blk_cell (blk_new w13 (.cells #[.string t114] 9)) 0).trans rfl); (try clear hb2); (try clear hk); (try clear hi)) | (go_at_call 24; (with_reducible refine (slices_IndexFunc_string_string.calls k1 _ _ l1 t114 t115 w13.heap.size _ (by first | (with_reducible exact HBX.out) | exact box_drewN HBX.out) ?side1 ?side2 A10.out).mono ?_); (case side1 => repeat (first | exact (Kd.C_below HR1.out HB.out) | (with_reducible refine Kd.C_alloc ?_ _) | (with_reducible refine Kd.C_drewN ?_ _) | (with_reducible refine Kd.C_drew ?_))); (case side2 => exact HC1.out); rintro e w' ⟨rfl, ⟨nd, rfl⟩⟩; obtain ⟨w14, hw14⟩ : ∃ W, W = w13.alloc (.cells #[.string t114] 9) := ⟨_, rfl⟩; have hb4_ : Below w13.heap.size w13 w14 := (by rw [hw14]; exact below_alloc (Below.refl _ _) _); have n0_ := Aside0.mk (Kd.V_below HO_0.out hb4_); have n1_ := Aside0.mk (Kd.S_below HO_6.out hb4_); have n2_ := Aside0.mk (below_step HB.out hb4_); clear HO_0; clear HO_6; clear HB; have HO_0 := n0_; have HO_6 := n1_; have HB := n2_; clear n0_ n1_ n2_ hb4_ HBX; rw [← hw14]; clear hw14; (try first | exact ⟨rfl, _, World.drewN_drewN _ _ _⟩ | exact ⟨rfl, _, Eq.trans (World.drewN_drewN _ _ _) (congrArg (World.drewN _) (Nat.add_assoc _ _ _))⟩))))
              (try simp only [Act.put, List.setIfInBounds_toArray, List.set_cons_zero, List.set_cons_succ])
              go_cut [31] (fun v31 wc => ∃ (kq : Nat) (x31_10 : Bool), v31 = .bool x31_10 ∧ Aside0 (args_Options.j1 kq x0_1 l1 x6_1 t115 x31_10 = some (r1, r2)) ∧ Aside0 (kq ≤ k1) ∧ Aside0 (Kd.V Kd.string 9 wc w.heap.size (fun k_ => (P0_ k_ ∨ w.heap.size ≤ k_) ∧ some k_ ≠ (v111 : Value).ownBlock) (.slice (some ad113) x0_1.length co12) x0_1) ∧ Aside0 (Kd.S k38 38 wc w.heap.size (fun k_ => (w.heap.size ≤ k_)) v111 x6_1) ∧ Aside0 (Below w.heap.size w wc))
              case first =>
                have H := HC11.out
                clear HC11
                by_cases c14 : t115 < 0
                · rw [if_pos c14] at H
                  have c14b0 : decide (t115 < 0) = true := decide_eq_true c14
                  clear c14
                  (first | rw [c14b0] | (simp only [i64_w, i32_w]; rw [c14b0]) | skip)
                  have H' := Aside0.mk H
                  clear H
                  go_wp2
                  repeat (go_quiet (fail); try go_wp2)
                  go_meet
                  case rel => exact ⟨_, (true), (by first | rfl | (simp; done) | (simp [*]; done)), H', ⟨by have := HK1.out; first | omega | exact Nat.le_refl _⟩, ⟨by (with_reducible repeat (first | apply Kd.V_alloc | apply Kd.V_drewN | apply Kd.V_drew)); exact HO_0.out⟩, ⟨by (with_reducible repeat (first | apply Kd.S_alloc | apply Kd.S_drewN | apply Kd.S_drew)); exact HO_6.out⟩, ⟨by repeat (first | (with_reducible first | exact HB.out | apply below_alloc | apply pw_below_drewN | apply below_drew1) | exact HB.out)⟩⟩
                · rw [if_neg c14] at H
                  have c14b0 : decide (t115 < 0) = false := decide_eq_false c14
                  clear c14
                  (first | rw [c14b0] | (simp only [i64_w, i32_w]; rw [c14b0]) | skip)
                  by_cases c15 : 0 ≤ t115
                  · rw [if_pos c15] at H
                    have c15b0 : decide (0 ≤ t115) = true := decide_eq_true c15
                    clear c15
                    by_cases c16 : t115 < (x6_1.length : Int)
                    · rw [if_pos c16] at H
                      have c16b0 : decide (t115 < (x6_1.length : Int)) = true := decide_eq_true c16
                      clear c16
                      have H' := Aside0.mk H
                      clear H
                      obtain ⟨Ao17, co17, eo17⟩ := Kd.S_slice HO_6.out
                      subst eo17
                      have p116 : 0 ≤ (t115 : Int) := of_decide_eq_true (by first | (with_reducible assumption) | assumption)
                      have q116 : t115 < (x6_1.length : Int) := of_decide_eq_true (by first | (with_reducible assumption) | assumption)
                      obtain ⟨ad116, A116_1, c116_1, e116, hx116_0, hx116_1, hl116_1, hi116_1⟩ := at_T38 (Kd.S_reads' HO_6.out).2.2 t115 p116 q116
                      cases e116
                      obtain ⟨ce116, hce116, hMe116, hcc116⟩ := Kd.S_get HO_6.out z38 t115 p116 (by first | exact q116 | exact of_decide_eq_true (by first | (with_reducible assumption) | assumption) | (have e_ := (Kd.S_reads' HO_6.out).1; omega))
                      obtain ⟨ve116_1, rfl, ge116_1⟩ := k38_openM hMe116
                      have hv116_1 := hcc116 1 _ rfl
                      rw [add_field _ _ 1 (by omega)] at hv116_1
                      replace hv116_1 := Option.some.inj (hv116_1.symm.trans hx116_1)
                      rw [hv116_1] at ge116_1
                      have HL116_1 := Aside0.mk (show Kd.R Kd.string 9 _ _ _ _ ((rd_T38 x6_1 t115).f1) from ge116_1)
                      clear hv116_1 ge116_1
                      clear hcc116 hce116
                      have HR116_1 := Aside0.mk hi116_1
                      have HC116_1 := Aside0.mk hl116_1
                      clear hi116_1 hl116_1
                      replace p116 := eq_true p116
                      replace q116 := eq_true q116
                      go_wp2
                      repeat (go_quiet (fail); try go_wp2)
                      go_meet
                      case rel => exact ⟨_, ((rd_T38 x6_1 t115).f0), (by first | rfl | (simp; done) | (simp [*]; done)), H', ⟨by have := HK1.out; first | omega | exact Nat.le_refl _⟩, ⟨by (with_reducible repeat (first | apply Kd.V_alloc | apply Kd.V_drewN | apply Kd.V_drew)); exact HO_0.out⟩, ⟨by (with_reducible repeat (first | apply Kd.S_alloc | apply Kd.S_drewN | apply Kd.S_drew)); exact HO_6.out⟩, ⟨by repeat (first | (with_reducible first | exact HB.out | apply below_alloc | apply pw_below_drewN | apply below_drew1) | exact HB.out)⟩⟩
                    · rw [if_neg c16] at H
                      exact absurd H (by simp)
                  · rw [if_neg c15] at H
                    exact absurd H (by simp)
              case rest =>
                clear HC11
                try clear c1
                try clear p1
                try clear q1
                try clear hx1
                try clear qi1
                try clear p2
                try clear c3
                try clear c3b0
                try clear c3b1
                try clear c4
                try clear c4b0
                try clear c4b1
                try clear c7
                try clear c7b0
                try clear c7b1
                try clear c8
                try clear c8b0
                try clear c8b1
                try clear c9
                try clear c11
                try clear p11
                try clear q11
                try clear hx11
                try clear qi11
                try clear c14
                try clear c14b0
                try clear c15
                try clear c15b0
                try clear c16
                try clear c16b0
                try clear hx113_0
                try clear hx116_0
                try clear hx116_1
                try clear p113
                try clear p116
                try clear p2
                try clear q113
                try clear q116
                obtain ⟨kq, x31_10, rfl, HA, HJ10, HO_0, HO_6, HB⟩ := hcut
                cases kq with
                | zero => exact absurd HA.out (by simp [args_Options.j1])
                | succ kj10 =>
                  have H := HA.out
                  clear HA
                  simp only [args_Options.j1] at H
                  by_cases c18 : x31_10 = true
                  · subst c18
                    have H1 : (some (([] : List (S38)), false)) = some (r1, r2) := by rw [if_pos rfl] at H; exact H
                    clear H
                    have H := H1
                    clear H1
                    simp only [Option.some.injEq, Prod.mk.injEq] at H
                    obtain ⟨rfl, rfl⟩ := H
                    go_wp2
                    repeat (go_quiet (fail); try go_wp2)
                    go_ret2
                    exact ⟨_, by first | rfl | (simp [errW_none, errW_some] <;> rfl) | (simp [*, errW_none, errW_some] <;> rfl), by first | exact Kd.S_nil _ _ _ _ _ | exact Kd.N_nil _ _ _ _ _ | exact Kd.V_nil _ _ _ _ _ | exact Kd.Q_nil _ _ _ _ _ | exact Kd.R_nil _ _ _ _ _, by repeat (first | (with_reducible first | exact HB.out | apply below_alloc | apply pw_below_drewN | apply below_drew1) | exact HB.out)⟩
                  · replace c18 := Bool.eq_false_iff.mpr c18
                    subst c18
                    have H1 : (if 0 ≤ t115 then (if t115 < (l1.length : Int) then (if 0 ≤ (wrap64 (((rdOf ByteArray.empty l1 t115).size : Int) - 1)) then (if (wrap64 (((rdOf ByteArray.empty l1 t115).size : Int) - 1)) < ((rdOf ByteArray.empty l1 t115).size : Int) then (if (1 + (((bt (rdOf ByteArray.empty l1 t115) (wrap64 (((rdOf ByteArray.empty l1 t115).size : Int) - 1))) - 48) % 256)) > (x0_1.length : Int) then (some (([] : List (S38)), false)) else (if 1 ≤ (1 + (((bt (rdOf ByteArray.empty l1 t115) (wrap64 (((rdOf ByteArray.empty l1 t115).size : Int) - 1))) - 48) % 256)) then (if (1 + (((bt (rdOf ByteArray.empty l1 t115) (wrap64 (((rdOf ByteArray.empty l1 t115).size : Int) - 1))) - 48) % 256)) ≤ (x0_1.length : Int) then ((slices_Clone_string_string.f ((x0_1.take ((1 + (((bt (rdOf ByteArray.empty l1 t115) (wrap64 (((rdOf ByteArray.empty l1 t115).size : Int) - 1))) - 48) % 256)) : Int).toNat).drop 1)).bind fun t124 => (if t115 < (x6_1.length : Int) then (if 0 ≤ (1 + (((bt (rdOf ByteArray.empty l1 t115) (wrap64 (((rdOf ByteArray.empty l1 t115).size : Int) - 1))) - 48) % 256)) then (args_Options.l0 kj10 (x0_1.drop ((1 + (((bt (rdOf ByteArray.empty l1 t115) (wrap64 (((rdOf ByteArray.empty l1 t115).size : Int) - 1))) - 48) % 256)) : Int).toNat) l1 (x6_1.set (t115 : Int).toNat (⟨true, t124⟩ : S38))) else (none)) else (none))) else (none)) else (none))) else (none)) else (none)) else (none)) else (none)) = some (r1, r2) := by rw [if_neg (show ¬ (false = true) by decide)] at H; exact H
                    clear H
                    have H := H1
                    clear H1
                    by_cases c19 : 0 ≤ t115
                    · rw [if_pos c19] at H
                      have c19b0 : decide (0 ≤ t115) = true := decide_eq_true c19
                      clear c19
                      by_cases c20 : t115 < (l1.length : Int)
                      · rw [if_pos c20] at H
                        have c20b0 : decide (t115 < (l1.length : Int)) = true := decide_eq_true c20
                        clear c20
                        obtain ⟨ji21, hji21⟩ : ∃ j_ : Int, (wrap64 (((rdOf ByteArray.empty l1 t115).size : Int) - 1)) = j_ := ⟨_, rfl⟩
                        replace H : (if 0 ≤ (ji21) then (if (ji21) < ((rdOf ByteArray.empty l1 t115).size : Int) then (if (1 + (((bt (rdOf ByteArray.empty l1 t115) (ji21)) - 48) % 256)) > (x0_1.length : Int) then (some (([] : List (S38)), false)) else (if 1 ≤ (1 + (((bt (rdOf ByteArray.empty l1 t115) (ji21)) - 48) % 256)) then (if (1 + (((bt (rdOf ByteArray.empty l1 t115) (ji21)) - 48) % 256)) ≤ (x0_1.length : Int) then ((slices_Clone_string_string.f ((x0_1.take ((1 + (((bt (rdOf ByteArray.empty l1 t115) (ji21)) - 48) % 256)) : Int).toNat).drop 1)).bind fun t124 => (if t115 < (x6_1.length : Int) then (if 0 ≤ (1 + (((bt (rdOf ByteArray.empty l1 t115) (ji21)) - 48) % 256)) then (args_Options.l0 kj10 (x0_1.drop ((1 + (((bt (rdOf ByteArray.empty l1 t115) (ji21)) - 48) % 256)) : Int).toNat) l1 (x6_1.set (t115 : Int).toNat (⟨true, t124⟩ : S38))) else (none)) else (none))) else (none)) else (none))) else (none)) else (none)) = some (r1, r2) := by first | (rw [hji21] at H; exact H) | (simp only [hji21] at H ⊢; exact H)
                        have hji21w : (IntKind.i64.wrap (((rdOf ByteArray.empty l1 t115).size : Int) - 1)) = ji21 := (i64_w _).trans hji21
                        by_cases c22 : 0 ≤ (ji21)
                        · rw [if_pos c22] at H
                          have c22b0 : decide (0 ≤ (ji21)) = true := decide_eq_true c22
                          clear c22
                          by_cases c23 : (ji21) < ((rdOf ByteArray.empty l1 t115).size : Int)
                          · rw [if_pos c23] at H
                            have c23b0 : decide ((ji21) < ((rdOf ByteArray.empty l1 t115).size : Int)) = true := decide_eq_true c23
                            clear c23
                            by_cases c25 : (1 + (((bt (rdOf ByteArray.empty l1 t115) (ji21)) - 48) % 256)) > (x0_1.length : Int)
                            · rw [if_pos c25] at H
                              have c25b0 : decide ((x0_1.length : Int) < (1 + (((bt (rdOf ByteArray.empty l1 t115) (ji21)) - 48) % 256))) = true := decide_eq_true c25
                              clear c25
                              simp only [Option.some.injEq, Prod.mk.injEq] at H
                              obtain ⟨rfl, rfl⟩ := H
                              have p117 : 0 ≤ (t115 : Int) := of_decide_eq_true (by first | (with_reducible assumption) | assumption)
                              have q117 : t115 < (l1.length : Int) := of_decide_eq_true (by first | (with_reducible assumption) | assumption)
                              obtain ⟨ad117, e117, hx117_0⟩ := Kd.at_string HR1.out t115 p117 q117
                              cases e117
                              replace hx117_0 := (HB.out.cell (World.block_lt_of_cell? w _ hx117_0)).trans hx117_0
                              replace p117 := eq_true p117
                              replace q117 := eq_true q117
                              have p118 : 0 ≤ (t115 : Int) := of_decide_eq_true (by first | (with_reducible assumption) | assumption)
                              have q118 : t115 < (l1.length : Int) := of_decide_eq_true (by first | (with_reducible assumption) | assumption)
                              obtain ⟨ad118, e118, hx118_0⟩ := Kd.at_string HR1.out t115 p118 q118
                              obtain rfl : ad117 = ad118 := (by injection e118)
                              replace hx118_0 := (HB.out.cell (World.block_lt_of_cell? w _ hx118_0)).trans hx118_0
                              replace p118 := eq_true p118
                              replace q118 := eq_true q118
                              have p24 : 0 ≤ ((ji21) : Int) := of_decide_eq_true (by first | (with_reducible assumption) | assumption)
                              have q24 : (ji21) < ((rdOf ByteArray.empty l1 t115).size : Int) := of_decide_eq_true (by first | (with_reducible assumption) | assumption)
                              have hx24 := bt_at (rdOf ByteArray.empty l1 t115) (ji21)
                              replace p24 := eq_true p24
                              replace q24 := eq_true q24
                              go_wp2
                              repeat (go_quiet (fail); try go_wp2)
                              go_ret2
                              exact ⟨_, by first | rfl | (simp [errW_none, errW_some] <;> rfl) | (simp only [← hji21]; first | rfl | (simp [errW_none, errW_some] <;> rfl)) | (simp [*, errW_none, errW_some] <;> rfl), by first | exact Kd.S_nil _ _ _ _ _ | exact Kd.N_nil _ _ _ _ _ | exact Kd.V_nil _ _ _ _ _ | exact Kd.Q_nil _ _ _ _ _ | exact Kd.R_nil _ _ _ _ _, by repeat (first | (with_reducible first | exact HB.out | apply below_alloc | apply pw_below_drewN | apply below_drew1) | exact HB.out)⟩
                            · rw [if_neg c25] at H
                              have c25b0 : decide ((x0_1.length : Int) < (1 + (((bt (rdOf ByteArray.empty l1 t115) (ji21)) - 48) % 256))) = false := decide_eq_false c25
                              clear c25
                              by_cases c26 : 1 ≤ (1 + (((bt (rdOf ByteArray.empty l1 t115) (ji21)) - 48) % 256))
                              · rw [if_pos c26] at H
                                have c26b0 := eq_true c26
                                have c26b1 : decide (1 ≤ (1 + (((bt (rdOf ByteArray.empty l1 t115) (ji21)) - 48) % 256))) = true := decide_eq_true c26
                                by_cases c27 : (1 + (((bt (rdOf ByteArray.empty l1 t115) (ji21)) - 48) % 256)) ≤ (x0_1.length : Int)
                                · rw [if_pos c27] at H
                                  have c27b0 := eq_true c27
                                  have c27b1 : decide ((1 + (((bt (rdOf ByteArray.empty l1 t115) (ji21)) - 48) % 256)) ≤ (x0_1.length : Int)) = true := decide_eq_true c27
                                  obtain ⟨y119, hy119⟩ : ∃ y_ : List ByteArray, y_ = ((x0_1.take ((1 + (((bt (rdOf ByteArray.empty l1 t115) (ji21)) - 48) % 256)) : Int).toNat).drop 1) := ⟨_, rfl⟩
                                  replace H : ((slices_Clone_string_string.f y119).bind fun t124 => (if t115 < (x6_1.length : Int) then (if 0 ≤ (1 + (((bt (rdOf ByteArray.empty l1 t115) (ji21)) - 48) % 256)) then (args_Options.l0 kj10 (x0_1.drop ((1 + (((bt (rdOf ByteArray.empty l1 t115) (ji21)) - 48) % 256)) : Int).toNat) l1 (x6_1.set (t115 : Int).toNat (⟨true, t124⟩ : S38))) else (none)) else (none))) = some (r1, r2) := by first | (rw [hy119]; with_reducible exact H) | (have H2_ := (Option.bind_some _ _).symm.trans H; rw [hy119]; with_reducible exact H2_) | (have H2_ := (Option.bind_some _ _).symm.trans H; with_reducible exact H2_) | with_reducible exact H | (rw [hy119]; exact H) | exact H
                                  have Ny119 := Aside0.mk hy119
                                  clear hy119
                                  replace H := Option.bind_eq_some_iff.mp H
                                  obtain ⟨t124, A280, H⟩ := H
                                  replace H : (if t115 < (x6_1.length : Int) then (if 0 ≤ (1 + (((bt (rdOf ByteArray.empty l1 t115) (ji21)) - 48) % 256)) then (args_Options.l0 kj10 (x0_1.drop ((1 + (((bt (rdOf ByteArray.empty l1 t115) (ji21)) - 48) % 256)) : Int).toNat) l1 (x6_1.set (t115 : Int).toNat (⟨true, t124⟩ : S38))) else (none)) else (none)) = some (r1, r2) := H
                                  have A28 := Aside0.mk A280
                                  clear A280
                                  by_cases c29 : t115 < (x6_1.length : Int)
                                  · rw [if_pos c29] at H
                                    have c29b0 : decide (t115 < (x6_1.length : Int)) = true := decide_eq_true c29
                                    clear c29
                                    obtain ⟨y127, hy127⟩ : ∃ y_ : List (S38), y_ = (x6_1.set (t115 : Int).toNat (⟨true, t124⟩ : S38)) := ⟨_, rfl⟩
                                    replace H : (if 0 ≤ (1 + (((bt (rdOf ByteArray.empty l1 t115) (ji21)) - 48) % 256)) then (args_Options.l0 kj10 (x0_1.drop ((1 + (((bt (rdOf ByteArray.empty l1 t115) (ji21)) - 48) % 256)) : Int).toNat) l1 y127) else (none)) = some (r1, r2) := by first | (rw [hy127]; with_reducible exact H) | (have H2_ := (Option.bind_some _ _).symm.trans H; rw [hy127]; with_reducible exact H2_) | (have H2_ := (Option.bind_some _ _).symm.trans H; with_reducible exact H2_) | with_reducible exact H | (rw [hy127]; exact H) | exact H
                                    have Ny127 := Aside0.mk hy127
                                    clear hy127
                                    obtain ⟨ji31, hji31⟩ : ∃ j_ : Int, (1 + (((bt (rdOf ByteArray.empty l1 t115) (ji21)) - 48) % 256)) = j_ := ⟨_, rfl⟩
                                    replace H : (if 0 ≤ (ji31) then (args_Options.l0 kj10 (x0_1.drop ((ji31) : Int).toNat) l1 y127) else (none)) = some (r1, r2) := by first | (rw [hji31] at H; exact H) | (simp only [hji31] at H ⊢; exact H)
                                    (try rw [hji31] at c25b0)
                                    (try rw [hji31] at c26b0)
                                    (try rw [hji31] at c26b1)
                                    (try rw [hji31] at c26)
                                    (try rw [hji31] at c27b0)
                                    (try rw [hji31] at c27b1)
                                    (try rw [hji31] at c27)
                                    (try rw [hji31] at Ny119)
                                    (try rw [hji31] at A28)
                                    by_cases c32 : 0 ≤ (ji31)
                                    · rw [if_pos c32] at H
                                      have c32b0 := eq_true c32
                                      have c32b1 : decide (0 ≤ (ji31)) = true := decide_eq_true c32
                                      clear c32
                                      have c33b0 := eq_true (of_decide_eq_true (by first | (with_reducible assumption) | assumption) : (ji31) ≤ (x0_1.length : Int))
                                      obtain ⟨y128, hy128⟩ : ∃ y_ : List ByteArray, y_ = (x0_1.drop ((ji31) : Int).toNat) := ⟨_, rfl⟩
                                      replace H : (args_Options.l0 kj10 y128 l1 y127) = some (r1, r2) := by first | (rw [hy128]; with_reducible exact H) | (have H2_ := (Option.bind_some _ _).symm.trans H; rw [hy128]; with_reducible exact H2_) | (have H2_ := (Option.bind_some _ _).symm.trans H; with_reducible exact H2_) | with_reducible exact H | (rw [hy128]; exact H) | exact H
                                      have Ny128 := Aside0.mk hy128
                                      clear hy128
                                      have H' := Aside0.mk H
                                      clear H
                                      have p117 : 0 ≤ (t115 : Int) := of_decide_eq_true (by first | (with_reducible assumption) | assumption)
                                      have q117 : t115 < (l1.length : Int) := of_decide_eq_true (by first | (with_reducible assumption) | assumption)
                                      obtain ⟨ad117, e117, hx117_0⟩ := Kd.at_string HR1.out t115 p117 q117
                                      cases e117
                                      replace hx117_0 := (HB.out.cell (World.block_lt_of_cell? w _ hx117_0)).trans hx117_0
                                      replace p117 := eq_true p117
                                      replace q117 := eq_true q117
                                      have p118 : 0 ≤ (t115 : Int) := of_decide_eq_true (by first | (with_reducible assumption) | assumption)
                                      have q118 : t115 < (l1.length : Int) := of_decide_eq_true (by first | (with_reducible assumption) | assumption)
                                      obtain ⟨ad118, e118, hx118_0⟩ := Kd.at_string HR1.out t115 p118 q118
                                      obtain rfl : ad117 = ad118 := (by injection e118)
                                      replace hx118_0 := (HB.out.cell (World.block_lt_of_cell? w _ hx118_0)).trans hx118_0
                                      replace p118 := eq_true p118
                                      replace q118 := eq_true q118
                                      have p24 : 0 ≤ ((ji21) : Int) := of_decide_eq_true (by first | (with_reducible assumption) | assumption)
                                      have q24 : (ji21) < ((rdOf ByteArray.empty l1 t115).size : Int) := of_decide_eq_true (by first | (with_reducible assumption) | assumption)
                                      have hx24 := bt_at (rdOf ByteArray.empty l1 t115) (ji21)
                                      replace p24 := eq_true p24
                                      replace q24 := eq_true q24
                                      have q34 : ((ji31) : Int) ≤ ((x0_1.length : Int) : Int) := of_decide_eq_true (by first | (with_reducible assumption) | assumption)
                                      obtain ⟨i034, hi034, _, hsz34, _⟩ := info_parts info9
                                      have hroom34 : x0_1.length ≤ co12 := (Kd.V_reads' HO_0.out).2.1
                                      have hC34 : Kd.F Kd.string _ _ (some ad113) x0_1.length x0_1 := (Kd.V_at (base := w.heap.size) HO_0.out).2.2
                                      have ql34 : (1 : Int) ≤ ((ji31) : Int) := of_decide_eq_true (by first | (with_reducible assumption) | assumption)
                                      have hcut34 := cut_mid (P := Try.prog) 22 9 .i64 .i64 Try.underlying22 hi034 1 hsz34 (some ad113) x0_1.length co12 1 (ji31) (by omega) ql34 q34 hroom34
                                      have hr34 := Kd.F_mid (lo := (1 : Int).toNat) (hi := ((ji31) : Int).toNat) (c := co12) hC34 (by omega) (by omega) hroom34
                                      obtain ⟨A34, hA34⟩ : ∃ A1, A1 = (if co12 = (1 : Int).toNat then (some ad113) else ((some ad113) : Option Addr).map (·.add ((1 : Int).toNat * 1))) := ⟨_, rfl⟩
                                      obtain ⟨c34, hc34⟩ : ∃ c1, c1 = co12 - (1 : Int).toNat := ⟨_, rfl⟩
                                      have hy34 : y119.length = ((ji31) : Int).toNat - (1 : Int).toNat := (by rw [Ny119.out, List.length_drop, List.length_take] <;> omega)
                                      rw [show ((x0_1).take ((ji31) : Int).toNat).drop (1 : Int).toNat = y119 from Ny119.out.symm] at hr34
                                      replace hr34 : Kd.F Kd.string _ _ A34 y119.length y119 := (by rw [hA34]; exact hr34)
                                      rw [← hy34, ← hA34, ← hc34] at hcut34
                                      have HO123 := Aside0.mk (show Kd.V Kd.string 9 _ w.heap.size _ (.slice A34 y119.length c34) y119 from Kd.V_mk (by rw [hy34, hc34]; exact Nat.sub_le_sub_right (Nat.le_trans (by omega) hroom34) _) hr34)
                                      have HC123 := Aside0.mk (show y119.length ≤ c34 from by rw [hy34, hc34]; exact Nat.sub_le_sub_right (Nat.le_trans (by omega) hroom34) _)
                                      clear hr34 hC34 hroom34 hi034 hsz34 hc34
                                      have KY34 := Aside0.mk hy34
                                      have KA34 := Aside0.mk hA34
                                      clear hy34 hA34
                                      replace q34 := eq_true q34
                                      go_wp2_with (first | (go_at_call 26; (with_reducible refine (slices_Clone_string_string.calls _ _ y119 t124 _ ?side1 ?side2 A28.out).mono ?_); (case side1 => repeat (first | exact (Kd.V_reads' HO123.out).2.2 | (with_reducible refine Kd.C_alloc ?_ _) | (with_reducible refine Kd.C_drewN ?_ _) | (with_reducible refine Kd.C_drew ?_))); (case side2 => exact (Kd.V_reads' HO123.out).2.1); rintro e w35 ⟨v125, rfl, ho0, hb⟩; have n0_ := Aside0.mk (Kd.V_elder' (by (with_reducible repeat (first | apply Kd.V_alloc | apply Kd.V_drewN | apply Kd.V_drew)); exact HO_0.out) (Kd.R_base ho0) hb); have n1_ := Aside0.mk (Kd.S_elder' (by (with_reducible repeat (first | apply Kd.S_alloc | apply Kd.S_drewN | apply Kd.S_drew)); exact HO_6.out) (Kd.R_base ho0) hb); have n2_ := Aside0.mk (Kd.V_elder' (by (with_reducible repeat (first | apply Kd.V_alloc | apply Kd.V_drewN | apply Kd.V_drew)); exact HO123.out) (Kd.R_base ho0) hb); have n3_ := Aside0.mk (Kd.R_lower (Kd.R_newM (M := fun k_ => (w.heap.size ≤ k_)) ho0 (below_size (by repeat (first | (with_reducible first | exact HB.out | apply below_alloc | apply pw_below_drewN | apply below_drew1) | exact HB.out))) (fun k_ h_ => h_)) (below_size (by repeat (first | (with_reducible first | exact HB.out | apply below_alloc | apply pw_below_drewN | apply below_drew1) | exact HB.out)))); have n4_ := Aside0.mk (below_step (by repeat (first | (with_reducible first | exact HB.out | apply below_alloc | apply pw_below_drewN | apply below_drew1) | exact HB.out)) hb); clear HO_0; clear HO_6; clear HO123; clear HB; have HO_0 := n0_; have HO_6 := n1_; have HO123 := n2_; have HO126 := n3_; have HB := n4_; clear n0_ n1_ n2_ n3_ n4_; (try clear hb); (try clear hb2); (try clear hk); (try clear hi); (try clear ho0); obtain ⟨Ao36, co36, eo36⟩ := Kd.R_slice HO126.out; subst eo36; have p30 : 0 ≤ (t115 : Int) := of_decide_eq_true (by first | (with_reducible assumption) | assumption); have q30 : (t115 : Int) < ((x6_1.length : Int) : Int) := of_decide_eq_true (by first | (with_reducible assumption) | assumption); obtain ⟨go30, co30, eo30, gb30, gl30, cl30, HG30⟩ := Kd.S_form HO_6.out (by omega); (first | cases eo30 | (injection eo30 with ea_ en_ ec_; (first | subst ea_ | (injection ea_ with ea_; subst ea_)); subst ec_; clear en_)); have GB30 := Aside0.mk gb30; have GG30 := Aside0.mk HG30; clear gb30 gl30 HG30; obtain ⟨_, ce30, hcl30, hM30, hcc30, hfr30, _, _⟩ := Kd.S_elem HO_6.out z38 (t115 : Int) p30 q30; obtain ⟨ve30_1, rfl, ge30_1⟩ := k38_openM hM30; have hx30_0 : w35.cell? ⟨go30, (t115 : Int).toNat * 2, none⟩ = some (.bool ((rd_T38 x6_1 t115).f0)) := hcc30 0 _ rfl; have hx30_1 : w35.cell? ⟨go30, (t115 : Int).toNat * 2 + 1, none⟩ = some (ve30_1) := hcc30 1 _ rfl; have hf30_0 : w35.frozen? ⟨go30, (t115 : Int).toNat * 2, none⟩ = false := hfr30 0; have hf30_1 : w35.frozen? ⟨go30, (t115 : Int).toNat * 2 + 1, none⟩ = false := hfr30 1; clear hcl30 hcc30 hfr30 hM30; replace p30 := eq_true p30; replace q30 := eq_true q30; have HX37 := Aside0.mk (show Kd.S k38 38 w35 w.heap.size (fun k_ => ((fun k_ => (w.heap.size ≤ k_))) k_ ∧ ¬ ((fun k_ => some k_ = (.slice Ao36 t124.length co36 : Value).ownBlock)) k_) (.slice (some ⟨go30, 0, none⟩) x6_1.length co30) x6_1 from (by (with_reducible repeat (first | apply Kd.S_alloc | apply Kd.S_drewN | apply Kd.S_drew)); exact Kd.S_mono HO_6.out (fun k_ hk => ⟨hk.1, fun e_ => hk.2 e_⟩))); obtain ⟨oki37, ce37, hcl37, hM37, hcc37, hfr37, hoki37, hH37⟩ := Kd.S_elem HX37.out z38 (t115 : Int) (of_decide_eq_true (by first | (with_reducible assumption) | assumption)) (by have h_ : (t115 : Int) < ((x6_1.length : Int) : Int) := of_decide_eq_true (by first | (with_reducible assumption) | assumption); first | exact h_ | (have e_ := (Kd.S_reads' HO_6.out).1; omega) | simpa using h_); obtain ⟨ve37_1, rfl, ge37_1⟩ := k38_openM hM37; have HP37 := Kd.S_seg hH37 (of_decide_eq_true (by first | (with_reducible assumption) | assumption)) (by have h_ : (t115 : Int) < ((x6_1.length : Int) : Int) := of_decide_eq_true (by first | (with_reducible assumption) | assumption); first | exact h_ | (have e_ := (Kd.S_reads' HO_6.out).1; omega) | simpa using h_) (seg := [.bool true, .slice Ao36 t124.length co36]) (j := 0) (show 2 ≤ 2 from by decide) (x' := (⟨true, t124⟩ : S38)) (k38_mkM _ _ _ (⟨true, t124⟩ : S38) (Kd.R_mono (Kd.R_tight rfl (Kd.R_mono (ok' := fun k_ => ((fun k_ => (w.heap.size ≤ k_))) k_ ∧ k_ ≠ go30) (Kd.R_apart' (HO126.out) (Kd.S_typed HO_6.out) (by decide)) (fun k_ hk => ⟨hk.1.1, fun e_ => (hk.2) (by rw [e_]; rfl)⟩))) (fun _ h_ => Or.inr (h_)))) (fun _ hk => hk) (fun k_ hk_ => ((Kd.R_mono (ok' := fun k_ => ((fun k_ => (w.heap.size ≤ k_))) k_ ∧ k_ ≠ go30) (Kd.R_apart' (HO126.out) (Kd.S_typed HO_6.out) (by decide)) (fun k_ hk => ⟨hk.1.1, fun e_ => (hk.2) (by rw [e_]; rfl)⟩))).1 k_ hk_.symm); have hx37_0 := hcc37 0 _ rfl; (try simp only [show (k38).sz = 2 from rfl, Nat.mul_one, Nat.add_zero] at hx37_0); have hf37_0 := hfr37 0; (try simp only [show (k38).sz = 2 from rfl, Nat.mul_one, Nat.add_zero] at hf37_0); have hx37_1 := hcc37 1 _ rfl; (try simp only [show (k38).sz = 2 from rfl, Nat.mul_one, Nat.add_zero] at hx37_1); have hf37_1 := hfr37 1; (try simp only [show (k38).sz = 2 from rfl, Nat.mul_one, Nat.add_zero] at hf37_1); clear hcl37 hcc37 hfr37 hM37 hoki37 hH37) | ((with_reducible refine gate_store (t := 38) (p := 57) rfl ?_); (try (rw [drewN_self w35]; generalize hq_ : World.drewN w35 _ = w35; have n0_ := Aside0.mk (Kd.V_at hq_ HO_0.out); have n1_ := Aside0.mk (Kd.S_at hq_ HO_6.out); have n2_ := Aside0.mk (Kd.V_at hq_ HO123.out); have n3_ := Aside0.mk (below_at hq_ HB.out); clear hq_ HO_0 HO_6 HO123 HB; have HO_0 := n0_; have HO_6 := n1_; have HO123 := n2_; have HB := n3_; clear n0_ n1_ n2_ n3_; (try (have HX37 := Aside0.mk (show Kd.S k38 38 w35 w.heap.size (fun k_ => ((fun k_ => (w.heap.size ≤ k_))) k_ ∧ ¬ ((fun k_ => some k_ = (.slice Ao36 t124.length co36 : Value).ownBlock)) k_) (.slice (some ⟨go30, 0, none⟩) x6_1.length co30) x6_1 from (by (with_reducible repeat (first | apply Kd.S_alloc | apply Kd.S_drewN | apply Kd.S_drew)); exact Kd.S_mono HO_6.out (fun k_ hk => ⟨hk.1, fun e_ => hk.2 e_⟩))))); (try (obtain ⟨oki37, ce37, hcl37, hM37, hcc37, hfr37, hoki37, hH37⟩ := Kd.S_elem HX37.out z38 (t115 : Int) (of_decide_eq_true (by first | (with_reducible assumption) | assumption)) (by have h_ : (t115 : Int) < ((x6_1.length : Int) : Int) := of_decide_eq_true (by first | (with_reducible assumption) | assumption); first | exact h_ | (have e_ := (Kd.S_reads' HO_6.out).1; omega) | simpa using h_))); (try (obtain ⟨ve37_1, rfl, ge37_1⟩ := k38_openM hM37)); (try (have HP37 := Kd.S_seg hH37 (of_decide_eq_true (by first | (with_reducible assumption) | assumption)) (by have h_ : (t115 : Int) < ((x6_1.length : Int) : Int) := of_decide_eq_true (by first | (with_reducible assumption) | assumption); first | exact h_ | (have e_ := (Kd.S_reads' HO_6.out).1; omega) | simpa using h_) (seg := [.bool true, .slice Ao36 t124.length co36]) (j := 0) (show 2 ≤ 2 from by decide) (x' := (⟨true, t124⟩ : S38)) (k38_mkM _ _ _ (⟨true, t124⟩ : S38) (Kd.R_mono (Kd.R_tight rfl (Kd.R_mono (ok' := fun k_ => ((fun k_ => (w.heap.size ≤ k_))) k_ ∧ k_ ≠ go30) (Kd.R_apart' (HO126.out) (Kd.S_typed HO_6.out) (by decide)) (fun k_ hk => ⟨hk.1.1, fun e_ => (hk.2) (by rw [e_]; rfl)⟩))) (fun _ h_ => Or.inr (h_)))) (fun _ hk => hk) (fun k_ hk_ => ((Kd.R_mono (ok' := fun k_ => ((fun k_ => (w.heap.size ≤ k_))) k_ ∧ k_ ≠ go30) (Kd.R_apart' (HO126.out) (Kd.S_typed HO_6.out) (by decide)) (fun k_ hk => ⟨hk.1.1, fun e_ => (hk.2) (by rw [e_]; rfl)⟩))).1 k_ hk_.symm))); (try (have hx37_0 := hcc37 0 _ rfl)); (try (try simp only [show (k38).sz = 2 from rfl, Nat.mul_one, Nat.add_zero] at hx37_0)); (try (have hf37_0 := hfr37 0)); (try (try simp only [show (k38).sz = 2 from rfl, Nat.mul_one, Nat.add_zero] at hf37_0)); (try (have hx37_1 := hcc37 1 _ rfl)); (try (try simp only [show (k38).sz = 2 from rfl, Nat.mul_one, Nat.add_zero] at hx37_1)); (try (have hf37_1 := hfr37 1)); (try (try simp only [show (k38).sz = 2 from rfl, Nat.mul_one, Nat.add_zero] at hf37_1)); (try (clear hcl37 hcc37 hfr37 hM37 hoki37 hH37)))); refine store_event (t := 38) (p := 57) (v := ?vo_w38) (w1 := ((w35.setCell ⟨go30, (t115 : Int).toNat * 2, none⟩ (.bool true)).setCell ⟨go30, (t115 : Int).toNat * 2 + 1, none⟩ (.slice Ao36 t124.length co36))) ?hg ?ho ?hn ?hr ?_; (case ho => rfl); (case hg => rfl); (case hn => rfl); (case hr => first | (go_simp; done) | (go_simp; rfl)); intro w38 hw; have hg : w35.grownBy w38 (some go30) := (by rw [hw]; exact HP37.2); have hp_ : Kd.S k38 38 w38 w.heap.size (fun k_ => (w.heap.size ≤ k_)) (.slice (some ⟨go30, 0, none⟩) x6_1.length co30) y127 := (by rw [hw, Ny127.out]; exact HP37.1); clear HP37; have n0_ := Aside0.mk (Kd.V_afterv (v := (.slice (some ⟨go30, 0, none⟩) x6_1.length co30)) (v1 := (.slice (some ⟨go30, 0, none⟩) x6_1.length co30)) (ok := (fun k_ => (P0_ k_ ∨ w.heap.size ≤ k_) ∧ some k_ ≠ (.slice Ao36 t124.length co36 : Value).ownBlock)) (by (with_reducible repeat (first | apply Kd.V_alloc | apply Kd.V_drewN | apply Kd.V_drew)); exact Kd.V_mono HO_0.out (fun _ hk => ⟨⟨hk.1.1, hk.2⟩, hk.1.2⟩)) hg (.inl rfl)); have n1_ := Aside0.mk (hp_); have n2_ := Aside0.mk (Kd.V_afterv (v := (.slice (some ⟨go30, 0, none⟩) x6_1.length co30)) (v1 := (.slice (some ⟨go30, 0, none⟩) x6_1.length co30)) (ok := (fun k_ => (P0_ k_ ∨ w.heap.size ≤ k_) ∧ some k_ ≠ (.slice Ao36 t124.length co36 : Value).ownBlock)) (by (with_reducible repeat (first | apply Kd.V_alloc | apply Kd.V_drewN | apply Kd.V_drew)); exact Kd.V_mono HO123.out (fun _ hk => ⟨⟨hk.1.1, hk.2⟩, hk.1.2⟩)) hg (.inl rfl)); have n3_ := Aside0.mk ((by rw [hw]; exact below_set (below_set (HB.out) GB30.out) GB30.out : Below w.heap.size w w38)); clear HO_0; clear HO_6; clear HO123; clear HB; clear HO126; have HO_0 := n0_; have HO_6 := n1_; have HO123 := n2_; have HB := n3_; clear n0_ n1_ n2_ n3_; clear hg hw hp_; have q39 : ((ji31) : Int) ≤ ((x0_1.length : Int) : Int) := of_decide_eq_true (by first | (with_reducible assumption) | assumption); obtain ⟨i039, hi039, _, hsz39, _⟩ := info_parts info9; have hroom39 : x0_1.length ≤ co12 := (Kd.V_reads' HO_0.out).2.1; have hC39 : Kd.F Kd.string _ _ (some ad113) x0_1.length x0_1 := (Kd.V_at (base := w.heap.size) HO_0.out).2.2; have q039 : (0 : Int) ≤ ((ji31) : Int) := of_decide_eq_true (by first | (with_reducible assumption) | assumption); have hcut39 := cut_from (P := Try.prog) 22 9 .i64 Try.underlying22 hi039 1 hsz39 (some ad113) x0_1.length co12 (ji31) q039 q39; have hr39 := Kd.F_cut (m := ((ji31) : Int).toNat) (c := co12) hC39 (by omega) hroom39; obtain ⟨A39, hA39⟩ : ∃ A1, A1 = (if co12 = ((ji31) : Int).toNat then (some ad113) else ((some ad113) : Option Addr).map (·.add (((ji31) : Int).toNat * 1))) := ⟨_, rfl⟩; obtain ⟨c39, hc39⟩ : ∃ c1, c1 = co12 - ((ji31) : Int).toNat := ⟨_, rfl⟩; have hy39 : y128.length = x0_1.length - ((ji31) : Int).toNat := (by rw [Ny128.out, List.length_drop] <;> omega); rw [show (x0_1).drop ((ji31) : Int).toNat = y128 from Ny128.out.symm] at hr39; replace hr39 : Kd.F Kd.string _ _ A39 y128.length y128 := (by rw [hA39]; exact hr39); rw [← hy39, ← hA39, ← hc39] at hcut39; have HO132 := Aside0.mk (show Kd.V Kd.string 9 _ w.heap.size _ (.slice A39 y128.length c39) y128 from Kd.V_mk (by rw [hy39, hc39]; exact Nat.sub_le_sub_right hroom39 _) hr39); have HC132 := Aside0.mk (show y128.length ≤ c39 from by rw [hy39, hc39]; exact Nat.sub_le_sub_right hroom39 _); clear hr39 hC39 hroom39 hi039 hsz39 hc39; have KY39 := Aside0.mk hy39; have KA39 := Aside0.mk hA39; clear hy39 hA39; replace q39 := eq_true q39))
                                      repeat (go_quiet (first | (go_at_call 26; (with_reducible refine (slices_Clone_string_string.calls _ _ y119 t124 _ ?side1 ?side2 A28.out).mono ?_); (case side1 => repeat (first | exact (Kd.V_reads' HO123.out).2.2 | (with_reducible refine Kd.C_alloc ?_ _) | (with_reducible refine Kd.C_drewN ?_ _) | (with_reducible refine Kd.C_drew ?_))); (case side2 => exact (Kd.V_reads' HO123.out).2.1); rintro e w35 ⟨v125, rfl, ho0, hb⟩; have n0_ := Aside0.mk (Kd.V_elder' (by (with_reducible repeat (first | apply Kd.V_alloc | apply Kd.V_drewN | apply Kd.V_drew)); exact HO_0.out) (Kd.R_base ho0) hb); have n1_ := Aside0.mk (Kd.S_elder' (by (with_reducible repeat (first | apply Kd.S_alloc | apply Kd.S_drewN | apply Kd.S_drew)); exact HO_6.out) (Kd.R_base ho0) hb); have n2_ := Aside0.mk (Kd.V_elder' (by (with_reducible repeat (first | apply Kd.V_alloc | apply Kd.V_drewN | apply Kd.V_drew)); exact HO123.out) (Kd.R_base ho0) hb); have n3_ := Aside0.mk (Kd.R_lower (Kd.R_newM (M := fun k_ => (w.heap.size ≤ k_)) ho0 (below_size (by repeat (first | (with_reducible first | exact HB.out | apply below_alloc | apply pw_below_drewN | apply below_drew1) | exact HB.out))) (fun k_ h_ => h_)) (below_size (by repeat (first | (with_reducible first | exact HB.out | apply below_alloc | apply pw_below_drewN | apply below_drew1) | exact HB.out)))); have n4_ := Aside0.mk (below_step (by repeat (first | (with_reducible first | exact HB.out | apply below_alloc | apply pw_below_drewN | apply below_drew1) | exact HB.out)) hb); clear HO_0; clear HO_6; clear HO123; clear HB; have HO_0 := n0_; have HO_6 := n1_; have HO123 := n2_; have HO126 := n3_; have HB := n4_; clear n0_ n1_ n2_ n3_ n4_; (try clear hb); (try clear hb2); (try clear hk); (try clear hi); (try clear ho0); obtain ⟨Ao36, co36, eo36⟩ := Kd.R_slice HO126.out; subst eo36; have p30 : 0 ≤ (t115 : Int) := of_decide_eq_true (by first | (with_reducible assumption) | assumption); have q30 : (t115 : Int) < ((x6_1.length : Int) : Int) := of_decide_eq_true (by first | (with_reducible assumption) | assumption); obtain ⟨go30, co30, eo30, gb30, gl30, cl30, HG30⟩ := Kd.S_form HO_6.out (by omega); (first | cases eo30 | (injection eo30 with ea_ en_ ec_; (first | subst ea_ | (injection ea_ with ea_; subst ea_)); subst ec_; clear en_)); have GB30 := Aside0.mk gb30; have GG30 := Aside0.mk HG30; clear gb30 gl30 HG30; obtain ⟨_, ce30, hcl30, hM30, hcc30, hfr30, _, _⟩ := Kd.S_elem HO_6.out z38 (t115 : Int) p30 q30; obtain ⟨ve30_1, rfl, ge30_1⟩ := k38_openM hM30; have hx30_0 : w35.cell? ⟨go30, (t115 : Int).toNat * 2, none⟩ = some (.bool ((rd_T38 x6_1 t115).f0)) := hcc30 0 _ rfl; have hx30_1 : w35.cell? ⟨go30, (t115 : Int).toNat * 2 + 1, none⟩ = some (ve30_1) := hcc30 1 _ rfl; have hf30_0 : w35.frozen? ⟨go30, (t115 : Int).toNat * 2, none⟩ = false := hfr30 0; have hf30_1 : w35.frozen? ⟨go30, (t115 : Int).toNat * 2 + 1, none⟩ = false := hfr30 1; clear hcl30 hcc30 hfr30 hM30; replace p30 := eq_true p30; replace q30 := eq_true q30; have HX37 := Aside0.mk (show Kd.S k38 38 w35 w.heap.size (fun k_ => ((fun k_ => (w.heap.size ≤ k_))) k_ ∧ ¬ ((fun k_ => some k_ = (.slice Ao36 t124.length co36 : Value).ownBlock)) k_) (.slice (some ⟨go30, 0, none⟩) x6_1.length co30) x6_1 from (by (with_reducible repeat (first | apply Kd.S_alloc | apply Kd.S_drewN | apply Kd.S_drew)); exact Kd.S_mono HO_6.out (fun k_ hk => ⟨hk.1, fun e_ => hk.2 e_⟩))); obtain ⟨oki37, ce37, hcl37, hM37, hcc37, hfr37, hoki37, hH37⟩ := Kd.S_elem HX37.out z38 (t115 : Int) (of_decide_eq_true (by first | (with_reducible assumption) | assumption)) (by have h_ : (t115 : Int) < ((x6_1.length : Int) : Int) := of_decide_eq_true (by first | (with_reducible assumption) | assumption); first | exact h_ | (have e_ := (Kd.S_reads' HO_6.out).1; omega) | simpa using h_); obtain ⟨ve37_1, rfl, ge37_1⟩ := k38_openM hM37; have HP37 := Kd.S_seg hH37 (of_decide_eq_true (by first | (with_reducible assumption) | assumption)) (by have h_ : (t115 : Int) < ((x6_1.length : Int) : Int) := of_decide_eq_true (by first | (with_reducible assumption) | assumption); first | exact h_ | (have e_ := (Kd.S_reads' HO_6.out).1; omega) | simpa using h_) (seg := [.bool true, .slice Ao36 t124.length co36]) (j := 0) (show 2 ≤ 2 from by decide) (x' := (⟨true, t124⟩ : S38)) (k38_mkM _ _ _ (⟨true, t124⟩ : S38) (Kd.R_mono (Kd.R_tight rfl (Kd.R_mono (ok' := fun k_ => ((fun k_ => (w.heap.size ≤ k_))) k_ ∧ k_ ≠ go30) (Kd.R_apart' (HO126.out) (Kd.S_typed HO_6.out) (by decide)) (fun k_ hk => ⟨hk.1.1, fun e_ => (hk.2) (by rw [e_]; rfl)⟩))) (fun _ h_ => Or.inr (h_)))) (fun _ hk => hk) (fun k_ hk_ => ((Kd.R_mono (ok' := fun k_ => ((fun k_ => (w.heap.size ≤ k_))) k_ ∧ k_ ≠ go30) (Kd.R_apart' (HO126.out) (Kd.S_typed HO_6.out) (by decide)) (fun k_ hk => ⟨hk.1.1, fun e_ => (hk.2) (by rw [e_]; rfl)⟩))).1 k_ hk_.symm); have hx37_0 := hcc37 0 _ rfl; (try simp only [show (k38).sz = 2 from rfl, Nat.mul_one, Nat.add_zero] at hx37_0); have hf37_0 := hfr37 0; (try simp only [show (k38).sz = 2 from rfl, Nat.mul_one, Nat.add_zero] at hf37_0); have hx37_1 := hcc37 1 _ rfl; (try simp only [show (k38).sz = 2 from rfl, Nat.mul_one, Nat.add_zero] at hx37_1); have hf37_1 := hfr37 1; (try simp only [show (k38).sz = 2 from rfl, Nat.mul_one, Nat.add_zero] at hf37_1); clear hcl37 hcc37 hfr37 hM37 hoki37 hH37) | ((with_reducible refine gate_store (t := 38) (p := 57) rfl ?_); (try (rw [drewN_self w35]; generalize hq_ : World.drewN w35 _ = w35; have n0_ := Aside0.mk (Kd.V_at hq_ HO_0.out); have n1_ := Aside0.mk (Kd.S_at hq_ HO_6.out); have n2_ := Aside0.mk (Kd.V_at hq_ HO123.out); have n3_ := Aside0.mk (below_at hq_ HB.out); clear hq_ HO_0 HO_6 HO123 HB; have HO_0 := n0_; have HO_6 := n1_; have HO123 := n2_; have HB := n3_; clear n0_ n1_ n2_ n3_; (try (have HX37 := Aside0.mk (show Kd.S k38 38 w35 w.heap.size (fun k_ => ((fun k_ => (w.heap.size ≤ k_))) k_ ∧ ¬ ((fun k_ => some k_ = (.slice Ao36 t124.length co36 : Value).ownBlock)) k_) (.slice (some ⟨go30, 0, none⟩) x6_1.length co30) x6_1 from (by (with_reducible repeat (first | apply Kd.S_alloc | apply Kd.S_drewN | apply Kd.S_drew)); exact Kd.S_mono HO_6.out (fun k_ hk => ⟨hk.1, fun e_ => hk.2 e_⟩))))); (try (obtain ⟨oki37, ce37, hcl37, hM37, hcc37, hfr37, hoki37, hH37⟩ := Kd.S_elem HX37.out z38 (t115 : Int) (of_decide_eq_true (by first | (with_reducible assumption) | assumption)) (by have h_ : (t115 : Int) < ((x6_1.length : Int) : Int) := of_decide_eq_true (by first | (with_reducible assumption) | assumption); first | exact h_ | (have e_ := (Kd.S_reads' HO_6.out).1; omega) | simpa using h_))); (try (obtain ⟨ve37_1, rfl, ge37_1⟩ := k38_openM hM37)); (try (have HP37 := Kd.S_seg hH37 (of_decide_eq_true (by first | (with_reducible assumption) | assumption)) (by have h_ : (t115 : Int) < ((x6_1.length : Int) : Int) := of_decide_eq_true (by first | (with_reducible assumption) | assumption); first | exact h_ | (have e_ := (Kd.S_reads' HO_6.out).1; omega) | simpa using h_) (seg := [.bool true, .slice Ao36 t124.length co36]) (j := 0) (show 2 ≤ 2 from by decide) (x' := (⟨true, t124⟩ : S38)) (k38_mkM _ _ _ (⟨true, t124⟩ : S38) (Kd.R_mono (Kd.R_tight rfl (Kd.R_mono (ok' := fun k_ => ((fun k_ => (w.heap.size ≤ k_))) k_ ∧ k_ ≠ go30) (Kd.R_apart' (HO126.out) (Kd.S_typed HO_6.out) (by decide)) (fun k_ hk => ⟨hk.1.1, fun e_ => (hk.2) (by rw [e_]; rfl)⟩))) (fun _ h_ => Or.inr (h_)))) (fun _ hk => hk) (fun k_ hk_ => ((Kd.R_mono (ok' := fun k_ => ((fun k_ => (w.heap.size ≤ k_))) k_ ∧ k_ ≠ go30) (Kd.R_apart' (HO126.out) (Kd.S_typed HO_6.out) (by decide)) (fun k_ hk => ⟨hk.1.1, fun e_ => (hk.2) (by rw [e_]; rfl)⟩))).1 k_ hk_.symm))); (try (have hx37_0 := hcc37 0 _ rfl)); (try (try simp only [show (k38).sz = 2 from rfl, Nat.mul_one, Nat.add_zero] at hx37_0)); (try (have hf37_0 := hfr37 0)); (try (try simp only [show (k38).sz = 2 from rfl, Nat.mul_one, Nat.add_zero] at hf37_0)); (try (have hx37_1 := hcc37 1 _ rfl)); (try (try simp only [show (k38).sz = 2 from rfl, Nat.mul_one, Nat.add_zero] at hx37_1)); (try (have hf37_1 := hfr37 1)); (try (try simp only [show (k38).sz = 2 from rfl, Nat.mul_one, Nat.add_zero] at hf37_1)); (try (clear hcl37 hcc37 hfr37 hM37 hoki37 hH37)))); refine store_event (t := 38) (p := 57) (v := ?vo_w38) (w1 := ((w35.setCell ⟨go30, (t115 : Int).toNat * 2, none⟩ (.bool true)).setCell ⟨go30, (t115 : Int).toNat * 2 + 1, none⟩ (.slice Ao36 t124.length co36))) ?hg ?ho ?hn ?hr ?_; (case ho => rfl); (case hg => rfl); (case hn => rfl); (case hr => first | (go_simp; done) | (go_simp; rfl)); intro w38 hw; have hg : w35.grownBy w38 (some go30) := (by rw [hw]; exact HP37.2); have hp_ : Kd.S k38 38 w38 w.heap.size (fun k_ => (w.heap.size ≤ k_)) (.slice (some ⟨go30, 0, none⟩) x6_1.length co30) y127 := (by rw [hw, Ny127.out]; exact HP37.1); clear HP37; have n0_ := Aside0.mk (Kd.V_afterv (v := (.slice (some ⟨go30, 0, none⟩) x6_1.length co30)) (v1 := (.slice (some ⟨go30, 0, none⟩) x6_1.length co30)) (ok := (fun k_ => (P0_ k_ ∨ w.heap.size ≤ k_) ∧ some k_ ≠ (.slice Ao36 t124.length co36 : Value).ownBlock)) (by (with_reducible repeat (first | apply Kd.V_alloc | apply Kd.V_drewN | apply Kd.V_drew)); exact Kd.V_mono HO_0.out (fun _ hk => ⟨⟨hk.1.1, hk.2⟩, hk.1.2⟩)) hg (.inl rfl)); have n1_ := Aside0.mk (hp_); have n2_ := Aside0.mk (Kd.V_afterv (v := (.slice (some ⟨go30, 0, none⟩) x6_1.length co30)) (v1 := (.slice (some ⟨go30, 0, none⟩) x6_1.length co30)) (ok := (fun k_ => (P0_ k_ ∨ w.heap.size ≤ k_) ∧ some k_ ≠ (.slice Ao36 t124.length co36 : Value).ownBlock)) (by (with_reducible repeat (first | apply Kd.V_alloc | apply Kd.V_drewN | apply Kd.V_drew)); exact Kd.V_mono HO123.out (fun _ hk => ⟨⟨hk.1.1, hk.2⟩, hk.1.2⟩)) hg (.inl rfl)); have n3_ := Aside0.mk ((by rw [hw]; exact below_set (below_set (HB.out) GB30.out) GB30.out : Below w.heap.size w w38)); clear HO_0; clear HO_6; clear HO123; clear HB; clear HO126; have HO_0 := n0_; have HO_6 := n1_; have HO123 := n2_; have HB := n3_; clear n0_ n1_ n2_ n3_; clear hg hw hp_; have q39 : ((ji31) : Int) ≤ ((x0_1.length : Int) : Int) := of_decide_eq_true (by first | (with_reducible assumption) | assumption); obtain ⟨i039, hi039, _, hsz39, _⟩ := info_parts info9; have hroom39 : x0_1.length ≤ co12 := (Kd.V_reads' HO_0.out).2.1; have hC39 : Kd.F Kd.string _ _ (some ad113) x0_1.length x0_1 := (Kd.V_at (base := w.heap.size) HO_0.out).2.2; have q039 : (0 : Int) ≤ ((ji31) : Int) := of_decide_eq_true (by first | (with_reducible assumption) | assumption); have hcut39 := cut_from (P := Try.prog) 22 9 .i64 Try.underlying22 hi039 1 hsz39 (some ad113) x0_1.length co12 (ji31) q039 q39; have hr39 := Kd.F_cut (m := ((ji31) : Int).toNat) (c := co12) hC39 (by omega) hroom39; obtain ⟨A39, hA39⟩ : ∃ A1, A1 = (if co12 = ((ji31) : Int).toNat then (some ad113) else ((some ad113) : Option Addr).map (·.add (((ji31) : Int).toNat * 1))) := ⟨_, rfl⟩; obtain ⟨c39, hc39⟩ : ∃ c1, c1 = co12 - ((ji31) : Int).toNat := ⟨_, rfl⟩; have hy39 : y128.length = x0_1.length - ((ji31) : Int).toNat := (by rw [Ny128.out, List.length_drop] <;> omega); rw [show (x0_1).drop ((ji31) : Int).toNat = y128 from Ny128.out.symm] at hr39; replace hr39 : Kd.F Kd.string _ _ A39 y128.length y128 := (by rw [hA39]; exact hr39); rw [← hy39, ← hA39, ← hc39] at hcut39; have HO132 := Aside0.mk (show Kd.V Kd.string 9 _ w.heap.size _ (.slice A39 y128.length c39) y128 from Kd.V_mk (by rw [hy39, hc39]; exact Nat.sub_le_sub_right hroom39 _) hr39); have HC132 := Aside0.mk (show y128.length ≤ c39 from by rw [hy39, hc39]; exact Nat.sub_le_sub_right hroom39 _); clear hr39 hC39 hroom39 hi039 hsz39 hc39; have KY39 := Aside0.mk hy39; have KA39 := Aside0.mk hA39; clear hy39 hA39; replace q39 := eq_true q39)); try go_wp2_with (first | (go_at_call 26; (with_reducible refine (slices_Clone_string_string.calls _ _ y119 t124 _ ?side1 ?side2 A28.out).mono ?_); (case side1 => repeat (first | exact (Kd.V_reads' HO123.out).2.2 | (with_reducible refine Kd.C_alloc ?_ _) | (with_reducible refine Kd.C_drewN ?_ _) | (with_reducible refine Kd.C_drew ?_))); (case side2 => exact (Kd.V_reads' HO123.out).2.1); rintro e w35 ⟨v125, rfl, ho0, hb⟩; have n0_ := Aside0.mk (Kd.V_elder' (by (with_reducible repeat (first | apply Kd.V_alloc | apply Kd.V_drewN | apply Kd.V_drew)); exact HO_0.out) (Kd.R_base ho0) hb); have n1_ := Aside0.mk (Kd.S_elder' (by (with_reducible repeat (first | apply Kd.S_alloc | apply Kd.S_drewN | apply Kd.S_drew)); exact HO_6.out) (Kd.R_base ho0) hb); have n2_ := Aside0.mk (Kd.V_elder' (by (with_reducible repeat (first | apply Kd.V_alloc | apply Kd.V_drewN | apply Kd.V_drew)); exact HO123.out) (Kd.R_base ho0) hb); have n3_ := Aside0.mk (Kd.R_lower (Kd.R_newM (M := fun k_ => (w.heap.size ≤ k_)) ho0 (below_size (by repeat (first | (with_reducible first | exact HB.out | apply below_alloc | apply pw_below_drewN | apply below_drew1) | exact HB.out))) (fun k_ h_ => h_)) (below_size (by repeat (first | (with_reducible first | exact HB.out | apply below_alloc | apply pw_below_drewN | apply below_drew1) | exact HB.out)))); have n4_ := Aside0.mk (below_step (by repeat (first | (with_reducible first | exact HB.out | apply below_alloc | apply pw_below_drewN | apply below_drew1) | exact HB.out)) hb); clear HO_0; clear HO_6; clear HO123; clear HB; have HO_0 := n0_; have HO_6 := n1_; have HO123 := n2_; have HO126 := n3_; have HB := n4_; clear n0_ n1_ n2_ n3_ n4_; (try clear hb); (try clear hb2); (try clear hk); (try clear hi); (try clear ho0); obtain ⟨Ao36, co36, eo36⟩ := Kd.R_slice HO126.out; subst eo36; have p30 : 0 ≤ (t115 : Int) := of_decide_eq_true (by first | (with_reducible assumption) | assumption); have q30 : (t115 : Int) < ((x6_1.length : Int) : Int) := of_decide_eq_true (by first | (with_reducible assumption) | assumption); obtain ⟨go30, co30, eo30, gb30, gl30, cl30, HG30⟩ := Kd.S_form HO_6.out (by omega); (first | cases eo30 | (injection eo30 with ea_ en_ ec_; (first | subst ea_ | (injection ea_ with ea_; subst ea_)); subst ec_; clear en_)); have GB30 := Aside0.mk gb30; have GG30 := Aside0.mk HG30; clear gb30 gl30 HG30; obtain ⟨_, ce30, hcl30, hM30, hcc30, hfr30, _, _⟩ := Kd.S_elem HO_6.out z38 (t115 : Int) p30 q30; obtain ⟨ve30_1, rfl, ge30_1⟩ := k38_openM hM30; have hx30_0 : w35.cell? ⟨go30, (t115 : Int).toNat * 2, none⟩ = some (.bool ((rd_T38 x6_1 t115).f0)) := hcc30 0 _ rfl; have hx30_1 : w35.cell? ⟨go30, (t115 : Int).toNat * 2 + 1, none⟩ = some (ve30_1) := hcc30 1 _ rfl; have hf30_0 : w35.frozen? ⟨go30, (t115 : Int).toNat * 2, none⟩ = false := hfr30 0; have hf30_1 : w35.frozen? ⟨go30, (t115 : Int).toNat * 2 + 1, none⟩ = false := hfr30 1; clear hcl30 hcc30 hfr30 hM30; replace p30 := eq_true p30; replace q30 := eq_true q30; have HX37 := Aside0.mk (show Kd.S k38 38 w35 w.heap.size (fun k_ => ((fun k_ => (w.heap.size ≤ k_))) k_ ∧ ¬ ((fun k_ => some k_ = (.slice Ao36 t124.length co36 : Value).ownBlock)) k_) (.slice (some ⟨go30, 0, none⟩) x6_1.length co30) x6_1 from (by (with_reducible repeat (first | apply Kd.S_alloc | apply Kd.S_drewN | apply Kd.S_drew)); exact Kd.S_mono HO_6.out (fun k_ hk => ⟨hk.1, fun e_ => hk.2 e_⟩))); obtain ⟨oki37, ce37, hcl37, hM37, hcc37, hfr37, hoki37, hH37⟩ := Kd.S_elem HX37.out z38 (t115 : Int) (of_decide_eq_true (by first | (with_reducible assumption) | assumption)) (by have h_ : (t115 : Int) < ((x6_1.length : Int) : Int) := of_decide_eq_true (by first | (with_reducible assumption) | assumption); first | exact h_ | (have e_ := (Kd.S_reads' HO_6.out).1; omega) | simpa using h_); obtain ⟨ve37_1, rfl, ge37_1⟩ := k38_openM hM37; have HP37 := Kd.S_seg hH37 (of_decide_eq_true (by first | (with_reducible assumption) | assumption)) (by have h_ : (t115 : Int) < ((x6_1.length : Int) : Int) := of_decide_eq_true (by first | (with_reducible assumption) | assumption); first | exact h_ | (have e_ := (Kd.S_reads' HO_6.out).1; omega) | simpa using h_) (seg := [.bool true, .slice Ao36 t124.length co36]) (j := 0) (show 2 ≤ 2 from by decide) (x' := (⟨true, t124⟩ : S38)) (k38_mkM _ _ _ (⟨true, t124⟩ : S38) (Kd.R_mono (Kd.R_tight rfl (Kd.R_mono (ok' := fun k_ => ((fun k_ => (w.heap.size ≤ k_))) k_ ∧ k_ ≠ go30) (Kd.R_apart' (HO126.out) (Kd.S_typed HO_6.out) (by decide)) (fun k_ hk => ⟨hk.1.1, fun e_ => (hk.2) (by rw [e_]; rfl)⟩))) (fun _ h_ => Or.inr (h_)))) (fun _ hk => hk) (fun k_ hk_ => ((Kd.R_mono (ok' := fun k_ => ((fun k_ => (w.heap.size ≤ k_))) k_ ∧ k_ ≠ go30) (Kd.R_apart' (HO126.out) (Kd.S_typed HO_6.out) (by decide)) (fun k_ hk => ⟨hk.1.1, fun e_ => (hk.2) (by rw [e_]; rfl)⟩))).1 k_ hk_.symm); have hx37_0 := hcc37 0 _ rfl; (try simp only [show (k38).sz = 2 from rfl, Nat.mul_one, Nat.add_zero] at hx37_0); have hf37_0 := hfr37 0; (try simp only [show (k38).sz = 2 from rfl, Nat.mul_one, Nat.add_zero] at hf37_0); have hx37_1 := hcc37 1 _ rfl; (try simp only [show (k38).sz = 2 from rfl, Nat.mul_one, Nat.add_zero] at hx37_1); have hf37_1 := hfr37 1; (try simp only [show (k38).sz = 2 from rfl, Nat.mul_one, Nat.add_zero] at hf37_1); clear hcl37 hcc37 hfr37 hM37 hoki37 hH37) | ((with_reducible refine gate_store (t := 38) (p := 57) rfl ?_); (try (rw [drewN_self w35]; generalize hq_ : World.drewN w35 _ = w35; have n0_ := Aside0.mk (Kd.V_at hq_ HO_0.out); have n1_ := Aside0.mk (Kd.S_at hq_ HO_6.out); have n2_ := Aside0.mk (Kd.V_at hq_ HO123.out); have n3_ := Aside0.mk (below_at hq_ HB.out); clear hq_ HO_0 HO_6 HO123 HB; have HO_0 := n0_; have HO_6 := n1_; have HO123 := n2_; have HB := n3_; clear n0_ n1_ n2_ n3_; (try (have HX37 := Aside0.mk (show Kd.S k38 38 w35 w.heap.size (fun k_ => ((fun k_ => (w.heap.size ≤ k_))) k_ ∧ ¬ ((fun k_ => some k_ = (.slice Ao36 t124.length co36 : Value).ownBlock)) k_) (.slice (some ⟨go30, 0, none⟩) x6_1.length co30) x6_1 from (by (with_reducible repeat (first | apply Kd.S_alloc | apply Kd.S_drewN | apply Kd.S_drew)); exact Kd.S_mono HO_6.out (fun k_ hk => ⟨hk.1, fun e_ => hk.2 e_⟩))))); (try (obtain ⟨oki37, ce37, hcl37, hM37, hcc37, hfr37, hoki37, hH37⟩ := Kd.S_elem HX37.out z38 (t115 : Int) (of_decide_eq_true (by first | (with_reducible assumption) | assumption)) (by have h_ : (t115 : Int) < ((x6_1.length : Int) : Int) := of_decide_eq_true (by first | (with_reducible assumption) | assumption); first | exact h_ | (have e_ := (Kd.S_reads' HO_6.out).1; omega) | simpa using h_))); (try (obtain ⟨ve37_1, rfl, ge37_1⟩ := k38_openM hM37)); (try (have HP37 := Kd.S_seg hH37 (of_decide_eq_true (by first | (with_reducible assumption) | assumption)) (by have h_ : (t115 : Int) < ((x6_1.length : Int) : Int) := of_decide_eq_true (by first | (with_reducible assumption) | assumption); first | exact h_ | (have e_ := (Kd.S_reads' HO_6.out).1; omega) | simpa using h_) (seg := [.bool true, .slice Ao36 t124.length co36]) (j := 0) (show 2 ≤ 2 from by decide) (x' := (⟨true, t124⟩ : S38)) (k38_mkM _ _ _ (⟨true, t124⟩ : S38) (Kd.R_mono (Kd.R_tight rfl (Kd.R_mono (ok' := fun k_ => ((fun k_ => (w.heap.size ≤ k_))) k_ ∧ k_ ≠ go30) (Kd.R_apart' (HO126.out) (Kd.S_typed HO_6.out) (by decide)) (fun k_ hk => ⟨hk.1.1, fun e_ => (hk.2) (by rw [e_]; rfl)⟩))) (fun _ h_ => Or.inr (h_)))) (fun _ hk => hk) (fun k_ hk_ => ((Kd.R_mono (ok' := fun k_ => ((fun k_ => (w.heap.size ≤ k_))) k_ ∧ k_ ≠ go30) (Kd.R_apart' (HO126.out) (Kd.S_typed HO_6.out) (by decide)) (fun k_ hk => ⟨hk.1.1, fun e_ => (hk.2) (by rw [e_]; rfl)⟩))).1 k_ hk_.symm))); (try (have hx37_0 := hcc37 0 _ rfl)); (try (try simp only [show (k38).sz = 2 from rfl, Nat.mul_one, Nat.add_zero] at hx37_0)); (try (have hf37_0 := hfr37 0)); (try (try simp only [show (k38).sz = 2 from rfl, Nat.mul_one, Nat.add_zero] at hf37_0)); (try (have hx37_1 := hcc37 1 _ rfl)); (try (try simp only [show (k38).sz = 2 from rfl, Nat.mul_one, Nat.add_zero] at hx37_1)); (try (have hf37_1 := hfr37 1)); (try (try simp only [show (k38).sz = 2 from rfl, Nat.mul_one, Nat.add_zero] at hf37_1)); (try (clear hcl37 hcc37 hfr37 hM37 hoki37 hH37)))); refine store_event (t := 38) (p := 57) (v := ?vo_w38) (w1 := ((w35.setCell ⟨go30, (t115 : Int).toNat * 2, none⟩ (.bool true)).setCell ⟨go30, (t115 : Int).toNat * 2 + 1, none⟩ (.slice Ao36 t124.length co36))) ?hg ?ho ?hn ?hr ?_; (case ho => rfl); (case hg => rfl); (case hn => rfl); (case hr => first | (go_simp; done) | (go_simp; rfl)); intro w38 hw; have hg : w35.grownBy w38 (some go30) := (by rw [hw]; exact HP37.2); have hp_ : Kd.S k38 38 w38 w.heap.size (fun k_ => (w.heap.size ≤ k_)) (.slice (some ⟨go30, 0, none⟩) x6_1.length co30) y127 := (by rw [hw, Ny127.out]; exact HP37.1); clear HP37; have n0_ := Aside0.mk (Kd.V_afterv (v := (.slice (some ⟨go30, 0, none⟩) x6_1.length co30)) (v1 := (.slice (some ⟨go30, 0, none⟩) x6_1.length co30)) (ok := (fun k_ => (P0_ k_ ∨ w.heap.size ≤ k_) ∧ some k_ ≠ (.slice Ao36 t124.length co36 : Value).ownBlock)) (by (with_reducible repeat (first | apply Kd.V_alloc | apply Kd.V_drewN | apply Kd.V_drew)); exact Kd.V_mono HO_0.out (fun _ hk => ⟨⟨hk.1.1, hk.2⟩, hk.1.2⟩)) hg (.inl rfl)); have n1_ := Aside0.mk (hp_); have n2_ := Aside0.mk (Kd.V_afterv (v := (.slice (some ⟨go30, 0, none⟩) x6_1.length co30)) (v1 := (.slice (some ⟨go30, 0, none⟩) x6_1.length co30)) (ok := (fun k_ => (P0_ k_ ∨ w.heap.size ≤ k_) ∧ some k_ ≠ (.slice Ao36 t124.length co36 : Value).ownBlock)) (by (with_reducible repeat (first | apply Kd.V_alloc | apply Kd.V_drewN | apply Kd.V_drew)); exact Kd.V_mono HO123.out (fun _ hk => ⟨⟨hk.1.1, hk.2⟩, hk.1.2⟩)) hg (.inl rfl)); have n3_ := Aside0.mk ((by rw [hw]; exact below_set (below_set (HB.out) GB30.out) GB30.out : Below w.heap.size w w38)); clear HO_0; clear HO_6; clear HO123; clear HB; clear HO126; have HO_0 := n0_; have HO_6 := n1_; have HO123 := n2_; have HB := n3_; clear n0_ n1_ n2_ n3_; clear hg hw hp_; have q39 : ((ji31) : Int) ≤ ((x0_1.length : Int) : Int) := of_decide_eq_true (by first | (with_reducible assumption) | assumption); obtain ⟨i039, hi039, _, hsz39, _⟩ := info_parts info9; have hroom39 : x0_1.length ≤ co12 := (Kd.V_reads' HO_0.out).2.1; have hC39 : Kd.F Kd.string _ _ (some ad113) x0_1.length x0_1 := (Kd.V_at (base := w.heap.size) HO_0.out).2.2; have q039 : (0 : Int) ≤ ((ji31) : Int) := of_decide_eq_true (by first | (with_reducible assumption) | assumption); have hcut39 := cut_from (P := Try.prog) 22 9 .i64 Try.underlying22 hi039 1 hsz39 (some ad113) x0_1.length co12 (ji31) q039 q39; have hr39 := Kd.F_cut (m := ((ji31) : Int).toNat) (c := co12) hC39 (by omega) hroom39; obtain ⟨A39, hA39⟩ : ∃ A1, A1 = (if co12 = ((ji31) : Int).toNat then (some ad113) else ((some ad113) : Option Addr).map (·.add (((ji31) : Int).toNat * 1))) := ⟨_, rfl⟩; obtain ⟨c39, hc39⟩ : ∃ c1, c1 = co12 - ((ji31) : Int).toNat := ⟨_, rfl⟩; have hy39 : y128.length = x0_1.length - ((ji31) : Int).toNat := (by rw [Ny128.out, List.length_drop] <;> omega); rw [show (x0_1).drop ((ji31) : Int).toNat = y128 from Ny128.out.symm] at hr39; replace hr39 : Kd.F Kd.string _ _ A39 y128.length y128 := (by rw [hA39]; exact hr39); rw [← hy39, ← hA39, ← hc39] at hcut39; have HO132 := Aside0.mk (show Kd.V Kd.string 9 _ w.heap.size _ (.slice A39 y128.length c39) y128 from Kd.V_mk (by rw [hy39, hc39]; exact Nat.sub_le_sub_right hroom39 _) hr39); have HC132 := Aside0.mk (show y128.length ≤ c39 from by rw [hy39, hc39]; exact Nat.sub_le_sub_right hroom39 _); clear hr39 hC39 hroom39 hi039 hsz39 hc39; have KY39 := Aside0.mk hy39; have KA39 := Aside0.mk hA39; clear hy39 hA39; replace q39 := eq_true q39)))
                                      go_roundg kj10
                                      case measure => have := HK1.out; have := HJ10.out; omega
                                      case rel => exact ⟨(y128), (y127), H', ⟨by have := HK1.out; have := HJ10.out; omega⟩, ⟨by (with_reducible repeat (first | apply Kd.V_alloc | apply Kd.V_drewN | apply Kd.V_drew)); exact Kd.V_mono HO132.out (fun _ hk => ⟨hk.1.1, hk.2⟩)⟩, ⟨by (with_reducible repeat (first | apply Kd.S_alloc | apply Kd.S_drewN | apply Kd.S_drew)); exact HO_6.out⟩, ⟨by repeat (first | (with_reducible first | exact HB.out | apply below_alloc | apply pw_below_drewN | apply below_drew1) | exact HB.out)⟩⟩
                                    · rw [if_neg c32] at H
                                      exact absurd H (by simp)
                                  · rw [if_neg c29] at H
                                    exact absurd H (by simp)
                                · rw [if_neg c27] at H
                                  exact absurd H (by simp)
                              · rw [if_neg c26] at H
                                exact absurd H (by simp)
                          · rw [if_neg c23] at H
                            exact absurd H (by simp)
                        · rw [if_neg c22] at H
                          exact absurd H (by simp)
                      · rw [if_neg c20] at H
                        exact absurd H (by simp)
                    · rw [if_neg c19] at H
                      exact absurd H (by simp)
            · rw [if_neg c8] at H
              exact absurd H (by simp)
          · rw [if_neg c7] at H
            have c7b0 : decide (0 < (x0_1.length : Int)) = false := decide_eq_false c7
            have c7b1 : decide (0 < x0_1.length) = false := decide_eq_false (by omega)
            clear c7
            simp only [Option.some.injEq, Prod.mk.injEq] at H
            obtain ⟨rfl, rfl⟩ := H
            obtain ⟨Ao40, co40, eo40⟩ := Kd.V_slice HO_0.out
            subst eo40
            go_wp2
            repeat (go_quiet (fail); try go_wp2)
            go_ret2
            exact ⟨_, by first | rfl | (simp [errW_none, errW_some] <;> rfl) | (simp [*, errW_none, errW_some] <;> rfl), by (with_reducible repeat (first | apply Kd.S_alloc | apply Kd.S_drewN | apply Kd.S_drew)); exact HO_6.out, by repeat (first | (with_reducible first | exact HB.out | apply below_alloc | apply pw_below_drewN | apply below_drew1) | exact HB.out)⟩
    · rw [if_neg c4] at H
      exact absurd H (by simp)
  · rw [if_neg c3] at H
    exact absurd H (by simp)

end Go.Proofs.Ytcooijbmmkkdoaa.X
