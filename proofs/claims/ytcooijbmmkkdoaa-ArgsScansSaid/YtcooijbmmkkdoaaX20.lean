-- Written by wip/tool/xprint.py of this work (a front end of its own to the kit's printer): the functions of the seat Ytcooijbmmkkdoaa as plain Lean functions, and what the Go code's calls come to. Lean checks it.
import Derived.Test.YtcooijbmmkkdoaaX0
import Derived.Test.YtcooijbmmkkdoaaX4
import Derived.Test.YtcooijbmmkkdoaaX6
namespace Go.Proofs.Ytcooijbmmkkdoaa.X
open Go.RowKit Go.Proofs.YtcooijbmmkkdoaaW.PrintWords Go.Proofs.YtcooijbmmkkdoaaW.PrintLast Go.Proofs.YtcooijbmmkkdoaaW.PrintMore
attribute [local go_sem] max2_int min2_int max_two min_two max_three min_three max_four min_four   -- for this text's walks alone
set_option linter.unusedVariables false
set_option linter.unusedSimpArgs false

/-! ### args_Scanning: function 18 -/
mutual
def args_Scanning.j0 : Nat → List ByteArray → Bool → Int → Bool → Option (Int × Bool × ByteArray × Int × ByteArray × ByteArray)
 | 0, _, _, _, _ => none
 | k + 1, x0, x1, x6, x29 => if x29 = true then (some (0, false, (⟨#[]⟩ : ByteArray), 0, (⟨#[]⟩ : ByteArray), (⟨#[69, 82, 82, 32, 105, 110, 118, 97, 108, 105, 100, 32, 99, 117, 114, 115, 111, 114]⟩ : ByteArray))) else ((some (([(⟨#[77, 65, 84, 67, 72, 32, 49]⟩ : ByteArray), (⟨#[67, 79, 85, 78, 84, 32, 49]⟩ : ByteArray)] : List ByteArray) : List ByteArray)).bind fun y329 => (if x1 = true then (if y329.length < 8796093022208 then (args_Scanning.j1 k x0 x1 x6 (y329 ++ [(⟨#[84, 89, 80, 69, 32, 49]⟩ : ByteArray)])) else (none)) else (args_Scanning.j1 k x0 x1 x6 y329)))
def args_Scanning.j1 : Nat → List ByteArray → Bool → Int → List ByteArray → Option (Int × Bool × ByteArray × Int × ByteArray × ByteArray)
 | 0, _, _, _, _ => none
 | k + 1, x0, x1, x6, x8 => if 1 ≤ (x0.length : Int) then ((args_Options.f k (x0.drop 1) x8).bind fun bt336 => (if bt336.2 = true then (if 0 < (bt336.1.length : Int) then (if (rd_T38 bt336.1 0).f0 = true then (if 0 < (((rd_T38 bt336.1 0).f1).length : Int) then (args_Scanning.j2 k x1 bt336.1 (IntKind.u64.wrap (x6)) true (rdOf ByteArray.empty ((rd_T38 bt336.1 0).f1) 0) 10 (⟨#[]⟩ : ByteArray)) else (none)) else (args_Scanning.j2 k x1 bt336.1 (IntKind.u64.wrap (x6)) false (⟨#[]⟩ : ByteArray) 10 (⟨#[]⟩ : ByteArray))) else (none)) else (some (0, false, (⟨#[]⟩ : ByteArray), 0, (⟨#[]⟩ : ByteArray), (⟨#[69, 82, 82, 32, 115, 121, 110, 116, 97, 120, 32, 101, 114, 114, 111, 114]⟩ : ByteArray))))) else (none)
def args_Scanning.j2 : Nat → Bool → List (S38) → Int → Bool → ByteArray → Int → ByteArray → Option (Int × Bool × ByteArray × Int × ByteArray × ByteArray)
 | 0, _, _, _, _, _, _, _ => none
 | k + 1, x1, x9, x341000, x341001, x341002, x341003, x341004 => if 1 < (x9.length : Int) then (if (rd_T38 x9 1).f0 = true then (if 0 < (((rd_T38 x9 1).f1).length : Int) then ((num_Parse.f k (rdOf ByteArray.empty ((rd_T38 x9 1).f1) 0)).bind fun bt347 => (if bt347.2 = true then (if bt347.1 < 1 then (some (0, false, (⟨#[]⟩ : ByteArray), 0, (⟨#[]⟩ : ByteArray), (⟨#[69, 82, 82, 32, 115, 121, 110, 116, 97, 120, 32, 101, 114, 114, 111, 114]⟩ : ByteArray))) else (if x1 = true then (if 2 < (x9.length : Int) then (if (rd_T38 x9 2).f0 = true then (if 0 < (((rd_T38 x9 2).f1).length : Int) then (some (x341000, x341001, x341002, mn bt347.1 1000, rdOf ByteArray.empty ((rd_T38 x9 2).f1) 0, (⟨#[]⟩ : ByteArray))) else (none)) else (some (x341000, x341001, x341002, mn bt347.1 1000, x341004, (⟨#[]⟩ : ByteArray)))) else (none)) else (some (x341000, x341001, x341002, mn bt347.1 1000, x341004, (⟨#[]⟩ : ByteArray))))) else (some (0, false, (⟨#[]⟩ : ByteArray), 0, (⟨#[]⟩ : ByteArray), (⟨#[69, 82, 82, 32, 118, 97, 108, 117, 101, 32, 105, 115, 32, 110, 111, 116, 32, 97, 110, 32, 105, 110, 116, 101, 103, 101, 114, 32, 111, 114, 32, 111, 117, 116, 32, 111, 102, 32, 114, 97, 110, 103, 101]⟩ : ByteArray))))) else (none)) else (if x1 = true then (if 2 < (x9.length : Int) then (if (rd_T38 x9 2).f0 = true then (if 0 < (((rd_T38 x9 2).f1).length : Int) then (some (x341000, x341001, x341002, x341003, rdOf ByteArray.empty ((rd_T38 x9 2).f1) 0, (⟨#[]⟩ : ByteArray))) else (none)) else (some (x341000, x341001, x341002, x341003, x341004, (⟨#[]⟩ : ByteArray)))) else (none)) else (some (x341000, x341001, x341002, x341003, x341004, (⟨#[]⟩ : ByteArray))))) else (none)
end
def args_Scanning.f (k : Nat) (l0 : List ByteArray) (a1 : Bool) : Option (Int × Bool × ByteArray × Int × ByteArray × ByteArray) := if (l0.length : Int) = 0 then (some (0, false, (⟨#[]⟩ : ByteArray), 0, (⟨#[]⟩ : ByteArray), (⟨#[69, 82, 82, 32, 105, 110, 118, 97, 108, 105, 100, 32, 99, 117, 114, 115, 111, 114]⟩ : ByteArray))) else (if 0 < (l0.length : Int) then ((num_Parse.f k (rdOf ByteArray.empty l0 0)).bind fun bt327 => (if bt327.2 = true then (args_Scanning.j0 k l0 a1 bt327.1 (decide (bt327.1 < 0))) else (args_Scanning.j0 k l0 a1 bt327.1 true))) else (none))
theorem args_Scanning.mono_l : ∀ k, (∀ y0 y1 y2 y3, LeO (args_Scanning.j0 k y0 y1 y2 y3) (args_Scanning.j0 (k + 1) y0 y1 y2 y3)) ∧ (∀ y0 y1 y2 y3, LeO (args_Scanning.j1 k y0 y1 y2 y3) (args_Scanning.j1 (k + 1) y0 y1 y2 y3)) ∧ (∀ y0 y1 y2 y3 y4 y5 y6, LeO (args_Scanning.j2 k y0 y1 y2 y3 y4 y5 y6) (args_Scanning.j2 (k + 1) y0 y1 y2 y3 y4 y5 y6))
 | 0 => ⟨fun _ _ _ _ r h => by simp [args_Scanning.j0] at h, fun _ _ _ _ r h => by simp [args_Scanning.j1] at h, fun _ _ _ _ _ _ _ r h => by simp [args_Scanning.j2] at h⟩
 | k + 1 => by
  obtain ⟨ih0, ih1, ih2⟩ := args_Scanning.mono_l k
  refine ⟨?_, ?_, ?_⟩
  ·intro y0 y1 y2 y3
   unfold args_Scanning.j0
   repeat' first
   | (with_reducible exact ih0 _ _ _ _)
   | (with_reducible exact ih1 _ _ _ _)
   | (with_reducible exact ih2 _ _ _ _ _ _ _)
   | (with_reducible exact args_Options.mono _ _ _)
   | (with_reducible exact num_Parse.mono _ _)
   | (with_reducible exact LeO.refl _)
   | (with_reducible exact LeO.none _)
   | (with_reducible refine LeO.ite ?_ ?_)
   | (with_reducible refine LeO.bind ?_ (fun _ => ?_))
   | exact ih0 _ _ _ _
   | exact ih1 _ _ _ _
   | exact ih2 _ _ _ _ _ _ _
   | exact args_Options.mono _ _ _
   | exact num_Parse.mono _ _
   | exact LeO.none _
   | refine LeO.ite ?_ ?_
   | refine LeO.bind ?_ (fun _ => ?_)
  ·intro y0 y1 y2 y3
   unfold args_Scanning.j1
   repeat' first
   | (with_reducible exact ih0 _ _ _ _)
   | (with_reducible exact ih1 _ _ _ _)
   | (with_reducible exact ih2 _ _ _ _ _ _ _)
   | (with_reducible exact args_Options.mono _ _ _)
   | (with_reducible exact num_Parse.mono _ _)
   | (with_reducible exact LeO.refl _)
   | (with_reducible exact LeO.none _)
   | (with_reducible refine LeO.ite ?_ ?_)
   | (with_reducible refine LeO.bind ?_ (fun _ => ?_))
   | exact ih0 _ _ _ _
   | exact ih1 _ _ _ _
   | exact ih2 _ _ _ _ _ _ _
   | exact args_Options.mono _ _ _
   | exact num_Parse.mono _ _
   | exact LeO.none _
   | refine LeO.ite ?_ ?_
   | refine LeO.bind ?_ (fun _ => ?_)
  ·intro y0 y1 y2 y3 y4 y5 y6
   unfold args_Scanning.j2
   repeat' first
   | (with_reducible exact ih0 _ _ _ _)
   | (with_reducible exact ih1 _ _ _ _)
   | (with_reducible exact ih2 _ _ _ _ _ _ _)
   | (with_reducible exact args_Options.mono _ _ _)
   | (with_reducible exact num_Parse.mono _ _)
   | (with_reducible exact LeO.refl _)
   | (with_reducible exact LeO.none _)
   | (with_reducible refine LeO.ite ?_ ?_)
   | (with_reducible refine LeO.bind ?_ (fun _ => ?_))
   | exact ih0 _ _ _ _
   | exact ih1 _ _ _ _
   | exact ih2 _ _ _ _ _ _ _
   | exact args_Options.mono _ _ _
   | exact num_Parse.mono _ _
   | exact LeO.none _
   | refine LeO.ite ?_ ?_
   | refine LeO.bind ?_ (fun _ => ?_)
theorem args_Scanning.mono : ∀ a0 a1 k, LeO (args_Scanning.f k a0 a1) (args_Scanning.f (k + 1) a0 a1) := by
 intro a0 a1 k
 obtain ⟨ih0, ih1, ih2⟩ := args_Scanning.mono_l k
 unfold args_Scanning.f
 repeat' first
   | (with_reducible exact ih0 _ _ _ _)
   | (with_reducible exact ih1 _ _ _ _)
   | (with_reducible exact ih2 _ _ _ _ _ _ _)
   | (with_reducible exact args_Options.mono _ _ _)
   | (with_reducible exact num_Parse.mono _ _)
   | (with_reducible exact LeO.refl _)
   | (with_reducible exact LeO.none _)
   | (with_reducible refine LeO.ite ?_ ?_)
   | (with_reducible refine LeO.bind ?_ (fun _ => ?_))
   | exact ih0 _ _ _ _
   | exact ih1 _ _ _ _
   | exact ih2 _ _ _ _ _ _ _
   | exact args_Options.mono _ _ _
   | exact num_Parse.mono _ _
   | exact LeO.none _
   | refine LeO.ite ?_ ?_
   | refine LeO.bind ?_ (fun _ => ?_)
def args_Scanning.T14 : Bool × List (List Nat × List Nat) := (true, [([], []), ([0], [0]), ([1], [1]), ([2], [2]), ([3], [3]), ([4], [4]), ([], []), ([6], [6]), ([0, 1, 2, 3, 4, 5, 6, 7], []), ([8, 5, 7, 0, 1, 2, 3, 4, 5, 6, 7], [5, 8])])
def args_Scanning.B14 : List Nat := [0, 1, 3, 7, 15, 31, 0, 64, 255, 511]
theorem args_Scanning.tab14 : rtab .any (opsOf Try.f18 14) = args_Scanning.T14 := by kernel_rfl
theorem args_Scanning.bits14 : waitsOk args_Scanning.T14.2 args_Scanning.B14 = true := by kernel_rfl
set_option maxHeartbeats 8000000 in
set_option maxRecDepth 100000 in
theorem args_Scanning.calls (k : Nat) (A0 : Option Addr) (c0 : Nat) (l0 : List ByteArray) (a1 : Bool) (r1 : Int) (r2 : Bool) (r3 : ByteArray) (r4 : Int) (r5 : ByteArray) (r6 : ByteArray) (w : World) (hr0 : Kd.C Kd.string w A0 l0.length l0) (hc0 : l0.length ≤ c0) (h : args_Scanning.f k l0 a1 = some (r1, r2, r3, r4, r5, r6)) :
  Calls Try.prog 18 #[.slice A0 l0.length c0, .bool a1] w fun e w' => e = .returned (.tuple #[.agg #[.int .u64 r1, .bool r2, .string r3, .int .i64 r4, .string r5], .string r6]) ∧ Below w.heap.size w w' := by
 have hu52 := Try.underlying52
 have HR0 := Aside0.mk hr0
 have HC0 := Aside0.mk hc0
 clear hr0 hc0
 have HB := Aside0.mk (Below.refl w.heap.size w)
 have H : (if (l0.length : Int) = 0 then (some (0, false, (⟨#[]⟩ : ByteArray), 0, (⟨#[]⟩ : ByteArray), (⟨#[69, 82, 82, 32, 105, 110, 118, 97, 108, 105, 100, 32, 99, 117, 114, 115, 111, 114]⟩ : ByteArray))) else (if 0 < (l0.length : Int) then ((num_Parse.f k (rdOf ByteArray.empty l0 0)).bind fun bt327 => (if bt327.2 = true then (args_Scanning.j0 k l0 a1 bt327.1 (decide (bt327.1 < 0))) else (args_Scanning.j0 k l0 a1 bt327.1 true))) else (none))) = some (r1, r2, r3, r4, r5, r6) := h
 clear h
 by_cases c3 : (l0.length : Int) = 0
 ·rw [if_pos c3] at H
  have c3b0 : ((l0.length : Int) == 0) = true := beq_iff_eq.mpr c3
  have c3b1 : ((l0.length : Int) != 0) = false := bne_eq_false_iff_eq.mpr c3
  clear c3
  simp only [Option.some.injEq, Prod.mk.injEq] at H
  obtain ⟨rfl, rfl, rfl, rfl, rfl, rfl⟩ := H
  go_enter Try.func18, Try.ntmps18
  go_wp2_with (first | ((with_reducible refine gate_dst (N := 4) rfl ?_); refine box_event ?hg (N := 4) ?hd (cs := #[.int .u64 0, .bool false, .string (⟨#[]⟩ : ByteArray), .int .i64 0, .string (⟨#[]⟩ : ByteArray)]) (t := 52) ?hr ?_; (case hd => rfl); (case hg => rfl); (case hr => first | (go_simp; done) | (go_simp; rfl)); intro gb325 hg w4 hbox hb; have n0_ := Aside0.mk (below_step (by repeat (first | (with_reducible first | exact HB.out | apply below_alloc | apply pw_below_drewN | apply below_drew1) | exact HB.out)) hb); have n1_ := Aside0.mk (hbox); have n2_ := Aside0.mk ((by rw [hg]; exact (below_size (by repeat (first | (with_reducible first | exact HB.out | apply below_alloc | apply pw_below_drewN | apply below_drew1) | exact HB.out))) : w.heap.size ≤ gb325)); have n3_ := Aside0.mk ((by rw [hg]; exact (below_size (by repeat (first | (with_reducible first | exact HB.out | apply below_alloc | apply pw_below_drewN | apply below_drew1) | exact HB.out))) : w.heap.size ≤ gb325)); clear HB; have HB := n0_; have BK325 := n1_; have GW325 := n2_; have GE325 := n3_; clear n0_ n1_ n2_ n3_; clear hb hbox hg; obtain ⟨hcz5_0, hcz5_1, hcz5_2, hcz5_3, hcz5_4, hfz5_0, hfz5_1, hfz5_2, hfz5_3, hfz5_4⟩ := cells5_ BK325.out))
  refine bodyPost_ret (results_ct rfl _ _ gb325 52 #[.int .u64 0, .bool false, .string (⟨#[]⟩ : ByteArray), .int .i64 0, .string (⟨#[]⟩ : ByteArray)] (0, 0) _ rfl (by (with_reducible repeat (first | refine blk_drewN ?_ _ | refine blk_drew ?_ | refine blk_alloc ?_ _)); refine blk_put (cs := #[.int .u64 0, .bool false, .string (⟨#[]⟩ : ByteArray), .int .i64 0, .string (⟨#[]⟩ : ByteArray)]) ?_ 4 _ rfl; (with_reducible repeat (first | refine blk_drewN ?_ _ | refine blk_drew ?_ | refine blk_alloc ?_ _)); refine blk_put (cs := #[.int .u64 0, .bool false, .string (⟨#[]⟩ : ByteArray), .int .i64 0, .string (⟨#[]⟩ : ByteArray)]) ?_ 3 _ rfl; (with_reducible repeat (first | refine blk_drewN ?_ _ | refine blk_drew ?_ | refine blk_alloc ?_ _)); refine blk_put (cs := #[.int .u64 0, .bool false, .string (⟨#[]⟩ : ByteArray), .int .i64 0, .string (⟨#[]⟩ : ByteArray)]) ?_ 2 _ rfl; (with_reducible repeat (first | refine blk_drewN ?_ _ | refine blk_drew ?_ | refine blk_alloc ?_ _)); refine blk_put (cs := #[.int .u64 0, .bool false, .string (⟨#[]⟩ : ByteArray), .int .i64 0, .string (⟨#[]⟩ : ByteArray)]) ?_ 1 _ rfl; (with_reducible repeat (first | refine blk_drewN ?_ _ | refine blk_drew ?_ | refine blk_alloc ?_ _)); refine blk_put (cs := #[.int .u64 0, .bool false, .string (⟨#[]⟩ : ByteArray), .int .i64 0, .string (⟨#[]⟩ : ByteArray)]) ?_ 0 _ rfl; (with_reducible repeat (first | refine blk_drewN ?_ _ | refine blk_drew ?_ | refine blk_alloc ?_ _)); exact BK325.out) Try.underlying52 rfl (by kernel_rfl)) rfl ?_
  exact ⟨by first | rfl | (simp [errW_none, errW_some] <;> rfl) | (simp [*, errW_none, errW_some] <;> rfl), by repeat (first | (with_reducible first | exact HB.out | apply below_alloc | apply pw_below_drewN | apply below_drew1 | refine below_set ?_ GE325.out) | exact HB.out)⟩
 ·rw [if_neg c3] at H
  have c3b0 : ((l0.length : Int) == 0) = false := beq_eq_false_iff_ne.mpr c3
  have c3b1 : ((l0.length : Int) != 0) = true := bne_iff_ne.mpr c3
  have c3b2 : ¬ (l0 = []) := fun h_ => c3 (by rw [h_]; rfl)
  by_cases c6 : 0 < (l0.length : Int)
  ·rw [if_pos c6] at H
   have c6b0 : decide (0 < (l0.length : Int)) = true := decide_eq_true c6
   have c6b1 : decide (0 < l0.length) = true := decide_eq_true (by omega)
   clear c6
   replace H := Option.bind_eq_some_iff.mp H
   obtain ⟨⟨t327, t328⟩, A70, H⟩ := H
   replace H : (if t328 = true then (args_Scanning.j0 k l0 a1 t327 (decide (t327 < 0))) else (args_Scanning.j0 k l0 a1 t327 true)) = some (r1, r2, r3, r4, r5, r6) := H
   have A7 := Aside0.mk A70
   clear A70
   have HC8 := Aside0.mk H
   clear H
   go_enter Try.func18, Try.ntmps18
   go_upto_region 4 with (first | ((with_reducible refine gate_dst (N := 4) rfl ?_); refine box_event ?hg (N := 4) ?hd (cs := #[.int .u64 0, .bool false, .string (⟨#[]⟩ : ByteArray), .int .i64 0, .string (⟨#[]⟩ : ByteArray)]) (t := 52) ?hr ?_; (case hd => rfl); (case hg => rfl); (case hr => first | (go_simp; done) | (go_simp; rfl)); intro gb325 hg w9 hbox hb; have n0_ := Aside0.mk (below_step (by repeat (first | (with_reducible first | exact HB.out | apply below_alloc | apply pw_below_drewN | apply below_drew1) | exact HB.out)) hb); have n1_ := Aside0.mk (hbox); have n2_ := Aside0.mk ((by rw [hg]; exact (below_size (by repeat (first | (with_reducible first | exact HB.out | apply below_alloc | apply pw_below_drewN | apply below_drew1) | exact HB.out))) : w.heap.size ≤ gb325)); have n3_ := Aside0.mk ((by rw [hg]; exact (below_size (by repeat (first | (with_reducible first | exact HB.out | apply below_alloc | apply pw_below_drewN | apply below_drew1) | exact HB.out))) : w.heap.size ≤ gb325)); clear HB; have HB := n0_; have BK325 := n1_; have GW325 := n2_; have GE325 := n3_; clear n0_ n1_ n2_ n3_; clear hb hbox hg; have p326 : 0 ≤ (0 : Int) := (by omega); have q326 : 0 < (l0.length : Int) := of_decide_eq_true (by first | (with_reducible assumption) | assumption); obtain ⟨ad326, e326, hx326_0⟩ := Kd.at_string HR0.out 0 p326 q326; cases e326; have qi326 : (0 < l0.length) = True := eq_true (by omega); (try rw [show ((0 : Int)).toNat = 0 from rfl] at hx326_0); (try rw [Addr.add_zero'] at hx326_0); replace hx326_0 := (HB.out.cell (World.block_lt_of_cell? w _ hx326_0)).trans hx326_0; replace p326 := eq_true p326; replace q326 := eq_true q326) | ((with_reducible refine gate_callee (f := 28) rfl ?_); refine goesL_ (some 21) rfl rfl Try.func28 (by kernel_rfl) rfl #[.string (rdOf ByteArray.empty l0 0)] rfl (by (try simp only [List.map_toArray, List.map_cons, List.map_nil]); first | done | rfl | (simp only [List.length_drop, List.length_take]; rfl)) ?_; (with_reducible refine (num_Parse.calls k (rdOf ByteArray.empty l0 0) t327 t328 _ A7.out).mono ?_); rintro e w' ⟨rfl, ⟨nd, rfl⟩⟩; refine ⟨_, rfl, ?_⟩))
   (try simp only [Act.put, List.setIfInBounds_toArray, List.set_cons_zero, List.set_cons_succ])
   go_cut [29] (fun v29 wc => ∃ (kq : Nat) (x29_7 : Bool), v29 = .bool x29_7 ∧ Aside0 (args_Scanning.j0 kq l0 a1 t327 x29_7 = some (r1, r2, r3, r4, r5, r6)) ∧ Aside0 (kq ≤ k) ∧ Aside0 (wc.heap[gb325]? = some (.cells #[.int .u64 0, .bool false, .string (⟨#[]⟩ : ByteArray), .int .i64 0, .string (⟨#[]⟩ : ByteArray)] 52 (0, 0))) ∧ Aside0 (Below w.heap.size w wc))
   case first =>
    have H := HC8.out
    clear HC8
    by_cases c10 : t328 = true
    ·subst c10
     rw [if_pos rfl] at H
     have H' := Aside0.mk H
     clear H
     go_wp2
     go_meet
     case rel => exact ⟨_, (decide (t327 < 0)), (by first | rfl | (simp; done) | (simp [*]; done)), H', ⟨by first | omega | exact Nat.le_refl _⟩, ⟨by (with_reducible repeat (first | refine blk_drewN ?_ _ | refine blk_drew ?_ | refine blk_alloc ?_ _)); exact BK325.out⟩, ⟨by repeat (first | (with_reducible first | exact HB.out | apply below_alloc | apply pw_below_drewN | apply below_drew1 | refine below_set ?_ GE325.out) | exact HB.out)⟩⟩
    ·replace c10 := Bool.eq_false_iff.mpr c10
     subst c10
     rw [if_neg (show ¬ (false = true) by decide)] at H
     have H' := Aside0.mk H
     clear H
     go_wp2
     go_meet
     case rel => exact ⟨_, (true), (by first | rfl | (simp; done) | (simp [*]; done)), H', ⟨by first | omega | exact Nat.le_refl _⟩, ⟨by (with_reducible repeat (first | refine blk_drewN ?_ _ | refine blk_drew ?_ | refine blk_alloc ?_ _)); exact BK325.out⟩, ⟨by repeat (first | (with_reducible first | exact HB.out | apply below_alloc | apply pw_below_drewN | apply below_drew1 | refine below_set ?_ GE325.out) | exact HB.out)⟩⟩
   case rest =>
    clear HC8
    try clear c1
    try clear c2
    try clear p2
    try clear c3
    try clear c3b0
    try clear c3b1
    try clear c3b2
    try clear p3
    try clear q3
    try clear hx3
    try clear qi3
    try clear c6
    try clear c6b0
    try clear c6b1
    try clear c10
    try clear hcz5_0
    try clear hcz5_1
    try clear hcz5_2
    try clear hcz5_3
    try clear hcz5_4
    try clear hfz5_0
    try clear hfz5_1
    try clear hfz5_2
    try clear hfz5_3
    try clear hfz5_4
    try clear hx326_0
    try clear p326
    try clear q326
    obtain ⟨kq, x29_7, rfl, HA, HJ7, BK325, HB⟩ := hcut
    cases kq with
    | zero => exact absurd HA.out (by simp [args_Scanning.j0])
    | succ kj7 =>
     have H := HA.out
     clear HA
     simp only [args_Scanning.j0] at H
     by_cases c11 : x29_7 = true
     ·subst c11
      rw [if_pos rfl] at H
      simp only [Option.some.injEq, Prod.mk.injEq] at H
      obtain ⟨rfl, rfl, rfl, rfl, rfl, rfl⟩ := H
      obtain ⟨hcz12_0, hcz12_1, hcz12_2, hcz12_3, hcz12_4, hfz12_0, hfz12_1, hfz12_2, hfz12_3, hfz12_4⟩ := cells5_ BK325.out
      go_wp2
      refine bodyPost_ret (results_ct rfl _ _ gb325 52 #[.int .u64 0, .bool false, .string (⟨#[]⟩ : ByteArray), .int .i64 0, .string (⟨#[]⟩ : ByteArray)] (0, 0) _ rfl (by (with_reducible repeat (first | refine blk_drewN ?_ _ | refine blk_drew ?_ | refine blk_alloc ?_ _)); refine blk_put (cs := #[.int .u64 0, .bool false, .string (⟨#[]⟩ : ByteArray), .int .i64 0, .string (⟨#[]⟩ : ByteArray)]) ?_ 4 _ rfl; (with_reducible repeat (first | refine blk_drewN ?_ _ | refine blk_drew ?_ | refine blk_alloc ?_ _)); refine blk_put (cs := #[.int .u64 0, .bool false, .string (⟨#[]⟩ : ByteArray), .int .i64 0, .string (⟨#[]⟩ : ByteArray)]) ?_ 3 _ rfl; (with_reducible repeat (first | refine blk_drewN ?_ _ | refine blk_drew ?_ | refine blk_alloc ?_ _)); refine blk_put (cs := #[.int .u64 0, .bool false, .string (⟨#[]⟩ : ByteArray), .int .i64 0, .string (⟨#[]⟩ : ByteArray)]) ?_ 2 _ rfl; (with_reducible repeat (first | refine blk_drewN ?_ _ | refine blk_drew ?_ | refine blk_alloc ?_ _)); refine blk_put (cs := #[.int .u64 0, .bool false, .string (⟨#[]⟩ : ByteArray), .int .i64 0, .string (⟨#[]⟩ : ByteArray)]) ?_ 1 _ rfl; (with_reducible repeat (first | refine blk_drewN ?_ _ | refine blk_drew ?_ | refine blk_alloc ?_ _)); refine blk_put (cs := #[.int .u64 0, .bool false, .string (⟨#[]⟩ : ByteArray), .int .i64 0, .string (⟨#[]⟩ : ByteArray)]) ?_ 0 _ rfl; (with_reducible repeat (first | refine blk_drewN ?_ _ | refine blk_drew ?_ | refine blk_alloc ?_ _)); exact BK325.out) Try.underlying52 rfl (by kernel_rfl)) rfl ?_
      exact ⟨by first | rfl | (simp [errW_none, errW_some] <;> rfl) | (simp [*, errW_none, errW_some] <;> rfl), by repeat (first | (with_reducible first | exact HB.out | apply below_alloc | apply pw_below_drewN | apply below_drew1 | refine below_set ?_ GE325.out) | exact HB.out)⟩
     ·replace c11 := Bool.eq_false_iff.mpr c11
      subst c11
      rw [if_neg (show ¬ (false = true) by decide)] at H
      obtain ⟨y329, hy329⟩ : ∃ y_ : List ByteArray, y_ = (([(⟨#[77, 65, 84, 67, 72, 32, 49]⟩ : ByteArray), (⟨#[67, 79, 85, 78, 84, 32, 49]⟩ : ByteArray)] : List ByteArray)) := ⟨_, rfl⟩
      replace H : (if a1 = true then (if y329.length < 8796093022208 then (args_Scanning.j1 kj7 l0 a1 t327 (y329 ++ [(⟨#[84, 89, 80, 69, 32, 49]⟩ : ByteArray)])) else (none)) else (args_Scanning.j1 kj7 l0 a1 t327 y329)) = some (r1, r2, r3, r4, r5, r6) := by first | (rw [hy329]; with_reducible exact H) | (have H2_ := (Option.bind_some _ _).symm.trans H; rw [hy329]; with_reducible exact H2_) | (have H2_ := (Option.bind_some _ _).symm.trans H; with_reducible exact H2_) | with_reducible exact H | (rw [hy329]; exact H) | exact H
      have Ny329 := Aside0.mk hy329
      clear hy329
      have HC13 := Aside0.mk H
      clear H
      go_upto_if 32 with (first | ((with_reducible refine gate_dst (N := 31) rfl ?_); refine Kd.R_lit Kd.string _ 9 ?hg (N := 31) ?hd (xs := ([(⟨#[77, 65, 84, 67, 72, 32, 49]⟩ : ByteArray), (⟨#[67, 79, 85, 78, 84, 32, 49]⟩ : ByteArray)] : List ByteArray)) (inner := [.string (⟨#[77, 65, 84, 67, 72, 32, 49]⟩ : ByteArray), .string (⟨#[67, 79, 85, 78, 84, 32, 49]⟩ : ByteArray)]) (ok := fun _ => True) (okp := fun _ => True) ?hr ?hp (fun _ hk => hk) trivial (Below.refl _ _) (Nat.le_refl _) (by simp) ?_; (case hd => rfl); (case hg => rfl); (case hr => first | (go_simp; done) | (go_simp; rfl)); (case hp => exact (Reps.one (show Kd.M Kd.string _ _ _ (⟨#[77, 65, 84, 67, 72, 32, 49]⟩ : ByteArray) [.string (⟨#[77, 65, 84, 67, 72, 32, 49]⟩ : ByteArray)] from rfl) (Reps.one (show Kd.M Kd.string _ _ _ (⟨#[67, 79, 85, 78, 84, 32, 49]⟩ : ByteArray) [.string (⟨#[67, 79, 85, 78, 84, 32, 49]⟩ : ByteArray)] from rfl) (Reps.none _ _)))); intro v330 w14 ho15 hb hg_ hnew_; clear hg_ hnew_; (first | rw [← Ny329.out] at ho15 | (simp only [Int.reduceToNat] at ho15; rw [← Ny329.out] at ho15)); have n0_ := Aside0.mk (Kd.R_lower ho15 (below_size (by repeat (first | (with_reducible first | exact HB.out | apply below_alloc | apply pw_below_drewN | apply below_drew1 | refine below_set ?_ GE325.out) | exact HB.out)))); have n1_ := Aside0.mk (blk_below (g := gb325) (o := .cells #[.int .u64 0, .bool false, .string (⟨#[]⟩ : ByteArray), .int .i64 0, .string (⟨#[]⟩ : ByteArray)] 52 (0, 0)) (by (with_reducible repeat (first | refine blk_drewN ?_ _ | refine blk_drew ?_ | refine blk_alloc ?_ _)); exact BK325.out) hb); have n2_ := Aside0.mk (below_step (by repeat (first | (with_reducible first | exact HB.out | apply below_alloc | apply pw_below_drewN | apply below_drew1 | refine below_set ?_ GE325.out) | exact HB.out)) hb); clear BK325; clear HB; have HO331 := n0_; have BK325 := n1_; have HB := n2_; clear n0_ n1_ n2_; clear hb ho15))
      (try simp only [Act.put, List.setIfInBounds_toArray, List.set_cons_zero, List.set_cons_succ])
      go_cut [8] (fun v8 wc => ∃ (kq : Nat) (x8_12 : List ByteArray), Aside0 (args_Scanning.j1 kq l0 a1 t327 x8_12 = some (r1, r2, r3, r4, r5, r6)) ∧ Aside0 (kq ≤ kj7) ∧ Aside0 (Kd.R Kd.string 9 wc w.heap.size (fun _ => True) v8 x8_12) ∧ Aside0 (wc.heap[gb325]? = some (.cells #[.int .u64 0, .bool false, .string (⟨#[]⟩ : ByteArray), .int .i64 0, .string (⟨#[]⟩ : ByteArray)] 52 (0, 0))) ∧ Aside0 (Below w.heap.size w wc))
      case first =>
       have H := HC13.out
       clear HC13
       by_cases c16 : a1 = true
       ·subst c16
        rw [if_pos rfl] at H
        by_cases c17 : y329.length < 8796093022208
        ·rw [if_pos c17] at H
         have LMc17 := Aside0.mk c17
         clear c17
         obtain ⟨y332, hy332⟩ : ∃ y_ : List ByteArray, y_ = (y329 ++ [(⟨#[84, 89, 80, 69, 32, 49]⟩ : ByteArray)]) := ⟨_, rfl⟩
         replace H : (args_Scanning.j1 kj7 l0 true t327 y332) = some (r1, r2, r3, r4, r5, r6) := by first | (rw [hy332]; with_reducible exact H) | (have H2_ := (Option.bind_some _ _).symm.trans H; rw [hy332]; with_reducible exact H2_) | (have H2_ := (Option.bind_some _ _).symm.trans H; with_reducible exact H2_) | with_reducible exact H | (rw [hy332]; exact H) | exact H
         have Ny332 := Aside0.mk hy332
         clear hy332
         have H' := Aside0.mk H
         clear H
         go_wp2_with (first | ((with_reducible refine gate_builtin (b := .append) (xs := #[.tmp 33, .tmp 34]) rfl ?_); at_builtin; refine Kd.R_append Kd.string (w0 := w) w.heap.size rfl (.tmp 33) (.tmp 34) 22 9 (.string ⟨#[]⟩) 16 rfl Try.underlying22 info9 rfl (by decide) (by omega) v330 y329 (⟨#[84, 89, 80, 69, 32, 49]⟩ : ByteArray) [.string (⟨#[84, 89, 80, 69, 32, 49]⟩ : ByteArray)] (fun _ => True) (fun _ => False) rfl rfl ?aP (fun _ hk => hk.elim) ?aF ?aO ?aB ?aS ?aL ?_; (case aP => exact rfl); (case aB => exact (by repeat (first | (with_reducible first | exact HB.out | apply below_alloc | apply pw_below_drewN | apply below_drew1 | refine below_set ?_ GE325.out) | exact HB.out))); (case aF => exact (fun _ _ => trivial)); (case aO => exact (by (with_reducible repeat (first | apply Kd.R_alloc | apply Kd.R_drewN | apply Kd.R_drew)); exact HO331.out)); (case aS => exact (below_size (by repeat (first | (with_reducible first | exact HB.out | apply below_alloc | apply pw_below_drewN | apply below_drew1 | refine below_set ?_ GE325.out) | exact HB.out)))); (case aL => have := LMc17.out; omega); intro v333 w18 ho hb hg hat; rw [← Ny332.out] at ho; have n0_ := Aside0.mk (blk_grown (g := gb325) (o := .cells #[.int .u64 0, .bool false, .string (⟨#[]⟩ : ByteArray), .int .i64 0, .string (⟨#[]⟩ : ByteArray)] 52 (0, 0)) (by (with_reducible repeat (first | refine blk_drewN ?_ _ | refine blk_drew ?_ | refine blk_alloc ?_ _)); exact BK325.out) hg (Kd.R_ne HO331.out BK325.out (by decide))); have n1_ := Aside0.mk (hb); have n2_ := Aside0.mk (ho); clear BK325; clear HB; clear HO331; have BK325 := n0_; have HB := n1_; have HO334 := n2_; clear n0_ n1_ n2_; clear ho hb hg hat))
         go_meet
         case rel => exact ⟨_, (y332), H', ⟨by have := HJ7.out; first | omega | exact Nat.le_refl _⟩, ⟨by (with_reducible repeat (first | apply Kd.R_alloc | apply Kd.R_drewN | apply Kd.R_drew)); exact HO334.out⟩, ⟨by (with_reducible repeat (first | refine blk_drewN ?_ _ | refine blk_drew ?_ | refine blk_alloc ?_ _)); exact BK325.out⟩, ⟨by repeat (first | (with_reducible first | exact HB.out | apply below_alloc | apply pw_below_drewN | apply below_drew1 | refine below_set ?_ GE325.out) | exact HB.out)⟩⟩
        ·rw [if_neg c17] at H
         exact absurd H (by simp)
       ·replace c16 := Bool.eq_false_iff.mpr c16
        subst c16
        rw [if_neg (show ¬ (false = true) by decide)] at H
        have H' := Aside0.mk H
        clear H
        go_wp2
        go_meet
        case rel => exact ⟨_, (y329), H', ⟨by have := HJ7.out; first | omega | exact Nat.le_refl _⟩, ⟨by (with_reducible repeat (first | apply Kd.R_alloc | apply Kd.R_drewN | apply Kd.R_drew)); exact HO331.out⟩, ⟨by (with_reducible repeat (first | refine blk_drewN ?_ _ | refine blk_drew ?_ | refine blk_alloc ?_ _)); exact BK325.out⟩, ⟨by repeat (first | (with_reducible first | exact HB.out | apply below_alloc | apply pw_below_drewN | apply below_drew1 | refine below_set ?_ GE325.out) | exact HB.out)⟩⟩
      case rest =>
       clear HC13
       try clear c1
       try clear c2
       try clear p2
       try clear c3
       try clear c3b0
       try clear c3b1
       try clear c3b2
       try clear p3
       try clear q3
       try clear hx3
       try clear qi3
       try clear c6
       try clear c6b0
       try clear c6b1
       try clear c10
       try clear c11
       try clear c16
       try clear c17
       try clear c18
       try clear hcz12_0
       try clear hcz12_1
       try clear hcz12_2
       try clear hcz12_3
       try clear hcz12_4
       try clear hcz5_0
       try clear hcz5_1
       try clear hcz5_2
       try clear hcz5_3
       try clear hcz5_4
       try clear hfz12_0
       try clear hfz12_1
       try clear hfz12_2
       try clear hfz12_3
       try clear hfz12_4
       try clear hfz5_0
       try clear hfz5_1
       try clear hfz5_2
       try clear hfz5_3
       try clear hfz5_4
       try clear hx326_0
       try clear p2
       try clear p3
       try clear p326
       try clear q3
       try clear q326
       obtain ⟨kq, x8_12, HA, HJ12, HO_8, BK325, HB⟩ := hcut
       cases kq with
       | zero => exact absurd HA.out (by simp [args_Scanning.j1])
       | succ kj12 =>
        have H := HA.out
        clear HA
        simp only [args_Scanning.j1] at H
        by_cases c19 : 1 ≤ (l0.length : Int)
        ·rw [if_pos c19] at H
         have c19b0 := eq_true c19
         have c19b1 : decide (1 ≤ (l0.length : Int)) = true := decide_eq_true c19
         clear c19
         replace H := Option.bind_eq_some_iff.mp H
         obtain ⟨⟨t336, t339⟩, A200, H⟩ := H
         replace H : (if t339 = true then (if 0 < (t336.length : Int) then (if (rd_T38 t336 0).f0 = true then (if 0 < (((rd_T38 t336 0).f1).length : Int) then (args_Scanning.j2 kj12 a1 t336 (IntKind.u64.wrap (t327)) true (rdOf ByteArray.empty ((rd_T38 t336 0).f1) 0) 10 (⟨#[]⟩ : ByteArray)) else (none)) else (args_Scanning.j2 kj12 a1 t336 (IntKind.u64.wrap (t327)) false (⟨#[]⟩ : ByteArray) 10 (⟨#[]⟩ : ByteArray))) else (none)) else (some (0, false, (⟨#[]⟩ : ByteArray), 0, (⟨#[]⟩ : ByteArray), (⟨#[69, 82, 82, 32, 115, 121, 110, 116, 97, 120, 32, 101, 114, 114, 111, 114]⟩ : ByteArray)))) = some (r1, r2, r3, r4, r5, r6) := H
         have A20 := Aside0.mk A200
         clear A200
         by_cases c21 : t339 = true
         ·subst c21
          rw [if_pos rfl] at H
          by_cases c22 : 0 < (t336.length : Int)
          ·rw [if_pos c22] at H
           have c22b0 : decide (0 < (t336.length : Int)) = true := decide_eq_true c22
           have c22b1 : decide (0 < t336.length) = true := decide_eq_true (by omega)
           clear c22
           have HC23 := Aside0.mk H
           clear H
           obtain ⟨i024, hi024, _, hsz24, _⟩ := info_parts info9
           obtain ⟨A24, hcut24, hA24, hC24⟩ := print_drop_of (P := Try.prog) Value.string (⟨#[]⟩ : ByteArray) 22 9 .i64 Try.underlying22 hi024 hsz24 (some ad326) c0 l0 1 (by omega) (of_decide_eq_true (by first | (with_reducible assumption) | assumption)) HC0.out
           have HR335 := Aside0.mk (Kd.C_of_reads (h1 := fun _ => rfl) (hA24 _ (Kd.reads_of_C HR0.out)))
           have HC335 := Aside0.mk hC24
           clear hA24 hC24 hi024 hsz24
           obtain ⟨Ao25, co25, eo25⟩ := Kd.R_slice HO_8.out
           subst eo25
           go_upto_if 52 with (first | ((with_reducible refine gate_callee (f := 9) rfl ?_); refine goesL_ (some 40) rfl rfl Try.func9 (by kernel_rfl) rfl #[.slice A24 (l0.drop 1).length (c0 - 1), .slice Ao25 x8_12.length co25] rfl (by (try simp only [List.map_toArray, List.map_cons, List.map_nil]); first | done | (rw [show (l0.drop 1).length = (l0.length - 1) from List.length_drop] <;> rfl) | rfl | (simp only [List.length_drop, List.length_take]; rfl)) ?_; (with_reducible refine (args_Options.calls kj12 (fun k_ => k_ < w.heap.size) _ _ (l0.drop 1) _ _ x8_12 t336 true _ ?side1 ?side2 ?side3 A20.out).mono ?_); (case side1 => exact Kd.V_mk HC335.out (Kd.F_below (Kd.C_F Kd.heap_string HR335.out) (by repeat (first | (with_reducible first | exact HB.out | apply below_alloc | apply pw_below_drewN | apply below_drew1 | refine below_set ?_ GE325.out) | exact HB.out)))); (case side2 => repeat (first | exact (Kd.R_reads' HO_8.out).2.2 | (with_reducible refine Kd.C_alloc ?_ _) | (with_reducible refine Kd.C_drewN ?_ _) | (with_reducible refine Kd.C_drew ?_))); (case side3 => exact (Kd.R_reads' HO_8.out).2.1); rintro e w26 ⟨v337, rfl, ho0, hb⟩; refine ⟨_, rfl, ?_⟩; have n0_ := Aside0.mk (Kd.R_below (by (with_reducible repeat (first | apply Kd.R_alloc | apply Kd.R_drewN | apply Kd.R_drew)); exact HO_8.out) hb); have n1_ := Aside0.mk (Kd.S_lower (Kd.S_new' (Kd.S_mono (ok' := fun k_ => True) ho0 (fun _ hk_ => trivial)) (Kd.R_lt (by (with_reducible repeat (first | apply Kd.R_alloc | apply Kd.R_drewN | apply Kd.R_drew)); exact HO_8.out))) (below_size (by repeat (first | (with_reducible first | exact HB.out | apply below_alloc | apply pw_below_drewN | apply below_drew1 | refine below_set ?_ GE325.out) | exact HB.out)))); have n2_ := Aside0.mk (blk_below (g := gb325) (o := .cells #[.int .u64 0, .bool false, .string (⟨#[]⟩ : ByteArray), .int .i64 0, .string (⟨#[]⟩ : ByteArray)] 52 (0, 0)) (by (with_reducible repeat (first | refine blk_drewN ?_ _ | refine blk_drew ?_ | refine blk_alloc ?_ _)); exact BK325.out) hb); have n3_ := Aside0.mk (below_step (by repeat (first | (with_reducible first | exact HB.out | apply below_alloc | apply pw_below_drewN | apply below_drew1 | refine below_set ?_ GE325.out) | exact HB.out)) hb); clear HO_8; clear BK325; clear HB; have HO_8 := n0_; have HO338 := n1_; have BK325 := n2_; have HB := n3_; clear n0_ n1_ n2_ n3_; (try clear hb); (try clear hb2); (try clear hk); (try clear hi); (try clear ho0)) | ((with_reducible refine gate_dst (N := 10) rfl ?_); refine box_event ?hg (N := 10) ?hd (cs := #[.int .u64 0, .bool false, .string (⟨#[]⟩ : ByteArray), .int .i64 0, .string (⟨#[]⟩ : ByteArray)]) (t := 52) ?hr ?_; (case hd => rfl); (case hg => rfl); (case hr => first | (go_simp; done) | (go_simp; rfl)); intro gb340 hg w27 hbox hb; have n0_ := Aside0.mk (Kd.R_below (by (with_reducible repeat (first | apply Kd.R_alloc | apply Kd.R_drewN | apply Kd.R_drew)); exact HO_8.out) hb); have n1_ := Aside0.mk (Kd.S_below (by (with_reducible repeat (first | apply Kd.S_alloc | apply Kd.S_drewN | apply Kd.S_drew)); exact HO338.out) hb); have n2_ := Aside0.mk (blk_below (g := gb325) (o := .cells #[.int .u64 0, .bool false, .string (⟨#[]⟩ : ByteArray), .int .i64 0, .string (⟨#[]⟩ : ByteArray)] 52 (0, 0)) (by (with_reducible repeat (first | refine blk_drewN ?_ _ | refine blk_drew ?_ | refine blk_alloc ?_ _)); exact BK325.out) hb); have n3_ := Aside0.mk (below_step (by repeat (first | (with_reducible first | exact HB.out | apply below_alloc | apply pw_below_drewN | apply below_drew1 | refine below_set ?_ GE325.out) | exact HB.out)) hb); have n4_ := Aside0.mk (hbox); have n5_ := Aside0.mk ((by rw [hg]; exact (below_size (by repeat (first | (with_reducible first | exact HB.out | apply below_alloc | apply pw_below_drewN | apply below_drew1 | refine below_set ?_ GE325.out) | exact HB.out))) : w.heap.size ≤ gb340)); have n6_ := Aside0.mk ((by rw [hg]; exact (below_size (by repeat (first | (with_reducible first | exact HB.out | apply below_alloc | apply pw_below_drewN | apply below_drew1 | refine below_set ?_ GE325.out) | exact HB.out))) : w.heap.size ≤ gb340)); have n7_ := Aside0.mk ((by rw [hg]; exact Nat.ne_of_lt (blk_lt (g := gb325) (o := .cells #[.int .u64 0, .bool false, .string (⟨#[]⟩ : ByteArray), .int .i64 0, .string (⟨#[]⟩ : ByteArray)] 52 (0, 0)) (by (with_reducible repeat (first | refine blk_drewN ?_ _ | refine blk_drew ?_ | refine blk_alloc ?_ _)); exact BK325.out)) : gb325 ≠ gb340)); have n8_ := Aside0.mk ((by rw [hg]; exact Nat.ne_of_gt (blk_lt (g := gb325) (o := .cells #[.int .u64 0, .bool false, .string (⟨#[]⟩ : ByteArray), .int .i64 0, .string (⟨#[]⟩ : ByteArray)] 52 (0, 0)) (by (with_reducible repeat (first | refine blk_drewN ?_ _ | refine blk_drew ?_ | refine blk_alloc ?_ _)); exact BK325.out)) : gb340 ≠ gb325)); clear HO_8; clear HO338; clear BK325; clear HB; have HO_8 := n0_; have HO338 := n1_; have BK325 := n2_; have HB := n3_; have BK340 := n4_; have GW340 := n5_; have GE340 := n6_; have NB325_340 := n7_; have NB340_325 := n8_; clear n0_ n1_ n2_ n3_ n4_ n5_ n6_ n7_ n8_; clear hb hbox hg; have hnb28 := NB340_325.out; have hnc28 := NB325_340.out; obtain ⟨hcz29_0, hcz29_1, hcz29_2, hcz29_3, hcz29_4, hfz29_0, hfz29_1, hfz29_2, hfz29_3, hfz29_4⟩ := cells5_ BK340.out) | ((with_reducible refine gate_store (t := 52) (p := 10) rfl ?_); refine store_event (t := 52) (p := 10) (v := ?vo_w30) (w1 := (((((w27.setCell ⟨gb340, 0, none⟩ (.int .u64 (IntKind.u64.wrap (t327)))).setCell ⟨gb340, 1, none⟩ (.bool false)).setCell ⟨gb340, 2, none⟩ (.string (⟨#[]⟩ : ByteArray))).setCell ⟨gb340, 3, none⟩ (.int .i64 10)).setCell ⟨gb340, 4, none⟩ (.string (⟨#[]⟩ : ByteArray)))) ?hg ?ho ?hn ?hr ?_; (case ho => rfl); (case hg => rfl); (case hn => rfl); (case hr => first | (go_simp; done) | (go_simp; rfl)); intro w30 hw; have n0_ : Aside0 (Kd.R Kd.string 9 w30 w.heap.size (fun _ => True) (.slice Ao25 x8_12.length co25) x8_12) := ⟨(by rw [hw]; exact (by (with_reducible repeat (first | apply Kd.R_alloc | apply Kd.R_drewN | apply Kd.R_drew)); exact Kd.R_mono (Kd.R_far (p := ⟨gb340, 4, none⟩) (Kd.R_far (p := ⟨gb340, 3, none⟩) (Kd.R_far (p := ⟨gb340, 2, none⟩) (Kd.R_far (p := ⟨gb340, 1, none⟩) (Kd.R_far (p := ⟨gb340, 0, none⟩) (Kd.R_types HO_8.out BK340.out (by decide)) (fun _ hk => hk.2) (.int .u64 (IntKind.u64.wrap (t327)))) (fun _ hk => hk.2) (.bool false)) (fun _ hk => hk.2) (.string (⟨#[]⟩ : ByteArray))) (fun _ hk => hk.2) (.int .i64 10)) (fun _ hk => hk.2) (.string (⟨#[]⟩ : ByteArray))) (fun _ hk => trivial)))⟩; have n1_ : Aside0 (Kd.S k38 38 w30 w.heap.size (fun k_ => some k_ ≠ (.slice Ao25 x8_12.length co25 : Value).ownBlock) v337 t336) := ⟨(by rw [hw]; exact (by (with_reducible repeat (first | apply Kd.S_alloc | apply Kd.S_drewN | apply Kd.S_drew)); exact Kd.S_mono (Kd.S_far (p := ⟨gb340, 4, none⟩) (Kd.S_far (p := ⟨gb340, 3, none⟩) (Kd.S_far (p := ⟨gb340, 2, none⟩) (Kd.S_far (p := ⟨gb340, 1, none⟩) (Kd.S_far (p := ⟨gb340, 0, none⟩) (Kd.S_types HO338.out BK340.out (by decide)) (fun _ hk => hk.2) (.int .u64 (IntKind.u64.wrap (t327)))) (fun _ hk => hk.2) (.bool false)) (fun _ hk => hk.2) (.string (⟨#[]⟩ : ByteArray))) (fun _ hk => hk.2) (.int .i64 10)) (fun _ hk => hk.2) (.string (⟨#[]⟩ : ByteArray))) (fun _ hk => by first | exact hk.1.2 | exact hk.1)))⟩; have n2_ : Aside0 (w30.heap[gb325]? = some (.cells #[.int .u64 0, .bool false, .string (⟨#[]⟩ : ByteArray), .int .i64 0, .string (⟨#[]⟩ : ByteArray)] 52 (0, 0))) := ⟨(by rw [hw]; exact (by (with_reducible repeat (first | refine blk_drewN ?_ _ | refine blk_drew ?_ | refine blk_alloc ?_ _)); refine blk_far ?_ NB325_340.out _; (with_reducible repeat (first | refine blk_drewN ?_ _ | refine blk_drew ?_ | refine blk_alloc ?_ _)); refine blk_far ?_ NB325_340.out _; (with_reducible repeat (first | refine blk_drewN ?_ _ | refine blk_drew ?_ | refine blk_alloc ?_ _)); refine blk_far ?_ NB325_340.out _; (with_reducible repeat (first | refine blk_drewN ?_ _ | refine blk_drew ?_ | refine blk_alloc ?_ _)); refine blk_far ?_ NB325_340.out _; (with_reducible repeat (first | refine blk_drewN ?_ _ | refine blk_drew ?_ | refine blk_alloc ?_ _)); refine blk_far ?_ NB325_340.out _; (with_reducible repeat (first | refine blk_drewN ?_ _ | refine blk_drew ?_ | refine blk_alloc ?_ _)); exact BK325.out))⟩; have n3_ : Aside0 (w30.heap[gb340]? = some (.cells #[.int .u64 (IntKind.u64.wrap (t327)), .bool false, .string (⟨#[]⟩ : ByteArray), .int .i64 10, .string (⟨#[]⟩ : ByteArray)] 52 (0, 0))) := ⟨(by rw [hw]; exact (by (with_reducible repeat (first | refine blk_drewN ?_ _ | refine blk_drew ?_ | refine blk_alloc ?_ _)); refine blk_put (cs := #[.int .u64 (IntKind.u64.wrap (t327)), .bool false, .string (⟨#[]⟩ : ByteArray), .int .i64 10, .string (⟨#[]⟩ : ByteArray)]) ?_ 4 _ rfl; (with_reducible repeat (first | refine blk_drewN ?_ _ | refine blk_drew ?_ | refine blk_alloc ?_ _)); refine blk_put (cs := #[.int .u64 (IntKind.u64.wrap (t327)), .bool false, .string (⟨#[]⟩ : ByteArray), .int .i64 0, .string (⟨#[]⟩ : ByteArray)]) ?_ 3 _ rfl; (with_reducible repeat (first | refine blk_drewN ?_ _ | refine blk_drew ?_ | refine blk_alloc ?_ _)); refine blk_put (cs := #[.int .u64 (IntKind.u64.wrap (t327)), .bool false, .string (⟨#[]⟩ : ByteArray), .int .i64 0, .string (⟨#[]⟩ : ByteArray)]) ?_ 2 _ rfl; (with_reducible repeat (first | refine blk_drewN ?_ _ | refine blk_drew ?_ | refine blk_alloc ?_ _)); refine blk_put (cs := #[.int .u64 (IntKind.u64.wrap (t327)), .bool false, .string (⟨#[]⟩ : ByteArray), .int .i64 0, .string (⟨#[]⟩ : ByteArray)]) ?_ 1 _ rfl; (with_reducible repeat (first | refine blk_drewN ?_ _ | refine blk_drew ?_ | refine blk_alloc ?_ _)); refine blk_put (cs := #[.int .u64 0, .bool false, .string (⟨#[]⟩ : ByteArray), .int .i64 0, .string (⟨#[]⟩ : ByteArray)]) ?_ 0 _ rfl; (with_reducible repeat (first | refine blk_drewN ?_ _ | refine blk_drew ?_ | refine blk_alloc ?_ _)); exact BK340.out))⟩; have n4_ : Aside0 (Below w.heap.size w w30) := ⟨(by rw [hw]; exact (by repeat (first | (with_reducible first | exact HB.out | apply below_alloc | apply pw_below_drewN | apply below_drew1 | refine below_set ?_ GE325.out | refine below_set ?_ GE340.out) | exact HB.out)))⟩; clear hw; clear HO_8; clear HO338; clear BK325; clear BK340; clear HB; have HO_8 := n0_; have HO338 := n1_; have BK325 := n2_; have BK340 := n3_; have HB := n4_; clear n0_ n1_ n2_ n3_ n4_; obtain ⟨Ao31, co31, eo31⟩ := Kd.S_slice HO338.out; subst eo31; have p341 : 0 ≤ (0 : Int) := (by omega); have q341 : 0 < (t336.length : Int) := of_decide_eq_true (by first | (with_reducible assumption) | assumption); obtain ⟨ad341, A341_1, c341_1, e341, hx341_0, hx341_1, hl341_1, hi341_1⟩ := at_T38 (Kd.S_reads' HO338.out).2.2 0 p341 q341; cases e341; obtain ⟨ce341, hce341, hMe341, hcc341⟩ := Kd.S_get HO338.out z38 0 p341 (by first | exact q341 | exact of_decide_eq_true (by first | (with_reducible assumption) | assumption) | (have e_ := (Kd.S_reads' HO338.out).1; omega)); obtain ⟨ve341_1, rfl, ge341_1⟩ := k38_openM hMe341; have hv341_1 := hcc341 1 _ rfl; rw [add_field _ _ 1 (by omega)] at hv341_1; replace hv341_1 := Option.some.inj (hv341_1.symm.trans hx341_1); rw [hv341_1] at ge341_1; have HL341_1 := Aside0.mk (show Kd.R Kd.string 9 _ _ _ _ ((rd_T38 t336 0).f1) from ge341_1); clear hv341_1 ge341_1; clear hcc341 hce341; have qi341 : (0 < t336.length) = True := eq_true (by omega); (try rw [show ((0 : Int)).toNat = 0 from rfl] at hx341_0); (try rw [show 0 * 2 = 0 from rfl] at hx341_0); (try rw [Addr.add_zero'] at hx341_0); (try rw [show ((0 : Int)).toNat = 0 from rfl] at hx341_1); (try rw [show 0 * 2 = 0 from rfl] at hx341_1); (try rw [Addr.add_zero'] at hx341_1); have HR341_1 := Aside0.mk hi341_1; have HC341_1 := Aside0.mk hl341_1; clear hi341_1 hl341_1; replace p341 := eq_true p341; replace q341 := eq_true q341))
           (try simp only [Act.put, List.setIfInBounds_toArray, List.set_cons_zero, List.set_cons_succ])
           go_cut [] (fun wc => ∃ (kq : Nat) (x341001_22 : Bool) (x341002_22 : ByteArray), Aside0 (args_Scanning.j2 kq a1 t336 (IntKind.u64.wrap (t327)) x341001_22 x341002_22 10 (⟨#[]⟩ : ByteArray) = some (r1, r2, r3, r4, r5, r6)) ∧ Aside0 (kq ≤ kj12) ∧ Aside0 (Kd.S k38 38 wc w.heap.size (fun _ => True) (.slice (some ad341) t336.length co31) t336) ∧ Aside0 (wc.heap[gb325]? = some (.cells #[.int .u64 0, .bool false, .string (⟨#[]⟩ : ByteArray), .int .i64 0, .string (⟨#[]⟩ : ByteArray)] 52 (0, 0))) ∧ Aside0 (wc.heap[gb340]? = some (.cells #[.int .u64 (IntKind.u64.wrap (t327)), .bool x341001_22, .string x341002_22, .int .i64 10, .string (⟨#[]⟩ : ByteArray)] 52 (0, 0))) ∧ Aside0 (Below w.heap.size w wc))
           case first =>
            have H := HC23.out
            clear HC23
            obtain ⟨bq32, hbq32⟩ : ∃ b_ : Bool, b_ = ((rd_T38 t336 0).f0) := ⟨_, rfl⟩
            replace H : (if bq32 = true then (if 0 < (((rd_T38 t336 0).f1).length : Int) then (args_Scanning.j2 kj12 a1 t336 (IntKind.u64.wrap (t327)) true (rdOf ByteArray.empty ((rd_T38 t336 0).f1) 0) 10 (⟨#[]⟩ : ByteArray)) else (none)) else (args_Scanning.j2 kj12 a1 t336 (IntKind.u64.wrap (t327)) false (⟨#[]⟩ : ByteArray) 10 (⟨#[]⟩ : ByteArray))) = some (r1, r2, r3, r4, r5, r6) := by rw [← hbq32] at H; exact H
            have Nbq32 := Aside0.mk hbq32
            clear hbq32
            (try rw [← Nbq32.out])
            by_cases c33 : bq32 = true
            ·subst c33
             rw [if_pos rfl] at H
             by_cases c34 : 0 < (((rd_T38 t336 0).f1).length : Int)
             ·rw [if_pos c34] at H
              have c34b0 : decide (0 < (((rd_T38 t336 0).f1).length : Int)) = true := decide_eq_true c34
              have c34b1 : decide (0 < ((rd_T38 t336 0).f1).length) = true := decide_eq_true (by omega)
              clear c34
              have H' := Aside0.mk H
              clear H
              try go_wp2
              have n0_ := Aside0.mk (Kd.R_drew HO_8.out)
              have n1_ := Aside0.mk (Kd.S_drew HO338.out)
              have n2_ := Aside0.mk (Kd.R_drew HL341_1.out)
              have n3_ := Aside0.mk (blk_drew BK325.out)
              have n4_ := Aside0.mk (blk_drew BK340.out)
              have n5_ := Aside0.mk (Kd.C_drew HR341_1.out)
              have n6_ := Aside0.mk (below_drew1 HB.out)
              clear HO_8
              clear HO338
              clear HL341_1
              clear BK325
              clear BK340
              clear HR341_1
              clear HB
              have HO_8 := n0_
              have HO338 := n1_
              have HL341_1 := n2_
              have BK325 := n3_
              have BK340 := n4_
              have HR341_1 := n5_
              have HB := n6_
              clear n0_ n1_ n2_ n3_ n4_ n5_ n6_
              have p342 : 0 ≤ (0 : Int) := (by omega)
              have q342 : 0 < (t336.length : Int) := of_decide_eq_true (by first | (with_reducible assumption) | assumption)
              obtain ⟨ad342, A342_1, c342_1, e342, hx342_0, hx342_1, hl342_1, hi342_1⟩ := at_T38 (Kd.S_reads' HO338.out).2.2 0 p342 q342
              (try rw [← Nbq32.out] at hx342_0)
              obtain rfl : ad341 = ad342 := (by injection e342)
              obtain ⟨ce342, hce342, hMe342, hcc342⟩ := Kd.S_get HO338.out z38 0 p342 (by first | exact q342 | exact of_decide_eq_true (by first | (with_reducible assumption) | assumption) | (have e_ := (Kd.S_reads' HO338.out).1; omega))
              obtain ⟨ve342_1, rfl, ge342_1⟩ := k38_openM hMe342
              have hv342_1 := hcc342 1 _ rfl
              rw [add_field _ _ 1 (by omega)] at hv342_1
              replace hv342_1 := Option.some.inj (hv342_1.symm.trans hx342_1)
              rw [hv342_1] at ge342_1
              have HL342_1 := Aside0.mk (show Kd.R Kd.string 9 _ _ _ _ ((rd_T38 t336 0).f1) from ge342_1)
              clear hv342_1 ge342_1
              clear hcc342 hce342
              have qi342 : (0 < t336.length) = True := eq_true (by omega)
              (try rw [show ((0 : Int)).toNat = 0 from rfl] at hx342_0)
              (try rw [show 0 * 2 = 0 from rfl] at hx342_0)
              (try rw [Addr.add_zero'] at hx342_0)
              (try rw [show ((0 : Int)).toNat = 0 from rfl] at hx342_1)
              (try rw [show 0 * 2 = 0 from rfl] at hx342_1)
              (try rw [Addr.add_zero'] at hx342_1)
              have HR342_1 := Aside0.mk hi342_1
              have HC342_1 := Aside0.mk hl342_1
              clear hi342_1 hl342_1
              replace p342 := eq_true p342
              replace q342 := eq_true q342
              have p343 : 0 ≤ (0 : Int) := (by omega)
              have q343 : 0 < (((rd_T38 t336 0).f1).length : Int) := of_decide_eq_true (by first | (with_reducible assumption) | assumption)
              obtain ⟨ad343, e343, hx343_0⟩ := Kd.at_string (by repeat (first | (with_reducible exact HR342_1.out) | (with_reducible refine Kd.C_alloc ?_ _) | (with_reducible refine Kd.C_drewN ?_ _) | (with_reducible refine Kd.C_drew ?_) | exact HR342_1.out)) 0 p343 q343
              cases e343
              have qi343 : (0 < ((rd_T38 t336 0).f1).length) = True := eq_true (by omega)
              (try rw [show ((0 : Int)).toNat = 0 from rfl] at hx343_0)
              (try rw [Addr.add_zero'] at hx343_0)
              replace p343 := eq_true p343
              replace q343 := eq_true q343
              refine start_ (n := 10) (S := fun w' => w'.cell? ad341 = some (.bool (true)) ∧ w'.cell? ⟨ad341.block, ad341.off + 1, none⟩ = some (.slice (some ad343) ((rd_T38 t336 0).f1).length c342_1) ∧ w'.cell? ad343 = some (.string (rdOf ByteArray.empty ((rd_T38 t336 0).f1) 0))) (ds := []) #[false, false, false, false, false, false, false, false, false, false] (by kernel_rfl) rfl rfl ⟨hx342_0, hx342_1, hx343_0⟩ (fun hHeld => ?_); refine with_tabW args_Scanning.tab14 args_Scanning.bits14 (fun HT_ HW_ => ?_)
              generalize w30.drew = w35 at HO_8 HO338 HL341_1 BK325 BK340 HR341_1 HB HL342_1 HR342_1 hx342_0 hx342_1 hx343_0 hHeld ⊢
              refine pure_ (i := 0) (N := some 53) (v := ?_) (a' := ?_) #[true, false, false, false, false, false, false, false, false, false] rfl rfl (any_of HT_.out (by kernel_rfl)) (fun _ _ _ h => h) (Or.inl ⟨by rfl, ?_⟩) ?_ ?_
              rotate_left
              ·intro w'
               go_simp
               with_reducible rfl
              rotate_left
              ·simp only [Act.put, List.setIfInBounds_toArray, List.set_cons_zero, List.set_cons_succ, i64_w, i32_w]
               rfl
              refine pure_ (i := 1) (N := some 54) (v := ?_) (a' := ?_) #[true, true, false, false, false, false, false, false, false, false] rfl rfl (any_of HT_.out (by kernel_rfl)) (fun _ _ _ h => h) (Or.inl ⟨by rfl, ?_⟩) ?_ ?_
              rotate_left
              ·intro w'
               go_simp
               with_reducible rfl
              rotate_left
              ·simp only [Act.put, List.setIfInBounds_toArray, List.set_cons_zero, List.set_cons_succ, i64_w, i32_w]
               rfl
              refine pure_ (i := 2) (N := some 55) (v := ?_) (a' := ?_) #[true, true, true, false, false, false, false, false, false, false] rfl rfl (any_of HT_.out (by kernel_rfl)) (fun _ _ _ h => h) (Or.inl ⟨by rfl, ?_⟩) ?_ ?_
              rotate_left
              ·intro w'
               go_simp
               with_reducible rfl
              rotate_left
              ·simp only [Act.put, List.setIfInBounds_toArray, List.set_cons_zero, List.set_cons_succ, i64_w, i32_w]
               rfl
              refine pure_ (i := 6) (N := some 59) (v := ?_) (a' := ?_) #[true, true, true, false, false, false, true, false, false, false] rfl rfl (any_of HT_.out (by kernel_rfl)) (fun _ _ _ h => h) (Or.inl ⟨by rfl, ?_⟩) ?_ ?_
              rotate_left
              ·intro w'
               go_simp
               with_reducible rfl
              rotate_left
              ·simp only [Act.put, List.setIfInBounds_toArray, List.set_cons_zero, List.set_cons_succ, i64_w, i32_w]
               rfl
              refine take_ (i := 3) (N := some 56) (v := ?_) (a' := ?_) #[true, true, true, true, false, false, true, false, false, false] rfl rfl (take_ofW HT_.out HW_.out (by kernel_rfl)) (fun _ _ _ h => h) (Or.inl ⟨by rfl, ?_⟩) hHeld ?_ ?_
              rotate_left
              ·rintro w' ⟨s0, s1, s2⟩
               go_simp
               with_reducible rfl
              rotate_left
              ·simp only [Act.put, List.setIfInBounds_toArray, List.set_cons_zero, List.set_cons_succ, i64_w, i32_w]
               rfl
              refine pure_ (i := 4) (N := some 57) (v := ?_) (a' := ?_) #[true, true, true, true, true, false, true, false, false, false] rfl rfl (any_of HT_.out (by kernel_rfl)) (fun _ _ _ h => h) (Or.inl ⟨by rfl, ?_⟩) ?_ ?_
              rotate_left
              ·intro w'
               go_simp
               with_reducible rfl
              rotate_left
              ·simp only [Act.put, List.setIfInBounds_toArray, List.set_cons_zero, List.set_cons_succ, i64_w, i32_w]
               rfl
              refine take_ (i := 5) (N := some 58) (v := ?_) (a' := ?_) #[true, true, true, true, true, true, true, false, false, false] rfl rfl (take_ofW HT_.out HW_.out (by kernel_rfl)) (fun _ _ _ h => h) (Or.inl ⟨by rfl, ?_⟩) hHeld ?_ ?_
              rotate_left
              ·rintro w' ⟨s0, s1, s2⟩
               go_simp
               with_reducible rfl
              rotate_left
              ·simp only [Act.put, List.setIfInBounds_toArray, List.set_cons_zero, List.set_cons_succ, i64_w, i32_w]
               rfl
              refine one_ (i := 7) (N := none) #[true, true, true, true, true, true, true, true, false, false] rfl rfl (one_of HT_.out (by kernel_rfl)) (by decide) (fun K hK => ?_)
              have hs36 : w35.cell? ⟨gb340, 1, none⟩ = some (.bool false) := (blk_cell BK340.out 1).trans rfl
              have hfs36 := blk_frozen BK340.out 1
              have hns36_0 := NB325_340.out
              have hms36_0 := NB340_325.out
              refine skip_ (w1 := ?_) (by rfl) rfl ?_ ?_
              rotate_left
              ·go_simp
               rfl
              refine hK.out _ _ ⟨((cell_far (p := ⟨gb340, _, none⟩) (by first | exact Kd.own_blk (Kd.S_ne HO338.out BK340.out (by decide)) | (rw [add_block]; exact Kd.own_blk (Kd.S_ne HO338.out BK340.out (by decide))) | (show (Addr.add _ _).block ≠ _; rw [add_block]; exact Kd.own_blk (Kd.S_ne HO338.out BK340.out (by decide))) | (dsimp only; exact Kd.own_blk (Kd.S_ne HO338.out BK340.out (by decide)))) _).trans (hHeld.1)), ((cell_far (p := ⟨gb340, _, none⟩) (by first | exact Kd.own_blk (Kd.S_ne HO338.out BK340.out (by decide)) | (rw [add_block]; exact Kd.own_blk (Kd.S_ne HO338.out BK340.out (by decide))) | (show (Addr.add _ _).block ≠ _; rw [add_block]; exact Kd.own_blk (Kd.S_ne HO338.out BK340.out (by decide))) | (dsimp only; exact Kd.own_blk (Kd.S_ne HO338.out BK340.out (by decide)))) _).trans (hHeld.2.1)), ((cell_far (p := ⟨gb340, _, none⟩) (by first | exact Kd.own_blk (Kd.R_ne HL342_1.out BK340.out (by decide)) | (rw [add_block]; exact Kd.own_blk (Kd.R_ne HL342_1.out BK340.out (by decide))) | (show (Addr.add _ _).block ≠ _; rw [add_block]; exact Kd.own_blk (Kd.R_ne HL342_1.out BK340.out (by decide))) | (dsimp only; exact Kd.own_blk (Kd.R_ne HL342_1.out BK340.out (by decide)))) _).trans (hHeld.2.2))⟩ (fun hHeld => ?_)
              clear hK K
              refine pure_ (i := 8) (N := some 60) (v := ?_) (a' := ?_) #[true, true, true, true, true, true, true, true, true, false] rfl rfl (any_of HT_.out (by kernel_rfl)) (fun _ _ _ h => h) (Or.inl ⟨by rfl, ?_⟩) ?_ ?_
              rotate_left
              ·intro w'
               go_simp
               with_reducible rfl
              rotate_left
              ·simp only [Act.put, List.setIfInBounds_toArray, List.set_cons_zero, List.set_cons_succ, i64_w, i32_w]
               rfl
              refine one_ (i := 9) (N := none) #[true, true, true, true, true, true, true, true, true, true] rfl rfl (one_of HT_.out (by kernel_rfl)) (by decide) (fun K hK => ?_)
              have hs37 : w35.cell? ⟨gb340, 2, none⟩ = some (.string (⟨#[]⟩ : ByteArray)) := (blk_cell BK340.out 2).trans rfl
              have hfs37 := blk_frozen BK340.out 2
              have hns37_0 := NB325_340.out
              have hms37_0 := NB340_325.out
              refine skip_ (w1 := ?_) (by rfl) rfl ?_ ?_
              rotate_left
              ·go_simp
               rfl
              refine hK.out _ _ ⟨((cell_far (p := ⟨gb340, _, none⟩) (by first | exact Kd.own_blk (Kd.S_ne HO338.out BK340.out (by decide)) | (rw [add_block]; exact Kd.own_blk (Kd.S_ne HO338.out BK340.out (by decide))) | (show (Addr.add _ _).block ≠ _; rw [add_block]; exact Kd.own_blk (Kd.S_ne HO338.out BK340.out (by decide))) | (dsimp only; exact Kd.own_blk (Kd.S_ne HO338.out BK340.out (by decide)))) _).trans (hHeld.1)), ((cell_far (p := ⟨gb340, _, none⟩) (by first | exact Kd.own_blk (Kd.S_ne HO338.out BK340.out (by decide)) | (rw [add_block]; exact Kd.own_blk (Kd.S_ne HO338.out BK340.out (by decide))) | (show (Addr.add _ _).block ≠ _; rw [add_block]; exact Kd.own_blk (Kd.S_ne HO338.out BK340.out (by decide))) | (dsimp only; exact Kd.own_blk (Kd.S_ne HO338.out BK340.out (by decide)))) _).trans (hHeld.2.1)), ((cell_far (p := ⟨gb340, _, none⟩) (by first | exact Kd.own_blk (Kd.R_ne HL342_1.out BK340.out (by decide)) | (rw [add_block]; exact Kd.own_blk (Kd.R_ne HL342_1.out BK340.out (by decide))) | (show (Addr.add _ _).block ≠ _; rw [add_block]; exact Kd.own_blk (Kd.R_ne HL342_1.out BK340.out (by decide))) | (dsimp only; exact Kd.own_blk (Kd.R_ne HL342_1.out BK340.out (by decide)))) _).trans (hHeld.2.2))⟩ (fun hHeld => ?_)
              clear hK K
              refine done_ (done_of HT_.out (by kernel_rfl)) ?_
              try go_wp2
              go_meet
              case rel => exact ⟨_, (true), (rdOf ByteArray.empty ((rd_T38 t336 0).f1) 0), H', ⟨by have := HJ7.out; have := HJ12.out; first | omega | exact Nat.le_refl _⟩, ⟨by (with_reducible repeat (first | apply Kd.S_alloc | apply Kd.S_drewN | apply Kd.S_drew)); exact Kd.S_mono (Kd.S_far (p := ⟨gb340, 2, none⟩) (Kd.S_far (p := ⟨gb340, 1, none⟩) (Kd.S_types HO338.out BK340.out (by decide)) (fun _ hk => hk.2) (.bool true)) (fun _ hk => hk.2) (.string (rdOf ByteArray.empty ((rd_T38 t336 0).f1) 0))) (fun _ hk => trivial)⟩, ⟨by (with_reducible repeat (first | refine blk_drewN ?_ _ | refine blk_drew ?_ | refine blk_alloc ?_ _)); refine blk_far ?_ NB325_340.out _; (with_reducible repeat (first | refine blk_drewN ?_ _ | refine blk_drew ?_ | refine blk_alloc ?_ _)); refine blk_far ?_ NB325_340.out _; (with_reducible repeat (first | refine blk_drewN ?_ _ | refine blk_drew ?_ | refine blk_alloc ?_ _)); exact BK325.out⟩, ⟨by (with_reducible repeat (first | refine blk_drewN ?_ _ | refine blk_drew ?_ | refine blk_alloc ?_ _)); refine blk_put (cs := #[.int .u64 (IntKind.u64.wrap (t327)), .bool true, .string (⟨#[]⟩ : ByteArray), .int .i64 10, .string (⟨#[]⟩ : ByteArray)]) ?_ 2 _ rfl; (with_reducible repeat (first | refine blk_drewN ?_ _ | refine blk_drew ?_ | refine blk_alloc ?_ _)); refine blk_put (cs := #[.int .u64 (IntKind.u64.wrap (t327)), .bool false, .string (⟨#[]⟩ : ByteArray), .int .i64 10, .string (⟨#[]⟩ : ByteArray)]) ?_ 1 _ rfl; (with_reducible repeat (first | refine blk_drewN ?_ _ | refine blk_drew ?_ | refine blk_alloc ?_ _)); exact BK340.out⟩, ⟨by repeat (first | (with_reducible first | exact HB.out | apply below_alloc | apply pw_below_drewN | apply below_drew1 | refine below_set ?_ GE325.out | refine below_set ?_ GE340.out) | exact HB.out)⟩⟩
             ·rw [if_neg c34] at H
              exact absurd H (by simp)
            ·replace c33 := Bool.eq_false_iff.mpr c33
             subst c33
             rw [if_neg (show ¬ (false = true) by decide)] at H
             have H' := Aside0.mk H
             clear H
             go_wp2
             go_meet
             case rel => exact ⟨_, (false), ((⟨#[]⟩ : ByteArray)), H', ⟨by have := HJ7.out; have := HJ12.out; first | omega | exact Nat.le_refl _⟩, ⟨by (with_reducible repeat (first | apply Kd.S_alloc | apply Kd.S_drewN | apply Kd.S_drew)); exact Kd.S_mono HO338.out (fun _ hk => trivial)⟩, ⟨by (with_reducible repeat (first | refine blk_drewN ?_ _ | refine blk_drew ?_ | refine blk_alloc ?_ _)); exact BK325.out⟩, ⟨by (with_reducible repeat (first | refine blk_drewN ?_ _ | refine blk_drew ?_ | refine blk_alloc ?_ _)); exact BK340.out⟩, ⟨by repeat (first | (with_reducible first | exact HB.out | apply below_alloc | apply pw_below_drewN | apply below_drew1 | refine below_set ?_ GE325.out | refine below_set ?_ GE340.out) | exact HB.out)⟩⟩
           case rest =>
            clear HC23
            try clear c1
            try clear c2
            try clear p2
            try clear c3
            try clear c3b0
            try clear c3b1
            try clear c3b2
            try clear p3
            try clear q3
            try clear hx3
            try clear qi3
            try clear c6
            try clear c6b0
            try clear c6b1
            try clear c9
            try clear c10
            try clear c11
            try clear c16
            try clear c17
            try clear c18
            try clear c19
            try clear c19b0
            try clear c19b1
            try clear c21
            try clear c22
            try clear c22b0
            try clear c22b1
            try clear c28
            try clear p32
            try clear q32
            try clear hx32
            try clear qi32
            try clear c33
            try clear c34
            try clear c34b0
            try clear c34b1
            try clear p34
            try clear q34
            try clear hx34
            try clear qi34
            try clear hcz12_0
            try clear hcz12_1
            try clear hcz12_2
            try clear hcz12_3
            try clear hcz12_4
            try clear hcz29_0
            try clear hcz29_1
            try clear hcz29_2
            try clear hcz29_3
            try clear hcz29_4
            try clear hcz5_0
            try clear hcz5_1
            try clear hcz5_2
            try clear hcz5_3
            try clear hcz5_4
            try clear hfz12_0
            try clear hfz12_1
            try clear hfz12_2
            try clear hfz12_3
            try clear hfz12_4
            try clear hfz29_0
            try clear hfz29_1
            try clear hfz29_2
            try clear hfz29_3
            try clear hfz29_4
            try clear hfz5_0
            try clear hfz5_1
            try clear hfz5_2
            try clear hfz5_3
            try clear hfz5_4
            try clear hx326_0
            try clear hx341_0
            try clear hx341_1
            try clear hx342_0
            try clear hx342_1
            try clear hx343_0
            try clear p2
            try clear p3
            try clear p326
            try clear p341
            try clear p342
            try clear p343
            try clear q3
            try clear q326
            try clear q341
            try clear q342
            try clear q343
            obtain ⟨kq, x341001_22, x341002_22, HA, HJ22, HO_9, BK325, BK340, HB⟩ := hcut
            cases kq with
            | zero => exact absurd HA.out (by simp [args_Scanning.j2])
            | succ kj22 =>
             have H := HA.out
             clear HA
             simp only [args_Scanning.j2] at H
             by_cases c38 : 1 < (t336.length : Int)
             ·rw [if_pos c38] at H
              have c38b0 : decide (1 < (t336.length : Int)) = true := decide_eq_true c38
              have c38b1 : decide (1 < t336.length) = true := decide_eq_true (by omega)
              clear c38
              obtain ⟨bq39, hbq39⟩ : ∃ b_ : Bool, b_ = ((rd_T38 t336 1).f0) := ⟨_, rfl⟩
              replace H : (if bq39 = true then (if 0 < (((rd_T38 t336 1).f1).length : Int) then ((num_Parse.f kj22 (rdOf ByteArray.empty ((rd_T38 t336 1).f1) 0)).bind fun bt347 => (if bt347.2 = true then (if bt347.1 < 1 then (some (0, false, (⟨#[]⟩ : ByteArray), 0, (⟨#[]⟩ : ByteArray), (⟨#[69, 82, 82, 32, 115, 121, 110, 116, 97, 120, 32, 101, 114, 114, 111, 114]⟩ : ByteArray))) else (if a1 = true then (if 2 < (t336.length : Int) then (if (rd_T38 t336 2).f0 = true then (if 0 < (((rd_T38 t336 2).f1).length : Int) then (some ((IntKind.u64.wrap (t327)), x341001_22, x341002_22, mn bt347.1 1000, rdOf ByteArray.empty ((rd_T38 t336 2).f1) 0, (⟨#[]⟩ : ByteArray))) else (none)) else (some ((IntKind.u64.wrap (t327)), x341001_22, x341002_22, mn bt347.1 1000, (⟨#[]⟩ : ByteArray), (⟨#[]⟩ : ByteArray)))) else (none)) else (some ((IntKind.u64.wrap (t327)), x341001_22, x341002_22, mn bt347.1 1000, (⟨#[]⟩ : ByteArray), (⟨#[]⟩ : ByteArray))))) else (some (0, false, (⟨#[]⟩ : ByteArray), 0, (⟨#[]⟩ : ByteArray), (⟨#[69, 82, 82, 32, 118, 97, 108, 117, 101, 32, 105, 115, 32, 110, 111, 116, 32, 97, 110, 32, 105, 110, 116, 101, 103, 101, 114, 32, 111, 114, 32, 111, 117, 116, 32, 111, 102, 32, 114, 97, 110, 103, 101]⟩ : ByteArray))))) else (none)) else (if a1 = true then (if 2 < (t336.length : Int) then (if (rd_T38 t336 2).f0 = true then (if 0 < (((rd_T38 t336 2).f1).length : Int) then (some ((IntKind.u64.wrap (t327)), x341001_22, x341002_22, 10, rdOf ByteArray.empty ((rd_T38 t336 2).f1) 0, (⟨#[]⟩ : ByteArray))) else (none)) else (some ((IntKind.u64.wrap (t327)), x341001_22, x341002_22, 10, (⟨#[]⟩ : ByteArray), (⟨#[]⟩ : ByteArray)))) else (none)) else (some ((IntKind.u64.wrap (t327)), x341001_22, x341002_22, 10, (⟨#[]⟩ : ByteArray), (⟨#[]⟩ : ByteArray))))) = some (r1, r2, r3, r4, r5, r6) := by rw [← hbq39] at H; exact H
              have Nbq39 := Aside0.mk hbq39
              clear hbq39
              by_cases c40 : bq39 = true
              ·subst c40
               rw [if_pos rfl] at H
               by_cases c41 : 0 < (((rd_T38 t336 1).f1).length : Int)
               ·rw [if_pos c41] at H
                have c41b0 : decide (0 < (((rd_T38 t336 1).f1).length : Int)) = true := decide_eq_true c41
                have c41b1 : decide (0 < ((rd_T38 t336 1).f1).length) = true := decide_eq_true (by omega)
                clear c41
                replace H := Option.bind_eq_some_iff.mp H
                obtain ⟨⟨t347, t348⟩, A420, H⟩ := H
                replace H : (if t348 = true then (if t347 < 1 then (some (0, false, (⟨#[]⟩ : ByteArray), 0, (⟨#[]⟩ : ByteArray), (⟨#[69, 82, 82, 32, 115, 121, 110, 116, 97, 120, 32, 101, 114, 114, 111, 114]⟩ : ByteArray))) else (if a1 = true then (if 2 < (t336.length : Int) then (if (rd_T38 t336 2).f0 = true then (if 0 < (((rd_T38 t336 2).f1).length : Int) then (some ((IntKind.u64.wrap (t327)), x341001_22, x341002_22, mn t347 1000, rdOf ByteArray.empty ((rd_T38 t336 2).f1) 0, (⟨#[]⟩ : ByteArray))) else (none)) else (some ((IntKind.u64.wrap (t327)), x341001_22, x341002_22, mn t347 1000, (⟨#[]⟩ : ByteArray), (⟨#[]⟩ : ByteArray)))) else (none)) else (some ((IntKind.u64.wrap (t327)), x341001_22, x341002_22, mn t347 1000, (⟨#[]⟩ : ByteArray), (⟨#[]⟩ : ByteArray))))) else (some (0, false, (⟨#[]⟩ : ByteArray), 0, (⟨#[]⟩ : ByteArray), (⟨#[69, 82, 82, 32, 118, 97, 108, 117, 101, 32, 105, 115, 32, 110, 111, 116, 32, 97, 110, 32, 105, 110, 116, 101, 103, 101, 114, 32, 111, 114, 32, 111, 117, 116, 32, 111, 102, 32, 114, 97, 110, 103, 101]⟩ : ByteArray)))) = some (r1, r2, r3, r4, r5, r6) := H
                have A42 := Aside0.mk A420
                clear A420
                by_cases c43 : t348 = true
                ·subst c43
                 rw [if_pos rfl] at H
                 by_cases c44 : t347 < 1
                 ·rw [if_pos c44] at H
                  have c44b0 : decide (t347 < 1) = true := decide_eq_true c44
                  clear c44
                  simp only [Option.some.injEq, Prod.mk.injEq] at H
                  obtain ⟨rfl, rfl, rfl, rfl, rfl, rfl⟩ := H
                  have p344 : 0 ≤ (1 : Int) := (by omega)
                  have q344 : 1 < (t336.length : Int) := of_decide_eq_true (by first | (with_reducible assumption) | assumption)
                  obtain ⟨ad344, A344_1, c344_1, e344, hx344_0, hx344_1, hl344_1, hi344_1⟩ := at_T38 (Kd.S_reads' HO_9.out).2.2 1 p344 q344
                  (try rw [← Nbq39.out] at hx344_0)
                  obtain rfl : ad341 = ad344 := (by injection e344)
                  obtain ⟨ce344, hce344, hMe344, hcc344⟩ := Kd.S_get HO_9.out z38 1 p344 (by first | exact q344 | exact of_decide_eq_true (by first | (with_reducible assumption) | assumption) | (have e_ := (Kd.S_reads' HO_9.out).1; omega))
                  obtain ⟨ve344_1, rfl, ge344_1⟩ := k38_openM hMe344
                  have hv344_1 := hcc344 1 _ rfl
                  rw [add_field _ _ 1 (by omega)] at hv344_1
                  replace hv344_1 := Option.some.inj (hv344_1.symm.trans hx344_1)
                  rw [hv344_1] at ge344_1
                  have HL344_1 := Aside0.mk (show Kd.R Kd.string 9 _ _ _ _ ((rd_T38 t336 1).f1) from ge344_1)
                  clear hv344_1 ge344_1
                  clear hcc344 hce344
                  (try simp only [show (1 : Int).toNat = 1 from rfl, Nat.reduceMul, Nat.reduceEqDiff, Go.Addr.add, ↓reduceIte] at hx344_0)
                  (try simp only [show (1 : Int).toNat = 1 from rfl, Nat.reduceMul, Nat.reduceEqDiff, Go.Addr.add, ↓reduceIte] at hx344_1)
                  have qi344 : (1 < t336.length) = True := eq_true (by omega)
                  (try rw [show ((1 : Int)).toNat = 1 from rfl] at hx344_0)
                  (try rw [show 1 * 2 = 2 from rfl] at hx344_0)
                  (try rw [show ((1 : Int)).toNat = 1 from rfl] at hx344_1)
                  (try rw [show 1 * 2 = 2 from rfl] at hx344_1)
                  have HR344_1 := Aside0.mk hi344_1
                  have HC344_1 := Aside0.mk hl344_1
                  clear hi344_1 hl344_1
                  replace p344 := eq_true p344
                  replace q344 := eq_true q344
                  have p345 : 0 ≤ (1 : Int) := (by omega)
                  have q345 : 1 < (t336.length : Int) := of_decide_eq_true (by first | (with_reducible assumption) | assumption)
                  obtain ⟨ad345, A345_1, c345_1, e345, hx345_0, hx345_1, hl345_1, hi345_1⟩ := at_T38 (Kd.S_reads' HO_9.out).2.2 1 p345 q345
                  (try rw [← Nbq39.out] at hx345_0)
                  obtain rfl : ad341 = ad345 := (by injection e345)
                  obtain ⟨ce345, hce345, hMe345, hcc345⟩ := Kd.S_get HO_9.out z38 1 p345 (by first | exact q345 | exact of_decide_eq_true (by first | (with_reducible assumption) | assumption) | (have e_ := (Kd.S_reads' HO_9.out).1; omega))
                  obtain ⟨ve345_1, rfl, ge345_1⟩ := k38_openM hMe345
                  have hv345_1 := hcc345 1 _ rfl
                  rw [add_field _ _ 1 (by omega)] at hv345_1
                  replace hv345_1 := Option.some.inj (hv345_1.symm.trans hx345_1)
                  rw [hv345_1] at ge345_1
                  have HL345_1 := Aside0.mk (show Kd.R Kd.string 9 _ _ _ _ ((rd_T38 t336 1).f1) from ge345_1)
                  clear hv345_1 ge345_1
                  clear hcc345 hce345
                  (try simp only [show (1 : Int).toNat = 1 from rfl, Nat.reduceMul, Nat.reduceEqDiff, Go.Addr.add, ↓reduceIte] at hx345_0)
                  (try simp only [show (1 : Int).toNat = 1 from rfl, Nat.reduceMul, Nat.reduceEqDiff, Go.Addr.add, ↓reduceIte] at hx345_1)
                  have qi345 : (1 < t336.length) = True := eq_true (by omega)
                  (try rw [show ((1 : Int)).toNat = 1 from rfl] at hx345_0)
                  (try rw [show 1 * 2 = 2 from rfl] at hx345_0)
                  (try rw [show ((1 : Int)).toNat = 1 from rfl] at hx345_1)
                  (try rw [show 1 * 2 = 2 from rfl] at hx345_1)
                  have HR345_1 := Aside0.mk hi345_1
                  have HC345_1 := Aside0.mk hl345_1
                  clear hi345_1 hl345_1
                  replace p345 := eq_true p345
                  replace q345 := eq_true q345
                  have ea_ := Option.some.inj (hx344_1.symm.trans hx345_1)
                  injection ea_ with ea_ en_ ec_
                  subst ea_
                  subst ec_
                  clear en_
                  have p346 : 0 ≤ (0 : Int) := (by omega)
                  have q346 : 0 < (((rd_T38 t336 1).f1).length : Int) := of_decide_eq_true (by first | (with_reducible assumption) | assumption)
                  obtain ⟨ad346, e346, hx346_0⟩ := Kd.at_string (by repeat (first | (with_reducible exact HR345_1.out) | (with_reducible refine Kd.C_alloc ?_ _) | (with_reducible refine Kd.C_drewN ?_ _) | (with_reducible refine Kd.C_drew ?_) | exact HR345_1.out)) 0 p346 q346
                  cases e346
                  have qi346 : (0 < ((rd_T38 t336 1).f1).length) = True := eq_true (by omega)
                  (try rw [show ((0 : Int)).toNat = 0 from rfl] at hx346_0)
                  (try rw [Addr.add_zero'] at hx346_0)
                  replace p346 := eq_true p346
                  replace q346 := eq_true q346
                  go_wp2_with (first | ((with_reducible refine gate_callee (f := 28) rfl ?_); refine goesL_ (some 72) rfl rfl Try.func28 (by kernel_rfl) rfl #[.string (rdOf ByteArray.empty ((rd_T38 t336 1).f1) 0)] rfl (by (try simp only [List.map_toArray, List.map_cons, List.map_nil]); first | done | rfl | (simp only [List.length_drop, List.length_take]; rfl)) ?_; (with_reducible refine (num_Parse.calls kj22 (rdOf ByteArray.empty ((rd_T38 t336 1).f1) 0) t347 true _ A42.out).mono ?_); rintro e w' ⟨rfl, ⟨nd, rfl⟩⟩; refine ⟨_, rfl, ?_⟩; (try (rw [drewN_self wc]; generalize hq_ : World.drewN wc _ = wc; have n0_ : Aside0 (Kd.R Kd.string 9 wc w.heap.size (fun k_ => some k_ ≠ (.slice (some ad341) t336.length co31 : Value).ownBlock) (.slice (some ad346) ((rd_T38 t336 1).f1).length c344_1) ((rd_T38 t336 1).f1)) := ⟨by rw [← hq_]; exact (by (with_reducible repeat (first | apply Kd.R_alloc | apply Kd.R_drewN | apply Kd.R_drew)); exact Kd.R_mono HL344_1.out (fun _ hk => hk.2))⟩; have n1_ : Aside0 (Kd.R Kd.string 9 wc w.heap.size (fun k_ => some k_ ≠ (.slice (some ad341) t336.length co31 : Value).ownBlock) (.slice (some ad346) ((rd_T38 t336 1).f1).length c344_1) ((rd_T38 t336 1).f1)) := ⟨by rw [← hq_]; exact (by (with_reducible repeat (first | apply Kd.R_alloc | apply Kd.R_drewN | apply Kd.R_drew)); exact Kd.R_mono HL345_1.out (fun _ hk => hk.2))⟩; have n2_ : Aside0 (Kd.S k38 38 wc w.heap.size (fun _ => True) (.slice (some ad341) t336.length co31) t336) := ⟨by rw [← hq_]; exact (by (with_reducible repeat (first | apply Kd.S_alloc | apply Kd.S_drewN | apply Kd.S_drew)); exact HO_9.out)⟩; have n3_ : Aside0 (wc.heap[gb325]? = some (.cells #[.int .u64 0, .bool false, .string (⟨#[]⟩ : ByteArray), .int .i64 0, .string (⟨#[]⟩ : ByteArray)] 52 (0, 0))) := ⟨by rw [← hq_]; exact (by (with_reducible repeat (first | refine blk_drewN ?_ _ | refine blk_drew ?_ | refine blk_alloc ?_ _)); exact BK325.out)⟩; have n4_ : Aside0 (wc.heap[gb340]? = some (.cells #[.int .u64 (IntKind.u64.wrap (t327)), .bool x341001_22, .string x341002_22, .int .i64 10, .string (⟨#[]⟩ : ByteArray)] 52 (0, 0))) := ⟨by rw [← hq_]; exact (by (with_reducible repeat (first | refine blk_drewN ?_ _ | refine blk_drew ?_ | refine blk_alloc ?_ _)); exact BK340.out)⟩; have n5_ : Aside0 (Below w.heap.size w wc) := ⟨by rw [← hq_]; exact (by repeat (first | (with_reducible first | exact HB.out | apply below_alloc | apply pw_below_drewN | apply below_drew1 | refine below_set ?_ GE325.out | refine below_set ?_ GE340.out) | exact HB.out))⟩; have n6_ : Aside0 (Kd.C Kd.string wc (some ad346) ((rd_T38 t336 1).f1).length ((rd_T38 t336 1).f1)) := ⟨by rw [← hq_]; exact (by repeat (first | (with_reducible exact HR344_1.out) | (with_reducible refine Kd.C_alloc ?_ _) | (with_reducible refine Kd.C_drewN ?_ _) | (with_reducible refine Kd.C_drew ?_) | exact HR344_1.out))⟩; have n7_ : Aside0 (Kd.C Kd.string wc (some ad346) ((rd_T38 t336 1).f1).length ((rd_T38 t336 1).f1)) := ⟨by rw [← hq_]; exact (by repeat (first | (with_reducible exact HR345_1.out) | (with_reducible refine Kd.C_alloc ?_ _) | (with_reducible refine Kd.C_drewN ?_ _) | (with_reducible refine Kd.C_drew ?_) | exact HR345_1.out))⟩; clear HL344_1 HL345_1 HO_9 BK325 BK340 HB HR344_1 HR345_1 hq_; have HL344_1 := n0_; have HL345_1 := n1_; have HO_9 := n2_; have BK325 := n3_; have BK340 := n4_; have HB := n5_; have HR344_1 := n6_; have HR345_1 := n7_; clear n0_ n1_ n2_ n3_ n4_ n5_ n6_ n7_)); have hnb45 := NB325_340.out; have hnc45 := NB340_325.out; obtain ⟨hcz46_0, hcz46_1, hcz46_2, hcz46_3, hcz46_4, hfz46_0, hfz46_1, hfz46_2, hfz46_3, hfz46_4⟩ := cells5_ BK325.out))
                  refine bodyPost_ret (results_ct rfl _ _ gb325 52 #[.int .u64 0, .bool false, .string (⟨#[]⟩ : ByteArray), .int .i64 0, .string (⟨#[]⟩ : ByteArray)] (0, 0) _ rfl (by (with_reducible repeat (first | refine blk_drewN ?_ _ | refine blk_drew ?_ | refine blk_alloc ?_ _)); refine blk_put (cs := #[.int .u64 0, .bool false, .string (⟨#[]⟩ : ByteArray), .int .i64 0, .string (⟨#[]⟩ : ByteArray)]) ?_ 4 _ rfl; (with_reducible repeat (first | refine blk_drewN ?_ _ | refine blk_drew ?_ | refine blk_alloc ?_ _)); refine blk_put (cs := #[.int .u64 0, .bool false, .string (⟨#[]⟩ : ByteArray), .int .i64 0, .string (⟨#[]⟩ : ByteArray)]) ?_ 3 _ rfl; (with_reducible repeat (first | refine blk_drewN ?_ _ | refine blk_drew ?_ | refine blk_alloc ?_ _)); refine blk_put (cs := #[.int .u64 0, .bool false, .string (⟨#[]⟩ : ByteArray), .int .i64 0, .string (⟨#[]⟩ : ByteArray)]) ?_ 2 _ rfl; (with_reducible repeat (first | refine blk_drewN ?_ _ | refine blk_drew ?_ | refine blk_alloc ?_ _)); refine blk_put (cs := #[.int .u64 0, .bool false, .string (⟨#[]⟩ : ByteArray), .int .i64 0, .string (⟨#[]⟩ : ByteArray)]) ?_ 1 _ rfl; (with_reducible repeat (first | refine blk_drewN ?_ _ | refine blk_drew ?_ | refine blk_alloc ?_ _)); refine blk_put (cs := #[.int .u64 0, .bool false, .string (⟨#[]⟩ : ByteArray), .int .i64 0, .string (⟨#[]⟩ : ByteArray)]) ?_ 0 _ rfl; (with_reducible repeat (first | refine blk_drewN ?_ _ | refine blk_drew ?_ | refine blk_alloc ?_ _)); exact BK325.out) Try.underlying52 rfl (by kernel_rfl)) rfl ?_
                  exact ⟨by first | rfl | (simp [errW_none, errW_some] <;> rfl) | (simp [*, errW_none, errW_some] <;> rfl), by repeat (first | (with_reducible first | exact HB.out | apply below_alloc | apply pw_below_drewN | apply below_drew1 | refine below_set ?_ GE325.out | refine below_set ?_ GE340.out) | exact HB.out)⟩
                 ·rw [if_neg c44] at H
                  have c44b0 : decide (t347 < 1) = false := decide_eq_false c44
                  clear c44
                  obtain ⟨ji47, hji47⟩ : ∃ j_ : Int, (mn t347 1000) = j_ := ⟨_, rfl⟩
                  replace H : (if a1 = true then (if 2 < (t336.length : Int) then (if (rd_T38 t336 2).f0 = true then (if 0 < (((rd_T38 t336 2).f1).length : Int) then (some ((IntKind.u64.wrap (t327)), x341001_22, x341002_22, ji47, rdOf ByteArray.empty ((rd_T38 t336 2).f1) 0, (⟨#[]⟩ : ByteArray))) else (none)) else (some ((IntKind.u64.wrap (t327)), x341001_22, x341002_22, ji47, (⟨#[]⟩ : ByteArray), (⟨#[]⟩ : ByteArray)))) else (none)) else (some ((IntKind.u64.wrap (t327)), x341001_22, x341002_22, ji47, (⟨#[]⟩ : ByteArray), (⟨#[]⟩ : ByteArray)))) = some (r1, r2, r3, r4, r5, r6) := by first | (rw [hji47] at H; exact H) | (simp only [hji47] at H ⊢; exact H)
                  (try rw [hji47] at A42)
                  (try (have hji47h : ji47 ≤ 1000 := by (rw [← hji47]; unfold mn; (repeat' split) <;> omega)))
                  (try (have hji47g : ji47 ≤ 64 := by omega))
                  have hji47_ : (if 1000 < t347 then 1000 else t347) = ji47 := hji47
                  by_cases c48 : a1 = true
                  ·subst c48
                   rw [if_pos rfl] at H
                   by_cases c49 : 2 < (t336.length : Int)
                   ·rw [if_pos c49] at H
                    have c49b0 : decide (2 < (t336.length : Int)) = true := decide_eq_true c49
                    have c49b1 : decide (2 < t336.length) = true := decide_eq_true (by omega)
                    clear c49
                    obtain ⟨bq50, hbq50⟩ : ∃ b_ : Bool, b_ = ((rd_T38 t336 2).f0) := ⟨_, rfl⟩
                    replace H : (if bq50 = true then (if 0 < (((rd_T38 t336 2).f1).length : Int) then (some ((IntKind.u64.wrap (t327)), x341001_22, x341002_22, ji47, rdOf ByteArray.empty ((rd_T38 t336 2).f1) 0, (⟨#[]⟩ : ByteArray))) else (none)) else (some ((IntKind.u64.wrap (t327)), x341001_22, x341002_22, ji47, (⟨#[]⟩ : ByteArray), (⟨#[]⟩ : ByteArray)))) = some (r1, r2, r3, r4, r5, r6) := by rw [← hbq50] at H; exact H
                    have Nbq50 := Aside0.mk hbq50
                    clear hbq50
                    by_cases c51 : bq50 = true
                    ·subst c51
                     rw [if_pos rfl] at H
                     by_cases c52 : 0 < (((rd_T38 t336 2).f1).length : Int)
                     ·rw [if_pos c52] at H
                      have c52b0 : decide (0 < (((rd_T38 t336 2).f1).length : Int)) = true := decide_eq_true c52
                      have c52b1 : decide (0 < ((rd_T38 t336 2).f1).length) = true := decide_eq_true (by omega)
                      clear c52
                      simp only [Option.some.injEq, Prod.mk.injEq] at H
                      obtain ⟨rfl, rfl, rfl, rfl, rfl, rfl⟩ := H
                      have p344 : 0 ≤ (1 : Int) := (by omega)
                      have q344 : 1 < (t336.length : Int) := of_decide_eq_true (by first | (with_reducible assumption) | assumption)
                      obtain ⟨ad344, A344_1, c344_1, e344, hx344_0, hx344_1, hl344_1, hi344_1⟩ := at_T38 (Kd.S_reads' HO_9.out).2.2 1 p344 q344
                      (try rw [← Nbq39.out] at hx344_0)
                      (try rw [← Nbq50.out] at hx344_0)
                      obtain rfl : ad341 = ad344 := (by injection e344)
                      obtain ⟨ce344, hce344, hMe344, hcc344⟩ := Kd.S_get HO_9.out z38 1 p344 (by first | exact q344 | exact of_decide_eq_true (by first | (with_reducible assumption) | assumption) | (have e_ := (Kd.S_reads' HO_9.out).1; omega))
                      obtain ⟨ve344_1, rfl, ge344_1⟩ := k38_openM hMe344
                      have hv344_1 := hcc344 1 _ rfl
                      rw [add_field _ _ 1 (by omega)] at hv344_1
                      replace hv344_1 := Option.some.inj (hv344_1.symm.trans hx344_1)
                      rw [hv344_1] at ge344_1
                      have HL344_1 := Aside0.mk (show Kd.R Kd.string 9 _ _ _ _ ((rd_T38 t336 1).f1) from ge344_1)
                      clear hv344_1 ge344_1
                      clear hcc344 hce344
                      (try simp only [show (1 : Int).toNat = 1 from rfl, Nat.reduceMul, Nat.reduceEqDiff, Go.Addr.add, ↓reduceIte] at hx344_0)
                      (try simp only [show (1 : Int).toNat = 1 from rfl, Nat.reduceMul, Nat.reduceEqDiff, Go.Addr.add, ↓reduceIte] at hx344_1)
                      have qi344 : (1 < t336.length) = True := eq_true (by omega)
                      (try rw [show ((1 : Int)).toNat = 1 from rfl] at hx344_0)
                      (try rw [show 1 * 2 = 2 from rfl] at hx344_0)
                      (try rw [show ((1 : Int)).toNat = 1 from rfl] at hx344_1)
                      (try rw [show 1 * 2 = 2 from rfl] at hx344_1)
                      have HR344_1 := Aside0.mk hi344_1
                      have HC344_1 := Aside0.mk hl344_1
                      clear hi344_1 hl344_1
                      replace p344 := eq_true p344
                      replace q344 := eq_true q344
                      have p345 : 0 ≤ (1 : Int) := (by omega)
                      have q345 : 1 < (t336.length : Int) := of_decide_eq_true (by first | (with_reducible assumption) | assumption)
                      obtain ⟨ad345, A345_1, c345_1, e345, hx345_0, hx345_1, hl345_1, hi345_1⟩ := at_T38 (Kd.S_reads' HO_9.out).2.2 1 p345 q345
                      (try rw [← Nbq39.out] at hx345_0)
                      (try rw [← Nbq50.out] at hx345_0)
                      obtain rfl : ad341 = ad345 := (by injection e345)
                      obtain ⟨ce345, hce345, hMe345, hcc345⟩ := Kd.S_get HO_9.out z38 1 p345 (by first | exact q345 | exact of_decide_eq_true (by first | (with_reducible assumption) | assumption) | (have e_ := (Kd.S_reads' HO_9.out).1; omega))
                      obtain ⟨ve345_1, rfl, ge345_1⟩ := k38_openM hMe345
                      have hv345_1 := hcc345 1 _ rfl
                      rw [add_field _ _ 1 (by omega)] at hv345_1
                      replace hv345_1 := Option.some.inj (hv345_1.symm.trans hx345_1)
                      rw [hv345_1] at ge345_1
                      have HL345_1 := Aside0.mk (show Kd.R Kd.string 9 _ _ _ _ ((rd_T38 t336 1).f1) from ge345_1)
                      clear hv345_1 ge345_1
                      clear hcc345 hce345
                      (try simp only [show (1 : Int).toNat = 1 from rfl, Nat.reduceMul, Nat.reduceEqDiff, Go.Addr.add, ↓reduceIte] at hx345_0)
                      (try simp only [show (1 : Int).toNat = 1 from rfl, Nat.reduceMul, Nat.reduceEqDiff, Go.Addr.add, ↓reduceIte] at hx345_1)
                      have qi345 : (1 < t336.length) = True := eq_true (by omega)
                      (try rw [show ((1 : Int)).toNat = 1 from rfl] at hx345_0)
                      (try rw [show 1 * 2 = 2 from rfl] at hx345_0)
                      (try rw [show ((1 : Int)).toNat = 1 from rfl] at hx345_1)
                      (try rw [show 1 * 2 = 2 from rfl] at hx345_1)
                      have HR345_1 := Aside0.mk hi345_1
                      have HC345_1 := Aside0.mk hl345_1
                      clear hi345_1 hl345_1
                      replace p345 := eq_true p345
                      replace q345 := eq_true q345
                      have ea_ := Option.some.inj (hx344_1.symm.trans hx345_1)
                      injection ea_ with ea_ en_ ec_
                      subst ea_
                      subst ec_
                      clear en_
                      have p346 : 0 ≤ (0 : Int) := (by omega)
                      have q346 : 0 < (((rd_T38 t336 1).f1).length : Int) := of_decide_eq_true (by first | (with_reducible assumption) | assumption)
                      obtain ⟨ad346, e346, hx346_0⟩ := Kd.at_string (by repeat (first | (with_reducible exact HR345_1.out) | (with_reducible refine Kd.C_alloc ?_ _) | (with_reducible refine Kd.C_drewN ?_ _) | (with_reducible refine Kd.C_drew ?_) | exact HR345_1.out)) 0 p346 q346
                      cases e346
                      have qi346 : (0 < ((rd_T38 t336 1).f1).length) = True := eq_true (by omega)
                      (try rw [show ((0 : Int)).toNat = 0 from rfl] at hx346_0)
                      (try rw [Addr.add_zero'] at hx346_0)
                      replace p346 := eq_true p346
                      replace q346 := eq_true q346
                      go_wp2_with (first | ((with_reducible refine gate_callee (f := 28) rfl ?_); refine goesL_ (some 72) rfl rfl Try.func28 (by kernel_rfl) rfl #[.string (rdOf ByteArray.empty ((rd_T38 t336 1).f1) 0)] rfl (by (try simp only [List.map_toArray, List.map_cons, List.map_nil]); first | done | rfl | (simp only [List.length_drop, List.length_take]; rfl)) ?_; (with_reducible refine (num_Parse.calls kj22 (rdOf ByteArray.empty ((rd_T38 t336 1).f1) 0) t347 true _ A42.out).mono ?_); rintro e w' ⟨rfl, ⟨nd, rfl⟩⟩; refine ⟨_, rfl, ?_⟩; (try (rw [drewN_self wc]; generalize hq_ : World.drewN wc _ = wc; have n0_ : Aside0 (Kd.R Kd.string 9 wc w.heap.size (fun k_ => some k_ ≠ (.slice (some ad341) t336.length co31 : Value).ownBlock) (.slice (some ad346) ((rd_T38 t336 1).f1).length c344_1) ((rd_T38 t336 1).f1)) := ⟨by rw [← hq_]; exact (by (with_reducible repeat (first | apply Kd.R_alloc | apply Kd.R_drewN | apply Kd.R_drew)); exact Kd.R_mono HL344_1.out (fun _ hk => hk.2))⟩; have n1_ : Aside0 (Kd.R Kd.string 9 wc w.heap.size (fun k_ => some k_ ≠ (.slice (some ad341) t336.length co31 : Value).ownBlock) (.slice (some ad346) ((rd_T38 t336 1).f1).length c344_1) ((rd_T38 t336 1).f1)) := ⟨by rw [← hq_]; exact (by (with_reducible repeat (first | apply Kd.R_alloc | apply Kd.R_drewN | apply Kd.R_drew)); exact Kd.R_mono HL345_1.out (fun _ hk => hk.2))⟩; have n2_ : Aside0 (Kd.S k38 38 wc w.heap.size (fun _ => True) (.slice (some ad341) t336.length co31) t336) := ⟨by rw [← hq_]; exact (by (with_reducible repeat (first | apply Kd.S_alloc | apply Kd.S_drewN | apply Kd.S_drew)); exact HO_9.out)⟩; have n3_ : Aside0 (wc.heap[gb325]? = some (.cells #[.int .u64 0, .bool false, .string (⟨#[]⟩ : ByteArray), .int .i64 0, .string (⟨#[]⟩ : ByteArray)] 52 (0, 0))) := ⟨by rw [← hq_]; exact (by (with_reducible repeat (first | refine blk_drewN ?_ _ | refine blk_drew ?_ | refine blk_alloc ?_ _)); exact BK325.out)⟩; have n4_ : Aside0 (wc.heap[gb340]? = some (.cells #[.int .u64 (IntKind.u64.wrap (t327)), .bool x341001_22, .string x341002_22, .int .i64 10, .string (⟨#[]⟩ : ByteArray)] 52 (0, 0))) := ⟨by rw [← hq_]; exact (by (with_reducible repeat (first | refine blk_drewN ?_ _ | refine blk_drew ?_ | refine blk_alloc ?_ _)); exact BK340.out)⟩; have n5_ : Aside0 (Below w.heap.size w wc) := ⟨by rw [← hq_]; exact (by repeat (first | (with_reducible first | exact HB.out | apply below_alloc | apply pw_below_drewN | apply below_drew1 | refine below_set ?_ GE325.out | refine below_set ?_ GE340.out) | exact HB.out))⟩; have n6_ : Aside0 (Kd.C Kd.string wc (some ad346) ((rd_T38 t336 1).f1).length ((rd_T38 t336 1).f1)) := ⟨by rw [← hq_]; exact (by repeat (first | (with_reducible exact HR344_1.out) | (with_reducible refine Kd.C_alloc ?_ _) | (with_reducible refine Kd.C_drewN ?_ _) | (with_reducible refine Kd.C_drew ?_) | exact HR344_1.out))⟩; have n7_ : Aside0 (Kd.C Kd.string wc (some ad346) ((rd_T38 t336 1).f1).length ((rd_T38 t336 1).f1)) := ⟨by rw [← hq_]; exact (by repeat (first | (with_reducible exact HR345_1.out) | (with_reducible refine Kd.C_alloc ?_ _) | (with_reducible refine Kd.C_drewN ?_ _) | (with_reducible refine Kd.C_drew ?_) | exact HR345_1.out))⟩; clear HL344_1 HL345_1 HO_9 BK325 BK340 HB HR344_1 HR345_1 hq_; have HL344_1 := n0_; have HL345_1 := n1_; have HO_9 := n2_; have BK325 := n3_; have BK340 := n4_; have HB := n5_; have HR344_1 := n6_; have HR345_1 := n7_; clear n0_ n1_ n2_ n3_ n4_ n5_ n6_ n7_)); have hnb53 := NB340_325.out; have hnc53 := NB325_340.out; obtain ⟨hcz54_0, hcz54_1, hcz54_2, hcz54_3, hcz54_4, hfz54_0, hfz54_1, hfz54_2, hfz54_3, hfz54_4⟩ := cells5_ BK340.out) | ((with_reducible refine gate_store (t := 3) (p := 85) rfl ?_); refine store_event (t := 3) (p := 85) (v := ?vo_w55) (w1 := (wc.setCell ⟨gb340, 3, none⟩ (.int .i64 ji47))) ?hg ?ho ?hn ?hr ?_; (case ho => rfl); (case hg => rfl); (case hn => rfl); (case hr => first | (go_simp; done) | (go_simp; rfl)); intro w55 hw; have n0_ : Aside0 (Kd.S k38 38 w55 w.heap.size (fun _ => True) (.slice (some ad341) t336.length co31) t336) := ⟨(by rw [hw]; exact (by (with_reducible repeat (first | apply Kd.S_alloc | apply Kd.S_drewN | apply Kd.S_drew)); exact Kd.S_mono (Kd.S_far (p := ⟨gb340, 3, none⟩) (Kd.S_types HO_9.out BK340.out (by decide)) (fun _ hk => hk.2) (.int .i64 ji47)) (fun _ hk => trivial)))⟩; have n1_ : Aside0 (Kd.R Kd.string 9 w55 w.heap.size (fun k_ => some k_ ≠ (.slice (some ad341) t336.length co31 : Value).ownBlock) (.slice (some ad346) ((rd_T38 t336 1).f1).length c344_1) ((rd_T38 t336 1).f1)) := ⟨(by rw [hw]; exact (by (with_reducible repeat (first | apply Kd.R_alloc | apply Kd.R_drewN | apply Kd.R_drew)); exact Kd.R_mono (Kd.R_far (p := ⟨gb340, 3, none⟩) (Kd.R_types HL344_1.out BK340.out (by decide)) (fun _ hk => hk.2) (.int .i64 ji47)) (fun _ hk => by first | exact hk.1.2 | exact hk.1)))⟩; have n2_ : Aside0 (Kd.R Kd.string 9 w55 w.heap.size (fun k_ => some k_ ≠ (.slice (some ad341) t336.length co31 : Value).ownBlock) (.slice (some ad346) ((rd_T38 t336 1).f1).length c344_1) ((rd_T38 t336 1).f1)) := ⟨(by rw [hw]; exact (by (with_reducible repeat (first | apply Kd.R_alloc | apply Kd.R_drewN | apply Kd.R_drew)); exact Kd.R_mono (Kd.R_far (p := ⟨gb340, 3, none⟩) (Kd.R_types HL345_1.out BK340.out (by decide)) (fun _ hk => hk.2) (.int .i64 ji47)) (fun _ hk => by first | exact hk.1.2 | exact hk.1)))⟩; have n3_ : Aside0 (w55.heap[gb325]? = some (.cells #[.int .u64 0, .bool false, .string (⟨#[]⟩ : ByteArray), .int .i64 0, .string (⟨#[]⟩ : ByteArray)] 52 (0, 0))) := ⟨(by rw [hw]; exact (by (with_reducible repeat (first | refine blk_drewN ?_ _ | refine blk_drew ?_ | refine blk_alloc ?_ _)); refine blk_far ?_ NB325_340.out _; (with_reducible repeat (first | refine blk_drewN ?_ _ | refine blk_drew ?_ | refine blk_alloc ?_ _)); exact BK325.out))⟩; have n4_ : Aside0 (w55.heap[gb340]? = some (.cells #[.int .u64 (IntKind.u64.wrap (t327)), .bool x341001_22, .string x341002_22, .int .i64 ji47, .string (⟨#[]⟩ : ByteArray)] 52 (0, 0))) := ⟨(by rw [hw]; exact (by (with_reducible repeat (first | refine blk_drewN ?_ _ | refine blk_drew ?_ | refine blk_alloc ?_ _)); refine blk_put (cs := #[.int .u64 (IntKind.u64.wrap (t327)), .bool x341001_22, .string x341002_22, .int .i64 10, .string (⟨#[]⟩ : ByteArray)]) ?_ 3 _ rfl; (with_reducible repeat (first | refine blk_drewN ?_ _ | refine blk_drew ?_ | refine blk_alloc ?_ _)); exact BK340.out))⟩; have n5_ : Aside0 (Below w.heap.size w w55) := ⟨(by rw [hw]; exact (by repeat (first | (with_reducible first | exact HB.out | apply below_alloc | apply pw_below_drewN | apply below_drew1 | refine below_set ?_ GE325.out | refine below_set ?_ GE340.out) | exact HB.out)))⟩; clear hw; clear HO_9; clear HL344_1; clear HL345_1; clear BK325; clear BK340; clear HB; have HO_9 := n0_; have HL344_1 := n1_; have HL345_1 := n2_; have BK325 := n3_; have BK340 := n4_; have HB := n5_; clear n0_ n1_ n2_ n3_ n4_ n5_; have p349 : 0 ≤ (2 : Int) := (by omega); have q349 : 2 < (t336.length : Int) := of_decide_eq_true (by first | (with_reducible assumption) | assumption); obtain ⟨ad349, A349_1, c349_1, e349, hx349_0, hx349_1, hl349_1, hi349_1⟩ := at_T38 (Kd.S_reads' HO_9.out).2.2 2 p349 q349; (try rw [← Nbq39.out] at hx349_0); (try rw [← Nbq50.out] at hx349_0); obtain rfl : ad341 = ad349 := (by injection e349); obtain ⟨ce349, hce349, hMe349, hcc349⟩ := Kd.S_get HO_9.out z38 2 p349 (by first | exact q349 | exact of_decide_eq_true (by first | (with_reducible assumption) | assumption) | (have e_ := (Kd.S_reads' HO_9.out).1; omega)); obtain ⟨ve349_1, rfl, ge349_1⟩ := k38_openM hMe349; have hv349_1 := hcc349 1 _ rfl; rw [add_field _ _ 1 (by omega)] at hv349_1; replace hv349_1 := Option.some.inj (hv349_1.symm.trans hx349_1); rw [hv349_1] at ge349_1; have HL349_1 := Aside0.mk (show Kd.R Kd.string 9 _ _ _ _ ((rd_T38 t336 2).f1) from ge349_1); clear hv349_1 ge349_1; clear hcc349 hce349; (try simp only [show (2 : Int).toNat = 2 from rfl, Nat.reduceMul, Nat.reduceEqDiff, Go.Addr.add, ↓reduceIte] at hx349_0); (try simp only [show (2 : Int).toNat = 2 from rfl, Nat.reduceMul, Nat.reduceEqDiff, Go.Addr.add, ↓reduceIte] at hx349_1); have qi349 : (2 < t336.length) = True := eq_true (by omega); (try rw [show ((2 : Int)).toNat = 2 from rfl] at hx349_0); (try rw [show 2 * 2 = 4 from rfl] at hx349_0); (try rw [show ((2 : Int)).toNat = 2 from rfl] at hx349_1); (try rw [show 2 * 2 = 4 from rfl] at hx349_1); have HR349_1 := Aside0.mk hi349_1; have HC349_1 := Aside0.mk hl349_1; clear hi349_1 hl349_1; replace p349 := eq_true p349; replace q349 := eq_true q349; have p350 : 0 ≤ (2 : Int) := (by omega); have q350 : 2 < (t336.length : Int) := of_decide_eq_true (by first | (with_reducible assumption) | assumption); obtain ⟨ad350, A350_1, c350_1, e350, hx350_0, hx350_1, hl350_1, hi350_1⟩ := at_T38 (Kd.S_reads' HO_9.out).2.2 2 p350 q350; (try rw [← Nbq39.out] at hx350_0); (try rw [← Nbq50.out] at hx350_0); obtain rfl : ad341 = ad350 := (by injection e350); obtain ⟨ce350, hce350, hMe350, hcc350⟩ := Kd.S_get HO_9.out z38 2 p350 (by first | exact q350 | exact of_decide_eq_true (by first | (with_reducible assumption) | assumption) | (have e_ := (Kd.S_reads' HO_9.out).1; omega)); obtain ⟨ve350_1, rfl, ge350_1⟩ := k38_openM hMe350; have hv350_1 := hcc350 1 _ rfl; rw [add_field _ _ 1 (by omega)] at hv350_1; replace hv350_1 := Option.some.inj (hv350_1.symm.trans hx350_1); rw [hv350_1] at ge350_1; have HL350_1 := Aside0.mk (show Kd.R Kd.string 9 _ _ _ _ ((rd_T38 t336 2).f1) from ge350_1); clear hv350_1 ge350_1; clear hcc350 hce350; (try simp only [show (2 : Int).toNat = 2 from rfl, Nat.reduceMul, Nat.reduceEqDiff, Go.Addr.add, ↓reduceIte] at hx350_0); (try simp only [show (2 : Int).toNat = 2 from rfl, Nat.reduceMul, Nat.reduceEqDiff, Go.Addr.add, ↓reduceIte] at hx350_1); have qi350 : (2 < t336.length) = True := eq_true (by omega); (try rw [show ((2 : Int)).toNat = 2 from rfl] at hx350_0); (try rw [show 2 * 2 = 4 from rfl] at hx350_0); (try rw [show ((2 : Int)).toNat = 2 from rfl] at hx350_1); (try rw [show 2 * 2 = 4 from rfl] at hx350_1); have HR350_1 := Aside0.mk hi350_1; have HC350_1 := Aside0.mk hl350_1; clear hi350_1 hl350_1; replace p350 := eq_true p350; replace q350 := eq_true q350; have ea_ := Option.some.inj (hx349_1.symm.trans hx350_1); injection ea_ with ea_ en_ ec_; subst ea_; subst ec_; clear en_; have p351 : 0 ≤ (0 : Int) := (by omega); have q351 : 0 < (((rd_T38 t336 2).f1).length : Int) := of_decide_eq_true (by first | (with_reducible assumption) | assumption); obtain ⟨ad351, e351, hx351_0⟩ := Kd.at_string (by repeat (first | (with_reducible exact HR350_1.out) | (with_reducible refine Kd.C_alloc ?_ _) | (with_reducible refine Kd.C_drewN ?_ _) | (with_reducible refine Kd.C_drew ?_) | exact HR350_1.out)) 0 p351 q351; cases e351; have qi351 : (0 < ((rd_T38 t336 2).f1).length) = True := eq_true (by omega); (try rw [show ((0 : Int)).toNat = 0 from rfl] at hx351_0); (try rw [Addr.add_zero'] at hx351_0); replace p351 := eq_true p351; replace q351 := eq_true q351; obtain ⟨hcz56_0, hcz56_1, hcz56_2, hcz56_3, hcz56_4, hfz56_0, hfz56_1, hfz56_2, hfz56_3, hfz56_4⟩ := cells5_ BK340.out; obtain ⟨hcz57_0, hcz57_1, hcz57_2, hcz57_3, hcz57_4, hfz57_0, hfz57_1, hfz57_2, hfz57_3, hfz57_4⟩ := cells5_ BK325.out))
                      refine bodyPost_ret (results_ct rfl _ _ gb325 52 #[.int .u64 (IntKind.u64.wrap (t327)), .bool x341001_22, .string x341002_22, .int .i64 ji47, .string (rdOf ByteArray.empty ((rd_T38 t336 2).f1) 0)] (0, 0) _ rfl (by (with_reducible repeat (first | refine blk_drewN ?_ _ | refine blk_drew ?_ | refine blk_alloc ?_ _)); refine blk_put (cs := #[.int .u64 (IntKind.u64.wrap (t327)), .bool x341001_22, .string x341002_22, .int .i64 ji47, .string (⟨#[]⟩ : ByteArray)]) ?_ 4 _ rfl; (with_reducible repeat (first | refine blk_drewN ?_ _ | refine blk_drew ?_ | refine blk_alloc ?_ _)); refine blk_put (cs := #[.int .u64 (IntKind.u64.wrap (t327)), .bool x341001_22, .string x341002_22, .int .i64 0, .string (⟨#[]⟩ : ByteArray)]) ?_ 3 _ rfl; (with_reducible repeat (first | refine blk_drewN ?_ _ | refine blk_drew ?_ | refine blk_alloc ?_ _)); refine blk_put (cs := #[.int .u64 (IntKind.u64.wrap (t327)), .bool x341001_22, .string (⟨#[]⟩ : ByteArray), .int .i64 0, .string (⟨#[]⟩ : ByteArray)]) ?_ 2 _ rfl; (with_reducible repeat (first | refine blk_drewN ?_ _ | refine blk_drew ?_ | refine blk_alloc ?_ _)); refine blk_put (cs := #[.int .u64 (IntKind.u64.wrap (t327)), .bool false, .string (⟨#[]⟩ : ByteArray), .int .i64 0, .string (⟨#[]⟩ : ByteArray)]) ?_ 1 _ rfl; (with_reducible repeat (first | refine blk_drewN ?_ _ | refine blk_drew ?_ | refine blk_alloc ?_ _)); refine blk_put (cs := #[.int .u64 0, .bool false, .string (⟨#[]⟩ : ByteArray), .int .i64 0, .string (⟨#[]⟩ : ByteArray)]) ?_ 0 _ rfl; (with_reducible repeat (first | refine blk_drewN ?_ _ | refine blk_drew ?_ | refine blk_alloc ?_ _)); refine blk_far ?_ NB325_340.out _; (with_reducible repeat (first | refine blk_drewN ?_ _ | refine blk_drew ?_ | refine blk_alloc ?_ _)); exact BK325.out) Try.underlying52 rfl (by kernel_rfl)) rfl ?_
                      exact ⟨by first | rfl | (simp [errW_none, errW_some] <;> rfl) | (simp only [← hji47]; first | rfl | (simp [errW_none, errW_some] <;> rfl)) | (simp [*, errW_none, errW_some] <;> rfl), by repeat (first | (with_reducible first | exact HB.out | apply below_alloc | apply pw_below_drewN | apply below_drew1 | refine below_set ?_ GE325.out | refine below_set ?_ GE340.out) | exact HB.out)⟩
                     ·rw [if_neg c52] at H
                      exact absurd H (by simp)
                    ·replace c51 := Bool.eq_false_iff.mpr c51
                     subst c51
                     rw [if_neg (show ¬ (false = true) by decide)] at H
                     simp only [Option.some.injEq, Prod.mk.injEq] at H
                     obtain ⟨rfl, rfl, rfl, rfl, rfl, rfl⟩ := H
                     have p344 : 0 ≤ (1 : Int) := (by omega)
                     have q344 : 1 < (t336.length : Int) := of_decide_eq_true (by first | (with_reducible assumption) | assumption)
                     obtain ⟨ad344, A344_1, c344_1, e344, hx344_0, hx344_1, hl344_1, hi344_1⟩ := at_T38 (Kd.S_reads' HO_9.out).2.2 1 p344 q344
                     (try rw [← Nbq39.out] at hx344_0)
                     (try rw [← Nbq50.out] at hx344_0)
                     obtain rfl : ad341 = ad344 := (by injection e344)
                     obtain ⟨ce344, hce344, hMe344, hcc344⟩ := Kd.S_get HO_9.out z38 1 p344 (by first | exact q344 | exact of_decide_eq_true (by first | (with_reducible assumption) | assumption) | (have e_ := (Kd.S_reads' HO_9.out).1; omega))
                     obtain ⟨ve344_1, rfl, ge344_1⟩ := k38_openM hMe344
                     have hv344_1 := hcc344 1 _ rfl
                     rw [add_field _ _ 1 (by omega)] at hv344_1
                     replace hv344_1 := Option.some.inj (hv344_1.symm.trans hx344_1)
                     rw [hv344_1] at ge344_1
                     have HL344_1 := Aside0.mk (show Kd.R Kd.string 9 _ _ _ _ ((rd_T38 t336 1).f1) from ge344_1)
                     clear hv344_1 ge344_1
                     clear hcc344 hce344
                     (try simp only [show (1 : Int).toNat = 1 from rfl, Nat.reduceMul, Nat.reduceEqDiff, Go.Addr.add, ↓reduceIte] at hx344_0)
                     (try simp only [show (1 : Int).toNat = 1 from rfl, Nat.reduceMul, Nat.reduceEqDiff, Go.Addr.add, ↓reduceIte] at hx344_1)
                     have qi344 : (1 < t336.length) = True := eq_true (by omega)
                     (try rw [show ((1 : Int)).toNat = 1 from rfl] at hx344_0)
                     (try rw [show 1 * 2 = 2 from rfl] at hx344_0)
                     (try rw [show ((1 : Int)).toNat = 1 from rfl] at hx344_1)
                     (try rw [show 1 * 2 = 2 from rfl] at hx344_1)
                     have HR344_1 := Aside0.mk hi344_1
                     have HC344_1 := Aside0.mk hl344_1
                     clear hi344_1 hl344_1
                     replace p344 := eq_true p344
                     replace q344 := eq_true q344
                     have p345 : 0 ≤ (1 : Int) := (by omega)
                     have q345 : 1 < (t336.length : Int) := of_decide_eq_true (by first | (with_reducible assumption) | assumption)
                     obtain ⟨ad345, A345_1, c345_1, e345, hx345_0, hx345_1, hl345_1, hi345_1⟩ := at_T38 (Kd.S_reads' HO_9.out).2.2 1 p345 q345
                     (try rw [← Nbq39.out] at hx345_0)
                     (try rw [← Nbq50.out] at hx345_0)
                     obtain rfl : ad341 = ad345 := (by injection e345)
                     obtain ⟨ce345, hce345, hMe345, hcc345⟩ := Kd.S_get HO_9.out z38 1 p345 (by first | exact q345 | exact of_decide_eq_true (by first | (with_reducible assumption) | assumption) | (have e_ := (Kd.S_reads' HO_9.out).1; omega))
                     obtain ⟨ve345_1, rfl, ge345_1⟩ := k38_openM hMe345
                     have hv345_1 := hcc345 1 _ rfl
                     rw [add_field _ _ 1 (by omega)] at hv345_1
                     replace hv345_1 := Option.some.inj (hv345_1.symm.trans hx345_1)
                     rw [hv345_1] at ge345_1
                     have HL345_1 := Aside0.mk (show Kd.R Kd.string 9 _ _ _ _ ((rd_T38 t336 1).f1) from ge345_1)
                     clear hv345_1 ge345_1
                     clear hcc345 hce345
                     (try simp only [show (1 : Int).toNat = 1 from rfl, Nat.reduceMul, Nat.reduceEqDiff, Go.Addr.add, ↓reduceIte] at hx345_0)
                     (try simp only [show (1 : Int).toNat = 1 from rfl, Nat.reduceMul, Nat.reduceEqDiff, Go.Addr.add, ↓reduceIte] at hx345_1)
                     have qi345 : (1 < t336.length) = True := eq_true (by omega)
                     (try rw [show ((1 : Int)).toNat = 1 from rfl] at hx345_0)
                     (try rw [show 1 * 2 = 2 from rfl] at hx345_0)
                     (try rw [show ((1 : Int)).toNat = 1 from rfl] at hx345_1)
                     (try rw [show 1 * 2 = 2 from rfl] at hx345_1)
                     have HR345_1 := Aside0.mk hi345_1
                     have HC345_1 := Aside0.mk hl345_1
                     clear hi345_1 hl345_1
                     replace p345 := eq_true p345
                     replace q345 := eq_true q345
                     have ea_ := Option.some.inj (hx344_1.symm.trans hx345_1)
                     injection ea_ with ea_ en_ ec_
                     subst ea_
                     subst ec_
                     clear en_
                     have p346 : 0 ≤ (0 : Int) := (by omega)
                     have q346 : 0 < (((rd_T38 t336 1).f1).length : Int) := of_decide_eq_true (by first | (with_reducible assumption) | assumption)
                     obtain ⟨ad346, e346, hx346_0⟩ := Kd.at_string (by repeat (first | (with_reducible exact HR345_1.out) | (with_reducible refine Kd.C_alloc ?_ _) | (with_reducible refine Kd.C_drewN ?_ _) | (with_reducible refine Kd.C_drew ?_) | exact HR345_1.out)) 0 p346 q346
                     cases e346
                     have qi346 : (0 < ((rd_T38 t336 1).f1).length) = True := eq_true (by omega)
                     (try rw [show ((0 : Int)).toNat = 0 from rfl] at hx346_0)
                     (try rw [Addr.add_zero'] at hx346_0)
                     replace p346 := eq_true p346
                     replace q346 := eq_true q346
                     go_wp2_with (first | ((with_reducible refine gate_callee (f := 28) rfl ?_); refine goesL_ (some 72) rfl rfl Try.func28 (by kernel_rfl) rfl #[.string (rdOf ByteArray.empty ((rd_T38 t336 1).f1) 0)] rfl (by (try simp only [List.map_toArray, List.map_cons, List.map_nil]); first | done | rfl | (simp only [List.length_drop, List.length_take]; rfl)) ?_; (with_reducible refine (num_Parse.calls kj22 (rdOf ByteArray.empty ((rd_T38 t336 1).f1) 0) t347 true _ A42.out).mono ?_); rintro e w' ⟨rfl, ⟨nd, rfl⟩⟩; refine ⟨_, rfl, ?_⟩; (try (rw [drewN_self wc]; generalize hq_ : World.drewN wc _ = wc; have n0_ : Aside0 (Kd.R Kd.string 9 wc w.heap.size (fun k_ => some k_ ≠ (.slice (some ad341) t336.length co31 : Value).ownBlock) (.slice (some ad346) ((rd_T38 t336 1).f1).length c344_1) ((rd_T38 t336 1).f1)) := ⟨by rw [← hq_]; exact (by (with_reducible repeat (first | apply Kd.R_alloc | apply Kd.R_drewN | apply Kd.R_drew)); exact Kd.R_mono HL344_1.out (fun _ hk => hk.2))⟩; have n1_ : Aside0 (Kd.R Kd.string 9 wc w.heap.size (fun k_ => some k_ ≠ (.slice (some ad341) t336.length co31 : Value).ownBlock) (.slice (some ad346) ((rd_T38 t336 1).f1).length c344_1) ((rd_T38 t336 1).f1)) := ⟨by rw [← hq_]; exact (by (with_reducible repeat (first | apply Kd.R_alloc | apply Kd.R_drewN | apply Kd.R_drew)); exact Kd.R_mono HL345_1.out (fun _ hk => hk.2))⟩; have n2_ : Aside0 (Kd.S k38 38 wc w.heap.size (fun _ => True) (.slice (some ad341) t336.length co31) t336) := ⟨by rw [← hq_]; exact (by (with_reducible repeat (first | apply Kd.S_alloc | apply Kd.S_drewN | apply Kd.S_drew)); exact HO_9.out)⟩; have n3_ : Aside0 (wc.heap[gb325]? = some (.cells #[.int .u64 0, .bool false, .string (⟨#[]⟩ : ByteArray), .int .i64 0, .string (⟨#[]⟩ : ByteArray)] 52 (0, 0))) := ⟨by rw [← hq_]; exact (by (with_reducible repeat (first | refine blk_drewN ?_ _ | refine blk_drew ?_ | refine blk_alloc ?_ _)); exact BK325.out)⟩; have n4_ : Aside0 (wc.heap[gb340]? = some (.cells #[.int .u64 (IntKind.u64.wrap (t327)), .bool x341001_22, .string x341002_22, .int .i64 10, .string (⟨#[]⟩ : ByteArray)] 52 (0, 0))) := ⟨by rw [← hq_]; exact (by (with_reducible repeat (first | refine blk_drewN ?_ _ | refine blk_drew ?_ | refine blk_alloc ?_ _)); exact BK340.out)⟩; have n5_ : Aside0 (Below w.heap.size w wc) := ⟨by rw [← hq_]; exact (by repeat (first | (with_reducible first | exact HB.out | apply below_alloc | apply pw_below_drewN | apply below_drew1 | refine below_set ?_ GE325.out | refine below_set ?_ GE340.out) | exact HB.out))⟩; have n6_ : Aside0 (Kd.C Kd.string wc (some ad346) ((rd_T38 t336 1).f1).length ((rd_T38 t336 1).f1)) := ⟨by rw [← hq_]; exact (by repeat (first | (with_reducible exact HR344_1.out) | (with_reducible refine Kd.C_alloc ?_ _) | (with_reducible refine Kd.C_drewN ?_ _) | (with_reducible refine Kd.C_drew ?_) | exact HR344_1.out))⟩; have n7_ : Aside0 (Kd.C Kd.string wc (some ad346) ((rd_T38 t336 1).f1).length ((rd_T38 t336 1).f1)) := ⟨by rw [← hq_]; exact (by repeat (first | (with_reducible exact HR345_1.out) | (with_reducible refine Kd.C_alloc ?_ _) | (with_reducible refine Kd.C_drewN ?_ _) | (with_reducible refine Kd.C_drew ?_) | exact HR345_1.out))⟩; clear HL344_1 HL345_1 HO_9 BK325 BK340 HB HR344_1 HR345_1 hq_; have HL344_1 := n0_; have HL345_1 := n1_; have HO_9 := n2_; have BK325 := n3_; have BK340 := n4_; have HB := n5_; have HR344_1 := n6_; have HR345_1 := n7_; clear n0_ n1_ n2_ n3_ n4_ n5_ n6_ n7_)); have hnb58 := NB340_325.out; have hnc58 := NB325_340.out; obtain ⟨hcz59_0, hcz59_1, hcz59_2, hcz59_3, hcz59_4, hfz59_0, hfz59_1, hfz59_2, hfz59_3, hfz59_4⟩ := cells5_ BK340.out) | ((with_reducible refine gate_store (t := 3) (p := 85) rfl ?_); refine store_event (t := 3) (p := 85) (v := ?vo_w60) (w1 := (wc.setCell ⟨gb340, 3, none⟩ (.int .i64 ji47))) ?hg ?ho ?hn ?hr ?_; (case ho => rfl); (case hg => rfl); (case hn => rfl); (case hr => first | (go_simp; done) | (go_simp; rfl)); intro w60 hw; have n0_ : Aside0 (Kd.S k38 38 w60 w.heap.size (fun _ => True) (.slice (some ad341) t336.length co31) t336) := ⟨(by rw [hw]; exact (by (with_reducible repeat (first | apply Kd.S_alloc | apply Kd.S_drewN | apply Kd.S_drew)); exact Kd.S_mono (Kd.S_far (p := ⟨gb340, 3, none⟩) (Kd.S_types HO_9.out BK340.out (by decide)) (fun _ hk => hk.2) (.int .i64 ji47)) (fun _ hk => trivial)))⟩; have n1_ : Aside0 (Kd.R Kd.string 9 w60 w.heap.size (fun k_ => some k_ ≠ (.slice (some ad341) t336.length co31 : Value).ownBlock) (.slice (some ad346) ((rd_T38 t336 1).f1).length c344_1) ((rd_T38 t336 1).f1)) := ⟨(by rw [hw]; exact (by (with_reducible repeat (first | apply Kd.R_alloc | apply Kd.R_drewN | apply Kd.R_drew)); exact Kd.R_mono (Kd.R_far (p := ⟨gb340, 3, none⟩) (Kd.R_types HL344_1.out BK340.out (by decide)) (fun _ hk => hk.2) (.int .i64 ji47)) (fun _ hk => by first | exact hk.1.2 | exact hk.1)))⟩; have n2_ : Aside0 (Kd.R Kd.string 9 w60 w.heap.size (fun k_ => some k_ ≠ (.slice (some ad341) t336.length co31 : Value).ownBlock) (.slice (some ad346) ((rd_T38 t336 1).f1).length c344_1) ((rd_T38 t336 1).f1)) := ⟨(by rw [hw]; exact (by (with_reducible repeat (first | apply Kd.R_alloc | apply Kd.R_drewN | apply Kd.R_drew)); exact Kd.R_mono (Kd.R_far (p := ⟨gb340, 3, none⟩) (Kd.R_types HL345_1.out BK340.out (by decide)) (fun _ hk => hk.2) (.int .i64 ji47)) (fun _ hk => by first | exact hk.1.2 | exact hk.1)))⟩; have n3_ : Aside0 (w60.heap[gb325]? = some (.cells #[.int .u64 0, .bool false, .string (⟨#[]⟩ : ByteArray), .int .i64 0, .string (⟨#[]⟩ : ByteArray)] 52 (0, 0))) := ⟨(by rw [hw]; exact (by (with_reducible repeat (first | refine blk_drewN ?_ _ | refine blk_drew ?_ | refine blk_alloc ?_ _)); refine blk_far ?_ NB325_340.out _; (with_reducible repeat (first | refine blk_drewN ?_ _ | refine blk_drew ?_ | refine blk_alloc ?_ _)); exact BK325.out))⟩; have n4_ : Aside0 (w60.heap[gb340]? = some (.cells #[.int .u64 (IntKind.u64.wrap (t327)), .bool x341001_22, .string x341002_22, .int .i64 ji47, .string (⟨#[]⟩ : ByteArray)] 52 (0, 0))) := ⟨(by rw [hw]; exact (by (with_reducible repeat (first | refine blk_drewN ?_ _ | refine blk_drew ?_ | refine blk_alloc ?_ _)); refine blk_put (cs := #[.int .u64 (IntKind.u64.wrap (t327)), .bool x341001_22, .string x341002_22, .int .i64 10, .string (⟨#[]⟩ : ByteArray)]) ?_ 3 _ rfl; (with_reducible repeat (first | refine blk_drewN ?_ _ | refine blk_drew ?_ | refine blk_alloc ?_ _)); exact BK340.out))⟩; have n5_ : Aside0 (Below w.heap.size w w60) := ⟨(by rw [hw]; exact (by repeat (first | (with_reducible first | exact HB.out | apply below_alloc | apply pw_below_drewN | apply below_drew1 | refine below_set ?_ GE325.out | refine below_set ?_ GE340.out) | exact HB.out)))⟩; clear hw; clear HO_9; clear HL344_1; clear HL345_1; clear BK325; clear BK340; clear HB; have HO_9 := n0_; have HL344_1 := n1_; have HL345_1 := n2_; have BK325 := n3_; have BK340 := n4_; have HB := n5_; clear n0_ n1_ n2_ n3_ n4_ n5_; have p349 : 0 ≤ (2 : Int) := (by omega); have q349 : 2 < (t336.length : Int) := of_decide_eq_true (by first | (with_reducible assumption) | assumption); obtain ⟨ad349, A349_1, c349_1, e349, hx349_0, hx349_1, hl349_1, hi349_1⟩ := at_T38 (Kd.S_reads' HO_9.out).2.2 2 p349 q349; (try rw [← Nbq39.out] at hx349_0); (try rw [← Nbq50.out] at hx349_0); obtain rfl : ad341 = ad349 := (by injection e349); obtain ⟨ce349, hce349, hMe349, hcc349⟩ := Kd.S_get HO_9.out z38 2 p349 (by first | exact q349 | exact of_decide_eq_true (by first | (with_reducible assumption) | assumption) | (have e_ := (Kd.S_reads' HO_9.out).1; omega)); obtain ⟨ve349_1, rfl, ge349_1⟩ := k38_openM hMe349; have hv349_1 := hcc349 1 _ rfl; rw [add_field _ _ 1 (by omega)] at hv349_1; replace hv349_1 := Option.some.inj (hv349_1.symm.trans hx349_1); rw [hv349_1] at ge349_1; have HL349_1 := Aside0.mk (show Kd.R Kd.string 9 _ _ _ _ ((rd_T38 t336 2).f1) from ge349_1); clear hv349_1 ge349_1; clear hcc349 hce349; (try simp only [show (2 : Int).toNat = 2 from rfl, Nat.reduceMul, Nat.reduceEqDiff, Go.Addr.add, ↓reduceIte] at hx349_0); (try simp only [show (2 : Int).toNat = 2 from rfl, Nat.reduceMul, Nat.reduceEqDiff, Go.Addr.add, ↓reduceIte] at hx349_1); have qi349 : (2 < t336.length) = True := eq_true (by omega); (try rw [show ((2 : Int)).toNat = 2 from rfl] at hx349_0); (try rw [show 2 * 2 = 4 from rfl] at hx349_0); (try rw [show ((2 : Int)).toNat = 2 from rfl] at hx349_1); (try rw [show 2 * 2 = 4 from rfl] at hx349_1); have HR349_1 := Aside0.mk hi349_1; have HC349_1 := Aside0.mk hl349_1; clear hi349_1 hl349_1; replace p349 := eq_true p349; replace q349 := eq_true q349; obtain ⟨hcz61_0, hcz61_1, hcz61_2, hcz61_3, hcz61_4, hfz61_0, hfz61_1, hfz61_2, hfz61_3, hfz61_4⟩ := cells5_ BK340.out; obtain ⟨hcz62_0, hcz62_1, hcz62_2, hcz62_3, hcz62_4, hfz62_0, hfz62_1, hfz62_2, hfz62_3, hfz62_4⟩ := cells5_ BK325.out))
                     refine bodyPost_ret (results_ct rfl _ _ gb325 52 #[.int .u64 (IntKind.u64.wrap (t327)), .bool x341001_22, .string x341002_22, .int .i64 ji47, .string (⟨#[]⟩ : ByteArray)] (0, 0) _ rfl (by (with_reducible repeat (first | refine blk_drewN ?_ _ | refine blk_drew ?_ | refine blk_alloc ?_ _)); refine blk_put (cs := #[.int .u64 (IntKind.u64.wrap (t327)), .bool x341001_22, .string x341002_22, .int .i64 ji47, .string (⟨#[]⟩ : ByteArray)]) ?_ 4 _ rfl; (with_reducible repeat (first | refine blk_drewN ?_ _ | refine blk_drew ?_ | refine blk_alloc ?_ _)); refine blk_put (cs := #[.int .u64 (IntKind.u64.wrap (t327)), .bool x341001_22, .string x341002_22, .int .i64 0, .string (⟨#[]⟩ : ByteArray)]) ?_ 3 _ rfl; (with_reducible repeat (first | refine blk_drewN ?_ _ | refine blk_drew ?_ | refine blk_alloc ?_ _)); refine blk_put (cs := #[.int .u64 (IntKind.u64.wrap (t327)), .bool x341001_22, .string (⟨#[]⟩ : ByteArray), .int .i64 0, .string (⟨#[]⟩ : ByteArray)]) ?_ 2 _ rfl; (with_reducible repeat (first | refine blk_drewN ?_ _ | refine blk_drew ?_ | refine blk_alloc ?_ _)); refine blk_put (cs := #[.int .u64 (IntKind.u64.wrap (t327)), .bool false, .string (⟨#[]⟩ : ByteArray), .int .i64 0, .string (⟨#[]⟩ : ByteArray)]) ?_ 1 _ rfl; (with_reducible repeat (first | refine blk_drewN ?_ _ | refine blk_drew ?_ | refine blk_alloc ?_ _)); refine blk_put (cs := #[.int .u64 0, .bool false, .string (⟨#[]⟩ : ByteArray), .int .i64 0, .string (⟨#[]⟩ : ByteArray)]) ?_ 0 _ rfl; (with_reducible repeat (first | refine blk_drewN ?_ _ | refine blk_drew ?_ | refine blk_alloc ?_ _)); exact BK325.out) Try.underlying52 rfl (by kernel_rfl)) rfl ?_
                     exact ⟨by first | rfl | (simp [errW_none, errW_some] <;> rfl) | (simp only [← hji47]; first | rfl | (simp [errW_none, errW_some] <;> rfl)) | (simp [*, errW_none, errW_some] <;> rfl), by repeat (first | (with_reducible first | exact HB.out | apply below_alloc | apply pw_below_drewN | apply below_drew1 | refine below_set ?_ GE325.out | refine below_set ?_ GE340.out) | exact HB.out)⟩
                   ·rw [if_neg c49] at H
                    exact absurd H (by simp)
                  ·replace c48 := Bool.eq_false_iff.mpr c48
                   subst c48
                   rw [if_neg (show ¬ (false = true) by decide)] at H
                   simp only [Option.some.injEq, Prod.mk.injEq] at H
                   obtain ⟨rfl, rfl, rfl, rfl, rfl, rfl⟩ := H
                   have p344 : 0 ≤ (1 : Int) := (by omega)
                   have q344 : 1 < (t336.length : Int) := of_decide_eq_true (by first | (with_reducible assumption) | assumption)
                   obtain ⟨ad344, A344_1, c344_1, e344, hx344_0, hx344_1, hl344_1, hi344_1⟩ := at_T38 (Kd.S_reads' HO_9.out).2.2 1 p344 q344
                   (try rw [← Nbq39.out] at hx344_0)
                   obtain rfl : ad341 = ad344 := (by injection e344)
                   obtain ⟨ce344, hce344, hMe344, hcc344⟩ := Kd.S_get HO_9.out z38 1 p344 (by first | exact q344 | exact of_decide_eq_true (by first | (with_reducible assumption) | assumption) | (have e_ := (Kd.S_reads' HO_9.out).1; omega))
                   obtain ⟨ve344_1, rfl, ge344_1⟩ := k38_openM hMe344
                   have hv344_1 := hcc344 1 _ rfl
                   rw [add_field _ _ 1 (by omega)] at hv344_1
                   replace hv344_1 := Option.some.inj (hv344_1.symm.trans hx344_1)
                   rw [hv344_1] at ge344_1
                   have HL344_1 := Aside0.mk (show Kd.R Kd.string 9 _ _ _ _ ((rd_T38 t336 1).f1) from ge344_1)
                   clear hv344_1 ge344_1
                   clear hcc344 hce344
                   (try simp only [show (1 : Int).toNat = 1 from rfl, Nat.reduceMul, Nat.reduceEqDiff, Go.Addr.add, ↓reduceIte] at hx344_0)
                   (try simp only [show (1 : Int).toNat = 1 from rfl, Nat.reduceMul, Nat.reduceEqDiff, Go.Addr.add, ↓reduceIte] at hx344_1)
                   have qi344 : (1 < t336.length) = True := eq_true (by omega)
                   (try rw [show ((1 : Int)).toNat = 1 from rfl] at hx344_0)
                   (try rw [show 1 * 2 = 2 from rfl] at hx344_0)
                   (try rw [show ((1 : Int)).toNat = 1 from rfl] at hx344_1)
                   (try rw [show 1 * 2 = 2 from rfl] at hx344_1)
                   have HR344_1 := Aside0.mk hi344_1
                   have HC344_1 := Aside0.mk hl344_1
                   clear hi344_1 hl344_1
                   replace p344 := eq_true p344
                   replace q344 := eq_true q344
                   have p345 : 0 ≤ (1 : Int) := (by omega)
                   have q345 : 1 < (t336.length : Int) := of_decide_eq_true (by first | (with_reducible assumption) | assumption)
                   obtain ⟨ad345, A345_1, c345_1, e345, hx345_0, hx345_1, hl345_1, hi345_1⟩ := at_T38 (Kd.S_reads' HO_9.out).2.2 1 p345 q345
                   (try rw [← Nbq39.out] at hx345_0)
                   obtain rfl : ad341 = ad345 := (by injection e345)
                   obtain ⟨ce345, hce345, hMe345, hcc345⟩ := Kd.S_get HO_9.out z38 1 p345 (by first | exact q345 | exact of_decide_eq_true (by first | (with_reducible assumption) | assumption) | (have e_ := (Kd.S_reads' HO_9.out).1; omega))
                   obtain ⟨ve345_1, rfl, ge345_1⟩ := k38_openM hMe345
                   have hv345_1 := hcc345 1 _ rfl
                   rw [add_field _ _ 1 (by omega)] at hv345_1
                   replace hv345_1 := Option.some.inj (hv345_1.symm.trans hx345_1)
                   rw [hv345_1] at ge345_1
                   have HL345_1 := Aside0.mk (show Kd.R Kd.string 9 _ _ _ _ ((rd_T38 t336 1).f1) from ge345_1)
                   clear hv345_1 ge345_1
                   clear hcc345 hce345
                   (try simp only [show (1 : Int).toNat = 1 from rfl, Nat.reduceMul, Nat.reduceEqDiff, Go.Addr.add, ↓reduceIte] at hx345_0)
                   (try simp only [show (1 : Int).toNat = 1 from rfl, Nat.reduceMul, Nat.reduceEqDiff, Go.Addr.add, ↓reduceIte] at hx345_1)
                   have qi345 : (1 < t336.length) = True := eq_true (by omega)
                   (try rw [show ((1 : Int)).toNat = 1 from rfl] at hx345_0)
                   (try rw [show 1 * 2 = 2 from rfl] at hx345_0)
                   (try rw [show ((1 : Int)).toNat = 1 from rfl] at hx345_1)
                   (try rw [show 1 * 2 = 2 from rfl] at hx345_1)
                   have HR345_1 := Aside0.mk hi345_1
                   have HC345_1 := Aside0.mk hl345_1
                   clear hi345_1 hl345_1
                   replace p345 := eq_true p345
                   replace q345 := eq_true q345
                   have ea_ := Option.some.inj (hx344_1.symm.trans hx345_1)
                   injection ea_ with ea_ en_ ec_
                   subst ea_
                   subst ec_
                   clear en_
                   have p346 : 0 ≤ (0 : Int) := (by omega)
                   have q346 : 0 < (((rd_T38 t336 1).f1).length : Int) := of_decide_eq_true (by first | (with_reducible assumption) | assumption)
                   obtain ⟨ad346, e346, hx346_0⟩ := Kd.at_string (by repeat (first | (with_reducible exact HR345_1.out) | (with_reducible refine Kd.C_alloc ?_ _) | (with_reducible refine Kd.C_drewN ?_ _) | (with_reducible refine Kd.C_drew ?_) | exact HR345_1.out)) 0 p346 q346
                   cases e346
                   have qi346 : (0 < ((rd_T38 t336 1).f1).length) = True := eq_true (by omega)
                   (try rw [show ((0 : Int)).toNat = 0 from rfl] at hx346_0)
                   (try rw [Addr.add_zero'] at hx346_0)
                   replace p346 := eq_true p346
                   replace q346 := eq_true q346
                   go_wp2_with (first | ((with_reducible refine gate_callee (f := 28) rfl ?_); refine goesL_ (some 72) rfl rfl Try.func28 (by kernel_rfl) rfl #[.string (rdOf ByteArray.empty ((rd_T38 t336 1).f1) 0)] rfl (by (try simp only [List.map_toArray, List.map_cons, List.map_nil]); first | done | rfl | (simp only [List.length_drop, List.length_take]; rfl)) ?_; (with_reducible refine (num_Parse.calls kj22 (rdOf ByteArray.empty ((rd_T38 t336 1).f1) 0) t347 true _ A42.out).mono ?_); rintro e w' ⟨rfl, ⟨nd, rfl⟩⟩; refine ⟨_, rfl, ?_⟩; (try (rw [drewN_self wc]; generalize hq_ : World.drewN wc _ = wc; have n0_ : Aside0 (Kd.R Kd.string 9 wc w.heap.size (fun k_ => some k_ ≠ (.slice (some ad341) t336.length co31 : Value).ownBlock) (.slice (some ad346) ((rd_T38 t336 1).f1).length c344_1) ((rd_T38 t336 1).f1)) := ⟨by rw [← hq_]; exact (by (with_reducible repeat (first | apply Kd.R_alloc | apply Kd.R_drewN | apply Kd.R_drew)); exact Kd.R_mono HL344_1.out (fun _ hk => hk.2))⟩; have n1_ : Aside0 (Kd.R Kd.string 9 wc w.heap.size (fun k_ => some k_ ≠ (.slice (some ad341) t336.length co31 : Value).ownBlock) (.slice (some ad346) ((rd_T38 t336 1).f1).length c344_1) ((rd_T38 t336 1).f1)) := ⟨by rw [← hq_]; exact (by (with_reducible repeat (first | apply Kd.R_alloc | apply Kd.R_drewN | apply Kd.R_drew)); exact Kd.R_mono HL345_1.out (fun _ hk => hk.2))⟩; have n2_ : Aside0 (Kd.S k38 38 wc w.heap.size (fun _ => True) (.slice (some ad341) t336.length co31) t336) := ⟨by rw [← hq_]; exact (by (with_reducible repeat (first | apply Kd.S_alloc | apply Kd.S_drewN | apply Kd.S_drew)); exact HO_9.out)⟩; have n3_ : Aside0 (wc.heap[gb325]? = some (.cells #[.int .u64 0, .bool false, .string (⟨#[]⟩ : ByteArray), .int .i64 0, .string (⟨#[]⟩ : ByteArray)] 52 (0, 0))) := ⟨by rw [← hq_]; exact (by (with_reducible repeat (first | refine blk_drewN ?_ _ | refine blk_drew ?_ | refine blk_alloc ?_ _)); exact BK325.out)⟩; have n4_ : Aside0 (wc.heap[gb340]? = some (.cells #[.int .u64 (IntKind.u64.wrap (t327)), .bool x341001_22, .string x341002_22, .int .i64 10, .string (⟨#[]⟩ : ByteArray)] 52 (0, 0))) := ⟨by rw [← hq_]; exact (by (with_reducible repeat (first | refine blk_drewN ?_ _ | refine blk_drew ?_ | refine blk_alloc ?_ _)); exact BK340.out)⟩; have n5_ : Aside0 (Below w.heap.size w wc) := ⟨by rw [← hq_]; exact (by repeat (first | (with_reducible first | exact HB.out | apply below_alloc | apply pw_below_drewN | apply below_drew1 | refine below_set ?_ GE325.out | refine below_set ?_ GE340.out) | exact HB.out))⟩; have n6_ : Aside0 (Kd.C Kd.string wc (some ad346) ((rd_T38 t336 1).f1).length ((rd_T38 t336 1).f1)) := ⟨by rw [← hq_]; exact (by repeat (first | (with_reducible exact HR344_1.out) | (with_reducible refine Kd.C_alloc ?_ _) | (with_reducible refine Kd.C_drewN ?_ _) | (with_reducible refine Kd.C_drew ?_) | exact HR344_1.out))⟩; have n7_ : Aside0 (Kd.C Kd.string wc (some ad346) ((rd_T38 t336 1).f1).length ((rd_T38 t336 1).f1)) := ⟨by rw [← hq_]; exact (by repeat (first | (with_reducible exact HR345_1.out) | (with_reducible refine Kd.C_alloc ?_ _) | (with_reducible refine Kd.C_drewN ?_ _) | (with_reducible refine Kd.C_drew ?_) | exact HR345_1.out))⟩; clear HL344_1 HL345_1 HO_9 BK325 BK340 HB HR344_1 HR345_1 hq_; have HL344_1 := n0_; have HL345_1 := n1_; have HO_9 := n2_; have BK325 := n3_; have BK340 := n4_; have HB := n5_; have HR344_1 := n6_; have HR345_1 := n7_; clear n0_ n1_ n2_ n3_ n4_ n5_ n6_ n7_)); have hnb63 := NB340_325.out; have hnc63 := NB325_340.out; obtain ⟨hcz64_0, hcz64_1, hcz64_2, hcz64_3, hcz64_4, hfz64_0, hfz64_1, hfz64_2, hfz64_3, hfz64_4⟩ := cells5_ BK340.out; obtain ⟨hcz65_0, hcz65_1, hcz65_2, hcz65_3, hcz65_4, hfz65_0, hfz65_1, hfz65_2, hfz65_3, hfz65_4⟩ := cells5_ BK325.out))
                   refine bodyPost_ret (results_ct rfl _ _ gb325 52 #[.int .u64 (IntKind.u64.wrap (t327)), .bool x341001_22, .string x341002_22, .int .i64 ji47, .string (⟨#[]⟩ : ByteArray)] (0, 0) _ rfl (by (with_reducible repeat (first | refine blk_drewN ?_ _ | refine blk_drew ?_ | refine blk_alloc ?_ _)); refine blk_put (cs := #[.int .u64 (IntKind.u64.wrap (t327)), .bool x341001_22, .string x341002_22, .int .i64 ji47, .string (⟨#[]⟩ : ByteArray)]) ?_ 4 _ rfl; (with_reducible repeat (first | refine blk_drewN ?_ _ | refine blk_drew ?_ | refine blk_alloc ?_ _)); refine blk_put (cs := #[.int .u64 (IntKind.u64.wrap (t327)), .bool x341001_22, .string x341002_22, .int .i64 0, .string (⟨#[]⟩ : ByteArray)]) ?_ 3 _ rfl; (with_reducible repeat (first | refine blk_drewN ?_ _ | refine blk_drew ?_ | refine blk_alloc ?_ _)); refine blk_put (cs := #[.int .u64 (IntKind.u64.wrap (t327)), .bool x341001_22, .string (⟨#[]⟩ : ByteArray), .int .i64 0, .string (⟨#[]⟩ : ByteArray)]) ?_ 2 _ rfl; (with_reducible repeat (first | refine blk_drewN ?_ _ | refine blk_drew ?_ | refine blk_alloc ?_ _)); refine blk_put (cs := #[.int .u64 (IntKind.u64.wrap (t327)), .bool false, .string (⟨#[]⟩ : ByteArray), .int .i64 0, .string (⟨#[]⟩ : ByteArray)]) ?_ 1 _ rfl; (with_reducible repeat (first | refine blk_drewN ?_ _ | refine blk_drew ?_ | refine blk_alloc ?_ _)); refine blk_put (cs := #[.int .u64 0, .bool false, .string (⟨#[]⟩ : ByteArray), .int .i64 0, .string (⟨#[]⟩ : ByteArray)]) ?_ 0 _ rfl; (with_reducible repeat (first | refine blk_drewN ?_ _ | refine blk_drew ?_ | refine blk_alloc ?_ _)); refine blk_far ?_ NB325_340.out _; (with_reducible repeat (first | refine blk_drewN ?_ _ | refine blk_drew ?_ | refine blk_alloc ?_ _)); exact BK325.out) Try.underlying52 rfl (by kernel_rfl)) rfl ?_
                   exact ⟨by first | rfl | (simp [errW_none, errW_some] <;> rfl) | (simp only [← hji47]; first | rfl | (simp [errW_none, errW_some] <;> rfl)) | (simp [*, errW_none, errW_some] <;> rfl), by repeat (first | (with_reducible first | exact HB.out | apply below_alloc | apply pw_below_drewN | apply below_drew1 | refine below_set ?_ GE325.out | refine below_set ?_ GE340.out) | exact HB.out)⟩
                ·replace c43 := Bool.eq_false_iff.mpr c43
                 subst c43
                 rw [if_neg (show ¬ (false = true) by decide)] at H
                 simp only [Option.some.injEq, Prod.mk.injEq] at H
                 obtain ⟨rfl, rfl, rfl, rfl, rfl, rfl⟩ := H
                 have p344 : 0 ≤ (1 : Int) := (by omega)
                 have q344 : 1 < (t336.length : Int) := of_decide_eq_true (by first | (with_reducible assumption) | assumption)
                 obtain ⟨ad344, A344_1, c344_1, e344, hx344_0, hx344_1, hl344_1, hi344_1⟩ := at_T38 (Kd.S_reads' HO_9.out).2.2 1 p344 q344
                 (try rw [← Nbq39.out] at hx344_0)
                 obtain rfl : ad341 = ad344 := (by injection e344)
                 obtain ⟨ce344, hce344, hMe344, hcc344⟩ := Kd.S_get HO_9.out z38 1 p344 (by first | exact q344 | exact of_decide_eq_true (by first | (with_reducible assumption) | assumption) | (have e_ := (Kd.S_reads' HO_9.out).1; omega))
                 obtain ⟨ve344_1, rfl, ge344_1⟩ := k38_openM hMe344
                 have hv344_1 := hcc344 1 _ rfl
                 rw [add_field _ _ 1 (by omega)] at hv344_1
                 replace hv344_1 := Option.some.inj (hv344_1.symm.trans hx344_1)
                 rw [hv344_1] at ge344_1
                 have HL344_1 := Aside0.mk (show Kd.R Kd.string 9 _ _ _ _ ((rd_T38 t336 1).f1) from ge344_1)
                 clear hv344_1 ge344_1
                 clear hcc344 hce344
                 (try simp only [show (1 : Int).toNat = 1 from rfl, Nat.reduceMul, Nat.reduceEqDiff, Go.Addr.add, ↓reduceIte] at hx344_0)
                 (try simp only [show (1 : Int).toNat = 1 from rfl, Nat.reduceMul, Nat.reduceEqDiff, Go.Addr.add, ↓reduceIte] at hx344_1)
                 have qi344 : (1 < t336.length) = True := eq_true (by omega)
                 (try rw [show ((1 : Int)).toNat = 1 from rfl] at hx344_0)
                 (try rw [show 1 * 2 = 2 from rfl] at hx344_0)
                 (try rw [show ((1 : Int)).toNat = 1 from rfl] at hx344_1)
                 (try rw [show 1 * 2 = 2 from rfl] at hx344_1)
                 have HR344_1 := Aside0.mk hi344_1
                 have HC344_1 := Aside0.mk hl344_1
                 clear hi344_1 hl344_1
                 replace p344 := eq_true p344
                 replace q344 := eq_true q344
                 have p345 : 0 ≤ (1 : Int) := (by omega)
                 have q345 : 1 < (t336.length : Int) := of_decide_eq_true (by first | (with_reducible assumption) | assumption)
                 obtain ⟨ad345, A345_1, c345_1, e345, hx345_0, hx345_1, hl345_1, hi345_1⟩ := at_T38 (Kd.S_reads' HO_9.out).2.2 1 p345 q345
                 (try rw [← Nbq39.out] at hx345_0)
                 obtain rfl : ad341 = ad345 := (by injection e345)
                 obtain ⟨ce345, hce345, hMe345, hcc345⟩ := Kd.S_get HO_9.out z38 1 p345 (by first | exact q345 | exact of_decide_eq_true (by first | (with_reducible assumption) | assumption) | (have e_ := (Kd.S_reads' HO_9.out).1; omega))
                 obtain ⟨ve345_1, rfl, ge345_1⟩ := k38_openM hMe345
                 have hv345_1 := hcc345 1 _ rfl
                 rw [add_field _ _ 1 (by omega)] at hv345_1
                 replace hv345_1 := Option.some.inj (hv345_1.symm.trans hx345_1)
                 rw [hv345_1] at ge345_1
                 have HL345_1 := Aside0.mk (show Kd.R Kd.string 9 _ _ _ _ ((rd_T38 t336 1).f1) from ge345_1)
                 clear hv345_1 ge345_1
                 clear hcc345 hce345
                 (try simp only [show (1 : Int).toNat = 1 from rfl, Nat.reduceMul, Nat.reduceEqDiff, Go.Addr.add, ↓reduceIte] at hx345_0)
                 (try simp only [show (1 : Int).toNat = 1 from rfl, Nat.reduceMul, Nat.reduceEqDiff, Go.Addr.add, ↓reduceIte] at hx345_1)
                 have qi345 : (1 < t336.length) = True := eq_true (by omega)
                 (try rw [show ((1 : Int)).toNat = 1 from rfl] at hx345_0)
                 (try rw [show 1 * 2 = 2 from rfl] at hx345_0)
                 (try rw [show ((1 : Int)).toNat = 1 from rfl] at hx345_1)
                 (try rw [show 1 * 2 = 2 from rfl] at hx345_1)
                 have HR345_1 := Aside0.mk hi345_1
                 have HC345_1 := Aside0.mk hl345_1
                 clear hi345_1 hl345_1
                 replace p345 := eq_true p345
                 replace q345 := eq_true q345
                 have ea_ := Option.some.inj (hx344_1.symm.trans hx345_1)
                 injection ea_ with ea_ en_ ec_
                 subst ea_
                 subst ec_
                 clear en_
                 have p346 : 0 ≤ (0 : Int) := (by omega)
                 have q346 : 0 < (((rd_T38 t336 1).f1).length : Int) := of_decide_eq_true (by first | (with_reducible assumption) | assumption)
                 obtain ⟨ad346, e346, hx346_0⟩ := Kd.at_string (by repeat (first | (with_reducible exact HR345_1.out) | (with_reducible refine Kd.C_alloc ?_ _) | (with_reducible refine Kd.C_drewN ?_ _) | (with_reducible refine Kd.C_drew ?_) | exact HR345_1.out)) 0 p346 q346
                 cases e346
                 have qi346 : (0 < ((rd_T38 t336 1).f1).length) = True := eq_true (by omega)
                 (try rw [show ((0 : Int)).toNat = 0 from rfl] at hx346_0)
                 (try rw [Addr.add_zero'] at hx346_0)
                 replace p346 := eq_true p346
                 replace q346 := eq_true q346
                 go_wp2_with (first | ((with_reducible refine gate_callee (f := 28) rfl ?_); refine goesL_ (some 72) rfl rfl Try.func28 (by kernel_rfl) rfl #[.string (rdOf ByteArray.empty ((rd_T38 t336 1).f1) 0)] rfl (by (try simp only [List.map_toArray, List.map_cons, List.map_nil]); first | done | rfl | (simp only [List.length_drop, List.length_take]; rfl)) ?_; (with_reducible refine (num_Parse.calls kj22 (rdOf ByteArray.empty ((rd_T38 t336 1).f1) 0) t347 false _ A42.out).mono ?_); rintro e w' ⟨rfl, ⟨nd, rfl⟩⟩; refine ⟨_, rfl, ?_⟩; (try (rw [drewN_self wc]; generalize hq_ : World.drewN wc _ = wc; have n0_ : Aside0 (Kd.R Kd.string 9 wc w.heap.size (fun k_ => some k_ ≠ (.slice (some ad341) t336.length co31 : Value).ownBlock) (.slice (some ad346) ((rd_T38 t336 1).f1).length c344_1) ((rd_T38 t336 1).f1)) := ⟨by rw [← hq_]; exact (by (with_reducible repeat (first | apply Kd.R_alloc | apply Kd.R_drewN | apply Kd.R_drew)); exact Kd.R_mono HL344_1.out (fun _ hk => hk.2))⟩; have n1_ : Aside0 (Kd.R Kd.string 9 wc w.heap.size (fun k_ => some k_ ≠ (.slice (some ad341) t336.length co31 : Value).ownBlock) (.slice (some ad346) ((rd_T38 t336 1).f1).length c344_1) ((rd_T38 t336 1).f1)) := ⟨by rw [← hq_]; exact (by (with_reducible repeat (first | apply Kd.R_alloc | apply Kd.R_drewN | apply Kd.R_drew)); exact Kd.R_mono HL345_1.out (fun _ hk => hk.2))⟩; have n2_ : Aside0 (Kd.S k38 38 wc w.heap.size (fun _ => True) (.slice (some ad341) t336.length co31) t336) := ⟨by rw [← hq_]; exact (by (with_reducible repeat (first | apply Kd.S_alloc | apply Kd.S_drewN | apply Kd.S_drew)); exact HO_9.out)⟩; have n3_ : Aside0 (wc.heap[gb325]? = some (.cells #[.int .u64 0, .bool false, .string (⟨#[]⟩ : ByteArray), .int .i64 0, .string (⟨#[]⟩ : ByteArray)] 52 (0, 0))) := ⟨by rw [← hq_]; exact (by (with_reducible repeat (first | refine blk_drewN ?_ _ | refine blk_drew ?_ | refine blk_alloc ?_ _)); exact BK325.out)⟩; have n4_ : Aside0 (wc.heap[gb340]? = some (.cells #[.int .u64 (IntKind.u64.wrap (t327)), .bool x341001_22, .string x341002_22, .int .i64 10, .string (⟨#[]⟩ : ByteArray)] 52 (0, 0))) := ⟨by rw [← hq_]; exact (by (with_reducible repeat (first | refine blk_drewN ?_ _ | refine blk_drew ?_ | refine blk_alloc ?_ _)); exact BK340.out)⟩; have n5_ : Aside0 (Below w.heap.size w wc) := ⟨by rw [← hq_]; exact (by repeat (first | (with_reducible first | exact HB.out | apply below_alloc | apply pw_below_drewN | apply below_drew1 | refine below_set ?_ GE325.out | refine below_set ?_ GE340.out) | exact HB.out))⟩; have n6_ : Aside0 (Kd.C Kd.string wc (some ad346) ((rd_T38 t336 1).f1).length ((rd_T38 t336 1).f1)) := ⟨by rw [← hq_]; exact (by repeat (first | (with_reducible exact HR344_1.out) | (with_reducible refine Kd.C_alloc ?_ _) | (with_reducible refine Kd.C_drewN ?_ _) | (with_reducible refine Kd.C_drew ?_) | exact HR344_1.out))⟩; have n7_ : Aside0 (Kd.C Kd.string wc (some ad346) ((rd_T38 t336 1).f1).length ((rd_T38 t336 1).f1)) := ⟨by rw [← hq_]; exact (by repeat (first | (with_reducible exact HR345_1.out) | (with_reducible refine Kd.C_alloc ?_ _) | (with_reducible refine Kd.C_drewN ?_ _) | (with_reducible refine Kd.C_drew ?_) | exact HR345_1.out))⟩; clear HL344_1 HL345_1 HO_9 BK325 BK340 HB HR344_1 HR345_1 hq_; have HL344_1 := n0_; have HL345_1 := n1_; have HO_9 := n2_; have BK325 := n3_; have BK340 := n4_; have HB := n5_; have HR344_1 := n6_; have HR345_1 := n7_; clear n0_ n1_ n2_ n3_ n4_ n5_ n6_ n7_)); have hnb66 := NB325_340.out; have hnc66 := NB340_325.out; obtain ⟨hcz67_0, hcz67_1, hcz67_2, hcz67_3, hcz67_4, hfz67_0, hfz67_1, hfz67_2, hfz67_3, hfz67_4⟩ := cells5_ BK325.out))
                 refine bodyPost_ret (results_ct rfl _ _ gb325 52 #[.int .u64 0, .bool false, .string (⟨#[]⟩ : ByteArray), .int .i64 0, .string (⟨#[]⟩ : ByteArray)] (0, 0) _ rfl (by (with_reducible repeat (first | refine blk_drewN ?_ _ | refine blk_drew ?_ | refine blk_alloc ?_ _)); refine blk_put (cs := #[.int .u64 0, .bool false, .string (⟨#[]⟩ : ByteArray), .int .i64 0, .string (⟨#[]⟩ : ByteArray)]) ?_ 4 _ rfl; (with_reducible repeat (first | refine blk_drewN ?_ _ | refine blk_drew ?_ | refine blk_alloc ?_ _)); refine blk_put (cs := #[.int .u64 0, .bool false, .string (⟨#[]⟩ : ByteArray), .int .i64 0, .string (⟨#[]⟩ : ByteArray)]) ?_ 3 _ rfl; (with_reducible repeat (first | refine blk_drewN ?_ _ | refine blk_drew ?_ | refine blk_alloc ?_ _)); refine blk_put (cs := #[.int .u64 0, .bool false, .string (⟨#[]⟩ : ByteArray), .int .i64 0, .string (⟨#[]⟩ : ByteArray)]) ?_ 2 _ rfl; (with_reducible repeat (first | refine blk_drewN ?_ _ | refine blk_drew ?_ | refine blk_alloc ?_ _)); refine blk_put (cs := #[.int .u64 0, .bool false, .string (⟨#[]⟩ : ByteArray), .int .i64 0, .string (⟨#[]⟩ : ByteArray)]) ?_ 1 _ rfl; (with_reducible repeat (first | refine blk_drewN ?_ _ | refine blk_drew ?_ | refine blk_alloc ?_ _)); refine blk_put (cs := #[.int .u64 0, .bool false, .string (⟨#[]⟩ : ByteArray), .int .i64 0, .string (⟨#[]⟩ : ByteArray)]) ?_ 0 _ rfl; (with_reducible repeat (first | refine blk_drewN ?_ _ | refine blk_drew ?_ | refine blk_alloc ?_ _)); exact BK325.out) Try.underlying52 rfl (by kernel_rfl)) rfl ?_
                 exact ⟨by first | rfl | (simp [errW_none, errW_some] <;> rfl) | (simp [*, errW_none, errW_some] <;> rfl), by repeat (first | (with_reducible first | exact HB.out | apply below_alloc | apply pw_below_drewN | apply below_drew1 | refine below_set ?_ GE325.out | refine below_set ?_ GE340.out) | exact HB.out)⟩
               ·rw [if_neg c41] at H
                exact absurd H (by simp)
              ·replace c40 := Bool.eq_false_iff.mpr c40
               subst c40
               rw [if_neg (show ¬ (false = true) by decide)] at H
               by_cases c68 : a1 = true
               ·subst c68
                rw [if_pos rfl] at H
                by_cases c69 : 2 < (t336.length : Int)
                ·rw [if_pos c69] at H
                 have c69b0 : decide (2 < (t336.length : Int)) = true := decide_eq_true c69
                 have c69b1 : decide (2 < t336.length) = true := decide_eq_true (by omega)
                 clear c69
                 obtain ⟨bq70, hbq70⟩ : ∃ b_ : Bool, b_ = ((rd_T38 t336 2).f0) := ⟨_, rfl⟩
                 replace H : (if bq70 = true then (if 0 < (((rd_T38 t336 2).f1).length : Int) then (some ((IntKind.u64.wrap (t327)), x341001_22, x341002_22, 10, rdOf ByteArray.empty ((rd_T38 t336 2).f1) 0, (⟨#[]⟩ : ByteArray))) else (none)) else (some ((IntKind.u64.wrap (t327)), x341001_22, x341002_22, 10, (⟨#[]⟩ : ByteArray), (⟨#[]⟩ : ByteArray)))) = some (r1, r2, r3, r4, r5, r6) := by rw [← hbq70] at H; exact H
                 have Nbq70 := Aside0.mk hbq70
                 clear hbq70
                 by_cases c71 : bq70 = true
                 ·subst c71
                  rw [if_pos rfl] at H
                  by_cases c72 : 0 < (((rd_T38 t336 2).f1).length : Int)
                  ·rw [if_pos c72] at H
                   have c72b0 : decide (0 < (((rd_T38 t336 2).f1).length : Int)) = true := decide_eq_true c72
                   have c72b1 : decide (0 < ((rd_T38 t336 2).f1).length) = true := decide_eq_true (by omega)
                   clear c72
                   simp only [Option.some.injEq, Prod.mk.injEq] at H
                   obtain ⟨rfl, rfl, rfl, rfl, rfl, rfl⟩ := H
                   have p344 : 0 ≤ (1 : Int) := (by omega)
                   have q344 : 1 < (t336.length : Int) := of_decide_eq_true (by first | (with_reducible assumption) | assumption)
                   obtain ⟨ad344, A344_1, c344_1, e344, hx344_0, hx344_1, hl344_1, hi344_1⟩ := at_T38 (Kd.S_reads' HO_9.out).2.2 1 p344 q344
                   (try rw [← Nbq39.out] at hx344_0)
                   (try rw [← Nbq70.out] at hx344_0)
                   obtain rfl : ad341 = ad344 := (by injection e344)
                   obtain ⟨ce344, hce344, hMe344, hcc344⟩ := Kd.S_get HO_9.out z38 1 p344 (by first | exact q344 | exact of_decide_eq_true (by first | (with_reducible assumption) | assumption) | (have e_ := (Kd.S_reads' HO_9.out).1; omega))
                   obtain ⟨ve344_1, rfl, ge344_1⟩ := k38_openM hMe344
                   have hv344_1 := hcc344 1 _ rfl
                   rw [add_field _ _ 1 (by omega)] at hv344_1
                   replace hv344_1 := Option.some.inj (hv344_1.symm.trans hx344_1)
                   rw [hv344_1] at ge344_1
                   have HL344_1 := Aside0.mk (show Kd.R Kd.string 9 _ _ _ _ ((rd_T38 t336 1).f1) from ge344_1)
                   clear hv344_1 ge344_1
                   clear hcc344 hce344
                   (try simp only [show (1 : Int).toNat = 1 from rfl, Nat.reduceMul, Nat.reduceEqDiff, Go.Addr.add, ↓reduceIte] at hx344_0)
                   (try simp only [show (1 : Int).toNat = 1 from rfl, Nat.reduceMul, Nat.reduceEqDiff, Go.Addr.add, ↓reduceIte] at hx344_1)
                   have qi344 : (1 < t336.length) = True := eq_true (by omega)
                   (try rw [show ((1 : Int)).toNat = 1 from rfl] at hx344_0)
                   (try rw [show 1 * 2 = 2 from rfl] at hx344_0)
                   (try rw [show ((1 : Int)).toNat = 1 from rfl] at hx344_1)
                   (try rw [show 1 * 2 = 2 from rfl] at hx344_1)
                   have HR344_1 := Aside0.mk hi344_1
                   have HC344_1 := Aside0.mk hl344_1
                   clear hi344_1 hl344_1
                   replace p344 := eq_true p344
                   replace q344 := eq_true q344
                   have p352 : 0 ≤ (2 : Int) := (by omega)
                   have q352 : 2 < (t336.length : Int) := of_decide_eq_true (by first | (with_reducible assumption) | assumption)
                   obtain ⟨ad352, A352_1, c352_1, e352, hx352_0, hx352_1, hl352_1, hi352_1⟩ := at_T38 (Kd.S_reads' HO_9.out).2.2 2 p352 q352
                   (try rw [← Nbq39.out] at hx352_0)
                   (try rw [← Nbq70.out] at hx352_0)
                   obtain rfl : ad341 = ad352 := (by injection e352)
                   obtain ⟨ce352, hce352, hMe352, hcc352⟩ := Kd.S_get HO_9.out z38 2 p352 (by first | exact q352 | exact of_decide_eq_true (by first | (with_reducible assumption) | assumption) | (have e_ := (Kd.S_reads' HO_9.out).1; omega))
                   obtain ⟨ve352_1, rfl, ge352_1⟩ := k38_openM hMe352
                   have hv352_1 := hcc352 1 _ rfl
                   rw [add_field _ _ 1 (by omega)] at hv352_1
                   replace hv352_1 := Option.some.inj (hv352_1.symm.trans hx352_1)
                   rw [hv352_1] at ge352_1
                   have HL352_1 := Aside0.mk (show Kd.R Kd.string 9 _ _ _ _ ((rd_T38 t336 2).f1) from ge352_1)
                   clear hv352_1 ge352_1
                   clear hcc352 hce352
                   (try simp only [show (2 : Int).toNat = 2 from rfl, Nat.reduceMul, Nat.reduceEqDiff, Go.Addr.add, ↓reduceIte] at hx352_0)
                   (try simp only [show (2 : Int).toNat = 2 from rfl, Nat.reduceMul, Nat.reduceEqDiff, Go.Addr.add, ↓reduceIte] at hx352_1)
                   have qi352 : (2 < t336.length) = True := eq_true (by omega)
                   (try rw [show ((2 : Int)).toNat = 2 from rfl] at hx352_0)
                   (try rw [show 2 * 2 = 4 from rfl] at hx352_0)
                   (try rw [show ((2 : Int)).toNat = 2 from rfl] at hx352_1)
                   (try rw [show 2 * 2 = 4 from rfl] at hx352_1)
                   have HR352_1 := Aside0.mk hi352_1
                   have HC352_1 := Aside0.mk hl352_1
                   clear hi352_1 hl352_1
                   replace p352 := eq_true p352
                   replace q352 := eq_true q352
                   have p353 : 0 ≤ (2 : Int) := (by omega)
                   have q353 : 2 < (t336.length : Int) := of_decide_eq_true (by first | (with_reducible assumption) | assumption)
                   obtain ⟨ad353, A353_1, c353_1, e353, hx353_0, hx353_1, hl353_1, hi353_1⟩ := at_T38 (Kd.S_reads' HO_9.out).2.2 2 p353 q353
                   (try rw [← Nbq39.out] at hx353_0)
                   (try rw [← Nbq70.out] at hx353_0)
                   obtain rfl : ad341 = ad353 := (by injection e353)
                   obtain ⟨ce353, hce353, hMe353, hcc353⟩ := Kd.S_get HO_9.out z38 2 p353 (by first | exact q353 | exact of_decide_eq_true (by first | (with_reducible assumption) | assumption) | (have e_ := (Kd.S_reads' HO_9.out).1; omega))
                   obtain ⟨ve353_1, rfl, ge353_1⟩ := k38_openM hMe353
                   have hv353_1 := hcc353 1 _ rfl
                   rw [add_field _ _ 1 (by omega)] at hv353_1
                   replace hv353_1 := Option.some.inj (hv353_1.symm.trans hx353_1)
                   rw [hv353_1] at ge353_1
                   have HL353_1 := Aside0.mk (show Kd.R Kd.string 9 _ _ _ _ ((rd_T38 t336 2).f1) from ge353_1)
                   clear hv353_1 ge353_1
                   clear hcc353 hce353
                   (try simp only [show (2 : Int).toNat = 2 from rfl, Nat.reduceMul, Nat.reduceEqDiff, Go.Addr.add, ↓reduceIte] at hx353_0)
                   (try simp only [show (2 : Int).toNat = 2 from rfl, Nat.reduceMul, Nat.reduceEqDiff, Go.Addr.add, ↓reduceIte] at hx353_1)
                   have qi353 : (2 < t336.length) = True := eq_true (by omega)
                   (try rw [show ((2 : Int)).toNat = 2 from rfl] at hx353_0)
                   (try rw [show 2 * 2 = 4 from rfl] at hx353_0)
                   (try rw [show ((2 : Int)).toNat = 2 from rfl] at hx353_1)
                   (try rw [show 2 * 2 = 4 from rfl] at hx353_1)
                   have HR353_1 := Aside0.mk hi353_1
                   have HC353_1 := Aside0.mk hl353_1
                   clear hi353_1 hl353_1
                   replace p353 := eq_true p353
                   replace q353 := eq_true q353
                   have ea_ := Option.some.inj (hx352_1.symm.trans hx353_1)
                   injection ea_ with ea_ en_ ec_
                   subst ea_
                   subst ec_
                   clear en_
                   have p354 : 0 ≤ (0 : Int) := (by omega)
                   have q354 : 0 < (((rd_T38 t336 2).f1).length : Int) := of_decide_eq_true (by first | (with_reducible assumption) | assumption)
                   obtain ⟨ad354, e354, hx354_0⟩ := Kd.at_string (by repeat (first | (with_reducible exact HR353_1.out) | (with_reducible refine Kd.C_alloc ?_ _) | (with_reducible refine Kd.C_drewN ?_ _) | (with_reducible refine Kd.C_drew ?_) | exact HR353_1.out)) 0 p354 q354
                   cases e354
                   have qi354 : (0 < ((rd_T38 t336 2).f1).length) = True := eq_true (by omega)
                   (try rw [show ((0 : Int)).toNat = 0 from rfl] at hx354_0)
                   (try rw [Addr.add_zero'] at hx354_0)
                   replace p354 := eq_true p354
                   replace q354 := eq_true q354
                   have hnb73 := NB340_325.out
                   have hnc73 := NB325_340.out
                   obtain ⟨hcz74_0, hcz74_1, hcz74_2, hcz74_3, hcz74_4, hfz74_0, hfz74_1, hfz74_2, hfz74_3, hfz74_4⟩ := cells5_ BK340.out
                   obtain ⟨hcz75_0, hcz75_1, hcz75_2, hcz75_3, hcz75_4, hfz75_0, hfz75_1, hfz75_2, hfz75_3, hfz75_4⟩ := cells5_ BK325.out
                   go_wp2
                   refine bodyPost_ret (results_ct rfl _ _ gb325 52 #[.int .u64 (IntKind.u64.wrap (t327)), .bool x341001_22, .string x341002_22, .int .i64 10, .string (rdOf ByteArray.empty ((rd_T38 t336 2).f1) 0)] (0, 0) _ rfl (by (with_reducible repeat (first | refine blk_drewN ?_ _ | refine blk_drew ?_ | refine blk_alloc ?_ _)); refine blk_put (cs := #[.int .u64 (IntKind.u64.wrap (t327)), .bool x341001_22, .string x341002_22, .int .i64 10, .string (⟨#[]⟩ : ByteArray)]) ?_ 4 _ rfl; (with_reducible repeat (first | refine blk_drewN ?_ _ | refine blk_drew ?_ | refine blk_alloc ?_ _)); refine blk_put (cs := #[.int .u64 (IntKind.u64.wrap (t327)), .bool x341001_22, .string x341002_22, .int .i64 0, .string (⟨#[]⟩ : ByteArray)]) ?_ 3 _ rfl; (with_reducible repeat (first | refine blk_drewN ?_ _ | refine blk_drew ?_ | refine blk_alloc ?_ _)); refine blk_put (cs := #[.int .u64 (IntKind.u64.wrap (t327)), .bool x341001_22, .string (⟨#[]⟩ : ByteArray), .int .i64 0, .string (⟨#[]⟩ : ByteArray)]) ?_ 2 _ rfl; (with_reducible repeat (first | refine blk_drewN ?_ _ | refine blk_drew ?_ | refine blk_alloc ?_ _)); refine blk_put (cs := #[.int .u64 (IntKind.u64.wrap (t327)), .bool false, .string (⟨#[]⟩ : ByteArray), .int .i64 0, .string (⟨#[]⟩ : ByteArray)]) ?_ 1 _ rfl; (with_reducible repeat (first | refine blk_drewN ?_ _ | refine blk_drew ?_ | refine blk_alloc ?_ _)); refine blk_put (cs := #[.int .u64 0, .bool false, .string (⟨#[]⟩ : ByteArray), .int .i64 0, .string (⟨#[]⟩ : ByteArray)]) ?_ 0 _ rfl; (with_reducible repeat (first | refine blk_drewN ?_ _ | refine blk_drew ?_ | refine blk_alloc ?_ _)); refine blk_far ?_ NB325_340.out _; (with_reducible repeat (first | refine blk_drewN ?_ _ | refine blk_drew ?_ | refine blk_alloc ?_ _)); exact BK325.out) Try.underlying52 rfl (by kernel_rfl)) rfl ?_
                   exact ⟨by first | rfl | (simp [errW_none, errW_some] <;> rfl) | (simp [*, errW_none, errW_some] <;> rfl), by repeat (first | (with_reducible first | exact HB.out | apply below_alloc | apply pw_below_drewN | apply below_drew1 | refine below_set ?_ GE325.out | refine below_set ?_ GE340.out) | exact HB.out)⟩
                  ·rw [if_neg c72] at H
                   exact absurd H (by simp)
                 ·replace c71 := Bool.eq_false_iff.mpr c71
                  subst c71
                  rw [if_neg (show ¬ (false = true) by decide)] at H
                  simp only [Option.some.injEq, Prod.mk.injEq] at H
                  obtain ⟨rfl, rfl, rfl, rfl, rfl, rfl⟩ := H
                  have p344 : 0 ≤ (1 : Int) := (by omega)
                  have q344 : 1 < (t336.length : Int) := of_decide_eq_true (by first | (with_reducible assumption) | assumption)
                  obtain ⟨ad344, A344_1, c344_1, e344, hx344_0, hx344_1, hl344_1, hi344_1⟩ := at_T38 (Kd.S_reads' HO_9.out).2.2 1 p344 q344
                  (try rw [← Nbq39.out] at hx344_0)
                  (try rw [← Nbq70.out] at hx344_0)
                  obtain rfl : ad341 = ad344 := (by injection e344)
                  obtain ⟨ce344, hce344, hMe344, hcc344⟩ := Kd.S_get HO_9.out z38 1 p344 (by first | exact q344 | exact of_decide_eq_true (by first | (with_reducible assumption) | assumption) | (have e_ := (Kd.S_reads' HO_9.out).1; omega))
                  obtain ⟨ve344_1, rfl, ge344_1⟩ := k38_openM hMe344
                  have hv344_1 := hcc344 1 _ rfl
                  rw [add_field _ _ 1 (by omega)] at hv344_1
                  replace hv344_1 := Option.some.inj (hv344_1.symm.trans hx344_1)
                  rw [hv344_1] at ge344_1
                  have HL344_1 := Aside0.mk (show Kd.R Kd.string 9 _ _ _ _ ((rd_T38 t336 1).f1) from ge344_1)
                  clear hv344_1 ge344_1
                  clear hcc344 hce344
                  (try simp only [show (1 : Int).toNat = 1 from rfl, Nat.reduceMul, Nat.reduceEqDiff, Go.Addr.add, ↓reduceIte] at hx344_0)
                  (try simp only [show (1 : Int).toNat = 1 from rfl, Nat.reduceMul, Nat.reduceEqDiff, Go.Addr.add, ↓reduceIte] at hx344_1)
                  have qi344 : (1 < t336.length) = True := eq_true (by omega)
                  (try rw [show ((1 : Int)).toNat = 1 from rfl] at hx344_0)
                  (try rw [show 1 * 2 = 2 from rfl] at hx344_0)
                  (try rw [show ((1 : Int)).toNat = 1 from rfl] at hx344_1)
                  (try rw [show 1 * 2 = 2 from rfl] at hx344_1)
                  have HR344_1 := Aside0.mk hi344_1
                  have HC344_1 := Aside0.mk hl344_1
                  clear hi344_1 hl344_1
                  replace p344 := eq_true p344
                  replace q344 := eq_true q344
                  have p352 : 0 ≤ (2 : Int) := (by omega)
                  have q352 : 2 < (t336.length : Int) := of_decide_eq_true (by first | (with_reducible assumption) | assumption)
                  obtain ⟨ad352, A352_1, c352_1, e352, hx352_0, hx352_1, hl352_1, hi352_1⟩ := at_T38 (Kd.S_reads' HO_9.out).2.2 2 p352 q352
                  (try rw [← Nbq39.out] at hx352_0)
                  (try rw [← Nbq70.out] at hx352_0)
                  obtain rfl : ad341 = ad352 := (by injection e352)
                  obtain ⟨ce352, hce352, hMe352, hcc352⟩ := Kd.S_get HO_9.out z38 2 p352 (by first | exact q352 | exact of_decide_eq_true (by first | (with_reducible assumption) | assumption) | (have e_ := (Kd.S_reads' HO_9.out).1; omega))
                  obtain ⟨ve352_1, rfl, ge352_1⟩ := k38_openM hMe352
                  have hv352_1 := hcc352 1 _ rfl
                  rw [add_field _ _ 1 (by omega)] at hv352_1
                  replace hv352_1 := Option.some.inj (hv352_1.symm.trans hx352_1)
                  rw [hv352_1] at ge352_1
                  have HL352_1 := Aside0.mk (show Kd.R Kd.string 9 _ _ _ _ ((rd_T38 t336 2).f1) from ge352_1)
                  clear hv352_1 ge352_1
                  clear hcc352 hce352
                  (try simp only [show (2 : Int).toNat = 2 from rfl, Nat.reduceMul, Nat.reduceEqDiff, Go.Addr.add, ↓reduceIte] at hx352_0)
                  (try simp only [show (2 : Int).toNat = 2 from rfl, Nat.reduceMul, Nat.reduceEqDiff, Go.Addr.add, ↓reduceIte] at hx352_1)
                  have qi352 : (2 < t336.length) = True := eq_true (by omega)
                  (try rw [show ((2 : Int)).toNat = 2 from rfl] at hx352_0)
                  (try rw [show 2 * 2 = 4 from rfl] at hx352_0)
                  (try rw [show ((2 : Int)).toNat = 2 from rfl] at hx352_1)
                  (try rw [show 2 * 2 = 4 from rfl] at hx352_1)
                  have HR352_1 := Aside0.mk hi352_1
                  have HC352_1 := Aside0.mk hl352_1
                  clear hi352_1 hl352_1
                  replace p352 := eq_true p352
                  replace q352 := eq_true q352
                  have hnb76 := NB340_325.out
                  have hnc76 := NB325_340.out
                  obtain ⟨hcz77_0, hcz77_1, hcz77_2, hcz77_3, hcz77_4, hfz77_0, hfz77_1, hfz77_2, hfz77_3, hfz77_4⟩ := cells5_ BK340.out
                  obtain ⟨hcz78_0, hcz78_1, hcz78_2, hcz78_3, hcz78_4, hfz78_0, hfz78_1, hfz78_2, hfz78_3, hfz78_4⟩ := cells5_ BK325.out
                  go_wp2
                  refine bodyPost_ret (results_ct rfl _ _ gb325 52 #[.int .u64 (IntKind.u64.wrap (t327)), .bool x341001_22, .string x341002_22, .int .i64 10, .string (⟨#[]⟩ : ByteArray)] (0, 0) _ rfl (by (with_reducible repeat (first | refine blk_drewN ?_ _ | refine blk_drew ?_ | refine blk_alloc ?_ _)); refine blk_put (cs := #[.int .u64 (IntKind.u64.wrap (t327)), .bool x341001_22, .string x341002_22, .int .i64 10, .string (⟨#[]⟩ : ByteArray)]) ?_ 4 _ rfl; (with_reducible repeat (first | refine blk_drewN ?_ _ | refine blk_drew ?_ | refine blk_alloc ?_ _)); refine blk_put (cs := #[.int .u64 (IntKind.u64.wrap (t327)), .bool x341001_22, .string x341002_22, .int .i64 0, .string (⟨#[]⟩ : ByteArray)]) ?_ 3 _ rfl; (with_reducible repeat (first | refine blk_drewN ?_ _ | refine blk_drew ?_ | refine blk_alloc ?_ _)); refine blk_put (cs := #[.int .u64 (IntKind.u64.wrap (t327)), .bool x341001_22, .string (⟨#[]⟩ : ByteArray), .int .i64 0, .string (⟨#[]⟩ : ByteArray)]) ?_ 2 _ rfl; (with_reducible repeat (first | refine blk_drewN ?_ _ | refine blk_drew ?_ | refine blk_alloc ?_ _)); refine blk_put (cs := #[.int .u64 (IntKind.u64.wrap (t327)), .bool false, .string (⟨#[]⟩ : ByteArray), .int .i64 0, .string (⟨#[]⟩ : ByteArray)]) ?_ 1 _ rfl; (with_reducible repeat (first | refine blk_drewN ?_ _ | refine blk_drew ?_ | refine blk_alloc ?_ _)); refine blk_put (cs := #[.int .u64 0, .bool false, .string (⟨#[]⟩ : ByteArray), .int .i64 0, .string (⟨#[]⟩ : ByteArray)]) ?_ 0 _ rfl; (with_reducible repeat (first | refine blk_drewN ?_ _ | refine blk_drew ?_ | refine blk_alloc ?_ _)); exact BK325.out) Try.underlying52 rfl (by kernel_rfl)) rfl ?_
                  exact ⟨by first | rfl | (simp [errW_none, errW_some] <;> rfl) | (simp [*, errW_none, errW_some] <;> rfl), by repeat (first | (with_reducible first | exact HB.out | apply below_alloc | apply pw_below_drewN | apply below_drew1 | refine below_set ?_ GE325.out | refine below_set ?_ GE340.out) | exact HB.out)⟩
                ·rw [if_neg c69] at H
                 exact absurd H (by simp)
               ·replace c68 := Bool.eq_false_iff.mpr c68
                subst c68
                rw [if_neg (show ¬ (false = true) by decide)] at H
                simp only [Option.some.injEq, Prod.mk.injEq] at H
                obtain ⟨rfl, rfl, rfl, rfl, rfl, rfl⟩ := H
                have p344 : 0 ≤ (1 : Int) := (by omega)
                have q344 : 1 < (t336.length : Int) := of_decide_eq_true (by first | (with_reducible assumption) | assumption)
                obtain ⟨ad344, A344_1, c344_1, e344, hx344_0, hx344_1, hl344_1, hi344_1⟩ := at_T38 (Kd.S_reads' HO_9.out).2.2 1 p344 q344
                (try rw [← Nbq39.out] at hx344_0)
                obtain rfl : ad341 = ad344 := (by injection e344)
                obtain ⟨ce344, hce344, hMe344, hcc344⟩ := Kd.S_get HO_9.out z38 1 p344 (by first | exact q344 | exact of_decide_eq_true (by first | (with_reducible assumption) | assumption) | (have e_ := (Kd.S_reads' HO_9.out).1; omega))
                obtain ⟨ve344_1, rfl, ge344_1⟩ := k38_openM hMe344
                have hv344_1 := hcc344 1 _ rfl
                rw [add_field _ _ 1 (by omega)] at hv344_1
                replace hv344_1 := Option.some.inj (hv344_1.symm.trans hx344_1)
                rw [hv344_1] at ge344_1
                have HL344_1 := Aside0.mk (show Kd.R Kd.string 9 _ _ _ _ ((rd_T38 t336 1).f1) from ge344_1)
                clear hv344_1 ge344_1
                clear hcc344 hce344
                (try simp only [show (1 : Int).toNat = 1 from rfl, Nat.reduceMul, Nat.reduceEqDiff, Go.Addr.add, ↓reduceIte] at hx344_0)
                (try simp only [show (1 : Int).toNat = 1 from rfl, Nat.reduceMul, Nat.reduceEqDiff, Go.Addr.add, ↓reduceIte] at hx344_1)
                have qi344 : (1 < t336.length) = True := eq_true (by omega)
                (try rw [show ((1 : Int)).toNat = 1 from rfl] at hx344_0)
                (try rw [show 1 * 2 = 2 from rfl] at hx344_0)
                (try rw [show ((1 : Int)).toNat = 1 from rfl] at hx344_1)
                (try rw [show 1 * 2 = 2 from rfl] at hx344_1)
                have HR344_1 := Aside0.mk hi344_1
                have HC344_1 := Aside0.mk hl344_1
                clear hi344_1 hl344_1
                replace p344 := eq_true p344
                replace q344 := eq_true q344
                have hnb79 := NB340_325.out
                have hnc79 := NB325_340.out
                obtain ⟨hcz80_0, hcz80_1, hcz80_2, hcz80_3, hcz80_4, hfz80_0, hfz80_1, hfz80_2, hfz80_3, hfz80_4⟩ := cells5_ BK340.out
                obtain ⟨hcz81_0, hcz81_1, hcz81_2, hcz81_3, hcz81_4, hfz81_0, hfz81_1, hfz81_2, hfz81_3, hfz81_4⟩ := cells5_ BK325.out
                go_wp2
                refine bodyPost_ret (results_ct rfl _ _ gb325 52 #[.int .u64 (IntKind.u64.wrap (t327)), .bool x341001_22, .string x341002_22, .int .i64 10, .string (⟨#[]⟩ : ByteArray)] (0, 0) _ rfl (by (with_reducible repeat (first | refine blk_drewN ?_ _ | refine blk_drew ?_ | refine blk_alloc ?_ _)); refine blk_put (cs := #[.int .u64 (IntKind.u64.wrap (t327)), .bool x341001_22, .string x341002_22, .int .i64 10, .string (⟨#[]⟩ : ByteArray)]) ?_ 4 _ rfl; (with_reducible repeat (first | refine blk_drewN ?_ _ | refine blk_drew ?_ | refine blk_alloc ?_ _)); refine blk_put (cs := #[.int .u64 (IntKind.u64.wrap (t327)), .bool x341001_22, .string x341002_22, .int .i64 0, .string (⟨#[]⟩ : ByteArray)]) ?_ 3 _ rfl; (with_reducible repeat (first | refine blk_drewN ?_ _ | refine blk_drew ?_ | refine blk_alloc ?_ _)); refine blk_put (cs := #[.int .u64 (IntKind.u64.wrap (t327)), .bool x341001_22, .string (⟨#[]⟩ : ByteArray), .int .i64 0, .string (⟨#[]⟩ : ByteArray)]) ?_ 2 _ rfl; (with_reducible repeat (first | refine blk_drewN ?_ _ | refine blk_drew ?_ | refine blk_alloc ?_ _)); refine blk_put (cs := #[.int .u64 (IntKind.u64.wrap (t327)), .bool false, .string (⟨#[]⟩ : ByteArray), .int .i64 0, .string (⟨#[]⟩ : ByteArray)]) ?_ 1 _ rfl; (with_reducible repeat (first | refine blk_drewN ?_ _ | refine blk_drew ?_ | refine blk_alloc ?_ _)); refine blk_put (cs := #[.int .u64 0, .bool false, .string (⟨#[]⟩ : ByteArray), .int .i64 0, .string (⟨#[]⟩ : ByteArray)]) ?_ 0 _ rfl; (with_reducible repeat (first | refine blk_drewN ?_ _ | refine blk_drew ?_ | refine blk_alloc ?_ _)); exact BK325.out) Try.underlying52 rfl (by kernel_rfl)) rfl ?_
                exact ⟨by first | rfl | (simp [errW_none, errW_some] <;> rfl) | (simp [*, errW_none, errW_some] <;> rfl), by repeat (first | (with_reducible first | exact HB.out | apply below_alloc | apply pw_below_drewN | apply below_drew1 | refine below_set ?_ GE325.out | refine below_set ?_ GE340.out) | exact HB.out)⟩
             ·rw [if_neg c38] at H
              exact absurd H (by simp)
          ·rw [if_neg c22] at H
           exact absurd H (by simp)
         ·replace c21 := Bool.eq_false_iff.mpr c21
          subst c21
          rw [if_neg (show ¬ (false = true) by decide)] at H
          simp only [Option.some.injEq, Prod.mk.injEq] at H
          obtain ⟨rfl, rfl, rfl, rfl, rfl, rfl⟩ := H
          obtain ⟨i082, hi082, _, hsz82, _⟩ := info_parts info9
          obtain ⟨A82, hcut82, hA82, hC82⟩ := print_drop_of (P := Try.prog) Value.string (⟨#[]⟩ : ByteArray) 22 9 .i64 Try.underlying22 hi082 hsz82 (some ad326) c0 l0 1 (by omega) (of_decide_eq_true (by first | (with_reducible assumption) | assumption)) HC0.out
          have HR335 := Aside0.mk (Kd.C_of_reads (h1 := fun _ => rfl) (hA82 _ (Kd.reads_of_C HR0.out)))
          have HC335 := Aside0.mk hC82
          clear hA82 hC82 hi082 hsz82
          obtain ⟨Ao83, co83, eo83⟩ := Kd.R_slice HO_8.out
          subst eo83
          go_wp2_with (first | ((with_reducible refine gate_callee (f := 9) rfl ?_); refine goesL_ (some 40) rfl rfl Try.func9 (by kernel_rfl) rfl #[.slice A82 (l0.drop 1).length (c0 - 1), .slice Ao83 x8_12.length co83] rfl (by (try simp only [List.map_toArray, List.map_cons, List.map_nil]); first | done | (rw [show (l0.drop 1).length = (l0.length - 1) from List.length_drop] <;> rfl) | rfl | (simp only [List.length_drop, List.length_take]; rfl)) ?_; (with_reducible refine (args_Options.calls kj12 (fun k_ => k_ < w.heap.size) _ _ (l0.drop 1) _ _ x8_12 t336 false _ ?side1 ?side2 ?side3 A20.out).mono ?_); (case side1 => exact Kd.V_mk HC335.out (Kd.F_below (Kd.C_F Kd.heap_string HR335.out) (by repeat (first | (with_reducible first | exact HB.out | apply below_alloc | apply pw_below_drewN | apply below_drew1 | refine below_set ?_ GE325.out) | exact HB.out)))); (case side2 => repeat (first | exact (Kd.R_reads' HO_8.out).2.2 | (with_reducible refine Kd.C_alloc ?_ _) | (with_reducible refine Kd.C_drewN ?_ _) | (with_reducible refine Kd.C_drew ?_))); (case side3 => exact (Kd.R_reads' HO_8.out).2.1); rintro e w84 ⟨v337, rfl, ho0, hb⟩; refine ⟨_, rfl, ?_⟩; have n0_ := Aside0.mk (Kd.R_below (by (with_reducible repeat (first | apply Kd.R_alloc | apply Kd.R_drewN | apply Kd.R_drew)); exact HO_8.out) hb); have n1_ := Aside0.mk (Kd.S_lower (Kd.S_new' (Kd.S_mono (ok' := fun k_ => True) ho0 (fun _ hk_ => trivial)) (Kd.R_lt (by (with_reducible repeat (first | apply Kd.R_alloc | apply Kd.R_drewN | apply Kd.R_drew)); exact HO_8.out))) (below_size (by repeat (first | (with_reducible first | exact HB.out | apply below_alloc | apply pw_below_drewN | apply below_drew1 | refine below_set ?_ GE325.out) | exact HB.out)))); have n2_ := Aside0.mk (blk_below (g := gb325) (o := .cells #[.int .u64 0, .bool false, .string (⟨#[]⟩ : ByteArray), .int .i64 0, .string (⟨#[]⟩ : ByteArray)] 52 (0, 0)) (by (with_reducible repeat (first | refine blk_drewN ?_ _ | refine blk_drew ?_ | refine blk_alloc ?_ _)); exact BK325.out) hb); have n3_ := Aside0.mk (below_step (by repeat (first | (with_reducible first | exact HB.out | apply below_alloc | apply pw_below_drewN | apply below_drew1 | refine below_set ?_ GE325.out) | exact HB.out)) hb); clear HO_8; clear BK325; clear HB; have HO_8 := n0_; have HO338 := n1_; have BK325 := n2_; have HB := n3_; clear n0_ n1_ n2_ n3_; (try clear hb); (try clear hb2); (try clear hk); (try clear hi); (try clear ho0); obtain ⟨hcz85_0, hcz85_1, hcz85_2, hcz85_3, hcz85_4, hfz85_0, hfz85_1, hfz85_2, hfz85_3, hfz85_4⟩ := cells5_ BK325.out))
          refine bodyPost_ret (results_ct rfl _ _ gb325 52 #[.int .u64 0, .bool false, .string (⟨#[]⟩ : ByteArray), .int .i64 0, .string (⟨#[]⟩ : ByteArray)] (0, 0) _ rfl (by (with_reducible repeat (first | refine blk_drewN ?_ _ | refine blk_drew ?_ | refine blk_alloc ?_ _)); refine blk_put (cs := #[.int .u64 0, .bool false, .string (⟨#[]⟩ : ByteArray), .int .i64 0, .string (⟨#[]⟩ : ByteArray)]) ?_ 4 _ rfl; (with_reducible repeat (first | refine blk_drewN ?_ _ | refine blk_drew ?_ | refine blk_alloc ?_ _)); refine blk_put (cs := #[.int .u64 0, .bool false, .string (⟨#[]⟩ : ByteArray), .int .i64 0, .string (⟨#[]⟩ : ByteArray)]) ?_ 3 _ rfl; (with_reducible repeat (first | refine blk_drewN ?_ _ | refine blk_drew ?_ | refine blk_alloc ?_ _)); refine blk_put (cs := #[.int .u64 0, .bool false, .string (⟨#[]⟩ : ByteArray), .int .i64 0, .string (⟨#[]⟩ : ByteArray)]) ?_ 2 _ rfl; (with_reducible repeat (first | refine blk_drewN ?_ _ | refine blk_drew ?_ | refine blk_alloc ?_ _)); refine blk_put (cs := #[.int .u64 0, .bool false, .string (⟨#[]⟩ : ByteArray), .int .i64 0, .string (⟨#[]⟩ : ByteArray)]) ?_ 1 _ rfl; (with_reducible repeat (first | refine blk_drewN ?_ _ | refine blk_drew ?_ | refine blk_alloc ?_ _)); refine blk_put (cs := #[.int .u64 0, .bool false, .string (⟨#[]⟩ : ByteArray), .int .i64 0, .string (⟨#[]⟩ : ByteArray)]) ?_ 0 _ rfl; (with_reducible repeat (first | refine blk_drewN ?_ _ | refine blk_drew ?_ | refine blk_alloc ?_ _)); exact BK325.out) Try.underlying52 rfl (by kernel_rfl)) rfl ?_
          exact ⟨by first | rfl | (simp [errW_none, errW_some] <;> rfl) | (simp [*, errW_none, errW_some] <;> rfl), by repeat (first | (with_reducible first | exact HB.out | apply below_alloc | apply pw_below_drewN | apply below_drew1 | refine below_set ?_ GE325.out) | exact HB.out)⟩
        ·rw [if_neg c19] at H
         exact absurd H (by simp)
  ·rw [if_neg c6] at H
   exact absurd H (by simp)

end Go.Proofs.Ytcooijbmmkkdoaa.X
