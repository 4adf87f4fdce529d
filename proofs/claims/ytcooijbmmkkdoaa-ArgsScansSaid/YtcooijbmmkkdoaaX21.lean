-- Written by wip/tool/xprint.py of this work (a front end of its own to the kit's printer): the functions of the seat Ytcooijbmmkkdoaa as plain Lean functions, and what the Go code's calls come to. Lean checks it.
import Derived.Test.YtcooijbmmkkdoaaX0
import Derived.Test.YtcooijbmmkkdoaaX10
import Derived.Test.YtcooijbmmkkdoaaX15
namespace Go.Proofs.Ytcooijbmmkkdoaa.X
open Go.RowKit Go.Proofs.YtcooijbmmkkdoaaW.PrintWords Go.Proofs.YtcooijbmmkkdoaaW.PrintLast Go.Proofs.YtcooijbmmkkdoaaW.PrintMore
attribute [local go_sem] max2_int min2_int max_two min_two max_three min_three max_four min_four   -- for this text's walks alone
set_option linter.unusedVariables false
set_option linter.unusedSimpArgs false

/-! ### mewsref29_Scanning: function 19 -/
mutual
def mewsref29_Scanning.j0 : Nat → List ByteArray → Bool → Int → Bool → Option (Int × Bool × ByteArray × Int × ByteArray × ByteArray)
 | 0, _, _, _, _ => none
 | k + 1, x0, x1, x6, x31 => if x31 = true then (some (0, false, (⟨#[]⟩ : ByteArray), 0, (⟨#[]⟩ : ByteArray), (⟨#[69, 82, 82, 32, 105, 110, 118, 97, 108, 105, 100, 32, 99, 117, 114, 115, 111, 114]⟩ : ByteArray))) else (if x1 = true then (mewsref29_Scanning.j1 k x0 x1 x6 (([(⟨#[77, 65, 84, 67, 72]⟩ : ByteArray), (⟨#[67, 79, 85, 78, 84]⟩ : ByteArray), (⟨#[84, 89, 80, 69]⟩ : ByteArray)] : List ByteArray)) (([1, 1, 1] : List Int))) else (mewsref29_Scanning.j1 k x0 x1 x6 (([(⟨#[77, 65, 84, 67, 72]⟩ : ByteArray), (⟨#[67, 79, 85, 78, 84]⟩ : ByteArray)] : List ByteArray)) (([1, 1] : List Int))))
def mewsref29_Scanning.j1 : Nat → List ByteArray → Bool → Int → List ByteArray → List Int → Option (Int × Bool × ByteArray × Int × ByteArray × ByteArray)
 | 0, _, _, _, _, _ => none
 | k + 1, x0, x1, x6, x8, x9 => if 1 ≤ (x0.length : Int) then ((mewsref29_Options.f k (x0.drop 1) x8 x9).bind fun bt372 => (if bt372.2 = true then (if 0 < (bt372.1.length : Int) then (if (rd_T38 bt372.1 0).f0 = true then (if 0 < (((rd_T38 bt372.1 0).f1).length : Int) then (mewsref29_Scanning.j2 k x1 bt372.1 (IntKind.u64.wrap (x6)) ((rd_T38 bt372.1 0).f0) (rdOf ByteArray.empty ((rd_T38 bt372.1 0).f1) 0) 10 (⟨#[]⟩ : ByteArray)) else (none)) else (mewsref29_Scanning.j2 k x1 bt372.1 (IntKind.u64.wrap (x6)) ((rd_T38 bt372.1 0).f0) (⟨#[]⟩ : ByteArray) 10 (⟨#[]⟩ : ByteArray))) else (none)) else (some (0, false, (⟨#[]⟩ : ByteArray), 0, (⟨#[]⟩ : ByteArray), (⟨#[69, 82, 82, 32, 115, 121, 110, 116, 97, 120, 32, 101, 114, 114, 111, 114]⟩ : ByteArray))))) else (none)
def mewsref29_Scanning.j2 : Nat → Bool → List (S38) → Int → Bool → ByteArray → Int → ByteArray → Option (Int × Bool × ByteArray × Int × ByteArray × ByteArray)
 | 0, _, _, _, _, _, _, _ => none
 | k + 1, x1, x10, x378000, x378001, x378002, x378003, x378004 => if 1 < (x10.length : Int) then (if (rd_T38 x10 1).f0 = true then (if 0 < (((rd_T38 x10 1).f1).length : Int) then ((mewsref01_Parse.f k (rdOf ByteArray.empty ((rd_T38 x10 1).f1) 0)).bind fun bt384 => (if bt384.2 = true then (if bt384.1 < 1 then (some (0, false, (⟨#[]⟩ : ByteArray), 0, (⟨#[]⟩ : ByteArray), (⟨#[69, 82, 82, 32, 115, 121, 110, 116, 97, 120, 32, 101, 114, 114, 111, 114]⟩ : ByteArray))) else (if bt384.1 > 1000 then (if x1 = true then (if 2 < (x10.length : Int) then (if (rd_T38 x10 2).f0 = true then (if 0 < (((rd_T38 x10 2).f1).length : Int) then (some (x378000, x378001, x378002, 1000, rdOf ByteArray.empty ((rd_T38 x10 2).f1) 0, (⟨#[]⟩ : ByteArray))) else (none)) else (some (x378000, x378001, x378002, 1000, x378004, (⟨#[]⟩ : ByteArray)))) else (none)) else (some (x378000, x378001, x378002, 1000, x378004, (⟨#[]⟩ : ByteArray)))) else (if x1 = true then (if 2 < (x10.length : Int) then (if (rd_T38 x10 2).f0 = true then (if 0 < (((rd_T38 x10 2).f1).length : Int) then (some (x378000, x378001, x378002, bt384.1, rdOf ByteArray.empty ((rd_T38 x10 2).f1) 0, (⟨#[]⟩ : ByteArray))) else (none)) else (some (x378000, x378001, x378002, bt384.1, x378004, (⟨#[]⟩ : ByteArray)))) else (none)) else (some (x378000, x378001, x378002, bt384.1, x378004, (⟨#[]⟩ : ByteArray)))))) else (some (0, false, (⟨#[]⟩ : ByteArray), 0, (⟨#[]⟩ : ByteArray), (⟨#[69, 82, 82, 32, 118, 97, 108, 117, 101, 32, 105, 115, 32, 110, 111, 116, 32, 97, 110, 32, 105, 110, 116, 101, 103, 101, 114, 32, 111, 114, 32, 111, 117, 116, 32, 111, 102, 32, 114, 97, 110, 103, 101]⟩ : ByteArray))))) else (none)) else (if x1 = true then (if 2 < (x10.length : Int) then (if (rd_T38 x10 2).f0 = true then (if 0 < (((rd_T38 x10 2).f1).length : Int) then (some (x378000, x378001, x378002, x378003, rdOf ByteArray.empty ((rd_T38 x10 2).f1) 0, (⟨#[]⟩ : ByteArray))) else (none)) else (some (x378000, x378001, x378002, x378003, x378004, (⟨#[]⟩ : ByteArray)))) else (none)) else (some (x378000, x378001, x378002, x378003, x378004, (⟨#[]⟩ : ByteArray))))) else (none)
end
def mewsref29_Scanning.f (k : Nat) (l0 : List ByteArray) (a1 : Bool) : Option (Int × Bool × ByteArray × Int × ByteArray × ByteArray) := if (l0.length : Int) = 0 then (some (0, false, (⟨#[]⟩ : ByteArray), 0, (⟨#[]⟩ : ByteArray), (⟨#[69, 82, 82, 32, 105, 110, 118, 97, 108, 105, 100, 32, 99, 117, 114, 115, 111, 114]⟩ : ByteArray))) else (if 0 < (l0.length : Int) then ((mewsref01_Parse.f k (rdOf ByteArray.empty l0 0)).bind fun bt357 => (if bt357.2 = true then (mewsref29_Scanning.j0 k l0 a1 bt357.1 (decide (bt357.1 < 0))) else (mewsref29_Scanning.j0 k l0 a1 bt357.1 true))) else (none))
theorem mewsref29_Scanning.mono_l : ∀ k, (∀ y0 y1 y2 y3, LeO (mewsref29_Scanning.j0 k y0 y1 y2 y3) (mewsref29_Scanning.j0 (k + 1) y0 y1 y2 y3)) ∧ (∀ y0 y1 y2 y3 y4, LeO (mewsref29_Scanning.j1 k y0 y1 y2 y3 y4) (mewsref29_Scanning.j1 (k + 1) y0 y1 y2 y3 y4)) ∧ (∀ y0 y1 y2 y3 y4 y5 y6, LeO (mewsref29_Scanning.j2 k y0 y1 y2 y3 y4 y5 y6) (mewsref29_Scanning.j2 (k + 1) y0 y1 y2 y3 y4 y5 y6))
 | 0 => ⟨fun _ _ _ _ r h => by simp [mewsref29_Scanning.j0] at h, fun _ _ _ _ _ r h => by simp [mewsref29_Scanning.j1] at h, fun _ _ _ _ _ _ _ r h => by simp [mewsref29_Scanning.j2] at h⟩
 | k + 1 => by
  obtain ⟨ih0, ih1, ih2⟩ := mewsref29_Scanning.mono_l k
  refine ⟨?_, ?_, ?_⟩
  ·intro y0 y1 y2 y3
   unfold mewsref29_Scanning.j0
   repeat' first
   | (with_reducible exact ih0 _ _ _ _)
   | (with_reducible exact ih1 _ _ _ _ _)
   | (with_reducible exact ih2 _ _ _ _ _ _ _)
   | (with_reducible exact mewsref01_Parse.mono _ _)
   | (with_reducible exact mewsref29_Options.mono _ _ _ _)
   | (with_reducible exact LeO.refl _)
   | (with_reducible exact LeO.none _)
   | (with_reducible refine LeO.ite ?_ ?_)
   | (with_reducible refine LeO.bind ?_ (fun _ => ?_))
   | exact ih0 _ _ _ _
   | exact ih1 _ _ _ _ _
   | exact ih2 _ _ _ _ _ _ _
   | exact mewsref01_Parse.mono _ _
   | exact mewsref29_Options.mono _ _ _ _
   | exact LeO.none _
   | refine LeO.ite ?_ ?_
   | refine LeO.bind ?_ (fun _ => ?_)
  ·intro y0 y1 y2 y3 y4
   unfold mewsref29_Scanning.j1
   repeat' first
   | (with_reducible exact ih0 _ _ _ _)
   | (with_reducible exact ih1 _ _ _ _ _)
   | (with_reducible exact ih2 _ _ _ _ _ _ _)
   | (with_reducible exact mewsref01_Parse.mono _ _)
   | (with_reducible exact mewsref29_Options.mono _ _ _ _)
   | (with_reducible exact LeO.refl _)
   | (with_reducible exact LeO.none _)
   | (with_reducible refine LeO.ite ?_ ?_)
   | (with_reducible refine LeO.bind ?_ (fun _ => ?_))
   | exact ih0 _ _ _ _
   | exact ih1 _ _ _ _ _
   | exact ih2 _ _ _ _ _ _ _
   | exact mewsref01_Parse.mono _ _
   | exact mewsref29_Options.mono _ _ _ _
   | exact LeO.none _
   | refine LeO.ite ?_ ?_
   | refine LeO.bind ?_ (fun _ => ?_)
  ·intro y0 y1 y2 y3 y4 y5 y6
   unfold mewsref29_Scanning.j2
   repeat' first
   | (with_reducible exact ih0 _ _ _ _)
   | (with_reducible exact ih1 _ _ _ _ _)
   | (with_reducible exact ih2 _ _ _ _ _ _ _)
   | (with_reducible exact mewsref01_Parse.mono _ _)
   | (with_reducible exact mewsref29_Options.mono _ _ _ _)
   | (with_reducible exact LeO.refl _)
   | (with_reducible exact LeO.none _)
   | (with_reducible refine LeO.ite ?_ ?_)
   | (with_reducible refine LeO.bind ?_ (fun _ => ?_))
   | exact ih0 _ _ _ _
   | exact ih1 _ _ _ _ _
   | exact ih2 _ _ _ _ _ _ _
   | exact mewsref01_Parse.mono _ _
   | exact mewsref29_Options.mono _ _ _ _
   | exact LeO.none _
   | refine LeO.ite ?_ ?_
   | refine LeO.bind ?_ (fun _ => ?_)
theorem mewsref29_Scanning.mono : ∀ a0 a1 k, LeO (mewsref29_Scanning.f k a0 a1) (mewsref29_Scanning.f (k + 1) a0 a1) := by
 intro a0 a1 k
 obtain ⟨ih0, ih1, ih2⟩ := mewsref29_Scanning.mono_l k
 unfold mewsref29_Scanning.f
 repeat' first
   | (with_reducible exact ih0 _ _ _ _)
   | (with_reducible exact ih1 _ _ _ _ _)
   | (with_reducible exact ih2 _ _ _ _ _ _ _)
   | (with_reducible exact mewsref01_Parse.mono _ _)
   | (with_reducible exact mewsref29_Options.mono _ _ _ _)
   | (with_reducible exact LeO.refl _)
   | (with_reducible exact LeO.none _)
   | (with_reducible refine LeO.ite ?_ ?_)
   | (with_reducible refine LeO.bind ?_ (fun _ => ?_))
   | exact ih0 _ _ _ _
   | exact ih1 _ _ _ _ _
   | exact ih2 _ _ _ _ _ _ _
   | exact mewsref01_Parse.mono _ _
   | exact mewsref29_Options.mono _ _ _ _
   | exact LeO.none _
   | refine LeO.ite ?_ ?_
   | refine LeO.bind ?_ (fun _ => ?_)
set_option maxHeartbeats 8000000 in
set_option maxRecDepth 100000 in
theorem mewsref29_Scanning.calls (k : Nat) (A0 : Option Addr) (c0 : Nat) (l0 : List ByteArray) (a1 : Bool) (r1 : Int) (r2 : Bool) (r3 : ByteArray) (r4 : Int) (r5 : ByteArray) (r6 : ByteArray) (w : World) (hr0 : Kd.C Kd.string w A0 l0.length l0) (hc0 : l0.length ≤ c0) (h : mewsref29_Scanning.f k l0 a1 = some (r1, r2, r3, r4, r5, r6)) :
  Calls Try.prog 19 #[.slice A0 l0.length c0, .bool a1] w fun e w' => e = .returned (.tuple #[.agg #[.int .u64 r1, .bool r2, .string r3, .int .i64 r4, .string r5], .string r6]) ∧ Below w.heap.size w w' := by
 have hu52 := Try.underlying52
 have HR0 := Aside0.mk hr0
 have HC0 := Aside0.mk hc0
 clear hr0 hc0
 have HB := Aside0.mk (Below.refl w.heap.size w)
 have H : (if (l0.length : Int) = 0 then (some (0, false, (⟨#[]⟩ : ByteArray), 0, (⟨#[]⟩ : ByteArray), (⟨#[69, 82, 82, 32, 105, 110, 118, 97, 108, 105, 100, 32, 99, 117, 114, 115, 111, 114]⟩ : ByteArray))) else (if 0 < (l0.length : Int) then ((mewsref01_Parse.f k (rdOf ByteArray.empty l0 0)).bind fun bt357 => (if bt357.2 = true then (mewsref29_Scanning.j0 k l0 a1 bt357.1 (decide (bt357.1 < 0))) else (mewsref29_Scanning.j0 k l0 a1 bt357.1 true))) else (none))) = some (r1, r2, r3, r4, r5, r6) := h
 clear h
 by_cases c3 : (l0.length : Int) = 0
 ·rw [if_pos c3] at H
  have c3b0 : ((l0.length : Int) == 0) = true := beq_iff_eq.mpr c3
  have c3b1 : ((l0.length : Int) != 0) = false := bne_eq_false_iff_eq.mpr c3
  clear c3
  simp only [Option.some.injEq, Prod.mk.injEq] at H
  obtain ⟨rfl, rfl, rfl, rfl, rfl, rfl⟩ := H
  go_enter Try.func19, Try.ntmps19
  go_wp2_with (first | ((with_reducible refine gate_dst (N := 4) rfl ?_); refine box_event ?hg (N := 4) ?hd (cs := #[.int .u64 0, .bool false, .string (⟨#[]⟩ : ByteArray), .int .i64 0, .string (⟨#[]⟩ : ByteArray)]) (t := 52) ?hr ?_; (case hd => rfl); (case hg => rfl); (case hr => first | (go_simp; done) | (go_simp; rfl)); intro gb355 hg w4 hbox hb; have n0_ := Aside0.mk (below_step (by repeat (first | (with_reducible first | exact HB.out | apply below_alloc | apply pw_below_drewN | apply below_drew1) | exact HB.out)) hb); have n1_ := Aside0.mk (hbox); have n2_ := Aside0.mk ((by rw [hg]; exact (below_size (by repeat (first | (with_reducible first | exact HB.out | apply below_alloc | apply pw_below_drewN | apply below_drew1) | exact HB.out))) : w.heap.size ≤ gb355)); have n3_ := Aside0.mk ((by rw [hg]; exact (below_size (by repeat (first | (with_reducible first | exact HB.out | apply below_alloc | apply pw_below_drewN | apply below_drew1) | exact HB.out))) : w.heap.size ≤ gb355)); clear HB; have HB := n0_; have BK355 := n1_; have GW355 := n2_; have GE355 := n3_; clear n0_ n1_ n2_ n3_; clear hb hbox hg; obtain ⟨hcz5_0, hcz5_1, hcz5_2, hcz5_3, hcz5_4, hfz5_0, hfz5_1, hfz5_2, hfz5_3, hfz5_4⟩ := cells5_ BK355.out))
  refine bodyPost_ret (results_ct rfl _ _ gb355 52 #[.int .u64 0, .bool false, .string (⟨#[]⟩ : ByteArray), .int .i64 0, .string (⟨#[]⟩ : ByteArray)] (0, 0) _ rfl (by (with_reducible repeat (first | refine blk_drewN ?_ _ | refine blk_drew ?_ | refine blk_alloc ?_ _)); refine blk_put (cs := #[.int .u64 0, .bool false, .string (⟨#[]⟩ : ByteArray), .int .i64 0, .string (⟨#[]⟩ : ByteArray)]) ?_ 4 _ rfl; (with_reducible repeat (first | refine blk_drewN ?_ _ | refine blk_drew ?_ | refine blk_alloc ?_ _)); refine blk_put (cs := #[.int .u64 0, .bool false, .string (⟨#[]⟩ : ByteArray), .int .i64 0, .string (⟨#[]⟩ : ByteArray)]) ?_ 3 _ rfl; (with_reducible repeat (first | refine blk_drewN ?_ _ | refine blk_drew ?_ | refine blk_alloc ?_ _)); refine blk_put (cs := #[.int .u64 0, .bool false, .string (⟨#[]⟩ : ByteArray), .int .i64 0, .string (⟨#[]⟩ : ByteArray)]) ?_ 2 _ rfl; (with_reducible repeat (first | refine blk_drewN ?_ _ | refine blk_drew ?_ | refine blk_alloc ?_ _)); refine blk_put (cs := #[.int .u64 0, .bool false, .string (⟨#[]⟩ : ByteArray), .int .i64 0, .string (⟨#[]⟩ : ByteArray)]) ?_ 1 _ rfl; (with_reducible repeat (first | refine blk_drewN ?_ _ | refine blk_drew ?_ | refine blk_alloc ?_ _)); refine blk_put (cs := #[.int .u64 0, .bool false, .string (⟨#[]⟩ : ByteArray), .int .i64 0, .string (⟨#[]⟩ : ByteArray)]) ?_ 0 _ rfl; (with_reducible repeat (first | refine blk_drewN ?_ _ | refine blk_drew ?_ | refine blk_alloc ?_ _)); exact BK355.out) Try.underlying52 rfl (by kernel_rfl)) rfl ?_
  exact ⟨by first | rfl | (simp [errW_none, errW_some] <;> rfl) | (simp [*, errW_none, errW_some] <;> rfl), by repeat (first | (with_reducible first | exact HB.out | apply below_alloc | apply pw_below_drewN | apply below_drew1 | refine below_set ?_ GE355.out) | exact HB.out)⟩
 ·rw [if_neg c3] at H
  have c3b0 : ((l0.length : Int) == 0) = false := beq_eq_false_iff_ne.mpr c3
  have c3b1 : ((l0.length : Int) != 0) = true := bne_iff_ne.mpr c3
  have c3b2 : ¬ (l0 = []) := fun h_ => c3 (by rw [h_]; rfl)
  by_cases c6 : 0 < (l0.length : Int)
  ·rw [if_pos c6] at H
   have c6b0 : decide (0 < (l0.length : Int)) = true := decide_eq_true c6
   have c6b1 : decide (0 < l0.length) = true := decide_eq_true (by omega)
   clear c6
   replace H := Option.bind_eq_some_iff.mp H
   obtain ⟨⟨t357, t358⟩, A70, H⟩ := H
   replace H : (if t358 = true then (mewsref29_Scanning.j0 k l0 a1 t357 (decide (t357 < 0))) else (mewsref29_Scanning.j0 k l0 a1 t357 true)) = some (r1, r2, r3, r4, r5, r6) := H
   have A7 := Aside0.mk A70
   clear A70
   have HC8 := Aside0.mk H
   clear H
   go_enter Try.func19, Try.ntmps19
   go_upto_region 4 with (first | ((with_reducible refine gate_dst (N := 4) rfl ?_); refine box_event ?hg (N := 4) ?hd (cs := #[.int .u64 0, .bool false, .string (⟨#[]⟩ : ByteArray), .int .i64 0, .string (⟨#[]⟩ : ByteArray)]) (t := 52) ?hr ?_; (case hd => rfl); (case hg => rfl); (case hr => first | (go_simp; done) | (go_simp; rfl)); intro gb355 hg w9 hbox hb; have n0_ := Aside0.mk (below_step (by repeat (first | (with_reducible first | exact HB.out | apply below_alloc | apply pw_below_drewN | apply below_drew1) | exact HB.out)) hb); have n1_ := Aside0.mk (hbox); have n2_ := Aside0.mk ((by rw [hg]; exact (below_size (by repeat (first | (with_reducible first | exact HB.out | apply below_alloc | apply pw_below_drewN | apply below_drew1) | exact HB.out))) : w.heap.size ≤ gb355)); have n3_ := Aside0.mk ((by rw [hg]; exact (below_size (by repeat (first | (with_reducible first | exact HB.out | apply below_alloc | apply pw_below_drewN | apply below_drew1) | exact HB.out))) : w.heap.size ≤ gb355)); clear HB; have HB := n0_; have BK355 := n1_; have GW355 := n2_; have GE355 := n3_; clear n0_ n1_ n2_ n3_; clear hb hbox hg; have p356 : 0 ≤ (0 : Int) := (by omega); have q356 : 0 < (l0.length : Int) := of_decide_eq_true (by first | (with_reducible assumption) | assumption); obtain ⟨ad356, e356, hx356_0⟩ := Kd.at_string HR0.out 0 p356 q356; cases e356; have qi356 : (0 < l0.length) = True := eq_true (by omega); (try rw [show ((0 : Int)).toNat = 0 from rfl] at hx356_0); (try rw [Addr.add_zero'] at hx356_0); replace hx356_0 := (HB.out.cell (World.block_lt_of_cell? w _ hx356_0)).trans hx356_0; replace p356 := eq_true p356; replace q356 := eq_true q356) | ((with_reducible refine gate_callee (f := 29) rfl ?_); refine goesL_ (some 23) rfl rfl Try.func29 (by kernel_rfl) rfl #[.string (rdOf ByteArray.empty l0 0)] rfl (by (try simp only [List.map_toArray, List.map_cons, List.map_nil]); first | done | rfl | (simp only [List.length_drop, List.length_take]; rfl)) ?_; (with_reducible refine (mewsref01_Parse.calls k (rdOf ByteArray.empty l0 0) t357 t358 _ A7.out).mono ?_); rintro e w10 ⟨rfl, hb⟩; refine ⟨_, rfl, ?_⟩; have n0_ := Aside0.mk (blk_below (g := gb355) (o := .cells #[.int .u64 0, .bool false, .string (⟨#[]⟩ : ByteArray), .int .i64 0, .string (⟨#[]⟩ : ByteArray)] 52 (0, 0)) (by (with_reducible repeat (first | refine blk_drewN ?_ _ | refine blk_drew ?_ | refine blk_alloc ?_ _)); exact BK355.out) hb); have n1_ := Aside0.mk (below_step (by repeat (first | (with_reducible first | exact HB.out | apply below_alloc | apply pw_below_drewN | apply below_drew1 | refine below_set ?_ GE355.out) | exact HB.out)) hb); clear BK355; clear HB; have BK355 := n0_; have HB := n1_; clear n0_ n1_; (try clear hb); (try clear hb2); (try clear hk); (try clear hi)))
   (try simp only [Act.put, List.setIfInBounds_toArray, List.set_cons_zero, List.set_cons_succ])
   go_cut [31] (fun v31 wc => ∃ (kq : Nat) (x31_7 : Bool), v31 = .bool x31_7 ∧ Aside0 (mewsref29_Scanning.j0 kq l0 a1 t357 x31_7 = some (r1, r2, r3, r4, r5, r6)) ∧ Aside0 (kq ≤ k) ∧ Aside0 (wc.heap[gb355]? = some (.cells #[.int .u64 0, .bool false, .string (⟨#[]⟩ : ByteArray), .int .i64 0, .string (⟨#[]⟩ : ByteArray)] 52 (0, 0))) ∧ Aside0 (Below w.heap.size w wc))
   case first =>
    have H := HC8.out
    clear HC8
    by_cases c11 : t358 = true
    ·subst c11
     rw [if_pos rfl] at H
     have H' := Aside0.mk H
     clear H
     go_wp2
     go_meet
     case rel => exact ⟨_, (decide (t357 < 0)), (by first | rfl | (simp; done) | (simp [*]; done)), H', ⟨by first | omega | exact Nat.le_refl _⟩, ⟨by (with_reducible repeat (first | refine blk_drewN ?_ _ | refine blk_drew ?_ | refine blk_alloc ?_ _)); exact BK355.out⟩, ⟨by repeat (first | (with_reducible first | exact HB.out | apply below_alloc | apply pw_below_drewN | apply below_drew1 | refine below_set ?_ GE355.out) | exact HB.out)⟩⟩
    ·replace c11 := Bool.eq_false_iff.mpr c11
     subst c11
     rw [if_neg (show ¬ (false = true) by decide)] at H
     have H' := Aside0.mk H
     clear H
     go_wp2
     go_meet
     case rel => exact ⟨_, (true), (by first | rfl | (simp; done) | (simp [*]; done)), H', ⟨by first | omega | exact Nat.le_refl _⟩, ⟨by (with_reducible repeat (first | refine blk_drewN ?_ _ | refine blk_drew ?_ | refine blk_alloc ?_ _)); exact BK355.out⟩, ⟨by repeat (first | (with_reducible first | exact HB.out | apply below_alloc | apply pw_below_drewN | apply below_drew1 | refine below_set ?_ GE355.out) | exact HB.out)⟩⟩
   case rest =>
    clear HC8
    try clear c1
    try clear c2
    try clear p2
    try clear c3
    try clear c3b0
    try clear c3b1
    try clear c3b2
    try clear p3
    try clear q3
    try clear hx3
    try clear qi3
    try clear c6
    try clear c6b0
    try clear c6b1
    try clear c11
    try clear hcz5_0
    try clear hcz5_1
    try clear hcz5_2
    try clear hcz5_3
    try clear hcz5_4
    try clear hfz5_0
    try clear hfz5_1
    try clear hfz5_2
    try clear hfz5_3
    try clear hfz5_4
    try clear hx356_0
    try clear p356
    try clear q356
    obtain ⟨kq, x31_7, rfl, HA, HJ7, BK355, HB⟩ := hcut
    cases kq with
    | zero => exact absurd HA.out (by simp [mewsref29_Scanning.j0])
    | succ kj7 =>
     have H := HA.out
     clear HA
     simp only [mewsref29_Scanning.j0] at H
     by_cases c12 : x31_7 = true
     ·subst c12
      rw [if_pos rfl] at H
      simp only [Option.some.injEq, Prod.mk.injEq] at H
      obtain ⟨rfl, rfl, rfl, rfl, rfl, rfl⟩ := H
      obtain ⟨hcz13_0, hcz13_1, hcz13_2, hcz13_3, hcz13_4, hfz13_0, hfz13_1, hfz13_2, hfz13_3, hfz13_4⟩ := cells5_ BK355.out
      go_wp2
      refine bodyPost_ret (results_ct rfl _ _ gb355 52 #[.int .u64 0, .bool false, .string (⟨#[]⟩ : ByteArray), .int .i64 0, .string (⟨#[]⟩ : ByteArray)] (0, 0) _ rfl (by (with_reducible repeat (first | refine blk_drewN ?_ _ | refine blk_drew ?_ | refine blk_alloc ?_ _)); refine blk_put (cs := #[.int .u64 0, .bool false, .string (⟨#[]⟩ : ByteArray), .int .i64 0, .string (⟨#[]⟩ : ByteArray)]) ?_ 4 _ rfl; (with_reducible repeat (first | refine blk_drewN ?_ _ | refine blk_drew ?_ | refine blk_alloc ?_ _)); refine blk_put (cs := #[.int .u64 0, .bool false, .string (⟨#[]⟩ : ByteArray), .int .i64 0, .string (⟨#[]⟩ : ByteArray)]) ?_ 3 _ rfl; (with_reducible repeat (first | refine blk_drewN ?_ _ | refine blk_drew ?_ | refine blk_alloc ?_ _)); refine blk_put (cs := #[.int .u64 0, .bool false, .string (⟨#[]⟩ : ByteArray), .int .i64 0, .string (⟨#[]⟩ : ByteArray)]) ?_ 2 _ rfl; (with_reducible repeat (first | refine blk_drewN ?_ _ | refine blk_drew ?_ | refine blk_alloc ?_ _)); refine blk_put (cs := #[.int .u64 0, .bool false, .string (⟨#[]⟩ : ByteArray), .int .i64 0, .string (⟨#[]⟩ : ByteArray)]) ?_ 1 _ rfl; (with_reducible repeat (first | refine blk_drewN ?_ _ | refine blk_drew ?_ | refine blk_alloc ?_ _)); refine blk_put (cs := #[.int .u64 0, .bool false, .string (⟨#[]⟩ : ByteArray), .int .i64 0, .string (⟨#[]⟩ : ByteArray)]) ?_ 0 _ rfl; (with_reducible repeat (first | refine blk_drewN ?_ _ | refine blk_drew ?_ | refine blk_alloc ?_ _)); exact BK355.out) Try.underlying52 rfl (by kernel_rfl)) rfl ?_
      exact ⟨by first | rfl | (simp [errW_none, errW_some] <;> rfl) | (simp [*, errW_none, errW_some] <;> rfl), by repeat (first | (with_reducible first | exact HB.out | apply below_alloc | apply pw_below_drewN | apply below_drew1 | refine below_set ?_ GE355.out) | exact HB.out)⟩
     ·replace c12 := Bool.eq_false_iff.mpr c12
      subst c12
      rw [if_neg (show ¬ (false = true) by decide)] at H
      obtain ⟨y359, hy359⟩ : ∃ y_ : List ByteArray, y_ = (([(⟨#[77, 65, 84, 67, 72]⟩ : ByteArray), (⟨#[67, 79, 85, 78, 84]⟩ : ByteArray)] : List ByteArray)) := ⟨_, rfl⟩
      replace H : (if a1 = true then (mewsref29_Scanning.j1 kj7 l0 a1 t357 (([(⟨#[77, 65, 84, 67, 72]⟩ : ByteArray), (⟨#[67, 79, 85, 78, 84]⟩ : ByteArray), (⟨#[84, 89, 80, 69]⟩ : ByteArray)] : List ByteArray)) (([1, 1, 1] : List Int))) else (mewsref29_Scanning.j1 kj7 l0 a1 t357 y359 (([1, 1] : List Int)))) = some (r1, r2, r3, r4, r5, r6) := by first | (rw [hy359]; with_reducible exact H) | (have H2_ := (Option.bind_some _ _).symm.trans H; rw [hy359]; with_reducible exact H2_) | (have H2_ := (Option.bind_some _ _).symm.trans H; with_reducible exact H2_) | with_reducible exact H | (rw [hy359]; exact H) | exact H
      have Ny359 := Aside0.mk hy359
      clear hy359
      obtain ⟨y362, hy362⟩ : ∃ y_ : List Int, y_ = (([1, 1] : List Int)) := ⟨_, rfl⟩
      replace H : (if a1 = true then (mewsref29_Scanning.j1 kj7 l0 a1 t357 (([(⟨#[77, 65, 84, 67, 72]⟩ : ByteArray), (⟨#[67, 79, 85, 78, 84]⟩ : ByteArray), (⟨#[84, 89, 80, 69]⟩ : ByteArray)] : List ByteArray)) (([1, 1, 1] : List Int))) else (mewsref29_Scanning.j1 kj7 l0 a1 t357 y359 y362)) = some (r1, r2, r3, r4, r5, r6) := by first | (rw [hy362]; with_reducible exact H) | (have H2_ := (Option.bind_some _ _).symm.trans H; rw [hy362]; with_reducible exact H2_) | (have H2_ := (Option.bind_some _ _).symm.trans H; with_reducible exact H2_) | with_reducible exact H | (rw [hy362]; exact H) | exact H
      have Ny362 := Aside0.mk hy362
      clear hy362
      have HC14 := Aside0.mk H
      clear H
      go_upto_if 35 with (first | ((with_reducible refine gate_dst (N := 33) rfl ?_); refine Kd.R_lit Kd.string _ 9 ?hg (N := 33) ?hd (xs := ([(⟨#[77, 65, 84, 67, 72]⟩ : ByteArray), (⟨#[67, 79, 85, 78, 84]⟩ : ByteArray)] : List ByteArray)) (inner := [.string (⟨#[77, 65, 84, 67, 72]⟩ : ByteArray), .string (⟨#[67, 79, 85, 78, 84]⟩ : ByteArray)]) (ok := fun _ => True) (okp := fun _ => True) ?hr ?hp (fun _ hk => hk) trivial (Below.refl _ _) (Nat.le_refl _) (by simp) ?_; (case hd => rfl); (case hg => rfl); (case hr => first | (go_simp; done) | (go_simp; rfl)); (case hp => exact (Reps.one (show Kd.M Kd.string _ _ _ (⟨#[77, 65, 84, 67, 72]⟩ : ByteArray) [.string (⟨#[77, 65, 84, 67, 72]⟩ : ByteArray)] from rfl) (Reps.one (show Kd.M Kd.string _ _ _ (⟨#[67, 79, 85, 78, 84]⟩ : ByteArray) [.string (⟨#[67, 79, 85, 78, 84]⟩ : ByteArray)] from rfl) (Reps.none _ _)))); intro v360 w15 ho16 hb hg_ hnew_; clear hg_ hnew_; (first | rw [← Ny359.out] at ho16 | (simp only [Int.reduceToNat] at ho16; rw [← Ny359.out] at ho16)); have n0_ := Aside0.mk (Kd.R_lower ho16 (below_size (by repeat (first | (with_reducible first | exact HB.out | apply below_alloc | apply pw_below_drewN | apply below_drew1 | refine below_set ?_ GE355.out) | exact HB.out)))); have n1_ := Aside0.mk (blk_below (g := gb355) (o := .cells #[.int .u64 0, .bool false, .string (⟨#[]⟩ : ByteArray), .int .i64 0, .string (⟨#[]⟩ : ByteArray)] 52 (0, 0)) (by (with_reducible repeat (first | refine blk_drewN ?_ _ | refine blk_drew ?_ | refine blk_alloc ?_ _)); exact BK355.out) hb); have n2_ := Aside0.mk (below_step (by repeat (first | (with_reducible first | exact HB.out | apply below_alloc | apply pw_below_drewN | apply below_drew1 | refine below_set ?_ GE355.out) | exact HB.out)) hb); clear BK355; clear HB; have HO361 := n0_; have BK355 := n1_; have HB := n2_; clear n0_ n1_ n2_; clear hb ho16) | ((with_reducible refine gate_dst (N := 34) rfl ?_); refine Kd.R_lit (Kd.int .i64) _ 3 ?hg (N := 34) ?hd (xs := ([1, 1] : List Int)) (inner := [.int .i64 1, .int .i64 1]) (ok := fun _ => True) (okp := fun _ => True) ?hr ?hp (fun _ hk => hk) trivial (Below.refl _ _) (Nat.le_refl _) (by simp) ?_; (case hd => rfl); (case hg => rfl); (case hr => first | (go_simp; done) | (go_simp; rfl)); (case hp => exact (Reps.one (show Kd.M (Kd.int .i64) _ _ _ 1 [.int .i64 1] from rfl) (Reps.one (show Kd.M (Kd.int .i64) _ _ _ 1 [.int .i64 1] from rfl) (Reps.none _ _)))); intro v363 w17 ho18 hb hg_ hnew_; clear hg_ hnew_; (first | rw [← Ny362.out] at ho18 | (simp only [Int.reduceToNat] at ho18; rw [← Ny362.out] at ho18)); have n0_ := Aside0.mk (Kd.R_below (by (with_reducible repeat (first | apply Kd.R_alloc | apply Kd.R_drewN | apply Kd.R_drew)); exact HO361.out) hb); have n1_ := Aside0.mk (Kd.R_lower ho18 (below_size (by repeat (first | (with_reducible first | exact HB.out | apply below_alloc | apply pw_below_drewN | apply below_drew1 | refine below_set ?_ GE355.out) | exact HB.out)))); have n2_ := Aside0.mk (blk_below (g := gb355) (o := .cells #[.int .u64 0, .bool false, .string (⟨#[]⟩ : ByteArray), .int .i64 0, .string (⟨#[]⟩ : ByteArray)] 52 (0, 0)) (by (with_reducible repeat (first | refine blk_drewN ?_ _ | refine blk_drew ?_ | refine blk_alloc ?_ _)); exact BK355.out) hb); have n3_ := Aside0.mk (below_step (by repeat (first | (with_reducible first | exact HB.out | apply below_alloc | apply pw_below_drewN | apply below_drew1 | refine below_set ?_ GE355.out) | exact HB.out)) hb); clear HO361; clear BK355; clear HB; have HO361 := n0_; have HO364 := n1_; have BK355 := n2_; have HB := n3_; clear n0_ n1_ n2_ n3_; clear hb ho18))
      (try simp only [Act.put, List.setIfInBounds_toArray, List.set_cons_zero, List.set_cons_succ])
      go_cut [8, 9] (fun v8 v9 wc => ∃ (kq : Nat) (x8_13 : List ByteArray) (x9_13 : List Int), Aside0 (mewsref29_Scanning.j1 kq l0 a1 t357 x8_13 x9_13 = some (r1, r2, r3, r4, r5, r6)) ∧ Aside0 (kq ≤ kj7) ∧ Aside0 (Kd.R Kd.string 9 wc w.heap.size (fun _ => True) v8 x8_13) ∧ Aside0 (Kd.R (Kd.int .i64) 3 wc w.heap.size (fun _ => True) v9 x9_13) ∧ Aside0 (wc.heap[gb355]? = some (.cells #[.int .u64 0, .bool false, .string (⟨#[]⟩ : ByteArray), .int .i64 0, .string (⟨#[]⟩ : ByteArray)] 52 (0, 0))) ∧ Aside0 (Below w.heap.size w wc))
      case first =>
       have H := HC14.out
       clear HC14
       by_cases c19 : a1 = true
       ·subst c19
        rw [if_pos rfl] at H
        obtain ⟨y365, hy365⟩ : ∃ y_ : List ByteArray, y_ = (([(⟨#[77, 65, 84, 67, 72]⟩ : ByteArray), (⟨#[67, 79, 85, 78, 84]⟩ : ByteArray), (⟨#[84, 89, 80, 69]⟩ : ByteArray)] : List ByteArray)) := ⟨_, rfl⟩
        replace H : (mewsref29_Scanning.j1 kj7 l0 true t357 y365 (([1, 1, 1] : List Int))) = some (r1, r2, r3, r4, r5, r6) := by first | (rw [hy365]; with_reducible exact H) | (have H2_ := (Option.bind_some _ _).symm.trans H; rw [hy365]; with_reducible exact H2_) | (have H2_ := (Option.bind_some _ _).symm.trans H; with_reducible exact H2_) | with_reducible exact H | (rw [hy365]; exact H) | exact H
        have Ny365 := Aside0.mk hy365
        clear hy365
        obtain ⟨y368, hy368⟩ : ∃ y_ : List Int, y_ = (([1, 1, 1] : List Int)) := ⟨_, rfl⟩
        replace H : (mewsref29_Scanning.j1 kj7 l0 true t357 y365 y368) = some (r1, r2, r3, r4, r5, r6) := by first | (rw [hy368]; with_reducible exact H) | (have H2_ := (Option.bind_some _ _).symm.trans H; rw [hy368]; with_reducible exact H2_) | (have H2_ := (Option.bind_some _ _).symm.trans H; with_reducible exact H2_) | with_reducible exact H | (rw [hy368]; exact H) | exact H
        have Ny368 := Aside0.mk hy368
        clear hy368
        have H' := Aside0.mk H
        clear H
        go_wp2_with (first | ((with_reducible refine gate_dst (N := 36) rfl ?_); refine Kd.R_lit Kd.string _ 9 ?hg (N := 36) ?hd (xs := ([(⟨#[77, 65, 84, 67, 72]⟩ : ByteArray), (⟨#[67, 79, 85, 78, 84]⟩ : ByteArray), (⟨#[84, 89, 80, 69]⟩ : ByteArray)] : List ByteArray)) (inner := [.string (⟨#[77, 65, 84, 67, 72]⟩ : ByteArray), .string (⟨#[67, 79, 85, 78, 84]⟩ : ByteArray), .string (⟨#[84, 89, 80, 69]⟩ : ByteArray)]) (ok := fun _ => True) (okp := fun _ => True) ?hr ?hp (fun _ hk => hk) trivial (Below.refl _ _) (Nat.le_refl _) (by simp) ?_; (case hd => rfl); (case hg => rfl); (case hr => first | (go_simp; done) | (go_simp; rfl)); (case hp => exact (Reps.one (show Kd.M Kd.string _ _ _ (⟨#[77, 65, 84, 67, 72]⟩ : ByteArray) [.string (⟨#[77, 65, 84, 67, 72]⟩ : ByteArray)] from rfl) (Reps.one (show Kd.M Kd.string _ _ _ (⟨#[67, 79, 85, 78, 84]⟩ : ByteArray) [.string (⟨#[67, 79, 85, 78, 84]⟩ : ByteArray)] from rfl) (Reps.one (show Kd.M Kd.string _ _ _ (⟨#[84, 89, 80, 69]⟩ : ByteArray) [.string (⟨#[84, 89, 80, 69]⟩ : ByteArray)] from rfl) (Reps.none _ _))))); intro v366 w20 ho21 hb hg_ hnew_; clear hg_ hnew_; (first | rw [← Ny365.out] at ho21 | (simp only [Int.reduceToNat] at ho21; rw [← Ny365.out] at ho21)); have n0_ := Aside0.mk (Kd.R_elder' (by (with_reducible repeat (first | apply Kd.R_alloc | apply Kd.R_drewN | apply Kd.R_drew)); exact HO361.out) (Kd.R_base ho21) hb); have n1_ := Aside0.mk (Kd.R_below (by (with_reducible repeat (first | apply Kd.R_alloc | apply Kd.R_drewN | apply Kd.R_drew)); exact HO364.out) hb); have n2_ := Aside0.mk (Kd.R_lower (Kd.R_new' ho21 (Kd.R_lt (by (with_reducible repeat (first | apply Kd.R_alloc | apply Kd.R_drewN | apply Kd.R_drew)); exact HO361.out))) (below_size (by repeat (first | (with_reducible first | exact HB.out | apply below_alloc | apply pw_below_drewN | apply below_drew1 | refine below_set ?_ GE355.out) | exact HB.out)))); have n3_ := Aside0.mk (blk_below (g := gb355) (o := .cells #[.int .u64 0, .bool false, .string (⟨#[]⟩ : ByteArray), .int .i64 0, .string (⟨#[]⟩ : ByteArray)] 52 (0, 0)) (by (with_reducible repeat (first | refine blk_drewN ?_ _ | refine blk_drew ?_ | refine blk_alloc ?_ _)); exact BK355.out) hb); have n4_ := Aside0.mk (below_step (by repeat (first | (with_reducible first | exact HB.out | apply below_alloc | apply pw_below_drewN | apply below_drew1 | refine below_set ?_ GE355.out) | exact HB.out)) hb); clear HO361; clear HO364; clear BK355; clear HB; have HO361 := n0_; have HO364 := n1_; have HO367 := n2_; have BK355 := n3_; have HB := n4_; clear n0_ n1_ n2_ n3_ n4_; clear hb ho21) | ((with_reducible refine gate_dst (N := 37) rfl ?_); refine Kd.R_lit (Kd.int .i64) _ 3 ?hg (N := 37) ?hd (xs := ([1, 1, 1] : List Int)) (inner := [.int .i64 1, .int .i64 1, .int .i64 1]) (ok := fun _ => True) (okp := fun _ => True) ?hr ?hp (fun _ hk => hk) trivial (Below.refl _ _) (Nat.le_refl _) (by simp) ?_; (case hd => rfl); (case hg => rfl); (case hr => first | (go_simp; done) | (go_simp; rfl)); (case hp => exact (Reps.one (show Kd.M (Kd.int .i64) _ _ _ 1 [.int .i64 1] from rfl) (Reps.one (show Kd.M (Kd.int .i64) _ _ _ 1 [.int .i64 1] from rfl) (Reps.one (show Kd.M (Kd.int .i64) _ _ _ 1 [.int .i64 1] from rfl) (Reps.none _ _))))); intro v369 w22 ho23 hb hg_ hnew_; clear hg_ hnew_; (first | rw [← Ny368.out] at ho23 | (simp only [Int.reduceToNat] at ho23; rw [← Ny368.out] at ho23)); have n0_ := Aside0.mk (Kd.R_below (by (with_reducible repeat (first | apply Kd.R_alloc | apply Kd.R_drewN | apply Kd.R_drew)); exact HO361.out) hb); have n1_ := Aside0.mk (Kd.R_elder' (by (with_reducible repeat (first | apply Kd.R_alloc | apply Kd.R_drewN | apply Kd.R_drew)); exact HO364.out) (Kd.R_base ho23) hb); have n2_ := Aside0.mk (Kd.R_below (by (with_reducible repeat (first | apply Kd.R_alloc | apply Kd.R_drewN | apply Kd.R_drew)); exact HO367.out) hb); have n3_ := Aside0.mk (Kd.R_lower (Kd.R_new' ho23 (Kd.R_lt (by (with_reducible repeat (first | apply Kd.R_alloc | apply Kd.R_drewN | apply Kd.R_drew)); exact HO364.out))) (below_size (by repeat (first | (with_reducible first | exact HB.out | apply below_alloc | apply pw_below_drewN | apply below_drew1 | refine below_set ?_ GE355.out) | exact HB.out)))); have n4_ := Aside0.mk (blk_below (g := gb355) (o := .cells #[.int .u64 0, .bool false, .string (⟨#[]⟩ : ByteArray), .int .i64 0, .string (⟨#[]⟩ : ByteArray)] 52 (0, 0)) (by (with_reducible repeat (first | refine blk_drewN ?_ _ | refine blk_drew ?_ | refine blk_alloc ?_ _)); exact BK355.out) hb); have n5_ := Aside0.mk (below_step (by repeat (first | (with_reducible first | exact HB.out | apply below_alloc | apply pw_below_drewN | apply below_drew1 | refine below_set ?_ GE355.out) | exact HB.out)) hb); clear HO361; clear HO364; clear HO367; clear BK355; clear HB; have HO361 := n0_; have HO364 := n1_; have HO367 := n2_; have HO370 := n3_; have BK355 := n4_; have HB := n5_; clear n0_ n1_ n2_ n3_ n4_ n5_; clear hb ho23))
        go_meet
        case rel => exact ⟨_, (y365), (y368), H', ⟨by have := HJ7.out; first | omega | exact Nat.le_refl _⟩, ⟨by (with_reducible repeat (first | apply Kd.R_alloc | apply Kd.R_drewN | apply Kd.R_drew)); exact Kd.R_mono HO367.out (fun _ hk => trivial)⟩, ⟨by (with_reducible repeat (first | apply Kd.R_alloc | apply Kd.R_drewN | apply Kd.R_drew)); exact Kd.R_mono HO370.out (fun _ hk => trivial)⟩, ⟨by (with_reducible repeat (first | refine blk_drewN ?_ _ | refine blk_drew ?_ | refine blk_alloc ?_ _)); exact BK355.out⟩, ⟨by repeat (first | (with_reducible first | exact HB.out | apply below_alloc | apply pw_below_drewN | apply below_drew1 | refine below_set ?_ GE355.out) | exact HB.out)⟩⟩
       ·replace c19 := Bool.eq_false_iff.mpr c19
        subst c19
        rw [if_neg (show ¬ (false = true) by decide)] at H
        have H' := Aside0.mk H
        clear H
        go_wp2
        go_meet
        case rel => exact ⟨_, (y359), (y362), H', ⟨by have := HJ7.out; first | omega | exact Nat.le_refl _⟩, ⟨by (with_reducible repeat (first | apply Kd.R_alloc | apply Kd.R_drewN | apply Kd.R_drew)); exact HO361.out⟩, ⟨by (with_reducible repeat (first | apply Kd.R_alloc | apply Kd.R_drewN | apply Kd.R_drew)); exact HO364.out⟩, ⟨by (with_reducible repeat (first | refine blk_drewN ?_ _ | refine blk_drew ?_ | refine blk_alloc ?_ _)); exact BK355.out⟩, ⟨by repeat (first | (with_reducible first | exact HB.out | apply below_alloc | apply pw_below_drewN | apply below_drew1 | refine below_set ?_ GE355.out) | exact HB.out)⟩⟩
      case rest =>
       clear HC14
       try clear c1
       try clear c2
       try clear p2
       try clear c3
       try clear c3b0
       try clear c3b1
       try clear c3b2
       try clear p3
       try clear q3
       try clear hx3
       try clear qi3
       try clear c6
       try clear c6b0
       try clear c6b1
       try clear c11
       try clear c12
       try clear c19
       try clear hcz13_0
       try clear hcz13_1
       try clear hcz13_2
       try clear hcz13_3
       try clear hcz13_4
       try clear hcz5_0
       try clear hcz5_1
       try clear hcz5_2
       try clear hcz5_3
       try clear hcz5_4
       try clear hfz13_0
       try clear hfz13_1
       try clear hfz13_2
       try clear hfz13_3
       try clear hfz13_4
       try clear hfz5_0
       try clear hfz5_1
       try clear hfz5_2
       try clear hfz5_3
       try clear hfz5_4
       try clear hx356_0
       try clear p2
       try clear p3
       try clear p356
       try clear q3
       try clear q356
       obtain ⟨kq, x8_13, x9_13, HA, HJ13, HO_8, HO_9, BK355, HB⟩ := hcut
       cases kq with
       | zero => exact absurd HA.out (by simp [mewsref29_Scanning.j1])
       | succ kj13 =>
        have H := HA.out
        clear HA
        simp only [mewsref29_Scanning.j1] at H
        by_cases c24 : 1 ≤ (l0.length : Int)
        ·rw [if_pos c24] at H
         have c24b0 := eq_true c24
         have c24b1 : decide (1 ≤ (l0.length : Int)) = true := decide_eq_true c24
         clear c24
         replace H := Option.bind_eq_some_iff.mp H
         obtain ⟨⟨t372, t373⟩, A250, H⟩ := H
         replace H : (if t373 = true then (if 0 < (t372.length : Int) then (if (rd_T38 t372 0).f0 = true then (if 0 < (((rd_T38 t372 0).f1).length : Int) then (mewsref29_Scanning.j2 kj13 a1 t372 (IntKind.u64.wrap (t357)) ((rd_T38 t372 0).f0) (rdOf ByteArray.empty ((rd_T38 t372 0).f1) 0) 10 (⟨#[]⟩ : ByteArray)) else (none)) else (mewsref29_Scanning.j2 kj13 a1 t372 (IntKind.u64.wrap (t357)) ((rd_T38 t372 0).f0) (⟨#[]⟩ : ByteArray) 10 (⟨#[]⟩ : ByteArray))) else (none)) else (some (0, false, (⟨#[]⟩ : ByteArray), 0, (⟨#[]⟩ : ByteArray), (⟨#[69, 82, 82, 32, 115, 121, 110, 116, 97, 120, 32, 101, 114, 114, 111, 114]⟩ : ByteArray)))) = some (r1, r2, r3, r4, r5, r6) := H
         have A25 := Aside0.mk A250
         clear A250
         by_cases c26 : t373 = true
         ·subst c26
          rw [if_pos rfl] at H
          by_cases c27 : 0 < (t372.length : Int)
          ·rw [if_pos c27] at H
           have c27b0 : decide (0 < (t372.length : Int)) = true := decide_eq_true c27
           have c27b1 : decide (0 < t372.length) = true := decide_eq_true (by omega)
           clear c27
           have HC28 := Aside0.mk H
           clear H
           obtain ⟨i029, hi029, _, hsz29, _⟩ := info_parts info9
           obtain ⟨A29, hcut29, hA29, hC29⟩ := print_drop_of (P := Try.prog) Value.string (⟨#[]⟩ : ByteArray) 22 9 .i64 Try.underlying22 hi029 hsz29 (some ad356) c0 l0 1 (by omega) (of_decide_eq_true (by first | (with_reducible assumption) | assumption)) HC0.out
           have HR371 := Aside0.mk (Kd.C_of_reads (h1 := fun _ => rfl) (hA29 _ (Kd.reads_of_C HR0.out)))
           have HC371 := Aside0.mk hC29
           clear hA29 hC29 hi029 hsz29
           obtain ⟨Ao30, co30, eo30⟩ := Kd.R_slice HO_8.out
           subst eo30
           obtain ⟨Ao31, co31, eo31⟩ := Kd.R_slice HO_9.out
           subst eo31
           go_upto_if 59 with (first | ((with_reducible refine gate_callee (f := 10) rfl ?_); refine goesL_ (some 43) rfl rfl Try.func10 (by kernel_rfl) rfl #[.slice A29 (l0.drop 1).length (c0 - 1), .slice Ao30 x8_13.length co30, .slice Ao31 x9_13.length co31] rfl (by (try simp only [List.map_toArray, List.map_cons, List.map_nil]); first | done | (rw [show (l0.drop 1).length = (l0.length - 1) from List.length_drop] <;> rfl) | rfl | (simp only [List.length_drop, List.length_take]; rfl)) ?_; (with_reducible refine (mewsref29_Options.calls kj13 _ _ (l0.drop 1) _ _ x8_13 _ _ x9_13 t372 true _ ?side1 ?side2 ?side3 ?side4 ?side5 ?side6 A25.out).mono ?_); (case side1 => repeat (first | exact (Kd.C_below HR371.out HB.out) | (with_reducible refine Kd.C_alloc ?_ _) | (with_reducible refine Kd.C_drewN ?_ _) | (with_reducible refine Kd.C_drew ?_))); (case side2 => exact HC371.out); (case side3 => repeat (first | exact (Kd.R_reads' HO_8.out).2.2 | (with_reducible refine Kd.C_alloc ?_ _) | (with_reducible refine Kd.C_drewN ?_ _) | (with_reducible refine Kd.C_drew ?_))); (case side4 => exact (Kd.R_reads' HO_8.out).2.1); (case side5 => repeat (first | exact (Kd.R_reads' HO_9.out).2.2 | (with_reducible refine Kd.C_alloc ?_ _) | (with_reducible refine Kd.C_drewN ?_ _) | (with_reducible refine Kd.C_drew ?_))); (case side6 => exact (Kd.R_reads' HO_9.out).2.1); rintro e w32 ⟨v374, rfl, ho0, hb⟩; refine ⟨_, rfl, ?_⟩; have n0_ := Aside0.mk (Kd.R_below (by (with_reducible repeat (first | apply Kd.R_alloc | apply Kd.R_drewN | apply Kd.R_drew)); exact HO_8.out) hb); have n1_ := Aside0.mk (Kd.R_below (by (with_reducible repeat (first | apply Kd.R_alloc | apply Kd.R_drewN | apply Kd.R_drew)); exact HO_9.out) hb); have n2_ := Aside0.mk (Kd.S_lower (Kd.S_new' ho0 (Kd.R_lt (by (with_reducible repeat (first | apply Kd.R_alloc | apply Kd.R_drewN | apply Kd.R_drew)); exact HO_8.out))) (below_size (by repeat (first | (with_reducible first | exact HB.out | apply below_alloc | apply pw_below_drewN | apply below_drew1 | refine below_set ?_ GE355.out) | exact HB.out)))); have n3_ := Aside0.mk (blk_below (g := gb355) (o := .cells #[.int .u64 0, .bool false, .string (⟨#[]⟩ : ByteArray), .int .i64 0, .string (⟨#[]⟩ : ByteArray)] 52 (0, 0)) (by (with_reducible repeat (first | refine blk_drewN ?_ _ | refine blk_drew ?_ | refine blk_alloc ?_ _)); exact BK355.out) hb); have n4_ := Aside0.mk (below_step (by repeat (first | (with_reducible first | exact HB.out | apply below_alloc | apply pw_below_drewN | apply below_drew1 | refine below_set ?_ GE355.out) | exact HB.out)) hb); clear HO_8; clear HO_9; clear BK355; clear HB; have HO_8 := n0_; have HO_9 := n1_; have HO375 := n2_; have BK355 := n3_; have HB := n4_; clear n0_ n1_ n2_ n3_ n4_; (try clear hb); (try clear hb2); (try clear hk); (try clear hi); (try clear ho0); obtain ⟨Ao33, co33, eo33⟩ := Kd.S_slice HO375.out; subst eo33; have p376 : 0 ≤ (0 : Int) := (by omega); have q376 : 0 < (t372.length : Int) := of_decide_eq_true (by first | (with_reducible assumption) | assumption); obtain ⟨ad376, A376_1, c376_1, e376, hx376_0, hx376_1, hl376_1, hi376_1⟩ := at_T38 (Kd.S_reads' HO375.out).2.2 0 p376 q376; cases e376; obtain ⟨ce376, hce376, hMe376, hcc376⟩ := Kd.S_get HO375.out z38 0 p376 (by first | exact q376 | exact of_decide_eq_true (by first | (with_reducible assumption) | assumption) | (have e_ := (Kd.S_reads' HO375.out).1; omega)); obtain ⟨ve376_1, rfl, ge376_1⟩ := k38_openM hMe376; have hv376_1 := hcc376 1 _ rfl; rw [add_field _ _ 1 (by omega)] at hv376_1; replace hv376_1 := Option.some.inj (hv376_1.symm.trans hx376_1); rw [hv376_1] at ge376_1; have HL376_1 := Aside0.mk (show Kd.R Kd.string 9 _ _ _ _ ((rd_T38 t372 0).f1) from ge376_1); clear hv376_1 ge376_1; clear hcc376 hce376; have qi376 : (0 < t372.length) = True := eq_true (by omega); (try rw [show ((0 : Int)).toNat = 0 from rfl] at hx376_0); (try rw [show 0 * 2 = 0 from rfl] at hx376_0); (try rw [Addr.add_zero'] at hx376_0); (try rw [show ((0 : Int)).toNat = 0 from rfl] at hx376_1); (try rw [show 0 * 2 = 0 from rfl] at hx376_1); (try rw [Addr.add_zero'] at hx376_1); have HR376_1 := Aside0.mk hi376_1; have HC376_1 := Aside0.mk hl376_1; clear hi376_1 hl376_1; replace p376 := eq_true p376; replace q376 := eq_true q376) | ((with_reducible refine gate_dst (N := 12) rfl ?_); refine box_event ?hg (N := 12) ?hd (cs := #[.int .u64 0, .bool false, .string (⟨#[]⟩ : ByteArray), .int .i64 0, .string (⟨#[]⟩ : ByteArray)]) (t := 52) ?hr ?_; (case hd => rfl); (case hg => rfl); (case hr => first | (go_simp; done) | (go_simp; rfl)); intro gb377 hg w34 hbox hb; have n0_ := Aside0.mk (Kd.R_below (by (with_reducible repeat (first | apply Kd.R_alloc | apply Kd.R_drewN | apply Kd.R_drew)); exact HO_8.out) hb); have n1_ := Aside0.mk (Kd.R_below (by (with_reducible repeat (first | apply Kd.R_alloc | apply Kd.R_drewN | apply Kd.R_drew)); exact HO_9.out) hb); have n2_ := Aside0.mk (Kd.S_below (by (with_reducible repeat (first | apply Kd.S_alloc | apply Kd.S_drewN | apply Kd.S_drew)); exact HO375.out) hb); have n3_ := Aside0.mk (Kd.R_below (by (with_reducible repeat (first | apply Kd.R_alloc | apply Kd.R_drewN | apply Kd.R_drew)); exact HL376_1.out) hb); have n4_ := Aside0.mk (blk_below (g := gb355) (o := .cells #[.int .u64 0, .bool false, .string (⟨#[]⟩ : ByteArray), .int .i64 0, .string (⟨#[]⟩ : ByteArray)] 52 (0, 0)) (by (with_reducible repeat (first | refine blk_drewN ?_ _ | refine blk_drew ?_ | refine blk_alloc ?_ _)); exact BK355.out) hb); have n5_ := Aside0.mk (Kd.C_below (by repeat (first | (with_reducible exact HR376_1.out) | (with_reducible refine Kd.C_alloc ?_ _) | (with_reducible refine Kd.C_drewN ?_ _) | (with_reducible refine Kd.C_drew ?_) | exact HR376_1.out)) hb); have n6_ := Aside0.mk (below_step (by repeat (first | (with_reducible first | exact HB.out | apply below_alloc | apply pw_below_drewN | apply below_drew1 | refine below_set ?_ GE355.out) | exact HB.out)) hb); have n7_ := Aside0.mk (hbox); have n8_ := Aside0.mk ((by rw [hg]; exact (below_size (by repeat (first | (with_reducible first | exact HB.out | apply below_alloc | apply pw_below_drewN | apply below_drew1 | refine below_set ?_ GE355.out) | exact HB.out))) : w.heap.size ≤ gb377)); have n9_ := Aside0.mk ((by rw [hg]; exact (below_size (by repeat (first | (with_reducible first | exact HB.out | apply below_alloc | apply pw_below_drewN | apply below_drew1 | refine below_set ?_ GE355.out) | exact HB.out))) : w.heap.size ≤ gb377)); have n10_ := Aside0.mk ((by rw [hg]; exact Nat.ne_of_lt (blk_lt (g := gb355) (o := .cells #[.int .u64 0, .bool false, .string (⟨#[]⟩ : ByteArray), .int .i64 0, .string (⟨#[]⟩ : ByteArray)] 52 (0, 0)) (by (with_reducible repeat (first | refine blk_drewN ?_ _ | refine blk_drew ?_ | refine blk_alloc ?_ _)); exact BK355.out)) : gb355 ≠ gb377)); have n11_ := Aside0.mk ((by rw [hg]; exact Nat.ne_of_gt (blk_lt (g := gb355) (o := .cells #[.int .u64 0, .bool false, .string (⟨#[]⟩ : ByteArray), .int .i64 0, .string (⟨#[]⟩ : ByteArray)] 52 (0, 0)) (by (with_reducible repeat (first | refine blk_drewN ?_ _ | refine blk_drew ?_ | refine blk_alloc ?_ _)); exact BK355.out)) : gb377 ≠ gb355)); clear HO_8; clear HO_9; clear HO375; clear HL376_1; clear BK355; clear HR376_1; clear HB; have HO_8 := n0_; have HO_9 := n1_; have HO375 := n2_; have HL376_1 := n3_; have BK355 := n4_; have HR376_1 := n5_; have HB := n6_; have BK377 := n7_; have GW377 := n8_; have GE377 := n9_; have NB355_377 := n10_; have NB377_355 := n11_; clear n0_ n1_ n2_ n3_ n4_ n5_ n6_ n7_ n8_ n9_ n10_ n11_; clear hb hbox hg; have hnb35 := NB377_355.out; have hnc35 := NB355_377.out; obtain ⟨hcz36_0, hcz36_1, hcz36_2, hcz36_3, hcz36_4, hfz36_0, hfz36_1, hfz36_2, hfz36_3, hfz36_4⟩ := cells5_ BK377.out) | ((with_reducible refine gate_store (t := 52) (p := 12) rfl ?_); refine store_event (t := 52) (p := 12) (v := ?vo_w37) (w1 := (((((w34.setCell ⟨gb377, 0, none⟩ (.int .u64 (IntKind.u64.wrap (t357)))).setCell ⟨gb377, 1, none⟩ (.bool ((rd_T38 t372 0).f0))).setCell ⟨gb377, 2, none⟩ (.string (⟨#[]⟩ : ByteArray))).setCell ⟨gb377, 3, none⟩ (.int .i64 10)).setCell ⟨gb377, 4, none⟩ (.string (⟨#[]⟩ : ByteArray)))) ?hg ?ho ?hn ?hr ?_; (case ho => rfl); (case hg => rfl); (case hn => rfl); (case hr => first | (go_simp; done) | (go_simp; rfl)); intro w37 hw; have n0_ : Aside0 (Kd.R Kd.string 9 w37 w.heap.size (fun _ => True) (.slice Ao30 x8_13.length co30) x8_13) := ⟨(by rw [hw]; exact (by (with_reducible repeat (first | apply Kd.R_alloc | apply Kd.R_drewN | apply Kd.R_drew)); exact Kd.R_mono (Kd.R_far (p := ⟨gb377, 4, none⟩) (Kd.R_far (p := ⟨gb377, 3, none⟩) (Kd.R_far (p := ⟨gb377, 2, none⟩) (Kd.R_far (p := ⟨gb377, 1, none⟩) (Kd.R_far (p := ⟨gb377, 0, none⟩) (Kd.R_types HO_8.out BK377.out (by decide)) (fun _ hk => hk.2) (.int .u64 (IntKind.u64.wrap (t357)))) (fun _ hk => hk.2) (.bool ((rd_T38 t372 0).f0))) (fun _ hk => hk.2) (.string (⟨#[]⟩ : ByteArray))) (fun _ hk => hk.2) (.int .i64 10)) (fun _ hk => hk.2) (.string (⟨#[]⟩ : ByteArray))) (fun _ hk => trivial)))⟩; have n1_ : Aside0 (Kd.R (Kd.int .i64) 3 w37 w.heap.size (fun _ => True) (.slice Ao31 x9_13.length co31) x9_13) := ⟨(by rw [hw]; exact (by (with_reducible repeat (first | apply Kd.R_alloc | apply Kd.R_drewN | apply Kd.R_drew)); exact Kd.R_mono (Kd.R_far (p := ⟨gb377, 4, none⟩) (Kd.R_far (p := ⟨gb377, 3, none⟩) (Kd.R_far (p := ⟨gb377, 2, none⟩) (Kd.R_far (p := ⟨gb377, 1, none⟩) (Kd.R_far (p := ⟨gb377, 0, none⟩) (Kd.R_types HO_9.out BK377.out (by decide)) (fun _ hk => hk.2) (.int .u64 (IntKind.u64.wrap (t357)))) (fun _ hk => hk.2) (.bool ((rd_T38 t372 0).f0))) (fun _ hk => hk.2) (.string (⟨#[]⟩ : ByteArray))) (fun _ hk => hk.2) (.int .i64 10)) (fun _ hk => hk.2) (.string (⟨#[]⟩ : ByteArray))) (fun _ hk => trivial)))⟩; have n2_ : Aside0 (Kd.S k38 38 w37 w.heap.size (fun k_ => some k_ ≠ (.slice Ao30 x8_13.length co30 : Value).ownBlock) (.slice (some ad376) t372.length co33) t372) := ⟨(by rw [hw]; exact (by (with_reducible repeat (first | apply Kd.S_alloc | apply Kd.S_drewN | apply Kd.S_drew)); exact Kd.S_mono (Kd.S_far (p := ⟨gb377, 4, none⟩) (Kd.S_far (p := ⟨gb377, 3, none⟩) (Kd.S_far (p := ⟨gb377, 2, none⟩) (Kd.S_far (p := ⟨gb377, 1, none⟩) (Kd.S_far (p := ⟨gb377, 0, none⟩) (Kd.S_types HO375.out BK377.out (by decide)) (fun _ hk => hk.2) (.int .u64 (IntKind.u64.wrap (t357)))) (fun _ hk => hk.2) (.bool ((rd_T38 t372 0).f0))) (fun _ hk => hk.2) (.string (⟨#[]⟩ : ByteArray))) (fun _ hk => hk.2) (.int .i64 10)) (fun _ hk => hk.2) (.string (⟨#[]⟩ : ByteArray))) (fun _ hk => hk.1.2)))⟩; have n3_ : Aside0 (Kd.R Kd.string 9 w37 w.heap.size (fun k_ => some k_ ≠ (.slice Ao30 x8_13.length co30 : Value).ownBlock ∧ some k_ ≠ (.slice (some ad376) t372.length co33 : Value).ownBlock) (.slice A376_1 ((rd_T38 t372 0).f1).length c376_1) ((rd_T38 t372 0).f1)) := ⟨(by rw [hw]; exact (by (with_reducible repeat (first | apply Kd.R_alloc | apply Kd.R_drewN | apply Kd.R_drew)); exact Kd.R_mono (Kd.R_far (p := ⟨gb377, 4, none⟩) (Kd.R_far (p := ⟨gb377, 3, none⟩) (Kd.R_far (p := ⟨gb377, 2, none⟩) (Kd.R_far (p := ⟨gb377, 1, none⟩) (Kd.R_far (p := ⟨gb377, 0, none⟩) (Kd.R_types HL376_1.out BK377.out (by decide)) (fun _ hk => hk.2) (.int .u64 (IntKind.u64.wrap (t357)))) (fun _ hk => hk.2) (.bool ((rd_T38 t372 0).f0))) (fun _ hk => hk.2) (.string (⟨#[]⟩ : ByteArray))) (fun _ hk => hk.2) (.int .i64 10)) (fun _ hk => hk.2) (.string (⟨#[]⟩ : ByteArray))) (fun _ hk => ⟨hk.1.1.2, hk.1.2⟩)))⟩; have n4_ : Aside0 (w37.heap[gb355]? = some (.cells #[.int .u64 0, .bool false, .string (⟨#[]⟩ : ByteArray), .int .i64 0, .string (⟨#[]⟩ : ByteArray)] 52 (0, 0))) := ⟨(by rw [hw]; exact (by (with_reducible repeat (first | refine blk_drewN ?_ _ | refine blk_drew ?_ | refine blk_alloc ?_ _)); refine blk_far ?_ NB355_377.out _; (with_reducible repeat (first | refine blk_drewN ?_ _ | refine blk_drew ?_ | refine blk_alloc ?_ _)); refine blk_far ?_ NB355_377.out _; (with_reducible repeat (first | refine blk_drewN ?_ _ | refine blk_drew ?_ | refine blk_alloc ?_ _)); refine blk_far ?_ NB355_377.out _; (with_reducible repeat (first | refine blk_drewN ?_ _ | refine blk_drew ?_ | refine blk_alloc ?_ _)); refine blk_far ?_ NB355_377.out _; (with_reducible repeat (first | refine blk_drewN ?_ _ | refine blk_drew ?_ | refine blk_alloc ?_ _)); refine blk_far ?_ NB355_377.out _; (with_reducible repeat (first | refine blk_drewN ?_ _ | refine blk_drew ?_ | refine blk_alloc ?_ _)); exact BK355.out))⟩; have n5_ : Aside0 (w37.heap[gb377]? = some (.cells #[.int .u64 (IntKind.u64.wrap (t357)), .bool ((rd_T38 t372 0).f0), .string (⟨#[]⟩ : ByteArray), .int .i64 10, .string (⟨#[]⟩ : ByteArray)] 52 (0, 0))) := ⟨(by rw [hw]; exact (by (with_reducible repeat (first | refine blk_drewN ?_ _ | refine blk_drew ?_ | refine blk_alloc ?_ _)); refine blk_put (cs := #[.int .u64 (IntKind.u64.wrap (t357)), .bool ((rd_T38 t372 0).f0), .string (⟨#[]⟩ : ByteArray), .int .i64 10, .string (⟨#[]⟩ : ByteArray)]) ?_ 4 _ rfl; (with_reducible repeat (first | refine blk_drewN ?_ _ | refine blk_drew ?_ | refine blk_alloc ?_ _)); refine blk_put (cs := #[.int .u64 (IntKind.u64.wrap (t357)), .bool ((rd_T38 t372 0).f0), .string (⟨#[]⟩ : ByteArray), .int .i64 0, .string (⟨#[]⟩ : ByteArray)]) ?_ 3 _ rfl; (with_reducible repeat (first | refine blk_drewN ?_ _ | refine blk_drew ?_ | refine blk_alloc ?_ _)); refine blk_put (cs := #[.int .u64 (IntKind.u64.wrap (t357)), .bool ((rd_T38 t372 0).f0), .string (⟨#[]⟩ : ByteArray), .int .i64 0, .string (⟨#[]⟩ : ByteArray)]) ?_ 2 _ rfl; (with_reducible repeat (first | refine blk_drewN ?_ _ | refine blk_drew ?_ | refine blk_alloc ?_ _)); refine blk_put (cs := #[.int .u64 (IntKind.u64.wrap (t357)), .bool false, .string (⟨#[]⟩ : ByteArray), .int .i64 0, .string (⟨#[]⟩ : ByteArray)]) ?_ 1 _ rfl; (with_reducible repeat (first | refine blk_drewN ?_ _ | refine blk_drew ?_ | refine blk_alloc ?_ _)); refine blk_put (cs := #[.int .u64 0, .bool false, .string (⟨#[]⟩ : ByteArray), .int .i64 0, .string (⟨#[]⟩ : ByteArray)]) ?_ 0 _ rfl; (with_reducible repeat (first | refine blk_drewN ?_ _ | refine blk_drew ?_ | refine blk_alloc ?_ _)); exact BK377.out))⟩; have n6_ : Aside0 (Below w.heap.size w w37) := ⟨(by rw [hw]; exact (by repeat (first | (with_reducible first | exact HB.out | apply below_alloc | apply pw_below_drewN | apply below_drew1 | refine below_set ?_ GE355.out | refine below_set ?_ GE377.out) | exact HB.out)))⟩; clear hw; clear HO_8; clear HO_9; clear HO375; clear HL376_1; clear BK355; clear BK377; clear HB; have HO_8 := n0_; have HO_9 := n1_; have HO375 := n2_; have HL376_1 := n3_; have BK355 := n4_; have BK377 := n5_; have HB := n6_; clear n0_ n1_ n2_ n3_ n4_ n5_ n6_; have p378 : 0 ≤ (0 : Int) := (by omega); have q378 : 0 < (t372.length : Int) := of_decide_eq_true (by first | (with_reducible assumption) | assumption); obtain ⟨ad378, A378_1, c378_1, e378, hx378_0, hx378_1, hl378_1, hi378_1⟩ := at_T38 (Kd.S_reads' HO375.out).2.2 0 p378 q378; obtain rfl : ad376 = ad378 := (by injection e378); obtain ⟨ce378, hce378, hMe378, hcc378⟩ := Kd.S_get HO375.out z38 0 p378 (by first | exact q378 | exact of_decide_eq_true (by first | (with_reducible assumption) | assumption) | (have e_ := (Kd.S_reads' HO375.out).1; omega)); obtain ⟨ve378_1, rfl, ge378_1⟩ := k38_openM hMe378; have hv378_1 := hcc378 1 _ rfl; rw [add_field _ _ 1 (by omega)] at hv378_1; replace hv378_1 := Option.some.inj (hv378_1.symm.trans hx378_1); rw [hv378_1] at ge378_1; have HL378_1 := Aside0.mk (show Kd.R Kd.string 9 _ _ _ _ ((rd_T38 t372 0).f1) from ge378_1); clear hv378_1 ge378_1; clear hcc378 hce378; have qi378 : (0 < t372.length) = True := eq_true (by omega); (try rw [show ((0 : Int)).toNat = 0 from rfl] at hx378_0); (try rw [show 0 * 2 = 0 from rfl] at hx378_0); (try rw [Addr.add_zero'] at hx378_0); (try rw [show ((0 : Int)).toNat = 0 from rfl] at hx378_1); (try rw [show 0 * 2 = 0 from rfl] at hx378_1); (try rw [Addr.add_zero'] at hx378_1); have HR378_1 := Aside0.mk hi378_1; have HC378_1 := Aside0.mk hl378_1; clear hi378_1 hl378_1; replace p378 := eq_true p378; replace q378 := eq_true q378))
           (try simp only [Act.put, List.setIfInBounds_toArray, List.set_cons_zero, List.set_cons_succ])
           go_cut [] (fun wc => ∃ (kq : Nat) (x378002_27 : ByteArray), Aside0 (mewsref29_Scanning.j2 kq a1 t372 (IntKind.u64.wrap (t357)) ((rd_T38 t372 0).f0) x378002_27 10 (⟨#[]⟩ : ByteArray) = some (r1, r2, r3, r4, r5, r6)) ∧ Aside0 (kq ≤ kj13) ∧ Aside0 (Kd.S k38 38 wc w.heap.size (fun _ => True) (.slice (some ad376) t372.length co33) t372) ∧ Aside0 (wc.heap[gb355]? = some (.cells #[.int .u64 0, .bool false, .string (⟨#[]⟩ : ByteArray), .int .i64 0, .string (⟨#[]⟩ : ByteArray)] 52 (0, 0))) ∧ Aside0 (wc.heap[gb377]? = some (.cells #[.int .u64 (IntKind.u64.wrap (t357)), .bool ((rd_T38 t372 0).f0), .string x378002_27, .int .i64 10, .string (⟨#[]⟩ : ByteArray)] 52 (0, 0))) ∧ Aside0 (Below w.heap.size w wc))
           case first =>
            have H := HC28.out
            clear HC28
            obtain ⟨bq38, hbq38⟩ : ∃ b_ : Bool, b_ = ((rd_T38 t372 0).f0) := ⟨_, rfl⟩
            replace H : (if bq38 = true then (if 0 < (((rd_T38 t372 0).f1).length : Int) then (mewsref29_Scanning.j2 kj13 a1 t372 (IntKind.u64.wrap (t357)) bq38 (rdOf ByteArray.empty ((rd_T38 t372 0).f1) 0) 10 (⟨#[]⟩ : ByteArray)) else (none)) else (mewsref29_Scanning.j2 kj13 a1 t372 (IntKind.u64.wrap (t357)) bq38 (⟨#[]⟩ : ByteArray) 10 (⟨#[]⟩ : ByteArray))) = some (r1, r2, r3, r4, r5, r6) := by rw [← hbq38] at H; exact H
            have Nbq38 := Aside0.mk hbq38
            clear hbq38
            (try rw [← Nbq38.out])
            by_cases c39 : bq38 = true
            ·subst c39
             have hbz_ := BK377.out
             rw [← Nbq38.out] at hbz_
             clear BK377
             have BK377 := Aside0.mk hbz_
             clear hbz_
             rw [if_pos rfl] at H
             by_cases c40 : 0 < (((rd_T38 t372 0).f1).length : Int)
             ·rw [if_pos c40] at H
              have c40b0 : decide (0 < (((rd_T38 t372 0).f1).length : Int)) = true := decide_eq_true c40
              have c40b1 : decide (0 < ((rd_T38 t372 0).f1).length) = true := decide_eq_true (by omega)
              clear c40
              have H' := Aside0.mk H
              clear H
              have p379 : 0 ≤ (0 : Int) := (by omega)
              have q379 : 0 < (t372.length : Int) := of_decide_eq_true (by first | (with_reducible assumption) | assumption)
              obtain ⟨ad379, A379_1, c379_1, e379, hx379_0, hx379_1, hl379_1, hi379_1⟩ := at_T38 (Kd.S_reads' HO375.out).2.2 0 p379 q379
              (try rw [← Nbq38.out] at hx379_0)
              obtain rfl : ad376 = ad379 := (by injection e379)
              obtain ⟨ce379, hce379, hMe379, hcc379⟩ := Kd.S_get HO375.out z38 0 p379 (by first | exact q379 | exact of_decide_eq_true (by first | (with_reducible assumption) | assumption) | (have e_ := (Kd.S_reads' HO375.out).1; omega))
              obtain ⟨ve379_1, rfl, ge379_1⟩ := k38_openM hMe379
              have hv379_1 := hcc379 1 _ rfl
              rw [add_field _ _ 1 (by omega)] at hv379_1
              replace hv379_1 := Option.some.inj (hv379_1.symm.trans hx379_1)
              rw [hv379_1] at ge379_1
              have HL379_1 := Aside0.mk (show Kd.R Kd.string 9 _ _ _ _ ((rd_T38 t372 0).f1) from ge379_1)
              clear hv379_1 ge379_1
              clear hcc379 hce379
              have qi379 : (0 < t372.length) = True := eq_true (by omega)
              (try rw [show ((0 : Int)).toNat = 0 from rfl] at hx379_0)
              (try rw [show 0 * 2 = 0 from rfl] at hx379_0)
              (try rw [Addr.add_zero'] at hx379_0)
              (try rw [show ((0 : Int)).toNat = 0 from rfl] at hx379_1)
              (try rw [show 0 * 2 = 0 from rfl] at hx379_1)
              (try rw [Addr.add_zero'] at hx379_1)
              have HR379_1 := Aside0.mk hi379_1
              have HC379_1 := Aside0.mk hl379_1
              clear hi379_1 hl379_1
              replace p379 := eq_true p379
              replace q379 := eq_true q379
              have p380 : 0 ≤ (0 : Int) := (by omega)
              have q380 : 0 < (((rd_T38 t372 0).f1).length : Int) := of_decide_eq_true (by first | (with_reducible assumption) | assumption)
              obtain ⟨ad380, e380, hx380_0⟩ := Kd.at_string (by repeat (first | (with_reducible exact HR379_1.out) | (with_reducible refine Kd.C_alloc ?_ _) | (with_reducible refine Kd.C_drewN ?_ _) | (with_reducible refine Kd.C_drew ?_) | exact HR379_1.out)) 0 p380 q380
              cases e380
              have qi380 : (0 < ((rd_T38 t372 0).f1).length) = True := eq_true (by omega)
              (try rw [show ((0 : Int)).toNat = 0 from rfl] at hx380_0)
              (try rw [Addr.add_zero'] at hx380_0)
              replace p380 := eq_true p380
              replace q380 := eq_true q380
              have hnb41 := NB377_355.out
              have hnc41 := NB355_377.out
              obtain ⟨hcz42_0, hcz42_1, hcz42_2, hcz42_3, hcz42_4, hfz42_0, hfz42_1, hfz42_2, hfz42_3, hfz42_4⟩ := cells5_ BK377.out
              (try clear hx376_1)
              (try clear hx378_1)
              go_wp2
              go_meet
              case rel => (try rw [← Nbq38.out]); exact ⟨_, (rdOf ByteArray.empty ((rd_T38 t372 0).f1) 0), H', ⟨by have := HJ7.out; have := HJ13.out; first | omega | exact Nat.le_refl _⟩, ⟨by (with_reducible repeat (first | apply Kd.S_alloc | apply Kd.S_drewN | apply Kd.S_drew)); exact Kd.S_mono (Kd.S_far (p := ⟨gb377, 2, none⟩) (Kd.S_types HO375.out BK377.out (by decide)) (fun _ hk => hk.2) (.string (rdOf ByteArray.empty ((rd_T38 t372 0).f1) 0))) (fun _ hk => trivial)⟩, ⟨by (with_reducible repeat (first | refine blk_drewN ?_ _ | refine blk_drew ?_ | refine blk_alloc ?_ _)); refine blk_far ?_ NB355_377.out _; (with_reducible repeat (first | refine blk_drewN ?_ _ | refine blk_drew ?_ | refine blk_alloc ?_ _)); exact BK355.out⟩, ⟨by (with_reducible repeat (first | refine blk_drewN ?_ _ | refine blk_drew ?_ | refine blk_alloc ?_ _)); refine blk_put (cs := #[.int .u64 (IntKind.u64.wrap (t357)), .bool true, .string (⟨#[]⟩ : ByteArray), .int .i64 10, .string (⟨#[]⟩ : ByteArray)]) ?_ 2 _ rfl; (with_reducible repeat (first | refine blk_drewN ?_ _ | refine blk_drew ?_ | refine blk_alloc ?_ _)); exact BK377.out⟩, ⟨by repeat (first | (with_reducible first | exact HB.out | apply below_alloc | apply pw_below_drewN | apply below_drew1 | refine below_set ?_ GE355.out | refine below_set ?_ GE377.out) | exact HB.out)⟩⟩
             ·rw [if_neg c40] at H
              exact absurd H (by simp)
            ·replace c39 := Bool.eq_false_iff.mpr c39
             subst c39
             have hbz_ := BK377.out
             rw [← Nbq38.out] at hbz_
             clear BK377
             have BK377 := Aside0.mk hbz_
             clear hbz_
             rw [if_neg (show ¬ (false = true) by decide)] at H
             have H' := Aside0.mk H
             clear H
             go_wp2
             go_meet
             case rel => (try rw [← Nbq38.out]); exact ⟨_, ((⟨#[]⟩ : ByteArray)), H', ⟨by have := HJ7.out; have := HJ13.out; first | omega | exact Nat.le_refl _⟩, ⟨by (with_reducible repeat (first | apply Kd.S_alloc | apply Kd.S_drewN | apply Kd.S_drew)); exact Kd.S_mono HO375.out (fun _ hk => trivial)⟩, ⟨by (with_reducible repeat (first | refine blk_drewN ?_ _ | refine blk_drew ?_ | refine blk_alloc ?_ _)); exact BK355.out⟩, ⟨by (with_reducible repeat (first | refine blk_drewN ?_ _ | refine blk_drew ?_ | refine blk_alloc ?_ _)); exact BK377.out⟩, ⟨by repeat (first | (with_reducible first | exact HB.out | apply below_alloc | apply pw_below_drewN | apply below_drew1 | refine below_set ?_ GE355.out | refine below_set ?_ GE377.out) | exact HB.out)⟩⟩
           case rest =>
            clear HC28
            try clear c1
            try clear c2
            try clear p2
            try clear c3
            try clear c3b0
            try clear c3b1
            try clear c3b2
            try clear p3
            try clear q3
            try clear hx3
            try clear qi3
            try clear c4
            try clear c6
            try clear c6b0
            try clear c6b1
            try clear c10
            try clear c11
            try clear c12
            try clear c19
            try clear c24
            try clear c24b0
            try clear c24b1
            try clear c26
            try clear c27
            try clear c27b0
            try clear c27b1
            try clear c29
            try clear c35
            try clear p35
            try clear q35
            try clear hx35
            try clear qi35
            try clear c37
            try clear p37
            try clear q37
            try clear hx37
            try clear qi37
            try clear p38
            try clear q38
            try clear hx38
            try clear qi38
            try clear c39
            try clear c40
            try clear c40b0
            try clear c40b1
            try clear c41
            try clear hcz13_0
            try clear hcz13_1
            try clear hcz13_2
            try clear hcz13_3
            try clear hcz13_4
            try clear hcz36_0
            try clear hcz36_1
            try clear hcz36_2
            try clear hcz36_3
            try clear hcz36_4
            try clear hcz42_0
            try clear hcz42_1
            try clear hcz42_2
            try clear hcz42_3
            try clear hcz42_4
            try clear hcz5_0
            try clear hcz5_1
            try clear hcz5_2
            try clear hcz5_3
            try clear hcz5_4
            try clear hfz13_0
            try clear hfz13_1
            try clear hfz13_2
            try clear hfz13_3
            try clear hfz13_4
            try clear hfz36_0
            try clear hfz36_1
            try clear hfz36_2
            try clear hfz36_3
            try clear hfz36_4
            try clear hfz42_0
            try clear hfz42_1
            try clear hfz42_2
            try clear hfz42_3
            try clear hfz42_4
            try clear hfz5_0
            try clear hfz5_1
            try clear hfz5_2
            try clear hfz5_3
            try clear hfz5_4
            try clear hx356_0
            try clear hx376_0
            try clear hx376_1
            try clear hx378_0
            try clear hx378_1
            try clear hx379_0
            try clear hx379_1
            try clear hx380_0
            try clear p2
            try clear p3
            try clear p356
            try clear p376
            try clear p378
            try clear p379
            try clear p380
            try clear q3
            try clear q356
            try clear q376
            try clear q378
            try clear q379
            try clear q380
            obtain ⟨kq, x378002_27, HA, HJ27, HO_10, BK355, BK377, HB⟩ := hcut
            cases kq with
            | zero => exact absurd HA.out (by simp [mewsref29_Scanning.j2])
            | succ kj27 =>
             have H := HA.out
             clear HA
             simp only [mewsref29_Scanning.j2] at H
             by_cases c43 : 1 < (t372.length : Int)
             ·rw [if_pos c43] at H
              have c43b0 : decide (1 < (t372.length : Int)) = true := decide_eq_true c43
              have c43b1 : decide (1 < t372.length) = true := decide_eq_true (by omega)
              clear c43
              obtain ⟨bq44, hbq44⟩ : ∃ b_ : Bool, b_ = ((rd_T38 t372 1).f0) := ⟨_, rfl⟩
              replace H : (if bq44 = true then (if 0 < (((rd_T38 t372 1).f1).length : Int) then ((mewsref01_Parse.f kj27 (rdOf ByteArray.empty ((rd_T38 t372 1).f1) 0)).bind fun bt384 => (if bt384.2 = true then (if bt384.1 < 1 then (some (0, false, (⟨#[]⟩ : ByteArray), 0, (⟨#[]⟩ : ByteArray), (⟨#[69, 82, 82, 32, 115, 121, 110, 116, 97, 120, 32, 101, 114, 114, 111, 114]⟩ : ByteArray))) else (if bt384.1 > 1000 then (if a1 = true then (if 2 < (t372.length : Int) then (if (rd_T38 t372 2).f0 = true then (if 0 < (((rd_T38 t372 2).f1).length : Int) then (some ((IntKind.u64.wrap (t357)), ((rd_T38 t372 0).f0), x378002_27, 1000, rdOf ByteArray.empty ((rd_T38 t372 2).f1) 0, (⟨#[]⟩ : ByteArray))) else (none)) else (some ((IntKind.u64.wrap (t357)), ((rd_T38 t372 0).f0), x378002_27, 1000, (⟨#[]⟩ : ByteArray), (⟨#[]⟩ : ByteArray)))) else (none)) else (some ((IntKind.u64.wrap (t357)), ((rd_T38 t372 0).f0), x378002_27, 1000, (⟨#[]⟩ : ByteArray), (⟨#[]⟩ : ByteArray)))) else (if a1 = true then (if 2 < (t372.length : Int) then (if (rd_T38 t372 2).f0 = true then (if 0 < (((rd_T38 t372 2).f1).length : Int) then (some ((IntKind.u64.wrap (t357)), ((rd_T38 t372 0).f0), x378002_27, bt384.1, rdOf ByteArray.empty ((rd_T38 t372 2).f1) 0, (⟨#[]⟩ : ByteArray))) else (none)) else (some ((IntKind.u64.wrap (t357)), ((rd_T38 t372 0).f0), x378002_27, bt384.1, (⟨#[]⟩ : ByteArray), (⟨#[]⟩ : ByteArray)))) else (none)) else (some ((IntKind.u64.wrap (t357)), ((rd_T38 t372 0).f0), x378002_27, bt384.1, (⟨#[]⟩ : ByteArray), (⟨#[]⟩ : ByteArray)))))) else (some (0, false, (⟨#[]⟩ : ByteArray), 0, (⟨#[]⟩ : ByteArray), (⟨#[69, 82, 82, 32, 118, 97, 108, 117, 101, 32, 105, 115, 32, 110, 111, 116, 32, 97, 110, 32, 105, 110, 116, 101, 103, 101, 114, 32, 111, 114, 32, 111, 117, 116, 32, 111, 102, 32, 114, 97, 110, 103, 101]⟩ : ByteArray))))) else (none)) else (if a1 = true then (if 2 < (t372.length : Int) then (if (rd_T38 t372 2).f0 = true then (if 0 < (((rd_T38 t372 2).f1).length : Int) then (some ((IntKind.u64.wrap (t357)), ((rd_T38 t372 0).f0), x378002_27, 10, rdOf ByteArray.empty ((rd_T38 t372 2).f1) 0, (⟨#[]⟩ : ByteArray))) else (none)) else (some ((IntKind.u64.wrap (t357)), ((rd_T38 t372 0).f0), x378002_27, 10, (⟨#[]⟩ : ByteArray), (⟨#[]⟩ : ByteArray)))) else (none)) else (some ((IntKind.u64.wrap (t357)), ((rd_T38 t372 0).f0), x378002_27, 10, (⟨#[]⟩ : ByteArray), (⟨#[]⟩ : ByteArray))))) = some (r1, r2, r3, r4, r5, r6) := by rw [← hbq44] at H; exact H
              have Nbq44 := Aside0.mk hbq44
              clear hbq44
              by_cases c45 : bq44 = true
              ·subst c45
               rw [if_pos rfl] at H
               by_cases c46 : 0 < (((rd_T38 t372 1).f1).length : Int)
               ·rw [if_pos c46] at H
                have c46b0 : decide (0 < (((rd_T38 t372 1).f1).length : Int)) = true := decide_eq_true c46
                have c46b1 : decide (0 < ((rd_T38 t372 1).f1).length) = true := decide_eq_true (by omega)
                clear c46
                replace H := Option.bind_eq_some_iff.mp H
                obtain ⟨⟨t384, t385⟩, A470, H⟩ := H
                replace H : (if t385 = true then (if t384 < 1 then (some (0, false, (⟨#[]⟩ : ByteArray), 0, (⟨#[]⟩ : ByteArray), (⟨#[69, 82, 82, 32, 115, 121, 110, 116, 97, 120, 32, 101, 114, 114, 111, 114]⟩ : ByteArray))) else (if t384 > 1000 then (if a1 = true then (if 2 < (t372.length : Int) then (if (rd_T38 t372 2).f0 = true then (if 0 < (((rd_T38 t372 2).f1).length : Int) then (some ((IntKind.u64.wrap (t357)), ((rd_T38 t372 0).f0), x378002_27, 1000, rdOf ByteArray.empty ((rd_T38 t372 2).f1) 0, (⟨#[]⟩ : ByteArray))) else (none)) else (some ((IntKind.u64.wrap (t357)), ((rd_T38 t372 0).f0), x378002_27, 1000, (⟨#[]⟩ : ByteArray), (⟨#[]⟩ : ByteArray)))) else (none)) else (some ((IntKind.u64.wrap (t357)), ((rd_T38 t372 0).f0), x378002_27, 1000, (⟨#[]⟩ : ByteArray), (⟨#[]⟩ : ByteArray)))) else (if a1 = true then (if 2 < (t372.length : Int) then (if (rd_T38 t372 2).f0 = true then (if 0 < (((rd_T38 t372 2).f1).length : Int) then (some ((IntKind.u64.wrap (t357)), ((rd_T38 t372 0).f0), x378002_27, t384, rdOf ByteArray.empty ((rd_T38 t372 2).f1) 0, (⟨#[]⟩ : ByteArray))) else (none)) else (some ((IntKind.u64.wrap (t357)), ((rd_T38 t372 0).f0), x378002_27, t384, (⟨#[]⟩ : ByteArray), (⟨#[]⟩ : ByteArray)))) else (none)) else (some ((IntKind.u64.wrap (t357)), ((rd_T38 t372 0).f0), x378002_27, t384, (⟨#[]⟩ : ByteArray), (⟨#[]⟩ : ByteArray)))))) else (some (0, false, (⟨#[]⟩ : ByteArray), 0, (⟨#[]⟩ : ByteArray), (⟨#[69, 82, 82, 32, 118, 97, 108, 117, 101, 32, 105, 115, 32, 110, 111, 116, 32, 97, 110, 32, 105, 110, 116, 101, 103, 101, 114, 32, 111, 114, 32, 111, 117, 116, 32, 111, 102, 32, 114, 97, 110, 103, 101]⟩ : ByteArray)))) = some (r1, r2, r3, r4, r5, r6) := H
                have A47 := Aside0.mk A470
                clear A470
                by_cases c48 : t385 = true
                ·subst c48
                 rw [if_pos rfl] at H
                 by_cases c49 : t384 < 1
                 ·rw [if_pos c49] at H
                  have c49b0 : decide (t384 < 1) = true := decide_eq_true c49
                  clear c49
                  simp only [Option.some.injEq, Prod.mk.injEq] at H
                  obtain ⟨rfl, rfl, rfl, rfl, rfl, rfl⟩ := H
                  have p381 : 0 ≤ (1 : Int) := (by omega)
                  have q381 : 1 < (t372.length : Int) := of_decide_eq_true (by first | (with_reducible assumption) | assumption)
                  obtain ⟨ad381, A381_1, c381_1, e381, hx381_0, hx381_1, hl381_1, hi381_1⟩ := at_T38 (Kd.S_reads' HO_10.out).2.2 1 p381 q381
                  (try rw [← Nbq44.out] at hx381_0)
                  obtain rfl : ad376 = ad381 := (by injection e381)
                  obtain ⟨ce381, hce381, hMe381, hcc381⟩ := Kd.S_get HO_10.out z38 1 p381 (by first | exact q381 | exact of_decide_eq_true (by first | (with_reducible assumption) | assumption) | (have e_ := (Kd.S_reads' HO_10.out).1; omega))
                  obtain ⟨ve381_1, rfl, ge381_1⟩ := k38_openM hMe381
                  have hv381_1 := hcc381 1 _ rfl
                  rw [add_field _ _ 1 (by omega)] at hv381_1
                  replace hv381_1 := Option.some.inj (hv381_1.symm.trans hx381_1)
                  rw [hv381_1] at ge381_1
                  have HL381_1 := Aside0.mk (show Kd.R Kd.string 9 _ _ _ _ ((rd_T38 t372 1).f1) from ge381_1)
                  clear hv381_1 ge381_1
                  clear hcc381 hce381
                  (try simp only [show (1 : Int).toNat = 1 from rfl, Nat.reduceMul, Nat.reduceEqDiff, Go.Addr.add, ↓reduceIte] at hx381_0)
                  (try simp only [show (1 : Int).toNat = 1 from rfl, Nat.reduceMul, Nat.reduceEqDiff, Go.Addr.add, ↓reduceIte] at hx381_1)
                  have qi381 : (1 < t372.length) = True := eq_true (by omega)
                  (try rw [show ((1 : Int)).toNat = 1 from rfl] at hx381_0)
                  (try rw [show 1 * 2 = 2 from rfl] at hx381_0)
                  (try rw [show ((1 : Int)).toNat = 1 from rfl] at hx381_1)
                  (try rw [show 1 * 2 = 2 from rfl] at hx381_1)
                  have HR381_1 := Aside0.mk hi381_1
                  have HC381_1 := Aside0.mk hl381_1
                  clear hi381_1 hl381_1
                  replace p381 := eq_true p381
                  replace q381 := eq_true q381
                  have p382 : 0 ≤ (1 : Int) := (by omega)
                  have q382 : 1 < (t372.length : Int) := of_decide_eq_true (by first | (with_reducible assumption) | assumption)
                  obtain ⟨ad382, A382_1, c382_1, e382, hx382_0, hx382_1, hl382_1, hi382_1⟩ := at_T38 (Kd.S_reads' HO_10.out).2.2 1 p382 q382
                  (try rw [← Nbq44.out] at hx382_0)
                  obtain rfl : ad376 = ad382 := (by injection e382)
                  obtain ⟨ce382, hce382, hMe382, hcc382⟩ := Kd.S_get HO_10.out z38 1 p382 (by first | exact q382 | exact of_decide_eq_true (by first | (with_reducible assumption) | assumption) | (have e_ := (Kd.S_reads' HO_10.out).1; omega))
                  obtain ⟨ve382_1, rfl, ge382_1⟩ := k38_openM hMe382
                  have hv382_1 := hcc382 1 _ rfl
                  rw [add_field _ _ 1 (by omega)] at hv382_1
                  replace hv382_1 := Option.some.inj (hv382_1.symm.trans hx382_1)
                  rw [hv382_1] at ge382_1
                  have HL382_1 := Aside0.mk (show Kd.R Kd.string 9 _ _ _ _ ((rd_T38 t372 1).f1) from ge382_1)
                  clear hv382_1 ge382_1
                  clear hcc382 hce382
                  (try simp only [show (1 : Int).toNat = 1 from rfl, Nat.reduceMul, Nat.reduceEqDiff, Go.Addr.add, ↓reduceIte] at hx382_0)
                  (try simp only [show (1 : Int).toNat = 1 from rfl, Nat.reduceMul, Nat.reduceEqDiff, Go.Addr.add, ↓reduceIte] at hx382_1)
                  have qi382 : (1 < t372.length) = True := eq_true (by omega)
                  (try rw [show ((1 : Int)).toNat = 1 from rfl] at hx382_0)
                  (try rw [show 1 * 2 = 2 from rfl] at hx382_0)
                  (try rw [show ((1 : Int)).toNat = 1 from rfl] at hx382_1)
                  (try rw [show 1 * 2 = 2 from rfl] at hx382_1)
                  have HR382_1 := Aside0.mk hi382_1
                  have HC382_1 := Aside0.mk hl382_1
                  clear hi382_1 hl382_1
                  replace p382 := eq_true p382
                  replace q382 := eq_true q382
                  have ea_ := Option.some.inj (hx381_1.symm.trans hx382_1)
                  injection ea_ with ea_ en_ ec_
                  subst ea_
                  subst ec_
                  clear en_
                  have p383 : 0 ≤ (0 : Int) := (by omega)
                  have q383 : 0 < (((rd_T38 t372 1).f1).length : Int) := of_decide_eq_true (by first | (with_reducible assumption) | assumption)
                  obtain ⟨ad383, e383, hx383_0⟩ := Kd.at_string (by repeat (first | (with_reducible exact HR382_1.out) | (with_reducible refine Kd.C_alloc ?_ _) | (with_reducible refine Kd.C_drewN ?_ _) | (with_reducible refine Kd.C_drew ?_) | exact HR382_1.out)) 0 p383 q383
                  cases e383
                  have qi383 : (0 < ((rd_T38 t372 1).f1).length) = True := eq_true (by omega)
                  (try rw [show ((0 : Int)).toNat = 0 from rfl] at hx383_0)
                  (try rw [Addr.add_zero'] at hx383_0)
                  replace p383 := eq_true p383
                  replace q383 := eq_true q383
                  go_wp2_with (first | ((with_reducible refine gate_callee (f := 29) rfl ?_); refine goesL_ (some 78) rfl rfl Try.func29 (by kernel_rfl) rfl #[.string (rdOf ByteArray.empty ((rd_T38 t372 1).f1) 0)] rfl (by (try simp only [List.map_toArray, List.map_cons, List.map_nil]); first | done | rfl | (simp only [List.length_drop, List.length_take]; rfl)) ?_; (with_reducible refine (mewsref01_Parse.calls kj27 (rdOf ByteArray.empty ((rd_T38 t372 1).f1) 0) t384 true _ A47.out).mono ?_); rintro e w50 ⟨rfl, hb⟩; refine ⟨_, rfl, ?_⟩; have n0_ := Aside0.mk (Kd.S_below (by (with_reducible repeat (first | apply Kd.S_alloc | apply Kd.S_drewN | apply Kd.S_drew)); exact HO_10.out) hb); have n1_ := Aside0.mk (Kd.R_below (by (with_reducible repeat (first | apply Kd.R_alloc | apply Kd.R_drewN | apply Kd.R_drew)); exact HL381_1.out) hb); have n2_ := Aside0.mk (Kd.R_below (by (with_reducible repeat (first | apply Kd.R_alloc | apply Kd.R_drewN | apply Kd.R_drew)); exact HL382_1.out) hb); have n3_ := Aside0.mk (blk_below (g := gb355) (o := .cells #[.int .u64 0, .bool false, .string (⟨#[]⟩ : ByteArray), .int .i64 0, .string (⟨#[]⟩ : ByteArray)] 52 (0, 0)) (by (with_reducible repeat (first | refine blk_drewN ?_ _ | refine blk_drew ?_ | refine blk_alloc ?_ _)); exact BK355.out) hb); have n4_ := Aside0.mk (blk_below (g := gb377) (o := .cells #[.int .u64 (IntKind.u64.wrap (t357)), .bool ((rd_T38 t372 0).f0), .string x378002_27, .int .i64 10, .string (⟨#[]⟩ : ByteArray)] 52 (0, 0)) (by (with_reducible repeat (first | refine blk_drewN ?_ _ | refine blk_drew ?_ | refine blk_alloc ?_ _)); exact BK377.out) hb); have n5_ := Aside0.mk (Kd.C_below (by repeat (first | (with_reducible exact HR381_1.out) | (with_reducible refine Kd.C_alloc ?_ _) | (with_reducible refine Kd.C_drewN ?_ _) | (with_reducible refine Kd.C_drew ?_) | exact HR381_1.out)) hb); have n6_ := Aside0.mk (Kd.C_below (by repeat (first | (with_reducible exact HR382_1.out) | (with_reducible refine Kd.C_alloc ?_ _) | (with_reducible refine Kd.C_drewN ?_ _) | (with_reducible refine Kd.C_drew ?_) | exact HR382_1.out)) hb); have n7_ := Aside0.mk (below_step (by repeat (first | (with_reducible first | exact HB.out | apply below_alloc | apply pw_below_drewN | apply below_drew1 | refine below_set ?_ GE355.out | refine below_set ?_ GE377.out) | exact HB.out)) hb); clear HO_10; clear HL381_1; clear HL382_1; clear BK355; clear BK377; clear HR381_1; clear HR382_1; clear HB; have HO_10 := n0_; have HL381_1 := n1_; have HL382_1 := n2_; have BK355 := n3_; have BK377 := n4_; have HR381_1 := n5_; have HR382_1 := n6_; have HB := n7_; clear n0_ n1_ n2_ n3_ n4_ n5_ n6_ n7_; (try clear hb); (try clear hb2); (try clear hk); (try clear hi); have hnb51 := NB355_377.out; have hnc51 := NB377_355.out; obtain ⟨hcz52_0, hcz52_1, hcz52_2, hcz52_3, hcz52_4, hfz52_0, hfz52_1, hfz52_2, hfz52_3, hfz52_4⟩ := cells5_ BK355.out))
                  refine bodyPost_ret (results_ct rfl _ _ gb355 52 #[.int .u64 0, .bool false, .string (⟨#[]⟩ : ByteArray), .int .i64 0, .string (⟨#[]⟩ : ByteArray)] (0, 0) _ rfl (by (with_reducible repeat (first | refine blk_drewN ?_ _ | refine blk_drew ?_ | refine blk_alloc ?_ _)); refine blk_put (cs := #[.int .u64 0, .bool false, .string (⟨#[]⟩ : ByteArray), .int .i64 0, .string (⟨#[]⟩ : ByteArray)]) ?_ 4 _ rfl; (with_reducible repeat (first | refine blk_drewN ?_ _ | refine blk_drew ?_ | refine blk_alloc ?_ _)); refine blk_put (cs := #[.int .u64 0, .bool false, .string (⟨#[]⟩ : ByteArray), .int .i64 0, .string (⟨#[]⟩ : ByteArray)]) ?_ 3 _ rfl; (with_reducible repeat (first | refine blk_drewN ?_ _ | refine blk_drew ?_ | refine blk_alloc ?_ _)); refine blk_put (cs := #[.int .u64 0, .bool false, .string (⟨#[]⟩ : ByteArray), .int .i64 0, .string (⟨#[]⟩ : ByteArray)]) ?_ 2 _ rfl; (with_reducible repeat (first | refine blk_drewN ?_ _ | refine blk_drew ?_ | refine blk_alloc ?_ _)); refine blk_put (cs := #[.int .u64 0, .bool false, .string (⟨#[]⟩ : ByteArray), .int .i64 0, .string (⟨#[]⟩ : ByteArray)]) ?_ 1 _ rfl; (with_reducible repeat (first | refine blk_drewN ?_ _ | refine blk_drew ?_ | refine blk_alloc ?_ _)); refine blk_put (cs := #[.int .u64 0, .bool false, .string (⟨#[]⟩ : ByteArray), .int .i64 0, .string (⟨#[]⟩ : ByteArray)]) ?_ 0 _ rfl; (with_reducible repeat (first | refine blk_drewN ?_ _ | refine blk_drew ?_ | refine blk_alloc ?_ _)); exact BK355.out) Try.underlying52 rfl (by kernel_rfl)) rfl ?_
                  exact ⟨by first | rfl | (simp [errW_none, errW_some] <;> rfl) | (simp [*, errW_none, errW_some] <;> rfl), by repeat (first | (with_reducible first | exact HB.out | apply below_alloc | apply pw_below_drewN | apply below_drew1 | refine below_set ?_ GE355.out | refine below_set ?_ GE377.out) | exact HB.out)⟩
                 ·rw [if_neg c49] at H
                  have c49b0 : decide (t384 < 1) = false := decide_eq_false c49
                  clear c49
                  by_cases c53 : t384 > 1000
                  ·rw [if_pos c53] at H
                   have c53b0 : decide (1000 < t384) = true := decide_eq_true c53
                   clear c53
                   by_cases c54 : a1 = true
                   ·subst c54
                    rw [if_pos rfl] at H
                    by_cases c55 : 2 < (t372.length : Int)
                    ·rw [if_pos c55] at H
                     have c55b0 : decide (2 < (t372.length : Int)) = true := decide_eq_true c55
                     have c55b1 : decide (2 < t372.length) = true := decide_eq_true (by omega)
                     clear c55
                     obtain ⟨bq56, hbq56⟩ : ∃ b_ : Bool, b_ = ((rd_T38 t372 2).f0) := ⟨_, rfl⟩
                     replace H : (if bq56 = true then (if 0 < (((rd_T38 t372 2).f1).length : Int) then (some ((IntKind.u64.wrap (t357)), ((rd_T38 t372 0).f0), x378002_27, 1000, rdOf ByteArray.empty ((rd_T38 t372 2).f1) 0, (⟨#[]⟩ : ByteArray))) else (none)) else (some ((IntKind.u64.wrap (t357)), ((rd_T38 t372 0).f0), x378002_27, 1000, (⟨#[]⟩ : ByteArray), (⟨#[]⟩ : ByteArray)))) = some (r1, r2, r3, r4, r5, r6) := by rw [← hbq56] at H; exact H
                     have Nbq56 := Aside0.mk hbq56
                     clear hbq56
                     by_cases c57 : bq56 = true
                     ·subst c57
                      rw [if_pos rfl] at H
                      by_cases c58 : 0 < (((rd_T38 t372 2).f1).length : Int)
                      ·rw [if_pos c58] at H
                       have c58b0 : decide (0 < (((rd_T38 t372 2).f1).length : Int)) = true := decide_eq_true c58
                       have c58b1 : decide (0 < ((rd_T38 t372 2).f1).length) = true := decide_eq_true (by omega)
                       clear c58
                       simp only [Option.some.injEq, Prod.mk.injEq] at H
                       obtain ⟨rfl, rfl, rfl, rfl, rfl, rfl⟩ := H
                       have p381 : 0 ≤ (1 : Int) := (by omega)
                       have q381 : 1 < (t372.length : Int) := of_decide_eq_true (by first | (with_reducible assumption) | assumption)
                       obtain ⟨ad381, A381_1, c381_1, e381, hx381_0, hx381_1, hl381_1, hi381_1⟩ := at_T38 (Kd.S_reads' HO_10.out).2.2 1 p381 q381
                       (try rw [← Nbq44.out] at hx381_0)
                       (try rw [← Nbq56.out] at hx381_0)
                       obtain rfl : ad376 = ad381 := (by injection e381)
                       obtain ⟨ce381, hce381, hMe381, hcc381⟩ := Kd.S_get HO_10.out z38 1 p381 (by first | exact q381 | exact of_decide_eq_true (by first | (with_reducible assumption) | assumption) | (have e_ := (Kd.S_reads' HO_10.out).1; omega))
                       obtain ⟨ve381_1, rfl, ge381_1⟩ := k38_openM hMe381
                       have hv381_1 := hcc381 1 _ rfl
                       rw [add_field _ _ 1 (by omega)] at hv381_1
                       replace hv381_1 := Option.some.inj (hv381_1.symm.trans hx381_1)
                       rw [hv381_1] at ge381_1
                       have HL381_1 := Aside0.mk (show Kd.R Kd.string 9 _ _ _ _ ((rd_T38 t372 1).f1) from ge381_1)
                       clear hv381_1 ge381_1
                       clear hcc381 hce381
                       (try simp only [show (1 : Int).toNat = 1 from rfl, Nat.reduceMul, Nat.reduceEqDiff, Go.Addr.add, ↓reduceIte] at hx381_0)
                       (try simp only [show (1 : Int).toNat = 1 from rfl, Nat.reduceMul, Nat.reduceEqDiff, Go.Addr.add, ↓reduceIte] at hx381_1)
                       have qi381 : (1 < t372.length) = True := eq_true (by omega)
                       (try rw [show ((1 : Int)).toNat = 1 from rfl] at hx381_0)
                       (try rw [show 1 * 2 = 2 from rfl] at hx381_0)
                       (try rw [show ((1 : Int)).toNat = 1 from rfl] at hx381_1)
                       (try rw [show 1 * 2 = 2 from rfl] at hx381_1)
                       have HR381_1 := Aside0.mk hi381_1
                       have HC381_1 := Aside0.mk hl381_1
                       clear hi381_1 hl381_1
                       replace p381 := eq_true p381
                       replace q381 := eq_true q381
                       have p382 : 0 ≤ (1 : Int) := (by omega)
                       have q382 : 1 < (t372.length : Int) := of_decide_eq_true (by first | (with_reducible assumption) | assumption)
                       obtain ⟨ad382, A382_1, c382_1, e382, hx382_0, hx382_1, hl382_1, hi382_1⟩ := at_T38 (Kd.S_reads' HO_10.out).2.2 1 p382 q382
                       (try rw [← Nbq44.out] at hx382_0)
                       (try rw [← Nbq56.out] at hx382_0)
                       obtain rfl : ad376 = ad382 := (by injection e382)
                       obtain ⟨ce382, hce382, hMe382, hcc382⟩ := Kd.S_get HO_10.out z38 1 p382 (by first | exact q382 | exact of_decide_eq_true (by first | (with_reducible assumption) | assumption) | (have e_ := (Kd.S_reads' HO_10.out).1; omega))
                       obtain ⟨ve382_1, rfl, ge382_1⟩ := k38_openM hMe382
                       have hv382_1 := hcc382 1 _ rfl
                       rw [add_field _ _ 1 (by omega)] at hv382_1
                       replace hv382_1 := Option.some.inj (hv382_1.symm.trans hx382_1)
                       rw [hv382_1] at ge382_1
                       have HL382_1 := Aside0.mk (show Kd.R Kd.string 9 _ _ _ _ ((rd_T38 t372 1).f1) from ge382_1)
                       clear hv382_1 ge382_1
                       clear hcc382 hce382
                       (try simp only [show (1 : Int).toNat = 1 from rfl, Nat.reduceMul, Nat.reduceEqDiff, Go.Addr.add, ↓reduceIte] at hx382_0)
                       (try simp only [show (1 : Int).toNat = 1 from rfl, Nat.reduceMul, Nat.reduceEqDiff, Go.Addr.add, ↓reduceIte] at hx382_1)
                       have qi382 : (1 < t372.length) = True := eq_true (by omega)
                       (try rw [show ((1 : Int)).toNat = 1 from rfl] at hx382_0)
                       (try rw [show 1 * 2 = 2 from rfl] at hx382_0)
                       (try rw [show ((1 : Int)).toNat = 1 from rfl] at hx382_1)
                       (try rw [show 1 * 2 = 2 from rfl] at hx382_1)
                       have HR382_1 := Aside0.mk hi382_1
                       have HC382_1 := Aside0.mk hl382_1
                       clear hi382_1 hl382_1
                       replace p382 := eq_true p382
                       replace q382 := eq_true q382
                       have ea_ := Option.some.inj (hx381_1.symm.trans hx382_1)
                       injection ea_ with ea_ en_ ec_
                       subst ea_
                       subst ec_
                       clear en_
                       have p383 : 0 ≤ (0 : Int) := (by omega)
                       have q383 : 0 < (((rd_T38 t372 1).f1).length : Int) := of_decide_eq_true (by first | (with_reducible assumption) | assumption)
                       obtain ⟨ad383, e383, hx383_0⟩ := Kd.at_string (by repeat (first | (with_reducible exact HR382_1.out) | (with_reducible refine Kd.C_alloc ?_ _) | (with_reducible refine Kd.C_drewN ?_ _) | (with_reducible refine Kd.C_drew ?_) | exact HR382_1.out)) 0 p383 q383
                       cases e383
                       have qi383 : (0 < ((rd_T38 t372 1).f1).length) = True := eq_true (by omega)
                       (try rw [show ((0 : Int)).toNat = 0 from rfl] at hx383_0)
                       (try rw [Addr.add_zero'] at hx383_0)
                       replace p383 := eq_true p383
                       replace q383 := eq_true q383
                       go_wp2_with (first | ((with_reducible refine gate_callee (f := 29) rfl ?_); refine goesL_ (some 78) rfl rfl Try.func29 (by kernel_rfl) rfl #[.string (rdOf ByteArray.empty ((rd_T38 t372 1).f1) 0)] rfl (by (try simp only [List.map_toArray, List.map_cons, List.map_nil]); first | done | rfl | (simp only [List.length_drop, List.length_take]; rfl)) ?_; (with_reducible refine (mewsref01_Parse.calls kj27 (rdOf ByteArray.empty ((rd_T38 t372 1).f1) 0) t384 true _ A47.out).mono ?_); rintro e w59 ⟨rfl, hb⟩; refine ⟨_, rfl, ?_⟩; have n0_ := Aside0.mk (Kd.S_below (by (with_reducible repeat (first | apply Kd.S_alloc | apply Kd.S_drewN | apply Kd.S_drew)); exact HO_10.out) hb); have n1_ := Aside0.mk (Kd.R_below (by (with_reducible repeat (first | apply Kd.R_alloc | apply Kd.R_drewN | apply Kd.R_drew)); exact HL381_1.out) hb); have n2_ := Aside0.mk (Kd.R_below (by (with_reducible repeat (first | apply Kd.R_alloc | apply Kd.R_drewN | apply Kd.R_drew)); exact HL382_1.out) hb); have n3_ := Aside0.mk (blk_below (g := gb355) (o := .cells #[.int .u64 0, .bool false, .string (⟨#[]⟩ : ByteArray), .int .i64 0, .string (⟨#[]⟩ : ByteArray)] 52 (0, 0)) (by (with_reducible repeat (first | refine blk_drewN ?_ _ | refine blk_drew ?_ | refine blk_alloc ?_ _)); exact BK355.out) hb); have n4_ := Aside0.mk (blk_below (g := gb377) (o := .cells #[.int .u64 (IntKind.u64.wrap (t357)), .bool ((rd_T38 t372 0).f0), .string x378002_27, .int .i64 10, .string (⟨#[]⟩ : ByteArray)] 52 (0, 0)) (by (with_reducible repeat (first | refine blk_drewN ?_ _ | refine blk_drew ?_ | refine blk_alloc ?_ _)); exact BK377.out) hb); have n5_ := Aside0.mk (Kd.C_below (by repeat (first | (with_reducible exact HR381_1.out) | (with_reducible refine Kd.C_alloc ?_ _) | (with_reducible refine Kd.C_drewN ?_ _) | (with_reducible refine Kd.C_drew ?_) | exact HR381_1.out)) hb); have n6_ := Aside0.mk (Kd.C_below (by repeat (first | (with_reducible exact HR382_1.out) | (with_reducible refine Kd.C_alloc ?_ _) | (with_reducible refine Kd.C_drewN ?_ _) | (with_reducible refine Kd.C_drew ?_) | exact HR382_1.out)) hb); have n7_ := Aside0.mk (below_step (by repeat (first | (with_reducible first | exact HB.out | apply below_alloc | apply pw_below_drewN | apply below_drew1 | refine below_set ?_ GE355.out | refine below_set ?_ GE377.out) | exact HB.out)) hb); clear HO_10; clear HL381_1; clear HL382_1; clear BK355; clear BK377; clear HR381_1; clear HR382_1; clear HB; have HO_10 := n0_; have HL381_1 := n1_; have HL382_1 := n2_; have BK355 := n3_; have BK377 := n4_; have HR381_1 := n5_; have HR382_1 := n6_; have HB := n7_; clear n0_ n1_ n2_ n3_ n4_ n5_ n6_ n7_; (try clear hb); (try clear hb2); (try clear hk); (try clear hi); have hnb60 := NB377_355.out; have hnc60 := NB355_377.out; obtain ⟨hcz61_0, hcz61_1, hcz61_2, hcz61_3, hcz61_4, hfz61_0, hfz61_1, hfz61_2, hfz61_3, hfz61_4⟩ := cells5_ BK377.out) | ((with_reducible refine gate_store (t := 3) (p := 90) rfl ?_); refine store_event (t := 3) (p := 90) (v := ?vo_w62) (w1 := (w59.setCell ⟨gb377, 3, none⟩ (.int .i64 1000))) ?hg ?ho ?hn ?hr ?_; (case ho => rfl); (case hg => rfl); (case hn => rfl); (case hr => first | (go_simp; done) | (go_simp; rfl)); intro w62 hw; have n0_ : Aside0 (Kd.S k38 38 w62 w.heap.size (fun _ => True) (.slice (some ad376) t372.length co33) t372) := ⟨(by rw [hw]; exact (by (with_reducible repeat (first | apply Kd.S_alloc | apply Kd.S_drewN | apply Kd.S_drew)); exact Kd.S_mono (Kd.S_far (p := ⟨gb377, 3, none⟩) (Kd.S_types HO_10.out BK377.out (by decide)) (fun _ hk => hk.2) (.int .i64 1000)) (fun _ hk => trivial)))⟩; have n1_ : Aside0 (Kd.R Kd.string 9 w62 w.heap.size (fun k_ => some k_ ≠ (.slice (some ad376) t372.length co33 : Value).ownBlock) (.slice (some ad383) ((rd_T38 t372 1).f1).length c381_1) ((rd_T38 t372 1).f1)) := ⟨(by rw [hw]; exact (by (with_reducible repeat (first | apply Kd.R_alloc | apply Kd.R_drewN | apply Kd.R_drew)); exact Kd.R_mono (Kd.R_far (p := ⟨gb377, 3, none⟩) (Kd.R_types HL381_1.out BK377.out (by decide)) (fun _ hk => hk.2) (.int .i64 1000)) (fun _ hk => hk.1.2)))⟩; have n2_ : Aside0 (Kd.R Kd.string 9 w62 w.heap.size (fun k_ => some k_ ≠ (.slice (some ad376) t372.length co33 : Value).ownBlock) (.slice (some ad383) ((rd_T38 t372 1).f1).length c381_1) ((rd_T38 t372 1).f1)) := ⟨(by rw [hw]; exact (by (with_reducible repeat (first | apply Kd.R_alloc | apply Kd.R_drewN | apply Kd.R_drew)); exact Kd.R_mono (Kd.R_far (p := ⟨gb377, 3, none⟩) (Kd.R_types HL382_1.out BK377.out (by decide)) (fun _ hk => hk.2) (.int .i64 1000)) (fun _ hk => hk.1.2)))⟩; have n3_ : Aside0 (w62.heap[gb355]? = some (.cells #[.int .u64 0, .bool false, .string (⟨#[]⟩ : ByteArray), .int .i64 0, .string (⟨#[]⟩ : ByteArray)] 52 (0, 0))) := ⟨(by rw [hw]; exact (by (with_reducible repeat (first | refine blk_drewN ?_ _ | refine blk_drew ?_ | refine blk_alloc ?_ _)); refine blk_far ?_ NB355_377.out _; (with_reducible repeat (first | refine blk_drewN ?_ _ | refine blk_drew ?_ | refine blk_alloc ?_ _)); exact BK355.out))⟩; have n4_ : Aside0 (w62.heap[gb377]? = some (.cells #[.int .u64 (IntKind.u64.wrap (t357)), .bool ((rd_T38 t372 0).f0), .string x378002_27, .int .i64 1000, .string (⟨#[]⟩ : ByteArray)] 52 (0, 0))) := ⟨(by rw [hw]; exact (by (with_reducible repeat (first | refine blk_drewN ?_ _ | refine blk_drew ?_ | refine blk_alloc ?_ _)); refine blk_put (cs := #[.int .u64 (IntKind.u64.wrap (t357)), .bool ((rd_T38 t372 0).f0), .string x378002_27, .int .i64 10, .string (⟨#[]⟩ : ByteArray)]) ?_ 3 _ rfl; (with_reducible repeat (first | refine blk_drewN ?_ _ | refine blk_drew ?_ | refine blk_alloc ?_ _)); exact BK377.out))⟩; have n5_ : Aside0 (Below w.heap.size w w62) := ⟨(by rw [hw]; exact (by repeat (first | (with_reducible first | exact HB.out | apply below_alloc | apply pw_below_drewN | apply below_drew1 | refine below_set ?_ GE355.out | refine below_set ?_ GE377.out) | exact HB.out)))⟩; clear hw; clear HO_10; clear HL381_1; clear HL382_1; clear BK355; clear BK377; clear HB; have HO_10 := n0_; have HL381_1 := n1_; have HL382_1 := n2_; have BK355 := n3_; have BK377 := n4_; have HB := n5_; clear n0_ n1_ n2_ n3_ n4_ n5_; have p386 : 0 ≤ (2 : Int) := (by omega); have q386 : 2 < (t372.length : Int) := of_decide_eq_true (by first | (with_reducible assumption) | assumption); obtain ⟨ad386, A386_1, c386_1, e386, hx386_0, hx386_1, hl386_1, hi386_1⟩ := at_T38 (Kd.S_reads' HO_10.out).2.2 2 p386 q386; (try rw [← Nbq44.out] at hx386_0); (try rw [← Nbq56.out] at hx386_0); obtain rfl : ad376 = ad386 := (by injection e386); obtain ⟨ce386, hce386, hMe386, hcc386⟩ := Kd.S_get HO_10.out z38 2 p386 (by first | exact q386 | exact of_decide_eq_true (by first | (with_reducible assumption) | assumption) | (have e_ := (Kd.S_reads' HO_10.out).1; omega)); obtain ⟨ve386_1, rfl, ge386_1⟩ := k38_openM hMe386; have hv386_1 := hcc386 1 _ rfl; rw [add_field _ _ 1 (by omega)] at hv386_1; replace hv386_1 := Option.some.inj (hv386_1.symm.trans hx386_1); rw [hv386_1] at ge386_1; have HL386_1 := Aside0.mk (show Kd.R Kd.string 9 _ _ _ _ ((rd_T38 t372 2).f1) from ge386_1); clear hv386_1 ge386_1; clear hcc386 hce386; (try simp only [show (2 : Int).toNat = 2 from rfl, Nat.reduceMul, Nat.reduceEqDiff, Go.Addr.add, ↓reduceIte] at hx386_0); (try simp only [show (2 : Int).toNat = 2 from rfl, Nat.reduceMul, Nat.reduceEqDiff, Go.Addr.add, ↓reduceIte] at hx386_1); have qi386 : (2 < t372.length) = True := eq_true (by omega); (try rw [show ((2 : Int)).toNat = 2 from rfl] at hx386_0); (try rw [show 2 * 2 = 4 from rfl] at hx386_0); (try rw [show ((2 : Int)).toNat = 2 from rfl] at hx386_1); (try rw [show 2 * 2 = 4 from rfl] at hx386_1); have HR386_1 := Aside0.mk hi386_1; have HC386_1 := Aside0.mk hl386_1; clear hi386_1 hl386_1; replace p386 := eq_true p386; replace q386 := eq_true q386; have p387 : 0 ≤ (2 : Int) := (by omega); have q387 : 2 < (t372.length : Int) := of_decide_eq_true (by first | (with_reducible assumption) | assumption); obtain ⟨ad387, A387_1, c387_1, e387, hx387_0, hx387_1, hl387_1, hi387_1⟩ := at_T38 (Kd.S_reads' HO_10.out).2.2 2 p387 q387; (try rw [← Nbq44.out] at hx387_0); (try rw [← Nbq56.out] at hx387_0); obtain rfl : ad376 = ad387 := (by injection e387); obtain ⟨ce387, hce387, hMe387, hcc387⟩ := Kd.S_get HO_10.out z38 2 p387 (by first | exact q387 | exact of_decide_eq_true (by first | (with_reducible assumption) | assumption) | (have e_ := (Kd.S_reads' HO_10.out).1; omega)); obtain ⟨ve387_1, rfl, ge387_1⟩ := k38_openM hMe387; have hv387_1 := hcc387 1 _ rfl; rw [add_field _ _ 1 (by omega)] at hv387_1; replace hv387_1 := Option.some.inj (hv387_1.symm.trans hx387_1); rw [hv387_1] at ge387_1; have HL387_1 := Aside0.mk (show Kd.R Kd.string 9 _ _ _ _ ((rd_T38 t372 2).f1) from ge387_1); clear hv387_1 ge387_1; clear hcc387 hce387; (try simp only [show (2 : Int).toNat = 2 from rfl, Nat.reduceMul, Nat.reduceEqDiff, Go.Addr.add, ↓reduceIte] at hx387_0); (try simp only [show (2 : Int).toNat = 2 from rfl, Nat.reduceMul, Nat.reduceEqDiff, Go.Addr.add, ↓reduceIte] at hx387_1); have qi387 : (2 < t372.length) = True := eq_true (by omega); (try rw [show ((2 : Int)).toNat = 2 from rfl] at hx387_0); (try rw [show 2 * 2 = 4 from rfl] at hx387_0); (try rw [show ((2 : Int)).toNat = 2 from rfl] at hx387_1); (try rw [show 2 * 2 = 4 from rfl] at hx387_1); have HR387_1 := Aside0.mk hi387_1; have HC387_1 := Aside0.mk hl387_1; clear hi387_1 hl387_1; replace p387 := eq_true p387; replace q387 := eq_true q387; have ea_ := Option.some.inj (hx386_1.symm.trans hx387_1); injection ea_ with ea_ en_ ec_; subst ea_; subst ec_; clear en_; have p388 : 0 ≤ (0 : Int) := (by omega); have q388 : 0 < (((rd_T38 t372 2).f1).length : Int) := of_decide_eq_true (by first | (with_reducible assumption) | assumption); obtain ⟨ad388, e388, hx388_0⟩ := Kd.at_string (by repeat (first | (with_reducible exact HR387_1.out) | (with_reducible refine Kd.C_alloc ?_ _) | (with_reducible refine Kd.C_drewN ?_ _) | (with_reducible refine Kd.C_drew ?_) | exact HR387_1.out)) 0 p388 q388; cases e388; have qi388 : (0 < ((rd_T38 t372 2).f1).length) = True := eq_true (by omega); (try rw [show ((0 : Int)).toNat = 0 from rfl] at hx388_0); (try rw [Addr.add_zero'] at hx388_0); replace p388 := eq_true p388; replace q388 := eq_true q388; obtain ⟨hcz63_0, hcz63_1, hcz63_2, hcz63_3, hcz63_4, hfz63_0, hfz63_1, hfz63_2, hfz63_3, hfz63_4⟩ := cells5_ BK377.out; obtain ⟨hcz64_0, hcz64_1, hcz64_2, hcz64_3, hcz64_4, hfz64_0, hfz64_1, hfz64_2, hfz64_3, hfz64_4⟩ := cells5_ BK355.out))
                       refine bodyPost_ret (results_ct rfl _ _ gb355 52 #[.int .u64 (IntKind.u64.wrap (t357)), .bool ((rd_T38 t372 0).f0), .string x378002_27, .int .i64 1000, .string (rdOf ByteArray.empty ((rd_T38 t372 2).f1) 0)] (0, 0) _ rfl (by (with_reducible repeat (first | refine blk_drewN ?_ _ | refine blk_drew ?_ | refine blk_alloc ?_ _)); refine blk_put (cs := #[.int .u64 (IntKind.u64.wrap (t357)), .bool ((rd_T38 t372 0).f0), .string x378002_27, .int .i64 1000, .string (⟨#[]⟩ : ByteArray)]) ?_ 4 _ rfl; (with_reducible repeat (first | refine blk_drewN ?_ _ | refine blk_drew ?_ | refine blk_alloc ?_ _)); refine blk_put (cs := #[.int .u64 (IntKind.u64.wrap (t357)), .bool ((rd_T38 t372 0).f0), .string x378002_27, .int .i64 0, .string (⟨#[]⟩ : ByteArray)]) ?_ 3 _ rfl; (with_reducible repeat (first | refine blk_drewN ?_ _ | refine blk_drew ?_ | refine blk_alloc ?_ _)); refine blk_put (cs := #[.int .u64 (IntKind.u64.wrap (t357)), .bool ((rd_T38 t372 0).f0), .string (⟨#[]⟩ : ByteArray), .int .i64 0, .string (⟨#[]⟩ : ByteArray)]) ?_ 2 _ rfl; (with_reducible repeat (first | refine blk_drewN ?_ _ | refine blk_drew ?_ | refine blk_alloc ?_ _)); refine blk_put (cs := #[.int .u64 (IntKind.u64.wrap (t357)), .bool false, .string (⟨#[]⟩ : ByteArray), .int .i64 0, .string (⟨#[]⟩ : ByteArray)]) ?_ 1 _ rfl; (with_reducible repeat (first | refine blk_drewN ?_ _ | refine blk_drew ?_ | refine blk_alloc ?_ _)); refine blk_put (cs := #[.int .u64 0, .bool false, .string (⟨#[]⟩ : ByteArray), .int .i64 0, .string (⟨#[]⟩ : ByteArray)]) ?_ 0 _ rfl; (with_reducible repeat (first | refine blk_drewN ?_ _ | refine blk_drew ?_ | refine blk_alloc ?_ _)); refine blk_far ?_ NB355_377.out _; (with_reducible repeat (first | refine blk_drewN ?_ _ | refine blk_drew ?_ | refine blk_alloc ?_ _)); exact BK355.out) Try.underlying52 rfl (by kernel_rfl)) rfl ?_
                       exact ⟨by first | rfl | (simp [errW_none, errW_some] <;> rfl) | (simp [*, errW_none, errW_some] <;> rfl), by repeat (first | (with_reducible first | exact HB.out | apply below_alloc | apply pw_below_drewN | apply below_drew1 | refine below_set ?_ GE355.out | refine below_set ?_ GE377.out) | exact HB.out)⟩
                      ·rw [if_neg c58] at H
                       exact absurd H (by simp)
                     ·replace c57 := Bool.eq_false_iff.mpr c57
                      subst c57
                      rw [if_neg (show ¬ (false = true) by decide)] at H
                      simp only [Option.some.injEq, Prod.mk.injEq] at H
                      obtain ⟨rfl, rfl, rfl, rfl, rfl, rfl⟩ := H
                      have p381 : 0 ≤ (1 : Int) := (by omega)
                      have q381 : 1 < (t372.length : Int) := of_decide_eq_true (by first | (with_reducible assumption) | assumption)
                      obtain ⟨ad381, A381_1, c381_1, e381, hx381_0, hx381_1, hl381_1, hi381_1⟩ := at_T38 (Kd.S_reads' HO_10.out).2.2 1 p381 q381
                      (try rw [← Nbq44.out] at hx381_0)
                      (try rw [← Nbq56.out] at hx381_0)
                      obtain rfl : ad376 = ad381 := (by injection e381)
                      obtain ⟨ce381, hce381, hMe381, hcc381⟩ := Kd.S_get HO_10.out z38 1 p381 (by first | exact q381 | exact of_decide_eq_true (by first | (with_reducible assumption) | assumption) | (have e_ := (Kd.S_reads' HO_10.out).1; omega))
                      obtain ⟨ve381_1, rfl, ge381_1⟩ := k38_openM hMe381
                      have hv381_1 := hcc381 1 _ rfl
                      rw [add_field _ _ 1 (by omega)] at hv381_1
                      replace hv381_1 := Option.some.inj (hv381_1.symm.trans hx381_1)
                      rw [hv381_1] at ge381_1
                      have HL381_1 := Aside0.mk (show Kd.R Kd.string 9 _ _ _ _ ((rd_T38 t372 1).f1) from ge381_1)
                      clear hv381_1 ge381_1
                      clear hcc381 hce381
                      (try simp only [show (1 : Int).toNat = 1 from rfl, Nat.reduceMul, Nat.reduceEqDiff, Go.Addr.add, ↓reduceIte] at hx381_0)
                      (try simp only [show (1 : Int).toNat = 1 from rfl, Nat.reduceMul, Nat.reduceEqDiff, Go.Addr.add, ↓reduceIte] at hx381_1)
                      have qi381 : (1 < t372.length) = True := eq_true (by omega)
                      (try rw [show ((1 : Int)).toNat = 1 from rfl] at hx381_0)
                      (try rw [show 1 * 2 = 2 from rfl] at hx381_0)
                      (try rw [show ((1 : Int)).toNat = 1 from rfl] at hx381_1)
                      (try rw [show 1 * 2 = 2 from rfl] at hx381_1)
                      have HR381_1 := Aside0.mk hi381_1
                      have HC381_1 := Aside0.mk hl381_1
                      clear hi381_1 hl381_1
                      replace p381 := eq_true p381
                      replace q381 := eq_true q381
                      have p382 : 0 ≤ (1 : Int) := (by omega)
                      have q382 : 1 < (t372.length : Int) := of_decide_eq_true (by first | (with_reducible assumption) | assumption)
                      obtain ⟨ad382, A382_1, c382_1, e382, hx382_0, hx382_1, hl382_1, hi382_1⟩ := at_T38 (Kd.S_reads' HO_10.out).2.2 1 p382 q382
                      (try rw [← Nbq44.out] at hx382_0)
                      (try rw [← Nbq56.out] at hx382_0)
                      obtain rfl : ad376 = ad382 := (by injection e382)
                      obtain ⟨ce382, hce382, hMe382, hcc382⟩ := Kd.S_get HO_10.out z38 1 p382 (by first | exact q382 | exact of_decide_eq_true (by first | (with_reducible assumption) | assumption) | (have e_ := (Kd.S_reads' HO_10.out).1; omega))
                      obtain ⟨ve382_1, rfl, ge382_1⟩ := k38_openM hMe382
                      have hv382_1 := hcc382 1 _ rfl
                      rw [add_field _ _ 1 (by omega)] at hv382_1
                      replace hv382_1 := Option.some.inj (hv382_1.symm.trans hx382_1)
                      rw [hv382_1] at ge382_1
                      have HL382_1 := Aside0.mk (show Kd.R Kd.string 9 _ _ _ _ ((rd_T38 t372 1).f1) from ge382_1)
                      clear hv382_1 ge382_1
                      clear hcc382 hce382
                      (try simp only [show (1 : Int).toNat = 1 from rfl, Nat.reduceMul, Nat.reduceEqDiff, Go.Addr.add, ↓reduceIte] at hx382_0)
                      (try simp only [show (1 : Int).toNat = 1 from rfl, Nat.reduceMul, Nat.reduceEqDiff, Go.Addr.add, ↓reduceIte] at hx382_1)
                      have qi382 : (1 < t372.length) = True := eq_true (by omega)
                      (try rw [show ((1 : Int)).toNat = 1 from rfl] at hx382_0)
                      (try rw [show 1 * 2 = 2 from rfl] at hx382_0)
                      (try rw [show ((1 : Int)).toNat = 1 from rfl] at hx382_1)
                      (try rw [show 1 * 2 = 2 from rfl] at hx382_1)
                      have HR382_1 := Aside0.mk hi382_1
                      have HC382_1 := Aside0.mk hl382_1
                      clear hi382_1 hl382_1
                      replace p382 := eq_true p382
                      replace q382 := eq_true q382
                      have ea_ := Option.some.inj (hx381_1.symm.trans hx382_1)
                      injection ea_ with ea_ en_ ec_
                      subst ea_
                      subst ec_
                      clear en_
                      have p383 : 0 ≤ (0 : Int) := (by omega)
                      have q383 : 0 < (((rd_T38 t372 1).f1).length : Int) := of_decide_eq_true (by first | (with_reducible assumption) | assumption)
                      obtain ⟨ad383, e383, hx383_0⟩ := Kd.at_string (by repeat (first | (with_reducible exact HR382_1.out) | (with_reducible refine Kd.C_alloc ?_ _) | (with_reducible refine Kd.C_drewN ?_ _) | (with_reducible refine Kd.C_drew ?_) | exact HR382_1.out)) 0 p383 q383
                      cases e383
                      have qi383 : (0 < ((rd_T38 t372 1).f1).length) = True := eq_true (by omega)
                      (try rw [show ((0 : Int)).toNat = 0 from rfl] at hx383_0)
                      (try rw [Addr.add_zero'] at hx383_0)
                      replace p383 := eq_true p383
                      replace q383 := eq_true q383
                      go_wp2_with (first | ((with_reducible refine gate_callee (f := 29) rfl ?_); refine goesL_ (some 78) rfl rfl Try.func29 (by kernel_rfl) rfl #[.string (rdOf ByteArray.empty ((rd_T38 t372 1).f1) 0)] rfl (by (try simp only [List.map_toArray, List.map_cons, List.map_nil]); first | done | rfl | (simp only [List.length_drop, List.length_take]; rfl)) ?_; (with_reducible refine (mewsref01_Parse.calls kj27 (rdOf ByteArray.empty ((rd_T38 t372 1).f1) 0) t384 true _ A47.out).mono ?_); rintro e w65 ⟨rfl, hb⟩; refine ⟨_, rfl, ?_⟩; have n0_ := Aside0.mk (Kd.S_below (by (with_reducible repeat (first | apply Kd.S_alloc | apply Kd.S_drewN | apply Kd.S_drew)); exact HO_10.out) hb); have n1_ := Aside0.mk (Kd.R_below (by (with_reducible repeat (first | apply Kd.R_alloc | apply Kd.R_drewN | apply Kd.R_drew)); exact HL381_1.out) hb); have n2_ := Aside0.mk (Kd.R_below (by (with_reducible repeat (first | apply Kd.R_alloc | apply Kd.R_drewN | apply Kd.R_drew)); exact HL382_1.out) hb); have n3_ := Aside0.mk (blk_below (g := gb355) (o := .cells #[.int .u64 0, .bool false, .string (⟨#[]⟩ : ByteArray), .int .i64 0, .string (⟨#[]⟩ : ByteArray)] 52 (0, 0)) (by (with_reducible repeat (first | refine blk_drewN ?_ _ | refine blk_drew ?_ | refine blk_alloc ?_ _)); exact BK355.out) hb); have n4_ := Aside0.mk (blk_below (g := gb377) (o := .cells #[.int .u64 (IntKind.u64.wrap (t357)), .bool ((rd_T38 t372 0).f0), .string x378002_27, .int .i64 10, .string (⟨#[]⟩ : ByteArray)] 52 (0, 0)) (by (with_reducible repeat (first | refine blk_drewN ?_ _ | refine blk_drew ?_ | refine blk_alloc ?_ _)); exact BK377.out) hb); have n5_ := Aside0.mk (Kd.C_below (by repeat (first | (with_reducible exact HR381_1.out) | (with_reducible refine Kd.C_alloc ?_ _) | (with_reducible refine Kd.C_drewN ?_ _) | (with_reducible refine Kd.C_drew ?_) | exact HR381_1.out)) hb); have n6_ := Aside0.mk (Kd.C_below (by repeat (first | (with_reducible exact HR382_1.out) | (with_reducible refine Kd.C_alloc ?_ _) | (with_reducible refine Kd.C_drewN ?_ _) | (with_reducible refine Kd.C_drew ?_) | exact HR382_1.out)) hb); have n7_ := Aside0.mk (below_step (by repeat (first | (with_reducible first | exact HB.out | apply below_alloc | apply pw_below_drewN | apply below_drew1 | refine below_set ?_ GE355.out | refine below_set ?_ GE377.out) | exact HB.out)) hb); clear HO_10; clear HL381_1; clear HL382_1; clear BK355; clear BK377; clear HR381_1; clear HR382_1; clear HB; have HO_10 := n0_; have HL381_1 := n1_; have HL382_1 := n2_; have BK355 := n3_; have BK377 := n4_; have HR381_1 := n5_; have HR382_1 := n6_; have HB := n7_; clear n0_ n1_ n2_ n3_ n4_ n5_ n6_ n7_; (try clear hb); (try clear hb2); (try clear hk); (try clear hi); have hnb66 := NB377_355.out; have hnc66 := NB355_377.out; obtain ⟨hcz67_0, hcz67_1, hcz67_2, hcz67_3, hcz67_4, hfz67_0, hfz67_1, hfz67_2, hfz67_3, hfz67_4⟩ := cells5_ BK377.out) | ((with_reducible refine gate_store (t := 3) (p := 90) rfl ?_); refine store_event (t := 3) (p := 90) (v := ?vo_w68) (w1 := (w65.setCell ⟨gb377, 3, none⟩ (.int .i64 1000))) ?hg ?ho ?hn ?hr ?_; (case ho => rfl); (case hg => rfl); (case hn => rfl); (case hr => first | (go_simp; done) | (go_simp; rfl)); intro w68 hw; have n0_ : Aside0 (Kd.S k38 38 w68 w.heap.size (fun _ => True) (.slice (some ad376) t372.length co33) t372) := ⟨(by rw [hw]; exact (by (with_reducible repeat (first | apply Kd.S_alloc | apply Kd.S_drewN | apply Kd.S_drew)); exact Kd.S_mono (Kd.S_far (p := ⟨gb377, 3, none⟩) (Kd.S_types HO_10.out BK377.out (by decide)) (fun _ hk => hk.2) (.int .i64 1000)) (fun _ hk => trivial)))⟩; have n1_ : Aside0 (Kd.R Kd.string 9 w68 w.heap.size (fun k_ => some k_ ≠ (.slice (some ad376) t372.length co33 : Value).ownBlock) (.slice (some ad383) ((rd_T38 t372 1).f1).length c381_1) ((rd_T38 t372 1).f1)) := ⟨(by rw [hw]; exact (by (with_reducible repeat (first | apply Kd.R_alloc | apply Kd.R_drewN | apply Kd.R_drew)); exact Kd.R_mono (Kd.R_far (p := ⟨gb377, 3, none⟩) (Kd.R_types HL381_1.out BK377.out (by decide)) (fun _ hk => hk.2) (.int .i64 1000)) (fun _ hk => hk.1.2)))⟩; have n2_ : Aside0 (Kd.R Kd.string 9 w68 w.heap.size (fun k_ => some k_ ≠ (.slice (some ad376) t372.length co33 : Value).ownBlock) (.slice (some ad383) ((rd_T38 t372 1).f1).length c381_1) ((rd_T38 t372 1).f1)) := ⟨(by rw [hw]; exact (by (with_reducible repeat (first | apply Kd.R_alloc | apply Kd.R_drewN | apply Kd.R_drew)); exact Kd.R_mono (Kd.R_far (p := ⟨gb377, 3, none⟩) (Kd.R_types HL382_1.out BK377.out (by decide)) (fun _ hk => hk.2) (.int .i64 1000)) (fun _ hk => hk.1.2)))⟩; have n3_ : Aside0 (w68.heap[gb355]? = some (.cells #[.int .u64 0, .bool false, .string (⟨#[]⟩ : ByteArray), .int .i64 0, .string (⟨#[]⟩ : ByteArray)] 52 (0, 0))) := ⟨(by rw [hw]; exact (by (with_reducible repeat (first | refine blk_drewN ?_ _ | refine blk_drew ?_ | refine blk_alloc ?_ _)); refine blk_far ?_ NB355_377.out _; (with_reducible repeat (first | refine blk_drewN ?_ _ | refine blk_drew ?_ | refine blk_alloc ?_ _)); exact BK355.out))⟩; have n4_ : Aside0 (w68.heap[gb377]? = some (.cells #[.int .u64 (IntKind.u64.wrap (t357)), .bool ((rd_T38 t372 0).f0), .string x378002_27, .int .i64 1000, .string (⟨#[]⟩ : ByteArray)] 52 (0, 0))) := ⟨(by rw [hw]; exact (by (with_reducible repeat (first | refine blk_drewN ?_ _ | refine blk_drew ?_ | refine blk_alloc ?_ _)); refine blk_put (cs := #[.int .u64 (IntKind.u64.wrap (t357)), .bool ((rd_T38 t372 0).f0), .string x378002_27, .int .i64 10, .string (⟨#[]⟩ : ByteArray)]) ?_ 3 _ rfl; (with_reducible repeat (first | refine blk_drewN ?_ _ | refine blk_drew ?_ | refine blk_alloc ?_ _)); exact BK377.out))⟩; have n5_ : Aside0 (Below w.heap.size w w68) := ⟨(by rw [hw]; exact (by repeat (first | (with_reducible first | exact HB.out | apply below_alloc | apply pw_below_drewN | apply below_drew1 | refine below_set ?_ GE355.out | refine below_set ?_ GE377.out) | exact HB.out)))⟩; clear hw; clear HO_10; clear HL381_1; clear HL382_1; clear BK355; clear BK377; clear HB; have HO_10 := n0_; have HL381_1 := n1_; have HL382_1 := n2_; have BK355 := n3_; have BK377 := n4_; have HB := n5_; clear n0_ n1_ n2_ n3_ n4_ n5_; have p386 : 0 ≤ (2 : Int) := (by omega); have q386 : 2 < (t372.length : Int) := of_decide_eq_true (by first | (with_reducible assumption) | assumption); obtain ⟨ad386, A386_1, c386_1, e386, hx386_0, hx386_1, hl386_1, hi386_1⟩ := at_T38 (Kd.S_reads' HO_10.out).2.2 2 p386 q386; (try rw [← Nbq44.out] at hx386_0); (try rw [← Nbq56.out] at hx386_0); obtain rfl : ad376 = ad386 := (by injection e386); obtain ⟨ce386, hce386, hMe386, hcc386⟩ := Kd.S_get HO_10.out z38 2 p386 (by first | exact q386 | exact of_decide_eq_true (by first | (with_reducible assumption) | assumption) | (have e_ := (Kd.S_reads' HO_10.out).1; omega)); obtain ⟨ve386_1, rfl, ge386_1⟩ := k38_openM hMe386; have hv386_1 := hcc386 1 _ rfl; rw [add_field _ _ 1 (by omega)] at hv386_1; replace hv386_1 := Option.some.inj (hv386_1.symm.trans hx386_1); rw [hv386_1] at ge386_1; have HL386_1 := Aside0.mk (show Kd.R Kd.string 9 _ _ _ _ ((rd_T38 t372 2).f1) from ge386_1); clear hv386_1 ge386_1; clear hcc386 hce386; (try simp only [show (2 : Int).toNat = 2 from rfl, Nat.reduceMul, Nat.reduceEqDiff, Go.Addr.add, ↓reduceIte] at hx386_0); (try simp only [show (2 : Int).toNat = 2 from rfl, Nat.reduceMul, Nat.reduceEqDiff, Go.Addr.add, ↓reduceIte] at hx386_1); have qi386 : (2 < t372.length) = True := eq_true (by omega); (try rw [show ((2 : Int)).toNat = 2 from rfl] at hx386_0); (try rw [show 2 * 2 = 4 from rfl] at hx386_0); (try rw [show ((2 : Int)).toNat = 2 from rfl] at hx386_1); (try rw [show 2 * 2 = 4 from rfl] at hx386_1); have HR386_1 := Aside0.mk hi386_1; have HC386_1 := Aside0.mk hl386_1; clear hi386_1 hl386_1; replace p386 := eq_true p386; replace q386 := eq_true q386; obtain ⟨hcz69_0, hcz69_1, hcz69_2, hcz69_3, hcz69_4, hfz69_0, hfz69_1, hfz69_2, hfz69_3, hfz69_4⟩ := cells5_ BK377.out; obtain ⟨hcz70_0, hcz70_1, hcz70_2, hcz70_3, hcz70_4, hfz70_0, hfz70_1, hfz70_2, hfz70_3, hfz70_4⟩ := cells5_ BK355.out))
                      refine bodyPost_ret (results_ct rfl _ _ gb355 52 #[.int .u64 (IntKind.u64.wrap (t357)), .bool ((rd_T38 t372 0).f0), .string x378002_27, .int .i64 1000, .string (⟨#[]⟩ : ByteArray)] (0, 0) _ rfl (by (with_reducible repeat (first | refine blk_drewN ?_ _ | refine blk_drew ?_ | refine blk_alloc ?_ _)); refine blk_put (cs := #[.int .u64 (IntKind.u64.wrap (t357)), .bool ((rd_T38 t372 0).f0), .string x378002_27, .int .i64 1000, .string (⟨#[]⟩ : ByteArray)]) ?_ 4 _ rfl; (with_reducible repeat (first | refine blk_drewN ?_ _ | refine blk_drew ?_ | refine blk_alloc ?_ _)); refine blk_put (cs := #[.int .u64 (IntKind.u64.wrap (t357)), .bool ((rd_T38 t372 0).f0), .string x378002_27, .int .i64 0, .string (⟨#[]⟩ : ByteArray)]) ?_ 3 _ rfl; (with_reducible repeat (first | refine blk_drewN ?_ _ | refine blk_drew ?_ | refine blk_alloc ?_ _)); refine blk_put (cs := #[.int .u64 (IntKind.u64.wrap (t357)), .bool ((rd_T38 t372 0).f0), .string (⟨#[]⟩ : ByteArray), .int .i64 0, .string (⟨#[]⟩ : ByteArray)]) ?_ 2 _ rfl; (with_reducible repeat (first | refine blk_drewN ?_ _ | refine blk_drew ?_ | refine blk_alloc ?_ _)); refine blk_put (cs := #[.int .u64 (IntKind.u64.wrap (t357)), .bool false, .string (⟨#[]⟩ : ByteArray), .int .i64 0, .string (⟨#[]⟩ : ByteArray)]) ?_ 1 _ rfl; (with_reducible repeat (first | refine blk_drewN ?_ _ | refine blk_drew ?_ | refine blk_alloc ?_ _)); refine blk_put (cs := #[.int .u64 0, .bool false, .string (⟨#[]⟩ : ByteArray), .int .i64 0, .string (⟨#[]⟩ : ByteArray)]) ?_ 0 _ rfl; (with_reducible repeat (first | refine blk_drewN ?_ _ | refine blk_drew ?_ | refine blk_alloc ?_ _)); exact BK355.out) Try.underlying52 rfl (by kernel_rfl)) rfl ?_
                      exact ⟨by first | rfl | (simp [errW_none, errW_some] <;> rfl) | (simp [*, errW_none, errW_some] <;> rfl), by repeat (first | (with_reducible first | exact HB.out | apply below_alloc | apply pw_below_drewN | apply below_drew1 | refine below_set ?_ GE355.out | refine below_set ?_ GE377.out) | exact HB.out)⟩
                    ·rw [if_neg c55] at H
                     exact absurd H (by simp)
                   ·replace c54 := Bool.eq_false_iff.mpr c54
                    subst c54
                    rw [if_neg (show ¬ (false = true) by decide)] at H
                    simp only [Option.some.injEq, Prod.mk.injEq] at H
                    obtain ⟨rfl, rfl, rfl, rfl, rfl, rfl⟩ := H
                    have p381 : 0 ≤ (1 : Int) := (by omega)
                    have q381 : 1 < (t372.length : Int) := of_decide_eq_true (by first | (with_reducible assumption) | assumption)
                    obtain ⟨ad381, A381_1, c381_1, e381, hx381_0, hx381_1, hl381_1, hi381_1⟩ := at_T38 (Kd.S_reads' HO_10.out).2.2 1 p381 q381
                    (try rw [← Nbq44.out] at hx381_0)
                    obtain rfl : ad376 = ad381 := (by injection e381)
                    obtain ⟨ce381, hce381, hMe381, hcc381⟩ := Kd.S_get HO_10.out z38 1 p381 (by first | exact q381 | exact of_decide_eq_true (by first | (with_reducible assumption) | assumption) | (have e_ := (Kd.S_reads' HO_10.out).1; omega))
                    obtain ⟨ve381_1, rfl, ge381_1⟩ := k38_openM hMe381
                    have hv381_1 := hcc381 1 _ rfl
                    rw [add_field _ _ 1 (by omega)] at hv381_1
                    replace hv381_1 := Option.some.inj (hv381_1.symm.trans hx381_1)
                    rw [hv381_1] at ge381_1
                    have HL381_1 := Aside0.mk (show Kd.R Kd.string 9 _ _ _ _ ((rd_T38 t372 1).f1) from ge381_1)
                    clear hv381_1 ge381_1
                    clear hcc381 hce381
                    (try simp only [show (1 : Int).toNat = 1 from rfl, Nat.reduceMul, Nat.reduceEqDiff, Go.Addr.add, ↓reduceIte] at hx381_0)
                    (try simp only [show (1 : Int).toNat = 1 from rfl, Nat.reduceMul, Nat.reduceEqDiff, Go.Addr.add, ↓reduceIte] at hx381_1)
                    have qi381 : (1 < t372.length) = True := eq_true (by omega)
                    (try rw [show ((1 : Int)).toNat = 1 from rfl] at hx381_0)
                    (try rw [show 1 * 2 = 2 from rfl] at hx381_0)
                    (try rw [show ((1 : Int)).toNat = 1 from rfl] at hx381_1)
                    (try rw [show 1 * 2 = 2 from rfl] at hx381_1)
                    have HR381_1 := Aside0.mk hi381_1
                    have HC381_1 := Aside0.mk hl381_1
                    clear hi381_1 hl381_1
                    replace p381 := eq_true p381
                    replace q381 := eq_true q381
                    have p382 : 0 ≤ (1 : Int) := (by omega)
                    have q382 : 1 < (t372.length : Int) := of_decide_eq_true (by first | (with_reducible assumption) | assumption)
                    obtain ⟨ad382, A382_1, c382_1, e382, hx382_0, hx382_1, hl382_1, hi382_1⟩ := at_T38 (Kd.S_reads' HO_10.out).2.2 1 p382 q382
                    (try rw [← Nbq44.out] at hx382_0)
                    obtain rfl : ad376 = ad382 := (by injection e382)
                    obtain ⟨ce382, hce382, hMe382, hcc382⟩ := Kd.S_get HO_10.out z38 1 p382 (by first | exact q382 | exact of_decide_eq_true (by first | (with_reducible assumption) | assumption) | (have e_ := (Kd.S_reads' HO_10.out).1; omega))
                    obtain ⟨ve382_1, rfl, ge382_1⟩ := k38_openM hMe382
                    have hv382_1 := hcc382 1 _ rfl
                    rw [add_field _ _ 1 (by omega)] at hv382_1
                    replace hv382_1 := Option.some.inj (hv382_1.symm.trans hx382_1)
                    rw [hv382_1] at ge382_1
                    have HL382_1 := Aside0.mk (show Kd.R Kd.string 9 _ _ _ _ ((rd_T38 t372 1).f1) from ge382_1)
                    clear hv382_1 ge382_1
                    clear hcc382 hce382
                    (try simp only [show (1 : Int).toNat = 1 from rfl, Nat.reduceMul, Nat.reduceEqDiff, Go.Addr.add, ↓reduceIte] at hx382_0)
                    (try simp only [show (1 : Int).toNat = 1 from rfl, Nat.reduceMul, Nat.reduceEqDiff, Go.Addr.add, ↓reduceIte] at hx382_1)
                    have qi382 : (1 < t372.length) = True := eq_true (by omega)
                    (try rw [show ((1 : Int)).toNat = 1 from rfl] at hx382_0)
                    (try rw [show 1 * 2 = 2 from rfl] at hx382_0)
                    (try rw [show ((1 : Int)).toNat = 1 from rfl] at hx382_1)
                    (try rw [show 1 * 2 = 2 from rfl] at hx382_1)
                    have HR382_1 := Aside0.mk hi382_1
                    have HC382_1 := Aside0.mk hl382_1
                    clear hi382_1 hl382_1
                    replace p382 := eq_true p382
                    replace q382 := eq_true q382
                    have ea_ := Option.some.inj (hx381_1.symm.trans hx382_1)
                    injection ea_ with ea_ en_ ec_
                    subst ea_
                    subst ec_
                    clear en_
                    have p383 : 0 ≤ (0 : Int) := (by omega)
                    have q383 : 0 < (((rd_T38 t372 1).f1).length : Int) := of_decide_eq_true (by first | (with_reducible assumption) | assumption)
                    obtain ⟨ad383, e383, hx383_0⟩ := Kd.at_string (by repeat (first | (with_reducible exact HR382_1.out) | (with_reducible refine Kd.C_alloc ?_ _) | (with_reducible refine Kd.C_drewN ?_ _) | (with_reducible refine Kd.C_drew ?_) | exact HR382_1.out)) 0 p383 q383
                    cases e383
                    have qi383 : (0 < ((rd_T38 t372 1).f1).length) = True := eq_true (by omega)
                    (try rw [show ((0 : Int)).toNat = 0 from rfl] at hx383_0)
                    (try rw [Addr.add_zero'] at hx383_0)
                    replace p383 := eq_true p383
                    replace q383 := eq_true q383
                    go_wp2_with (first | ((with_reducible refine gate_callee (f := 29) rfl ?_); refine goesL_ (some 78) rfl rfl Try.func29 (by kernel_rfl) rfl #[.string (rdOf ByteArray.empty ((rd_T38 t372 1).f1) 0)] rfl (by (try simp only [List.map_toArray, List.map_cons, List.map_nil]); first | done | rfl | (simp only [List.length_drop, List.length_take]; rfl)) ?_; (with_reducible refine (mewsref01_Parse.calls kj27 (rdOf ByteArray.empty ((rd_T38 t372 1).f1) 0) t384 true _ A47.out).mono ?_); rintro e w71 ⟨rfl, hb⟩; refine ⟨_, rfl, ?_⟩; have n0_ := Aside0.mk (Kd.S_below (by (with_reducible repeat (first | apply Kd.S_alloc | apply Kd.S_drewN | apply Kd.S_drew)); exact HO_10.out) hb); have n1_ := Aside0.mk (Kd.R_below (by (with_reducible repeat (first | apply Kd.R_alloc | apply Kd.R_drewN | apply Kd.R_drew)); exact HL381_1.out) hb); have n2_ := Aside0.mk (Kd.R_below (by (with_reducible repeat (first | apply Kd.R_alloc | apply Kd.R_drewN | apply Kd.R_drew)); exact HL382_1.out) hb); have n3_ := Aside0.mk (blk_below (g := gb355) (o := .cells #[.int .u64 0, .bool false, .string (⟨#[]⟩ : ByteArray), .int .i64 0, .string (⟨#[]⟩ : ByteArray)] 52 (0, 0)) (by (with_reducible repeat (first | refine blk_drewN ?_ _ | refine blk_drew ?_ | refine blk_alloc ?_ _)); exact BK355.out) hb); have n4_ := Aside0.mk (blk_below (g := gb377) (o := .cells #[.int .u64 (IntKind.u64.wrap (t357)), .bool ((rd_T38 t372 0).f0), .string x378002_27, .int .i64 10, .string (⟨#[]⟩ : ByteArray)] 52 (0, 0)) (by (with_reducible repeat (first | refine blk_drewN ?_ _ | refine blk_drew ?_ | refine blk_alloc ?_ _)); exact BK377.out) hb); have n5_ := Aside0.mk (Kd.C_below (by repeat (first | (with_reducible exact HR381_1.out) | (with_reducible refine Kd.C_alloc ?_ _) | (with_reducible refine Kd.C_drewN ?_ _) | (with_reducible refine Kd.C_drew ?_) | exact HR381_1.out)) hb); have n6_ := Aside0.mk (Kd.C_below (by repeat (first | (with_reducible exact HR382_1.out) | (with_reducible refine Kd.C_alloc ?_ _) | (with_reducible refine Kd.C_drewN ?_ _) | (with_reducible refine Kd.C_drew ?_) | exact HR382_1.out)) hb); have n7_ := Aside0.mk (below_step (by repeat (first | (with_reducible first | exact HB.out | apply below_alloc | apply pw_below_drewN | apply below_drew1 | refine below_set ?_ GE355.out | refine below_set ?_ GE377.out) | exact HB.out)) hb); clear HO_10; clear HL381_1; clear HL382_1; clear BK355; clear BK377; clear HR381_1; clear HR382_1; clear HB; have HO_10 := n0_; have HL381_1 := n1_; have HL382_1 := n2_; have BK355 := n3_; have BK377 := n4_; have HR381_1 := n5_; have HR382_1 := n6_; have HB := n7_; clear n0_ n1_ n2_ n3_ n4_ n5_ n6_ n7_; (try clear hb); (try clear hb2); (try clear hk); (try clear hi); have hnb72 := NB377_355.out; have hnc72 := NB355_377.out; obtain ⟨hcz73_0, hcz73_1, hcz73_2, hcz73_3, hcz73_4, hfz73_0, hfz73_1, hfz73_2, hfz73_3, hfz73_4⟩ := cells5_ BK377.out; obtain ⟨hcz74_0, hcz74_1, hcz74_2, hcz74_3, hcz74_4, hfz74_0, hfz74_1, hfz74_2, hfz74_3, hfz74_4⟩ := cells5_ BK355.out))
                    refine bodyPost_ret (results_ct rfl _ _ gb355 52 #[.int .u64 (IntKind.u64.wrap (t357)), .bool ((rd_T38 t372 0).f0), .string x378002_27, .int .i64 1000, .string (⟨#[]⟩ : ByteArray)] (0, 0) _ rfl (by (with_reducible repeat (first | refine blk_drewN ?_ _ | refine blk_drew ?_ | refine blk_alloc ?_ _)); refine blk_put (cs := #[.int .u64 (IntKind.u64.wrap (t357)), .bool ((rd_T38 t372 0).f0), .string x378002_27, .int .i64 1000, .string (⟨#[]⟩ : ByteArray)]) ?_ 4 _ rfl; (with_reducible repeat (first | refine blk_drewN ?_ _ | refine blk_drew ?_ | refine blk_alloc ?_ _)); refine blk_put (cs := #[.int .u64 (IntKind.u64.wrap (t357)), .bool ((rd_T38 t372 0).f0), .string x378002_27, .int .i64 0, .string (⟨#[]⟩ : ByteArray)]) ?_ 3 _ rfl; (with_reducible repeat (first | refine blk_drewN ?_ _ | refine blk_drew ?_ | refine blk_alloc ?_ _)); refine blk_put (cs := #[.int .u64 (IntKind.u64.wrap (t357)), .bool ((rd_T38 t372 0).f0), .string (⟨#[]⟩ : ByteArray), .int .i64 0, .string (⟨#[]⟩ : ByteArray)]) ?_ 2 _ rfl; (with_reducible repeat (first | refine blk_drewN ?_ _ | refine blk_drew ?_ | refine blk_alloc ?_ _)); refine blk_put (cs := #[.int .u64 (IntKind.u64.wrap (t357)), .bool false, .string (⟨#[]⟩ : ByteArray), .int .i64 0, .string (⟨#[]⟩ : ByteArray)]) ?_ 1 _ rfl; (with_reducible repeat (first | refine blk_drewN ?_ _ | refine blk_drew ?_ | refine blk_alloc ?_ _)); refine blk_put (cs := #[.int .u64 0, .bool false, .string (⟨#[]⟩ : ByteArray), .int .i64 0, .string (⟨#[]⟩ : ByteArray)]) ?_ 0 _ rfl; (with_reducible repeat (first | refine blk_drewN ?_ _ | refine blk_drew ?_ | refine blk_alloc ?_ _)); refine blk_far ?_ NB355_377.out _; (with_reducible repeat (first | refine blk_drewN ?_ _ | refine blk_drew ?_ | refine blk_alloc ?_ _)); exact BK355.out) Try.underlying52 rfl (by kernel_rfl)) rfl ?_
                    exact ⟨by first | rfl | (simp [errW_none, errW_some] <;> rfl) | (simp [*, errW_none, errW_some] <;> rfl), by repeat (first | (with_reducible first | exact HB.out | apply below_alloc | apply pw_below_drewN | apply below_drew1 | refine below_set ?_ GE355.out | refine below_set ?_ GE377.out) | exact HB.out)⟩
                  ·rw [if_neg c53] at H
                   have c53b0 : decide (1000 < t384) = false := decide_eq_false c53
                   clear c53
                   by_cases c75 : a1 = true
                   ·subst c75
                    rw [if_pos rfl] at H
                    by_cases c76 : 2 < (t372.length : Int)
                    ·rw [if_pos c76] at H
                     have c76b0 : decide (2 < (t372.length : Int)) = true := decide_eq_true c76
                     have c76b1 : decide (2 < t372.length) = true := decide_eq_true (by omega)
                     clear c76
                     obtain ⟨bq77, hbq77⟩ : ∃ b_ : Bool, b_ = ((rd_T38 t372 2).f0) := ⟨_, rfl⟩
                     replace H : (if bq77 = true then (if 0 < (((rd_T38 t372 2).f1).length : Int) then (some ((IntKind.u64.wrap (t357)), ((rd_T38 t372 0).f0), x378002_27, t384, rdOf ByteArray.empty ((rd_T38 t372 2).f1) 0, (⟨#[]⟩ : ByteArray))) else (none)) else (some ((IntKind.u64.wrap (t357)), ((rd_T38 t372 0).f0), x378002_27, t384, (⟨#[]⟩ : ByteArray), (⟨#[]⟩ : ByteArray)))) = some (r1, r2, r3, r4, r5, r6) := by rw [← hbq77] at H; exact H
                     have Nbq77 := Aside0.mk hbq77
                     clear hbq77
                     by_cases c78 : bq77 = true
                     ·subst c78
                      rw [if_pos rfl] at H
                      by_cases c79 : 0 < (((rd_T38 t372 2).f1).length : Int)
                      ·rw [if_pos c79] at H
                       have c79b0 : decide (0 < (((rd_T38 t372 2).f1).length : Int)) = true := decide_eq_true c79
                       have c79b1 : decide (0 < ((rd_T38 t372 2).f1).length) = true := decide_eq_true (by omega)
                       clear c79
                       simp only [Option.some.injEq, Prod.mk.injEq] at H
                       obtain ⟨rfl, rfl, rfl, rfl, rfl, rfl⟩ := H
                       have p381 : 0 ≤ (1 : Int) := (by omega)
                       have q381 : 1 < (t372.length : Int) := of_decide_eq_true (by first | (with_reducible assumption) | assumption)
                       obtain ⟨ad381, A381_1, c381_1, e381, hx381_0, hx381_1, hl381_1, hi381_1⟩ := at_T38 (Kd.S_reads' HO_10.out).2.2 1 p381 q381
                       (try rw [← Nbq44.out] at hx381_0)
                       (try rw [← Nbq77.out] at hx381_0)
                       obtain rfl : ad376 = ad381 := (by injection e381)
                       obtain ⟨ce381, hce381, hMe381, hcc381⟩ := Kd.S_get HO_10.out z38 1 p381 (by first | exact q381 | exact of_decide_eq_true (by first | (with_reducible assumption) | assumption) | (have e_ := (Kd.S_reads' HO_10.out).1; omega))
                       obtain ⟨ve381_1, rfl, ge381_1⟩ := k38_openM hMe381
                       have hv381_1 := hcc381 1 _ rfl
                       rw [add_field _ _ 1 (by omega)] at hv381_1
                       replace hv381_1 := Option.some.inj (hv381_1.symm.trans hx381_1)
                       rw [hv381_1] at ge381_1
                       have HL381_1 := Aside0.mk (show Kd.R Kd.string 9 _ _ _ _ ((rd_T38 t372 1).f1) from ge381_1)
                       clear hv381_1 ge381_1
                       clear hcc381 hce381
                       (try simp only [show (1 : Int).toNat = 1 from rfl, Nat.reduceMul, Nat.reduceEqDiff, Go.Addr.add, ↓reduceIte] at hx381_0)
                       (try simp only [show (1 : Int).toNat = 1 from rfl, Nat.reduceMul, Nat.reduceEqDiff, Go.Addr.add, ↓reduceIte] at hx381_1)
                       have qi381 : (1 < t372.length) = True := eq_true (by omega)
                       (try rw [show ((1 : Int)).toNat = 1 from rfl] at hx381_0)
                       (try rw [show 1 * 2 = 2 from rfl] at hx381_0)
                       (try rw [show ((1 : Int)).toNat = 1 from rfl] at hx381_1)
                       (try rw [show 1 * 2 = 2 from rfl] at hx381_1)
                       have HR381_1 := Aside0.mk hi381_1
                       have HC381_1 := Aside0.mk hl381_1
                       clear hi381_1 hl381_1
                       replace p381 := eq_true p381
                       replace q381 := eq_true q381
                       have p382 : 0 ≤ (1 : Int) := (by omega)
                       have q382 : 1 < (t372.length : Int) := of_decide_eq_true (by first | (with_reducible assumption) | assumption)
                       obtain ⟨ad382, A382_1, c382_1, e382, hx382_0, hx382_1, hl382_1, hi382_1⟩ := at_T38 (Kd.S_reads' HO_10.out).2.2 1 p382 q382
                       (try rw [← Nbq44.out] at hx382_0)
                       (try rw [← Nbq77.out] at hx382_0)
                       obtain rfl : ad376 = ad382 := (by injection e382)
                       obtain ⟨ce382, hce382, hMe382, hcc382⟩ := Kd.S_get HO_10.out z38 1 p382 (by first | exact q382 | exact of_decide_eq_true (by first | (with_reducible assumption) | assumption) | (have e_ := (Kd.S_reads' HO_10.out).1; omega))
                       obtain ⟨ve382_1, rfl, ge382_1⟩ := k38_openM hMe382
                       have hv382_1 := hcc382 1 _ rfl
                       rw [add_field _ _ 1 (by omega)] at hv382_1
                       replace hv382_1 := Option.some.inj (hv382_1.symm.trans hx382_1)
                       rw [hv382_1] at ge382_1
                       have HL382_1 := Aside0.mk (show Kd.R Kd.string 9 _ _ _ _ ((rd_T38 t372 1).f1) from ge382_1)
                       clear hv382_1 ge382_1
                       clear hcc382 hce382
                       (try simp only [show (1 : Int).toNat = 1 from rfl, Nat.reduceMul, Nat.reduceEqDiff, Go.Addr.add, ↓reduceIte] at hx382_0)
                       (try simp only [show (1 : Int).toNat = 1 from rfl, Nat.reduceMul, Nat.reduceEqDiff, Go.Addr.add, ↓reduceIte] at hx382_1)
                       have qi382 : (1 < t372.length) = True := eq_true (by omega)
                       (try rw [show ((1 : Int)).toNat = 1 from rfl] at hx382_0)
                       (try rw [show 1 * 2 = 2 from rfl] at hx382_0)
                       (try rw [show ((1 : Int)).toNat = 1 from rfl] at hx382_1)
                       (try rw [show 1 * 2 = 2 from rfl] at hx382_1)
                       have HR382_1 := Aside0.mk hi382_1
                       have HC382_1 := Aside0.mk hl382_1
                       clear hi382_1 hl382_1
                       replace p382 := eq_true p382
                       replace q382 := eq_true q382
                       have ea_ := Option.some.inj (hx381_1.symm.trans hx382_1)
                       injection ea_ with ea_ en_ ec_
                       subst ea_
                       subst ec_
                       clear en_
                       have p383 : 0 ≤ (0 : Int) := (by omega)
                       have q383 : 0 < (((rd_T38 t372 1).f1).length : Int) := of_decide_eq_true (by first | (with_reducible assumption) | assumption)
                       obtain ⟨ad383, e383, hx383_0⟩ := Kd.at_string (by repeat (first | (with_reducible exact HR382_1.out) | (with_reducible refine Kd.C_alloc ?_ _) | (with_reducible refine Kd.C_drewN ?_ _) | (with_reducible refine Kd.C_drew ?_) | exact HR382_1.out)) 0 p383 q383
                       cases e383
                       have qi383 : (0 < ((rd_T38 t372 1).f1).length) = True := eq_true (by omega)
                       (try rw [show ((0 : Int)).toNat = 0 from rfl] at hx383_0)
                       (try rw [Addr.add_zero'] at hx383_0)
                       replace p383 := eq_true p383
                       replace q383 := eq_true q383
                       go_wp2_with (first | ((with_reducible refine gate_callee (f := 29) rfl ?_); refine goesL_ (some 78) rfl rfl Try.func29 (by kernel_rfl) rfl #[.string (rdOf ByteArray.empty ((rd_T38 t372 1).f1) 0)] rfl (by (try simp only [List.map_toArray, List.map_cons, List.map_nil]); first | done | rfl | (simp only [List.length_drop, List.length_take]; rfl)) ?_; (with_reducible refine (mewsref01_Parse.calls kj27 (rdOf ByteArray.empty ((rd_T38 t372 1).f1) 0) t384 true _ A47.out).mono ?_); rintro e w80 ⟨rfl, hb⟩; refine ⟨_, rfl, ?_⟩; have n0_ := Aside0.mk (Kd.S_below (by (with_reducible repeat (first | apply Kd.S_alloc | apply Kd.S_drewN | apply Kd.S_drew)); exact HO_10.out) hb); have n1_ := Aside0.mk (Kd.R_below (by (with_reducible repeat (first | apply Kd.R_alloc | apply Kd.R_drewN | apply Kd.R_drew)); exact HL381_1.out) hb); have n2_ := Aside0.mk (Kd.R_below (by (with_reducible repeat (first | apply Kd.R_alloc | apply Kd.R_drewN | apply Kd.R_drew)); exact HL382_1.out) hb); have n3_ := Aside0.mk (blk_below (g := gb355) (o := .cells #[.int .u64 0, .bool false, .string (⟨#[]⟩ : ByteArray), .int .i64 0, .string (⟨#[]⟩ : ByteArray)] 52 (0, 0)) (by (with_reducible repeat (first | refine blk_drewN ?_ _ | refine blk_drew ?_ | refine blk_alloc ?_ _)); exact BK355.out) hb); have n4_ := Aside0.mk (blk_below (g := gb377) (o := .cells #[.int .u64 (IntKind.u64.wrap (t357)), .bool ((rd_T38 t372 0).f0), .string x378002_27, .int .i64 10, .string (⟨#[]⟩ : ByteArray)] 52 (0, 0)) (by (with_reducible repeat (first | refine blk_drewN ?_ _ | refine blk_drew ?_ | refine blk_alloc ?_ _)); exact BK377.out) hb); have n5_ := Aside0.mk (Kd.C_below (by repeat (first | (with_reducible exact HR381_1.out) | (with_reducible refine Kd.C_alloc ?_ _) | (with_reducible refine Kd.C_drewN ?_ _) | (with_reducible refine Kd.C_drew ?_) | exact HR381_1.out)) hb); have n6_ := Aside0.mk (Kd.C_below (by repeat (first | (with_reducible exact HR382_1.out) | (with_reducible refine Kd.C_alloc ?_ _) | (with_reducible refine Kd.C_drewN ?_ _) | (with_reducible refine Kd.C_drew ?_) | exact HR382_1.out)) hb); have n7_ := Aside0.mk (below_step (by repeat (first | (with_reducible first | exact HB.out | apply below_alloc | apply pw_below_drewN | apply below_drew1 | refine below_set ?_ GE355.out | refine below_set ?_ GE377.out) | exact HB.out)) hb); clear HO_10; clear HL381_1; clear HL382_1; clear BK355; clear BK377; clear HR381_1; clear HR382_1; clear HB; have HO_10 := n0_; have HL381_1 := n1_; have HL382_1 := n2_; have BK355 := n3_; have BK377 := n4_; have HR381_1 := n5_; have HR382_1 := n6_; have HB := n7_; clear n0_ n1_ n2_ n3_ n4_ n5_ n6_ n7_; (try clear hb); (try clear hb2); (try clear hk); (try clear hi); have hnb81 := NB377_355.out; have hnc81 := NB355_377.out; obtain ⟨hcz82_0, hcz82_1, hcz82_2, hcz82_3, hcz82_4, hfz82_0, hfz82_1, hfz82_2, hfz82_3, hfz82_4⟩ := cells5_ BK377.out) | ((with_reducible refine gate_store (t := 3) (p := 90) rfl ?_); refine store_event (t := 3) (p := 90) (v := ?vo_w83) (w1 := (w80.setCell ⟨gb377, 3, none⟩ (.int .i64 t384))) ?hg ?ho ?hn ?hr ?_; (case ho => rfl); (case hg => rfl); (case hn => rfl); (case hr => first | (go_simp; done) | (go_simp; rfl)); intro w83 hw; have n0_ : Aside0 (Kd.S k38 38 w83 w.heap.size (fun _ => True) (.slice (some ad376) t372.length co33) t372) := ⟨(by rw [hw]; exact (by (with_reducible repeat (first | apply Kd.S_alloc | apply Kd.S_drewN | apply Kd.S_drew)); exact Kd.S_mono (Kd.S_far (p := ⟨gb377, 3, none⟩) (Kd.S_types HO_10.out BK377.out (by decide)) (fun _ hk => hk.2) (.int .i64 t384)) (fun _ hk => trivial)))⟩; have n1_ : Aside0 (Kd.R Kd.string 9 w83 w.heap.size (fun k_ => some k_ ≠ (.slice (some ad376) t372.length co33 : Value).ownBlock) (.slice (some ad383) ((rd_T38 t372 1).f1).length c381_1) ((rd_T38 t372 1).f1)) := ⟨(by rw [hw]; exact (by (with_reducible repeat (first | apply Kd.R_alloc | apply Kd.R_drewN | apply Kd.R_drew)); exact Kd.R_mono (Kd.R_far (p := ⟨gb377, 3, none⟩) (Kd.R_types HL381_1.out BK377.out (by decide)) (fun _ hk => hk.2) (.int .i64 t384)) (fun _ hk => hk.1.2)))⟩; have n2_ : Aside0 (Kd.R Kd.string 9 w83 w.heap.size (fun k_ => some k_ ≠ (.slice (some ad376) t372.length co33 : Value).ownBlock) (.slice (some ad383) ((rd_T38 t372 1).f1).length c381_1) ((rd_T38 t372 1).f1)) := ⟨(by rw [hw]; exact (by (with_reducible repeat (first | apply Kd.R_alloc | apply Kd.R_drewN | apply Kd.R_drew)); exact Kd.R_mono (Kd.R_far (p := ⟨gb377, 3, none⟩) (Kd.R_types HL382_1.out BK377.out (by decide)) (fun _ hk => hk.2) (.int .i64 t384)) (fun _ hk => hk.1.2)))⟩; have n3_ : Aside0 (w83.heap[gb355]? = some (.cells #[.int .u64 0, .bool false, .string (⟨#[]⟩ : ByteArray), .int .i64 0, .string (⟨#[]⟩ : ByteArray)] 52 (0, 0))) := ⟨(by rw [hw]; exact (by (with_reducible repeat (first | refine blk_drewN ?_ _ | refine blk_drew ?_ | refine blk_alloc ?_ _)); refine blk_far ?_ NB355_377.out _; (with_reducible repeat (first | refine blk_drewN ?_ _ | refine blk_drew ?_ | refine blk_alloc ?_ _)); exact BK355.out))⟩; have n4_ : Aside0 (w83.heap[gb377]? = some (.cells #[.int .u64 (IntKind.u64.wrap (t357)), .bool ((rd_T38 t372 0).f0), .string x378002_27, .int .i64 t384, .string (⟨#[]⟩ : ByteArray)] 52 (0, 0))) := ⟨(by rw [hw]; exact (by (with_reducible repeat (first | refine blk_drewN ?_ _ | refine blk_drew ?_ | refine blk_alloc ?_ _)); refine blk_put (cs := #[.int .u64 (IntKind.u64.wrap (t357)), .bool ((rd_T38 t372 0).f0), .string x378002_27, .int .i64 10, .string (⟨#[]⟩ : ByteArray)]) ?_ 3 _ rfl; (with_reducible repeat (first | refine blk_drewN ?_ _ | refine blk_drew ?_ | refine blk_alloc ?_ _)); exact BK377.out))⟩; have n5_ : Aside0 (Below w.heap.size w w83) := ⟨(by rw [hw]; exact (by repeat (first | (with_reducible first | exact HB.out | apply below_alloc | apply pw_below_drewN | apply below_drew1 | refine below_set ?_ GE355.out | refine below_set ?_ GE377.out) | exact HB.out)))⟩; clear hw; clear HO_10; clear HL381_1; clear HL382_1; clear BK355; clear BK377; clear HB; have HO_10 := n0_; have HL381_1 := n1_; have HL382_1 := n2_; have BK355 := n3_; have BK377 := n4_; have HB := n5_; clear n0_ n1_ n2_ n3_ n4_ n5_; have p389 : 0 ≤ (2 : Int) := (by omega); have q389 : 2 < (t372.length : Int) := of_decide_eq_true (by first | (with_reducible assumption) | assumption); obtain ⟨ad389, A389_1, c389_1, e389, hx389_0, hx389_1, hl389_1, hi389_1⟩ := at_T38 (Kd.S_reads' HO_10.out).2.2 2 p389 q389; (try rw [← Nbq44.out] at hx389_0); (try rw [← Nbq77.out] at hx389_0); obtain rfl : ad376 = ad389 := (by injection e389); obtain ⟨ce389, hce389, hMe389, hcc389⟩ := Kd.S_get HO_10.out z38 2 p389 (by first | exact q389 | exact of_decide_eq_true (by first | (with_reducible assumption) | assumption) | (have e_ := (Kd.S_reads' HO_10.out).1; omega)); obtain ⟨ve389_1, rfl, ge389_1⟩ := k38_openM hMe389; have hv389_1 := hcc389 1 _ rfl; rw [add_field _ _ 1 (by omega)] at hv389_1; replace hv389_1 := Option.some.inj (hv389_1.symm.trans hx389_1); rw [hv389_1] at ge389_1; have HL389_1 := Aside0.mk (show Kd.R Kd.string 9 _ _ _ _ ((rd_T38 t372 2).f1) from ge389_1); clear hv389_1 ge389_1; clear hcc389 hce389; (try simp only [show (2 : Int).toNat = 2 from rfl, Nat.reduceMul, Nat.reduceEqDiff, Go.Addr.add, ↓reduceIte] at hx389_0); (try simp only [show (2 : Int).toNat = 2 from rfl, Nat.reduceMul, Nat.reduceEqDiff, Go.Addr.add, ↓reduceIte] at hx389_1); have qi389 : (2 < t372.length) = True := eq_true (by omega); (try rw [show ((2 : Int)).toNat = 2 from rfl] at hx389_0); (try rw [show 2 * 2 = 4 from rfl] at hx389_0); (try rw [show ((2 : Int)).toNat = 2 from rfl] at hx389_1); (try rw [show 2 * 2 = 4 from rfl] at hx389_1); have HR389_1 := Aside0.mk hi389_1; have HC389_1 := Aside0.mk hl389_1; clear hi389_1 hl389_1; replace p389 := eq_true p389; replace q389 := eq_true q389; have p390 : 0 ≤ (2 : Int) := (by omega); have q390 : 2 < (t372.length : Int) := of_decide_eq_true (by first | (with_reducible assumption) | assumption); obtain ⟨ad390, A390_1, c390_1, e390, hx390_0, hx390_1, hl390_1, hi390_1⟩ := at_T38 (Kd.S_reads' HO_10.out).2.2 2 p390 q390; (try rw [← Nbq44.out] at hx390_0); (try rw [← Nbq77.out] at hx390_0); obtain rfl : ad376 = ad390 := (by injection e390); obtain ⟨ce390, hce390, hMe390, hcc390⟩ := Kd.S_get HO_10.out z38 2 p390 (by first | exact q390 | exact of_decide_eq_true (by first | (with_reducible assumption) | assumption) | (have e_ := (Kd.S_reads' HO_10.out).1; omega)); obtain ⟨ve390_1, rfl, ge390_1⟩ := k38_openM hMe390; have hv390_1 := hcc390 1 _ rfl; rw [add_field _ _ 1 (by omega)] at hv390_1; replace hv390_1 := Option.some.inj (hv390_1.symm.trans hx390_1); rw [hv390_1] at ge390_1; have HL390_1 := Aside0.mk (show Kd.R Kd.string 9 _ _ _ _ ((rd_T38 t372 2).f1) from ge390_1); clear hv390_1 ge390_1; clear hcc390 hce390; (try simp only [show (2 : Int).toNat = 2 from rfl, Nat.reduceMul, Nat.reduceEqDiff, Go.Addr.add, ↓reduceIte] at hx390_0); (try simp only [show (2 : Int).toNat = 2 from rfl, Nat.reduceMul, Nat.reduceEqDiff, Go.Addr.add, ↓reduceIte] at hx390_1); have qi390 : (2 < t372.length) = True := eq_true (by omega); (try rw [show ((2 : Int)).toNat = 2 from rfl] at hx390_0); (try rw [show 2 * 2 = 4 from rfl] at hx390_0); (try rw [show ((2 : Int)).toNat = 2 from rfl] at hx390_1); (try rw [show 2 * 2 = 4 from rfl] at hx390_1); have HR390_1 := Aside0.mk hi390_1; have HC390_1 := Aside0.mk hl390_1; clear hi390_1 hl390_1; replace p390 := eq_true p390; replace q390 := eq_true q390; have ea_ := Option.some.inj (hx389_1.symm.trans hx390_1); injection ea_ with ea_ en_ ec_; subst ea_; subst ec_; clear en_; have p391 : 0 ≤ (0 : Int) := (by omega); have q391 : 0 < (((rd_T38 t372 2).f1).length : Int) := of_decide_eq_true (by first | (with_reducible assumption) | assumption); obtain ⟨ad391, e391, hx391_0⟩ := Kd.at_string (by repeat (first | (with_reducible exact HR390_1.out) | (with_reducible refine Kd.C_alloc ?_ _) | (with_reducible refine Kd.C_drewN ?_ _) | (with_reducible refine Kd.C_drew ?_) | exact HR390_1.out)) 0 p391 q391; cases e391; have qi391 : (0 < ((rd_T38 t372 2).f1).length) = True := eq_true (by omega); (try rw [show ((0 : Int)).toNat = 0 from rfl] at hx391_0); (try rw [Addr.add_zero'] at hx391_0); replace p391 := eq_true p391; replace q391 := eq_true q391; obtain ⟨hcz84_0, hcz84_1, hcz84_2, hcz84_3, hcz84_4, hfz84_0, hfz84_1, hfz84_2, hfz84_3, hfz84_4⟩ := cells5_ BK377.out; obtain ⟨hcz85_0, hcz85_1, hcz85_2, hcz85_3, hcz85_4, hfz85_0, hfz85_1, hfz85_2, hfz85_3, hfz85_4⟩ := cells5_ BK355.out))
                       refine bodyPost_ret (results_ct rfl _ _ gb355 52 #[.int .u64 (IntKind.u64.wrap (t357)), .bool ((rd_T38 t372 0).f0), .string x378002_27, .int .i64 t384, .string (rdOf ByteArray.empty ((rd_T38 t372 2).f1) 0)] (0, 0) _ rfl (by (with_reducible repeat (first | refine blk_drewN ?_ _ | refine blk_drew ?_ | refine blk_alloc ?_ _)); refine blk_put (cs := #[.int .u64 (IntKind.u64.wrap (t357)), .bool ((rd_T38 t372 0).f0), .string x378002_27, .int .i64 t384, .string (⟨#[]⟩ : ByteArray)]) ?_ 4 _ rfl; (with_reducible repeat (first | refine blk_drewN ?_ _ | refine blk_drew ?_ | refine blk_alloc ?_ _)); refine blk_put (cs := #[.int .u64 (IntKind.u64.wrap (t357)), .bool ((rd_T38 t372 0).f0), .string x378002_27, .int .i64 0, .string (⟨#[]⟩ : ByteArray)]) ?_ 3 _ rfl; (with_reducible repeat (first | refine blk_drewN ?_ _ | refine blk_drew ?_ | refine blk_alloc ?_ _)); refine blk_put (cs := #[.int .u64 (IntKind.u64.wrap (t357)), .bool ((rd_T38 t372 0).f0), .string (⟨#[]⟩ : ByteArray), .int .i64 0, .string (⟨#[]⟩ : ByteArray)]) ?_ 2 _ rfl; (with_reducible repeat (first | refine blk_drewN ?_ _ | refine blk_drew ?_ | refine blk_alloc ?_ _)); refine blk_put (cs := #[.int .u64 (IntKind.u64.wrap (t357)), .bool false, .string (⟨#[]⟩ : ByteArray), .int .i64 0, .string (⟨#[]⟩ : ByteArray)]) ?_ 1 _ rfl; (with_reducible repeat (first | refine blk_drewN ?_ _ | refine blk_drew ?_ | refine blk_alloc ?_ _)); refine blk_put (cs := #[.int .u64 0, .bool false, .string (⟨#[]⟩ : ByteArray), .int .i64 0, .string (⟨#[]⟩ : ByteArray)]) ?_ 0 _ rfl; (with_reducible repeat (first | refine blk_drewN ?_ _ | refine blk_drew ?_ | refine blk_alloc ?_ _)); refine blk_far ?_ NB355_377.out _; (with_reducible repeat (first | refine blk_drewN ?_ _ | refine blk_drew ?_ | refine blk_alloc ?_ _)); exact BK355.out) Try.underlying52 rfl (by kernel_rfl)) rfl ?_
                       exact ⟨by first | rfl | (simp [errW_none, errW_some] <;> rfl) | (simp [*, errW_none, errW_some] <;> rfl), by repeat (first | (with_reducible first | exact HB.out | apply below_alloc | apply pw_below_drewN | apply below_drew1 | refine below_set ?_ GE355.out | refine below_set ?_ GE377.out) | exact HB.out)⟩
                      ·rw [if_neg c79] at H
                       exact absurd H (by simp)
                     ·replace c78 := Bool.eq_false_iff.mpr c78
                      subst c78
                      rw [if_neg (show ¬ (false = true) by decide)] at H
                      simp only [Option.some.injEq, Prod.mk.injEq] at H
                      obtain ⟨rfl, rfl, rfl, rfl, rfl, rfl⟩ := H
                      have p381 : 0 ≤ (1 : Int) := (by omega)
                      have q381 : 1 < (t372.length : Int) := of_decide_eq_true (by first | (with_reducible assumption) | assumption)
                      obtain ⟨ad381, A381_1, c381_1, e381, hx381_0, hx381_1, hl381_1, hi381_1⟩ := at_T38 (Kd.S_reads' HO_10.out).2.2 1 p381 q381
                      (try rw [← Nbq44.out] at hx381_0)
                      (try rw [← Nbq77.out] at hx381_0)
                      obtain rfl : ad376 = ad381 := (by injection e381)
                      obtain ⟨ce381, hce381, hMe381, hcc381⟩ := Kd.S_get HO_10.out z38 1 p381 (by first | exact q381 | exact of_decide_eq_true (by first | (with_reducible assumption) | assumption) | (have e_ := (Kd.S_reads' HO_10.out).1; omega))
                      obtain ⟨ve381_1, rfl, ge381_1⟩ := k38_openM hMe381
                      have hv381_1 := hcc381 1 _ rfl
                      rw [add_field _ _ 1 (by omega)] at hv381_1
                      replace hv381_1 := Option.some.inj (hv381_1.symm.trans hx381_1)
                      rw [hv381_1] at ge381_1
                      have HL381_1 := Aside0.mk (show Kd.R Kd.string 9 _ _ _ _ ((rd_T38 t372 1).f1) from ge381_1)
                      clear hv381_1 ge381_1
                      clear hcc381 hce381
                      (try simp only [show (1 : Int).toNat = 1 from rfl, Nat.reduceMul, Nat.reduceEqDiff, Go.Addr.add, ↓reduceIte] at hx381_0)
                      (try simp only [show (1 : Int).toNat = 1 from rfl, Nat.reduceMul, Nat.reduceEqDiff, Go.Addr.add, ↓reduceIte] at hx381_1)
                      have qi381 : (1 < t372.length) = True := eq_true (by omega)
                      (try rw [show ((1 : Int)).toNat = 1 from rfl] at hx381_0)
                      (try rw [show 1 * 2 = 2 from rfl] at hx381_0)
                      (try rw [show ((1 : Int)).toNat = 1 from rfl] at hx381_1)
                      (try rw [show 1 * 2 = 2 from rfl] at hx381_1)
                      have HR381_1 := Aside0.mk hi381_1
                      have HC381_1 := Aside0.mk hl381_1
                      clear hi381_1 hl381_1
                      replace p381 := eq_true p381
                      replace q381 := eq_true q381
                      have p382 : 0 ≤ (1 : Int) := (by omega)
                      have q382 : 1 < (t372.length : Int) := of_decide_eq_true (by first | (with_reducible assumption) | assumption)
                      obtain ⟨ad382, A382_1, c382_1, e382, hx382_0, hx382_1, hl382_1, hi382_1⟩ := at_T38 (Kd.S_reads' HO_10.out).2.2 1 p382 q382
                      (try rw [← Nbq44.out] at hx382_0)
                      (try rw [← Nbq77.out] at hx382_0)
                      obtain rfl : ad376 = ad382 := (by injection e382)
                      obtain ⟨ce382, hce382, hMe382, hcc382⟩ := Kd.S_get HO_10.out z38 1 p382 (by first | exact q382 | exact of_decide_eq_true (by first | (with_reducible assumption) | assumption) | (have e_ := (Kd.S_reads' HO_10.out).1; omega))
                      obtain ⟨ve382_1, rfl, ge382_1⟩ := k38_openM hMe382
                      have hv382_1 := hcc382 1 _ rfl
                      rw [add_field _ _ 1 (by omega)] at hv382_1
                      replace hv382_1 := Option.some.inj (hv382_1.symm.trans hx382_1)
                      rw [hv382_1] at ge382_1
                      have HL382_1 := Aside0.mk (show Kd.R Kd.string 9 _ _ _ _ ((rd_T38 t372 1).f1) from ge382_1)
                      clear hv382_1 ge382_1
                      clear hcc382 hce382
                      (try simp only [show (1 : Int).toNat = 1 from rfl, Nat.reduceMul, Nat.reduceEqDiff, Go.Addr.add, ↓reduceIte] at hx382_0)
                      (try simp only [show (1 : Int).toNat = 1 from rfl, Nat.reduceMul, Nat.reduceEqDiff, Go.Addr.add, ↓reduceIte] at hx382_1)
                      have qi382 : (1 < t372.length) = True := eq_true (by omega)
                      (try rw [show ((1 : Int)).toNat = 1 from rfl] at hx382_0)
                      (try rw [show 1 * 2 = 2 from rfl] at hx382_0)
                      (try rw [show ((1 : Int)).toNat = 1 from rfl] at hx382_1)
                      (try rw [show 1 * 2 = 2 from rfl] at hx382_1)
                      have HR382_1 := Aside0.mk hi382_1
                      have HC382_1 := Aside0.mk hl382_1
                      clear hi382_1 hl382_1
                      replace p382 := eq_true p382
                      replace q382 := eq_true q382
                      have ea_ := Option.some.inj (hx381_1.symm.trans hx382_1)
                      injection ea_ with ea_ en_ ec_
                      subst ea_
                      subst ec_
                      clear en_
                      have p383 : 0 ≤ (0 : Int) := (by omega)
                      have q383 : 0 < (((rd_T38 t372 1).f1).length : Int) := of_decide_eq_true (by first | (with_reducible assumption) | assumption)
                      obtain ⟨ad383, e383, hx383_0⟩ := Kd.at_string (by repeat (first | (with_reducible exact HR382_1.out) | (with_reducible refine Kd.C_alloc ?_ _) | (with_reducible refine Kd.C_drewN ?_ _) | (with_reducible refine Kd.C_drew ?_) | exact HR382_1.out)) 0 p383 q383
                      cases e383
                      have qi383 : (0 < ((rd_T38 t372 1).f1).length) = True := eq_true (by omega)
                      (try rw [show ((0 : Int)).toNat = 0 from rfl] at hx383_0)
                      (try rw [Addr.add_zero'] at hx383_0)
                      replace p383 := eq_true p383
                      replace q383 := eq_true q383
                      go_wp2_with (first | ((with_reducible refine gate_callee (f := 29) rfl ?_); refine goesL_ (some 78) rfl rfl Try.func29 (by kernel_rfl) rfl #[.string (rdOf ByteArray.empty ((rd_T38 t372 1).f1) 0)] rfl (by (try simp only [List.map_toArray, List.map_cons, List.map_nil]); first | done | rfl | (simp only [List.length_drop, List.length_take]; rfl)) ?_; (with_reducible refine (mewsref01_Parse.calls kj27 (rdOf ByteArray.empty ((rd_T38 t372 1).f1) 0) t384 true _ A47.out).mono ?_); rintro e w86 ⟨rfl, hb⟩; refine ⟨_, rfl, ?_⟩; have n0_ := Aside0.mk (Kd.S_below (by (with_reducible repeat (first | apply Kd.S_alloc | apply Kd.S_drewN | apply Kd.S_drew)); exact HO_10.out) hb); have n1_ := Aside0.mk (Kd.R_below (by (with_reducible repeat (first | apply Kd.R_alloc | apply Kd.R_drewN | apply Kd.R_drew)); exact HL381_1.out) hb); have n2_ := Aside0.mk (Kd.R_below (by (with_reducible repeat (first | apply Kd.R_alloc | apply Kd.R_drewN | apply Kd.R_drew)); exact HL382_1.out) hb); have n3_ := Aside0.mk (blk_below (g := gb355) (o := .cells #[.int .u64 0, .bool false, .string (⟨#[]⟩ : ByteArray), .int .i64 0, .string (⟨#[]⟩ : ByteArray)] 52 (0, 0)) (by (with_reducible repeat (first | refine blk_drewN ?_ _ | refine blk_drew ?_ | refine blk_alloc ?_ _)); exact BK355.out) hb); have n4_ := Aside0.mk (blk_below (g := gb377) (o := .cells #[.int .u64 (IntKind.u64.wrap (t357)), .bool ((rd_T38 t372 0).f0), .string x378002_27, .int .i64 10, .string (⟨#[]⟩ : ByteArray)] 52 (0, 0)) (by (with_reducible repeat (first | refine blk_drewN ?_ _ | refine blk_drew ?_ | refine blk_alloc ?_ _)); exact BK377.out) hb); have n5_ := Aside0.mk (Kd.C_below (by repeat (first | (with_reducible exact HR381_1.out) | (with_reducible refine Kd.C_alloc ?_ _) | (with_reducible refine Kd.C_drewN ?_ _) | (with_reducible refine Kd.C_drew ?_) | exact HR381_1.out)) hb); have n6_ := Aside0.mk (Kd.C_below (by repeat (first | (with_reducible exact HR382_1.out) | (with_reducible refine Kd.C_alloc ?_ _) | (with_reducible refine Kd.C_drewN ?_ _) | (with_reducible refine Kd.C_drew ?_) | exact HR382_1.out)) hb); have n7_ := Aside0.mk (below_step (by repeat (first | (with_reducible first | exact HB.out | apply below_alloc | apply pw_below_drewN | apply below_drew1 | refine below_set ?_ GE355.out | refine below_set ?_ GE377.out) | exact HB.out)) hb); clear HO_10; clear HL381_1; clear HL382_1; clear BK355; clear BK377; clear HR381_1; clear HR382_1; clear HB; have HO_10 := n0_; have HL381_1 := n1_; have HL382_1 := n2_; have BK355 := n3_; have BK377 := n4_; have HR381_1 := n5_; have HR382_1 := n6_; have HB := n7_; clear n0_ n1_ n2_ n3_ n4_ n5_ n6_ n7_; (try clear hb); (try clear hb2); (try clear hk); (try clear hi); have hnb87 := NB377_355.out; have hnc87 := NB355_377.out; obtain ⟨hcz88_0, hcz88_1, hcz88_2, hcz88_3, hcz88_4, hfz88_0, hfz88_1, hfz88_2, hfz88_3, hfz88_4⟩ := cells5_ BK377.out) | ((with_reducible refine gate_store (t := 3) (p := 90) rfl ?_); refine store_event (t := 3) (p := 90) (v := ?vo_w89) (w1 := (w86.setCell ⟨gb377, 3, none⟩ (.int .i64 t384))) ?hg ?ho ?hn ?hr ?_; (case ho => rfl); (case hg => rfl); (case hn => rfl); (case hr => first | (go_simp; done) | (go_simp; rfl)); intro w89 hw; have n0_ : Aside0 (Kd.S k38 38 w89 w.heap.size (fun _ => True) (.slice (some ad376) t372.length co33) t372) := ⟨(by rw [hw]; exact (by (with_reducible repeat (first | apply Kd.S_alloc | apply Kd.S_drewN | apply Kd.S_drew)); exact Kd.S_mono (Kd.S_far (p := ⟨gb377, 3, none⟩) (Kd.S_types HO_10.out BK377.out (by decide)) (fun _ hk => hk.2) (.int .i64 t384)) (fun _ hk => trivial)))⟩; have n1_ : Aside0 (Kd.R Kd.string 9 w89 w.heap.size (fun k_ => some k_ ≠ (.slice (some ad376) t372.length co33 : Value).ownBlock) (.slice (some ad383) ((rd_T38 t372 1).f1).length c381_1) ((rd_T38 t372 1).f1)) := ⟨(by rw [hw]; exact (by (with_reducible repeat (first | apply Kd.R_alloc | apply Kd.R_drewN | apply Kd.R_drew)); exact Kd.R_mono (Kd.R_far (p := ⟨gb377, 3, none⟩) (Kd.R_types HL381_1.out BK377.out (by decide)) (fun _ hk => hk.2) (.int .i64 t384)) (fun _ hk => hk.1.2)))⟩; have n2_ : Aside0 (Kd.R Kd.string 9 w89 w.heap.size (fun k_ => some k_ ≠ (.slice (some ad376) t372.length co33 : Value).ownBlock) (.slice (some ad383) ((rd_T38 t372 1).f1).length c381_1) ((rd_T38 t372 1).f1)) := ⟨(by rw [hw]; exact (by (with_reducible repeat (first | apply Kd.R_alloc | apply Kd.R_drewN | apply Kd.R_drew)); exact Kd.R_mono (Kd.R_far (p := ⟨gb377, 3, none⟩) (Kd.R_types HL382_1.out BK377.out (by decide)) (fun _ hk => hk.2) (.int .i64 t384)) (fun _ hk => hk.1.2)))⟩; have n3_ : Aside0 (w89.heap[gb355]? = some (.cells #[.int .u64 0, .bool false, .string (⟨#[]⟩ : ByteArray), .int .i64 0, .string (⟨#[]⟩ : ByteArray)] 52 (0, 0))) := ⟨(by rw [hw]; exact (by (with_reducible repeat (first | refine blk_drewN ?_ _ | refine blk_drew ?_ | refine blk_alloc ?_ _)); refine blk_far ?_ NB355_377.out _; (with_reducible repeat (first | refine blk_drewN ?_ _ | refine blk_drew ?_ | refine blk_alloc ?_ _)); exact BK355.out))⟩; have n4_ : Aside0 (w89.heap[gb377]? = some (.cells #[.int .u64 (IntKind.u64.wrap (t357)), .bool ((rd_T38 t372 0).f0), .string x378002_27, .int .i64 t384, .string (⟨#[]⟩ : ByteArray)] 52 (0, 0))) := ⟨(by rw [hw]; exact (by (with_reducible repeat (first | refine blk_drewN ?_ _ | refine blk_drew ?_ | refine blk_alloc ?_ _)); refine blk_put (cs := #[.int .u64 (IntKind.u64.wrap (t357)), .bool ((rd_T38 t372 0).f0), .string x378002_27, .int .i64 10, .string (⟨#[]⟩ : ByteArray)]) ?_ 3 _ rfl; (with_reducible repeat (first | refine blk_drewN ?_ _ | refine blk_drew ?_ | refine blk_alloc ?_ _)); exact BK377.out))⟩; have n5_ : Aside0 (Below w.heap.size w w89) := ⟨(by rw [hw]; exact (by repeat (first | (with_reducible first | exact HB.out | apply below_alloc | apply pw_below_drewN | apply below_drew1 | refine below_set ?_ GE355.out | refine below_set ?_ GE377.out) | exact HB.out)))⟩; clear hw; clear HO_10; clear HL381_1; clear HL382_1; clear BK355; clear BK377; clear HB; have HO_10 := n0_; have HL381_1 := n1_; have HL382_1 := n2_; have BK355 := n3_; have BK377 := n4_; have HB := n5_; clear n0_ n1_ n2_ n3_ n4_ n5_; have p389 : 0 ≤ (2 : Int) := (by omega); have q389 : 2 < (t372.length : Int) := of_decide_eq_true (by first | (with_reducible assumption) | assumption); obtain ⟨ad389, A389_1, c389_1, e389, hx389_0, hx389_1, hl389_1, hi389_1⟩ := at_T38 (Kd.S_reads' HO_10.out).2.2 2 p389 q389; (try rw [← Nbq44.out] at hx389_0); (try rw [← Nbq77.out] at hx389_0); obtain rfl : ad376 = ad389 := (by injection e389); obtain ⟨ce389, hce389, hMe389, hcc389⟩ := Kd.S_get HO_10.out z38 2 p389 (by first | exact q389 | exact of_decide_eq_true (by first | (with_reducible assumption) | assumption) | (have e_ := (Kd.S_reads' HO_10.out).1; omega)); obtain ⟨ve389_1, rfl, ge389_1⟩ := k38_openM hMe389; have hv389_1 := hcc389 1 _ rfl; rw [add_field _ _ 1 (by omega)] at hv389_1; replace hv389_1 := Option.some.inj (hv389_1.symm.trans hx389_1); rw [hv389_1] at ge389_1; have HL389_1 := Aside0.mk (show Kd.R Kd.string 9 _ _ _ _ ((rd_T38 t372 2).f1) from ge389_1); clear hv389_1 ge389_1; clear hcc389 hce389; (try simp only [show (2 : Int).toNat = 2 from rfl, Nat.reduceMul, Nat.reduceEqDiff, Go.Addr.add, ↓reduceIte] at hx389_0); (try simp only [show (2 : Int).toNat = 2 from rfl, Nat.reduceMul, Nat.reduceEqDiff, Go.Addr.add, ↓reduceIte] at hx389_1); have qi389 : (2 < t372.length) = True := eq_true (by omega); (try rw [show ((2 : Int)).toNat = 2 from rfl] at hx389_0); (try rw [show 2 * 2 = 4 from rfl] at hx389_0); (try rw [show ((2 : Int)).toNat = 2 from rfl] at hx389_1); (try rw [show 2 * 2 = 4 from rfl] at hx389_1); have HR389_1 := Aside0.mk hi389_1; have HC389_1 := Aside0.mk hl389_1; clear hi389_1 hl389_1; replace p389 := eq_true p389; replace q389 := eq_true q389; obtain ⟨hcz90_0, hcz90_1, hcz90_2, hcz90_3, hcz90_4, hfz90_0, hfz90_1, hfz90_2, hfz90_3, hfz90_4⟩ := cells5_ BK377.out; obtain ⟨hcz91_0, hcz91_1, hcz91_2, hcz91_3, hcz91_4, hfz91_0, hfz91_1, hfz91_2, hfz91_3, hfz91_4⟩ := cells5_ BK355.out))
                      refine bodyPost_ret (results_ct rfl _ _ gb355 52 #[.int .u64 (IntKind.u64.wrap (t357)), .bool ((rd_T38 t372 0).f0), .string x378002_27, .int .i64 t384, .string (⟨#[]⟩ : ByteArray)] (0, 0) _ rfl (by (with_reducible repeat (first | refine blk_drewN ?_ _ | refine blk_drew ?_ | refine blk_alloc ?_ _)); refine blk_put (cs := #[.int .u64 (IntKind.u64.wrap (t357)), .bool ((rd_T38 t372 0).f0), .string x378002_27, .int .i64 t384, .string (⟨#[]⟩ : ByteArray)]) ?_ 4 _ rfl; (with_reducible repeat (first | refine blk_drewN ?_ _ | refine blk_drew ?_ | refine blk_alloc ?_ _)); refine blk_put (cs := #[.int .u64 (IntKind.u64.wrap (t357)), .bool ((rd_T38 t372 0).f0), .string x378002_27, .int .i64 0, .string (⟨#[]⟩ : ByteArray)]) ?_ 3 _ rfl; (with_reducible repeat (first | refine blk_drewN ?_ _ | refine blk_drew ?_ | refine blk_alloc ?_ _)); refine blk_put (cs := #[.int .u64 (IntKind.u64.wrap (t357)), .bool ((rd_T38 t372 0).f0), .string (⟨#[]⟩ : ByteArray), .int .i64 0, .string (⟨#[]⟩ : ByteArray)]) ?_ 2 _ rfl; (with_reducible repeat (first | refine blk_drewN ?_ _ | refine blk_drew ?_ | refine blk_alloc ?_ _)); refine blk_put (cs := #[.int .u64 (IntKind.u64.wrap (t357)), .bool false, .string (⟨#[]⟩ : ByteArray), .int .i64 0, .string (⟨#[]⟩ : ByteArray)]) ?_ 1 _ rfl; (with_reducible repeat (first | refine blk_drewN ?_ _ | refine blk_drew ?_ | refine blk_alloc ?_ _)); refine blk_put (cs := #[.int .u64 0, .bool false, .string (⟨#[]⟩ : ByteArray), .int .i64 0, .string (⟨#[]⟩ : ByteArray)]) ?_ 0 _ rfl; (with_reducible repeat (first | refine blk_drewN ?_ _ | refine blk_drew ?_ | refine blk_alloc ?_ _)); exact BK355.out) Try.underlying52 rfl (by kernel_rfl)) rfl ?_
                      exact ⟨by first | rfl | (simp [errW_none, errW_some] <;> rfl) | (simp [*, errW_none, errW_some] <;> rfl), by repeat (first | (with_reducible first | exact HB.out | apply below_alloc | apply pw_below_drewN | apply below_drew1 | refine below_set ?_ GE355.out | refine below_set ?_ GE377.out) | exact HB.out)⟩
                    ·rw [if_neg c76] at H
                     exact absurd H (by simp)
                   ·replace c75 := Bool.eq_false_iff.mpr c75
                    subst c75
                    rw [if_neg (show ¬ (false = true) by decide)] at H
                    simp only [Option.some.injEq, Prod.mk.injEq] at H
                    obtain ⟨rfl, rfl, rfl, rfl, rfl, rfl⟩ := H
                    have p381 : 0 ≤ (1 : Int) := (by omega)
                    have q381 : 1 < (t372.length : Int) := of_decide_eq_true (by first | (with_reducible assumption) | assumption)
                    obtain ⟨ad381, A381_1, c381_1, e381, hx381_0, hx381_1, hl381_1, hi381_1⟩ := at_T38 (Kd.S_reads' HO_10.out).2.2 1 p381 q381
                    (try rw [← Nbq44.out] at hx381_0)
                    obtain rfl : ad376 = ad381 := (by injection e381)
                    obtain ⟨ce381, hce381, hMe381, hcc381⟩ := Kd.S_get HO_10.out z38 1 p381 (by first | exact q381 | exact of_decide_eq_true (by first | (with_reducible assumption) | assumption) | (have e_ := (Kd.S_reads' HO_10.out).1; omega))
                    obtain ⟨ve381_1, rfl, ge381_1⟩ := k38_openM hMe381
                    have hv381_1 := hcc381 1 _ rfl
                    rw [add_field _ _ 1 (by omega)] at hv381_1
                    replace hv381_1 := Option.some.inj (hv381_1.symm.trans hx381_1)
                    rw [hv381_1] at ge381_1
                    have HL381_1 := Aside0.mk (show Kd.R Kd.string 9 _ _ _ _ ((rd_T38 t372 1).f1) from ge381_1)
                    clear hv381_1 ge381_1
                    clear hcc381 hce381
                    (try simp only [show (1 : Int).toNat = 1 from rfl, Nat.reduceMul, Nat.reduceEqDiff, Go.Addr.add, ↓reduceIte] at hx381_0)
                    (try simp only [show (1 : Int).toNat = 1 from rfl, Nat.reduceMul, Nat.reduceEqDiff, Go.Addr.add, ↓reduceIte] at hx381_1)
                    have qi381 : (1 < t372.length) = True := eq_true (by omega)
                    (try rw [show ((1 : Int)).toNat = 1 from rfl] at hx381_0)
                    (try rw [show 1 * 2 = 2 from rfl] at hx381_0)
                    (try rw [show ((1 : Int)).toNat = 1 from rfl] at hx381_1)
                    (try rw [show 1 * 2 = 2 from rfl] at hx381_1)
                    have HR381_1 := Aside0.mk hi381_1
                    have HC381_1 := Aside0.mk hl381_1
                    clear hi381_1 hl381_1
                    replace p381 := eq_true p381
                    replace q381 := eq_true q381
                    have p382 : 0 ≤ (1 : Int) := (by omega)
                    have q382 : 1 < (t372.length : Int) := of_decide_eq_true (by first | (with_reducible assumption) | assumption)
                    obtain ⟨ad382, A382_1, c382_1, e382, hx382_0, hx382_1, hl382_1, hi382_1⟩ := at_T38 (Kd.S_reads' HO_10.out).2.2 1 p382 q382
                    (try rw [← Nbq44.out] at hx382_0)
                    obtain rfl : ad376 = ad382 := (by injection e382)
                    obtain ⟨ce382, hce382, hMe382, hcc382⟩ := Kd.S_get HO_10.out z38 1 p382 (by first | exact q382 | exact of_decide_eq_true (by first | (with_reducible assumption) | assumption) | (have e_ := (Kd.S_reads' HO_10.out).1; omega))
                    obtain ⟨ve382_1, rfl, ge382_1⟩ := k38_openM hMe382
                    have hv382_1 := hcc382 1 _ rfl
                    rw [add_field _ _ 1 (by omega)] at hv382_1
                    replace hv382_1 := Option.some.inj (hv382_1.symm.trans hx382_1)
                    rw [hv382_1] at ge382_1
                    have HL382_1 := Aside0.mk (show Kd.R Kd.string 9 _ _ _ _ ((rd_T38 t372 1).f1) from ge382_1)
                    clear hv382_1 ge382_1
                    clear hcc382 hce382
                    (try simp only [show (1 : Int).toNat = 1 from rfl, Nat.reduceMul, Nat.reduceEqDiff, Go.Addr.add, ↓reduceIte] at hx382_0)
                    (try simp only [show (1 : Int).toNat = 1 from rfl, Nat.reduceMul, Nat.reduceEqDiff, Go.Addr.add, ↓reduceIte] at hx382_1)
                    have qi382 : (1 < t372.length) = True := eq_true (by omega)
                    (try rw [show ((1 : Int)).toNat = 1 from rfl] at hx382_0)
                    (try rw [show 1 * 2 = 2 from rfl] at hx382_0)
                    (try rw [show ((1 : Int)).toNat = 1 from rfl] at hx382_1)
                    (try rw [show 1 * 2 = 2 from rfl] at hx382_1)
                    have HR382_1 := Aside0.mk hi382_1
                    have HC382_1 := Aside0.mk hl382_1
                    clear hi382_1 hl382_1
                    replace p382 := eq_true p382
                    replace q382 := eq_true q382
                    have ea_ := Option.some.inj (hx381_1.symm.trans hx382_1)
                    injection ea_ with ea_ en_ ec_
                    subst ea_
                    subst ec_
                    clear en_
                    have p383 : 0 ≤ (0 : Int) := (by omega)
                    have q383 : 0 < (((rd_T38 t372 1).f1).length : Int) := of_decide_eq_true (by first | (with_reducible assumption) | assumption)
                    obtain ⟨ad383, e383, hx383_0⟩ := Kd.at_string (by repeat (first | (with_reducible exact HR382_1.out) | (with_reducible refine Kd.C_alloc ?_ _) | (with_reducible refine Kd.C_drewN ?_ _) | (with_reducible refine Kd.C_drew ?_) | exact HR382_1.out)) 0 p383 q383
                    cases e383
                    have qi383 : (0 < ((rd_T38 t372 1).f1).length) = True := eq_true (by omega)
                    (try rw [show ((0 : Int)).toNat = 0 from rfl] at hx383_0)
                    (try rw [Addr.add_zero'] at hx383_0)
                    replace p383 := eq_true p383
                    replace q383 := eq_true q383
                    go_wp2_with (first | ((with_reducible refine gate_callee (f := 29) rfl ?_); refine goesL_ (some 78) rfl rfl Try.func29 (by kernel_rfl) rfl #[.string (rdOf ByteArray.empty ((rd_T38 t372 1).f1) 0)] rfl (by (try simp only [List.map_toArray, List.map_cons, List.map_nil]); first | done | rfl | (simp only [List.length_drop, List.length_take]; rfl)) ?_; (with_reducible refine (mewsref01_Parse.calls kj27 (rdOf ByteArray.empty ((rd_T38 t372 1).f1) 0) t384 true _ A47.out).mono ?_); rintro e w92 ⟨rfl, hb⟩; refine ⟨_, rfl, ?_⟩; have n0_ := Aside0.mk (Kd.S_below (by (with_reducible repeat (first | apply Kd.S_alloc | apply Kd.S_drewN | apply Kd.S_drew)); exact HO_10.out) hb); have n1_ := Aside0.mk (Kd.R_below (by (with_reducible repeat (first | apply Kd.R_alloc | apply Kd.R_drewN | apply Kd.R_drew)); exact HL381_1.out) hb); have n2_ := Aside0.mk (Kd.R_below (by (with_reducible repeat (first | apply Kd.R_alloc | apply Kd.R_drewN | apply Kd.R_drew)); exact HL382_1.out) hb); have n3_ := Aside0.mk (blk_below (g := gb355) (o := .cells #[.int .u64 0, .bool false, .string (⟨#[]⟩ : ByteArray), .int .i64 0, .string (⟨#[]⟩ : ByteArray)] 52 (0, 0)) (by (with_reducible repeat (first | refine blk_drewN ?_ _ | refine blk_drew ?_ | refine blk_alloc ?_ _)); exact BK355.out) hb); have n4_ := Aside0.mk (blk_below (g := gb377) (o := .cells #[.int .u64 (IntKind.u64.wrap (t357)), .bool ((rd_T38 t372 0).f0), .string x378002_27, .int .i64 10, .string (⟨#[]⟩ : ByteArray)] 52 (0, 0)) (by (with_reducible repeat (first | refine blk_drewN ?_ _ | refine blk_drew ?_ | refine blk_alloc ?_ _)); exact BK377.out) hb); have n5_ := Aside0.mk (Kd.C_below (by repeat (first | (with_reducible exact HR381_1.out) | (with_reducible refine Kd.C_alloc ?_ _) | (with_reducible refine Kd.C_drewN ?_ _) | (with_reducible refine Kd.C_drew ?_) | exact HR381_1.out)) hb); have n6_ := Aside0.mk (Kd.C_below (by repeat (first | (with_reducible exact HR382_1.out) | (with_reducible refine Kd.C_alloc ?_ _) | (with_reducible refine Kd.C_drewN ?_ _) | (with_reducible refine Kd.C_drew ?_) | exact HR382_1.out)) hb); have n7_ := Aside0.mk (below_step (by repeat (first | (with_reducible first | exact HB.out | apply below_alloc | apply pw_below_drewN | apply below_drew1 | refine below_set ?_ GE355.out | refine below_set ?_ GE377.out) | exact HB.out)) hb); clear HO_10; clear HL381_1; clear HL382_1; clear BK355; clear BK377; clear HR381_1; clear HR382_1; clear HB; have HO_10 := n0_; have HL381_1 := n1_; have HL382_1 := n2_; have BK355 := n3_; have BK377 := n4_; have HR381_1 := n5_; have HR382_1 := n6_; have HB := n7_; clear n0_ n1_ n2_ n3_ n4_ n5_ n6_ n7_; (try clear hb); (try clear hb2); (try clear hk); (try clear hi); have hnb93 := NB377_355.out; have hnc93 := NB355_377.out; obtain ⟨hcz94_0, hcz94_1, hcz94_2, hcz94_3, hcz94_4, hfz94_0, hfz94_1, hfz94_2, hfz94_3, hfz94_4⟩ := cells5_ BK377.out; obtain ⟨hcz95_0, hcz95_1, hcz95_2, hcz95_3, hcz95_4, hfz95_0, hfz95_1, hfz95_2, hfz95_3, hfz95_4⟩ := cells5_ BK355.out))
                    refine bodyPost_ret (results_ct rfl _ _ gb355 52 #[.int .u64 (IntKind.u64.wrap (t357)), .bool ((rd_T38 t372 0).f0), .string x378002_27, .int .i64 t384, .string (⟨#[]⟩ : ByteArray)] (0, 0) _ rfl (by (with_reducible repeat (first | refine blk_drewN ?_ _ | refine blk_drew ?_ | refine blk_alloc ?_ _)); refine blk_put (cs := #[.int .u64 (IntKind.u64.wrap (t357)), .bool ((rd_T38 t372 0).f0), .string x378002_27, .int .i64 t384, .string (⟨#[]⟩ : ByteArray)]) ?_ 4 _ rfl; (with_reducible repeat (first | refine blk_drewN ?_ _ | refine blk_drew ?_ | refine blk_alloc ?_ _)); refine blk_put (cs := #[.int .u64 (IntKind.u64.wrap (t357)), .bool ((rd_T38 t372 0).f0), .string x378002_27, .int .i64 0, .string (⟨#[]⟩ : ByteArray)]) ?_ 3 _ rfl; (with_reducible repeat (first | refine blk_drewN ?_ _ | refine blk_drew ?_ | refine blk_alloc ?_ _)); refine blk_put (cs := #[.int .u64 (IntKind.u64.wrap (t357)), .bool ((rd_T38 t372 0).f0), .string (⟨#[]⟩ : ByteArray), .int .i64 0, .string (⟨#[]⟩ : ByteArray)]) ?_ 2 _ rfl; (with_reducible repeat (first | refine blk_drewN ?_ _ | refine blk_drew ?_ | refine blk_alloc ?_ _)); refine blk_put (cs := #[.int .u64 (IntKind.u64.wrap (t357)), .bool false, .string (⟨#[]⟩ : ByteArray), .int .i64 0, .string (⟨#[]⟩ : ByteArray)]) ?_ 1 _ rfl; (with_reducible repeat (first | refine blk_drewN ?_ _ | refine blk_drew ?_ | refine blk_alloc ?_ _)); refine blk_put (cs := #[.int .u64 0, .bool false, .string (⟨#[]⟩ : ByteArray), .int .i64 0, .string (⟨#[]⟩ : ByteArray)]) ?_ 0 _ rfl; (with_reducible repeat (first | refine blk_drewN ?_ _ | refine blk_drew ?_ | refine blk_alloc ?_ _)); refine blk_far ?_ NB355_377.out _; (with_reducible repeat (first | refine blk_drewN ?_ _ | refine blk_drew ?_ | refine blk_alloc ?_ _)); exact BK355.out) Try.underlying52 rfl (by kernel_rfl)) rfl ?_
                    exact ⟨by first | rfl | (simp [errW_none, errW_some] <;> rfl) | (simp [*, errW_none, errW_some] <;> rfl), by repeat (first | (with_reducible first | exact HB.out | apply below_alloc | apply pw_below_drewN | apply below_drew1 | refine below_set ?_ GE355.out | refine below_set ?_ GE377.out) | exact HB.out)⟩
                ·replace c48 := Bool.eq_false_iff.mpr c48
                 subst c48
                 rw [if_neg (show ¬ (false = true) by decide)] at H
                 simp only [Option.some.injEq, Prod.mk.injEq] at H
                 obtain ⟨rfl, rfl, rfl, rfl, rfl, rfl⟩ := H
                 have p381 : 0 ≤ (1 : Int) := (by omega)
                 have q381 : 1 < (t372.length : Int) := of_decide_eq_true (by first | (with_reducible assumption) | assumption)
                 obtain ⟨ad381, A381_1, c381_1, e381, hx381_0, hx381_1, hl381_1, hi381_1⟩ := at_T38 (Kd.S_reads' HO_10.out).2.2 1 p381 q381
                 (try rw [← Nbq44.out] at hx381_0)
                 obtain rfl : ad376 = ad381 := (by injection e381)
                 obtain ⟨ce381, hce381, hMe381, hcc381⟩ := Kd.S_get HO_10.out z38 1 p381 (by first | exact q381 | exact of_decide_eq_true (by first | (with_reducible assumption) | assumption) | (have e_ := (Kd.S_reads' HO_10.out).1; omega))
                 obtain ⟨ve381_1, rfl, ge381_1⟩ := k38_openM hMe381
                 have hv381_1 := hcc381 1 _ rfl
                 rw [add_field _ _ 1 (by omega)] at hv381_1
                 replace hv381_1 := Option.some.inj (hv381_1.symm.trans hx381_1)
                 rw [hv381_1] at ge381_1
                 have HL381_1 := Aside0.mk (show Kd.R Kd.string 9 _ _ _ _ ((rd_T38 t372 1).f1) from ge381_1)
                 clear hv381_1 ge381_1
                 clear hcc381 hce381
                 (try simp only [show (1 : Int).toNat = 1 from rfl, Nat.reduceMul, Nat.reduceEqDiff, Go.Addr.add, ↓reduceIte] at hx381_0)
                 (try simp only [show (1 : Int).toNat = 1 from rfl, Nat.reduceMul, Nat.reduceEqDiff, Go.Addr.add, ↓reduceIte] at hx381_1)
                 have qi381 : (1 < t372.length) = True := eq_true (by omega)
                 (try rw [show ((1 : Int)).toNat = 1 from rfl] at hx381_0)
                 (try rw [show 1 * 2 = 2 from rfl] at hx381_0)
                 (try rw [show ((1 : Int)).toNat = 1 from rfl] at hx381_1)
                 (try rw [show 1 * 2 = 2 from rfl] at hx381_1)
                 have HR381_1 := Aside0.mk hi381_1
                 have HC381_1 := Aside0.mk hl381_1
                 clear hi381_1 hl381_1
                 replace p381 := eq_true p381
                 replace q381 := eq_true q381
                 have p382 : 0 ≤ (1 : Int) := (by omega)
                 have q382 : 1 < (t372.length : Int) := of_decide_eq_true (by first | (with_reducible assumption) | assumption)
                 obtain ⟨ad382, A382_1, c382_1, e382, hx382_0, hx382_1, hl382_1, hi382_1⟩ := at_T38 (Kd.S_reads' HO_10.out).2.2 1 p382 q382
                 (try rw [← Nbq44.out] at hx382_0)
                 obtain rfl : ad376 = ad382 := (by injection e382)
                 obtain ⟨ce382, hce382, hMe382, hcc382⟩ := Kd.S_get HO_10.out z38 1 p382 (by first | exact q382 | exact of_decide_eq_true (by first | (with_reducible assumption) | assumption) | (have e_ := (Kd.S_reads' HO_10.out).1; omega))
                 obtain ⟨ve382_1, rfl, ge382_1⟩ := k38_openM hMe382
                 have hv382_1 := hcc382 1 _ rfl
                 rw [add_field _ _ 1 (by omega)] at hv382_1
                 replace hv382_1 := Option.some.inj (hv382_1.symm.trans hx382_1)
                 rw [hv382_1] at ge382_1
                 have HL382_1 := Aside0.mk (show Kd.R Kd.string 9 _ _ _ _ ((rd_T38 t372 1).f1) from ge382_1)
                 clear hv382_1 ge382_1
                 clear hcc382 hce382
                 (try simp only [show (1 : Int).toNat = 1 from rfl, Nat.reduceMul, Nat.reduceEqDiff, Go.Addr.add, ↓reduceIte] at hx382_0)
                 (try simp only [show (1 : Int).toNat = 1 from rfl, Nat.reduceMul, Nat.reduceEqDiff, Go.Addr.add, ↓reduceIte] at hx382_1)
                 have qi382 : (1 < t372.length) = True := eq_true (by omega)
                 (try rw [show ((1 : Int)).toNat = 1 from rfl] at hx382_0)
                 (try rw [show 1 * 2 = 2 from rfl] at hx382_0)
                 (try rw [show ((1 : Int)).toNat = 1 from rfl] at hx382_1)
                 (try rw [show 1 * 2 = 2 from rfl] at hx382_1)
                 have HR382_1 := Aside0.mk hi382_1
                 have HC382_1 := Aside0.mk hl382_1
                 clear hi382_1 hl382_1
                 replace p382 := eq_true p382
                 replace q382 := eq_true q382
                 have ea_ := Option.some.inj (hx381_1.symm.trans hx382_1)
                 injection ea_ with ea_ en_ ec_
                 subst ea_
                 subst ec_
                 clear en_
                 have p383 : 0 ≤ (0 : Int) := (by omega)
                 have q383 : 0 < (((rd_T38 t372 1).f1).length : Int) := of_decide_eq_true (by first | (with_reducible assumption) | assumption)
                 obtain ⟨ad383, e383, hx383_0⟩ := Kd.at_string (by repeat (first | (with_reducible exact HR382_1.out) | (with_reducible refine Kd.C_alloc ?_ _) | (with_reducible refine Kd.C_drewN ?_ _) | (with_reducible refine Kd.C_drew ?_) | exact HR382_1.out)) 0 p383 q383
                 cases e383
                 have qi383 : (0 < ((rd_T38 t372 1).f1).length) = True := eq_true (by omega)
                 (try rw [show ((0 : Int)).toNat = 0 from rfl] at hx383_0)
                 (try rw [Addr.add_zero'] at hx383_0)
                 replace p383 := eq_true p383
                 replace q383 := eq_true q383
                 go_wp2_with (first | ((with_reducible refine gate_callee (f := 29) rfl ?_); refine goesL_ (some 78) rfl rfl Try.func29 (by kernel_rfl) rfl #[.string (rdOf ByteArray.empty ((rd_T38 t372 1).f1) 0)] rfl (by (try simp only [List.map_toArray, List.map_cons, List.map_nil]); first | done | rfl | (simp only [List.length_drop, List.length_take]; rfl)) ?_; (with_reducible refine (mewsref01_Parse.calls kj27 (rdOf ByteArray.empty ((rd_T38 t372 1).f1) 0) t384 false _ A47.out).mono ?_); rintro e w96 ⟨rfl, hb⟩; refine ⟨_, rfl, ?_⟩; have n0_ := Aside0.mk (Kd.S_below (by (with_reducible repeat (first | apply Kd.S_alloc | apply Kd.S_drewN | apply Kd.S_drew)); exact HO_10.out) hb); have n1_ := Aside0.mk (Kd.R_below (by (with_reducible repeat (first | apply Kd.R_alloc | apply Kd.R_drewN | apply Kd.R_drew)); exact HL381_1.out) hb); have n2_ := Aside0.mk (Kd.R_below (by (with_reducible repeat (first | apply Kd.R_alloc | apply Kd.R_drewN | apply Kd.R_drew)); exact HL382_1.out) hb); have n3_ := Aside0.mk (blk_below (g := gb355) (o := .cells #[.int .u64 0, .bool false, .string (⟨#[]⟩ : ByteArray), .int .i64 0, .string (⟨#[]⟩ : ByteArray)] 52 (0, 0)) (by (with_reducible repeat (first | refine blk_drewN ?_ _ | refine blk_drew ?_ | refine blk_alloc ?_ _)); exact BK355.out) hb); have n4_ := Aside0.mk (blk_below (g := gb377) (o := .cells #[.int .u64 (IntKind.u64.wrap (t357)), .bool ((rd_T38 t372 0).f0), .string x378002_27, .int .i64 10, .string (⟨#[]⟩ : ByteArray)] 52 (0, 0)) (by (with_reducible repeat (first | refine blk_drewN ?_ _ | refine blk_drew ?_ | refine blk_alloc ?_ _)); exact BK377.out) hb); have n5_ := Aside0.mk (Kd.C_below (by repeat (first | (with_reducible exact HR381_1.out) | (with_reducible refine Kd.C_alloc ?_ _) | (with_reducible refine Kd.C_drewN ?_ _) | (with_reducible refine Kd.C_drew ?_) | exact HR381_1.out)) hb); have n6_ := Aside0.mk (Kd.C_below (by repeat (first | (with_reducible exact HR382_1.out) | (with_reducible refine Kd.C_alloc ?_ _) | (with_reducible refine Kd.C_drewN ?_ _) | (with_reducible refine Kd.C_drew ?_) | exact HR382_1.out)) hb); have n7_ := Aside0.mk (below_step (by repeat (first | (with_reducible first | exact HB.out | apply below_alloc | apply pw_below_drewN | apply below_drew1 | refine below_set ?_ GE355.out | refine below_set ?_ GE377.out) | exact HB.out)) hb); clear HO_10; clear HL381_1; clear HL382_1; clear BK355; clear BK377; clear HR381_1; clear HR382_1; clear HB; have HO_10 := n0_; have HL381_1 := n1_; have HL382_1 := n2_; have BK355 := n3_; have BK377 := n4_; have HR381_1 := n5_; have HR382_1 := n6_; have HB := n7_; clear n0_ n1_ n2_ n3_ n4_ n5_ n6_ n7_; (try clear hb); (try clear hb2); (try clear hk); (try clear hi); have hnb97 := NB355_377.out; have hnc97 := NB377_355.out; obtain ⟨hcz98_0, hcz98_1, hcz98_2, hcz98_3, hcz98_4, hfz98_0, hfz98_1, hfz98_2, hfz98_3, hfz98_4⟩ := cells5_ BK355.out))
                 refine bodyPost_ret (results_ct rfl _ _ gb355 52 #[.int .u64 0, .bool false, .string (⟨#[]⟩ : ByteArray), .int .i64 0, .string (⟨#[]⟩ : ByteArray)] (0, 0) _ rfl (by (with_reducible repeat (first | refine blk_drewN ?_ _ | refine blk_drew ?_ | refine blk_alloc ?_ _)); refine blk_put (cs := #[.int .u64 0, .bool false, .string (⟨#[]⟩ : ByteArray), .int .i64 0, .string (⟨#[]⟩ : ByteArray)]) ?_ 4 _ rfl; (with_reducible repeat (first | refine blk_drewN ?_ _ | refine blk_drew ?_ | refine blk_alloc ?_ _)); refine blk_put (cs := #[.int .u64 0, .bool false, .string (⟨#[]⟩ : ByteArray), .int .i64 0, .string (⟨#[]⟩ : ByteArray)]) ?_ 3 _ rfl; (with_reducible repeat (first | refine blk_drewN ?_ _ | refine blk_drew ?_ | refine blk_alloc ?_ _)); refine blk_put (cs := #[.int .u64 0, .bool false, .string (⟨#[]⟩ : ByteArray), .int .i64 0, .string (⟨#[]⟩ : ByteArray)]) ?_ 2 _ rfl; (with_reducible repeat (first | refine blk_drewN ?_ _ | refine blk_drew ?_ | refine blk_alloc ?_ _)); refine blk_put (cs := #[.int .u64 0, .bool false, .string (⟨#[]⟩ : ByteArray), .int .i64 0, .string (⟨#[]⟩ : ByteArray)]) ?_ 1 _ rfl; (with_reducible repeat (first | refine blk_drewN ?_ _ | refine blk_drew ?_ | refine blk_alloc ?_ _)); refine blk_put (cs := #[.int .u64 0, .bool false, .string (⟨#[]⟩ : ByteArray), .int .i64 0, .string (⟨#[]⟩ : ByteArray)]) ?_ 0 _ rfl; (with_reducible repeat (first | refine blk_drewN ?_ _ | refine blk_drew ?_ | refine blk_alloc ?_ _)); exact BK355.out) Try.underlying52 rfl (by kernel_rfl)) rfl ?_
                 exact ⟨by first | rfl | (simp [errW_none, errW_some] <;> rfl) | (simp [*, errW_none, errW_some] <;> rfl), by repeat (first | (with_reducible first | exact HB.out | apply below_alloc | apply pw_below_drewN | apply below_drew1 | refine below_set ?_ GE355.out | refine below_set ?_ GE377.out) | exact HB.out)⟩
               ·rw [if_neg c46] at H
                exact absurd H (by simp)
              ·replace c45 := Bool.eq_false_iff.mpr c45
               subst c45
               rw [if_neg (show ¬ (false = true) by decide)] at H
               by_cases c99 : a1 = true
               ·subst c99
                rw [if_pos rfl] at H
                by_cases c100 : 2 < (t372.length : Int)
                ·rw [if_pos c100] at H
                 have c100b0 : decide (2 < (t372.length : Int)) = true := decide_eq_true c100
                 have c100b1 : decide (2 < t372.length) = true := decide_eq_true (by omega)
                 clear c100
                 obtain ⟨bq101, hbq101⟩ : ∃ b_ : Bool, b_ = ((rd_T38 t372 2).f0) := ⟨_, rfl⟩
                 replace H : (if bq101 = true then (if 0 < (((rd_T38 t372 2).f1).length : Int) then (some ((IntKind.u64.wrap (t357)), ((rd_T38 t372 0).f0), x378002_27, 10, rdOf ByteArray.empty ((rd_T38 t372 2).f1) 0, (⟨#[]⟩ : ByteArray))) else (none)) else (some ((IntKind.u64.wrap (t357)), ((rd_T38 t372 0).f0), x378002_27, 10, (⟨#[]⟩ : ByteArray), (⟨#[]⟩ : ByteArray)))) = some (r1, r2, r3, r4, r5, r6) := by rw [← hbq101] at H; exact H
                 have Nbq101 := Aside0.mk hbq101
                 clear hbq101
                 by_cases c102 : bq101 = true
                 ·subst c102
                  rw [if_pos rfl] at H
                  by_cases c103 : 0 < (((rd_T38 t372 2).f1).length : Int)
                  ·rw [if_pos c103] at H
                   have c103b0 : decide (0 < (((rd_T38 t372 2).f1).length : Int)) = true := decide_eq_true c103
                   have c103b1 : decide (0 < ((rd_T38 t372 2).f1).length) = true := decide_eq_true (by omega)
                   clear c103
                   simp only [Option.some.injEq, Prod.mk.injEq] at H
                   obtain ⟨rfl, rfl, rfl, rfl, rfl, rfl⟩ := H
                   have p381 : 0 ≤ (1 : Int) := (by omega)
                   have q381 : 1 < (t372.length : Int) := of_decide_eq_true (by first | (with_reducible assumption) | assumption)
                   obtain ⟨ad381, A381_1, c381_1, e381, hx381_0, hx381_1, hl381_1, hi381_1⟩ := at_T38 (Kd.S_reads' HO_10.out).2.2 1 p381 q381
                   (try rw [← Nbq44.out] at hx381_0)
                   (try rw [← Nbq101.out] at hx381_0)
                   obtain rfl : ad376 = ad381 := (by injection e381)
                   obtain ⟨ce381, hce381, hMe381, hcc381⟩ := Kd.S_get HO_10.out z38 1 p381 (by first | exact q381 | exact of_decide_eq_true (by first | (with_reducible assumption) | assumption) | (have e_ := (Kd.S_reads' HO_10.out).1; omega))
                   obtain ⟨ve381_1, rfl, ge381_1⟩ := k38_openM hMe381
                   have hv381_1 := hcc381 1 _ rfl
                   rw [add_field _ _ 1 (by omega)] at hv381_1
                   replace hv381_1 := Option.some.inj (hv381_1.symm.trans hx381_1)
                   rw [hv381_1] at ge381_1
                   have HL381_1 := Aside0.mk (show Kd.R Kd.string 9 _ _ _ _ ((rd_T38 t372 1).f1) from ge381_1)
                   clear hv381_1 ge381_1
                   clear hcc381 hce381
                   (try simp only [show (1 : Int).toNat = 1 from rfl, Nat.reduceMul, Nat.reduceEqDiff, Go.Addr.add, ↓reduceIte] at hx381_0)
                   (try simp only [show (1 : Int).toNat = 1 from rfl, Nat.reduceMul, Nat.reduceEqDiff, Go.Addr.add, ↓reduceIte] at hx381_1)
                   have qi381 : (1 < t372.length) = True := eq_true (by omega)
                   (try rw [show ((1 : Int)).toNat = 1 from rfl] at hx381_0)
                   (try rw [show 1 * 2 = 2 from rfl] at hx381_0)
                   (try rw [show ((1 : Int)).toNat = 1 from rfl] at hx381_1)
                   (try rw [show 1 * 2 = 2 from rfl] at hx381_1)
                   have HR381_1 := Aside0.mk hi381_1
                   have HC381_1 := Aside0.mk hl381_1
                   clear hi381_1 hl381_1
                   replace p381 := eq_true p381
                   replace q381 := eq_true q381
                   have p392 : 0 ≤ (2 : Int) := (by omega)
                   have q392 : 2 < (t372.length : Int) := of_decide_eq_true (by first | (with_reducible assumption) | assumption)
                   obtain ⟨ad392, A392_1, c392_1, e392, hx392_0, hx392_1, hl392_1, hi392_1⟩ := at_T38 (Kd.S_reads' HO_10.out).2.2 2 p392 q392
                   (try rw [← Nbq44.out] at hx392_0)
                   (try rw [← Nbq101.out] at hx392_0)
                   obtain rfl : ad376 = ad392 := (by injection e392)
                   obtain ⟨ce392, hce392, hMe392, hcc392⟩ := Kd.S_get HO_10.out z38 2 p392 (by first | exact q392 | exact of_decide_eq_true (by first | (with_reducible assumption) | assumption) | (have e_ := (Kd.S_reads' HO_10.out).1; omega))
                   obtain ⟨ve392_1, rfl, ge392_1⟩ := k38_openM hMe392
                   have hv392_1 := hcc392 1 _ rfl
                   rw [add_field _ _ 1 (by omega)] at hv392_1
                   replace hv392_1 := Option.some.inj (hv392_1.symm.trans hx392_1)
                   rw [hv392_1] at ge392_1
                   have HL392_1 := Aside0.mk (show Kd.R Kd.string 9 _ _ _ _ ((rd_T38 t372 2).f1) from ge392_1)
                   clear hv392_1 ge392_1
                   clear hcc392 hce392
                   (try simp only [show (2 : Int).toNat = 2 from rfl, Nat.reduceMul, Nat.reduceEqDiff, Go.Addr.add, ↓reduceIte] at hx392_0)
                   (try simp only [show (2 : Int).toNat = 2 from rfl, Nat.reduceMul, Nat.reduceEqDiff, Go.Addr.add, ↓reduceIte] at hx392_1)
                   have qi392 : (2 < t372.length) = True := eq_true (by omega)
                   (try rw [show ((2 : Int)).toNat = 2 from rfl] at hx392_0)
                   (try rw [show 2 * 2 = 4 from rfl] at hx392_0)
                   (try rw [show ((2 : Int)).toNat = 2 from rfl] at hx392_1)
                   (try rw [show 2 * 2 = 4 from rfl] at hx392_1)
                   have HR392_1 := Aside0.mk hi392_1
                   have HC392_1 := Aside0.mk hl392_1
                   clear hi392_1 hl392_1
                   replace p392 := eq_true p392
                   replace q392 := eq_true q392
                   have p393 : 0 ≤ (2 : Int) := (by omega)
                   have q393 : 2 < (t372.length : Int) := of_decide_eq_true (by first | (with_reducible assumption) | assumption)
                   obtain ⟨ad393, A393_1, c393_1, e393, hx393_0, hx393_1, hl393_1, hi393_1⟩ := at_T38 (Kd.S_reads' HO_10.out).2.2 2 p393 q393
                   (try rw [← Nbq44.out] at hx393_0)
                   (try rw [← Nbq101.out] at hx393_0)
                   obtain rfl : ad376 = ad393 := (by injection e393)
                   obtain ⟨ce393, hce393, hMe393, hcc393⟩ := Kd.S_get HO_10.out z38 2 p393 (by first | exact q393 | exact of_decide_eq_true (by first | (with_reducible assumption) | assumption) | (have e_ := (Kd.S_reads' HO_10.out).1; omega))
                   obtain ⟨ve393_1, rfl, ge393_1⟩ := k38_openM hMe393
                   have hv393_1 := hcc393 1 _ rfl
                   rw [add_field _ _ 1 (by omega)] at hv393_1
                   replace hv393_1 := Option.some.inj (hv393_1.symm.trans hx393_1)
                   rw [hv393_1] at ge393_1
                   have HL393_1 := Aside0.mk (show Kd.R Kd.string 9 _ _ _ _ ((rd_T38 t372 2).f1) from ge393_1)
                   clear hv393_1 ge393_1
                   clear hcc393 hce393
                   (try simp only [show (2 : Int).toNat = 2 from rfl, Nat.reduceMul, Nat.reduceEqDiff, Go.Addr.add, ↓reduceIte] at hx393_0)
                   (try simp only [show (2 : Int).toNat = 2 from rfl, Nat.reduceMul, Nat.reduceEqDiff, Go.Addr.add, ↓reduceIte] at hx393_1)
                   have qi393 : (2 < t372.length) = True := eq_true (by omega)
                   (try rw [show ((2 : Int)).toNat = 2 from rfl] at hx393_0)
                   (try rw [show 2 * 2 = 4 from rfl] at hx393_0)
                   (try rw [show ((2 : Int)).toNat = 2 from rfl] at hx393_1)
                   (try rw [show 2 * 2 = 4 from rfl] at hx393_1)
                   have HR393_1 := Aside0.mk hi393_1
                   have HC393_1 := Aside0.mk hl393_1
                   clear hi393_1 hl393_1
                   replace p393 := eq_true p393
                   replace q393 := eq_true q393
                   have ea_ := Option.some.inj (hx392_1.symm.trans hx393_1)
                   injection ea_ with ea_ en_ ec_
                   subst ea_
                   subst ec_
                   clear en_
                   have p394 : 0 ≤ (0 : Int) := (by omega)
                   have q394 : 0 < (((rd_T38 t372 2).f1).length : Int) := of_decide_eq_true (by first | (with_reducible assumption) | assumption)
                   obtain ⟨ad394, e394, hx394_0⟩ := Kd.at_string (by repeat (first | (with_reducible exact HR393_1.out) | (with_reducible refine Kd.C_alloc ?_ _) | (with_reducible refine Kd.C_drewN ?_ _) | (with_reducible refine Kd.C_drew ?_) | exact HR393_1.out)) 0 p394 q394
                   cases e394
                   have qi394 : (0 < ((rd_T38 t372 2).f1).length) = True := eq_true (by omega)
                   (try rw [show ((0 : Int)).toNat = 0 from rfl] at hx394_0)
                   (try rw [Addr.add_zero'] at hx394_0)
                   replace p394 := eq_true p394
                   replace q394 := eq_true q394
                   have hnb104 := NB377_355.out
                   have hnc104 := NB355_377.out
                   obtain ⟨hcz105_0, hcz105_1, hcz105_2, hcz105_3, hcz105_4, hfz105_0, hfz105_1, hfz105_2, hfz105_3, hfz105_4⟩ := cells5_ BK377.out
                   obtain ⟨hcz106_0, hcz106_1, hcz106_2, hcz106_3, hcz106_4, hfz106_0, hfz106_1, hfz106_2, hfz106_3, hfz106_4⟩ := cells5_ BK355.out
                   go_wp2
                   refine bodyPost_ret (results_ct rfl _ _ gb355 52 #[.int .u64 (IntKind.u64.wrap (t357)), .bool ((rd_T38 t372 0).f0), .string x378002_27, .int .i64 10, .string (rdOf ByteArray.empty ((rd_T38 t372 2).f1) 0)] (0, 0) _ rfl (by (with_reducible repeat (first | refine blk_drewN ?_ _ | refine blk_drew ?_ | refine blk_alloc ?_ _)); refine blk_put (cs := #[.int .u64 (IntKind.u64.wrap (t357)), .bool ((rd_T38 t372 0).f0), .string x378002_27, .int .i64 10, .string (⟨#[]⟩ : ByteArray)]) ?_ 4 _ rfl; (with_reducible repeat (first | refine blk_drewN ?_ _ | refine blk_drew ?_ | refine blk_alloc ?_ _)); refine blk_put (cs := #[.int .u64 (IntKind.u64.wrap (t357)), .bool ((rd_T38 t372 0).f0), .string x378002_27, .int .i64 0, .string (⟨#[]⟩ : ByteArray)]) ?_ 3 _ rfl; (with_reducible repeat (first | refine blk_drewN ?_ _ | refine blk_drew ?_ | refine blk_alloc ?_ _)); refine blk_put (cs := #[.int .u64 (IntKind.u64.wrap (t357)), .bool ((rd_T38 t372 0).f0), .string (⟨#[]⟩ : ByteArray), .int .i64 0, .string (⟨#[]⟩ : ByteArray)]) ?_ 2 _ rfl; (with_reducible repeat (first | refine blk_drewN ?_ _ | refine blk_drew ?_ | refine blk_alloc ?_ _)); refine blk_put (cs := #[.int .u64 (IntKind.u64.wrap (t357)), .bool false, .string (⟨#[]⟩ : ByteArray), .int .i64 0, .string (⟨#[]⟩ : ByteArray)]) ?_ 1 _ rfl; (with_reducible repeat (first | refine blk_drewN ?_ _ | refine blk_drew ?_ | refine blk_alloc ?_ _)); refine blk_put (cs := #[.int .u64 0, .bool false, .string (⟨#[]⟩ : ByteArray), .int .i64 0, .string (⟨#[]⟩ : ByteArray)]) ?_ 0 _ rfl; (with_reducible repeat (first | refine blk_drewN ?_ _ | refine blk_drew ?_ | refine blk_alloc ?_ _)); refine blk_far ?_ NB355_377.out _; (with_reducible repeat (first | refine blk_drewN ?_ _ | refine blk_drew ?_ | refine blk_alloc ?_ _)); exact BK355.out) Try.underlying52 rfl (by kernel_rfl)) rfl ?_
                   exact ⟨by first | rfl | (simp [errW_none, errW_some] <;> rfl) | (simp [*, errW_none, errW_some] <;> rfl), by repeat (first | (with_reducible first | exact HB.out | apply below_alloc | apply pw_below_drewN | apply below_drew1 | refine below_set ?_ GE355.out | refine below_set ?_ GE377.out) | exact HB.out)⟩
                  ·rw [if_neg c103] at H
                   exact absurd H (by simp)
                 ·replace c102 := Bool.eq_false_iff.mpr c102
                  subst c102
                  rw [if_neg (show ¬ (false = true) by decide)] at H
                  simp only [Option.some.injEq, Prod.mk.injEq] at H
                  obtain ⟨rfl, rfl, rfl, rfl, rfl, rfl⟩ := H
                  have p381 : 0 ≤ (1 : Int) := (by omega)
                  have q381 : 1 < (t372.length : Int) := of_decide_eq_true (by first | (with_reducible assumption) | assumption)
                  obtain ⟨ad381, A381_1, c381_1, e381, hx381_0, hx381_1, hl381_1, hi381_1⟩ := at_T38 (Kd.S_reads' HO_10.out).2.2 1 p381 q381
                  (try rw [← Nbq44.out] at hx381_0)
                  (try rw [← Nbq101.out] at hx381_0)
                  obtain rfl : ad376 = ad381 := (by injection e381)
                  obtain ⟨ce381, hce381, hMe381, hcc381⟩ := Kd.S_get HO_10.out z38 1 p381 (by first | exact q381 | exact of_decide_eq_true (by first | (with_reducible assumption) | assumption) | (have e_ := (Kd.S_reads' HO_10.out).1; omega))
                  obtain ⟨ve381_1, rfl, ge381_1⟩ := k38_openM hMe381
                  have hv381_1 := hcc381 1 _ rfl
                  rw [add_field _ _ 1 (by omega)] at hv381_1
                  replace hv381_1 := Option.some.inj (hv381_1.symm.trans hx381_1)
                  rw [hv381_1] at ge381_1
                  have HL381_1 := Aside0.mk (show Kd.R Kd.string 9 _ _ _ _ ((rd_T38 t372 1).f1) from ge381_1)
                  clear hv381_1 ge381_1
                  clear hcc381 hce381
                  (try simp only [show (1 : Int).toNat = 1 from rfl, Nat.reduceMul, Nat.reduceEqDiff, Go.Addr.add, ↓reduceIte] at hx381_0)
                  (try simp only [show (1 : Int).toNat = 1 from rfl, Nat.reduceMul, Nat.reduceEqDiff, Go.Addr.add, ↓reduceIte] at hx381_1)
                  have qi381 : (1 < t372.length) = True := eq_true (by omega)
                  (try rw [show ((1 : Int)).toNat = 1 from rfl] at hx381_0)
                  (try rw [show 1 * 2 = 2 from rfl] at hx381_0)
                  (try rw [show ((1 : Int)).toNat = 1 from rfl] at hx381_1)
                  (try rw [show 1 * 2 = 2 from rfl] at hx381_1)
                  have HR381_1 := Aside0.mk hi381_1
                  have HC381_1 := Aside0.mk hl381_1
                  clear hi381_1 hl381_1
                  replace p381 := eq_true p381
                  replace q381 := eq_true q381
                  have p392 : 0 ≤ (2 : Int) := (by omega)
                  have q392 : 2 < (t372.length : Int) := of_decide_eq_true (by first | (with_reducible assumption) | assumption)
                  obtain ⟨ad392, A392_1, c392_1, e392, hx392_0, hx392_1, hl392_1, hi392_1⟩ := at_T38 (Kd.S_reads' HO_10.out).2.2 2 p392 q392
                  (try rw [← Nbq44.out] at hx392_0)
                  (try rw [← Nbq101.out] at hx392_0)
                  obtain rfl : ad376 = ad392 := (by injection e392)
                  obtain ⟨ce392, hce392, hMe392, hcc392⟩ := Kd.S_get HO_10.out z38 2 p392 (by first | exact q392 | exact of_decide_eq_true (by first | (with_reducible assumption) | assumption) | (have e_ := (Kd.S_reads' HO_10.out).1; omega))
                  obtain ⟨ve392_1, rfl, ge392_1⟩ := k38_openM hMe392
                  have hv392_1 := hcc392 1 _ rfl
                  rw [add_field _ _ 1 (by omega)] at hv392_1
                  replace hv392_1 := Option.some.inj (hv392_1.symm.trans hx392_1)
                  rw [hv392_1] at ge392_1
                  have HL392_1 := Aside0.mk (show Kd.R Kd.string 9 _ _ _ _ ((rd_T38 t372 2).f1) from ge392_1)
                  clear hv392_1 ge392_1
                  clear hcc392 hce392
                  (try simp only [show (2 : Int).toNat = 2 from rfl, Nat.reduceMul, Nat.reduceEqDiff, Go.Addr.add, ↓reduceIte] at hx392_0)
                  (try simp only [show (2 : Int).toNat = 2 from rfl, Nat.reduceMul, Nat.reduceEqDiff, Go.Addr.add, ↓reduceIte] at hx392_1)
                  have qi392 : (2 < t372.length) = True := eq_true (by omega)
                  (try rw [show ((2 : Int)).toNat = 2 from rfl] at hx392_0)
                  (try rw [show 2 * 2 = 4 from rfl] at hx392_0)
                  (try rw [show ((2 : Int)).toNat = 2 from rfl] at hx392_1)
                  (try rw [show 2 * 2 = 4 from rfl] at hx392_1)
                  have HR392_1 := Aside0.mk hi392_1
                  have HC392_1 := Aside0.mk hl392_1
                  clear hi392_1 hl392_1
                  replace p392 := eq_true p392
                  replace q392 := eq_true q392
                  have hnb107 := NB377_355.out
                  have hnc107 := NB355_377.out
                  obtain ⟨hcz108_0, hcz108_1, hcz108_2, hcz108_3, hcz108_4, hfz108_0, hfz108_1, hfz108_2, hfz108_3, hfz108_4⟩ := cells5_ BK377.out
                  obtain ⟨hcz109_0, hcz109_1, hcz109_2, hcz109_3, hcz109_4, hfz109_0, hfz109_1, hfz109_2, hfz109_3, hfz109_4⟩ := cells5_ BK355.out
                  go_wp2
                  refine bodyPost_ret (results_ct rfl _ _ gb355 52 #[.int .u64 (IntKind.u64.wrap (t357)), .bool ((rd_T38 t372 0).f0), .string x378002_27, .int .i64 10, .string (⟨#[]⟩ : ByteArray)] (0, 0) _ rfl (by (with_reducible repeat (first | refine blk_drewN ?_ _ | refine blk_drew ?_ | refine blk_alloc ?_ _)); refine blk_put (cs := #[.int .u64 (IntKind.u64.wrap (t357)), .bool ((rd_T38 t372 0).f0), .string x378002_27, .int .i64 10, .string (⟨#[]⟩ : ByteArray)]) ?_ 4 _ rfl; (with_reducible repeat (first | refine blk_drewN ?_ _ | refine blk_drew ?_ | refine blk_alloc ?_ _)); refine blk_put (cs := #[.int .u64 (IntKind.u64.wrap (t357)), .bool ((rd_T38 t372 0).f0), .string x378002_27, .int .i64 0, .string (⟨#[]⟩ : ByteArray)]) ?_ 3 _ rfl; (with_reducible repeat (first | refine blk_drewN ?_ _ | refine blk_drew ?_ | refine blk_alloc ?_ _)); refine blk_put (cs := #[.int .u64 (IntKind.u64.wrap (t357)), .bool ((rd_T38 t372 0).f0), .string (⟨#[]⟩ : ByteArray), .int .i64 0, .string (⟨#[]⟩ : ByteArray)]) ?_ 2 _ rfl; (with_reducible repeat (first | refine blk_drewN ?_ _ | refine blk_drew ?_ | refine blk_alloc ?_ _)); refine blk_put (cs := #[.int .u64 (IntKind.u64.wrap (t357)), .bool false, .string (⟨#[]⟩ : ByteArray), .int .i64 0, .string (⟨#[]⟩ : ByteArray)]) ?_ 1 _ rfl; (with_reducible repeat (first | refine blk_drewN ?_ _ | refine blk_drew ?_ | refine blk_alloc ?_ _)); refine blk_put (cs := #[.int .u64 0, .bool false, .string (⟨#[]⟩ : ByteArray), .int .i64 0, .string (⟨#[]⟩ : ByteArray)]) ?_ 0 _ rfl; (with_reducible repeat (first | refine blk_drewN ?_ _ | refine blk_drew ?_ | refine blk_alloc ?_ _)); exact BK355.out) Try.underlying52 rfl (by kernel_rfl)) rfl ?_
                  exact ⟨by first | rfl | (simp [errW_none, errW_some] <;> rfl) | (simp [*, errW_none, errW_some] <;> rfl), by repeat (first | (with_reducible first | exact HB.out | apply below_alloc | apply pw_below_drewN | apply below_drew1 | refine below_set ?_ GE355.out | refine below_set ?_ GE377.out) | exact HB.out)⟩
                ·rw [if_neg c100] at H
                 exact absurd H (by simp)
               ·replace c99 := Bool.eq_false_iff.mpr c99
                subst c99
                rw [if_neg (show ¬ (false = true) by decide)] at H
                simp only [Option.some.injEq, Prod.mk.injEq] at H
                obtain ⟨rfl, rfl, rfl, rfl, rfl, rfl⟩ := H
                have p381 : 0 ≤ (1 : Int) := (by omega)
                have q381 : 1 < (t372.length : Int) := of_decide_eq_true (by first | (with_reducible assumption) | assumption)
                obtain ⟨ad381, A381_1, c381_1, e381, hx381_0, hx381_1, hl381_1, hi381_1⟩ := at_T38 (Kd.S_reads' HO_10.out).2.2 1 p381 q381
                (try rw [← Nbq44.out] at hx381_0)
                obtain rfl : ad376 = ad381 := (by injection e381)
                obtain ⟨ce381, hce381, hMe381, hcc381⟩ := Kd.S_get HO_10.out z38 1 p381 (by first | exact q381 | exact of_decide_eq_true (by first | (with_reducible assumption) | assumption) | (have e_ := (Kd.S_reads' HO_10.out).1; omega))
                obtain ⟨ve381_1, rfl, ge381_1⟩ := k38_openM hMe381
                have hv381_1 := hcc381 1 _ rfl
                rw [add_field _ _ 1 (by omega)] at hv381_1
                replace hv381_1 := Option.some.inj (hv381_1.symm.trans hx381_1)
                rw [hv381_1] at ge381_1
                have HL381_1 := Aside0.mk (show Kd.R Kd.string 9 _ _ _ _ ((rd_T38 t372 1).f1) from ge381_1)
                clear hv381_1 ge381_1
                clear hcc381 hce381
                (try simp only [show (1 : Int).toNat = 1 from rfl, Nat.reduceMul, Nat.reduceEqDiff, Go.Addr.add, ↓reduceIte] at hx381_0)
                (try simp only [show (1 : Int).toNat = 1 from rfl, Nat.reduceMul, Nat.reduceEqDiff, Go.Addr.add, ↓reduceIte] at hx381_1)
                have qi381 : (1 < t372.length) = True := eq_true (by omega)
                (try rw [show ((1 : Int)).toNat = 1 from rfl] at hx381_0)
                (try rw [show 1 * 2 = 2 from rfl] at hx381_0)
                (try rw [show ((1 : Int)).toNat = 1 from rfl] at hx381_1)
                (try rw [show 1 * 2 = 2 from rfl] at hx381_1)
                have HR381_1 := Aside0.mk hi381_1
                have HC381_1 := Aside0.mk hl381_1
                clear hi381_1 hl381_1
                replace p381 := eq_true p381
                replace q381 := eq_true q381
                have hnb110 := NB377_355.out
                have hnc110 := NB355_377.out
                obtain ⟨hcz111_0, hcz111_1, hcz111_2, hcz111_3, hcz111_4, hfz111_0, hfz111_1, hfz111_2, hfz111_3, hfz111_4⟩ := cells5_ BK377.out
                obtain ⟨hcz112_0, hcz112_1, hcz112_2, hcz112_3, hcz112_4, hfz112_0, hfz112_1, hfz112_2, hfz112_3, hfz112_4⟩ := cells5_ BK355.out
                go_wp2
                refine bodyPost_ret (results_ct rfl _ _ gb355 52 #[.int .u64 (IntKind.u64.wrap (t357)), .bool ((rd_T38 t372 0).f0), .string x378002_27, .int .i64 10, .string (⟨#[]⟩ : ByteArray)] (0, 0) _ rfl (by (with_reducible repeat (first | refine blk_drewN ?_ _ | refine blk_drew ?_ | refine blk_alloc ?_ _)); refine blk_put (cs := #[.int .u64 (IntKind.u64.wrap (t357)), .bool ((rd_T38 t372 0).f0), .string x378002_27, .int .i64 10, .string (⟨#[]⟩ : ByteArray)]) ?_ 4 _ rfl; (with_reducible repeat (first | refine blk_drewN ?_ _ | refine blk_drew ?_ | refine blk_alloc ?_ _)); refine blk_put (cs := #[.int .u64 (IntKind.u64.wrap (t357)), .bool ((rd_T38 t372 0).f0), .string x378002_27, .int .i64 0, .string (⟨#[]⟩ : ByteArray)]) ?_ 3 _ rfl; (with_reducible repeat (first | refine blk_drewN ?_ _ | refine blk_drew ?_ | refine blk_alloc ?_ _)); refine blk_put (cs := #[.int .u64 (IntKind.u64.wrap (t357)), .bool ((rd_T38 t372 0).f0), .string (⟨#[]⟩ : ByteArray), .int .i64 0, .string (⟨#[]⟩ : ByteArray)]) ?_ 2 _ rfl; (with_reducible repeat (first | refine blk_drewN ?_ _ | refine blk_drew ?_ | refine blk_alloc ?_ _)); refine blk_put (cs := #[.int .u64 (IntKind.u64.wrap (t357)), .bool false, .string (⟨#[]⟩ : ByteArray), .int .i64 0, .string (⟨#[]⟩ : ByteArray)]) ?_ 1 _ rfl; (with_reducible repeat (first | refine blk_drewN ?_ _ | refine blk_drew ?_ | refine blk_alloc ?_ _)); refine blk_put (cs := #[.int .u64 0, .bool false, .string (⟨#[]⟩ : ByteArray), .int .i64 0, .string (⟨#[]⟩ : ByteArray)]) ?_ 0 _ rfl; (with_reducible repeat (first | refine blk_drewN ?_ _ | refine blk_drew ?_ | refine blk_alloc ?_ _)); exact BK355.out) Try.underlying52 rfl (by kernel_rfl)) rfl ?_
                exact ⟨by first | rfl | (simp [errW_none, errW_some] <;> rfl) | (simp [*, errW_none, errW_some] <;> rfl), by repeat (first | (with_reducible first | exact HB.out | apply below_alloc | apply pw_below_drewN | apply below_drew1 | refine below_set ?_ GE355.out | refine below_set ?_ GE377.out) | exact HB.out)⟩
             ·rw [if_neg c43] at H
              exact absurd H (by simp)
          ·rw [if_neg c27] at H
           exact absurd H (by simp)
         ·replace c26 := Bool.eq_false_iff.mpr c26
          subst c26
          rw [if_neg (show ¬ (false = true) by decide)] at H
          simp only [Option.some.injEq, Prod.mk.injEq] at H
          obtain ⟨rfl, rfl, rfl, rfl, rfl, rfl⟩ := H
          obtain ⟨i0113, hi0113, _, hsz113, _⟩ := info_parts info9
          obtain ⟨A113, hcut113, hA113, hC113⟩ := print_drop_of (P := Try.prog) Value.string (⟨#[]⟩ : ByteArray) 22 9 .i64 Try.underlying22 hi0113 hsz113 (some ad356) c0 l0 1 (by omega) (of_decide_eq_true (by first | (with_reducible assumption) | assumption)) HC0.out
          have HR371 := Aside0.mk (Kd.C_of_reads (h1 := fun _ => rfl) (hA113 _ (Kd.reads_of_C HR0.out)))
          have HC371 := Aside0.mk hC113
          clear hA113 hC113 hi0113 hsz113
          obtain ⟨Ao114, co114, eo114⟩ := Kd.R_slice HO_8.out
          subst eo114
          obtain ⟨Ao115, co115, eo115⟩ := Kd.R_slice HO_9.out
          subst eo115
          go_wp2_with (first | ((with_reducible refine gate_callee (f := 10) rfl ?_); refine goesL_ (some 43) rfl rfl Try.func10 (by kernel_rfl) rfl #[.slice A113 (l0.drop 1).length (c0 - 1), .slice Ao114 x8_13.length co114, .slice Ao115 x9_13.length co115] rfl (by (try simp only [List.map_toArray, List.map_cons, List.map_nil]); first | done | (rw [show (l0.drop 1).length = (l0.length - 1) from List.length_drop] <;> rfl) | rfl | (simp only [List.length_drop, List.length_take]; rfl)) ?_; (with_reducible refine (mewsref29_Options.calls kj13 _ _ (l0.drop 1) _ _ x8_13 _ _ x9_13 t372 false _ ?side1 ?side2 ?side3 ?side4 ?side5 ?side6 A25.out).mono ?_); (case side1 => repeat (first | exact (Kd.C_below HR371.out HB.out) | (with_reducible refine Kd.C_alloc ?_ _) | (with_reducible refine Kd.C_drewN ?_ _) | (with_reducible refine Kd.C_drew ?_))); (case side2 => exact HC371.out); (case side3 => repeat (first | exact (Kd.R_reads' HO_8.out).2.2 | (with_reducible refine Kd.C_alloc ?_ _) | (with_reducible refine Kd.C_drewN ?_ _) | (with_reducible refine Kd.C_drew ?_))); (case side4 => exact (Kd.R_reads' HO_8.out).2.1); (case side5 => repeat (first | exact (Kd.R_reads' HO_9.out).2.2 | (with_reducible refine Kd.C_alloc ?_ _) | (with_reducible refine Kd.C_drewN ?_ _) | (with_reducible refine Kd.C_drew ?_))); (case side6 => exact (Kd.R_reads' HO_9.out).2.1); rintro e w116 ⟨v374, rfl, ho0, hb⟩; refine ⟨_, rfl, ?_⟩; have n0_ := Aside0.mk (Kd.R_below (by (with_reducible repeat (first | apply Kd.R_alloc | apply Kd.R_drewN | apply Kd.R_drew)); exact HO_8.out) hb); have n1_ := Aside0.mk (Kd.R_below (by (with_reducible repeat (first | apply Kd.R_alloc | apply Kd.R_drewN | apply Kd.R_drew)); exact HO_9.out) hb); have n2_ := Aside0.mk (Kd.S_lower (Kd.S_new' ho0 (Kd.R_lt (by (with_reducible repeat (first | apply Kd.R_alloc | apply Kd.R_drewN | apply Kd.R_drew)); exact HO_8.out))) (below_size (by repeat (first | (with_reducible first | exact HB.out | apply below_alloc | apply pw_below_drewN | apply below_drew1 | refine below_set ?_ GE355.out) | exact HB.out)))); have n3_ := Aside0.mk (blk_below (g := gb355) (o := .cells #[.int .u64 0, .bool false, .string (⟨#[]⟩ : ByteArray), .int .i64 0, .string (⟨#[]⟩ : ByteArray)] 52 (0, 0)) (by (with_reducible repeat (first | refine blk_drewN ?_ _ | refine blk_drew ?_ | refine blk_alloc ?_ _)); exact BK355.out) hb); have n4_ := Aside0.mk (below_step (by repeat (first | (with_reducible first | exact HB.out | apply below_alloc | apply pw_below_drewN | apply below_drew1 | refine below_set ?_ GE355.out) | exact HB.out)) hb); clear HO_8; clear HO_9; clear BK355; clear HB; have HO_8 := n0_; have HO_9 := n1_; have HO375 := n2_; have BK355 := n3_; have HB := n4_; clear n0_ n1_ n2_ n3_ n4_; (try clear hb); (try clear hb2); (try clear hk); (try clear hi); (try clear ho0); obtain ⟨hcz117_0, hcz117_1, hcz117_2, hcz117_3, hcz117_4, hfz117_0, hfz117_1, hfz117_2, hfz117_3, hfz117_4⟩ := cells5_ BK355.out))
          refine bodyPost_ret (results_ct rfl _ _ gb355 52 #[.int .u64 0, .bool false, .string (⟨#[]⟩ : ByteArray), .int .i64 0, .string (⟨#[]⟩ : ByteArray)] (0, 0) _ rfl (by (with_reducible repeat (first | refine blk_drewN ?_ _ | refine blk_drew ?_ | refine blk_alloc ?_ _)); refine blk_put (cs := #[.int .u64 0, .bool false, .string (⟨#[]⟩ : ByteArray), .int .i64 0, .string (⟨#[]⟩ : ByteArray)]) ?_ 4 _ rfl; (with_reducible repeat (first | refine blk_drewN ?_ _ | refine blk_drew ?_ | refine blk_alloc ?_ _)); refine blk_put (cs := #[.int .u64 0, .bool false, .string (⟨#[]⟩ : ByteArray), .int .i64 0, .string (⟨#[]⟩ : ByteArray)]) ?_ 3 _ rfl; (with_reducible repeat (first | refine blk_drewN ?_ _ | refine blk_drew ?_ | refine blk_alloc ?_ _)); refine blk_put (cs := #[.int .u64 0, .bool false, .string (⟨#[]⟩ : ByteArray), .int .i64 0, .string (⟨#[]⟩ : ByteArray)]) ?_ 2 _ rfl; (with_reducible repeat (first | refine blk_drewN ?_ _ | refine blk_drew ?_ | refine blk_alloc ?_ _)); refine blk_put (cs := #[.int .u64 0, .bool false, .string (⟨#[]⟩ : ByteArray), .int .i64 0, .string (⟨#[]⟩ : ByteArray)]) ?_ 1 _ rfl; (with_reducible repeat (first | refine blk_drewN ?_ _ | refine blk_drew ?_ | refine blk_alloc ?_ _)); refine blk_put (cs := #[.int .u64 0, .bool false, .string (⟨#[]⟩ : ByteArray), .int .i64 0, .string (⟨#[]⟩ : ByteArray)]) ?_ 0 _ rfl; (with_reducible repeat (first | refine blk_drewN ?_ _ | refine blk_drew ?_ | refine blk_alloc ?_ _)); exact BK355.out) Try.underlying52 rfl (by kernel_rfl)) rfl ?_
          exact ⟨by first | rfl | (simp [errW_none, errW_some] <;> rfl) | (simp [*, errW_none, errW_some] <;> rfl), by repeat (first | (with_reducible first | exact HB.out | apply below_alloc | apply pw_below_drewN | apply below_drew1 | refine below_set ?_ GE355.out) | exact HB.out)⟩
        ·rw [if_neg c24] at H
         exact absurd H (by simp)
  ·rw [if_neg c6] at H
   exact absurd H (by simp)

end Go.Proofs.Ytcooijbmmkkdoaa.X
