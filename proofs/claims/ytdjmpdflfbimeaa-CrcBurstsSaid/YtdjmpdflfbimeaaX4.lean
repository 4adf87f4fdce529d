-- Written by wip/tool/xprint.py of this work (a front end of its own to the kit's printer): the functions of the seat Ytdjmpdflfbimeaa as plain Lean functions, and what the Go code's calls come to. Lean checks it.
import Derived.Test.YtdjmpdflfbimeaaX0
import Derived.Test.YtdjmpdflfbimeaaX3
namespace Go.Proofs.Ytdjmpdflfbimeaa.X
open Go.RowKit Go.Proofs.YtdjmpdflfbimeaaW.PrintWords Go.Proofs.YtdjmpdflfbimeaaW.PrintLast Go.Proofs.YtdjmpdflfbimeaaW.PrintMore
attribute [local go_sem] max2_int min2_int max_two min_two max_three min_three max_four min_four   -- for this text's walks alone
set_option linter.unusedVariables false
set_option linter.unusedSimpArgs false

/-! ### mewsref14_Of: function 14 -/
def mewsref14_Of.f (k : Nat) (a0 : ByteArray) : Option (Int) := (mewsref14_More.f k 4294967295 a0).bind fun t121 => (some (Go.bits .xor .u32 t121 4294967295))
theorem mewsref14_Of.mono : ∀ a0 k, LeO (mewsref14_Of.f k a0) (mewsref14_Of.f (k + 1) a0) := by
  intro a0 k
  unfold mewsref14_Of.f
  repeat' first
      | (with_reducible exact mewsref14_More.mono _ _ _)
      | (with_reducible exact LeO.refl _)
      | (with_reducible exact LeO.none _)
      | (with_reducible refine LeO.ite ?_ ?_)
      | (with_reducible refine LeO.bind ?_ (fun _ => ?_))
      | exact mewsref14_More.mono _ _ _
      | exact LeO.none _
      | refine LeO.ite ?_ ?_
      | refine LeO.bind ?_ (fun _ => ?_)
set_option maxHeartbeats 8000000 in
set_option maxRecDepth 100000 in
theorem mewsref14_Of.calls (k : Nat) (a0 : ByteArray) (r : Int) (w : World) (h : mewsref14_Of.f k a0 = some r) :
    Calls Try.prog 14 #[.string a0] w fun e w' => e = .returned (.int .u32 r) ∧ Drawn0 w w' := by
  have H : ((mewsref14_More.f k 4294967295 a0).bind fun t121 => (some (Go.bits .xor .u32 t121 4294967295))) = some r := h
  clear h
  replace H := Option.bind_eq_some_iff.mp H
  obtain ⟨t121, A20, H⟩ := H
  replace H : (some (Go.bits .xor .u32 t121 4294967295)) = some r := H
  have A2 := Aside0.mk A20
  clear A20
  obtain rfl := Option.some.inj H
  go_enter Try.func14, Try.ntmps14
  go_wp2_with (first | ((with_reducible refine gate_callee (f := 12) rfl ?_); refine goesL_ (some 4) rfl rfl Try.func12 (by kernel_rfl) rfl #[.int .u32 4294967295, .string a0] rfl (by (try simp only [List.map_toArray, List.map_cons, List.map_nil]); first | done | rfl | (simp only [List.length_drop, List.length_take]; rfl)) ?_; (with_reducible refine (mewsref14_More.calls k 4294967295 a0 t121 _ A2.out).mono ?_); rintro e w' ⟨rfl, ⟨nd, rfl⟩⟩; refine ⟨_, rfl, ?_⟩))
  go_ret
  exact ⟨by first | rfl | (simp; done) | (simp [*]; done), by repeat (first | exact Drawn0.refl _ | apply Drawn0.step)⟩

/-! ### mewsref14_Seal: function 8 -/
def mewsref14_Seal.f (k : Nat) (a0 : ByteArray) : Option (ByteArray) := (mewsref14_Of.f k a0).bind fun t122 => ((some (([(t122) % 256, ((Int.tdiv t122 256) % 4294967296) % 256, ((Int.tdiv t122 65536) % 4294967296) % 256, ((Int.tdiv t122 16777216) % 4294967296) % 256] : List Int) : List Int)).bind fun y123 => (if a0.size + (strOfNums y123).size ≤ 9223372036854775807 then (some (a0 ++ (strOfNums y123))) else (none)))
theorem mewsref14_Seal.mono : ∀ a0 k, LeO (mewsref14_Seal.f k a0) (mewsref14_Seal.f (k + 1) a0) := by
  intro a0 k
  unfold mewsref14_Seal.f
  repeat' first
      | (with_reducible exact mewsref14_Of.mono _ _)
      | (with_reducible exact LeO.refl _)
      | (with_reducible exact LeO.none _)
      | (with_reducible refine LeO.ite ?_ ?_)
      | (with_reducible refine LeO.bind ?_ (fun _ => ?_))
      | exact mewsref14_Of.mono _ _
      | exact LeO.none _
      | refine LeO.ite ?_ ?_
      | refine LeO.bind ?_ (fun _ => ?_)
set_option maxHeartbeats 8000000 in
set_option maxRecDepth 100000 in
theorem mewsref14_Seal.calls (k : Nat) (a0 : ByteArray) (r : ByteArray) (w : World) (h : mewsref14_Seal.f k a0 = some r) :
    Calls Try.prog 8 #[.string a0] w fun e w' => e = .returned (.string r) ∧ Below w.heap.size w w' := by
  have HB := Aside0.mk (Below.refl w.heap.size w)
  have H : ((mewsref14_Of.f k a0).bind fun t122 => ((some (([(t122) % 256, ((Int.tdiv t122 256) % 4294967296) % 256, ((Int.tdiv t122 65536) % 4294967296) % 256, ((Int.tdiv t122 16777216) % 4294967296) % 256] : List Int) : List Int)).bind fun y123 => (if a0.size + (strOfNums y123).size ≤ 9223372036854775807 then (some (a0 ++ (strOfNums y123))) else (none)))) = some r := h
  clear h
  replace H := Option.bind_eq_some_iff.mp H
  obtain ⟨t122, A20, H⟩ := H
  replace H : ((some (([(t122) % 256, ((Int.tdiv t122 256) % 4294967296) % 256, ((Int.tdiv t122 65536) % 4294967296) % 256, ((Int.tdiv t122 16777216) % 4294967296) % 256] : List Int) : List Int)).bind fun y123 => (if a0.size + (strOfNums y123).size ≤ 9223372036854775807 then (some (a0 ++ (strOfNums y123))) else (none))) = some r := H
  have A2 := Aside0.mk A20
  clear A20
  obtain ⟨y123, hy123⟩ : ∃ y_ : List Int, y_ = (([(t122) % 256, ((Int.tdiv t122 256) % 4294967296) % 256, ((Int.tdiv t122 65536) % 4294967296) % 256, ((Int.tdiv t122 16777216) % 4294967296) % 256] : List Int)) := ⟨_, rfl⟩
  replace H : (if a0.size + (strOfNums y123).size ≤ 9223372036854775807 then (some (a0 ++ (strOfNums y123))) else (none)) = some r := by first | (rw [hy123]; with_reducible exact H) | (have H2_ := (Option.bind_some _ _).symm.trans H; rw [hy123]; with_reducible exact H2_) | (have H2_ := (Option.bind_some _ _).symm.trans H; with_reducible exact H2_) | with_reducible exact H | (rw [hy123]; exact H) | exact H
  have Ny123 := Aside0.mk hy123
  clear hy123
  by_cases c3 : a0.size + (strOfNums y123).size ≤ 9223372036854775807
  · rw [if_pos c3] at H
    have c3b0 := eq_true c3
    have c3b1 : decide (a0.size + (strOfNums y123).size ≤ 9223372036854775807) = true := decide_eq_true c3
    try have c3b2 : (9223372036854775807 < a0.size + (strOfNums y123).size) = False := eq_false (Nat.not_lt.2 c3)
    obtain rfl := Option.some.inj H
    go_enter Try.func8, Try.ntmps8
    go_wp2_with (first | ((with_reducible refine gate_callee (f := 14) rfl ?_); refine goesL_ (some 5) rfl rfl Try.func14 (by kernel_rfl) rfl #[.string a0] rfl (by (try simp only [List.map_toArray, List.map_cons, List.map_nil]); first | done | rfl | (simp only [List.length_drop, List.length_take]; rfl)) ?_; (with_reducible refine (mewsref14_Of.calls k a0 t122 _ A2.out).mono ?_); rintro e w' ⟨rfl, ⟨nd, rfl⟩⟩; refine ⟨_, rfl, ?_⟩) | ((with_reducible refine gate_dst (N := 18) rfl ?_); refine Kd.R_lit (Kd.int .u8) _ 5 ?hg (N := 18) ?hd (xs := ([(t122) % 256, ((Int.tdiv t122 256) % 4294967296) % 256, ((Int.tdiv t122 65536) % 4294967296) % 256, ((Int.tdiv t122 16777216) % 4294967296) % 256] : List Int)) (inner := [.int .u8 ((t122) % 256), .int .u8 (((Int.tdiv t122 256) % 4294967296) % 256), .int .u8 (((Int.tdiv t122 65536) % 4294967296) % 256), .int .u8 (((Int.tdiv t122 16777216) % 4294967296) % 256)]) (ok := fun _ => True) (okp := fun _ => True) ?hr ?hp (fun _ hk => hk) trivial (Below.refl _ _) (Nat.le_refl _) (by simp) ?_; (case hd => rfl); (case hg => rfl); (case hr => first | (go_simp; done) | (go_simp; rfl)); (case hp => exact (Reps.one (show Kd.M (Kd.int .u8) _ _ _ ((t122) % 256) [.int .u8 ((t122) % 256)] from rfl) (Reps.one (show Kd.M (Kd.int .u8) _ _ _ (((Int.tdiv t122 256) % 4294967296) % 256) [.int .u8 (((Int.tdiv t122 256) % 4294967296) % 256)] from rfl) (Reps.one (show Kd.M (Kd.int .u8) _ _ _ (((Int.tdiv t122 65536) % 4294967296) % 256) [.int .u8 (((Int.tdiv t122 65536) % 4294967296) % 256)] from rfl) (Reps.one (show Kd.M (Kd.int .u8) _ _ _ (((Int.tdiv t122 16777216) % 4294967296) % 256) [.int .u8 (((Int.tdiv t122 16777216) % 4294967296) % 256)] from rfl) (Reps.none _ _)))))); intro v124 w4 ho5 hb hg_ hnew_; clear hg_ hnew_; (first | rw [← Ny123.out] at ho5 | (simp only [Int.reduceToNat] at ho5; rw [← Ny123.out] at ho5)); have n0_ := Aside0.mk (Kd.R_lower ho5 (below_size (by repeat (first | (with_reducible first | exact HB.out | apply below_alloc | apply pw_below_drewN | apply below_drew1) | exact HB.out)))); have n1_ := Aside0.mk (below_step (by repeat (first | (with_reducible first | exact HB.out | apply below_alloc | apply pw_below_drewN | apply below_drew1) | exact HB.out)) hb); clear HB; have HO125 := n0_; have HB := n1_; clear n0_ n1_; clear hb ho5; have hcv6 := own_string (P := Try.prog) Try.underlying34 Try.underlying5 Try.underlying9 (Kd.own_of_R HO125.out)))
    go_ret
    exact ⟨by first | rfl | (simp [errW_none, errW_some] <;> rfl) | (simp [*, errW_none, errW_some] <;> rfl), by repeat (first | (with_reducible first | exact HB.out | apply below_alloc | apply pw_below_drewN | apply below_drew1) | exact HB.out)⟩
  · rw [if_neg c3] at H
    exact absurd H (by simp)

end Go.Proofs.Ytdjmpdflfbimeaa.X
