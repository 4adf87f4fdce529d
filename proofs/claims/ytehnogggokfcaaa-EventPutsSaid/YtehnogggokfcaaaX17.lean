import Derived.Test.YtehnogggokfcaaaXA
namespace Go.Proofs.Ytehnogggokfcaaa.X
open Go.RowKit Go.Proofs.YtehnogggokfcaaaW.PrintWords Go.Proofs.YtehnogggokfcaaaW.PrintLast Go.Proofs.YtehnogggokfcaaaW.PrintMore
attribute [local go_sem] max2_int min2_int max_two min_two max_three min_three max_four min_four   -- for this text's walks alone
set_option linter.unusedVariables false
set_option linter.unusedSimpArgs false

def mewsref47_name.f (a0 : Int) : Option (ByteArray) := (some (([(⟨#[]⟩ : ByteArray), (⟨#[79, 80, 69, 78]⟩ : ByteArray), (⟨#[66, 89, 84, 69, 83]⟩ : ByteArray), (⟨#[68, 82, 65, 73, 78]⟩ : ByteArray), (⟨#[67, 76, 79, 83, 69]⟩ : ByteArray), (⟨#[84, 73, 67, 75]⟩ : ByteArray), (⟨#[82, 79, 85, 78, 68]⟩ : ByteArray), (⟨#[70, 65, 85, 76, 84]⟩ : ByteArray), (⟨#[67, 82, 65, 83, 72]⟩ : ByteArray)] : List ByteArray) : List ByteArray)).bind fun y259 => (if 0 ≤ a0 then (if a0 < (y259.length : Int) then (some (rdOf ByteArray.empty y259 a0)) else (none)) else (none))
set_option maxHeartbeats 8000000 in
set_option maxRecDepth 100000 in
theorem mewsref47_name.calls (a0 : Int) (r : ByteArray) (w : World) (h : mewsref47_name.f a0 = some r) :
  Calls Try.prog 19 #[.int .i64 a0] w fun e w' => e = .returned (.string r) ∧ Below w.heap.size w w' := by
 have HB := Aside0.mk (Below.refl w.heap.size w)
 have H : ((some (([(⟨#[]⟩ : ByteArray), (⟨#[79, 80, 69, 78]⟩ : ByteArray), (⟨#[66, 89, 84, 69, 83]⟩ : ByteArray), (⟨#[68, 82, 65, 73, 78]⟩ : ByteArray), (⟨#[67, 76, 79, 83, 69]⟩ : ByteArray), (⟨#[84, 73, 67, 75]⟩ : ByteArray), (⟨#[82, 79, 85, 78, 68]⟩ : ByteArray), (⟨#[70, 65, 85, 76, 84]⟩ : ByteArray), (⟨#[67, 82, 65, 83, 72]⟩ : ByteArray)] : List ByteArray) : List ByteArray)).bind fun y259 => (if 0 ≤ a0 then (if a0 < (y259.length : Int) then (some (rdOf ByteArray.empty y259 a0)) else (none)) else (none))) = some r := h
 clear h
 obtain ⟨y259, hy259⟩ : ∃ y_ : List ByteArray, y_ = (([(⟨#[]⟩ : ByteArray), (⟨#[79, 80, 69, 78]⟩ : ByteArray), (⟨#[66, 89, 84, 69, 83]⟩ : ByteArray), (⟨#[68, 82, 65, 73, 78]⟩ : ByteArray), (⟨#[67, 76, 79, 83, 69]⟩ : ByteArray), (⟨#[84, 73, 67, 75]⟩ : ByteArray), (⟨#[82, 79, 85, 78, 68]⟩ : ByteArray), (⟨#[70, 65, 85, 76, 84]⟩ : ByteArray), (⟨#[67, 82, 65, 83, 72]⟩ : ByteArray)] : List ByteArray)) := ⟨_, rfl⟩
 replace H : (if 0 ≤ a0 then (if a0 < (y259.length : Int) then (some (rdOf ByteArray.empty y259 a0)) else (none)) else (none)) = some r := by first | (rw [hy259]; with_reducible exact H) | (have H2_ := (Option.bind_some _ _).symm.trans H; rw [hy259]; with_reducible exact H2_) | (have H2_ := (Option.bind_some _ _).symm.trans H; with_reducible exact H2_) | with_reducible exact H | (rw [hy259]; exact H) | exact H
 have Ny259 := Aside0.mk hy259
 clear hy259
 by_cases c2 : 0 ≤ a0
 ·rw [if_pos c2] at H
  have c2b0 : decide (0 ≤ a0) = true := decide_eq_true c2
  clear c2
  by_cases c3 : a0 < (y259.length : Int)
  ·rw [if_pos c3] at H
   have c3b0 : decide (a0 < (y259.length : Int)) = true := decide_eq_true c3
   clear c3
   obtain rfl := Option.some.inj H
   go_enter Try.func19, Try.ntmps19
   go_wp2_with (first | ((with_reducible refine gate_dst (N := 4) rfl ?_); refine Kd.R_lit Kd.string _ 9 ?hg (N := 4) ?hd (xs := ([(⟨#[]⟩ : ByteArray), (⟨#[79, 80, 69, 78]⟩ : ByteArray), (⟨#[66, 89, 84, 69, 83]⟩ : ByteArray), (⟨#[68, 82, 65, 73, 78]⟩ : ByteArray), (⟨#[67, 76, 79, 83, 69]⟩ : ByteArray), (⟨#[84, 73, 67, 75]⟩ : ByteArray), (⟨#[82, 79, 85, 78, 68]⟩ : ByteArray), (⟨#[70, 65, 85, 76, 84]⟩ : ByteArray), (⟨#[67, 82, 65, 83, 72]⟩ : ByteArray)] : List ByteArray)) (inner := [.string (⟨#[]⟩ : ByteArray), .string (⟨#[79, 80, 69, 78]⟩ : ByteArray), .string (⟨#[66, 89, 84, 69, 83]⟩ : ByteArray), .string (⟨#[68, 82, 65, 73, 78]⟩ : ByteArray), .string (⟨#[67, 76, 79, 83, 69]⟩ : ByteArray), .string (⟨#[84, 73, 67, 75]⟩ : ByteArray), .string (⟨#[82, 79, 85, 78, 68]⟩ : ByteArray), .string (⟨#[70, 65, 85, 76, 84]⟩ : ByteArray), .string (⟨#[67, 82, 65, 83, 72]⟩ : ByteArray)]) (ok := fun _ => True) (okp := fun _ => True) ?hr ?hp (fun _ hk => hk) trivial (Below.refl _ _) (Nat.le_refl _) (by simp) ?_; (case hd => rfl); (case hg => rfl); (case hr => first | (go_simp; done) | (go_simp; rfl)); (case hp => exact (Reps.one (show Kd.M Kd.string _ _ _ (⟨#[]⟩ : ByteArray) [.string (⟨#[]⟩ : ByteArray)] from rfl) (Reps.one (show Kd.M Kd.string _ _ _ (⟨#[79, 80, 69, 78]⟩ : ByteArray) [.string (⟨#[79, 80, 69, 78]⟩ : ByteArray)] from rfl) (Reps.one (show Kd.M Kd.string _ _ _ (⟨#[66, 89, 84, 69, 83]⟩ : ByteArray) [.string (⟨#[66, 89, 84, 69, 83]⟩ : ByteArray)] from rfl) (Reps.one (show Kd.M Kd.string _ _ _ (⟨#[68, 82, 65, 73, 78]⟩ : ByteArray) [.string (⟨#[68, 82, 65, 73, 78]⟩ : ByteArray)] from rfl) (Reps.one (show Kd.M Kd.string _ _ _ (⟨#[67, 76, 79, 83, 69]⟩ : ByteArray) [.string (⟨#[67, 76, 79, 83, 69]⟩ : ByteArray)] from rfl) (Reps.one (show Kd.M Kd.string _ _ _ (⟨#[84, 73, 67, 75]⟩ : ByteArray) [.string (⟨#[84, 73, 67, 75]⟩ : ByteArray)] from rfl) (Reps.one (show Kd.M Kd.string _ _ _ (⟨#[82, 79, 85, 78, 68]⟩ : ByteArray) [.string (⟨#[82, 79, 85, 78, 68]⟩ : ByteArray)] from rfl) (Reps.one (show Kd.M Kd.string _ _ _ (⟨#[70, 65, 85, 76, 84]⟩ : ByteArray) [.string (⟨#[70, 65, 85, 76, 84]⟩ : ByteArray)] from rfl) (Reps.one (show Kd.M Kd.string _ _ _ (⟨#[67, 82, 65, 83, 72]⟩ : ByteArray) [.string (⟨#[67, 82, 65, 83, 72]⟩ : ByteArray)] from rfl) (Reps.none _ _))))))))))); intro v260 w4 ho5 hb hg_ hnew_; clear hg_ hnew_; (first | rw [← Ny259.out] at ho5 | (simp only [Int.reduceToNat] at ho5; rw [← Ny259.out] at ho5)); have n0_ := Aside0.mk (Kd.R_lower ho5 (below_size (by repeat (first | (with_reducible first | exact HB.out | apply below_alloc | apply pw_below_drewN | apply below_drew1) | exact HB.out)))); have n1_ := Aside0.mk (below_step (by repeat (first | (with_reducible first | exact HB.out | apply below_alloc | apply pw_below_drewN | apply below_drew1) | exact HB.out)) hb); clear HB; have HO261 := n0_; have HB := n1_; clear n0_ n1_; clear hb ho5; obtain ⟨Ao6, co6, eo6⟩ := Kd.R_slice HO261.out; subst eo6; have p262 : 0 ≤ (a0 : Int) := of_decide_eq_true (by first | (with_reducible assumption) | assumption); have q262 : a0 < (y259.length : Int) := of_decide_eq_true (by first | (with_reducible assumption) | assumption); obtain ⟨ad262, e262, hx262_0⟩ := Kd.at_string (Kd.R_reads' HO261.out).2.2 a0 p262 q262; cases e262; replace p262 := eq_true p262; replace q262 := eq_true q262))
   go_ret
   exact ⟨by first | rfl | (simp [errW_none, errW_some] <;> rfl) | (simp [*, errW_none, errW_some] <;> rfl), by repeat (first | (with_reducible first | exact HB.out | apply below_alloc | apply pw_below_drewN | apply below_drew1) | exact HB.out)⟩
  ·rw [if_neg c3] at H
   exact absurd H (by simp)
 ·rw [if_neg c2] at H
  exact absurd H (by simp)

def mewsref47_form.l0 : Nat → Int → ByteArray → Int → Option (ByteArray)
 | 0, _, _, _ => none
 | k + 1, x1, x6, x7 => if x7 < x1 then (if x6.size + 3 ≤ 9223372036854775807 then (mewsref47_form.l0 k x1 (x6 ++ (⟨#[120, 121, 119]⟩ : ByteArray)) (wrap64 (x7 + 1))) else (none)) else (some x6)
def mewsref47_form.f (k : Nat) (a0 : Int) (a1 : Int) : Option (ByteArray) := (some (([(⟨#[]⟩ : ByteArray), (⟨#[104]⟩ : ByteArray), (⟨#[104, 115]⟩ : ByteArray), (⟨#[104, 110]⟩ : ByteArray), (⟨#[104]⟩ : ByteArray), (⟨#[110]⟩ : ByteArray), (⟨#[]⟩ : ByteArray), (⟨#[116, 102, 107, 122]⟩ : ByteArray), (⟨#[]⟩ : ByteArray)] : List ByteArray) : List ByteArray)).bind fun y263 => (if a0 = 8 then (mewsref47_form.l0 k a1 (⟨#[]⟩ : ByteArray) 0) else (if 0 ≤ a0 then (if a0 < (y263.length : Int) then (some (rdOf ByteArray.empty y263 a0)) else (none)) else (none)))
theorem mewsref47_form.mono_l : ∀ k, (∀ y0 y1 y2, LeO (mewsref47_form.l0 k y0 y1 y2) (mewsref47_form.l0 (k + 1) y0 y1 y2))
 | 0 => fun _ _ _ r h => by simp [mewsref47_form.l0] at h
 | k + 1 => by
  have ih0 := mewsref47_form.mono_l k
  ·intro y0 y1 y2
   unfold mewsref47_form.l0
   repeat' first
   | (with_reducible exact ih0 _ _ _)
   | (with_reducible exact LeO.refl _)
   | (with_reducible exact LeO.none _)
   | (with_reducible refine LeO.ite ?_ ?_)
   | (with_reducible refine LeO.bind ?_ (fun _ => ?_))
theorem mewsref47_form.mono : ∀ a0 a1 k, LeO (mewsref47_form.f k a0 a1) (mewsref47_form.f (k + 1) a0 a1) := by
 intro a0 a1 k
 have ih0 := mewsref47_form.mono_l k
 unfold mewsref47_form.f
 repeat' first
   | (with_reducible exact ih0 _ _ _)
   | (with_reducible exact LeO.refl _)
   | (with_reducible exact LeO.none _)
   | (with_reducible refine LeO.ite ?_ ?_)
   | (with_reducible refine LeO.bind ?_ (fun _ => ?_))
set_option maxHeartbeats 8000000 in
set_option maxRecDepth 100000 in
theorem mewsref47_form.calls (k : Nat) (a0 : Int) (a1 : Int) (r : ByteArray) (w : World) (h : mewsref47_form.f k a0 a1 = some r) :
  Calls Try.prog 20 #[.int .i64 a0, .int .i64 a1] w fun e w' => e = .returned (.string r) ∧ Below w.heap.size w w' := by
 have HB := Aside0.mk (Below.refl w.heap.size w)
 have H : ((some (([(⟨#[]⟩ : ByteArray), (⟨#[104]⟩ : ByteArray), (⟨#[104, 115]⟩ : ByteArray), (⟨#[104, 110]⟩ : ByteArray), (⟨#[104]⟩ : ByteArray), (⟨#[110]⟩ : ByteArray), (⟨#[]⟩ : ByteArray), (⟨#[116, 102, 107, 122]⟩ : ByteArray), (⟨#[]⟩ : ByteArray)] : List ByteArray) : List ByteArray)).bind fun y263 => (if a0 = 8 then (mewsref47_form.l0 k a1 (⟨#[]⟩ : ByteArray) 0) else (if 0 ≤ a0 then (if a0 < (y263.length : Int) then (some (rdOf ByteArray.empty y263 a0)) else (none)) else (none)))) = some r := h
 clear h
 obtain ⟨y263, hy263⟩ : ∃ y_ : List ByteArray, y_ = (([(⟨#[]⟩ : ByteArray), (⟨#[104]⟩ : ByteArray), (⟨#[104, 115]⟩ : ByteArray), (⟨#[104, 110]⟩ : ByteArray), (⟨#[104]⟩ : ByteArray), (⟨#[110]⟩ : ByteArray), (⟨#[]⟩ : ByteArray), (⟨#[116, 102, 107, 122]⟩ : ByteArray), (⟨#[]⟩ : ByteArray)] : List ByteArray)) := ⟨_, rfl⟩
 replace H : (if a0 = 8 then (mewsref47_form.l0 k a1 (⟨#[]⟩ : ByteArray) 0) else (if 0 ≤ a0 then (if a0 < (y263.length : Int) then (some (rdOf ByteArray.empty y263 a0)) else (none)) else (none))) = some r := by first | (rw [hy263]; with_reducible exact H) | (have H2_ := (Option.bind_some _ _).symm.trans H; rw [hy263]; with_reducible exact H2_) | (have H2_ := (Option.bind_some _ _).symm.trans H; with_reducible exact H2_) | with_reducible exact H | (rw [hy263]; exact H) | exact H
 have Ny263 := Aside0.mk hy263
 clear hy263
 by_cases c3 : a0 = 8
 ·rw [if_pos c3] at H
  have c3b0 : (a0 == 8) = true := beq_iff_eq.mpr c3
  have c3b1 : (a0 != 8) = false := bne_eq_false_iff_eq.mpr c3
  clear c3
  have H' := Aside0.mk H
  clear H
  go_enter Try.func20, Try.ntmps20
  go_wp2_with (first | ((with_reducible refine gate_dst (N := 8) rfl ?_); refine Kd.R_lit Kd.string _ 9 ?hg (N := 8) ?hd (xs := ([(⟨#[]⟩ : ByteArray), (⟨#[104]⟩ : ByteArray), (⟨#[104, 115]⟩ : ByteArray), (⟨#[104, 110]⟩ : ByteArray), (⟨#[104]⟩ : ByteArray), (⟨#[110]⟩ : ByteArray), (⟨#[]⟩ : ByteArray), (⟨#[116, 102, 107, 122]⟩ : ByteArray), (⟨#[]⟩ : ByteArray)] : List ByteArray)) (inner := [.string (⟨#[]⟩ : ByteArray), .string (⟨#[104]⟩ : ByteArray), .string (⟨#[104, 115]⟩ : ByteArray), .string (⟨#[104, 110]⟩ : ByteArray), .string (⟨#[104]⟩ : ByteArray), .string (⟨#[110]⟩ : ByteArray), .string (⟨#[]⟩ : ByteArray), .string (⟨#[116, 102, 107, 122]⟩ : ByteArray), .string (⟨#[]⟩ : ByteArray)]) (ok := fun _ => True) (okp := fun _ => True) ?hr ?hp (fun _ hk => hk) trivial (Below.refl _ _) (Nat.le_refl _) (by simp) ?_; (case hd => rfl); (case hg => rfl); (case hr => first | (go_simp; done) | (go_simp; rfl)); (case hp => exact (Reps.one (show Kd.M Kd.string _ _ _ (⟨#[]⟩ : ByteArray) [.string (⟨#[]⟩ : ByteArray)] from rfl) (Reps.one (show Kd.M Kd.string _ _ _ (⟨#[104]⟩ : ByteArray) [.string (⟨#[104]⟩ : ByteArray)] from rfl) (Reps.one (show Kd.M Kd.string _ _ _ (⟨#[104, 115]⟩ : ByteArray) [.string (⟨#[104, 115]⟩ : ByteArray)] from rfl) (Reps.one (show Kd.M Kd.string _ _ _ (⟨#[104, 110]⟩ : ByteArray) [.string (⟨#[104, 110]⟩ : ByteArray)] from rfl) (Reps.one (show Kd.M Kd.string _ _ _ (⟨#[104]⟩ : ByteArray) [.string (⟨#[104]⟩ : ByteArray)] from rfl) (Reps.one (show Kd.M Kd.string _ _ _ (⟨#[110]⟩ : ByteArray) [.string (⟨#[110]⟩ : ByteArray)] from rfl) (Reps.one (show Kd.M Kd.string _ _ _ (⟨#[]⟩ : ByteArray) [.string (⟨#[]⟩ : ByteArray)] from rfl) (Reps.one (show Kd.M Kd.string _ _ _ (⟨#[116, 102, 107, 122]⟩ : ByteArray) [.string (⟨#[116, 102, 107, 122]⟩ : ByteArray)] from rfl) (Reps.one (show Kd.M Kd.string _ _ _ (⟨#[]⟩ : ByteArray) [.string (⟨#[]⟩ : ByteArray)] from rfl) (Reps.none _ _))))))))))); intro v264 w4 ho5 hb hg_ hnew_; clear hg_ hnew_; (first | rw [← Ny263.out] at ho5 | (simp only [Int.reduceToNat] at ho5; rw [← Ny263.out] at ho5)); have n0_ := Aside0.mk (Kd.R_lower ho5 (below_size (by repeat (first | (with_reducible first | exact HB.out | apply below_alloc | apply pw_below_drewN | apply below_drew1) | exact HB.out)))); have n1_ := Aside0.mk (below_step (by repeat (first | (with_reducible first | exact HB.out | apply below_alloc | apply pw_below_drewN | apply below_drew1) | exact HB.out)) hb); clear HB; have HO265 := n0_; have HB := n1_; clear n0_ n1_; clear hb ho5))
  go_loopg [6, 7] k (fun kq v6 v7 w' => ∃ (x6_1 : ByteArray) (x7_1 : Int), v6 = .string x6_1 ∧ v7 = .int .i64 x7_1 ∧ Aside0 (mewsref47_form.l0 kq a1 x6_1 x7_1 = some r) ∧ Aside0 (kq ≤ k) ∧ Aside0 (Below w.heap.size w w'))
  case atStart => exact ⟨((⟨#[]⟩ : ByteArray)), (0), (by first | rfl | (simp; done) | (simp [*]; done)), (by first | rfl | (simp; done) | (simp [*]; done)), H', ⟨Nat.le_refl _⟩, ⟨by repeat (first | (with_reducible first | exact HB.out | apply below_alloc | apply pw_below_drewN | apply below_drew1) | exact HB.out)⟩⟩
  case round =>
   clear H'
   try clear c2
   try clear p2
   try clear c3
   try clear c3b0
   try clear c3b1
   obtain ⟨x6_1, x7_1, rfl, rfl, HA, HK1, HB⟩ := hrel
   cases gk with
   | zero => exact absurd HA.out (by simp [mewsref47_form.l0])
   | succ k1 =>
    have H := HA.out
    clear HA
    simp only [mewsref47_form.l0] at H
    by_cases c6 : x7_1 < a1
    ·rw [if_pos c6] at H
     have c6b0 : decide (x7_1 < a1) = true := decide_eq_true c6
     clear c6
     by_cases c7 : x6_1.size + 3 ≤ 9223372036854775807
     ·rw [if_pos c7] at H
      have c7b0 := eq_true c7
      have c7b1 : decide (x6_1.size + 3 ≤ 9223372036854775807) = true := decide_eq_true c7
      try have c7b2 : (9223372036854775807 < x6_1.size + 3) = False := eq_false (Nat.not_lt.2 c7)
      have H' := Aside0.mk H
      clear H
      go_wp2
      go_roundg k1
      case measure => have := HK1.out; omega
      case rel => exact ⟨(x6_1 ++ (⟨#[120, 121, 119]⟩ : ByteArray)), (wrap64 (x7_1 + 1)), (by first | rfl | (simp; done) | (simp [*]; done)), (by first | rfl | (simp; done) | (simp [*]; done)), H', ⟨by have := HK1.out; omega⟩, ⟨by repeat (first | (with_reducible first | exact HB.out | apply below_alloc | apply pw_below_drewN | apply below_drew1) | exact HB.out)⟩⟩
     ·rw [if_neg c7] at H
      exact absurd H (by simp)
    ·rw [if_neg c6] at H
     have c6b0 : decide (x7_1 < a1) = false := decide_eq_false c6
     clear c6
     obtain rfl := Option.some.inj H
     go_wp2
     go_ret
     exact ⟨by first | rfl | (simp [errW_none, errW_some] <;> rfl) | (simp [*, errW_none, errW_some] <;> rfl), by repeat (first | (with_reducible first | exact HB.out | apply below_alloc | apply pw_below_drewN | apply below_drew1) | exact HB.out)⟩
 ·rw [if_neg c3] at H
  have c3b0 : (a0 == 8) = false := beq_eq_false_iff_ne.mpr c3
  have c3b1 : (a0 != 8) = true := bne_iff_ne.mpr c3
  by_cases c8 : 0 ≤ a0
  ·rw [if_pos c8] at H
   have c8b0 : decide (0 ≤ a0) = true := decide_eq_true c8
   clear c8
   by_cases c9 : a0 < (y263.length : Int)
   ·rw [if_pos c9] at H
    have c9b0 : decide (a0 < (y263.length : Int)) = true := decide_eq_true c9
    clear c9
    obtain rfl := Option.some.inj H
    go_enter Try.func20, Try.ntmps20
    go_wp2_with (first | ((with_reducible refine gate_dst (N := 8) rfl ?_); refine Kd.R_lit Kd.string _ 9 ?hg (N := 8) ?hd (xs := ([(⟨#[]⟩ : ByteArray), (⟨#[104]⟩ : ByteArray), (⟨#[104, 115]⟩ : ByteArray), (⟨#[104, 110]⟩ : ByteArray), (⟨#[104]⟩ : ByteArray), (⟨#[110]⟩ : ByteArray), (⟨#[]⟩ : ByteArray), (⟨#[116, 102, 107, 122]⟩ : ByteArray), (⟨#[]⟩ : ByteArray)] : List ByteArray)) (inner := [.string (⟨#[]⟩ : ByteArray), .string (⟨#[104]⟩ : ByteArray), .string (⟨#[104, 115]⟩ : ByteArray), .string (⟨#[104, 110]⟩ : ByteArray), .string (⟨#[104]⟩ : ByteArray), .string (⟨#[110]⟩ : ByteArray), .string (⟨#[]⟩ : ByteArray), .string (⟨#[116, 102, 107, 122]⟩ : ByteArray), .string (⟨#[]⟩ : ByteArray)]) (ok := fun _ => True) (okp := fun _ => True) ?hr ?hp (fun _ hk => hk) trivial (Below.refl _ _) (Nat.le_refl _) (by simp) ?_; (case hd => rfl); (case hg => rfl); (case hr => first | (go_simp; done) | (go_simp; rfl)); (case hp => exact (Reps.one (show Kd.M Kd.string _ _ _ (⟨#[]⟩ : ByteArray) [.string (⟨#[]⟩ : ByteArray)] from rfl) (Reps.one (show Kd.M Kd.string _ _ _ (⟨#[104]⟩ : ByteArray) [.string (⟨#[104]⟩ : ByteArray)] from rfl) (Reps.one (show Kd.M Kd.string _ _ _ (⟨#[104, 115]⟩ : ByteArray) [.string (⟨#[104, 115]⟩ : ByteArray)] from rfl) (Reps.one (show Kd.M Kd.string _ _ _ (⟨#[104, 110]⟩ : ByteArray) [.string (⟨#[104, 110]⟩ : ByteArray)] from rfl) (Reps.one (show Kd.M Kd.string _ _ _ (⟨#[104]⟩ : ByteArray) [.string (⟨#[104]⟩ : ByteArray)] from rfl) (Reps.one (show Kd.M Kd.string _ _ _ (⟨#[110]⟩ : ByteArray) [.string (⟨#[110]⟩ : ByteArray)] from rfl) (Reps.one (show Kd.M Kd.string _ _ _ (⟨#[]⟩ : ByteArray) [.string (⟨#[]⟩ : ByteArray)] from rfl) (Reps.one (show Kd.M Kd.string _ _ _ (⟨#[116, 102, 107, 122]⟩ : ByteArray) [.string (⟨#[116, 102, 107, 122]⟩ : ByteArray)] from rfl) (Reps.one (show Kd.M Kd.string _ _ _ (⟨#[]⟩ : ByteArray) [.string (⟨#[]⟩ : ByteArray)] from rfl) (Reps.none _ _))))))))))); intro v264 w10 ho11 hb hg_ hnew_; clear hg_ hnew_; (first | rw [← Ny263.out] at ho11 | (simp only [Int.reduceToNat] at ho11; rw [← Ny263.out] at ho11)); have n0_ := Aside0.mk (Kd.R_lower ho11 (below_size (by repeat (first | (with_reducible first | exact HB.out | apply below_alloc | apply pw_below_drewN | apply below_drew1) | exact HB.out)))); have n1_ := Aside0.mk (below_step (by repeat (first | (with_reducible first | exact HB.out | apply below_alloc | apply pw_below_drewN | apply below_drew1) | exact HB.out)) hb); clear HB; have HO265 := n0_; have HB := n1_; clear n0_ n1_; clear hb ho11; obtain ⟨Ao12, co12, eo12⟩ := Kd.R_slice HO265.out; subst eo12; have p266 : 0 ≤ (a0 : Int) := of_decide_eq_true (by first | (with_reducible assumption) | assumption); have q266 : a0 < (y263.length : Int) := of_decide_eq_true (by first | (with_reducible assumption) | assumption); obtain ⟨ad266, e266, hx266_0⟩ := Kd.at_string (Kd.R_reads' HO265.out).2.2 a0 p266 q266; cases e266; replace p266 := eq_true p266; replace q266 := eq_true q266))
    go_ret
    exact ⟨by first | rfl | (simp [errW_none, errW_some] <;> rfl) | (simp [*, errW_none, errW_some] <;> rfl), by repeat (first | (with_reducible first | exact HB.out | apply below_alloc | apply pw_below_drewN | apply below_drew1) | exact HB.out)⟩
   ·rw [if_neg c9] at H
    exact absurd H (by simp)
  ·rw [if_neg c8] at H
   exact absurd H (by simp)

def mewsref04_digit.l0 : Nat → Int → ByteArray → ByteArray → Int → Option (Int)
 | 0, _, _, _, _ => none
 | k + 1, x0, x3, x4, x5 => if x5 < 16 then (if 0 ≤ x5 then (if x5 < (x3.size : Int) then (if (bt x3 x5) = x0 then (some x5) else (if x5 < (x4.size : Int) then (if (bt x4 x5) = x0 then (some x5) else (mewsref04_digit.l0 k x0 x3 x4 (wrap64 (x5 + 1)))) else (none))) else (none)) else (none)) else (some 16)
def mewsref04_digit.f (k : Nat) (a0 : Int) : Option (Int) := mewsref04_digit.l0 k a0 (⟨#[48, 49, 50, 51, 52, 53, 54, 55, 56, 57, 97, 98, 99, 100, 101, 102]⟩ : ByteArray) (⟨#[48, 49, 50, 51, 52, 53, 54, 55, 56, 57, 65, 66, 67, 68, 69, 70]⟩ : ByteArray) 0
theorem mewsref04_digit.mono_l : ∀ k, (∀ y0 y1 y2 y3, LeO (mewsref04_digit.l0 k y0 y1 y2 y3) (mewsref04_digit.l0 (k + 1) y0 y1 y2 y3))
 | 0 => fun _ _ _ _ r h => by simp [mewsref04_digit.l0] at h
 | k + 1 => by
  have ih0 := mewsref04_digit.mono_l k
  ·intro y0 y1 y2 y3
   unfold mewsref04_digit.l0
   repeat' first
   | (with_reducible exact ih0 _ _ _ _)
   | (with_reducible exact LeO.refl _)
   | (with_reducible exact LeO.none _)
   | (with_reducible refine LeO.ite ?_ ?_)
   | (with_reducible refine LeO.bind ?_ (fun _ => ?_))
theorem mewsref04_digit.mono : ∀ a0 k, LeO (mewsref04_digit.f k a0) (mewsref04_digit.f (k + 1) a0) := by
 intro a0 k
 have ih0 := mewsref04_digit.mono_l k
 unfold mewsref04_digit.f
 repeat' first
   | (with_reducible exact ih0 _ _ _ _)
   | (with_reducible exact LeO.refl _)
   | (with_reducible exact LeO.none _)
   | (with_reducible refine LeO.ite ?_ ?_)
   | (with_reducible refine LeO.bind ?_ (fun _ => ?_))
set_option maxHeartbeats 8000000 in
set_option maxRecDepth 100000 in
theorem mewsref04_digit.calls (k : Nat) (a0 : Int) (r : Int) (w : World) (h : mewsref04_digit.f k a0 = some r) :
  Calls Try.prog 37 #[.int .u8 a0] w fun e w' => e = .returned (.int .i64 r) ∧ Drawn0 w w' := by
 have H : (mewsref04_digit.l0 k a0 (⟨#[48, 49, 50, 51, 52, 53, 54, 55, 56, 57, 97, 98, 99, 100, 101, 102]⟩ : ByteArray) (⟨#[48, 49, 50, 51, 52, 53, 54, 55, 56, 57, 65, 66, 67, 68, 69, 70]⟩ : ByteArray) 0) = some r := h
 clear h
 obtain ⟨S1_, hS1⟩ : ∃ S : ByteArray, S = (⟨#[48, 49, 50, 51, 52, 53, 54, 55, 56, 57, 97, 98, 99, 100, 101, 102]⟩ : ByteArray) := ⟨_, rfl⟩
 rw [← hS1] at H
 obtain ⟨S2_, hS2⟩ : ∃ S : ByteArray, S = (⟨#[48, 49, 50, 51, 52, 53, 54, 55, 56, 57, 65, 66, 67, 68, 69, 70]⟩ : ByteArray) := ⟨_, rfl⟩
 rw [← hS2] at H
 have H' := Aside0.mk H
 clear H
 go_enter Try.func37, Try.ntmps37
 go_wp2
 rw [← hS1, ← hS2]
 clear hS1 hS2
 go_loopg [5] k (fun kq v5 w' => ∃ (x5_1 : Int), v5 = .int .i64 x5_1 ∧ Aside0 (mewsref04_digit.l0 kq a0 S1_ S2_ x5_1 = some r) ∧ Aside0 (kq ≤ k) ∧ Drawn0 w w')
 case atStart => exact ⟨(0), (by first | rfl | (simp; done) | (simp [*]; done)), H', ⟨Nat.le_refl _⟩, by repeat (first | exact Drawn0.refl _ | apply Drawn0.step)⟩
 case round =>
  clear H'
  obtain ⟨x5_1, rfl, HA, HK1, ⟨m1, rfl⟩⟩ := hrel
  cases gk with
  | zero => exact absurd HA.out (by simp [mewsref04_digit.l0])
  | succ k1 =>
   have H := HA.out
   clear HA
   simp only [mewsref04_digit.l0] at H
   by_cases c2 : x5_1 < 16
   ·rw [if_pos c2] at H
    have c2b0 : decide (x5_1 < 16) = true := decide_eq_true c2
    clear c2
    by_cases c3 : 0 ≤ x5_1
    ·rw [if_pos c3] at H
     have c3b0 : decide (0 ≤ x5_1) = true := decide_eq_true c3
     clear c3
     by_cases c4 : x5_1 < (S1_.size : Int)
     ·rw [if_pos c4] at H
      have c4b0 : decide (x5_1 < (S1_.size : Int)) = true := decide_eq_true c4
      clear c4
      by_cases c6 : (bt S1_ x5_1) = a0
      ·rw [if_pos c6] at H
       have c6b0 : ((bt S1_ x5_1) == a0) = true := beq_iff_eq.mpr c6
       have c6b1 : ((bt S1_ x5_1) != a0) = false := bne_eq_false_iff_eq.mpr c6
       clear c6
       obtain rfl := Option.some.inj H
       have p5 : 0 ≤ (x5_1 : Int) := of_decide_eq_true (by first | (with_reducible assumption) | assumption)
       have q5 : x5_1 < (S1_.size : Int) := of_decide_eq_true (by first | (with_reducible assumption) | assumption)
       have hx5 := bt_at S1_ x5_1
       replace p5 := eq_true p5
       replace q5 := eq_true q5
       go_wp2
       go_ret
       exact ⟨by first | rfl | (simp; done) | (simp [*]; done), by repeat (first | exact Drawn0.refl _ | apply Drawn0.step)⟩
      ·rw [if_neg c6] at H
       have c6b0 : ((bt S1_ x5_1) == a0) = false := beq_eq_false_iff_ne.mpr c6
       have c6b1 : ((bt S1_ x5_1) != a0) = true := bne_iff_ne.mpr c6
       by_cases c7 : x5_1 < (S2_.size : Int)
       ·rw [if_pos c7] at H
        have c7b0 : decide (x5_1 < (S2_.size : Int)) = true := decide_eq_true c7
        clear c7
        by_cases c9 : (bt S2_ x5_1) = a0
        ·rw [if_pos c9] at H
         have c9b0 : ((bt S2_ x5_1) == a0) = true := beq_iff_eq.mpr c9
         have c9b1 : ((bt S2_ x5_1) != a0) = false := bne_eq_false_iff_eq.mpr c9
         clear c9
         obtain rfl := Option.some.inj H
         have p5 : 0 ≤ (x5_1 : Int) := of_decide_eq_true (by first | (with_reducible assumption) | assumption)
         have q5 : x5_1 < (S1_.size : Int) := of_decide_eq_true (by first | (with_reducible assumption) | assumption)
         have hx5 := bt_at S1_ x5_1
         replace p5 := eq_true p5
         replace q5 := eq_true q5
         have p8 : 0 ≤ (x5_1 : Int) := of_decide_eq_true (by first | (with_reducible assumption) | assumption)
         have q8 : x5_1 < (S2_.size : Int) := of_decide_eq_true (by first | (with_reducible assumption) | assumption)
         have hx8 := bt_at S2_ x5_1
         replace p8 := eq_true p8
         replace q8 := eq_true q8
         go_wp2
         go_ret
         exact ⟨by first | rfl | (simp; done) | (simp [*]; done), by repeat (first | exact Drawn0.refl _ | apply Drawn0.step)⟩
        ·rw [if_neg c9] at H
         have c9b0 : ((bt S2_ x5_1) == a0) = false := beq_eq_false_iff_ne.mpr c9
         have c9b1 : ((bt S2_ x5_1) != a0) = true := bne_iff_ne.mpr c9
         have H' := Aside0.mk H
         clear H
         have p5 : 0 ≤ (x5_1 : Int) := of_decide_eq_true (by first | (with_reducible assumption) | assumption)
         have q5 : x5_1 < (S1_.size : Int) := of_decide_eq_true (by first | (with_reducible assumption) | assumption)
         have hx5 := bt_at S1_ x5_1
         replace p5 := eq_true p5
         replace q5 := eq_true q5
         have p8 : 0 ≤ (x5_1 : Int) := of_decide_eq_true (by first | (with_reducible assumption) | assumption)
         have q8 : x5_1 < (S2_.size : Int) := of_decide_eq_true (by first | (with_reducible assumption) | assumption)
         have hx8 := bt_at S2_ x5_1
         replace p8 := eq_true p8
         replace q8 := eq_true q8
         go_wp2
         go_roundg k1
         case measure => have := HK1.out; omega
         case rel => exact ⟨(wrap64 (x5_1 + 1)), (by first | rfl | (simp; done) | (simp [*]; done)), H', ⟨by have := HK1.out; omega⟩, by repeat (first | exact Drawn0.refl _ | apply Drawn0.step)⟩
       ·rw [if_neg c7] at H
        exact absurd H (by simp)
     ·rw [if_neg c4] at H
      exact absurd H (by simp)
    ·rw [if_neg c3] at H
     exact absurd H (by simp)
   ·rw [if_neg c2] at H
    have c2b0 : decide (x5_1 < 16) = false := decide_eq_false c2
    clear c2
    obtain rfl := Option.some.inj H
    go_wp2
    go_ret
    exact ⟨by first | rfl | (simp; done) | (simp [*]; done), by repeat (first | exact Drawn0.refl _ | apply Drawn0.step)⟩

end Go.Proofs.Ytehnogggokfcaaa.X
