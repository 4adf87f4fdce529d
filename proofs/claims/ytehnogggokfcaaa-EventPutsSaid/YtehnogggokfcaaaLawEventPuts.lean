import Derived.Test.YtehnogggokfcaaaRows
import Derived.Test.YtehnogggokfcaaaXDEventPuts
import Derived.Test.YtehnogggokfcaaaPureEventPuts
import Derived.WalkKit
import Derived.ProofKit
import Derived.OpenShut
import Derived.ShutString
import Derived.ChangeOld
import Derived.Below
import Derived.SizedLaws
namespace Go.Proofs.Ytehnogggokfcaaa.eventPuts
open Go.ChangeShapes Go.WideShapes Go.ChangeAt Go.RowKit Go.Proofs.Ytehnogggokfcaaa.X Go.Proofs.YtehnogggokfcaaaW.PrintWords Go.Proofs.YtehnogggokfcaaaW.PrintLast Go.Proofs.YtehnogggokfcaaaW.PrintMore Go.Proofs.Ytehnogggokfcaaa.Y
open Go.ChangeMaps (open_string shut_string)
set_option linter.unusedVariables false
theorem own : ownKnob Try.prog.godebug = none := by kernel_rfl
theorem laidOut : laidOutB Try.prog = true := by kernel_rfl
theorem opens_S23 : Opens Try.prog k23 23 (fun x => (x.f0.size ≤ 140737488351232) ∧ ((Lit.int .i64 x.f1).wf = true) ∧ ((Lit.int .i64 x.f2).wf = true)) := by
  intro H enc W fuel cs x h hs
  obtain ⟨xs, n, _, rfl, hl, hlen, hf⟩ := DataW.trod_struct Try.underlying23 h
  have hl' : cs.length = 3 := hl.trans (by kernel_rfl)
  obtain ⟨a0, hK0, hW0⟩ := field_open Try.underlying23 (opens_string Try.underlying9) hlen hf 0 rfl rfl hs
  have z0 : Try.prog.cellsOf 9 = 1 := by kernel_rfl
  replace hK0 : (Kd.string).K W a0 ((cs.drop 0).take (Try.prog.cellsOf 9)) := hK0
  rw [z0] at hK0
  replace hK0 : (Kd.string).K W a0 ((cs.drop 0).take 1) := hK0
  obtain ⟨a1, hK1, hW1⟩ := field_open Try.underlying23 (opens_int (k := .i64) Try.underlying3) hlen hf 1 rfl rfl hs
  have z1 : Try.prog.cellsOf 3 = 1 := by kernel_rfl
  replace hK1 : ((Kd.int .i64)).K W a1 ((cs.drop 1).take (Try.prog.cellsOf 3)) := hK1
  rw [z1] at hK1
  replace hK1 : ((Kd.int .i64)).K W a1 ((cs.drop 1).take 1) := hK1
  obtain ⟨a2, hK2, hW2⟩ := field_open Try.underlying23 (opens_int (k := .i64) Try.underlying3) hlen hf 2 rfl rfl hs
  have z2 : Try.prog.cellsOf 3 = 1 := by kernel_rfl
  replace hK2 : ((Kd.int .i64)).K W a2 ((cs.drop 2).take (Try.prog.cellsOf 3)) := hK2
  rw [z2] at hK2
  replace hK2 : ((Kd.int .i64)).K W a2 ((cs.drop 2).take 1) := hK2
  refine ⟨⟨a0, a1, a2⟩, ?_, ⟨hW0, hW1, hW2⟩⟩
  exact (show _ from (K_pair hK0 (K_pair hK1 (K_last hK2 (by omega)))))
theorem opens_S41 : Opens Try.prog k41 41 (fun x => (x.f0.size ≤ 140737488351232) ∧ ((Lit.int .i64 x.f1).wf = true)) := by
  intro H enc W fuel cs x h hs
  obtain ⟨xs, n, _, rfl, hl, hlen, hf⟩ := DataW.trod_struct Try.underlying41 h
  have hl' : cs.length = 2 := hl.trans (by kernel_rfl)
  obtain ⟨a0, hK0, hW0⟩ := field_open Try.underlying41 (opens_string Try.underlying9) hlen hf 0 rfl rfl hs
  have z0 : Try.prog.cellsOf 9 = 1 := by kernel_rfl
  replace hK0 : (Kd.string).K W a0 ((cs.drop 0).take (Try.prog.cellsOf 9)) := hK0
  rw [z0] at hK0
  replace hK0 : (Kd.string).K W a0 ((cs.drop 0).take 1) := hK0
  obtain ⟨a1, hK1, hW1⟩ := field_open Try.underlying41 (opens_int (k := .i64) Try.underlying3) hlen hf 1 rfl rfl hs
  have z1 : Try.prog.cellsOf 3 = 1 := by kernel_rfl
  replace hK1 : ((Kd.int .i64)).K W a1 ((cs.drop 1).take (Try.prog.cellsOf 3)) := hK1
  rw [z1] at hK1
  replace hK1 : ((Kd.int .i64)).K W a1 ((cs.drop 1).take 1) := hK1
  refine ⟨⟨a0, a1⟩, ?_, ⟨hW0, hW1⟩⟩
  exact (show _ from (K_pair hK0 (K_last hK1 (by omega))))
theorem opens_S43 : Opens Try.prog k43 43 (fun x => ((Lit.int .i64 x.f0).wf = true) ∧ ((x.f1.f0.size ≤ 140737488351232) ∧ ((Lit.int .i64 x.f1.f1).wf = true))) := by
  intro H enc W fuel cs x h hs
  obtain ⟨xs, n, _, rfl, hl, hlen, hf⟩ := DataW.trod_struct Try.underlying43 h
  have hl' : cs.length = 3 := hl.trans (by kernel_rfl)
  obtain ⟨a0, hK0, hW0⟩ := field_open Try.underlying43 (opens_int (k := .i64) Try.underlying3) hlen hf 0 rfl rfl hs
  have z0 : Try.prog.cellsOf 3 = 1 := by kernel_rfl
  replace hK0 : ((Kd.int .i64)).K W a0 ((cs.drop 0).take (Try.prog.cellsOf 3)) := hK0
  rw [z0] at hK0
  replace hK0 : ((Kd.int .i64)).K W a0 ((cs.drop 0).take 1) := hK0
  obtain ⟨a1, hK1, hW1⟩ := field_open Try.underlying43 opens_S41 hlen hf 1 rfl rfl hs
  have z1 : Try.prog.cellsOf 41 = 2 := by kernel_rfl
  replace hK1 : (k41).K W a1 ((cs.drop 1).take (Try.prog.cellsOf 41)) := hK1
  rw [z1] at hK1
  replace hK1 : (k41).K W a1 ((cs.drop 1).take 2) := hK1
  refine ⟨⟨a0, a1⟩, ?_, ⟨hW0, hW1⟩⟩
  exact (show _ from (K_pair hK0 (K_last hK1 (by omega))))
theorem opens_S26 : Opens Try.prog k26 26 (fun x => ((Lit.int .i64 x.f0).wf = true) ∧ ((Lit.int .i64 x.f1).wf = true) ∧ (x.f2.size ≤ 140737488351232) ∧ ((Lit.int .i64 x.f3).wf = true) ∧ ((Lit.int .i64 x.f4).wf = true) ∧ ((x.f5.f0.size ≤ 140737488351232) ∧ ((Lit.int .i64 x.f5.f1).wf = true) ∧ ((Lit.int .i64 x.f5.f2).wf = true)) ∧ (x.f6.length * 32 ≤ 140737488351232 ∧ ∀ y ∈ x.f6, ((Lit.int .i64 y.f0).wf = true) ∧ ((y.f1.f0.size ≤ 140737488351232) ∧ ((Lit.int .i64 y.f1.f1).wf = true)))) := by
  intro H enc W fuel cs x h hs
  obtain ⟨xs, n, _, rfl, hl, hlen, hf⟩ := DataW.trod_struct Try.underlying26 h
  have hl' : cs.length = 9 := hl.trans (by kernel_rfl)
  obtain ⟨a0, hK0, hW0⟩ := field_open Try.underlying26 (opens_int (k := .i64) Try.underlying3) hlen hf 0 rfl rfl hs
  have z0 : Try.prog.cellsOf 3 = 1 := by kernel_rfl
  replace hK0 : ((Kd.int .i64)).K W a0 ((cs.drop 0).take (Try.prog.cellsOf 3)) := hK0
  rw [z0] at hK0
  replace hK0 : ((Kd.int .i64)).K W a0 ((cs.drop 0).take 1) := hK0
  obtain ⟨a1, hK1, hW1⟩ := field_open Try.underlying26 (opens_int (k := .i64) Try.underlying3) hlen hf 1 rfl rfl hs
  have z1 : Try.prog.cellsOf 3 = 1 := by kernel_rfl
  replace hK1 : ((Kd.int .i64)).K W a1 ((cs.drop 1).take (Try.prog.cellsOf 3)) := hK1
  rw [z1] at hK1
  replace hK1 : ((Kd.int .i64)).K W a1 ((cs.drop 1).take 1) := hK1
  obtain ⟨a2, hK2, hW2⟩ := field_open Try.underlying26 (opens_string Try.underlying9) hlen hf 2 rfl rfl hs
  have z2 : Try.prog.cellsOf 9 = 1 := by kernel_rfl
  replace hK2 : (Kd.string).K W a2 ((cs.drop 2).take (Try.prog.cellsOf 9)) := hK2
  rw [z2] at hK2
  replace hK2 : (Kd.string).K W a2 ((cs.drop 2).take 1) := hK2
  obtain ⟨a3, hK3, hW3⟩ := field_open Try.underlying26 (opens_int (k := .i64) Try.underlying2) hlen hf 3 rfl rfl hs
  have z3 : Try.prog.cellsOf 2 = 1 := by kernel_rfl
  replace hK3 : ((Kd.int .i64)).K W a3 ((cs.drop 3).take (Try.prog.cellsOf 2)) := hK3
  rw [z3] at hK3
  replace hK3 : ((Kd.int .i64)).K W a3 ((cs.drop 3).take 1) := hK3
  obtain ⟨a4, hK4, hW4⟩ := field_open Try.underlying26 (opens_int (k := .i64) Try.underlying3) hlen hf 4 rfl rfl hs
  have z4 : Try.prog.cellsOf 3 = 1 := by kernel_rfl
  replace hK4 : ((Kd.int .i64)).K W a4 ((cs.drop 4).take (Try.prog.cellsOf 3)) := hK4
  rw [z4] at hK4
  replace hK4 : ((Kd.int .i64)).K W a4 ((cs.drop 4).take 1) := hK4
  obtain ⟨a5, hK5, hW5⟩ := field_open Try.underlying26 opens_S23 hlen hf 5 rfl rfl hs
  have z5 : Try.prog.cellsOf 23 = 3 := by kernel_rfl
  replace hK5 : (k23).K W a5 ((cs.drop 5).take (Try.prog.cellsOf 23)) := hK5
  rw [z5] at hK5
  replace hK5 : (k23).K W a5 ((cs.drop 5).take 3) := hK5
  obtain ⟨a6, hK6, hW6⟩ := field_open Try.underlying26 (opens_slice (t := 24) (e := 43) (d := k43) (B := 32) Try.underlying24 (by kernel_rfl) (by kernel_rfl) opens_S43) hlen hf 6 rfl rfl hs
  have z6 : Try.prog.cellsOf 24 = 1 := by kernel_rfl
  replace hK6 : ((Kd.slice 43 k43)).K W a6 ((cs.drop 8).take (Try.prog.cellsOf 24)) := hK6
  rw [z6] at hK6
  replace hK6 : ((Kd.slice 43 k43)).K W a6 ((cs.drop 8).take 1) := hK6
  refine ⟨⟨a0, a1, a2, a3, a4, a5, a6⟩, ?_, ⟨hW0, hW1, hW2, hW3, hW4, hW5, hW6⟩⟩
  exact (show _ from (K_pair hK0 (K_pair hK1 (K_pair hK2 (K_pair hK3 (K_pair hK4 (K_pair hK5 (K_last hK6 (by omega)))))))))
set_option maxRecDepth 100000 in
theorem lifted (os : Os) (started : os.Started) (H : Type) (enc : TypeId × Value → H) :
    ReturnsInHanded {} Try.checked os 3 .any (Rows.eventPutsSpec.pre6 enc Try.prog Try.f3 Rows.eventPutsRow.domain false) (Rows.eventPutsSpec.post enc Try.prog Try.f3 false true false false) := by
  refine returnsInHanded_of_change_sized (C := Try.checked) own started (by kernel_rfl) Try.func3
    (ChangeSpec.witness6 (enc := enc) (C := Try.checked) false ⟨#[], #[.agg #[.int .i64 0, .int .i64 0, .string ByteArray.empty, .int .i64 0, .int .i64 0, .string ByteArray.empty, .int .i64 0, .int .i64 0, .slice none 0 0], .agg #[.int .i64 0, .int .i64 0, .string ByteArray.empty, .int .i64 0, .int .i64 0, .string ByteArray.empty, .int .i64 0, .int .i64 0, .slice none 0 0]], []⟩ 8 (by kernel_rfl) (by kernel_rfl) (by kernel_rfl) (by kernel_rfl)) ?_
  intro W base args ds gs before hval0 hW hcnd hsz0 _
  have hsz : (DataW.weightsEach Try.prog (Try.f3.params.toList ++ Rows.eventPutsSpec.plain.varTypes Try.prog) (ds ++ gs)).all (· ≤ reachBytes) = true := hsz0
  have hval : ∀ (j : Nat) t v, Try.f3.params[j]? = some t → args[j]? = some v → Value.okWide Try.prog W .any base t v := hval0
  have hW' := hW
  obtain ⟨p, q, hA0, hV, rfl, hfz, hnd⟩ := hW
  have hA : DataW.TrodAll enc Try.prog W 0 (fun _ => true) true Try.f3.params.toList args.toList ds p := hA0
  rw [Try.params3] at hA hval hsz
  obtain ⟨v0, vs0, d0, ds0, p0, q0, hargs, rfl, rfl, h0, r0⟩ := trodAll_cons hA
  obtain ⟨v1, vs1, d1, ds1, p1, q1, rfl, rfl, rfl, h1, r1⟩ := trodAll_cons r0
  obtain ⟨rfl, rfl, rfl⟩ := trodAll_nil r1
  obtain rfl : args = #[v0, v1] := by cases args; simp_all
  obtain ⟨rfl, rfl⟩ := trodVars_none hV
  have k0 := h0
  have lt0 : ∀ x ∈ p0, x.block < W.heap.size := by obtain ⟨m, hm⟩ := k0; exact DataW.trod_lt m _ _ _ hm
  obtain ⟨z0, e0, w0⟩ := arg_open opens_S26 hsz (j := 0) rfl rfl h0
  obtain ⟨cs0, hcs0, e0⟩ : ∃ cs, v0.cells.toList = cs ∧ k26.K W z0 cs := ⟨_, rfl, e0⟩
  obtain ⟨_, _, rfl, rfl, ⟨_, _, rfl, rfl, ⟨_, _, rfl, rfl, ⟨_, _, rfl, rfl, ⟨_, _, rfl, rfl, ⟨_, _, rfl, ⟨_, _, rfl, rfl, ⟨_, _, rfl, rfl, rfl⟩⟩, ⟨Az0_f6, cz0_f6, rfl, hcz0_f6, hrz0_f6⟩⟩⟩⟩⟩⟩⟩ := e0
  obtain ⟨ar0, rfl, _⟩ := okWide_struct Try.underlying26 (hval 0 26 v0 rfl rfl)
  obtain rfl := agg_of hcs0
  have k1 := h1
  have lt1 : ∀ x ∈ p1, x.block < W.heap.size := by obtain ⟨m, hm⟩ := k1; exact DataW.trod_lt m _ _ _ hm
  obtain ⟨z1, e1, w1⟩ := arg_open opens_S26 hsz (j := 1) rfl rfl h1
  obtain ⟨cs1, hcs1, e1⟩ : ∃ cs, v1.cells.toList = cs ∧ k26.K W z1 cs := ⟨_, rfl, e1⟩
  obtain ⟨_, _, rfl, rfl, ⟨_, _, rfl, rfl, ⟨_, _, rfl, rfl, ⟨_, _, rfl, rfl, ⟨_, _, rfl, rfl, ⟨_, _, rfl, ⟨_, _, rfl, rfl, ⟨_, _, rfl, rfl, rfl⟩⟩, ⟨Az1_f6, cz1_f6, rfl, hcz1_f6, hrz1_f6⟩⟩⟩⟩⟩⟩⟩ := e1
  obtain ⟨ar1, rfl, _⟩ := okWide_struct Try.underlying26 (hval 1 26 v1 rfl rfl)
  obtain rfl := agg_of hcs1
  clear hA0 hval0 hsz0 hsz
  obtain ⟨k, hk⟩ := (Pure.EventPuts z0 z1 w0 w1)
  refine (mewslaw47_EventPuts.calls k z0.f0 z0.f1 z0.f2 z0.f3 z0.f4 z0.f5.f0 z0.f5.f1 z0.f5.f2 _ _ z0.f6 z1.f0 z1.f1 z1.f2 z1.f3 z1.f4 z1.f5.f0 z1.f5.f1 z1.f5.f2 _ _ z1.f6 true W hrz0_f6 hcz0_f6 hrz1_f6 hcz1_f6 ⟨rfl⟩ hk).mono fun e W' he => ?_
  obtain ⟨rfl, bel0⟩ := he
  have bel : Below W.heap.size W W' := bel0
  exact ⟨_, rfl, _, _, _, [], _, [], hW', trodAll_mk1 (shut_bool Try.underlying4 _), (trodAll_cons_mk (Below.trod laidOut (by kernel_rfl) (of_decide_eq_true (by kernel_rfl)) k0 bel lt0) (trodAll_cons_mk (Below.trod laidOut (by kernel_rfl) (of_decide_eq_true (by kernel_rfl)) k1 bel lt1) trodAll_mk0)), rfl, bel.frame _, fun h => by cases h⟩
theorem over : Rows.eventPutsRow.holds Try.pinned (OpenSpec.ofChange Rows.eventPutsSpec) :=
  OpenClaim.holds_of_wide 3 Try.f3 rfl rfl rfl rfl rfl rfl rfl ⟨rfl, rfl, rfl, rfl, rfl⟩ rfl rfl rfl rfl rfl (by kernel_rfl) Try.func3 (by kernel_rfl)
    (of_decide_eq_true (by kernel_rfl)) (by unfold Func.isWrapper; first | (rw [if_pos (by decide +kernel)]; kernel_rfl) | (rw [if_neg (by decide +kernel)]; exact ⟨rfl, rfl⟩))
    (fun os started H enc _ => lifted os started H enc)
theorem proved : Rows.EventPutsSaid := over
#print axioms proved
end Go.Proofs.Ytehnogggokfcaaa.eventPuts
namespace Go.Proofs.Ytehnogggokfcaaa
/-- The row, under a short name, for the claim. -/
theorem eventPuts_holds : Rows.EventPutsSaid := eventPuts.proved
end Go.Proofs.Ytehnogggokfcaaa
