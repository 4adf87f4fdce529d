-- Written by wip/tool/xprint.py of this work (a front end of its own to the kit's printer): the functions of the seat Ytglkfoldhobflaa as plain Lean functions, and what the Go code's calls come to. Lean checks it.
import Derived.Test.YtglkfoldhobflaaRows
import Derived.Test.YtglkfoldhobflaaXDDequeTurned
import Derived.Test.YtglkfoldhobflaaPureDequeTurned
import Derived.WalkKit
import Derived.ProofKit
import Derived.OpenShut
import Derived.ShutString
import Derived.ChangeOld
import Derived.Below
import Derived.SizedLaws
namespace Go.Proofs.Ytglkfoldhobflaa.dequeTurned
open Go.ChangeShapes Go.WideShapes Go.ChangeAt Go.RowKit Go.Proofs.Ytglkfoldhobflaa.X Go.Proofs.YtglkfoldhobflaaW.PrintWords Go.Proofs.YtglkfoldhobflaaW.PrintLast Go.Proofs.YtglkfoldhobflaaW.PrintMore Go.Proofs.Ytglkfoldhobflaa.Y
open Go.ChangeMaps (open_string shut_string)
set_option linter.unusedVariables false
theorem own : ownKnob Try.prog.godebug = none := by kernel_rfl
theorem laidOut : laidOutB Try.prog = true := by kernel_rfl
theorem opens_S29 : Opens Try.prog k29 29 (fun x => ((Lit.int .i64 x.f0).wf = true) ∧ ((Lit.int .i64 x.f1).wf = true) ∧ ((Lit.int .i64 x.f2).wf = true)) := by
  intro H enc W fuel cs x h hs
  obtain ⟨xs, n, _, rfl, hl, hlen, hf⟩ := DataW.trod_struct Try.underlying29 h
  have hl' : cs.length = 3 := hl.trans (by kernel_rfl)
  obtain ⟨a0, hK0, hW0⟩ := field_open Try.underlying29 (opens_int (k := .i64) Try.underlying3) hlen hf 0 rfl rfl hs
  have z0 : Try.prog.cellsOf 3 = 1 := by kernel_rfl
  replace hK0 : ((Kd.int .i64)).K W a0 ((cs.drop 0).take (Try.prog.cellsOf 3)) := hK0
  rw [z0] at hK0
  replace hK0 : ((Kd.int .i64)).K W a0 ((cs.drop 0).take 1) := hK0
  obtain ⟨a1, hK1, hW1⟩ := field_open Try.underlying29 (opens_int (k := .i64) Try.underlying3) hlen hf 1 rfl rfl hs
  have z1 : Try.prog.cellsOf 3 = 1 := by kernel_rfl
  replace hK1 : ((Kd.int .i64)).K W a1 ((cs.drop 1).take (Try.prog.cellsOf 3)) := hK1
  rw [z1] at hK1
  replace hK1 : ((Kd.int .i64)).K W a1 ((cs.drop 1).take 1) := hK1
  obtain ⟨a2, hK2, hW2⟩ := field_open Try.underlying29 (opens_int (k := .i64) Try.underlying3) hlen hf 2 rfl rfl hs
  have z2 : Try.prog.cellsOf 3 = 1 := by kernel_rfl
  replace hK2 : ((Kd.int .i64)).K W a2 ((cs.drop 2).take (Try.prog.cellsOf 3)) := hK2
  rw [z2] at hK2
  replace hK2 : ((Kd.int .i64)).K W a2 ((cs.drop 2).take 1) := hK2
  refine ⟨⟨a0, a1, a2⟩, ?_, ⟨hW0, hW1, hW2⟩⟩
  exact (show _ from (K_pair hK0 (K_pair hK1 (K_last hK2 (by omega)))))
set_option maxRecDepth 100000 in
theorem lifted (os : Os) (started : os.Started) (H : Type) (enc : TypeId × Value → H) :
    ReturnsInHanded {} Try.checked os 3 .any (Rows.dequeTurnedSpec.pre6 enc Try.prog Try.f3 Rows.dequeTurnedRow.domain false) (Rows.dequeTurnedSpec.post enc Try.prog Try.f3 false true false false) := by
  refine returnsInHanded_of_change_sized (C := Try.checked) own started (by kernel_rfl) Try.func3
    (ChangeSpec.witness6 (enc := enc) (C := Try.checked) false ⟨#[], #[.slice none 0 0, .slice none 0 0], []⟩ 8 (by kernel_rfl) (by kernel_rfl) (by kernel_rfl) (by kernel_rfl)) ?_
  intro W base args ds gs before hval0 hW hcnd hsz0 _
  have hsz : (DataW.weightsEach Try.prog (Try.f3.params.toList ++ Rows.dequeTurnedSpec.plain.varTypes Try.prog) (ds ++ gs)).all (· ≤ reachBytes) = true := hsz0
  have hval : ∀ (j : Nat) t v, Try.f3.params[j]? = some t → args[j]? = some v → Value.okWide Try.prog W .any base t v := hval0
  have hW' := hW
  obtain ⟨p, q, hA0, hV, rfl, hfz, hnd⟩ := hW
  have hA : DataW.TrodAll enc Try.prog W 0 (fun _ => true) true Try.f3.params.toList args.toList ds p := hA0
  rw [Try.params3] at hA hval hsz
  obtain ⟨v0, vs0, d0, ds0, p0, q0, hargs, rfl, rfl, h0, r0⟩ := trodAll_cons hA
  obtain ⟨v1, vs1, d1, ds1, p1, q1, rfl, rfl, rfl, h1, r1⟩ := trodAll_cons r0
  obtain ⟨rfl, rfl, rfl⟩ := trodAll_nil r1
  obtain rfl : args = #[v0, v1] := by cases args; simp_all
  obtain ⟨rfl, rfl⟩ := trodVars_none hV
  have k0 := h0
  have lt0 : ∀ x ∈ p0, x.block < W.heap.size := by obtain ⟨m, hm⟩ := k0; exact DataW.trod_lt m _ _ _ hm
  obtain ⟨z0, e0, w0⟩ := arg_open (opens_slice (t := 22) (e := 3) (d := (Kd.int .i64)) (B := 8) Try.underlying22 (by kernel_rfl) (by kernel_rfl) (opens_int (k := .i64) Try.underlying3)) hsz (j := 0) rfl rfl h0
  obtain ⟨cs0, hcs0, e0⟩ : ∃ cs, v0.cells.toList = cs ∧ (Kd.slice 3 (Kd.int .i64)).K W z0 cs := ⟨_, rfl, e0⟩
  obtain ⟨Az0, cz0, rfl, hcz0, hrz0⟩ := e0
  obtain rfl := one_slice Try.underlying22 (hval 0 22 v0 rfl rfl) hcs0
  have k1 := h1
  have lt1 : ∀ x ∈ p1, x.block < W.heap.size := by obtain ⟨m, hm⟩ := k1; exact DataW.trod_lt m _ _ _ hm
  obtain ⟨z1, e1, w1⟩ := arg_open (opens_slice (t := 23) (e := 29) (d := k29) (B := 24) Try.underlying23 (by kernel_rfl) (by kernel_rfl) opens_S29) hsz (j := 1) rfl rfl h1
  obtain ⟨cs1, hcs1, e1⟩ : ∃ cs, v1.cells.toList = cs ∧ (Kd.slice 29 k29).K W z1 cs := ⟨_, rfl, e1⟩
  obtain ⟨Az1, cz1, rfl, hcz1, hrz1⟩ := e1
  obtain rfl := one_slice Try.underlying23 (hval 1 23 v1 rfl rfl) hcs1
  clear hA0 hval0 hsz0 hsz
  obtain ⟨k, hk⟩ := (Pure.DequeTurned z0 z1 w0 w1)
  refine (mewslaw09_DequeTurned.calls k _ _ z0 _ _ z1 true W hrz0 hcz0 hrz1 hcz1 ⟨rfl⟩ hk).mono fun e W' he => ?_
  obtain ⟨rfl, bel0⟩ := he
  have bel : Below W.heap.size W W' := bel0
  exact ⟨_, rfl, _, _, _, [], _, [], hW', trodAll_mk1 (shut_bool Try.underlying4 _), (trodAll_cons_mk (Below.trod laidOut (by kernel_rfl) (of_decide_eq_true (by kernel_rfl)) k0 bel lt0) (trodAll_cons_mk (Below.trod laidOut (by kernel_rfl) (of_decide_eq_true (by kernel_rfl)) k1 bel lt1) trodAll_mk0)), rfl, bel.frame _, fun h => by cases h⟩
theorem over : Rows.dequeTurnedRow.holds Try.pinned (OpenSpec.ofChange Rows.dequeTurnedSpec) :=
  OpenClaim.holds_of_wide 3 Try.f3 rfl rfl rfl rfl rfl rfl rfl ⟨rfl, rfl, rfl, rfl, rfl⟩ rfl rfl rfl rfl rfl (by kernel_rfl) Try.func3 (by kernel_rfl)
    (of_decide_eq_true (by kernel_rfl)) (by unfold Func.isWrapper; first | (rw [if_pos (by decide +kernel)]; kernel_rfl) | (rw [if_neg (by decide +kernel)]; exact ⟨rfl, rfl⟩))
    (fun os started H enc _ => lifted os started H enc)
theorem proved : Rows.DequeTurnedSaid := over
#print axioms proved
end Go.Proofs.Ytglkfoldhobflaa.dequeTurned
namespace Go.Proofs.Ytglkfoldhobflaa
/-- The row, under a short name, for the claim. -/
theorem dequeTurned_holds : Rows.DequeTurnedSaid := dequeTurned.proved
end Go.Proofs.Ytglkfoldhobflaa
