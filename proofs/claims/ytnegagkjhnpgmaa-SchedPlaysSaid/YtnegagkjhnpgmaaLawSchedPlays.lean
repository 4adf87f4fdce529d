-- Written by wip/tool/xprint.py of this work (a front end of its own to the kit's printer): the functions of the seat Ytnegagkjhnpgmaa as plain Lean functions, and what the Go code's calls come to. Lean checks it.
import Derived.Test.YtnegagkjhnpgmaaRows
import Derived.Test.YtnegagkjhnpgmaaPureSchedPlays
import Derived.WalkKit
import Derived.ProofKit
import Derived.OpenShut
import Derived.ShutString
import Derived.ChangeOld
import Derived.Below
import Derived.SizedLaws
namespace Go.Proofs.Ytnegagkjhnpgmaa.schedPlays
open Go.ChangeShapes Go.WideShapes Go.ChangeAt Go.RowKit Go.Proofs.Ytnegagkjhnpgmaa.X Go.Proofs.YtnegagkjhnpgmaaW.PrintWords Go.Proofs.YtnegagkjhnpgmaaW.PrintLast Go.Proofs.YtnegagkjhnpgmaaW.PrintMore Go.Proofs.Ytnegagkjhnpgmaa.Y
open Go.ChangeMaps (open_string shut_string)
set_option linter.unusedVariables false
theorem own : ownKnob Try.prog.godebug = none := by kernel_rfl
theorem laidOut : laidOutB Try.prog = true := by kernel_rfl
theorem opens_S29 : Opens Try.prog k29 29 (fun x => ((Lit.int .i64 x.f0).wf = true) ∧ (x.f1.length * 16 ≤ 140737488351232 ∧ ∀ y ∈ x.f1, y.size ≤ 140737488351232) ∧ ((Lit.int .i64 x.f2).wf = true) ∧ (x.f3.size ≤ 140737488351232)) := by
  intro H enc W fuel cs x h hs
  obtain ⟨xs, n, _, rfl, hl, hlen, hf⟩ := DataW.trod_struct Try.underlying29 h
  have hl' : cs.length = 4 := hl.trans (by kernel_rfl)
  obtain ⟨a0, hK0, hW0⟩ := field_open Try.underlying29 (opens_int (k := .i64) Try.underlying3) hlen hf 0 rfl rfl hs
  have z0 : Try.prog.cellsOf 3 = 1 := by kernel_rfl
  replace hK0 : ((Kd.int .i64)).K W a0 ((cs.drop 0).take (Try.prog.cellsOf 3)) := hK0
  rw [z0] at hK0
  replace hK0 : ((Kd.int .i64)).K W a0 ((cs.drop 0).take 1) := hK0
  obtain ⟨a1, hK1, hW1⟩ := field_open Try.underlying29 (opens_slice (t := 27) (e := 9) (d := Kd.string) (B := 16) Try.underlying27 (by kernel_rfl) (by kernel_rfl) (opens_string Try.underlying9)) hlen hf 1 rfl rfl hs
  have z1 : Try.prog.cellsOf 27 = 1 := by kernel_rfl
  replace hK1 : ((Kd.slice 9 Kd.string)).K W a1 ((cs.drop 1).take (Try.prog.cellsOf 27)) := hK1
  rw [z1] at hK1
  replace hK1 : ((Kd.slice 9 Kd.string)).K W a1 ((cs.drop 1).take 1) := hK1
  obtain ⟨a2, hK2, hW2⟩ := field_open Try.underlying29 (opens_int (k := .i64) Try.underlying3) hlen hf 2 rfl rfl hs
  have z2 : Try.prog.cellsOf 3 = 1 := by kernel_rfl
  replace hK2 : ((Kd.int .i64)).K W a2 ((cs.drop 2).take (Try.prog.cellsOf 3)) := hK2
  rw [z2] at hK2
  replace hK2 : ((Kd.int .i64)).K W a2 ((cs.drop 2).take 1) := hK2
  obtain ⟨a3, hK3, hW3⟩ := field_open Try.underlying29 (opens_string Try.underlying9) hlen hf 3 rfl rfl hs
  have z3 : Try.prog.cellsOf 9 = 1 := by kernel_rfl
  replace hK3 : (Kd.string).K W a3 ((cs.drop 3).take (Try.prog.cellsOf 9)) := hK3
  rw [z3] at hK3
  replace hK3 : (Kd.string).K W a3 ((cs.drop 3).take 1) := hK3
  refine ⟨⟨a0, a1, a2, a3⟩, ?_, ⟨hW0, hW1, hW2, hW3⟩⟩
  exact (show _ from (K_pair hK0 (K_pair hK1 (K_pair hK2 (K_last hK3 (by omega))))))
theorem opens_S40 : Opens Try.prog k40 40 (fun x => ((Lit.int .i64 x.f0).wf = true) ∧ (((Lit.int .i64 x.f1.f0).wf = true) ∧ (x.f1.f1.length * 16 ≤ 140737488351232 ∧ ∀ y ∈ x.f1.f1, y.size ≤ 140737488351232) ∧ ((Lit.int .i64 x.f1.f2).wf = true) ∧ (x.f1.f3.size ≤ 140737488351232)) ∧ (x.f2.length * 8 ≤ 140737488351232 ∧ ∀ y ∈ x.f2, (Lit.int .i64 y).wf = true)) := by
  intro H enc W fuel cs x h hs
  obtain ⟨xs, n, _, rfl, hl, hlen, hf⟩ := DataW.trod_struct Try.underlying40 h
  have hl' : cs.length = 6 := hl.trans (by kernel_rfl)
  obtain ⟨a0, hK0, hW0⟩ := field_open Try.underlying40 (opens_int (k := .i64) Try.underlying3) hlen hf 0 rfl rfl hs
  have z0 : Try.prog.cellsOf 3 = 1 := by kernel_rfl
  replace hK0 : ((Kd.int .i64)).K W a0 ((cs.drop 0).take (Try.prog.cellsOf 3)) := hK0
  rw [z0] at hK0
  replace hK0 : ((Kd.int .i64)).K W a0 ((cs.drop 0).take 1) := hK0
  obtain ⟨a1, hK1, hW1⟩ := field_open Try.underlying40 opens_S29 hlen hf 1 rfl rfl hs
  have z1 : Try.prog.cellsOf 29 = 4 := by kernel_rfl
  replace hK1 : (k29).K W a1 ((cs.drop 1).take (Try.prog.cellsOf 29)) := hK1
  rw [z1] at hK1
  replace hK1 : (k29).K W a1 ((cs.drop 1).take 4) := hK1
  obtain ⟨a2, hK2, hW2⟩ := field_open Try.underlying40 (opens_slice (t := 38) (e := 3) (d := (Kd.int .i64)) (B := 8) Try.underlying38 (by kernel_rfl) (by kernel_rfl) (opens_int (k := .i64) Try.underlying3)) hlen hf 2 rfl rfl hs
  have z2 : Try.prog.cellsOf 38 = 1 := by kernel_rfl
  replace hK2 : ((Kd.slice 3 (Kd.int .i64))).K W a2 ((cs.drop 5).take (Try.prog.cellsOf 38)) := hK2
  rw [z2] at hK2
  replace hK2 : ((Kd.slice 3 (Kd.int .i64))).K W a2 ((cs.drop 5).take 1) := hK2
  refine ⟨⟨a0, a1, a2⟩, ?_, ⟨hW0, hW1, hW2⟩⟩
  exact (show _ from (K_pair hK0 (K_pair hK1 (K_last hK2 (by omega)))))
set_option maxRecDepth 100000 in
theorem lifted (os : Os) (started : os.Started) (H : Type) (enc : TypeId × Value → H) :
    ReturnsInHanded {} Try.checked os 5 .any (Rows.schedPlaysSpec.pre6 enc Try.prog Try.f5 Rows.schedPlaysRow.domain false) (Rows.schedPlaysSpec.post enc Try.prog Try.f5 false true false false) := by
  refine returnsInHanded_of_change_sized (C := Try.checked) own started (by kernel_rfl) Try.func5
    (ChangeSpec.witness6 (enc := enc) (C := Try.checked) false ⟨#[], #[.slice none 0 0], []⟩ 8 (by kernel_rfl) (by kernel_rfl) (by kernel_rfl) (by kernel_rfl)) ?_
  intro W base args ds gs before hval0 hW hcnd hsz0 _
  have hsz : (DataW.weightsEach Try.prog (Try.f5.params.toList ++ Rows.schedPlaysSpec.plain.varTypes Try.prog) (ds ++ gs)).all (· ≤ reachBytes) = true := hsz0
  have hval : ∀ (j : Nat) t v, Try.f5.params[j]? = some t → args[j]? = some v → Value.okWide Try.prog W .any base t v := hval0
  have hW' := hW
  obtain ⟨p, q, hA0, hV, rfl, hfz, hnd⟩ := hW
  have hA : DataW.TrodAll enc Try.prog W 0 (fun _ => true) true Try.f5.params.toList args.toList ds p := hA0
  rw [Try.params5] at hA hval hsz
  obtain ⟨v0, vs0, d0, ds0, p0, q0, hargs, rfl, rfl, h0, r0⟩ := trodAll_cons hA
  obtain ⟨rfl, rfl, rfl⟩ := trodAll_nil r0
  obtain rfl : args = #[v0] := by cases args; simp_all
  obtain ⟨rfl, rfl⟩ := trodVars_none hV
  have k0 := h0
  have lt0 : ∀ x ∈ p0, x.block < W.heap.size := by obtain ⟨m, hm⟩ := k0; exact DataW.trod_lt m _ _ _ hm
  obtain ⟨z0, e0, w0⟩ := arg_open (opens_slice (t := 41) (e := 40) (d := k40) (B := 88) Try.underlying41 (by kernel_rfl) (by kernel_rfl) opens_S40) hsz (j := 0) rfl rfl h0
  obtain ⟨cs0, hcs0, e0⟩ : ∃ cs, v0.cells.toList = cs ∧ (Kd.slice 40 k40).K W z0 cs := ⟨_, rfl, e0⟩
  obtain ⟨Az0, cz0, rfl, hcz0, hrz0⟩ := e0
  obtain rfl := one_slice Try.underlying41 (hval 0 41 v0 rfl rfl) hcs0
  clear hA0 hval0 hsz0 hsz
  obtain ⟨k, hk⟩ := (Pure.SchedPlays z0 w0)
  refine (mewslaw44_SchedPlays.calls k _ _ z0 true W hrz0 hcz0 ⟨rfl⟩ hk).mono fun e W' he => ?_
  obtain ⟨rfl, bel0⟩ := he
  have bel : Below W.heap.size W W' := bel0
  exact ⟨_, rfl, _, _, _, [], _, [], hW', trodAll_mk1 (shut_bool Try.underlying4 _), (trodAll_cons_mk (Below.trod laidOut (by kernel_rfl) (of_decide_eq_true (by kernel_rfl)) k0 bel lt0) trodAll_mk0), rfl, bel.frame _, fun h => by cases h⟩
theorem over : Rows.schedPlaysRow.holds Try.pinned (OpenSpec.ofChange Rows.schedPlaysSpec) :=
  OpenClaim.holds_of_wide 5 Try.f5 rfl rfl rfl rfl rfl rfl rfl ⟨rfl, rfl, rfl, rfl, rfl⟩ rfl rfl rfl rfl rfl (by kernel_rfl) Try.func5 (by kernel_rfl)
    (of_decide_eq_true (by kernel_rfl)) (by unfold Func.isWrapper; first | (rw [if_pos (by decide +kernel)]; kernel_rfl) | (rw [if_neg (by decide +kernel)]; exact ⟨rfl, rfl⟩))
    (fun os started H enc _ => lifted os started H enc)
theorem proved : Rows.SchedPlaysSaid := over
#print axioms proved
end Go.Proofs.Ytnegagkjhnpgmaa.schedPlays
namespace Go.Proofs.Ytnegagkjhnpgmaa
/-- The row, under a short name, for the claim. -/
theorem schedPlays_holds : Rows.SchedPlaysSaid := schedPlays.proved
end Go.Proofs.Ytnegagkjhnpgmaa
