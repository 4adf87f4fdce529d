-- Written by wip/tool/xprint.py of this work (a front end of its own to the kit's printer): the functions of the seat Ytnegagkjhnpgmaa as plain Lean functions, and what the Go code's calls come to. Lean checks it.
import Derived.Test.YtnegagkjhnpgmaaRows
import Derived.Test.YtnegagkjhnpgmaaXDSchedRounds
import Derived.Test.YtnegagkjhnpgmaaPureSchedRounds
import Derived.WalkKit
import Derived.ProofKit
import Derived.OpenShut
import Derived.ShutString
import Derived.ChangeOld
import Derived.Below
import Derived.SizedLaws
namespace Go.Proofs.Ytnegagkjhnpgmaa.schedRounds
open Go.ChangeShapes Go.WideShapes Go.ChangeAt Go.RowKit Go.Proofs.Ytnegagkjhnpgmaa.X Go.Proofs.YtnegagkjhnpgmaaW.PrintWords Go.Proofs.YtnegagkjhnpgmaaW.PrintLast Go.Proofs.YtnegagkjhnpgmaaW.PrintMore Go.Proofs.Ytnegagkjhnpgmaa.Y
open Go.ChangeMaps (open_string shut_string)
set_option linter.unusedVariables false
theorem own : ownKnob Try.prog.godebug = none := by kernel_rfl
theorem laidOut : laidOutB Try.prog = true := by kernel_rfl
theorem opens_S29 : Opens Try.prog k29 29 (fun x => ((Lit.int .i64 x.f0).wf = true) ∧ (x.f1.length * 16 ≤ 140737488351232 ∧ ∀ y ∈ x.f1, y.size ≤ 140737488351232) ∧ ((Lit.int .i64 x.f2).wf = true) ∧ (x.f3.size ≤ 140737488351232)) := by
  intro H enc W fuel cs x h hs
  obtain ⟨xs, n, _, rfl, hl, hlen, hf⟩ := DataW.trod_struct Try.underlying29 h
  have hl' : cs.length = 4 := hl.trans (by kernel_rfl)
  obtain ⟨a0, hK0, hW0⟩ := field_open Try.underlying29 (opens_int (k := .i64) Try.underlying3) hlen hf 0 rfl rfl hs
  have z0 : Try.prog.cellsOf 3 = 1 := by kernel_rfl
  replace hK0 : ((Kd.int .i64)).K W a0 ((cs.drop 0).take (Try.prog.cellsOf 3)) := hK0
  rw [z0] at hK0
  replace hK0 : ((Kd.int .i64)).K W a0 ((cs.drop 0).take 1) := hK0
  obtain ⟨a1, hK1, hW1⟩ := field_open Try.underlying29 (opens_slice (t := 27) (e := 9) (d := Kd.string) (B := 16) Try.underlying27 (by kernel_rfl) (by kernel_rfl) (opens_string Try.underlying9)) hlen hf 1 rfl rfl hs
  have z1 : Try.prog.cellsOf 27 = 1 := by kernel_rfl
  replace hK1 : ((Kd.slice 9 Kd.string)).K W a1 ((cs.drop 1).take (Try.prog.cellsOf 27)) := hK1
  rw [z1] at hK1
  replace hK1 : ((Kd.slice 9 Kd.string)).K W a1 ((cs.drop 1).take 1) := hK1
  obtain ⟨a2, hK2, hW2⟩ := field_open Try.underlying29 (opens_int (k := .i64) Try.underlying3) hlen hf 2 rfl rfl hs
  have z2 : Try.prog.cellsOf 3 = 1 := by kernel_rfl
  replace hK2 : ((Kd.int .i64)).K W a2 ((cs.drop 2).take (Try.prog.cellsOf 3)) := hK2
  rw [z2] at hK2
  replace hK2 : ((Kd.int .i64)).K W a2 ((cs.drop 2).take 1) := hK2
  obtain ⟨a3, hK3, hW3⟩ := field_open Try.underlying29 (opens_string Try.underlying9) hlen hf 3 rfl rfl hs
  have z3 : Try.prog.cellsOf 9 = 1 := by kernel_rfl
  replace hK3 : (Kd.string).K W a3 ((cs.drop 3).take (Try.prog.cellsOf 9)) := hK3
  rw [z3] at hK3
  replace hK3 : (Kd.string).K W a3 ((cs.drop 3).take 1) := hK3
  refine ⟨⟨a0, a1, a2, a3⟩, ?_, ⟨hW0, hW1, hW2, hW3⟩⟩
  exact (show _ from (K_pair hK0 (K_pair hK1 (K_pair hK2 (K_last hK3 (by omega))))))
set_option maxRecDepth 100000 in
theorem lifted (os : Os) (started : os.Started) (H : Type) (enc : TypeId × Value → H) :
    ReturnsInHanded {} Try.checked os 4 .any (Rows.schedRoundsSpec.pre6 enc Try.prog Try.f4 Rows.schedRoundsRow.domain false) (Rows.schedRoundsSpec.post enc Try.prog Try.f4 false true false false) := by
  refine returnsInHanded_of_change_sized (C := Try.checked) own started (by kernel_rfl) Try.func4
    (ChangeSpec.witness6 (enc := enc) (C := Try.checked) false ⟨#[], #[.int .u8 0, .int .i64 0, .slice none 0 0], []⟩ 8 (by kernel_rfl) (by kernel_rfl) (by kernel_rfl) (by kernel_rfl)) ?_
  intro W base args ds gs before hval0 hW hcnd hsz0 _
  have hsz : (DataW.weightsEach Try.prog (Try.f4.params.toList ++ Rows.schedRoundsSpec.plain.varTypes Try.prog) (ds ++ gs)).all (· ≤ reachBytes) = true := hsz0
  have hval : ∀ (j : Nat) t v, Try.f4.params[j]? = some t → args[j]? = some v → Value.okWide Try.prog W .any base t v := hval0
  have hW' := hW
  obtain ⟨p, q, hA0, hV, rfl, hfz, hnd⟩ := hW
  have hA : DataW.TrodAll enc Try.prog W 0 (fun _ => true) true Try.f4.params.toList args.toList ds p := hA0
  rw [Try.params4] at hA hval hsz
  obtain ⟨v0, vs0, d0, ds0, p0, q0, hargs, rfl, rfl, h0, r0⟩ := trodAll_cons hA
  obtain ⟨v1, vs1, d1, ds1, p1, q1, rfl, rfl, rfl, h1, r1⟩ := trodAll_cons r0
  obtain ⟨v2, vs2, d2, ds2, p2, q2, rfl, rfl, rfl, h2, r2⟩ := trodAll_cons r1
  obtain ⟨rfl, rfl, rfl⟩ := trodAll_nil r2
  obtain rfl : args = #[v0, v1, v2] := by cases args; simp_all
  obtain ⟨rfl, rfl⟩ := trodVars_none hV
  have k0 := h0
  have lt0 : ∀ x ∈ p0, x.block < W.heap.size := by obtain ⟨m, hm⟩ := k0; exact DataW.trod_lt m _ _ _ hm
  obtain ⟨z0, e0, w0⟩ := arg_open (opens_int (k := .u8) Try.underlying5) hsz (j := 0) rfl rfl h0
  obtain ⟨cs0, hcs0, e0⟩ : ∃ cs, v0.cells.toList = cs ∧ (Kd.int .u8).K W z0 cs := ⟨_, rfl, e0⟩
  obtain rfl := e0
  obtain rfl := one_int Try.underlying5 (hval 0 5 v0 rfl rfl) hcs0
  have k1 := h1
  have lt1 : ∀ x ∈ p1, x.block < W.heap.size := by obtain ⟨m, hm⟩ := k1; exact DataW.trod_lt m _ _ _ hm
  obtain ⟨z1, e1, w1⟩ := arg_open (opens_int (k := .i64) Try.underlying3) hsz (j := 1) rfl rfl h1
  obtain ⟨cs1, hcs1, e1⟩ : ∃ cs, v1.cells.toList = cs ∧ (Kd.int .i64).K W z1 cs := ⟨_, rfl, e1⟩
  obtain rfl := e1
  obtain rfl := one_int Try.underlying3 (hval 1 3 v1 rfl rfl) hcs1
  have k2 := h2
  have lt2 : ∀ x ∈ p2, x.block < W.heap.size := by obtain ⟨m, hm⟩ := k2; exact DataW.trod_lt m _ _ _ hm
  obtain ⟨z2, e2, w2⟩ := arg_open (opens_slice (t := 36) (e := 29) (d := k29) (B := 56) Try.underlying36 (by kernel_rfl) (by kernel_rfl) opens_S29) hsz (j := 2) rfl rfl h2
  obtain ⟨cs2, hcs2, e2⟩ : ∃ cs, v2.cells.toList = cs ∧ (Kd.slice 29 k29).K W z2 cs := ⟨_, rfl, e2⟩
  obtain ⟨Az2, cz2, rfl, hcz2, hrz2⟩ := e2
  obtain rfl := one_slice Try.underlying36 (hval 2 36 v2 rfl rfl) hcs2
  clear hA0 hval0 hsz0 hsz
  obtain ⟨k, hk⟩ := (Pure.SchedRounds z0 z1 z2 w0 w1 w2)
  refine (mewslaw44_SchedRounds.calls k z0 z1 _ _ z2 true W hrz2 hcz2 ⟨rfl⟩ hk).mono fun e W' he => ?_
  obtain ⟨rfl, bel0⟩ := he
  have bel : Below W.heap.size W W' := bel0
  exact ⟨_, rfl, _, _, _, [], _, [], hW', trodAll_mk1 (shut_bool Try.underlying4 _), (trodAll_cons_mk (Below.trod laidOut (by kernel_rfl) (of_decide_eq_true (by kernel_rfl)) k0 bel lt0) (trodAll_cons_mk (Below.trod laidOut (by kernel_rfl) (of_decide_eq_true (by kernel_rfl)) k1 bel lt1) (trodAll_cons_mk (Below.trod laidOut (by kernel_rfl) (of_decide_eq_true (by kernel_rfl)) k2 bel lt2) trodAll_mk0))), rfl, bel.frame _, fun h => by cases h⟩
theorem over : Rows.schedRoundsRow.holds Try.pinned (OpenSpec.ofChange Rows.schedRoundsSpec) :=
  OpenClaim.holds_of_wide 4 Try.f4 rfl rfl rfl rfl rfl rfl rfl ⟨rfl, rfl, rfl, rfl, rfl⟩ rfl rfl rfl rfl rfl (by kernel_rfl) Try.func4 (by kernel_rfl)
    (of_decide_eq_true (by kernel_rfl)) (by unfold Func.isWrapper; first | (rw [if_pos (by decide +kernel)]; kernel_rfl) | (rw [if_neg (by decide +kernel)]; exact ⟨rfl, rfl⟩))
    (fun os started H enc _ => lifted os started H enc)
theorem proved : Rows.SchedRoundsSaid := over
#print axioms proved
end Go.Proofs.Ytnegagkjhnpgmaa.schedRounds
namespace Go.Proofs.Ytnegagkjhnpgmaa
/-- The row, under a short name, for the claim. -/
theorem schedRounds_holds : Rows.SchedRoundsSaid := schedRounds.proved
end Go.Proofs.Ytnegagkjhnpgmaa
