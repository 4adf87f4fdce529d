-- Written by wip/tool/xprint.py of this work (a front end of its own to the kit's printer): the functions of the seat Ytbficlkjlhigjaa as plain Lean functions, and what the Go code's calls come to. Lean checks it.
import Derived.Test.YtbficlkjlhigjaaRows
import Derived.Test.YtbficlkjlhigjaaXDListBeside
import Derived.Test.YtbficlkjlhigjaaPureListBeside
import Derived.WalkKit
import Derived.ProofKit
import Derived.OpenShut
import Derived.ShutString
import Derived.ChangeOld
import Derived.Below
import Derived.SizedLaws
namespace Go.Proofs.Ytbficlkjlhigjaa.listBeside
open Go.ChangeShapes Go.WideShapes Go.ChangeAt Go.RowKit Go.Proofs.Ytbficlkjlhigjaa.X Go.Proofs.YtbficlkjlhigjaaW.PrintWords Go.Proofs.YtbficlkjlhigjaaW.PrintLast Go.Proofs.YtbficlkjlhigjaaW.PrintMore Go.Proofs.Ytbficlkjlhigjaa.Y
open Go.ChangeMaps (open_string shut_string)
set_option linter.unusedVariables false
theorem own : ownKnob Try.prog.godebug = none := by kernel_rfl
theorem laidOut : laidOutB Try.prog = true := by kernel_rfl
theorem opens_S45 : Opens Try.prog k45 45 (fun x => (x.f0.size ≤ 140737488351232) ∧ (x.f1.size ≤ 140737488351232)) := by
  intro H enc W fuel cs x h hs
  obtain ⟨xs, n, _, rfl, hl, hlen, hf⟩ := DataW.trod_array Try.underlying45 h
  have hl' : cs.length = 2 := hl.trans (by kernel_rfl)
  obtain ⟨a0, hK0, hW0⟩ := item_open Try.underlying45 (opens_string Try.underlying9) hlen hf 0 (by decide) hs
  have z0 : Try.prog.cellsOf 9 = 1 := by kernel_rfl
  replace hK0 : (Kd.string).K W a0 ((cs.drop (0 * Try.prog.cellsOf 9)).take (Try.prog.cellsOf 9)) := hK0
  rw [z0] at hK0
  replace hK0 : (Kd.string).K W a0 ((cs.drop 0).take 1) := hK0
  obtain ⟨a1, hK1, hW1⟩ := item_open Try.underlying45 (opens_string Try.underlying9) hlen hf 1 (by decide) hs
  have z1 : Try.prog.cellsOf 9 = 1 := by kernel_rfl
  replace hK1 : (Kd.string).K W a1 ((cs.drop (1 * Try.prog.cellsOf 9)).take (Try.prog.cellsOf 9)) := hK1
  rw [z1] at hK1
  replace hK1 : (Kd.string).K W a1 ((cs.drop 1).take 1) := hK1
  refine ⟨⟨a0, a1⟩, ?_, ⟨hW0, hW1⟩⟩
  exact (show _ from (K_pair hK0 (K_last hK1 (by omega))))
set_option maxRecDepth 100000 in
theorem lifted (os : Os) (started : os.Started) (H : Type) (enc : TypeId × Value → H) :
    ReturnsInHanded {} Try.checked os 7 .any (Rows.listBesideSpec.pre6 enc Try.prog Try.f7 Rows.listBesideRow.domain false) (Rows.listBesideSpec.post enc Try.prog Try.f7 false true false false) := by
  refine returnsInHanded_of_change_sized (C := Try.checked) own started (by kernel_rfl) Try.func7
    (ChangeSpec.witness6 (enc := enc) (C := Try.checked) false ⟨#[], #[.slice none 0 0, .bool false, .agg #[.string ByteArray.empty, .string ByteArray.empty]], []⟩ 8 (by kernel_rfl) (by kernel_rfl) (by kernel_rfl) (by kernel_rfl)) ?_
  intro W base args ds gs before hval0 hW hcnd hsz0 _
  have hsz : (DataW.weightsEach Try.prog (Try.f7.params.toList ++ Rows.listBesideSpec.plain.varTypes Try.prog) (ds ++ gs)).all (· ≤ reachBytes) = true := hsz0
  have hval : ∀ (j : Nat) t v, Try.f7.params[j]? = some t → args[j]? = some v → Value.okWide Try.prog W .any base t v := hval0
  have hW' := hW
  obtain ⟨p, q, hA0, hV, rfl, hfz, hnd⟩ := hW
  have hA : DataW.TrodAll enc Try.prog W 0 (fun _ => true) true Try.f7.params.toList args.toList ds p := hA0
  rw [Try.params7] at hA hval hsz
  obtain ⟨v0, vs0, d0, ds0, p0, q0, hargs, rfl, rfl, h0, r0⟩ := trodAll_cons hA
  obtain ⟨v1, vs1, d1, ds1, p1, q1, rfl, rfl, rfl, h1, r1⟩ := trodAll_cons r0
  obtain ⟨v2, vs2, d2, ds2, p2, q2, rfl, rfl, rfl, h2, r2⟩ := trodAll_cons r1
  obtain ⟨rfl, rfl, rfl⟩ := trodAll_nil r2
  obtain rfl : args = #[v0, v1, v2] := by cases args; simp_all
  obtain ⟨rfl, rfl⟩ := trodVars_none hV
  have k0 := h0
  have lt0 : ∀ x ∈ p0, x.block < W.heap.size := by obtain ⟨m, hm⟩ := k0; exact DataW.trod_lt m _ _ _ hm
  obtain ⟨z0, e0, w0⟩ := arg_open (opens_slice (t := 22) (e := 9) (d := Kd.string) (B := 16) Try.underlying22 (by kernel_rfl) (by kernel_rfl) (opens_string Try.underlying9)) hsz (j := 0) rfl rfl h0
  obtain ⟨cs0, hcs0, e0⟩ : ∃ cs, v0.cells.toList = cs ∧ (Kd.slice 9 Kd.string).K W z0 cs := ⟨_, rfl, e0⟩
  obtain ⟨Az0, cz0, rfl, hcz0, hrz0⟩ := e0
  obtain rfl := one_slice Try.underlying22 (hval 0 22 v0 rfl rfl) hcs0
  have k1 := h1
  have lt1 : ∀ x ∈ p1, x.block < W.heap.size := by obtain ⟨m, hm⟩ := k1; exact DataW.trod_lt m _ _ _ hm
  obtain ⟨z1, e1, w1⟩ := arg_open (opens_bool Try.underlying4) hsz (j := 1) rfl rfl h1
  obtain ⟨cs1, hcs1, e1⟩ : ∃ cs, v1.cells.toList = cs ∧ Kd.bool.K W z1 cs := ⟨_, rfl, e1⟩
  obtain rfl := e1
  obtain rfl := one_bool Try.underlying4 (hval 1 4 v1 rfl rfl) hcs1
  have k2 := h2
  have lt2 : ∀ x ∈ p2, x.block < W.heap.size := by obtain ⟨m, hm⟩ := k2; exact DataW.trod_lt m _ _ _ hm
  obtain ⟨z2, e2, w2⟩ := arg_open opens_S45 hsz (j := 2) rfl rfl h2
  obtain ⟨cs2, hcs2, e2⟩ : ∃ cs, v2.cells.toList = cs ∧ k45.K W z2 cs := ⟨_, rfl, e2⟩
  obtain ⟨_, _, rfl, rfl, rfl⟩ := e2
  obtain ⟨ar2, rfl, _⟩ := okWide_arr Try.underlying45 (hval 2 45 v2 rfl rfl)
  obtain rfl := agg_of hcs2
  clear hA0 hval0 hsz0 hsz
  obtain ⟨k, hk⟩ := (Pure.ListBeside z0 z1 z2 w0 w2)
  refine (mewslaw21_ListBeside.calls k _ _ z0 z1 z2.f0 z2.f1 true W hrz0 hcz0 ⟨rfl⟩ hk).mono fun e W' he => ?_
  obtain ⟨rfl, bel0⟩ := he
  have bel : Below W.heap.size W W' := bel0
  exact ⟨_, rfl, _, _, _, [], _, [], hW', trodAll_mk1 (shut_bool Try.underlying4 _), (trodAll_cons_mk (Below.trod laidOut (by kernel_rfl) (of_decide_eq_true (by kernel_rfl)) k0 bel lt0) (trodAll_cons_mk (Below.trod laidOut (by kernel_rfl) (of_decide_eq_true (by kernel_rfl)) k1 bel lt1) (trodAll_cons_mk (Below.trod laidOut (by kernel_rfl) (of_decide_eq_true (by kernel_rfl)) k2 bel lt2) trodAll_mk0))), rfl, bel.frame _, fun h => by cases h⟩
theorem over : Rows.listBesideRow.holds Try.pinned (OpenSpec.ofChange Rows.listBesideSpec) :=
  OpenClaim.holds_of_wide 7 Try.f7 rfl rfl rfl rfl rfl rfl rfl ⟨rfl, rfl, rfl, rfl, rfl⟩ rfl rfl rfl rfl rfl (by kernel_rfl) Try.func7 (by kernel_rfl)
    (of_decide_eq_true (by kernel_rfl)) (by unfold Func.isWrapper; first | (rw [if_pos (by decide +kernel)]; kernel_rfl) | (rw [if_neg (by decide +kernel)]; exact ⟨rfl, rfl⟩))
    (fun os started H enc _ => lifted os started H enc)
theorem proved : Rows.ListBesideSaid := over
#print axioms proved
end Go.Proofs.Ytbficlkjlhigjaa.listBeside
namespace Go.Proofs.Ytbficlkjlhigjaa
/-- The row, under a short name, for the claim. -/
theorem listBeside_holds : Rows.ListBesideSaid := listBeside.proved
end Go.Proofs.Ytbficlkjlhigjaa
