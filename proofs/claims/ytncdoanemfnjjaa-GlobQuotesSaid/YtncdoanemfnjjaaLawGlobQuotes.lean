-- Written by wip/tool/xprint.py of this work (a front end of its own to the kit's printer): the functions of the seat Ytncdoanemfnjjaa as plain Lean functions, and what the Go code's calls come to. Lean checks it.
import Derived.Test.YtncdoanemfnjjaaRows
import Derived.Test.YtncdoanemfnjjaaXDGlobQuotes
import Derived.Test.YtncdoanemfnjjaaPureGlobQuotes
import Derived.WalkKit
import Derived.ProofKit
import Derived.OpenShut
import Derived.ShutString
import Derived.ChangeOld
import Derived.Below
import Derived.SizedLaws
namespace Go.Proofs.Ytncdoanemfnjjaa.globQuotes
open Go.ChangeShapes Go.WideShapes Go.ChangeAt Go.RowKit Go.Proofs.Ytncdoanemfnjjaa.X Go.Proofs.YtncdoanemfnjjaaW.PrintWords Go.Proofs.YtncdoanemfnjjaaW.PrintLast Go.Proofs.YtncdoanemfnjjaaW.PrintMore Go.Proofs.Ytncdoanemfnjjaa.Y
open Go.ChangeMaps (open_string shut_string)
set_option linter.unusedVariables false
theorem own : ownKnob Try.prog.godebug = none := by kernel_rfl
theorem laidOut : laidOutB Try.prog = true := by kernel_rfl
set_option maxRecDepth 100000 in
theorem lifted (os : Os) (started : os.Started) (H : Type) (enc : TypeId × Value → H) :
    ReturnsInHanded {} Try.checked os 6 .any (Rows.globQuotesSpec.pre6 enc Try.prog Try.f6 Rows.globQuotesRow.domain false) (Rows.globQuotesSpec.post enc Try.prog Try.f6 false true false false) := by
  refine returnsInHanded_of_change_sized (C := Try.checked) own started (by kernel_rfl) Try.func6
    (ChangeSpec.witness6 (enc := enc) (C := Try.checked) false ⟨#[], #[.string ByteArray.empty, .slice none 0 0], []⟩ 8 (by kernel_rfl) (by kernel_rfl) (by kernel_rfl) (by kernel_rfl)) ?_
  intro W base args ds gs before hval0 hW hcnd hsz0 _
  have hsz : (DataW.weightsEach Try.prog (Try.f6.params.toList ++ Rows.globQuotesSpec.plain.varTypes Try.prog) (ds ++ gs)).all (· ≤ reachBytes) = true := hsz0
  have hval : ∀ (j : Nat) t v, Try.f6.params[j]? = some t → args[j]? = some v → Value.okWide Try.prog W .any base t v := hval0
  have hW' := hW
  obtain ⟨p, q, hA0, hV, rfl, hfz, hnd⟩ := hW
  have hA : DataW.TrodAll enc Try.prog W 0 (fun _ => true) true Try.f6.params.toList args.toList ds p := hA0
  rw [Try.params6] at hA hval hsz
  obtain ⟨v0, vs0, d0, ds0, p0, q0, hargs, rfl, rfl, h0, r0⟩ := trodAll_cons hA
  obtain ⟨v1, vs1, d1, ds1, p1, q1, rfl, rfl, rfl, h1, r1⟩ := trodAll_cons r0
  obtain ⟨rfl, rfl, rfl⟩ := trodAll_nil r1
  obtain rfl : args = #[v0, v1] := by cases args; simp_all
  obtain ⟨rfl, rfl⟩ := trodVars_none hV
  have k0 := h0
  have lt0 : ∀ x ∈ p0, x.block < W.heap.size := by obtain ⟨m, hm⟩ := k0; exact DataW.trod_lt m _ _ _ hm
  obtain ⟨z0, e0, w0⟩ := arg_open (opens_string Try.underlying9) hsz (j := 0) rfl rfl h0
  obtain ⟨cs0, hcs0, e0⟩ : ∃ cs, v0.cells.toList = cs ∧ Kd.string.K W z0 cs := ⟨_, rfl, e0⟩
  obtain rfl := e0
  obtain rfl := one_string Try.underlying9 (hval 0 9 v0 rfl rfl) hcs0
  have k1 := h1
  have lt1 : ∀ x ∈ p1, x.block < W.heap.size := by obtain ⟨m, hm⟩ := k1; exact DataW.trod_lt m _ _ _ hm
  obtain ⟨z1, e1, w1⟩ := arg_open (opens_slice (t := 29) (e := 9) (d := Kd.string) (B := 16) Try.underlying29 (by kernel_rfl) (by kernel_rfl) (opens_string Try.underlying9)) hsz (j := 1) rfl rfl h1
  obtain ⟨cs1, hcs1, e1⟩ : ∃ cs, v1.cells.toList = cs ∧ (Kd.slice 9 Kd.string).K W z1 cs := ⟨_, rfl, e1⟩
  obtain ⟨Az1, cz1, rfl, hcz1, hrz1⟩ := e1
  obtain rfl := one_slice Try.underlying29 (hval 1 29 v1 rfl rfl) hcs1
  clear hA0 hval0 hsz0 hsz
  obtain ⟨k, hk⟩ := (Pure.GlobQuotes z0 z1 w0 w1)
  refine (mewslaw02_GlobQuotes.calls k z0 _ _ z1 true W hrz1 hcz1 ⟨rfl⟩ hk).mono fun e W' he => ?_
  obtain ⟨rfl, bel0⟩ := he
  have bel : Below W.heap.size W W' := bel0
  exact ⟨_, rfl, _, _, _, [], _, [], hW', trodAll_mk1 (shut_bool Try.underlying4 _), (trodAll_cons_mk (Below.trod laidOut (by kernel_rfl) (of_decide_eq_true (by kernel_rfl)) k0 bel lt0) (trodAll_cons_mk (Below.trod laidOut (by kernel_rfl) (of_decide_eq_true (by kernel_rfl)) k1 bel lt1) trodAll_mk0)), rfl, bel.frame _, fun h => by cases h⟩
theorem over : Rows.globQuotesRow.holds Try.pinned (OpenSpec.ofChange Rows.globQuotesSpec) :=
  OpenClaim.holds_of_wide 6 Try.f6 rfl rfl rfl rfl rfl rfl rfl ⟨rfl, rfl, rfl, rfl, rfl⟩ rfl rfl rfl rfl rfl (by kernel_rfl) Try.func6 (by kernel_rfl)
    (of_decide_eq_true (by kernel_rfl)) (by unfold Func.isWrapper; first | (rw [if_pos (by decide +kernel)]; kernel_rfl) | (rw [if_neg (by decide +kernel)]; exact ⟨rfl, rfl⟩))
    (fun os started H enc _ => lifted os started H enc)
theorem proved : Rows.GlobQuotesSaid := over
#print axioms proved
end Go.Proofs.Ytncdoanemfnjjaa.globQuotes
namespace Go.Proofs.Ytncdoanemfnjjaa
/-- The row, under a short name, for the claim. -/
theorem globQuotes_holds : Rows.GlobQuotesSaid := globQuotes.proved
end Go.Proofs.Ytncdoanemfnjjaa
