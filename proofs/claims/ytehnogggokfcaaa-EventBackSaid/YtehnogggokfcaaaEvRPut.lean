/- The document's line of an event (mewsref47.Put); both answers on any event. -/
import Derived.Test.YtehnogggokfcaaaEvRTake
import Derived.Test.YtehnogggokfcaaaEvTold
namespace Go.Proofs.Ytehnogggokfcaaa.Ev
open Go.RowKit Go.Proofs.YtehnogggokfcaaaW.PrintWords Go.Proofs.YtehnogggokfcaaaW.PrintMore Go.Proofs.YtehnogggokfcaaaW.PrintLast Go.Proofs.Ytehnogggokfcaaa.Y Go.Proofs.Ytehnogggokfcaaa.X Go.Proofs.Ytehnogggokfcaaa.Pure Go.Proofs.Ytehnogggokfcaaa.LM
set_option linter.unusedVariables false
set_option linter.unusedSimpArgs false
attribute [local go_sem ↓] Go.wp_at_zero Go.wp_at_succ
noncomputable section
/-- What both Puts come to, on any event. -/
def putS (x : S26) : ByteArray × Int := if 1 ≤ x.f0 ∧ x.f0 ≤ 8 then putP x.f0.toNat x else (⟨#[]⟩, 1)
theorem put_calls (x : S26) (hi : In x) (hs : Sm x) (A : Option Addr) (c : Nat) (w : World) (hc : x.f6.length ≤ c) (hC : Kd.C k43 w A x.f6.length x.f6) : Calls Try.prog 8 #[.agg (ecL (ecOf x A c))] w fun e w' => e = .returned (.tuple #[.string (putS x).1, .int .i64 (putS x).2]) ∧ Below w.heap.size w w' := by
  by_cases h : 1 ≤ x.f0 ∧ x.f0 ≤ 8
  · unfold putS; rw [if_pos h]
    exact put_kind x x.f0.toNat (by omega) (by omega) (by omega) hi hs A c w hc hC _ rfl
  · unfold putS; rw [if_neg h]
    exact put_bad x x.f0 rfl (by omega) A c w
end
end Go.Proofs.Ytehnogggokfcaaa.Ev
