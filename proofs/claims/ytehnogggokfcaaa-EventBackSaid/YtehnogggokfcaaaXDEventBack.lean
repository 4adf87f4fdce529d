-- Written by wip/tool/xprint.py of this work (a front end of its own to the kit's printer): the functions of the seat Ytehnogggokfcaaa as plain Lean functions, and what the Go code's calls come to. Lean checks it.
import Derived.Test.YtehnogggokfcaaaLaw47c
import Derived.Test.YtehnogggokfcaaaYOpens
import Derived.OpenShut
namespace Go.Proofs.Ytehnogggokfcaaa.X
open Go.RowKit Go.Proofs.Ytehnogggokfcaaa.X Go.Proofs.YtehnogggokfcaaaW.PrintWords Go.Proofs.YtehnogggokfcaaaW.PrintLast Go.Proofs.YtehnogggokfcaaaW.PrintMore Go.Proofs.Ytehnogggokfcaaa.Y
set_option linter.unusedVariables false
/-- The pure statement of EventBack. -/
def mewslaw47_EventBack.PureX : Prop := ∀ (a0 : S26) (a1 : ByteArray), (((Lit.int .i64 a0.f0).wf = true) ∧ ((Lit.int .i64 a0.f1).wf = true) ∧ (a0.f2.size ≤ 140737488351232) ∧ ((Lit.int .i64 a0.f3).wf = true) ∧ ((Lit.int .i64 a0.f4).wf = true) ∧ ((a0.f5.f0.size ≤ 140737488351232) ∧ ((Lit.int .i64 a0.f5.f1).wf = true) ∧ ((Lit.int .i64 a0.f5.f2).wf = true)) ∧ (a0.f6.length * 32 ≤ 140737488351232 ∧ ∀ x ∈ a0.f6, ((Lit.int .i64 x.f0).wf = true) ∧ ((x.f1.f0.size ≤ 140737488351232) ∧ ((Lit.int .i64 x.f1.f1).wf = true)))) → (a1.size ≤ 140737488351232) → ∃ k, mewslaw47_EventBack.f k a0.f0 a0.f1 a0.f2 a0.f3 a0.f4 a0.f5.f0 a0.f5.f1 a0.f5.f2 a0.f6 a1 = some true
end Go.Proofs.Ytehnogggokfcaaa.X
