import Derived.Test.YtehnogggokfcaaaLaw47a
import Derived.Test.YtehnogggokfcaaaYOpens
import Derived.OpenShut
namespace Go.Proofs.Ytehnogggokfcaaa.X
open Go.RowKit Go.Proofs.Ytehnogggokfcaaa.X Go.Proofs.YtehnogggokfcaaaW.PrintWords Go.Proofs.YtehnogggokfcaaaW.PrintLast Go.Proofs.YtehnogggokfcaaaW.PrintMore Go.Proofs.Ytehnogggokfcaaa.Y
set_option linter.unusedVariables false
def mewslaw47_EventPuts.PureX : Prop := ∀ (a0 : S26) (a1 : S26), (((Lit.int .i64 a0.f0).wf = true) ∧ ((Lit.int .i64 a0.f1).wf = true) ∧ (a0.f2.size ≤ 140737488351232) ∧ ((Lit.int .i64 a0.f3).wf = true) ∧ ((Lit.int .i64 a0.f4).wf = true) ∧ ((a0.f5.f0.size ≤ 140737488351232) ∧ ((Lit.int .i64 a0.f5.f1).wf = true) ∧ ((Lit.int .i64 a0.f5.f2).wf = true)) ∧ (a0.f6.length * 32 ≤ 140737488351232 ∧ ∀ x ∈ a0.f6, ((Lit.int .i64 x.f0).wf = true) ∧ ((x.f1.f0.size ≤ 140737488351232) ∧ ((Lit.int .i64 x.f1.f1).wf = true)))) → (((Lit.int .i64 a1.f0).wf = true) ∧ ((Lit.int .i64 a1.f1).wf = true) ∧ (a1.f2.size ≤ 140737488351232) ∧ ((Lit.int .i64 a1.f3).wf = true) ∧ ((Lit.int .i64 a1.f4).wf = true) ∧ ((a1.f5.f0.size ≤ 140737488351232) ∧ ((Lit.int .i64 a1.f5.f1).wf = true) ∧ ((Lit.int .i64 a1.f5.f2).wf = true)) ∧ (a1.f6.length * 32 ≤ 140737488351232 ∧ ∀ x ∈ a1.f6, ((Lit.int .i64 x.f0).wf = true) ∧ ((x.f1.f0.size ≤ 140737488351232) ∧ ((Lit.int .i64 x.f1.f1).wf = true)))) → ∃ k, mewslaw47_EventPuts.f k a0.f0 a0.f1 a0.f2 a0.f3 a0.f4 a0.f5.f0 a0.f5.f1 a0.f5.f2 a0.f6 a1.f0 a1.f1 a1.f2 a1.f3 a1.f4 a1.f5.f0 a1.f5.f1 a1.f5.f2 a1.f6 = some true
end Go.Proofs.Ytehnogggokfcaaa.X
