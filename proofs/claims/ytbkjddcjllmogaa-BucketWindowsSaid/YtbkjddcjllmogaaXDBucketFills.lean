-- Written by wip/tool/xprint.py of this work (a front end of its own to the kit's printer): the functions of the seat Ytbkjddcjllmogaa as plain Lean functions, and what the Go code's calls come to. Lean checks it.
import Derived.Test.YtbkjddcjllmogaaX5
import Derived.Test.YtbkjddcjllmogaaYOpens
import Derived.OpenShut
namespace Go.Proofs.Ytbkjddcjllmogaa.X
open Go.RowKit Go.Proofs.Ytbkjddcjllmogaa.X Go.Proofs.YtbkjddcjllmogaaW.PrintWords Go.Proofs.YtbkjddcjllmogaaW.PrintLast Go.Proofs.YtbkjddcjllmogaaW.PrintMore Go.Proofs.Ytbkjddcjllmogaa.Y
set_option linter.unusedVariables false
/-- The pure statement of BucketFills. -/
def mewslaw41_BucketFills.PureX : Prop := ∀ (a0 : S23) (a1 : S24) (a2 : Int), (((Lit.int .i64 a0.f0).wf = true) ∧ ((Lit.int .i64 a0.f1).wf = true)) → (((Lit.int .i64 a1.f0).wf = true) ∧ ((Lit.int .i64 a1.f1).wf = true)) → ((Lit.int .i64 a2).wf = true) → ∃ k, mewslaw41_BucketFills.f k a0.f0 a0.f1 a1.f0 a1.f1 a2 = some true
end Go.Proofs.Ytbkjddcjllmogaa.X
