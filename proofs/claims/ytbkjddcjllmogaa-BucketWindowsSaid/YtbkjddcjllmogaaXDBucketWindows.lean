-- Written by wip/tool/xprint.py of this work (a front end of its own to the kit's printer): the functions of the seat Ytbkjddcjllmogaa as plain Lean functions, and what the Go code's calls come to. Lean checks it.
import Derived.Test.YtbkjddcjllmogaaX6
import Derived.Test.YtbkjddcjllmogaaYOpens
import Derived.OpenShut
namespace Go.Proofs.Ytbkjddcjllmogaa.X
open Go.RowKit Go.Proofs.Ytbkjddcjllmogaa.X Go.Proofs.YtbkjddcjllmogaaW.PrintWords Go.Proofs.YtbkjddcjllmogaaW.PrintLast Go.Proofs.YtbkjddcjllmogaaW.PrintMore Go.Proofs.Ytbkjddcjllmogaa.Y
set_option linter.unusedVariables false
/-- The pure statement of BucketWindows. -/
def mewslaw41_BucketWindows.PureX : Prop := ∀ (a0 : Int) (a1 : Int) (l2 : List Int), ((Lit.int .u16 a0).wf = true) → ((Lit.int .u16 a1).wf = true) → (l2.length * 2 ≤ 140737488351232 ∧ ∀ x ∈ l2, (Lit.int .u16 x).wf = true) → ∃ k, mewslaw41_BucketWindows.f k a0 a1 l2 = some true
end Go.Proofs.Ytbkjddcjllmogaa.X
