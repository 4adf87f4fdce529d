-- Written by wip/tool/xprint.py of this work (a front end of its own to the kit's printer): the functions of the seat Ytglkfoldhobflaa as plain Lean functions, and what the Go code's calls come to. Lean checks it.
import Derived.Test.YtglkfoldhobflaaLaw09c
import Derived.Test.YtglkfoldhobflaaYOpens
import Derived.OpenShut
namespace Go.Proofs.Ytglkfoldhobflaa.X
open Go.RowKit Go.Proofs.Ytglkfoldhobflaa.X Go.Proofs.YtglkfoldhobflaaW.PrintWords Go.Proofs.YtglkfoldhobflaaW.PrintLast Go.Proofs.YtglkfoldhobflaaW.PrintMore Go.Proofs.Ytglkfoldhobflaa.Y
set_option linter.unusedVariables false
/-- The pure statement of DequeTurned. -/
def mewslaw09_DequeTurned.PureX : Prop := ∀ (l0 : List Int) (l1 : List (S29)), (l0.length * 8 ≤ 140737488351232 ∧ ∀ x ∈ l0, (Lit.int .i64 x).wf = true) → (l1.length * 24 ≤ 140737488351232 ∧ ∀ x ∈ l1, ((Lit.int .i64 x.f0).wf = true) ∧ ((Lit.int .i64 x.f1).wf = true) ∧ ((Lit.int .i64 x.f2).wf = true)) → ∃ k, mewslaw09_DequeTurned.f k l0 l1 = some true
end Go.Proofs.Ytglkfoldhobflaa.X
