-- Written by wip/tool/xprint.py of this work (a front end of its own to the kit's printer): the functions of the seat Ytglkfoldhobflaa as plain Lean functions, and what the Go code's calls come to. Lean checks it.
import Derived.Test.YtglkfoldhobflaaLaw09d
import Derived.Test.YtglkfoldhobflaaYOpens
import Derived.OpenShut
namespace Go.Proofs.Ytglkfoldhobflaa.X
open Go.RowKit Go.Proofs.Ytglkfoldhobflaa.X Go.Proofs.YtglkfoldhobflaaW.PrintWords Go.Proofs.YtglkfoldhobflaaW.PrintLast Go.Proofs.YtglkfoldhobflaaW.PrintMore Go.Proofs.Ytglkfoldhobflaa.Y
set_option linter.unusedVariables false
/-- The pure statement of DequeNobody. -/
def mewslaw09_DequeNobody.PureX : Prop := ∀ (a0 : S29), (((Lit.int .i64 a0.f0).wf = true) ∧ ((Lit.int .i64 a0.f1).wf = true) ∧ ((Lit.int .i64 a0.f2).wf = true)) → ∃ k, mewslaw09_DequeNobody.f k a0.f0 a0.f1 a0.f2 = some true
end Go.Proofs.Ytglkfoldhobflaa.X
