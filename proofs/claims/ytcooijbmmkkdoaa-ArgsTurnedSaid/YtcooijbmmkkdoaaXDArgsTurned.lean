-- Written by wip/tool/xprint.py of this work (a front end of its own to the kit's printer): the functions of the seat Ytcooijbmmkkdoaa as plain Lean functions, and what the Go code's calls come to. Lean checks it.
import Derived.Test.YtcooijbmmkkdoaaLaw29
import Derived.Test.YtcooijbmmkkdoaaYOpens
import Derived.OpenShut
namespace Go.Proofs.Ytcooijbmmkkdoaa.X
open Go.RowKit Go.Proofs.Ytcooijbmmkkdoaa.X Go.Proofs.YtcooijbmmkkdoaaW.PrintWords Go.Proofs.YtcooijbmmkkdoaaW.PrintLast Go.Proofs.YtcooijbmmkkdoaaW.PrintMore Go.Proofs.Ytcooijbmmkkdoaa.Y
set_option linter.unusedVariables false
/-- The pure statement of ArgsTurned. -/
def mewslaw29_ArgsTurned.PureX : Prop := ∀ (a0 : S33), ((a0.f0.size ≤ 140737488351232) ∧ (a0.f1.size ≤ 140737488351232) ∧ (a0.f2.size ≤ 140737488351232) ∧ ((Lit.int .i64 a0.f3).wf = true)) → ∃ k, mewslaw29_ArgsTurned.f k a0.f0 a0.f1 a0.f2 a0.f3 = some true
end Go.Proofs.Ytcooijbmmkkdoaa.X
