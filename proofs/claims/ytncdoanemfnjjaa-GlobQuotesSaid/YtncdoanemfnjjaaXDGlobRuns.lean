-- Written by wip/tool/xprint.py of this work (a front end of its own to the kit's printer): the functions of the seat Ytncdoanemfnjjaa as plain Lean functions, and what the Go code's calls come to. Lean checks it.
import Derived.Test.YtncdoanemfnjjaaX11
import Derived.Test.YtncdoanemfnjjaaYOpens
import Derived.OpenShut
namespace Go.Proofs.Ytncdoanemfnjjaa.X
open Go.RowKit Go.Proofs.Ytncdoanemfnjjaa.X Go.Proofs.YtncdoanemfnjjaaW.PrintWords Go.Proofs.YtncdoanemfnjjaaW.PrintLast Go.Proofs.YtncdoanemfnjjaaW.PrintMore Go.Proofs.Ytncdoanemfnjjaa.Y
set_option linter.unusedVariables false
/-- The pure statement of GlobRuns. -/
def mewslaw02_GlobRuns.PureX : Prop := ∀ (a0 : ByteArray) (a1 : S28), (a0.size ≤ 140737488351232) → ((a1.f0.size ≤ 140737488351232) ∧ (a1.f1.size ≤ 140737488351232) ∧ (a1.f2.size ≤ 140737488351232)) → ∃ k, mewslaw02_GlobRuns.f k a0 a1.f0 a1.f1 a1.f2 = some true
end Go.Proofs.Ytncdoanemfnjjaa.X
