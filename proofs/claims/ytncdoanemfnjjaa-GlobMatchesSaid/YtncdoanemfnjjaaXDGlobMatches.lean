-- Written by wip/tool/xprint.py of this work (a front end of its own to the kit's printer): the functions of the seat Ytncdoanemfnjjaa as plain Lean functions, and what the Go code's calls come to. Lean checks it.
import Derived.Test.YtncdoanemfnjjaaLaw02m
import Derived.Test.YtncdoanemfnjjaaYOpens
import Derived.OpenShut
namespace Go.Proofs.Ytncdoanemfnjjaa.X
open Go.RowKit Go.Proofs.Ytncdoanemfnjjaa.X Go.Proofs.YtncdoanemfnjjaaW.PrintWords Go.Proofs.YtncdoanemfnjjaaW.PrintLast Go.Proofs.YtncdoanemfnjjaaW.PrintMore Go.Proofs.Ytncdoanemfnjjaa.Y
set_option linter.unusedVariables false
/-- The pure statement of GlobMatches. -/
def mewslaw02_GlobMatches.PureX : Prop := ∀ (a0 : ByteArray) (a1 : ByteArray), (a0.size ≤ 140737488351232) → (a1.size ≤ 140737488351232) → ∃ k, mewslaw02_GlobMatches.f k a0 a1 = some true
end Go.Proofs.Ytncdoanemfnjjaa.X
