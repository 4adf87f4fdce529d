-- Written by wip/tool/xprint.py of this work (a front end of its own to the kit's printer): the functions of the seat Ytncdoanemfnjjaa as plain Lean functions, and what the Go code's calls come to. Lean checks it.
import Derived.Test.YtncdoanemfnjjaaLaw02q
import Derived.Test.YtncdoanemfnjjaaYOpens
import Derived.OpenShut
namespace Go.Proofs.Ytncdoanemfnjjaa.X
open Go.RowKit Go.Proofs.Ytncdoanemfnjjaa.X Go.Proofs.YtncdoanemfnjjaaW.PrintWords Go.Proofs.YtncdoanemfnjjaaW.PrintLast Go.Proofs.YtncdoanemfnjjaaW.PrintMore Go.Proofs.Ytncdoanemfnjjaa.Y
set_option linter.unusedVariables false
/-- The pure statement of GlobQuotes. -/
def mewslaw02_GlobQuotes.PureX : Prop := ∀ (a0 : ByteArray) (l1 : List ByteArray), (a0.size ≤ 140737488351232) → (l1.length * 16 ≤ 140737488351232 ∧ ∀ x ∈ l1, x.size ≤ 140737488351232) → ∃ k, mewslaw02_GlobQuotes.f k a0 l1 = some true
end Go.Proofs.Ytncdoanemfnjjaa.X
