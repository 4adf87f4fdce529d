-- Written by wip/tool/xprint.py of this work (a front end of its own to the kit's printer): the functions of the seat Ytkamejnccmapkaa as plain Lean functions, and what the Go code's calls come to. Lean checks it.
import Derived.Test.YtkamejnccmapkaaLaw37b
import Derived.Test.YtkamejnccmapkaaYOpens
import Derived.OpenShut
namespace Go.Proofs.Ytkamejnccmapkaa.X
open Go.RowKit Go.Proofs.Ytkamejnccmapkaa.X Go.Proofs.YtkamejnccmapkaaW.PrintWords Go.Proofs.YtkamejnccmapkaaW.PrintLast Go.Proofs.YtkamejnccmapkaaW.PrintMore Go.Proofs.Ytkamejnccmapkaa.Y
set_option linter.unusedVariables false
/-- The pure statement of MultiWatch. -/
def mewslaw37_MultiWatch.PureX : Prop := ∀ (l0 : List ByteArray) (l1 : List ByteArray) (a2 : Bool), (l0.length * 16 ≤ 140737488351232 ∧ ∀ x ∈ l0, x.size ≤ 140737488351232) → (l1.length * 16 ≤ 140737488351232 ∧ ∀ x ∈ l1, x.size ≤ 140737488351232) → ∃ k, mewslaw37_MultiWatch.f k l0 l1 a2 = some true
end Go.Proofs.Ytkamejnccmapkaa.X
