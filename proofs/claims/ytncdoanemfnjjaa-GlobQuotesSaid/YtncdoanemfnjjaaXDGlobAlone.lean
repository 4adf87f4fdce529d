-- Written by wip/tool/xprint.py of this work (a front end of its own to the kit's printer): the functions of the seat Ytncdoanemfnjjaa as plain Lean functions, and what the Go code's calls come to. Lean checks it.
import Derived.Test.YtncdoanemfnjjaaX10
import Derived.Test.YtncdoanemfnjjaaYOpens
import Derived.OpenShut
namespace Go.Proofs.Ytncdoanemfnjjaa.X
open Go.RowKit Go.Proofs.Ytncdoanemfnjjaa.X Go.Proofs.YtncdoanemfnjjaaW.PrintWords Go.Proofs.YtncdoanemfnjjaaW.PrintLast Go.Proofs.YtncdoanemfnjjaaW.PrintMore Go.Proofs.Ytncdoanemfnjjaa.Y
set_option linter.unusedVariables false
/-- The pure statement of GlobAlone. -/
def mewslaw02_GlobAlone.PureX : Prop := ∀ (a0 : ByteArray) (a1 : ByteArray), (a0.size ≤ 140737488351232) → (a1.size ≤ 140737488351232) → ∃ k, mewslaw02_GlobAlone.f k a0 a1 = some true
end Go.Proofs.Ytncdoanemfnjjaa.X
