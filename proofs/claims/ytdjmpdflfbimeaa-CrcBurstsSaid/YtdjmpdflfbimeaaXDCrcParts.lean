-- Written by wip/tool/xprint.py of this work (a front end of its own to the kit's printer): the functions of the seat Ytdjmpdflfbimeaa as plain Lean functions, and what the Go code's calls come to. Lean checks it.
import Derived.Test.YtdjmpdflfbimeaaX6
import Derived.Test.YtdjmpdflfbimeaaYOpens
import Derived.OpenShut
namespace Go.Proofs.Ytdjmpdflfbimeaa.X
open Go.RowKit Go.Proofs.Ytdjmpdflfbimeaa.X Go.Proofs.YtdjmpdflfbimeaaW.PrintWords Go.Proofs.YtdjmpdflfbimeaaW.PrintLast Go.Proofs.YtdjmpdflfbimeaaW.PrintMore Go.Proofs.Ytdjmpdflfbimeaa.Y
set_option linter.unusedVariables false
/-- The pure statement of CrcParts. -/
def mewslaw14_CrcParts.PureX : Prop := ∀ (l0 : List ByteArray), (l0.length * 16 ≤ 140737488351232 ∧ ∀ x ∈ l0, x.size ≤ 140737488351232) → ∃ k, mewslaw14_CrcParts.f k l0 = some true
end Go.Proofs.Ytdjmpdflfbimeaa.X
