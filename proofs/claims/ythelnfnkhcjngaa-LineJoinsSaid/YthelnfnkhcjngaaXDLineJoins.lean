-- Written by wip/tool/xprint.py of this work (a front end of its own to the kit's printer): the functions of the seat Ythelnfnkhcjngaa as plain Lean functions, and what the Go code's calls come to. Lean checks it.
import Derived.Test.YthelnfnkhcjngaaX14
import Derived.Test.YthelnfnkhcjngaaYOpens
import Derived.OpenShut
namespace Go.Proofs.Ythelnfnkhcjngaa.X
open Go.RowKit Go.Proofs.Ythelnfnkhcjngaa.X Go.Proofs.YthelnfnkhcjngaaW.PrintWords Go.Proofs.YthelnfnkhcjngaaW.PrintLast Go.Proofs.YthelnfnkhcjngaaW.PrintMore Go.Proofs.Ythelnfnkhcjngaa.Y
set_option linter.unusedVariables false
/-- The pure statement of LineJoins. -/
def mewslaw04_LineJoins.PureX : Prop := ∀ (l0 : List ByteArray), (l0.length * 16 ≤ 140737488351232 ∧ ∀ x ∈ l0, x.size ≤ 140737488351232) → ∃ k, mewslaw04_LineJoins.f k l0 = some true
end Go.Proofs.Ythelnfnkhcjngaa.X
