-- Written by wip/tool/xprint.py of this work (a front end of its own to the kit's printer): the functions of the seat Ythelnfnkhcjngaa as plain Lean functions, and what the Go code's calls come to. Lean checks it.
import Derived.Test.YthelnfnkhcjngaaX12
import Derived.Test.YthelnfnkhcjngaaYOpens
import Derived.OpenShut
namespace Go.Proofs.Ythelnfnkhcjngaa.X
open Go.RowKit Go.Proofs.Ythelnfnkhcjngaa.X Go.Proofs.YthelnfnkhcjngaaW.PrintWords Go.Proofs.YthelnfnkhcjngaaW.PrintLast Go.Proofs.YthelnfnkhcjngaaW.PrintMore Go.Proofs.Ythelnfnkhcjngaa.Y
set_option linter.unusedVariables false
/-- The pure statement of LineSplits. -/
def mewslaw04_LineSplits.PureX : Prop := ∀ (a0 : ByteArray), (a0.size ≤ 140737488351232) → ∃ k, mewslaw04_LineSplits.f k a0 = some true
end Go.Proofs.Ythelnfnkhcjngaa.X
