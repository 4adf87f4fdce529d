-- Written by wip/tool/xprint.py of this work (a front end of its own to the kit's printer): the functions of the seat Ythelnfnkhcjngaa as plain Lean functions, and what the Go code's calls come to. Lean checks it.
import Derived.Test.YthelnfnkhcjngaaX16
import Derived.Test.YthelnfnkhcjngaaYOpens
import Derived.OpenShut
namespace Go.Proofs.Ythelnfnkhcjngaa.X
open Go.RowKit Go.Proofs.Ythelnfnkhcjngaa.X Go.Proofs.YthelnfnkhcjngaaW.PrintWords Go.Proofs.YthelnfnkhcjngaaW.PrintLast Go.Proofs.YthelnfnkhcjngaaW.PrintMore Go.Proofs.Ythelnfnkhcjngaa.Y
set_option linter.unusedVariables false
/-- The pure statement of LineBlanks. -/
def mewslaw04_LineBlanks.PureX : Prop := ∀ (a0 : ByteArray) (a1 : ByteArray) (a2 : Int), (a0.size ≤ 140737488351232) → (a1.size ≤ 140737488351232) → ((Lit.int .i64 a2).wf = true) → ∃ k, mewslaw04_LineBlanks.f k a0 a1 a2 = some true
end Go.Proofs.Ythelnfnkhcjngaa.X
