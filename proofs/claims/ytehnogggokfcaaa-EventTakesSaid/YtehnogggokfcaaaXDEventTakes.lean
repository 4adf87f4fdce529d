import Derived.Test.YtehnogggokfcaaaLaw47b
import Derived.Test.YtehnogggokfcaaaYOpens
import Derived.OpenShut
namespace Go.Proofs.Ytehnogggokfcaaa.X
open Go.RowKit Go.Proofs.Ytehnogggokfcaaa.X Go.Proofs.YtehnogggokfcaaaW.PrintWords Go.Proofs.YtehnogggokfcaaaW.PrintLast Go.Proofs.YtehnogggokfcaaaW.PrintMore Go.Proofs.Ytehnogggokfcaaa.Y
set_option linter.unusedVariables false
def mewslaw47_EventTakes.PureX : Prop := ∀ (a0 : ByteArray), (a0.size ≤ 140737488351232) → ∃ k, mewslaw47_EventTakes.f k a0 = some true
end Go.Proofs.Ytehnogggokfcaaa.X
