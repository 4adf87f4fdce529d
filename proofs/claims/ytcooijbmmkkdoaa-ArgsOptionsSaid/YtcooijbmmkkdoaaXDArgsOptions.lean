-- Written by wip/tool/xprint.py of this work (a front end of its own to the kit's printer): the functions of the seat Ytcooijbmmkkdoaa as plain Lean functions, and what the Go code's calls come to. Lean checks it.
import Derived.Test.YtcooijbmmkkdoaaX11
import Derived.Test.YtcooijbmmkkdoaaYOpens
import Derived.OpenShut
namespace Go.Proofs.Ytcooijbmmkkdoaa.X
open Go.RowKit Go.Proofs.Ytcooijbmmkkdoaa.X Go.Proofs.YtcooijbmmkkdoaaW.PrintWords Go.Proofs.YtcooijbmmkkdoaaW.PrintLast Go.Proofs.YtcooijbmmkkdoaaW.PrintMore Go.Proofs.Ytcooijbmmkkdoaa.Y
set_option linter.unusedVariables false
/-- The pure statement of ArgsOptions. -/
def mewslaw29_ArgsOptions.PureX : Prop := ∀ (l0 : List ByteArray), (l0.length * 16 ≤ 140737488351232 ∧ ∀ x ∈ l0, x.size ≤ 140737488351232) → ∃ k, mewslaw29_ArgsOptions.f k l0 = some true
end Go.Proofs.Ytcooijbmmkkdoaa.X
