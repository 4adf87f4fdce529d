-- Written by wip/tool/xprint.py of this work (a front end of its own to the kit's printer): the functions of the seat Ytcooijbmmkkdoaa as plain Lean functions, and what the Go code's calls come to. Lean checks it.
import Derived.Test.YtcooijbmmkkdoaaX24
import Derived.Test.YtcooijbmmkkdoaaYOpens
import Derived.OpenShut
namespace Go.Proofs.Ytcooijbmmkkdoaa.X
open Go.RowKit Go.Proofs.Ytcooijbmmkkdoaa.X Go.Proofs.YtcooijbmmkkdoaaW.PrintWords Go.Proofs.YtcooijbmmkkdoaaW.PrintLast Go.Proofs.YtcooijbmmkkdoaaW.PrintMore Go.Proofs.Ytcooijbmmkkdoaa.Y
set_option linter.unusedVariables false
/-- The pure statement of ArgsScans. -/
def mewslaw29_ArgsScans.PureX : Prop := ∀ (l0 : List ByteArray) (a1 : Bool) (a2 : Int), (l0.length * 16 ≤ 140737488351232 ∧ ∀ x ∈ l0, x.size ≤ 140737488351232) → ((Lit.int .i64 a2).wf = true) → ∃ k, mewslaw29_ArgsScans.f k l0 a1 a2 = some true
end Go.Proofs.Ytcooijbmmkkdoaa.X
