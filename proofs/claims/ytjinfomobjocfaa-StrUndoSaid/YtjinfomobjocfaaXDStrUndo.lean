-- Written by wip/tool/xprint.py of this work (a front end of its own to the kit's printer): the functions of the seat Ytjinfomobjocfaa as plain Lean functions, and what the Go code's calls come to. Lean checks it.
import Derived.Test.YtjinfomobjocfaaX6
import Derived.Test.YtjinfomobjocfaaYOpens
import Derived.OpenShut
namespace Go.Proofs.Ytjinfomobjocfaa.X
open Go.RowKit Go.Proofs.Ytjinfomobjocfaa.X Go.Proofs.YtjinfomobjocfaaW.PrintWords Go.Proofs.YtjinfomobjocfaaW.PrintLast Go.Proofs.YtjinfomobjocfaaW.PrintMore Go.Proofs.Ytjinfomobjocfaa.Y
set_option linter.unusedVariables false
/-- The pure statement of StrUndo. -/
def mewslaw20_StrUndo.PureX : Prop := ∀ (a0 : Int) (a1 : Int), ((Lit.int .i64 a0).wf = true) → ((Lit.int .i64 a1).wf = true) → ∃ k, mewslaw20_StrUndo.f k a0 a1 = some true
end Go.Proofs.Ytjinfomobjocfaa.X
