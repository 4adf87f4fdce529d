-- Written by wip/tool/xprint.py of this work (a front end of its own to the kit's printer): the functions of the seat Yteppcidcbabfgaa as plain Lean functions, and what the Go code's calls come to. Lean checks it.
import Derived.Test.YteppcidcbabfgaaX9
import Derived.Test.YteppcidcbabfgaaYOpens
import Derived.OpenShut
namespace Go.Proofs.Yteppcidcbabfgaa.X
open Go.RowKit Go.Proofs.Yteppcidcbabfgaa.X Go.Proofs.YteppcidcbabfgaaW.PrintWords Go.Proofs.YteppcidcbabfgaaW.PrintLast Go.Proofs.YteppcidcbabfgaaW.PrintMore Go.Proofs.Yteppcidcbabfgaa.Y
set_option linter.unusedVariables false
/-- The pure statement of NumAdds. -/
def mewslaw01_NumAdds.PureX : Prop := ∀ (a0 : Int) (a1 : Int), ((Lit.int .i64 a0).wf = true) → ((Lit.int .i64 a1).wf = true) → ∃ k, mewslaw01_NumAdds.f k a0 a1 = some true
end Go.Proofs.Yteppcidcbabfgaa.X
