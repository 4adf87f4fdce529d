-- Written by wip/tool/xprint.py of this work (a front end of its own to the kit's printer): the functions of the seat Ytbficlkjlhigjaa as plain Lean functions, and what the Go code's calls come to. Lean checks it.
import Derived.Test.YtbficlkjlhigjaaLaw21f
import Derived.Test.YtbficlkjlhigjaaYOpens
import Derived.OpenShut
namespace Go.Proofs.Ytbficlkjlhigjaa.X
open Go.RowKit Go.Proofs.Ytbficlkjlhigjaa.X Go.Proofs.YtbficlkjlhigjaaW.PrintWords Go.Proofs.YtbficlkjlhigjaaW.PrintLast Go.Proofs.YtbficlkjlhigjaaW.PrintMore Go.Proofs.Ytbficlkjlhigjaa.Y
set_option linter.unusedVariables false
/-- The pure statement of ListBeside. -/
def mewslaw21_ListBeside.PureX : Prop := ∀ (l0 : List ByteArray) (a1 : Bool) (a2 : S45), (l0.length * 16 ≤ 140737488351232 ∧ ∀ x ∈ l0, x.size ≤ 140737488351232) → ((a2.f0.size ≤ 140737488351232) ∧ (a2.f1.size ≤ 140737488351232)) → ∃ k, mewslaw21_ListBeside.f k l0 a1 a2.f0 a2.f1 = some true
end Go.Proofs.Ytbficlkjlhigjaa.X
