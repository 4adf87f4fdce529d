-- Written by wip/tool/xprint.py of this work (a front end of its own to the kit's printer): the functions of the seat Ytbficlkjlhigjaa as plain Lean functions, and what the Go code's calls come to. Lean checks it.
import Derived.Test.YtbficlkjlhigjaaLaw21e
import Derived.Test.YtbficlkjlhigjaaYOpens
import Derived.OpenShut
namespace Go.Proofs.Ytbficlkjlhigjaa.X
open Go.RowKit Go.Proofs.Ytbficlkjlhigjaa.X Go.Proofs.YtbficlkjlhigjaaW.PrintWords Go.Proofs.YtbficlkjlhigjaaW.PrintLast Go.Proofs.YtbficlkjlhigjaaW.PrintMore Go.Proofs.Ytbficlkjlhigjaa.Y
set_option linter.unusedVariables false
/-- The pure statement of ListMoves. -/
def mewslaw21_ListMoves.PureX : Prop := ∀ (l0 : List ByteArray) (l1 : List ByteArray) (a2 : Int), (l0.length * 16 ≤ 140737488351232 ∧ ∀ x ∈ l0, x.size ≤ 140737488351232) → (l1.length * 16 ≤ 140737488351232 ∧ ∀ x ∈ l1, x.size ≤ 140737488351232) → ((Lit.int .i64 a2).wf = true) → ∃ k, mewslaw21_ListMoves.f k l0 l1 a2 = some true
end Go.Proofs.Ytbficlkjlhigjaa.X
