import Derived.Test.YtcooijbmmkkdoaaWInv
import Derived.Test.YtcooijbmmkkdoaaWFootNe
namespace Go.Proofs.YtcooijbmmkkdoaaW.PrintWords
open Go.RowKit
end Go.Proofs.YtcooijbmmkkdoaaW.PrintWords
namespace Go.Proofs.YtcooijbmmkkdoaaW.PrintLast
section
variable {ops : Array Oper} {a : Act} {o og : Oper} {g : Nat} {t : Tmp} {u : Bool}
end
end Go.Proofs.YtcooijbmmkkdoaaW.PrintLast
