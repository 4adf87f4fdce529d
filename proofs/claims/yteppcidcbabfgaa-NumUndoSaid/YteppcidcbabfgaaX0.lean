-- Written by wip/tool/xprint.py of this work (a front end of its own to the kit's printer): the functions of the seat Yteppcidcbabfgaa as plain Lean functions, and what the Go code's calls come to. Lean checks it.
import Derived.Test.YteppcidcbabfgaaProg
import Derived.Below
import Derived.Deep.Draws
import Derived.Deep.AppendLies
import Derived.Maps.AppendAt
import Derived.OwnWalk
import Derived.Laws.BytesArg
import Derived.Laws.MakeOwn
import Derived.Laws.OwnMore
import Derived.Deep.OwnRows
import Derived.Tactics
import Derived.Lib.ConvBytes
import Derived.Laws.Slices
import Derived.WalkKit
import Derived.KernelRfl
import Derived.RowKit3
import Derived.Deep.LoopGhost
import Derived.Deep.QuietTactic
import Derived.BigQuiet
import Derived.WideLaws
import Derived.Deep.DeepCutAuto
import Derived.Deep.CutBlock
import Derived.Deep.RegionHeld3
import Derived.Laws.Rows
import Derived.Lib.AppendStr
import Derived.ArgAppend
import Derived.Laws.IdiomCopy
import Derived.OrdersHeld
import Derived.Laws.BitsLemmas
import Derived.RowKit
import Derived.Test.YteppcidcbabfgaaEText
import Derived.Test.YteppcidcbabfgaaWWords
import Derived.Test.YteppcidcbabfgaaWLast
import Derived.Test.YteppcidcbabfgaaWTab
import Derived.Test.YteppcidcbabfgaaWFour
import Derived.Test.YteppcidcbabfgaaWQPut
import Derived.Test.YteppcidcbabfgaaWApart
import Derived.Test.YteppcidcbabfgaaWArr
import Derived.Test.YteppcidcbabfgaaWZeros
import Derived.Test.YteppcidcbabfgaaWFoot
import Derived.Test.YteppcidcbabfgaaWKept
import Derived.Test.YteppcidcbabfgaaWShare
import Derived.Test.YteppcidcbabfgaaWN
import Derived.Test.YteppcidcbabfgaaWFootNe
import Derived.Test.YteppcidcbabfgaaWAt
import Derived.Test.YteppcidcbabfgaaWEqStruct
import Derived.Test.YteppcidcbabfgaaWRepsOne
import Derived.Test.YteppcidcbabfgaaWInv
import Derived.Test.YteppcidcbabfgaaWInvWords
import Derived.Test.YteppcidcbabfgaaWGuard
import Derived.Test.YteppcidcbabfgaaWNEv
import Derived.Test.YteppcidcbabfgaaWMore
namespace Go.Proofs.Yteppcidcbabfgaa.X
open Go.RowKit Go.Proofs.YteppcidcbabfgaaW.PrintWords Go.Proofs.YteppcidcbabfgaaW.PrintLast Go.Proofs.YteppcidcbabfgaaW.PrintMore
attribute [local go_sem] max2_int min2_int max_two min_two max_three min_three max_four min_four   -- for this text's walks alone
set_option linter.unusedVariables false
set_option linter.unusedSimpArgs false



def errW : Option Int → Value
  | none => .nilIface
  | some c => .iface 0 (.int .i64 c)
theorem errW_none : errW none = .nilIface := rfl
theorem errW_some (c : Int) : errW (some c) = .iface 0 (.int .i64 c) := rfl

-- the values' own types

end Go.Proofs.Yteppcidcbabfgaa.X
