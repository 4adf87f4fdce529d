/- The event of any line (event.Take): the short ends; the whole. -/
import Derived.Test.YtehnogggokfcaaaEvTake
namespace Go.Proofs.Ytehnogggokfcaaa.Ev
open Go.RowKit Go.Proofs.YtehnogggokfcaaaW.PrintWords Go.Proofs.YtehnogggokfcaaaW.PrintMore Go.Proofs.YtehnogggokfcaaaW.PrintLast Go.Proofs.Ytehnogggokfcaaa.Y Go.Proofs.Ytehnogggokfcaaa.X Go.Proofs.Ytehnogggokfcaaa.Pure Go.Proofs.Ytehnogggokfcaaa.LM
set_option linter.unusedVariables false
set_option linter.unusedSimpArgs false
attribute [local go_sem ↓] Go.wp_at_zero Go.wp_at_succ
end Go.Proofs.Ytehnogggokfcaaa.Ev
