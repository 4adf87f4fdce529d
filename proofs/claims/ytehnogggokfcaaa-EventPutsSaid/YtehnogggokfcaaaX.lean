import Derived.Test.YtehnogggokfcaaaXA
import Derived.Test.YtehnogggokfcaaaX4
import Derived.Test.YtehnogggokfcaaaX5
import Derived.Test.YtehnogggokfcaaaX6
import Derived.Test.YtehnogggokfcaaaX7
import Derived.Test.YtehnogggokfcaaaX9
import Derived.Test.YtehnogggokfcaaaX10
import Derived.Test.YtehnogggokfcaaaX11
import Derived.Test.YtehnogggokfcaaaX14
import Derived.Test.YtehnogggokfcaaaX16
import Derived.Test.YtehnogggokfcaaaX17
import Derived.Test.YtehnogggokfcaaaX19
import Derived.Test.YtehnogggokfcaaaX22
import Derived.Test.YtehnogggokfcaaaX23
import Derived.Test.YtehnogggokfcaaaX24
namespace Go.Proofs.Ytehnogggokfcaaa.X
open Go.RowKit Go.Proofs.YtehnogggokfcaaaW.PrintWords Go.Proofs.YtehnogggokfcaaaW.PrintLast Go.Proofs.YtehnogggokfcaaaW.PrintMore
attribute [local go_sem] max2_int min2_int max_two min_two max_three min_three max_four min_four   -- for this text's walks alone
set_option linter.unusedVariables false
set_option linter.unusedSimpArgs false

end Go.Proofs.Ytehnogggokfcaaa.X
