-- Written by wip/tool/xprint.py of this work (a front end of its own to the kit's printer): the functions of the seat Ytjinfomobjocfaa as plain Lean functions, and what the Go code's calls come to. Lean checks it.
import Derived.Test.YtjinfomobjocfaaX0
import Derived.Test.YtjinfomobjocfaaX1
import Derived.Test.YtjinfomobjocfaaX2
import Derived.Test.YtjinfomobjocfaaX3
import Derived.Test.YtjinfomobjocfaaX4
import Derived.Test.YtjinfomobjocfaaX5
import Derived.Test.YtjinfomobjocfaaX6
import Derived.Test.YtjinfomobjocfaaX7
import Derived.Test.YtjinfomobjocfaaX8
import Derived.Test.YtjinfomobjocfaaX9
import Derived.Test.YtjinfomobjocfaaX10
import Derived.Test.YtjinfomobjocfaaX11
import Derived.Test.YtjinfomobjocfaaX12
import Derived.Test.YtjinfomobjocfaaX13
import Derived.Test.YtjinfomobjocfaaX14
import Derived.Test.YtjinfomobjocfaaX15
import Derived.Test.YtjinfomobjocfaaX16
import Derived.Test.YtjinfomobjocfaaX17
namespace Go.Proofs.Ytjinfomobjocfaa.X
open Go.RowKit Go.Proofs.YtjinfomobjocfaaW.PrintWords Go.Proofs.YtjinfomobjocfaaW.PrintLast Go.Proofs.YtjinfomobjocfaaW.PrintMore
attribute [local go_sem] max2_int min2_int max_two min_two max_three min_three max_four min_four   -- for this text's walks alone
set_option linter.unusedVariables false
set_option linter.unusedSimpArgs false

end Go.Proofs.Ytjinfomobjocfaa.X
