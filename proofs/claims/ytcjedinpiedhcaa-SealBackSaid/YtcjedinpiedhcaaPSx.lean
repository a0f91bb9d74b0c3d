-- Written by a program of this proof's author (wip/myprint.py, over the translation): group S.
import Derived.Test.YtcjedinpiedhcaaPSx0
import Derived.Test.YtcjedinpiedhcaaPSx1
import Derived.Test.YtcjedinpiedhcaaPSx2
import Derived.Test.YtcjedinpiedhcaaPSx3
import Derived.Test.YtcjedinpiedhcaaPSx4
import Derived.Test.YtcjedinpiedhcaaPSx5
import Derived.Test.YtcjedinpiedhcaaPSx6
namespace Go.Proofs.Ytcjedinpiedhcaa.PS
open Go.RowKit Go.Proofs.YtcjedinpiedhcaaW.PrintWords Go.Proofs.YtcjedinpiedhcaaW.PrintLast Go.Proofs.YtcjedinpiedhcaaW.PrintMore Go.Proofs.YtcjedinpiedhcaaB
attribute [local go_sem] max2_int min2_int max_two min_two max_three min_three max_four min_four   -- for this text's walks alone
set_option linter.unusedVariables false
set_option linter.unusedSimpArgs false

end Go.Proofs.Ytcjedinpiedhcaa.PS
