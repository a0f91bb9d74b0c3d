-- Written by a program of this proof's author (wip/myprint.py, over the translation): group B.
import Derived.Test.YtcjedinpiedhcaaPBx0
import Derived.Test.YtcjedinpiedhcaaPBx1
import Derived.Test.YtcjedinpiedhcaaPBx2
import Derived.Test.YtcjedinpiedhcaaPBx3
import Derived.Test.YtcjedinpiedhcaaPBx4
import Derived.Test.YtcjedinpiedhcaaPBx5
import Derived.Test.YtcjedinpiedhcaaPBx6
import Derived.Test.YtcjedinpiedhcaaPBx7
import Derived.Test.YtcjedinpiedhcaaPBx8
import Derived.Test.YtcjedinpiedhcaaPBx9
namespace Go.Proofs.Ytcjedinpiedhcaa.PB
open Go.RowKit Go.Proofs.YtcjedinpiedhcaaW.PrintWords Go.Proofs.YtcjedinpiedhcaaW.PrintLast Go.Proofs.YtcjedinpiedhcaaW.PrintMore
attribute [local go_sem] max2_int min2_int max_two min_two max_three min_three max_four min_four   -- for this text's walks alone
set_option linter.unusedVariables false
set_option linter.unusedSimpArgs false

end Go.Proofs.Ytcjedinpiedhcaa.PB
