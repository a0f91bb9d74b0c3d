-- Written by a program of this proof's author (wip/myprint.py, over the translation): group T.
import Derived.Test.YtcjedinpiedhcaaPTx0
import Derived.Test.YtcjedinpiedhcaaPTx1
import Derived.Test.YtcjedinpiedhcaaPTx2
import Derived.Test.YtcjedinpiedhcaaPTx3
namespace Go.Proofs.Ytcjedinpiedhcaa.PT
open Go.RowKit Go.Proofs.YtcjedinpiedhcaaW.PrintWords Go.Proofs.YtcjedinpiedhcaaW.PrintLast Go.Proofs.YtcjedinpiedhcaaW.PrintMore Go.Proofs.YtcjedinpiedhcaaX
attribute [local go_sem] max2_int min2_int max_two min_two max_three min_three max_four min_four   -- for this text's walks alone
set_option linter.unusedVariables false
set_option linter.unusedSimpArgs false

end Go.Proofs.Ytcjedinpiedhcaa.PT
