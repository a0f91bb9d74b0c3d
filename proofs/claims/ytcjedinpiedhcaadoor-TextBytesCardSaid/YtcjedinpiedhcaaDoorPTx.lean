-- Written by a program of this proof's author (wip/myprint.py, over the translation): group T.
import Derived.Test.YtcjedinpiedhcaaDoorPTx0
import Derived.Test.YtcjedinpiedhcaaDoorPTx1
import Derived.Test.YtcjedinpiedhcaaDoorPTx2
import Derived.Test.YtcjedinpiedhcaaDoorPTx3
namespace Go.Proofs.YtcjedinpiedhcaaDoor.PT
open Go.RowKit Go.Proofs.YtcjedinpiedhcaaDoorW.PrintWords Go.Proofs.YtcjedinpiedhcaaDoorW.PrintLast Go.Proofs.YtcjedinpiedhcaaDoorW.PrintMore Go.Proofs.YtcjedinpiedhcaaDoorX
attribute [local go_sem] max2_int min2_int max_two min_two max_three min_three max_four min_four   -- for this text's walks alone
set_option linter.unusedVariables false
set_option linter.unusedSimpArgs false

end Go.Proofs.YtcjedinpiedhcaaDoor.PT
