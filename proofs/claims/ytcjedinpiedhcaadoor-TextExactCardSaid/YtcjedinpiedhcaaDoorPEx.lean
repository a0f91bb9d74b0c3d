-- Written by a program of this proof's author (wip/myprint.py, over the translation): group E.
import Derived.Test.YtcjedinpiedhcaaDoorPEx0
import Derived.Test.YtcjedinpiedhcaaDoorPEx1
import Derived.Test.YtcjedinpiedhcaaDoorPEx2
import Derived.Test.YtcjedinpiedhcaaDoorPEx3
namespace Go.Proofs.YtcjedinpiedhcaaDoor.PE
open Go.RowKit Go.Proofs.YtcjedinpiedhcaaDoorW.PrintWords Go.Proofs.YtcjedinpiedhcaaDoorW.PrintLast Go.Proofs.YtcjedinpiedhcaaDoorW.PrintMore Go.Proofs.YtcjedinpiedhcaaDoorX Go.Proofs.YtcjedinpiedhcaaDoorPq
attribute [local go_sem] max2_int min2_int max_two min_two max_three min_three max_four min_four   -- for this text's walks alone
set_option linter.unusedVariables false
set_option linter.unusedSimpArgs false

end Go.Proofs.YtcjedinpiedhcaaDoor.PE
