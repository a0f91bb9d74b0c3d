import Derived.Test.YtadfohbogoocgaaPAx0
import Derived.Test.YtadfohbogoocgaaPAx1
import Derived.Test.YtadfohbogoocgaaPAx2
import Derived.Test.YtadfohbogoocgaaPAx3
import Derived.Test.YtadfohbogoocgaaPAx4
import Derived.Test.YtadfohbogoocgaaPAx5
import Derived.Test.YtadfohbogoocgaaPAx6
import Derived.Test.YtadfohbogoocgaaPAx7
import Derived.Test.YtadfohbogoocgaaPAx8
import Derived.Test.YtadfohbogoocgaaPAx9
import Derived.Test.YtadfohbogoocgaaPAx10
import Derived.Test.YtadfohbogoocgaaPAx11
import Derived.Test.YtadfohbogoocgaaPAx12
import Derived.Test.YtadfohbogoocgaaPAx13
namespace Go.Proofs.Ytadfohbogoocgaa.PA
open Go.RowKit Go.Proofs.YtadfohbogoocgaaW.PrintWords Go.Proofs.YtadfohbogoocgaaW.PrintLast Go.Proofs.YtadfohbogoocgaaW.PrintMore Go.Proofs.YtadfohbogoocgaaX Go.Proofs.YtadfohbogoocgaaB Go.Proofs.YtadfohbogoocgaaPq
attribute [local go_sem] gi gj gx gy jr js gm gn
set_option linter.unusedVariables false
set_option linter.unusedSimpArgs false
end Go.Proofs.Ytadfohbogoocgaa.PA
