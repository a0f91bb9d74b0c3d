import Derived.Test.YtadfohbogoocgaaWInv
import Derived.Test.YtadfohbogoocgaaWFootNe
namespace Go.Proofs.YtadfohbogoocgaaW.PrintWords
open Go.RowKit
end Go.Proofs.YtadfohbogoocgaaW.PrintWords
namespace Go.Proofs.YtadfohbogoocgaaW.PrintLast
section
variable {ops : Array Oper} {a : Act} {o og : Oper} {g : Nat} {t : Tmp} {u : Bool}
end
end Go.Proofs.YtadfohbogoocgaaW.PrintLast
