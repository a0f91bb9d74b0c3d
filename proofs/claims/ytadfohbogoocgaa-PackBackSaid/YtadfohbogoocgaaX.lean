import Derived.Test.YtadfohbogoocgaaWMore
import Derived.Laws.Cover4
import Derived.Laws.IdiomStrings
import Derived.Laws.Runes
import Derived.Lib.ConvBytes
namespace Go.Proofs.YtadfohbogoocgaaX
open Go.RowKit Go.Proofs.YtadfohbogoocgaaW.PrintWords Go.Proofs.YtadfohbogoocgaaW.PrintLast Go.Proofs.YtadfohbogoocgaaW.PrintMore
set_option linter.unusedVariables false
section
variable {P : Program} {ops : Array Oper} {rest : List Oper} {o : Oper} {a : Act} {Q : Exit → Act → World → Prop}
variable {Kc : Act → World → Prop}
end
end Go.Proofs.YtadfohbogoocgaaX
