import Derived.Test.YtadfohbogoocgaaWTab
namespace Go.Proofs.YtadfohbogoocgaaW.PrintLast
section
variable {P : Program} {ops : Array Oper} {Q : Exit → Act → World → Prop} {md : Region.Mode} {S : World → Prop} {ds : List Nat} {T : Bool × List (List Nat × List Nat)}
end
end Go.Proofs.YtadfohbogoocgaaW.PrintLast
