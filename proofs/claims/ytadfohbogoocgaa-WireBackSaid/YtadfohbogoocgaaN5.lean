/- A part of the proof: what the program does, step by step, over values without addresses. No conditions of mine. -/
import Derived.Test.YtadfohbogoocgaaN4
set_option linter.unusedVariables false
set_option linter.unusedSimpArgs false
namespace Go.Ai
open Go Go.RowKit Go.Proofs Go.Sp
variable {X : FuncId → List V → List (Nat × List V) → V → List (Nat × List V) → List Blk → Prop}
set_option maxRecDepth 10000
set_option maxHeartbeats 4000000
set_option linter.unusedVariables false
set_option linter.unusedSimpArgs false
/-- What the document's taking of a number tells. -/
def takeB (o : Option (Int × List Int)) : V := match o with
  | some (m, r) => .tup [vi m, vs (strOfNums r), vo true]
  | none => .tup [vi 0, vs ⟨#[]⟩, vo false]
end Go.Ai
