/- A part of the proof: what the program does, step by step, over values without addresses. No conditions of mine. -/
import Derived.Test.YtadfohbogoocgaaGreatDoorN10
import Derived.Test.YtadfohbogoocgaaGreatDoorCoreAiHtoAiSk
set_option linter.unusedVariables false
set_option linter.unusedSimpArgs false
namespace Go.Ai
open Go Go.RowKit Go.Proofs Go.Sp
variable {X : FuncId → List V → List (Nat × List V) → V → List (Nat × List V) → List Blk → Prop}
set_option maxRecDepth 10000
set_option maxHeartbeats 8000000
set_option linter.unusedVariables false
set_option linter.unusedSimpArgs false
/-- The ops made here. -/
def forms : List O := [⟨1, 1, 1, ⟨0, 0, 0⟩, ⟨#[97, 98, 230, 151, 165]⟩, [], 0, 0, 0⟩, ⟨3, 200, 1, ⟨2, 300, 3⟩, ⟨#[97]⟩, [⟨1, 1, 0⟩, ⟨2, 300, 3⟩], 0, 0, 0⟩, ⟨8, 268435456, 1, ⟨0, 0, 0⟩, ⟨#[]⟩, [⟨2, 300, 3⟩], 0, 0, 0⟩, ⟨1, 3, 2, ⟨0, 0, 0⟩, ⟨#[]⟩, [], 2, 1, 268435456⟩]
end Go.Ai
