/- A part of the proof: what the program does, step by step, over values without addresses. No conditions of mine. -/
import Derived.Test.YtadfohbogoocgaaN15
import Derived.Test.YtadfohbogoocgaaN25
import Derived.Test.YtadfohbogoocgaaN18
import Derived.Test.YtadfohbogoocgaaCoreAiSptoAiOp
set_option linter.unusedVariables false
set_option linter.unusedSimpArgs false
namespace Go.Ai
open Go Go.RowKit Go.Proofs Go.Sp
set_option maxRecDepth 10000
set_option maxHeartbeats 8000000
set_option linter.unusedVariables false
set_option linter.unusedSimpArgs false
def mH (m x : M) : List (Nat × Blk) := [(newId (siteOf 0 0) 0, ⟨0, 7, true, true, [mC m]⟩), (newId (siteOf 1 3) 0, ⟨0, 7, true, true, [mC x]⟩)]
end Go.Ai
