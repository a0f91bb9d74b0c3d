/- A part of the proof: what the program does, step by step, over values without addresses. No conditions of mine. -/
import Derived.Test.YtadfohbogoocgaaN15
import Derived.Test.YtadfohbogoocgaaN13
set_option linter.unusedVariables false
set_option linter.unusedSimpArgs false
namespace Go.Ai
open Go Go.RowKit Go.Proofs Go.Sp
set_option maxRecDepth 10000
set_option maxHeartbeats 8000000
set_option linter.unusedVariables false
set_option linter.unusedSimpArgs false
def kHl (o : O) (q : Pt) : List E → List (Nat × Blk)
  | [] => rH q (oCw o .emp)
  | e :: l => rH q (oCw o (.sl (newId (siteOf 10 5) 0) 0 0 (e :: l).length)) ++ [(newId (siteOf 10 5) 0, ⟨0, 3, true, true, (e :: l).map eC⟩)]
end Go.Ai
