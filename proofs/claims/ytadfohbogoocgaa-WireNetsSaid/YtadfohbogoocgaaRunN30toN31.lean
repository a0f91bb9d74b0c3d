/- A part of the proof: what the program does, step by step, over values without addresses. No conditions of mine. -/
import Derived.Test.YtadfohbogoocgaaRunN14toN15
import Derived.Test.YtadfohbogoocgaaN25
import Derived.Test.YtadfohbogoocgaaN18
import Derived.Test.YtadfohbogoocgaaRunN9toAiG
import Derived.Test.YtadfohbogoocgaaRunN13toN16
import Derived.Test.YtadfohbogoocgaaN22
import Derived.Test.YtadfohbogoocgaaCoreAiHtoAiSk
set_option linter.unusedVariables false
set_option linter.unusedSimpArgs false
namespace Go.Ai
open Go Go.RowKit Go.Proofs Go.Sp
set_option maxRecDepth 10000
set_option maxHeartbeats 8000000
set_option linter.unusedVariables false
set_option linter.unusedSimpArgs false
def mH (m x : M) : List (Nat × Blk) := [(newId (siteOf 0 0) 0, ⟨0, 7, true, true, [mC m]⟩), (newId (siteOf 1 3) 0, ⟨0, 7, true, true, [mC x]⟩)]
end Go.Ai

namespace Go.Ai
open Go Go.RowKit Go.Proofs Go.Sp
set_option maxRecDepth 10000
set_option maxHeartbeats 8000000
set_option linter.unusedVariables false
set_option linter.unusedSimpArgs false
/-- What taking a message tells. -/
def tkMB : Option M → V
  | some m => .tup [.agg (mC m), vo true]
  | none => .tup [.agg (mC m0), vo false]
def tkHl (m : M) (q : Pt) : List O → List (Nat × Blk)
  | [] => tH q (mCw m .emp)
  | o :: l => tH q (mCw m (.sl (newId (siteOf 7 5) 0) 0 0 (o :: l).length)) ++ [(newId (siteOf 7 5) 0, ⟨0, 11, true, true, (o :: l).map oC⟩)]
end Go.Ai
