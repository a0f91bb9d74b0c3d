/- A part of the proof: what the program does, step by step, over values without addresses. No conditions of mine. -/
import Derived.Test.YtadfohbogoocgaaGreatDoorN11
set_option linter.unusedVariables false
set_option linter.unusedSimpArgs false
namespace Go.Ai
open Go Go.RowKit Go.Proofs Go.Sp
set_option maxRecDepth 10000
set_option maxHeartbeats 4000000
set_option linter.unusedVariables false
set_option linter.unusedSimpArgs false
def o0 : O := ⟨0, 0, 0, ⟨0, 0, 0⟩, ⟨#[]⟩, [], 0, 0, 0⟩
def tkOV (x : O × Pt) (bad ok : V) : V := if x.2.2 then .tup [.agg (oC o0), vs ⟨#[]⟩, bad] else .tup [.agg (oC x.1), vs (strOfNums x.2.1), ok]
end Go.Ai
