/- A part of the proof: what the program does, step by step, over values without addresses. No conditions of mine. -/
import Derived.Test.YtadfohbogoocgaaGreatDoorN20
import Derived.Test.YtadfohbogoocgaaGreatDoorN19
import Derived.Test.YtadfohbogoocgaaGreatDoorN22
set_option linter.unusedVariables false
set_option linter.unusedSimpArgs false
namespace Go.Ai
open Go Go.RowKit Go.Proofs Go.Sp
set_option maxRecDepth 10000
set_option maxHeartbeats 8000000
set_option linter.unusedVariables false
set_option linter.unusedSimpArgs false
end Go.Ai

namespace Go.Ai
open Go Go.RowKit Go.Proofs Go.Sp
set_option maxRecDepth 10000
set_option maxHeartbeats 8000000
set_option linter.unusedVariables false
set_option linter.unusedSimpArgs false
def m5 : M := ⟨1, 0, 5, 0, 0, 0, []⟩
theorem m5_may : mayM m5 = true := by kernel_rfl
theorem m5_len : (msgB m5).length = 7 := by kernel_rfl
theorem take_msg {m : M} (hm : mayM m = true) : AF Tryz.prog XX 30 [vs (strOfNums (msgB m))] (.tup [.agg (mC m), vi 0]) := by
  have h := packTake (l := msgB m) ⟨msgB_bytes m, Nat.lt_of_le_of_lt (msgB_len hm) (by decide)⟩
  have e := rdM_msg hm []
  rw [List.append_nil, if_pos rfl] at e
  rw [e] at h
  exact h
end Go.Ai
