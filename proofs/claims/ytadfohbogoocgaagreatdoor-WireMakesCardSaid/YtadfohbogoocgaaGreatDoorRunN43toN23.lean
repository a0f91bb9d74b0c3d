/- A part of the proof: what the program does, step by step, over values without addresses. No conditions of mine. -/
import Derived.Test.YtadfohbogoocgaaGreatDoorRunN41toN14
import Derived.Test.YtadfohbogoocgaaGreatDoorRunN17toN20
import Derived.Test.YtadfohbogoocgaaGreatDoorRunN18toN19
import Derived.Test.YtadfohbogoocgaaGreatDoorN22
set_option linter.unusedVariables false
set_option linter.unusedSimpArgs false
namespace Go.Ai
open Go Go.RowKit Go.Proofs Go.Sp
variable {X : FuncId → List V → List (Nat × List V) → V → List (Nat × List V) → List Blk → Prop}
set_option maxRecDepth 10000
set_option maxHeartbeats 4000000
set_option linter.unusedVariables false
set_option linter.unusedSimpArgs false
theorem take_app (a b : List K) (ha : a.length ≤ 40) (i : Nat) (h : i = b.length ∨ (i ≤ b.length ∧ 40 ≤ a.length + i)) (hi : a.length + i ≤ 40) : a ++ b.take i = (a ++ b).take 40 := by
  rw [List.take_append, List.take_of_length_le ha]
  congr 1
  rcases h with rfl | ⟨h1, h2⟩
  · rw [List.take_length, List.take_of_length_le (by omega)]
  · congr 1; omega
def sN : Nat → Nat
  | 0 => newId (siteOf 1 1) 0
  | _ + 1 => newId (siteOf 5 6) 0
theorem sN_even (k : Nat) : sN k % 2 = 0 := by
  cases k <;> exact newId_even _ _
theorem sev (k : Nat) (b : Bool) : (sN k % 2 == 0 || b) = true := by rw [sN_even]; rfl
theorem hs2 {a b c d e : Bool} {n : Nat} (hn : n % 2 = 0) (h : (a && b && c && d && e) = true) : (a && b && c && d && n % 2 == 0 && e) = true := by
  rw [hn]; simpa using h
end Go.Ai

namespace Go.Ai
open Go Go.RowKit Go.Proofs Go.Sp
set_option maxRecDepth 10000
set_option maxHeartbeats 8000000
set_option linter.unusedVariables false
set_option linter.unusedSimpArgs false
end Go.Ai

namespace Go.Ai
open Go Go.RowKit Go.Proofs Go.Sp
set_option maxRecDepth 10000
set_option maxHeartbeats 8000000
set_option linter.unusedVariables false
set_option linter.unusedSimpArgs false
def m5 : M := ⟨1, 0, 5, 0, 0, 0, []⟩
theorem m5_may : mayM m5 = true := by kernel_rfl
theorem m5_len : (msgB m5).length = 7 := by kernel_rfl
theorem take_msg {m : M} (hm : mayM m = true) : AF Tryz.prog XX 30 [vs (strOfNums (msgB m))] (.tup [.agg (mC m), vi 0]) := by
  have h := packTake (l := msgB m) ⟨msgB_bytes m, Nat.lt_of_le_of_lt (msgB_len hm) (by decide)⟩
  have e := rdM_msg hm []
  rw [List.append_nil, if_pos rfl] at e
  rw [e] at h
  exact h
end Go.Ai
