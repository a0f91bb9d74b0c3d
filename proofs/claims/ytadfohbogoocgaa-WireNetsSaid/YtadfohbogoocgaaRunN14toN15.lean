/- A part of the proof: what the program does, step by step, over values without addresses. No conditions of mine. -/
import Derived.Test.YtadfohbogoocgaaN12
import Derived.Shelf.Strings.MapAny
import Derived.Lib.TrimU
import Derived.Test.YtadfohbogoocgaaCoreAiHtoAiSk
set_option linter.unusedVariables false
set_option linter.unusedSimpArgs false
namespace Go.Ai
open Go Go.RowKit Go.Proofs Go.Sp
set_option maxRecDepth 10000
set_option maxHeartbeats 4000000
set_option linter.unusedVariables false
set_option linter.unusedSimpArgs false
def r32 (x : Int) : List V := [.val (.int .i32 x)]
def runesV (s : ByteArray) : V := if May s then .tup [.isl 1 ((runesOf s).map r32), vo true] else .tup [.isl 1 [], vo false]
end Go.Ai

namespace Go.Ai
open Go Go.RowKit Go.Proofs Go.Sp
set_option maxRecDepth 10000
set_option maxHeartbeats 8000000
set_option linter.unusedVariables false
set_option linter.unusedSimpArgs false
def loopC : Code → Code
  | .seq (.seq _ (.block _ (.loop c))) _ => c
  | c => c
theorem ret_b {P : Program} {fn : Func} {σ : St} {t : Tmp} {v : Value} (hr : fn.results = #[.tmp t]) (hs : σ.s t = .val v) : retQ P fn 0 (.val v) [] [] .ret σ := by
  refine ⟨.inr rfl, [.val v], [.val v], [], [], [], ?_, rfl, rfl, rfl, rfl, rfl⟩
  rw [hr]
  simp [resL, hs]
end Go.Ai
