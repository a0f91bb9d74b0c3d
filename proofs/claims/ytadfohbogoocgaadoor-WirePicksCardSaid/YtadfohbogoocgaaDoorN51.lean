/- A part of the proof: what the program does, step by step, over values without addresses. No conditions of mine. -/
import Derived.Test.YtadfohbogoocgaaDoorN50
set_option linter.unusedVariables false
set_option linter.unusedSimpArgs false
namespace Go.Ai
open Go Go.RowKit Go.Proofs Go.Sp
variable {X : FuncId → List V → List (Nat × List V) → V → List (Nat × List V) → List Blk → Prop}
set_option maxRecDepth 10000
set_option maxHeartbeats 4000000
set_option linter.unusedVariables false
set_option linter.unusedSimpArgs false
theorem ef_subi {P : Program} {h : Nat → Option Blk} {site : Nat} {x y : Operand} {T yT : TypeId} {k : IntKind} {a b : Int} : eff P site (.binOp .sub T x y yT) [.val (.int k a), .val (.int k b)] h = some (.val (.int k (k.wrap (a - b))), []) := by
  simp [eff, effBin, toVal, eqGuard, binOp, Op.intArith, pr, same, ofValue, ofCell, bind, pure, Sem.bind]
def inB (l : List K) (n : Int) : Bool := decide (0 ≤ n ∧ n ≤ (l.length : Int) - 1)
end Go.Ai
