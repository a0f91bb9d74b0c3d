/- A part of the proof: what the program does, step by step, over values without addresses. No conditions of mine. -/
import Derived.Test.YtadfohbogoocgaaDoorAiE2
set_option linter.unusedVariables false
set_option linter.unusedSimpArgs false
namespace Go.Ai
open Go Go.RowKit
variable {P : Program} {X : FuncId → List V → List (Nat × List V) → V → List (Nat × List V) → List Blk → Prop}
/-- A call's end that hands over a block. -/
theorem ret_outs {fn : Func} {σ : St} {b ver len : Nat} {k : Blk} (h1 : resL P fn σ fn.results.toList = some [.sl b ver 0 len]) (hk : live σ.h b ver = some k) (hc : (k.wr && k.cl && b % 2 == 0) = true) (hl : len ≤ k.es.length) {outs : List Blk} (ho : [outBlk k] = outs) :
    retQ P fn 0 (.sl 0 0 0 len) [] outs .ret σ := by
  subst ho
  exact ret_out h1 hk hc hl
end Go.Ai
