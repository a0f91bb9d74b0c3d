/- A part of the proof: what the program does, step by step, over values without addresses. No conditions of mine. -/
import Derived.Test.YtadfohbogoocgaaN5
set_option linter.unusedVariables false
set_option linter.unusedSimpArgs false
namespace Go.Ai
open Go Go.RowKit Go.Proofs Go.Sp
variable {X : FuncId → List V → List (Nat × List V) → V → List (Nat × List V) → List Blk → Prop}
set_option maxRecDepth 10000
set_option maxHeartbeats 4000000
set_option linter.unusedVariables false
set_option linter.unusedSimpArgs false
def takeTB (o : Option (Int × List Int)) : V := match o with
  | some (m, r) => if m > r.length then .tup [vs ⟨#[]⟩, vs ⟨#[]⟩, vo false] else .tup [vs (strOfNums (r.take m.toNat)), vs (strOfNums (r.drop m.toNat)), vo true]
  | none => .tup [vs ⟨#[]⟩, vs ⟨#[]⟩, vo false]
theorem rkN_good {p : Pt} (h : GoodP p) : GoodP (rkN p).2 := by
  have := (rkN_few (B := p.1.length) ⟨h.1, Nat.le_refl _⟩).1
  exact ⟨this.1, Nat.lt_of_le_of_lt this.2 h.2⟩
theorem rkT_good {p : Pt} (h : GoodP p) : GoodP (rkT p).2 := by
  have := (rkT_few (B := p.1.length) ⟨h.1, Nat.le_refl _⟩).1
  exact ⟨this.1, Nat.lt_of_le_of_lt this.2 h.2⟩
end Go.Ai
