/- A part of the proof: what the program does, step by step, over values without addresses. No conditions of mine. -/
import Derived.Test.YtadfohbogoocgaaDoorCoreAiZ7toAiF
set_option linter.unusedVariables false
set_option linter.unusedSimpArgs false
namespace Go.Ai
open Go Go.RowKit
variable {P : Program} {X : FuncId → List V → List (Nat × List V) → V → List (Nat × List V) → List Blk → Prop}
/-- Handed on to what is known of the code from here on. -/
theorem aw_hand {nt : Nat} {c : Code} {σ : St} {Q : Ex → St → Prop} (l : List V) (H : List (Nat × Blk)) (h : ∀ h0, AW P X nt c ⟨L l, HH (odds h0) H⟩ Q) (hl : renL σ.h H l σ.s 0) (hH : renH σ.h H H) : AW P X nt c σ Q := aw_canon l H hl hH h
/-- A block of the call's own handed over: the results' row. -/
theorem close_out {h : Nat → Option Blk} {b ver len : Nat} {k : Blk} (hk : live h b ver = some k) (hc : (k.wr && k.cl && b % 2 == 0) = true) (hl : len ≤ k.es.length) : closeR h [.sl b ver 0 len] [] = some ([.sl 0 0 0 len], [b], []) := by
  simp only [Bool.and_eq_true, beq_iff_eq] at hc
  have e : outOf h [] (.sl b ver 0 len) = some (b, len) := by
    simp only [outOf, hk]
    rw [if_pos ⟨hc.1.1, hc.1.2, hl, hc.2, by simp⟩]
  simp only [closeR, e]
  rfl
/-- A call's end that hands over a block. -/
theorem ret_out {fn : Func} {σ : St} {b ver len : Nat} {k : Blk} (h1 : resL P fn σ fn.results.toList = some [.sl b ver 0 len]) (hk : live σ.h b ver = some k) (hc : (k.wr && k.cl && b % 2 == 0) = true) (hl : len ≤ k.es.length) :
    retQ P fn 0 (.sl 0 0 0 len) [] [outBlk k] .ret σ := by
  refine ⟨.inr rfl, _, _, _, _, _, h1, close_out hk hc hl, rfl, rfl, rfl, ?_⟩
  simp [outsOf, (live_some hk).1]
end Go.Ai
