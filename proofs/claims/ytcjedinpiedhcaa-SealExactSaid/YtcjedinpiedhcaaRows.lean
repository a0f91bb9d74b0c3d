/-
  No cell of these rows narrows 'for every input' (looked for: loops, veiled, ifaces, maps, wideKeys, modest, calm, conditions, laid).
  DERIVED. THE GIVEN ROWS OF THIS SEAT. 10 by the template 'for every input the law returns true; each argument reads behind the call as it read before'; 0 by the template 'total and deterministic' (their statements: YtcjedinpiedhcaaTotals.lean).
  GIVEN WITH THE SEED: the statements are not yours to turn. If you find one false, say at which input.
  Laid BY PROGRAM, IN A SANDBOX (cutbox-rows.mjs): the forced cells as the released guide's own fill.sh prints them over the translation 2209b4e59b89e954… (all of the seat's roots in one cut). By AI agents, Wed Nov 11 2026. No macro, syntax, notation, axiom, sorry.
-/
import Derived.Test.YtcjedinpiedhcaaChecked
import GoSem.Claim
import GoSem.ClaimJoined
import GoSem.ClaimMapViews
import Derived.JoinedTies
import Derived.KernelRfl
namespace Go.Proofs.Ytcjedinpiedhcaa
/- THE CELL 'sum', in the pinned program and in every row, IS THE sha256 OF THE DUMP (.gsa) THAT YtcjedinpiedhcaaProg.lean LOADS. Nothing in Lean hashes anything: it is a label: what it is worth is what the hold of that sum in a sandbox is worth. -/
noncomputable def Try.pinned : Pinned := { name := "ytcjedinpiedhcaa", sum := "2209b4e59b89e9545292ad2c089a86373360c64de5063947b00d9f504f23cbf2", checked := Try.checked }
namespace Rows
def none {H : Type} : Left H := { results := [], args := [] }

/-- 'lectionarylaw1.NumberEdges': WHATEVER THE INPUT: true; the input reads as it did. -/
def numberEdgesSpec : ChangeSpec := { name := "numberEdges", fn := fun _ => fun
  | [d] => { results := [.lit (.bool true)], args := [d] }
  | _ => none }
def numberEdgesRow : OpenClaim := { program := "ytcjedinpiedhcaa", sum := "2209b4e59b89e9545292ad2c089a86373360c64de5063947b00d9f504f23cbf2", func := "lectionary/lectionarylaw1.NumberEdges", spec := "numberEdges", apart := false }
def NumberEdgesSaid : Prop := numberEdgesRow.holds Try.pinned (OpenSpec.ofChange numberEdgesSpec)

/-- ITS FALSE NEIGHBOUR: 'it returns false'. Refute it at one input. -/
def numberEdgesWrong : ChangeSpec := { name := "numberEdges", fn := fun _ => fun
  | [d] => { results := [.lit (.bool false)], args := [d] }
  | _ => none }
def NumberEdgesWrongFalsely : Prop := numberEdgesRow.holds Try.pinned (OpenSpec.ofChange numberEdgesWrong)

/-- 'lectionarylaw1.NumberTexts': WHATEVER THE INPUT: true; the input reads as it did. -/
def numberTextsSpec : ChangeSpec := { name := "numberTexts", fn := fun _ => fun
  | [d] => { results := [.lit (.bool true)], args := [d] }
  | _ => none }
def numberTextsRow : OpenClaim := { program := "ytcjedinpiedhcaa", sum := "2209b4e59b89e9545292ad2c089a86373360c64de5063947b00d9f504f23cbf2", func := "lectionary/lectionarylaw1.NumberTexts", spec := "numberTexts", apart := false }
def NumberTextsSaid : Prop := numberTextsRow.holds Try.pinned (OpenSpec.ofChange numberTextsSpec)

/-- ITS FALSE NEIGHBOUR: 'it returns false'. Refute it at one input. -/
def numberTextsWrong : ChangeSpec := { name := "numberTexts", fn := fun _ => fun
  | [d] => { results := [.lit (.bool false)], args := [d] }
  | _ => none }
def NumberTextsWrongFalsely : Prop := numberTextsRow.holds Try.pinned (OpenSpec.ofChange numberTextsWrong)

/-- 'lectionarylaw1.NumberExact': WHATEVER THE INPUT: true; the input reads as it did. -/
def numberExactSpec : ChangeSpec := { name := "numberExact", fn := fun _ => fun
  | [d] => { results := [.lit (.bool true)], args := [d] }
  | _ => none }
def numberExactRow : OpenClaim := { program := "ytcjedinpiedhcaa", sum := "2209b4e59b89e9545292ad2c089a86373360c64de5063947b00d9f504f23cbf2", func := "lectionary/lectionarylaw1.NumberExact", spec := "numberExact", apart := false }
def NumberExactSaid : Prop := numberExactRow.holds Try.pinned (OpenSpec.ofChange numberExactSpec)

/-- ITS FALSE NEIGHBOUR: 'it returns false'. Refute it at one input. -/
def numberExactWrong : ChangeSpec := { name := "numberExact", fn := fun _ => fun
  | [d] => { results := [.lit (.bool false)], args := [d] }
  | _ => none }
def NumberExactWrongFalsely : Prop := numberExactRow.holds Try.pinned (OpenSpec.ofChange numberExactWrong)

/-- 'lectionarylaw1.NumberBack': WHATEVER THE INPUT: true; the input reads as it did. -/
def numberBackSpec : ChangeSpec := { name := "numberBack", fn := fun _ => fun
  | [d] => { results := [.lit (.bool true)], args := [d] }
  | _ => none }
def numberBackRow : OpenClaim := { program := "ytcjedinpiedhcaa", sum := "2209b4e59b89e9545292ad2c089a86373360c64de5063947b00d9f504f23cbf2", func := "lectionary/lectionarylaw1.NumberBack", spec := "numberBack", apart := false }
def NumberBackSaid : Prop := numberBackRow.holds Try.pinned (OpenSpec.ofChange numberBackSpec)

/-- ITS FALSE NEIGHBOUR: 'it returns false'. Refute it at one input. -/
def numberBackWrong : ChangeSpec := { name := "numberBack", fn := fun _ => fun
  | [d] => { results := [.lit (.bool false)], args := [d] }
  | _ => none }
def NumberBackWrongFalsely : Prop := numberBackRow.holds Try.pinned (OpenSpec.ofChange numberBackWrong)

/-- 'lectionarylaw3.TextCuts': WHATEVER THE INPUT: true; the input reads as it did. -/
def textCutsSpec : ChangeSpec := { name := "textCuts", fn := fun _ => fun
  | [d] => { results := [.lit (.bool true)], args := [d] }
  | _ => none }
def textCutsRow : OpenClaim := { program := "ytcjedinpiedhcaa", sum := "2209b4e59b89e9545292ad2c089a86373360c64de5063947b00d9f504f23cbf2", func := "lectionary/lectionarylaw3.TextCuts", spec := "textCuts", unfollowed := true, recurses := true, apart := false }
def TextCutsSaid : Prop := textCutsRow.holds Try.pinned (OpenSpec.ofChange textCutsSpec)

/-- ITS FALSE NEIGHBOUR: 'it returns false'. Refute it at one input. -/
def textCutsWrong : ChangeSpec := { name := "textCuts", fn := fun _ => fun
  | [d] => { results := [.lit (.bool false)], args := [d] }
  | _ => none }
def TextCutsWrongFalsely : Prop := textCutsRow.holds Try.pinned (OpenSpec.ofChange textCutsWrong)

/-- 'lectionarylaw2.SealExact': WHATEVER THE INPUT: true; the input reads as it did. -/
def sealExactSpec : ChangeSpec := { name := "sealExact", fn := fun _ => fun
  | [d] => { results := [.lit (.bool true)], args := [d] }
  | _ => none }
def sealExactRow : OpenClaim := { program := "ytcjedinpiedhcaa", sum := "2209b4e59b89e9545292ad2c089a86373360c64de5063947b00d9f504f23cbf2", func := "lectionary/lectionarylaw2.SealExact", spec := "sealExact", apart := false }
def SealExactSaid : Prop := sealExactRow.holds Try.pinned (OpenSpec.ofChange sealExactSpec)

/-- ITS FALSE NEIGHBOUR: 'it returns false'. Refute it at one input. -/
def sealExactWrong : ChangeSpec := { name := "sealExact", fn := fun _ => fun
  | [d] => { results := [.lit (.bool false)], args := [d] }
  | _ => none }
def SealExactWrongFalsely : Prop := sealExactRow.holds Try.pinned (OpenSpec.ofChange sealExactWrong)

/-- 'lectionarylaw2.SealBack': WHATEVER THE INPUT: true; the input reads as it did. -/
def sealBackSpec : ChangeSpec := { name := "sealBack", fn := fun _ => fun
  | [d] => { results := [.lit (.bool true)], args := [d] }
  | _ => none }
def sealBackRow : OpenClaim := { program := "ytcjedinpiedhcaa", sum := "2209b4e59b89e9545292ad2c089a86373360c64de5063947b00d9f504f23cbf2", func := "lectionary/lectionarylaw2.SealBack", spec := "sealBack", apart := false }
def SealBackSaid : Prop := sealBackRow.holds Try.pinned (OpenSpec.ofChange sealBackSpec)

/-- ITS FALSE NEIGHBOUR: 'it returns false'. Refute it at one input. -/
def sealBackWrong : ChangeSpec := { name := "sealBack", fn := fun _ => fun
  | [d] => { results := [.lit (.bool false)], args := [d] }
  | _ => none }
def SealBackWrongFalsely : Prop := sealBackRow.holds Try.pinned (OpenSpec.ofChange sealBackWrong)

/-- 'lectionarylaw2.SealEdges': WHATEVER THE INPUT: true; the input reads as it did. -/
def sealEdgesSpec : ChangeSpec := { name := "sealEdges", fn := fun _ => fun
  | [d] => { results := [.lit (.bool true)], args := [d] }
  | _ => none }
def sealEdgesRow : OpenClaim := { program := "ytcjedinpiedhcaa", sum := "2209b4e59b89e9545292ad2c089a86373360c64de5063947b00d9f504f23cbf2", func := "lectionary/lectionarylaw2.SealEdges", spec := "sealEdges", apart := false }
def SealEdgesSaid : Prop := sealEdgesRow.holds Try.pinned (OpenSpec.ofChange sealEdgesSpec)

/-- ITS FALSE NEIGHBOUR: 'it returns false'. Refute it at one input. -/
def sealEdgesWrong : ChangeSpec := { name := "sealEdges", fn := fun _ => fun
  | [d] => { results := [.lit (.bool false)], args := [d] }
  | _ => none }
def SealEdgesWrongFalsely : Prop := sealEdgesRow.holds Try.pinned (OpenSpec.ofChange sealEdgesWrong)

/-- 'lectionarylaw2.SealTorn': WHATEVER THE INPUT: true; the input reads as it did. -/
def sealTornSpec : ChangeSpec := { name := "sealTorn", fn := fun _ => fun
  | [d] => { results := [.lit (.bool true)], args := [d] }
  | _ => none }
def sealTornRow : OpenClaim := { program := "ytcjedinpiedhcaa", sum := "2209b4e59b89e9545292ad2c089a86373360c64de5063947b00d9f504f23cbf2", func := "lectionary/lectionarylaw2.SealTorn", spec := "sealTorn", apart := false }
def SealTornSaid : Prop := sealTornRow.holds Try.pinned (OpenSpec.ofChange sealTornSpec)

/-- ITS FALSE NEIGHBOUR: 'it returns false'. Refute it at one input. -/
def sealTornWrong : ChangeSpec := { name := "sealTorn", fn := fun _ => fun
  | [d] => { results := [.lit (.bool false)], args := [d] }
  | _ => none }
def SealTornWrongFalsely : Prop := sealTornRow.holds Try.pinned (OpenSpec.ofChange sealTornWrong)

/-- 'lectionarylaw3.TextBack': WHATEVER THE INPUT: true; the input reads as it did. -/
def textBackSpec : ChangeSpec := { name := "textBack", fn := fun _ => fun
  | [d] => { results := [.lit (.bool true)], args := [d] }
  | _ => none }
def textBackRow : OpenClaim := { program := "ytcjedinpiedhcaa", sum := "2209b4e59b89e9545292ad2c089a86373360c64de5063947b00d9f504f23cbf2", func := "lectionary/lectionarylaw3.TextBack", spec := "textBack", unfollowed := true, recurses := true, apart := false }
def TextBackSaid : Prop := textBackRow.holds Try.pinned (OpenSpec.ofChange textBackSpec)

/-- ITS FALSE NEIGHBOUR: 'it returns false'. Refute it at one input. -/
def textBackWrong : ChangeSpec := { name := "textBack", fn := fun _ => fun
  | [d] => { results := [.lit (.bool false)], args := [d] }
  | _ => none }
def TextBackWrongFalsely : Prop := textBackRow.holds Try.pinned (OpenSpec.ofChange textBackWrong)

/- THE SECOND FORM. 'bulk': how many values and letters a reading holds, each counted each time it is reached (what is shared counts as often as it is met; a slice's spare places count too). A statement '..UptoSaid' is the law's where the arguments, and the package variables that the reading takes, are together of bulk at most 1048576: NARROWER than '..Said'. Prove '..Said' where nothing that the law and all that it calls make is longer than what came in: it says more and counts as full. Else prove '..UptoSaid'. A law counts once. -/
mutual
def uptoBulk {H : Type} : DataW H → Nat
  | .lit (.string bytes) => bytes.length + 1
  | .lit _ => 1
  | .nil => 1
  | .ptr d => uptoBulk d + 1
  | .slice elems spare => uptoBulkAll elems + uptoBulkAll spare + 1
  | .agg parts => uptoBulkAll parts + 1
  | .iface _ d => uptoBulk d + 1
  | .map entries => uptoBulkEntries entries + 1
  | .held _ => 1
def uptoBulkAll {H : Type} : List (DataW H) → Nat
  | [] => 0
  | d :: r => uptoBulk d + uptoBulkAll r
def uptoBulkEntries {H : Type} : List (Lit × DataW H) → Nat
  | [] => 0
  | x :: r => uptoBulkEntry x + uptoBulkEntries r
def uptoBulkEntry {H : Type} : Lit × DataW H → Nat
  | (.string bytes, d) => bytes.length + uptoBulk d + 1
  | (_, d) => uptoBulk d + 1
 end
def uptoSmall : (H : Type) → List (DataW H) → Bool := fun _ ds => decide (uptoBulkAll ds ≤ 1048576)
def OpenSpec.upto (s : _root_.Go.ChangeSpec) : _root_.Go.OpenSpec := { _root_.Go.OpenSpec.ofChange s with cond := some uptoSmall }

/-- 'lectionarylaw1.NumberEdges', WHERE WHAT IT READS IS OF BULK AT MOST 1048576: true; the input reads as it did. -/
def numberEdgesUptoRow : OpenClaim := { program := "ytcjedinpiedhcaa", sum := "2209b4e59b89e9545292ad2c089a86373360c64de5063947b00d9f504f23cbf2", func := "lectionary/lectionarylaw1.NumberEdges", spec := "numberEdges", apart := false, narrowed := true }
def NumberEdgesUptoSaid : Prop := numberEdgesUptoRow.holds Try.pinned (OpenSpec.upto numberEdgesSpec)

/-- 'lectionarylaw1.NumberTexts', WHERE WHAT IT READS IS OF BULK AT MOST 1048576: true; the input reads as it did. -/
def numberTextsUptoRow : OpenClaim := { program := "ytcjedinpiedhcaa", sum := "2209b4e59b89e9545292ad2c089a86373360c64de5063947b00d9f504f23cbf2", func := "lectionary/lectionarylaw1.NumberTexts", spec := "numberTexts", apart := false, narrowed := true }
def NumberTextsUptoSaid : Prop := numberTextsUptoRow.holds Try.pinned (OpenSpec.upto numberTextsSpec)

/-- 'lectionarylaw1.NumberExact', WHERE WHAT IT READS IS OF BULK AT MOST 1048576: true; the input reads as it did. -/
def numberExactUptoRow : OpenClaim := { program := "ytcjedinpiedhcaa", sum := "2209b4e59b89e9545292ad2c089a86373360c64de5063947b00d9f504f23cbf2", func := "lectionary/lectionarylaw1.NumberExact", spec := "numberExact", apart := false, narrowed := true }
def NumberExactUptoSaid : Prop := numberExactUptoRow.holds Try.pinned (OpenSpec.upto numberExactSpec)

/-- 'lectionarylaw1.NumberBack', WHERE WHAT IT READS IS OF BULK AT MOST 1048576: true; the input reads as it did. -/
def numberBackUptoRow : OpenClaim := { program := "ytcjedinpiedhcaa", sum := "2209b4e59b89e9545292ad2c089a86373360c64de5063947b00d9f504f23cbf2", func := "lectionary/lectionarylaw1.NumberBack", spec := "numberBack", apart := false, narrowed := true }
def NumberBackUptoSaid : Prop := numberBackUptoRow.holds Try.pinned (OpenSpec.upto numberBackSpec)

/-- 'lectionarylaw3.TextCuts', WHERE WHAT IT READS IS OF BULK AT MOST 1048576: true; the input reads as it did. -/
def textCutsUptoRow : OpenClaim := { program := "ytcjedinpiedhcaa", sum := "2209b4e59b89e9545292ad2c089a86373360c64de5063947b00d9f504f23cbf2", func := "lectionary/lectionarylaw3.TextCuts", spec := "textCuts", unfollowed := true, recurses := true, apart := false, narrowed := true }
def TextCutsUptoSaid : Prop := textCutsUptoRow.holds Try.pinned (OpenSpec.upto textCutsSpec)

/-- 'lectionarylaw2.SealExact', WHERE WHAT IT READS IS OF BULK AT MOST 1048576: true; the input reads as it did. -/
def sealExactUptoRow : OpenClaim := { program := "ytcjedinpiedhcaa", sum := "2209b4e59b89e9545292ad2c089a86373360c64de5063947b00d9f504f23cbf2", func := "lectionary/lectionarylaw2.SealExact", spec := "sealExact", apart := false, narrowed := true }
def SealExactUptoSaid : Prop := sealExactUptoRow.holds Try.pinned (OpenSpec.upto sealExactSpec)

/-- 'lectionarylaw2.SealBack', WHERE WHAT IT READS IS OF BULK AT MOST 1048576: true; the input reads as it did. -/
def sealBackUptoRow : OpenClaim := { program := "ytcjedinpiedhcaa", sum := "2209b4e59b89e9545292ad2c089a86373360c64de5063947b00d9f504f23cbf2", func := "lectionary/lectionarylaw2.SealBack", spec := "sealBack", apart := false, narrowed := true }
def SealBackUptoSaid : Prop := sealBackUptoRow.holds Try.pinned (OpenSpec.upto sealBackSpec)

/-- 'lectionarylaw2.SealEdges', WHERE WHAT IT READS IS OF BULK AT MOST 1048576: true; the input reads as it did. -/
def sealEdgesUptoRow : OpenClaim := { program := "ytcjedinpiedhcaa", sum := "2209b4e59b89e9545292ad2c089a86373360c64de5063947b00d9f504f23cbf2", func := "lectionary/lectionarylaw2.SealEdges", spec := "sealEdges", apart := false, narrowed := true }
def SealEdgesUptoSaid : Prop := sealEdgesUptoRow.holds Try.pinned (OpenSpec.upto sealEdgesSpec)

/-- 'lectionarylaw2.SealTorn', WHERE WHAT IT READS IS OF BULK AT MOST 1048576: true; the input reads as it did. -/
def sealTornUptoRow : OpenClaim := { program := "ytcjedinpiedhcaa", sum := "2209b4e59b89e9545292ad2c089a86373360c64de5063947b00d9f504f23cbf2", func := "lectionary/lectionarylaw2.SealTorn", spec := "sealTorn", apart := false, narrowed := true }
def SealTornUptoSaid : Prop := sealTornUptoRow.holds Try.pinned (OpenSpec.upto sealTornSpec)

/-- 'lectionarylaw3.TextBack', WHERE WHAT IT READS IS OF BULK AT MOST 1048576: true; the input reads as it did. -/
def textBackUptoRow : OpenClaim := { program := "ytcjedinpiedhcaa", sum := "2209b4e59b89e9545292ad2c089a86373360c64de5063947b00d9f504f23cbf2", func := "lectionary/lectionarylaw3.TextBack", spec := "textBack", unfollowed := true, recurses := true, apart := false, narrowed := true }
def TextBackUptoSaid : Prop := textBackUptoRow.holds Try.pinned (OpenSpec.upto textBackSpec)

end Rows
end Go.Proofs.Ytcjedinpiedhcaa
