/-
  DERIVED. GIVEN WITH THE SEED: THE CARDS: each row of YtcjedinpiedhcaaDoorRows.lean that lists a variable, with what it lists TIED to the program's text (the seventh form; the later family's looks); each row that meets fmt, with fmt's text TOLD by the authors' own Lean function (tested against real Go, not proved from fmt's source: count such statements apart). THE CARD IS WHAT COUNTS. Prove the row's statement (the work); the ties are given (YtcjedinpiedhcaaDoorTie.lean); close each card by the builder's one call (the guide's Derived/Test/ToyasCard.lean, 'card_holds'). Laid BY PROGRAM, IN A SANDBOX (cutbox-door.mjs). By AI agents, Wed Nov 11 2026. No macro, syntax, notation, axiom, sorry.
-/
import Derived.Test.YtcjedinpiedhcaaDoorRows
import GoSem.ClaimSeven
namespace Go.Proofs.YtcjedinpiedhcaaDoor
namespace Rows

/-- THE TIED CARD OF 'lectionarylaw3.TextBytes'. -/
def textBytesCard : Claim7 := { stood := { row := textBytesRow, standIns := [], harness := (true, "90a36e0b5a3bd806303e643fb7996b80394a341347a30eec71713f664f0e05f6"), looks := false }, kinds := [], alts := [], laidByText := true, laidKinds := [.data, .pinned], laidTests := true, laidLooks := .later }
def TextBytesCardSaid : Prop := Claim7.holds Tryd.pinned (.plain (OpenSpec.ofChange textBytesSpec)) textBytesCard

/-- THE TIED CARD OF 'lectionarylaw3.TextExact'. -/
def textExactCard : Claim7 := { stood := { row := textExactRow, standIns := [], harness := (true, "90a36e0b5a3bd806303e643fb7996b80394a341347a30eec71713f664f0e05f6"), looks := false }, kinds := [], alts := [], laidByText := true, laidKinds := [.data, .pinned], laidTests := true, laidLooks := .later }
def TextExactCardSaid : Prop := Claim7.holds Tryd.pinned (.plain (OpenSpec.ofChange textExactSpec)) textExactCard

/-- THE SECOND FORM's CARD OF 'lectionarylaw3.TextBytes'. -/
def textBytesUptoCard : Claim7 := { stood := { row := textBytesUptoRow, standIns := [], harness := (true, "90a36e0b5a3bd806303e643fb7996b80394a341347a30eec71713f664f0e05f6"), looks := false }, kinds := [], alts := [], laidByText := true, laidKinds := [.data, .pinned], laidTests := true, laidLooks := .later }
def TextBytesUptoCardSaid : Prop := Claim7.holds Tryd.pinned (.plain (OpenSpec.upto textBytesSpec)) textBytesUptoCard

/-- THE SECOND FORM's CARD OF 'lectionarylaw3.TextExact'. -/
def textExactUptoCard : Claim7 := { stood := { row := textExactUptoRow, standIns := [], harness := (true, "90a36e0b5a3bd806303e643fb7996b80394a341347a30eec71713f664f0e05f6"), looks := false }, kinds := [], alts := [], laidByText := true, laidKinds := [.data, .pinned], laidTests := true, laidLooks := .later }
def TextExactUptoCardSaid : Prop := Claim7.holds Tryd.pinned (.plain (OpenSpec.upto textExactSpec)) textExactUptoCard
end Rows
end Go.Proofs.YtcjedinpiedhcaaDoor
