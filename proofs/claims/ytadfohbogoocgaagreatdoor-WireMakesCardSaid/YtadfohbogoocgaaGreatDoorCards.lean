/-
  DERIVED. GIVEN WITH THE SEED: THE CARDS: each row of YtadfohbogoocgaaGreatDoorRows.lean that lists a variable, with what it lists TIED to the program's text (the seventh form; the later family's looks); each row that meets fmt, with fmt's text TOLD by the authors' own Lean function (tested against real Go, not proved from fmt's source: count such statements apart). THE CARD IS WHAT COUNTS. Prove the row's statement (the work); the ties are given (YtadfohbogoocgaaGreatDoorTie.lean); close each card by the builder's one call (the guide's Derived/Test/ToyasCard.lean, 'card_holds'). Laid BY PROGRAM, IN A SANDBOX (cutbox-door.mjs). By AI agents, Wed Nov 11 2026. No macro, syntax, notation, axiom, sorry.
-/
import Derived.Test.YtadfohbogoocgaaGreatDoorRows
import GoSem.ClaimSeven
namespace Go.Proofs.YtadfohbogoocgaaGreatDoor
namespace Rows

/-- THE TIED CARD OF 'lectionarylaw13.WireMakes'. -/
def wireMakesCard : Claim7 := { stood := { row := wireMakesRow, standIns := [], harness := (true, "01a789301d73391b62707ca933be8e1b2f2583163d9ee5f796cdafd1dcc751f5"), looks := false }, kinds := [], alts := [], laidByText := true, laidKinds := [.data, .pinned], laidTests := true, laidLooks := .later }
def WireMakesCardSaid : Prop := Claim7.holds Tryz.pinned (.plain (OpenSpec.ofChange wireMakesSpec)) wireMakesCard

/-- THE TIED CARD OF 'lectionarylaw13.WireAny'. -/
def wireAnyCard : Claim7 := { stood := { row := wireAnyRow, standIns := [], harness := (true, "01a789301d73391b62707ca933be8e1b2f2583163d9ee5f796cdafd1dcc751f5"), looks := false }, kinds := [], alts := [], laidByText := true, laidKinds := [.data, .pinned], laidTests := true, laidLooks := .later }
def WireAnyCardSaid : Prop := Claim7.holds Tryz.pinned (.plain (OpenSpec.ofChange wireAnySpec)) wireAnyCard

/-- THE SECOND FORM's CARD OF 'lectionarylaw13.WireMakes'. -/
def wireMakesUptoCard : Claim7 := { stood := { row := wireMakesUptoRow, standIns := [], harness := (true, "01a789301d73391b62707ca933be8e1b2f2583163d9ee5f796cdafd1dcc751f5"), looks := false }, kinds := [], alts := [], laidByText := true, laidKinds := [.data, .pinned], laidTests := true, laidLooks := .later }
def WireMakesUptoCardSaid : Prop := Claim7.holds Tryz.pinned (.plain (OpenSpec.upto wireMakesSpec)) wireMakesUptoCard

/-- THE SECOND FORM's CARD OF 'lectionarylaw13.WireAny'. -/
def wireAnyUptoCard : Claim7 := { stood := { row := wireAnyUptoRow, standIns := [], harness := (true, "01a789301d73391b62707ca933be8e1b2f2583163d9ee5f796cdafd1dcc751f5"), looks := false }, kinds := [], alts := [], laidByText := true, laidKinds := [.data, .pinned], laidTests := true, laidLooks := .later }
def WireAnyUptoCardSaid : Prop := Claim7.holds Tryz.pinned (.plain (OpenSpec.upto wireAnySpec)) wireAnyUptoCard
end Rows
end Go.Proofs.YtadfohbogoocgaaGreatDoor
