/- The tied card of WireMakes. -/
import Derived.Test.YtadfohbogoocgaaGreatDoorLawWireMakes
import Derived.Test.YtadfohbogoocgaaGreatDoorCards
import Derived.Test.YtadfohbogoocgaaGreatDoorTie
import Derived.SevenTiedAt
set_option linter.unusedVariables false
set_option linter.unusedSimpArgs false
namespace Go.Proofs.YtadfohbogoocgaaGreatDoor
open Go
set_option maxRecDepth 100000
theorem wireMakesCard_holds : Rows.WireMakesCardSaid :=
  Claim7.holds_tied_plain_at .later [] [.data, .pinned] true (true, "01a789301d73391b62707ca933be8e1b2f2583163d9ee5f796cdafd1dcc751f5") false
    wireMakes_holds (fun _ h => by cases h) (by kernel_rfl) (fun _ h => by cases h) wireMakes_row_tie rfl ⟨rfl, rfl⟩ (by kernel_rfl) rfl
    (fun f fn hf hfn => by
      obtain rfl : f = 3 := Option.some.inj ((show Tryz.prog.funcNamed "lectionary/lectionarylaw13.WireMakes" = some 3 by kernel_rfl).symm.trans hf) |>.symm
      obtain rfl : fn = Tryz.f3 := (Option.some.inj (Tryz.func3.symm.trans hfn)).symm
      exact ⟨by kernel_rfl, fun j t ht => by
        rw [Tryz.params3] at ht
        have hm : t ∈ [33] := by simpa using Array.mem_of_getElem? ht
        have hall : ([33].all fun u => !Tryz.prog.wantsStandIn u) = true := by kernel_rfl
        exact (show Tryz.prog.wantsStandIn t = false by simpa using List.all_eq_true.1 hall t hm)⟩)
    (by kernel_rfl)
#print axioms wireMakesCard_holds
end Go.Proofs.YtadfohbogoocgaaGreatDoor
