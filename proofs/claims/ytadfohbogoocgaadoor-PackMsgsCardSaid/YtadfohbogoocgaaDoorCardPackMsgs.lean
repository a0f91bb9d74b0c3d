/- The tied card of PackMsgs. -/
import Derived.Test.YtadfohbogoocgaaDoorLawPackMsgs
import Derived.Test.YtadfohbogoocgaaDoorCards
import Derived.Test.YtadfohbogoocgaaDoorTie
import Derived.SevenTiedAt
set_option linter.unusedVariables false
set_option linter.unusedSimpArgs false
namespace Go.Proofs.YtadfohbogoocgaaDoor
open Go
set_option maxRecDepth 100000
theorem packMsgsCard_holds : Rows.PackMsgsCardSaid :=
  Claim7.holds_tied_plain_at .later [] [.data, .pinned] true (true, "b03017ce16c7f0e9e81eabccb6b191d6e274bd4122f630dae13fd4c7069f2e86") false
    packMsgs_holds (fun _ h => by cases h) (by kernel_rfl) (fun _ h => by cases h) packMsgs_row_tie rfl ⟨rfl, rfl⟩ (by kernel_rfl) rfl
    (fun f fn hf hfn => by
      obtain rfl : f = 3 := Option.some.inj ((show Tryd.prog.funcNamed "lectionary/lectionarylaw12.PackMsgs" = some 3 by kernel_rfl).symm.trans hf) |>.symm
      obtain rfl : fn = Tryd.f3 := (Option.some.inj (Tryd.func3.symm.trans hfn)).symm
      exact ⟨by kernel_rfl, fun j t ht => by
        rw [Tryd.params3] at ht
        have hm : t ∈ [30] := by simpa using Array.mem_of_getElem? ht
        have hall : ([30].all fun u => !Tryd.prog.wantsStandIn u) = true := by kernel_rfl
        exact (show Tryd.prog.wantsStandIn t = false by simpa using List.all_eq_true.1 hall t hm)⟩)
    (by kernel_rfl)
#print axioms packMsgsCard_holds
end Go.Proofs.YtadfohbogoocgaaDoor
