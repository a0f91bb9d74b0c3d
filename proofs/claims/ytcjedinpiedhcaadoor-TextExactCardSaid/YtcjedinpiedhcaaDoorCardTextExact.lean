/- The tied card of TextExact. -/
import Derived.Test.YtcjedinpiedhcaaDoorLawTextExact
import Derived.Test.YtcjedinpiedhcaaDoorCards
import Derived.Test.YtcjedinpiedhcaaDoorTie
import Derived.SevenTiedAt
namespace Go.Proofs.YtcjedinpiedhcaaDoor
open Go
set_option maxRecDepth 100000
theorem textExactCard_holds : Rows.TextExactCardSaid :=
  Claim7.holds_tied_plain_at .later [] [.data, .pinned] true (true, "90a36e0b5a3bd806303e643fb7996b80394a341347a30eec71713f664f0e05f6") false
    textExact_holds (fun _ h => by cases h) (by kernel_rfl) (fun _ h => by cases h) textExact_row_tie rfl ⟨rfl, rfl⟩ (by kernel_rfl) rfl
    (fun f fn hf hfn => by
      obtain rfl : f = 4 := Option.some.inj ((show Tryd.prog.funcNamed "lectionary/lectionarylaw3.TextExact" = some 4 by kernel_rfl).symm.trans hf) |>.symm
      obtain rfl : fn = Tryd.f4 := (Option.some.inj (Tryd.func4.symm.trans hfn)).symm
      exact ⟨by kernel_rfl, fun j t ht => by
        rw [Tryd.params4] at ht
        have hm : t ∈ [26] := by simpa using Array.mem_of_getElem? ht
        have hall : ([26].all fun u => !Tryd.prog.wantsStandIn u) = true := by kernel_rfl
        exact (show Tryd.prog.wantsStandIn t = false by simpa using List.all_eq_true.1 hall t hm)⟩)
    (by kernel_rfl)
#print axioms textExactCard_holds
end Go.Proofs.YtcjedinpiedhcaaDoor
