/- A part of the proof: what the program does, step by step, over values without addresses. No conditions of mine. -/
import Derived.Test.YtadfohbogoocgaaDoorN10
import Derived.Test.YtadfohbogoocgaaDoorRunN19toAiH
set_option linter.unusedVariables false
set_option linter.unusedSimpArgs false
namespace Go.Ai
open Go Go.RowKit Go.Proofs Go.Sp
variable {X : FuncId → List V → List (Nat × List V) → V → List (Nat × List V) → List Blk → Prop}
set_option maxRecDepth 10000
set_option maxHeartbeats 8000000
set_option linter.unusedVariables false
set_option linter.unusedSimpArgs false
/-- The ops made here. -/
def forms : List O := [⟨1, 1, 1, ⟨0, 0, 0⟩, ⟨#[97, 98, 230, 151, 165]⟩, [], 0, 0, 0⟩, ⟨3, 200, 1, ⟨2, 300, 3⟩, ⟨#[97]⟩, [⟨1, 1, 0⟩, ⟨2, 300, 3⟩], 0, 0, 0⟩, ⟨8, 268435456, 1, ⟨0, 0, 0⟩, ⟨#[]⟩, [⟨2, 300, 3⟩], 0, 0, 0⟩, ⟨1, 3, 2, ⟨0, 0, 0⟩, ⟨#[]⟩, [], 2, 1, 268435456⟩]
theorem lawSome : AF Tryd.prog X 37 [] (.isl 11 (forms.map oC)) := by
  refine ac_mk (by kernel_rfl) Tryd.func37 rfl (lb rfl) rfl rfl ?_
  repeat (first | refine ao_e rfl rfl rfl rfl rfl ?_ | refine ao_eff (v := V.val (Value.bool true)) (ups := []) rfl rfl rfl rfl ?_ | refine ao_eff (v := V.val (Value.bool false)) (ups := []) rfl rfl rfl rfl ?_ | refine aw_seq ?_ | refine aw_region ?_ | refine aw_block ?_ | refine ao_nil ⟨fun h => (Bool.false_ne_true h).elim, ?_⟩ | refine ao_nil ⟨fun _ => ⟨by kernel_rfl, by kernel_rfl⟩, ?_⟩ | refine ao_skip rfl rfl rfl ?_ | refine aw_true rfl ?_ | refine aw_false rfl ?_ | refine aw_skip ?_ | refine aw_exit ?_)
  refine aw_canon [.sl (newId (siteOf 2 10) 0) 0 0 4] [(newId (siteOf 2 10) 0, ⟨0, 11, true, true, forms.map oC⟩)] ⟨.sl _ _ _ _ _ _ _ rfl rfl rfl rfl, trivial⟩ ⟨renB_rows rfl rfl rfl rfl rfl rfl rfl ⟨?_, ?_, ?_, ?_, trivial⟩, trivial⟩ (fun h0 => ?_)
  · exact ⟨nofun, .same _ rfl, nofun, .same _ rfl, nofun, .same _ rfl, nofun, .same _ rfl, nofun, .same _ rfl, nofun, .same _ rfl, nofun, .same _ rfl, nofun, .nil _, nofun, .same _ rfl, nofun, .same _ rfl, nofun, .same _ rfl, trivial⟩
  · exact ⟨nofun, .same _ rfl, nofun, .same _ rfl, nofun, .same _ rfl, nofun, .same _ rfl, nofun, .same _ rfl, nofun, .same _ rfl, nofun, .same _ rfl, nofun, ren_frz eC [⟨1, 1, 0⟩, ⟨2, 300, 3⟩] rfl rfl rfl rfl rfl rfl, nofun, .same _ rfl, nofun, .same _ rfl, nofun, .same _ rfl, trivial⟩
  · exact ⟨nofun, .same _ rfl, nofun, .same _ rfl, nofun, .same _ rfl, nofun, .same _ rfl, nofun, .same _ rfl, nofun, .same _ rfl, nofun, .same _ rfl, nofun, ren_frz eC [⟨2, 300, 3⟩] rfl rfl rfl rfl rfl rfl, nofun, .same _ rfl, nofun, .same _ rfl, nofun, .same _ rfl, trivial⟩
  · exact ⟨nofun, .same _ rfl, nofun, .same _ rfl, nofun, .same _ rfl, nofun, .same _ rfl, nofun, .same _ rfl, nofun, .same _ rfl, nofun, .same _ rfl, nofun, .nil _, nofun, .same _ rfl, nofun, .same _ rfl, nofun, .same _ rfl, trivial⟩
  refine aw_canon [.isl 11 (forms.map oC)] [] ⟨ren_frz oC forms rfl rfl rfl rfl rfl rfl, trivial⟩ trivial (fun h0 => ?_)
  exact aw_ret ⟨.inr rfl, _, _, _, _, _, rfl, rfl, rfl, rfl, rfl, rfl⟩
theorem lawNum (n : Int) : AF Tryd.prog X 21 [vi n] (vi n) := by
  refine ac_mk (by kernel_rfl) Tryd.func21 rfl (lb rfl) rfl rfl ?_
  repeat (first | refine ao_e rfl rfl rfl rfl rfl ?_ | refine ao_eff (v := V.val (Value.bool true)) (ups := []) rfl rfl rfl rfl ?_ | refine ao_eff (v := V.val (Value.bool false)) (ups := []) rfl rfl rfl rfl ?_ | refine aw_seq ?_ | refine aw_region ?_ | refine aw_block ?_ | refine ao_nil ⟨fun h => (Bool.false_ne_true h).elim, ?_⟩ | refine ao_nil ⟨fun _ => ⟨by kernel_rfl, by kernel_rfl⟩, ?_⟩ | refine ao_skip rfl rfl rfl ?_ | refine aw_true rfl ?_ | refine aw_false rfl ?_ | refine aw_skip ?_ | refine aw_exit ?_)
  exact aw_ret ⟨.inr rfl, _, _, _, _, _, rfl, rfl, rfl, rfl, rfl, rfl⟩
end Go.Ai
