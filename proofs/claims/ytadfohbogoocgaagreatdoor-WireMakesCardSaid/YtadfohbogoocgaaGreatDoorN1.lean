/- A part of the proof: what the program does, step by step, over values without addresses. No conditions of mine. -/
import Derived.Test.YtadfohbogoocgaaGreatDoorCoreAiZ7toAiF
import Derived.Test.YtadfohbogoocgaaGreatDoorProg
import Derived.KernelRfl
set_option linter.unusedVariables false
set_option linter.unusedSimpArgs false
namespace Go.Ai
open Go Go.RowKit Go.Proofs
variable {X : FuncId → List V → List (Nat × List V) → V → List (Nat × List V) → List Blk → Prop}
set_option maxRecDepth 10000
set_option linter.unusedVariables false
set_option linter.unusedSimpArgs false

theorem numIs (n : Int) : AF Tryz.prog X 86 [vi n] (vo (decide (0 ≤ n ∧ n ≤ 268435456))) := by
  refine ac_mk (by kernel_rfl) Tryz.func86 rfl (lb rfl) rfl rfl ?_
  repeat (first | refine ao_e rfl rfl rfl rfl rfl ?_ | refine ao_eff (v := V.val (Value.bool true)) (ups := []) rfl rfl rfl rfl ?_ | refine ao_eff (v := V.val (Value.bool false)) (ups := []) rfl rfl rfl rfl ?_ | refine aw_seq ?_ | refine aw_region ?_ | refine aw_block ?_ | refine ao_nil ⟨fun h => (Bool.false_ne_true h).elim, ?_⟩ | refine ao_nil ⟨fun _ => ⟨by kernel_rfl, by kernel_rfl⟩, ?_⟩ | refine ao_skip rfl rfl rfl ?_ | refine aw_true rfl ?_ | refine aw_false rfl ?_ | refine aw_skip ?_ | refine aw_exit ?_)
  refine ao_dec rfl rfl rfl rfl (fun hb => ?_) (fun hb => ?_)
  · repeat (first | refine ao_e rfl rfl rfl rfl rfl ?_ | refine ao_eff (v := V.val (Value.bool true)) (ups := []) rfl rfl rfl rfl ?_ | refine ao_eff (v := V.val (Value.bool false)) (ups := []) rfl rfl rfl rfl ?_ | refine aw_seq ?_ | refine aw_region ?_ | refine aw_block ?_ | refine ao_nil ⟨fun h => (Bool.false_ne_true h).elim, ?_⟩ | refine ao_nil ⟨fun _ => ⟨by kernel_rfl, by kernel_rfl⟩, ?_⟩ | refine ao_skip rfl rfl rfl ?_ | refine aw_true rfl ?_ | refine aw_false rfl ?_ | refine aw_skip ?_ | refine aw_exit ?_)
    refine ao_dec rfl rfl rfl rfl (fun hb => ?_) (fun hb => ?_)
    · repeat (first | refine ao_e rfl rfl rfl rfl rfl ?_ | refine ao_eff (v := V.val (Value.bool true)) (ups := []) rfl rfl rfl rfl ?_ | refine ao_eff (v := V.val (Value.bool false)) (ups := []) rfl rfl rfl rfl ?_ | refine aw_seq ?_ | refine aw_region ?_ | refine aw_block ?_ | refine ao_nil ⟨fun h => (Bool.false_ne_true h).elim, ?_⟩ | refine ao_nil ⟨fun _ => ⟨by kernel_rfl, by kernel_rfl⟩, ?_⟩ | refine ao_skip rfl rfl rfl ?_ | refine aw_true rfl ?_ | refine aw_false rfl ?_ | refine aw_skip ?_ | refine aw_exit ?_)
      refine aw_ret ⟨.inr rfl, _, _, _, _, _, rfl, rfl, rfl, rfl, ?_, rfl⟩
      congr 2; exact decide_eq_true (by omega)
    · repeat (first | refine ao_e rfl rfl rfl rfl rfl ?_ | refine ao_eff (v := V.val (Value.bool true)) (ups := []) rfl rfl rfl rfl ?_ | refine ao_eff (v := V.val (Value.bool false)) (ups := []) rfl rfl rfl rfl ?_ | refine aw_seq ?_ | refine aw_region ?_ | refine aw_block ?_ | refine ao_nil ⟨fun h => (Bool.false_ne_true h).elim, ?_⟩ | refine ao_nil ⟨fun _ => ⟨by kernel_rfl, by kernel_rfl⟩, ?_⟩ | refine ao_skip rfl rfl rfl ?_ | refine aw_true rfl ?_ | refine aw_false rfl ?_ | refine aw_skip ?_ | refine aw_exit ?_)
      refine aw_ret ⟨.inr rfl, _, _, _, _, _, rfl, rfl, rfl, rfl, ?_, rfl⟩
      congr 2; exact decide_eq_false (by omega)
  · repeat (first | refine ao_e rfl rfl rfl rfl rfl ?_ | refine ao_eff (v := V.val (Value.bool true)) (ups := []) rfl rfl rfl rfl ?_ | refine ao_eff (v := V.val (Value.bool false)) (ups := []) rfl rfl rfl rfl ?_ | refine aw_seq ?_ | refine aw_region ?_ | refine aw_block ?_ | refine ao_nil ⟨fun h => (Bool.false_ne_true h).elim, ?_⟩ | refine ao_nil ⟨fun _ => ⟨by kernel_rfl, by kernel_rfl⟩, ?_⟩ | refine ao_skip rfl rfl rfl ?_ | refine aw_true rfl ?_ | refine aw_false rfl ?_ | refine aw_skip ?_ | refine aw_exit ?_)
    refine aw_ret ⟨.inr rfl, _, _, _, _, _, rfl, rfl, rfl, rfl, ?_, rfl⟩
    congr 2; exact decide_eq_false (by omega)
end Go.Ai
