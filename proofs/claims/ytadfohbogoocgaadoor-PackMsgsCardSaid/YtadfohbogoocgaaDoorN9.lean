/- A part of the proof: what the program does, step by step, over values without addresses. No conditions of mine. -/
import Derived.Test.YtadfohbogoocgaaDoorN8
set_option linter.unusedVariables false
set_option linter.unusedSimpArgs false
namespace Go.Ai
open Go Go.RowKit Go.Proofs Go.Sp
set_option maxRecDepth 10000
set_option maxHeartbeats 4000000
set_option linter.unusedVariables false
set_option linter.unusedSimpArgs false
theorem opEdit (o : O) (hf : Fit o) : AF Tryd.prog XX 99 [.agg (oC o)] (vo (editB o)) := by
  refine ac_mk (by kernel_rfl) Tryd.func99 rfl (lb rfl) rfl rfl ?_
  repeat' (first | refine ao_e rfl rfl rfl rfl rfl ?_ | refine ao_eff (v := V.val (Value.bool true)) (ups := []) rfl rfl rfl rfl ?_ | refine ao_eff (v := V.val (Value.bool false)) (ups := []) rfl rfl rfl rfl ?_ | refine aw_seq ?_ | refine aw_region ?_ | refine aw_block ?_ | refine ao_nil ⟨fun h => (Bool.false_ne_true h).elim, ?_⟩ | refine ao_nil ⟨fun _ => ⟨by kernel_rfl, by kernel_rfl⟩, ?_⟩ | refine ao_skip rfl rfl rfl ?_ | refine aw_true rfl ?_ | refine aw_false rfl ?_ | refine aw_skip ?_ | refine aw_exit ?_ | refine ao_funb rfl rfl rfl rfl rfl rfl (opElem o.f3) (fun hb => ?_) (fun hb => ?_) | refine ao_funb rfl rfl rfl rfl rfl rfl (opOwn o o.f3) (fun hb => ?_) (fun hb => ?_) | refine ao_funb rfl rfl rfl rfl rfl rfl (xMay _ hf.1) (fun hb => ?_) (fun hb => ?_) | refine ao_fun rfl rfl rfl rfl rfl rfl (opSize o hf.1) ?_ | refine ao_funs rfl rfl rfl rfl rfl rfl (opSize o hf.1) rfl ?_ | refine ao_funb rfl rfl rfl rfl rfl rfl (opGone o hf.2) (fun hb => ?_) (fun hb => ?_) | refine ao_dec rfl rfl rfl (eqE _ _ _ _ _ _).1 (fun hb => ?_) (fun hb => ?_) | refine ao_ndec rfl rfl rfl (eqE _ _ _ _ _ _).2 (fun hb => ?_) (fun hb => ?_) | refine ao_dec rfl rfl rfl rfl (fun hb => ?_) (fun hb => ?_) | refine ao_ndec rfl rfl rfl rfl (fun hb => ?_) (fun hb => ?_) | refine ao_str rfl rfl rfl rfl (fun hb => ?_) (fun hb => ?_) | refine ao_nstr rfl rfl rfl rfl (fun hb => ?_) (fun hb => ?_) | refine ao_bool rfl rfl rfl rfl (fun hb => ?_) (fun hb => ?_) | refine aw_ret ⟨.inr rfl, _, _, _, _, _, rfl, rfl, rfl, rfl, ?_, rfl⟩)
  all_goals refine congrArg (fun b => V.val (Value.bool b)) ?_
  all_goals try simp only [List.length_map] at *
  all_goals first | (simp [editB, emptyB_eq, zeroE, *]; done) | (simp [editB, emptyB_eq, zeroE, *]; omega) | (simp only [editB, emptyB_eq, zeroE]; grind)
theorem opMay (o : O) (hf : Fit o) : AF Tryd.prog XX 62 [.agg (oC o)] (vo (mayB o)) := by
  refine ac_mk (by kernel_rfl) Tryd.func62 rfl (lb rfl) rfl rfl ?_
  repeat' (first | refine ao_e rfl rfl rfl rfl rfl ?_ | refine ao_eff (v := V.val (Value.bool true)) (ups := []) rfl rfl rfl rfl ?_ | refine ao_eff (v := V.val (Value.bool false)) (ups := []) rfl rfl rfl rfl ?_ | refine aw_seq ?_ | refine aw_region ?_ | refine aw_block ?_ | refine ao_nil ⟨fun h => (Bool.false_ne_true h).elim, ?_⟩ | refine ao_nil ⟨fun _ => ⟨by kernel_rfl, by kernel_rfl⟩, ?_⟩ | refine ao_skip rfl rfl rfl ?_ | refine aw_true rfl ?_ | refine aw_false rfl ?_ | refine aw_skip ?_ | refine aw_exit ?_ | refine ao_funb rfl rfl rfl rfl rfl rfl (opName o.f0 o.f1) (fun hb => ?_) (fun hb => ?_) | refine ao_funb rfl rfl rfl rfl rfl rfl (opEdit o hf) (fun hb => ?_) (fun hb => ?_) | refine ao_funb rfl rfl rfl rfl rfl rfl (opToggle o) (fun hb => ?_) (fun hb => ?_) | refine ao_dec rfl rfl rfl (eqE _ _ _ _ _ _).1 (fun hb => ?_) (fun hb => ?_) | refine ao_ndec rfl rfl rfl (eqE _ _ _ _ _ _).2 (fun hb => ?_) (fun hb => ?_) | refine ao_dec rfl rfl rfl rfl (fun hb => ?_) (fun hb => ?_) | refine ao_ndec rfl rfl rfl rfl (fun hb => ?_) (fun hb => ?_) | refine ao_str rfl rfl rfl rfl (fun hb => ?_) (fun hb => ?_) | refine ao_nstr rfl rfl rfl rfl (fun hb => ?_) (fun hb => ?_) | refine ao_bool rfl rfl rfl rfl (fun hb => ?_) (fun hb => ?_) | refine aw_ret ⟨.inr rfl, _, _, _, _, _, rfl, rfl, rfl, rfl, ?_, rfl⟩)
  all_goals refine congrArg (fun b => V.val (Value.bool b)) ?_
  all_goals first | (simp [mayB, *]; done) | (simp only [mayB]; grind)
end Go.Ai
