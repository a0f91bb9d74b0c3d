/- A part of the proof: what the program does, step by step, over values without addresses. No conditions of mine. -/
import Derived.Test.YtadfohbogoocgaaDoorN11
set_option linter.unusedVariables false
set_option linter.unusedSimpArgs false
namespace Go.Ai
open Go Go.RowKit Go.Proofs Go.Sp
set_option maxRecDepth 10000
set_option maxHeartbeats 4000000
set_option linter.unusedVariables false
set_option linter.unusedSimpArgs false
def o0 : O := ⟨0, 0, 0, ⟨0, 0, 0⟩, ⟨#[]⟩, [], 0, 0, 0⟩
def tkOV (x : O × Pt) (bad ok : V) : V := if x.2.2 then .tup [.agg (oC o0), vs ⟨#[]⟩, bad] else .tup [.agg (oC x.1), vs (strOfNums x.2.1), ok]
theorem packTakeOp {l : List Int} (hg : GoodP (l, false)) : AF Tryd.prog XX 34 [vs (strOfNums l)] (tkOV (rdO (l, false)) (vi 7) (vi 0)) := by
  have h := rdrOp hg
  refine ac_mk (by kernel_rfl) Tryd.func34 rfl (lb rfl) rfl (by unfold tkOV; split <;> rfl) ?_
  generalize rdO (l, false) = x at *
  obtain ⟨o, q, b⟩ := x
  cases b
  · repeat (first | refine ao_e rfl rfl rfl rfl rfl ?_ | refine ao_eff (v := V.val (Value.bool true)) (ups := []) rfl rfl rfl rfl ?_ | refine ao_eff (v := V.val (Value.bool false)) (ups := []) rfl rfl rfl rfl ?_ | refine aw_seq ?_ | refine aw_region ?_ | refine aw_block ?_ | refine ao_nil ⟨fun h => (Bool.false_ne_true h).elim, ?_⟩ | refine ao_nil ⟨fun _ => ⟨by kernel_rfl, by kernel_rfl⟩, ?_⟩ | refine ao_skip rfl rfl rfl ?_ | refine aw_true rfl ?_ | refine aw_false rfl ?_ | refine aw_skip ?_ | refine aw_exit ?_)
    refine ao_meth rfl rfl rfl rfl rfl rfl rfl rfl h ?_
    repeat (first | refine ao_e rfl rfl rfl rfl rfl ?_ | refine ao_eff (v := V.val (Value.bool true)) (ups := []) rfl rfl rfl rfl ?_ | refine ao_eff (v := V.val (Value.bool false)) (ups := []) rfl rfl rfl rfl ?_ | refine aw_seq ?_ | refine aw_region ?_ | refine aw_block ?_ | refine ao_nil ⟨fun h => (Bool.false_ne_true h).elim, ?_⟩ | refine ao_nil ⟨fun _ => ⟨by kernel_rfl, by kernel_rfl⟩, ?_⟩ | refine ao_skip rfl rfl rfl ?_ | refine aw_true rfl ?_ | refine aw_false rfl ?_ | refine aw_skip ?_ | refine aw_exit ?_)
    exact aw_ret ⟨.inr rfl, _, _, _, _, _, rfl, rfl, rfl, rfl, rfl, rfl⟩
  · repeat (first | refine ao_e rfl rfl rfl rfl rfl ?_ | refine ao_eff (v := V.val (Value.bool true)) (ups := []) rfl rfl rfl rfl ?_ | refine ao_eff (v := V.val (Value.bool false)) (ups := []) rfl rfl rfl rfl ?_ | refine aw_seq ?_ | refine aw_region ?_ | refine aw_block ?_ | refine ao_nil ⟨fun h => (Bool.false_ne_true h).elim, ?_⟩ | refine ao_nil ⟨fun _ => ⟨by kernel_rfl, by kernel_rfl⟩, ?_⟩ | refine ao_skip rfl rfl rfl ?_ | refine aw_true rfl ?_ | refine aw_false rfl ?_ | refine aw_skip ?_ | refine aw_exit ?_)
    refine ao_meth rfl rfl rfl rfl rfl rfl rfl rfl h ?_
    repeat (first | refine ao_e rfl rfl rfl rfl rfl ?_ | refine ao_eff (v := V.val (Value.bool true)) (ups := []) rfl rfl rfl rfl ?_ | refine ao_eff (v := V.val (Value.bool false)) (ups := []) rfl rfl rfl rfl ?_ | refine aw_seq ?_ | refine aw_region ?_ | refine aw_block ?_ | refine ao_nil ⟨fun h => (Bool.false_ne_true h).elim, ?_⟩ | refine ao_nil ⟨fun _ => ⟨by kernel_rfl, by kernel_rfl⟩, ?_⟩ | refine ao_skip rfl rfl rfl ?_ | refine aw_true rfl ?_ | refine aw_false rfl ?_ | refine aw_skip ?_ | refine aw_exit ?_)
    refine aw_canon [.any, .any, .ptr (newId (siteOf 0 0) 0) 0 0 0, vs ⟨#[]⟩, vi 7] [(newId (siteOf 0 0) 0, ⟨0, 11, true, true, [oC o0]⟩)] ⟨.any _, .any _, .ptr _ _ _ _ _ _ _ rfl rfl rfl rfl, .same _ rfl, .same _ rfl, trivial⟩ ⟨renB_row rfl rfl rfl rfl rfl rfl rfl ⟨nofun, .same _ rfl, nofun, .same _ rfl, nofun, .same _ rfl, nofun, .same _ rfl, nofun, .same _ rfl, nofun, .same _ rfl, nofun, .same _ rfl, nofun, .nil _, nofun, .same _ rfl, nofun, .same _ rfl, nofun, .same _ rfl, trivial⟩, trivial⟩ (fun h0 => ?_)
    exact aw_ret ⟨.inr rfl, _, _, _, _, _, rfl, rfl, rfl, rfl, rfl, rfl⟩
end Go.Ai
