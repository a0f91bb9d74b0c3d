/- A part of the proof: what the program does, step by step, over values without addresses. No conditions of mine. -/
import Derived.Test.YtadfohbogoocgaaDoorN18
import Derived.Test.YtadfohbogoocgaaDoorAiG
set_option linter.unusedVariables false
set_option linter.unusedSimpArgs false
namespace Go.Ai
open Go Go.RowKit Go.Proofs Go.Sp
variable {X : FuncId → List V → List (Nat × List V) → V → List (Nat × List V) → List Blk → Prop}
set_option maxRecDepth 10000
set_option maxHeartbeats 8000000
set_option linter.unusedVariables false
set_option linter.unusedSimpArgs false
theorem packMayM (m : M) (hf : ∀ o ∈ m.f6, Fit o) (hl : m.f6.length < 4611686018427387904) : AF Tryd.prog XX 51 [.agg (mC m)] (vo (mayM m)) := by
  refine ac_mk (by kernel_rfl) Tryd.func51 rfl (lb rfl) rfl rfl ?_
  repeat' (first | refine ao_e rfl rfl rfl rfl rfl ?_ | refine ao_eff (v := V.val (Value.bool true)) (ups := []) rfl rfl rfl rfl ?_ | refine ao_eff (v := V.val (Value.bool false)) (ups := []) rfl rfl rfl rfl ?_ | refine aw_seq ?_ | refine aw_region ?_ | refine aw_block ?_ | refine ao_nil ⟨fun h => (Bool.false_ne_true h).elim, ?_⟩ | refine ao_nil ⟨fun _ => ⟨by kernel_rfl, by kernel_rfl⟩, ?_⟩ | refine ao_skip rfl rfl rfl ?_ | refine aw_true rfl ?_ | refine aw_false rfl ?_ | refine aw_skip ?_ | refine aw_exit ?_ | refine ao_funb rfl rfl rfl rfl rfl rfl (containsOp m.f6 hf hl) (fun hb => ?_) (fun hb => ?_) | refine ao_funb rfl rfl rfl rfl rfl rfl (packOne _) (fun hb => ?_) (fun hb => ?_) | refine ao_funb rfl rfl rfl rfl rfl rfl (packCount _) (fun hb => ?_) (fun hb => ?_) | refine ao_funb rfl rfl rfl rfl rfl rfl (opSite _) (fun hb => ?_) (fun hb => ?_) | refine ao_funb rfl rfl rfl rfl rfl rfl (opName _ _) (fun hb => ?_) (fun hb => ?_) | refine ao_dec rfl rfl rfl (eqE _ _ _ _ _ _).1 (fun hb => ?_) (fun hb => ?_) | refine ao_ndec rfl rfl rfl (eqE _ _ _ _ _ _).2 (fun hb => ?_) (fun hb => ?_) | refine ao_dec rfl rfl rfl rfl (fun hb => ?_) (fun hb => ?_) | refine ao_ndec rfl rfl rfl rfl (fun hb => ?_) (fun hb => ?_) | refine ao_str rfl rfl rfl rfl (fun hb => ?_) (fun hb => ?_) | refine ao_nstr rfl rfl rfl rfl (fun hb => ?_) (fun hb => ?_) | refine ao_bool rfl rfl rfl rfl (fun hb => ?_) (fun hb => ?_) | refine aw_ret ⟨.inr rfl, _, _, _, _, _, rfl, rfl, rfl, rfl, ?_, rfl⟩)
  all_goals refine congrArg (fun b => V.val (Value.bool b)) ?_
  all_goals try simp only [List.length_map, Bool.not_eq_true', Bool.not_eq_false', decide_eq_true_eq, decide_eq_false_iff_not] at *
  all_goals unfold mayM caseM
  all_goals first | (simp_all; done) | (simp_all; omega) | grind
end Go.Ai

namespace Go.Ai
open Go Go.RowKit
def renR (h : Nat → Option Blk) (H : List (Nat × Blk)) : List (List V) → List (List V) → Prop
  | [], [] => True
  | e :: es, e' :: es' => renC h H e e' ∧ renR h H es es'
  | _, _ => False
theorem renR_len {h : Nat → Option Blk} {H : List (Nat × Blk)} : ∀ {cs cs' : List (List V)}, renR h H cs cs' → cs'.length = cs.length
  | [], [], _ => rfl
  | c :: cs, c' :: cs', hh => by simp only [List.length_cons, renR_len hh.2]
  | [], _ :: _, hh => hh.elim
  | _ :: _, [], hh => hh.elim
theorem renR_get {h : Nat → Option Blk} {H : List (Nat × Blk)} : ∀ {cs cs' : List (List V)} {j : Nat} {c c' : List V}, renR h H cs cs' → cs[j]? = some c → cs'[j]? = some c' → renC h H c c'
  | [], [], _, _, _, _, h1, _ => by simp at h1
  | c :: cs, c' :: cs', 0, _, _, hh, h1, h2 => by simp at h1 h2; subst h1 h2; exact hh.1
  | c :: cs, c' :: cs', j + 1, _, _, hh, h1, h2 => renR_get hh.2 (by simpa using h1) (by simpa using h2)
  | [], _ :: _, _, _, _, hh, _, _ => hh.elim
  | _ :: _, [], _, _, _, hh, _, _ => hh.elim
/-- Rows whose cells name lists of the call's own. -/
theorem renB_rows {h : Nat → Option Blk} {H : List (Nat × Blk)} {b : Nat} {k k' : Blk} {es es' : List (List V)} (hk : h b = some k) (hs : k'.sz = k.sz) (hw : k'.wr = k.wr) (hv : (b % 2 == 0 || k'.ver == k.ver) = true) (hc : (!k'.cl || k'.es.all fun e => e.all clo0) = true) (he : k.es = es) (he' : k'.es = es') (hl : renR h H es es') : RenB h H b k' :=
  ⟨k, hk, hs, hw, fun hb => by
    simp only [Bool.or_eq_true, beq_iff_eq] at hv
    rcases hv with h | h
    · omega
    · exact h, .inr ⟨fun hcl e hm c hc' => by
      rw [hcl] at hc
      have := List.all_eq_true.1 (by simpa using hc : (k'.es.all fun e => e.all clo0) = true) e hm
      exact List.all_eq_true.1 this c hc', by rw [he, he', renR_len hl], fun i e e' h1 h2 => by
      rw [he] at h1; rw [he'] at h2
      have := renR_get hl h1 h2
      exact ⟨renC_len this, fun j c c' h3 h4 => renC_get this h3 h4⟩⟩⟩
end Go.Ai
