/- A part of the proof: what the program does, step by step, over values without addresses. No conditions of mine. -/
import Derived.Test.YtadfohbogoocgaaGreatDoorN8
import Derived.Test.YtadfohbogoocgaaGreatDoorAiEq
import Derived.Test.YtadfohbogoocgaaGreatDoorAiSp
set_option linter.unusedVariables false
set_option linter.unusedSimpArgs false
namespace Go.Ai
open Go Go.RowKit Go.Proofs Go.Sp
set_option maxRecDepth 10000
set_option maxHeartbeats 4000000
set_option linter.unusedVariables false
set_option linter.unusedSimpArgs false
theorem opEdit (o : O) (hf : Fit o) : AF Tryz.prog XX 71 [.agg (oC o)] (vo (editB o)) := by
  refine ac_mk (by kernel_rfl) Tryz.func71 rfl (lb rfl) rfl rfl ?_
  repeat' (first | refine ao_e rfl rfl rfl rfl rfl ?_ | refine ao_eff (v := V.val (Value.bool true)) (ups := []) rfl rfl rfl rfl ?_ | refine ao_eff (v := V.val (Value.bool false)) (ups := []) rfl rfl rfl rfl ?_ | refine aw_seq ?_ | refine aw_region ?_ | refine aw_block ?_ | refine ao_nil ⟨fun h => (Bool.false_ne_true h).elim, ?_⟩ | refine ao_nil ⟨fun _ => ⟨by kernel_rfl, by kernel_rfl⟩, ?_⟩ | refine ao_skip rfl rfl rfl ?_ | refine aw_true rfl ?_ | refine aw_false rfl ?_ | refine aw_skip ?_ | refine aw_exit ?_ | refine ao_funb rfl rfl rfl rfl rfl rfl (opElem o.f3) (fun hb => ?_) (fun hb => ?_) | refine ao_funb rfl rfl rfl rfl rfl rfl (opOwn o o.f3) (fun hb => ?_) (fun hb => ?_) | refine ao_funb rfl rfl rfl rfl rfl rfl (xMay _ hf.1) (fun hb => ?_) (fun hb => ?_) | refine ao_fun rfl rfl rfl rfl rfl rfl (opSize o hf.1) ?_ | refine ao_funs rfl rfl rfl rfl rfl rfl (opSize o hf.1) rfl ?_ | refine ao_funb rfl rfl rfl rfl rfl rfl (opGone o hf.2) (fun hb => ?_) (fun hb => ?_) | refine ao_dec rfl rfl rfl (eqE _ _ _ _ _ _).1 (fun hb => ?_) (fun hb => ?_) | refine ao_ndec rfl rfl rfl (eqE _ _ _ _ _ _).2 (fun hb => ?_) (fun hb => ?_) | refine ao_dec rfl rfl rfl rfl (fun hb => ?_) (fun hb => ?_) | refine ao_ndec rfl rfl rfl rfl (fun hb => ?_) (fun hb => ?_) | refine ao_str rfl rfl rfl rfl (fun hb => ?_) (fun hb => ?_) | refine ao_nstr rfl rfl rfl rfl (fun hb => ?_) (fun hb => ?_) | refine ao_bool rfl rfl rfl rfl (fun hb => ?_) (fun hb => ?_) | refine aw_ret ⟨.inr rfl, _, _, _, _, _, rfl, rfl, rfl, rfl, ?_, rfl⟩)
  all_goals refine congrArg (fun b => V.val (Value.bool b)) ?_
  all_goals try simp only [List.length_map] at *
  all_goals first | (simp [editB, emptyB_eq, zeroE, *]; done) | (simp [editB, emptyB_eq, zeroE, *]; omega) | (simp only [editB, emptyB_eq, zeroE]; grind)
theorem opMay (o : O) (hf : Fit o) : AF Tryz.prog XX 42 [.agg (oC o)] (vo (mayB o)) := by
  refine ac_mk (by kernel_rfl) Tryz.func42 rfl (lb rfl) rfl rfl ?_
  repeat' (first | refine ao_e rfl rfl rfl rfl rfl ?_ | refine ao_eff (v := V.val (Value.bool true)) (ups := []) rfl rfl rfl rfl ?_ | refine ao_eff (v := V.val (Value.bool false)) (ups := []) rfl rfl rfl rfl ?_ | refine aw_seq ?_ | refine aw_region ?_ | refine aw_block ?_ | refine ao_nil ⟨fun h => (Bool.false_ne_true h).elim, ?_⟩ | refine ao_nil ⟨fun _ => ⟨by kernel_rfl, by kernel_rfl⟩, ?_⟩ | refine ao_skip rfl rfl rfl ?_ | refine aw_true rfl ?_ | refine aw_false rfl ?_ | refine aw_skip ?_ | refine aw_exit ?_ | refine ao_funb rfl rfl rfl rfl rfl rfl (opName o.f0 o.f1) (fun hb => ?_) (fun hb => ?_) | refine ao_funb rfl rfl rfl rfl rfl rfl (opEdit o hf) (fun hb => ?_) (fun hb => ?_) | refine ao_funb rfl rfl rfl rfl rfl rfl (opToggle o) (fun hb => ?_) (fun hb => ?_) | refine ao_dec rfl rfl rfl (eqE _ _ _ _ _ _).1 (fun hb => ?_) (fun hb => ?_) | refine ao_ndec rfl rfl rfl (eqE _ _ _ _ _ _).2 (fun hb => ?_) (fun hb => ?_) | refine ao_dec rfl rfl rfl rfl (fun hb => ?_) (fun hb => ?_) | refine ao_ndec rfl rfl rfl rfl (fun hb => ?_) (fun hb => ?_) | refine ao_str rfl rfl rfl rfl (fun hb => ?_) (fun hb => ?_) | refine ao_nstr rfl rfl rfl rfl (fun hb => ?_) (fun hb => ?_) | refine ao_bool rfl rfl rfl rfl (fun hb => ?_) (fun hb => ?_) | refine aw_ret ⟨.inr rfl, _, _, _, _, _, rfl, rfl, rfl, rfl, ?_, rfl⟩)
  all_goals refine congrArg (fun b => V.val (Value.bool b)) ?_
  all_goals first | (simp [mayB, *]; done) | (simp only [mayB]; grind)
end Go.Ai

namespace Go.Ai
open Go Go.RowKit
def anys (n : Nat) (l : List V) : List V := List.replicate n V.any ++ l
theorem renL_anys {h : Nat → Option Blk} {H : List (Nat × Blk)} {l : List V} {s : Nat → V} : ∀ {n k : Nat}, renL h H l s (k + n) → renL h H (anys n l) s k
  | 0, k, hh => hh
  | n + 1, k, hh => ⟨.any _, renL_anys (n := n) (by rw [show k + 1 + n = k + (n + 1) by omega]; exact hh)⟩
def renC (h : Nat → Option Blk) (H : List (Nat × Blk)) : List V → List V → Prop
  | [], [] => True
  | c :: cs, c' :: cs' => c' ≠ .any ∧ Ren h H c c' ∧ renC h H cs cs'
  | _, _ => False
theorem renC_len {h : Nat → Option Blk} {H : List (Nat × Blk)} : ∀ {cs cs' : List V}, renC h H cs cs' → cs'.length = cs.length
  | [], [], _ => rfl
  | c :: cs, c' :: cs', hh => by simp only [List.length_cons, renC_len hh.2.2]
  | [], _ :: _, hh => hh.elim
  | _ :: _, [], hh => hh.elim
theorem renC_get {h : Nat → Option Blk} {H : List (Nat × Blk)} : ∀ {cs cs' : List V} {j : Nat} {c c' : V}, renC h H cs cs' → cs[j]? = some c → cs'[j]? = some c' → c' ≠ .any ∧ Ren h H c c'
  | [], [], _, _, _, _, h1, _ => by simp at h1
  | c :: cs, c' :: cs', 0, _, _, hh, h1, h2 => by simp at h1 h2; subst h1 h2; exact ⟨hh.1, hh.2.1⟩
  | c :: cs, c' :: cs', j + 1, _, _, hh, h1, h2 => renC_get hh.2.2 (by simpa using h1) (by simpa using h2)
  | [], _ :: _, _, _, _, hh, _, _ => hh.elim
  | _ :: _, [], _, _, _, hh, _, _ => hh.elim
/-- A variable whose cells name lists of the call's own. -/
theorem renB_row {h : Nat → Option Blk} {H : List (Nat × Blk)} {b : Nat} {k k' : Blk} {cs cs' : List V} (hk : h b = some k) (hs : k'.sz = k.sz) (hw : k'.wr = k.wr) (hv : (b % 2 == 0 || k'.ver == k.ver) = true) (hc : (!k'.cl || cs'.all clo0) = true) (he : k.es = [cs]) (he' : k'.es = [cs']) (hl : renC h H cs cs') : RenB h H b k' :=
  ⟨k, hk, hs, hw, fun hb => by
    simp only [Bool.or_eq_true, beq_iff_eq] at hv
    rcases hv with h | h
    · omega
    · exact h, .inr ⟨fun hcl e hm c hc' => by
      rw [he'] at hm
      obtain rfl := List.mem_singleton.1 hm
      rw [hcl] at hc
      exact List.all_eq_true.1 (by simpa using hc) c hc', by rw [he, he']; rfl, fun i e e' h1 h2 => by
      rw [he] at h1; rw [he'] at h2
      cases i with
      | zero => simp at h1 h2; subst h1 h2; exact ⟨renC_len hl, fun j c c' h3 h4 => renC_get hl h3 h4⟩
      | succ i => simp at h1⟩⟩
/-- A list of the call's own that is written no more. -/
theorem ren_frz {h : Nat → Option Blk} {H : List (Nat × Blk)} {α : Type} (enc : α → List V) (l : List α) {b ver len : Nat} {k : Blk} {sz : Nat} (hk : live h b ver = some k) (hc : (k.cl && b % 2 == 0) = true) (hes : k.es = l.map enc) (hlen : len = l.length) (hs : k.sz = sz) (hd : HH (odds h) H b = none) :
    Ren h H (.sl b ver 0 len) (.isl sz (l.map enc)) := by
  simp only [Bool.and_eq_true, beq_iff_eq] at hc
  refine .frz _ _ _ _ _ ?_ hd
  unfold close0
  simp only [hk]
  rw [if_pos ⟨hc.1, by rw [hes, List.length_map]; omega, hc.2⟩, hes, hs, List.drop_zero, List.take_of_length_le (by simp [hlen])]
end Go.Ai
