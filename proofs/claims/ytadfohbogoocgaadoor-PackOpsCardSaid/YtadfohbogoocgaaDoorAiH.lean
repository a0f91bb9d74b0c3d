/- A part of the proof: what the program does, step by step, over values without addresses. No conditions of mine. -/
import Derived.Test.YtadfohbogoocgaaDoorAiG
set_option linter.unusedVariables false
set_option linter.unusedSimpArgs false
namespace Go.Ai
open Go Go.RowKit
def renR (h : Nat → Option Blk) (H : List (Nat × Blk)) : List (List V) → List (List V) → Prop
  | [], [] => True
  | e :: es, e' :: es' => renC h H e e' ∧ renR h H es es'
  | _, _ => False
theorem renR_len {h : Nat → Option Blk} {H : List (Nat × Blk)} : ∀ {cs cs' : List (List V)}, renR h H cs cs' → cs'.length = cs.length
  | [], [], _ => rfl
  | c :: cs, c' :: cs', hh => by simp only [List.length_cons, renR_len hh.2]
  | [], _ :: _, hh => hh.elim
  | _ :: _, [], hh => hh.elim
theorem renR_get {h : Nat → Option Blk} {H : List (Nat × Blk)} : ∀ {cs cs' : List (List V)} {j : Nat} {c c' : List V}, renR h H cs cs' → cs[j]? = some c → cs'[j]? = some c' → renC h H c c'
  | [], [], _, _, _, _, h1, _ => by simp at h1
  | c :: cs, c' :: cs', 0, _, _, hh, h1, h2 => by simp at h1 h2; subst h1 h2; exact hh.1
  | c :: cs, c' :: cs', j + 1, _, _, hh, h1, h2 => renR_get hh.2 (by simpa using h1) (by simpa using h2)
  | [], _ :: _, _, _, _, hh, _, _ => hh.elim
  | _ :: _, [], _, _, _, hh, _, _ => hh.elim
/-- Rows whose cells name lists of the call's own. -/
theorem renB_rows {h : Nat → Option Blk} {H : List (Nat × Blk)} {b : Nat} {k k' : Blk} {es es' : List (List V)} (hk : h b = some k) (hs : k'.sz = k.sz) (hw : k'.wr = k.wr) (hv : (b % 2 == 0 || k'.ver == k.ver) = true) (hc : (!k'.cl || k'.es.all fun e => e.all clo0) = true) (he : k.es = es) (he' : k'.es = es') (hl : renR h H es es') : RenB h H b k' :=
  ⟨k, hk, hs, hw, fun hb => by
    simp only [Bool.or_eq_true, beq_iff_eq] at hv
    rcases hv with h | h
    · omega
    · exact h, .inr ⟨fun hcl e hm c hc' => by
      rw [hcl] at hc
      have := List.all_eq_true.1 (by simpa using hc : (k'.es.all fun e => e.all clo0) = true) e hm
      exact List.all_eq_true.1 this c hc', by rw [he, he', renR_len hl], fun i e e' h1 h2 => by
      rw [he] at h1; rw [he'] at h2
      have := renR_get hl h1 h2
      exact ⟨renC_len this, fun j c c' h3 h4 => renC_get this h3 h4⟩⟩⟩
end Go.Ai
