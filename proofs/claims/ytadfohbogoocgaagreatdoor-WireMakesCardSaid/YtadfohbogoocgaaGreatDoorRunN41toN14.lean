/- A part of the proof: what the program does, step by step, over values without addresses. No conditions of mine. -/
import Derived.Test.YtadfohbogoocgaaGreatDoorN40
import Derived.Test.YtadfohbogoocgaaGreatDoorN12
import Derived.Shelf.Strings.MapAny
import Derived.Lib.TrimU
set_option linter.unusedVariables false
set_option linter.unusedSimpArgs false
namespace Go.Ai
open Go Go.RowKit Go.Proofs Go.Sp
variable {X : FuncId → List V → List (Nat × List V) → V → List (Nat × List V) → List Blk → Prop}
set_option maxRecDepth 10000
set_option maxHeartbeats 4000000
set_option linter.unusedVariables false
set_option linter.unusedSimpArgs false
def sendV (a b : List K) : V := if mayK a && b.all pkB then .tup [.isl 4 (((a ++ b).take 40).map kC), vi 0] else .tup [.emp, vi 1]
end Go.Ai

namespace Go.Ai
open Go Go.RowKit Go.Proofs Go.Sp
set_option maxRecDepth 10000
set_option maxHeartbeats 4000000
set_option linter.unusedVariables false
set_option linter.unusedSimpArgs false
def r32 (x : Int) : List V := [.val (.int .i32 x)]
def runesV (s : ByteArray) : V := if May s then .tup [.isl 1 ((runesOf s).map r32), vo true] else .tup [.isl 1 [], vo false]
theorem refRunes (s : ByteArray) (hs : s.size ≤ 100000) : AF Tryz.prog XX 79 [vs s] (runesV s) := by
  refine ac_mk (by kernel_rfl) Tryz.func79 rfl (lb rfl) rfl (by unfold runesV; split <;> rfl) ?_
  repeat (first | refine ao_e rfl rfl rfl rfl rfl ?_ | refine ao_eff (v := V.val (Value.bool true)) (ups := []) rfl rfl rfl rfl ?_ | refine ao_eff (v := V.val (Value.bool false)) (ups := []) rfl rfl rfl rfl ?_ | refine aw_seq ?_ | refine aw_region ?_ | refine aw_block ?_ | refine ao_nil ⟨fun h => (Bool.false_ne_true h).elim, ?_⟩ | refine ao_nil ⟨fun _ => ⟨by kernel_rfl, by kernel_rfl⟩, ?_⟩ | refine ao_skip rfl rfl rfl ?_ | refine aw_true rfl ?_ | refine aw_false rfl ?_ | refine aw_skip ?_ | refine aw_exit ?_)
  refine aw_virt 4 (newId (siteOf 7 3) 0) 1 rfl ?_
  refine aw_rounds (T := Nat × Nat × List Int) (fun t => s.size - t.2.1 ≤ t.1 ∧ t.2.1 ≤ s.size + 4 ∧ t.2.2.length + t.1 = s.size ∧ (∀ x ∈ t.2.2, okR x) ∧ runesOf s = t.2.2 ++ Sp.rn s t.1 t.2.1) (fun t => [vs s, .any, .any, .any, .sl (newId (siteOf 7 3) 0) 0 0 t.2.2.length, vi t.2.1]) (fun t => [(newId (siteOf 7 3) 0, ⟨0, 1, true, true, t.2.2.map r32⟩)]) (fun t => t.1) (s.size, 0, []) ⟨by dsimp only; omega, by dsimp only; omega, by simp, by simp, rfl⟩ ?_ ?_ ?_
  · exact ⟨.same _ rfl, .any _, .any _, .any _, .sl _ _ _ _ _ _ _ rfl rfl rfl rfl, .same _ rfl, trivial⟩
  · exact ⟨renB_cl rfl rfl rfl rfl rfl rfl, trivial⟩
  rintro ⟨f, i, acc⟩ h0 ⟨hf, hi, hl, hok, hr⟩
  dsimp only at hf hi hl hok hr ⊢
  by_cases c : i < s.size
  · have hw := Lib.width_pos s i
    have hw4 := width4 s i
    have hd : Lib.decodeGo (s.extract i s.size) = Utf8.decode s i := by first | exact decodeGo_extract s i c | exact Lib.decodeGo_extract s i c | exact Go.Lib.decodeGo_extract s i c
    have hsz : (s.extract i s.size).size = s.size - i := by rw [ByteArray.size_extract]; omega
    unfold Lib.decodeGo at hd
    rw [if_neg (by omega)] at hd
    have hx := xDecode (s.extract i s.size) (by omega)
    rw [hd] at hx
    cases f with
    | zero => omega
    | succ f =>
    have hr2 : Sp.rn s (f + 1) i = ((Utf8.decode s i).1 : Int) :: Sp.rn s f (i + (Utf8.decode s i).2) := by
      show (if i < s.size then _ else _) = _
      rw [if_pos c]
    rw [hr2] at hr
    generalize Utf8.decode s i = d at *
    repeat (first | refine ao_e rfl rfl rfl rfl rfl ?_ | refine ao_eff (v := V.val (Value.bool true)) (ups := []) rfl rfl rfl rfl ?_ | refine ao_eff (v := V.val (Value.bool false)) (ups := []) rfl rfl rfl rfl ?_ | refine aw_seq ?_ | refine aw_region ?_ | refine aw_block ?_ | refine ao_nil ⟨fun h => (Bool.false_ne_true h).elim, ?_⟩ | refine ao_nil ⟨fun _ => ⟨by kernel_rfl, by kernel_rfl⟩, ?_⟩ | refine ao_skip rfl rfl rfl ?_ | refine aw_true rfl ?_ | refine aw_false rfl ?_ | refine aw_skip ?_ | refine aw_exit ?_)
    refine ao_yes rfl rfl rfl rfl (by omega) ?_
    repeat (first | refine ao_e rfl rfl rfl rfl rfl ?_ | refine ao_eff (v := V.val (Value.bool true)) (ups := []) rfl rfl rfl rfl ?_ | refine ao_eff (v := V.val (Value.bool false)) (ups := []) rfl rfl rfl rfl ?_ | refine aw_seq ?_ | refine aw_region ?_ | refine aw_block ?_ | refine ao_nil ⟨fun h => (Bool.false_ne_true h).elim, ?_⟩ | refine ao_nil ⟨fun _ => ⟨by kernel_rfl, by kernel_rfl⟩, ?_⟩ | refine ao_skip rfl rfl rfl ?_ | refine aw_true rfl ?_ | refine aw_false rfl ?_ | refine aw_skip ?_ | refine aw_exit ?_)
    refine ao_e rfl rfl rfl rfl (ef_str (l := i) (n := s.size) (nb_lo (l := i) rfl) rfl rfl (by omega) (by omega)) ?_
    repeat (first | refine ao_e rfl rfl rfl rfl rfl ?_ | refine ao_eff (v := V.val (Value.bool true)) (ups := []) rfl rfl rfl rfl ?_ | refine ao_eff (v := V.val (Value.bool false)) (ups := []) rfl rfl rfl rfl ?_ | refine aw_seq ?_ | refine aw_region ?_ | refine aw_block ?_ | refine ao_nil ⟨fun h => (Bool.false_ne_true h).elim, ?_⟩ | refine ao_nil ⟨fun _ => ⟨by kernel_rfl, by kernel_rfl⟩, ?_⟩ | refine ao_skip rfl rfl rfl ?_ | refine aw_true rfl ?_ | refine aw_false rfl ?_ | refine aw_skip ?_ | refine aw_exit ?_)
    refine ao_fun rfl rfl rfl rfl rfl rfl hx ?_
    repeat (first | refine ao_e rfl rfl rfl rfl rfl ?_ | refine ao_eff (v := V.val (Value.bool true)) (ups := []) rfl rfl rfl rfl ?_ | refine ao_eff (v := V.val (Value.bool false)) (ups := []) rfl rfl rfl rfl ?_ | refine aw_seq ?_ | refine aw_region ?_ | refine aw_block ?_ | refine ao_nil ⟨fun h => (Bool.false_ne_true h).elim, ?_⟩ | refine ao_nil ⟨fun _ => ⟨by kernel_rfl, by kernel_rfl⟩, ?_⟩ | refine ao_skip rfl rfl rfl ?_ | refine aw_true rfl ?_ | refine aw_false rfl ?_ | refine aw_skip ?_ | refine aw_exit ?_)
    refine ao_fundec rfl rfl rfl rfl rfl rfl (refRune _) (fun hb => ?_) (fun hb => ?_)
    · repeat (first | refine ao_e rfl rfl rfl rfl rfl ?_ | refine ao_eff (v := V.val (Value.bool true)) (ups := []) rfl rfl rfl rfl ?_ | refine ao_eff (v := V.val (Value.bool false)) (ups := []) rfl rfl rfl rfl ?_ | refine aw_seq ?_ | refine aw_region ?_ | refine aw_block ?_ | refine ao_nil ⟨fun h => (Bool.false_ne_true h).elim, ?_⟩ | refine ao_nil ⟨fun _ => ⟨by kernel_rfl, by kernel_rfl⟩, ?_⟩ | refine ao_skip rfl rfl rfl ?_ | refine aw_true rfl ?_ | refine aw_false rfl ?_ | refine aw_skip ?_ | refine aw_exit ?_)
      refine ao_e rfl rfl rfl rfl (ef_push r32 acc (d.1 : Int) 4 rfl rfl rfl rfl rfl rfl rfl rfl rfl (by omega)) ?_
      repeat (first | refine ao_e rfl rfl rfl rfl rfl ?_ | refine ao_eff (v := V.val (Value.bool true)) (ups := []) rfl rfl rfl rfl ?_ | refine ao_eff (v := V.val (Value.bool false)) (ups := []) rfl rfl rfl rfl ?_ | refine aw_seq ?_ | refine aw_region ?_ | refine aw_block ?_ | refine ao_nil ⟨fun h => (Bool.false_ne_true h).elim, ?_⟩ | refine ao_nil ⟨fun _ => ⟨by kernel_rfl, by kernel_rfl⟩, ?_⟩ | refine ao_skip rfl rfl rfl ?_ | refine aw_true rfl ?_ | refine aw_false rfl ?_ | refine aw_skip ?_ | refine aw_exit ?_)
      exact ⟨(f, i + d.2, acc ++ [(d.1 : Int)]), ⟨by dsimp only; omega, by dsimp only; omega, by simp only [List.length_append, List.length_singleton]; omega, by intro x hx; rcases List.mem_append.1 hx with hx | hx; exact hok x hx; rw [List.mem_singleton.1 hx]; exact hb, by rw [hr]; simp⟩, by dsimp only; omega, ⟨.same _ rfl, .any _, .any _, .any _, .sl _ _ _ _ _ _ _ rfl rfl rfl rfl, ren_eq (congrArg vi (by rw [wr64, w64 (by omega) (by omega)]; rfl)) rfl, trivial⟩, ⟨renB_cl rfl rfl rfl rfl rfl rfl, trivial⟩⟩
    · repeat (first | refine ao_e rfl rfl rfl rfl rfl ?_ | refine ao_eff (v := V.val (Value.bool true)) (ups := []) rfl rfl rfl rfl ?_ | refine ao_eff (v := V.val (Value.bool false)) (ups := []) rfl rfl rfl rfl ?_ | refine aw_seq ?_ | refine aw_region ?_ | refine aw_block ?_ | refine ao_nil ⟨fun h => (Bool.false_ne_true h).elim, ?_⟩ | refine ao_nil ⟨fun _ => ⟨by kernel_rfl, by kernel_rfl⟩, ?_⟩ | refine ao_skip rfl rfl rfl ?_ | refine aw_true rfl ?_ | refine aw_false rfl ?_ | refine aw_skip ?_ | refine aw_exit ?_)
      refine aw_canon [.any, .any, .isl 1 [], vo false] [] ⟨.any _, .any _, .nil _, .same _ rfl, trivial⟩ trivial (fun h0 => ?_)
      refine aw_ret ⟨.inr rfl, _, _, _, _, _, rfl, rfl, rfl, rfl, ?_, rfl⟩
      have hm : ¬ May s := fun h => hb (May.ok h _ (by rw [hr]; simp))
      unfold runesV
      rw [if_neg hm]; rfl
  · have he : Sp.rn s f i = [] := by
      cases f with
      | zero => rfl
      | succ f => show (if i < s.size then _ else _) = _; rw [if_neg c]
    rw [he, List.append_nil] at hr
    repeat (first | refine ao_e rfl rfl rfl rfl rfl ?_ | refine ao_eff (v := V.val (Value.bool true)) (ups := []) rfl rfl rfl rfl ?_ | refine ao_eff (v := V.val (Value.bool false)) (ups := []) rfl rfl rfl rfl ?_ | refine aw_seq ?_ | refine aw_region ?_ | refine aw_block ?_ | refine ao_nil ⟨fun h => (Bool.false_ne_true h).elim, ?_⟩ | refine ao_nil ⟨fun _ => ⟨by kernel_rfl, by kernel_rfl⟩, ?_⟩ | refine ao_skip rfl rfl rfl ?_ | refine aw_true rfl ?_ | refine aw_false rfl ?_ | refine aw_skip ?_ | refine aw_exit ?_)
    refine ao_no rfl rfl rfl rfl (by omega) ?_
    repeat (first | refine ao_e rfl rfl rfl rfl rfl ?_ | refine ao_eff (v := V.val (Value.bool true)) (ups := []) rfl rfl rfl rfl ?_ | refine ao_eff (v := V.val (Value.bool false)) (ups := []) rfl rfl rfl rfl ?_ | refine aw_seq ?_ | refine aw_region ?_ | refine aw_block ?_ | refine ao_nil ⟨fun h => (Bool.false_ne_true h).elim, ?_⟩ | refine ao_nil ⟨fun _ => ⟨by kernel_rfl, by kernel_rfl⟩, ?_⟩ | refine ao_skip rfl rfl rfl ?_ | refine aw_true rfl ?_ | refine aw_false rfl ?_ | refine aw_skip ?_ | refine aw_exit ?_)
    refine aw_canon [.any, .any, .isl 1 (acc.map r32), vo true] [] ⟨.any _, .any _, ren_frz r32 acc rfl rfl rfl rfl rfl rfl, .same _ rfl, trivial⟩ trivial (fun h0 => ?_)
    refine aw_ret ⟨.inr rfl, _, _, _, _, _, rfl, rfl, rfl, rfl, ?_, rfl⟩
    have hm : May s := (may_iff s).2 (by rw [hr]; exact hok)
    unfold runesV
    rw [if_pos hm, hr]; rfl
end Go.Ai
