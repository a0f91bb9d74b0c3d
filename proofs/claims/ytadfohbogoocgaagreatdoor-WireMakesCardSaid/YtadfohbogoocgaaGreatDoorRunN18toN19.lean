/- A part of the proof: what the program does, step by step, over values without addresses. No conditions of mine. -/
import Derived.Test.YtadfohbogoocgaaGreatDoorN11
set_option linter.unusedVariables false
set_option linter.unusedSimpArgs false
namespace Go.Ai
open Go Go.RowKit Go.Proofs Go.Sp
variable {X : FuncId → List V → List (Nat × List V) → V → List (Nat × List V) → List Blk → Prop}
set_option maxRecDepth 10000
set_option maxHeartbeats 8000000
set_option linter.unusedVariables false
set_option linter.unusedSimpArgs false
def mC (m : M) : List V := [vi m.f0, vi m.f1, vi m.f2, vi m.f3, vi m.f4, vi m.f5, .isl 11 (m.f6.map oC)]
theorem packOne (n : Int) : AF Tryz.prog X 43 [vi n] (vo (decide (1 ≤ n ∧ n ≤ 268435456))) := by
  refine ac_mk (by kernel_rfl) Tryz.func43 rfl (lb rfl) rfl rfl ?_
  repeat' (first | refine ao_e rfl rfl rfl rfl rfl ?_ | refine ao_eff (v := V.val (Value.bool true)) (ups := []) rfl rfl rfl rfl ?_ | refine ao_eff (v := V.val (Value.bool false)) (ups := []) rfl rfl rfl rfl ?_ | refine aw_seq ?_ | refine aw_region ?_ | refine aw_block ?_ | refine ao_nil ⟨fun h => (Bool.false_ne_true h).elim, ?_⟩ | refine ao_nil ⟨fun _ => ⟨by kernel_rfl, by kernel_rfl⟩, ?_⟩ | refine ao_skip rfl rfl rfl ?_ | refine aw_true rfl ?_ | refine aw_false rfl ?_ | refine aw_skip ?_ | refine aw_exit ?_ | refine ao_dec rfl rfl rfl (eqE _ _ _ _ _ _).1 (fun hb => ?_) (fun hb => ?_) | refine ao_ndec rfl rfl rfl (eqE _ _ _ _ _ _).2 (fun hb => ?_) (fun hb => ?_) | refine ao_dec rfl rfl rfl rfl (fun hb => ?_) (fun hb => ?_) | refine ao_ndec rfl rfl rfl rfl (fun hb => ?_) (fun hb => ?_) | refine ao_str rfl rfl rfl rfl (fun hb => ?_) (fun hb => ?_) | refine ao_nstr rfl rfl rfl rfl (fun hb => ?_) (fun hb => ?_) | refine ao_bool rfl rfl rfl rfl (fun hb => ?_) (fun hb => ?_) | refine aw_ret ⟨.inr rfl, _, _, _, _, _, rfl, rfl, rfl, rfl, ?_, rfl⟩)
  all_goals refine congrArg (fun b => V.val (Value.bool b)) ?_
  all_goals simp only [decide_eq_true_eq, decide_eq_false_iff_not]
  all_goals omega
theorem packCount (n : Int) : AF Tryz.prog X 45 [vi n] (vo (decide (0 ≤ n ∧ n ≤ 40))) := by
  refine ac_mk (by kernel_rfl) Tryz.func45 rfl (lb rfl) rfl rfl ?_
  repeat' (first | refine ao_e rfl rfl rfl rfl rfl ?_ | refine ao_eff (v := V.val (Value.bool true)) (ups := []) rfl rfl rfl rfl ?_ | refine ao_eff (v := V.val (Value.bool false)) (ups := []) rfl rfl rfl rfl ?_ | refine aw_seq ?_ | refine aw_region ?_ | refine aw_block ?_ | refine ao_nil ⟨fun h => (Bool.false_ne_true h).elim, ?_⟩ | refine ao_nil ⟨fun _ => ⟨by kernel_rfl, by kernel_rfl⟩, ?_⟩ | refine ao_skip rfl rfl rfl ?_ | refine aw_true rfl ?_ | refine aw_false rfl ?_ | refine aw_skip ?_ | refine aw_exit ?_ | refine ao_dec rfl rfl rfl (eqE _ _ _ _ _ _).1 (fun hb => ?_) (fun hb => ?_) | refine ao_ndec rfl rfl rfl (eqE _ _ _ _ _ _).2 (fun hb => ?_) (fun hb => ?_) | refine ao_dec rfl rfl rfl rfl (fun hb => ?_) (fun hb => ?_) | refine ao_ndec rfl rfl rfl rfl (fun hb => ?_) (fun hb => ?_) | refine ao_str rfl rfl rfl rfl (fun hb => ?_) (fun hb => ?_) | refine ao_nstr rfl rfl rfl rfl (fun hb => ?_) (fun hb => ?_) | refine ao_bool rfl rfl rfl rfl (fun hb => ?_) (fun hb => ?_) | refine aw_ret ⟨.inr rfl, _, _, _, _, _, rfl, rfl, rfl, rfl, ?_, rfl⟩)
  all_goals refine congrArg (fun b => V.val (Value.bool b)) ?_
  all_goals simp only [decide_eq_true_eq, decide_eq_false_iff_not]
  all_goals omega
theorem packMay1 (o : O) (hf : Fit o) : AF Tryz.prog XX 41 [.agg (oC o)] (vo (!mayB o)) := by
  refine ac_mk (by kernel_rfl) Tryz.func41 rfl (lb rfl) rfl rfl ?_
  repeat' (first | refine ao_e rfl rfl rfl rfl rfl ?_ | refine ao_eff (v := V.val (Value.bool true)) (ups := []) rfl rfl rfl rfl ?_ | refine ao_eff (v := V.val (Value.bool false)) (ups := []) rfl rfl rfl rfl ?_ | refine aw_seq ?_ | refine aw_region ?_ | refine aw_block ?_ | refine ao_nil ⟨fun h => (Bool.false_ne_true h).elim, ?_⟩ | refine ao_nil ⟨fun _ => ⟨by kernel_rfl, by kernel_rfl⟩, ?_⟩ | refine ao_skip rfl rfl rfl ?_ | refine aw_true rfl ?_ | refine aw_false rfl ?_ | refine aw_skip ?_ | refine aw_exit ?_ | refine ao_funb rfl rfl rfl rfl rfl rfl (opMay o hf) (fun hb => ?_) (fun hb => ?_) | refine ao_dec rfl rfl rfl (eqE _ _ _ _ _ _).1 (fun hb => ?_) (fun hb => ?_) | refine ao_ndec rfl rfl rfl (eqE _ _ _ _ _ _).2 (fun hb => ?_) (fun hb => ?_) | refine ao_dec rfl rfl rfl rfl (fun hb => ?_) (fun hb => ?_) | refine ao_ndec rfl rfl rfl rfl (fun hb => ?_) (fun hb => ?_) | refine ao_str rfl rfl rfl rfl (fun hb => ?_) (fun hb => ?_) | refine ao_nstr rfl rfl rfl rfl (fun hb => ?_) (fun hb => ?_) | refine ao_bool rfl rfl rfl rfl (fun hb => ?_) (fun hb => ?_) | refine aw_ret ⟨.inr rfl, _, _, _, _, _, rfl, rfl, rfl, rfl, ?_, rfl⟩)
  all_goals refine congrArg (fun b => V.val (Value.bool b)) ?_
  all_goals simp [*]
def ixF (l : List O) : Int := if l.all mayB then -1 else ((l.takeWhile mayB).length : Int)
theorem ixOp (l : List O) (hf : ∀ o ∈ l, Fit o) (hl : l.length < 4611686018427387904) : AF Tryz.prog XX 70 [.isl 11 (l.map oC), .val (.func (.func 41) #[] #[])] (vi (ixF l)) := by
  refine ac_mk (by kernel_rfl) Tryz.func70 rfl (lb rfl) rfl rfl ?_
  repeat (first | refine ao_e rfl rfl rfl rfl rfl ?_ | refine ao_eff (v := V.val (Value.bool true)) (ups := []) rfl rfl rfl rfl ?_ | refine ao_eff (v := V.val (Value.bool false)) (ups := []) rfl rfl rfl rfl ?_ | refine aw_seq ?_ | refine aw_region ?_ | refine aw_block ?_ | refine ao_nil ⟨fun h => (Bool.false_ne_true h).elim, ?_⟩ | refine ao_nil ⟨fun _ => ⟨by kernel_rfl, by kernel_rfl⟩, ?_⟩ | refine ao_skip rfl rfl rfl ?_ | refine aw_true rfl ?_ | refine aw_false rfl ?_ | refine aw_skip ?_ | refine aw_exit ?_)
  refine aw_rounds (T := Nat) (fun i => i ≤ l.length ∧ (l.take i).all mayB = true) (fun i => [.isl 11 (l.map oC), .val (.func (.func 41) #[] #[]), .any, .any, .any, .any, .any, vi (l.length : Nat), vi i]) (fun _ => []) (fun i => l.length - i) 0 ⟨Nat.zero_le _, rfl⟩ ?_ trivial ?_
  · exact ⟨.same _ rfl, .same _ rfl, .any _, .any _, .any _, .any _, .any _, ren_eq (congrArg (fun n : Nat => vi n) (show (l.map oC).length = l.length from List.length_map ..)) rfl, .same _ rfl, trivial⟩
  rintro i h0 ⟨hi, hI⟩
  by_cases hlt : i < l.length
  · have hei : (l.map oC)[Int.toNat (i : Int)]? = some (oC l[i]) := by rw [Int.toNat_natCast, List.getElem?_map, List.getElem?_eq_getElem hlt]; rfl
    have hge := hf _ (List.getElem_mem hlt)
    have htk : l.take (i + 1) = l.take i ++ [l[i]] := List.take_succ_eq_append_getElem hlt
    have hsp : l = l.take i ++ (l[i] :: l.drop (i + 1)) := by rw [← List.drop_eq_getElem_cons hlt, List.take_append_drop]
    repeat (first | refine ao_e rfl rfl rfl rfl rfl ?_ | refine ao_eff (v := V.val (Value.bool true)) (ups := []) rfl rfl rfl rfl ?_ | refine ao_eff (v := V.val (Value.bool false)) (ups := []) rfl rfl rfl rfl ?_ | refine aw_seq ?_ | refine aw_region ?_ | refine aw_block ?_ | refine ao_nil ⟨fun h => (Bool.false_ne_true h).elim, ?_⟩ | refine ao_nil ⟨fun _ => ⟨by kernel_rfl, by kernel_rfl⟩, ?_⟩ | refine ao_skip rfl rfl rfl ?_ | refine aw_true rfl ?_ | refine aw_false rfl ?_ | refine aw_skip ?_ | refine aw_exit ?_)
    refine ao_yes rfl rfl rfl rfl (by omega) ?_
    repeat (first | refine ao_e rfl rfl rfl rfl rfl ?_ | refine ao_eff (v := V.val (Value.bool true)) (ups := []) rfl rfl rfl rfl ?_ | refine ao_eff (v := V.val (Value.bool false)) (ups := []) rfl rfl rfl rfl ?_ | refine aw_seq ?_ | refine aw_region ?_ | refine aw_block ?_ | refine ao_nil ⟨fun h => (Bool.false_ne_true h).elim, ?_⟩ | refine ao_nil ⟨fun _ => ⟨by kernel_rfl, by kernel_rfl⟩, ?_⟩ | refine ao_skip rfl rfl rfl ?_ | refine aw_true rfl ?_ | refine aw_false rfl ?_ | refine aw_skip ?_ | refine aw_exit ?_)
    refine ao_e rfl rfl rfl rfl (ef_ix rfl rfl (by omega) hei) ?_
    repeat (first | refine ao_e rfl rfl rfl rfl rfl ?_ | refine ao_eff (v := V.val (Value.bool true)) (ups := []) rfl rfl rfl rfl ?_ | refine ao_eff (v := V.val (Value.bool false)) (ups := []) rfl rfl rfl rfl ?_ | refine aw_seq ?_ | refine aw_region ?_ | refine aw_block ?_ | refine ao_nil ⟨fun h => (Bool.false_ne_true h).elim, ?_⟩ | refine ao_nil ⟨fun _ => ⟨by kernel_rfl, by kernel_rfl⟩, ?_⟩ | refine ao_skip rfl rfl rfl ?_ | refine aw_true rfl ?_ | refine aw_false rfl ?_ | refine aw_skip ?_ | refine aw_exit ?_)
    refine ao_funb rfl rfl rfl rfl rfl rfl (packMay1 _ hge) (fun hb => ?_) (fun hb => ?_)
    · repeat (first | refine ao_e rfl rfl rfl rfl rfl ?_ | refine ao_eff (v := V.val (Value.bool true)) (ups := []) rfl rfl rfl rfl ?_ | refine ao_eff (v := V.val (Value.bool false)) (ups := []) rfl rfl rfl rfl ?_ | refine aw_seq ?_ | refine aw_region ?_ | refine aw_block ?_ | refine ao_nil ⟨fun h => (Bool.false_ne_true h).elim, ?_⟩ | refine ao_nil ⟨fun _ => ⟨by kernel_rfl, by kernel_rfl⟩, ?_⟩ | refine ao_skip rfl rfl rfl ?_ | refine aw_true rfl ?_ | refine aw_false rfl ?_ | refine aw_skip ?_ | refine aw_exit ?_)
      refine aw_ret ⟨.inr rfl, _, _, _, _, _, rfl, rfl, rfl, rfl, ?_, rfl⟩
      refine congrArg vi ?_
      have hb : mayB l[i] = false := by simpa using hb
      have h1 : l.all mayB = false := by
        rw [List.all_eq_false]
        exact ⟨l[i], List.getElem_mem hlt, by simp [hb]⟩
      have h2 : l.takeWhile mayB = l.take i := by
        conv => lhs; rw [hsp]
        rw [List.takeWhile_append_of_pos (fun a ha => List.all_eq_true.1 hI a ha), List.takeWhile_cons, hb]
        simp
      unfold ixF
      rw [h1, h2, List.length_take]
      simp
      omega
    · have hb : mayB l[i] = true := by simpa using hb
      repeat (first | refine ao_e rfl rfl rfl rfl rfl ?_ | refine ao_eff (v := V.val (Value.bool true)) (ups := []) rfl rfl rfl rfl ?_ | refine ao_eff (v := V.val (Value.bool false)) (ups := []) rfl rfl rfl rfl ?_ | refine aw_seq ?_ | refine aw_region ?_ | refine aw_block ?_ | refine ao_nil ⟨fun h => (Bool.false_ne_true h).elim, ?_⟩ | refine ao_nil ⟨fun _ => ⟨by kernel_rfl, by kernel_rfl⟩, ?_⟩ | refine ao_skip rfl rfl rfl ?_ | refine aw_true rfl ?_ | refine aw_false rfl ?_ | refine aw_skip ?_ | refine aw_exit ?_)
      exact ⟨i + 1, ⟨hlt, by rw [htk, List.all_append, hI]; simp [hb]⟩, by omega, ⟨.same _ rfl, .same _ rfl, .any _, .any _, .any _, .any _, .any _, .same _ rfl, rsucc i (by omega), trivial⟩, trivial⟩
  · obtain rfl : i = l.length := by omega
    rw [List.take_length] at hI
    repeat (first | refine ao_e rfl rfl rfl rfl rfl ?_ | refine ao_eff (v := V.val (Value.bool true)) (ups := []) rfl rfl rfl rfl ?_ | refine ao_eff (v := V.val (Value.bool false)) (ups := []) rfl rfl rfl rfl ?_ | refine aw_seq ?_ | refine aw_region ?_ | refine aw_block ?_ | refine ao_nil ⟨fun h => (Bool.false_ne_true h).elim, ?_⟩ | refine ao_nil ⟨fun _ => ⟨by kernel_rfl, by kernel_rfl⟩, ?_⟩ | refine ao_skip rfl rfl rfl ?_ | refine aw_true rfl ?_ | refine aw_false rfl ?_ | refine aw_skip ?_ | refine aw_exit ?_)
    refine ao_no rfl rfl rfl rfl (by omega) ?_
    repeat (first | refine ao_e rfl rfl rfl rfl rfl ?_ | refine ao_eff (v := V.val (Value.bool true)) (ups := []) rfl rfl rfl rfl ?_ | refine ao_eff (v := V.val (Value.bool false)) (ups := []) rfl rfl rfl rfl ?_ | refine aw_seq ?_ | refine aw_region ?_ | refine aw_block ?_ | refine ao_nil ⟨fun h => (Bool.false_ne_true h).elim, ?_⟩ | refine ao_nil ⟨fun _ => ⟨by kernel_rfl, by kernel_rfl⟩, ?_⟩ | refine ao_skip rfl rfl rfl ?_ | refine aw_true rfl ?_ | refine aw_false rfl ?_ | refine aw_skip ?_ | refine aw_exit ?_)
    refine aw_ret ⟨.inr rfl, _, _, _, _, _, rfl, rfl, rfl, rfl, ?_, rfl⟩
    unfold ixF
    rw [hI]; rfl
theorem containsOp (l : List O) (hf : ∀ o ∈ l, Fit o) (hl : l.length < 4611686018427387904) : AF Tryz.prog XX 40 [.isl 11 (l.map oC), .val (.func (.func 41) #[] #[])] (vo (!l.all mayB)) := by
  refine ac_mk (by kernel_rfl) Tryz.func40 rfl (lb rfl) rfl rfl ?_
  repeat' (first | refine ao_e rfl rfl rfl rfl rfl ?_ | refine ao_eff (v := V.val (Value.bool true)) (ups := []) rfl rfl rfl rfl ?_ | refine ao_eff (v := V.val (Value.bool false)) (ups := []) rfl rfl rfl rfl ?_ | refine aw_seq ?_ | refine aw_region ?_ | refine aw_block ?_ | refine ao_nil ⟨fun h => (Bool.false_ne_true h).elim, ?_⟩ | refine ao_nil ⟨fun _ => ⟨by kernel_rfl, by kernel_rfl⟩, ?_⟩ | refine ao_skip rfl rfl rfl ?_ | refine aw_true rfl ?_ | refine aw_false rfl ?_ | refine aw_skip ?_ | refine aw_exit ?_ | refine ao_fun rfl rfl rfl rfl rfl rfl (ixOp l hf hl) ?_ | refine ao_funs rfl rfl rfl rfl rfl rfl (ixOp l hf hl) rfl ?_ | refine ao_dec rfl rfl rfl (eqE _ _ _ _ _ _).1 (fun hb => ?_) (fun hb => ?_) | refine ao_ndec rfl rfl rfl (eqE _ _ _ _ _ _).2 (fun hb => ?_) (fun hb => ?_) | refine ao_dec rfl rfl rfl rfl (fun hb => ?_) (fun hb => ?_) | refine ao_ndec rfl rfl rfl rfl (fun hb => ?_) (fun hb => ?_) | refine ao_str rfl rfl rfl rfl (fun hb => ?_) (fun hb => ?_) | refine ao_nstr rfl rfl rfl rfl (fun hb => ?_) (fun hb => ?_) | refine ao_bool rfl rfl rfl rfl (fun hb => ?_) (fun hb => ?_) | refine aw_ret ⟨.inr rfl, _, _, _, _, _, rfl, rfl, rfl, rfl, ?_, rfl⟩)
  all_goals refine congrArg (fun b => V.val (Value.bool b)) ?_
  all_goals unfold ixF at *
  all_goals cases h : l.all mayB <;> simp_all
  all_goals omega
end Go.Ai

namespace Go.Ai
open Go Go.RowKit Go.Proofs Go.Sp
variable {X : FuncId → List V → List (Nat × List V) → V → List (Nat × List V) → List Blk → Prop}
set_option maxRecDepth 10000
set_option maxHeartbeats 8000000
set_option linter.unusedVariables false
set_option linter.unusedSimpArgs false
theorem packMayM (m : M) (hf : ∀ o ∈ m.f6, Fit o) (hl : m.f6.length < 4611686018427387904) : AF Tryz.prog XX 20 [.agg (mC m)] (vo (mayM m)) := by
  refine ac_mk (by kernel_rfl) Tryz.func20 rfl (lb rfl) rfl rfl ?_
  repeat' (first | refine ao_e rfl rfl rfl rfl rfl ?_ | refine ao_eff (v := V.val (Value.bool true)) (ups := []) rfl rfl rfl rfl ?_ | refine ao_eff (v := V.val (Value.bool false)) (ups := []) rfl rfl rfl rfl ?_ | refine aw_seq ?_ | refine aw_region ?_ | refine aw_block ?_ | refine ao_nil ⟨fun h => (Bool.false_ne_true h).elim, ?_⟩ | refine ao_nil ⟨fun _ => ⟨by kernel_rfl, by kernel_rfl⟩, ?_⟩ | refine ao_skip rfl rfl rfl ?_ | refine aw_true rfl ?_ | refine aw_false rfl ?_ | refine aw_skip ?_ | refine aw_exit ?_ | refine ao_funb rfl rfl rfl rfl rfl rfl (containsOp m.f6 hf hl) (fun hb => ?_) (fun hb => ?_) | refine ao_funb rfl rfl rfl rfl rfl rfl (packOne _) (fun hb => ?_) (fun hb => ?_) | refine ao_funb rfl rfl rfl rfl rfl rfl (packCount _) (fun hb => ?_) (fun hb => ?_) | refine ao_funb rfl rfl rfl rfl rfl rfl (opSite _) (fun hb => ?_) (fun hb => ?_) | refine ao_funb rfl rfl rfl rfl rfl rfl (opName _ _) (fun hb => ?_) (fun hb => ?_) | refine ao_dec rfl rfl rfl (eqE _ _ _ _ _ _).1 (fun hb => ?_) (fun hb => ?_) | refine ao_ndec rfl rfl rfl (eqE _ _ _ _ _ _).2 (fun hb => ?_) (fun hb => ?_) | refine ao_dec rfl rfl rfl rfl (fun hb => ?_) (fun hb => ?_) | refine ao_ndec rfl rfl rfl rfl (fun hb => ?_) (fun hb => ?_) | refine ao_str rfl rfl rfl rfl (fun hb => ?_) (fun hb => ?_) | refine ao_nstr rfl rfl rfl rfl (fun hb => ?_) (fun hb => ?_) | refine ao_bool rfl rfl rfl rfl (fun hb => ?_) (fun hb => ?_) | refine aw_ret ⟨.inr rfl, _, _, _, _, _, rfl, rfl, rfl, rfl, ?_, rfl⟩)
  all_goals refine congrArg (fun b => V.val (Value.bool b)) ?_
  all_goals try simp only [List.length_map, Bool.not_eq_true', Bool.not_eq_false', decide_eq_true_eq, decide_eq_false_iff_not] at *
  all_goals unfold mayM caseM
  all_goals first | (simp_all; done) | (simp_all; omega) | grind
end Go.Ai
