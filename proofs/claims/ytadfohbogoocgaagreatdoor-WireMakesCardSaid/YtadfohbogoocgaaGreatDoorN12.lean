/- A part of the proof: what the program does, step by step, over values without addresses. No conditions of mine. -/
import Derived.Test.YtadfohbogoocgaaGreatDoorRunN9toAiG
set_option linter.unusedVariables false
set_option linter.unusedSimpArgs false
namespace Go.Ai
open Go Go.RowKit Go.Proofs Go.Sp
variable {X : FuncId → List V → List (Nat × List V) → V → List (Nat × List V) → List Blk → Prop}
set_option maxRecDepth 10000
set_option maxHeartbeats 4000000
set_option linter.unusedVariables false
set_option linter.unusedSimpArgs false
theorem refBetween (n a b : Int) : AF Tryz.prog X 53 [vi n, vi a, vi b] (vo (decide (a ≤ n ∧ n ≤ b))) := by
  refine ac_mk (by kernel_rfl) Tryz.func53 rfl (lb rfl) rfl rfl ?_
  repeat' (first | refine ao_e rfl rfl rfl rfl rfl ?_ | refine ao_eff (v := V.val (Value.bool true)) (ups := []) rfl rfl rfl rfl ?_ | refine ao_eff (v := V.val (Value.bool false)) (ups := []) rfl rfl rfl rfl ?_ | refine aw_seq ?_ | refine aw_region ?_ | refine aw_block ?_ | refine ao_nil ⟨fun h => (Bool.false_ne_true h).elim, ?_⟩ | refine ao_nil ⟨fun _ => ⟨by kernel_rfl, by kernel_rfl⟩, ?_⟩ | refine ao_skip rfl rfl rfl ?_ | refine aw_true rfl ?_ | refine aw_false rfl ?_ | refine aw_skip ?_ | refine aw_exit ?_ | refine ao_dec rfl rfl rfl (eqE _ _ _ _ _ _).1 (fun hb => ?_) (fun hb => ?_) | refine ao_ndec rfl rfl rfl (eqE _ _ _ _ _ _).2 (fun hb => ?_) (fun hb => ?_) | refine ao_dec rfl rfl rfl rfl (fun hb => ?_) (fun hb => ?_) | refine ao_ndec rfl rfl rfl rfl (fun hb => ?_) (fun hb => ?_) | refine ao_str rfl rfl rfl rfl (fun hb => ?_) (fun hb => ?_) | refine ao_nstr rfl rfl rfl rfl (fun hb => ?_) (fun hb => ?_) | refine ao_bool rfl rfl rfl rfl (fun hb => ?_) (fun hb => ?_) | refine aw_ret ⟨.inr rfl, _, _, _, _, _, rfl, rfl, rfl, rfl, ?_, rfl⟩)
  all_goals refine congrArg (fun b => V.val (Value.bool b)) ?_
  all_goals simp only [decide_eq_true_eq, decide_eq_false_iff_not]
  all_goals omega
theorem refNum (n b : Int) : AF Tryz.prog X 52 [vi n, vi b] (vo (decide (0 ≤ n ∧ n ≤ b))) := by
  refine ac_mk (by kernel_rfl) Tryz.func52 rfl (lb rfl) rfl rfl ?_
  repeat' (first | refine ao_e rfl rfl rfl rfl rfl ?_ | refine ao_eff (v := V.val (Value.bool true)) (ups := []) rfl rfl rfl rfl ?_ | refine ao_eff (v := V.val (Value.bool false)) (ups := []) rfl rfl rfl rfl ?_ | refine aw_seq ?_ | refine aw_region ?_ | refine aw_block ?_ | refine ao_nil ⟨fun h => (Bool.false_ne_true h).elim, ?_⟩ | refine ao_nil ⟨fun _ => ⟨by kernel_rfl, by kernel_rfl⟩, ?_⟩ | refine ao_skip rfl rfl rfl ?_ | refine aw_true rfl ?_ | refine aw_false rfl ?_ | refine aw_skip ?_ | refine aw_exit ?_ | refine ao_dec rfl rfl rfl (eqE _ _ _ _ _ _).1 (fun hb => ?_) (fun hb => ?_) | refine ao_ndec rfl rfl rfl (eqE _ _ _ _ _ _).2 (fun hb => ?_) (fun hb => ?_) | refine ao_dec rfl rfl rfl rfl (fun hb => ?_) (fun hb => ?_) | refine ao_ndec rfl rfl rfl rfl (fun hb => ?_) (fun hb => ?_) | refine ao_str rfl rfl rfl rfl (fun hb => ?_) (fun hb => ?_) | refine ao_nstr rfl rfl rfl rfl (fun hb => ?_) (fun hb => ?_) | refine ao_bool rfl rfl rfl rfl (fun hb => ?_) (fun hb => ?_) | refine aw_ret ⟨.inr rfl, _, _, _, _, _, rfl, rfl, rfl, rfl, ?_, rfl⟩)
  all_goals refine congrArg (fun b => V.val (Value.bool b)) ?_
  all_goals simp only [decide_eq_true_eq, decide_eq_false_iff_not]
  all_goals omega
theorem refName (s q : Int) : AF Tryz.prog X 77 [vi s, vi q] (vo (nameB s q)) := by
  refine ac_mk (by kernel_rfl) Tryz.func77 rfl (lb rfl) rfl rfl ?_
  repeat' (first | refine ao_e rfl rfl rfl rfl rfl ?_ | refine ao_eff (v := V.val (Value.bool true)) (ups := []) rfl rfl rfl rfl ?_ | refine ao_eff (v := V.val (Value.bool false)) (ups := []) rfl rfl rfl rfl ?_ | refine aw_seq ?_ | refine aw_region ?_ | refine aw_block ?_ | refine ao_nil ⟨fun h => (Bool.false_ne_true h).elim, ?_⟩ | refine ao_nil ⟨fun _ => ⟨by kernel_rfl, by kernel_rfl⟩, ?_⟩ | refine ao_skip rfl rfl rfl ?_ | refine aw_true rfl ?_ | refine aw_false rfl ?_ | refine aw_skip ?_ | refine aw_exit ?_ | refine ao_funb rfl rfl rfl rfl rfl rfl (refBetween _ _ _) (fun hb => ?_) (fun hb => ?_) | refine ao_dec rfl rfl rfl (eqE _ _ _ _ _ _).1 (fun hb => ?_) (fun hb => ?_) | refine ao_ndec rfl rfl rfl (eqE _ _ _ _ _ _).2 (fun hb => ?_) (fun hb => ?_) | refine ao_dec rfl rfl rfl rfl (fun hb => ?_) (fun hb => ?_) | refine ao_ndec rfl rfl rfl rfl (fun hb => ?_) (fun hb => ?_) | refine ao_str rfl rfl rfl rfl (fun hb => ?_) (fun hb => ?_) | refine ao_nstr rfl rfl rfl rfl (fun hb => ?_) (fun hb => ?_) | refine ao_bool rfl rfl rfl rfl (fun hb => ?_) (fun hb => ?_) | refine aw_ret ⟨.inr rfl, _, _, _, _, _, rfl, rfl, rfl, rfl, ?_, rfl⟩)
  all_goals refine congrArg (fun b => V.val (Value.bool b)) ?_
  all_goals try simp only [decide_eq_true_eq, decide_eq_false_iff_not] at *
  all_goals simp [nameB, siteB, *]
  all_goals omega
theorem refBegin (e : E) : AF Tryz.prog X 78 [.agg (eC e)] (vo (zeroE e)) := by
  refine ac_mk (by kernel_rfl) Tryz.func78 rfl (lb rfl) rfl rfl ?_
  repeat' (first | refine ao_e rfl rfl rfl rfl rfl ?_ | refine ao_eff (v := V.val (Value.bool true)) (ups := []) rfl rfl rfl rfl ?_ | refine ao_eff (v := V.val (Value.bool false)) (ups := []) rfl rfl rfl rfl ?_ | refine aw_seq ?_ | refine aw_region ?_ | refine aw_block ?_ | refine ao_nil ⟨fun h => (Bool.false_ne_true h).elim, ?_⟩ | refine ao_nil ⟨fun _ => ⟨by kernel_rfl, by kernel_rfl⟩, ?_⟩ | refine ao_skip rfl rfl rfl ?_ | refine aw_true rfl ?_ | refine aw_false rfl ?_ | refine aw_skip ?_ | refine aw_exit ?_ | refine ao_dec rfl rfl rfl (eqE _ _ _ _ _ _).1 (fun hb => ?_) (fun hb => ?_) | refine ao_ndec rfl rfl rfl (eqE _ _ _ _ _ _).2 (fun hb => ?_) (fun hb => ?_) | refine ao_dec rfl rfl rfl rfl (fun hb => ?_) (fun hb => ?_) | refine ao_ndec rfl rfl rfl rfl (fun hb => ?_) (fun hb => ?_) | refine ao_str rfl rfl rfl rfl (fun hb => ?_) (fun hb => ?_) | refine ao_nstr rfl rfl rfl rfl (fun hb => ?_) (fun hb => ?_) | refine ao_bool rfl rfl rfl rfl (fun hb => ?_) (fun hb => ?_) | refine aw_ret ⟨.inr rfl, _, _, _, _, _, rfl, rfl, rfl, rfl, ?_, rfl⟩)
  all_goals refine congrArg (fun b => V.val (Value.bool b)) ?_
  all_goals simp [zeroE, *]
theorem refElemB (e : E) : AF Tryz.prog X 80 [.agg (eC e)] (vo (elemB e)) := by
  refine ac_mk (by kernel_rfl) Tryz.func80 rfl (lb rfl) rfl rfl ?_
  repeat' (first | refine ao_e rfl rfl rfl rfl rfl ?_ | refine ao_eff (v := V.val (Value.bool true)) (ups := []) rfl rfl rfl rfl ?_ | refine ao_eff (v := V.val (Value.bool false)) (ups := []) rfl rfl rfl rfl ?_ | refine aw_seq ?_ | refine aw_region ?_ | refine aw_block ?_ | refine ao_nil ⟨fun h => (Bool.false_ne_true h).elim, ?_⟩ | refine ao_nil ⟨fun _ => ⟨by kernel_rfl, by kernel_rfl⟩, ?_⟩ | refine ao_skip rfl rfl rfl ?_ | refine aw_true rfl ?_ | refine aw_false rfl ?_ | refine aw_skip ?_ | refine aw_exit ?_ | refine ao_funb rfl rfl rfl rfl rfl rfl (refBegin e) (fun hb => ?_) (fun hb => ?_) | refine ao_funb rfl rfl rfl rfl rfl rfl (refName _ _) (fun hb => ?_) (fun hb => ?_) | refine ao_funb rfl rfl rfl rfl rfl rfl (refNum _ _) (fun hb => ?_) (fun hb => ?_) | refine ao_dec rfl rfl rfl (eqE _ _ _ _ _ _).1 (fun hb => ?_) (fun hb => ?_) | refine ao_ndec rfl rfl rfl (eqE _ _ _ _ _ _).2 (fun hb => ?_) (fun hb => ?_) | refine ao_dec rfl rfl rfl rfl (fun hb => ?_) (fun hb => ?_) | refine ao_ndec rfl rfl rfl rfl (fun hb => ?_) (fun hb => ?_) | refine ao_str rfl rfl rfl rfl (fun hb => ?_) (fun hb => ?_) | refine ao_nstr rfl rfl rfl rfl (fun hb => ?_) (fun hb => ?_) | refine ao_bool rfl rfl rfl rfl (fun hb => ?_) (fun hb => ?_) | refine aw_ret ⟨.inr rfl, _, _, _, _, _, rfl, rfl, rfl, rfl, ?_, rfl⟩)
  all_goals refine congrArg (fun b => V.val (Value.bool b)) ?_
  all_goals try simp only [decide_eq_true_eq, decide_eq_false_iff_not] at *
  all_goals simp [elemB, *]
  all_goals omega
theorem refOwn (o : O) (e : E) : AF Tryz.prog X 81 [.agg (oC o), .agg (eC e)] (vo (ownB o e)) := by
  refine ac_mk (by kernel_rfl) Tryz.func81 rfl (lb rfl) rfl rfl ?_
  repeat' (first | refine ao_e rfl rfl rfl rfl rfl ?_ | refine ao_eff (v := V.val (Value.bool true)) (ups := []) rfl rfl rfl rfl ?_ | refine ao_eff (v := V.val (Value.bool false)) (ups := []) rfl rfl rfl rfl ?_ | refine aw_seq ?_ | refine aw_region ?_ | refine aw_block ?_ | refine ao_nil ⟨fun h => (Bool.false_ne_true h).elim, ?_⟩ | refine ao_nil ⟨fun _ => ⟨by kernel_rfl, by kernel_rfl⟩, ?_⟩ | refine ao_skip rfl rfl rfl ?_ | refine aw_true rfl ?_ | refine aw_false rfl ?_ | refine aw_skip ?_ | refine aw_exit ?_ | refine ao_dec rfl rfl rfl (eqE _ _ _ _ _ _).1 (fun hb => ?_) (fun hb => ?_) | refine ao_ndec rfl rfl rfl (eqE _ _ _ _ _ _).2 (fun hb => ?_) (fun hb => ?_) | refine ao_dec rfl rfl rfl rfl (fun hb => ?_) (fun hb => ?_) | refine ao_ndec rfl rfl rfl rfl (fun hb => ?_) (fun hb => ?_) | refine ao_str rfl rfl rfl rfl (fun hb => ?_) (fun hb => ?_) | refine ao_nstr rfl rfl rfl rfl (fun hb => ?_) (fun hb => ?_) | refine ao_bool rfl rfl rfl rfl (fun hb => ?_) (fun hb => ?_) | refine aw_ret ⟨.inr rfl, _, _, _, _, _, rfl, rfl, rfl, rfl, ?_, rfl⟩)
  all_goals refine congrArg (fun b => V.val (Value.bool b)) ?_
  all_goals simp [ownB, *]
theorem refLess (a b : E) : AF Tryz.prog X 82 [.agg (eC a), .agg (eC b)] (vo (lessB a b)) := by
  refine ac_mk (by kernel_rfl) Tryz.func82 rfl (lb rfl) rfl rfl ?_
  repeat' (first | refine ao_e rfl rfl rfl rfl rfl ?_ | refine ao_eff (v := V.val (Value.bool true)) (ups := []) rfl rfl rfl rfl ?_ | refine ao_eff (v := V.val (Value.bool false)) (ups := []) rfl rfl rfl rfl ?_ | refine aw_seq ?_ | refine aw_region ?_ | refine aw_block ?_ | refine ao_nil ⟨fun h => (Bool.false_ne_true h).elim, ?_⟩ | refine ao_nil ⟨fun _ => ⟨by kernel_rfl, by kernel_rfl⟩, ?_⟩ | refine ao_skip rfl rfl rfl ?_ | refine aw_true rfl ?_ | refine aw_false rfl ?_ | refine aw_skip ?_ | refine aw_exit ?_ | refine ao_dec rfl rfl rfl (eqE _ _ _ _ _ _).1 (fun hb => ?_) (fun hb => ?_) | refine ao_ndec rfl rfl rfl (eqE _ _ _ _ _ _).2 (fun hb => ?_) (fun hb => ?_) | refine ao_dec rfl rfl rfl rfl (fun hb => ?_) (fun hb => ?_) | refine ao_ndec rfl rfl rfl rfl (fun hb => ?_) (fun hb => ?_) | refine ao_str rfl rfl rfl rfl (fun hb => ?_) (fun hb => ?_) | refine ao_nstr rfl rfl rfl rfl (fun hb => ?_) (fun hb => ?_) | refine ao_bool rfl rfl rfl rfl (fun hb => ?_) (fun hb => ?_) | refine aw_ret ⟨.inr rfl, _, _, _, _, _, rfl, rfl, rfl, rfl, ?_, rfl⟩)
  all_goals refine congrArg (fun b => V.val (Value.bool b)) ?_
  all_goals unfold lessB
  all_goals first | refine decide_eq_true ?_ | refine decide_eq_false ?_
  all_goals omega
theorem refRune (x : Int) : AF Tryz.prog X 99 [.val (.int .i32 x)] (vo (decide (okR x))) := by
  refine ac_mk (by kernel_rfl) Tryz.func99 rfl (lb rfl) rfl rfl ?_
  repeat' (first | refine ao_e rfl rfl rfl rfl rfl ?_ | refine ao_eff (v := V.val (Value.bool true)) (ups := []) rfl rfl rfl rfl ?_ | refine ao_eff (v := V.val (Value.bool false)) (ups := []) rfl rfl rfl rfl ?_ | refine aw_seq ?_ | refine aw_region ?_ | refine aw_block ?_ | refine ao_nil ⟨fun h => (Bool.false_ne_true h).elim, ?_⟩ | refine ao_nil ⟨fun _ => ⟨by kernel_rfl, by kernel_rfl⟩, ?_⟩ | refine ao_skip rfl rfl rfl ?_ | refine aw_true rfl ?_ | refine aw_false rfl ?_ | refine aw_skip ?_ | refine aw_exit ?_ | refine ao_dec rfl rfl rfl (eqE _ _ _ _ _ _).1 (fun hb => ?_) (fun hb => ?_) | refine ao_ndec rfl rfl rfl (eqE _ _ _ _ _ _).2 (fun hb => ?_) (fun hb => ?_) | refine ao_dec rfl rfl rfl rfl (fun hb => ?_) (fun hb => ?_) | refine ao_ndec rfl rfl rfl rfl (fun hb => ?_) (fun hb => ?_) | refine ao_str rfl rfl rfl rfl (fun hb => ?_) (fun hb => ?_) | refine ao_nstr rfl rfl rfl rfl (fun hb => ?_) (fun hb => ?_) | refine ao_bool rfl rfl rfl rfl (fun hb => ?_) (fun hb => ?_) | refine aw_ret ⟨.inr rfl, _, _, _, _, _, rfl, rfl, rfl, rfl, ?_, rfl⟩)
  all_goals refine congrArg (fun b => V.val (Value.bool b)) ?_
  all_goals first | refine decide_eq_true ?_ | refine decide_eq_false ?_
  all_goals unfold okR
  all_goals omega
theorem eqElems (a b : List E) (ha : a.length < 4611686018427387904) : AF Tryz.prog X 85 [.isl 3 (a.map eC), .isl 3 (b.map eC)] (vo (decide (a = b))) := by
  refine ac_mk (by kernel_rfl) Tryz.func85 rfl (lb rfl) rfl rfl ?_
  repeat (first | refine ao_e rfl rfl rfl rfl rfl ?_ | refine ao_eff (v := V.val (Value.bool true)) (ups := []) rfl rfl rfl rfl ?_ | refine ao_eff (v := V.val (Value.bool false)) (ups := []) rfl rfl rfl rfl ?_ | refine aw_seq ?_ | refine aw_region ?_ | refine aw_block ?_ | refine ao_nil ⟨fun h => (Bool.false_ne_true h).elim, ?_⟩ | refine ao_nil ⟨fun _ => ⟨by kernel_rfl, by kernel_rfl⟩, ?_⟩ | refine ao_skip rfl rfl rfl ?_ | refine aw_true rfl ?_ | refine aw_false rfl ?_ | refine aw_skip ?_ | refine aw_exit ?_)
  refine ao_ndec rfl rfl rfl rfl (fun hb => ?_) (fun hb => ?_)
  · simp only [List.length_map] at hb
    have hab : a.length = b.length := by omega
    repeat (first | refine ao_e rfl rfl rfl rfl rfl ?_ | refine ao_eff (v := V.val (Value.bool true)) (ups := []) rfl rfl rfl rfl ?_ | refine ao_eff (v := V.val (Value.bool false)) (ups := []) rfl rfl rfl rfl ?_ | refine aw_seq ?_ | refine aw_region ?_ | refine aw_block ?_ | refine ao_nil ⟨fun h => (Bool.false_ne_true h).elim, ?_⟩ | refine ao_nil ⟨fun _ => ⟨by kernel_rfl, by kernel_rfl⟩, ?_⟩ | refine ao_skip rfl rfl rfl ?_ | refine aw_true rfl ?_ | refine aw_false rfl ?_ | refine aw_skip ?_ | refine aw_exit ?_)
    refine aw_rounds (T := Nat) (fun i => i ≤ a.length ∧ a.take i = b.take i) (fun i => [.isl 3 (a.map eC), .isl 3 (b.map eC), .any, .any, .any, vi i]) (fun _ => []) (fun i => a.length - i) 0 ⟨Nat.zero_le _, by simp⟩ ⟨.same _ rfl, .same _ rfl, .any _, .any _, .any _, .same _ rfl, trivial⟩ trivial ?_
    rintro i h0 ⟨hi, hI⟩
    by_cases hlt : i < a.length
    · have hea : (a.map eC)[Int.toNat (i : Int)]? = some (eC a[i]) := by rw [Int.toNat_natCast, List.getElem?_map, List.getElem?_eq_getElem hlt]; rfl
      have heb : (b.map eC)[Int.toNat (i : Int)]? = some (eC (b[i]'(by omega))) := by rw [Int.toNat_natCast, List.getElem?_map, List.getElem?_eq_getElem (by omega)]; rfl
      repeat (first | refine ao_e rfl rfl rfl rfl rfl ?_ | refine ao_eff (v := V.val (Value.bool true)) (ups := []) rfl rfl rfl rfl ?_ | refine ao_eff (v := V.val (Value.bool false)) (ups := []) rfl rfl rfl rfl ?_ | refine aw_seq ?_ | refine aw_region ?_ | refine aw_block ?_ | refine ao_nil ⟨fun h => (Bool.false_ne_true h).elim, ?_⟩ | refine ao_nil ⟨fun _ => ⟨by kernel_rfl, by kernel_rfl⟩, ?_⟩ | refine ao_skip rfl rfl rfl ?_ | refine aw_true rfl ?_ | refine aw_false rfl ?_ | refine aw_skip ?_ | refine aw_exit ?_)
      refine ao_yes rfl rfl rfl rfl (by rw [List.length_map]; omega) ?_
      repeat (first | refine ao_e rfl rfl rfl rfl rfl ?_ | refine ao_eff (v := V.val (Value.bool true)) (ups := []) rfl rfl rfl rfl ?_ | refine ao_eff (v := V.val (Value.bool false)) (ups := []) rfl rfl rfl rfl ?_ | refine aw_seq ?_ | refine aw_region ?_ | refine aw_block ?_ | refine ao_nil ⟨fun h => (Bool.false_ne_true h).elim, ?_⟩ | refine ao_nil ⟨fun _ => ⟨by kernel_rfl, by kernel_rfl⟩, ?_⟩ | refine ao_skip rfl rfl rfl ?_ | refine aw_true rfl ?_ | refine aw_false rfl ?_ | refine aw_skip ?_ | refine aw_exit ?_)
      refine ao_e rfl rfl rfl rfl (ef_ix rfl rfl (by omega) hea) ?_
      repeat (first | refine ao_e rfl rfl rfl rfl rfl ?_ | refine ao_eff (v := V.val (Value.bool true)) (ups := []) rfl rfl rfl rfl ?_ | refine ao_eff (v := V.val (Value.bool false)) (ups := []) rfl rfl rfl rfl ?_ | refine aw_seq ?_ | refine aw_region ?_ | refine aw_block ?_ | refine ao_nil ⟨fun h => (Bool.false_ne_true h).elim, ?_⟩ | refine ao_nil ⟨fun _ => ⟨by kernel_rfl, by kernel_rfl⟩, ?_⟩ | refine ao_skip rfl rfl rfl ?_ | refine aw_true rfl ?_ | refine aw_false rfl ?_ | refine aw_skip ?_ | refine aw_exit ?_)
      refine ao_e rfl rfl rfl rfl (ef_ix rfl rfl (by omega) heb) ?_
      repeat (first | refine ao_e rfl rfl rfl rfl rfl ?_ | refine ao_eff (v := V.val (Value.bool true)) (ups := []) rfl rfl rfl rfl ?_ | refine ao_eff (v := V.val (Value.bool false)) (ups := []) rfl rfl rfl rfl ?_ | refine aw_seq ?_ | refine aw_region ?_ | refine aw_block ?_ | refine ao_nil ⟨fun h => (Bool.false_ne_true h).elim, ?_⟩ | refine ao_nil ⟨fun _ => ⟨by kernel_rfl, by kernel_rfl⟩, ?_⟩ | refine ao_skip rfl rfl rfl ?_ | refine aw_true rfl ?_ | refine aw_false rfl ?_ | refine aw_skip ?_ | refine aw_exit ?_)
      refine ao_ndec rfl rfl rfl (eqE _ _ _ _ _ _).2 (fun hb => ?_) (fun hb => ?_)
      · have he : a[i] = b[i]'(by omega) := by
          generalize a[i] = x at *
          generalize b[i]'(by omega) = y at *
          cases x; cases y; simp only at hb; obtain ⟨rfl, rfl, rfl⟩ := hb; rfl
        repeat (first | refine ao_e rfl rfl rfl rfl rfl ?_ | refine ao_eff (v := V.val (Value.bool true)) (ups := []) rfl rfl rfl rfl ?_ | refine ao_eff (v := V.val (Value.bool false)) (ups := []) rfl rfl rfl rfl ?_ | refine aw_seq ?_ | refine aw_region ?_ | refine aw_block ?_ | refine ao_nil ⟨fun h => (Bool.false_ne_true h).elim, ?_⟩ | refine ao_nil ⟨fun _ => ⟨by kernel_rfl, by kernel_rfl⟩, ?_⟩ | refine ao_skip rfl rfl rfl ?_ | refine aw_true rfl ?_ | refine aw_false rfl ?_ | refine aw_skip ?_ | refine aw_exit ?_)
        refine ⟨i + 1, ⟨hlt, ?_⟩, by omega, ⟨.same _ rfl, .same _ rfl, .any _, .any _, .any _, rsucc i (by omega), trivial⟩, trivial⟩
        rw [List.take_succ_eq_append_getElem hlt, List.take_succ_eq_append_getElem (by omega), hI, he]
      · repeat (first | refine ao_e rfl rfl rfl rfl rfl ?_ | refine ao_eff (v := V.val (Value.bool true)) (ups := []) rfl rfl rfl rfl ?_ | refine ao_eff (v := V.val (Value.bool false)) (ups := []) rfl rfl rfl rfl ?_ | refine aw_seq ?_ | refine aw_region ?_ | refine aw_block ?_ | refine ao_nil ⟨fun h => (Bool.false_ne_true h).elim, ?_⟩ | refine ao_nil ⟨fun _ => ⟨by kernel_rfl, by kernel_rfl⟩, ?_⟩ | refine ao_skip rfl rfl rfl ?_ | refine aw_true rfl ?_ | refine aw_false rfl ?_ | refine aw_skip ?_ | refine aw_exit ?_)
        refine aw_ret ⟨.inr rfl, _, _, _, _, _, rfl, rfl, rfl, rfl, ?_, rfl⟩
        refine congrArg (fun b => V.val (Value.bool b)) (decide_eq_false ?_)
        rintro rfl
        exact hb ⟨rfl, rfl, rfl⟩
    · obtain rfl : i = a.length := by omega
      repeat (first | refine ao_e rfl rfl rfl rfl rfl ?_ | refine ao_eff (v := V.val (Value.bool true)) (ups := []) rfl rfl rfl rfl ?_ | refine ao_eff (v := V.val (Value.bool false)) (ups := []) rfl rfl rfl rfl ?_ | refine aw_seq ?_ | refine aw_region ?_ | refine aw_block ?_ | refine ao_nil ⟨fun h => (Bool.false_ne_true h).elim, ?_⟩ | refine ao_nil ⟨fun _ => ⟨by kernel_rfl, by kernel_rfl⟩, ?_⟩ | refine ao_skip rfl rfl rfl ?_ | refine aw_true rfl ?_ | refine aw_false rfl ?_ | refine aw_skip ?_ | refine aw_exit ?_)
      refine ao_no rfl rfl rfl rfl (by rw [List.length_map]; omega) ?_
      repeat (first | refine ao_e rfl rfl rfl rfl rfl ?_ | refine ao_eff (v := V.val (Value.bool true)) (ups := []) rfl rfl rfl rfl ?_ | refine ao_eff (v := V.val (Value.bool false)) (ups := []) rfl rfl rfl rfl ?_ | refine aw_seq ?_ | refine aw_region ?_ | refine aw_block ?_ | refine ao_nil ⟨fun h => (Bool.false_ne_true h).elim, ?_⟩ | refine ao_nil ⟨fun _ => ⟨by kernel_rfl, by kernel_rfl⟩, ?_⟩ | refine ao_skip rfl rfl rfl ?_ | refine aw_true rfl ?_ | refine aw_false rfl ?_ | refine aw_skip ?_ | refine aw_exit ?_)
      refine aw_ret ⟨.inr rfl, _, _, _, _, _, rfl, rfl, rfl, rfl, ?_, rfl⟩
      refine congrArg (fun b => V.val (Value.bool b)) (decide_eq_true ?_)
      rw [List.take_length, hab, List.take_length] at hI
      exact hI
  · repeat (first | refine ao_e rfl rfl rfl rfl rfl ?_ | refine ao_eff (v := V.val (Value.bool true)) (ups := []) rfl rfl rfl rfl ?_ | refine ao_eff (v := V.val (Value.bool false)) (ups := []) rfl rfl rfl rfl ?_ | refine aw_seq ?_ | refine aw_region ?_ | refine aw_block ?_ | refine ao_nil ⟨fun h => (Bool.false_ne_true h).elim, ?_⟩ | refine ao_nil ⟨fun _ => ⟨by kernel_rfl, by kernel_rfl⟩, ?_⟩ | refine ao_skip rfl rfl rfl ?_ | refine aw_true rfl ?_ | refine aw_false rfl ?_ | refine aw_skip ?_ | refine aw_exit ?_)
    refine aw_ret ⟨.inr rfl, _, _, _, _, _, rfl, rfl, rfl, rfl, ?_, rfl⟩
    refine congrArg (fun b => V.val (Value.bool b)) (decide_eq_false ?_)
    rintro rfl
    exact hb rfl
theorem eqOp (a b : O) (ha : a.f5.length < 4611686018427387904) : AF Tryz.prog X 58 [.agg (oC a), .agg (oC b)] (vo (decide (a = b))) := by
  refine ac_mk (by kernel_rfl) Tryz.func58 rfl (lb rfl) rfl rfl ?_
  have h := eqElems (X := X) a.f5 b.f5 ha
  have hx : ∀ x y : E, (x.f0 = y.f0 ∧ x.f1 = y.f1 ∧ x.f2 = y.f2) ↔ x = y := fun x y => by cases x; cases y; simp
  repeat' (first | refine ao_e rfl rfl rfl rfl rfl ?_ | refine ao_eff (v := V.val (Value.bool true)) (ups := []) rfl rfl rfl rfl ?_ | refine ao_eff (v := V.val (Value.bool false)) (ups := []) rfl rfl rfl rfl ?_ | refine aw_seq ?_ | refine aw_region ?_ | refine aw_block ?_ | refine ao_nil ⟨fun h => (Bool.false_ne_true h).elim, ?_⟩ | refine ao_nil ⟨fun _ => ⟨by kernel_rfl, by kernel_rfl⟩, ?_⟩ | refine ao_skip rfl rfl rfl ?_ | refine aw_true rfl ?_ | refine aw_false rfl ?_ | refine aw_skip ?_ | refine aw_exit ?_ | refine ao_funb rfl rfl rfl rfl rfl rfl (h) (fun hb => ?_) (fun hb => ?_) | refine ao_dec rfl rfl rfl (eqE _ _ _ _ _ _).1 (fun hb => ?_) (fun hb => ?_) | refine ao_ndec rfl rfl rfl (eqE _ _ _ _ _ _).2 (fun hb => ?_) (fun hb => ?_) | refine ao_dec rfl rfl rfl rfl (fun hb => ?_) (fun hb => ?_) | refine ao_ndec rfl rfl rfl rfl (fun hb => ?_) (fun hb => ?_) | refine ao_str rfl rfl rfl rfl (fun hb => ?_) (fun hb => ?_) | refine ao_nstr rfl rfl rfl rfl (fun hb => ?_) (fun hb => ?_) | refine ao_bool rfl rfl rfl rfl (fun hb => ?_) (fun hb => ?_) | refine aw_ret ⟨.inr rfl, _, _, _, _, _, rfl, rfl, rfl, rfl, ?_, rfl⟩)
  all_goals refine congrArg (fun b => V.val (Value.bool b)) ?_
  all_goals first | refine decide_eq_true ?_ | refine decide_eq_false ?_
  all_goals simp only [hx, decide_eq_true_eq, decide_eq_false_iff_not] at *
  all_goals first | (cases a; cases b; simp_all; done) | (rintro rfl; simp_all; done)
end Go.Ai
