/- A part of the proof: what the program does, step by step, over values without addresses. No conditions of mine. -/
import Derived.Test.YtadfohbogoocgaaGreatDoorRunN41toN14
import Derived.Test.YtadfohbogoocgaaGreatDoorN31
import Derived.Test.YtadfohbogoocgaaGreatDoorN32
import Derived.Test.YtadfohbogoocgaaGreatDoorN28
import Derived.Test.YtadfohbogoocgaaGreatDoorCoreAiHtoAiSk
set_option linter.unusedVariables false
set_option linter.unusedSimpArgs false
namespace Go.Ai
open Go Go.RowKit Go.Proofs Go.Sp
set_option maxRecDepth 10000
set_option maxHeartbeats 4000000
set_option linter.unusedVariables false
set_option linter.unusedSimpArgs false
def mkK (a b : Int) (m : M) : K × Int := if endsB a b && mayM m then (if (msgB m).length > 700 then (k0, 2) else (⟨a, b, strOfNums (fr (msgB m)), false⟩, 0)) else (k0, 1)
def mkV (a b : Int) (m : M) : V := .tup [.agg (kC (mkK a b m).1), vi (mkK a b m).2]
theorem wireMake (a b : Int) (m : M) (hf : ∀ o ∈ m.f6, Fit o) (hl : m.f6.length < 4611686018427387904) : AF Tryz.prog XX 7 [vi a, vi b, .agg (mC m)] (mkV a b m) := by
  have h1 := wireEnds (X := XX) a b
  have h2 := packMayM m hf hl
  refine ac_mk (by kernel_rfl) Tryz.func7 rfl (lb rfl) rfl rfl ?_
  unfold mkV mkK
  cases e1 : endsB a b with
  | false =>
    rw [e1] at h1
    repeat' (first | refine ao_e rfl rfl rfl rfl rfl ?_ | refine ao_eff (v := V.val (Value.bool true)) (ups := []) rfl rfl rfl rfl ?_ | refine ao_eff (v := V.val (Value.bool false)) (ups := []) rfl rfl rfl rfl ?_ | refine aw_seq ?_ | refine aw_region ?_ | refine aw_block ?_ | refine ao_nil ⟨fun h => (Bool.false_ne_true h).elim, ?_⟩ | refine ao_nil ⟨fun _ => ⟨by kernel_rfl, by kernel_rfl⟩, ?_⟩ | refine ao_skip rfl rfl rfl ?_ | refine aw_true rfl ?_ | refine aw_false rfl ?_ | refine aw_skip ?_ | refine aw_exit ?_ | refine ao_fun rfl rfl rfl rfl rfl rfl (h1) ?_ | refine ao_funs rfl rfl rfl rfl rfl rfl (h1) rfl ?_ | refine ao_funb rfl rfl rfl rfl rfl rfl (h2) (fun hb => ?_) (fun hb => ?_) | refine ao_dec rfl rfl rfl (eqE _ _ _ _ _ _).1 (fun hb => ?_) (fun hb => ?_) | refine ao_ndec rfl rfl rfl (eqE _ _ _ _ _ _).2 (fun hb => ?_) (fun hb => ?_) | refine ao_dec rfl rfl rfl rfl (fun hb => ?_) (fun hb => ?_) | refine ao_ndec rfl rfl rfl rfl (fun hb => ?_) (fun hb => ?_) | refine ao_str rfl rfl rfl rfl (fun hb => ?_) (fun hb => ?_) | refine ao_nstr rfl rfl rfl rfl (fun hb => ?_) (fun hb => ?_) | refine ao_bool rfl rfl rfl rfl (fun hb => ?_) (fun hb => ?_) | refine aw_ret ⟨.inr rfl, _, _, _, _, _, rfl, rfl, rfl, rfl, ?_, rfl⟩)
    all_goals rfl
  | true =>
    rw [e1] at h1
    cases e2 : mayM m with
    | false =>
      rw [e2] at h2
      repeat' (first | refine ao_e rfl rfl rfl rfl rfl ?_ | refine ao_eff (v := V.val (Value.bool true)) (ups := []) rfl rfl rfl rfl ?_ | refine ao_eff (v := V.val (Value.bool false)) (ups := []) rfl rfl rfl rfl ?_ | refine aw_seq ?_ | refine aw_region ?_ | refine aw_block ?_ | refine ao_nil ⟨fun h => (Bool.false_ne_true h).elim, ?_⟩ | refine ao_nil ⟨fun _ => ⟨by kernel_rfl, by kernel_rfl⟩, ?_⟩ | refine ao_skip rfl rfl rfl ?_ | refine aw_true rfl ?_ | refine aw_false rfl ?_ | refine aw_skip ?_ | refine aw_exit ?_ | refine ao_fun rfl rfl rfl rfl rfl rfl (h1) ?_ | refine ao_funs rfl rfl rfl rfl rfl rfl (h1) rfl ?_ | refine ao_fun rfl rfl rfl rfl rfl rfl (h2) ?_ | refine ao_funs rfl rfl rfl rfl rfl rfl (h2) rfl ?_ | refine ao_dec rfl rfl rfl (eqE _ _ _ _ _ _).1 (fun hb => ?_) (fun hb => ?_) | refine ao_ndec rfl rfl rfl (eqE _ _ _ _ _ _).2 (fun hb => ?_) (fun hb => ?_) | refine ao_dec rfl rfl rfl rfl (fun hb => ?_) (fun hb => ?_) | refine ao_ndec rfl rfl rfl rfl (fun hb => ?_) (fun hb => ?_) | refine ao_str rfl rfl rfl rfl (fun hb => ?_) (fun hb => ?_) | refine ao_nstr rfl rfl rfl rfl (fun hb => ?_) (fun hb => ?_) | refine ao_bool rfl rfl rfl rfl (fun hb => ?_) (fun hb => ?_) | refine aw_ret ⟨.inr rfl, _, _, _, _, _, rfl, rfl, rfl, rfl, ?_, rfl⟩)
      all_goals rfl
    | true =>
      rw [e2] at h2
      have hs := strOfNums_size (msgB m)
      have hF := sealAdd (X := XX) (strOfNums (msgB m))
      by_cases h7 : (msgB m).length > 700
      · rw [if_pos h7]
        repeat' (first | refine ao_e rfl rfl rfl rfl rfl ?_ | refine ao_eff (v := V.val (Value.bool true)) (ups := []) rfl rfl rfl rfl ?_ | refine ao_eff (v := V.val (Value.bool false)) (ups := []) rfl rfl rfl rfl ?_ | refine aw_seq ?_ | refine aw_region ?_ | refine aw_block ?_ | refine ao_nil ⟨fun h => (Bool.false_ne_true h).elim, ?_⟩ | refine ao_nil ⟨fun _ => ⟨by kernel_rfl, by kernel_rfl⟩, ?_⟩ | refine ao_skip rfl rfl rfl ?_ | refine aw_true rfl ?_ | refine aw_false rfl ?_ | refine aw_skip ?_ | refine aw_exit ?_ | refine ao_fun rfl rfl rfl rfl rfl rfl (h1) ?_ | refine ao_funs rfl rfl rfl rfl rfl rfl (h1) rfl ?_ | refine ao_fun rfl rfl rfl rfl rfl rfl (h2) ?_ | refine ao_funs rfl rfl rfl rfl rfl rfl (h2) rfl ?_ | refine ao_fun rfl rfl rfl rfl rfl rfl (packText e2) ?_ | refine ao_funs rfl rfl rfl rfl rfl rfl (packText e2) rfl ?_ | refine ao_yes rfl rfl rfl rfl ((by rw [hs]; omega)) ?_ | refine ao_dec rfl rfl rfl (eqE _ _ _ _ _ _).1 (fun hb => ?_) (fun hb => ?_) | refine ao_ndec rfl rfl rfl (eqE _ _ _ _ _ _).2 (fun hb => ?_) (fun hb => ?_) | refine ao_dec rfl rfl rfl rfl (fun hb => ?_) (fun hb => ?_) | refine ao_ndec rfl rfl rfl rfl (fun hb => ?_) (fun hb => ?_) | refine ao_str rfl rfl rfl rfl (fun hb => ?_) (fun hb => ?_) | refine ao_nstr rfl rfl rfl rfl (fun hb => ?_) (fun hb => ?_) | refine ao_bool rfl rfl rfl rfl (fun hb => ?_) (fun hb => ?_) | refine aw_ret ⟨.inr rfl, _, _, _, _, _, rfl, rfl, rfl, rfl, ?_, rfl⟩)
        all_goals rfl
      · rw [if_neg h7]
        rw [addR_ok (by omega), bytesOf_str (msgB_bytes m)] at hF
        repeat' (first | refine ao_e rfl rfl rfl rfl rfl ?_ | refine ao_eff (v := V.val (Value.bool true)) (ups := []) rfl rfl rfl rfl ?_ | refine ao_eff (v := V.val (Value.bool false)) (ups := []) rfl rfl rfl rfl ?_ | refine aw_seq ?_ | refine aw_region ?_ | refine aw_block ?_ | refine ao_nil ⟨fun h => (Bool.false_ne_true h).elim, ?_⟩ | refine ao_nil ⟨fun _ => ⟨by kernel_rfl, by kernel_rfl⟩, ?_⟩ | refine ao_skip rfl rfl rfl ?_ | refine aw_true rfl ?_ | refine aw_false rfl ?_ | refine aw_skip ?_ | refine aw_exit ?_ | refine ao_fun rfl rfl rfl rfl rfl rfl (h1) ?_ | refine ao_funs rfl rfl rfl rfl rfl rfl (h1) rfl ?_ | refine ao_fun rfl rfl rfl rfl rfl rfl (h2) ?_ | refine ao_funs rfl rfl rfl rfl rfl rfl (h2) rfl ?_ | refine ao_fun rfl rfl rfl rfl rfl rfl (packText e2) ?_ | refine ao_funs rfl rfl rfl rfl rfl rfl (packText e2) rfl ?_ | refine ao_no rfl rfl rfl rfl ((by rw [hs]; omega)) ?_ | refine ao_fun rfl rfl rfl rfl rfl rfl (hF) ?_ | refine ao_funs rfl rfl rfl rfl rfl rfl (hF) rfl ?_ | refine ao_dec rfl rfl rfl (eqE _ _ _ _ _ _).1 (fun hb => ?_) (fun hb => ?_) | refine ao_ndec rfl rfl rfl (eqE _ _ _ _ _ _).2 (fun hb => ?_) (fun hb => ?_) | refine ao_dec rfl rfl rfl rfl (fun hb => ?_) (fun hb => ?_) | refine ao_ndec rfl rfl rfl rfl (fun hb => ?_) (fun hb => ?_) | refine ao_str rfl rfl rfl rfl (fun hb => ?_) (fun hb => ?_) | refine ao_nstr rfl rfl rfl rfl (fun hb => ?_) (fun hb => ?_) | refine ao_bool rfl rfl rfl rfl (fun hb => ?_) (fun hb => ?_) | refine aw_ret ⟨.inr rfl, _, _, _, _, _, rfl, rfl, rfl, rfl, ?_, rfl⟩)
        all_goals rfl
theorem refMake (a b : Int) (m : M) (hs : ∀ o ∈ m.f6, o.f4.size ≤ 100000 ∧ o.f5.length < 4611686018427387904) (hl : m.f6.length ≤ 1000000000000) : AF Tryz.prog XX 8 [vi a, vi b, .agg (mC m)] (mkV a b m) := by
  have h1 := refEnds (X := XX) a b
  have h2 := refMsg m hs hl
  refine ac_mk (by kernel_rfl) Tryz.func8 rfl (lb rfl) rfl rfl ?_
  unfold mkV mkK
  cases e1 : endsB a b with
  | false =>
    rw [e1] at h1
    repeat' (first | refine ao_e rfl rfl rfl rfl rfl ?_ | refine ao_eff (v := V.val (Value.bool true)) (ups := []) rfl rfl rfl rfl ?_ | refine ao_eff (v := V.val (Value.bool false)) (ups := []) rfl rfl rfl rfl ?_ | refine aw_seq ?_ | refine aw_region ?_ | refine aw_block ?_ | refine ao_nil ⟨fun h => (Bool.false_ne_true h).elim, ?_⟩ | refine ao_nil ⟨fun _ => ⟨by kernel_rfl, by kernel_rfl⟩, ?_⟩ | refine ao_skip rfl rfl rfl ?_ | refine aw_true rfl ?_ | refine aw_false rfl ?_ | refine aw_skip ?_ | refine aw_exit ?_ | refine ao_fun rfl rfl rfl rfl rfl rfl (h1) ?_ | refine ao_funs rfl rfl rfl rfl rfl rfl (h1) rfl ?_ | refine ao_funb rfl rfl rfl rfl rfl rfl (h2) (fun hb => ?_) (fun hb => ?_) | refine ao_dec rfl rfl rfl (eqE _ _ _ _ _ _).1 (fun hb => ?_) (fun hb => ?_) | refine ao_ndec rfl rfl rfl (eqE _ _ _ _ _ _).2 (fun hb => ?_) (fun hb => ?_) | refine ao_dec rfl rfl rfl rfl (fun hb => ?_) (fun hb => ?_) | refine ao_ndec rfl rfl rfl rfl (fun hb => ?_) (fun hb => ?_) | refine ao_str rfl rfl rfl rfl (fun hb => ?_) (fun hb => ?_) | refine ao_nstr rfl rfl rfl rfl (fun hb => ?_) (fun hb => ?_) | refine ao_bool rfl rfl rfl rfl (fun hb => ?_) (fun hb => ?_) | refine aw_ret ⟨.inr rfl, _, _, _, _, _, rfl, rfl, rfl, rfl, ?_, rfl⟩)
    all_goals rfl
  | true =>
    rw [e1] at h1
    cases e2 : mayM m with
    | false =>
      rw [e2] at h2
      repeat' (first | refine ao_e rfl rfl rfl rfl rfl ?_ | refine ao_eff (v := V.val (Value.bool true)) (ups := []) rfl rfl rfl rfl ?_ | refine ao_eff (v := V.val (Value.bool false)) (ups := []) rfl rfl rfl rfl ?_ | refine aw_seq ?_ | refine aw_region ?_ | refine aw_block ?_ | refine ao_nil ⟨fun h => (Bool.false_ne_true h).elim, ?_⟩ | refine ao_nil ⟨fun _ => ⟨by kernel_rfl, by kernel_rfl⟩, ?_⟩ | refine ao_skip rfl rfl rfl ?_ | refine aw_true rfl ?_ | refine aw_false rfl ?_ | refine aw_skip ?_ | refine aw_exit ?_ | refine ao_fun rfl rfl rfl rfl rfl rfl (h1) ?_ | refine ao_funs rfl rfl rfl rfl rfl rfl (h1) rfl ?_ | refine ao_fun rfl rfl rfl rfl rfl rfl (h2) ?_ | refine ao_funs rfl rfl rfl rfl rfl rfl (h2) rfl ?_ | refine ao_dec rfl rfl rfl (eqE _ _ _ _ _ _).1 (fun hb => ?_) (fun hb => ?_) | refine ao_ndec rfl rfl rfl (eqE _ _ _ _ _ _).2 (fun hb => ?_) (fun hb => ?_) | refine ao_dec rfl rfl rfl rfl (fun hb => ?_) (fun hb => ?_) | refine ao_ndec rfl rfl rfl rfl (fun hb => ?_) (fun hb => ?_) | refine ao_str rfl rfl rfl rfl (fun hb => ?_) (fun hb => ?_) | refine ao_nstr rfl rfl rfl rfl (fun hb => ?_) (fun hb => ?_) | refine ao_bool rfl rfl rfl rfl (fun hb => ?_) (fun hb => ?_) | refine aw_ret ⟨.inr rfl, _, _, _, _, _, rfl, rfl, rfl, rfl, ?_, rfl⟩)
      all_goals rfl
    | true =>
      rw [e2] at h2
      have hs := strOfNums_size (msgB m)
      have hF := refFrame (X := XX) (strOfNums (msgB m))
      by_cases h7 : (msgB m).length > 700
      · rw [if_pos h7]
        repeat' (first | refine ao_e rfl rfl rfl rfl rfl ?_ | refine ao_eff (v := V.val (Value.bool true)) (ups := []) rfl rfl rfl rfl ?_ | refine ao_eff (v := V.val (Value.bool false)) (ups := []) rfl rfl rfl rfl ?_ | refine aw_seq ?_ | refine aw_region ?_ | refine aw_block ?_ | refine ao_nil ⟨fun h => (Bool.false_ne_true h).elim, ?_⟩ | refine ao_nil ⟨fun _ => ⟨by kernel_rfl, by kernel_rfl⟩, ?_⟩ | refine ao_skip rfl rfl rfl ?_ | refine aw_true rfl ?_ | refine aw_false rfl ?_ | refine aw_skip ?_ | refine aw_exit ?_ | refine ao_fun rfl rfl rfl rfl rfl rfl (h1) ?_ | refine ao_funs rfl rfl rfl rfl rfl rfl (h1) rfl ?_ | refine ao_fun rfl rfl rfl rfl rfl rfl (h2) ?_ | refine ao_funs rfl rfl rfl rfl rfl rfl (h2) rfl ?_ | refine ao_fun rfl rfl rfl rfl rfl rfl (refBytes e2) ?_ | refine ao_funs rfl rfl rfl rfl rfl rfl (refBytes e2) rfl ?_ | refine ao_yes rfl rfl rfl rfl ((by rw [hs]; omega)) ?_ | refine ao_dec rfl rfl rfl (eqE _ _ _ _ _ _).1 (fun hb => ?_) (fun hb => ?_) | refine ao_ndec rfl rfl rfl (eqE _ _ _ _ _ _).2 (fun hb => ?_) (fun hb => ?_) | refine ao_dec rfl rfl rfl rfl (fun hb => ?_) (fun hb => ?_) | refine ao_ndec rfl rfl rfl rfl (fun hb => ?_) (fun hb => ?_) | refine ao_str rfl rfl rfl rfl (fun hb => ?_) (fun hb => ?_) | refine ao_nstr rfl rfl rfl rfl (fun hb => ?_) (fun hb => ?_) | refine ao_bool rfl rfl rfl rfl (fun hb => ?_) (fun hb => ?_) | refine aw_ret ⟨.inr rfl, _, _, _, _, _, rfl, rfl, rfl, rfl, ?_, rfl⟩)
        all_goals rfl
      · rw [if_neg h7]
        rw [addR_ok (by omega), bytesOf_str (msgB_bytes m)] at hF
        repeat' (first | refine ao_e rfl rfl rfl rfl rfl ?_ | refine ao_eff (v := V.val (Value.bool true)) (ups := []) rfl rfl rfl rfl ?_ | refine ao_eff (v := V.val (Value.bool false)) (ups := []) rfl rfl rfl rfl ?_ | refine aw_seq ?_ | refine aw_region ?_ | refine aw_block ?_ | refine ao_nil ⟨fun h => (Bool.false_ne_true h).elim, ?_⟩ | refine ao_nil ⟨fun _ => ⟨by kernel_rfl, by kernel_rfl⟩, ?_⟩ | refine ao_skip rfl rfl rfl ?_ | refine aw_true rfl ?_ | refine aw_false rfl ?_ | refine aw_skip ?_ | refine aw_exit ?_ | refine ao_fun rfl rfl rfl rfl rfl rfl (h1) ?_ | refine ao_funs rfl rfl rfl rfl rfl rfl (h1) rfl ?_ | refine ao_fun rfl rfl rfl rfl rfl rfl (h2) ?_ | refine ao_funs rfl rfl rfl rfl rfl rfl (h2) rfl ?_ | refine ao_fun rfl rfl rfl rfl rfl rfl (refBytes e2) ?_ | refine ao_funs rfl rfl rfl rfl rfl rfl (refBytes e2) rfl ?_ | refine ao_no rfl rfl rfl rfl ((by rw [hs]; omega)) ?_ | refine ao_fun rfl rfl rfl rfl rfl rfl (hF) ?_ | refine ao_funs rfl rfl rfl rfl rfl rfl (hF) rfl ?_ | refine ao_dec rfl rfl rfl (eqE _ _ _ _ _ _).1 (fun hb => ?_) (fun hb => ?_) | refine ao_ndec rfl rfl rfl (eqE _ _ _ _ _ _).2 (fun hb => ?_) (fun hb => ?_) | refine ao_dec rfl rfl rfl rfl (fun hb => ?_) (fun hb => ?_) | refine ao_ndec rfl rfl rfl rfl (fun hb => ?_) (fun hb => ?_) | refine ao_str rfl rfl rfl rfl (fun hb => ?_) (fun hb => ?_) | refine ao_nstr rfl rfl rfl rfl (fun hb => ?_) (fun hb => ?_) | refine ao_bool rfl rfl rfl rfl (fun hb => ?_) (fun hb => ?_) | refine aw_ret ⟨.inr rfl, _, _, _, _, _, rfl, rfl, rfl, rfl, ?_, rfl⟩)
        all_goals rfl
def mE : List V := [vi 0, vi 0, vi 0, vi 0, vi 0, vi 0, .emp]
def rdK (k : K) : V := if pkB k then (match utk (bytesOf k.f2) with | some (t, []) => tkMV (rdM (t, false)) | _ => .tup [.agg mE, vi 7]) else .tup [.agg mE, vi 1]
theorem rdK_out (k : K) : outsOk (rdK k) [] = true := by
  unfold rdK
  split
  · split
    · unfold tkMV; split <;> rfl
    · rfl
  · rfl
theorem wireRead (k : K) : AF Tryz.prog XX 11 [.agg (kC k)] (rdK k) := by
  have h1 := wirePacket (X := XX) k
  refine ac_mk (by kernel_rfl) Tryz.func11 rfl (lb rfl) rfl (rdK_out k) ?_
  unfold rdK
  cases e1 : pkB k with
  | false =>
    rw [e1] at h1
    repeat' (first | refine ao_e rfl rfl rfl rfl rfl ?_ | refine ao_eff (v := V.val (Value.bool true)) (ups := []) rfl rfl rfl rfl ?_ | refine ao_eff (v := V.val (Value.bool false)) (ups := []) rfl rfl rfl rfl ?_ | refine aw_seq ?_ | refine aw_region ?_ | refine aw_block ?_ | refine ao_nil ⟨fun h => (Bool.false_ne_true h).elim, ?_⟩ | refine ao_nil ⟨fun _ => ⟨by kernel_rfl, by kernel_rfl⟩, ?_⟩ | refine ao_skip rfl rfl rfl ?_ | refine aw_true rfl ?_ | refine aw_false rfl ?_ | refine aw_skip ?_ | refine aw_exit ?_ | refine ao_fun rfl rfl rfl rfl rfl rfl (h1) ?_ | refine ao_funs rfl rfl rfl rfl rfl rfl (h1) rfl ?_ | refine ao_dec rfl rfl rfl (eqE _ _ _ _ _ _).1 (fun hb => ?_) (fun hb => ?_) | refine ao_ndec rfl rfl rfl (eqE _ _ _ _ _ _).2 (fun hb => ?_) (fun hb => ?_) | refine ao_dec rfl rfl rfl rfl (fun hb => ?_) (fun hb => ?_) | refine ao_ndec rfl rfl rfl rfl (fun hb => ?_) (fun hb => ?_) | refine ao_str rfl rfl rfl rfl (fun hb => ?_) (fun hb => ?_) | refine ao_nstr rfl rfl rfl rfl (fun hb => ?_) (fun hb => ?_) | refine ao_bool rfl rfl rfl rfl (fun hb => ?_) (fun hb => ?_) | refine aw_ret ⟨.inr rfl, _, _, _, _, _, rfl, rfl, rfl, rfl, ?_, rfl⟩)
    all_goals rfl
  | true =>
    rw [e1] at h1
    have hsz : k.f2.size ≤ 709 := by unfold pkB at e1; simp only [Bool.and_eq_true, decide_eq_true_eq] at e1; exact e1.2
    have hT := sealTake (X := XX) k.f2 (by omega)
    unfold utV at hT
    cases hu : utk (bytesOf k.f2) with
    | none =>
      rw [hu] at hT
      repeat' (first | refine ao_e rfl rfl rfl rfl rfl ?_ | refine ao_eff (v := V.val (Value.bool true)) (ups := []) rfl rfl rfl rfl ?_ | refine ao_eff (v := V.val (Value.bool false)) (ups := []) rfl rfl rfl rfl ?_ | refine aw_seq ?_ | refine aw_region ?_ | refine aw_block ?_ | refine ao_nil ⟨fun h => (Bool.false_ne_true h).elim, ?_⟩ | refine ao_nil ⟨fun _ => ⟨by kernel_rfl, by kernel_rfl⟩, ?_⟩ | refine ao_skip rfl rfl rfl ?_ | refine aw_true rfl ?_ | refine aw_false rfl ?_ | refine aw_skip ?_ | refine aw_exit ?_ | refine ao_fun rfl rfl rfl rfl rfl rfl (h1) ?_ | refine ao_funs rfl rfl rfl rfl rfl rfl (h1) rfl ?_ | refine ao_fun rfl rfl rfl rfl rfl rfl (hT) ?_ | refine ao_funs rfl rfl rfl rfl rfl rfl (hT) rfl ?_ | refine ao_dec rfl rfl rfl (eqE _ _ _ _ _ _).1 (fun hb => ?_) (fun hb => ?_) | refine ao_ndec rfl rfl rfl (eqE _ _ _ _ _ _).2 (fun hb => ?_) (fun hb => ?_) | refine ao_dec rfl rfl rfl rfl (fun hb => ?_) (fun hb => ?_) | refine ao_ndec rfl rfl rfl rfl (fun hb => ?_) (fun hb => ?_) | refine ao_str rfl rfl rfl rfl (fun hb => ?_) (fun hb => ?_) | refine ao_nstr rfl rfl rfl rfl (fun hb => ?_) (fun hb => ?_) | refine ao_bool rfl rfl rfl rfl (fun hb => ?_) (fun hb => ?_) | refine aw_ret ⟨.inr rfl, _, _, _, _, _, rfl, rfl, rfl, rfl, ?_, rfl⟩)
      all_goals rfl
    | some q =>
      obtain ⟨t, r⟩ := q
      rw [hu] at hT
      obtain ⟨_, ht7, htB, hrB⟩ := utk_sound (bytesOf_bytes k.f2) hu
      cases r with
      | cons x r =>
        have hne : strOfNums (x :: r) ≠ ⟨#[]⟩ := fun h => by have := (str_none _).1 h; cases this
        repeat' (first | refine ao_e rfl rfl rfl rfl rfl ?_ | refine ao_eff (v := V.val (Value.bool true)) (ups := []) rfl rfl rfl rfl ?_ | refine ao_eff (v := V.val (Value.bool false)) (ups := []) rfl rfl rfl rfl ?_ | refine aw_seq ?_ | refine aw_region ?_ | refine aw_block ?_ | refine ao_nil ⟨fun h => (Bool.false_ne_true h).elim, ?_⟩ | refine ao_nil ⟨fun _ => ⟨by kernel_rfl, by kernel_rfl⟩, ?_⟩ | refine ao_skip rfl rfl rfl ?_ | refine aw_true rfl ?_ | refine aw_false rfl ?_ | refine aw_skip ?_ | refine aw_exit ?_ | refine ao_fun rfl rfl rfl rfl rfl rfl (h1) ?_ | refine ao_funs rfl rfl rfl rfl rfl rfl (h1) rfl ?_ | refine ao_fun rfl rfl rfl rfl rfl rfl (hT) ?_ | refine ao_funs rfl rfl rfl rfl rfl rfl (hT) rfl ?_ | refine ao_dec rfl rfl rfl (eqE _ _ _ _ _ _).1 (fun hb => ?_) (fun hb => ?_) | refine ao_ndec rfl rfl rfl (eqE _ _ _ _ _ _).2 (fun hb => ?_) (fun hb => ?_) | refine ao_dec rfl rfl rfl rfl (fun hb => ?_) (fun hb => ?_) | refine ao_ndec rfl rfl rfl rfl (fun hb => ?_) (fun hb => ?_) | refine ao_str rfl rfl rfl rfl (fun hb => ?_) (fun hb => ?_) | refine ao_nstr rfl rfl rfl rfl (fun hb => ?_) (fun hb => ?_) | refine ao_bool rfl rfl rfl rfl (fun hb => ?_) (fun hb => ?_) | refine aw_ret ⟨.inr rfl, _, _, _, _, _, rfl, rfl, rfl, rfl, ?_, rfl⟩)
        all_goals first | rfl | (exfalso; exact hne (by assumption))
      | nil =>
        have hP := packTake (l := t) ⟨htB, by show t.length < 4611686018427387904; omega⟩
        cases hr : rdM (t, false) with
        | none =>
          rw [hr] at hP
          repeat' (first | refine ao_e rfl rfl rfl rfl rfl ?_ | refine ao_eff (v := V.val (Value.bool true)) (ups := []) rfl rfl rfl rfl ?_ | refine ao_eff (v := V.val (Value.bool false)) (ups := []) rfl rfl rfl rfl ?_ | refine aw_seq ?_ | refine aw_region ?_ | refine aw_block ?_ | refine ao_nil ⟨fun h => (Bool.false_ne_true h).elim, ?_⟩ | refine ao_nil ⟨fun _ => ⟨by kernel_rfl, by kernel_rfl⟩, ?_⟩ | refine ao_skip rfl rfl rfl ?_ | refine aw_true rfl ?_ | refine aw_false rfl ?_ | refine aw_skip ?_ | refine aw_exit ?_ | refine ao_fun rfl rfl rfl rfl rfl rfl (h1) ?_ | refine ao_funs rfl rfl rfl rfl rfl rfl (h1) rfl ?_ | refine ao_fun rfl rfl rfl rfl rfl rfl (hT) ?_ | refine ao_funs rfl rfl rfl rfl rfl rfl (hT) rfl ?_ | refine ao_fun rfl rfl rfl rfl rfl rfl (hP) ?_ | refine ao_funs rfl rfl rfl rfl rfl rfl (hP) rfl ?_ | refine ao_dec rfl rfl rfl (eqE _ _ _ _ _ _).1 (fun hb => ?_) (fun hb => ?_) | refine ao_ndec rfl rfl rfl (eqE _ _ _ _ _ _).2 (fun hb => ?_) (fun hb => ?_) | refine ao_dec rfl rfl rfl rfl (fun hb => ?_) (fun hb => ?_) | refine ao_ndec rfl rfl rfl rfl (fun hb => ?_) (fun hb => ?_) | refine ao_str rfl rfl rfl rfl (fun hb => ?_) (fun hb => ?_) | refine ao_nstr rfl rfl rfl rfl (fun hb => ?_) (fun hb => ?_) | refine ao_bool rfl rfl rfl rfl (fun hb => ?_) (fun hb => ?_) | refine aw_ret ⟨.inr rfl, _, _, _, _, _, rfl, rfl, rfl, rfl, ?_, rfl⟩)
          all_goals first
            | (show tkMV (rdM (t, false)) = _; rw [hr]; rfl)
            | (exfalso; exact absurd ((str_none []).2 rfl) (by assumption))
        | some m =>
          rw [hr] at hP
          repeat' (first | refine ao_e rfl rfl rfl rfl rfl ?_ | refine ao_eff (v := V.val (Value.bool true)) (ups := []) rfl rfl rfl rfl ?_ | refine ao_eff (v := V.val (Value.bool false)) (ups := []) rfl rfl rfl rfl ?_ | refine aw_seq ?_ | refine aw_region ?_ | refine aw_block ?_ | refine ao_nil ⟨fun h => (Bool.false_ne_true h).elim, ?_⟩ | refine ao_nil ⟨fun _ => ⟨by kernel_rfl, by kernel_rfl⟩, ?_⟩ | refine ao_skip rfl rfl rfl ?_ | refine aw_true rfl ?_ | refine aw_false rfl ?_ | refine aw_skip ?_ | refine aw_exit ?_ | refine ao_fun rfl rfl rfl rfl rfl rfl (h1) ?_ | refine ao_funs rfl rfl rfl rfl rfl rfl (h1) rfl ?_ | refine ao_fun rfl rfl rfl rfl rfl rfl (hT) ?_ | refine ao_funs rfl rfl rfl rfl rfl rfl (hT) rfl ?_ | refine ao_fun rfl rfl rfl rfl rfl rfl (hP) ?_ | refine ao_funs rfl rfl rfl rfl rfl rfl (hP) rfl ?_ | refine ao_dec rfl rfl rfl (eqE _ _ _ _ _ _).1 (fun hb => ?_) (fun hb => ?_) | refine ao_ndec rfl rfl rfl (eqE _ _ _ _ _ _).2 (fun hb => ?_) (fun hb => ?_) | refine ao_dec rfl rfl rfl rfl (fun hb => ?_) (fun hb => ?_) | refine ao_ndec rfl rfl rfl rfl (fun hb => ?_) (fun hb => ?_) | refine ao_str rfl rfl rfl rfl (fun hb => ?_) (fun hb => ?_) | refine ao_nstr rfl rfl rfl rfl (fun hb => ?_) (fun hb => ?_) | refine ao_bool rfl rfl rfl rfl (fun hb => ?_) (fun hb => ?_) | refine aw_ret ⟨.inr rfl, _, _, _, _, _, rfl, rfl, rfl, rfl, ?_, rfl⟩)
          all_goals first
            | (show tkMV (rdM (t, false)) = _; rw [hr]; rfl)
            | (exfalso; exact absurd ((str_none []).2 rfl) (by assumption))
end Go.Ai
