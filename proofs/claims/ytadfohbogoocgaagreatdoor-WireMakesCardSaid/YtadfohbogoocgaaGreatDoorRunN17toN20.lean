/- A part of the proof: what the program does, step by step, over values without addresses. No conditions of mine. -/
import Derived.Test.YtadfohbogoocgaaGreatDoorN10
import Derived.Test.YtadfohbogoocgaaGreatDoorCoreAiHtoAiSk
import Derived.Test.YtadfohbogoocgaaGreatDoorRunN18toN19
set_option linter.unusedVariables false
set_option linter.unusedSimpArgs false
namespace Go.Ai
open Go Go.RowKit Go.Proofs Go.Sp
variable {X : FuncId → List V → List (Nat × List V) → V → List (Nat × List V) → List Blk → Prop}
set_option maxRecDepth 10000
set_option maxHeartbeats 8000000
set_option linter.unusedVariables false
set_option linter.unusedSimpArgs false
/-- The ops made here. -/
def forms : List O := [⟨1, 1, 1, ⟨0, 0, 0⟩, ⟨#[97, 98, 230, 151, 165]⟩, [], 0, 0, 0⟩, ⟨3, 200, 1, ⟨2, 300, 3⟩, ⟨#[97]⟩, [⟨1, 1, 0⟩, ⟨2, 300, 3⟩], 0, 0, 0⟩, ⟨8, 268435456, 1, ⟨0, 0, 0⟩, ⟨#[]⟩, [⟨2, 300, 3⟩], 0, 0, 0⟩, ⟨1, 3, 2, ⟨0, 0, 0⟩, ⟨#[]⟩, [], 2, 1, 268435456⟩]
end Go.Ai

namespace Go.Ai
open Go Go.RowKit Go.Proofs Go.Sp
set_option maxRecDepth 10000
set_option maxHeartbeats 8000000
set_option linter.unusedVariables false
set_option linter.unusedSimpArgs false
theorem packText {m : M} (hm : mayM m = true) : AF Tryz.prog XX 21 [.agg (mC m)] (vs (strOfNums (msgB m))) := by
  have hi := mayM_in hm
  have hall : ∀ x ∈ [m.f0, m.f1, m.f2, m.f3, m.f4, m.f5, (m.f6.length : Int)], inN x := by
    have hl := hi.l
    have hn := hi.n
    have h7 : inN (m.f6.length : Int) := ⟨by omega, by omega⟩
    intro x hx
    simp at hx
    rcases hx with rfl | rfl | rfl | rfl | rfl | rfl | rfl
    · exact hn.1
    · exact hn.2.1
    · exact hn.2.2.1
    · exact hn.2.2.2.1
    · exact hn.2.2.2.2.1
    · exact hn.2.2.2.2.2
    · exact h7
  have x1 := xNumbers _ hall (by simp)
  have l1 := numsB_len _ hall
  simp only [List.length_cons, List.length_nil] at l1
  have hlm : (m.f6.map oC).length = m.f6.length := List.length_map ..
  refine ac_mk (by kernel_rfl) Tryz.func21 rfl (lb rfl) rfl rfl ?_
  rw [← hlm] at x1
  repeat (first | refine ao_e rfl rfl rfl rfl rfl ?_ | refine ao_eff (v := V.val (Value.bool true)) (ups := []) rfl rfl rfl rfl ?_ | refine ao_eff (v := V.val (Value.bool false)) (ups := []) rfl rfl rfl rfl ?_ | refine aw_seq ?_ | refine aw_region ?_ | refine aw_block ?_ | refine ao_nil ⟨fun h => (Bool.false_ne_true h).elim, ?_⟩ | refine ao_nil ⟨fun _ => ⟨by kernel_rfl, by kernel_rfl⟩, ?_⟩ | refine ao_skip rfl rfl rfl ?_ | refine aw_true rfl ?_ | refine aw_false rfl ?_ | refine aw_skip ?_ | refine aw_exit ?_)
  refine ao_funs rfl rfl rfl rfl rfl rfl x1 rfl ?_
  repeat (first | refine ao_e rfl rfl rfl rfl rfl ?_ | refine ao_eff (v := V.val (Value.bool true)) (ups := []) rfl rfl rfl rfl ?_ | refine ao_eff (v := V.val (Value.bool false)) (ups := []) rfl rfl rfl rfl ?_ | refine aw_seq ?_ | refine aw_region ?_ | refine aw_block ?_ | refine ao_nil ⟨fun h => (Bool.false_ne_true h).elim, ?_⟩ | refine ao_nil ⟨fun _ => ⟨by kernel_rfl, by kernel_rfl⟩, ?_⟩ | refine ao_skip rfl rfl rfl ?_ | refine aw_true rfl ?_ | refine aw_false rfl ?_ | refine aw_skip ?_ | refine aw_exit ?_)
  refine aw_rounds (T := Nat) (fun i => i ≤ m.f6.length) (fun i => .agg (mC m) :: .ptr (newId (siteOf 0 0) 0) 0 0 0 :: .any :: vs (strOfNums (numsB [m.f0, m.f1, m.f2, m.f3, m.f4, m.f5, (m.f6.length : Int)] ++ (m.f6.take i).flatMap spellB)) :: anys 20 [.isl 11 (m.f6.map oC), vi (m.f6.length : Nat), vi i]) (fun _ => [(newId (siteOf 0 0) 0, ⟨0, 7, true, true, [mC m]⟩)]) (fun i => m.f6.length - i) 0 (Nat.zero_le _) ?_ ?_ ?_
  · refine ⟨.same _ rfl, .ptr _ _ _ _ _ _ _ rfl rfl rfl rfl, .any _, ren_eq (congrArg vs ?_) rfl, renL_anys ⟨.same _ rfl, ren_eq (congrArg (fun n : Nat => vi n) hlm) rfl, .same _ rfl, trivial⟩⟩
    rw [List.take_zero, List.flatMap_nil, List.append_nil, hlm]
  · exact ⟨renB_cl rfl rfl rfl rfl rfl rfl, trivial⟩
  rintro i h0 hle
  have lt : ((m.f6.take i).flatMap spellB).length ≤ 4000 * i := by
    have := ops_len (m.f6.take i) (fun o ho => hi.o o (List.mem_of_mem_take ho))
    rw [List.length_take] at this
    omega
  have hl4 := hi.l
  by_cases hlt : i < m.f6.length
  · have hei : (m.f6.map oC)[Int.toNat (i : Int)]? = some (oC m.f6[i]) := by rw [Int.toNat_natCast, List.getElem?_map, List.getElem?_eq_getElem hlt]; rfl
    have hge := hi.o _ (List.getElem_mem hlt)
    have htk : m.f6.take (i + 1) = m.f6.take i ++ [m.f6[i]] := List.take_succ_eq_append_getElem hlt
    have lge := spellB_len hge
    repeat (first | refine ao_e rfl rfl rfl rfl rfl ?_ | refine ao_eff (v := V.val (Value.bool true)) (ups := []) rfl rfl rfl rfl ?_ | refine ao_eff (v := V.val (Value.bool false)) (ups := []) rfl rfl rfl rfl ?_ | refine aw_seq ?_ | refine aw_region ?_ | refine aw_block ?_ | refine ao_nil ⟨fun h => (Bool.false_ne_true h).elim, ?_⟩ | refine ao_nil ⟨fun _ => ⟨by kernel_rfl, by kernel_rfl⟩, ?_⟩ | refine ao_skip rfl rfl rfl ?_ | refine aw_true rfl ?_ | refine aw_false rfl ?_ | refine aw_skip ?_ | refine aw_exit ?_)
    refine ao_yes rfl rfl rfl rfl (by omega) ?_
    repeat (first | refine ao_e rfl rfl rfl rfl rfl ?_ | refine ao_eff (v := V.val (Value.bool true)) (ups := []) rfl rfl rfl rfl ?_ | refine ao_eff (v := V.val (Value.bool false)) (ups := []) rfl rfl rfl rfl ?_ | refine aw_seq ?_ | refine aw_region ?_ | refine aw_block ?_ | refine ao_nil ⟨fun h => (Bool.false_ne_true h).elim, ?_⟩ | refine ao_nil ⟨fun _ => ⟨by kernel_rfl, by kernel_rfl⟩, ?_⟩ | refine ao_skip rfl rfl rfl ?_ | refine aw_true rfl ?_ | refine aw_false rfl ?_ | refine aw_skip ?_ | refine aw_exit ?_)
    refine ao_e rfl rfl rfl rfl (ef_ix rfl rfl (by omega) hei) ?_
    repeat (first | refine ao_e rfl rfl rfl rfl rfl ?_ | refine ao_eff (v := V.val (Value.bool true)) (ups := []) rfl rfl rfl rfl ?_ | refine ao_eff (v := V.val (Value.bool false)) (ups := []) rfl rfl rfl rfl ?_ | refine aw_seq ?_ | refine aw_region ?_ | refine aw_block ?_ | refine ao_nil ⟨fun h => (Bool.false_ne_true h).elim, ?_⟩ | refine ao_nil ⟨fun _ => ⟨by kernel_rfl, by kernel_rfl⟩, ?_⟩ | refine ao_skip rfl rfl rfl ?_ | refine aw_true rfl ?_ | refine aw_false rfl ?_ | refine aw_skip ?_ | refine aw_exit ?_)
    refine ao_fun rfl rfl rfl rfl rfl rfl (packSpell hge) ?_
    refine ao_as (vs (strOfNums (numsB [m.f0, m.f1, m.f2, m.f3, m.f4, m.f5, (m.f6.length : Int)] ++ (m.f6.take (i + 1)).flatMap spellB))) rfl rfl rfl (ef_cat (by simp only [strOfNums_size, List.length_append]; omega)) (by simp only [htk, List.flatMap_append, List.flatMap_cons, List.flatMap_nil, List.append_nil, str_append, ByteArray.append_assoc]) ?_
    repeat (first | refine ao_e rfl rfl rfl rfl rfl ?_ | refine ao_eff (v := V.val (Value.bool true)) (ups := []) rfl rfl rfl rfl ?_ | refine ao_eff (v := V.val (Value.bool false)) (ups := []) rfl rfl rfl rfl ?_ | refine aw_seq ?_ | refine aw_region ?_ | refine aw_block ?_ | refine ao_nil ⟨fun h => (Bool.false_ne_true h).elim, ?_⟩ | refine ao_nil ⟨fun _ => ⟨by kernel_rfl, by kernel_rfl⟩, ?_⟩ | refine ao_skip rfl rfl rfl ?_ | refine aw_true rfl ?_ | refine aw_false rfl ?_ | refine aw_skip ?_ | refine aw_exit ?_)
    exact ⟨i + 1, hlt, by omega, ⟨.same _ rfl, .ptr _ _ _ _ _ _ _ rfl rfl rfl rfl, .any _, .same _ rfl, renL_anys ⟨.same _ rfl, .same _ rfl, rsucc i (by omega), trivial⟩⟩, ⟨renB_cl rfl rfl rfl rfl rfl rfl, trivial⟩⟩
  · obtain rfl : i = m.f6.length := by omega
    repeat (first | refine ao_e rfl rfl rfl rfl rfl ?_ | refine ao_eff (v := V.val (Value.bool true)) (ups := []) rfl rfl rfl rfl ?_ | refine ao_eff (v := V.val (Value.bool false)) (ups := []) rfl rfl rfl rfl ?_ | refine aw_seq ?_ | refine aw_region ?_ | refine aw_block ?_ | refine ao_nil ⟨fun h => (Bool.false_ne_true h).elim, ?_⟩ | refine ao_nil ⟨fun _ => ⟨by kernel_rfl, by kernel_rfl⟩, ?_⟩ | refine ao_skip rfl rfl rfl ?_ | refine aw_true rfl ?_ | refine aw_false rfl ?_ | refine aw_skip ?_ | refine aw_exit ?_)
    refine ao_no rfl rfl rfl rfl (by omega) ?_
    repeat (first | refine ao_e rfl rfl rfl rfl rfl ?_ | refine ao_eff (v := V.val (Value.bool true)) (ups := []) rfl rfl rfl rfl ?_ | refine ao_eff (v := V.val (Value.bool false)) (ups := []) rfl rfl rfl rfl ?_ | refine aw_seq ?_ | refine aw_region ?_ | refine aw_block ?_ | refine ao_nil ⟨fun h => (Bool.false_ne_true h).elim, ?_⟩ | refine ao_nil ⟨fun _ => ⟨by kernel_rfl, by kernel_rfl⟩, ?_⟩ | refine ao_skip rfl rfl rfl ?_ | refine aw_true rfl ?_ | refine aw_false rfl ?_ | refine aw_skip ?_ | refine aw_exit ?_)
    refine aw_ret ⟨.inr rfl, _, _, _, _, _, rfl, rfl, rfl, rfl, ?_, rfl⟩
    unfold msgB
    rw [List.take_length]; rfl
end Go.Ai
