/- A part of the proof: what the program does, step by step, over values without addresses. No conditions of mine. -/
import Derived.Test.YtadfohbogoocgaaGreatDoorRunN17toN20
set_option linter.unusedVariables false
set_option linter.unusedSimpArgs false
namespace Go.Ai
open Go Go.RowKit Go.Proofs Go.Sp
set_option maxRecDepth 10000
set_option maxHeartbeats 8000000
set_option linter.unusedVariables false
set_option linter.unusedSimpArgs false
theorem refBytes {m : M} (hm : mayM m = true) : AF Tryz.prog XX 25 [.agg (mC m)] (vs (strOfNums (msgB m))) := by
  have hi := mayM_in hm
  have hl := hi.l
  have hn := hi.n
  have hlm : (m.f6.map oC).length = m.f6.length := List.length_map ..
  have h7 : inN ((m.f6.map oC).length : Int) := ⟨by omega, by omega⟩
  have h7' : inN (m.f6.length : Int) := ⟨by omega, by omega⟩
  have p0 := put64 hn.1
  have p1 := put64 hn.2.1
  have p2 := put64 hn.2.2.1
  have p3 := put64 hn.2.2.2.1
  have p4 := put64 hn.2.2.2.2.1
  have p5 := put64 hn.2.2.2.2.2
  have p6 := put64 h7
  have s0 := put_len hn.1
  have s1 := put_len hn.2.1
  have s2 := put_len hn.2.2.1
  have s3 := put_len hn.2.2.2.1
  have s4 := put_len hn.2.2.2.2.1
  have s5 := put_len hn.2.2.2.2.2
  have s6 := put_len h7
  have hall : ∀ x ∈ [m.f0, m.f1, m.f2, m.f3, m.f4, m.f5, (m.f6.length : Int)], inN x := by
    intro x hx
    simp at hx
    rcases hx with rfl | rfl | rfl | rfl | rfl | rfl | rfl
    · exact hn.1
    · exact hn.2.1
    · exact hn.2.2.1
    · exact hn.2.2.2.1
    · exact hn.2.2.2.2.1
    · exact hn.2.2.2.2.2
    · exact h7'
  have l1 := numsB_len _ hall
  simp only [List.length_cons, List.length_nil] at l1
  refine ac_mk (by kernel_rfl) Tryz.func25 rfl (lb rfl) rfl rfl ?_
  repeat' (first | refine ao_e rfl rfl rfl rfl rfl ?_ | refine ao_eff (v := V.val (Value.bool true)) (ups := []) rfl rfl rfl rfl ?_ | refine ao_eff (v := V.val (Value.bool false)) (ups := []) rfl rfl rfl rfl ?_ | refine aw_seq ?_ | refine aw_region ?_ | refine aw_block ?_ | refine ao_nil ⟨fun h => (Bool.false_ne_true h).elim, ?_⟩ | refine ao_nil ⟨fun _ => ⟨by kernel_rfl, by kernel_rfl⟩, ?_⟩ | refine ao_skip rfl rfl rfl ?_ | refine aw_true rfl ?_ | refine aw_false rfl ?_ | refine aw_skip ?_ | refine aw_exit ?_ | refine ao_fun rfl rfl rfl rfl rfl rfl (p0) ?_ | refine ao_funs rfl rfl rfl rfl rfl rfl (p0) rfl ?_ | refine ao_fun rfl rfl rfl rfl rfl rfl (p1) ?_ | refine ao_funs rfl rfl rfl rfl rfl rfl (p1) rfl ?_ | refine ao_fun rfl rfl rfl rfl rfl rfl (p2) ?_ | refine ao_funs rfl rfl rfl rfl rfl rfl (p2) rfl ?_ | refine ao_fun rfl rfl rfl rfl rfl rfl (p3) ?_ | refine ao_funs rfl rfl rfl rfl rfl rfl (p3) rfl ?_ | refine ao_fun rfl rfl rfl rfl rfl rfl (p4) ?_ | refine ao_funs rfl rfl rfl rfl rfl rfl (p4) rfl ?_ | refine ao_fun rfl rfl rfl rfl rfl rfl (p5) ?_ | refine ao_funs rfl rfl rfl rfl rfl rfl (p5) rfl ?_ | refine ao_fun rfl rfl rfl rfl rfl rfl (p6) ?_ | refine ao_funs rfl rfl rfl rfl rfl rfl (p6) rfl ?_ | refine ao_e rfl rfl rfl rfl (ef_cat (by (try simp only [strOfNums_size, ByteArray.size_append, List.length_append]); omega)) ?_ | refine ao_dec rfl rfl rfl (eqE _ _ _ _ _ _).1 (fun hb => ?_) (fun hb => ?_) | refine ao_ndec rfl rfl rfl (eqE _ _ _ _ _ _).2 (fun hb => ?_) (fun hb => ?_) | refine ao_dec rfl rfl rfl rfl (fun hb => ?_) (fun hb => ?_) | refine ao_ndec rfl rfl rfl rfl (fun hb => ?_) (fun hb => ?_) | refine ao_str rfl rfl rfl rfl (fun hb => ?_) (fun hb => ?_) | refine ao_nstr rfl rfl rfl rfl (fun hb => ?_) (fun hb => ?_) | refine ao_bool rfl rfl rfl rfl (fun hb => ?_) (fun hb => ?_) | refine aw_ret ⟨.inr rfl, _, _, _, _, _, rfl, rfl, rfl, rfl, ?_, rfl⟩)
  refine aw_rounds (T := Nat) (fun i => i ≤ m.f6.length) (fun i => [.agg (mC m), .ptr (newId (siteOf 0 0) 0) 0 0 0, .any, vs (strOfNums (numsB [m.f0, m.f1, m.f2, m.f3, m.f4, m.f5, (m.f6.length : Int)] ++ (m.f6.take i).flatMap spellB)), vi i]) (fun _ => [(newId (siteOf 0 0) 0, ⟨0, 7, true, true, [mC m]⟩)]) (fun i => m.f6.length - i) 0 (Nat.zero_le _) ?_ ?_ ?_
  · refine ⟨.same _ rfl, .ptr _ _ _ _ _ _ _ rfl rfl rfl rfl, .any _, ren_eq (congrArg vs ?_) rfl, .same _ rfl, trivial⟩
    simp only [List.take_zero, hlm, numsB, List.flatMap_cons, List.flatMap_nil, List.append_nil, str_append, ByteArray.append_assoc]
  · exact ⟨renB_cl rfl rfl rfl rfl rfl rfl, trivial⟩
  rintro i h0 hle
  have lt : ((m.f6.take i).flatMap spellB).length ≤ 4000 * i := by
    have := ops_len (m.f6.take i) (fun o ho => hi.o o (List.mem_of_mem_take ho))
    rw [List.length_take] at this
    omega
  by_cases hlt : i < m.f6.length
  · have hei : (m.f6.map oC)[Int.toNat (i : Int)]? = some (oC m.f6[i]) := by rw [Int.toNat_natCast, List.getElem?_map, List.getElem?_eq_getElem hlt]; rfl
    have hge := hi.o _ (List.getElem_mem hlt)
    have htk : m.f6.take (i + 1) = m.f6.take i ++ [m.f6[i]] := List.take_succ_eq_append_getElem hlt
    have lge := spellB_len hge
    repeat (first | refine ao_e rfl rfl rfl rfl rfl ?_ | refine ao_eff (v := V.val (Value.bool true)) (ups := []) rfl rfl rfl rfl ?_ | refine ao_eff (v := V.val (Value.bool false)) (ups := []) rfl rfl rfl rfl ?_ | refine aw_seq ?_ | refine aw_region ?_ | refine aw_block ?_ | refine ao_nil ⟨fun h => (Bool.false_ne_true h).elim, ?_⟩ | refine ao_nil ⟨fun _ => ⟨by kernel_rfl, by kernel_rfl⟩, ?_⟩ | refine ao_skip rfl rfl rfl ?_ | refine aw_true rfl ?_ | refine aw_false rfl ?_ | refine aw_skip ?_ | refine aw_exit ?_)
    refine ao_yes rfl rfl rfl rfl (by rw [List.length_map]; omega) ?_
    repeat (first | refine ao_e rfl rfl rfl rfl rfl ?_ | refine ao_eff (v := V.val (Value.bool true)) (ups := []) rfl rfl rfl rfl ?_ | refine ao_eff (v := V.val (Value.bool false)) (ups := []) rfl rfl rfl rfl ?_ | refine aw_seq ?_ | refine aw_region ?_ | refine aw_block ?_ | refine ao_nil ⟨fun h => (Bool.false_ne_true h).elim, ?_⟩ | refine ao_nil ⟨fun _ => ⟨by kernel_rfl, by kernel_rfl⟩, ?_⟩ | refine ao_skip rfl rfl rfl ?_ | refine aw_true rfl ?_ | refine aw_false rfl ?_ | refine aw_skip ?_ | refine aw_exit ?_)
    refine ao_e rfl rfl rfl rfl (ef_ix rfl rfl (by omega) hei) ?_
    repeat (first | refine ao_e rfl rfl rfl rfl rfl ?_ | refine ao_eff (v := V.val (Value.bool true)) (ups := []) rfl rfl rfl rfl ?_ | refine ao_eff (v := V.val (Value.bool false)) (ups := []) rfl rfl rfl rfl ?_ | refine aw_seq ?_ | refine aw_region ?_ | refine aw_block ?_ | refine ao_nil ⟨fun h => (Bool.false_ne_true h).elim, ?_⟩ | refine ao_nil ⟨fun _ => ⟨by kernel_rfl, by kernel_rfl⟩, ?_⟩ | refine ao_skip rfl rfl rfl ?_ | refine aw_true rfl ?_ | refine aw_false rfl ?_ | refine aw_skip ?_ | refine aw_exit ?_)
    refine ao_fun rfl rfl rfl rfl rfl rfl (refOp hge) ?_
    refine ao_as (vs (strOfNums (numsB [m.f0, m.f1, m.f2, m.f3, m.f4, m.f5, (m.f6.length : Int)] ++ (m.f6.take (i + 1)).flatMap spellB))) rfl rfl rfl (ef_cat (by simp only [strOfNums_size, List.length_append]; omega)) (by simp only [htk, List.flatMap_append, List.flatMap_cons, List.flatMap_nil, List.append_nil, str_append, ByteArray.append_assoc]) ?_
    repeat (first | refine ao_e rfl rfl rfl rfl rfl ?_ | refine ao_eff (v := V.val (Value.bool true)) (ups := []) rfl rfl rfl rfl ?_ | refine ao_eff (v := V.val (Value.bool false)) (ups := []) rfl rfl rfl rfl ?_ | refine aw_seq ?_ | refine aw_region ?_ | refine aw_block ?_ | refine ao_nil ⟨fun h => (Bool.false_ne_true h).elim, ?_⟩ | refine ao_nil ⟨fun _ => ⟨by kernel_rfl, by kernel_rfl⟩, ?_⟩ | refine ao_skip rfl rfl rfl ?_ | refine aw_true rfl ?_ | refine aw_false rfl ?_ | refine aw_skip ?_ | refine aw_exit ?_)
    exact ⟨i + 1, hlt, by omega, ⟨.same _ rfl, .ptr _ _ _ _ _ _ _ rfl rfl rfl rfl, .any _, .same _ rfl, rsucc i (by omega), trivial⟩, ⟨renB_cl rfl rfl rfl rfl rfl rfl, trivial⟩⟩
  · obtain rfl : i = m.f6.length := by omega
    repeat (first | refine ao_e rfl rfl rfl rfl rfl ?_ | refine ao_eff (v := V.val (Value.bool true)) (ups := []) rfl rfl rfl rfl ?_ | refine ao_eff (v := V.val (Value.bool false)) (ups := []) rfl rfl rfl rfl ?_ | refine aw_seq ?_ | refine aw_region ?_ | refine aw_block ?_ | refine ao_nil ⟨fun h => (Bool.false_ne_true h).elim, ?_⟩ | refine ao_nil ⟨fun _ => ⟨by kernel_rfl, by kernel_rfl⟩, ?_⟩ | refine ao_skip rfl rfl rfl ?_ | refine aw_true rfl ?_ | refine aw_false rfl ?_ | refine aw_skip ?_ | refine aw_exit ?_)
    refine ao_no rfl rfl rfl rfl (by rw [List.length_map]; omega) ?_
    repeat (first | refine ao_e rfl rfl rfl rfl rfl ?_ | refine ao_eff (v := V.val (Value.bool true)) (ups := []) rfl rfl rfl rfl ?_ | refine ao_eff (v := V.val (Value.bool false)) (ups := []) rfl rfl rfl rfl ?_ | refine aw_seq ?_ | refine aw_region ?_ | refine aw_block ?_ | refine ao_nil ⟨fun h => (Bool.false_ne_true h).elim, ?_⟩ | refine ao_nil ⟨fun _ => ⟨by kernel_rfl, by kernel_rfl⟩, ?_⟩ | refine ao_skip rfl rfl rfl ?_ | refine aw_true rfl ?_ | refine aw_false rfl ?_ | refine aw_skip ?_ | refine aw_exit ?_)
    refine aw_ret ⟨.inr rfl, _, _, _, _, _, rfl, rfl, rfl, rfl, ?_, rfl⟩
    unfold msgB
    rw [List.take_length]; rfl
end Go.Ai
