/- A part of the proof: what the program does, step by step, over values without addresses. No conditions of mine. -/
import Derived.Test.YtadfohbogoocgaaGreatDoorRunN9toAiG
set_option linter.unusedVariables false
set_option linter.unusedSimpArgs false
namespace Go.Ai
open Go Go.RowKit Go.Proofs Go.Sp
set_option maxRecDepth 10000
set_option maxHeartbeats 4000000
set_option linter.unusedVariables false
set_option linter.unusedSimpArgs false
theorem packElem (e : E) (h : inN e.f0 ∧ inN e.f1 ∧ inN e.f2) : AF Tryz.prog XX 75 [.agg (eC e)] (vs (strOfNums (elB e))) := by
  have hx := xNumbers [e.f0, e.f1, e.f2] (by intro x hx; simp at hx; rcases hx with rfl | rfl | rfl; exact h.1; exact h.2.1; exact h.2.2) (by simp)
  refine ac_mk (by kernel_rfl) Tryz.func75 rfl (lb rfl) rfl rfl ?_
  repeat' (first | refine ao_e rfl rfl rfl rfl rfl ?_ | refine ao_eff (v := V.val (Value.bool true)) (ups := []) rfl rfl rfl rfl ?_ | refine ao_eff (v := V.val (Value.bool false)) (ups := []) rfl rfl rfl rfl ?_ | refine aw_seq ?_ | refine aw_region ?_ | refine aw_block ?_ | refine ao_nil ⟨fun h => (Bool.false_ne_true h).elim, ?_⟩ | refine ao_nil ⟨fun _ => ⟨by kernel_rfl, by kernel_rfl⟩, ?_⟩ | refine ao_skip rfl rfl rfl ?_ | refine aw_true rfl ?_ | refine aw_false rfl ?_ | refine aw_skip ?_ | refine aw_exit ?_ | refine ao_fun rfl rfl rfl rfl rfl rfl (hx) ?_ | refine ao_funs rfl rfl rfl rfl rfl rfl (hx) rfl ?_ | refine ao_dec rfl rfl rfl (eqE _ _ _ _ _ _).1 (fun hb => ?_) (fun hb => ?_) | refine ao_ndec rfl rfl rfl (eqE _ _ _ _ _ _).2 (fun hb => ?_) (fun hb => ?_) | refine ao_dec rfl rfl rfl rfl (fun hb => ?_) (fun hb => ?_) | refine ao_ndec rfl rfl rfl rfl (fun hb => ?_) (fun hb => ?_) | refine ao_str rfl rfl rfl rfl (fun hb => ?_) (fun hb => ?_) | refine ao_nstr rfl rfl rfl rfl (fun hb => ?_) (fun hb => ?_) | refine ao_bool rfl rfl rfl rfl (fun hb => ?_) (fun hb => ?_) | refine aw_ret ⟨.inr rfl, _, _, _, _, _, rfl, rfl, rfl, rfl, ?_, rfl⟩)
  all_goals rfl
theorem elB_len {e : E} (h : inN e.f0 ∧ inN e.f1 ∧ inN e.f2) : (elB e).length ≤ 15 := numsB_len [e.f0, e.f1, e.f2] (by intro x hx; simp at hx; rcases hx with rfl | rfl | rfl; exact h.1; exact h.2.1; exact h.2.2)
theorem txB_len {s : ByteArray} (h : s.size ≤ 100) : (txB s).length ≤ 200 := by
  have := vb_len5 s.size (by omega)
  unfold txB
  rw [List.length_append, bytesOf_length]; omega
theorem in3 {a b c : Int} (h : inN a ∧ inN b ∧ inN c) : ∀ x ∈ [a, b, c], inN x := by
  intro x hx; simp at hx; rcases hx with rfl | rfl | rfl; exact h.1; exact h.2.1; exact h.2.2
theorem packSpell {o : O} (hm : mayB o = true) : AF Tryz.prog XX 48 [.agg (oC o)] (vs (strOfNums (spellB o))) := by
  have hi := may_in hm
  have x1 := xNumbers [o.f0, o.f1, o.f2] (in3 hi.a) (by simp)
  have l1 := numsB_len _ (in3 hi.a)
  refine ac_mk (by kernel_rfl) Tryz.func48 rfl (lb rfl) rfl rfl ?_
  by_cases h2 : o.f2 = 2
  · have x2 := xNumbers [o.f6, o.f7, o.f8] (in3 ⟨(hi.k h2).1, (hi.k h2).2.1, (hi.k h2).2.2.1⟩) (by simp)
    have l2 := numsB_len _ (in3 ⟨(hi.k h2).1, (hi.k h2).2.1, (hi.k h2).2.2.1⟩)
    simp only [List.length_cons, List.length_nil] at l1 l2
    repeat (first | refine ao_e rfl rfl rfl rfl rfl ?_ | refine ao_eff (v := V.val (Value.bool true)) (ups := []) rfl rfl rfl rfl ?_ | refine ao_eff (v := V.val (Value.bool false)) (ups := []) rfl rfl rfl rfl ?_ | refine aw_seq ?_ | refine aw_region ?_ | refine aw_block ?_ | refine ao_nil ⟨fun h => (Bool.false_ne_true h).elim, ?_⟩ | refine ao_nil ⟨fun _ => ⟨by kernel_rfl, by kernel_rfl⟩, ?_⟩ | refine ao_skip rfl rfl rfl ?_ | refine aw_true rfl ?_ | refine aw_false rfl ?_ | refine aw_skip ?_ | refine aw_exit ?_)
    refine ao_funs rfl rfl rfl rfl rfl rfl x1 rfl ?_
    repeat (first | refine ao_e rfl rfl rfl rfl rfl ?_ | refine ao_eff (v := V.val (Value.bool true)) (ups := []) rfl rfl rfl rfl ?_ | refine ao_eff (v := V.val (Value.bool false)) (ups := []) rfl rfl rfl rfl ?_ | refine aw_seq ?_ | refine aw_region ?_ | refine aw_block ?_ | refine ao_nil ⟨fun h => (Bool.false_ne_true h).elim, ?_⟩ | refine ao_nil ⟨fun _ => ⟨by kernel_rfl, by kernel_rfl⟩, ?_⟩ | refine ao_skip rfl rfl rfl ?_ | refine aw_true rfl ?_ | refine aw_false rfl ?_ | refine aw_skip ?_ | refine aw_exit ?_)
    refine ao_yes rfl rfl rfl rfl h2 ?_
    repeat (first | refine ao_e rfl rfl rfl rfl rfl ?_ | refine ao_eff (v := V.val (Value.bool true)) (ups := []) rfl rfl rfl rfl ?_ | refine ao_eff (v := V.val (Value.bool false)) (ups := []) rfl rfl rfl rfl ?_ | refine aw_seq ?_ | refine aw_region ?_ | refine aw_block ?_ | refine ao_nil ⟨fun h => (Bool.false_ne_true h).elim, ?_⟩ | refine ao_nil ⟨fun _ => ⟨by kernel_rfl, by kernel_rfl⟩, ?_⟩ | refine ao_skip rfl rfl rfl ?_ | refine aw_true rfl ?_ | refine aw_false rfl ?_ | refine aw_skip ?_ | refine aw_exit ?_)
    refine ao_funs rfl rfl rfl rfl rfl rfl x2 rfl ?_
    refine ao_e rfl rfl rfl rfl (ef_cat (by rw [strOfNums_size, strOfNums_size]; omega)) ?_
    repeat (first | refine ao_e rfl rfl rfl rfl rfl ?_ | refine ao_eff (v := V.val (Value.bool true)) (ups := []) rfl rfl rfl rfl ?_ | refine ao_eff (v := V.val (Value.bool false)) (ups := []) rfl rfl rfl rfl ?_ | refine aw_seq ?_ | refine aw_region ?_ | refine aw_block ?_ | refine ao_nil ⟨fun h => (Bool.false_ne_true h).elim, ?_⟩ | refine ao_nil ⟨fun _ => ⟨by kernel_rfl, by kernel_rfl⟩, ?_⟩ | refine ao_skip rfl rfl rfl ?_ | refine aw_true rfl ?_ | refine aw_false rfl ?_ | refine aw_skip ?_ | refine aw_exit ?_)
    refine aw_ret ⟨.inr rfl, _, _, _, _, _, rfl, rfl, rfl, rfl, ?_, rfl⟩
    unfold spellB
    rw [if_pos h2, str_append]; rfl
  · obtain ⟨he, hc, hl, hg, _⟩ := hi.e h2
    have hs := text_size hc
    have x2 := packElem o.f3 he
    have x3 := numText (X := XX) o.f4 (by omega)
    have x4 := xNumbers [(o.f5.length : Int)] (by intro x hx; simp at hx; subst hx; exact ⟨by omega, by omega⟩) (by simp)
    have l2 := elB_len he
    have l3 := txB_len (s := o.f4) (by omega)
    have l4 := numsB_len [(o.f5.length : Int)] (by intro x hx; simp at hx; subst hx; exact ⟨by omega, by omega⟩)
    rw [← List.length_map (f := eC)] at x4
    simp only [List.length_cons, List.length_nil] at l1 l4
    repeat (first | refine ao_e rfl rfl rfl rfl rfl ?_ | refine ao_eff (v := V.val (Value.bool true)) (ups := []) rfl rfl rfl rfl ?_ | refine ao_eff (v := V.val (Value.bool false)) (ups := []) rfl rfl rfl rfl ?_ | refine aw_seq ?_ | refine aw_region ?_ | refine aw_block ?_ | refine ao_nil ⟨fun h => (Bool.false_ne_true h).elim, ?_⟩ | refine ao_nil ⟨fun _ => ⟨by kernel_rfl, by kernel_rfl⟩, ?_⟩ | refine ao_skip rfl rfl rfl ?_ | refine aw_true rfl ?_ | refine aw_false rfl ?_ | refine aw_skip ?_ | refine aw_exit ?_)
    refine ao_funs rfl rfl rfl rfl rfl rfl x1 rfl ?_
    repeat (first | refine ao_e rfl rfl rfl rfl rfl ?_ | refine ao_eff (v := V.val (Value.bool true)) (ups := []) rfl rfl rfl rfl ?_ | refine ao_eff (v := V.val (Value.bool false)) (ups := []) rfl rfl rfl rfl ?_ | refine aw_seq ?_ | refine aw_region ?_ | refine aw_block ?_ | refine ao_nil ⟨fun h => (Bool.false_ne_true h).elim, ?_⟩ | refine ao_nil ⟨fun _ => ⟨by kernel_rfl, by kernel_rfl⟩, ?_⟩ | refine ao_skip rfl rfl rfl ?_ | refine aw_true rfl ?_ | refine aw_false rfl ?_ | refine aw_skip ?_ | refine aw_exit ?_)
    refine ao_no rfl rfl rfl rfl h2 ?_
    repeat (first | refine ao_e rfl rfl rfl rfl rfl ?_ | refine ao_eff (v := V.val (Value.bool true)) (ups := []) rfl rfl rfl rfl ?_ | refine ao_eff (v := V.val (Value.bool false)) (ups := []) rfl rfl rfl rfl ?_ | refine aw_seq ?_ | refine aw_region ?_ | refine aw_block ?_ | refine ao_nil ⟨fun h => (Bool.false_ne_true h).elim, ?_⟩ | refine ao_nil ⟨fun _ => ⟨by kernel_rfl, by kernel_rfl⟩, ?_⟩ | refine ao_skip rfl rfl rfl ?_ | refine aw_true rfl ?_ | refine aw_false rfl ?_ | refine aw_skip ?_ | refine aw_exit ?_)
    refine ao_fun rfl rfl rfl rfl rfl rfl x2 ?_
    repeat (first | refine ao_e rfl rfl rfl rfl rfl ?_ | refine ao_eff (v := V.val (Value.bool true)) (ups := []) rfl rfl rfl rfl ?_ | refine ao_eff (v := V.val (Value.bool false)) (ups := []) rfl rfl rfl rfl ?_ | refine aw_seq ?_ | refine aw_region ?_ | refine aw_block ?_ | refine ao_nil ⟨fun h => (Bool.false_ne_true h).elim, ?_⟩ | refine ao_nil ⟨fun _ => ⟨by kernel_rfl, by kernel_rfl⟩, ?_⟩ | refine ao_skip rfl rfl rfl ?_ | refine aw_true rfl ?_ | refine aw_false rfl ?_ | refine aw_skip ?_ | refine aw_exit ?_)
    refine ao_fun rfl rfl rfl rfl rfl rfl x3 ?_
    refine ao_e rfl rfl rfl rfl (ef_cat (by simp only [strOfNums_size]; omega)) ?_
    repeat (first | refine ao_e rfl rfl rfl rfl rfl ?_ | refine ao_eff (v := V.val (Value.bool true)) (ups := []) rfl rfl rfl rfl ?_ | refine ao_eff (v := V.val (Value.bool false)) (ups := []) rfl rfl rfl rfl ?_ | refine aw_seq ?_ | refine aw_region ?_ | refine aw_block ?_ | refine ao_nil ⟨fun h => (Bool.false_ne_true h).elim, ?_⟩ | refine ao_nil ⟨fun _ => ⟨by kernel_rfl, by kernel_rfl⟩, ?_⟩ | refine ao_skip rfl rfl rfl ?_ | refine aw_true rfl ?_ | refine aw_false rfl ?_ | refine aw_skip ?_ | refine aw_exit ?_)
    refine ao_funs rfl rfl rfl rfl rfl rfl x4 rfl ?_
    rw [List.length_map] at x4
    refine ao_e rfl rfl rfl rfl (ef_cat (by simp only [strOfNums_size, ByteArray.size_append, List.length_map]; omega)) ?_
    refine ao_as (vs (strOfNums (numsB [o.f0, o.f1, o.f2] ++ (elB o.f3 ++ txB o.f4 ++ numsB [(o.f5.length : Int)])))) rfl rfl rfl (ef_cat (by simp only [strOfNums_size, ByteArray.size_append, List.length_map]; omega)) (by simp only [str_append, List.length_map]) ?_
    repeat (first | refine ao_e rfl rfl rfl rfl rfl ?_ | refine ao_eff (v := V.val (Value.bool true)) (ups := []) rfl rfl rfl rfl ?_ | refine ao_eff (v := V.val (Value.bool false)) (ups := []) rfl rfl rfl rfl ?_ | refine aw_seq ?_ | refine aw_region ?_ | refine aw_block ?_ | refine ao_nil ⟨fun h => (Bool.false_ne_true h).elim, ?_⟩ | refine ao_nil ⟨fun _ => ⟨by kernel_rfl, by kernel_rfl⟩, ?_⟩ | refine ao_skip rfl rfl rfl ?_ | refine aw_true rfl ?_ | refine aw_false rfl ?_ | refine aw_skip ?_ | refine aw_exit ?_)
    refine aw_rounds (T := Nat) (fun i => i ≤ o.f5.length) (fun i => .agg (oC o) :: .ptr (newId (siteOf 0 0) 0) 0 0 0 :: .any :: vs (strOfNums (numsB [o.f0, o.f1, o.f2] ++ (elB o.f3 ++ txB o.f4 ++ numsB [(o.f5.length : Int)]) ++ (o.f5.take i).flatMap elB)) :: anys 39 [.isl 3 (o.f5.map eC), vi (o.f5.length : Nat), vi i]) (fun _ => [(newId (siteOf 0 0) 0, ⟨0, 11, true, true, [oC o]⟩)]) (fun i => o.f5.length - i) 0 (Nat.zero_le _) ?_ ?_ ?_
    · refine ⟨.same _ rfl, .ptr _ _ _ _ _ _ _ rfl rfl rfl rfl, .any _, ?_, renL_anys ⟨.same _ rfl, ?_, .same _ rfl, trivial⟩⟩
      · exact ren_eq (by rw [List.take_zero, List.flatMap_nil, List.append_nil]; rfl) rfl
      · exact ren_eq (congrArg (fun n : Nat => vi n) (show (o.f5.map eC).length = o.f5.length from List.length_map ..)) rfl
    · exact ⟨renB_cl rfl rfl rfl rfl rfl rfl, trivial⟩
    rintro i h0 hi
    have lt : ((o.f5.take i).flatMap elB).length ≤ 15 * i := by
      have := els_len (o.f5.take i) (fun e he => hg e (List.mem_of_mem_take he))
      rw [List.length_take] at this
      omega
    by_cases hlt : i < o.f5.length
    · have hei : (o.f5.map eC)[Int.toNat (i : Int)]? = some (eC o.f5[i]) := by rw [Int.toNat_natCast, List.getElem?_map, List.getElem?_eq_getElem hlt]; rfl
      have hge := hg _ (List.getElem_mem hlt)
      have htk : o.f5.take (i + 1) = o.f5.take i ++ [o.f5[i]] := List.take_succ_eq_append_getElem hlt
      have lge := elB_len hge
      repeat (first | refine ao_e rfl rfl rfl rfl rfl ?_ | refine ao_eff (v := V.val (Value.bool true)) (ups := []) rfl rfl rfl rfl ?_ | refine ao_eff (v := V.val (Value.bool false)) (ups := []) rfl rfl rfl rfl ?_ | refine aw_seq ?_ | refine aw_region ?_ | refine aw_block ?_ | refine ao_nil ⟨fun h => (Bool.false_ne_true h).elim, ?_⟩ | refine ao_nil ⟨fun _ => ⟨by kernel_rfl, by kernel_rfl⟩, ?_⟩ | refine ao_skip rfl rfl rfl ?_ | refine aw_true rfl ?_ | refine aw_false rfl ?_ | refine aw_skip ?_ | refine aw_exit ?_)
      refine ao_yes rfl rfl rfl rfl (by omega) ?_
      repeat (first | refine ao_e rfl rfl rfl rfl rfl ?_ | refine ao_eff (v := V.val (Value.bool true)) (ups := []) rfl rfl rfl rfl ?_ | refine ao_eff (v := V.val (Value.bool false)) (ups := []) rfl rfl rfl rfl ?_ | refine aw_seq ?_ | refine aw_region ?_ | refine aw_block ?_ | refine ao_nil ⟨fun h => (Bool.false_ne_true h).elim, ?_⟩ | refine ao_nil ⟨fun _ => ⟨by kernel_rfl, by kernel_rfl⟩, ?_⟩ | refine ao_skip rfl rfl rfl ?_ | refine aw_true rfl ?_ | refine aw_false rfl ?_ | refine aw_skip ?_ | refine aw_exit ?_)
      refine ao_e rfl rfl rfl rfl (ef_ix rfl rfl (by omega) hei) ?_
      repeat (first | refine ao_e rfl rfl rfl rfl rfl ?_ | refine ao_eff (v := V.val (Value.bool true)) (ups := []) rfl rfl rfl rfl ?_ | refine ao_eff (v := V.val (Value.bool false)) (ups := []) rfl rfl rfl rfl ?_ | refine aw_seq ?_ | refine aw_region ?_ | refine aw_block ?_ | refine ao_nil ⟨fun h => (Bool.false_ne_true h).elim, ?_⟩ | refine ao_nil ⟨fun _ => ⟨by kernel_rfl, by kernel_rfl⟩, ?_⟩ | refine ao_skip rfl rfl rfl ?_ | refine aw_true rfl ?_ | refine aw_false rfl ?_ | refine aw_skip ?_ | refine aw_exit ?_)
      refine ao_fun rfl rfl rfl rfl rfl rfl (packElem _ hge) ?_
      refine ao_as (vs (strOfNums (numsB [o.f0, o.f1, o.f2] ++ (elB o.f3 ++ txB o.f4 ++ numsB [(o.f5.length : Int)]) ++ (o.f5.take (i + 1)).flatMap elB))) rfl rfl rfl (ef_cat (by simp only [strOfNums_size, List.length_append]; omega)) (by simp only [htk, List.flatMap_append, List.flatMap_cons, List.flatMap_nil, List.append_nil, str_append, ByteArray.append_assoc]) ?_
      repeat (first | refine ao_e rfl rfl rfl rfl rfl ?_ | refine ao_eff (v := V.val (Value.bool true)) (ups := []) rfl rfl rfl rfl ?_ | refine ao_eff (v := V.val (Value.bool false)) (ups := []) rfl rfl rfl rfl ?_ | refine aw_seq ?_ | refine aw_region ?_ | refine aw_block ?_ | refine ao_nil ⟨fun h => (Bool.false_ne_true h).elim, ?_⟩ | refine ao_nil ⟨fun _ => ⟨by kernel_rfl, by kernel_rfl⟩, ?_⟩ | refine ao_skip rfl rfl rfl ?_ | refine aw_true rfl ?_ | refine aw_false rfl ?_ | refine aw_skip ?_ | refine aw_exit ?_)
      exact ⟨i + 1, hlt, by omega, ⟨.same _ rfl, .ptr _ _ _ _ _ _ _ rfl rfl rfl rfl, .any _, .same _ rfl, renL_anys ⟨.same _ rfl, .same _ rfl, rsucc i (by omega), trivial⟩⟩, ⟨renB_cl rfl rfl rfl rfl rfl rfl, trivial⟩⟩
    · obtain rfl : i = o.f5.length := by omega
      repeat (first | refine ao_e rfl rfl rfl rfl rfl ?_ | refine ao_eff (v := V.val (Value.bool true)) (ups := []) rfl rfl rfl rfl ?_ | refine ao_eff (v := V.val (Value.bool false)) (ups := []) rfl rfl rfl rfl ?_ | refine aw_seq ?_ | refine aw_region ?_ | refine aw_block ?_ | refine ao_nil ⟨fun h => (Bool.false_ne_true h).elim, ?_⟩ | refine ao_nil ⟨fun _ => ⟨by kernel_rfl, by kernel_rfl⟩, ?_⟩ | refine ao_skip rfl rfl rfl ?_ | refine aw_true rfl ?_ | refine aw_false rfl ?_ | refine aw_skip ?_ | refine aw_exit ?_)
      refine ao_no rfl rfl rfl rfl (by omega) ?_
      repeat (first | refine ao_e rfl rfl rfl rfl rfl ?_ | refine ao_eff (v := V.val (Value.bool true)) (ups := []) rfl rfl rfl rfl ?_ | refine ao_eff (v := V.val (Value.bool false)) (ups := []) rfl rfl rfl rfl ?_ | refine aw_seq ?_ | refine aw_region ?_ | refine aw_block ?_ | refine ao_nil ⟨fun h => (Bool.false_ne_true h).elim, ?_⟩ | refine ao_nil ⟨fun _ => ⟨by kernel_rfl, by kernel_rfl⟩, ?_⟩ | refine ao_skip rfl rfl rfl ?_ | refine aw_true rfl ?_ | refine aw_false rfl ?_ | refine aw_skip ?_ | refine aw_exit ?_)
      refine aw_ret ⟨.inr rfl, _, _, _, _, _, rfl, rfl, rfl, rfl, ?_, rfl⟩
      unfold spellB
      rw [if_neg h2, List.take_length, ← List.append_assoc]; rfl
theorem put_len {x : Int} (h : inN x) : (vb x.toNat).length ≤ 5 := vb_len5 _ (by have := h.2; omega)
theorem put64 {x : Int} (h : inN x) : AF Tryz.prog XX 55 [vi x] (vs (strOfNums (vb x.toNat))) := by
  have := refPut (X := XX) x.toNat (by have := h.2; omega)
  rwa [Int.toNat_of_nonneg h.1] at this
theorem refOp {o : O} (hm : mayB o = true) : AF Tryz.prog XX 56 [.agg (oC o)] (vs (strOfNums (spellB o))) := by
  have hi := may_in hm
  have p1 := put64 hi.a.1
  have p2 := put64 hi.a.2.1
  have p3 := put64 hi.a.2.2
  have s1 := put_len hi.a.1
  have s2 := put_len hi.a.2.1
  have s3 := put_len hi.a.2.2
  have l1 := numsB_len _ (in3 hi.a)
  simp only [List.length_cons, List.length_nil] at l1
  refine ac_mk (by kernel_rfl) Tryz.func56 rfl (lb rfl) rfl rfl ?_
  by_cases h2 : o.f2 = 2
  · have k := hi.k h2
    have p4 := put64 k.1
    have p5 := put64 k.2.1
    have p6 := put64 k.2.2.1
    have s4 := put_len k.1
    have s5 := put_len k.2.1
    have s6 := put_len k.2.2.1
    repeat' (first | refine ao_e rfl rfl rfl rfl rfl ?_ | refine ao_eff (v := V.val (Value.bool true)) (ups := []) rfl rfl rfl rfl ?_ | refine ao_eff (v := V.val (Value.bool false)) (ups := []) rfl rfl rfl rfl ?_ | refine aw_seq ?_ | refine aw_region ?_ | refine aw_block ?_ | refine ao_nil ⟨fun h => (Bool.false_ne_true h).elim, ?_⟩ | refine ao_nil ⟨fun _ => ⟨by kernel_rfl, by kernel_rfl⟩, ?_⟩ | refine ao_skip rfl rfl rfl ?_ | refine aw_true rfl ?_ | refine aw_false rfl ?_ | refine aw_skip ?_ | refine aw_exit ?_ | refine ao_fun rfl rfl rfl rfl rfl rfl (p1) ?_ | refine ao_funs rfl rfl rfl rfl rfl rfl (p1) rfl ?_ | refine ao_fun rfl rfl rfl rfl rfl rfl (p2) ?_ | refine ao_funs rfl rfl rfl rfl rfl rfl (p2) rfl ?_ | refine ao_fun rfl rfl rfl rfl rfl rfl (p3) ?_ | refine ao_funs rfl rfl rfl rfl rfl rfl (p3) rfl ?_ | refine ao_fun rfl rfl rfl rfl rfl rfl (p4) ?_ | refine ao_funs rfl rfl rfl rfl rfl rfl (p4) rfl ?_ | refine ao_fun rfl rfl rfl rfl rfl rfl (p5) ?_ | refine ao_funs rfl rfl rfl rfl rfl rfl (p5) rfl ?_ | refine ao_fun rfl rfl rfl rfl rfl rfl (p6) ?_ | refine ao_funs rfl rfl rfl rfl rfl rfl (p6) rfl ?_ | refine ao_e rfl rfl rfl rfl (ef_cat (by (try simp only [strOfNums_size, ByteArray.size_append, List.length_append]); omega)) ?_ | refine ao_yes rfl rfl rfl rfl (h2) ?_ | refine ao_dec rfl rfl rfl (eqE _ _ _ _ _ _).1 (fun hb => ?_) (fun hb => ?_) | refine ao_ndec rfl rfl rfl (eqE _ _ _ _ _ _).2 (fun hb => ?_) (fun hb => ?_) | refine ao_dec rfl rfl rfl rfl (fun hb => ?_) (fun hb => ?_) | refine ao_ndec rfl rfl rfl rfl (fun hb => ?_) (fun hb => ?_) | refine ao_str rfl rfl rfl rfl (fun hb => ?_) (fun hb => ?_) | refine ao_nstr rfl rfl rfl rfl (fun hb => ?_) (fun hb => ?_) | refine ao_bool rfl rfl rfl rfl (fun hb => ?_) (fun hb => ?_) | refine aw_ret ⟨.inr rfl, _, _, _, _, _, rfl, rfl, rfl, rfl, ?_, rfl⟩)
    · refine congrArg vs ?_
      unfold spellB
      rw [if_pos h2]
      simp only [numsB, List.flatMap_cons, List.flatMap_nil, List.append_nil, str_append, ByteArray.append_assoc]
  · obtain ⟨he, hc, hl, hg, _⟩ := hi.e h2
    have hs := text_size hc
    have x2 := refElem (X := XX) o.f3 he
    have x3 := refText (X := XX) o.f4 (by omega)
    have x4 := put64 (x := (o.f5.length : Int)) ⟨by omega, by omega⟩
    rw [← List.length_map (f := eC)] at x4
    have l2 := elB_len he
    have l3 := txB_len (s := o.f4) (by omega)
    have l4 := put_len (x := ((o.f5.map eC).length : Int)) ⟨by omega, by rw [List.length_map]; omega⟩
    repeat' (first | refine ao_e rfl rfl rfl rfl rfl ?_ | refine ao_eff (v := V.val (Value.bool true)) (ups := []) rfl rfl rfl rfl ?_ | refine ao_eff (v := V.val (Value.bool false)) (ups := []) rfl rfl rfl rfl ?_ | refine aw_seq ?_ | refine aw_region ?_ | refine aw_block ?_ | refine ao_nil ⟨fun h => (Bool.false_ne_true h).elim, ?_⟩ | refine ao_nil ⟨fun _ => ⟨by kernel_rfl, by kernel_rfl⟩, ?_⟩ | refine ao_skip rfl rfl rfl ?_ | refine aw_true rfl ?_ | refine aw_false rfl ?_ | refine aw_skip ?_ | refine aw_exit ?_ | refine ao_fun rfl rfl rfl rfl rfl rfl (p1) ?_ | refine ao_funs rfl rfl rfl rfl rfl rfl (p1) rfl ?_ | refine ao_fun rfl rfl rfl rfl rfl rfl (p2) ?_ | refine ao_funs rfl rfl rfl rfl rfl rfl (p2) rfl ?_ | refine ao_fun rfl rfl rfl rfl rfl rfl (p3) ?_ | refine ao_funs rfl rfl rfl rfl rfl rfl (p3) rfl ?_ | refine ao_fun rfl rfl rfl rfl rfl rfl (x2) ?_ | refine ao_funs rfl rfl rfl rfl rfl rfl (x2) rfl ?_ | refine ao_fun rfl rfl rfl rfl rfl rfl (x3) ?_ | refine ao_funs rfl rfl rfl rfl rfl rfl (x3) rfl ?_ | refine ao_fun rfl rfl rfl rfl rfl rfl (x4) ?_ | refine ao_funs rfl rfl rfl rfl rfl rfl (x4) rfl ?_ | refine ao_e rfl rfl rfl rfl (ef_cat (by (try simp only [strOfNums_size, ByteArray.size_append, List.length_append]); omega)) ?_ | refine ao_no rfl rfl rfl rfl (h2) ?_ | refine ao_dec rfl rfl rfl (eqE _ _ _ _ _ _).1 (fun hb => ?_) (fun hb => ?_) | refine ao_ndec rfl rfl rfl (eqE _ _ _ _ _ _).2 (fun hb => ?_) (fun hb => ?_) | refine ao_dec rfl rfl rfl rfl (fun hb => ?_) (fun hb => ?_) | refine ao_ndec rfl rfl rfl rfl (fun hb => ?_) (fun hb => ?_) | refine ao_str rfl rfl rfl rfl (fun hb => ?_) (fun hb => ?_) | refine ao_nstr rfl rfl rfl rfl (fun hb => ?_) (fun hb => ?_) | refine ao_bool rfl rfl rfl rfl (fun hb => ?_) (fun hb => ?_) | refine aw_ret ⟨.inr rfl, _, _, _, _, _, rfl, rfl, rfl, rfl, ?_, rfl⟩)
    refine aw_rounds (T := Nat) (fun i => i ≤ o.f5.length) (fun i => [.agg (oC o), .ptr (newId (siteOf 0 0) 0) 0 0 0, .any, vs (strOfNums (numsB [o.f0, o.f1, o.f2] ++ (elB o.f3 ++ txB o.f4 ++ numsB [(o.f5.length : Int)]) ++ (o.f5.take i).flatMap elB)), vi i]) (fun _ => [(newId (siteOf 0 0) 0, ⟨0, 11, true, true, [oC o]⟩)]) (fun i => o.f5.length - i) 0 (Nat.zero_le _) ?_ ?_ ?_
    · refine ⟨.same _ rfl, .ptr _ _ _ _ _ _ _ rfl rfl rfl rfl, .any _, ren_eq (congrArg vs ?_) rfl, .same _ rfl, trivial⟩
      simp only [List.take_zero, List.length_map, numsB, List.flatMap_cons, List.flatMap_nil, List.append_nil, str_append, ByteArray.append_assoc]
    · exact ⟨renB_cl rfl rfl rfl rfl rfl rfl, trivial⟩
    rintro i h0 hi
    have lt : ((o.f5.take i).flatMap elB).length ≤ 15 * i := by
      have := els_len (o.f5.take i) (fun e he => hg e (List.mem_of_mem_take he))
      rw [List.length_take] at this
      omega
    have l4' := numsB_len [(o.f5.length : Int)] (by intro x hx; simp at hx; subst hx; exact ⟨by omega, by omega⟩)
    simp only [List.length_cons, List.length_nil] at l4'
    by_cases hlt : i < o.f5.length
    · have hei : (o.f5.map eC)[Int.toNat (i : Int)]? = some (eC o.f5[i]) := by rw [Int.toNat_natCast, List.getElem?_map, List.getElem?_eq_getElem hlt]; rfl
      have hge := hg _ (List.getElem_mem hlt)
      have htk : o.f5.take (i + 1) = o.f5.take i ++ [o.f5[i]] := List.take_succ_eq_append_getElem hlt
      have lge := elB_len hge
      repeat (first | refine ao_e rfl rfl rfl rfl rfl ?_ | refine ao_eff (v := V.val (Value.bool true)) (ups := []) rfl rfl rfl rfl ?_ | refine ao_eff (v := V.val (Value.bool false)) (ups := []) rfl rfl rfl rfl ?_ | refine aw_seq ?_ | refine aw_region ?_ | refine aw_block ?_ | refine ao_nil ⟨fun h => (Bool.false_ne_true h).elim, ?_⟩ | refine ao_nil ⟨fun _ => ⟨by kernel_rfl, by kernel_rfl⟩, ?_⟩ | refine ao_skip rfl rfl rfl ?_ | refine aw_true rfl ?_ | refine aw_false rfl ?_ | refine aw_skip ?_ | refine aw_exit ?_)
      refine ao_yes rfl rfl rfl rfl (by rw [List.length_map]; omega) ?_
      repeat (first | refine ao_e rfl rfl rfl rfl rfl ?_ | refine ao_eff (v := V.val (Value.bool true)) (ups := []) rfl rfl rfl rfl ?_ | refine ao_eff (v := V.val (Value.bool false)) (ups := []) rfl rfl rfl rfl ?_ | refine aw_seq ?_ | refine aw_region ?_ | refine aw_block ?_ | refine ao_nil ⟨fun h => (Bool.false_ne_true h).elim, ?_⟩ | refine ao_nil ⟨fun _ => ⟨by kernel_rfl, by kernel_rfl⟩, ?_⟩ | refine ao_skip rfl rfl rfl ?_ | refine aw_true rfl ?_ | refine aw_false rfl ?_ | refine aw_skip ?_ | refine aw_exit ?_)
      refine ao_e rfl rfl rfl rfl (ef_ix rfl rfl (by omega) hei) ?_
      repeat (first | refine ao_e rfl rfl rfl rfl rfl ?_ | refine ao_eff (v := V.val (Value.bool true)) (ups := []) rfl rfl rfl rfl ?_ | refine ao_eff (v := V.val (Value.bool false)) (ups := []) rfl rfl rfl rfl ?_ | refine aw_seq ?_ | refine aw_region ?_ | refine aw_block ?_ | refine ao_nil ⟨fun h => (Bool.false_ne_true h).elim, ?_⟩ | refine ao_nil ⟨fun _ => ⟨by kernel_rfl, by kernel_rfl⟩, ?_⟩ | refine ao_skip rfl rfl rfl ?_ | refine aw_true rfl ?_ | refine aw_false rfl ?_ | refine aw_skip ?_ | refine aw_exit ?_)
      refine ao_fun rfl rfl rfl rfl rfl rfl (refElem (X := XX) _ hge) ?_
      refine ao_as (vs (strOfNums (numsB [o.f0, o.f1, o.f2] ++ (elB o.f3 ++ txB o.f4 ++ numsB [(o.f5.length : Int)]) ++ (o.f5.take (i + 1)).flatMap elB))) rfl rfl rfl (ef_cat (by simp only [strOfNums_size, List.length_append]; omega)) (by simp only [htk, List.flatMap_append, List.flatMap_cons, List.flatMap_nil, List.append_nil, str_append, ByteArray.append_assoc]) ?_
      repeat (first | refine ao_e rfl rfl rfl rfl rfl ?_ | refine ao_eff (v := V.val (Value.bool true)) (ups := []) rfl rfl rfl rfl ?_ | refine ao_eff (v := V.val (Value.bool false)) (ups := []) rfl rfl rfl rfl ?_ | refine aw_seq ?_ | refine aw_region ?_ | refine aw_block ?_ | refine ao_nil ⟨fun h => (Bool.false_ne_true h).elim, ?_⟩ | refine ao_nil ⟨fun _ => ⟨by kernel_rfl, by kernel_rfl⟩, ?_⟩ | refine ao_skip rfl rfl rfl ?_ | refine aw_true rfl ?_ | refine aw_false rfl ?_ | refine aw_skip ?_ | refine aw_exit ?_)
      exact ⟨i + 1, hlt, by omega, ⟨.same _ rfl, .ptr _ _ _ _ _ _ _ rfl rfl rfl rfl, .any _, .same _ rfl, rsucc i (by omega), trivial⟩, ⟨renB_cl rfl rfl rfl rfl rfl rfl, trivial⟩⟩
    · obtain rfl : i = o.f5.length := by omega
      repeat (first | refine ao_e rfl rfl rfl rfl rfl ?_ | refine ao_eff (v := V.val (Value.bool true)) (ups := []) rfl rfl rfl rfl ?_ | refine ao_eff (v := V.val (Value.bool false)) (ups := []) rfl rfl rfl rfl ?_ | refine aw_seq ?_ | refine aw_region ?_ | refine aw_block ?_ | refine ao_nil ⟨fun h => (Bool.false_ne_true h).elim, ?_⟩ | refine ao_nil ⟨fun _ => ⟨by kernel_rfl, by kernel_rfl⟩, ?_⟩ | refine ao_skip rfl rfl rfl ?_ | refine aw_true rfl ?_ | refine aw_false rfl ?_ | refine aw_skip ?_ | refine aw_exit ?_)
      refine ao_no rfl rfl rfl rfl (by rw [List.length_map]; omega) ?_
      repeat (first | refine ao_e rfl rfl rfl rfl rfl ?_ | refine ao_eff (v := V.val (Value.bool true)) (ups := []) rfl rfl rfl rfl ?_ | refine ao_eff (v := V.val (Value.bool false)) (ups := []) rfl rfl rfl rfl ?_ | refine aw_seq ?_ | refine aw_region ?_ | refine aw_block ?_ | refine ao_nil ⟨fun h => (Bool.false_ne_true h).elim, ?_⟩ | refine ao_nil ⟨fun _ => ⟨by kernel_rfl, by kernel_rfl⟩, ?_⟩ | refine ao_skip rfl rfl rfl ?_ | refine aw_true rfl ?_ | refine aw_false rfl ?_ | refine aw_skip ?_ | refine aw_exit ?_)
      refine aw_ret ⟨.inr rfl, _, _, _, _, _, rfl, rfl, rfl, rfl, ?_, rfl⟩
      unfold spellB
      rw [if_neg h2, List.take_length, ← List.append_assoc]; rfl
end Go.Ai
