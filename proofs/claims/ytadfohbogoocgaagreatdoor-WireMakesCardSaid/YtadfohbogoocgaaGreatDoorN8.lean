/- A part of the proof: what the program does, step by step, over values without addresses. No conditions of mine. -/
import Derived.Test.YtadfohbogoocgaaGreatDoorN7
set_option linter.unusedVariables false
set_option linter.unusedSimpArgs false
namespace Go.Ai
open Go Go.RowKit Go.Proofs Go.Sp
set_option maxRecDepth 10000
set_option maxHeartbeats 4000000
set_option linter.unusedVariables false
set_option linter.unusedSimpArgs false
/-- What is known of functions that the interpreter does not walk. -/
inductive XX : FuncId → List V → List (Nat × List V) → V → List (Nat × List V) → List Blk → Prop
  | may (s : ByteArray) (hs : s.size < 9223372036854775807) : XX 94 [vs s] [] (vo (textB s)) [] []
  | count (s : ByteArray) (hs : s.size < 9223372036854775807) : XX 106 [vs s] [] (vi (Lib.runeCount s)) [] []
  | numbers (l : List Int) (h : ∀ x ∈ l, inN x) (hl : l.length ≤ 1000) : XX 47 [.isl 1 (l.map fun x => [vi x])] [] (vs (strOfNums (numsB l))) [] []
  | decode (s : ByteArray) (h0 : 0 < s.size) : XX 98 [vs s] [] (.tup [.val (.int .i32 (Utf8.decode s 0).1), vi (Utf8.decode s 0).2]) [] []
theorem xMay (s : ByteArray) (hs : s.size < 9223372036854775807) : AF Tryz.prog XX 94 [vs s] (vo (textB s)) := ⟨by kernel_rfl, rfl, rfl, .known (.may s hs)⟩
theorem xCount (s : ByteArray) (hs : s.size < 9223372036854775807) : AF Tryz.prog XX 106 [vs s] (vi (Lib.runeCount s)) := ⟨by kernel_rfl, rfl, rfl, .known (.count s hs)⟩
theorem xNumbers (l : List Int) (h : ∀ x ∈ l, inN x) (hl : l.length ≤ 1000) : AF Tryz.prog XX 47 [.isl 1 (l.map fun x => [vi x])] (vs (strOfNums (numsB l))) := ⟨by kernel_rfl, rfl, rfl, .known (.numbers l h hl)⟩
theorem xDecode (s : ByteArray) (h0 : 0 < s.size) : AF Tryz.prog XX 98 [vs s] (.tup [.val (.int .i32 (Utf8.decode s 0).1), vi (Utf8.decode s 0).2]) := ⟨by kernel_rfl, rfl, rfl, .known (.decode s h0)⟩
theorem opSize (o : O) (hs : o.f4.size < 9223372036854775807) : AF Tryz.prog XX 95 [.agg (oC o)] (vi (Lib.runeCount o.f4)) := by
  refine ac_mk (by kernel_rfl) Tryz.func95 rfl (lb rfl) rfl rfl ?_
  repeat' (first | refine ao_e rfl rfl rfl rfl rfl ?_ | refine ao_eff (v := V.val (Value.bool true)) (ups := []) rfl rfl rfl rfl ?_ | refine ao_eff (v := V.val (Value.bool false)) (ups := []) rfl rfl rfl rfl ?_ | refine aw_seq ?_ | refine aw_region ?_ | refine aw_block ?_ | refine ao_nil ⟨fun h => (Bool.false_ne_true h).elim, ?_⟩ | refine ao_nil ⟨fun _ => ⟨by kernel_rfl, by kernel_rfl⟩, ?_⟩ | refine ao_skip rfl rfl rfl ?_ | refine aw_true rfl ?_ | refine aw_false rfl ?_ | refine aw_skip ?_ | refine aw_exit ?_ | refine ao_fun rfl rfl rfl rfl rfl rfl (xCount _ hs) ?_ | refine ao_funs rfl rfl rfl rfl rfl rfl (xCount _ hs) rfl ?_ | refine ao_dec rfl rfl rfl (eqE _ _ _ _ _ _).1 (fun hb => ?_) (fun hb => ?_) | refine ao_ndec rfl rfl rfl (eqE _ _ _ _ _ _).2 (fun hb => ?_) (fun hb => ?_) | refine ao_dec rfl rfl rfl rfl (fun hb => ?_) (fun hb => ?_) | refine ao_ndec rfl rfl rfl rfl (fun hb => ?_) (fun hb => ?_) | refine ao_str rfl rfl rfl rfl (fun hb => ?_) (fun hb => ?_) | refine ao_nstr rfl rfl rfl rfl (fun hb => ?_) (fun hb => ?_) | refine ao_bool rfl rfl rfl rfl (fun hb => ?_) (fun hb => ?_) | refine aw_ret ⟨.inr rfl, _, _, _, _, _, rfl, rfl, rfl, rfl, ?_, rfl⟩)
  all_goals rfl
def pv (l : List E) : Nat → Option E
  | 0 => none
  | i + 1 => l[i]?
theorem opGone (o : O) (hn : o.f5.length < 4611686018427387904) : AF Tryz.prog XX 96 [.agg (oC o)] (vo (Sp.goneB o)) := by
  refine ac_mk (by kernel_rfl) Tryz.func96 rfl (lb rfl) rfl rfl ?_
  repeat (first | refine ao_e rfl rfl rfl rfl rfl ?_ | refine ao_eff (v := V.val (Value.bool true)) (ups := []) rfl rfl rfl rfl ?_ | refine ao_eff (v := V.val (Value.bool false)) (ups := []) rfl rfl rfl rfl ?_ | refine aw_seq ?_ | refine aw_region ?_ | refine aw_block ?_ | refine ao_nil ⟨fun h => (Bool.false_ne_true h).elim, ?_⟩ | refine ao_nil ⟨fun _ => ⟨by kernel_rfl, by kernel_rfl⟩, ?_⟩ | refine ao_skip rfl rfl rfl ?_ | refine aw_true rfl ?_ | refine aw_false rfl ?_ | refine aw_skip ?_ | refine aw_exit ?_)
  refine aw_rounds (T := Nat) (fun i => i ≤ o.f5.length ∧ goneFrom o (pv o.f5 i) (o.f5.drop i) = goneFrom o none o.f5) (fun i => [.agg (oC o), .ptr (newId (siteOf 0 0) 0) 0 0 0, .any, .any, .any, .any, .isl 3 (o.f5.map eC), vi (o.f5.length : Nat), vi i]) (fun _ => [(newId (siteOf 0 0) 0, ⟨0, 11, true, true, [oC o]⟩)]) (fun i => o.f5.length - i) 0 ⟨Nat.zero_le _, rfl⟩ ?_ ?_ ?_
  · exact ⟨.same _ rfl, .ptr _ _ _ _ _ _ _ rfl rfl rfl rfl, .any _, .any _, .any _, .any _, .same _ rfl, (by rw [← List.length_map (f := eC)]; exact .same _ rfl), .same _ rfl, trivial⟩
  · exact ⟨renB_cl rfl rfl rfl rfl rfl rfl, trivial⟩
  rintro i h0 ⟨hi, hI⟩
  by_cases hlt : i < o.f5.length
  · have hd : o.f5.drop i = o.f5[i] :: o.f5.drop (i + 1) := List.drop_eq_getElem_cons hlt
    have hei : (o.f5.map eC)[Int.toNat (i : Int)]? = some (eC o.f5[i]) := by rw [Int.toNat_natCast, List.getElem?_map, List.getElem?_eq_getElem hlt]; rfl
    have hw : IntKind.i64.wrap ((i : Int) - 1) = (i : Int) - 1 := by rw [wr64, w64 (by omega) (by omega)]
    have hep : 0 < i → (o.f5.map eC)[Int.toNat (IntKind.i64.wrap ((i : Int) - 1))]? = some (eC o.f5[i - 1]) := by
      intro h
      rw [hw, show Int.toNat ((i : Int) - 1) = i - 1 by omega, List.getElem?_map, List.getElem?_eq_getElem (by omega)]; rfl
    have hpv : pv o.f5 (i + 1) = some o.f5[i] := by show o.f5[i]? = _; rw [List.getElem?_eq_getElem hlt]
    have hpp : pv o.f5 i = if 0 < i then some (o.f5[i - 1]'(by omega)) else none := by
      cases i with
      | zero => rfl
      | succ j => rw [if_pos (by omega)]; show o.f5[j]? = _; rw [List.getElem?_eq_getElem (by omega)]; rfl
    rw [hd] at hI
    simp only [goneFrom] at hI
    generalize o.f5[i] = e at *
    repeat' (first | refine ao_e rfl rfl rfl rfl rfl ?_ | refine ao_eff (v := V.val (Value.bool true)) (ups := []) rfl rfl rfl rfl ?_ | refine ao_eff (v := V.val (Value.bool false)) (ups := []) rfl rfl rfl rfl ?_ | refine aw_seq ?_ | refine aw_region ?_ | refine aw_block ?_ | refine ao_nil ⟨fun h => (Bool.false_ne_true h).elim, ?_⟩ | refine ao_nil ⟨fun _ => ⟨by kernel_rfl, by kernel_rfl⟩, ?_⟩ | refine ao_skip rfl rfl rfl ?_ | refine aw_true rfl ?_ | refine aw_false rfl ?_ | refine aw_skip ?_ | refine aw_exit ?_ | refine ao_e rfl rfl rfl rfl (ef_ix rfl rfl (by omega) hei) ?_ | refine ao_funb rfl rfl rfl rfl rfl rfl (opElem e) (fun hb => ?_) (fun hb => ?_) | refine ao_funb rfl rfl rfl rfl rfl rfl (opOwn o e) (fun hb => ?_) (fun hb => ?_) | refine ao_funb rfl rfl rfl rfl rfl rfl (opLess _ e) (fun hb => ?_) (fun hb => ?_) | refine ao_e rfl rfl rfl rfl (ef_ix rfl rfl (by rw [hw]; omega) (hep (by omega))) ?_ | refine ao_dec rfl rfl rfl (eqE _ _ _ _ _ _).1 (fun hb => ?_) (fun hb => ?_) | refine ao_ndec rfl rfl rfl (eqE _ _ _ _ _ _).2 (fun hb => ?_) (fun hb => ?_) | refine ao_dec rfl rfl rfl rfl (fun hb => ?_) (fun hb => ?_) | refine ao_ndec rfl rfl rfl rfl (fun hb => ?_) (fun hb => ?_) | refine ao_str rfl rfl rfl rfl (fun hb => ?_) (fun hb => ?_) | refine ao_nstr rfl rfl rfl rfl (fun hb => ?_) (fun hb => ?_) | refine ao_bool rfl rfl rfl rfl (fun hb => ?_) (fun hb => ?_) | refine aw_ret ⟨.inr rfl, _, _, _, _, _, rfl, rfl, rfl, rfl, ?_, rfl⟩)
    all_goals first
      | (refine congrArg (fun b => V.val (Value.bool b)) ?_
         unfold Sp.goneB
         rw [← hI, hpp]
         first
           | (rw [if_neg (by omega)]; simp [zeroE, *]; done)
           | (rw [if_pos (by omega)]; simp [zeroE, *]; done)
           | (simp [zeroE, *]; done)
           | (exfalso; omega))
      | (refine ⟨i + 1, ⟨hlt, ?_⟩, by omega, ⟨.same _ rfl, .ptr _ _ _ _ _ _ _ rfl rfl rfl rfl, .any _, .any _, .any _, .any _, .same _ rfl, .same _ rfl, rsucc i (by omega), trivial⟩, ⟨renB_cl rfl rfl rfl rfl rfl rfl, trivial⟩⟩
         rw [hpv, ← hI, hpp]
         first
           | (rw [if_neg (by omega)]; simp [zeroE, *]; done)
           | (rw [if_pos (by omega)]; simp [zeroE, *]; done))
  · repeat' (first | refine ao_e rfl rfl rfl rfl rfl ?_ | refine ao_eff (v := V.val (Value.bool true)) (ups := []) rfl rfl rfl rfl ?_ | refine ao_eff (v := V.val (Value.bool false)) (ups := []) rfl rfl rfl rfl ?_ | refine aw_seq ?_ | refine aw_region ?_ | refine aw_block ?_ | refine ao_nil ⟨fun h => (Bool.false_ne_true h).elim, ?_⟩ | refine ao_nil ⟨fun _ => ⟨by kernel_rfl, by kernel_rfl⟩, ?_⟩ | refine ao_skip rfl rfl rfl ?_ | refine aw_true rfl ?_ | refine aw_false rfl ?_ | refine aw_skip ?_ | refine aw_exit ?_ | refine ao_dec rfl rfl rfl (eqE _ _ _ _ _ _).1 (fun hb => ?_) (fun hb => ?_) | refine ao_ndec rfl rfl rfl (eqE _ _ _ _ _ _).2 (fun hb => ?_) (fun hb => ?_) | refine ao_dec rfl rfl rfl rfl (fun hb => ?_) (fun hb => ?_) | refine ao_ndec rfl rfl rfl rfl (fun hb => ?_) (fun hb => ?_) | refine ao_str rfl rfl rfl rfl (fun hb => ?_) (fun hb => ?_) | refine ao_nstr rfl rfl rfl rfl (fun hb => ?_) (fun hb => ?_) | refine ao_bool rfl rfl rfl rfl (fun hb => ?_) (fun hb => ?_) | refine aw_ret ⟨.inr rfl, _, _, _, _, _, rfl, rfl, rfl, rfl, ?_, rfl⟩)
    all_goals first
      | (refine congrArg (fun b => V.val (Value.bool b)) ?_
         unfold Sp.goneB
         rw [List.drop_eq_nil_of_le (by omega)] at hI
         rw [← hI]
         simp only [List.length_map] at *
         simp [goneFrom]
         omega)
      | (exfalso; omega)
theorem emptyB_eq (s : ByteArray) : emptyB s = decide (s = ⟨#[]⟩) := by
  unfold emptyB
  rw [Bool.eq_iff_iff, decide_eq_true_eq, decide_eq_true_eq]
  exact ⟨fun h => empty_eq h, fun h => by rw [h]; rfl⟩
theorem opToggle (o : O) : AF Tryz.prog XX 72 [.agg (oC o)] (vo (toggleB o)) := by
  refine ac_mk (by kernel_rfl) Tryz.func72 rfl (lb rfl) rfl rfl ?_
  repeat' (first | refine ao_e rfl rfl rfl rfl rfl ?_ | refine ao_eff (v := V.val (Value.bool true)) (ups := []) rfl rfl rfl rfl ?_ | refine ao_eff (v := V.val (Value.bool false)) (ups := []) rfl rfl rfl rfl ?_ | refine aw_seq ?_ | refine aw_region ?_ | refine aw_block ?_ | refine ao_nil ⟨fun h => (Bool.false_ne_true h).elim, ?_⟩ | refine ao_nil ⟨fun _ => ⟨by kernel_rfl, by kernel_rfl⟩, ?_⟩ | refine ao_skip rfl rfl rfl ?_ | refine aw_true rfl ?_ | refine aw_false rfl ?_ | refine aw_skip ?_ | refine aw_exit ?_ | refine ao_funb rfl rfl rfl rfl rfl rfl (opName _ _) (fun hb => ?_) (fun hb => ?_) | refine ao_dec rfl rfl rfl (eqE _ _ _ _ _ _).1 (fun hb => ?_) (fun hb => ?_) | refine ao_ndec rfl rfl rfl (eqE _ _ _ _ _ _).2 (fun hb => ?_) (fun hb => ?_) | refine ao_dec rfl rfl rfl rfl (fun hb => ?_) (fun hb => ?_) | refine ao_ndec rfl rfl rfl rfl (fun hb => ?_) (fun hb => ?_) | refine ao_str rfl rfl rfl rfl (fun hb => ?_) (fun hb => ?_) | refine ao_nstr rfl rfl rfl rfl (fun hb => ?_) (fun hb => ?_) | refine ao_bool rfl rfl rfl rfl (fun hb => ?_) (fun hb => ?_) | refine aw_ret ⟨.inr rfl, _, _, _, _, _, rfl, rfl, rfl, rfl, ?_, rfl⟩)
  all_goals refine congrArg (fun b => V.val (Value.bool b)) ?_
  all_goals try simp only [List.length_map] at *
  all_goals first | (simp [toggleB, emptyB_eq, zeroE, *]; done) | (simp [toggleB, emptyB_eq, zeroE, *]; omega) | (simp only [toggleB, emptyB_eq, zeroE]; grind)
end Go.Ai
