/- A part of the proof: what the program does, step by step, over values without addresses. No conditions of mine. -/
import Derived.Test.YtadfohbogoocgaaN52
set_option linter.unusedVariables false
set_option linter.unusedSimpArgs false
namespace Go.Ai
open Go Go.RowKit Go.Proofs Go.Sp
variable {X : FuncId → List V → List (Nat × List V) → V → List (Nat × List V) → List Blk → Prop}
set_option maxRecDepth 10000
set_option maxHeartbeats 4000000
set_option linter.unusedVariables false
set_option linter.unusedSimpArgs false
theorem refHurtNo (l : List K) (n at_ by_ : Int) (h : at_ < 0 ∨ by_ < 0) : AF Try.prog X 34 [.isl 4 (l.map kC), vi n, vi at_, vi by_] (.tup [.emp, vi 1]) := by
  refine ac_mk (by kernel_rfl) Try.func34 rfl (lb rfl) rfl rfl ?_
  repeat' (first | refine ao_e rfl rfl rfl rfl rfl ?_ | refine ao_eff (v := V.val (Value.bool true)) (ups := []) rfl rfl rfl rfl ?_ | refine ao_eff (v := V.val (Value.bool false)) (ups := []) rfl rfl rfl rfl ?_ | refine aw_seq ?_ | refine aw_region ?_ | refine aw_block ?_ | refine ao_nil ⟨fun h => (Bool.false_ne_true h).elim, ?_⟩ | refine ao_nil ⟨fun _ => ⟨by kernel_rfl, by kernel_rfl⟩, ?_⟩ | refine ao_skip rfl rfl rfl ?_ | refine aw_true rfl ?_ | refine aw_false rfl ?_ | refine aw_skip ?_ | refine aw_exit ?_ | refine ao_dec rfl rfl rfl (eqE _ _ _ _ _ _).1 (fun hb => ?_) (fun hb => ?_) | refine ao_ndec rfl rfl rfl (eqE _ _ _ _ _ _).2 (fun hb => ?_) (fun hb => ?_) | refine ao_dec rfl rfl rfl rfl (fun hb => ?_) (fun hb => ?_) | refine ao_ndec rfl rfl rfl rfl (fun hb => ?_) (fun hb => ?_) | refine ao_str rfl rfl rfl rfl (fun hb => ?_) (fun hb => ?_) | refine ao_nstr rfl rfl rfl rfl (fun hb => ?_) (fun hb => ?_) | refine ao_bool rfl rfl rfl rfl (fun hb => ?_) (fun hb => ?_) | refine aw_ret ⟨.inr rfl, _, _, _, _, _, rfl, rfl, rfl, rfl, ?_, rfl⟩)
  all_goals first | rfl | (exfalso; omega)
theorem refHurtAsk (l : List K) (hl : l.length ≤ 1000) (n at_ by_ : Int) (ha : 0 ≤ at_) (hb : 0 ≤ by_) (h : ¬ (0 ≤ n ∧ n < (l.length : Int))) : AF Try.prog X 34 [.isl 4 (l.map kC), vi n, vi at_, vi by_] (.tup [.emp, vi 3]) := by
  have hlm : (l.map kC).length = l.length := List.length_map ..
  have hN := refNum (X := X) n ((l.length : Int) - 1)
  rw [decide_eq_false (by omega)] at hN
  have hw : IntKind.i64.wrap ((((l.map kC).length : Nat) : Int) - 1) = (l.length : Int) - 1 := by rw [hlm, wr64, w64 (by omega) (by omega)]
  refine ac_mk (by kernel_rfl) Try.func34 rfl (lb rfl) rfl rfl ?_
  repeat (first | refine ao_e rfl rfl rfl rfl rfl ?_ | refine ao_eff (v := V.val (Value.bool true)) (ups := []) rfl rfl rfl rfl ?_ | refine ao_eff (v := V.val (Value.bool false)) (ups := []) rfl rfl rfl rfl ?_ | refine aw_seq ?_ | refine aw_region ?_ | refine aw_block ?_ | refine ao_nil ⟨fun h => (Bool.false_ne_true h).elim, ?_⟩ | refine ao_nil ⟨fun _ => ⟨by kernel_rfl, by kernel_rfl⟩, ?_⟩ | refine ao_skip rfl rfl rfl ?_ | refine aw_true rfl ?_ | refine aw_false rfl ?_ | refine aw_skip ?_ | refine aw_exit ?_)
  refine ao_no rfl rfl rfl rfl (by omega) ?_
  repeat (first | refine ao_e rfl rfl rfl rfl rfl ?_ | refine ao_eff (v := V.val (Value.bool true)) (ups := []) rfl rfl rfl rfl ?_ | refine ao_eff (v := V.val (Value.bool false)) (ups := []) rfl rfl rfl rfl ?_ | refine aw_seq ?_ | refine aw_region ?_ | refine aw_block ?_ | refine ao_nil ⟨fun h => (Bool.false_ne_true h).elim, ?_⟩ | refine ao_nil ⟨fun _ => ⟨by kernel_rfl, by kernel_rfl⟩, ?_⟩ | refine ao_skip rfl rfl rfl ?_ | refine aw_true rfl ?_ | refine aw_false rfl ?_ | refine aw_skip ?_ | refine aw_exit ?_)
  refine ao_no rfl rfl rfl rfl (by omega) ?_
  repeat (first | refine ao_as (vi ((l.length : Int) - 1)) rfl rfl rfl ef_subi (congrArg vi hw) ?_ | refine ao_e rfl rfl rfl rfl rfl ?_ | refine ao_eff (v := V.val (Value.bool true)) (ups := []) rfl rfl rfl rfl ?_ | refine ao_eff (v := V.val (Value.bool false)) (ups := []) rfl rfl rfl rfl ?_ | refine aw_seq ?_ | refine aw_region ?_ | refine aw_block ?_ | refine ao_nil ⟨fun h => (Bool.false_ne_true h).elim, ?_⟩ | refine ao_nil ⟨fun _ => ⟨by kernel_rfl, by kernel_rfl⟩, ?_⟩ | refine ao_skip rfl rfl rfl ?_ | refine aw_true rfl ?_ | refine aw_false rfl ?_ | refine aw_skip ?_ | refine aw_exit ?_)
  refine ao_fun rfl rfl rfl rfl rfl rfl hN ?_
  repeat (first | refine ao_e rfl rfl rfl rfl rfl ?_ | refine ao_eff (v := V.val (Value.bool true)) (ups := []) rfl rfl rfl rfl ?_ | refine ao_eff (v := V.val (Value.bool false)) (ups := []) rfl rfl rfl rfl ?_ | refine aw_seq ?_ | refine aw_region ?_ | refine aw_block ?_ | refine ao_nil ⟨fun h => (Bool.false_ne_true h).elim, ?_⟩ | refine ao_nil ⟨fun _ => ⟨by kernel_rfl, by kernel_rfl⟩, ?_⟩ | refine ao_skip rfl rfl rfl ?_ | refine aw_true rfl ?_ | refine aw_false rfl ?_ | refine aw_skip ?_ | refine aw_exit ?_)
  exact aw_ret ⟨.inr rfl, _, _, _, _, _, rfl, rfl, rfl, rfl, rfl, rfl⟩
theorem refHurtT (l : List K) (hl : l.length ≤ 1000) (n : Nat) (hn : n < l.length) (f0 f1 : Int) (f2 : ByteArray) (hei : (l.map kC)[Int.toNat (n : Int)]? = some (kC ⟨f0, f1, f2, true⟩)) (at_ by_ : Int) (ha : 0 ≤ at_) (hb : 0 ≤ by_) : AF Try.prog X 34 [.isl 4 (l.map kC), vi n, vi at_, vi by_] (.tup [.emp, vi 5]) := by
  have hlm : (l.map kC).length = l.length := List.length_map ..
  have hN := refNum (X := X) n ((l.length : Int) - 1)
  rw [decide_eq_true (by omega)] at hN
  have hw : IntKind.i64.wrap ((((l.map kC).length : Nat) : Int) - 1) = (l.length : Int) - 1 := by rw [hlm, wr64, w64 (by omega) (by omega)]
  refine ac_mk (by kernel_rfl) Try.func34 rfl (lb rfl) rfl rfl ?_
  repeat (first | refine ao_e rfl rfl rfl rfl rfl ?_ | refine ao_eff (v := V.val (Value.bool true)) (ups := []) rfl rfl rfl rfl ?_ | refine ao_eff (v := V.val (Value.bool false)) (ups := []) rfl rfl rfl rfl ?_ | refine aw_seq ?_ | refine aw_region ?_ | refine aw_block ?_ | refine ao_nil ⟨fun h => (Bool.false_ne_true h).elim, ?_⟩ | refine ao_nil ⟨fun _ => ⟨by kernel_rfl, by kernel_rfl⟩, ?_⟩ | refine ao_skip rfl rfl rfl ?_ | refine aw_true rfl ?_ | refine aw_false rfl ?_ | refine aw_skip ?_ | refine aw_exit ?_)
  refine ao_no rfl rfl rfl rfl (by omega) ?_
  repeat (first | refine ao_e rfl rfl rfl rfl rfl ?_ | refine ao_eff (v := V.val (Value.bool true)) (ups := []) rfl rfl rfl rfl ?_ | refine ao_eff (v := V.val (Value.bool false)) (ups := []) rfl rfl rfl rfl ?_ | refine aw_seq ?_ | refine aw_region ?_ | refine aw_block ?_ | refine ao_nil ⟨fun h => (Bool.false_ne_true h).elim, ?_⟩ | refine ao_nil ⟨fun _ => ⟨by kernel_rfl, by kernel_rfl⟩, ?_⟩ | refine ao_skip rfl rfl rfl ?_ | refine aw_true rfl ?_ | refine aw_false rfl ?_ | refine aw_skip ?_ | refine aw_exit ?_)
  refine ao_no rfl rfl rfl rfl (by omega) ?_
  repeat (first | refine ao_as (vi ((l.length : Int) - 1)) rfl rfl rfl ef_subi (congrArg vi hw) ?_ | refine ao_e rfl rfl rfl rfl rfl ?_ | refine ao_eff (v := V.val (Value.bool true)) (ups := []) rfl rfl rfl rfl ?_ | refine ao_eff (v := V.val (Value.bool false)) (ups := []) rfl rfl rfl rfl ?_ | refine aw_seq ?_ | refine aw_region ?_ | refine aw_block ?_ | refine ao_nil ⟨fun h => (Bool.false_ne_true h).elim, ?_⟩ | refine ao_nil ⟨fun _ => ⟨by kernel_rfl, by kernel_rfl⟩, ?_⟩ | refine ao_skip rfl rfl rfl ?_ | refine aw_true rfl ?_ | refine aw_false rfl ?_ | refine aw_skip ?_ | refine aw_exit ?_)
  refine ao_fun rfl rfl rfl rfl rfl rfl hN ?_
  repeat (first | refine ao_e rfl rfl rfl rfl rfl ?_ | refine ao_eff (v := V.val (Value.bool true)) (ups := []) rfl rfl rfl rfl ?_ | refine ao_eff (v := V.val (Value.bool false)) (ups := []) rfl rfl rfl rfl ?_ | refine aw_seq ?_ | refine aw_region ?_ | refine aw_block ?_ | refine ao_nil ⟨fun h => (Bool.false_ne_true h).elim, ?_⟩ | refine ao_nil ⟨fun _ => ⟨by kernel_rfl, by kernel_rfl⟩, ?_⟩ | refine ao_skip rfl rfl rfl ?_ | refine aw_true rfl ?_ | refine aw_false rfl ?_ | refine aw_skip ?_ | refine aw_exit ?_)
  refine ao_e rfl rfl rfl rfl (ef_ix rfl rfl (by omega) hei) ?_
  repeat (first | refine ao_e rfl rfl rfl rfl rfl ?_ | refine ao_eff (v := V.val (Value.bool true)) (ups := []) rfl rfl rfl rfl ?_ | refine ao_eff (v := V.val (Value.bool false)) (ups := []) rfl rfl rfl rfl ?_ | refine aw_seq ?_ | refine aw_region ?_ | refine aw_block ?_ | refine ao_nil ⟨fun h => (Bool.false_ne_true h).elim, ?_⟩ | refine ao_nil ⟨fun _ => ⟨by kernel_rfl, by kernel_rfl⟩, ?_⟩ | refine ao_skip rfl rfl rfl ?_ | refine aw_true rfl ?_ | refine aw_false rfl ?_ | refine aw_skip ?_ | refine aw_exit ?_)
  exact aw_ret ⟨.inr rfl, _, _, _, _, _, rfl, rfl, rfl, rfl, rfl, rfl⟩
theorem refHurtE (l : List K) (hl : l.length ≤ 1000) (n : Nat) (hn : n < l.length) (f0 f1 : Int) (hei : (l.map kC)[Int.toNat (n : Int)]? = some (kC ⟨f0, f1, ⟨#[]⟩, false⟩)) (at_ by_ : Int) (ha : 0 ≤ at_) (hb : 0 ≤ by_) : AF Try.prog X 34 [.isl 4 (l.map kC), vi n, vi at_, vi by_] (.tup [.emp, vi 5]) := by
  have hlm : (l.map kC).length = l.length := List.length_map ..
  have hN := refNum (X := X) n ((l.length : Int) - 1)
  rw [decide_eq_true (by omega)] at hN
  have hw : IntKind.i64.wrap ((((l.map kC).length : Nat) : Int) - 1) = (l.length : Int) - 1 := by rw [hlm, wr64, w64 (by omega) (by omega)]
  refine ac_mk (by kernel_rfl) Try.func34 rfl (lb rfl) rfl rfl ?_
  repeat (first | refine ao_e rfl rfl rfl rfl rfl ?_ | refine ao_eff (v := V.val (Value.bool true)) (ups := []) rfl rfl rfl rfl ?_ | refine ao_eff (v := V.val (Value.bool false)) (ups := []) rfl rfl rfl rfl ?_ | refine aw_seq ?_ | refine aw_region ?_ | refine aw_block ?_ | refine ao_nil ⟨fun h => (Bool.false_ne_true h).elim, ?_⟩ | refine ao_nil ⟨fun _ => ⟨by kernel_rfl, by kernel_rfl⟩, ?_⟩ | refine ao_skip rfl rfl rfl ?_ | refine aw_true rfl ?_ | refine aw_false rfl ?_ | refine aw_skip ?_ | refine aw_exit ?_)
  refine ao_no rfl rfl rfl rfl (by omega) ?_
  repeat (first | refine ao_e rfl rfl rfl rfl rfl ?_ | refine ao_eff (v := V.val (Value.bool true)) (ups := []) rfl rfl rfl rfl ?_ | refine ao_eff (v := V.val (Value.bool false)) (ups := []) rfl rfl rfl rfl ?_ | refine aw_seq ?_ | refine aw_region ?_ | refine aw_block ?_ | refine ao_nil ⟨fun h => (Bool.false_ne_true h).elim, ?_⟩ | refine ao_nil ⟨fun _ => ⟨by kernel_rfl, by kernel_rfl⟩, ?_⟩ | refine ao_skip rfl rfl rfl ?_ | refine aw_true rfl ?_ | refine aw_false rfl ?_ | refine aw_skip ?_ | refine aw_exit ?_)
  refine ao_no rfl rfl rfl rfl (by omega) ?_
  repeat (first | refine ao_as (vi ((l.length : Int) - 1)) rfl rfl rfl ef_subi (congrArg vi hw) ?_ | refine ao_e rfl rfl rfl rfl rfl ?_ | refine ao_eff (v := V.val (Value.bool true)) (ups := []) rfl rfl rfl rfl ?_ | refine ao_eff (v := V.val (Value.bool false)) (ups := []) rfl rfl rfl rfl ?_ | refine aw_seq ?_ | refine aw_region ?_ | refine aw_block ?_ | refine ao_nil ⟨fun h => (Bool.false_ne_true h).elim, ?_⟩ | refine ao_nil ⟨fun _ => ⟨by kernel_rfl, by kernel_rfl⟩, ?_⟩ | refine ao_skip rfl rfl rfl ?_ | refine aw_true rfl ?_ | refine aw_false rfl ?_ | refine aw_skip ?_ | refine aw_exit ?_)
  refine ao_fun rfl rfl rfl rfl rfl rfl hN ?_
  repeat (first | refine ao_e rfl rfl rfl rfl rfl ?_ | refine ao_eff (v := V.val (Value.bool true)) (ups := []) rfl rfl rfl rfl ?_ | refine ao_eff (v := V.val (Value.bool false)) (ups := []) rfl rfl rfl rfl ?_ | refine aw_seq ?_ | refine aw_region ?_ | refine aw_block ?_ | refine ao_nil ⟨fun h => (Bool.false_ne_true h).elim, ?_⟩ | refine ao_nil ⟨fun _ => ⟨by kernel_rfl, by kernel_rfl⟩, ?_⟩ | refine ao_skip rfl rfl rfl ?_ | refine aw_true rfl ?_ | refine aw_false rfl ?_ | refine aw_skip ?_ | refine aw_exit ?_)
  refine ao_e rfl rfl rfl rfl (ef_ix rfl rfl (by omega) hei) ?_
  repeat (first | refine ao_e rfl rfl rfl rfl rfl ?_ | refine ao_eff (v := V.val (Value.bool true)) (ups := []) rfl rfl rfl rfl ?_ | refine ao_eff (v := V.val (Value.bool false)) (ups := []) rfl rfl rfl rfl ?_ | refine aw_seq ?_ | refine aw_region ?_ | refine aw_block ?_ | refine ao_nil ⟨fun h => (Bool.false_ne_true h).elim, ?_⟩ | refine ao_nil ⟨fun _ => ⟨by kernel_rfl, by kernel_rfl⟩, ?_⟩ | refine ao_skip rfl rfl rfl ?_ | refine aw_true rfl ?_ | refine aw_false rfl ?_ | refine aw_skip ?_ | refine aw_exit ?_)
  refine ao_e rfl rfl rfl rfl (ef_ix rfl rfl (by omega) hei) ?_
  repeat (first | refine ao_e rfl rfl rfl rfl rfl ?_ | refine ao_eff (v := V.val (Value.bool true)) (ups := []) rfl rfl rfl rfl ?_ | refine ao_eff (v := V.val (Value.bool false)) (ups := []) rfl rfl rfl rfl ?_ | refine aw_seq ?_ | refine aw_region ?_ | refine aw_block ?_ | refine ao_nil ⟨fun h => (Bool.false_ne_true h).elim, ?_⟩ | refine ao_nil ⟨fun _ => ⟨by kernel_rfl, by kernel_rfl⟩, ?_⟩ | refine ao_skip rfl rfl rfl ?_ | refine aw_true rfl ?_ | refine aw_false rfl ?_ | refine aw_skip ?_ | refine aw_exit ?_)
  refine ao_str rfl rfl rfl rfl (fun hb => ?_) (fun hb => absurd rfl hb)
  repeat (first | refine ao_e rfl rfl rfl rfl rfl ?_ | refine ao_eff (v := V.val (Value.bool true)) (ups := []) rfl rfl rfl rfl ?_ | refine ao_eff (v := V.val (Value.bool false)) (ups := []) rfl rfl rfl rfl ?_ | refine aw_seq ?_ | refine aw_region ?_ | refine aw_block ?_ | refine ao_nil ⟨fun h => (Bool.false_ne_true h).elim, ?_⟩ | refine ao_nil ⟨fun _ => ⟨by kernel_rfl, by kernel_rfl⟩, ?_⟩ | refine ao_skip rfl rfl rfl ?_ | refine aw_true rfl ?_ | refine aw_false rfl ?_ | refine aw_skip ?_ | refine aw_exit ?_)
  exact aw_ret ⟨.inr rfl, _, _, _, _, _, rfl, rfl, rfl, rfl, rfl, rfl⟩
theorem refHurtK (l : List K) (hl : l.length ≤ 1000) (n : Nat) (hn : n < l.length) (f0 f1 : Int) (L : List Int) (hB : Bytes L) (a : Nat) (z q y : Int) (hat : a < L.length) (hz : L[a]? = some z) (hk : l[n]? = some ⟨f0, f1, strOfNums L, false⟩) (at_ by_ : Int) (ha : 0 ≤ at_) (hb : 0 ≤ by_)
    (e1 : Int.tmod at_ ((L.length : Nat) : Int) = (a : Nat)) (e2 : IntKind.i64.wrap (1 + Int.tmod by_ 255) = q) (e3 : IntKind.u8.wrap (z + IntKind.u8.wrap q) = y) (r : List K) (hr : l.set n ⟨f0, f1, strOfNums (L.set a y), true⟩ = r) :
    AF Try.prog X 34 [.isl 4 (l.map kC), vi n, vi at_, vi by_] (.tup [.isl 4 (r.map kC), vi 0]) := by
  have hlm : (l.map kC).length = l.length := List.length_map ..
  have hei : (l.map kC)[Int.toNat (n : Int)]? = some (kC ⟨f0, f1, strOfNums L, false⟩) := by rw [Int.toNat_natCast, List.getElem?_map, hk]; rfl
  have hei2 : (l.map kC)[n]? = some (kC ⟨f0, f1, strOfNums L, false⟩) := by rw [List.getElem?_map, hk]; rfl
  have hN := refNum (X := X) n ((l.length : Int) - 1)
  rw [decide_eq_true (by omega)] at hN
  have hw : IntKind.i64.wrap ((((l.map kC).length : Nat) : Int) - 1) = (l.length : Int) - 1 := by rw [hlm, wr64, w64 (by omega) (by omega)]
  have hC := copyPacketsOut (X := X) l (by omega)
  have hls := strOfNums_size L
  have hne : strOfNums L ≠ ⟨#[]⟩ := by
    intro h
    have := congrArg ByteArray.size h
    rw [hls] at this
    have e : (⟨#[]⟩ : ByteArray).size = 0 := rfl
    omega
  have hcl : (L.map u8).length = L.length := List.length_map ..
  have hll : (L.set a y).length = L.length := List.length_set
  have hss : (l.set n ⟨f0, f1, strOfNums (L.set a y), false⟩).set n ⟨f0, f1, strOfNums (L.set a y), true⟩ = r := by rw [List.set_set]; exact hr
  have hl1 : (l.set n ⟨f0, f1, strOfNums (L.set a y), false⟩).length = l.length := List.length_set
  have hk1 : (l.set n ⟨f0, f1, strOfNums (L.set a y), false⟩)[n]? = some ⟨f0, f1, strOfNums (L.set a y), false⟩ := List.getElem?_set_self hn
  have hrl : r.length = l.length := by rw [← hr]; exact List.length_set
  refine ac_mk (by kernel_rfl) Try.func34 rfl (lb rfl) rfl rfl ?_
  repeat (first | refine ao_e rfl rfl rfl rfl rfl ?_ | refine ao_eff (v := V.val (Value.bool true)) (ups := []) rfl rfl rfl rfl ?_ | refine ao_eff (v := V.val (Value.bool false)) (ups := []) rfl rfl rfl rfl ?_ | refine aw_seq ?_ | refine aw_region ?_ | refine aw_block ?_ | refine ao_nil ⟨fun h => (Bool.false_ne_true h).elim, ?_⟩ | refine ao_nil ⟨fun _ => ⟨by kernel_rfl, by kernel_rfl⟩, ?_⟩ | refine ao_skip rfl rfl rfl ?_ | refine aw_true rfl ?_ | refine aw_false rfl ?_ | refine aw_skip ?_ | refine aw_exit ?_)
  refine ao_no rfl rfl rfl rfl (by omega) ?_
  repeat (first | refine ao_e rfl rfl rfl rfl rfl ?_ | refine ao_eff (v := V.val (Value.bool true)) (ups := []) rfl rfl rfl rfl ?_ | refine ao_eff (v := V.val (Value.bool false)) (ups := []) rfl rfl rfl rfl ?_ | refine aw_seq ?_ | refine aw_region ?_ | refine aw_block ?_ | refine ao_nil ⟨fun h => (Bool.false_ne_true h).elim, ?_⟩ | refine ao_nil ⟨fun _ => ⟨by kernel_rfl, by kernel_rfl⟩, ?_⟩ | refine ao_skip rfl rfl rfl ?_ | refine aw_true rfl ?_ | refine aw_false rfl ?_ | refine aw_skip ?_ | refine aw_exit ?_)
  refine ao_no rfl rfl rfl rfl (by omega) ?_
  repeat (first | refine ao_as (vi ((l.length : Int) - 1)) rfl rfl rfl ef_subi (congrArg vi hw) ?_ | refine ao_e rfl rfl rfl rfl rfl ?_ | refine ao_eff (v := V.val (Value.bool true)) (ups := []) rfl rfl rfl rfl ?_ | refine ao_eff (v := V.val (Value.bool false)) (ups := []) rfl rfl rfl rfl ?_ | refine aw_seq ?_ | refine aw_region ?_ | refine aw_block ?_ | refine ao_nil ⟨fun h => (Bool.false_ne_true h).elim, ?_⟩ | refine ao_nil ⟨fun _ => ⟨by kernel_rfl, by kernel_rfl⟩, ?_⟩ | refine ao_skip rfl rfl rfl ?_ | refine aw_true rfl ?_ | refine aw_false rfl ?_ | refine aw_skip ?_ | refine aw_exit ?_)
  refine ao_fun rfl rfl rfl rfl rfl rfl hN ?_
  repeat (first | refine ao_e rfl rfl rfl rfl rfl ?_ | refine ao_eff (v := V.val (Value.bool true)) (ups := []) rfl rfl rfl rfl ?_ | refine ao_eff (v := V.val (Value.bool false)) (ups := []) rfl rfl rfl rfl ?_ | refine aw_seq ?_ | refine aw_region ?_ | refine aw_block ?_ | refine ao_nil ⟨fun h => (Bool.false_ne_true h).elim, ?_⟩ | refine ao_nil ⟨fun _ => ⟨by kernel_rfl, by kernel_rfl⟩, ?_⟩ | refine ao_skip rfl rfl rfl ?_ | refine aw_true rfl ?_ | refine aw_false rfl ?_ | refine aw_skip ?_ | refine aw_exit ?_)
  refine ao_e rfl rfl rfl rfl (ef_ix rfl rfl (by omega) hei) ?_
  repeat (first | refine ao_e rfl rfl rfl rfl rfl ?_ | refine ao_eff (v := V.val (Value.bool true)) (ups := []) rfl rfl rfl rfl ?_ | refine ao_eff (v := V.val (Value.bool false)) (ups := []) rfl rfl rfl rfl ?_ | refine aw_seq ?_ | refine aw_region ?_ | refine aw_block ?_ | refine ao_nil ⟨fun h => (Bool.false_ne_true h).elim, ?_⟩ | refine ao_nil ⟨fun _ => ⟨by kernel_rfl, by kernel_rfl⟩, ?_⟩ | refine ao_skip rfl rfl rfl ?_ | refine aw_true rfl ?_ | refine aw_false rfl ?_ | refine aw_skip ?_ | refine aw_exit ?_)
  refine ao_e rfl rfl rfl rfl (ef_ix rfl rfl (by omega) hei) ?_
  repeat (first | refine ao_e rfl rfl rfl rfl rfl ?_ | refine ao_eff (v := V.val (Value.bool true)) (ups := []) rfl rfl rfl rfl ?_ | refine ao_eff (v := V.val (Value.bool false)) (ups := []) rfl rfl rfl rfl ?_ | refine aw_seq ?_ | refine aw_region ?_ | refine aw_block ?_ | refine ao_nil ⟨fun h => (Bool.false_ne_true h).elim, ?_⟩ | refine ao_nil ⟨fun _ => ⟨by kernel_rfl, by kernel_rfl⟩, ?_⟩ | refine ao_skip rfl rfl rfl ?_ | refine aw_true rfl ?_ | refine aw_false rfl ?_ | refine aw_skip ?_ | refine aw_exit ?_)
  refine ao_str rfl rfl rfl rfl (fun hb => absurd hb hne) (fun hb => ?_)
  repeat (first | refine ao_e rfl rfl rfl rfl rfl ?_ | refine ao_eff (v := V.val (Value.bool true)) (ups := []) rfl rfl rfl rfl ?_ | refine ao_eff (v := V.val (Value.bool false)) (ups := []) rfl rfl rfl rfl ?_ | refine aw_seq ?_ | refine aw_region ?_ | refine aw_block ?_ | refine ao_nil ⟨fun h => (Bool.false_ne_true h).elim, ?_⟩ | refine ao_nil ⟨fun _ => ⟨by kernel_rfl, by kernel_rfl⟩, ?_⟩ | refine ao_skip rfl rfl rfl ?_ | refine aw_true rfl ?_ | refine aw_false rfl ?_ | refine aw_skip ?_ | refine aw_exit ?_)
  refine ao_out rfl rfl rfl rfl rfl rfl hC ?_
  repeat (first | refine ao_e rfl rfl rfl rfl rfl ?_ | refine ao_eff (v := V.val (Value.bool true)) (ups := []) rfl rfl rfl rfl ?_ | refine ao_eff (v := V.val (Value.bool false)) (ups := []) rfl rfl rfl rfl ?_ | refine aw_seq ?_ | refine aw_region ?_ | refine aw_block ?_ | refine ao_nil ⟨fun h => (Bool.false_ne_true h).elim, ?_⟩ | refine ao_nil ⟨fun _ => ⟨by kernel_rfl, by kernel_rfl⟩, ?_⟩ | refine ao_skip rfl rfl rfl ?_ | refine aw_true rfl ?_ | refine aw_false rfl ?_ | refine aw_skip ?_ | refine aw_exit ?_)
  refine ao_e rfl rfl rfl rfl (ef_ixn n rfl rfl rfl rfl hn (by rw [List.length_map]; exact Nat.le_refl _)) ?_
  iterate 1 refine ao_e rfl rfl rfl rfl rfl ?_
  refine ao_e rfl rfl rfl rfl (ef_ldoff rfl hei2 rfl) ?_
  refine ao_e rfl rfl rfl rfl (ef_bytes L hB rfl rfl rfl rfl) ?_
  repeat (first | refine ao_e rfl rfl rfl rfl rfl ?_ | refine ao_eff (v := V.val (Value.bool true)) (ups := []) rfl rfl rfl rfl ?_ | refine ao_eff (v := V.val (Value.bool false)) (ups := []) rfl rfl rfl rfl ?_ | refine aw_seq ?_ | refine aw_region ?_ | refine aw_block ?_ | refine ao_nil ⟨fun h => (Bool.false_ne_true h).elim, ?_⟩ | refine ao_nil ⟨fun _ => ⟨by kernel_rfl, by kernel_rfl⟩, ?_⟩ | refine ao_skip rfl rfl rfl ?_ | refine aw_true rfl ?_ | refine aw_false rfl ?_ | refine aw_skip ?_ | refine aw_exit ?_)
  refine ao_is (a : Nat) rfl rfl rfl (ef_rem (by omega)) e1 ?_
  repeat (first | refine ao_e rfl rfl rfl rfl rfl ?_ | refine ao_eff (v := V.val (Value.bool true)) (ups := []) rfl rfl rfl rfl ?_ | refine ao_eff (v := V.val (Value.bool false)) (ups := []) rfl rfl rfl rfl ?_ | refine aw_seq ?_ | refine aw_region ?_ | refine aw_block ?_ | refine ao_nil ⟨fun h => (Bool.false_ne_true h).elim, ?_⟩ | refine ao_nil ⟨fun _ => ⟨by kernel_rfl, by kernel_rfl⟩, ?_⟩ | refine ao_skip rfl rfl rfl ?_ | refine aw_true rfl ?_ | refine aw_false rfl ?_ | refine aw_skip ?_ | refine aw_exit ?_)
  refine ao_e rfl rfl rfl rfl (ef_ixn a rfl rfl rfl rfl hat (by rw [List.length_map]; exact Nat.le_refl _)) ?_
  refine ao_e rfl rfl rfl rfl (ef_ld8 rfl rfl hz rfl rfl) ?_
  iterate 2 refine ao_e rfl rfl rfl rfl rfl ?_
  refine ao_as (vi q) rfl rfl rfl ef_add (congrArg vi e2) ?_
  iterate 1 refine ao_e rfl rfl rfl rfl rfl ?_
  refine ao_as (V.val (.int .u8 y)) rfl rfl rfl ef_add (congrArg (fun x => V.val (Value.int .u8 x)) e3) ?_
  refine ao_e rfl rfl rfl rfl (ef_ixn a rfl rfl rfl rfl hat (by rw [List.length_map]; exact Nat.le_refl _)) ?_
  refine ao_e rfl rfl rfl rfl (ef_st8 rfl hz rfl rfl) ?_
  repeat (first | refine ao_e rfl rfl rfl rfl rfl ?_ | refine ao_eff (v := V.val (Value.bool true)) (ups := []) rfl rfl rfl rfl ?_ | refine ao_eff (v := V.val (Value.bool false)) (ups := []) rfl rfl rfl rfl ?_ | refine aw_seq ?_ | refine aw_region ?_ | refine aw_block ?_ | refine ao_nil ⟨fun h => (Bool.false_ne_true h).elim, ?_⟩ | refine ao_nil ⟨fun _ => ⟨by kernel_rfl, by kernel_rfl⟩, ?_⟩ | refine ao_skip rfl rfl rfl ?_ | refine aw_true rfl ?_ | refine aw_false rfl ?_ | refine aw_skip ?_ | refine aw_exit ?_)
  refine ao_e rfl rfl rfl rfl (ef_str8 (L.set a y) rfl rfl rfl hll.symm rfl rfl rfl) ?_
  refine ao_e rfl rfl rfl rfl (ef_ixn n rfl rfl rfl rfl hn (by rw [List.length_map]; exact Nat.le_refl _)) ?_
  iterate 1 refine ao_e rfl rfl rfl rfl rfl ?_
  refine ao_e rfl rfl rfl rfl (ef_stpart kC l ⟨f0, f1, strOfNums L, false⟩ ⟨f0, f1, strOfNums (L.set a y), false⟩ rfl hk rfl rfl (lb rfl) rfl rfl) ?_
  refine ao_e rfl rfl rfl rfl (ef_ixn n rfl rfl rfl rfl hn (by rw [List.length_map, hl1]; exact Nat.le_refl _)) ?_
  iterate 1 refine ao_e rfl rfl rfl rfl rfl ?_
  refine ao_e rfl rfl rfl rfl (ef_stpart kC (l.set n ⟨f0, f1, strOfNums (L.set a y), false⟩) ⟨f0, f1, strOfNums (L.set a y), false⟩ ⟨f0, f1, strOfNums (L.set a y), true⟩ rfl hk1 rfl rfl (lb rfl) rfl rfl) ?_
  repeat (first | refine ao_e rfl rfl rfl rfl rfl ?_ | refine ao_eff (v := V.val (Value.bool true)) (ups := []) rfl rfl rfl rfl ?_ | refine ao_eff (v := V.val (Value.bool false)) (ups := []) rfl rfl rfl rfl ?_ | refine aw_seq ?_ | refine aw_region ?_ | refine aw_block ?_ | refine ao_nil ⟨fun h => (Bool.false_ne_true h).elim, ?_⟩ | refine ao_nil ⟨fun _ => ⟨by kernel_rfl, by kernel_rfl⟩, ?_⟩ | refine ao_skip rfl rfl rfl ?_ | refine aw_true rfl ?_ | refine aw_false rfl ?_ | refine aw_skip ?_ | refine aw_exit ?_)
  refine aw_canon [.any, .any, .any, .any, .any, .any, .any, .any, .isl 4 (r.map kC), vi 0] [] ⟨.any _, .any _, .any _, .any _, .any _, .any _, .any _, .any _, ren_frz kC r rfl rfl (by rw [← hss]) hrl.symm rfl rfl, .same _ rfl, trivial⟩ trivial (fun h0 => ?_)
  exact aw_ret ⟨.inr rfl, _, _, _, _, _, rfl, rfl, rfl, rfl, rfl, rfl⟩
theorem refHurt (l : List K) (hl : l.length ≤ 1000) (n : Nat) (hn : n < l.length) (at_ by_ : Int) (ha : 0 ≤ at_) (hb : 0 ≤ by_) : AF Try.prog X 34 [.isl 4 (l.map kC), vi n, vi at_, vi by_] (hurtX l n l[n] at_ by_) := by
  have hei : (l.map kC)[Int.toNat (n : Int)]? = some (kC l[n]) := by rw [Int.toNat_natCast, List.getElem?_map, List.getElem?_eq_getElem hn]; rfl
  have hk : l[n]? = some l[n] := List.getElem?_eq_getElem hn
  generalize l[n] = k at *
  obtain ⟨f0, f1, f2, f3⟩ := k
  unfold hurtX
  by_cases h : f3 = true ∨ f2.size = 0
  · rw [if_pos h]
    by_cases h3 : f3 = true
    · subst h3
      exact refHurtT l hl n hn f0 f1 f2 hei at_ by_ ha hb
    · have e3 : f3 = false := by simpa using h3
      have e2 : f2 = ⟨#[]⟩ := empty_eq (h.resolve_left h3)
      subst e3 e2
      exact refHurtE l hl n hn f0 f1 hei at_ by_ ha hb
  · rw [if_neg h]
    have h3 : f3 = false := by
      cases f3 with
      | false => rfl
      | true => exact absurd (.inl rfl) h
    subst h3
    have hB := bytesOf_bytes f2
    have hfe : strOfNums (bytesOf f2) = f2 := str_bytesOf f2
    have hpos : 0 < (bytesOf f2).length := by
      rw [bytesOf_length]
      have : f2.size ≠ 0 := fun e => h (.inr e)
      omega
    have hat : at_.toNat % (bytesOf f2).length < (bytesOf f2).length := Nat.mod_lt _ hpos
    have hz : (bytesOf f2)[at_.toNat % (bytesOf f2).length]? = some ((bytesOf f2).getD (at_.toNat % (bytesOf f2).length) 0) := by rw [List.getD_eq_getElem?_getD, List.getElem?_eq_getElem hat]; rfl
    have hzb := hB _ (List.mem_of_getElem? hz)
    refine refHurtK l hl n hn f0 f1 (bytesOf f2) hB (at_.toNat % (bytesOf f2).length) _ (1 + by_ % 255) (((bytesOf f2).getD (at_.toNat % (bytesOf f2).length) 0 + (1 + by_ % 255)) % 256) hat hz (by rw [hfe]; exact hk) at_ by_ ha hb ?_ ?_ ?_ _ rfl
    · rw [Int.tmod_eq_emod_of_nonneg ha, Int.natCast_emod, Int.toNat_of_nonneg ha]
    · rw [Int.tmod_eq_emod_of_nonneg hb, wr64, w64 (by omega) (by omega)]
    · rw [wr8, wr8]
      omega
end Go.Ai
