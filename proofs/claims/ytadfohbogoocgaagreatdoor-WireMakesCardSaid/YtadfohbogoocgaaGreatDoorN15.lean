/- A part of the proof: what the program does, step by step, over values without addresses. No conditions of mine. -/
import Derived.Test.YtadfohbogoocgaaGreatDoorRunN41toN14
import Derived.Test.YtadfohbogoocgaaGreatDoorCoreAiHtoAiSk
set_option linter.unusedVariables false
set_option linter.unusedSimpArgs false
namespace Go.Ai
open Go Go.RowKit Go.Proofs Go.Sp
set_option maxRecDepth 10000
set_option maxHeartbeats 8000000
set_option linter.unusedVariables false
set_option linter.unusedSimpArgs false
def loopC : Code → Code
  | .seq (.seq _ (.block _ (.loop c))) _ => c
  | c => c
theorem ref4r1 (o : O) (e : E) (i : Nat) (h0 : Nat → Option Blk) (hn : o.f5.length < 4611686018427387904) (hlt : i < o.f5.length) (hei : (o.f5.map eC)[Int.toNat (i : Int)]? = some (eC e)) (hz : zeroE e = true) : AW Tryz.prog XX 176 (loopC (sk 6 (bodyOf Tryz.f54))) ⟨L [.agg (oC o), .ptr (newId (siteOf 0 0) 0) 0 0 0, .any, .any, .any, vi i], HH (odds h0) [(newId (siteOf 0 0) 0, ⟨0, 11, true, true, [oC o]⟩)]⟩ (fun x σ' => x = .ret ∧ σ'.s 2 = vo false) := by
  have hw : IntKind.i64.wrap ((i : Int) - 1) = (i : Int) - 1 := by rw [wr64, w64 (by omega) (by omega)]
  have hB := refBegin (X := XX) e
  rw [hz] at hB
  repeat' (first | refine ao_e rfl rfl rfl rfl rfl ?_ | refine ao_eff (v := V.val (Value.bool true)) (ups := []) rfl rfl rfl rfl ?_ | refine ao_eff (v := V.val (Value.bool false)) (ups := []) rfl rfl rfl rfl ?_ | refine aw_seq ?_ | refine aw_region ?_ | refine aw_block ?_ | refine ao_nil ⟨fun h => (Bool.false_ne_true h).elim, ?_⟩ | refine ao_nil ⟨fun _ => ⟨by kernel_rfl, by kernel_rfl⟩, ?_⟩ | refine ao_skip rfl rfl rfl ?_ | refine aw_true rfl ?_ | refine aw_false rfl ?_ | refine aw_skip ?_ | refine aw_exit ?_ | refine ao_e rfl rfl rfl rfl (ef_ix rfl rfl (by omega) hei) ?_ | refine ao_fun rfl rfl rfl rfl rfl rfl (hB) ?_ | refine ao_funs rfl rfl rfl rfl rfl rfl (hB) rfl ?_ | refine ao_yes rfl rfl rfl rfl ((by rw [List.length_map]; omega : (i : Int) < ((o.f5.map eC).length : Nat))) ?_ | refine ao_dec rfl rfl rfl (eqE _ _ _ _ _ _).1 (fun hb => ?_) (fun hb => ?_) | refine ao_ndec rfl rfl rfl (eqE _ _ _ _ _ _).2 (fun hb => ?_) (fun hb => ?_) | refine ao_dec rfl rfl rfl rfl (fun hb => ?_) (fun hb => ?_) | refine ao_ndec rfl rfl rfl rfl (fun hb => ?_) (fun hb => ?_) | refine ao_str rfl rfl rfl rfl (fun hb => ?_) (fun hb => ?_) | refine ao_nstr rfl rfl rfl rfl (fun hb => ?_) (fun hb => ?_) | refine ao_bool rfl rfl rfl rfl (fun hb => ?_) (fun hb => ?_))
  exact aw_ret ⟨rfl, rfl⟩
theorem ref4r2 (o : O) (e : E) (i : Nat) (h0 : Nat → Option Blk) (hn : o.f5.length < 4611686018427387904) (hlt : i < o.f5.length) (hei : (o.f5.map eC)[Int.toNat (i : Int)]? = some (eC e)) (hz : zeroE e = false) (he : elemB e = false) : AW Tryz.prog XX 176 (loopC (sk 6 (bodyOf Tryz.f54))) ⟨L [.agg (oC o), .ptr (newId (siteOf 0 0) 0) 0 0 0, .any, .any, .any, vi i], HH (odds h0) [(newId (siteOf 0 0) 0, ⟨0, 11, true, true, [oC o]⟩)]⟩ (fun x σ' => x = .ret ∧ σ'.s 2 = vo false) := by
  have hw : IntKind.i64.wrap ((i : Int) - 1) = (i : Int) - 1 := by rw [wr64, w64 (by omega) (by omega)]
  have hB := refBegin (X := XX) e
  rw [hz] at hB
  have hM := refElemB (X := XX) e
  rw [he] at hM
  repeat' (first | refine ao_e rfl rfl rfl rfl rfl ?_ | refine ao_eff (v := V.val (Value.bool true)) (ups := []) rfl rfl rfl rfl ?_ | refine ao_eff (v := V.val (Value.bool false)) (ups := []) rfl rfl rfl rfl ?_ | refine aw_seq ?_ | refine aw_region ?_ | refine aw_block ?_ | refine ao_nil ⟨fun h => (Bool.false_ne_true h).elim, ?_⟩ | refine ao_nil ⟨fun _ => ⟨by kernel_rfl, by kernel_rfl⟩, ?_⟩ | refine ao_skip rfl rfl rfl ?_ | refine aw_true rfl ?_ | refine aw_false rfl ?_ | refine aw_skip ?_ | refine aw_exit ?_ | refine ao_e rfl rfl rfl rfl (ef_ix rfl rfl (by omega) hei) ?_ | refine ao_fun rfl rfl rfl rfl rfl rfl (hB) ?_ | refine ao_funs rfl rfl rfl rfl rfl rfl (hB) rfl ?_ | refine ao_fun rfl rfl rfl rfl rfl rfl (hM) ?_ | refine ao_funs rfl rfl rfl rfl rfl rfl (hM) rfl ?_ | refine ao_yes rfl rfl rfl rfl ((by rw [List.length_map]; omega : (i : Int) < ((o.f5.map eC).length : Nat))) ?_ | refine ao_dec rfl rfl rfl (eqE _ _ _ _ _ _).1 (fun hb => ?_) (fun hb => ?_) | refine ao_ndec rfl rfl rfl (eqE _ _ _ _ _ _).2 (fun hb => ?_) (fun hb => ?_) | refine ao_dec rfl rfl rfl rfl (fun hb => ?_) (fun hb => ?_) | refine ao_ndec rfl rfl rfl rfl (fun hb => ?_) (fun hb => ?_) | refine ao_str rfl rfl rfl rfl (fun hb => ?_) (fun hb => ?_) | refine ao_nstr rfl rfl rfl rfl (fun hb => ?_) (fun hb => ?_) | refine ao_bool rfl rfl rfl rfl (fun hb => ?_) (fun hb => ?_))
  exact aw_ret ⟨rfl, rfl⟩
theorem ref4r3 (o : O) (e : E) (i : Nat) (h0 : Nat → Option Blk) (hn : o.f5.length < 4611686018427387904) (hlt : i < o.f5.length) (hei : (o.f5.map eC)[Int.toNat (i : Int)]? = some (eC e)) (hz : zeroE e = false) (he : elemB e = true) (ho : ownB o e = true) : AW Tryz.prog XX 176 (loopC (sk 6 (bodyOf Tryz.f54))) ⟨L [.agg (oC o), .ptr (newId (siteOf 0 0) 0) 0 0 0, .any, .any, .any, vi i], HH (odds h0) [(newId (siteOf 0 0) 0, ⟨0, 11, true, true, [oC o]⟩)]⟩ (fun x σ' => x = .ret ∧ σ'.s 2 = vo false) := by
  have hw : IntKind.i64.wrap ((i : Int) - 1) = (i : Int) - 1 := by rw [wr64, w64 (by omega) (by omega)]
  have hB := refBegin (X := XX) e
  rw [hz] at hB
  have hM := refElemB (X := XX) e
  rw [he] at hM
  have hO := refOwn (X := XX) o e
  rw [ho] at hO
  repeat' (first | refine ao_e rfl rfl rfl rfl rfl ?_ | refine ao_eff (v := V.val (Value.bool true)) (ups := []) rfl rfl rfl rfl ?_ | refine ao_eff (v := V.val (Value.bool false)) (ups := []) rfl rfl rfl rfl ?_ | refine aw_seq ?_ | refine aw_region ?_ | refine aw_block ?_ | refine ao_nil ⟨fun h => (Bool.false_ne_true h).elim, ?_⟩ | refine ao_nil ⟨fun _ => ⟨by kernel_rfl, by kernel_rfl⟩, ?_⟩ | refine ao_skip rfl rfl rfl ?_ | refine aw_true rfl ?_ | refine aw_false rfl ?_ | refine aw_skip ?_ | refine aw_exit ?_ | refine ao_e rfl rfl rfl rfl (ef_ix rfl rfl (by omega) hei) ?_ | refine ao_fun rfl rfl rfl rfl rfl rfl (hB) ?_ | refine ao_funs rfl rfl rfl rfl rfl rfl (hB) rfl ?_ | refine ao_fun rfl rfl rfl rfl rfl rfl (hM) ?_ | refine ao_funs rfl rfl rfl rfl rfl rfl (hM) rfl ?_ | refine ao_fun rfl rfl rfl rfl rfl rfl (hO) ?_ | refine ao_funs rfl rfl rfl rfl rfl rfl (hO) rfl ?_ | refine ao_yes rfl rfl rfl rfl ((by rw [List.length_map]; omega : (i : Int) < ((o.f5.map eC).length : Nat))) ?_ | refine ao_dec rfl rfl rfl (eqE _ _ _ _ _ _).1 (fun hb => ?_) (fun hb => ?_) | refine ao_ndec rfl rfl rfl (eqE _ _ _ _ _ _).2 (fun hb => ?_) (fun hb => ?_) | refine ao_dec rfl rfl rfl rfl (fun hb => ?_) (fun hb => ?_) | refine ao_ndec rfl rfl rfl rfl (fun hb => ?_) (fun hb => ?_) | refine ao_str rfl rfl rfl rfl (fun hb => ?_) (fun hb => ?_) | refine ao_nstr rfl rfl rfl rfl (fun hb => ?_) (fun hb => ?_) | refine ao_bool rfl rfl rfl rfl (fun hb => ?_) (fun hb => ?_))
  exact aw_ret ⟨rfl, rfl⟩
theorem ref4r4 (o : O) (e : E) (i : Nat) (h0 : Nat → Option Blk) (hn : o.f5.length < 4611686018427387904) (hlt : i < o.f5.length) (hei : (o.f5.map eC)[Int.toNat (i : Int)]? = some (eC e)) (p : E) (hpos : 0 < i) (hep0 : (o.f5.map eC)[Int.toNat ((i : Int) - 1)]? = some (eC p)) (hz : zeroE e = false) (he : elemB e = true) (ho : ownB o e = false) (hl : lessB p e = false) : AW Tryz.prog XX 176 (loopC (sk 6 (bodyOf Tryz.f54))) ⟨L [.agg (oC o), .ptr (newId (siteOf 0 0) 0) 0 0 0, .any, .any, .any, vi i], HH (odds h0) [(newId (siteOf 0 0) 0, ⟨0, 11, true, true, [oC o]⟩)]⟩ (fun x σ' => x = .ret ∧ σ'.s 2 = vo false) := by
  have hw : IntKind.i64.wrap ((i : Int) - 1) = (i : Int) - 1 := by rw [wr64, w64 (by omega) (by omega)]
  have hep : 0 < i → (o.f5.map eC)[Int.toNat (IntKind.i64.wrap ((i : Int) - 1))]? = some (eC p) := fun _ => by rw [hw]; exact hep0
  have hB := refBegin (X := XX) e
  rw [hz] at hB
  have hM := refElemB (X := XX) e
  rw [he] at hM
  have hO := refOwn (X := XX) o e
  rw [ho] at hO
  have hL := refLess (X := XX) p e
  rw [hl] at hL
  repeat' (first | refine ao_e rfl rfl rfl rfl rfl ?_ | refine ao_eff (v := V.val (Value.bool true)) (ups := []) rfl rfl rfl rfl ?_ | refine ao_eff (v := V.val (Value.bool false)) (ups := []) rfl rfl rfl rfl ?_ | refine aw_seq ?_ | refine aw_region ?_ | refine aw_block ?_ | refine ao_nil ⟨fun h => (Bool.false_ne_true h).elim, ?_⟩ | refine ao_nil ⟨fun _ => ⟨by kernel_rfl, by kernel_rfl⟩, ?_⟩ | refine ao_skip rfl rfl rfl ?_ | refine aw_true rfl ?_ | refine aw_false rfl ?_ | refine aw_skip ?_ | refine aw_exit ?_ | refine ao_e rfl rfl rfl rfl (ef_ix rfl rfl (by omega) hei) ?_ | refine ao_fun rfl rfl rfl rfl rfl rfl (hB) ?_ | refine ao_funs rfl rfl rfl rfl rfl rfl (hB) rfl ?_ | refine ao_fun rfl rfl rfl rfl rfl rfl (hM) ?_ | refine ao_funs rfl rfl rfl rfl rfl rfl (hM) rfl ?_ | refine ao_fun rfl rfl rfl rfl rfl rfl (hO) ?_ | refine ao_funs rfl rfl rfl rfl rfl rfl (hO) rfl ?_ | refine ao_fun rfl rfl rfl rfl rfl rfl (hL) ?_ | refine ao_funs rfl rfl rfl rfl rfl rfl (hL) rfl ?_ | refine ao_yes rfl rfl rfl rfl ((by rw [List.length_map]; omega : (i : Int) < ((o.f5.map eC).length : Nat))) ?_ | refine ao_e rfl rfl rfl rfl (ef_ix rfl rfl (by rw [hw]; omega) (hep hpos)) ?_ | refine ao_yes rfl rfl rfl rfl ((by omega : (i : Int) > 0)) ?_ | refine ao_dec rfl rfl rfl (eqE _ _ _ _ _ _).1 (fun hb => ?_) (fun hb => ?_) | refine ao_ndec rfl rfl rfl (eqE _ _ _ _ _ _).2 (fun hb => ?_) (fun hb => ?_) | refine ao_dec rfl rfl rfl rfl (fun hb => ?_) (fun hb => ?_) | refine ao_ndec rfl rfl rfl rfl (fun hb => ?_) (fun hb => ?_) | refine ao_str rfl rfl rfl rfl (fun hb => ?_) (fun hb => ?_) | refine ao_nstr rfl rfl rfl rfl (fun hb => ?_) (fun hb => ?_) | refine ao_bool rfl rfl rfl rfl (fun hb => ?_) (fun hb => ?_))
  exact aw_ret ⟨rfl, rfl⟩
theorem ref4r5 (o : O) (e : E) (i : Nat) (h0 : Nat → Option Blk) (hn : o.f5.length < 4611686018427387904) (hlt : i < o.f5.length) (hei : (o.f5.map eC)[Int.toNat (i : Int)]? = some (eC e)) (p : E) (hpos : 0 < i) (hep0 : (o.f5.map eC)[Int.toNat ((i : Int) - 1)]? = some (eC p)) (hz : zeroE e = false) (he : elemB e = true) (ho : ownB o e = false) (hl : lessB p e = true) : AW Tryz.prog XX 176 (loopC (sk 6 (bodyOf Tryz.f54))) ⟨L [.agg (oC o), .ptr (newId (siteOf 0 0) 0) 0 0 0, .any, .any, .any, vi i], HH (odds h0) [(newId (siteOf 0 0) 0, ⟨0, 11, true, true, [oC o]⟩)]⟩ (fun x σ' => x = .normal ∧ renL σ'.h [(newId (siteOf 0 0) 0, ⟨0, 11, true, true, [oC o]⟩)] [.agg (oC o), .ptr (newId (siteOf 0 0) 0) 0 0 0, .any, .any, .any, vi (i + 1 : Nat)] σ'.s 0 ∧ renH σ'.h [(newId (siteOf 0 0) 0, ⟨0, 11, true, true, [oC o]⟩)] [(newId (siteOf 0 0) 0, ⟨0, 11, true, true, [oC o]⟩)]) := by
  have hw : IntKind.i64.wrap ((i : Int) - 1) = (i : Int) - 1 := by rw [wr64, w64 (by omega) (by omega)]
  have hep : 0 < i → (o.f5.map eC)[Int.toNat (IntKind.i64.wrap ((i : Int) - 1))]? = some (eC p) := fun _ => by rw [hw]; exact hep0
  have hB := refBegin (X := XX) e
  rw [hz] at hB
  have hM := refElemB (X := XX) e
  rw [he] at hM
  have hO := refOwn (X := XX) o e
  rw [ho] at hO
  have hL := refLess (X := XX) p e
  rw [hl] at hL
  repeat' (first | refine ao_e rfl rfl rfl rfl rfl ?_ | refine ao_eff (v := V.val (Value.bool true)) (ups := []) rfl rfl rfl rfl ?_ | refine ao_eff (v := V.val (Value.bool false)) (ups := []) rfl rfl rfl rfl ?_ | refine aw_seq ?_ | refine aw_region ?_ | refine aw_block ?_ | refine ao_nil ⟨fun h => (Bool.false_ne_true h).elim, ?_⟩ | refine ao_nil ⟨fun _ => ⟨by kernel_rfl, by kernel_rfl⟩, ?_⟩ | refine ao_skip rfl rfl rfl ?_ | refine aw_true rfl ?_ | refine aw_false rfl ?_ | refine aw_skip ?_ | refine aw_exit ?_ | refine ao_e rfl rfl rfl rfl (ef_ix rfl rfl (by omega) hei) ?_ | refine ao_fun rfl rfl rfl rfl rfl rfl (hB) ?_ | refine ao_funs rfl rfl rfl rfl rfl rfl (hB) rfl ?_ | refine ao_fun rfl rfl rfl rfl rfl rfl (hM) ?_ | refine ao_funs rfl rfl rfl rfl rfl rfl (hM) rfl ?_ | refine ao_fun rfl rfl rfl rfl rfl rfl (hO) ?_ | refine ao_funs rfl rfl rfl rfl rfl rfl (hO) rfl ?_ | refine ao_fun rfl rfl rfl rfl rfl rfl (hL) ?_ | refine ao_funs rfl rfl rfl rfl rfl rfl (hL) rfl ?_ | refine ao_yes rfl rfl rfl rfl ((by rw [List.length_map]; omega : (i : Int) < ((o.f5.map eC).length : Nat))) ?_ | refine ao_e rfl rfl rfl rfl (ef_ix rfl rfl (by rw [hw]; omega) (hep hpos)) ?_ | refine ao_yes rfl rfl rfl rfl ((by omega : (i : Int) > 0)) ?_ | refine ao_dec rfl rfl rfl (eqE _ _ _ _ _ _).1 (fun hb => ?_) (fun hb => ?_) | refine ao_ndec rfl rfl rfl (eqE _ _ _ _ _ _).2 (fun hb => ?_) (fun hb => ?_) | refine ao_dec rfl rfl rfl rfl (fun hb => ?_) (fun hb => ?_) | refine ao_ndec rfl rfl rfl rfl (fun hb => ?_) (fun hb => ?_) | refine ao_str rfl rfl rfl rfl (fun hb => ?_) (fun hb => ?_) | refine ao_nstr rfl rfl rfl rfl (fun hb => ?_) (fun hb => ?_) | refine ao_bool rfl rfl rfl rfl (fun hb => ?_) (fun hb => ?_))
  exact ⟨rfl, ⟨.same _ rfl, .ptr _ _ _ _ _ _ _ rfl rfl rfl rfl, .any _, .any _, .any _, rsucc i (by omega), trivial⟩, ⟨renB_cl rfl rfl rfl rfl rfl rfl, trivial⟩⟩
theorem ref4r6 (o : O) (e : E) (i : Nat) (h0 : Nat → Option Blk) (hn : o.f5.length < 4611686018427387904) (hlt : i < o.f5.length) (hei : (o.f5.map eC)[Int.toNat (i : Int)]? = some (eC e)) (hz : zeroE e = false) (he : elemB e = true) (ho : ownB o e = false) (hpos : ¬ 0 < i) : AW Tryz.prog XX 176 (loopC (sk 6 (bodyOf Tryz.f54))) ⟨L [.agg (oC o), .ptr (newId (siteOf 0 0) 0) 0 0 0, .any, .any, .any, vi i], HH (odds h0) [(newId (siteOf 0 0) 0, ⟨0, 11, true, true, [oC o]⟩)]⟩ (fun x σ' => x = .normal ∧ renL σ'.h [(newId (siteOf 0 0) 0, ⟨0, 11, true, true, [oC o]⟩)] [.agg (oC o), .ptr (newId (siteOf 0 0) 0) 0 0 0, .any, .any, .any, vi (i + 1 : Nat)] σ'.s 0 ∧ renH σ'.h [(newId (siteOf 0 0) 0, ⟨0, 11, true, true, [oC o]⟩)] [(newId (siteOf 0 0) 0, ⟨0, 11, true, true, [oC o]⟩)]) := by
  have hw : IntKind.i64.wrap ((i : Int) - 1) = (i : Int) - 1 := by rw [wr64, w64 (by omega) (by omega)]
  have hB := refBegin (X := XX) e
  rw [hz] at hB
  have hM := refElemB (X := XX) e
  rw [he] at hM
  have hO := refOwn (X := XX) o e
  rw [ho] at hO
  repeat' (first | refine ao_e rfl rfl rfl rfl rfl ?_ | refine ao_eff (v := V.val (Value.bool true)) (ups := []) rfl rfl rfl rfl ?_ | refine ao_eff (v := V.val (Value.bool false)) (ups := []) rfl rfl rfl rfl ?_ | refine aw_seq ?_ | refine aw_region ?_ | refine aw_block ?_ | refine ao_nil ⟨fun h => (Bool.false_ne_true h).elim, ?_⟩ | refine ao_nil ⟨fun _ => ⟨by kernel_rfl, by kernel_rfl⟩, ?_⟩ | refine ao_skip rfl rfl rfl ?_ | refine aw_true rfl ?_ | refine aw_false rfl ?_ | refine aw_skip ?_ | refine aw_exit ?_ | refine ao_e rfl rfl rfl rfl (ef_ix rfl rfl (by omega) hei) ?_ | refine ao_fun rfl rfl rfl rfl rfl rfl (hB) ?_ | refine ao_funs rfl rfl rfl rfl rfl rfl (hB) rfl ?_ | refine ao_fun rfl rfl rfl rfl rfl rfl (hM) ?_ | refine ao_funs rfl rfl rfl rfl rfl rfl (hM) rfl ?_ | refine ao_fun rfl rfl rfl rfl rfl rfl (hO) ?_ | refine ao_funs rfl rfl rfl rfl rfl rfl (hO) rfl ?_ | refine ao_yes rfl rfl rfl rfl ((by rw [List.length_map]; omega : (i : Int) < ((o.f5.map eC).length : Nat))) ?_ | refine ao_no rfl rfl rfl rfl ((by omega : ¬ (i : Int) > 0)) ?_ | refine ao_dec rfl rfl rfl (eqE _ _ _ _ _ _).1 (fun hb => ?_) (fun hb => ?_) | refine ao_ndec rfl rfl rfl (eqE _ _ _ _ _ _).2 (fun hb => ?_) (fun hb => ?_) | refine ao_dec rfl rfl rfl rfl (fun hb => ?_) (fun hb => ?_) | refine ao_ndec rfl rfl rfl rfl (fun hb => ?_) (fun hb => ?_) | refine ao_str rfl rfl rfl rfl (fun hb => ?_) (fun hb => ?_) | refine ao_nstr rfl rfl rfl rfl (fun hb => ?_) (fun hb => ?_) | refine ao_bool rfl rfl rfl rfl (fun hb => ?_) (fun hb => ?_))
  exact ⟨rfl, ⟨.same _ rfl, .ptr _ _ _ _ _ _ _ rfl rfl rfl rfl, .any _, .any _, .any _, rsucc i (by omega), trivial⟩, ⟨renB_cl rfl rfl rfl rfl rfl rfl, trivial⟩⟩
theorem ret_b {P : Program} {fn : Func} {σ : St} {t : Tmp} {v : Value} (hr : fn.results = #[.tmp t]) (hs : σ.s t = .val v) : retQ P fn 0 (.val v) [] [] .ret σ := by
  refine ⟨.inr rfl, [.val v], [.val v], [], [], [], ?_, rfl, rfl, rfl, rfl, rfl⟩
  rw [hr]
  simp [resL, hs]
theorem ref4Loop (o : O) (hn : o.f5.length < 4611686018427387904) (hE : mayB o = goneFrom o none o.f5) (h0 : Nat → Option Blk) : AW Tryz.prog XX 176 (sk 6 (bodyOf Tryz.f54)) ⟨L [.agg (oC o), .ptr (newId (siteOf 0 0) 0) 0 0 0], HH (odds h0) [(newId (siteOf 0 0) 0, ⟨0, 11, true, true, [oC o]⟩)]⟩ (retQ Tryz.prog Tryz.f54 0 (vo (mayB o)) [] []) := by
  repeat (first | refine ao_e rfl rfl rfl rfl rfl ?_ | refine ao_eff (v := V.val (Value.bool true)) (ups := []) rfl rfl rfl rfl ?_ | refine ao_eff (v := V.val (Value.bool false)) (ups := []) rfl rfl rfl rfl ?_ | refine aw_seq ?_ | refine aw_region ?_ | refine aw_block ?_ | refine ao_nil ⟨fun h => (Bool.false_ne_true h).elim, ?_⟩ | refine ao_nil ⟨fun _ => ⟨by kernel_rfl, by kernel_rfl⟩, ?_⟩ | refine ao_skip rfl rfl rfl ?_ | refine aw_true rfl ?_ | refine aw_false rfl ?_ | refine aw_skip ?_ | refine aw_exit ?_)
  refine aw_rounds (T := Nat) (fun i => i ≤ o.f5.length ∧ goneFrom o (pv o.f5 i) (o.f5.drop i) = goneFrom o none o.f5) (fun i => [.agg (oC o), .ptr (newId (siteOf 0 0) 0) 0 0 0, .any, .any, .any, vi i]) (fun _ => [(newId (siteOf 0 0) 0, ⟨0, 11, true, true, [oC o]⟩)]) (fun i => o.f5.length - i) 0 ⟨Nat.zero_le _, rfl⟩ ?_ ?_ ?_
  · exact ⟨.same _ rfl, .ptr _ _ _ _ _ _ _ rfl rfl rfl rfl, .any _, .any _, .any _, .same _ rfl, trivial⟩
  · exact ⟨renB_cl rfl rfl rfl rfl rfl rfl, trivial⟩
  rintro i h0 ⟨hi, hI⟩
  by_cases hlt : i < o.f5.length
  · have hd : o.f5.drop i = o.f5[i] :: o.f5.drop (i + 1) := List.drop_eq_getElem_cons hlt
    have hei : (o.f5.map eC)[Int.toNat (i : Int)]? = some (eC o.f5[i]) := by rw [Int.toNat_natCast, List.getElem?_map, List.getElem?_eq_getElem hlt]; rfl
    have hpv : pv o.f5 (i + 1) = some o.f5[i] := by show o.f5[i]? = _; rw [List.getElem?_eq_getElem hlt]
    rw [hd] at hI
    simp only [goneFrom] at hI
    generalize o.f5[i] = e at *
    have bad : ∀ {c : Bool}, c = false → (c && goneFrom o (some e) (o.f5.drop (i + 1))) = goneFrom o none o.f5 → mayB o = false := fun hc h => by rw [hE, ← h, hc]; rfl
    have stop : ∀ {c : Code} {σ : St} {Q2 : Ex → St → Prop}, (∀ σ', Q2 .ret σ' = retQ Tryz.prog Tryz.f54 0 (vo (mayB o)) [] [] .ret σ') → mayB o = false → AW Tryz.prog XX 176 c σ (fun x σ' => x = .ret ∧ σ'.s 2 = vo false) → AW Tryz.prog XX 176 c σ Q2 := fun hq hm h => aw_mono h (by
      rintro x σ' ⟨rfl, hs⟩
      rw [hq, hm]
      exact ret_b rfl hs)
    cases hz : zeroE e with
    | true => exact stop (fun _ => rfl) (bad (by rw [hz]; rfl) hI) (ref4r1 o e i h0 hn hlt hei hz)
    | false =>
      cases he : elemB e with
      | false => exact stop (fun _ => rfl) (bad (by rw [he, hz]; rfl) hI) (ref4r2 o e i h0 hn hlt hei hz he)
      | true =>
        cases ho : ownB o e with
        | true => exact stop (fun _ => rfl) (bad (by rw [he, hz, ho]; rfl) hI) (ref4r3 o e i h0 hn hlt hei hz he ho)
        | false =>
          by_cases hpos : 0 < i
          · have hpp : pv o.f5 i = some (o.f5[i - 1]'(by omega)) := by
              cases i with
              | zero => omega
              | succ j => show o.f5[j]? = _; rw [List.getElem?_eq_getElem (by omega)]; rfl
            have hep0 : (o.f5.map eC)[Int.toNat ((i : Int) - 1)]? = some (eC (o.f5[i - 1]'(by omega))) := by
              rw [show Int.toNat ((i : Int) - 1) = i - 1 by omega, List.getElem?_map, List.getElem?_eq_getElem (by omega)]; rfl
            rw [hpp] at hI
            generalize o.f5[i - 1]'(by omega) = p at *
            cases hl : lessB p e with
            | false => exact stop (fun _ => rfl) (bad (by rw [he, hz, ho]; simp [hl]) hI) (ref4r4 o e i h0 hn hlt hei p hpos hep0 hz he ho hl)
            | true =>
              refine aw_mono (ref4r5 o e i h0 hn hlt hei p hpos hep0 hz he ho hl) ?_
              rintro x σ' ⟨rfl, h1, h2⟩
              refine ⟨i + 1, ⟨hlt, ?_⟩, by omega, h1, h2⟩
              rw [hpv, ← hI, he, hz, ho]
              simp [hl]
          · have hpp : pv o.f5 i = none := by
              have : i = 0 := by omega
              subst this; rfl
            rw [hpp] at hI
            refine aw_mono (ref4r6 o e i h0 hn hlt hei hz he ho hpos) ?_
            rintro x σ' ⟨rfl, h1, h2⟩
            refine ⟨i + 1, ⟨hlt, ?_⟩, by omega, h1, h2⟩
            rw [hpv, ← hI, he, hz, ho]
            rfl
  · repeat' (first | refine ao_e rfl rfl rfl rfl rfl ?_ | refine ao_eff (v := V.val (Value.bool true)) (ups := []) rfl rfl rfl rfl ?_ | refine ao_eff (v := V.val (Value.bool false)) (ups := []) rfl rfl rfl rfl ?_ | refine aw_seq ?_ | refine aw_region ?_ | refine aw_block ?_ | refine ao_nil ⟨fun h => (Bool.false_ne_true h).elim, ?_⟩ | refine ao_nil ⟨fun _ => ⟨by kernel_rfl, by kernel_rfl⟩, ?_⟩ | refine ao_skip rfl rfl rfl ?_ | refine aw_true rfl ?_ | refine aw_false rfl ?_ | refine aw_skip ?_ | refine aw_exit ?_ | refine ao_no rfl rfl rfl rfl ((by rw [List.length_map]; omega : ¬ (i : Int) < ((o.f5.map eC).length : Nat))) ?_ | refine ao_dec rfl rfl rfl (eqE _ _ _ _ _ _).1 (fun hb => ?_) (fun hb => ?_) | refine ao_ndec rfl rfl rfl (eqE _ _ _ _ _ _).2 (fun hb => ?_) (fun hb => ?_) | refine ao_dec rfl rfl rfl rfl (fun hb => ?_) (fun hb => ?_) | refine ao_ndec rfl rfl rfl rfl (fun hb => ?_) (fun hb => ?_) | refine ao_str rfl rfl rfl rfl (fun hb => ?_) (fun hb => ?_) | refine ao_nstr rfl rfl rfl rfl (fun hb => ?_) (fun hb => ?_) | refine ao_bool rfl rfl rfl rfl (fun hb => ?_) (fun hb => ?_) | refine aw_ret ⟨.inr rfl, _, _, _, _, _, rfl, rfl, rfl, rfl, ?_, rfl⟩)
    all_goals first
      | (refine congrArg (fun b => V.val (Value.bool b)) ?_
         rw [List.drop_eq_nil_of_le (by omega)] at hI
         rw [hE, ← hI]
         simp [goneFrom]; done)
theorem ref4Op (o : O) (hs : o.f4.size ≤ 100000) (hn : o.f5.length < 4611686018427387904) : AF Tryz.prog XX 54 [.agg (oC o)] (vo (mayB o)) := by
  have hR := refRunes o.f4 hs
  have ht := textB_may o.f4
  have hcn := runesOf_count o.f4
  have hcz := count_zero o.f4
  have hez : (runesOf o.f4).length = 0 → o.f4 = ⟨#[]⟩ := fun h => empty_eq (hcz.1 (by omega))
  have hze : o.f4 = ⟨#[]⟩ → (runesOf o.f4).length = 0 := fun h => by rw [hcn]; exact hcz.2 (by rw [h]; rfl)
  refine ac_mk (by kernel_rfl) Tryz.func54 rfl (lb rfl) rfl rfl ?_
  unfold runesV at hR
  by_cases h2 : o.f2 = 2
  · as_aux_lemma =>
    repeat' (first | refine ao_e rfl rfl rfl rfl rfl ?_ | refine ao_eff (v := V.val (Value.bool true)) (ups := []) rfl rfl rfl rfl ?_ | refine ao_eff (v := V.val (Value.bool false)) (ups := []) rfl rfl rfl rfl ?_ | refine aw_seq ?_ | refine aw_region ?_ | refine aw_block ?_ | refine ao_nil ⟨fun h => (Bool.false_ne_true h).elim, ?_⟩ | refine ao_nil ⟨fun _ => ⟨by kernel_rfl, by kernel_rfl⟩, ?_⟩ | refine ao_skip rfl rfl rfl ?_ | refine aw_true rfl ?_ | refine aw_false rfl ?_ | refine aw_skip ?_ | refine aw_exit ?_ | refine ao_funb rfl rfl rfl rfl rfl rfl (refName _ _) (fun hb => ?_) (fun hb => ?_) | refine ao_funb rfl rfl rfl rfl rfl rfl (refNum _ _) (fun hb => ?_) (fun hb => ?_) | refine ao_funb rfl rfl rfl rfl rfl rfl (refBegin o.f3) (fun hb => ?_) (fun hb => ?_) | refine ao_yes rfl rfl rfl rfl (h2) ?_ | refine ao_dec rfl rfl rfl (eqE _ _ _ _ _ _).1 (fun hb => ?_) (fun hb => ?_) | refine ao_ndec rfl rfl rfl (eqE _ _ _ _ _ _).2 (fun hb => ?_) (fun hb => ?_) | refine ao_dec rfl rfl rfl rfl (fun hb => ?_) (fun hb => ?_) | refine ao_ndec rfl rfl rfl rfl (fun hb => ?_) (fun hb => ?_) | refine ao_str rfl rfl rfl rfl (fun hb => ?_) (fun hb => ?_) | refine ao_nstr rfl rfl rfl rfl (fun hb => ?_) (fun hb => ?_) | refine ao_bool rfl rfl rfl rfl (fun hb => ?_) (fun hb => ?_) | refine aw_ret ⟨.inr rfl, _, _, _, _, _, rfl, rfl, rfl, rfl, ?_, rfl⟩)
    all_goals refine congrArg (fun b => V.val (Value.bool b)) ?_
    all_goals try simp only [List.length_map, decide_eq_true_eq, decide_eq_false_iff_not] at *
    all_goals first | (simp [mayB, toggleB, emptyB_eq, *]; done) | (simp [mayB, toggleB, emptyB_eq, *]; omega) | (simp only [mayB, toggleB, emptyB_eq]; grind)
  · by_cases hm : May o.f4
    · rw [if_pos hm] at hR
      as_aux_lemma =>
      repeat' (first | refine aw_hand _ _ (ref4Loop o hn ?_) ?_ ?_ | refine ao_e rfl rfl rfl rfl rfl ?_ | refine ao_eff (v := V.val (Value.bool true)) (ups := []) rfl rfl rfl rfl ?_ | refine ao_eff (v := V.val (Value.bool false)) (ups := []) rfl rfl rfl rfl ?_ | refine aw_seq ?_ | refine aw_region ?_ | refine aw_block ?_ | refine ao_nil ⟨fun h => (Bool.false_ne_true h).elim, ?_⟩ | refine ao_nil ⟨fun _ => ⟨by kernel_rfl, by kernel_rfl⟩, ?_⟩ | refine ao_skip rfl rfl rfl ?_ | refine aw_true rfl ?_ | refine aw_false rfl ?_ | refine aw_skip ?_ | refine aw_exit ?_ | refine ao_funb rfl rfl rfl rfl rfl rfl (refName _ _) (fun hb => ?_) (fun hb => ?_) | refine ao_funb rfl rfl rfl rfl rfl rfl (refBegin o.f3) (fun hb => ?_) (fun hb => ?_) | refine ao_funb rfl rfl rfl rfl rfl rfl (refElemB o.f3) (fun hb => ?_) (fun hb => ?_) | refine ao_funb rfl rfl rfl rfl rfl rfl (refOwn o o.f3) (fun hb => ?_) (fun hb => ?_) | refine ao_fun rfl rfl rfl rfl rfl rfl (hR) ?_ | refine ao_funs rfl rfl rfl rfl rfl rfl (hR) rfl ?_ | refine ao_no rfl rfl rfl rfl (h2) ?_ | refine ao_dec rfl rfl rfl (eqE _ _ _ _ _ _).1 (fun hb => ?_) (fun hb => ?_) | refine ao_ndec rfl rfl rfl (eqE _ _ _ _ _ _).2 (fun hb => ?_) (fun hb => ?_) | refine ao_dec rfl rfl rfl rfl (fun hb => ?_) (fun hb => ?_) | refine ao_ndec rfl rfl rfl rfl (fun hb => ?_) (fun hb => ?_) | refine ao_str rfl rfl rfl rfl (fun hb => ?_) (fun hb => ?_) | refine ao_nstr rfl rfl rfl rfl (fun hb => ?_) (fun hb => ?_) | refine ao_bool rfl rfl rfl rfl (fun hb => ?_) (fun hb => ?_) | refine aw_ret ⟨.inr rfl, _, _, _, _, _, rfl, rfl, rfl, rfl, ?_, rfl⟩)
      all_goals first
        | exact ⟨.same _ rfl, .ptr _ _ _ _ _ _ _ rfl rfl rfl rfl, trivial⟩
        | exact ⟨renB_cl rfl rfl rfl rfl rfl rfl, trivial⟩
        | (refine congrArg (fun b => V.val (Value.bool b)) ?_
           try simp only [List.length_map, decide_eq_true_eq, decide_eq_false_iff_not] at *
           first | (simp [mayB, editB, Sp.goneB, emptyB_eq, *]; done) | (simp [mayB, editB, Sp.goneB, emptyB_eq, *]; omega) | (simp only [mayB, editB, Sp.goneB, emptyB_eq]; grind))
        | (try simp only [List.length_map, decide_eq_true_eq, decide_eq_false_iff_not] at *
           show mayB o = goneFrom o none o.f5
           first
             | (simp only [mayB, editB, Sp.goneB, emptyB_eq]; grind))
    · rw [if_neg hm] at hR
      as_aux_lemma =>
      repeat' (first | refine ao_e rfl rfl rfl rfl rfl ?_ | refine ao_eff (v := V.val (Value.bool true)) (ups := []) rfl rfl rfl rfl ?_ | refine ao_eff (v := V.val (Value.bool false)) (ups := []) rfl rfl rfl rfl ?_ | refine aw_seq ?_ | refine aw_region ?_ | refine aw_block ?_ | refine ao_nil ⟨fun h => (Bool.false_ne_true h).elim, ?_⟩ | refine ao_nil ⟨fun _ => ⟨by kernel_rfl, by kernel_rfl⟩, ?_⟩ | refine ao_skip rfl rfl rfl ?_ | refine aw_true rfl ?_ | refine aw_false rfl ?_ | refine aw_skip ?_ | refine aw_exit ?_ | refine ao_funb rfl rfl rfl rfl rfl rfl (refName _ _) (fun hb => ?_) (fun hb => ?_) | refine ao_fun rfl rfl rfl rfl rfl rfl (hR) ?_ | refine ao_funs rfl rfl rfl rfl rfl rfl (hR) rfl ?_ | refine ao_no rfl rfl rfl rfl (h2) ?_ | refine ao_dec rfl rfl rfl (eqE _ _ _ _ _ _).1 (fun hb => ?_) (fun hb => ?_) | refine ao_ndec rfl rfl rfl (eqE _ _ _ _ _ _).2 (fun hb => ?_) (fun hb => ?_) | refine ao_dec rfl rfl rfl rfl (fun hb => ?_) (fun hb => ?_) | refine ao_ndec rfl rfl rfl rfl (fun hb => ?_) (fun hb => ?_) | refine ao_str rfl rfl rfl rfl (fun hb => ?_) (fun hb => ?_) | refine ao_nstr rfl rfl rfl rfl (fun hb => ?_) (fun hb => ?_) | refine ao_bool rfl rfl rfl rfl (fun hb => ?_) (fun hb => ?_) | refine aw_ret ⟨.inr rfl, _, _, _, _, _, rfl, rfl, rfl, rfl, ?_, rfl⟩)
      all_goals first
        | (refine congrArg (fun b => V.val (Value.bool b)) ?_
           try simp only [List.length_map, decide_eq_true_eq, decide_eq_false_iff_not] at *
           first | (simp [mayB, editB, emptyB_eq, *]; done) | (simp [mayB, editB, emptyB_eq, *]; omega) | (simp only [mayB, editB, emptyB_eq]; grind))
end Go.Ai
