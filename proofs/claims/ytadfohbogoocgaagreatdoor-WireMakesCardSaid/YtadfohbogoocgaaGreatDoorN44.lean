/- A part of the proof: what the program does, step by step, over values without addresses. No conditions of mine. -/
import Derived.Test.YtadfohbogoocgaaGreatDoorN42
import Derived.Test.YtadfohbogoocgaaGreatDoorRunN43toN23
set_option linter.unusedVariables false
set_option linter.unusedSimpArgs false
namespace Go.Ai
open Go Go.RowKit Go.Proofs Go.Sp
set_option maxRecDepth 10000
set_option maxHeartbeats 4000000
set_option linter.unusedVariables false
set_option linter.unusedSimpArgs false
def netM (i : Nat) : M := ⟨1, 0, 1 + (i : Int), 0, 0, 0, []⟩
def netK (i : Nat) : K := (mkK 0 (1 + ((i % 8 : Nat) : Int)) (netM i)).1
def netL (n : Nat) : List K := (List.range n).map netK
theorem netL_len (n : Nat) : (netL n).length = n := by simp [netL]
theorem netL_succ (n : Nat) : netL (n + 1) = netL n ++ [netK n] := by simp [netL, List.range_succ]
theorem ef_add {P : Program} {h : Nat → Option Blk} {site : Nat} {x y : Operand} {T yT : TypeId} {k : IntKind} {a b : Int} : eff P site (.binOp .add T x y yT) [.val (.int k a), .val (.int k b)] h = some (.val (.int k (k.wrap (a + b))), []) := by
  simp [eff, effBin, toVal, eqGuard, binOp, Op.intArith, pr, same, ofValue, ofCell, bind, pure, Sem.bind]
theorem lawNet (n : Nat) (hn : n ≤ 1000) : AF Tryz.prog XX 15 [vi n] (.isl 4 ((netL n).map kC)) := by
  generalize hN : netL n = N
  refine ac_mk (by kernel_rfl) Tryz.func15 rfl (lb rfl) rfl rfl ?_
  repeat (first | refine ao_e rfl rfl rfl rfl rfl ?_ | refine ao_eff (v := V.val (Value.bool true)) (ups := []) rfl rfl rfl rfl ?_ | refine ao_eff (v := V.val (Value.bool false)) (ups := []) rfl rfl rfl rfl ?_ | refine aw_seq ?_ | refine aw_region ?_ | refine aw_block ?_ | refine ao_nil ⟨fun h => (Bool.false_ne_true h).elim, ?_⟩ | refine ao_nil ⟨fun _ => ⟨by kernel_rfl, by kernel_rfl⟩, ?_⟩ | refine ao_skip rfl rfl rfl ?_ | refine aw_true rfl ?_ | refine aw_false rfl ?_ | refine aw_skip ?_ | refine aw_exit ?_)
  refine aw_virt 3 (newId (siteOf 6 3) 0) 4 rfl ?_
  refine aw_rounds (T := Nat × List K) (fun t => t.1 ≤ n ∧ t.2 = netL t.1) (fun t => [vi n, .any, .any, .sl (newId (siteOf 6 3) 0) 0 0 t.2.length, vi t.1]) (fun t => [(newId (siteOf 6 3) 0, ⟨0, 4, true, true, t.2.map kC⟩)]) (fun t => n - t.1) (0, []) ⟨Nat.zero_le _, rfl⟩ ?_ ?_ ?_
  · exact ⟨.same _ rfl, .any _, .any _, .sl _ _ _ _ _ _ _ rfl rfl rfl rfl, .same _ rfl, trivial⟩
  · exact ⟨renB_cl rfl rfl rfl rfl rfl rfl, trivial⟩
  rintro ⟨i, Q⟩ h0 ⟨hi, hQ⟩
  dsimp only at hi hQ ⊢
  have hl : Q.length = i := by rw [hQ, netL_len]
  by_cases hlt : i < n
  · have e1 : IntKind.i64.wrap (1 + Int.tmod (i : Int) 8) = 1 + ((i % 8 : Nat) : Int) := by
      rw [Int.tmod_eq_emod_of_nonneg (by omega), wr64, w64 (by omega) (by omega)]; rfl
    have e2 : IntKind.i64.wrap (1 + (i : Int)) = 1 + (i : Int) := by rw [wr64, w64 (by omega) (by omega)]
    have hs : Q ++ [netK i] = netL (i + 1) := by rw [hQ, netL_succ]
    have hM : AF Tryz.prog XX 8 [vi 0, vi (1 + ((i % 8 : Nat) : Int)), .agg [vi 1, vi 0, vi (1 + (i : Int)), vi 0, vi 0, vi 0, .emp]] (.tup [.agg (kC (netK i)), vi (mkK 0 (1 + ((i % 8 : Nat) : Int)) (netM i)).2]) := by
      exact af_wk (by exact ⟨.refl _, .refl _, lv_agg ⟨.refl _, .refl _, .refl _, .refl _, .refl _, .refl _, .nil _, trivial⟩, trivial⟩) (refMake 0 (1 + ((i % 8 : Nat) : Int)) (netM i) nofun (Nat.zero_le _))
    generalize (mkK 0 (1 + ((i % 8 : Nat) : Int)) (netM i)).2 = q at hM
    obtain ⟨s1, hs1⟩ : ∃ s, s = 1 + ((i % 8 : Nat) : Int) := ⟨_, rfl⟩
    obtain ⟨s2, hs2⟩ : ∃ s, s = 1 + (i : Int) := ⟨_, rfl⟩
    rw [← hs1] at e1
    have e2 := e2.trans hs2.symm
    rw [← hs1, ← hs2] at hM
    generalize netK i = x at *
    repeat (first | refine ao_e rfl rfl rfl rfl rfl ?_ | refine ao_eff (v := V.val (Value.bool true)) (ups := []) rfl rfl rfl rfl ?_ | refine ao_eff (v := V.val (Value.bool false)) (ups := []) rfl rfl rfl rfl ?_ | refine aw_seq ?_ | refine aw_region ?_ | refine aw_block ?_ | refine ao_nil ⟨fun h => (Bool.false_ne_true h).elim, ?_⟩ | refine ao_nil ⟨fun _ => ⟨by kernel_rfl, by kernel_rfl⟩, ?_⟩ | refine ao_skip rfl rfl rfl ?_ | refine aw_true rfl ?_ | refine aw_false rfl ?_ | refine aw_skip ?_ | refine aw_exit ?_)
    refine ao_yes rfl rfl rfl rfl (by omega) ?_
    iterate 9 (first | refine ao_e rfl rfl rfl rfl rfl ?_ | refine ao_eff (v := V.val (Value.bool true)) (ups := []) rfl rfl rfl rfl ?_ | refine ao_eff (v := V.val (Value.bool false)) (ups := []) rfl rfl rfl rfl ?_ | refine aw_seq ?_ | refine aw_region ?_ | refine aw_block ?_ | refine ao_nil ⟨fun h => (Bool.false_ne_true h).elim, ?_⟩ | refine ao_nil ⟨fun _ => ⟨by kernel_rfl, by kernel_rfl⟩, ?_⟩ | refine ao_skip rfl rfl rfl ?_ | refine aw_true rfl ?_ | refine aw_false rfl ?_ | refine aw_skip ?_ | refine aw_exit ?_)
    refine ao_as (vi s1) rfl rfl rfl ef_add (congrArg vi e1) ?_
    iterate 1 refine ao_e rfl rfl rfl rfl rfl ?_
    refine ao_as (vi s2) rfl rfl rfl ef_add (congrArg vi e2) ?_
    repeat (first | refine ao_e rfl rfl rfl rfl rfl ?_ | refine ao_eff (v := V.val (Value.bool true)) (ups := []) rfl rfl rfl rfl ?_ | refine ao_eff (v := V.val (Value.bool false)) (ups := []) rfl rfl rfl rfl ?_ | refine aw_seq ?_ | refine aw_region ?_ | refine aw_block ?_ | refine ao_nil ⟨fun h => (Bool.false_ne_true h).elim, ?_⟩ | refine ao_nil ⟨fun _ => ⟨by kernel_rfl, by kernel_rfl⟩, ?_⟩ | refine ao_skip rfl rfl rfl ?_ | refine aw_true rfl ?_ | refine aw_false rfl ?_ | refine aw_skip ?_ | refine aw_exit ?_)
    refine ao_fun rfl rfl rfl rfl rfl rfl hM ?_
    repeat (first | refine ao_e rfl rfl rfl rfl rfl ?_ | refine ao_eff (v := V.val (Value.bool true)) (ups := []) rfl rfl rfl rfl ?_ | refine ao_eff (v := V.val (Value.bool false)) (ups := []) rfl rfl rfl rfl ?_ | refine aw_seq ?_ | refine aw_region ?_ | refine aw_block ?_ | refine ao_nil ⟨fun h => (Bool.false_ne_true h).elim, ?_⟩ | refine ao_nil ⟨fun _ => ⟨by kernel_rfl, by kernel_rfl⟩, ?_⟩ | refine ao_skip rfl rfl rfl ?_ | refine aw_true rfl ?_ | refine aw_false rfl ?_ | refine aw_skip ?_ | refine aw_exit ?_)
    refine ao_e rfl rfl rfl rfl (ef_push kC Q x 40 rfl rfl rfl rfl rfl rfl rfl rfl rfl (by omega)) ?_
    repeat (first | refine ao_e rfl rfl rfl rfl rfl ?_ | refine ao_eff (v := V.val (Value.bool true)) (ups := []) rfl rfl rfl rfl ?_ | refine ao_eff (v := V.val (Value.bool false)) (ups := []) rfl rfl rfl rfl ?_ | refine aw_seq ?_ | refine aw_region ?_ | refine aw_block ?_ | refine ao_nil ⟨fun h => (Bool.false_ne_true h).elim, ?_⟩ | refine ao_nil ⟨fun _ => ⟨by kernel_rfl, by kernel_rfl⟩, ?_⟩ | refine ao_skip rfl rfl rfl ?_ | refine aw_true rfl ?_ | refine aw_false rfl ?_ | refine aw_skip ?_ | refine aw_exit ?_)
    exact ⟨(i + 1, Q ++ [x]), ⟨hlt, hs⟩, by dsimp only; omega, ⟨.same _ rfl, .any _, .any _, .sl _ _ _ _ _ _ _ rfl rfl rfl rfl, rsucc i (by omega), trivial⟩, ⟨renB_cl rfl rfl rfl rfl rfl rfl, trivial⟩⟩
  · obtain rfl : i = n := by omega
    obtain rfl : Q = N := hQ.trans hN
    repeat (first | refine ao_e rfl rfl rfl rfl rfl ?_ | refine ao_eff (v := V.val (Value.bool true)) (ups := []) rfl rfl rfl rfl ?_ | refine ao_eff (v := V.val (Value.bool false)) (ups := []) rfl rfl rfl rfl ?_ | refine aw_seq ?_ | refine aw_region ?_ | refine aw_block ?_ | refine ao_nil ⟨fun h => (Bool.false_ne_true h).elim, ?_⟩ | refine ao_nil ⟨fun _ => ⟨by kernel_rfl, by kernel_rfl⟩, ?_⟩ | refine ao_skip rfl rfl rfl ?_ | refine aw_true rfl ?_ | refine aw_false rfl ?_ | refine aw_skip ?_ | refine aw_exit ?_)
    refine ao_no rfl rfl rfl rfl (by omega) ?_
    repeat (first | refine ao_e rfl rfl rfl rfl rfl ?_ | refine ao_eff (v := V.val (Value.bool true)) (ups := []) rfl rfl rfl rfl ?_ | refine ao_eff (v := V.val (Value.bool false)) (ups := []) rfl rfl rfl rfl ?_ | refine aw_seq ?_ | refine aw_region ?_ | refine aw_block ?_ | refine ao_nil ⟨fun h => (Bool.false_ne_true h).elim, ?_⟩ | refine ao_nil ⟨fun _ => ⟨by kernel_rfl, by kernel_rfl⟩, ?_⟩ | refine ao_skip rfl rfl rfl ?_ | refine aw_true rfl ?_ | refine aw_false rfl ?_ | refine aw_skip ?_ | refine aw_exit ?_)
    refine aw_canon [.any, .any, .isl 4 (Q.map kC)] [] ⟨.any _, .any _, ren_frz kC Q rfl rfl rfl rfl rfl rfl, trivial⟩ trivial (fun h0 => ?_)
    refine aw_ret ⟨.inr rfl, _, _, _, _, _, rfl, rfl, rfl, rfl, ?_, rfl⟩
    rfl
def askE (l : List K) (n : Int) : Int := if mayK l then (if n < 0 ∨ (l.length : Int) ≤ n then 3 else 0) else 1
theorem wireAsked (l : List K) (n : Int) (hl : l.length < 4611686018427387904) : AF Tryz.prog XX 65 [.isl 4 (l.map kC), vi n] (vi (askE l n)) := by
  have h1 := wireMay (X := XX) l hl
  have hlm : (l.map kC).length = l.length := List.length_map ..
  refine ac_mk (by kernel_rfl) Tryz.func65 rfl (lb rfl) rfl rfl ?_
  unfold askE
  cases e1 : mayK l with
  | false =>
    rw [e1] at h1
    repeat' (first | refine ao_e rfl rfl rfl rfl rfl ?_ | refine ao_eff (v := V.val (Value.bool true)) (ups := []) rfl rfl rfl rfl ?_ | refine ao_eff (v := V.val (Value.bool false)) (ups := []) rfl rfl rfl rfl ?_ | refine aw_seq ?_ | refine aw_region ?_ | refine aw_block ?_ | refine ao_nil ⟨fun h => (Bool.false_ne_true h).elim, ?_⟩ | refine ao_nil ⟨fun _ => ⟨by kernel_rfl, by kernel_rfl⟩, ?_⟩ | refine ao_skip rfl rfl rfl ?_ | refine aw_true rfl ?_ | refine aw_false rfl ?_ | refine aw_skip ?_ | refine aw_exit ?_ | refine ao_fun rfl rfl rfl rfl rfl rfl (h1) ?_ | refine ao_funs rfl rfl rfl rfl rfl rfl (h1) rfl ?_ | refine ao_dec rfl rfl rfl (eqE _ _ _ _ _ _).1 (fun hb => ?_) (fun hb => ?_) | refine ao_ndec rfl rfl rfl (eqE _ _ _ _ _ _).2 (fun hb => ?_) (fun hb => ?_) | refine ao_dec rfl rfl rfl rfl (fun hb => ?_) (fun hb => ?_) | refine ao_ndec rfl rfl rfl rfl (fun hb => ?_) (fun hb => ?_) | refine ao_str rfl rfl rfl rfl (fun hb => ?_) (fun hb => ?_) | refine ao_nstr rfl rfl rfl rfl (fun hb => ?_) (fun hb => ?_) | refine ao_bool rfl rfl rfl rfl (fun hb => ?_) (fun hb => ?_) | refine aw_ret ⟨.inr rfl, _, _, _, _, _, rfl, rfl, rfl, rfl, ?_, rfl⟩)
    all_goals rfl
  | true =>
    rw [e1] at h1
    repeat' (first | refine ao_e rfl rfl rfl rfl rfl ?_ | refine ao_eff (v := V.val (Value.bool true)) (ups := []) rfl rfl rfl rfl ?_ | refine ao_eff (v := V.val (Value.bool false)) (ups := []) rfl rfl rfl rfl ?_ | refine aw_seq ?_ | refine aw_region ?_ | refine aw_block ?_ | refine ao_nil ⟨fun h => (Bool.false_ne_true h).elim, ?_⟩ | refine ao_nil ⟨fun _ => ⟨by kernel_rfl, by kernel_rfl⟩, ?_⟩ | refine ao_skip rfl rfl rfl ?_ | refine aw_true rfl ?_ | refine aw_false rfl ?_ | refine aw_skip ?_ | refine aw_exit ?_ | refine ao_fun rfl rfl rfl rfl rfl rfl (h1) ?_ | refine ao_funs rfl rfl rfl rfl rfl rfl (h1) rfl ?_ | refine ao_dec rfl rfl rfl (eqE _ _ _ _ _ _).1 (fun hb => ?_) (fun hb => ?_) | refine ao_ndec rfl rfl rfl (eqE _ _ _ _ _ _).2 (fun hb => ?_) (fun hb => ?_) | refine ao_dec rfl rfl rfl rfl (fun hb => ?_) (fun hb => ?_) | refine ao_ndec rfl rfl rfl rfl (fun hb => ?_) (fun hb => ?_) | refine ao_str rfl rfl rfl rfl (fun hb => ?_) (fun hb => ?_) | refine ao_nstr rfl rfl rfl rfl (fun hb => ?_) (fun hb => ?_) | refine ao_bool rfl rfl rfl rfl (fun hb => ?_) (fun hb => ?_) | refine aw_ret ⟨.inr rfl, _, _, _, _, _, rfl, rfl, rfl, rfl, ?_, rfl⟩)
    all_goals refine congrArg vi ?_
    all_goals simp only [if_true]
    all_goals first | rw [if_pos (by omega)] | rw [if_neg (by omega)]
theorem wirePickNil : AF Tryz.prog XX 35 [.emp, vi 0] (.tup [.agg (kC k0), .emp, vi 3]) := by
  have h1 : AF Tryz.prog XX 65 [.emp, vi 0] (vi 3) := af_wk (by exact ⟨.nil 4, .refl _, trivial⟩) (wireAsked [] 0 (by decide))
  refine ac_mk (by kernel_rfl) Tryz.func35 rfl (lb rfl) rfl rfl ?_
  repeat' (first | refine ao_e rfl rfl rfl rfl rfl ?_ | refine ao_eff (v := V.val (Value.bool true)) (ups := []) rfl rfl rfl rfl ?_ | refine ao_eff (v := V.val (Value.bool false)) (ups := []) rfl rfl rfl rfl ?_ | refine aw_seq ?_ | refine aw_region ?_ | refine aw_block ?_ | refine ao_nil ⟨fun h => (Bool.false_ne_true h).elim, ?_⟩ | refine ao_nil ⟨fun _ => ⟨by kernel_rfl, by kernel_rfl⟩, ?_⟩ | refine ao_skip rfl rfl rfl ?_ | refine aw_true rfl ?_ | refine aw_false rfl ?_ | refine aw_skip ?_ | refine aw_exit ?_ | refine ao_fun rfl rfl rfl rfl rfl rfl (h1) ?_ | refine ao_funs rfl rfl rfl rfl rfl rfl (h1) rfl ?_ | refine ao_dec rfl rfl rfl (eqE _ _ _ _ _ _).1 (fun hb => ?_) (fun hb => ?_) | refine ao_ndec rfl rfl rfl (eqE _ _ _ _ _ _).2 (fun hb => ?_) (fun hb => ?_) | refine ao_dec rfl rfl rfl rfl (fun hb => ?_) (fun hb => ?_) | refine ao_ndec rfl rfl rfl rfl (fun hb => ?_) (fun hb => ?_) | refine ao_str rfl rfl rfl rfl (fun hb => ?_) (fun hb => ?_) | refine ao_nstr rfl rfl rfl rfl (fun hb => ?_) (fun hb => ?_) | refine ao_bool rfl rfl rfl rfl (fun hb => ?_) (fun hb => ?_) | refine aw_ret ⟨.inr rfl, _, _, _, _, _, rfl, rfl, rfl, rfl, ?_, rfl⟩)
  all_goals rfl
theorem lawNum13 (n : Int) : AF Tryz.prog XX 9 [vi n] (vi n) := by
  refine ac_mk (by kernel_rfl) Tryz.func9 rfl (lb rfl) rfl rfl ?_
  repeat' (first | refine ao_e rfl rfl rfl rfl rfl ?_ | refine ao_eff (v := V.val (Value.bool true)) (ups := []) rfl rfl rfl rfl ?_ | refine ao_eff (v := V.val (Value.bool false)) (ups := []) rfl rfl rfl rfl ?_ | refine aw_seq ?_ | refine aw_region ?_ | refine aw_block ?_ | refine ao_nil ⟨fun h => (Bool.false_ne_true h).elim, ?_⟩ | refine ao_nil ⟨fun _ => ⟨by kernel_rfl, by kernel_rfl⟩, ?_⟩ | refine ao_skip rfl rfl rfl ?_ | refine aw_true rfl ?_ | refine aw_false rfl ?_ | refine aw_skip ?_ | refine aw_exit ?_ | refine ao_dec rfl rfl rfl (eqE _ _ _ _ _ _).1 (fun hb => ?_) (fun hb => ?_) | refine ao_ndec rfl rfl rfl (eqE _ _ _ _ _ _).2 (fun hb => ?_) (fun hb => ?_) | refine ao_dec rfl rfl rfl rfl (fun hb => ?_) (fun hb => ?_) | refine ao_ndec rfl rfl rfl rfl (fun hb => ?_) (fun hb => ?_) | refine ao_str rfl rfl rfl rfl (fun hb => ?_) (fun hb => ?_) | refine ao_nstr rfl rfl rfl rfl (fun hb => ?_) (fun hb => ?_) | refine ao_bool rfl rfl rfl rfl (fun hb => ?_) (fun hb => ?_) | refine aw_ret ⟨.inr rfl, _, _, _, _, _, rfl, rfl, rfl, rfl, ?_, rfl⟩)
  all_goals rfl
def kJ : K := ⟨0, 1, strOfNums (fr (msgB m5)), false⟩
theorem rd_fr {k : K} {m : M} (h1 : pkB k = true) (h2 : mayM m = true) (h3 : (msgB m).length ≤ 700) (h4 : k.f2 = strOfNums (fr (msgB m))) : rdK k = .tup [.agg (mC m), vi 0] := by
  have e := rdM_msg h2 []
  rw [List.append_nil, if_pos rfl] at e
  have u := utk_fr (msgB m) [] h3
  rw [List.append_nil] at u
  unfold rdK
  rw [if_pos h1, h4, bytesOf_str (fr_bytes (msgB_bytes m)), u]
  show tkMV (rdM (msgB m, false)) = _
  rw [e]; rfl
theorem lawWakes13 : AF Tryz.prog XX 14 [] (vo true) := by
  have h1 : AF Tryz.prog XX 7 [vi 0, vi 1, .agg [vi 1, vi 0, vi 5, vi 0, vi 0, vi 0, .emp]] (.tup [.agg (kC kJ), vi 0]) := by
    have h := wireMake 0 1 m5 nofun (by decide)
    have e : mkK 0 1 m5 = (kJ, 0) := by
      unfold mkK
      rw [if_pos (by kernel_rfl), if_neg (by rw [m5_len]; decide)]; rfl
    unfold mkV at h
    rw [e] at h
    exact af_wk (by exact ⟨.refl _, .refl _, lv_agg ⟨.refl _, .refl _, .refl _, .refl _, .refl _, .refl _, .nil _, trivial⟩, trivial⟩) h
  have h2 := wireRead kJ
  rw [rd_fr (m := m5) (by kernel_rfl) m5_may (by rw [m5_len]; decide) rfl] at h2
  refine ac_mk (by kernel_rfl) Tryz.func14 rfl (lb rfl) rfl rfl ?_
  have e1 : kJ.f0 = 0 := rfl
  have e2 : kJ.f1 = 1 := rfl
  generalize kJ = k at *
  obtain ⟨f0, f1, f2, f3⟩ := k
  dsimp only at e1 e2
  subst e1 e2
  repeat (first | refine ao_fun rfl rfl rfl rfl rfl rfl h1 ?_ | refine ao_fun rfl rfl rfl rfl rfl rfl h2 ?_ | refine ao_fun rfl rfl rfl rfl rfl rfl wirePickNil ?_ | refine ao_fun rfl rfl rfl rfl rfl rfl (lawNum13 _) ?_ | refine ao_e rfl rfl rfl rfl rfl ?_ | refine ao_eff (v := V.val (Value.bool true)) (ups := []) rfl rfl rfl rfl ?_ | refine ao_eff (v := V.val (Value.bool false)) (ups := []) rfl rfl rfl rfl ?_ | refine aw_seq ?_ | refine aw_region ?_ | refine aw_block ?_ | refine ao_nil ⟨fun h => (Bool.false_ne_true h).elim, ?_⟩ | refine ao_nil ⟨fun _ => ⟨by kernel_rfl, by kernel_rfl⟩, ?_⟩ | refine ao_skip rfl rfl rfl ?_ | refine aw_true rfl ?_ | refine aw_false rfl ?_ | refine aw_skip ?_ | refine aw_exit ?_)
  exact aw_ret ⟨.inr rfl, _, _, _, _, _, rfl, rfl, rfl, rfl, rfl, rfl⟩
end Go.Ai
