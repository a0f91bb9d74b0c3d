/- A part of the proof: what the program does, step by step, over values without addresses. No conditions of mine. -/
import Derived.Test.YtadfohbogoocgaaDoorN44
import Derived.Test.YtadfohbogoocgaaDoorAsk13
set_option linter.unusedVariables false
set_option linter.unusedSimpArgs false
namespace Go.Ai
open Go Go.RowKit Go.Proofs Go.Sp
set_option maxRecDepth 10000
set_option maxHeartbeats 4000000
set_option linter.unusedVariables false
set_option linter.unusedSimpArgs false
theorem netL_pk (n : Nat) (hn : n ≤ 41) : (netL n).all pkB = true := by
  have h : ((List.range 41).all fun i => pkB (netK i)) = true := by kernel_rfl
  rw [List.all_eq_true] at h ⊢
  intro k hk
  obtain ⟨i, hi, rfl⟩ := List.mem_map.1 hk
  exact h i (List.mem_range.2 (by have := List.mem_range.1 hi; omega))
theorem netL_may (n : Nat) (hn : n ≤ 40) : mayK (netL n) = true := by
  unfold mayK
  rw [netL_pk n (by omega), netL_len]
  simpa using hn
theorem sendNet (n k : Nat) (hn : n ≤ 40) (hk : k ≤ 40) : sendV (netL n) (netL k) = .tup [.isl 4 (((netL n ++ netL k).take 40).map kC), vi 0] := by
  unfold sendV
  rw [netL_may n hn, netL_pk k (by omega)]; rfl
theorem lawWireSends (p : A13) (hp : G13 p) : AF Tryd.prog XX 13 [.agg (a13C p)] (vo true) := by
  have h41 : AF Tryd.prog XX 45 [.isl 4 ((netL 41).map kC), .emp] (.tup [.emp, vi 1]) := by
    have h := wireSend (X := XX) (netL 41) [] (by rw [netL_len]; decide) (by decide)
    have e : sendV (netL 41) [] = .tup [.emp, vi 1] := by
      have : mayK (netL 41) = false := by unfold mayK; rw [netL_len]; rfl
      unfold sendV; rw [this]; rfl
    rw [e] at h
    exact af_wk (by exact ⟨.refl _, .nil _, trivial⟩) h
  have hk0 : AF Tryd.prog XX 45 [.emp, .isl 4 ([k0].map kC)] (.tup [.emp, vi 1]) := by
    have h := wireSend (X := XX) [] [k0] (by decide) (by decide)
    have e : sendV [] [k0] = .tup [.emp, vi 1] := by rfl
    rw [e] at h
    exact af_wk (by exact ⟨.nil _, .refl _, trivial⟩) h
  refine ac_mk (by kernel_rfl) Tryd.func13 rfl (lb rfl) rfl rfl ?_
  repeat (first | refine ao_e rfl rfl rfl rfl rfl ?_ | refine ao_eff (v := V.val (Value.bool true)) (ups := []) rfl rfl rfl rfl ?_ | refine ao_eff (v := V.val (Value.bool false)) (ups := []) rfl rfl rfl rfl ?_ | refine aw_seq ?_ | refine aw_region ?_ | refine aw_block ?_ | refine ao_nil ⟨fun h => (Bool.false_ne_true h).elim, ?_⟩ | refine ao_nil ⟨fun _ => ⟨by kernel_rfl, by kernel_rfl⟩, ?_⟩ | refine ao_skip rfl rfl rfl ?_ | refine aw_true rfl ?_ | refine aw_false rfl ?_ | refine aw_skip ?_ | refine aw_exit ?_)
  refine aw_rounds (T := Nat) (fun _ => True) (fun n => [.any, .ptr (newId (siteOf 0 0) 0) 0 0 0, .any, vi n]) (fun n => [(newId (siteOf 0 0) 0, ⟨0, 7, true, true, [a13C p]⟩)]) (fun n => 41 - n) 0 trivial ⟨.any _, .ptr _ _ _ _ _ _ _ rfl rfl rfl rfl, .any _, .same _ rfl, trivial⟩ ⟨renB_cl rfl rfl rfl rfl rfl rfl, trivial⟩ ?_
  rintro n h0 -
  by_cases hn : n ≤ 40
  · repeat (first | refine ao_e rfl rfl rfl rfl rfl ?_ | refine ao_eff (v := V.val (Value.bool true)) (ups := []) rfl rfl rfl rfl ?_ | refine ao_eff (v := V.val (Value.bool false)) (ups := []) rfl rfl rfl rfl ?_ | refine aw_seq ?_ | refine aw_region ?_ | refine aw_block ?_ | refine ao_nil ⟨fun h => (Bool.false_ne_true h).elim, ?_⟩ | refine ao_nil ⟨fun _ => ⟨by kernel_rfl, by kernel_rfl⟩, ?_⟩ | refine ao_skip rfl rfl rfl ?_ | refine aw_true rfl ?_ | refine aw_false rfl ?_ | refine aw_skip ?_ | refine aw_exit ?_)
    refine ao_yes rfl rfl rfl rfl (by omega) ?_
    repeat (first | refine ao_e rfl rfl rfl rfl rfl ?_ | refine ao_eff (v := V.val (Value.bool true)) (ups := []) rfl rfl rfl rfl ?_ | refine ao_eff (v := V.val (Value.bool false)) (ups := []) rfl rfl rfl rfl ?_ | refine aw_seq ?_ | refine aw_region ?_ | refine aw_block ?_ | refine ao_nil ⟨fun h => (Bool.false_ne_true h).elim, ?_⟩ | refine ao_nil ⟨fun _ => ⟨by kernel_rfl, by kernel_rfl⟩, ?_⟩ | refine ao_skip rfl rfl rfl ?_ | refine aw_true rfl ?_ | refine aw_false rfl ?_ | refine aw_skip ?_ | refine aw_exit ?_)
    refine aw_rounds (T := Nat) (fun k => k ≤ 5) (fun k => [.any, .ptr (newId (siteOf 0 0) 0) 0 0 0, .any, vi n, vi k]) (fun k => [(newId (siteOf 0 0) 0, ⟨0, 7, true, true, [a13C p]⟩)]) (fun k => 5 - k) 0 (Nat.zero_le _) ⟨.any _, .ptr _ _ _ _ _ _ _ rfl rfl rfl rfl, .any _, .same _ rfl, .same _ rfl, trivial⟩ ⟨renB_cl rfl rfl rfl rfl rfl rfl, trivial⟩ ?_
    rintro k h0 hk
    by_cases hlt : k < 5
    · have hS := wireSend (X := XX) (netL n) (netL k) (by rw [netL_len]; omega) (by rw [netL_len]; omega)
      rw [sendNet n k hn (by omega)] at hS
      have hR := refSend (X := XX) (netL n) (netL k) (by rw [netL_len]; omega) (by rw [netL_len]; omega)
      have hNn := lawNet n (by omega)
      have hNk := lawNet k (by omega)
      have hl : ((netL n ++ netL k).take 40).length ≤ 40 := by rw [List.length_take]; omega
      generalize netL n = a at *
      generalize netL k = b at *
      generalize (a ++ b).take 40 = c at *
      have hE := eqPackets (X := XX) c c (by omega)
      rw [decide_eq_true rfl] at hE
      have hlc : (c.map kC).length = c.length := List.length_map ..
      repeat (first | refine ao_e rfl rfl rfl rfl rfl ?_ | refine ao_eff (v := V.val (Value.bool true)) (ups := []) rfl rfl rfl rfl ?_ | refine ao_eff (v := V.val (Value.bool false)) (ups := []) rfl rfl rfl rfl ?_ | refine aw_seq ?_ | refine aw_region ?_ | refine aw_block ?_ | refine ao_nil ⟨fun h => (Bool.false_ne_true h).elim, ?_⟩ | refine ao_nil ⟨fun _ => ⟨by kernel_rfl, by kernel_rfl⟩, ?_⟩ | refine ao_skip rfl rfl rfl ?_ | refine aw_true rfl ?_ | refine aw_false rfl ?_ | refine aw_skip ?_ | refine aw_exit ?_)
      refine ao_yes rfl rfl rfl rfl (by omega) ?_
      repeat (first | refine ao_fun rfl rfl rfl rfl rfl rfl hNn ?_ | refine ao_fun rfl rfl rfl rfl rfl rfl hNk ?_ | refine ao_fun rfl rfl rfl rfl rfl rfl hS ?_ | refine ao_fun rfl rfl rfl rfl rfl rfl hR ?_ | refine ao_fun rfl rfl rfl rfl rfl rfl hE ?_ | refine ao_fun rfl rfl rfl rfl rfl rfl (lawNum13 _) ?_ | refine ao_e rfl rfl rfl rfl rfl ?_ | refine ao_eff (v := V.val (Value.bool true)) (ups := []) rfl rfl rfl rfl ?_ | refine ao_eff (v := V.val (Value.bool false)) (ups := []) rfl rfl rfl rfl ?_ | refine aw_seq ?_ | refine aw_region ?_ | refine aw_block ?_ | refine ao_nil ⟨fun h => (Bool.false_ne_true h).elim, ?_⟩ | refine ao_nil ⟨fun _ => ⟨by kernel_rfl, by kernel_rfl⟩, ?_⟩ | refine ao_skip rfl rfl rfl ?_ | refine aw_true rfl ?_ | refine aw_false rfl ?_ | refine aw_skip ?_ | refine aw_exit ?_)
      refine ao_no rfl rfl rfl rfl (by omega) ?_
      repeat (first | refine ao_e rfl rfl rfl rfl rfl ?_ | refine ao_eff (v := V.val (Value.bool true)) (ups := []) rfl rfl rfl rfl ?_ | refine ao_eff (v := V.val (Value.bool false)) (ups := []) rfl rfl rfl rfl ?_ | refine aw_seq ?_ | refine aw_region ?_ | refine aw_block ?_ | refine ao_nil ⟨fun h => (Bool.false_ne_true h).elim, ?_⟩ | refine ao_nil ⟨fun _ => ⟨by kernel_rfl, by kernel_rfl⟩, ?_⟩ | refine ao_skip rfl rfl rfl ?_ | refine aw_true rfl ?_ | refine aw_false rfl ?_ | refine aw_skip ?_ | refine aw_exit ?_)
      exact ⟨k + 1, hlt, by omega, ⟨.any _, .ptr _ _ _ _ _ _ _ rfl rfl rfl rfl, .any _, .same _ rfl, rsucc k (by omega), trivial⟩, ⟨renB_cl rfl rfl rfl rfl rfl rfl, trivial⟩⟩
    · repeat (first | refine ao_e rfl rfl rfl rfl rfl ?_ | refine ao_eff (v := V.val (Value.bool true)) (ups := []) rfl rfl rfl rfl ?_ | refine ao_eff (v := V.val (Value.bool false)) (ups := []) rfl rfl rfl rfl ?_ | refine aw_seq ?_ | refine aw_region ?_ | refine aw_block ?_ | refine ao_nil ⟨fun h => (Bool.false_ne_true h).elim, ?_⟩ | refine ao_nil ⟨fun _ => ⟨by kernel_rfl, by kernel_rfl⟩, ?_⟩ | refine ao_skip rfl rfl rfl ?_ | refine aw_true rfl ?_ | refine aw_false rfl ?_ | refine aw_skip ?_ | refine aw_exit ?_)
      refine ao_no rfl rfl rfl rfl (by omega) ?_
      have e1 : IntKind.i64.wrap ((n : Int) + 1) = ((n + 1 : Nat) : Int) := wsucc (by omega)
      have e2 : IntKind.i64.wrap (((n + 1 : Nat) : Int) + Int.tmod (((p.N.map fun n => [vi n]).length : Nat) : Int) 3) = ((n + 1 + (p.N.map fun n => [vi n]).length % 3 : Nat) : Int) := by
        rw [Int.tmod_eq_emod_of_nonneg (by omega), wr64, w64 (by omega) (by omega)]; omega
      repeat (first | refine ao_as (vi (n + 1 : Nat)) rfl rfl rfl rfl (congrArg vi e1) ?_ | refine ao_as (vi (n + 1 + (p.N.map fun n => [vi n]).length % 3 : Nat)) rfl rfl rfl rfl (congrArg vi e2) ?_ | refine ao_e rfl rfl rfl rfl rfl ?_ | refine ao_eff (v := V.val (Value.bool true)) (ups := []) rfl rfl rfl rfl ?_ | refine ao_eff (v := V.val (Value.bool false)) (ups := []) rfl rfl rfl rfl ?_ | refine aw_seq ?_ | refine aw_region ?_ | refine aw_block ?_ | refine ao_nil ⟨fun h => (Bool.false_ne_true h).elim, ?_⟩ | refine ao_nil ⟨fun _ => ⟨by kernel_rfl, by kernel_rfl⟩, ?_⟩ | refine ao_skip rfl rfl rfl ?_ | refine aw_true rfl ?_ | refine aw_false rfl ?_ | refine aw_skip ?_ | refine aw_exit ?_)
      exact ⟨n + 1 + (p.N.map fun n => [vi n]).length % 3, trivial, by omega, ⟨.any _, .ptr _ _ _ _ _ _ _ rfl rfl rfl rfl, .any _, .same _ rfl, trivial⟩, ⟨renB_cl rfl rfl rfl rfl rfl rfl, trivial⟩⟩
  · have h := lawNet 41 (by omega)
    generalize netL 41 = a at *
    repeat (first | refine ao_e rfl rfl rfl rfl rfl ?_ | refine ao_eff (v := V.val (Value.bool true)) (ups := []) rfl rfl rfl rfl ?_ | refine ao_eff (v := V.val (Value.bool false)) (ups := []) rfl rfl rfl rfl ?_ | refine aw_seq ?_ | refine aw_region ?_ | refine aw_block ?_ | refine ao_nil ⟨fun h => (Bool.false_ne_true h).elim, ?_⟩ | refine ao_nil ⟨fun _ => ⟨by kernel_rfl, by kernel_rfl⟩, ?_⟩ | refine ao_skip rfl rfl rfl ?_ | refine aw_true rfl ?_ | refine aw_false rfl ?_ | refine aw_skip ?_ | refine aw_exit ?_)
    refine ao_no rfl rfl rfl rfl (by omega) ?_
    repeat (first | refine ao_fun rfl rfl rfl rfl rfl rfl h ?_ | refine ao_fun rfl rfl rfl rfl rfl rfl h41 ?_ | refine ao_snap rfl rfl rfl rfl rfl rfl rfl hk0 rfl ?_ | refine ao_fun rfl rfl rfl rfl rfl rfl (lawNum13 _) ?_ | refine ao_fun rfl rfl rfl rfl rfl rfl lawWakes13 ?_ | refine ao_e rfl rfl rfl rfl rfl ?_ | refine ao_eff (v := V.val (Value.bool true)) (ups := []) rfl rfl rfl rfl ?_ | refine ao_eff (v := V.val (Value.bool false)) (ups := []) rfl rfl rfl rfl ?_ | refine aw_seq ?_ | refine aw_region ?_ | refine aw_block ?_ | refine ao_nil ⟨fun h => (Bool.false_ne_true h).elim, ?_⟩ | refine ao_nil ⟨fun _ => ⟨by kernel_rfl, by kernel_rfl⟩, ?_⟩ | refine ao_skip rfl rfl rfl ?_ | refine aw_true rfl ?_ | refine aw_false rfl ?_ | refine aw_skip ?_ | refine aw_exit ?_)
    exact aw_ret ⟨.inr rfl, _, _, _, _, _, rfl, rfl, rfl, rfl, rfl, rfl⟩
end Go.Ai
