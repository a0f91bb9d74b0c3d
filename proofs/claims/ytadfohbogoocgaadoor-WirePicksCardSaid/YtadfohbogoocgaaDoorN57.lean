/- A part of the proof: what the program does, step by step, over values without addresses. No conditions of mine. -/
import Derived.Test.YtadfohbogoocgaaDoorN45
import Derived.Test.YtadfohbogoocgaaDoorN50
import Derived.Test.YtadfohbogoocgaaDoorN51
set_option linter.unusedVariables false
set_option linter.unusedSimpArgs false
namespace Go.Ai
open Go Go.RowKit Go.Proofs Go.Sp
set_option maxRecDepth 10000
set_option maxHeartbeats 8000000
set_option linter.unusedVariables false
set_option linter.unusedSimpArgs false
theorem pickL_get (l : List K) (n k : Nat) (hn : n < l.length) (hk : k < (pickL l n).length) : ∃ z, ((pickL l n).map kC)[Int.toNat (k : Int)]? = some (kC z) ∧ (l.map kC)[Int.toNat ((if k < n then k else k + 1 : Nat) : Int)]? = some (kC z) := by
  have htl : (l.take n).length = n := by rw [List.length_take]; omega
  have hpl : (pickL l n).length = l.length - 1 := by unfold pickL; rw [List.length_append, List.length_take, List.length_drop]; omega
  by_cases h : k < n
  · refine ⟨l[k], ?_, ?_⟩
    · rw [Int.toNat_natCast, List.getElem?_map]
      unfold pickL
      rw [List.getElem?_append_left (by omega), List.getElem?_take, if_pos h, List.getElem?_eq_getElem (by omega)]; rfl
    · rw [if_pos h, Int.toNat_natCast, List.getElem?_map, List.getElem?_eq_getElem (by omega)]; rfl
  · refine ⟨l[k + 1], ?_, ?_⟩
    · rw [Int.toNat_natCast, List.getElem?_map]
      unfold pickL
      rw [List.getElem?_append_right (by omega), List.getElem?_drop, htl, show n + 1 + (k - n) = k + 1 by omega, List.getElem?_eq_getElem (by omega)]; rfl
    · rw [if_neg h, Int.toNat_natCast, List.getElem?_map, List.getElem?_eq_getElem (by omega)]; rfl
theorem lawWirePicks (p : A13) (hp : G13 p) : AF Tryd.prog XX 12 [.agg (a13C p)] (vo true) := by
  have hW := lawWakes13
  have hD40 : AF Tryd.prog XX 40 [.isl 4 ((netL 40).map kC), vi 0] (.tup [.emp, vi 6]) := by
    have h := wireDouble (netL 40) (netL_may 40 (by omega)) 0 (by rw [netL_len]; decide)
    rw [if_neg (by rw [netL_len]; decide)] at h
    exact h
  have hN40 := lawNet 40 (by omega)
  obtain ⟨m, hm⟩ : ∃ m, m = 1 + (p.N.map fun n => [vi n]).length % 9 := ⟨_, rfl⟩
  have e1 : IntKind.i64.wrap (1 + Int.tmod (((p.N.map fun n => [vi n]).length : Nat) : Int) 9) = (m : Int) := by
    rw [Int.tmod_eq_emod_of_nonneg (by omega), wr64, w64 (by omega) (by omega)]; omega
  have hNm := lawNet m (by omega)
  have hml := netL_len m
  have hmy := netL_may m (by omega)
  generalize netL m = l at *
  generalize netL 40 = l40 at *
  have hlm : (l.map kC).length = l.length := List.length_map ..
  refine ac_mk (by kernel_rfl) Tryd.func12 rfl (lb rfl) rfl rfl ?_
  iterate 11 (first | refine ao_e rfl rfl rfl rfl rfl ?_ | refine ao_eff (v := V.val (Value.bool true)) (ups := []) rfl rfl rfl rfl ?_ | refine ao_eff (v := V.val (Value.bool false)) (ups := []) rfl rfl rfl rfl ?_ | refine aw_seq ?_ | refine aw_region ?_ | refine aw_block ?_ | refine ao_nil ⟨fun h => (Bool.false_ne_true h).elim, ?_⟩ | refine ao_nil ⟨fun _ => ⟨by kernel_rfl, by kernel_rfl⟩, ?_⟩ | refine ao_skip rfl rfl rfl ?_ | refine aw_true rfl ?_ | refine aw_false rfl ?_ | refine aw_skip ?_ | refine aw_exit ?_)
  refine ao_as (vi (m : Nat)) rfl rfl rfl ef_add (congrArg vi e1) ?_
  refine ao_fun rfl rfl rfl rfl rfl rfl hNm ?_
  repeat (first | refine ao_e rfl rfl rfl rfl rfl ?_ | refine ao_eff (v := V.val (Value.bool true)) (ups := []) rfl rfl rfl rfl ?_ | refine ao_eff (v := V.val (Value.bool false)) (ups := []) rfl rfl rfl rfl ?_ | refine aw_seq ?_ | refine aw_region ?_ | refine aw_block ?_ | refine ao_nil ⟨fun h => (Bool.false_ne_true h).elim, ?_⟩ | refine ao_nil ⟨fun _ => ⟨by kernel_rfl, by kernel_rfl⟩, ?_⟩ | refine ao_skip rfl rfl rfl ?_ | refine aw_true rfl ?_ | refine aw_false rfl ?_ | refine aw_skip ?_ | refine aw_exit ?_)
  refine aw_rounds (T := Nat) (fun c => c ≤ m + 2) (fun c => [.any, .any, .any, .isl 4 (l.map kC), vi ((c : Int) - 1)]) (fun _ => []) (fun c => m + 2 - c) 0 (Nat.zero_le _) ⟨.any _, .any _, .any _, .same _ rfl, ren_eq (congrArg vi (by decide)) rfl, trivial⟩ trivial ?_
  rintro c h0 hc
  have es : IntKind.i64.wrap ((c : Int) - 1 + 1) = ((c + 1 : Nat) : Int) - 1 := by rw [wr64, w64 (by omega) (by omega)]; omega
  have ew : IntKind.i64.wrap ((((l.map kC).length : Nat) : Int) - 1) = (l.length : Int) - 1 := by rw [hlm, wr64, w64 (by omega) (by omega)]
  by_cases hlt : c ≤ m + 1
  · have hNum := refNum (X := XX) ((c : Int) - 1) ((l.length : Int) - 1)
    by_cases hin : 1 ≤ c ∧ c ≤ m
    · obtain ⟨k, hk⟩ : ∃ k : Nat, (c : Int) - 1 = (k : Int) := ⟨c - 1, by omega⟩
      have hkl : k < l.length := by omega
      have h1 := wirePick l hmy k hkl
      have h3 := wireDouble l hmy k hkl
      rw [if_pos (by omega)] at h3
      have hei : (l.map kC)[Int.toNat ((c : Int) - 1)]? = some (kC l[k]) := by rw [hk, Int.toNat_natCast, List.getElem?_map, List.getElem?_eq_getElem hkl]; rfl
      have hg := fun j hj => pickL_get l k j hkl hj
      have hpl : (pickL l k).length = l.length - 1 := by unfold pickL; rw [List.length_append, List.length_take, List.length_drop]; omega
      rw [decide_eq_true (by omega), ← ew] at hNum
      rw [← hk] at h1 h3
      generalize pickL l k = r at *
      generalize l[k] = z at *
      have hrl : (r.map kC).length = r.length := List.length_map ..
      have hyl : ((l ++ [z]).map kC).length = l.length + 1 := by rw [List.length_map, List.length_append]; rfl
      have hyz : ((l ++ [z]).map kC)[Int.toNat (((l.map kC).length : Nat) : Int)]? = some (kC z) := by
        rw [hlm, Int.toNat_natCast, List.getElem?_map, List.getElem?_append_right (Nat.le_refl _), Nat.sub_self]; rfl
      have hyt : (((l ++ [z]).map kC).drop 0).take ((l.map kC).length - 0) = l.map kC := by
        rw [List.drop_zero, Nat.sub_zero, List.map_append, List.take_left]
      have hE := eqPackets (X := XX) l l (by omega)
      rw [decide_eq_true rfl] at hE
      have ew1 : IntKind.i64.wrap ((((l.map kC).length : Nat) : Int) + 1) = ((l.length + 1 : Nat) : Int) := by rw [hlm]; exact wsucc (by omega)
      repeat (first | refine ao_e rfl rfl rfl rfl rfl ?_ | refine ao_eff (v := V.val (Value.bool true)) (ups := []) rfl rfl rfl rfl ?_ | refine ao_eff (v := V.val (Value.bool false)) (ups := []) rfl rfl rfl rfl ?_ | refine aw_seq ?_ | refine aw_region ?_ | refine aw_block ?_ | refine ao_nil ⟨fun h => (Bool.false_ne_true h).elim, ?_⟩ | refine ao_nil ⟨fun _ => ⟨by kernel_rfl, by kernel_rfl⟩, ?_⟩ | refine ao_skip rfl rfl rfl ?_ | refine aw_true rfl ?_ | refine aw_false rfl ?_ | refine aw_skip ?_ | refine aw_exit ?_)
      refine ao_yes rfl rfl rfl rfl (by omega) ?_
      repeat (first | refine ao_e rfl rfl rfl rfl rfl ?_ | refine ao_eff (v := V.val (Value.bool true)) (ups := []) rfl rfl rfl rfl ?_ | refine ao_eff (v := V.val (Value.bool false)) (ups := []) rfl rfl rfl rfl ?_ | refine aw_seq ?_ | refine aw_region ?_ | refine aw_block ?_ | refine ao_nil ⟨fun h => (Bool.false_ne_true h).elim, ?_⟩ | refine ao_nil ⟨fun _ => ⟨by kernel_rfl, by kernel_rfl⟩, ?_⟩ | refine ao_skip rfl rfl rfl ?_ | refine aw_true rfl ?_ | refine aw_false rfl ?_ | refine aw_skip ?_ | refine aw_exit ?_ | refine ao_fun rfl rfl rfl rfl rfl rfl h1 ?_ | refine ao_fun rfl rfl rfl rfl rfl rfl h3 ?_ | refine ao_fun rfl rfl rfl rfl rfl rfl hNum ?_ | refine ao_fun rfl rfl rfl rfl rfl rfl (lawNum13 _) ?_ | refine ao_e rfl rfl rfl rfl (ef_ix rfl rfl (by omega) hei) ?_ | refine ao_ndec rfl rfl rfl (neqK _ _ _ _ _ _ _ _) (fun hq => ?_) (fun hq => absurd ⟨rfl, rfl, rfl, rfl⟩ hq))
      refine ao_ndec rfl rfl rfl rfl (fun hq => ?_) (fun hq => absurd (by omega) hq)
      repeat (first | refine ao_e rfl rfl rfl rfl rfl ?_ | refine ao_eff (v := V.val (Value.bool true)) (ups := []) rfl rfl rfl rfl ?_ | refine ao_eff (v := V.val (Value.bool false)) (ups := []) rfl rfl rfl rfl ?_ | refine aw_seq ?_ | refine aw_region ?_ | refine aw_block ?_ | refine ao_nil ⟨fun h => (Bool.false_ne_true h).elim, ?_⟩ | refine ao_nil ⟨fun _ => ⟨by kernel_rfl, by kernel_rfl⟩, ?_⟩ | refine ao_skip rfl rfl rfl ?_ | refine aw_true rfl ?_ | refine aw_false rfl ?_ | refine aw_skip ?_ | refine aw_exit ?_)
      refine ao_ndec rfl rfl rfl rfl (fun hq => ?_) (fun hq => absurd (by omega) hq)
      repeat (first | refine ao_e rfl rfl rfl rfl rfl ?_ | refine ao_eff (v := V.val (Value.bool true)) (ups := []) rfl rfl rfl rfl ?_ | refine ao_eff (v := V.val (Value.bool false)) (ups := []) rfl rfl rfl rfl ?_ | refine aw_seq ?_ | refine aw_region ?_ | refine aw_block ?_ | refine ao_nil ⟨fun h => (Bool.false_ne_true h).elim, ?_⟩ | refine ao_nil ⟨fun _ => ⟨by kernel_rfl, by kernel_rfl⟩, ?_⟩ | refine ao_skip rfl rfl rfl ?_ | refine aw_true rfl ?_ | refine aw_false rfl ?_ | refine aw_skip ?_ | refine aw_exit ?_)
      refine ao_e rfl rfl rfl rfl (ef_ix rfl rfl (by omega) hyz) ?_
      repeat (first | refine ao_e rfl rfl rfl rfl rfl ?_ | refine ao_eff (v := V.val (Value.bool true)) (ups := []) rfl rfl rfl rfl ?_ | refine ao_eff (v := V.val (Value.bool false)) (ups := []) rfl rfl rfl rfl ?_ | refine aw_seq ?_ | refine aw_region ?_ | refine aw_block ?_ | refine ao_nil ⟨fun h => (Bool.false_ne_true h).elim, ?_⟩ | refine ao_nil ⟨fun _ => ⟨by kernel_rfl, by kernel_rfl⟩, ?_⟩ | refine ao_skip rfl rfl rfl ?_ | refine aw_true rfl ?_ | refine aw_false rfl ?_ | refine aw_skip ?_ | refine aw_exit ?_ | refine ao_e rfl rfl rfl rfl (ef_ix rfl rfl (by omega) hei) ?_ | refine ao_ndec rfl rfl rfl (neqK _ _ _ _ _ _ _ _) (fun hq => ?_) (fun hq => absurd ⟨rfl, rfl, rfl, rfl⟩ hq))
      refine ao_e rfl rfl rfl rfl (ef_sub (l := 0) (n := (l.map kC).length) (bn_hi (by omega)) rfl rfl (Int.toNat_natCast _) (Nat.zero_le _) (by omega) hyt) ?_
      repeat (first | refine ao_e rfl rfl rfl rfl rfl ?_ | refine ao_eff (v := V.val (Value.bool true)) (ups := []) rfl rfl rfl rfl ?_ | refine ao_eff (v := V.val (Value.bool false)) (ups := []) rfl rfl rfl rfl ?_ | refine aw_seq ?_ | refine aw_region ?_ | refine aw_block ?_ | refine ao_nil ⟨fun h => (Bool.false_ne_true h).elim, ?_⟩ | refine ao_nil ⟨fun _ => ⟨by kernel_rfl, by kernel_rfl⟩, ?_⟩ | refine ao_skip rfl rfl rfl ?_ | refine aw_true rfl ?_ | refine aw_false rfl ?_ | refine aw_skip ?_ | refine aw_exit ?_ | refine ao_fun rfl rfl rfl rfl rfl rfl hE ?_)
      refine aw_rounds (T := Nat) (fun j => j ≤ r.length) (fun j => [.any, .any, .any, .isl 4 (l.map kC), vi ((c : Int) - 1), .any, .isl 4 (r.map kC), .any, .any, .any, vi j]) (fun _ => []) (fun j => r.length - j) 0 (Nat.zero_le _) ⟨.any _, .any _, .any _, .same _ rfl, .same _ rfl, .any _, .same _ rfl, .any _, .any _, .any _, .same _ rfl, trivial⟩ trivial ?_
      rintro j h0 hj
      by_cases hjl : j < r.length
      · obtain ⟨y, hy1, hy2⟩ := hg j hjl
        by_cases hjk : j < k
        · rw [if_pos hjk] at hy2
          repeat (first | refine ao_e rfl rfl rfl rfl rfl ?_ | refine ao_eff (v := V.val (Value.bool true)) (ups := []) rfl rfl rfl rfl ?_ | refine ao_eff (v := V.val (Value.bool false)) (ups := []) rfl rfl rfl rfl ?_ | refine aw_seq ?_ | refine aw_region ?_ | refine aw_block ?_ | refine ao_nil ⟨fun h => (Bool.false_ne_true h).elim, ?_⟩ | refine ao_nil ⟨fun _ => ⟨by kernel_rfl, by kernel_rfl⟩, ?_⟩ | refine ao_skip rfl rfl rfl ?_ | refine aw_true rfl ?_ | refine aw_false rfl ?_ | refine aw_skip ?_ | refine aw_exit ?_)
          refine ao_yes rfl rfl rfl rfl (by omega) ?_
          repeat (first | refine ao_e rfl rfl rfl rfl rfl ?_ | refine ao_eff (v := V.val (Value.bool true)) (ups := []) rfl rfl rfl rfl ?_ | refine ao_eff (v := V.val (Value.bool false)) (ups := []) rfl rfl rfl rfl ?_ | refine aw_seq ?_ | refine aw_region ?_ | refine aw_block ?_ | refine ao_nil ⟨fun h => (Bool.false_ne_true h).elim, ?_⟩ | refine ao_nil ⟨fun _ => ⟨by kernel_rfl, by kernel_rfl⟩, ?_⟩ | refine ao_skip rfl rfl rfl ?_ | refine aw_true rfl ?_ | refine aw_false rfl ?_ | refine aw_skip ?_ | refine aw_exit ?_)
          refine ao_no rfl rfl rfl rfl (by omega) ?_
          repeat (first | refine ao_e rfl rfl rfl rfl rfl ?_ | refine ao_eff (v := V.val (Value.bool true)) (ups := []) rfl rfl rfl rfl ?_ | refine ao_eff (v := V.val (Value.bool false)) (ups := []) rfl rfl rfl rfl ?_ | refine aw_seq ?_ | refine aw_region ?_ | refine aw_block ?_ | refine ao_nil ⟨fun h => (Bool.false_ne_true h).elim, ?_⟩ | refine ao_nil ⟨fun _ => ⟨by kernel_rfl, by kernel_rfl⟩, ?_⟩ | refine ao_skip rfl rfl rfl ?_ | refine aw_true rfl ?_ | refine aw_false rfl ?_ | refine aw_skip ?_ | refine aw_exit ?_ | refine ao_e rfl rfl rfl rfl (ef_ix rfl rfl (by omega) hy1) ?_ | refine ao_e rfl rfl rfl rfl (ef_ix rfl rfl (by omega) hy2) ?_ | refine ao_ndec rfl rfl rfl (neqK _ _ _ _ _ _ _ _) (fun hq => ?_) (fun hq => absurd ⟨rfl, rfl, rfl, rfl⟩ hq))
          exact ⟨j + 1, hjl, by omega, ⟨.any _, .any _, .any _, .same _ rfl, .same _ rfl, .any _, .same _ rfl, .any _, .any _, .any _, rsucc j (by omega), trivial⟩, trivial⟩
        · rw [if_neg hjk] at hy2
          have ej : IntKind.i64.wrap ((j : Int) + 1) = ((j + 1 : Nat) : Int) := wsucc (by omega)
          repeat (first | refine ao_e rfl rfl rfl rfl rfl ?_ | refine ao_eff (v := V.val (Value.bool true)) (ups := []) rfl rfl rfl rfl ?_ | refine ao_eff (v := V.val (Value.bool false)) (ups := []) rfl rfl rfl rfl ?_ | refine aw_seq ?_ | refine aw_region ?_ | refine aw_block ?_ | refine ao_nil ⟨fun h => (Bool.false_ne_true h).elim, ?_⟩ | refine ao_nil ⟨fun _ => ⟨by kernel_rfl, by kernel_rfl⟩, ?_⟩ | refine ao_skip rfl rfl rfl ?_ | refine aw_true rfl ?_ | refine aw_false rfl ?_ | refine aw_skip ?_ | refine aw_exit ?_)
          refine ao_yes rfl rfl rfl rfl (by omega) ?_
          repeat (first | refine ao_e rfl rfl rfl rfl rfl ?_ | refine ao_eff (v := V.val (Value.bool true)) (ups := []) rfl rfl rfl rfl ?_ | refine ao_eff (v := V.val (Value.bool false)) (ups := []) rfl rfl rfl rfl ?_ | refine aw_seq ?_ | refine aw_region ?_ | refine aw_block ?_ | refine ao_nil ⟨fun h => (Bool.false_ne_true h).elim, ?_⟩ | refine ao_nil ⟨fun _ => ⟨by kernel_rfl, by kernel_rfl⟩, ?_⟩ | refine ao_skip rfl rfl rfl ?_ | refine aw_true rfl ?_ | refine aw_false rfl ?_ | refine aw_skip ?_ | refine aw_exit ?_)
          refine ao_yes rfl rfl rfl rfl (by omega) ?_
          repeat (first | refine ao_as (vi (j + 1 : Nat)) rfl rfl rfl ef_add (congrArg vi ej) ?_ | refine ao_e rfl rfl rfl rfl rfl ?_ | refine ao_eff (v := V.val (Value.bool true)) (ups := []) rfl rfl rfl rfl ?_ | refine ao_eff (v := V.val (Value.bool false)) (ups := []) rfl rfl rfl rfl ?_ | refine aw_seq ?_ | refine aw_region ?_ | refine aw_block ?_ | refine ao_nil ⟨fun h => (Bool.false_ne_true h).elim, ?_⟩ | refine ao_nil ⟨fun _ => ⟨by kernel_rfl, by kernel_rfl⟩, ?_⟩ | refine ao_skip rfl rfl rfl ?_ | refine aw_true rfl ?_ | refine aw_false rfl ?_ | refine aw_skip ?_ | refine aw_exit ?_)
          refine ao_e rfl rfl rfl rfl (ef_ix rfl rfl (by omega) hy1) ?_
          repeat (first | refine ao_e rfl rfl rfl rfl rfl ?_ | refine ao_eff (v := V.val (Value.bool true)) (ups := []) rfl rfl rfl rfl ?_ | refine ao_eff (v := V.val (Value.bool false)) (ups := []) rfl rfl rfl rfl ?_ | refine aw_seq ?_ | refine aw_region ?_ | refine aw_block ?_ | refine ao_nil ⟨fun h => (Bool.false_ne_true h).elim, ?_⟩ | refine ao_nil ⟨fun _ => ⟨by kernel_rfl, by kernel_rfl⟩, ?_⟩ | refine ao_skip rfl rfl rfl ?_ | refine aw_true rfl ?_ | refine aw_false rfl ?_ | refine aw_skip ?_ | refine aw_exit ?_ | refine ao_e rfl rfl rfl rfl (ef_ix rfl rfl (by omega) hy2) ?_ | refine ao_ndec rfl rfl rfl (neqK _ _ _ _ _ _ _ _) (fun hq => ?_) (fun hq => absurd ⟨rfl, rfl, rfl, rfl⟩ hq))
          exact ⟨j + 1, hjl, by omega, ⟨.any _, .any _, .any _, .same _ rfl, .same _ rfl, .any _, .same _ rfl, .any _, .any _, .any _, rsucc j (by omega), trivial⟩, trivial⟩
      · repeat (first | refine ao_e rfl rfl rfl rfl rfl ?_ | refine ao_eff (v := V.val (Value.bool true)) (ups := []) rfl rfl rfl rfl ?_ | refine ao_eff (v := V.val (Value.bool false)) (ups := []) rfl rfl rfl rfl ?_ | refine aw_seq ?_ | refine aw_region ?_ | refine aw_block ?_ | refine ao_nil ⟨fun h => (Bool.false_ne_true h).elim, ?_⟩ | refine ao_nil ⟨fun _ => ⟨by kernel_rfl, by kernel_rfl⟩, ?_⟩ | refine ao_skip rfl rfl rfl ?_ | refine aw_true rfl ?_ | refine aw_false rfl ?_ | refine aw_skip ?_ | refine aw_exit ?_)
        refine ao_no rfl rfl rfl rfl (by omega) ?_
        repeat (first | refine ao_e rfl rfl rfl rfl rfl ?_ | refine ao_eff (v := V.val (Value.bool true)) (ups := []) rfl rfl rfl rfl ?_ | refine ao_eff (v := V.val (Value.bool false)) (ups := []) rfl rfl rfl rfl ?_ | refine aw_seq ?_ | refine aw_region ?_ | refine aw_block ?_ | refine ao_nil ⟨fun h => (Bool.false_ne_true h).elim, ?_⟩ | refine ao_nil ⟨fun _ => ⟨by kernel_rfl, by kernel_rfl⟩, ?_⟩ | refine ao_skip rfl rfl rfl ?_ | refine aw_true rfl ?_ | refine aw_false rfl ?_ | refine aw_skip ?_ | refine aw_exit ?_)
        exact ⟨c + 1, by omega, by omega, ⟨.any _, .any _, .any _, .same _ rfl, ren_eq (congrArg vi es) rfl, trivial⟩, trivial⟩
    · have e3 : askE l ((c : Int) - 1) = 3 := by unfold askE; rw [hmy, if_pos rfl, if_pos (by omega)]
      have h1 := wirePickNo l (by omega) ((c : Int) - 1) (by rw [e3]; decide)
      have h3 := wireDoubleNo l (by omega) ((c : Int) - 1) (by rw [e3]; decide)
      rw [e3] at h1 h3
      rw [decide_eq_false (by omega), ← ew] at hNum
      repeat (first | refine ao_e rfl rfl rfl rfl rfl ?_ | refine ao_eff (v := V.val (Value.bool true)) (ups := []) rfl rfl rfl rfl ?_ | refine ao_eff (v := V.val (Value.bool false)) (ups := []) rfl rfl rfl rfl ?_ | refine aw_seq ?_ | refine aw_region ?_ | refine aw_block ?_ | refine ao_nil ⟨fun h => (Bool.false_ne_true h).elim, ?_⟩ | refine ao_nil ⟨fun _ => ⟨by kernel_rfl, by kernel_rfl⟩, ?_⟩ | refine ao_skip rfl rfl rfl ?_ | refine aw_true rfl ?_ | refine aw_false rfl ?_ | refine aw_skip ?_ | refine aw_exit ?_)
      refine ao_yes rfl rfl rfl rfl (by omega) ?_
      repeat (first | refine ao_e rfl rfl rfl rfl rfl ?_ | refine ao_eff (v := V.val (Value.bool true)) (ups := []) rfl rfl rfl rfl ?_ | refine ao_eff (v := V.val (Value.bool false)) (ups := []) rfl rfl rfl rfl ?_ | refine aw_seq ?_ | refine aw_region ?_ | refine aw_block ?_ | refine ao_nil ⟨fun h => (Bool.false_ne_true h).elim, ?_⟩ | refine ao_nil ⟨fun _ => ⟨by kernel_rfl, by kernel_rfl⟩, ?_⟩ | refine ao_skip rfl rfl rfl ?_ | refine aw_true rfl ?_ | refine aw_false rfl ?_ | refine aw_skip ?_ | refine aw_exit ?_ | refine ao_fun rfl rfl rfl rfl rfl rfl h1 ?_ | refine ao_fun rfl rfl rfl rfl rfl rfl h3 ?_ | refine ao_fun rfl rfl rfl rfl rfl rfl hNum ?_ | refine ao_fun rfl rfl rfl rfl rfl rfl (lawNum13 _) ?_)
      exact ⟨c + 1, by omega, by omega, ⟨.any _, .any _, .any _, .same _ rfl, ren_eq (congrArg vi es) rfl, trivial⟩, trivial⟩
  · repeat (first | refine ao_e rfl rfl rfl rfl rfl ?_ | refine ao_eff (v := V.val (Value.bool true)) (ups := []) rfl rfl rfl rfl ?_ | refine ao_eff (v := V.val (Value.bool false)) (ups := []) rfl rfl rfl rfl ?_ | refine aw_seq ?_ | refine aw_region ?_ | refine aw_block ?_ | refine ao_nil ⟨fun h => (Bool.false_ne_true h).elim, ?_⟩ | refine ao_nil ⟨fun _ => ⟨by kernel_rfl, by kernel_rfl⟩, ?_⟩ | refine ao_skip rfl rfl rfl ?_ | refine aw_true rfl ?_ | refine aw_false rfl ?_ | refine aw_skip ?_ | refine aw_exit ?_)
    refine ao_no rfl rfl rfl rfl (by omega) ?_
    repeat (first | refine ao_e rfl rfl rfl rfl rfl ?_ | refine ao_eff (v := V.val (Value.bool true)) (ups := []) rfl rfl rfl rfl ?_ | refine ao_eff (v := V.val (Value.bool false)) (ups := []) rfl rfl rfl rfl ?_ | refine aw_seq ?_ | refine aw_region ?_ | refine aw_block ?_ | refine ao_nil ⟨fun h => (Bool.false_ne_true h).elim, ?_⟩ | refine ao_nil ⟨fun _ => ⟨by kernel_rfl, by kernel_rfl⟩, ?_⟩ | refine ao_skip rfl rfl rfl ?_ | refine aw_true rfl ?_ | refine aw_false rfl ?_ | refine aw_skip ?_ | refine aw_exit ?_ | refine ao_fun rfl rfl rfl rfl rfl rfl hN40 ?_ | refine ao_fun rfl rfl rfl rfl rfl rfl hD40 ?_ | refine ao_fun rfl rfl rfl rfl rfl rfl (lawNum13 _) ?_ | refine ao_fun rfl rfl rfl rfl rfl rfl hW ?_)
    exact aw_ret ⟨.inr rfl, _, _, _, _, _, rfl, rfl, rfl, rfl, rfl, rfl⟩
end Go.Ai
