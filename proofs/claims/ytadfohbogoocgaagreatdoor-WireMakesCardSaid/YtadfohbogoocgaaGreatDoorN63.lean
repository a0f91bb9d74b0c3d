/- WireMakes: the first loops, and the whole. -/
import Derived.Test.YtadfohbogoocgaaGreatDoorN62
set_option linter.unusedVariables false
set_option linter.unusedSimpArgs false
namespace Go.Ai
open Go Go.RowKit Go.Proofs Go.Sp
set_option maxRecDepth 10000
set_option maxHeartbeats 8000000
set_option linter.unusedVariables false
set_option linter.unusedSimpArgs false
theorem six {k : Nat} (hk : k < 6) : ∃ a b : Int, ([[vi 0], [vi 1], [vi 0], [vi 3], [vi 9], [vi (-1)]] : List (List V))[k]? = some [vi a] ∧ ([[vi 1], [vi 0], [vi 0], [vi 2], [vi 0], [vi 0]] : List (List V))[k]? = some [vi b] := by
  have : k = 0 ∨ k = 1 ∨ k = 2 ∨ k = 3 ∨ k = 4 ∨ k = 5 := by omega
  rcases this with rfl | rfl | rfl | rfl | rfl | rfl <;> exact ⟨_, _, rfl, rfl⟩
theorem lawWireMakes (p : A13) (hp : G13 p) : AF Tryz.prog XX 3 [.agg (a13C p)] (vo true) := by
  have hH := lawHeavy13 (X := XX) p hp
  have hMl : (p.M.M.map mC).length = p.M.M.length := List.length_map ..
  refine ac_mk (by kernel_rfl) Tryz.func3 rfl (lb rfl) rfl rfl ?_
  cases hh : heavy13 p with
  | true =>
    rw [hh] at hH
    repeat' (first | refine ao_e rfl rfl rfl rfl rfl ?_ | refine ao_eff (v := V.val (Value.bool true)) (ups := []) rfl rfl rfl rfl ?_ | refine ao_eff (v := V.val (Value.bool false)) (ups := []) rfl rfl rfl rfl ?_ | refine aw_seq ?_ | refine aw_region ?_ | refine aw_block ?_ | refine ao_nil ⟨fun h => (Bool.false_ne_true h).elim, ?_⟩ | refine ao_nil ⟨fun _ => ⟨by kernel_rfl, by kernel_rfl⟩, ?_⟩ | refine ao_skip rfl rfl rfl ?_ | refine aw_true rfl ?_ | refine aw_false rfl ?_ | refine aw_skip ?_ | refine aw_exit ?_ | refine ao_fun rfl rfl rfl rfl rfl rfl (hH) ?_ | refine ao_funs rfl rfl rfl rfl rfl rfl (hH) rfl ?_ | refine ao_dec rfl rfl rfl (eqE _ _ _ _ _ _).1 (fun hb => ?_) (fun hb => ?_) | refine ao_ndec rfl rfl rfl (eqE _ _ _ _ _ _).2 (fun hb => ?_) (fun hb => ?_) | refine ao_dec rfl rfl rfl rfl (fun hb => ?_) (fun hb => ?_) | refine ao_ndec rfl rfl rfl rfl (fun hb => ?_) (fun hb => ?_) | refine ao_str rfl rfl rfl rfl (fun hb => ?_) (fun hb => ?_) | refine ao_nstr rfl rfl rfl rfl (fun hb => ?_) (fun hb => ?_) | refine ao_bool rfl rfl rfl rfl (fun hb => ?_) (fun hb => ?_) | refine aw_ret ⟨.inr rfl, _, _, _, _, _, rfl, rfl, rfl, rfl, ?_, rfl⟩)
    all_goals rfl
  | false =>
    rw [hh] at hH
    have hL := light13 hh
    have hrest := fun h0 => makesRest p hL.l.1 (fun l hl => (hL.l.2 l hl).1) h0
    repeat (first | refine ao_e rfl rfl rfl rfl rfl ?_ | refine ao_eff (v := V.val (Value.bool true)) (ups := []) rfl rfl rfl rfl ?_ | refine ao_eff (v := V.val (Value.bool false)) (ups := []) rfl rfl rfl rfl ?_ | refine aw_seq ?_ | refine aw_region ?_ | refine aw_block ?_ | refine ao_nil ⟨fun h => (Bool.false_ne_true h).elim, ?_⟩ | refine ao_nil ⟨fun _ => ⟨by kernel_rfl, by kernel_rfl⟩, ?_⟩ | refine ao_skip rfl rfl rfl ?_ | refine aw_true rfl ?_ | refine aw_false rfl ?_ | refine aw_skip ?_ | refine aw_exit ?_)
    refine ao_fun rfl rfl rfl rfl rfl rfl hH ?_
    repeat (first | refine ao_e rfl rfl rfl rfl rfl ?_ | refine ao_eff (v := V.val (Value.bool true)) (ups := []) rfl rfl rfl rfl ?_ | refine ao_eff (v := V.val (Value.bool false)) (ups := []) rfl rfl rfl rfl ?_ | refine aw_seq ?_ | refine aw_region ?_ | refine aw_block ?_ | refine ao_nil ⟨fun h => (Bool.false_ne_true h).elim, ?_⟩ | refine ao_nil ⟨fun _ => ⟨by kernel_rfl, by kernel_rfl⟩, ?_⟩ | refine ao_skip rfl rfl rfl ?_ | refine aw_true rfl ?_ | refine aw_false rfl ?_ | refine aw_skip ?_ | refine aw_exit ?_)
    refine aw_rounds (T := Nat) (fun i => i ≤ 8) (fun i => [.any, .ptr (newId (siteOf 0 0) 0) 0 0 0, .any, vi i]) (fun _ => [(newId (siteOf 0 0) 0, ⟨0, 7, true, true, [a13C p]⟩)]) (fun i => 8 - i) 0 (Nat.zero_le _) ⟨.any _, .ptr _ _ _ _ _ _ _ rfl rfl rfl rfl, .any _, .same _ rfl, trivial⟩ ⟨renB_cl rfl rfl rfl rfl rfl rfl, trivial⟩ ?_
    rintro i h0 hi
    by_cases hlt : i < p.M.M.length ∧ i < 8
    · obtain ⟨hlt, hi8⟩ := hlt
      have hei : (p.M.M.map mC)[Int.toNat (i : Int)]? = some (mC p.M.M[i]) := by rw [Int.toNat_natCast, List.getElem?_map, List.getElem?_eq_getElem hlt]; rfl
      obtain ⟨hl1, hl2⟩ := hL.m.m.2 _ (List.getElem_mem hlt)
      generalize p.M.M[i] = m at *
      have hcp := copyMsg (X := XX) m (by omega) (fun o ho => by have := (hl2 o ho).2; omega)
      have hEq := eqMsg (X := XX) m m (by omega) (fun o ho => by have := (hl2 o ho).2; omega)
      rw [decide_eq_true rfl] at hEq
      repeat (first | refine ao_e rfl rfl rfl rfl rfl ?_ | refine ao_eff (v := V.val (Value.bool true)) (ups := []) rfl rfl rfl rfl ?_ | refine ao_eff (v := V.val (Value.bool false)) (ups := []) rfl rfl rfl rfl ?_ | refine aw_seq ?_ | refine aw_region ?_ | refine aw_block ?_ | refine ao_nil ⟨fun h => (Bool.false_ne_true h).elim, ?_⟩ | refine ao_nil ⟨fun _ => ⟨by kernel_rfl, by kernel_rfl⟩, ?_⟩ | refine ao_skip rfl rfl rfl ?_ | refine aw_true rfl ?_ | refine aw_false rfl ?_ | refine aw_skip ?_ | refine aw_exit ?_)
      refine ao_yes rfl rfl rfl rfl (by omega) ?_
      repeat (first | refine ao_e rfl rfl rfl rfl rfl ?_ | refine ao_eff (v := V.val (Value.bool true)) (ups := []) rfl rfl rfl rfl ?_ | refine ao_eff (v := V.val (Value.bool false)) (ups := []) rfl rfl rfl rfl ?_ | refine aw_seq ?_ | refine aw_region ?_ | refine aw_block ?_ | refine ao_nil ⟨fun h => (Bool.false_ne_true h).elim, ?_⟩ | refine ao_nil ⟨fun _ => ⟨by kernel_rfl, by kernel_rfl⟩, ?_⟩ | refine ao_skip rfl rfl rfl ?_ | refine aw_true rfl ?_ | refine aw_false rfl ?_ | refine aw_skip ?_ | refine aw_exit ?_)
      refine ao_yes rfl rfl rfl rfl (by omega) ?_
      repeat (first | refine ao_e rfl rfl rfl rfl rfl ?_ | refine ao_eff (v := V.val (Value.bool true)) (ups := []) rfl rfl rfl rfl ?_ | refine ao_eff (v := V.val (Value.bool false)) (ups := []) rfl rfl rfl rfl ?_ | refine aw_seq ?_ | refine aw_region ?_ | refine aw_block ?_ | refine ao_nil ⟨fun h => (Bool.false_ne_true h).elim, ?_⟩ | refine ao_nil ⟨fun _ => ⟨by kernel_rfl, by kernel_rfl⟩, ?_⟩ | refine ao_skip rfl rfl rfl ?_ | refine aw_true rfl ?_ | refine aw_false rfl ?_ | refine aw_skip ?_ | refine aw_exit ?_ | refine ao_e rfl rfl rfl rfl (ef_ix rfl rfl (by omega) hei) ?_ | refine ao_fun rfl rfl rfl rfl rfl rfl hcp ?_)
      refine aw_rounds (T := Nat) (fun k => k ≤ 6) (fun k => [.any, .ptr (newId (siteOf 0 0) 0) 0 0 0, .any, vi i, .ptr (newId (siteOf 6 7) 0) 0 0 0, vi k]) (fun _ => [(newId (siteOf 0 0) 0, ⟨0, 7, true, true, [a13C p]⟩), (newId (siteOf 6 7) 0, ⟨0, 7, true, true, [mC m]⟩)]) (fun k => 6 - k) 0 (Nat.zero_le _) ⟨.any _, .ptr _ _ _ _ _ _ _ rfl rfl rfl rfl, .any _, .same _ rfl, .ptr _ _ _ _ _ _ _ rfl rfl rfl rfl, .same _ rfl, trivial⟩ ⟨renB_cl rfl rfl rfl rfl rfl rfl, renB_cl rfl rfl rfl rfl rfl rfl, trivial⟩ ?_
      rintro k h1 hk
      by_cases hk6 : k < 6
      · obtain ⟨a, b, hto, hfr⟩ := six hk6
        have hM := wireMake a b m (fun o ho => ⟨by have := (hl2 o ho).1; omega, by have := (hl2 o ho).2; omega⟩) (by omega)
        have hR := refMake a b m (fun o ho => ⟨by have := (hl2 o ho).1; omega, by have := (hl2 o ho).2; omega⟩) (by omega)
        unfold mkV at hM hR
        generalize mkK a b m = x at *
        obtain ⟨z, y⟩ := x
        obtain ⟨xv, yv, e, hr1, hr2, hE, hsh⟩ := anyReadK z
        have hR1 := wireRead z
        have hR2 := refRead z
        rw [hr1] at hR1
        rw [hr2] at hR2
        clear hr1 hr2
        obtain ⟨f0, f1, f2, f3⟩ := z
        rcases hsh with ⟨rfl, rfl⟩ | ⟨rfl, rfl⟩ | ⟨m2, _, rfl, rfl⟩
        all_goals
          repeat (first | refine ao_e rfl rfl rfl rfl rfl ?_ | refine ao_eff (v := V.val (Value.bool true)) (ups := []) rfl rfl rfl rfl ?_ | refine ao_eff (v := V.val (Value.bool false)) (ups := []) rfl rfl rfl rfl ?_ | refine aw_seq ?_ | refine aw_region ?_ | refine aw_block ?_ | refine ao_nil ⟨fun h => (Bool.false_ne_true h).elim, ?_⟩ | refine ao_nil ⟨fun _ => ⟨by kernel_rfl, by kernel_rfl⟩, ?_⟩ | refine ao_skip rfl rfl rfl ?_ | refine aw_true rfl ?_ | refine aw_false rfl ?_ | refine aw_skip ?_ | refine aw_exit ?_)
          refine ao_yes rfl rfl rfl rfl (by omega) ?_
          repeat (first | refine ao_e rfl rfl rfl rfl rfl ?_ | refine ao_eff (v := V.val (Value.bool true)) (ups := []) rfl rfl rfl rfl ?_ | refine ao_eff (v := V.val (Value.bool false)) (ups := []) rfl rfl rfl rfl ?_ | refine aw_seq ?_ | refine aw_region ?_ | refine aw_block ?_ | refine ao_nil ⟨fun h => (Bool.false_ne_true h).elim, ?_⟩ | refine ao_nil ⟨fun _ => ⟨by kernel_rfl, by kernel_rfl⟩, ?_⟩ | refine ao_skip rfl rfl rfl ?_ | refine aw_true rfl ?_ | refine aw_false rfl ?_ | refine aw_skip ?_ | refine aw_exit ?_ | refine ao_e rfl rfl rfl rfl (ef_ixn k rfl rfl rfl rfl hk6 (Nat.le_refl 6)) ?_ | refine ao_e rfl rfl rfl rfl (ef_ldn rfl hto rfl) ?_ | refine ao_e rfl rfl rfl rfl (ef_ldn rfl hfr rfl) ?_ | refine ao_fun rfl rfl rfl rfl rfl rfl hM ?_ | refine ao_fun rfl rfl rfl rfl rfl rfl hR ?_ | refine ao_fun rfl rfl rfl rfl rfl rfl (lawNum13 _) ?_ | refine ao_ndec rfl rfl rfl (neqK _ _ _ _ _ _ _ _) (fun hq => ?_) (fun hq => absurd ⟨rfl, rfl, rfl, rfl⟩ hq) | refine ao_ndec rfl rfl rfl rfl (fun hq => ?_) (fun hq => absurd rfl hq) | refine ao_e rfl rfl rfl rfl (ef_ix rfl rfl (by omega) hei) ?_ | refine ao_fun rfl rfl rfl rfl rfl rfl hEq ?_ | refine ao_fun rfl rfl rfl rfl rfl rfl hR1 ?_ | refine ao_fun rfl rfl rfl rfl rfl rfl hR2 ?_ | refine ao_fun rfl rfl rfl rfl rfl rfl hE ?_)
          exact ⟨k + 1, hk6, by omega, ⟨.any _, .ptr _ _ _ _ _ _ _ rfl rfl rfl rfl, .any _, .same _ rfl, .ptr _ _ _ _ _ _ _ rfl rfl rfl rfl, rsucc k (by omega), trivial⟩, ⟨renB_cl rfl rfl rfl rfl rfl rfl, renB_cl rfl rfl rfl rfl rfl rfl, trivial⟩⟩
      · repeat (first | refine ao_e rfl rfl rfl rfl rfl ?_ | refine ao_eff (v := V.val (Value.bool true)) (ups := []) rfl rfl rfl rfl ?_ | refine ao_eff (v := V.val (Value.bool false)) (ups := []) rfl rfl rfl rfl ?_ | refine aw_seq ?_ | refine aw_region ?_ | refine aw_block ?_ | refine ao_nil ⟨fun h => (Bool.false_ne_true h).elim, ?_⟩ | refine ao_nil ⟨fun _ => ⟨by kernel_rfl, by kernel_rfl⟩, ?_⟩ | refine ao_skip rfl rfl rfl ?_ | refine aw_true rfl ?_ | refine aw_false rfl ?_ | refine aw_skip ?_ | refine aw_exit ?_)
        refine ao_no rfl rfl rfl rfl (by omega) ?_
        repeat (first | refine ao_e rfl rfl rfl rfl rfl ?_ | refine ao_eff (v := V.val (Value.bool true)) (ups := []) rfl rfl rfl rfl ?_ | refine ao_eff (v := V.val (Value.bool false)) (ups := []) rfl rfl rfl rfl ?_ | refine aw_seq ?_ | refine aw_region ?_ | refine aw_block ?_ | refine ao_nil ⟨fun h => (Bool.false_ne_true h).elim, ?_⟩ | refine ao_nil ⟨fun _ => ⟨by kernel_rfl, by kernel_rfl⟩, ?_⟩ | refine ao_skip rfl rfl rfl ?_ | refine aw_true rfl ?_ | refine aw_false rfl ?_ | refine aw_skip ?_ | refine aw_exit ?_)
        exact ⟨i + 1, by omega, by omega, ⟨.any _, .ptr _ _ _ _ _ _ _ rfl rfl rfl rfl, .any _, rsucc i (by omega), trivial⟩, ⟨renB_cl rfl rfl rfl rfl rfl rfl, trivial⟩⟩
    · by_cases hlt1 : i < p.M.M.length
      · repeat (first | refine ao_e rfl rfl rfl rfl rfl ?_ | refine ao_eff (v := V.val (Value.bool true)) (ups := []) rfl rfl rfl rfl ?_ | refine ao_eff (v := V.val (Value.bool false)) (ups := []) rfl rfl rfl rfl ?_ | refine aw_seq ?_ | refine aw_region ?_ | refine aw_block ?_ | refine ao_nil ⟨fun h => (Bool.false_ne_true h).elim, ?_⟩ | refine ao_nil ⟨fun _ => ⟨by kernel_rfl, by kernel_rfl⟩, ?_⟩ | refine ao_skip rfl rfl rfl ?_ | refine aw_true rfl ?_ | refine aw_false rfl ?_ | refine aw_skip ?_ | refine aw_exit ?_)
        refine ao_yes rfl rfl rfl rfl (by omega) ?_
        repeat (first | refine ao_e rfl rfl rfl rfl rfl ?_ | refine ao_eff (v := V.val (Value.bool true)) (ups := []) rfl rfl rfl rfl ?_ | refine ao_eff (v := V.val (Value.bool false)) (ups := []) rfl rfl rfl rfl ?_ | refine aw_seq ?_ | refine aw_region ?_ | refine aw_block ?_ | refine ao_nil ⟨fun h => (Bool.false_ne_true h).elim, ?_⟩ | refine ao_nil ⟨fun _ => ⟨by kernel_rfl, by kernel_rfl⟩, ?_⟩ | refine ao_skip rfl rfl rfl ?_ | refine aw_true rfl ?_ | refine aw_false rfl ?_ | refine aw_skip ?_ | refine aw_exit ?_)
        refine ao_no rfl rfl rfl rfl (by omega) ?_
        repeat (first | exact aw_hand _ _ hrest ⟨.any _, .ptr _ _ _ _ _ _ _ rfl rfl rfl rfl, trivial⟩ ⟨renB_cl rfl rfl rfl rfl rfl rfl, trivial⟩ | refine ao_e rfl rfl rfl rfl rfl ?_ | refine ao_eff (v := V.val (Value.bool true)) (ups := []) rfl rfl rfl rfl ?_ | refine ao_eff (v := V.val (Value.bool false)) (ups := []) rfl rfl rfl rfl ?_ | refine aw_seq ?_ | refine aw_region ?_ | refine aw_block ?_ | refine ao_nil ⟨fun h => (Bool.false_ne_true h).elim, ?_⟩ | refine ao_nil ⟨fun _ => ⟨by kernel_rfl, by kernel_rfl⟩, ?_⟩ | refine ao_skip rfl rfl rfl ?_ | refine aw_true rfl ?_ | refine aw_false rfl ?_ | refine aw_skip ?_ | refine aw_exit ?_)
      · repeat (first | refine ao_e rfl rfl rfl rfl rfl ?_ | refine ao_eff (v := V.val (Value.bool true)) (ups := []) rfl rfl rfl rfl ?_ | refine ao_eff (v := V.val (Value.bool false)) (ups := []) rfl rfl rfl rfl ?_ | refine aw_seq ?_ | refine aw_region ?_ | refine aw_block ?_ | refine ao_nil ⟨fun h => (Bool.false_ne_true h).elim, ?_⟩ | refine ao_nil ⟨fun _ => ⟨by kernel_rfl, by kernel_rfl⟩, ?_⟩ | refine ao_skip rfl rfl rfl ?_ | refine aw_true rfl ?_ | refine aw_false rfl ?_ | refine aw_skip ?_ | refine aw_exit ?_)
        refine ao_no rfl rfl rfl rfl (by omega) ?_
        repeat (first | exact aw_hand _ _ hrest ⟨.any _, .ptr _ _ _ _ _ _ _ rfl rfl rfl rfl, trivial⟩ ⟨renB_cl rfl rfl rfl rfl rfl rfl, trivial⟩ | refine ao_e rfl rfl rfl rfl rfl ?_ | refine ao_eff (v := V.val (Value.bool true)) (ups := []) rfl rfl rfl rfl ?_ | refine ao_eff (v := V.val (Value.bool false)) (ups := []) rfl rfl rfl rfl ?_ | refine aw_seq ?_ | refine aw_region ?_ | refine aw_block ?_ | refine ao_nil ⟨fun h => (Bool.false_ne_true h).elim, ?_⟩ | refine ao_nil ⟨fun _ => ⟨by kernel_rfl, by kernel_rfl⟩, ?_⟩ | refine ao_skip rfl rfl rfl ?_ | refine aw_true rfl ?_ | refine aw_false rfl ?_ | refine aw_skip ?_ | refine aw_exit ?_)
end Go.Ai
