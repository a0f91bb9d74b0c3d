/- A part of the proof: what the program does, step by step, over values without addresses. No conditions of mine. -/
import Derived.Test.YtadfohbogoocgaaDoorN41
set_option linter.unusedVariables false
set_option linter.unusedSimpArgs false
namespace Go.Ai
open Go Go.RowKit Go.Proofs Go.Sp
variable {X : FuncId → List V → List (Nat × List V) → V → List (Nat × List V) → List Blk → Prop}
set_option maxRecDepth 10000
set_option maxHeartbeats 4000000
set_option linter.unusedVariables false
set_option linter.unusedSimpArgs false
theorem take_app (a b : List K) (ha : a.length ≤ 40) (i : Nat) (h : i = b.length ∨ (i ≤ b.length ∧ 40 ≤ a.length + i)) (hi : a.length + i ≤ 40) : a ++ b.take i = (a ++ b).take 40 := by
  rw [List.take_append, List.take_of_length_le ha]
  congr 1
  rcases h with rfl | ⟨h1, h2⟩
  · rw [List.take_length, List.take_of_length_le (by omega)]
  · congr 1; omega
def sN : Nat → Nat
  | 0 => newId (siteOf 1 1) 0
  | _ + 1 => newId (siteOf 5 6) 0
theorem sN_even (k : Nat) : sN k % 2 = 0 := by
  cases k <;> exact newId_even _ _
theorem sev (k : Nat) (b : Bool) : (sN k % 2 == 0 || b) = true := by rw [sN_even]; rfl
theorem hs2 {a b c d e : Bool} {n : Nat} (hn : n % 2 = 0) (h : (a && b && c && d && e) = true) : (a && b && c && d && n % 2 == 0 && e) = true := by
  rw [hn]; simpa using h
theorem refSend (a b : List K) (ha : a.length ≤ 40) (hb : b.length ≤ 1000) : AF Tryd.prog X 46 [.isl 4 (a.map kC), .isl 4 (b.map kC)] (.isl 4 (((a ++ b).take 40).map kC)) := by
  have hcp := copyPacketsOut (X := X) a (by omega)
  have hlb : (b.map kC).length = b.length := List.length_map ..
  refine ac_mk (by kernel_rfl) Tryd.func46 rfl (lb rfl) rfl rfl ?_
  repeat (first | refine ao_e rfl rfl rfl rfl rfl ?_ | refine ao_eff (v := V.val (Value.bool true)) (ups := []) rfl rfl rfl rfl ?_ | refine ao_eff (v := V.val (Value.bool false)) (ups := []) rfl rfl rfl rfl ?_ | refine aw_seq ?_ | refine aw_region ?_ | refine aw_block ?_ | refine ao_nil ⟨fun h => (Bool.false_ne_true h).elim, ?_⟩ | refine ao_nil ⟨fun _ => ⟨by kernel_rfl, by kernel_rfl⟩, ?_⟩ | refine ao_skip rfl rfl rfl ?_ | refine aw_true rfl ?_ | refine aw_false rfl ?_ | refine aw_skip ?_ | refine aw_exit ?_)
  refine ao_out rfl rfl rfl rfl rfl rfl hcp ?_
  repeat (first | refine ao_e rfl rfl rfl rfl rfl ?_ | refine ao_eff (v := V.val (Value.bool true)) (ups := []) rfl rfl rfl rfl ?_ | refine ao_eff (v := V.val (Value.bool false)) (ups := []) rfl rfl rfl rfl ?_ | refine aw_seq ?_ | refine aw_region ?_ | refine aw_block ?_ | refine ao_nil ⟨fun h => (Bool.false_ne_true h).elim, ?_⟩ | refine ao_nil ⟨fun _ => ⟨by kernel_rfl, by kernel_rfl⟩, ?_⟩ | refine ao_skip rfl rfl rfl ?_ | refine aw_true rfl ?_ | refine aw_false rfl ?_ | refine aw_skip ?_ | refine aw_exit ?_)
  refine aw_rounds (T := Nat × List K) (fun t => t.1 ≤ b.length ∧ a.length + t.1 ≤ 40 ∧ t.2 = a ++ b.take t.1) (fun t => [.sl (sN t.1) 0 0 t.2.length, .isl 4 (b.map kC), .any, .any, .any, vi t.1]) (fun t => [(sN t.1, ⟨0, 4, true, true, t.2.map kC⟩)]) (fun t => 40 - t.1) (0, a) ⟨Nat.zero_le _, ha, by simp⟩ ?_ ?_ ?_
  · exact ⟨.sl _ _ _ _ _ _ _ rfl rfl rfl rfl, .same _ rfl, .any _, .any _, .any _, .same _ rfl, trivial⟩
  · exact ⟨renB_cl rfl rfl rfl rfl (sev _ _) rfl, trivial⟩
  rintro ⟨i, Q⟩ h0 ⟨hi, hi2, hQ⟩
  dsimp only at hi hi2 hQ ⊢
  have hQl : Q.length = a.length + i := by rw [hQ, List.length_append, List.length_take]; omega
  by_cases hlt : i < b.length
  · have hei : (b.map kC)[Int.toNat (i : Int)]? = some (kC b[i]) := by rw [Int.toNat_natCast, List.getElem?_map, List.getElem?_eq_getElem hlt]; rfl
    have hQ2 : Q ++ [b[i]] = a ++ b.take (i + 1) := by rw [hQ, List.take_succ_eq_append_getElem hlt, List.append_assoc]
    by_cases h4 : Q.length < 40
    · generalize b[i] = x at *
      cases i with
      | zero =>
        repeat (first | refine ao_e rfl rfl rfl rfl rfl ?_ | refine ao_eff (v := V.val (Value.bool true)) (ups := []) rfl rfl rfl rfl ?_ | refine ao_eff (v := V.val (Value.bool false)) (ups := []) rfl rfl rfl rfl ?_ | refine aw_seq ?_ | refine aw_region ?_ | refine aw_block ?_ | refine ao_nil ⟨fun h => (Bool.false_ne_true h).elim, ?_⟩ | refine ao_nil ⟨fun _ => ⟨by kernel_rfl, by kernel_rfl⟩, ?_⟩ | refine ao_skip rfl rfl rfl ?_ | refine aw_true rfl ?_ | refine aw_false rfl ?_ | refine aw_skip ?_ | refine aw_exit ?_)
        refine ao_yes rfl rfl rfl rfl (by omega) ?_
        repeat (first | refine ao_e rfl rfl rfl rfl rfl ?_ | refine ao_eff (v := V.val (Value.bool true)) (ups := []) rfl rfl rfl rfl ?_ | refine ao_eff (v := V.val (Value.bool false)) (ups := []) rfl rfl rfl rfl ?_ | refine aw_seq ?_ | refine aw_region ?_ | refine aw_block ?_ | refine ao_nil ⟨fun h => (Bool.false_ne_true h).elim, ?_⟩ | refine ao_nil ⟨fun _ => ⟨by kernel_rfl, by kernel_rfl⟩, ?_⟩ | refine ao_skip rfl rfl rfl ?_ | refine aw_true rfl ?_ | refine aw_false rfl ?_ | refine aw_skip ?_ | refine aw_exit ?_)
        refine ao_yes rfl rfl rfl rfl (by omega) ?_
        repeat (first | refine ao_e rfl rfl rfl rfl rfl ?_ | refine ao_eff (v := V.val (Value.bool true)) (ups := []) rfl rfl rfl rfl ?_ | refine ao_eff (v := V.val (Value.bool false)) (ups := []) rfl rfl rfl rfl ?_ | refine aw_seq ?_ | refine aw_region ?_ | refine aw_block ?_ | refine ao_nil ⟨fun h => (Bool.false_ne_true h).elim, ?_⟩ | refine ao_nil ⟨fun _ => ⟨by kernel_rfl, by kernel_rfl⟩, ?_⟩ | refine ao_skip rfl rfl rfl ?_ | refine aw_true rfl ?_ | refine aw_false rfl ?_ | refine aw_skip ?_ | refine aw_exit ?_)
        refine ao_e rfl rfl rfl rfl (ef_ix rfl rfl (by omega) hei) ?_
        repeat (first | refine ao_e rfl rfl rfl rfl rfl ?_ | refine ao_eff (v := V.val (Value.bool true)) (ups := []) rfl rfl rfl rfl ?_ | refine ao_eff (v := V.val (Value.bool false)) (ups := []) rfl rfl rfl rfl ?_ | refine aw_seq ?_ | refine aw_region ?_ | refine aw_block ?_ | refine ao_nil ⟨fun h => (Bool.false_ne_true h).elim, ?_⟩ | refine ao_nil ⟨fun _ => ⟨by kernel_rfl, by kernel_rfl⟩, ?_⟩ | refine ao_skip rfl rfl rfl ?_ | refine aw_true rfl ?_ | refine aw_false rfl ?_ | refine aw_skip ?_ | refine aw_exit ?_)
        refine ao_e rfl rfl rfl rfl (ef_push kC Q x 40 rfl rfl rfl rfl rfl rfl rfl rfl rfl (by omega)) ?_
        repeat (first | refine ao_e rfl rfl rfl rfl rfl ?_ | refine ao_eff (v := V.val (Value.bool true)) (ups := []) rfl rfl rfl rfl ?_ | refine ao_eff (v := V.val (Value.bool false)) (ups := []) rfl rfl rfl rfl ?_ | refine aw_seq ?_ | refine aw_region ?_ | refine aw_block ?_ | refine ao_nil ⟨fun h => (Bool.false_ne_true h).elim, ?_⟩ | refine ao_nil ⟨fun _ => ⟨by kernel_rfl, by kernel_rfl⟩, ?_⟩ | refine ao_skip rfl rfl rfl ?_ | refine aw_true rfl ?_ | refine aw_false rfl ?_ | refine aw_skip ?_ | refine aw_exit ?_)
        exact ⟨(0 + 1, Q ++ [x]), ⟨hlt, by dsimp only; omega, hQ2⟩, by dsimp only; omega, ⟨.sl _ _ _ _ _ _ _ rfl rfl rfl rfl, .same _ rfl, .any _, .any _, .any _, rsucc 0 (by decide), trivial⟩, ⟨renB_cl rfl rfl rfl rfl (sev _ _) rfl, trivial⟩⟩
      | succ k =>
        repeat (first | refine ao_e rfl rfl rfl rfl rfl ?_ | refine ao_eff (v := V.val (Value.bool true)) (ups := []) rfl rfl rfl rfl ?_ | refine ao_eff (v := V.val (Value.bool false)) (ups := []) rfl rfl rfl rfl ?_ | refine aw_seq ?_ | refine aw_region ?_ | refine aw_block ?_ | refine ao_nil ⟨fun h => (Bool.false_ne_true h).elim, ?_⟩ | refine ao_nil ⟨fun _ => ⟨by kernel_rfl, by kernel_rfl⟩, ?_⟩ | refine ao_skip rfl rfl rfl ?_ | refine aw_true rfl ?_ | refine aw_false rfl ?_ | refine aw_skip ?_ | refine aw_exit ?_)
        refine ao_yes rfl rfl rfl rfl (by omega) ?_
        repeat (first | refine ao_e rfl rfl rfl rfl rfl ?_ | refine ao_eff (v := V.val (Value.bool true)) (ups := []) rfl rfl rfl rfl ?_ | refine ao_eff (v := V.val (Value.bool false)) (ups := []) rfl rfl rfl rfl ?_ | refine aw_seq ?_ | refine aw_region ?_ | refine aw_block ?_ | refine ao_nil ⟨fun h => (Bool.false_ne_true h).elim, ?_⟩ | refine ao_nil ⟨fun _ => ⟨by kernel_rfl, by kernel_rfl⟩, ?_⟩ | refine ao_skip rfl rfl rfl ?_ | refine aw_true rfl ?_ | refine aw_false rfl ?_ | refine aw_skip ?_ | refine aw_exit ?_)
        refine ao_yes rfl rfl rfl rfl (by omega) ?_
        repeat (first | refine ao_e rfl rfl rfl rfl rfl ?_ | refine ao_eff (v := V.val (Value.bool true)) (ups := []) rfl rfl rfl rfl ?_ | refine ao_eff (v := V.val (Value.bool false)) (ups := []) rfl rfl rfl rfl ?_ | refine aw_seq ?_ | refine aw_region ?_ | refine aw_block ?_ | refine ao_nil ⟨fun h => (Bool.false_ne_true h).elim, ?_⟩ | refine ao_nil ⟨fun _ => ⟨by kernel_rfl, by kernel_rfl⟩, ?_⟩ | refine ao_skip rfl rfl rfl ?_ | refine aw_true rfl ?_ | refine aw_false rfl ?_ | refine aw_skip ?_ | refine aw_exit ?_)
        refine ao_e rfl rfl rfl rfl (ef_ix rfl rfl (by omega) hei) ?_
        repeat (first | refine ao_e rfl rfl rfl rfl rfl ?_ | refine ao_eff (v := V.val (Value.bool true)) (ups := []) rfl rfl rfl rfl ?_ | refine ao_eff (v := V.val (Value.bool false)) (ups := []) rfl rfl rfl rfl ?_ | refine aw_seq ?_ | refine aw_region ?_ | refine aw_block ?_ | refine ao_nil ⟨fun h => (Bool.false_ne_true h).elim, ?_⟩ | refine ao_nil ⟨fun _ => ⟨by kernel_rfl, by kernel_rfl⟩, ?_⟩ | refine ao_skip rfl rfl rfl ?_ | refine aw_true rfl ?_ | refine aw_false rfl ?_ | refine aw_skip ?_ | refine aw_exit ?_)
        refine ao_e rfl rfl rfl rfl (ef_push kC Q x 40 rfl rfl rfl rfl rfl (hs2 (sN_even _) rfl) rfl rfl rfl (by omega)) ?_
        repeat (first | refine ao_e rfl rfl rfl rfl rfl ?_ | refine ao_eff (v := V.val (Value.bool true)) (ups := []) rfl rfl rfl rfl ?_ | refine ao_eff (v := V.val (Value.bool false)) (ups := []) rfl rfl rfl rfl ?_ | refine aw_seq ?_ | refine aw_region ?_ | refine aw_block ?_ | refine ao_nil ⟨fun h => (Bool.false_ne_true h).elim, ?_⟩ | refine ao_nil ⟨fun _ => ⟨by kernel_rfl, by kernel_rfl⟩, ?_⟩ | refine ao_skip rfl rfl rfl ?_ | refine aw_true rfl ?_ | refine aw_false rfl ?_ | refine aw_skip ?_ | refine aw_exit ?_)
        exact ⟨(k + 1 + 1, Q ++ [x]), ⟨hlt, by dsimp only; omega, hQ2⟩, by dsimp only; omega, ⟨.sl _ _ _ _ _ _ _ rfl rfl rfl rfl, .same _ rfl, .any _, .any _, .any _, rsucc (k + 1) (by omega), trivial⟩, ⟨renB_cl rfl rfl rfl rfl (sev _ _) rfl, trivial⟩⟩
    · have hst : a ++ b.take i = (a ++ b).take 40 := take_app a b ha i (.inr ⟨hi, by omega⟩) hi2
      cases i
      all_goals
        repeat (first | refine ao_e rfl rfl rfl rfl rfl ?_ | refine ao_eff (v := V.val (Value.bool true)) (ups := []) rfl rfl rfl rfl ?_ | refine ao_eff (v := V.val (Value.bool false)) (ups := []) rfl rfl rfl rfl ?_ | refine aw_seq ?_ | refine aw_region ?_ | refine aw_block ?_ | refine ao_nil ⟨fun h => (Bool.false_ne_true h).elim, ?_⟩ | refine ao_nil ⟨fun _ => ⟨by kernel_rfl, by kernel_rfl⟩, ?_⟩ | refine ao_skip rfl rfl rfl ?_ | refine aw_true rfl ?_ | refine aw_false rfl ?_ | refine aw_skip ?_ | refine aw_exit ?_)
        refine ao_yes rfl rfl rfl rfl (by omega) ?_
        repeat (first | refine ao_e rfl rfl rfl rfl rfl ?_ | refine ao_eff (v := V.val (Value.bool true)) (ups := []) rfl rfl rfl rfl ?_ | refine ao_eff (v := V.val (Value.bool false)) (ups := []) rfl rfl rfl rfl ?_ | refine aw_seq ?_ | refine aw_region ?_ | refine aw_block ?_ | refine ao_nil ⟨fun h => (Bool.false_ne_true h).elim, ?_⟩ | refine ao_nil ⟨fun _ => ⟨by kernel_rfl, by kernel_rfl⟩, ?_⟩ | refine ao_skip rfl rfl rfl ?_ | refine aw_true rfl ?_ | refine aw_false rfl ?_ | refine aw_skip ?_ | refine aw_exit ?_)
        refine ao_no rfl rfl rfl rfl (by omega) ?_
        repeat (first | refine ao_e rfl rfl rfl rfl rfl ?_ | refine ao_eff (v := V.val (Value.bool true)) (ups := []) rfl rfl rfl rfl ?_ | refine ao_eff (v := V.val (Value.bool false)) (ups := []) rfl rfl rfl rfl ?_ | refine aw_seq ?_ | refine aw_region ?_ | refine aw_block ?_ | refine ao_nil ⟨fun h => (Bool.false_ne_true h).elim, ?_⟩ | refine ao_nil ⟨fun _ => ⟨by kernel_rfl, by kernel_rfl⟩, ?_⟩ | refine ao_skip rfl rfl rfl ?_ | refine aw_true rfl ?_ | refine aw_false rfl ?_ | refine aw_skip ?_ | refine aw_exit ?_)
        refine aw_canon [.any, .any, .any, .any, .isl 4 (Q.map kC)] [] ⟨.any _, .any _, .any _, .any _, ren_frz kC Q rfl (by first | rfl | (rw [sN_even]; rfl)) rfl rfl rfl (by first | rfl | (show odds _ _ = none; unfold odds; rw [sN_even]; rfl)), trivial⟩ trivial (fun h0 => ?_)
        refine aw_ret ⟨.inr rfl, _, _, _, _, _, rfl, rfl, rfl, rfl, ?_, rfl⟩
        exact congrArg (fun l : List K => V.isl 4 (l.map kC)) (hst.symm.trans hQ.symm)
  · have hst : a ++ b.take i = (a ++ b).take 40 := take_app a b ha i (.inl (by omega)) hi2
    cases i
    all_goals
      repeat (first | refine ao_e rfl rfl rfl rfl rfl ?_ | refine ao_eff (v := V.val (Value.bool true)) (ups := []) rfl rfl rfl rfl ?_ | refine ao_eff (v := V.val (Value.bool false)) (ups := []) rfl rfl rfl rfl ?_ | refine aw_seq ?_ | refine aw_region ?_ | refine aw_block ?_ | refine ao_nil ⟨fun h => (Bool.false_ne_true h).elim, ?_⟩ | refine ao_nil ⟨fun _ => ⟨by kernel_rfl, by kernel_rfl⟩, ?_⟩ | refine ao_skip rfl rfl rfl ?_ | refine aw_true rfl ?_ | refine aw_false rfl ?_ | refine aw_skip ?_ | refine aw_exit ?_)
      refine ao_no rfl rfl rfl rfl (by omega) ?_
      repeat (first | refine ao_e rfl rfl rfl rfl rfl ?_ | refine ao_eff (v := V.val (Value.bool true)) (ups := []) rfl rfl rfl rfl ?_ | refine ao_eff (v := V.val (Value.bool false)) (ups := []) rfl rfl rfl rfl ?_ | refine aw_seq ?_ | refine aw_region ?_ | refine aw_block ?_ | refine ao_nil ⟨fun h => (Bool.false_ne_true h).elim, ?_⟩ | refine ao_nil ⟨fun _ => ⟨by kernel_rfl, by kernel_rfl⟩, ?_⟩ | refine ao_skip rfl rfl rfl ?_ | refine aw_true rfl ?_ | refine aw_false rfl ?_ | refine aw_skip ?_ | refine aw_exit ?_)
      refine aw_canon [.any, .any, .any, .any, .isl 4 (Q.map kC)] [] ⟨.any _, .any _, .any _, .any _, ren_frz kC Q rfl (by first | rfl | (rw [sN_even]; rfl)) rfl rfl rfl (by first | rfl | (show odds _ _ = none; unfold odds; rw [sN_even]; rfl)), trivial⟩ trivial (fun h0 => ?_)
      refine aw_ret ⟨.inr rfl, _, _, _, _, _, rfl, rfl, rfl, rfl, ?_, rfl⟩
      exact congrArg (fun l : List K => V.isl 4 (l.map kC)) (hst.symm.trans hQ.symm)
end Go.Ai
