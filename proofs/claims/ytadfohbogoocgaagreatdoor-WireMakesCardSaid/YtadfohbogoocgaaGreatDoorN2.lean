/- A part of the proof: what the program does, step by step, over values without addresses. No conditions of mine. -/
import Derived.Test.YtadfohbogoocgaaGreatDoorN1
import Derived.Test.YtadfohbogoocgaaGreatDoorAiVb
set_option linter.unusedVariables false
set_option linter.unusedSimpArgs false
namespace Go.Ai
open Go Go.RowKit Go.Proofs
variable {X : FuncId → List V → List (Nat × List V) → V → List (Nat × List V) → List Blk → Prop}
set_option maxRecDepth 10000
set_option linter.unusedVariables false
set_option linter.unusedSimpArgs false

theorem wr8 (x : Int) : IntKind.u8.wrap x = x % 256 := by unfold IntKind.wrap; simp [IntKind.bits, IntKind.signed]
theorem bytesCells (xs : List Int) : (cellsU8 xs).mapM cellByte = some (xs.map fun x => UInt8.ofNat x.toNat) := cells_bytes xs
theorem numBytes (n : Nat) (hn : n < 9223372036854775808) : AF Tryz.prog X 49 [vi n] (vs (strOfNums (vb n))) := by
  refine ac_mk (by kernel_rfl) Tryz.func49 rfl (lb rfl) rfl rfl ?_
  repeat (first | refine ao_e rfl rfl rfl rfl rfl ?_ | refine ao_eff (v := V.val (Value.bool true)) (ups := []) rfl rfl rfl rfl ?_ | refine ao_eff (v := V.val (Value.bool false)) (ups := []) rfl rfl rfl rfl ?_ | refine aw_seq ?_ | refine aw_region ?_ | refine aw_block ?_ | refine ao_nil ⟨fun h => (Bool.false_ne_true h).elim, ?_⟩ | refine ao_nil ⟨fun _ => ⟨by kernel_rfl, by kernel_rfl⟩, ?_⟩ | refine ao_skip rfl rfl rfl ?_ | refine aw_true rfl ?_ | refine aw_false rfl ?_ | refine aw_skip ?_ | refine aw_exit ?_)
  refine aw_virt 3 (newId (siteOf 3 6) 0) 1 rfl ?_
  refine aw_rounds (T := Nat × List Int) (fun t => t.1 < 9223372036854775808 ∧ t.2 ++ vb t.1 = vb n) (fun t => [vi t.1, .any, .any, .sl (newId (siteOf 3 6) 0) 0 0 t.2.length]) (fun t => [(newId (siteOf 3 6) 0, ⟨0, 1, true, true, cellsU8 t.2⟩)]) (fun t => t.1) ⟨n, []⟩ ⟨hn, rfl⟩ ?_ ?_ ?_
  · exact ⟨.same _ rfl, .any _, .any _, .sl _ _ _ _ _ _ _ rfl rfl rfl rfl, trivial⟩
  · exact ⟨renB_cl rfl rfl rfl rfl rfl rfl, trivial⟩
  rintro ⟨m, xs⟩ h0 ⟨hm, hI⟩
  dsimp only at hm hI ⊢
  have hl : xs.length ≤ 8 := by have h1 := congrArg List.length hI; have h2 := vb_len9 n hn; have h3 := vb_ne m; simp only [List.length_append] at h1; omega
  repeat (first | refine ao_e rfl rfl rfl rfl rfl ?_ | refine ao_eff (v := V.val (Value.bool true)) (ups := []) rfl rfl rfl rfl ?_ | refine ao_eff (v := V.val (Value.bool false)) (ups := []) rfl rfl rfl rfl ?_ | refine aw_seq ?_ | refine aw_region ?_ | refine aw_block ?_ | refine ao_nil ⟨fun h => (Bool.false_ne_true h).elim, ?_⟩ | refine ao_nil ⟨fun _ => ⟨by kernel_rfl, by kernel_rfl⟩, ?_⟩ | refine ao_skip rfl rfl rfl ?_ | refine aw_true rfl ?_ | refine aw_false rfl ?_ | refine aw_skip ?_ | refine aw_exit ?_)
  refine ao_dec rfl rfl rfl rfl (fun hb => ?_) (fun hb => ?_)
  · have hb : ¬ m < 128 := by omega
    rw [vb_big hb] at hI
    repeat (first | refine ao_eff (v := V.val (Value.bool true)) (ups := []) rfl rfl rfl rfl ?_ | refine ao_eff (v := V.val (Value.bool false)) (ups := []) rfl rfl rfl rfl ?_ | refine aw_seq ?_ | refine aw_region ?_ | refine aw_block ?_ | refine ao_nil ⟨fun h => (Bool.false_ne_true h).elim, ?_⟩ | refine ao_nil ⟨fun _ => ⟨by kernel_rfl, by kernel_rfl⟩, ?_⟩ | refine aw_true rfl ?_ | refine aw_false rfl ?_ | refine aw_skip ?_ | refine aw_exit ?_)
    iterate 4 refine ao_e rfl rfl rfl rfl rfl ?_
    refine ao_is ((m % 128 + 128 : Nat) : Int) rfl rfl rfl rfl ?_ ?_
    · rw [Int.tmod_eq_emod_of_nonneg (by omega), wr8, wr64, w64 (by omega) (by omega)]; omega
    refine ao_e rfl rfl rfl rfl rfl ?_
    refine ao_eff rfl rfl rfl (ef_push u8 xs ((m % 128 + 128 : Nat) : Int) 1 rfl rfl rfl rfl rfl rfl rfl rfl rfl (by omega)) ?_
    refine ao_e rfl rfl rfl rfl rfl ?_
    repeat (first | refine ao_eff (v := V.val (Value.bool true)) (ups := []) rfl rfl rfl rfl ?_ | refine ao_eff (v := V.val (Value.bool false)) (ups := []) rfl rfl rfl rfl ?_ | refine aw_seq ?_ | refine aw_region ?_ | refine aw_block ?_ | refine ao_nil ⟨fun h => (Bool.false_ne_true h).elim, ?_⟩ | refine ao_nil ⟨fun _ => ⟨by kernel_rfl, by kernel_rfl⟩, ?_⟩ | refine aw_true rfl ?_ | refine aw_false rfl ?_ | refine aw_skip ?_ | refine aw_exit ?_)
    refine ao_e rfl rfl rfl rfl rfl ?_
    refine ao_is ((m / 128 : Nat) : Int) rfl rfl rfl rfl ?_ ?_
    · rw [Int.tdiv_eq_ediv_of_nonneg (by omega), wr64, w64 (by omega) (by omega)]; omega
    repeat (first | refine ao_e rfl rfl rfl rfl rfl ?_ | refine ao_eff (v := V.val (Value.bool true)) (ups := []) rfl rfl rfl rfl ?_ | refine ao_eff (v := V.val (Value.bool false)) (ups := []) rfl rfl rfl rfl ?_ | refine aw_seq ?_ | refine aw_region ?_ | refine aw_block ?_ | refine ao_nil ⟨fun h => (Bool.false_ne_true h).elim, ?_⟩ | refine ao_nil ⟨fun _ => ⟨by kernel_rfl, by kernel_rfl⟩, ?_⟩ | refine ao_skip rfl rfl rfl ?_ | refine aw_true rfl ?_ | refine aw_false rfl ?_ | refine aw_skip ?_ | refine aw_exit ?_)
    exact ⟨(m / 128, xs ++ [((m % 128 + 128 : Nat) : Int)]), ⟨by omega, by simpa using hI⟩, by dsimp only; omega, ⟨.same _ rfl, .any _, .any _, .sl _ _ _ _ _ _ _ rfl rfl rfl rfl, trivial⟩, ⟨renB_cl rfl rfl rfl rfl rfl rfl, trivial⟩⟩
  · have hb : m < 128 := by omega
    rw [vb_small hb] at hI
    repeat (first | refine ao_eff (v := V.val (Value.bool true)) (ups := []) rfl rfl rfl rfl ?_ | refine ao_eff (v := V.val (Value.bool false)) (ups := []) rfl rfl rfl rfl ?_ | refine aw_seq ?_ | refine aw_region ?_ | refine aw_block ?_ | refine ao_nil ⟨fun h => (Bool.false_ne_true h).elim, ?_⟩ | refine ao_nil ⟨fun _ => ⟨by kernel_rfl, by kernel_rfl⟩, ?_⟩ | refine aw_true rfl ?_ | refine aw_false rfl ?_ | refine aw_skip ?_ | refine aw_exit ?_)
    iterate 2 refine ao_e rfl rfl rfl rfl rfl ?_
    refine ao_is (m : Int) rfl rfl rfl rfl ?_ ?_
    · rw [wr8]; omega
    refine ao_e rfl rfl rfl rfl rfl ?_
    refine ao_eff rfl rfl rfl (ef_push u8 xs (m : Int) 1 rfl rfl rfl rfl rfl rfl rfl rfl rfl (by omega)) ?_
    refine ao_eff rfl rfl rfl (ef_str8 (xs ++ [(m : Int)]) rfl rfl rfl rfl rfl rfl rfl) ?_
    repeat (first | refine ao_e rfl rfl rfl rfl rfl ?_ | refine ao_eff (v := V.val (Value.bool true)) (ups := []) rfl rfl rfl rfl ?_ | refine ao_eff (v := V.val (Value.bool false)) (ups := []) rfl rfl rfl rfl ?_ | refine aw_seq ?_ | refine aw_region ?_ | refine aw_block ?_ | refine ao_nil ⟨fun h => (Bool.false_ne_true h).elim, ?_⟩ | refine ao_nil ⟨fun _ => ⟨by kernel_rfl, by kernel_rfl⟩, ?_⟩ | refine ao_skip rfl rfl rfl ?_ | refine aw_true rfl ?_ | refine aw_false rfl ?_ | refine aw_skip ?_ | refine aw_exit ?_)
    refine aw_ret ⟨.inr rfl, _, _, _, _, _, rfl, rfl, rfl, rfl, ?_, rfl⟩
    rw [hI]; rfl
end Go.Ai
