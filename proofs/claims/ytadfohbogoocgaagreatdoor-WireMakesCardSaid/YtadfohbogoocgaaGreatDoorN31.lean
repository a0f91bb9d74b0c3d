/- A part of the proof: what the program does, step by step, over values without addresses. No conditions of mine. -/
import Derived.Test.YtadfohbogoocgaaGreatDoorN16
import Derived.Test.YtadfohbogoocgaaGreatDoorN22
import Derived.Test.YtadfohbogoocgaaGreatDoorN30
import Derived.Test.YtadfohbogoocgaaGreatDoorCoreAiHtoAiSk
set_option linter.unusedVariables false
set_option linter.unusedSimpArgs false
namespace Go.Ai
open Go Go.RowKit Go.Proofs Go.Sp
set_option maxRecDepth 10000
set_option maxHeartbeats 8000000
set_option linter.unusedVariables false
set_option linter.unusedSimpArgs false
/-- What taking a message tells. -/
def tkMB : Option M → V
  | some m => .tup [.agg (mC m), vo true]
  | none => .tup [.agg (mC m0), vo false]
def tkHl (m : M) (q : Pt) : List O → List (Nat × Blk)
  | [] => tH q (mCw m .emp)
  | o :: l => tH q (mCw m (.sl (newId (siteOf 7 5) 0) 0 0 (o :: l).length)) ++ [(newId (siteOf 7 5) 0, ⟨0, 11, true, true, (o :: l).map oC⟩)]
theorem refTakeM {l : List Int} (hf : Few 100000 (l, false)) : AF Tryz.prog XX 33 [vs (strOfNums l)] (tkMB (rkM (l, false))) := by
  refine ac_mk (by kernel_rfl) Tryz.func33 rfl (lb rfl) rfl (by unfold tkMB; split <;> rfl) ?_
  have fg : ∀ q : Pt, Few 100000 q → GoodP q := fun q h => ⟨h.1, Nat.lt_of_le_of_lt h.2 (by decide)⟩
  have hA := tkrNumber (X := XX) (fg _ hf)
  have gA := rkN_few hf
  have hB := tkrNumber (X := XX) (fg _ gA.1)
  have gB := rkN_few gA.1
  have hC := tkrNumber (X := XX) (fg _ gB.1)
  have gC := rkN_few gB.1
  have hD := tkrNumber (X := XX) (fg _ gC.1)
  have gD := rkN_few gC.1
  have hF := tkrNumber (X := XX) (fg _ gD.1)
  have gF := rkN_few gD.1
  have hG := tkrNumber (X := XX) (fg _ gF.1)
  have gG := rkN_few gF.1
  have hN := tkrNumber (X := XX) (fg _ gG.1)
  have gN := rkN_few gG.1
  have e : rkM (l, false) = rkM7 (rkN (l, false)).1 (rkN (rkN (l, false)).2).1 (rkN (rkN (rkN (l, false)).2).2).1 (rkN (rkN (rkN (rkN (l, false)).2).2).2).1 (rkN (rkN (rkN (rkN (rkN (l, false)).2).2).2).2).1 (rkN (rkN (rkN (rkN (rkN (rkN (l, false)).2).2).2).2).2).1 (rkN (rkN (rkN (rkN (rkN (rkN (rkN (l, false)).2).2).2).2).2).2) := rfl
  rw [e]
  generalize rkN (l, false) = A at *
  generalize rkN A.2 = B at *
  generalize rkN B.2 = C at *
  generalize rkN C.2 = D at *
  generalize rkN D.2 = F at *
  generalize rkN F.2 = G at *
  generalize rkN G.2 = N at *
  unfold rkM7
  obtain ⟨m, hm⟩ : ∃ m : Nat, N.1.toNat = m := ⟨_, rfl⟩
  have hm1 : N.1 = (m : Int) := by omega
  have hm2 : m ≤ 268435456 := by omega
  rw [hm1] at hN
  rw [hm]
  repeat (first | refine ao_e rfl rfl rfl rfl rfl ?_ | refine ao_eff (v := V.val (Value.bool true)) (ups := []) rfl rfl rfl rfl ?_ | refine ao_eff (v := V.val (Value.bool false)) (ups := []) rfl rfl rfl rfl ?_ | refine aw_seq ?_ | refine aw_region ?_ | refine aw_block ?_ | refine ao_nil ⟨fun h => (Bool.false_ne_true h).elim, ?_⟩ | refine ao_nil ⟨fun _ => ⟨by kernel_rfl, by kernel_rfl⟩, ?_⟩ | refine ao_skip rfl rfl rfl ?_ | refine aw_true rfl ?_ | refine aw_false rfl ?_ | refine aw_skip ?_ | refine aw_exit ?_)
  refine ao_meth rfl rfl rfl rfl rfl rfl rfl rfl hA ?_
  repeat (first | refine ao_e rfl rfl rfl rfl rfl ?_ | refine ao_eff (v := V.val (Value.bool true)) (ups := []) rfl rfl rfl rfl ?_ | refine ao_eff (v := V.val (Value.bool false)) (ups := []) rfl rfl rfl rfl ?_ | refine aw_seq ?_ | refine aw_region ?_ | refine aw_block ?_ | refine ao_nil ⟨fun h => (Bool.false_ne_true h).elim, ?_⟩ | refine ao_nil ⟨fun _ => ⟨by kernel_rfl, by kernel_rfl⟩, ?_⟩ | refine ao_skip rfl rfl rfl ?_ | refine aw_true rfl ?_ | refine aw_false rfl ?_ | refine aw_skip ?_ | refine aw_exit ?_)
  refine ao_meth rfl rfl rfl rfl rfl rfl rfl rfl hB ?_
  repeat (first | refine ao_e rfl rfl rfl rfl rfl ?_ | refine ao_eff (v := V.val (Value.bool true)) (ups := []) rfl rfl rfl rfl ?_ | refine ao_eff (v := V.val (Value.bool false)) (ups := []) rfl rfl rfl rfl ?_ | refine aw_seq ?_ | refine aw_region ?_ | refine aw_block ?_ | refine ao_nil ⟨fun h => (Bool.false_ne_true h).elim, ?_⟩ | refine ao_nil ⟨fun _ => ⟨by kernel_rfl, by kernel_rfl⟩, ?_⟩ | refine ao_skip rfl rfl rfl ?_ | refine aw_true rfl ?_ | refine aw_false rfl ?_ | refine aw_skip ?_ | refine aw_exit ?_)
  refine ao_meth rfl rfl rfl rfl rfl rfl rfl rfl hC ?_
  repeat (first | refine ao_e rfl rfl rfl rfl rfl ?_ | refine ao_eff (v := V.val (Value.bool true)) (ups := []) rfl rfl rfl rfl ?_ | refine ao_eff (v := V.val (Value.bool false)) (ups := []) rfl rfl rfl rfl ?_ | refine aw_seq ?_ | refine aw_region ?_ | refine aw_block ?_ | refine ao_nil ⟨fun h => (Bool.false_ne_true h).elim, ?_⟩ | refine ao_nil ⟨fun _ => ⟨by kernel_rfl, by kernel_rfl⟩, ?_⟩ | refine ao_skip rfl rfl rfl ?_ | refine aw_true rfl ?_ | refine aw_false rfl ?_ | refine aw_skip ?_ | refine aw_exit ?_)
  refine ao_meth rfl rfl rfl rfl rfl rfl rfl rfl hD ?_
  repeat (first | refine ao_e rfl rfl rfl rfl rfl ?_ | refine ao_eff (v := V.val (Value.bool true)) (ups := []) rfl rfl rfl rfl ?_ | refine ao_eff (v := V.val (Value.bool false)) (ups := []) rfl rfl rfl rfl ?_ | refine aw_seq ?_ | refine aw_region ?_ | refine aw_block ?_ | refine ao_nil ⟨fun h => (Bool.false_ne_true h).elim, ?_⟩ | refine ao_nil ⟨fun _ => ⟨by kernel_rfl, by kernel_rfl⟩, ?_⟩ | refine ao_skip rfl rfl rfl ?_ | refine aw_true rfl ?_ | refine aw_false rfl ?_ | refine aw_skip ?_ | refine aw_exit ?_)
  refine ao_meth rfl rfl rfl rfl rfl rfl rfl rfl hF ?_
  repeat (first | refine ao_e rfl rfl rfl rfl rfl ?_ | refine ao_eff (v := V.val (Value.bool true)) (ups := []) rfl rfl rfl rfl ?_ | refine ao_eff (v := V.val (Value.bool false)) (ups := []) rfl rfl rfl rfl ?_ | refine aw_seq ?_ | refine aw_region ?_ | refine aw_block ?_ | refine ao_nil ⟨fun h => (Bool.false_ne_true h).elim, ?_⟩ | refine ao_nil ⟨fun _ => ⟨by kernel_rfl, by kernel_rfl⟩, ?_⟩ | refine ao_skip rfl rfl rfl ?_ | refine aw_true rfl ?_ | refine aw_false rfl ?_ | refine aw_skip ?_ | refine aw_exit ?_)
  refine ao_meth rfl rfl rfl rfl rfl rfl rfl rfl hG ?_
  repeat (first | refine ao_e rfl rfl rfl rfl rfl ?_ | refine ao_eff (v := V.val (Value.bool true)) (ups := []) rfl rfl rfl rfl ?_ | refine ao_eff (v := V.val (Value.bool false)) (ups := []) rfl rfl rfl rfl ?_ | refine aw_seq ?_ | refine aw_region ?_ | refine aw_block ?_ | refine ao_nil ⟨fun h => (Bool.false_ne_true h).elim, ?_⟩ | refine ao_nil ⟨fun _ => ⟨by kernel_rfl, by kernel_rfl⟩, ?_⟩ | refine ao_skip rfl rfl rfl ?_ | refine aw_true rfl ?_ | refine aw_false rfl ?_ | refine aw_skip ?_ | refine aw_exit ?_)
  refine ao_meth rfl rfl rfl rfl rfl rfl rfl rfl hN ?_
  refine ao_e rfl rfl rfl rfl rfl ?_
  refine ao_nil ⟨fun h => (Bool.false_ne_true h).elim, ?_⟩
  refine aw_seq ?_
  refine aw_mono (Q := fun x σ' => x = .normal ∧ ∃ (M1 : M) (q : Pt), fkM ⟨A.1, B.1, C.1, D.1, F.1, G.1, (rkOs m N.2).1⟩ (rkOs m N.2).2 = fkM M1 q ∧ (∀ o ∈ M1.f6, o.f4.size ≤ 100000 ∧ o.f5.length < 4611686018427387904) ∧ M1.f6.length ≤ 268435456 ∧ True ∧
    renL σ'.h (tH q (mC M1)) (.any :: .any :: .ptr (newId (siteOf 0 0) 0) 0 0 0 :: vo false :: .ptr (newId (siteOf 1 2) 0) 0 0 0 :: .ptr (newId (siteOf 2 13) 0) 0 0 0 :: [vi (m : Nat)]) σ'.s 0 ∧ renH σ'.h (tH q (mC M1)) (tH q (mC M1))) ?_ ?_
  · repeat (first | refine ao_e rfl rfl rfl rfl rfl ?_ | refine ao_eff (v := V.val (Value.bool true)) (ups := []) rfl rfl rfl rfl ?_ | refine ao_eff (v := V.val (Value.bool false)) (ups := []) rfl rfl rfl rfl ?_ | refine aw_seq ?_ | refine aw_region ?_ | refine aw_block ?_ | refine ao_nil ⟨fun h => (Bool.false_ne_true h).elim, ?_⟩ | refine ao_nil ⟨fun _ => ⟨by kernel_rfl, by kernel_rfl⟩, ?_⟩ | refine ao_skip rfl rfl rfl ?_ | refine aw_true rfl ?_ | refine aw_false rfl ?_ | refine aw_skip ?_ | refine aw_exit ?_)
    refine aw_rounds (T := List O × Pt) (fun t => t.1.length ≤ m ∧ Few 100000 t.2 ∧ (∀ o ∈ t.1, o.f4.size ≤ 100000 ∧ o.f5.length < 4611686018427387904) ∧ rkOs m N.2 = (t.1 ++ (rkOs (m - t.1.length) t.2).1, (rkOs (m - t.1.length) t.2).2)) (fun t => .any :: .any :: .ptr (newId (siteOf 0 0) 0) 0 0 0 :: vo false :: .ptr (newId (siteOf 1 2) 0) 0 0 0 :: .ptr (newId (siteOf 2 13) 0) 0 0 0 :: [vi (m : Nat), vi (t.1.length : Nat)]) (fun t => tkHl ⟨A.1, B.1, C.1, D.1, F.1, G.1, []⟩ t.2 t.1) (fun t => m - t.1.length) ([], N.2) ⟨Nat.zero_le _, gN.1, nofun, rfl⟩ ?_ ?_ ?_
    · exact ⟨.any _, .any _, .ptr _ _ _ _ _ _ _ rfl rfl rfl rfl, .same _ rfl, .ptr _ _ _ _ _ _ _ rfl rfl rfl rfl, .ptr _ _ _ _ _ _ _ rfl rfl rfl rfl, .same _ rfl, .same _ rfl, trivial⟩
    · exact ⟨renB_row rfl rfl rfl rfl rfl rfl rfl ⟨nofun, .same _ rfl, nofun, .same _ rfl, nofun, .same _ rfl, nofun, .same _ rfl, nofun, .same _ rfl, nofun, .same _ rfl, nofun, .nil _, trivial⟩, renB_cl rfl rfl rfl rfl rfl rfl, renB_cl rfl rfl rfl rfl rfl rfl, trivial⟩
    rintro ⟨acc, q⟩ h0 ⟨hl, gq, hft, hI⟩
    dsimp only at hl gq hft hI ⊢
    have hE := tkrOp gq
    have gE := rkO_few gq
    by_cases hlt : acc.length < m
    · obtain ⟨q1, q2⟩ := q
      have hs : m - acc.length = (m - (acc.length + 1)) + 1 := by omega
      cases q2
      · have hI2 : rkOs m N.2 = ((acc ++ [(rkO (q1, false)).1]) ++ (rkOs (m - (acc.length + 1)) (rkO (q1, false)).2).1, (rkOs (m - (acc.length + 1)) (rkO (q1, false)).2).2) := by
          rw [hI, hs]; simp [rkOs]
        have hft2 : ∀ o ∈ acc ++ [(rkO (q1, false)).1], o.f4.size ≤ 100000 ∧ o.f5.length < 4611686018427387904 := by
          intro o ho
          rcases List.mem_append.1 ho with ho | ho
          · exact hft o ho
          · simp at ho; subst ho; exact ⟨gE.2.1, by have := gE.2.2; omega⟩
        generalize rkO (q1, false) = R at *
        cases acc with
        | nil =>
          repeat (first | refine ao_e rfl rfl rfl rfl rfl ?_ | refine ao_eff (v := V.val (Value.bool true)) (ups := []) rfl rfl rfl rfl ?_ | refine ao_eff (v := V.val (Value.bool false)) (ups := []) rfl rfl rfl rfl ?_ | refine aw_seq ?_ | refine aw_region ?_ | refine aw_block ?_ | refine ao_nil ⟨fun h => (Bool.false_ne_true h).elim, ?_⟩ | refine ao_nil ⟨fun _ => ⟨by kernel_rfl, by kernel_rfl⟩, ?_⟩ | refine ao_skip rfl rfl rfl ?_ | refine aw_true rfl ?_ | refine aw_false rfl ?_ | refine aw_skip ?_ | refine aw_exit ?_)
          refine ao_yes rfl rfl rfl rfl (by simp only [List.length_nil] at hlt ⊢; omega) ?_
          repeat (first | refine ao_e rfl rfl rfl rfl rfl ?_ | refine ao_eff (v := V.val (Value.bool true)) (ups := []) rfl rfl rfl rfl ?_ | refine ao_eff (v := V.val (Value.bool false)) (ups := []) rfl rfl rfl rfl ?_ | refine aw_seq ?_ | refine aw_region ?_ | refine aw_block ?_ | refine ao_nil ⟨fun h => (Bool.false_ne_true h).elim, ?_⟩ | refine ao_nil ⟨fun _ => ⟨by kernel_rfl, by kernel_rfl⟩, ?_⟩ | refine ao_skip rfl rfl rfl ?_ | refine aw_true rfl ?_ | refine aw_false rfl ?_ | refine aw_skip ?_ | refine aw_exit ?_)
          refine ao_meth rfl rfl rfl rfl rfl rfl rfl rfl hE ?_
          repeat (first | refine ao_e rfl rfl rfl rfl rfl ?_ | refine ao_eff (v := V.val (Value.bool true)) (ups := []) rfl rfl rfl rfl ?_ | refine ao_eff (v := V.val (Value.bool false)) (ups := []) rfl rfl rfl rfl ?_ | refine aw_seq ?_ | refine aw_region ?_ | refine aw_block ?_ | refine ao_nil ⟨fun h => (Bool.false_ne_true h).elim, ?_⟩ | refine ao_nil ⟨fun _ => ⟨by kernel_rfl, by kernel_rfl⟩, ?_⟩ | refine ao_skip rfl rfl rfl ?_ | refine aw_true rfl ?_ | refine aw_false rfl ?_ | refine aw_skip ?_ | refine aw_exit ?_)
          exact ⟨([R.1], R.2), ⟨by simp only [List.length_nil, List.length_singleton] at hlt ⊢; omega, gE.1, hft2, hI2⟩, by simp only [List.length_nil, List.length_singleton] at hlt ⊢; omega, ⟨.any _, .any _, .ptr _ _ _ _ _ _ _ rfl rfl rfl rfl, .same _ rfl, .ptr _ _ _ _ _ _ _ rfl rfl rfl rfl, .ptr _ _ _ _ _ _ _ rfl rfl rfl rfl, .same _ rfl, rsucc 0 (by decide), trivial⟩, ⟨renB_cl rfl rfl rfl rfl rfl rfl, renB_cl rfl rfl rfl rfl rfl rfl, renB_row rfl rfl rfl rfl rfl rfl rfl ⟨nofun, .same _ rfl, nofun, .same _ rfl, nofun, .same _ rfl, nofun, .same _ rfl, nofun, .same _ rfl, nofun, .same _ rfl, nofun, .sl _ _ _ _ _ _ _ rfl rfl rfl rfl, trivial⟩, renB_cl rfl rfl rfl rfl rfl rfl, trivial⟩⟩
        | cons a0 l0 =>
          repeat (first | refine ao_e rfl rfl rfl rfl rfl ?_ | refine ao_eff (v := V.val (Value.bool true)) (ups := []) rfl rfl rfl rfl ?_ | refine ao_eff (v := V.val (Value.bool false)) (ups := []) rfl rfl rfl rfl ?_ | refine aw_seq ?_ | refine aw_region ?_ | refine aw_block ?_ | refine ao_nil ⟨fun h => (Bool.false_ne_true h).elim, ?_⟩ | refine ao_nil ⟨fun _ => ⟨by kernel_rfl, by kernel_rfl⟩, ?_⟩ | refine ao_skip rfl rfl rfl ?_ | refine aw_true rfl ?_ | refine aw_false rfl ?_ | refine aw_skip ?_ | refine aw_exit ?_)
          refine ao_yes rfl rfl rfl rfl (by omega) ?_
          repeat (first | refine ao_e rfl rfl rfl rfl rfl ?_ | refine ao_eff (v := V.val (Value.bool true)) (ups := []) rfl rfl rfl rfl ?_ | refine ao_eff (v := V.val (Value.bool false)) (ups := []) rfl rfl rfl rfl ?_ | refine aw_seq ?_ | refine aw_region ?_ | refine aw_block ?_ | refine ao_nil ⟨fun h => (Bool.false_ne_true h).elim, ?_⟩ | refine ao_nil ⟨fun _ => ⟨by kernel_rfl, by kernel_rfl⟩, ?_⟩ | refine ao_skip rfl rfl rfl ?_ | refine aw_true rfl ?_ | refine aw_false rfl ?_ | refine aw_skip ?_ | refine aw_exit ?_)
          refine ao_meth rfl rfl rfl rfl rfl rfl rfl rfl hE ?_
          repeat (first | refine ao_e rfl rfl rfl rfl rfl ?_ | refine ao_eff (v := V.val (Value.bool true)) (ups := []) rfl rfl rfl rfl ?_ | refine ao_eff (v := V.val (Value.bool false)) (ups := []) rfl rfl rfl rfl ?_ | refine aw_seq ?_ | refine aw_region ?_ | refine aw_block ?_ | refine ao_nil ⟨fun h => (Bool.false_ne_true h).elim, ?_⟩ | refine ao_nil ⟨fun _ => ⟨by kernel_rfl, by kernel_rfl⟩, ?_⟩ | refine ao_skip rfl rfl rfl ?_ | refine aw_true rfl ?_ | refine aw_false rfl ?_ | refine aw_skip ?_ | refine aw_exit ?_)
          refine ao_e rfl rfl rfl rfl (ef_push oC (a0 :: l0) R.1 112 rfl rfl rfl rfl rfl rfl rfl rfl rfl (by omega)) ?_
          repeat (first | refine ao_e rfl rfl rfl rfl rfl ?_ | refine ao_eff (v := V.val (Value.bool true)) (ups := []) rfl rfl rfl rfl ?_ | refine ao_eff (v := V.val (Value.bool false)) (ups := []) rfl rfl rfl rfl ?_ | refine aw_seq ?_ | refine aw_region ?_ | refine aw_block ?_ | refine ao_nil ⟨fun h => (Bool.false_ne_true h).elim, ?_⟩ | refine ao_nil ⟨fun _ => ⟨by kernel_rfl, by kernel_rfl⟩, ?_⟩ | refine ao_skip rfl rfl rfl ?_ | refine aw_true rfl ?_ | refine aw_false rfl ?_ | refine aw_skip ?_ | refine aw_exit ?_)
          exact ⟨((a0 :: l0) ++ [R.1], R.2), ⟨by simp only [List.length_append, List.length_singleton]; omega, gE.1, hft2, by simpa using hI2⟩, by simp only [List.length_append, List.length_singleton]; omega, ⟨.any _, .any _, .ptr _ _ _ _ _ _ _ rfl rfl rfl rfl, .same _ rfl, .ptr _ _ _ _ _ _ _ rfl rfl rfl rfl, .ptr _ _ _ _ _ _ _ rfl rfl rfl rfl, .same _ rfl, ren_eq (congrArg vi ((wsucc (i := (a0 :: l0).length) (by omega)).trans (by simp))) rfl, trivial⟩, ⟨renB_cl rfl rfl rfl rfl rfl rfl, renB_cl rfl rfl rfl rfl rfl rfl, renB_row rfl rfl rfl rfl rfl rfl rfl ⟨nofun, .same _ rfl, nofun, .same _ rfl, nofun, .same _ rfl, nofun, .same _ rfl, nofun, .same _ rfl, nofun, .same _ rfl, nofun, .sl _ _ _ _ _ _ _ rfl rfl rfl rfl, trivial⟩, renB_cl rfl rfl rfl rfl rfl rfl, trivial⟩⟩
      · rw [hs] at hI
        simp only [rkOs, if_true, List.append_nil] at hI
        rw [hI]
        cases acc with
        | nil =>
          repeat (first | refine ao_e rfl rfl rfl rfl rfl ?_ | refine ao_eff (v := V.val (Value.bool true)) (ups := []) rfl rfl rfl rfl ?_ | refine ao_eff (v := V.val (Value.bool false)) (ups := []) rfl rfl rfl rfl ?_ | refine aw_seq ?_ | refine aw_region ?_ | refine aw_block ?_ | refine ao_nil ⟨fun h => (Bool.false_ne_true h).elim, ?_⟩ | refine ao_nil ⟨fun _ => ⟨by kernel_rfl, by kernel_rfl⟩, ?_⟩ | refine ao_skip rfl rfl rfl ?_ | refine aw_true rfl ?_ | refine aw_false rfl ?_ | refine aw_skip ?_ | refine aw_exit ?_)
          refine ao_yes rfl rfl rfl rfl (by simp only [List.length_nil] at hlt ⊢; omega) ?_
          repeat (first | refine ao_e rfl rfl rfl rfl rfl ?_ | refine ao_eff (v := V.val (Value.bool true)) (ups := []) rfl rfl rfl rfl ?_ | refine ao_eff (v := V.val (Value.bool false)) (ups := []) rfl rfl rfl rfl ?_ | refine aw_seq ?_ | refine aw_region ?_ | refine aw_block ?_ | refine ao_nil ⟨fun h => (Bool.false_ne_true h).elim, ?_⟩ | refine ao_nil ⟨fun _ => ⟨by kernel_rfl, by kernel_rfl⟩, ?_⟩ | refine ao_skip rfl rfl rfl ?_ | refine aw_true rfl ?_ | refine aw_false rfl ?_ | refine aw_skip ?_ | refine aw_exit ?_)
          exact ⟨rfl, ⟨A.1, B.1, C.1, D.1, F.1, G.1, []⟩, (q1, true), rfl, nofun, Nat.zero_le _, trivial, ⟨.any _, .any _, .ptr _ _ _ _ _ _ _ rfl rfl rfl rfl, .same _ rfl, .ptr _ _ _ _ _ _ _ rfl rfl rfl rfl, .ptr _ _ _ _ _ _ _ rfl rfl rfl rfl, .same _ rfl, trivial⟩, ⟨renB_cl rfl rfl rfl rfl rfl rfl, renB_cl rfl rfl rfl rfl rfl rfl, renB_row rfl rfl rfl rfl rfl rfl rfl ⟨nofun, .same _ rfl, nofun, .same _ rfl, nofun, .same _ rfl, nofun, .same _ rfl, nofun, .same _ rfl, nofun, .same _ rfl, nofun, .nil _, trivial⟩, trivial⟩⟩
        | cons a0 l0 =>
          repeat (first | refine ao_e rfl rfl rfl rfl rfl ?_ | refine ao_eff (v := V.val (Value.bool true)) (ups := []) rfl rfl rfl rfl ?_ | refine ao_eff (v := V.val (Value.bool false)) (ups := []) rfl rfl rfl rfl ?_ | refine aw_seq ?_ | refine aw_region ?_ | refine aw_block ?_ | refine ao_nil ⟨fun h => (Bool.false_ne_true h).elim, ?_⟩ | refine ao_nil ⟨fun _ => ⟨by kernel_rfl, by kernel_rfl⟩, ?_⟩ | refine ao_skip rfl rfl rfl ?_ | refine aw_true rfl ?_ | refine aw_false rfl ?_ | refine aw_skip ?_ | refine aw_exit ?_)
          refine ao_yes rfl rfl rfl rfl (by omega) ?_
          repeat (first | refine ao_e rfl rfl rfl rfl rfl ?_ | refine ao_eff (v := V.val (Value.bool true)) (ups := []) rfl rfl rfl rfl ?_ | refine ao_eff (v := V.val (Value.bool false)) (ups := []) rfl rfl rfl rfl ?_ | refine aw_seq ?_ | refine aw_region ?_ | refine aw_block ?_ | refine ao_nil ⟨fun h => (Bool.false_ne_true h).elim, ?_⟩ | refine ao_nil ⟨fun _ => ⟨by kernel_rfl, by kernel_rfl⟩, ?_⟩ | refine ao_skip rfl rfl rfl ?_ | refine aw_true rfl ?_ | refine aw_false rfl ?_ | refine aw_skip ?_ | refine aw_exit ?_)
          exact ⟨rfl, ⟨A.1, B.1, C.1, D.1, F.1, G.1, a0 :: l0⟩, (q1, true), rfl, hft, Nat.le_trans hl hm2, trivial, ⟨.any _, .any _, .ptr _ _ _ _ _ _ _ rfl rfl rfl rfl, .same _ rfl, .ptr _ _ _ _ _ _ _ rfl rfl rfl rfl, .ptr _ _ _ _ _ _ _ rfl rfl rfl rfl, .same _ rfl, trivial⟩, ⟨renB_cl rfl rfl rfl rfl rfl rfl, renB_cl rfl rfl rfl rfl rfl rfl, renB_row rfl rfl rfl rfl rfl rfl rfl ⟨nofun, .same _ rfl, nofun, .same _ rfl, nofun, .same _ rfl, nofun, .same _ rfl, nofun, .same _ rfl, nofun, .same _ rfl, nofun, ren_frz oC (a0 :: l0) rfl rfl rfl rfl rfl rfl, trivial⟩, trivial⟩⟩
    · have hm0 : m - acc.length = 0 := by omega
      rw [hm0] at hI
      simp only [rkOs, List.append_nil] at hI
      rw [hI]
      cases acc with
      | nil =>
        repeat (first | refine ao_e rfl rfl rfl rfl rfl ?_ | refine ao_eff (v := V.val (Value.bool true)) (ups := []) rfl rfl rfl rfl ?_ | refine ao_eff (v := V.val (Value.bool false)) (ups := []) rfl rfl rfl rfl ?_ | refine aw_seq ?_ | refine aw_region ?_ | refine aw_block ?_ | refine ao_nil ⟨fun h => (Bool.false_ne_true h).elim, ?_⟩ | refine ao_nil ⟨fun _ => ⟨by kernel_rfl, by kernel_rfl⟩, ?_⟩ | refine ao_skip rfl rfl rfl ?_ | refine aw_true rfl ?_ | refine aw_false rfl ?_ | refine aw_skip ?_ | refine aw_exit ?_)
        refine ao_no rfl rfl rfl rfl (by simp only [List.length_nil] at hlt ⊢; omega) ?_
        repeat (first | refine ao_e rfl rfl rfl rfl rfl ?_ | refine ao_eff (v := V.val (Value.bool true)) (ups := []) rfl rfl rfl rfl ?_ | refine ao_eff (v := V.val (Value.bool false)) (ups := []) rfl rfl rfl rfl ?_ | refine aw_seq ?_ | refine aw_region ?_ | refine aw_block ?_ | refine ao_nil ⟨fun h => (Bool.false_ne_true h).elim, ?_⟩ | refine ao_nil ⟨fun _ => ⟨by kernel_rfl, by kernel_rfl⟩, ?_⟩ | refine ao_skip rfl rfl rfl ?_ | refine aw_true rfl ?_ | refine aw_false rfl ?_ | refine aw_skip ?_ | refine aw_exit ?_)
        exact ⟨rfl, ⟨A.1, B.1, C.1, D.1, F.1, G.1, []⟩, q, rfl, nofun, Nat.zero_le _, trivial, ⟨.any _, .any _, .ptr _ _ _ _ _ _ _ rfl rfl rfl rfl, .same _ rfl, .ptr _ _ _ _ _ _ _ rfl rfl rfl rfl, .ptr _ _ _ _ _ _ _ rfl rfl rfl rfl, .same _ rfl, trivial⟩, ⟨renB_cl rfl rfl rfl rfl rfl rfl, renB_cl rfl rfl rfl rfl rfl rfl, renB_row rfl rfl rfl rfl rfl rfl rfl ⟨nofun, .same _ rfl, nofun, .same _ rfl, nofun, .same _ rfl, nofun, .same _ rfl, nofun, .same _ rfl, nofun, .same _ rfl, nofun, .nil _, trivial⟩, trivial⟩⟩
      | cons a0 l0 =>
        repeat (first | refine ao_e rfl rfl rfl rfl rfl ?_ | refine ao_eff (v := V.val (Value.bool true)) (ups := []) rfl rfl rfl rfl ?_ | refine ao_eff (v := V.val (Value.bool false)) (ups := []) rfl rfl rfl rfl ?_ | refine aw_seq ?_ | refine aw_region ?_ | refine aw_block ?_ | refine ao_nil ⟨fun h => (Bool.false_ne_true h).elim, ?_⟩ | refine ao_nil ⟨fun _ => ⟨by kernel_rfl, by kernel_rfl⟩, ?_⟩ | refine ao_skip rfl rfl rfl ?_ | refine aw_true rfl ?_ | refine aw_false rfl ?_ | refine aw_skip ?_ | refine aw_exit ?_)
        refine ao_no rfl rfl rfl rfl (by omega) ?_
        repeat (first | refine ao_e rfl rfl rfl rfl rfl ?_ | refine ao_eff (v := V.val (Value.bool true)) (ups := []) rfl rfl rfl rfl ?_ | refine ao_eff (v := V.val (Value.bool false)) (ups := []) rfl rfl rfl rfl ?_ | refine aw_seq ?_ | refine aw_region ?_ | refine aw_block ?_ | refine ao_nil ⟨fun h => (Bool.false_ne_true h).elim, ?_⟩ | refine ao_nil ⟨fun _ => ⟨by kernel_rfl, by kernel_rfl⟩, ?_⟩ | refine ao_skip rfl rfl rfl ?_ | refine aw_true rfl ?_ | refine aw_false rfl ?_ | refine aw_skip ?_ | refine aw_exit ?_)
        exact ⟨rfl, ⟨A.1, B.1, C.1, D.1, F.1, G.1, a0 :: l0⟩, q, rfl, hft, Nat.le_trans hl hm2, trivial, ⟨.any _, .any _, .ptr _ _ _ _ _ _ _ rfl rfl rfl rfl, .same _ rfl, .ptr _ _ _ _ _ _ _ rfl rfl rfl rfl, .ptr _ _ _ _ _ _ _ rfl rfl rfl rfl, .same _ rfl, trivial⟩, ⟨renB_cl rfl rfl rfl rfl rfl rfl, renB_cl rfl rfl rfl rfl rfl rfl, renB_row rfl rfl rfl rfl rfl rfl rfl ⟨nofun, .same _ rfl, nofun, .same _ rfl, nofun, .same _ rfl, nofun, .same _ rfl, nofun, .same _ rfl, nofun, .same _ rfl, nofun, ren_frz oC (a0 :: l0) rfl rfl rfl rfl rfl rfl, trivial⟩, trivial⟩⟩
  · rintro x σ' ⟨rfl, M1, q, hr, hf, hl4, hq, h1, h2⟩
    rw [hr]
    obtain ⟨l1, b⟩ := q
    have hm := refMsg M1 hf (by omega)
    refine aw_canon _ _ h1 h2 (fun h0 => ?_)
    cases b
    · repeat' (first | refine ao_e rfl rfl rfl rfl rfl ?_ | refine ao_eff (v := V.val (Value.bool true)) (ups := []) rfl rfl rfl rfl ?_ | refine ao_eff (v := V.val (Value.bool false)) (ups := []) rfl rfl rfl rfl ?_ | refine aw_seq ?_ | refine aw_region ?_ | refine aw_block ?_ | refine ao_nil ⟨fun h => (Bool.false_ne_true h).elim, ?_⟩ | refine ao_nil ⟨fun _ => ⟨by kernel_rfl, by kernel_rfl⟩, ?_⟩ | refine ao_skip rfl rfl rfl ?_ | refine aw_true rfl ?_ | refine aw_false rfl ?_ | refine aw_skip ?_ | refine aw_exit ?_ | refine ao_funb rfl rfl rfl rfl rfl rfl (hm) (fun hb => ?_) (fun hb => ?_) | refine ao_dec rfl rfl rfl (eqE _ _ _ _ _ _).1 (fun hb => ?_) (fun hb => ?_) | refine ao_ndec rfl rfl rfl (eqE _ _ _ _ _ _).2 (fun hb => ?_) (fun hb => ?_) | refine ao_dec rfl rfl rfl rfl (fun hb => ?_) (fun hb => ?_) | refine ao_ndec rfl rfl rfl rfl (fun hb => ?_) (fun hb => ?_) | refine ao_str rfl rfl rfl rfl (fun hb => ?_) (fun hb => ?_) | refine ao_nstr rfl rfl rfl rfl (fun hb => ?_) (fun hb => ?_) | refine ao_bool rfl rfl rfl rfl (fun hb => ?_) (fun hb => ?_))
      all_goals first
        | (refine aw_canon [.any, .any, .ptr (newId (siteOf 0 0) 0) 0 0 0, vo false] [(newId (siteOf 0 0) 0, ⟨0, 7, true, true, [mC m0]⟩)] ⟨.any _, .any _, .ptr _ _ _ _ _ _ _ rfl rfl rfl rfl, .same _ rfl, trivial⟩ ⟨renB_row rfl rfl rfl rfl rfl rfl rfl ⟨nofun, .same _ rfl, nofun, .same _ rfl, nofun, .same _ rfl, nofun, .same _ rfl, nofun, .same _ rfl, nofun, .same _ rfl, nofun, .nil _, trivial⟩, trivial⟩ (fun h0 => ?_)
           refine aw_ret ⟨.inr rfl, _, _, _, _, _, rfl, rfl, rfl, rfl, ?_, rfl⟩
           have e0 : fkM M1 (l1, false) = none := by
             unfold fkM
             rw [if_neg]
             rintro ⟨k1, k3, k4⟩
             first
               | (cases k1; done)
               | exact absurd ((str_none _).2 k3) (by assumption)
               | exact Bool.noConfusion (k4.symm.trans (by assumption : mayM M1 = false))
           rw [e0]; rfl)
        | (refine aw_ret ⟨.inr rfl, _, _, _, _, _, rfl, rfl, rfl, rfl, ?_, rfl⟩
           have e0 : fkM M1 (l1, false) = some M1 := by
             unfold fkM
             rw [if_pos]
             refine ⟨rfl, (str_none _).1 (by assumption), by assumption⟩
           rw [e0]; rfl)
    · repeat' (first | refine ao_e rfl rfl rfl rfl rfl ?_ | refine ao_eff (v := V.val (Value.bool true)) (ups := []) rfl rfl rfl rfl ?_ | refine ao_eff (v := V.val (Value.bool false)) (ups := []) rfl rfl rfl rfl ?_ | refine aw_seq ?_ | refine aw_region ?_ | refine aw_block ?_ | refine ao_nil ⟨fun h => (Bool.false_ne_true h).elim, ?_⟩ | refine ao_nil ⟨fun _ => ⟨by kernel_rfl, by kernel_rfl⟩, ?_⟩ | refine ao_skip rfl rfl rfl ?_ | refine aw_true rfl ?_ | refine aw_false rfl ?_ | refine aw_skip ?_ | refine aw_exit ?_ | refine ao_funb rfl rfl rfl rfl rfl rfl (hm) (fun hb => ?_) (fun hb => ?_) | refine ao_dec rfl rfl rfl (eqE _ _ _ _ _ _).1 (fun hb => ?_) (fun hb => ?_) | refine ao_ndec rfl rfl rfl (eqE _ _ _ _ _ _).2 (fun hb => ?_) (fun hb => ?_) | refine ao_dec rfl rfl rfl rfl (fun hb => ?_) (fun hb => ?_) | refine ao_ndec rfl rfl rfl rfl (fun hb => ?_) (fun hb => ?_) | refine ao_str rfl rfl rfl rfl (fun hb => ?_) (fun hb => ?_) | refine ao_nstr rfl rfl rfl rfl (fun hb => ?_) (fun hb => ?_) | refine ao_bool rfl rfl rfl rfl (fun hb => ?_) (fun hb => ?_))
      all_goals first
        | (refine aw_canon [.any, .any, .ptr (newId (siteOf 0 0) 0) 0 0 0, vo false] [(newId (siteOf 0 0) 0, ⟨0, 7, true, true, [mC m0]⟩)] ⟨.any _, .any _, .ptr _ _ _ _ _ _ _ rfl rfl rfl rfl, .same _ rfl, trivial⟩ ⟨renB_row rfl rfl rfl rfl rfl rfl rfl ⟨nofun, .same _ rfl, nofun, .same _ rfl, nofun, .same _ rfl, nofun, .same _ rfl, nofun, .same _ rfl, nofun, .same _ rfl, nofun, .nil _, trivial⟩, trivial⟩ (fun h0 => ?_)
           refine aw_ret ⟨.inr rfl, _, _, _, _, _, rfl, rfl, rfl, rfl, ?_, rfl⟩
           have e0 : fkM M1 (l1, true) = none := by
             unfold fkM
             rw [if_neg]
             rintro ⟨k1, k3, k4⟩
             first
               | (cases k1; done)
               | exact absurd ((str_none _).2 k3) (by assumption)
               | exact Bool.noConfusion (k4.symm.trans (by assumption : mayM M1 = false))
           rw [e0]; rfl)
        | (refine aw_ret ⟨.inr rfl, _, _, _, _, _, rfl, rfl, rfl, rfl, ?_, rfl⟩
           have e0 : fkM M1 (l1, true) = some M1 := by
             unfold fkM
             rw [if_pos]
             refine ⟨rfl, (str_none _).1 (by assumption), by assumption⟩
           rw [e0]; rfl)
end Go.Ai
