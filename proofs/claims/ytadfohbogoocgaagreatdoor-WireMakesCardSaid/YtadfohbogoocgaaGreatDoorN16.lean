/- A part of the proof: what the program does, step by step, over values without addresses. No conditions of mine. -/
import Derived.Test.YtadfohbogoocgaaGreatDoorN15
import Derived.Test.YtadfohbogoocgaaGreatDoorN13
set_option linter.unusedVariables false
set_option linter.unusedSimpArgs false
namespace Go.Ai
open Go Go.RowKit Go.Proofs Go.Sp
set_option maxRecDepth 10000
set_option maxHeartbeats 8000000
set_option linter.unusedVariables false
set_option linter.unusedSimpArgs false
def kHl (o : O) (q : Pt) : List E → List (Nat × Blk)
  | [] => rH q (oCw o .emp)
  | e :: l => rH q (oCw o (.sl (newId (siteOf 10 5) 0) 0 0 (e :: l).length)) ++ [(newId (siteOf 10 5) 0, ⟨0, 3, true, true, (e :: l).map eC⟩)]
theorem tkrOp {p : Pt} (hp : Few 100000 p) : AC Tryz.prog XX 64 [.ptr 1 0 0 0] [(2, ptC p)] (.agg (oC (rkO p).1)) [(2, ptC (rkO p).2)] [] := by
  have fg : ∀ q : Pt, Few 100000 q → GoodP q := fun q h => ⟨h.1, Nat.lt_of_le_of_lt h.2 (by decide)⟩
  refine ac_mk (by kernel_rfl) Tryz.func64 rfl (lb rfl) rfl rfl ?_
  have hA := tkrNumber (X := XX) (fg _ hp)
  have gA := rkN_few hp
  have hB := tkrNumber (X := XX) (fg _ gA.1)
  have gB := rkN_few gA.1
  have hC := tkrNumber (X := XX) (fg _ gB.1)
  have gC := rkN_few gB.1
  have e : rkO p = rkO3 (rkN p).1 (rkN (rkN p).2).1 (rkN (rkN (rkN p).2).2) := rfl
  rw [e]
  generalize rkN p = A at *
  generalize rkN A.2 = B at *
  generalize rkN B.2 = C at *
  repeat (first | refine ao_e rfl rfl rfl rfl rfl ?_ | refine ao_eff (v := V.val (Value.bool true)) (ups := []) rfl rfl rfl rfl ?_ | refine ao_eff (v := V.val (Value.bool false)) (ups := []) rfl rfl rfl rfl ?_ | refine aw_seq ?_ | refine aw_region ?_ | refine aw_block ?_ | refine ao_nil ⟨fun h => (Bool.false_ne_true h).elim, ?_⟩ | refine ao_nil ⟨fun _ => ⟨by kernel_rfl, by kernel_rfl⟩, ?_⟩ | refine ao_skip rfl rfl rfl ?_ | refine aw_true rfl ?_ | refine aw_false rfl ?_ | refine aw_skip ?_ | refine aw_exit ?_)
  refine ao_meth rfl rfl rfl rfl rfl rfl rfl rfl hA ?_
  repeat (first | refine ao_e rfl rfl rfl rfl rfl ?_ | refine ao_eff (v := V.val (Value.bool true)) (ups := []) rfl rfl rfl rfl ?_ | refine ao_eff (v := V.val (Value.bool false)) (ups := []) rfl rfl rfl rfl ?_ | refine aw_seq ?_ | refine aw_region ?_ | refine aw_block ?_ | refine ao_nil ⟨fun h => (Bool.false_ne_true h).elim, ?_⟩ | refine ao_nil ⟨fun _ => ⟨by kernel_rfl, by kernel_rfl⟩, ?_⟩ | refine ao_skip rfl rfl rfl ?_ | refine aw_true rfl ?_ | refine aw_false rfl ?_ | refine aw_skip ?_ | refine aw_exit ?_)
  refine ao_meth rfl rfl rfl rfl rfl rfl rfl rfl hB ?_
  repeat (first | refine ao_e rfl rfl rfl rfl rfl ?_ | refine ao_eff (v := V.val (Value.bool true)) (ups := []) rfl rfl rfl rfl ?_ | refine ao_eff (v := V.val (Value.bool false)) (ups := []) rfl rfl rfl rfl ?_ | refine aw_seq ?_ | refine aw_region ?_ | refine aw_block ?_ | refine ao_nil ⟨fun h => (Bool.false_ne_true h).elim, ?_⟩ | refine ao_nil ⟨fun _ => ⟨by kernel_rfl, by kernel_rfl⟩, ?_⟩ | refine ao_skip rfl rfl rfl ?_ | refine aw_true rfl ?_ | refine aw_false rfl ?_ | refine aw_skip ?_ | refine aw_exit ?_)
  refine ao_meth rfl rfl rfl rfl rfl rfl rfl rfl hC ?_
  iterate 3 refine ao_e rfl rfl rfl rfl rfl ?_
  refine ao_nil ⟨fun h => (Bool.false_ne_true h).elim, ?_⟩
  refine aw_seq ?_
  refine aw_mono (Q := fun x σ' => x = .normal ∧ ∃ (o : O) (q : Pt), rkO3 A.1 B.1 C = fin o q ∧ o.f4.size ≤ 100000 ∧ o.f5.length < 4611686018427387904 ∧
    renL σ'.h (rH q (oC o)) [.ptr 1 0 0 0, .any, .ptr (newId (siteOf 0 0) 0) 0 0 0, .ptr (newId (siteOf 1 7) 0) 0 0 0] σ'.s 0 ∧ renH σ'.h (rH q (oC o)) (rH q (oC o))) ?_ ?_
  · by_cases h2 : C.1 = 2
    · have e2 : rkO3 A.1 B.1 C = rkTog A.1 B.1 C.2 := if_pos h2
      rw [e2]
      have hD := tkrNumber (X := XX) (fg _ gC.1)
      have gD := rkN_few gC.1
      have hF := tkrNumber (X := XX) (fg _ gD.1)
      have gF := rkN_few gD.1
      have hG := tkrNumber (X := XX) (fg _ gF.1)
      have gG := rkN_few gF.1
      unfold rkTog
      generalize rkN C.2 = D at *
      generalize rkN D.2 = F at *
      generalize rkN F.2 = G at *
      repeat (first | refine ao_e rfl rfl rfl rfl rfl ?_ | refine ao_eff (v := V.val (Value.bool true)) (ups := []) rfl rfl rfl rfl ?_ | refine ao_eff (v := V.val (Value.bool false)) (ups := []) rfl rfl rfl rfl ?_ | refine aw_seq ?_ | refine aw_region ?_ | refine aw_block ?_ | refine ao_nil ⟨fun h => (Bool.false_ne_true h).elim, ?_⟩ | refine ao_nil ⟨fun _ => ⟨by kernel_rfl, by kernel_rfl⟩, ?_⟩ | refine ao_skip rfl rfl rfl ?_ | refine aw_true rfl ?_ | refine aw_false rfl ?_ | refine aw_skip ?_ | refine aw_exit ?_)
      refine ao_yes rfl rfl rfl rfl h2 ?_
      repeat (first | refine ao_e rfl rfl rfl rfl rfl ?_ | refine ao_eff (v := V.val (Value.bool true)) (ups := []) rfl rfl rfl rfl ?_ | refine ao_eff (v := V.val (Value.bool false)) (ups := []) rfl rfl rfl rfl ?_ | refine aw_seq ?_ | refine aw_region ?_ | refine aw_block ?_ | refine ao_nil ⟨fun h => (Bool.false_ne_true h).elim, ?_⟩ | refine ao_nil ⟨fun _ => ⟨by kernel_rfl, by kernel_rfl⟩, ?_⟩ | refine ao_skip rfl rfl rfl ?_ | refine aw_true rfl ?_ | refine aw_false rfl ?_ | refine aw_skip ?_ | refine aw_exit ?_)
      refine ao_meth rfl rfl rfl rfl rfl rfl rfl rfl hD ?_
      repeat (first | refine ao_e rfl rfl rfl rfl rfl ?_ | refine ao_eff (v := V.val (Value.bool true)) (ups := []) rfl rfl rfl rfl ?_ | refine ao_eff (v := V.val (Value.bool false)) (ups := []) rfl rfl rfl rfl ?_ | refine aw_seq ?_ | refine aw_region ?_ | refine aw_block ?_ | refine ao_nil ⟨fun h => (Bool.false_ne_true h).elim, ?_⟩ | refine ao_nil ⟨fun _ => ⟨by kernel_rfl, by kernel_rfl⟩, ?_⟩ | refine ao_skip rfl rfl rfl ?_ | refine aw_true rfl ?_ | refine aw_false rfl ?_ | refine aw_skip ?_ | refine aw_exit ?_)
      refine ao_meth rfl rfl rfl rfl rfl rfl rfl rfl hF ?_
      repeat (first | refine ao_e rfl rfl rfl rfl rfl ?_ | refine ao_eff (v := V.val (Value.bool true)) (ups := []) rfl rfl rfl rfl ?_ | refine ao_eff (v := V.val (Value.bool false)) (ups := []) rfl rfl rfl rfl ?_ | refine aw_seq ?_ | refine aw_region ?_ | refine aw_block ?_ | refine ao_nil ⟨fun h => (Bool.false_ne_true h).elim, ?_⟩ | refine ao_nil ⟨fun _ => ⟨by kernel_rfl, by kernel_rfl⟩, ?_⟩ | refine ao_skip rfl rfl rfl ?_ | refine aw_true rfl ?_ | refine aw_false rfl ?_ | refine aw_skip ?_ | refine aw_exit ?_)
      refine ao_meth rfl rfl rfl rfl rfl rfl rfl rfl hG ?_
      repeat (first | refine ao_e rfl rfl rfl rfl rfl ?_ | refine ao_eff (v := V.val (Value.bool true)) (ups := []) rfl rfl rfl rfl ?_ | refine ao_eff (v := V.val (Value.bool false)) (ups := []) rfl rfl rfl rfl ?_ | refine aw_seq ?_ | refine aw_region ?_ | refine aw_block ?_ | refine ao_nil ⟨fun h => (Bool.false_ne_true h).elim, ?_⟩ | refine ao_nil ⟨fun _ => ⟨by kernel_rfl, by kernel_rfl⟩, ?_⟩ | refine ao_skip rfl rfl rfl ?_ | refine aw_true rfl ?_ | refine aw_false rfl ?_ | refine aw_skip ?_ | refine aw_exit ?_)
      refine ⟨rfl, _, _, rfl, (show (⟨#[]⟩ : ByteArray).size ≤ 100000 by decide), (show ([] : List E).length < 4611686018427387904 by decide), ⟨.ptr _ _ _ _ _ _ _ rfl rfl rfl rfl, .any _, .ptr _ _ _ _ _ _ _ rfl rfl rfl rfl, .ptr _ _ _ _ _ _ _ rfl rfl rfl rfl, trivial⟩, ⟨renB_cl rfl rfl rfl rfl rfl rfl, renB_cl rfl rfl rfl rfl rfl rfl, renB_row rfl rfl rfl rfl rfl rfl rfl ?_, trivial⟩⟩
      exact ⟨nofun, .same _ rfl, nofun, .same _ rfl, nofun, ren_eq (congrArg vi h2) rfl, nofun, .same _ rfl, nofun, .same _ rfl, nofun, .same _ rfl, nofun, .same _ rfl, nofun, .nil _, nofun, .same _ rfl, nofun, .same _ rfl, nofun, .same _ rfl, trivial⟩
    · have e2 : rkO3 A.1 B.1 C = rkEd A.1 B.1 C.1 (rkE C.2) := if_neg h2
      rw [e2]
      have hD := tkrElem (X := XX) (fg _ gC.1)
      have gD := rkE_few gC.1
      have hT := tkrText (X := XX) (fg _ gD)
      have gT := rkT_few gD
      have hN := tkrNumber (X := XX) (fg _ gT.1)
      have gN := rkN_few gT.1
      unfold rkEd rkEd2 rkEd3 rkEd4
      generalize rkE C.2 = D at *
      generalize rkT D.2 = T at *
      generalize rkN T.2 = N at *
      obtain ⟨m, hm⟩ : ∃ m : Nat, N.1.toNat = m := ⟨_, rfl⟩
      have hm1 : N.1 = (m : Int) := by omega
      have hm2 : m ≤ 268435456 := by omega
      rw [hm1] at hN
      rw [hm]
      repeat (first | refine ao_e rfl rfl rfl rfl rfl ?_ | refine ao_eff (v := V.val (Value.bool true)) (ups := []) rfl rfl rfl rfl ?_ | refine ao_eff (v := V.val (Value.bool false)) (ups := []) rfl rfl rfl rfl ?_ | refine aw_seq ?_ | refine aw_region ?_ | refine aw_block ?_ | refine ao_nil ⟨fun h => (Bool.false_ne_true h).elim, ?_⟩ | refine ao_nil ⟨fun _ => ⟨by kernel_rfl, by kernel_rfl⟩, ?_⟩ | refine ao_skip rfl rfl rfl ?_ | refine aw_true rfl ?_ | refine aw_false rfl ?_ | refine aw_skip ?_ | refine aw_exit ?_)
      refine ao_no rfl rfl rfl rfl h2 ?_
      repeat (first | refine ao_e rfl rfl rfl rfl rfl ?_ | refine ao_eff (v := V.val (Value.bool true)) (ups := []) rfl rfl rfl rfl ?_ | refine ao_eff (v := V.val (Value.bool false)) (ups := []) rfl rfl rfl rfl ?_ | refine aw_seq ?_ | refine aw_region ?_ | refine aw_block ?_ | refine ao_nil ⟨fun h => (Bool.false_ne_true h).elim, ?_⟩ | refine ao_nil ⟨fun _ => ⟨by kernel_rfl, by kernel_rfl⟩, ?_⟩ | refine ao_skip rfl rfl rfl ?_ | refine aw_true rfl ?_ | refine aw_false rfl ?_ | refine aw_skip ?_ | refine aw_exit ?_)
      refine ao_meth rfl rfl rfl rfl rfl rfl rfl rfl hD ?_
      repeat (first | refine ao_e rfl rfl rfl rfl rfl ?_ | refine ao_eff (v := V.val (Value.bool true)) (ups := []) rfl rfl rfl rfl ?_ | refine ao_eff (v := V.val (Value.bool false)) (ups := []) rfl rfl rfl rfl ?_ | refine aw_seq ?_ | refine aw_region ?_ | refine aw_block ?_ | refine ao_nil ⟨fun h => (Bool.false_ne_true h).elim, ?_⟩ | refine ao_nil ⟨fun _ => ⟨by kernel_rfl, by kernel_rfl⟩, ?_⟩ | refine ao_skip rfl rfl rfl ?_ | refine aw_true rfl ?_ | refine aw_false rfl ?_ | refine aw_skip ?_ | refine aw_exit ?_)
      refine ao_meth rfl rfl rfl rfl rfl rfl rfl rfl hT ?_
      repeat (first | refine ao_e rfl rfl rfl rfl rfl ?_ | refine ao_eff (v := V.val (Value.bool true)) (ups := []) rfl rfl rfl rfl ?_ | refine ao_eff (v := V.val (Value.bool false)) (ups := []) rfl rfl rfl rfl ?_ | refine aw_seq ?_ | refine aw_region ?_ | refine aw_block ?_ | refine ao_nil ⟨fun h => (Bool.false_ne_true h).elim, ?_⟩ | refine ao_nil ⟨fun _ => ⟨by kernel_rfl, by kernel_rfl⟩, ?_⟩ | refine ao_skip rfl rfl rfl ?_ | refine aw_true rfl ?_ | refine aw_false rfl ?_ | refine aw_skip ?_ | refine aw_exit ?_)
      refine ao_meth rfl rfl rfl rfl rfl rfl rfl rfl hN ?_
      repeat (first | refine ao_e rfl rfl rfl rfl rfl ?_ | refine ao_eff (v := V.val (Value.bool true)) (ups := []) rfl rfl rfl rfl ?_ | refine ao_eff (v := V.val (Value.bool false)) (ups := []) rfl rfl rfl rfl ?_ | refine aw_seq ?_ | refine aw_region ?_ | refine aw_block ?_ | refine ao_nil ⟨fun h => (Bool.false_ne_true h).elim, ?_⟩ | refine ao_nil ⟨fun _ => ⟨by kernel_rfl, by kernel_rfl⟩, ?_⟩ | refine ao_skip rfl rfl rfl ?_ | refine aw_true rfl ?_ | refine aw_false rfl ?_ | refine aw_skip ?_ | refine aw_exit ?_)
      refine aw_rounds (T := List E × Pt) (fun t => t.1.length ≤ m ∧ Few 100000 t.2 ∧ rkG m N.2 = (t.1 ++ (rkG (m - t.1.length) t.2).1, (rkG (m - t.1.length) t.2).2)) (fun t => [.ptr 1 0 0 0, .any, .ptr (newId (siteOf 0 0) 0) 0 0 0, .ptr (newId (siteOf 1 7) 0) 0 0 0, vi (m : Nat), vi (t.1.length : Nat)]) (fun t => kHl ⟨A.1, B.1, C.1, D.1, T.1, [], 0, 0, 0⟩ t.2 t.1) (fun t => m - t.1.length) ([], N.2) ⟨Nat.zero_le _, gN.1, rfl⟩ ?_ ?_ ?_
      · exact ⟨.ptr _ _ _ _ _ _ _ rfl rfl rfl rfl, .any _, .ptr _ _ _ _ _ _ _ rfl rfl rfl rfl, .ptr _ _ _ _ _ _ _ rfl rfl rfl rfl, .same _ rfl, .same _ rfl, trivial⟩
      · exact ⟨renB_cl rfl rfl rfl rfl rfl rfl, renB_cl rfl rfl rfl rfl rfl rfl, renB_cl rfl rfl rfl rfl rfl rfl, trivial⟩
      rintro ⟨acc, q⟩ h0 ⟨hl, gq, hI⟩
      dsimp only at hl gq hI ⊢
      have hE := tkrElem (X := XX) (fg _ gq)
      have gE := rkE_few gq
      by_cases hlt : acc.length < m
      · obtain ⟨q1, q2⟩ := q
        have hs : m - acc.length = (m - (acc.length + 1)) + 1 := by omega
        cases q2
        · have hI2 : rkG m N.2 = ((acc ++ [(rkE (q1, false)).1]) ++ (rkG (m - (acc.length + 1)) (rkE (q1, false)).2).1, (rkG (m - (acc.length + 1)) (rkE (q1, false)).2).2) := by
            rw [hI, hs]; simp [rkG]
          cases acc with
          | nil =>
            repeat (first | refine ao_e rfl rfl rfl rfl rfl ?_ | refine ao_eff (v := V.val (Value.bool true)) (ups := []) rfl rfl rfl rfl ?_ | refine ao_eff (v := V.val (Value.bool false)) (ups := []) rfl rfl rfl rfl ?_ | refine aw_seq ?_ | refine aw_region ?_ | refine aw_block ?_ | refine ao_nil ⟨fun h => (Bool.false_ne_true h).elim, ?_⟩ | refine ao_nil ⟨fun _ => ⟨by kernel_rfl, by kernel_rfl⟩, ?_⟩ | refine ao_skip rfl rfl rfl ?_ | refine aw_true rfl ?_ | refine aw_false rfl ?_ | refine aw_skip ?_ | refine aw_exit ?_)
            refine ao_yes rfl rfl rfl rfl (by simp only [List.length_nil] at hlt ⊢; omega) ?_
            repeat (first | refine ao_e rfl rfl rfl rfl rfl ?_ | refine ao_eff (v := V.val (Value.bool true)) (ups := []) rfl rfl rfl rfl ?_ | refine ao_eff (v := V.val (Value.bool false)) (ups := []) rfl rfl rfl rfl ?_ | refine aw_seq ?_ | refine aw_region ?_ | refine aw_block ?_ | refine ao_nil ⟨fun h => (Bool.false_ne_true h).elim, ?_⟩ | refine ao_nil ⟨fun _ => ⟨by kernel_rfl, by kernel_rfl⟩, ?_⟩ | refine ao_skip rfl rfl rfl ?_ | refine aw_true rfl ?_ | refine aw_false rfl ?_ | refine aw_skip ?_ | refine aw_exit ?_)
            refine ao_meth rfl rfl rfl rfl rfl rfl rfl rfl hE ?_
            repeat (first | refine ao_e rfl rfl rfl rfl rfl ?_ | refine ao_eff (v := V.val (Value.bool true)) (ups := []) rfl rfl rfl rfl ?_ | refine ao_eff (v := V.val (Value.bool false)) (ups := []) rfl rfl rfl rfl ?_ | refine aw_seq ?_ | refine aw_region ?_ | refine aw_block ?_ | refine ao_nil ⟨fun h => (Bool.false_ne_true h).elim, ?_⟩ | refine ao_nil ⟨fun _ => ⟨by kernel_rfl, by kernel_rfl⟩, ?_⟩ | refine ao_skip rfl rfl rfl ?_ | refine aw_true rfl ?_ | refine aw_false rfl ?_ | refine aw_skip ?_ | refine aw_exit ?_)
            exact ⟨([(rkE (q1, false)).1], (rkE (q1, false)).2), ⟨by simp only [List.length_nil, List.length_singleton] at hlt ⊢; omega, gE, hI2⟩, by simp only [List.length_nil, List.length_singleton] at hlt ⊢; omega, ⟨.ptr _ _ _ _ _ _ _ rfl rfl rfl rfl, .any _, .ptr _ _ _ _ _ _ _ rfl rfl rfl rfl, .ptr _ _ _ _ _ _ _ rfl rfl rfl rfl, .same _ rfl, rsucc 0 (by decide), trivial⟩, ⟨renB_cl rfl rfl rfl rfl rfl rfl, renB_cl rfl rfl rfl rfl rfl rfl, renB_row rfl rfl rfl rfl rfl rfl rfl ⟨nofun, .same _ rfl, nofun, .same _ rfl, nofun, .same _ rfl, nofun, .same _ rfl, nofun, .same _ rfl, nofun, .same _ rfl, nofun, .same _ rfl, nofun, .sl _ _ _ _ _ _ _ rfl rfl rfl rfl, nofun, .same _ rfl, nofun, .same _ rfl, nofun, .same _ rfl, trivial⟩, renB_cl rfl rfl rfl rfl rfl rfl, trivial⟩⟩
          | cons a0 l0 =>
            repeat (first | refine ao_e rfl rfl rfl rfl rfl ?_ | refine ao_eff (v := V.val (Value.bool true)) (ups := []) rfl rfl rfl rfl ?_ | refine ao_eff (v := V.val (Value.bool false)) (ups := []) rfl rfl rfl rfl ?_ | refine aw_seq ?_ | refine aw_region ?_ | refine aw_block ?_ | refine ao_nil ⟨fun h => (Bool.false_ne_true h).elim, ?_⟩ | refine ao_nil ⟨fun _ => ⟨by kernel_rfl, by kernel_rfl⟩, ?_⟩ | refine ao_skip rfl rfl rfl ?_ | refine aw_true rfl ?_ | refine aw_false rfl ?_ | refine aw_skip ?_ | refine aw_exit ?_)
            refine ao_yes rfl rfl rfl rfl (by omega) ?_
            repeat (first | refine ao_e rfl rfl rfl rfl rfl ?_ | refine ao_eff (v := V.val (Value.bool true)) (ups := []) rfl rfl rfl rfl ?_ | refine ao_eff (v := V.val (Value.bool false)) (ups := []) rfl rfl rfl rfl ?_ | refine aw_seq ?_ | refine aw_region ?_ | refine aw_block ?_ | refine ao_nil ⟨fun h => (Bool.false_ne_true h).elim, ?_⟩ | refine ao_nil ⟨fun _ => ⟨by kernel_rfl, by kernel_rfl⟩, ?_⟩ | refine ao_skip rfl rfl rfl ?_ | refine aw_true rfl ?_ | refine aw_false rfl ?_ | refine aw_skip ?_ | refine aw_exit ?_)
            refine ao_meth rfl rfl rfl rfl rfl rfl rfl rfl hE ?_
            repeat (first | refine ao_e rfl rfl rfl rfl rfl ?_ | refine ao_eff (v := V.val (Value.bool true)) (ups := []) rfl rfl rfl rfl ?_ | refine ao_eff (v := V.val (Value.bool false)) (ups := []) rfl rfl rfl rfl ?_ | refine aw_seq ?_ | refine aw_region ?_ | refine aw_block ?_ | refine ao_nil ⟨fun h => (Bool.false_ne_true h).elim, ?_⟩ | refine ao_nil ⟨fun _ => ⟨by kernel_rfl, by kernel_rfl⟩, ?_⟩ | refine ao_skip rfl rfl rfl ?_ | refine aw_true rfl ?_ | refine aw_false rfl ?_ | refine aw_skip ?_ | refine aw_exit ?_)
            refine ao_e rfl rfl rfl rfl (ef_push eC (a0 :: l0) (rkE (q1, false)).1 24 rfl rfl rfl rfl rfl rfl rfl rfl rfl (by omega)) ?_
            repeat (first | refine ao_e rfl rfl rfl rfl rfl ?_ | refine ao_eff (v := V.val (Value.bool true)) (ups := []) rfl rfl rfl rfl ?_ | refine ao_eff (v := V.val (Value.bool false)) (ups := []) rfl rfl rfl rfl ?_ | refine aw_seq ?_ | refine aw_region ?_ | refine aw_block ?_ | refine ao_nil ⟨fun h => (Bool.false_ne_true h).elim, ?_⟩ | refine ao_nil ⟨fun _ => ⟨by kernel_rfl, by kernel_rfl⟩, ?_⟩ | refine ao_skip rfl rfl rfl ?_ | refine aw_true rfl ?_ | refine aw_false rfl ?_ | refine aw_skip ?_ | refine aw_exit ?_)
            exact ⟨((a0 :: l0) ++ [(rkE (q1, false)).1], (rkE (q1, false)).2), ⟨by simp only [List.length_append, List.length_singleton]; omega, gE, by simpa using hI2⟩, by simp only [List.length_append, List.length_singleton]; omega, ⟨.ptr _ _ _ _ _ _ _ rfl rfl rfl rfl, .any _, .ptr _ _ _ _ _ _ _ rfl rfl rfl rfl, .ptr _ _ _ _ _ _ _ rfl rfl rfl rfl, .same _ rfl, ren_eq (congrArg vi ((wsucc (i := (a0 :: l0).length) (by omega)).trans (by simp))) rfl, trivial⟩, ⟨renB_cl rfl rfl rfl rfl rfl rfl, renB_cl rfl rfl rfl rfl rfl rfl, renB_row rfl rfl rfl rfl rfl rfl rfl ⟨nofun, .same _ rfl, nofun, .same _ rfl, nofun, .same _ rfl, nofun, .same _ rfl, nofun, .same _ rfl, nofun, .same _ rfl, nofun, .same _ rfl, nofun, .sl _ _ _ _ _ _ _ rfl rfl rfl rfl, nofun, .same _ rfl, nofun, .same _ rfl, nofun, .same _ rfl, trivial⟩, renB_cl rfl rfl rfl rfl rfl rfl, trivial⟩⟩
        · rw [hs] at hI
          simp only [rkG, if_true, List.append_nil] at hI
          rw [hI]
          cases acc with
          | nil =>
            repeat (first | refine ao_e rfl rfl rfl rfl rfl ?_ | refine ao_eff (v := V.val (Value.bool true)) (ups := []) rfl rfl rfl rfl ?_ | refine ao_eff (v := V.val (Value.bool false)) (ups := []) rfl rfl rfl rfl ?_ | refine aw_seq ?_ | refine aw_region ?_ | refine aw_block ?_ | refine ao_nil ⟨fun h => (Bool.false_ne_true h).elim, ?_⟩ | refine ao_nil ⟨fun _ => ⟨by kernel_rfl, by kernel_rfl⟩, ?_⟩ | refine ao_skip rfl rfl rfl ?_ | refine aw_true rfl ?_ | refine aw_false rfl ?_ | refine aw_skip ?_ | refine aw_exit ?_)
            refine ao_yes rfl rfl rfl rfl (by simp only [List.length_nil] at hlt ⊢; omega) ?_
            repeat (first | refine ao_e rfl rfl rfl rfl rfl ?_ | refine ao_eff (v := V.val (Value.bool true)) (ups := []) rfl rfl rfl rfl ?_ | refine ao_eff (v := V.val (Value.bool false)) (ups := []) rfl rfl rfl rfl ?_ | refine aw_seq ?_ | refine aw_region ?_ | refine aw_block ?_ | refine ao_nil ⟨fun h => (Bool.false_ne_true h).elim, ?_⟩ | refine ao_nil ⟨fun _ => ⟨by kernel_rfl, by kernel_rfl⟩, ?_⟩ | refine ao_skip rfl rfl rfl ?_ | refine aw_true rfl ?_ | refine aw_false rfl ?_ | refine aw_skip ?_ | refine aw_exit ?_)
            refine ⟨rfl, ⟨A.1, B.1, C.1, D.1, T.1, [], 0, 0, 0⟩, (q1, true), rfl, gT.2, (show ([] : List E).length < 4611686018427387904 by decide), ⟨.ptr _ _ _ _ _ _ _ rfl rfl rfl rfl, .any _, .ptr _ _ _ _ _ _ _ rfl rfl rfl rfl, .ptr _ _ _ _ _ _ _ rfl rfl rfl rfl, trivial⟩, ⟨renB_cl rfl rfl rfl rfl rfl rfl, renB_cl rfl rfl rfl rfl rfl rfl, renB_row rfl rfl rfl rfl rfl rfl rfl ?_, trivial⟩⟩
            exact ⟨nofun, .same _ rfl, nofun, .same _ rfl, nofun, .same _ rfl, nofun, .same _ rfl, nofun, .same _ rfl, nofun, .same _ rfl, nofun, .same _ rfl, nofun, .nil _, nofun, .same _ rfl, nofun, .same _ rfl, nofun, .same _ rfl, trivial⟩
          | cons a0 l0 =>
            repeat (first | refine ao_e rfl rfl rfl rfl rfl ?_ | refine ao_eff (v := V.val (Value.bool true)) (ups := []) rfl rfl rfl rfl ?_ | refine ao_eff (v := V.val (Value.bool false)) (ups := []) rfl rfl rfl rfl ?_ | refine aw_seq ?_ | refine aw_region ?_ | refine aw_block ?_ | refine ao_nil ⟨fun h => (Bool.false_ne_true h).elim, ?_⟩ | refine ao_nil ⟨fun _ => ⟨by kernel_rfl, by kernel_rfl⟩, ?_⟩ | refine ao_skip rfl rfl rfl ?_ | refine aw_true rfl ?_ | refine aw_false rfl ?_ | refine aw_skip ?_ | refine aw_exit ?_)
            refine ao_yes rfl rfl rfl rfl (by omega) ?_
            repeat (first | refine ao_e rfl rfl rfl rfl rfl ?_ | refine ao_eff (v := V.val (Value.bool true)) (ups := []) rfl rfl rfl rfl ?_ | refine ao_eff (v := V.val (Value.bool false)) (ups := []) rfl rfl rfl rfl ?_ | refine aw_seq ?_ | refine aw_region ?_ | refine aw_block ?_ | refine ao_nil ⟨fun h => (Bool.false_ne_true h).elim, ?_⟩ | refine ao_nil ⟨fun _ => ⟨by kernel_rfl, by kernel_rfl⟩, ?_⟩ | refine ao_skip rfl rfl rfl ?_ | refine aw_true rfl ?_ | refine aw_false rfl ?_ | refine aw_skip ?_ | refine aw_exit ?_)
            refine ⟨rfl, ⟨A.1, B.1, C.1, D.1, T.1, (a0 :: l0), 0, 0, 0⟩, (q1, true), rfl, gT.2, (show (a0 :: l0).length < 4611686018427387904 by omega), ⟨.ptr _ _ _ _ _ _ _ rfl rfl rfl rfl, .any _, .ptr _ _ _ _ _ _ _ rfl rfl rfl rfl, .ptr _ _ _ _ _ _ _ rfl rfl rfl rfl, trivial⟩, ⟨renB_cl rfl rfl rfl rfl rfl rfl, renB_cl rfl rfl rfl rfl rfl rfl, renB_row rfl rfl rfl rfl rfl rfl rfl ?_, trivial⟩⟩
            exact ⟨nofun, .same _ rfl, nofun, .same _ rfl, nofun, .same _ rfl, nofun, .same _ rfl, nofun, .same _ rfl, nofun, .same _ rfl, nofun, .same _ rfl, nofun, ren_frz eC (a0 :: l0) rfl rfl rfl rfl rfl rfl, nofun, .same _ rfl, nofun, .same _ rfl, nofun, .same _ rfl, trivial⟩
      · have hm0 : m - acc.length = 0 := by omega
        rw [hm0] at hI
        simp only [rkG, List.append_nil] at hI
        rw [hI]
        cases acc with
        | nil =>
          repeat (first | refine ao_e rfl rfl rfl rfl rfl ?_ | refine ao_eff (v := V.val (Value.bool true)) (ups := []) rfl rfl rfl rfl ?_ | refine ao_eff (v := V.val (Value.bool false)) (ups := []) rfl rfl rfl rfl ?_ | refine aw_seq ?_ | refine aw_region ?_ | refine aw_block ?_ | refine ao_nil ⟨fun h => (Bool.false_ne_true h).elim, ?_⟩ | refine ao_nil ⟨fun _ => ⟨by kernel_rfl, by kernel_rfl⟩, ?_⟩ | refine ao_skip rfl rfl rfl ?_ | refine aw_true rfl ?_ | refine aw_false rfl ?_ | refine aw_skip ?_ | refine aw_exit ?_)
          refine ao_no rfl rfl rfl rfl (by simp only [List.length_nil] at hlt ⊢; omega) ?_
          repeat (first | refine ao_e rfl rfl rfl rfl rfl ?_ | refine ao_eff (v := V.val (Value.bool true)) (ups := []) rfl rfl rfl rfl ?_ | refine ao_eff (v := V.val (Value.bool false)) (ups := []) rfl rfl rfl rfl ?_ | refine aw_seq ?_ | refine aw_region ?_ | refine aw_block ?_ | refine ao_nil ⟨fun h => (Bool.false_ne_true h).elim, ?_⟩ | refine ao_nil ⟨fun _ => ⟨by kernel_rfl, by kernel_rfl⟩, ?_⟩ | refine ao_skip rfl rfl rfl ?_ | refine aw_true rfl ?_ | refine aw_false rfl ?_ | refine aw_skip ?_ | refine aw_exit ?_)
          refine ⟨rfl, ⟨A.1, B.1, C.1, D.1, T.1, [], 0, 0, 0⟩, q, rfl, gT.2, (show ([] : List E).length < 4611686018427387904 by decide), ⟨.ptr _ _ _ _ _ _ _ rfl rfl rfl rfl, .any _, .ptr _ _ _ _ _ _ _ rfl rfl rfl rfl, .ptr _ _ _ _ _ _ _ rfl rfl rfl rfl, trivial⟩, ⟨renB_cl rfl rfl rfl rfl rfl rfl, renB_cl rfl rfl rfl rfl rfl rfl, renB_row rfl rfl rfl rfl rfl rfl rfl ?_, trivial⟩⟩
          exact ⟨nofun, .same _ rfl, nofun, .same _ rfl, nofun, .same _ rfl, nofun, .same _ rfl, nofun, .same _ rfl, nofun, .same _ rfl, nofun, .same _ rfl, nofun, .nil _, nofun, .same _ rfl, nofun, .same _ rfl, nofun, .same _ rfl, trivial⟩
        | cons a0 l0 =>
          repeat (first | refine ao_e rfl rfl rfl rfl rfl ?_ | refine ao_eff (v := V.val (Value.bool true)) (ups := []) rfl rfl rfl rfl ?_ | refine ao_eff (v := V.val (Value.bool false)) (ups := []) rfl rfl rfl rfl ?_ | refine aw_seq ?_ | refine aw_region ?_ | refine aw_block ?_ | refine ao_nil ⟨fun h => (Bool.false_ne_true h).elim, ?_⟩ | refine ao_nil ⟨fun _ => ⟨by kernel_rfl, by kernel_rfl⟩, ?_⟩ | refine ao_skip rfl rfl rfl ?_ | refine aw_true rfl ?_ | refine aw_false rfl ?_ | refine aw_skip ?_ | refine aw_exit ?_)
          refine ao_no rfl rfl rfl rfl (by omega) ?_
          repeat (first | refine ao_e rfl rfl rfl rfl rfl ?_ | refine ao_eff (v := V.val (Value.bool true)) (ups := []) rfl rfl rfl rfl ?_ | refine ao_eff (v := V.val (Value.bool false)) (ups := []) rfl rfl rfl rfl ?_ | refine aw_seq ?_ | refine aw_region ?_ | refine aw_block ?_ | refine ao_nil ⟨fun h => (Bool.false_ne_true h).elim, ?_⟩ | refine ao_nil ⟨fun _ => ⟨by kernel_rfl, by kernel_rfl⟩, ?_⟩ | refine ao_skip rfl rfl rfl ?_ | refine aw_true rfl ?_ | refine aw_false rfl ?_ | refine aw_skip ?_ | refine aw_exit ?_)
          refine ⟨rfl, ⟨A.1, B.1, C.1, D.1, T.1, (a0 :: l0), 0, 0, 0⟩, q, rfl, gT.2, (show (a0 :: l0).length < 4611686018427387904 by omega), ⟨.ptr _ _ _ _ _ _ _ rfl rfl rfl rfl, .any _, .ptr _ _ _ _ _ _ _ rfl rfl rfl rfl, .ptr _ _ _ _ _ _ _ rfl rfl rfl rfl, trivial⟩, ⟨renB_cl rfl rfl rfl rfl rfl rfl, renB_cl rfl rfl rfl rfl rfl rfl, renB_row rfl rfl rfl rfl rfl rfl rfl ?_, trivial⟩⟩
          exact ⟨nofun, .same _ rfl, nofun, .same _ rfl, nofun, .same _ rfl, nofun, .same _ rfl, nofun, .same _ rfl, nofun, .same _ rfl, nofun, .same _ rfl, nofun, ren_frz eC (a0 :: l0) rfl rfl rfl rfl rfl rfl, nofun, .same _ rfl, nofun, .same _ rfl, nofun, .same _ rfl, trivial⟩
  · rintro x σ' ⟨rfl, o, q, hr, hf, hq, h1, h2⟩
    rw [hr]
    obtain ⟨l, b⟩ := q
    have hm := ref4Op o hf hq
    refine aw_canon _ _ h1 h2 (fun h0 => ?_)
    cases hb : mayB o
    all_goals
      rw [hb] at hm
      have hfin : fin o (l, b) = (o, (l, b || !mayB o)) := rfl
      rw [hfin, hb]
      cases b
      all_goals
        repeat (first | refine ao_e rfl rfl rfl rfl rfl ?_ | refine ao_eff (v := V.val (Value.bool true)) (ups := []) rfl rfl rfl rfl ?_ | refine ao_eff (v := V.val (Value.bool false)) (ups := []) rfl rfl rfl rfl ?_ | refine aw_seq ?_ | refine aw_region ?_ | refine aw_block ?_ | refine ao_nil ⟨fun h => (Bool.false_ne_true h).elim, ?_⟩ | refine ao_nil ⟨fun _ => ⟨by kernel_rfl, by kernel_rfl⟩, ?_⟩ | refine ao_skip rfl rfl rfl ?_ | refine aw_true rfl ?_ | refine aw_false rfl ?_ | refine aw_skip ?_ | refine aw_exit ?_)
        refine ao_fun rfl rfl rfl rfl rfl rfl hm ?_
        repeat (first | refine ao_e rfl rfl rfl rfl rfl ?_ | refine ao_eff (v := V.val (Value.bool true)) (ups := []) rfl rfl rfl rfl ?_ | refine ao_eff (v := V.val (Value.bool false)) (ups := []) rfl rfl rfl rfl ?_ | refine aw_seq ?_ | refine aw_region ?_ | refine aw_block ?_ | refine ao_nil ⟨fun h => (Bool.false_ne_true h).elim, ?_⟩ | refine ao_nil ⟨fun _ => ⟨by kernel_rfl, by kernel_rfl⟩, ?_⟩ | refine ao_skip rfl rfl rfl ?_ | refine aw_true rfl ?_ | refine aw_false rfl ?_ | refine aw_skip ?_ | refine aw_exit ?_)
        exact aw_ret ⟨.inr rfl, _, _, _, _, _, rfl, rfl, rfl, rfl, rfl, rfl⟩
end Go.Ai
