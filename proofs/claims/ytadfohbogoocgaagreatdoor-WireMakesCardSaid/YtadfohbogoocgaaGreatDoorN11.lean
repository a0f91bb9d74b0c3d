/- A part of the proof: what the program does, step by step, over values without addresses. No conditions of mine. -/
import Derived.Test.YtadfohbogoocgaaGreatDoorN10
set_option linter.unusedVariables false
set_option linter.unusedSimpArgs false
namespace Go.Ai
open Go Go.RowKit Go.Proofs Go.Sp
set_option maxRecDepth 10000
set_option maxHeartbeats 4000000
set_option linter.unusedVariables false
set_option linter.unusedSimpArgs false
def zO : List V := [vi 0, vi 0, vi 0, vi 0, vi 0, vi 0, vs ⟨#[]⟩, .emp, vi 0, vi 0, vi 0]
def oCw (o : O) (v : V) : List V := [vi o.f0, vi o.f1, vi o.f2, vi o.f3.f0, vi o.f3.f1, vi o.f3.f2, vs o.f4, v, vi o.f6, vi o.f7, vi o.f8]
def rB0 : Nat := newId (siteOf 0 0) 0
def rB3 : Nat := newId (siteOf 1 7) 0
def rS : Nat := newId (siteOf 8 5) 0
def rH (q : Pt) (cs : List V) : List (Nat × Blk) := [(1, ⟨0, 2, true, true, [ptC q]⟩), (newId (siteOf 0 0) 0, ⟨0, 11, true, true, [zO]⟩), (newId (siteOf 1 7) 0, ⟨0, 11, true, false, [cs]⟩)]
def rHl (o : O) (q : Pt) : List E → List (Nat × Blk)
  | [] => rH q (oCw o .emp)
  | e :: l => rH q (oCw o (.sl (newId (siteOf 8 5) 0) 0 0 (e :: l).length)) ++ [(newId (siteOf 8 5) 0, ⟨0, 3, true, true, (e :: l).map eC⟩)]
theorem rdrOp {p : Pt} (hp : GoodP p) : AC Tryz.prog XX 61 [.ptr 1 0 0 0] [(2, ptC p)] (.agg (oC (rdO p).1)) [(2, ptC (rdO p).2)] [] := by
  refine ac_mk (by kernel_rfl) Tryz.func61 rfl (lb rfl) rfl rfl ?_
  have hA := rdrNumber (X := XX) hp
  have gA := rdN_good hp
  have hB := rdrNumber (X := XX) gA.1
  have gB := rdN_good gA.1
  have hC := rdrNumber (X := XX) gB.1
  have gC := rdN_good gB.1
  have e : rdO p = rdO3 (rdN p).1 (rdN (rdN p).2).1 (rdN (rdN (rdN p).2).2) := rfl
  rw [e]
  generalize rdN p = A at *
  generalize rdN A.2 = B at *
  generalize rdN B.2 = C at *
  repeat (first | refine ao_e rfl rfl rfl rfl rfl ?_ | refine ao_eff (v := V.val (Value.bool true)) (ups := []) rfl rfl rfl rfl ?_ | refine ao_eff (v := V.val (Value.bool false)) (ups := []) rfl rfl rfl rfl ?_ | refine aw_seq ?_ | refine aw_region ?_ | refine aw_block ?_ | refine ao_nil ⟨fun h => (Bool.false_ne_true h).elim, ?_⟩ | refine ao_nil ⟨fun _ => ⟨by kernel_rfl, by kernel_rfl⟩, ?_⟩ | refine ao_skip rfl rfl rfl ?_ | refine aw_true rfl ?_ | refine aw_false rfl ?_ | refine aw_skip ?_ | refine aw_exit ?_)
  refine ao_meth rfl rfl rfl rfl rfl rfl rfl rfl hA ?_
  repeat (first | refine ao_e rfl rfl rfl rfl rfl ?_ | refine ao_eff (v := V.val (Value.bool true)) (ups := []) rfl rfl rfl rfl ?_ | refine ao_eff (v := V.val (Value.bool false)) (ups := []) rfl rfl rfl rfl ?_ | refine aw_seq ?_ | refine aw_region ?_ | refine aw_block ?_ | refine ao_nil ⟨fun h => (Bool.false_ne_true h).elim, ?_⟩ | refine ao_nil ⟨fun _ => ⟨by kernel_rfl, by kernel_rfl⟩, ?_⟩ | refine ao_skip rfl rfl rfl ?_ | refine aw_true rfl ?_ | refine aw_false rfl ?_ | refine aw_skip ?_ | refine aw_exit ?_)
  refine ao_meth rfl rfl rfl rfl rfl rfl rfl rfl hB ?_
  repeat (first | refine ao_e rfl rfl rfl rfl rfl ?_ | refine ao_eff (v := V.val (Value.bool true)) (ups := []) rfl rfl rfl rfl ?_ | refine ao_eff (v := V.val (Value.bool false)) (ups := []) rfl rfl rfl rfl ?_ | refine aw_seq ?_ | refine aw_region ?_ | refine aw_block ?_ | refine ao_nil ⟨fun h => (Bool.false_ne_true h).elim, ?_⟩ | refine ao_nil ⟨fun _ => ⟨by kernel_rfl, by kernel_rfl⟩, ?_⟩ | refine ao_skip rfl rfl rfl ?_ | refine aw_true rfl ?_ | refine aw_false rfl ?_ | refine aw_skip ?_ | refine aw_exit ?_)
  refine ao_meth rfl rfl rfl rfl rfl rfl rfl rfl hC ?_
  iterate 3 refine ao_e rfl rfl rfl rfl rfl ?_
  refine ao_nil ⟨fun h => (Bool.false_ne_true h).elim, ?_⟩
  refine aw_seq ?_
  refine aw_mono (Q := fun x σ' => x = .normal ∧ ∃ (o : O) (q : Pt), rdO3 A.1 B.1 C = fin o q ∧ Fit o ∧ q.1.length < 4611686018427387904 ∧
    renL σ'.h (rH q (oC o)) [.ptr 1 0 0 0, .any, .ptr (newId (siteOf 0 0) 0) 0 0 0, .ptr (newId (siteOf 1 7) 0) 0 0 0] σ'.s 0 ∧ renH σ'.h (rH q (oC o)) (rH q (oC o))) ?_ ?_
  · by_cases h2 : C.1 = 2
    · have e2 : rdO3 A.1 B.1 C = rdTog A.1 B.1 C.2 := if_pos h2
      rw [e2]
      have hD := rdrNumber (X := XX) gC.1
      have gD := rdN_good gC.1
      have hF := rdrNumber (X := XX) gD.1
      have gF := rdN_good gD.1
      have hG := rdrNumber (X := XX) gF.1
      have gG := rdN_good gF.1
      unfold rdTog
      generalize rdN C.2 = D at *
      generalize rdN D.2 = F at *
      generalize rdN F.2 = G at *
      repeat (first | refine ao_e rfl rfl rfl rfl rfl ?_ | refine ao_eff (v := V.val (Value.bool true)) (ups := []) rfl rfl rfl rfl ?_ | refine ao_eff (v := V.val (Value.bool false)) (ups := []) rfl rfl rfl rfl ?_ | refine aw_seq ?_ | refine aw_region ?_ | refine aw_block ?_ | refine ao_nil ⟨fun h => (Bool.false_ne_true h).elim, ?_⟩ | refine ao_nil ⟨fun _ => ⟨by kernel_rfl, by kernel_rfl⟩, ?_⟩ | refine ao_skip rfl rfl rfl ?_ | refine aw_true rfl ?_ | refine aw_false rfl ?_ | refine aw_skip ?_ | refine aw_exit ?_)
      refine ao_yes rfl rfl rfl rfl h2 ?_
      repeat (first | refine ao_e rfl rfl rfl rfl rfl ?_ | refine ao_eff (v := V.val (Value.bool true)) (ups := []) rfl rfl rfl rfl ?_ | refine ao_eff (v := V.val (Value.bool false)) (ups := []) rfl rfl rfl rfl ?_ | refine aw_seq ?_ | refine aw_region ?_ | refine aw_block ?_ | refine ao_nil ⟨fun h => (Bool.false_ne_true h).elim, ?_⟩ | refine ao_nil ⟨fun _ => ⟨by kernel_rfl, by kernel_rfl⟩, ?_⟩ | refine ao_skip rfl rfl rfl ?_ | refine aw_true rfl ?_ | refine aw_false rfl ?_ | refine aw_skip ?_ | refine aw_exit ?_)
      refine ao_meth rfl rfl rfl rfl rfl rfl rfl rfl hD ?_
      repeat (first | refine ao_e rfl rfl rfl rfl rfl ?_ | refine ao_eff (v := V.val (Value.bool true)) (ups := []) rfl rfl rfl rfl ?_ | refine ao_eff (v := V.val (Value.bool false)) (ups := []) rfl rfl rfl rfl ?_ | refine aw_seq ?_ | refine aw_region ?_ | refine aw_block ?_ | refine ao_nil ⟨fun h => (Bool.false_ne_true h).elim, ?_⟩ | refine ao_nil ⟨fun _ => ⟨by kernel_rfl, by kernel_rfl⟩, ?_⟩ | refine ao_skip rfl rfl rfl ?_ | refine aw_true rfl ?_ | refine aw_false rfl ?_ | refine aw_skip ?_ | refine aw_exit ?_)
      refine ao_meth rfl rfl rfl rfl rfl rfl rfl rfl hF ?_
      repeat (first | refine ao_e rfl rfl rfl rfl rfl ?_ | refine ao_eff (v := V.val (Value.bool true)) (ups := []) rfl rfl rfl rfl ?_ | refine ao_eff (v := V.val (Value.bool false)) (ups := []) rfl rfl rfl rfl ?_ | refine aw_seq ?_ | refine aw_region ?_ | refine aw_block ?_ | refine ao_nil ⟨fun h => (Bool.false_ne_true h).elim, ?_⟩ | refine ao_nil ⟨fun _ => ⟨by kernel_rfl, by kernel_rfl⟩, ?_⟩ | refine ao_skip rfl rfl rfl ?_ | refine aw_true rfl ?_ | refine aw_false rfl ?_ | refine aw_skip ?_ | refine aw_exit ?_)
      refine ao_meth rfl rfl rfl rfl rfl rfl rfl rfl hG ?_
      repeat (first | refine ao_e rfl rfl rfl rfl rfl ?_ | refine ao_eff (v := V.val (Value.bool true)) (ups := []) rfl rfl rfl rfl ?_ | refine ao_eff (v := V.val (Value.bool false)) (ups := []) rfl rfl rfl rfl ?_ | refine aw_seq ?_ | refine aw_region ?_ | refine aw_block ?_ | refine ao_nil ⟨fun h => (Bool.false_ne_true h).elim, ?_⟩ | refine ao_nil ⟨fun _ => ⟨by kernel_rfl, by kernel_rfl⟩, ?_⟩ | refine ao_skip rfl rfl rfl ?_ | refine aw_true rfl ?_ | refine aw_false rfl ?_ | refine aw_skip ?_ | refine aw_exit ?_)
      refine ⟨rfl, _, _, rfl, ⟨(show (⟨#[]⟩ : ByteArray).size < 9223372036854775807 by decide), (show ([] : List E).length < 4611686018427387904 by decide)⟩, gG.1.2, ⟨.ptr _ _ _ _ _ _ _ rfl rfl rfl rfl, .any _, .ptr _ _ _ _ _ _ _ rfl rfl rfl rfl, .ptr _ _ _ _ _ _ _ rfl rfl rfl rfl, trivial⟩, ⟨renB_cl rfl rfl rfl rfl rfl rfl, renB_cl rfl rfl rfl rfl rfl rfl, renB_row rfl rfl rfl rfl rfl rfl rfl ?_, trivial⟩⟩
      exact ⟨nofun, .same _ rfl, nofun, .same _ rfl, nofun, ren_eq (congrArg vi h2) rfl, nofun, .same _ rfl, nofun, .same _ rfl, nofun, .same _ rfl, nofun, .same _ rfl, nofun, .nil _, nofun, .same _ rfl, nofun, .same _ rfl, nofun, .same _ rfl, trivial⟩
    · have e2 : rdO3 A.1 B.1 C = rdEd A.1 B.1 C.1 (rdE C.2) := if_neg h2
      rw [e2]
      have hD := rdrElem (X := XX) gC.1
      have gD := rdE_good gC.1
      have hT := rdrText (X := XX) gD
      have gT := rdT_good gD
      have hN := rdrNumber (X := XX) gT.1
      have gN := rdN_good gT.1
      unfold rdEd rdEd2 rdEd3 rdEd4
      generalize rdE C.2 = D at *
      generalize rdT D.2 = T at *
      generalize rdN T.2 = N at *
      have hm2 : min N.1.toNat 200 ≤ 200 := by omega
      obtain ⟨m, hm⟩ : ∃ m : Nat, min N.1.toNat 200 = m := ⟨_, rfl⟩
      rw [hm] at hm2
      rw [hm]
      repeat (first | refine ao_e rfl rfl rfl rfl rfl ?_ | refine ao_eff (v := V.val (Value.bool true)) (ups := []) rfl rfl rfl rfl ?_ | refine ao_eff (v := V.val (Value.bool false)) (ups := []) rfl rfl rfl rfl ?_ | refine aw_seq ?_ | refine aw_region ?_ | refine aw_block ?_ | refine ao_nil ⟨fun h => (Bool.false_ne_true h).elim, ?_⟩ | refine ao_nil ⟨fun _ => ⟨by kernel_rfl, by kernel_rfl⟩, ?_⟩ | refine ao_skip rfl rfl rfl ?_ | refine aw_true rfl ?_ | refine aw_false rfl ?_ | refine aw_skip ?_ | refine aw_exit ?_)
      refine ao_no rfl rfl rfl rfl h2 ?_
      repeat (first | refine ao_e rfl rfl rfl rfl rfl ?_ | refine ao_eff (v := V.val (Value.bool true)) (ups := []) rfl rfl rfl rfl ?_ | refine ao_eff (v := V.val (Value.bool false)) (ups := []) rfl rfl rfl rfl ?_ | refine aw_seq ?_ | refine aw_region ?_ | refine aw_block ?_ | refine ao_nil ⟨fun h => (Bool.false_ne_true h).elim, ?_⟩ | refine ao_nil ⟨fun _ => ⟨by kernel_rfl, by kernel_rfl⟩, ?_⟩ | refine ao_skip rfl rfl rfl ?_ | refine aw_true rfl ?_ | refine aw_false rfl ?_ | refine aw_skip ?_ | refine aw_exit ?_)
      refine ao_meth rfl rfl rfl rfl rfl rfl rfl rfl hD ?_
      repeat (first | refine ao_e rfl rfl rfl rfl rfl ?_ | refine ao_eff (v := V.val (Value.bool true)) (ups := []) rfl rfl rfl rfl ?_ | refine ao_eff (v := V.val (Value.bool false)) (ups := []) rfl rfl rfl rfl ?_ | refine aw_seq ?_ | refine aw_region ?_ | refine aw_block ?_ | refine ao_nil ⟨fun h => (Bool.false_ne_true h).elim, ?_⟩ | refine ao_nil ⟨fun _ => ⟨by kernel_rfl, by kernel_rfl⟩, ?_⟩ | refine ao_skip rfl rfl rfl ?_ | refine aw_true rfl ?_ | refine aw_false rfl ?_ | refine aw_skip ?_ | refine aw_exit ?_)
      refine ao_meth rfl rfl rfl rfl rfl rfl rfl rfl hT ?_
      repeat (first | refine ao_e rfl rfl rfl rfl rfl ?_ | refine ao_eff (v := V.val (Value.bool true)) (ups := []) rfl rfl rfl rfl ?_ | refine ao_eff (v := V.val (Value.bool false)) (ups := []) rfl rfl rfl rfl ?_ | refine aw_seq ?_ | refine aw_region ?_ | refine aw_block ?_ | refine ao_nil ⟨fun h => (Bool.false_ne_true h).elim, ?_⟩ | refine ao_nil ⟨fun _ => ⟨by kernel_rfl, by kernel_rfl⟩, ?_⟩ | refine ao_skip rfl rfl rfl ?_ | refine aw_true rfl ?_ | refine aw_false rfl ?_ | refine aw_skip ?_ | refine aw_exit ?_)
      refine ao_meth rfl rfl rfl rfl rfl rfl rfl rfl hN ?_
      repeat (first | refine ao_e rfl rfl rfl rfl rfl ?_ | refine ao_eff (v := V.val (Value.bool true)) (ups := []) rfl rfl rfl rfl ?_ | refine ao_eff (v := V.val (Value.bool false)) (ups := []) rfl rfl rfl rfl ?_ | refine aw_seq ?_ | refine aw_region ?_ | refine aw_block ?_ | refine ao_nil ⟨fun h => (Bool.false_ne_true h).elim, ?_⟩ | refine ao_nil ⟨fun _ => ⟨by kernel_rfl, by kernel_rfl⟩, ?_⟩ | refine ao_skip rfl rfl rfl ?_ | refine aw_true rfl ?_ | refine aw_false rfl ?_ | refine aw_skip ?_ | refine aw_exit ?_)
      refine ao_is (m : Int) rfl rfl rfl rfl ?_ ?_
      · show (if (200 : Int) < N.1 then (200 : Int) else N.1) = _
        split <;> omega
      repeat (first | refine ao_e rfl rfl rfl rfl rfl ?_ | refine ao_eff (v := V.val (Value.bool true)) (ups := []) rfl rfl rfl rfl ?_ | refine ao_eff (v := V.val (Value.bool false)) (ups := []) rfl rfl rfl rfl ?_ | refine aw_seq ?_ | refine aw_region ?_ | refine aw_block ?_ | refine ao_nil ⟨fun h => (Bool.false_ne_true h).elim, ?_⟩ | refine ao_nil ⟨fun _ => ⟨by kernel_rfl, by kernel_rfl⟩, ?_⟩ | refine ao_skip rfl rfl rfl ?_ | refine aw_true rfl ?_ | refine aw_false rfl ?_ | refine aw_skip ?_ | refine aw_exit ?_)
      refine aw_rounds (T := List E × Pt) (fun t => t.1.length ≤ m ∧ GoodP t.2 ∧ rdG m N.2 = (t.1 ++ (rdG (m - t.1.length) t.2).1, (rdG (m - t.1.length) t.2).2)) (fun t => .ptr 1 0 0 0 :: .any :: .ptr (newId (siteOf 0 0) 0) 0 0 0 :: .ptr (newId (siteOf 1 7) 0) 0 0 0 :: vi N.1 :: anys 28 [vi (m : Nat), vi (t.1.length : Nat)]) (fun t => rHl ⟨A.1, B.1, C.1, D.1, T.1, [], 0, 0, 0⟩ t.2 t.1) (fun t => m - t.1.length) ([], N.2) ⟨Nat.zero_le _, gN.1, rfl⟩ ?_ ?_ ?_
      · exact ⟨.ptr _ _ _ _ _ _ _ rfl rfl rfl rfl, .any _, .ptr _ _ _ _ _ _ _ rfl rfl rfl rfl, .ptr _ _ _ _ _ _ _ rfl rfl rfl rfl, .same _ rfl, renL_anys ⟨.same _ rfl, .same _ rfl, trivial⟩⟩
      · exact ⟨renB_cl rfl rfl rfl rfl rfl rfl, renB_cl rfl rfl rfl rfl rfl rfl, renB_cl rfl rfl rfl rfl rfl rfl, trivial⟩
      rintro ⟨acc, q⟩ h0 ⟨hl, gq, hI⟩
      dsimp only at hl gq hI ⊢
      have hE := rdrElem (X := XX) gq
      have gE := rdE_good gq
      by_cases hlt : acc.length < m
      · have hs : m - acc.length = (m - (acc.length + 1)) + 1 := by omega
        have hI2 : rdG m N.2 = ((acc ++ [(rdE q).1]) ++ (rdG (m - (acc.length + 1)) (rdE q).2).1, (rdG (m - (acc.length + 1)) (rdE q).2).2) := by
          rw [hI, hs]; simp [rdG]
        cases acc with
        | nil =>
          repeat (first | refine ao_e rfl rfl rfl rfl rfl ?_ | refine ao_eff (v := V.val (Value.bool true)) (ups := []) rfl rfl rfl rfl ?_ | refine ao_eff (v := V.val (Value.bool false)) (ups := []) rfl rfl rfl rfl ?_ | refine aw_seq ?_ | refine aw_region ?_ | refine aw_block ?_ | refine ao_nil ⟨fun h => (Bool.false_ne_true h).elim, ?_⟩ | refine ao_nil ⟨fun _ => ⟨by kernel_rfl, by kernel_rfl⟩, ?_⟩ | refine ao_skip rfl rfl rfl ?_ | refine aw_true rfl ?_ | refine aw_false rfl ?_ | refine aw_skip ?_ | refine aw_exit ?_)
          refine ao_yes rfl rfl rfl rfl (by simp only [List.length_nil] at hlt ⊢; omega) ?_
          repeat (first | refine ao_e rfl rfl rfl rfl rfl ?_ | refine ao_eff (v := V.val (Value.bool true)) (ups := []) rfl rfl rfl rfl ?_ | refine ao_eff (v := V.val (Value.bool false)) (ups := []) rfl rfl rfl rfl ?_ | refine aw_seq ?_ | refine aw_region ?_ | refine aw_block ?_ | refine ao_nil ⟨fun h => (Bool.false_ne_true h).elim, ?_⟩ | refine ao_nil ⟨fun _ => ⟨by kernel_rfl, by kernel_rfl⟩, ?_⟩ | refine ao_skip rfl rfl rfl ?_ | refine aw_true rfl ?_ | refine aw_false rfl ?_ | refine aw_skip ?_ | refine aw_exit ?_)
          refine ao_meth rfl rfl rfl rfl rfl rfl rfl rfl hE ?_
          repeat (first | refine ao_e rfl rfl rfl rfl rfl ?_ | refine ao_eff (v := V.val (Value.bool true)) (ups := []) rfl rfl rfl rfl ?_ | refine ao_eff (v := V.val (Value.bool false)) (ups := []) rfl rfl rfl rfl ?_ | refine aw_seq ?_ | refine aw_region ?_ | refine aw_block ?_ | refine ao_nil ⟨fun h => (Bool.false_ne_true h).elim, ?_⟩ | refine ao_nil ⟨fun _ => ⟨by kernel_rfl, by kernel_rfl⟩, ?_⟩ | refine ao_skip rfl rfl rfl ?_ | refine aw_true rfl ?_ | refine aw_false rfl ?_ | refine aw_skip ?_ | refine aw_exit ?_)
          exact ⟨([(rdE q).1], (rdE q).2), ⟨by simp only [List.length_nil, List.length_singleton] at hlt ⊢; omega, gE, hI2⟩, by simp only [List.length_nil, List.length_singleton] at hlt ⊢; omega, ⟨.ptr _ _ _ _ _ _ _ rfl rfl rfl rfl, .any _, .ptr _ _ _ _ _ _ _ rfl rfl rfl rfl, .ptr _ _ _ _ _ _ _ rfl rfl rfl rfl, .same _ rfl, renL_anys ⟨.same _ rfl, rsucc 0 (by decide), trivial⟩⟩, ⟨renB_cl rfl rfl rfl rfl rfl rfl, renB_cl rfl rfl rfl rfl rfl rfl, renB_row rfl rfl rfl rfl rfl rfl rfl ⟨nofun, .same _ rfl, nofun, .same _ rfl, nofun, .same _ rfl, nofun, .same _ rfl, nofun, .same _ rfl, nofun, .same _ rfl, nofun, .same _ rfl, nofun, .sl _ _ _ _ _ _ _ rfl rfl rfl rfl, nofun, .same _ rfl, nofun, .same _ rfl, nofun, .same _ rfl, trivial⟩, renB_cl rfl rfl rfl rfl rfl rfl, trivial⟩⟩
        | cons a0 l0 =>
          repeat (first | refine ao_e rfl rfl rfl rfl rfl ?_ | refine ao_eff (v := V.val (Value.bool true)) (ups := []) rfl rfl rfl rfl ?_ | refine ao_eff (v := V.val (Value.bool false)) (ups := []) rfl rfl rfl rfl ?_ | refine aw_seq ?_ | refine aw_region ?_ | refine aw_block ?_ | refine ao_nil ⟨fun h => (Bool.false_ne_true h).elim, ?_⟩ | refine ao_nil ⟨fun _ => ⟨by kernel_rfl, by kernel_rfl⟩, ?_⟩ | refine ao_skip rfl rfl rfl ?_ | refine aw_true rfl ?_ | refine aw_false rfl ?_ | refine aw_skip ?_ | refine aw_exit ?_)
          refine ao_yes rfl rfl rfl rfl (by omega) ?_
          repeat (first | refine ao_e rfl rfl rfl rfl rfl ?_ | refine ao_eff (v := V.val (Value.bool true)) (ups := []) rfl rfl rfl rfl ?_ | refine ao_eff (v := V.val (Value.bool false)) (ups := []) rfl rfl rfl rfl ?_ | refine aw_seq ?_ | refine aw_region ?_ | refine aw_block ?_ | refine ao_nil ⟨fun h => (Bool.false_ne_true h).elim, ?_⟩ | refine ao_nil ⟨fun _ => ⟨by kernel_rfl, by kernel_rfl⟩, ?_⟩ | refine ao_skip rfl rfl rfl ?_ | refine aw_true rfl ?_ | refine aw_false rfl ?_ | refine aw_skip ?_ | refine aw_exit ?_)
          refine ao_meth rfl rfl rfl rfl rfl rfl rfl rfl hE ?_
          repeat (first | refine ao_e rfl rfl rfl rfl rfl ?_ | refine ao_eff (v := V.val (Value.bool true)) (ups := []) rfl rfl rfl rfl ?_ | refine ao_eff (v := V.val (Value.bool false)) (ups := []) rfl rfl rfl rfl ?_ | refine aw_seq ?_ | refine aw_region ?_ | refine aw_block ?_ | refine ao_nil ⟨fun h => (Bool.false_ne_true h).elim, ?_⟩ | refine ao_nil ⟨fun _ => ⟨by kernel_rfl, by kernel_rfl⟩, ?_⟩ | refine ao_skip rfl rfl rfl ?_ | refine aw_true rfl ?_ | refine aw_false rfl ?_ | refine aw_skip ?_ | refine aw_exit ?_)
          refine ao_e rfl rfl rfl rfl (ef_push eC (a0 :: l0) (rdE q).1 24 rfl rfl rfl rfl rfl rfl rfl rfl rfl (by omega)) ?_
          repeat (first | refine ao_e rfl rfl rfl rfl rfl ?_ | refine ao_eff (v := V.val (Value.bool true)) (ups := []) rfl rfl rfl rfl ?_ | refine ao_eff (v := V.val (Value.bool false)) (ups := []) rfl rfl rfl rfl ?_ | refine aw_seq ?_ | refine aw_region ?_ | refine aw_block ?_ | refine ao_nil ⟨fun h => (Bool.false_ne_true h).elim, ?_⟩ | refine ao_nil ⟨fun _ => ⟨by kernel_rfl, by kernel_rfl⟩, ?_⟩ | refine ao_skip rfl rfl rfl ?_ | refine aw_true rfl ?_ | refine aw_false rfl ?_ | refine aw_skip ?_ | refine aw_exit ?_)
          exact ⟨((a0 :: l0) ++ [(rdE q).1], (rdE q).2), ⟨by simp only [List.length_append, List.length_singleton]; omega, gE, by simpa using hI2⟩, by simp only [List.length_append, List.length_singleton]; omega, ⟨.ptr _ _ _ _ _ _ _ rfl rfl rfl rfl, .any _, .ptr _ _ _ _ _ _ _ rfl rfl rfl rfl, .ptr _ _ _ _ _ _ _ rfl rfl rfl rfl, .same _ rfl, renL_anys ⟨.same _ rfl, ren_eq (congrArg vi ((wsucc (i := (a0 :: l0).length) (by omega)).trans (by simp))) rfl, trivial⟩⟩, ⟨renB_cl rfl rfl rfl rfl rfl rfl, renB_cl rfl rfl rfl rfl rfl rfl, renB_row rfl rfl rfl rfl rfl rfl rfl ⟨nofun, .same _ rfl, nofun, .same _ rfl, nofun, .same _ rfl, nofun, .same _ rfl, nofun, .same _ rfl, nofun, .same _ rfl, nofun, .same _ rfl, nofun, .sl _ _ _ _ _ _ _ rfl rfl rfl rfl, nofun, .same _ rfl, nofun, .same _ rfl, nofun, .same _ rfl, trivial⟩, renB_cl rfl rfl rfl rfl rfl rfl, trivial⟩⟩
      · have hm0 : m - acc.length = 0 := by omega
        rw [hm0] at hI
        simp only [rdG, List.append_nil] at hI
        rw [hI]
        obtain ⟨q1, q2⟩ := q
        cases acc with
        | nil =>
          repeat (first | refine ao_e rfl rfl rfl rfl rfl ?_ | refine ao_eff (v := V.val (Value.bool true)) (ups := []) rfl rfl rfl rfl ?_ | refine ao_eff (v := V.val (Value.bool false)) (ups := []) rfl rfl rfl rfl ?_ | refine aw_seq ?_ | refine aw_region ?_ | refine aw_block ?_ | refine ao_nil ⟨fun h => (Bool.false_ne_true h).elim, ?_⟩ | refine ao_nil ⟨fun _ => ⟨by kernel_rfl, by kernel_rfl⟩, ?_⟩ | refine ao_skip rfl rfl rfl ?_ | refine aw_true rfl ?_ | refine aw_false rfl ?_ | refine aw_skip ?_ | refine aw_exit ?_)
          refine ao_no rfl rfl rfl rfl (by simp only [List.length_nil] at hlt ⊢; omega) ?_
          cases q2
          · repeat (first | refine ao_e rfl rfl rfl rfl rfl ?_ | refine ao_eff (v := V.val (Value.bool true)) (ups := []) rfl rfl rfl rfl ?_ | refine ao_eff (v := V.val (Value.bool false)) (ups := []) rfl rfl rfl rfl ?_ | refine aw_seq ?_ | refine aw_region ?_ | refine aw_block ?_ | refine ao_nil ⟨fun h => (Bool.false_ne_true h).elim, ?_⟩ | refine ao_nil ⟨fun _ => ⟨by kernel_rfl, by kernel_rfl⟩, ?_⟩ | refine ao_skip rfl rfl rfl ?_ | refine aw_true rfl ?_ | refine aw_false rfl ?_ | refine aw_skip ?_ | refine aw_exit ?_)
            refine ao_dec rfl rfl rfl rfl (fun hb => ?_) (fun hb => ?_)
            · repeat (first | refine ao_e rfl rfl rfl rfl rfl ?_ | refine ao_eff (v := V.val (Value.bool true)) (ups := []) rfl rfl rfl rfl ?_ | refine ao_eff (v := V.val (Value.bool false)) (ups := []) rfl rfl rfl rfl ?_ | refine aw_seq ?_ | refine aw_region ?_ | refine aw_block ?_ | refine ao_nil ⟨fun h => (Bool.false_ne_true h).elim, ?_⟩ | refine ao_nil ⟨fun _ => ⟨by kernel_rfl, by kernel_rfl⟩, ?_⟩ | refine ao_skip rfl rfl rfl ?_ | refine aw_true rfl ?_ | refine aw_false rfl ?_ | refine aw_skip ?_ | refine aw_exit ?_)
              refine ⟨rfl, ⟨A.1, B.1, C.1, D.1, T.1, [], 0, 0, 0⟩, (q1, true), by dsimp only; rw [decide_eq_true (by assumption)]; rfl, ⟨by show T.1.size < 9223372036854775807; have := gT.2; omega, by first | (show ([] : List E).length < 4611686018427387904; decide) | (show (a0 :: l0).length < 4611686018427387904; omega)⟩, gq.2, ⟨.ptr _ _ _ _ _ _ _ rfl rfl rfl rfl, .any _, .ptr _ _ _ _ _ _ _ rfl rfl rfl rfl, .ptr _ _ _ _ _ _ _ rfl rfl rfl rfl, trivial⟩, ⟨renB_cl rfl rfl rfl rfl rfl rfl, renB_cl rfl rfl rfl rfl rfl rfl, renB_row rfl rfl rfl rfl rfl rfl rfl ?_, trivial⟩⟩
              exact ⟨nofun, .same _ rfl, nofun, .same _ rfl, nofun, .same _ rfl, nofun, .same _ rfl, nofun, .same _ rfl, nofun, .same _ rfl, nofun, .same _ rfl, nofun, .nil _, nofun, .same _ rfl, nofun, .same _ rfl, nofun, .same _ rfl, trivial⟩
            · repeat (first | refine ao_e rfl rfl rfl rfl rfl ?_ | refine ao_eff (v := V.val (Value.bool true)) (ups := []) rfl rfl rfl rfl ?_ | refine ao_eff (v := V.val (Value.bool false)) (ups := []) rfl rfl rfl rfl ?_ | refine aw_seq ?_ | refine aw_region ?_ | refine aw_block ?_ | refine ao_nil ⟨fun h => (Bool.false_ne_true h).elim, ?_⟩ | refine ao_nil ⟨fun _ => ⟨by kernel_rfl, by kernel_rfl⟩, ?_⟩ | refine ao_skip rfl rfl rfl ?_ | refine aw_true rfl ?_ | refine aw_false rfl ?_ | refine aw_skip ?_ | refine aw_exit ?_)
              refine ⟨rfl, ⟨A.1, B.1, C.1, D.1, T.1, [], 0, 0, 0⟩, (q1, false), by dsimp only; rw [decide_eq_false (by assumption)]; rfl, ⟨by show T.1.size < 9223372036854775807; have := gT.2; omega, by first | (show ([] : List E).length < 4611686018427387904; decide) | (show (a0 :: l0).length < 4611686018427387904; omega)⟩, gq.2, ⟨.ptr _ _ _ _ _ _ _ rfl rfl rfl rfl, .any _, .ptr _ _ _ _ _ _ _ rfl rfl rfl rfl, .ptr _ _ _ _ _ _ _ rfl rfl rfl rfl, trivial⟩, ⟨renB_cl rfl rfl rfl rfl rfl rfl, renB_cl rfl rfl rfl rfl rfl rfl, renB_row rfl rfl rfl rfl rfl rfl rfl ?_, trivial⟩⟩
              exact ⟨nofun, .same _ rfl, nofun, .same _ rfl, nofun, .same _ rfl, nofun, .same _ rfl, nofun, .same _ rfl, nofun, .same _ rfl, nofun, .same _ rfl, nofun, .nil _, nofun, .same _ rfl, nofun, .same _ rfl, nofun, .same _ rfl, trivial⟩
          · repeat (first | refine ao_e rfl rfl rfl rfl rfl ?_ | refine ao_eff (v := V.val (Value.bool true)) (ups := []) rfl rfl rfl rfl ?_ | refine ao_eff (v := V.val (Value.bool false)) (ups := []) rfl rfl rfl rfl ?_ | refine aw_seq ?_ | refine aw_region ?_ | refine aw_block ?_ | refine ao_nil ⟨fun h => (Bool.false_ne_true h).elim, ?_⟩ | refine ao_nil ⟨fun _ => ⟨by kernel_rfl, by kernel_rfl⟩, ?_⟩ | refine ao_skip rfl rfl rfl ?_ | refine aw_true rfl ?_ | refine aw_false rfl ?_ | refine aw_skip ?_ | refine aw_exit ?_)
            refine ⟨rfl, ⟨A.1, B.1, C.1, D.1, T.1, [], 0, 0, 0⟩, (q1, true), rfl, ⟨by show T.1.size < 9223372036854775807; have := gT.2; omega, by first | (show ([] : List E).length < 4611686018427387904; decide) | (show (a0 :: l0).length < 4611686018427387904; omega)⟩, gq.2, ⟨.ptr _ _ _ _ _ _ _ rfl rfl rfl rfl, .any _, .ptr _ _ _ _ _ _ _ rfl rfl rfl rfl, .ptr _ _ _ _ _ _ _ rfl rfl rfl rfl, trivial⟩, ⟨renB_cl rfl rfl rfl rfl rfl rfl, renB_cl rfl rfl rfl rfl rfl rfl, renB_row rfl rfl rfl rfl rfl rfl rfl ?_, trivial⟩⟩
            exact ⟨nofun, .same _ rfl, nofun, .same _ rfl, nofun, .same _ rfl, nofun, .same _ rfl, nofun, .same _ rfl, nofun, .same _ rfl, nofun, .same _ rfl, nofun, .nil _, nofun, .same _ rfl, nofun, .same _ rfl, nofun, .same _ rfl, trivial⟩
        | cons a0 l0 =>
          repeat (first | refine ao_e rfl rfl rfl rfl rfl ?_ | refine ao_eff (v := V.val (Value.bool true)) (ups := []) rfl rfl rfl rfl ?_ | refine ao_eff (v := V.val (Value.bool false)) (ups := []) rfl rfl rfl rfl ?_ | refine aw_seq ?_ | refine aw_region ?_ | refine aw_block ?_ | refine ao_nil ⟨fun h => (Bool.false_ne_true h).elim, ?_⟩ | refine ao_nil ⟨fun _ => ⟨by kernel_rfl, by kernel_rfl⟩, ?_⟩ | refine ao_skip rfl rfl rfl ?_ | refine aw_true rfl ?_ | refine aw_false rfl ?_ | refine aw_skip ?_ | refine aw_exit ?_)
          refine ao_no rfl rfl rfl rfl (by omega) ?_
          cases q2
          · repeat (first | refine ao_e rfl rfl rfl rfl rfl ?_ | refine ao_eff (v := V.val (Value.bool true)) (ups := []) rfl rfl rfl rfl ?_ | refine ao_eff (v := V.val (Value.bool false)) (ups := []) rfl rfl rfl rfl ?_ | refine aw_seq ?_ | refine aw_region ?_ | refine aw_block ?_ | refine ao_nil ⟨fun h => (Bool.false_ne_true h).elim, ?_⟩ | refine ao_nil ⟨fun _ => ⟨by kernel_rfl, by kernel_rfl⟩, ?_⟩ | refine ao_skip rfl rfl rfl ?_ | refine aw_true rfl ?_ | refine aw_false rfl ?_ | refine aw_skip ?_ | refine aw_exit ?_)
            refine ao_dec rfl rfl rfl rfl (fun hb => ?_) (fun hb => ?_)
            · repeat (first | refine ao_e rfl rfl rfl rfl rfl ?_ | refine ao_eff (v := V.val (Value.bool true)) (ups := []) rfl rfl rfl rfl ?_ | refine ao_eff (v := V.val (Value.bool false)) (ups := []) rfl rfl rfl rfl ?_ | refine aw_seq ?_ | refine aw_region ?_ | refine aw_block ?_ | refine ao_nil ⟨fun h => (Bool.false_ne_true h).elim, ?_⟩ | refine ao_nil ⟨fun _ => ⟨by kernel_rfl, by kernel_rfl⟩, ?_⟩ | refine ao_skip rfl rfl rfl ?_ | refine aw_true rfl ?_ | refine aw_false rfl ?_ | refine aw_skip ?_ | refine aw_exit ?_)
              refine ⟨rfl, ⟨A.1, B.1, C.1, D.1, T.1, (a0 :: l0), 0, 0, 0⟩, (q1, true), by dsimp only; rw [decide_eq_true (by assumption)]; rfl, ⟨by show T.1.size < 9223372036854775807; have := gT.2; omega, by first | (show ([] : List E).length < 4611686018427387904; decide) | (show (a0 :: l0).length < 4611686018427387904; omega)⟩, gq.2, ⟨.ptr _ _ _ _ _ _ _ rfl rfl rfl rfl, .any _, .ptr _ _ _ _ _ _ _ rfl rfl rfl rfl, .ptr _ _ _ _ _ _ _ rfl rfl rfl rfl, trivial⟩, ⟨renB_cl rfl rfl rfl rfl rfl rfl, renB_cl rfl rfl rfl rfl rfl rfl, renB_row rfl rfl rfl rfl rfl rfl rfl ?_, trivial⟩⟩
              exact ⟨nofun, .same _ rfl, nofun, .same _ rfl, nofun, .same _ rfl, nofun, .same _ rfl, nofun, .same _ rfl, nofun, .same _ rfl, nofun, .same _ rfl, nofun, ren_frz eC (a0 :: l0) rfl rfl rfl rfl rfl rfl, nofun, .same _ rfl, nofun, .same _ rfl, nofun, .same _ rfl, trivial⟩
            · repeat (first | refine ao_e rfl rfl rfl rfl rfl ?_ | refine ao_eff (v := V.val (Value.bool true)) (ups := []) rfl rfl rfl rfl ?_ | refine ao_eff (v := V.val (Value.bool false)) (ups := []) rfl rfl rfl rfl ?_ | refine aw_seq ?_ | refine aw_region ?_ | refine aw_block ?_ | refine ao_nil ⟨fun h => (Bool.false_ne_true h).elim, ?_⟩ | refine ao_nil ⟨fun _ => ⟨by kernel_rfl, by kernel_rfl⟩, ?_⟩ | refine ao_skip rfl rfl rfl ?_ | refine aw_true rfl ?_ | refine aw_false rfl ?_ | refine aw_skip ?_ | refine aw_exit ?_)
              refine ⟨rfl, ⟨A.1, B.1, C.1, D.1, T.1, (a0 :: l0), 0, 0, 0⟩, (q1, false), by dsimp only; rw [decide_eq_false (by assumption)]; rfl, ⟨by show T.1.size < 9223372036854775807; have := gT.2; omega, by first | (show ([] : List E).length < 4611686018427387904; decide) | (show (a0 :: l0).length < 4611686018427387904; omega)⟩, gq.2, ⟨.ptr _ _ _ _ _ _ _ rfl rfl rfl rfl, .any _, .ptr _ _ _ _ _ _ _ rfl rfl rfl rfl, .ptr _ _ _ _ _ _ _ rfl rfl rfl rfl, trivial⟩, ⟨renB_cl rfl rfl rfl rfl rfl rfl, renB_cl rfl rfl rfl rfl rfl rfl, renB_row rfl rfl rfl rfl rfl rfl rfl ?_, trivial⟩⟩
              exact ⟨nofun, .same _ rfl, nofun, .same _ rfl, nofun, .same _ rfl, nofun, .same _ rfl, nofun, .same _ rfl, nofun, .same _ rfl, nofun, .same _ rfl, nofun, ren_frz eC (a0 :: l0) rfl rfl rfl rfl rfl rfl, nofun, .same _ rfl, nofun, .same _ rfl, nofun, .same _ rfl, trivial⟩
          · repeat (first | refine ao_e rfl rfl rfl rfl rfl ?_ | refine ao_eff (v := V.val (Value.bool true)) (ups := []) rfl rfl rfl rfl ?_ | refine ao_eff (v := V.val (Value.bool false)) (ups := []) rfl rfl rfl rfl ?_ | refine aw_seq ?_ | refine aw_region ?_ | refine aw_block ?_ | refine ao_nil ⟨fun h => (Bool.false_ne_true h).elim, ?_⟩ | refine ao_nil ⟨fun _ => ⟨by kernel_rfl, by kernel_rfl⟩, ?_⟩ | refine ao_skip rfl rfl rfl ?_ | refine aw_true rfl ?_ | refine aw_false rfl ?_ | refine aw_skip ?_ | refine aw_exit ?_)
            refine ⟨rfl, ⟨A.1, B.1, C.1, D.1, T.1, (a0 :: l0), 0, 0, 0⟩, (q1, true), rfl, ⟨by show T.1.size < 9223372036854775807; have := gT.2; omega, by first | (show ([] : List E).length < 4611686018427387904; decide) | (show (a0 :: l0).length < 4611686018427387904; omega)⟩, gq.2, ⟨.ptr _ _ _ _ _ _ _ rfl rfl rfl rfl, .any _, .ptr _ _ _ _ _ _ _ rfl rfl rfl rfl, .ptr _ _ _ _ _ _ _ rfl rfl rfl rfl, trivial⟩, ⟨renB_cl rfl rfl rfl rfl rfl rfl, renB_cl rfl rfl rfl rfl rfl rfl, renB_row rfl rfl rfl rfl rfl rfl rfl ?_, trivial⟩⟩
            exact ⟨nofun, .same _ rfl, nofun, .same _ rfl, nofun, .same _ rfl, nofun, .same _ rfl, nofun, .same _ rfl, nofun, .same _ rfl, nofun, .same _ rfl, nofun, ren_frz eC (a0 :: l0) rfl rfl rfl rfl rfl rfl, nofun, .same _ rfl, nofun, .same _ rfl, nofun, .same _ rfl, trivial⟩
  · rintro x σ' ⟨rfl, o, q, hr, hf, hq, h1, h2⟩
    rw [hr]
    obtain ⟨l, b⟩ := q
    have hm := opMay o hf
    refine aw_canon _ _ h1 h2 (fun h0 => ?_)
    cases b
    · cases hb : mayB o
      all_goals
        rw [hb] at hm
        have hfin : fin o (l, false) = (o, (l, !mayB o)) := rfl
        rw [hfin, hb]
        repeat (first | refine ao_e rfl rfl rfl rfl rfl ?_ | refine ao_eff (v := V.val (Value.bool true)) (ups := []) rfl rfl rfl rfl ?_ | refine ao_eff (v := V.val (Value.bool false)) (ups := []) rfl rfl rfl rfl ?_ | refine aw_seq ?_ | refine aw_region ?_ | refine aw_block ?_ | refine ao_nil ⟨fun h => (Bool.false_ne_true h).elim, ?_⟩ | refine ao_nil ⟨fun _ => ⟨by kernel_rfl, by kernel_rfl⟩, ?_⟩ | refine ao_skip rfl rfl rfl ?_ | refine aw_true rfl ?_ | refine aw_false rfl ?_ | refine aw_skip ?_ | refine aw_exit ?_)
        refine ao_fun rfl rfl rfl rfl rfl rfl hm ?_
        repeat (first | refine ao_e rfl rfl rfl rfl rfl ?_ | refine ao_eff (v := V.val (Value.bool true)) (ups := []) rfl rfl rfl rfl ?_ | refine ao_eff (v := V.val (Value.bool false)) (ups := []) rfl rfl rfl rfl ?_ | refine aw_seq ?_ | refine aw_region ?_ | refine aw_block ?_ | refine ao_nil ⟨fun h => (Bool.false_ne_true h).elim, ?_⟩ | refine ao_nil ⟨fun _ => ⟨by kernel_rfl, by kernel_rfl⟩, ?_⟩ | refine ao_skip rfl rfl rfl ?_ | refine aw_true rfl ?_ | refine aw_false rfl ?_ | refine aw_skip ?_ | refine aw_exit ?_)
        exact aw_ret ⟨.inr rfl, _, _, _, _, _, rfl, rfl, rfl, rfl, rfl, rfl⟩
    · repeat (first | refine ao_e rfl rfl rfl rfl rfl ?_ | refine ao_eff (v := V.val (Value.bool true)) (ups := []) rfl rfl rfl rfl ?_ | refine ao_eff (v := V.val (Value.bool false)) (ups := []) rfl rfl rfl rfl ?_ | refine aw_seq ?_ | refine aw_region ?_ | refine aw_block ?_ | refine ao_nil ⟨fun h => (Bool.false_ne_true h).elim, ?_⟩ | refine ao_nil ⟨fun _ => ⟨by kernel_rfl, by kernel_rfl⟩, ?_⟩ | refine ao_skip rfl rfl rfl ?_ | refine aw_true rfl ?_ | refine aw_false rfl ?_ | refine aw_skip ?_ | refine aw_exit ?_)
      exact aw_ret ⟨.inr rfl, _, _, _, _, _, rfl, rfl, rfl, rfl, rfl, rfl⟩
end Go.Ai
