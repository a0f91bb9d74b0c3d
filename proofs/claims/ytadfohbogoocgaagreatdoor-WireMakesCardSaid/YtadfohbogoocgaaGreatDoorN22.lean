/- A part of the proof: what the program does, step by step, over values without addresses. No conditions of mine. -/
import Derived.Test.YtadfohbogoocgaaGreatDoorRunN18toN19
import Derived.Test.YtadfohbogoocgaaGreatDoorCoreAiHtoAiSk
set_option linter.unusedVariables false
set_option linter.unusedSimpArgs false
namespace Go.Ai
open Go Go.RowKit Go.Proofs Go.Sp
set_option maxRecDepth 10000
set_option maxHeartbeats 8000000
set_option linter.unusedVariables false
set_option linter.unusedSimpArgs false
def m0 : M := ⟨0, 0, 0, 0, 0, 0, []⟩
def mCw (m : M) (v : V) : List V := [vi m.f0, vi m.f1, vi m.f2, vi m.f3, vi m.f4, vi m.f5, v]
/-- What taking a message tells. -/
def tkMV : Option M → V
  | some m => .tup [.agg (mC m), vi 0]
  | none => .tup [.agg (mC m0), vi 7]
def tH (q : Pt) (cs : List V) : List (Nat × Blk) := [(newId (siteOf 0 0) 0, ⟨0, 7, true, true, [mC m0]⟩), (newId (siteOf 1 2) 0, ⟨0, 2, true, true, [ptC q]⟩), (newId (siteOf 2 13) 0, ⟨0, 7, true, false, [cs]⟩)]
def tHl (m : M) (q : Pt) : List O → List (Nat × Blk)
  | [] => tH q (mCw m .emp)
  | o :: l => tH q (mCw m (.sl (newId (siteOf 6 5) 0) 0 0 (o :: l).length)) ++ [(newId (siteOf 6 5) 0, ⟨0, 11, true, true, (o :: l).map oC⟩)]
theorem str_none (l : List Int) : strOfNums l = ⟨#[]⟩ ↔ l = [] := by
  constructor
  · intro h
    have := congrArg ByteArray.size h
    rw [strOfNums_size] at this
    exact List.eq_nil_of_length_eq_zero this
  · rintro rfl; rfl
theorem packTake {l : List Int} (hg : GoodP (l, false)) : AF Tryz.prog XX 30 [vs (strOfNums l)] (tkMV (rdM (l, false))) := by
  refine ac_mk (by kernel_rfl) Tryz.func30 rfl (lb rfl) rfl (by unfold tkMV; split <;> rfl) ?_
  have hA := rdrNumber (X := XX) hg
  have gA := rdN_good hg
  have hB := rdrNumber (X := XX) gA.1
  have gB := rdN_good gA.1
  have hC := rdrNumber (X := XX) gB.1
  have gC := rdN_good gB.1
  have hD := rdrNumber (X := XX) gC.1
  have gD := rdN_good gC.1
  have hF := rdrNumber (X := XX) gD.1
  have gF := rdN_good gD.1
  have hG := rdrNumber (X := XX) gF.1
  have gG := rdN_good gF.1
  have hN := rdrNumber (X := XX) gG.1
  have gN := rdN_good gG.1
  have e : rdM (l, false) = rdM7 (rdN (l, false)).1 (rdN (rdN (l, false)).2).1 (rdN (rdN (rdN (l, false)).2).2).1 (rdN (rdN (rdN (rdN (l, false)).2).2).2).1 (rdN (rdN (rdN (rdN (rdN (l, false)).2).2).2).2).1 (rdN (rdN (rdN (rdN (rdN (rdN (l, false)).2).2).2).2).2).1 (rdN (rdN (rdN (rdN (rdN (rdN (rdN (l, false)).2).2).2).2).2).2) := rfl
  rw [e]
  generalize rdN (l, false) = A at *
  generalize rdN A.2 = B at *
  generalize rdN B.2 = C at *
  generalize rdN C.2 = D at *
  generalize rdN D.2 = F at *
  generalize rdN F.2 = G at *
  generalize rdN G.2 = N at *
  unfold rdM7
  have hm2 : min N.1.toNat 4 ≤ 4 := by omega
  obtain ⟨m, hm⟩ : ∃ m : Nat, min N.1.toNat 4 = m := ⟨_, rfl⟩
  rw [hm] at hm2
  rw [hm]
  repeat (first | refine ao_e rfl rfl rfl rfl rfl ?_ | refine ao_eff (v := V.val (Value.bool true)) (ups := []) rfl rfl rfl rfl ?_ | refine ao_eff (v := V.val (Value.bool false)) (ups := []) rfl rfl rfl rfl ?_ | refine aw_seq ?_ | refine aw_region ?_ | refine aw_block ?_ | refine ao_nil ⟨fun h => (Bool.false_ne_true h).elim, ?_⟩ | refine ao_nil ⟨fun _ => ⟨by kernel_rfl, by kernel_rfl⟩, ?_⟩ | refine ao_skip rfl rfl rfl ?_ | refine aw_true rfl ?_ | refine aw_false rfl ?_ | refine aw_skip ?_ | refine aw_exit ?_)
  refine ao_meth rfl rfl rfl rfl rfl rfl rfl rfl hA ?_
  repeat (first | refine ao_e rfl rfl rfl rfl rfl ?_ | refine ao_eff (v := V.val (Value.bool true)) (ups := []) rfl rfl rfl rfl ?_ | refine ao_eff (v := V.val (Value.bool false)) (ups := []) rfl rfl rfl rfl ?_ | refine aw_seq ?_ | refine aw_region ?_ | refine aw_block ?_ | refine ao_nil ⟨fun h => (Bool.false_ne_true h).elim, ?_⟩ | refine ao_nil ⟨fun _ => ⟨by kernel_rfl, by kernel_rfl⟩, ?_⟩ | refine ao_skip rfl rfl rfl ?_ | refine aw_true rfl ?_ | refine aw_false rfl ?_ | refine aw_skip ?_ | refine aw_exit ?_)
  refine ao_meth rfl rfl rfl rfl rfl rfl rfl rfl hB ?_
  repeat (first | refine ao_e rfl rfl rfl rfl rfl ?_ | refine ao_eff (v := V.val (Value.bool true)) (ups := []) rfl rfl rfl rfl ?_ | refine ao_eff (v := V.val (Value.bool false)) (ups := []) rfl rfl rfl rfl ?_ | refine aw_seq ?_ | refine aw_region ?_ | refine aw_block ?_ | refine ao_nil ⟨fun h => (Bool.false_ne_true h).elim, ?_⟩ | refine ao_nil ⟨fun _ => ⟨by kernel_rfl, by kernel_rfl⟩, ?_⟩ | refine ao_skip rfl rfl rfl ?_ | refine aw_true rfl ?_ | refine aw_false rfl ?_ | refine aw_skip ?_ | refine aw_exit ?_)
  refine ao_meth rfl rfl rfl rfl rfl rfl rfl rfl hC ?_
  repeat (first | refine ao_e rfl rfl rfl rfl rfl ?_ | refine ao_eff (v := V.val (Value.bool true)) (ups := []) rfl rfl rfl rfl ?_ | refine ao_eff (v := V.val (Value.bool false)) (ups := []) rfl rfl rfl rfl ?_ | refine aw_seq ?_ | refine aw_region ?_ | refine aw_block ?_ | refine ao_nil ⟨fun h => (Bool.false_ne_true h).elim, ?_⟩ | refine ao_nil ⟨fun _ => ⟨by kernel_rfl, by kernel_rfl⟩, ?_⟩ | refine ao_skip rfl rfl rfl ?_ | refine aw_true rfl ?_ | refine aw_false rfl ?_ | refine aw_skip ?_ | refine aw_exit ?_)
  refine ao_meth rfl rfl rfl rfl rfl rfl rfl rfl hD ?_
  repeat (first | refine ao_e rfl rfl rfl rfl rfl ?_ | refine ao_eff (v := V.val (Value.bool true)) (ups := []) rfl rfl rfl rfl ?_ | refine ao_eff (v := V.val (Value.bool false)) (ups := []) rfl rfl rfl rfl ?_ | refine aw_seq ?_ | refine aw_region ?_ | refine aw_block ?_ | refine ao_nil ⟨fun h => (Bool.false_ne_true h).elim, ?_⟩ | refine ao_nil ⟨fun _ => ⟨by kernel_rfl, by kernel_rfl⟩, ?_⟩ | refine ao_skip rfl rfl rfl ?_ | refine aw_true rfl ?_ | refine aw_false rfl ?_ | refine aw_skip ?_ | refine aw_exit ?_)
  refine ao_meth rfl rfl rfl rfl rfl rfl rfl rfl hF ?_
  repeat (first | refine ao_e rfl rfl rfl rfl rfl ?_ | refine ao_eff (v := V.val (Value.bool true)) (ups := []) rfl rfl rfl rfl ?_ | refine ao_eff (v := V.val (Value.bool false)) (ups := []) rfl rfl rfl rfl ?_ | refine aw_seq ?_ | refine aw_region ?_ | refine aw_block ?_ | refine ao_nil ⟨fun h => (Bool.false_ne_true h).elim, ?_⟩ | refine ao_nil ⟨fun _ => ⟨by kernel_rfl, by kernel_rfl⟩, ?_⟩ | refine ao_skip rfl rfl rfl ?_ | refine aw_true rfl ?_ | refine aw_false rfl ?_ | refine aw_skip ?_ | refine aw_exit ?_)
  refine ao_meth rfl rfl rfl rfl rfl rfl rfl rfl hG ?_
  repeat (first | refine ao_e rfl rfl rfl rfl rfl ?_ | refine ao_eff (v := V.val (Value.bool true)) (ups := []) rfl rfl rfl rfl ?_ | refine ao_eff (v := V.val (Value.bool false)) (ups := []) rfl rfl rfl rfl ?_ | refine aw_seq ?_ | refine aw_region ?_ | refine aw_block ?_ | refine ao_nil ⟨fun h => (Bool.false_ne_true h).elim, ?_⟩ | refine ao_nil ⟨fun _ => ⟨by kernel_rfl, by kernel_rfl⟩, ?_⟩ | refine ao_skip rfl rfl rfl ?_ | refine aw_true rfl ?_ | refine aw_false rfl ?_ | refine aw_skip ?_ | refine aw_exit ?_)
  refine ao_meth rfl rfl rfl rfl rfl rfl rfl rfl hN ?_
  refine ao_e rfl rfl rfl rfl rfl ?_
  refine ao_nil ⟨fun h => (Bool.false_ne_true h).elim, ?_⟩
  refine aw_seq ?_
  refine aw_mono (Q := fun x σ' => x = .normal ∧ ∃ (M1 : M) (q : Pt), finM N.1 ⟨A.1, B.1, C.1, D.1, F.1, G.1, (rdOs m N.2).1⟩ (rdOs m N.2).2 = finM N.1 M1 q ∧ (∀ o ∈ M1.f6, Fit o) ∧ M1.f6.length ≤ 4 ∧ q.1.length < 4611686018427387904 ∧
    renL σ'.h (tH q (mC M1)) (.any :: .any :: .ptr (newId (siteOf 0 0) 0) 0 0 0 :: vi 0 :: .ptr (newId (siteOf 1 2) 0) 0 0 0 :: .ptr (newId (siteOf 2 13) 0) 0 0 0 :: [vi N.1]) σ'.s 0 ∧ renH σ'.h (tH q (mC M1)) (tH q (mC M1))) ?_ ?_
  · repeat (first | refine ao_e rfl rfl rfl rfl rfl ?_ | refine ao_eff (v := V.val (Value.bool true)) (ups := []) rfl rfl rfl rfl ?_ | refine ao_eff (v := V.val (Value.bool false)) (ups := []) rfl rfl rfl rfl ?_ | refine aw_seq ?_ | refine aw_region ?_ | refine aw_block ?_ | refine ao_nil ⟨fun h => (Bool.false_ne_true h).elim, ?_⟩ | refine ao_nil ⟨fun _ => ⟨by kernel_rfl, by kernel_rfl⟩, ?_⟩ | refine ao_skip rfl rfl rfl ?_ | refine aw_true rfl ?_ | refine aw_false rfl ?_ | refine aw_skip ?_ | refine aw_exit ?_)
    refine ao_is (m : Int) rfl rfl rfl rfl ?_ ?_
    · show (if (4 : Int) < N.1 then (4 : Int) else N.1) = _
      split <;> omega
    repeat (first | refine ao_e rfl rfl rfl rfl rfl ?_ | refine ao_eff (v := V.val (Value.bool true)) (ups := []) rfl rfl rfl rfl ?_ | refine ao_eff (v := V.val (Value.bool false)) (ups := []) rfl rfl rfl rfl ?_ | refine aw_seq ?_ | refine aw_region ?_ | refine aw_block ?_ | refine ao_nil ⟨fun h => (Bool.false_ne_true h).elim, ?_⟩ | refine ao_nil ⟨fun _ => ⟨by kernel_rfl, by kernel_rfl⟩, ?_⟩ | refine ao_skip rfl rfl rfl ?_ | refine aw_true rfl ?_ | refine aw_false rfl ?_ | refine aw_skip ?_ | refine aw_exit ?_)
    refine aw_rounds (T := List O × Pt) (fun t => t.1.length ≤ m ∧ GoodP t.2 ∧ (∀ o ∈ t.1, Fit o) ∧ rdOs m N.2 = (t.1 ++ (rdOs (m - t.1.length) t.2).1, (rdOs (m - t.1.length) t.2).2)) (fun t => .any :: .any :: .ptr (newId (siteOf 0 0) 0) 0 0 0 :: vi 0 :: .ptr (newId (siteOf 1 2) 0) 0 0 0 :: .ptr (newId (siteOf 2 13) 0) 0 0 0 :: vi N.1 :: anys 19 [vi (m : Nat), vi (t.1.length : Nat)]) (fun t => tHl ⟨A.1, B.1, C.1, D.1, F.1, G.1, []⟩ t.2 t.1) (fun t => m - t.1.length) ([], N.2) ⟨Nat.zero_le _, gN.1, nofun, rfl⟩ ?_ ?_ ?_
    · exact ⟨.any _, .any _, .ptr _ _ _ _ _ _ _ rfl rfl rfl rfl, .same _ rfl, .ptr _ _ _ _ _ _ _ rfl rfl rfl rfl, .ptr _ _ _ _ _ _ _ rfl rfl rfl rfl, .same _ rfl, renL_anys ⟨.same _ rfl, .same _ rfl, trivial⟩⟩
    · exact ⟨renB_row rfl rfl rfl rfl rfl rfl rfl ⟨nofun, .same _ rfl, nofun, .same _ rfl, nofun, .same _ rfl, nofun, .same _ rfl, nofun, .same _ rfl, nofun, .same _ rfl, nofun, .nil _, trivial⟩, renB_cl rfl rfl rfl rfl rfl rfl, renB_cl rfl rfl rfl rfl rfl rfl, trivial⟩
    rintro ⟨acc, q⟩ h0 ⟨hl, gq, hft, hI⟩
    dsimp only at hl gq hft hI ⊢
    have hE := rdrOp gq
    have gE := rdO_good gq
    by_cases hlt : acc.length < m
    · have hs : m - acc.length = (m - (acc.length + 1)) + 1 := by omega
      have hI2 : rdOs m N.2 = ((acc ++ [(rdO q).1]) ++ (rdOs (m - (acc.length + 1)) (rdO q).2).1, (rdOs (m - (acc.length + 1)) (rdO q).2).2) := by
        rw [hI, hs]; simp [rdOs]
      have hft2 : ∀ o ∈ acc ++ [(rdO q).1], Fit o := by
        intro o ho
        rcases List.mem_append.1 ho with ho | ho
        · exact hft o ho
        · simp at ho; subst ho; exact gE.2
      cases acc with
      | nil =>
        repeat (first | refine ao_e rfl rfl rfl rfl rfl ?_ | refine ao_eff (v := V.val (Value.bool true)) (ups := []) rfl rfl rfl rfl ?_ | refine ao_eff (v := V.val (Value.bool false)) (ups := []) rfl rfl rfl rfl ?_ | refine aw_seq ?_ | refine aw_region ?_ | refine aw_block ?_ | refine ao_nil ⟨fun h => (Bool.false_ne_true h).elim, ?_⟩ | refine ao_nil ⟨fun _ => ⟨by kernel_rfl, by kernel_rfl⟩, ?_⟩ | refine ao_skip rfl rfl rfl ?_ | refine aw_true rfl ?_ | refine aw_false rfl ?_ | refine aw_skip ?_ | refine aw_exit ?_)
        refine ao_yes rfl rfl rfl rfl (by simp only [List.length_nil] at hlt ⊢; omega) ?_
        repeat (first | refine ao_e rfl rfl rfl rfl rfl ?_ | refine ao_eff (v := V.val (Value.bool true)) (ups := []) rfl rfl rfl rfl ?_ | refine ao_eff (v := V.val (Value.bool false)) (ups := []) rfl rfl rfl rfl ?_ | refine aw_seq ?_ | refine aw_region ?_ | refine aw_block ?_ | refine ao_nil ⟨fun h => (Bool.false_ne_true h).elim, ?_⟩ | refine ao_nil ⟨fun _ => ⟨by kernel_rfl, by kernel_rfl⟩, ?_⟩ | refine ao_skip rfl rfl rfl ?_ | refine aw_true rfl ?_ | refine aw_false rfl ?_ | refine aw_skip ?_ | refine aw_exit ?_)
        refine ao_meth rfl rfl rfl rfl rfl rfl rfl rfl hE ?_
        repeat (first | refine ao_e rfl rfl rfl rfl rfl ?_ | refine ao_eff (v := V.val (Value.bool true)) (ups := []) rfl rfl rfl rfl ?_ | refine ao_eff (v := V.val (Value.bool false)) (ups := []) rfl rfl rfl rfl ?_ | refine aw_seq ?_ | refine aw_region ?_ | refine aw_block ?_ | refine ao_nil ⟨fun h => (Bool.false_ne_true h).elim, ?_⟩ | refine ao_nil ⟨fun _ => ⟨by kernel_rfl, by kernel_rfl⟩, ?_⟩ | refine ao_skip rfl rfl rfl ?_ | refine aw_true rfl ?_ | refine aw_false rfl ?_ | refine aw_skip ?_ | refine aw_exit ?_)
        exact ⟨([(rdO q).1], (rdO q).2), ⟨by simp only [List.length_nil, List.length_singleton] at hlt ⊢; omega, gE.1, hft2, hI2⟩, by simp only [List.length_nil, List.length_singleton] at hlt ⊢; omega, ⟨.any _, .any _, .ptr _ _ _ _ _ _ _ rfl rfl rfl rfl, .same _ rfl, .ptr _ _ _ _ _ _ _ rfl rfl rfl rfl, .ptr _ _ _ _ _ _ _ rfl rfl rfl rfl, .same _ rfl, renL_anys ⟨.same _ rfl, rsucc 0 (by decide), trivial⟩⟩, ⟨renB_cl rfl rfl rfl rfl rfl rfl, renB_cl rfl rfl rfl rfl rfl rfl, renB_row rfl rfl rfl rfl rfl rfl rfl ⟨nofun, .same _ rfl, nofun, .same _ rfl, nofun, .same _ rfl, nofun, .same _ rfl, nofun, .same _ rfl, nofun, .same _ rfl, nofun, .sl _ _ _ _ _ _ _ rfl rfl rfl rfl, trivial⟩, renB_cl rfl rfl rfl rfl rfl rfl, trivial⟩⟩
      | cons a0 l0 =>
        repeat (first | refine ao_e rfl rfl rfl rfl rfl ?_ | refine ao_eff (v := V.val (Value.bool true)) (ups := []) rfl rfl rfl rfl ?_ | refine ao_eff (v := V.val (Value.bool false)) (ups := []) rfl rfl rfl rfl ?_ | refine aw_seq ?_ | refine aw_region ?_ | refine aw_block ?_ | refine ao_nil ⟨fun h => (Bool.false_ne_true h).elim, ?_⟩ | refine ao_nil ⟨fun _ => ⟨by kernel_rfl, by kernel_rfl⟩, ?_⟩ | refine ao_skip rfl rfl rfl ?_ | refine aw_true rfl ?_ | refine aw_false rfl ?_ | refine aw_skip ?_ | refine aw_exit ?_)
        refine ao_yes rfl rfl rfl rfl (by omega) ?_
        repeat (first | refine ao_e rfl rfl rfl rfl rfl ?_ | refine ao_eff (v := V.val (Value.bool true)) (ups := []) rfl rfl rfl rfl ?_ | refine ao_eff (v := V.val (Value.bool false)) (ups := []) rfl rfl rfl rfl ?_ | refine aw_seq ?_ | refine aw_region ?_ | refine aw_block ?_ | refine ao_nil ⟨fun h => (Bool.false_ne_true h).elim, ?_⟩ | refine ao_nil ⟨fun _ => ⟨by kernel_rfl, by kernel_rfl⟩, ?_⟩ | refine ao_skip rfl rfl rfl ?_ | refine aw_true rfl ?_ | refine aw_false rfl ?_ | refine aw_skip ?_ | refine aw_exit ?_)
        refine ao_meth rfl rfl rfl rfl rfl rfl rfl rfl hE ?_
        repeat (first | refine ao_e rfl rfl rfl rfl rfl ?_ | refine ao_eff (v := V.val (Value.bool true)) (ups := []) rfl rfl rfl rfl ?_ | refine ao_eff (v := V.val (Value.bool false)) (ups := []) rfl rfl rfl rfl ?_ | refine aw_seq ?_ | refine aw_region ?_ | refine aw_block ?_ | refine ao_nil ⟨fun h => (Bool.false_ne_true h).elim, ?_⟩ | refine ao_nil ⟨fun _ => ⟨by kernel_rfl, by kernel_rfl⟩, ?_⟩ | refine ao_skip rfl rfl rfl ?_ | refine aw_true rfl ?_ | refine aw_false rfl ?_ | refine aw_skip ?_ | refine aw_exit ?_)
        refine ao_e rfl rfl rfl rfl (ef_push oC (a0 :: l0) (rdO q).1 112 rfl rfl rfl rfl rfl rfl rfl rfl rfl (by omega)) ?_
        repeat (first | refine ao_e rfl rfl rfl rfl rfl ?_ | refine ao_eff (v := V.val (Value.bool true)) (ups := []) rfl rfl rfl rfl ?_ | refine ao_eff (v := V.val (Value.bool false)) (ups := []) rfl rfl rfl rfl ?_ | refine aw_seq ?_ | refine aw_region ?_ | refine aw_block ?_ | refine ao_nil ⟨fun h => (Bool.false_ne_true h).elim, ?_⟩ | refine ao_nil ⟨fun _ => ⟨by kernel_rfl, by kernel_rfl⟩, ?_⟩ | refine ao_skip rfl rfl rfl ?_ | refine aw_true rfl ?_ | refine aw_false rfl ?_ | refine aw_skip ?_ | refine aw_exit ?_)
        exact ⟨((a0 :: l0) ++ [(rdO q).1], (rdO q).2), ⟨by simp only [List.length_append, List.length_singleton]; omega, gE.1, hft2, by simpa using hI2⟩, by simp only [List.length_append, List.length_singleton]; omega, ⟨.any _, .any _, .ptr _ _ _ _ _ _ _ rfl rfl rfl rfl, .same _ rfl, .ptr _ _ _ _ _ _ _ rfl rfl rfl rfl, .ptr _ _ _ _ _ _ _ rfl rfl rfl rfl, .same _ rfl, renL_anys ⟨.same _ rfl, ren_eq (congrArg vi ((wsucc (i := (a0 :: l0).length) (by omega)).trans (by simp))) rfl, trivial⟩⟩, ⟨renB_cl rfl rfl rfl rfl rfl rfl, renB_cl rfl rfl rfl rfl rfl rfl, renB_row rfl rfl rfl rfl rfl rfl rfl ⟨nofun, .same _ rfl, nofun, .same _ rfl, nofun, .same _ rfl, nofun, .same _ rfl, nofun, .same _ rfl, nofun, .same _ rfl, nofun, .sl _ _ _ _ _ _ _ rfl rfl rfl rfl, trivial⟩, renB_cl rfl rfl rfl rfl rfl rfl, trivial⟩⟩
    · have hm0 : m - acc.length = 0 := by omega
      rw [hm0] at hI
      simp only [rdOs, List.append_nil] at hI
      rw [hI]
      cases acc with
      | nil =>
        repeat (first | refine ao_e rfl rfl rfl rfl rfl ?_ | refine ao_eff (v := V.val (Value.bool true)) (ups := []) rfl rfl rfl rfl ?_ | refine ao_eff (v := V.val (Value.bool false)) (ups := []) rfl rfl rfl rfl ?_ | refine aw_seq ?_ | refine aw_region ?_ | refine aw_block ?_ | refine ao_nil ⟨fun h => (Bool.false_ne_true h).elim, ?_⟩ | refine ao_nil ⟨fun _ => ⟨by kernel_rfl, by kernel_rfl⟩, ?_⟩ | refine ao_skip rfl rfl rfl ?_ | refine aw_true rfl ?_ | refine aw_false rfl ?_ | refine aw_skip ?_ | refine aw_exit ?_)
        refine ao_no rfl rfl rfl rfl (by simp only [List.length_nil] at hlt ⊢; omega) ?_
        repeat (first | refine ao_e rfl rfl rfl rfl rfl ?_ | refine ao_eff (v := V.val (Value.bool true)) (ups := []) rfl rfl rfl rfl ?_ | refine ao_eff (v := V.val (Value.bool false)) (ups := []) rfl rfl rfl rfl ?_ | refine aw_seq ?_ | refine aw_region ?_ | refine aw_block ?_ | refine ao_nil ⟨fun h => (Bool.false_ne_true h).elim, ?_⟩ | refine ao_nil ⟨fun _ => ⟨by kernel_rfl, by kernel_rfl⟩, ?_⟩ | refine ao_skip rfl rfl rfl ?_ | refine aw_true rfl ?_ | refine aw_false rfl ?_ | refine aw_skip ?_ | refine aw_exit ?_)
        exact ⟨rfl, ⟨A.1, B.1, C.1, D.1, F.1, G.1, []⟩, q, rfl, nofun, by simp, gq.2, ⟨.any _, .any _, .ptr _ _ _ _ _ _ _ rfl rfl rfl rfl, .same _ rfl, .ptr _ _ _ _ _ _ _ rfl rfl rfl rfl, .ptr _ _ _ _ _ _ _ rfl rfl rfl rfl, .same _ rfl, trivial⟩, ⟨renB_cl rfl rfl rfl rfl rfl rfl, renB_cl rfl rfl rfl rfl rfl rfl, renB_row rfl rfl rfl rfl rfl rfl rfl ⟨nofun, .same _ rfl, nofun, .same _ rfl, nofun, .same _ rfl, nofun, .same _ rfl, nofun, .same _ rfl, nofun, .same _ rfl, nofun, .nil _, trivial⟩, trivial⟩⟩
      | cons a0 l0 =>
        repeat (first | refine ao_e rfl rfl rfl rfl rfl ?_ | refine ao_eff (v := V.val (Value.bool true)) (ups := []) rfl rfl rfl rfl ?_ | refine ao_eff (v := V.val (Value.bool false)) (ups := []) rfl rfl rfl rfl ?_ | refine aw_seq ?_ | refine aw_region ?_ | refine aw_block ?_ | refine ao_nil ⟨fun h => (Bool.false_ne_true h).elim, ?_⟩ | refine ao_nil ⟨fun _ => ⟨by kernel_rfl, by kernel_rfl⟩, ?_⟩ | refine ao_skip rfl rfl rfl ?_ | refine aw_true rfl ?_ | refine aw_false rfl ?_ | refine aw_skip ?_ | refine aw_exit ?_)
        refine ao_no rfl rfl rfl rfl (by omega) ?_
        repeat (first | refine ao_e rfl rfl rfl rfl rfl ?_ | refine ao_eff (v := V.val (Value.bool true)) (ups := []) rfl rfl rfl rfl ?_ | refine ao_eff (v := V.val (Value.bool false)) (ups := []) rfl rfl rfl rfl ?_ | refine aw_seq ?_ | refine aw_region ?_ | refine aw_block ?_ | refine ao_nil ⟨fun h => (Bool.false_ne_true h).elim, ?_⟩ | refine ao_nil ⟨fun _ => ⟨by kernel_rfl, by kernel_rfl⟩, ?_⟩ | refine ao_skip rfl rfl rfl ?_ | refine aw_true rfl ?_ | refine aw_false rfl ?_ | refine aw_skip ?_ | refine aw_exit ?_)
        exact ⟨rfl, ⟨A.1, B.1, C.1, D.1, F.1, G.1, a0 :: l0⟩, q, rfl, hft, Nat.le_trans hl hm2, gq.2, ⟨.any _, .any _, .ptr _ _ _ _ _ _ _ rfl rfl rfl rfl, .same _ rfl, .ptr _ _ _ _ _ _ _ rfl rfl rfl rfl, .ptr _ _ _ _ _ _ _ rfl rfl rfl rfl, .same _ rfl, trivial⟩, ⟨renB_cl rfl rfl rfl rfl rfl rfl, renB_cl rfl rfl rfl rfl rfl rfl, renB_row rfl rfl rfl rfl rfl rfl rfl ⟨nofun, .same _ rfl, nofun, .same _ rfl, nofun, .same _ rfl, nofun, .same _ rfl, nofun, .same _ rfl, nofun, .same _ rfl, nofun, ren_frz oC (a0 :: l0) rfl rfl rfl rfl rfl rfl, trivial⟩, trivial⟩⟩
  · rintro x σ' ⟨rfl, M1, q, hr, hf, hl4, hq, h1, h2⟩
    rw [hr]
    obtain ⟨l1, b⟩ := q
    have hm := packMayM M1 hf (by omega)
    refine aw_canon _ _ h1 h2 (fun h0 => ?_)
    cases b
    · repeat' (first | refine ao_e rfl rfl rfl rfl rfl ?_ | refine ao_eff (v := V.val (Value.bool true)) (ups := []) rfl rfl rfl rfl ?_ | refine ao_eff (v := V.val (Value.bool false)) (ups := []) rfl rfl rfl rfl ?_ | refine aw_seq ?_ | refine aw_region ?_ | refine aw_block ?_ | refine ao_nil ⟨fun h => (Bool.false_ne_true h).elim, ?_⟩ | refine ao_nil ⟨fun _ => ⟨by kernel_rfl, by kernel_rfl⟩, ?_⟩ | refine ao_skip rfl rfl rfl ?_ | refine aw_true rfl ?_ | refine aw_false rfl ?_ | refine aw_skip ?_ | refine aw_exit ?_ | refine ao_funb rfl rfl rfl rfl rfl rfl (hm) (fun hb => ?_) (fun hb => ?_) | refine ao_dec rfl rfl rfl (eqE _ _ _ _ _ _).1 (fun hb => ?_) (fun hb => ?_) | refine ao_ndec rfl rfl rfl (eqE _ _ _ _ _ _).2 (fun hb => ?_) (fun hb => ?_) | refine ao_dec rfl rfl rfl rfl (fun hb => ?_) (fun hb => ?_) | refine ao_ndec rfl rfl rfl rfl (fun hb => ?_) (fun hb => ?_) | refine ao_str rfl rfl rfl rfl (fun hb => ?_) (fun hb => ?_) | refine ao_nstr rfl rfl rfl rfl (fun hb => ?_) (fun hb => ?_) | refine ao_bool rfl rfl rfl rfl (fun hb => ?_) (fun hb => ?_))
      all_goals first
        | (refine aw_canon [.any, .any, .ptr (newId (siteOf 0 0) 0) 0 0 0, vi 7] [(newId (siteOf 0 0) 0, ⟨0, 7, true, true, [mC m0]⟩)] ⟨.any _, .any _, .ptr _ _ _ _ _ _ _ rfl rfl rfl rfl, .same _ rfl, trivial⟩ ⟨renB_row rfl rfl rfl rfl rfl rfl rfl ⟨nofun, .same _ rfl, nofun, .same _ rfl, nofun, .same _ rfl, nofun, .same _ rfl, nofun, .same _ rfl, nofun, .same _ rfl, nofun, .nil _, trivial⟩, trivial⟩ (fun h0 => ?_)
           refine aw_ret ⟨.inr rfl, _, _, _, _, _, rfl, rfl, rfl, rfl, ?_, rfl⟩
           have e0 : finM N.1 M1 (l1, false) = none := by
             unfold finM
             rw [if_neg]
             rintro ⟨k1, k2, k3, k4⟩
             first
               | (cases k1; done)
               | omega
               | exact absurd ((str_none _).2 k3) (by assumption)
               | exact Bool.noConfusion (k4.symm.trans (by assumption : mayM M1 = false))
           rw [e0]; rfl)
        | (refine aw_ret ⟨.inr rfl, _, _, _, _, _, rfl, rfl, rfl, rfl, ?_, rfl⟩
           have e0 : finM N.1 M1 (l1, false) = some M1 := by
             unfold finM
             rw [if_pos]
             refine ⟨rfl, by omega, (str_none _).1 (by assumption), by assumption⟩
           rw [e0]; rfl)
    · repeat' (first | refine ao_e rfl rfl rfl rfl rfl ?_ | refine ao_eff (v := V.val (Value.bool true)) (ups := []) rfl rfl rfl rfl ?_ | refine ao_eff (v := V.val (Value.bool false)) (ups := []) rfl rfl rfl rfl ?_ | refine aw_seq ?_ | refine aw_region ?_ | refine aw_block ?_ | refine ao_nil ⟨fun h => (Bool.false_ne_true h).elim, ?_⟩ | refine ao_nil ⟨fun _ => ⟨by kernel_rfl, by kernel_rfl⟩, ?_⟩ | refine ao_skip rfl rfl rfl ?_ | refine aw_true rfl ?_ | refine aw_false rfl ?_ | refine aw_skip ?_ | refine aw_exit ?_ | refine ao_funb rfl rfl rfl rfl rfl rfl (hm) (fun hb => ?_) (fun hb => ?_) | refine ao_dec rfl rfl rfl (eqE _ _ _ _ _ _).1 (fun hb => ?_) (fun hb => ?_) | refine ao_ndec rfl rfl rfl (eqE _ _ _ _ _ _).2 (fun hb => ?_) (fun hb => ?_) | refine ao_dec rfl rfl rfl rfl (fun hb => ?_) (fun hb => ?_) | refine ao_ndec rfl rfl rfl rfl (fun hb => ?_) (fun hb => ?_) | refine ao_str rfl rfl rfl rfl (fun hb => ?_) (fun hb => ?_) | refine ao_nstr rfl rfl rfl rfl (fun hb => ?_) (fun hb => ?_) | refine ao_bool rfl rfl rfl rfl (fun hb => ?_) (fun hb => ?_))
      all_goals first
        | (refine aw_canon [.any, .any, .ptr (newId (siteOf 0 0) 0) 0 0 0, vi 7] [(newId (siteOf 0 0) 0, ⟨0, 7, true, true, [mC m0]⟩)] ⟨.any _, .any _, .ptr _ _ _ _ _ _ _ rfl rfl rfl rfl, .same _ rfl, trivial⟩ ⟨renB_row rfl rfl rfl rfl rfl rfl rfl ⟨nofun, .same _ rfl, nofun, .same _ rfl, nofun, .same _ rfl, nofun, .same _ rfl, nofun, .same _ rfl, nofun, .same _ rfl, nofun, .nil _, trivial⟩, trivial⟩ (fun h0 => ?_)
           refine aw_ret ⟨.inr rfl, _, _, _, _, _, rfl, rfl, rfl, rfl, ?_, rfl⟩
           have e0 : finM N.1 M1 (l1, true) = none := by
             unfold finM
             rw [if_neg]
             rintro ⟨k1, k2, k3, k4⟩
             first
               | (cases k1; done)
               | omega
               | exact absurd ((str_none _).2 k3) (by assumption)
               | exact Bool.noConfusion (k4.symm.trans (by assumption : mayM M1 = false))
           rw [e0]; rfl)
        | (refine aw_ret ⟨.inr rfl, _, _, _, _, _, rfl, rfl, rfl, rfl, ?_, rfl⟩
           have e0 : finM N.1 M1 (l1, true) = some M1 := by
             unfold finM
             rw [if_pos]
             refine ⟨rfl, by omega, (str_none _).1 (by assumption), by assumption⟩
           rw [e0]; rfl)
end Go.Ai
