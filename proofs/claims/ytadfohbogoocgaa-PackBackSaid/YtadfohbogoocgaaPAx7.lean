import Derived.Test.YtadfohbogoocgaaPAx0
import Derived.Test.YtadfohbogoocgaaPAx6
namespace Go.Proofs.Ytadfohbogoocgaa.PA
open Go.RowKit Go.Proofs.YtadfohbogoocgaaW.PrintWords Go.Proofs.YtadfohbogoocgaaW.PrintLast Go.Proofs.YtadfohbogoocgaaW.PrintMore Go.Proofs.YtadfohbogoocgaaX Go.Proofs.YtadfohbogoocgaaB Go.Proofs.YtadfohbogoocgaaPq
attribute [local go_sem] gi gj gx gy jr js gm gn
set_option linter.unusedVariables false
set_option linter.unusedSimpArgs false
def vl.l0 : Nat → ByteArray → Int → Int → Int → Option (Int × ByteArray × Int)
  | 0, _, _, _, _ => none
  | k + 1, x0, x2, x8, x9 => if x9 < x8 then (if 0 ≤ x9 then (if x9 < (x0.size : Int) then (if 0 ≤ (wrap64 (7 * x9)) then (if (bt x0 x9) ≥ 128 then (vl.l0 k x0 (Go.bits .or .i64 x2 (shl .i64 (wrap64 (Go.bits .and .u8 (bt x0 x9) 127)) (wrap64 (7 * x9)))) x8 (wrap64 (x9 + 1))) else ((jc.f (Go.bits .or .i64 x2 (shl .i64 (wrap64 (Go.bits .and .u8 (bt x0 x9) 127)) (wrap64 (7 * x9))))).bind fun t188 => (if t188 = true then (if x9 > 0 then (if (bt x0 x9) = 0 then (some (0, (⟨#[]⟩ : ByteArray), 7)) else (if 0 ≤ (wrap64 (x9 + 1)) then (if (wrap64 (x9 + 1)) ≤ (x0.size : Int) then (some (Go.bits .or .i64 x2 (shl .i64 (wrap64 (Go.bits .and .u8 (bt x0 x9) 127)) (wrap64 (7 * x9))), x0.extract ((wrap64 (x9 + 1)) : Int).toNat x0.size, 0)) else (none)) else (none))) else (if 0 ≤ (wrap64 (x9 + 1)) then (if (wrap64 (x9 + 1)) ≤ (x0.size : Int) then (some (Go.bits .or .i64 x2 (shl .i64 (wrap64 (Go.bits .and .u8 (bt x0 x9) 127)) (wrap64 (7 * x9))), x0.extract ((wrap64 (x9 + 1)) : Int).toNat x0.size, 0)) else (none)) else (none))) else (some (0, (⟨#[]⟩ : ByteArray), 7))))) else (none)) else (none)) else (none)) else (some (0, (⟨#[]⟩ : ByteArray), 7))
def vl.f (k : Nat) (a0 : ByteArray) : Option (Int × ByteArray × Int) := vl.l0 k a0 0 (mn (a0.size : Int) 5) 0
theorem vl.mono_l : ∀ k, (∀ y0 y1 y2 y3, LeO (vl.l0 k y0 y1 y2 y3) (vl.l0 (k + 1) y0 y1 y2 y3))
  | 0 => fun _ _ _ _ r h => by simp [vl.l0] at h
  | k + 1 => by
    have ih0 := vl.mono_l k
    · intro y0 y1 y2 y3
      unfold vl.l0
      repeat' first
      | (with_reducible exact ih0 _ _ _ _)
      | (with_reducible exact LeO.refl _)
      | (with_reducible exact LeO.none _)
      | (with_reducible refine LeO.ite ?_ ?_)
      | (with_reducible refine LeO.bind ?_ (fun _ => ?_))
      | exact ih0 _ _ _ _
      | exact LeO.none _
      | refine LeO.ite ?_ ?_
      | refine LeO.bind ?_ (fun _ => ?_)
theorem vl.mono : ∀ a0 k, LeO (vl.f k a0) (vl.f (k + 1) a0) := by
  intro a0 k
  have ih0 := vl.mono_l k
  unfold vl.f
  repeat' first
      | (with_reducible exact ih0 _ _ _ _)
      | (with_reducible exact LeO.refl _)
      | (with_reducible exact LeO.none _)
      | (with_reducible refine LeO.ite ?_ ?_)
      | (with_reducible refine LeO.bind ?_ (fun _ => ?_))
      | exact ih0 _ _ _ _
      | exact LeO.none _
      | refine LeO.ite ?_ ?_
      | refine LeO.bind ?_ (fun _ => ?_)
set_option maxHeartbeats 8000000 in
set_option maxRecDepth 100000 in
theorem vl.calls (k : Nat) (a0 : ByteArray) (r1 : Int) (r2 : ByteArray) (r3 : Int) (w : World) (h : vl.f k a0 = some (r1, r2, r3)) :
  Calls Try.prog 74 #[.string a0] w fun e w' => e = .returned (.tuple #[.int .i64 r1, .string r2, .int .i64 r3]) ∧ Below w.heap.size w w' := by
 have HB := Aside0.mk (Below.refl w.heap.size w)
 have H : (vl.l0 k a0 0 (mn (a0.size : Int) 5) 0) = some (r1, r2, r3) := h
 clear h
 obtain ⟨ji2, hji2⟩ : ∃ j_ : Int, (mn (a0.size : Int) 5) = j_ := ⟨_, rfl⟩
 replace H : (vl.l0 k a0 0 ji2 0) = some (r1, r2, r3) := by first | (rw [hji2] at H; exact H) | (simp only [hji2] at H ⊢; exact H)
 (try (have hji2h : ji2 ≤ 5 := by (rw [← hji2]; unfold mn; (repeat' split) <;> omega)))
 (try (have hji2g : ji2 ≤ 64 := by omega))
 (try (have hji2l : 0 ≤ ji2 := by (rw [← hji2]; unfold mn; (repeat' split) <;> omega)))
 (try (have hji2m : 0 ≤ ji2 := by omega))
 have hji2_ : (if 5 < (a0.size : Int) then 5 else (a0.size : Int)) = ji2 := hji2
 have H' := Aside0.mk H
 clear H
 go_enter Try.func74, Try.ntmps74
 go_wp2
 repeat (go_quiet (fail); try go_wp2)
 go_loopg [2, 9] k (fun kq v2 v9 w' => ∃ (x2_1 : Int) (x9_1 : Int), v2 = .int .i64 x2_1 ∧ v9 = .int .i64 x9_1 ∧ Aside0 (vl.l0 kq a0 x2_1 ji2 x9_1 = some (r1, r2, r3)) ∧ Aside0 (kq ≤ k) ∧ Aside0 (Below w.heap.size w w'))
 case atStart => exact ⟨(0), (0), (by first | rfl | (simp; done) | (simp [*]; done)), (by first | rfl | (simp; done) | (simp [*]; done)), H', ⟨Nat.le_refl _⟩, ⟨by repeat (first | (with_reducible first | exact HB.out | apply z8 | apply z6 | apply z7) | exact HB.out)⟩⟩
 clear H'
 try clear p2
 obtain ⟨x2_1, x9_1, rfl, rfl, HA, HK1, HB⟩ := hrel
 cases gk with
 | zero => exact absurd HA.out (by simp [vl.l0])
 | succ k1 =>
  have H := HA.out
  clear HA
  simp only [vl.l0] at H
  by_cases c3 : x9_1 < ji2
  rotate_left
  ·
   rw [if_neg c3] at H
   have c3b0 : decide (x9_1 < ji2) = false := decide_eq_false c3
   clear c3
   simp only [Option.some.injEq, Prod.mk.injEq] at H
   obtain ⟨rfl, rfl, rfl⟩ := H
   go_wp2
   repeat (go_quiet (fail); try go_wp2)
   go_ret3
   exact ⟨by first | rfl | (simp [zm, zn] <;> rfl) | (simp only [← hji2]; first | rfl | (simp [zm, zn] <;> rfl)) | (simp [*, zm, zn] <;> rfl), by repeat (first | (with_reducible first | exact HB.out | apply z8 | apply z6 | apply z7) | exact HB.out)⟩
  rw [if_pos c3] at H
  have c3b0 : decide (x9_1 < ji2) = true := decide_eq_true c3
  clear c3
  by_cases c4 : 0 ≤ x9_1
  rotate_left
  ·
   rw [if_neg c4] at H
   exact absurd H (by simp)
  rw [if_pos c4] at H
  have c4b0 : decide (0 ≤ x9_1) = true := decide_eq_true c4
  clear c4
  by_cases c5 : x9_1 < (a0.size : Int)
  rotate_left
  ·
   rw [if_neg c5] at H
   exact absurd H (by simp)
  rw [if_pos c5] at H
  have c5b0 : decide (x9_1 < (a0.size : Int)) = true := decide_eq_true c5
  clear c5
  obtain ⟨ji7, hji7⟩ : ∃ j_ : Int, (wrap64 (7 * x9_1)) = j_ := ⟨_, rfl⟩
  replace H : (if 0 ≤ (ji7) then (if (bt a0 x9_1) ≥ 128 then (vl.l0 k1 a0 (Go.bits .or .i64 x2_1 (shl .i64 (wrap64 (Go.bits .and .u8 (bt a0 x9_1) 127)) (ji7))) ji2 (wrap64 (x9_1 + 1))) else ((jc.f (Go.bits .or .i64 x2_1 (shl .i64 (wrap64 (Go.bits .and .u8 (bt a0 x9_1) 127)) (ji7)))).bind fun t188 => (if t188 = true then (if x9_1 > 0 then (if (bt a0 x9_1) = 0 then (some (0, (⟨#[]⟩ : ByteArray), 7)) else (if 0 ≤ (wrap64 (x9_1 + 1)) then (if (wrap64 (x9_1 + 1)) ≤ (a0.size : Int) then (some (Go.bits .or .i64 x2_1 (shl .i64 (wrap64 (Go.bits .and .u8 (bt a0 x9_1) 127)) (ji7)), a0.extract ((wrap64 (x9_1 + 1)) : Int).toNat a0.size, 0)) else (none)) else (none))) else (if 0 ≤ (wrap64 (x9_1 + 1)) then (if (wrap64 (x9_1 + 1)) ≤ (a0.size : Int) then (some (Go.bits .or .i64 x2_1 (shl .i64 (wrap64 (Go.bits .and .u8 (bt a0 x9_1) 127)) (ji7)), a0.extract ((wrap64 (x9_1 + 1)) : Int).toNat a0.size, 0)) else (none)) else (none))) else (some (0, (⟨#[]⟩ : ByteArray), 7))))) else (none)) = some (r1, r2, r3) := by first | (rw [hji7] at H; exact H) | (simp only [hji7] at H ⊢; exact H)
  have hji7w : (IntKind.i64.wrap (7 * x9_1)) = ji7 := (vw _).trans hji7
  by_cases c8 : 0 ≤ (ji7)
  rotate_left
  ·
   rw [if_neg c8] at H
   exact absurd H (by simp)
  rw [if_pos c8] at H
  have c8b0 := eq_true c8
  have c8b1 : decide (0 ≤ (ji7)) = true := decide_eq_true c8
  clear c8
  obtain ⟨ji9, hji9⟩ : ∃ j_ : Int, (shl .i64 (wrap64 (Go.bits .and .u8 (bt a0 x9_1) 127)) (ji7)) = j_ := ⟨_, rfl⟩
  replace H : (if (bt a0 x9_1) ≥ 128 then (vl.l0 k1 a0 (Go.bits .or .i64 x2_1 (ji9)) ji2 (wrap64 (x9_1 + 1))) else ((jc.f (Go.bits .or .i64 x2_1 (ji9))).bind fun t188 => (if t188 = true then (if x9_1 > 0 then (if (bt a0 x9_1) = 0 then (some (0, (⟨#[]⟩ : ByteArray), 7)) else (if 0 ≤ (wrap64 (x9_1 + 1)) then (if (wrap64 (x9_1 + 1)) ≤ (a0.size : Int) then (some (Go.bits .or .i64 x2_1 (ji9), a0.extract ((wrap64 (x9_1 + 1)) : Int).toNat a0.size, 0)) else (none)) else (none))) else (if 0 ≤ (wrap64 (x9_1 + 1)) then (if (wrap64 (x9_1 + 1)) ≤ (a0.size : Int) then (some (Go.bits .or .i64 x2_1 (ji9), a0.extract ((wrap64 (x9_1 + 1)) : Int).toNat a0.size, 0)) else (none)) else (none))) else (some (0, (⟨#[]⟩ : ByteArray), 7))))) = some (r1, r2, r3) := by first | (rw [hji9] at H; exact H) | (simp only [hji9] at H ⊢; exact H)
  have hji9_ : (IntKind.i64.wrap ((wrap64 (Go.bits .and .u8 (bt a0 x9_1) 127)) * 2 ^ min (ji7).toNat 64)) = ji9 := hji9
  have hji9z : (ji7) ≤ 64 → (IntKind.i64.wrap ((wrap64 (Go.bits .and .u8 (bt a0 x9_1) 127)) * 2 ^ (ji7).toNat)) = ji9 := z8t hji9
  have hji9y : (wrap64 ((wrap64 (Go.bits .and .u8 (bt a0 x9_1) 127)) * 2 ^ min (ji7).toNat 64)) = ji9 := (vw _).symm.trans hji9_
  have hji9x : (ji7) ≤ 64 → (wrap64 ((wrap64 (Go.bits .and .u8 (bt a0 x9_1) 127)) * 2 ^ (ji7).toNat)) = ji9 := fun h_ => (vw _).symm.trans (hji9z h_)
  by_cases c11 : (bt a0 x9_1) ≥ 128
  ·
   rw [if_pos c11] at H
   have c11b0 : decide (128 ≤ (bt a0 x9_1)) = true := decide_eq_true c11
   clear c11
   have H' := Aside0.mk H
   clear H
   have p6 : 0 ≤ (x9_1 : Int) := of_decide_eq_true (by first | (with_reducible assumption) | assumption)
   have q6 : x9_1 < (a0.size : Int) := of_decide_eq_true (by first | (with_reducible assumption) | assumption)
   have hx6 := z0c a0 x9_1
   replace p6 := eq_true p6
   replace q6 := eq_true q6
   have p10 : 0 ≤ (x9_1 : Int) := of_decide_eq_true (by first | (with_reducible assumption) | assumption)
   have q10 : x9_1 < (a0.size : Int) := of_decide_eq_true (by first | (with_reducible assumption) | assumption)
   have hx10 := z0c a0 x9_1
   replace p10 := eq_true p10
   replace q10 := eq_true q10
   go_wp2
   repeat (go_quiet (fail); try go_wp2)
   go_roundg k1
   case measure => have := HK1.out; omega
   case rel => exact ⟨(Go.bits .or .i64 x2_1 (ji9)), (wrap64 (x9_1 + 1)), (by first | rfl | (simp; done) | (simp only [← hji9] <;> (first | rfl | simp)) | (simp [*]; done)), (by first | rfl | (simp; done) | (simp [*]; done)), H', ⟨by have := HK1.out; omega⟩, ⟨by repeat (first | (with_reducible first | exact HB.out | apply z8 | apply z6 | apply z7) | exact HB.out)⟩⟩
  rw [if_neg c11] at H
  have c11b0 : decide (128 ≤ (bt a0 x9_1)) = false := decide_eq_false c11
  clear c11
  replace H := Option.bind_eq_some_iff.mp H
  obtain ⟨t188, A120, H⟩ := H
  replace H : (if t188 = true then (if x9_1 > 0 then (if (bt a0 x9_1) = 0 then (some (0, (⟨#[]⟩ : ByteArray), 7)) else (if 0 ≤ (wrap64 (x9_1 + 1)) then (if (wrap64 (x9_1 + 1)) ≤ (a0.size : Int) then (some (Go.bits .or .i64 x2_1 (ji9), a0.extract ((wrap64 (x9_1 + 1)) : Int).toNat a0.size, 0)) else (none)) else (none))) else (if 0 ≤ (wrap64 (x9_1 + 1)) then (if (wrap64 (x9_1 + 1)) ≤ (a0.size : Int) then (some (Go.bits .or .i64 x2_1 (ji9), a0.extract ((wrap64 (x9_1 + 1)) : Int).toNat a0.size, 0)) else (none)) else (none))) else (some (0, (⟨#[]⟩ : ByteArray), 7))) = some (r1, r2, r3) := H
  have A12 := Aside0.mk A120
  clear A120
  by_cases c13 : t188 = true
  rotate_left
  ·
   replace c13 := Bool.eq_false_iff.mpr c13
   subst c13
   have H1 : (some (0, (⟨#[]⟩ : ByteArray), 7)) = some (r1, r2, r3) := by rw [if_neg (show ¬ (false = true) by decide)] at H; exact H
   clear H
   have H := H1
   clear H1
   simp only [Option.some.injEq, Prod.mk.injEq] at H
   obtain ⟨rfl, rfl, rfl⟩ := H
   have p6 : 0 ≤ (x9_1 : Int) := of_decide_eq_true (by first | (with_reducible assumption) | assumption)
   have q6 : x9_1 < (a0.size : Int) := of_decide_eq_true (by first | (with_reducible assumption) | assumption)
   have hx6 := z0c a0 x9_1
   replace p6 := eq_true p6
   replace q6 := eq_true q6
   have p10 : 0 ≤ (x9_1 : Int) := of_decide_eq_true (by first | (with_reducible assumption) | assumption)
   have q10 : x9_1 < (a0.size : Int) := of_decide_eq_true (by first | (with_reducible assumption) | assumption)
   have hx10 := z0c a0 x9_1
   replace p10 := eq_true p10
   replace q10 := eq_true q10
   go_wp2_with (first | (go_at_call 90; (with_reducible refine (jc.calls (Go.bits .or .i64 x2_1 (ji9)) false _ A12.out).mono ?_); rintro e w' ⟨rfl, ⟨nd, rfl⟩⟩; (try first | exact ⟨rfl, _, World.drewN_drewN _ _ _⟩ | exact ⟨rfl, _, Eq.trans (World.drewN_drewN _ _ _) (congrArg (World.drewN _) (Nat.add_assoc _ _ _))⟩)))
   repeat (go_quiet (first | (go_at_call 90; (with_reducible refine (jc.calls (Go.bits .or .i64 x2_1 (ji9)) false _ A12.out).mono ?_); rintro e w' ⟨rfl, ⟨nd, rfl⟩⟩; (try first | exact ⟨rfl, _, World.drewN_drewN _ _ _⟩ | exact ⟨rfl, _, Eq.trans (World.drewN_drewN _ _ _) (congrArg (World.drewN _) (Nat.add_assoc _ _ _))⟩))); try go_wp2_with (first | (go_at_call 90; (with_reducible refine (jc.calls (Go.bits .or .i64 x2_1 (ji9)) false _ A12.out).mono ?_); rintro e w' ⟨rfl, ⟨nd, rfl⟩⟩; (try first | exact ⟨rfl, _, World.drewN_drewN _ _ _⟩ | exact ⟨rfl, _, Eq.trans (World.drewN_drewN _ _ _) (congrArg (World.drewN _) (Nat.add_assoc _ _ _))⟩))))
   go_ret3
   exact ⟨by first | rfl | (simp [zm, zn] <;> rfl) | (simp only [← hji2, ← hji7, ← hji9]; first | rfl | (simp [zm, zn] <;> rfl)) | (simp [*, zm, zn] <;> rfl), by repeat (first | (with_reducible first | exact HB.out | apply z8 | apply z6 | apply z7) | exact HB.out)⟩
  subst c13
  have H1 : (if x9_1 > 0 then (if (bt a0 x9_1) = 0 then (some (0, (⟨#[]⟩ : ByteArray), 7)) else (if 0 ≤ (wrap64 (x9_1 + 1)) then (if (wrap64 (x9_1 + 1)) ≤ (a0.size : Int) then (some (Go.bits .or .i64 x2_1 (ji9), a0.extract ((wrap64 (x9_1 + 1)) : Int).toNat a0.size, 0)) else (none)) else (none))) else (if 0 ≤ (wrap64 (x9_1 + 1)) then (if (wrap64 (x9_1 + 1)) ≤ (a0.size : Int) then (some (Go.bits .or .i64 x2_1 (ji9), a0.extract ((wrap64 (x9_1 + 1)) : Int).toNat a0.size, 0)) else (none)) else (none))) = some (r1, r2, r3) := by rw [if_pos rfl] at H; exact H
  clear H
  have H := H1
  clear H1
  by_cases c14 : x9_1 > 0
  rotate_left
  ·
   rw [if_neg c14] at H
   have c14b0 : decide (0 < x9_1) = false := decide_eq_false c14
   clear c14
   obtain ⟨ji20, hji20⟩ : ∃ j_ : Int, (wrap64 (x9_1 + 1)) = j_ := ⟨_, rfl⟩
   replace H : (if 0 ≤ (ji20) then (if (ji20) ≤ (a0.size : Int) then (some (Go.bits .or .i64 x2_1 (ji9), a0.extract ((ji20) : Int).toNat a0.size, 0)) else (none)) else (none)) = some (r1, r2, r3) := by first | (rw [hji20] at H; exact H) | (simp only [hji20] at H ⊢; exact H)
   (try rw [hji20] at A12)
   have hji20w : (IntKind.i64.wrap (x9_1 + 1)) = ji20 := (vw _).trans hji20
   by_cases c21 : 0 ≤ (ji20)
   rotate_left
   ·
    rw [if_neg c21] at H
    exact absurd H (by simp)
   rw [if_pos c21] at H
   have c21b0 := eq_true c21
   have c21b1 : decide (0 ≤ (ji20)) = true := decide_eq_true c21
   clear c21
   by_cases c22 : (ji20) ≤ (a0.size : Int)
   rotate_left
   ·
    rw [if_neg c22] at H
    exact absurd H (by simp)
   rw [if_pos c22] at H
   have c22b0 := eq_true c22
   have c22b1 : decide ((ji20) ≤ (a0.size : Int)) = true := decide_eq_true c22
   clear c22
   simp only [Option.some.injEq, Prod.mk.injEq] at H
   obtain ⟨rfl, rfl, rfl⟩ := H
   have p6 : 0 ≤ (x9_1 : Int) := of_decide_eq_true (by first | (with_reducible assumption) | assumption)
   have q6 : x9_1 < (a0.size : Int) := of_decide_eq_true (by first | (with_reducible assumption) | assumption)
   have hx6 := z0c a0 x9_1
   replace p6 := eq_true p6
   replace q6 := eq_true q6
   have p10 : 0 ≤ (x9_1 : Int) := of_decide_eq_true (by first | (with_reducible assumption) | assumption)
   have q10 : x9_1 < (a0.size : Int) := of_decide_eq_true (by first | (with_reducible assumption) | assumption)
   have hx10 := z0c a0 x9_1
   replace p10 := eq_true p10
   replace q10 := eq_true q10
   go_wp2_with (first | (go_at_call 90; (with_reducible refine (jc.calls (Go.bits .or .i64 x2_1 (ji9)) true _ A12.out).mono ?_); rintro e w' ⟨rfl, ⟨nd, rfl⟩⟩; (try first | exact ⟨rfl, _, World.drewN_drewN _ _ _⟩ | exact ⟨rfl, _, Eq.trans (World.drewN_drewN _ _ _) (congrArg (World.drewN _) (Nat.add_assoc _ _ _))⟩)))
   repeat (go_quiet (first | (go_at_call 90; (with_reducible refine (jc.calls (Go.bits .or .i64 x2_1 (ji9)) true _ A12.out).mono ?_); rintro e w' ⟨rfl, ⟨nd, rfl⟩⟩; (try first | exact ⟨rfl, _, World.drewN_drewN _ _ _⟩ | exact ⟨rfl, _, Eq.trans (World.drewN_drewN _ _ _) (congrArg (World.drewN _) (Nat.add_assoc _ _ _))⟩))); try go_wp2_with (first | (go_at_call 90; (with_reducible refine (jc.calls (Go.bits .or .i64 x2_1 (ji9)) true _ A12.out).mono ?_); rintro e w' ⟨rfl, ⟨nd, rfl⟩⟩; (try first | exact ⟨rfl, _, World.drewN_drewN _ _ _⟩ | exact ⟨rfl, _, Eq.trans (World.drewN_drewN _ _ _) (congrArg (World.drewN _) (Nat.add_assoc _ _ _))⟩))))
   go_ret3
   exact ⟨by first | rfl | (simp [zm, zn] <;> rfl) | (simp only [← hji2, ← hji7, ← hji9, ← hji20]; first | rfl | (simp [zm, zn] <;> rfl)) | (simp [*, zm, zn] <;> rfl), by repeat (first | (with_reducible first | exact HB.out | apply z8 | apply z6 | apply z7) | exact HB.out)⟩
  rw [if_pos c14] at H
  have c14b0 : decide (0 < x9_1) = true := decide_eq_true c14
  clear c14
  by_cases c16 : (bt a0 x9_1) = 0
  ·
   rw [if_pos c16] at H
   have c16b0 : ((bt a0 x9_1) == 0) = true := beq_iff_eq.mpr c16
   have c16b1 : ((bt a0 x9_1) != 0) = false := bne_eq_false_iff_eq.mpr c16
   clear c16
   simp only [Option.some.injEq, Prod.mk.injEq] at H
   obtain ⟨rfl, rfl, rfl⟩ := H
   have p6 : 0 ≤ (x9_1 : Int) := of_decide_eq_true (by first | (with_reducible assumption) | assumption)
   have q6 : x9_1 < (a0.size : Int) := of_decide_eq_true (by first | (with_reducible assumption) | assumption)
   have hx6 := z0c a0 x9_1
   replace p6 := eq_true p6
   replace q6 := eq_true q6
   have p10 : 0 ≤ (x9_1 : Int) := of_decide_eq_true (by first | (with_reducible assumption) | assumption)
   have q10 : x9_1 < (a0.size : Int) := of_decide_eq_true (by first | (with_reducible assumption) | assumption)
   have hx10 := z0c a0 x9_1
   replace p10 := eq_true p10
   replace q10 := eq_true q10
   go_wp2_with (first | (go_at_call 90; (with_reducible refine (jc.calls (Go.bits .or .i64 x2_1 (ji9)) true _ A12.out).mono ?_); rintro e w' ⟨rfl, ⟨nd, rfl⟩⟩; (try first | exact ⟨rfl, _, World.drewN_drewN _ _ _⟩ | exact ⟨rfl, _, Eq.trans (World.drewN_drewN _ _ _) (congrArg (World.drewN _) (Nat.add_assoc _ _ _))⟩); have p15 : 0 ≤ (x9_1 : Int) := of_decide_eq_true (by first | (with_reducible assumption) | assumption); have q15 : x9_1 < (a0.size : Int) := of_decide_eq_true (by first | (with_reducible assumption) | assumption); have hx15 := z0c a0 x9_1; replace p15 := eq_true p15; replace q15 := eq_true q15))
   repeat (go_quiet (first | (go_at_call 90; (with_reducible refine (jc.calls (Go.bits .or .i64 x2_1 (ji9)) true _ A12.out).mono ?_); rintro e w' ⟨rfl, ⟨nd, rfl⟩⟩; (try first | exact ⟨rfl, _, World.drewN_drewN _ _ _⟩ | exact ⟨rfl, _, Eq.trans (World.drewN_drewN _ _ _) (congrArg (World.drewN _) (Nat.add_assoc _ _ _))⟩); have p15 : 0 ≤ (x9_1 : Int) := of_decide_eq_true (by first | (with_reducible assumption) | assumption); have q15 : x9_1 < (a0.size : Int) := of_decide_eq_true (by first | (with_reducible assumption) | assumption); have hx15 := z0c a0 x9_1; replace p15 := eq_true p15; replace q15 := eq_true q15)); try go_wp2_with (first | (go_at_call 90; (with_reducible refine (jc.calls (Go.bits .or .i64 x2_1 (ji9)) true _ A12.out).mono ?_); rintro e w' ⟨rfl, ⟨nd, rfl⟩⟩; (try first | exact ⟨rfl, _, World.drewN_drewN _ _ _⟩ | exact ⟨rfl, _, Eq.trans (World.drewN_drewN _ _ _) (congrArg (World.drewN _) (Nat.add_assoc _ _ _))⟩); have p15 : 0 ≤ (x9_1 : Int) := of_decide_eq_true (by first | (with_reducible assumption) | assumption); have q15 : x9_1 < (a0.size : Int) := of_decide_eq_true (by first | (with_reducible assumption) | assumption); have hx15 := z0c a0 x9_1; replace p15 := eq_true p15; replace q15 := eq_true q15)))
   go_ret3
   exact ⟨by first | rfl | (simp [zm, zn] <;> rfl) | (simp only [← hji2, ← hji7, ← hji9]; first | rfl | (simp [zm, zn] <;> rfl)) | (simp [*, zm, zn] <;> rfl), by repeat (first | (with_reducible first | exact HB.out | apply z8 | apply z6 | apply z7) | exact HB.out)⟩
  rw [if_neg c16] at H
  have c16b0 : ((bt a0 x9_1) == 0) = false := beq_eq_false_iff_ne.mpr c16
  have c16b1 : ((bt a0 x9_1) != 0) = true := bne_iff_ne.mpr c16
  obtain ⟨ji17, hji17⟩ : ∃ j_ : Int, (wrap64 (x9_1 + 1)) = j_ := ⟨_, rfl⟩
  replace H : (if 0 ≤ (ji17) then (if (ji17) ≤ (a0.size : Int) then (some (Go.bits .or .i64 x2_1 (ji9), a0.extract ((ji17) : Int).toNat a0.size, 0)) else (none)) else (none)) = some (r1, r2, r3) := by first | (rw [hji17] at H; exact H) | (simp only [hji17] at H ⊢; exact H)
  (try rw [hji17] at A12)
  have hji17w : (IntKind.i64.wrap (x9_1 + 1)) = ji17 := (vw _).trans hji17
  by_cases c18 : 0 ≤ (ji17)
  rotate_left
  ·
   rw [if_neg c18] at H
   exact absurd H (by simp)
  rw [if_pos c18] at H
  have c18b0 := eq_true c18
  have c18b1 : decide (0 ≤ (ji17)) = true := decide_eq_true c18
  clear c18
  by_cases c19 : (ji17) ≤ (a0.size : Int)
  rotate_left
  ·
   rw [if_neg c19] at H
   exact absurd H (by simp)
  rw [if_pos c19] at H
  have c19b0 := eq_true c19
  have c19b1 : decide ((ji17) ≤ (a0.size : Int)) = true := decide_eq_true c19
  clear c19
  simp only [Option.some.injEq, Prod.mk.injEq] at H
  obtain ⟨rfl, rfl, rfl⟩ := H
  have p6 : 0 ≤ (x9_1 : Int) := of_decide_eq_true (by first | (with_reducible assumption) | assumption)
  have q6 : x9_1 < (a0.size : Int) := of_decide_eq_true (by first | (with_reducible assumption) | assumption)
  have hx6 := z0c a0 x9_1
  replace p6 := eq_true p6
  replace q6 := eq_true q6
  have p10 : 0 ≤ (x9_1 : Int) := of_decide_eq_true (by first | (with_reducible assumption) | assumption)
  have q10 : x9_1 < (a0.size : Int) := of_decide_eq_true (by first | (with_reducible assumption) | assumption)
  have hx10 := z0c a0 x9_1
  replace p10 := eq_true p10
  replace q10 := eq_true q10
  go_wp2_with (first | (go_at_call 90; (with_reducible refine (jc.calls (Go.bits .or .i64 x2_1 (ji9)) true _ A12.out).mono ?_); rintro e w' ⟨rfl, ⟨nd, rfl⟩⟩; (try first | exact ⟨rfl, _, World.drewN_drewN _ _ _⟩ | exact ⟨rfl, _, Eq.trans (World.drewN_drewN _ _ _) (congrArg (World.drewN _) (Nat.add_assoc _ _ _))⟩); have p15 : 0 ≤ (x9_1 : Int) := of_decide_eq_true (by first | (with_reducible assumption) | assumption); have q15 : x9_1 < (a0.size : Int) := of_decide_eq_true (by first | (with_reducible assumption) | assumption); have hx15 := z0c a0 x9_1; replace p15 := eq_true p15; replace q15 := eq_true q15))
  repeat (go_quiet (first | (go_at_call 90; (with_reducible refine (jc.calls (Go.bits .or .i64 x2_1 (ji9)) true _ A12.out).mono ?_); rintro e w' ⟨rfl, ⟨nd, rfl⟩⟩; (try first | exact ⟨rfl, _, World.drewN_drewN _ _ _⟩ | exact ⟨rfl, _, Eq.trans (World.drewN_drewN _ _ _) (congrArg (World.drewN _) (Nat.add_assoc _ _ _))⟩); have p15 : 0 ≤ (x9_1 : Int) := of_decide_eq_true (by first | (with_reducible assumption) | assumption); have q15 : x9_1 < (a0.size : Int) := of_decide_eq_true (by first | (with_reducible assumption) | assumption); have hx15 := z0c a0 x9_1; replace p15 := eq_true p15; replace q15 := eq_true q15)); try go_wp2_with (first | (go_at_call 90; (with_reducible refine (jc.calls (Go.bits .or .i64 x2_1 (ji9)) true _ A12.out).mono ?_); rintro e w' ⟨rfl, ⟨nd, rfl⟩⟩; (try first | exact ⟨rfl, _, World.drewN_drewN _ _ _⟩ | exact ⟨rfl, _, Eq.trans (World.drewN_drewN _ _ _) (congrArg (World.drewN _) (Nat.add_assoc _ _ _))⟩); have p15 : 0 ≤ (x9_1 : Int) := of_decide_eq_true (by first | (with_reducible assumption) | assumption); have q15 : x9_1 < (a0.size : Int) := of_decide_eq_true (by first | (with_reducible assumption) | assumption); have hx15 := z0c a0 x9_1; replace p15 := eq_true p15; replace q15 := eq_true q15)))
  go_ret3
  exact ⟨by first | rfl | (simp [zm, zn] <;> rfl) | (simp only [← hji2, ← hji7, ← hji9, ← hji17]; first | rfl | (simp [zm, zn] <;> rfl)) | (simp [*, zm, zn] <;> rfl), by repeat (first | (with_reducible first | exact HB.out | apply z8 | apply z6 | apply z7) | exact HB.out)⟩
def IsS86 (w0 W : World) (g : Nat) (f0 : ByteArray) (f1 : Bool) : Prop := W.heap[g]? = some (.cells #[.string f0, .bool f1] 86 (0, 0)) ∧ w0.heap.size ≤ g
theorem IsS86.grown {w0 W : World} {g : Nat} {f0 : ByteArray} {f1 : Bool} {W1 : World} {row : Option Nat} (h : IsS86 w0 W g f0 f1) (hw : W.grownBy W1 row) (hne : some g ≠ row) : IsS86 w0 W1 g f0 f1 := by
  obtain ⟨hb, hg⟩ := h
  exact ⟨z1a hb hw hne, hg⟩
theorem IsS86.fresh {w0 W : World} {g : Nat} {f0 : ByteArray} {f1 : Bool} (h : IsS86 w0 W g f0 f1) : ∀ k, W.heap.size ≤ k → k ≠ g := by
  obtain ⟨hb, hg⟩ := h
  exact Kd.freshB hb
theorem IsS86.kept {w0 W : World} {g : Nat} {f0 : ByteArray} {f1 : Bool} {W1 : World} {S : Nat → Prop} (h : IsS86 w0 W g f0 f1) (hk : Kept W W1 S) (hne : ¬ S g) : IsS86 w0 W1 g f0 f1 := by
  obtain ⟨hb, hg⟩ := h
  exact ⟨za2 hb hk hne, hg⟩
theorem IsS86.below {w0 W : World} {g : Nat} {f0 : ByteArray} {f1 : Bool} {W1 : World} (h : IsS86 w0 W g f0 f1) (hw : Below W.heap.size W W1) : IsS86 w0 W1 g f0 f1 := h.grown (z11 hw none) (by simp)
theorem IsS86.alloc {w0 W : World} {g : Nat} {f0 : ByteArray} {f1 : Bool} (h : IsS86 w0 W g f0 f1) (o : Obj) : IsS86 w0 (W.alloc o) g f0 f1 := h.below (z8 (Below.refl _ _) o)
theorem IsS86.drewN {w0 W : World} {g : Nat} {f0 : ByteArray} {f1 : Bool} (h : IsS86 w0 W g f0 f1) (m : Nat) : IsS86 w0 (W.drewN m) g f0 f1 := h
theorem IsS86.drew {w0 W : World} {g : Nat} {f0 : ByteArray} {f1 : Bool} (h : IsS86 w0 W g f0 f1) : IsS86 w0 W.drew g f0 f1 := h
theorem IsS86.at_ {w0 W : World} {g : Nat} {f0 : ByteArray} {f1 : Bool} {w' : World} {m : Nat} (hq : W.drewN m = w') (h : IsS86 w0 W g f0 f1) : IsS86 w0 w' g f0 f1 := by subst hq; exact IsS86.drewN h m
theorem IsS86.apart {w0 W : World} {g : Nat} {f0 : ByteArray} {f1 : Bool} {α : Type} {d : Kd α} {e : Nat} {base : Nat} {ok : Nat → Prop} {v : Value} {xs : List α} (h : IsS86 w0 W g f0 f1) (ho : d.R e W base ok v xs) (ht : ∀ q, q ∈ e :: d.E → q ≠ 86) : d.R e W base (fun k => ok k ∧ k ≠ g) v xs := by
  obtain ⟨hb, hg⟩ := h
  exact Kd.z1e ho hb ht
theorem IsS86.z3v {w0 W : World} {g : Nat} {f0 : ByteArray} {f1 : Bool} {α : Type} {d : Kd α} {e : Nat} {base : Nat} {ok : Nat → Prop} {v : Value} {xs : List α} (h : IsS86 w0 W g f0 f1) (ho : d.R e W base ok v xs) (ht : e ≠ 86) : some g ≠ v.ownBlock := by
  obtain ⟨hb, hg⟩ := h
  exact Kd.z88 ho hb ht
theorem IsS86.apartS {w0 W : World} {g : Nat} {f0 : ByteArray} {f1 : Bool} {α : Type} {d : Kd α} {e : Nat} {base : Nat} {ok : Nat → Prop} {v : Value} {xs : List α} (h : IsS86 w0 W g f0 f1) (ho : d.S e W base ok v xs) (ht : ∀ q, q ∈ e :: d.E → q ≠ 86) : d.S e W base (fun k => ok k ∧ k ≠ g) v xs := by
  obtain ⟨hb, hg⟩ := h
  exact Kd.z13 ho hb ht
theorem IsS86.own_neS {w0 W : World} {g : Nat} {f0 : ByteArray} {f1 : Bool} {α : Type} {d : Kd α} {e : Nat} {base : Nat} {ok : Nat → Prop} {v : Value} {xs : List α} (h : IsS86 w0 W g f0 f1) (ho : d.S e W base ok v xs) (ht : e ≠ 86) : some g ≠ v.ownBlock := by
  obtain ⟨hb, hg⟩ := h
  exact Kd.za0 ho hb ht
theorem IsS86.lt {w0 W : World} {g : Nat} {f0 : ByteArray} {f1 : Bool} (h : IsS86 w0 W g f0 f1) : g < W.heap.size := by
  obtain ⟨hb, hg⟩ := h
  exact vo hb
theorem IsS86.ge {w0 W : World} {g : Nat} {f0 : ByteArray} {f1 : Bool} (h : IsS86 w0 W g f0 f1) : w0.heap.size ≤ g := by
  obtain ⟨hb, hg⟩ := h
  exact hg
theorem IsS86.far {w0 W : World} {g : Nat} {f0 : ByteArray} {f1 : Bool} {p : Addr} (h : IsS86 w0 W g f0 f1) (hne : g ≠ p.block) (u : Value) : IsS86 w0 (W.setCell p u) g f0 f1 := by
  obtain ⟨hb, hg⟩ := h
  exact ⟨zp hb hne u, hg⟩
theorem jg {W : World} {g : Nat} {f0 : ByteArray} {f1 : Bool} (h : W.heap[g]? = some (.cells #[.string f0, .bool f1] 86 (0, 0))) : W.cell? ⟨g, 0, none⟩ = some (.string f0) := (za h 0).trans rfl
theorem IsS86.set_0 {w0 W : World} {g : Nat} {f0 : ByteArray} {f1 : Bool} (h : IsS86 w0 W g f0 f1) (x : ByteArray) : IsS86 w0 (W.setCell ⟨g, 0, none⟩ (.string x)) g x f1 := by
  obtain ⟨hb, hg⟩ := h
  exact ⟨by simpa using jd hb 0 (.string x), hg⟩
theorem jh {W : World} {g : Nat} {f0 : ByteArray} {f1 : Bool} (h : W.heap[g]? = some (.cells #[.string f0, .bool f1] 86 (0, 0))) : W.cell? ⟨g, 1, none⟩ = some (.bool f1) := (za h 1).trans rfl
theorem IsS86.set_1 {w0 W : World} {g : Nat} {f0 : ByteArray} {f1 : Bool} (h : IsS86 w0 W g f0 f1) (x : Bool) : IsS86 w0 (W.setCell ⟨g, 1, none⟩ (.bool x)) g f0 x := by
  obtain ⟨hb, hg⟩ := h
  exact ⟨by simpa using jd hb 1 (.bool x), hg⟩
def zl.f (k : Nat) (s0_0 : ByteArray) (s0_1 : Bool) : Option (Int × ByteArray × Bool) := (vl.f k s0_0).bind fun bt189 => (if s0_1 = true then (some (bt189.1, bt189.2.1, true)) else (some (bt189.1, bt189.2.1, (bt189.2.2 != 0))))
theorem zl.mono : ∀ a0 a1 k, LeO (zl.f k a0 a1) (zl.f (k + 1) a0 a1) := by
  intro a0 a1 k
  unfold zl.f
  repeat' first
      | (with_reducible exact vl.mono _ _)
      | (with_reducible exact LeO.refl _)
      | (with_reducible exact LeO.none _)
      | (with_reducible refine LeO.ite ?_ ?_)
      | (with_reducible refine LeO.bind ?_ (fun _ => ?_))
      | exact vl.mono _ _
      | exact LeO.none _
      | refine LeO.ite ?_ ?_
      | refine LeO.bind ?_ (fun _ => ?_)
set_option maxHeartbeats 8000000 in
set_option maxRecDepth 100000 in
theorem zl.calls (k : Nat) (g : Nat) (s0_0 : ByteArray) (s0_1 : Bool) (r1 : Int) (r2 : ByteArray) (r3 : Bool) (w0 w : World) (hI : IsS86 w0 w g s0_0 s0_1) (hB : Below w0.heap.size w0 w) (h : zl.f k s0_0 s0_1 = some (r1, r2, r3)) :
  Calls Try.prog 44 #[.pointer (some ⟨g, 0, none⟩)] w fun e w' => e = .returned (.int .i64 r1) ∧ IsS86 w0 w' g r2 r3 ∧ Below w0.heap.size w0 w' ∧ KeepBut w w' g none := by
 have HI0 := Aside0.mk hI
 have HK := Aside0.mk (KeepBut.refl w g none)
 have HL := Aside0.mk hB.size
 clear hI
 have HW0 := Aside0.mk hB.size
 have HB := Aside0.mk hB
 clear hB
 have H : ((vl.f k s0_0).bind fun bt189 => (if s0_1 = true then (some (bt189.1, bt189.2.1, true)) else (some (bt189.1, bt189.2.1, (bt189.2.2 != 0))))) = some (r1, r2, r3) := h
 clear h
 replace H := Option.bind_eq_some_iff.mp H
 obtain ⟨⟨t189, t190, t191⟩, A20, H⟩ := H
 replace H : (if s0_1 = true then (some (t189, t190, true)) else (some (t189, t190, (t191 != 0)))) = some (r1, r2, r3) := H
 have A2 := Aside0.mk A20
 clear A20
 by_cases c3 : s0_1 = true
 ·
  subst c3
  have H1 : (some (t189, t190, true)) = some (r1, r2, r3) := by rw [if_pos rfl] at H; exact H
  clear H
  have H := H1
  clear H1
  simp only [Option.some.injEq, Prod.mk.injEq] at H
  obtain ⟨rfl, rfl, rfl⟩ := H
  obtain ⟨HGz4, hgz4⟩ := HI0.out
  have hcz4_0 := jg HGz4
  have hcz4_1 := jh HGz4
  have hfz4_0 := zi HGz4 0
  have hfz4_1 := zi HGz4 1
  clear HGz4 hgz4
  go_enter Try.func44, Try.ntmps44
  go_wp2_with (first | ((with_reducible refine zu (f := 74) rfl ?_); refine yn (some 11) rfl rfl Try.func74 (by kernel_rfl) rfl #[.string s0_0] rfl (by (try simp only [List.map_toArray, List.map_cons, List.map_nil]); first | done | rfl | (simp only [List.length_drop, List.length_take]; rfl)) ?_; (with_reducible refine (vl.calls k s0_0 t189 t190 t191 _ A2.out).mono ?_); rintro e w5 ⟨rfl, hb⟩; refine ⟨_, rfl, ?_⟩; have n0_ := Aside0.mk (IsS86.below (by repeat (first | (with_reducible first | exact HI0.out | apply IsS86.alloc | apply IsS86.drewN | apply IsS86.drew | apply IsS86.set_0 | apply IsS86.set_1) | exact HI0.out)) hb); have n1_ := Aside0.mk (KeepBut.trans (by repeat (first | (with_reducible first | exact HK.out | apply KeepBut.set_ | apply vp | apply vv | apply vq) | exact HK.out)) (KeepBut.of_below hb g none) (.inl rfl)); have n2_ := Aside0.mk (zj (by repeat (first | (with_reducible first | exact HB.out | apply z8 | apply z6 | apply z7 | refine zb ?_ (IsS86.ge HI0.out)) | exact HB.out)) hb); clear HI0; clear HK; clear HB; have HI0 := n0_; have HK := n1_; have HB := n2_; clear n0_ n1_ n2_; (try clear hb); (try clear hb2); (try clear hk); (try clear hi); obtain ⟨HGz6, hgz6⟩ := HI0.out; have hcz6_0 := jg HGz6; have hcz6_1 := jh HGz6; have hfz6_0 := zi HGz6 0; have hfz6_1 := zi HGz6 1; clear HGz6 hgz6))
  go_ret
  exact ⟨by first | rfl | (simp [zm, zn] <;> rfl) | (simp [*, zm, zn] <;> rfl), by repeat (first | (with_reducible first | exact HI0.out | apply IsS86.alloc | apply IsS86.drewN | apply IsS86.drew | apply IsS86.set_0 | apply IsS86.set_1) | exact HI0.out), by repeat (first | (with_reducible first | exact HB.out | apply z8 | apply z6 | apply z7 | refine zb ?_ (IsS86.ge HI0.out)) | exact HB.out), by repeat (first | (with_reducible first | exact HK.out | apply KeepBut.set_ | apply vp | apply vv | apply vq) | exact HK.out)⟩
 replace c3 := Bool.eq_false_iff.mpr c3
 subst c3
 have H1 : (some (t189, t190, (t191 != 0))) = some (r1, r2, r3) := by rw [if_neg (show ¬ (false = true) by decide)] at H; exact H
 clear H
 have H := H1
 clear H1
 simp only [Option.some.injEq, Prod.mk.injEq] at H
 obtain ⟨rfl, rfl, rfl⟩ := H
 obtain ⟨HGz7, hgz7⟩ := HI0.out
 have hcz7_0 := jg HGz7
 have hcz7_1 := jh HGz7
 have hfz7_0 := zi HGz7 0
 have hfz7_1 := zi HGz7 1
 clear HGz7 hgz7
 go_enter Try.func44, Try.ntmps44
 go_wp2_with (first | ((with_reducible refine zu (f := 74) rfl ?_); refine yn (some 11) rfl rfl Try.func74 (by kernel_rfl) rfl #[.string s0_0] rfl (by (try simp only [List.map_toArray, List.map_cons, List.map_nil]); first | done | rfl | (simp only [List.length_drop, List.length_take]; rfl)) ?_; (with_reducible refine (vl.calls k s0_0 t189 t190 t191 _ A2.out).mono ?_); rintro e w8 ⟨rfl, hb⟩; refine ⟨_, rfl, ?_⟩; have n0_ := Aside0.mk (IsS86.below (by repeat (first | (with_reducible first | exact HI0.out | apply IsS86.alloc | apply IsS86.drewN | apply IsS86.drew | apply IsS86.set_0 | apply IsS86.set_1) | exact HI0.out)) hb); have n1_ := Aside0.mk (KeepBut.trans (by repeat (first | (with_reducible first | exact HK.out | apply KeepBut.set_ | apply vp | apply vv | apply vq) | exact HK.out)) (KeepBut.of_below hb g none) (.inl rfl)); have n2_ := Aside0.mk (zj (by repeat (first | (with_reducible first | exact HB.out | apply z8 | apply z6 | apply z7 | refine zb ?_ (IsS86.ge HI0.out)) | exact HB.out)) hb); clear HI0; clear HK; clear HB; have HI0 := n0_; have HK := n1_; have HB := n2_; clear n0_ n1_ n2_; (try clear hb); (try clear hb2); (try clear hk); (try clear hi); obtain ⟨HGz9, hgz9⟩ := HI0.out; have hcz9_0 := jg HGz9; have hcz9_1 := jh HGz9; have hfz9_0 := zi HGz9 0; have hfz9_1 := zi HGz9 1; clear HGz9 hgz9))
 go_ret
 exact ⟨by first | rfl | (simp [zm, zn] <;> rfl) | (simp [*, zm, zn] <;> rfl), by repeat (first | (with_reducible first | exact HI0.out | apply IsS86.alloc | apply IsS86.drewN | apply IsS86.drew | apply IsS86.set_0 | apply IsS86.set_1) | exact HI0.out), by repeat (first | (with_reducible first | exact HB.out | apply z8 | apply z6 | apply z7 | refine zb ?_ (IsS86.ge HI0.out)) | exact HB.out), by repeat (first | (with_reducible first | exact HK.out | apply KeepBut.set_ | apply vp | apply vv | apply vq) | exact HK.out)⟩
def vz.f (k : Nat) (s0_0 : ByteArray) (s0_1 : Bool) : Option (Int × Int × Int × ByteArray × Bool) := (zl.f k s0_0 s0_1).bind fun bt193 => ((zl.f k bt193.2.1 bt193.2.2).bind fun bt196 => ((zl.f k bt196.2.1 bt196.2.2).bind fun bt199 => (some (bt193.1, bt196.1, bt199.1, bt199.2.1, bt199.2.2))))
theorem vz.mono : ∀ a0 a1 k, LeO (vz.f k a0 a1) (vz.f (k + 1) a0 a1) := by
  intro a0 a1 k
  unfold vz.f
  repeat' first
      | (with_reducible exact zl.mono _ _ _)
      | (with_reducible exact LeO.refl _)
      | (with_reducible exact LeO.none _)
      | (with_reducible refine LeO.ite ?_ ?_)
      | (with_reducible refine LeO.bind ?_ (fun _ => ?_))
      | exact zl.mono _ _ _
      | exact LeO.none _
      | refine LeO.ite ?_ ?_
      | refine LeO.bind ?_ (fun _ => ?_)
set_option maxHeartbeats 8000000 in
set_option maxRecDepth 100000 in
theorem vz.calls (k : Nat) (g : Nat) (s0_0 : ByteArray) (s0_1 : Bool) (r1 : Int) (r2 : Int) (r3 : Int) (r4 : ByteArray) (r5 : Bool) (w0 w : World) (hI : IsS86 w0 w g s0_0 s0_1) (hB : Below w0.heap.size w0 w) (h : vz.f k s0_0 s0_1 = some (r1, r2, r3, r4, r5)) :
  Calls Try.prog 67 #[.pointer (some ⟨g, 0, none⟩)] w fun e w' => e = .returned (.agg #[.int .i64 r1, .int .i64 r2, .int .i64 r3]) ∧ IsS86 w0 w' g r4 r5 ∧ Below w0.heap.size w0 w' ∧ KeepBut w w' g none := by
 have hu36 := Try.underlying36
 have HI0 := Aside0.mk hI
 have HK := Aside0.mk (KeepBut.refl w g none)
 have HL := Aside0.mk hB.size
 clear hI
 have HW0 := Aside0.mk hB.size
 have HB := Aside0.mk hB
 clear hB
 have H : ((zl.f k s0_0 s0_1).bind fun bt193 => ((zl.f k bt193.2.1 bt193.2.2).bind fun bt196 => ((zl.f k bt196.2.1 bt196.2.2).bind fun bt199 => (some (bt193.1, bt196.1, bt199.1, bt199.2.1, bt199.2.2))))) = some (r1, r2, r3, r4, r5) := h
 clear h
 replace H := Option.bind_eq_some_iff.mp H
 obtain ⟨⟨t193, t194, t195⟩, A20, H⟩ := H
 replace H : ((zl.f k t194 t195).bind fun bt196 => ((zl.f k bt196.2.1 bt196.2.2).bind fun bt199 => (some (t193, bt196.1, bt199.1, bt199.2.1, bt199.2.2)))) = some (r1, r2, r3, r4, r5) := H
 have A2 := Aside0.mk A20
 clear A20
 replace H := Option.bind_eq_some_iff.mp H
 obtain ⟨⟨t196, t197, t198⟩, A30, H⟩ := H
 replace H : ((zl.f k t197 t198).bind fun bt199 => (some (t193, t196, bt199.1, bt199.2.1, bt199.2.2))) = some (r1, r2, r3, r4, r5) := H
 have A3 := Aside0.mk A30
 clear A30
 replace H := Option.bind_eq_some_iff.mp H
 obtain ⟨⟨t199, t200, t201⟩, A40, H⟩ := H
 replace H : (some (t193, t196, t199, t200, t201)) = some (r1, r2, r3, r4, r5) := H
 have A4 := Aside0.mk A40
 clear A40
 simp only [Option.some.injEq, Prod.mk.injEq] at H
 obtain ⟨rfl, rfl, rfl, rfl, rfl⟩ := H
 go_enter Try.func67, Try.ntmps67
 go_wp2_with (first | ((with_reducible refine yf (N := 2) rfl ?_); refine yd ?hg (N := 2) ?hd (cs := #[.int .i64 0, .int .i64 0, .int .i64 0]) (t := 36) ?hr ?_; (case hd => rfl); (case hg => rfl); (case hr => first | (go_simp; done) | (go_simp; rfl)); intro gb192 hg w5 hbox hb; have n0_ := Aside0.mk (IsS86.below (by repeat (first | (with_reducible first | exact HI0.out | apply IsS86.alloc | apply IsS86.drewN | apply IsS86.drew | apply IsS86.set_0 | apply IsS86.set_1) | exact HI0.out)) hb); have n1_ := Aside0.mk (KeepBut.trans (by repeat (first | (with_reducible first | exact HK.out | apply KeepBut.set_ | apply vp | apply vv | apply vq) | exact HK.out)) (KeepBut.of_below hb g none) (.inl rfl)); have n2_ := Aside0.mk (zj (by repeat (first | (with_reducible first | exact HB.out | apply z8 | apply z6 | apply z7 | refine zb ?_ (IsS86.ge HI0.out)) | exact HB.out)) hb); have n3_ := Aside0.mk (hbox); have n4_ := Aside0.mk ((by rw [hg]; exact (z0i (w := w) (g := g) (row := none) (by repeat (first | (with_reducible first | exact HK.out | apply KeepBut.set_ | apply vp | apply vv | apply vq) | exact HK.out))) : w.heap.size ≤ gb192)); have n5_ := Aside0.mk ((Nat.le_trans HW0.out (by rw [hg]; exact (z0i (w := w) (g := g) (row := none) (by repeat (first | (with_reducible first | exact HK.out | apply KeepBut.set_ | apply vp | apply vv | apply vq) | exact HK.out))) : w.heap.size ≤ gb192) : w0.heap.size ≤ gb192)); have n6_ := Aside0.mk ((by rw [hg]; exact Nat.ne_of_lt (IsS86.lt (show IsS86 w0 _ g s0_0 s0_1 from by repeat (first | (with_reducible first | exact HI0.out | apply IsS86.alloc | apply IsS86.drewN | apply IsS86.drew | apply IsS86.set_0 | apply IsS86.set_1) | exact HI0.out))) : g ≠ gb192)); have n7_ := Aside0.mk ((by rw [hg]; exact Nat.ne_of_gt (IsS86.lt (show IsS86 w0 _ g s0_0 s0_1 from by repeat (first | (with_reducible first | exact HI0.out | apply IsS86.alloc | apply IsS86.drewN | apply IsS86.drew | apply IsS86.set_0 | apply IsS86.set_1) | exact HI0.out))) : gb192 ≠ g)); clear HI0; clear HK; clear HB; have HI0 := n0_; have HK := n1_; have HB := n2_; have BK192 := n3_; have GW192 := n4_; have GE192 := n5_; have NB0_192 := n6_; have NB192_0 := n7_; clear n0_ n1_ n2_ n3_ n4_ n5_ n6_ n7_; clear hb hbox hg) | ((with_reducible refine zu (f := 44) rfl ?_); refine yn (some 4) rfl rfl Try.func44 (by kernel_rfl) rfl #[.pointer (some ⟨g, 0, none⟩)] rfl (by (try simp only [List.map_toArray, List.map_cons, List.map_nil]); first | done | rfl | (simp only [List.length_drop, List.length_take]; rfl)) ?_; (with_reducible refine (zl.calls k g s0_0 s0_1 t193 t194 t195 w0 _ ?side1 ?side2 A2.out).mono ?_); (case side1 => repeat (first | (with_reducible first | exact HI0.out | apply IsS86.alloc | apply IsS86.drewN | apply IsS86.drew | apply IsS86.set_0 | apply IsS86.set_1 | refine IsS86.far ?_ NB0_192.out _) | exact HI0.out)); (case side2 => repeat (first | (with_reducible first | exact HB.out | apply z8 | apply z6 | apply z7 | refine zb ?_ (IsS86.ge HI0.out) | refine zb ?_ GE192.out) | exact HB.out)); rintro e w6 ⟨rfl, hi, hb, hk⟩; refine ⟨_, rfl, ?_⟩; have n0_ := Aside0.mk (KeepBut.blk hk (g' := gb192) (o := .cells #[.int .i64 0, .int .i64 0, .int .i64 0] 36 (0, 0)) (by (with_reducible repeat (first | refine ze ?_ _ | refine zf ?_ | refine zc ?_ _)); exact BK192.out) NB192_0.out (by simp)); have n1_ := Aside0.mk (KeepBut.trans (by repeat (first | (with_reducible first | exact HK.out | apply KeepBut.set_ | apply vp | apply vv | apply vq | refine ua ?_ GW192.out _) | exact HK.out)) hk (.inl rfl)); have n2_ := Aside0.mk (hb); have n3_ := Aside0.mk (hi); clear BK192; clear HK; clear HB; clear HI0; have BK192 := n0_; have HK := n1_; have HB := n2_; have HI0 := n3_; clear n0_ n1_ n2_ n3_; (try clear hb); (try clear hb2); (try clear hk); (try clear hi)) | ((with_reducible refine zu (f := 44) rfl ?_); refine yn (some 6) rfl rfl Try.func44 (by kernel_rfl) rfl #[.pointer (some ⟨g, 0, none⟩)] rfl (by (try simp only [List.map_toArray, List.map_cons, List.map_nil]); first | done | rfl | (simp only [List.length_drop, List.length_take]; rfl)) ?_; (with_reducible refine (zl.calls k g t194 t195 t196 t197 t198 w0 _ ?side1 ?side2 A3.out).mono ?_); (case side1 => repeat (first | (with_reducible first | exact HI0.out | apply IsS86.alloc | apply IsS86.drewN | apply IsS86.drew | apply IsS86.set_0 | apply IsS86.set_1 | refine IsS86.far ?_ NB0_192.out _) | exact HI0.out)); (case side2 => repeat (first | (with_reducible first | exact HB.out | apply z8 | apply z6 | apply z7 | refine zb ?_ (IsS86.ge HI0.out) | refine zb ?_ GE192.out) | exact HB.out)); rintro e w7 ⟨rfl, hi, hb, hk⟩; refine ⟨_, rfl, ?_⟩; have n0_ := Aside0.mk (KeepBut.blk hk (g' := gb192) (o := .cells #[.int .i64 0, .int .i64 0, .int .i64 0] 36 (0, 0)) (by (with_reducible repeat (first | refine ze ?_ _ | refine zf ?_ | refine zc ?_ _)); exact BK192.out) NB192_0.out (by simp)); have n1_ := Aside0.mk (KeepBut.trans (by repeat (first | (with_reducible first | exact HK.out | apply KeepBut.set_ | apply vp | apply vv | apply vq | refine ua ?_ GW192.out _) | exact HK.out)) hk (.inl rfl)); have n2_ := Aside0.mk (hb); have n3_ := Aside0.mk (hi); clear BK192; clear HK; clear HB; clear HI0; have BK192 := n0_; have HK := n1_; have HB := n2_; have HI0 := n3_; clear n0_ n1_ n2_ n3_; (try clear hb); (try clear hb2); (try clear hk); (try clear hi)) | ((with_reducible refine zu (f := 44) rfl ?_); refine yn (some 8) rfl rfl Try.func44 (by kernel_rfl) rfl #[.pointer (some ⟨g, 0, none⟩)] rfl (by (try simp only [List.map_toArray, List.map_cons, List.map_nil]); first | done | rfl | (simp only [List.length_drop, List.length_take]; rfl)) ?_; (with_reducible refine (zl.calls k g t197 t198 t199 t200 t201 w0 _ ?side1 ?side2 A4.out).mono ?_); (case side1 => repeat (first | (with_reducible first | exact HI0.out | apply IsS86.alloc | apply IsS86.drewN | apply IsS86.drew | apply IsS86.set_0 | apply IsS86.set_1 | refine IsS86.far ?_ NB0_192.out _) | exact HI0.out)); (case side2 => repeat (first | (with_reducible first | exact HB.out | apply z8 | apply z6 | apply z7 | refine zb ?_ (IsS86.ge HI0.out) | refine zb ?_ GE192.out) | exact HB.out)); rintro e w8 ⟨rfl, hi, hb, hk⟩; refine ⟨_, rfl, ?_⟩; have n0_ := Aside0.mk (KeepBut.blk hk (g' := gb192) (o := .cells #[.int .i64 0, .int .i64 0, .int .i64 0] 36 (0, 0)) (by (with_reducible repeat (first | refine ze ?_ _ | refine zf ?_ | refine zc ?_ _)); exact BK192.out) NB192_0.out (by simp)); have n1_ := Aside0.mk (KeepBut.trans (by repeat (first | (with_reducible first | exact HK.out | apply KeepBut.set_ | apply vp | apply vv | apply vq | refine ua ?_ GW192.out _) | exact HK.out)) hk (.inl rfl)); have n2_ := Aside0.mk (hb); have n3_ := Aside0.mk (hi); clear BK192; clear HK; clear HB; clear HI0; have BK192 := n0_; have HK := n1_; have HB := n2_; have HI0 := n3_; clear n0_ n1_ n2_ n3_; (try clear hb); (try clear hb2); (try clear hk); (try clear hi); have hnb9 := NB192_0.out; have hnc9 := NB0_192.out; have hcz10_0 := z0g BK192.out; have hfz10_0 := fun j_ => zi BK192.out j_))
 refine bodyPost_ret (results_cell_row rfl _ _ gb192 36 #[.int .i64 t193, .int .i64 t196, .int .i64 t199] (0, 0) _ rfl (by (with_reducible repeat (first | refine ze ?_ _ | refine zf ?_ | refine zc ?_ _)); refine zx (cs := #[.int .i64 t193, .int .i64 t196, .int .i64 0]) ?_ 2 _ rfl; (with_reducible repeat (first | refine ze ?_ _ | refine zf ?_ | refine zc ?_ _)); refine zx (cs := #[.int .i64 t193, .int .i64 0, .int .i64 0]) ?_ 1 _ rfl; (with_reducible repeat (first | refine ze ?_ _ | refine zf ?_ | refine zc ?_ _)); refine zx (cs := #[.int .i64 0, .int .i64 0, .int .i64 0]) ?_ 0 _ rfl; (with_reducible repeat (first | refine ze ?_ _ | refine zf ?_ | refine zc ?_ _)); exact BK192.out) Try.underlying36 rfl (by kernel_rfl)) rfl ?_
 exact ⟨by first | rfl | (simp [zm, zn] <;> rfl) | (simp [*, zm, zn] <;> rfl), by repeat (first | (with_reducible first | exact HI0.out | apply IsS86.alloc | apply IsS86.drewN | apply IsS86.drew | apply IsS86.set_0 | apply IsS86.set_1 | refine IsS86.far ?_ NB0_192.out _) | exact HI0.out), by repeat (first | (with_reducible first | exact HB.out | apply z8 | apply z6 | apply z7 | refine zb ?_ (IsS86.ge HI0.out) | refine zb ?_ GE192.out) | exact HB.out), by repeat (first | (with_reducible first | exact HK.out | apply KeepBut.set_ | apply vp | apply vv | apply vq | refine ua ?_ GW192.out _) | exact HK.out)⟩
def j4.f (k : Nat) (a0 : ByteArray) : Option (ByteArray × ByteArray × Int) := (vl.f k a0).bind fun bt202 => (if bt202.2.2 = 0 then (if bt202.1 > (bt202.2.1.size : Int) then (some ((⟨#[]⟩ : ByteArray), (⟨#[]⟩ : ByteArray), 7)) else (if 0 ≤ bt202.1 then (if bt202.1 ≤ (bt202.2.1.size : Int) then (some (bt202.2.1.extract 0 (bt202.1 : Int).toNat, bt202.2.1.extract (bt202.1 : Int).toNat bt202.2.1.size, 0)) else (none)) else (none))) else (some ((⟨#[]⟩ : ByteArray), (⟨#[]⟩ : ByteArray), 7)))
theorem j4.mono : ∀ a0 k, LeO (j4.f k a0) (j4.f (k + 1) a0) := by
  intro a0 k
  unfold j4.f
  repeat' first
      | (with_reducible exact vl.mono _ _)
      | (with_reducible exact LeO.refl _)
      | (with_reducible exact LeO.none _)
      | (with_reducible refine LeO.ite ?_ ?_)
      | (with_reducible refine LeO.bind ?_ (fun _ => ?_))
      | exact vl.mono _ _
      | exact LeO.none _
      | refine LeO.ite ?_ ?_
      | refine LeO.bind ?_ (fun _ => ?_)
set_option maxHeartbeats 8000000 in
set_option maxRecDepth 100000 in
theorem j4.calls (k : Nat) (a0 : ByteArray) (r1 : ByteArray) (r2 : ByteArray) (r3 : Int) (w : World) (h : j4.f k a0 = some (r1, r2, r3)) :
  Calls Try.prog 88 #[.string a0] w fun e w' => e = .returned (.tuple #[.string r1, .string r2, .int .i64 r3]) ∧ Below w.heap.size w w' := by
 have HB := Aside0.mk (Below.refl w.heap.size w)
 have H : ((vl.f k a0).bind fun bt202 => (if bt202.2.2 = 0 then (if bt202.1 > (bt202.2.1.size : Int) then (some ((⟨#[]⟩ : ByteArray), (⟨#[]⟩ : ByteArray), 7)) else (if 0 ≤ bt202.1 then (if bt202.1 ≤ (bt202.2.1.size : Int) then (some (bt202.2.1.extract 0 (bt202.1 : Int).toNat, bt202.2.1.extract (bt202.1 : Int).toNat bt202.2.1.size, 0)) else (none)) else (none))) else (some ((⟨#[]⟩ : ByteArray), (⟨#[]⟩ : ByteArray), 7)))) = some (r1, r2, r3) := h
 clear h
 replace H := Option.bind_eq_some_iff.mp H
 obtain ⟨⟨t202, t203, t204⟩, A20, H⟩ := H
 replace H : (if t204 = 0 then (if t202 > (t203.size : Int) then (some ((⟨#[]⟩ : ByteArray), (⟨#[]⟩ : ByteArray), 7)) else (if 0 ≤ t202 then (if t202 ≤ (t203.size : Int) then (some (t203.extract 0 (t202 : Int).toNat, t203.extract (t202 : Int).toNat t203.size, 0)) else (none)) else (none))) else (some ((⟨#[]⟩ : ByteArray), (⟨#[]⟩ : ByteArray), 7))) = some (r1, r2, r3) := H
 have A2 := Aside0.mk A20
 clear A20
 by_cases c3 : t204 = 0
 rotate_left
 ·
  rw [if_neg c3] at H
  have c3b0 : (t204 == 0) = false := beq_eq_false_iff_ne.mpr c3
  have c3b1 : (t204 != 0) = true := bne_iff_ne.mpr c3
  simp only [Option.some.injEq, Prod.mk.injEq] at H
  obtain ⟨rfl, rfl, rfl⟩ := H
  go_enter Try.func88, Try.ntmps88
  go_wp2_with (first | (go_at_call 74; (with_reducible refine (vl.calls k a0 t202 t203 t204 _ A2.out).mono ?_); rintro e w11 ⟨rfl, hb⟩; have n0_ := Aside0.mk (zj (by repeat (first | (with_reducible first | exact HB.out | apply z8 | apply z6 | apply z7) | exact HB.out)) hb); clear HB; have HB := n0_; clear n0_; (try clear hb); (try clear hb2); (try clear hk); (try clear hi)))
  repeat (go_quiet (first | (go_at_call 74; (with_reducible refine (vl.calls k a0 t202 t203 t204 _ A2.out).mono ?_); rintro e w11 ⟨rfl, hb⟩; have n0_ := Aside0.mk (zj (by repeat (first | (with_reducible first | exact HB.out | apply z8 | apply z6 | apply z7) | exact HB.out)) hb); clear HB; have HB := n0_; clear n0_; (try clear hb); (try clear hb2); (try clear hk); (try clear hi))); try go_wp2_with (first | (go_at_call 74; (with_reducible refine (vl.calls k a0 t202 t203 t204 _ A2.out).mono ?_); rintro e w11 ⟨rfl, hb⟩; have n0_ := Aside0.mk (zj (by repeat (first | (with_reducible first | exact HB.out | apply z8 | apply z6 | apply z7) | exact HB.out)) hb); clear HB; have HB := n0_; clear n0_; (try clear hb); (try clear hb2); (try clear hk); (try clear hi))))
  go_ret3
  exact ⟨by first | rfl | (simp [zm, zn] <;> rfl) | (simp [*, zm, zn] <;> rfl), by repeat (first | (with_reducible first | exact HB.out | apply z8 | apply z6 | apply z7) | exact HB.out)⟩
 rw [if_pos c3] at H
 have c3b0 : (t204 == 0) = true := beq_iff_eq.mpr c3
 have c3b1 : (t204 != 0) = false := bne_eq_false_iff_eq.mpr c3
 clear c3
 by_cases c4 : t202 > (t203.size : Int)
 ·
  rw [if_pos c4] at H
  have c4b0 : decide ((t203.size : Int) < t202) = true := decide_eq_true c4
  clear c4
  simp only [Option.some.injEq, Prod.mk.injEq] at H
  obtain ⟨rfl, rfl, rfl⟩ := H
  go_enter Try.func88, Try.ntmps88
  go_wp2_with (first | (go_at_call 74; (with_reducible refine (vl.calls k a0 t202 t203 t204 _ A2.out).mono ?_); rintro e w5 ⟨rfl, hb⟩; have n0_ := Aside0.mk (zj (by repeat (first | (with_reducible first | exact HB.out | apply z8 | apply z6 | apply z7) | exact HB.out)) hb); clear HB; have HB := n0_; clear n0_; (try clear hb); (try clear hb2); (try clear hk); (try clear hi)))
  repeat (go_quiet (first | (go_at_call 74; (with_reducible refine (vl.calls k a0 t202 t203 t204 _ A2.out).mono ?_); rintro e w5 ⟨rfl, hb⟩; have n0_ := Aside0.mk (zj (by repeat (first | (with_reducible first | exact HB.out | apply z8 | apply z6 | apply z7) | exact HB.out)) hb); clear HB; have HB := n0_; clear n0_; (try clear hb); (try clear hb2); (try clear hk); (try clear hi))); try go_wp2_with (first | (go_at_call 74; (with_reducible refine (vl.calls k a0 t202 t203 t204 _ A2.out).mono ?_); rintro e w5 ⟨rfl, hb⟩; have n0_ := Aside0.mk (zj (by repeat (first | (with_reducible first | exact HB.out | apply z8 | apply z6 | apply z7) | exact HB.out)) hb); clear HB; have HB := n0_; clear n0_; (try clear hb); (try clear hb2); (try clear hk); (try clear hi))))
  go_ret3
  exact ⟨by first | rfl | (simp [zm, zn] <;> rfl) | (simp [*, zm, zn] <;> rfl), by repeat (first | (with_reducible first | exact HB.out | apply z8 | apply z6 | apply z7) | exact HB.out)⟩
 rw [if_neg c4] at H
 have c4b0 : decide ((t203.size : Int) < t202) = false := decide_eq_false c4
 clear c4
 by_cases c6 : 0 ≤ t202
 rotate_left
 ·
  rw [if_neg c6] at H
  exact absurd H (by simp)
 rw [if_pos c6] at H
 have c6b0 := eq_true c6
 have c6b1 : decide (0 ≤ t202) = true := decide_eq_true c6
 clear c6
 by_cases c7 : t202 ≤ (t203.size : Int)
 rotate_left
 ·
  rw [if_neg c7] at H
  exact absurd H (by simp)
 rw [if_pos c7] at H
 have c7b0 := eq_true c7
 have c7b1 : decide (t202 ≤ (t203.size : Int)) = true := decide_eq_true c7
 clear c7
 have c8b0 := eq_true (of_decide_eq_true (by first | (with_reducible assumption) | assumption) : 0 ≤ t202)
 have c9b0 := eq_true (of_decide_eq_true (by first | (with_reducible assumption) | assumption) : t202 ≤ (t203.size : Int))
 simp only [Option.some.injEq, Prod.mk.injEq] at H
 obtain ⟨rfl, rfl, rfl⟩ := H
 go_enter Try.func88, Try.ntmps88
 go_wp2_with (first | (go_at_call 74; (with_reducible refine (vl.calls k a0 t202 t203 t204 _ A2.out).mono ?_); rintro e w10 ⟨rfl, hb⟩; have n0_ := Aside0.mk (zj (by repeat (first | (with_reducible first | exact HB.out | apply z8 | apply z6 | apply z7) | exact HB.out)) hb); clear HB; have HB := n0_; clear n0_; (try clear hb); (try clear hb2); (try clear hk); (try clear hi)))
 repeat (go_quiet (first | (go_at_call 74; (with_reducible refine (vl.calls k a0 t202 t203 t204 _ A2.out).mono ?_); rintro e w10 ⟨rfl, hb⟩; have n0_ := Aside0.mk (zj (by repeat (first | (with_reducible first | exact HB.out | apply z8 | apply z6 | apply z7) | exact HB.out)) hb); clear HB; have HB := n0_; clear n0_; (try clear hb); (try clear hb2); (try clear hk); (try clear hi))); try go_wp2_with (first | (go_at_call 74; (with_reducible refine (vl.calls k a0 t202 t203 t204 _ A2.out).mono ?_); rintro e w10 ⟨rfl, hb⟩; have n0_ := Aside0.mk (zj (by repeat (first | (with_reducible first | exact HB.out | apply z8 | apply z6 | apply z7) | exact HB.out)) hb); clear HB; have HB := n0_; clear n0_; (try clear hb); (try clear hb2); (try clear hk); (try clear hi))))
 go_ret3
 exact ⟨by first | rfl | (simp [zm, zn] <;> rfl) | (simp [*, zm, zn] <;> rfl), by repeat (first | (with_reducible first | exact HB.out | apply z8 | apply z6 | apply z7) | exact HB.out)⟩
def uc.f (k : Nat) (s0_0 : ByteArray) (s0_1 : Bool) : Option (ByteArray × ByteArray × Bool) := (j4.f k s0_0).bind fun bt205 => (if s0_1 = true then (some (bt205.1, bt205.2.1, true)) else (some (bt205.1, bt205.2.1, (bt205.2.2 != 0))))
theorem uc.mono : ∀ a0 a1 k, LeO (uc.f k a0 a1) (uc.f (k + 1) a0 a1) := by
  intro a0 a1 k
  unfold uc.f
  repeat' first
      | (with_reducible exact j4.mono _ _)
      | (with_reducible exact LeO.refl _)
      | (with_reducible exact LeO.none _)
      | (with_reducible refine LeO.ite ?_ ?_)
      | (with_reducible refine LeO.bind ?_ (fun _ => ?_))
      | exact j4.mono _ _
      | exact LeO.none _
      | refine LeO.ite ?_ ?_
      | refine LeO.bind ?_ (fun _ => ?_)
set_option maxHeartbeats 8000000 in
set_option maxRecDepth 100000 in
theorem uc.calls (k : Nat) (g : Nat) (s0_0 : ByteArray) (s0_1 : Bool) (r1 : ByteArray) (r2 : ByteArray) (r3 : Bool) (w0 w : World) (hI : IsS86 w0 w g s0_0 s0_1) (hB : Below w0.heap.size w0 w) (h : uc.f k s0_0 s0_1 = some (r1, r2, r3)) :
  Calls Try.prog 68 #[.pointer (some ⟨g, 0, none⟩)] w fun e w' => e = .returned (.string r1) ∧ IsS86 w0 w' g r2 r3 ∧ Below w0.heap.size w0 w' ∧ KeepBut w w' g none := by
 have HI0 := Aside0.mk hI
 have HK := Aside0.mk (KeepBut.refl w g none)
 have HL := Aside0.mk hB.size
 clear hI
 have HW0 := Aside0.mk hB.size
 have HB := Aside0.mk hB
 clear hB
 have H : ((j4.f k s0_0).bind fun bt205 => (if s0_1 = true then (some (bt205.1, bt205.2.1, true)) else (some (bt205.1, bt205.2.1, (bt205.2.2 != 0))))) = some (r1, r2, r3) := h
 clear h
 replace H := Option.bind_eq_some_iff.mp H
 obtain ⟨⟨t205, t206, t207⟩, A20, H⟩ := H
 replace H : (if s0_1 = true then (some (t205, t206, true)) else (some (t205, t206, (t207 != 0)))) = some (r1, r2, r3) := H
 have A2 := Aside0.mk A20
 clear A20
 by_cases c3 : s0_1 = true
 ·
  subst c3
  have H1 : (some (t205, t206, true)) = some (r1, r2, r3) := by rw [if_pos rfl] at H; exact H
  clear H
  have H := H1
  clear H1
  simp only [Option.some.injEq, Prod.mk.injEq] at H
  obtain ⟨rfl, rfl, rfl⟩ := H
  obtain ⟨HGz4, hgz4⟩ := HI0.out
  have hcz4_0 := jg HGz4
  have hcz4_1 := jh HGz4
  have hfz4_0 := zi HGz4 0
  have hfz4_1 := zi HGz4 1
  clear HGz4 hgz4
  go_enter Try.func68, Try.ntmps68
  go_wp2_with (first | ((with_reducible refine zu (f := 88) rfl ?_); refine yn (some 11) rfl rfl Try.func88 (by kernel_rfl) rfl #[.string s0_0] rfl (by (try simp only [List.map_toArray, List.map_cons, List.map_nil]); first | done | rfl | (simp only [List.length_drop, List.length_take]; rfl)) ?_; (with_reducible refine (j4.calls k s0_0 t205 t206 t207 _ A2.out).mono ?_); rintro e w5 ⟨rfl, hb⟩; refine ⟨_, rfl, ?_⟩; have n0_ := Aside0.mk (IsS86.below (by repeat (first | (with_reducible first | exact HI0.out | apply IsS86.alloc | apply IsS86.drewN | apply IsS86.drew | apply IsS86.set_0 | apply IsS86.set_1) | exact HI0.out)) hb); have n1_ := Aside0.mk (KeepBut.trans (by repeat (first | (with_reducible first | exact HK.out | apply KeepBut.set_ | apply vp | apply vv | apply vq) | exact HK.out)) (KeepBut.of_below hb g none) (.inl rfl)); have n2_ := Aside0.mk (zj (by repeat (first | (with_reducible first | exact HB.out | apply z8 | apply z6 | apply z7 | refine zb ?_ (IsS86.ge HI0.out)) | exact HB.out)) hb); clear HI0; clear HK; clear HB; have HI0 := n0_; have HK := n1_; have HB := n2_; clear n0_ n1_ n2_; (try clear hb); (try clear hb2); (try clear hk); (try clear hi); obtain ⟨HGz6, hgz6⟩ := HI0.out; have hcz6_0 := jg HGz6; have hcz6_1 := jh HGz6; have hfz6_0 := zi HGz6 0; have hfz6_1 := zi HGz6 1; clear HGz6 hgz6))
  go_ret
  exact ⟨by first | rfl | (simp [zm, zn] <;> rfl) | (simp [*, zm, zn] <;> rfl), by repeat (first | (with_reducible first | exact HI0.out | apply IsS86.alloc | apply IsS86.drewN | apply IsS86.drew | apply IsS86.set_0 | apply IsS86.set_1) | exact HI0.out), by repeat (first | (with_reducible first | exact HB.out | apply z8 | apply z6 | apply z7 | refine zb ?_ (IsS86.ge HI0.out)) | exact HB.out), by repeat (first | (with_reducible first | exact HK.out | apply KeepBut.set_ | apply vp | apply vv | apply vq) | exact HK.out)⟩
 replace c3 := Bool.eq_false_iff.mpr c3
 subst c3
 have H1 : (some (t205, t206, (t207 != 0))) = some (r1, r2, r3) := by rw [if_neg (show ¬ (false = true) by decide)] at H; exact H
 clear H
 have H := H1
 clear H1
 simp only [Option.some.injEq, Prod.mk.injEq] at H
 obtain ⟨rfl, rfl, rfl⟩ := H
 obtain ⟨HGz7, hgz7⟩ := HI0.out
 have hcz7_0 := jg HGz7
 have hcz7_1 := jh HGz7
 have hfz7_0 := zi HGz7 0
 have hfz7_1 := zi HGz7 1
 clear HGz7 hgz7
 go_enter Try.func68, Try.ntmps68
 go_wp2_with (first | ((with_reducible refine zu (f := 88) rfl ?_); refine yn (some 11) rfl rfl Try.func88 (by kernel_rfl) rfl #[.string s0_0] rfl (by (try simp only [List.map_toArray, List.map_cons, List.map_nil]); first | done | rfl | (simp only [List.length_drop, List.length_take]; rfl)) ?_; (with_reducible refine (j4.calls k s0_0 t205 t206 t207 _ A2.out).mono ?_); rintro e w8 ⟨rfl, hb⟩; refine ⟨_, rfl, ?_⟩; have n0_ := Aside0.mk (IsS86.below (by repeat (first | (with_reducible first | exact HI0.out | apply IsS86.alloc | apply IsS86.drewN | apply IsS86.drew | apply IsS86.set_0 | apply IsS86.set_1) | exact HI0.out)) hb); have n1_ := Aside0.mk (KeepBut.trans (by repeat (first | (with_reducible first | exact HK.out | apply KeepBut.set_ | apply vp | apply vv | apply vq) | exact HK.out)) (KeepBut.of_below hb g none) (.inl rfl)); have n2_ := Aside0.mk (zj (by repeat (first | (with_reducible first | exact HB.out | apply z8 | apply z6 | apply z7 | refine zb ?_ (IsS86.ge HI0.out)) | exact HB.out)) hb); clear HI0; clear HK; clear HB; have HI0 := n0_; have HK := n1_; have HB := n2_; clear n0_ n1_ n2_; (try clear hb); (try clear hb2); (try clear hk); (try clear hi); obtain ⟨HGz9, hgz9⟩ := HI0.out; have hcz9_0 := jg HGz9; have hcz9_1 := jh HGz9; have hfz9_0 := zi HGz9 0; have hfz9_1 := zi HGz9 1; clear HGz9 hgz9))
 go_ret
 exact ⟨by first | rfl | (simp [zm, zn] <;> rfl) | (simp [*, zm, zn] <;> rfl), by repeat (first | (with_reducible first | exact HI0.out | apply IsS86.alloc | apply IsS86.drewN | apply IsS86.drew | apply IsS86.set_0 | apply IsS86.set_1) | exact HI0.out), by repeat (first | (with_reducible first | exact HB.out | apply z8 | apply z6 | apply z7 | refine zb ?_ (IsS86.ge HI0.out)) | exact HB.out), by repeat (first | (with_reducible first | exact HK.out | apply KeepBut.set_ | apply vp | apply vv | apply vq) | exact HK.out)⟩
end Go.Proofs.Ytadfohbogoocgaa.PA
