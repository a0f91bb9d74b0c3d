import Derived.Test.YtadfohbogoocgaaPAx0
import Derived.Test.YtadfohbogoocgaaPAx2
import Derived.Test.YtadfohbogoocgaaPAx9
namespace Go.Proofs.Ytadfohbogoocgaa.PA
open Go.RowKit Go.Proofs.YtadfohbogoocgaaW.PrintWords Go.Proofs.YtadfohbogoocgaaW.PrintLast Go.Proofs.YtadfohbogoocgaaW.PrintMore Go.Proofs.YtadfohbogoocgaaX Go.Proofs.YtadfohbogoocgaaB Go.Proofs.YtadfohbogoocgaaPq
attribute [local go_sem] gi gj gx gy jr js gm gn
set_option linter.unusedVariables false
set_option linter.unusedSimpArgs false
def zq.j0 : Nat → Int → Bool → Int → Int → Int → Int → Int → Int → List (S38) → Int → Int → Int → Int → Int → Int → Option (Bool)
  | 0, _, _, _, _, _, _, _, _, _, _, _, _, _, _, _ => none
  | k + 1, x4, x5, x256000, x256001, x256002, x256003, x256004, x256005, x256006, x258000, x258001, x258002, x258003, x258004, x258005 => if x5 = true then (if (x256006.length : Int) = x4 then (if x256001 = x258001 then (if x256002 = x258002 then (if x256003 = x258003 then (if x256004 = x258004 then (some (x256005 == x258005)) else (some false)) else (some false)) else (some false)) else (some false)) else (some false)) else (some false)
def zq.f (k : Nat) (a0_0 : Int) (a0_1 : Int) (a0_2 : Int) (a0_3 : Int) (a0_4 : Int) (a0_5 : Int) (l0_6 : List (S38)) : Option (Bool) := (jq.f k l0_6 70).bind fun t256 => (if t256 = true then (some false) else (if a0_0 = 1 then ((gp.f a0_2).bind fun t258 => (zq.j0 k 0 t258 a0_0 a0_1 a0_2 a0_3 a0_4 a0_5 l0_6 a0_0 0 a0_2 0 0 0)) else (if a0_0 = 2 then ((gp.f a0_2).bind fun t259 => (if t259 = true then ((uq.f a0_1).bind fun t260 => (zq.j0 k 0 t260 a0_0 a0_1 a0_2 a0_3 a0_4 a0_5 l0_6 a0_0 a0_1 a0_2 0 0 0)) else (zq.j0 k 0 false a0_0 a0_1 a0_2 a0_3 a0_4 a0_5 l0_6 a0_0 a0_1 a0_2 0 0 0))) else (if a0_0 = 3 then ((uq.f a0_1).bind fun t261 => (if t261 = true then ((ur.f a0_3).bind fun t262 => (zq.j0 k 0 t262 a0_0 a0_1 a0_2 a0_3 a0_4 a0_5 l0_6 a0_0 a0_1 0 a0_3 0 0)) else (zq.j0 k 0 false a0_0 a0_1 a0_2 a0_3 a0_4 a0_5 l0_6 a0_0 a0_1 0 a0_3 0 0))) else (if a0_0 = 4 then ((uq.f a0_1).bind fun t263 => (if t263 = true then ((ur.f a0_3).bind fun t264 => (zq.j0 k 1 t264 a0_0 a0_1 a0_2 a0_3 a0_4 a0_5 l0_6 a0_0 a0_1 0 a0_3 0 0)) else (zq.j0 k 1 false a0_0 a0_1 a0_2 a0_3 a0_4 a0_5 l0_6 a0_0 a0_1 0 a0_3 0 0))) else (if a0_0 = 5 then ((ur.f a0_3).bind fun t265 => (if t265 = true then (zq.j0 k (l0_6.length : Int) (decide ((l0_6.length : Int) ≤ 4)) a0_0 a0_1 a0_2 a0_3 a0_4 a0_5 l0_6 a0_0 0 0 a0_3 0 0) else (zq.j0 k (l0_6.length : Int) false a0_0 a0_1 a0_2 a0_3 a0_4 a0_5 l0_6 a0_0 0 0 a0_3 0 0))) else (if a0_0 = 6 then ((ut.f a0_1 a0_4).bind fun t266 => (if t266 = true then (if a0_5 ≥ 1 then (zq.j0 k 0 (decide (a0_5 ≤ 8)) a0_0 a0_1 a0_2 a0_3 a0_4 a0_5 l0_6 a0_0 a0_1 0 0 a0_4 a0_5) else (zq.j0 k 0 false a0_0 a0_1 a0_2 a0_3 a0_4 a0_5 l0_6 a0_0 a0_1 0 0 a0_4 a0_5)) else (zq.j0 k 0 false a0_0 a0_1 a0_2 a0_3 a0_4 a0_5 l0_6 a0_0 a0_1 0 0 a0_4 a0_5))) else (zq.j0 k 0 false a0_0 a0_1 a0_2 a0_3 a0_4 a0_5 l0_6 a0_0 0 0 0 0 0))))))))
theorem zq.mono_l : ∀ k, (∀ y0 y1 y2 y3 y4 y5 y6 y7 y8 y9 y10 y11 y12 y13 y14, LeO (zq.j0 k y0 y1 y2 y3 y4 y5 y6 y7 y8 y9 y10 y11 y12 y13 y14) (zq.j0 (k + 1) y0 y1 y2 y3 y4 y5 y6 y7 y8 y9 y10 y11 y12 y13 y14))
  | 0 => fun _ _ _ _ _ _ _ _ _ _ _ _ _ _ _ r h => by simp [zq.j0] at h
  | k + 1 => by
    have ih0 := zq.mono_l k
    · intro y0 y1 y2 y3 y4 y5 y6 y7 y8 y9 y10 y11 y12 y13 y14
      unfold zq.j0
      repeat' first
      | (with_reducible exact ih0 _ _ _ _ _ _ _ _ _ _ _ _ _ _ _)
      | (with_reducible exact jq.mono _ _ _)
      | (with_reducible exact LeO.refl _)
      | (with_reducible exact LeO.none _)
      | (with_reducible refine LeO.ite ?_ ?_)
      | (with_reducible refine LeO.bind ?_ (fun _ => ?_))
      | exact ih0 _ _ _ _ _ _ _ _ _ _ _ _ _ _ _
      | exact jq.mono _ _ _
      | exact LeO.none _
      | refine LeO.ite ?_ ?_
      | refine LeO.bind ?_ (fun _ => ?_)
theorem zq.mono : ∀ a0 a1 a2 a3 a4 a5 a6 k, LeO (zq.f k a0 a1 a2 a3 a4 a5 a6) (zq.f (k + 1) a0 a1 a2 a3 a4 a5 a6) := by
  intro a0 a1 a2 a3 a4 a5 a6 k
  have ih0 := zq.mono_l k
  unfold zq.f
  repeat' first
      | (with_reducible exact ih0 _ _ _ _ _ _ _ _ _ _ _ _ _ _ _)
      | (with_reducible exact jq.mono _ _ _)
      | (with_reducible exact LeO.refl _)
      | (with_reducible exact LeO.none _)
      | (with_reducible refine LeO.ite ?_ ?_)
      | (with_reducible refine LeO.bind ?_ (fun _ => ?_))
      | exact ih0 _ _ _ _ _ _ _ _ _ _ _ _ _ _ _
      | exact jq.mono _ _ _
      | exact LeO.none _
      | refine LeO.ite ?_ ?_
      | refine LeO.bind ?_ (fun _ => ?_)
def zq.T8 : Bool × List (List Nat × List Nat) := (true, [([], []), ([0], [0]), ([], []), ([2], [2]), ([3], [3]), ([0, 1], []), ([5, 1, 4, 0, 1], [1, 5]), ([4, 6, 0, 1, 2, 3, 4, 5, 6], [4])])
def zq.B8 : List Nat := [0, 1, 0, 4, 12, 3, 63, 127]
theorem zq.tab8 : rtab .any (opsOf Try.f42 8) = zq.T8 := by kernel_rfl
theorem zq.bits8 : waitsOk zq.T8.2 zq.B8 = true := by kernel_rfl
def zq.T10 : Bool × List (List Nat × List Nat) := (true, [([], []), ([0], [0]), ([], []), ([2], [2]), ([], []), ([4], [4]), ([5], [5]), ([6, 6], [6]), ([7], [7]), ([8, 7], [7, 8]), ([9, 7, 7], [7, 9]), ([7, 10], [7, 10]), ([0, 1], []), ([12, 1, 10, 0, 1], [1, 12]), ([0, 1, 2, 3, 12, 13], []), ([14, 3, 13, 0, 1, 2, 3, 12, 13], [3, 14]), ([11, 15, 0, 1, 2, 3, 4, 5, 6, 7, 8, 9, 10, 11, 12, 13, 14, 15], [11])])
def zq.B10 : List Nat := [0, 1, 0, 4, 0, 16, 48, 112, 240, 496, 1008, 2032, 3, 6131, 14335, 30719, 65535]
theorem zq.tab10 : rtab .any (opsOf Try.f42 10) = zq.T10 := by kernel_rfl
theorem zq.bits10 : waitsOk zq.T10.2 zq.B10 = true := by kernel_rfl
def zq.T12 : Bool × List (List Nat × List Nat) := (true, [([], []), ([0], [0]), ([], []), ([2], [2]), ([], []), ([4], [4]), ([5], [5]), ([6, 6], [6]), ([7], [7]), ([8, 7], [7, 8]), ([9, 7, 7], [7, 9]), ([7, 10], [7, 10]), ([0, 1], []), ([12, 1, 10, 0, 1], [1, 12]), ([0, 1, 2, 3, 12, 13], []), ([14, 3, 13, 0, 1, 2, 3, 12, 13], [3, 14]), ([11, 15, 0, 1, 2, 3, 4, 5, 6, 7, 8, 9, 10, 11, 12, 13, 14, 15], [11])])
def zq.B12 : List Nat := [0, 1, 0, 4, 0, 16, 48, 112, 240, 496, 1008, 2032, 3, 6131, 14335, 30719, 65535]
theorem zq.tab12 : rtab .any (opsOf Try.f42 12) = zq.T12 := by kernel_rfl
theorem zq.bits12 : waitsOk zq.T12.2 zq.B12 = true := by kernel_rfl
def zq.T14 : Bool × List (List Nat × List Nat) := (true, [([], []), ([0], [0]), ([], []), ([2], [2]), ([], []), ([4], [4]), ([5], [5]), ([6, 6], [6]), ([7], [7]), ([8, 7], [7, 8]), ([9, 7, 7], [7, 9]), ([7, 10], [7, 10]), ([0, 1], []), ([12, 1, 10, 0, 1], [1, 12]), ([0, 1, 2, 3, 12, 13], []), ([14, 3, 13, 0, 1, 2, 3, 12, 13], [3, 14]), ([11, 15, 0, 1, 2, 3, 4, 5, 6, 7, 8, 9, 10, 11, 12, 13, 14, 15], [11])])
def zq.B14 : List Nat := [0, 1, 0, 4, 0, 16, 48, 112, 240, 496, 1008, 2032, 3, 6131, 14335, 30719, 65535]
theorem zq.tab14 : rtab .any (opsOf Try.f42 14) = zq.T14 := by kernel_rfl
theorem zq.bits14 : waitsOk zq.T14.2 zq.B14 = true := by kernel_rfl
def zq.T17 : Bool × List (List Nat × List Nat) := (true, [([], []), ([0], [0]), ([], []), ([2], [2]), ([3], [3]), ([4, 4], [4]), ([5], [5]), ([6, 5], [5, 6]), ([7, 5], [5, 7]), ([8, 5], [5, 8]), ([5, 9], [5, 9]), ([0, 1], []), ([11, 1, 5, 0, 1], [1, 11]), ([10, 12, 0, 1, 2, 3, 4, 5, 6, 7, 8, 9, 10, 11, 12], [10])])
def zq.B17 : List Nat := [0, 1, 0, 4, 12, 28, 60, 124, 252, 508, 1020, 3, 2111, 8191]
theorem zq.tab17 : rtab .any (opsOf Try.f42 17) = zq.T17 := by kernel_rfl
theorem zq.bits17 : waitsOk zq.T17.2 zq.B17 = true := by kernel_rfl
def zq.T20 : Bool × List (List Nat × List Nat) := (true, [([], []), ([0], [0]), ([], []), ([2], [2]), ([], []), ([4], [4]), ([], []), ([6], [6]), ([], []), ([8], [8]), ([7, 9], [7, 9]), ([10, 10], [10]), ([11], [11]), ([12, 11], [11, 12]), ([13, 11], [11, 13]), ([11, 14], [11, 14]), ([15, 11], [15]), ([16], [16]), ([17, 16], [16, 17]), ([18, 16], [16, 18]), ([16, 19], [16, 19]), ([0, 1], []), ([21, 1, 16, 0, 1], [1, 21]), ([0, 1, 2, 3, 21, 22], []), ([23, 3, 22, 0, 1, 2, 3, 21, 22], [3, 23]), ([0, 1, 2, 3, 4, 5, 21, 22, 23, 24], []), ([25, 5, 24, 0, 1, 2, 3, 4, 5, 21, 22, 23, 24], [5, 25]), ([20, 26, 0, 1, 2, 3, 4, 5, 6, 7, 8, 9, 10, 11, 12, 13, 14, 15, 16, 17, 18, 19, 20, 21, 22, 23, 24, 25, 26], [20])])
def zq.B20 : List Nat := [0, 1, 0, 4, 0, 16, 0, 64, 0, 256, 960, 1984, 4032, 8128, 16320, 32704, 65472, 131008, 262080, 524224, 1048512, 3, 2228163, 6422479, 14811087, 31588351, 65142783, 134217727]
theorem zq.tab20 : rtab .any (opsOf Try.f42 20) = zq.T20 := by kernel_rfl
theorem zq.bits20 : waitsOk zq.T20.2 zq.B20 = true := by kernel_rfl
set_option maxHeartbeats 8000000 in
set_option maxRecDepth 100000 in
theorem zq.calls (k : Nat) (a0_0 : Int) (a0_1 : Int) (a0_2 : Int) (a0_3 : Int) (a0_4 : Int) (a0_5 : Int) (A0_6 : Option Addr) (c0_6 : Nat) (l0_6 : List (S38)) (r : Bool) (w : World) (hr0_6 : Kd.C k38 w A0_6 l0_6.length l0_6) (hc0_6 : l0_6.length ≤ c0_6) (h : zq.f k a0_0 a0_1 a0_2 a0_3 a0_4 a0_5 l0_6 = some r) :
  Calls Try.prog 42 #[.agg #[.int .i64 a0_0, .int .i64 a0_1, .int .i64 a0_2, .int .i64 a0_3, .int .i64 a0_4, .int .i64 a0_5, .slice A0_6 l0_6.length c0_6]] w fun e w' => e = .returned (.bool r) ∧ Below w.heap.size w w' := by
 have hu45 := Try.underlying45
 have HR0_6 := Aside0.mk hr0_6
 have HC0_6 := Aside0.mk hc0_6
 clear hr0_6 hc0_6
 have HB := Aside0.mk (Below.refl w.heap.size w)
 have H : ((jq.f k l0_6 70).bind fun t256 => (if t256 = true then (some false) else (if a0_0 = 1 then ((gp.f a0_2).bind fun t258 => (zq.j0 k 0 t258 a0_0 a0_1 a0_2 a0_3 a0_4 a0_5 l0_6 a0_0 0 a0_2 0 0 0)) else (if a0_0 = 2 then ((gp.f a0_2).bind fun t259 => (if t259 = true then ((uq.f a0_1).bind fun t260 => (zq.j0 k 0 t260 a0_0 a0_1 a0_2 a0_3 a0_4 a0_5 l0_6 a0_0 a0_1 a0_2 0 0 0)) else (zq.j0 k 0 false a0_0 a0_1 a0_2 a0_3 a0_4 a0_5 l0_6 a0_0 a0_1 a0_2 0 0 0))) else (if a0_0 = 3 then ((uq.f a0_1).bind fun t261 => (if t261 = true then ((ur.f a0_3).bind fun t262 => (zq.j0 k 0 t262 a0_0 a0_1 a0_2 a0_3 a0_4 a0_5 l0_6 a0_0 a0_1 0 a0_3 0 0)) else (zq.j0 k 0 false a0_0 a0_1 a0_2 a0_3 a0_4 a0_5 l0_6 a0_0 a0_1 0 a0_3 0 0))) else (if a0_0 = 4 then ((uq.f a0_1).bind fun t263 => (if t263 = true then ((ur.f a0_3).bind fun t264 => (zq.j0 k 1 t264 a0_0 a0_1 a0_2 a0_3 a0_4 a0_5 l0_6 a0_0 a0_1 0 a0_3 0 0)) else (zq.j0 k 1 false a0_0 a0_1 a0_2 a0_3 a0_4 a0_5 l0_6 a0_0 a0_1 0 a0_3 0 0))) else (if a0_0 = 5 then ((ur.f a0_3).bind fun t265 => (if t265 = true then (zq.j0 k (l0_6.length : Int) (decide ((l0_6.length : Int) ≤ 4)) a0_0 a0_1 a0_2 a0_3 a0_4 a0_5 l0_6 a0_0 0 0 a0_3 0 0) else (zq.j0 k (l0_6.length : Int) false a0_0 a0_1 a0_2 a0_3 a0_4 a0_5 l0_6 a0_0 0 0 a0_3 0 0))) else (if a0_0 = 6 then ((ut.f a0_1 a0_4).bind fun t266 => (if t266 = true then (if a0_5 ≥ 1 then (zq.j0 k 0 (decide (a0_5 ≤ 8)) a0_0 a0_1 a0_2 a0_3 a0_4 a0_5 l0_6 a0_0 a0_1 0 0 a0_4 a0_5) else (zq.j0 k 0 false a0_0 a0_1 a0_2 a0_3 a0_4 a0_5 l0_6 a0_0 a0_1 0 0 a0_4 a0_5)) else (zq.j0 k 0 false a0_0 a0_1 a0_2 a0_3 a0_4 a0_5 l0_6 a0_0 a0_1 0 0 a0_4 a0_5))) else (zq.j0 k 0 false a0_0 a0_1 a0_2 a0_3 a0_4 a0_5 l0_6 a0_0 0 0 0 0 0))))))))) = some r := h
 clear h
 replace H := Option.bind_eq_some_iff.mp H
 obtain ⟨t256, A20, H⟩ := H
 replace H : (if t256 = true then (some false) else (if a0_0 = 1 then ((gp.f a0_2).bind fun t258 => (zq.j0 k 0 t258 a0_0 a0_1 a0_2 a0_3 a0_4 a0_5 l0_6 a0_0 0 a0_2 0 0 0)) else (if a0_0 = 2 then ((gp.f a0_2).bind fun t259 => (if t259 = true then ((uq.f a0_1).bind fun t260 => (zq.j0 k 0 t260 a0_0 a0_1 a0_2 a0_3 a0_4 a0_5 l0_6 a0_0 a0_1 a0_2 0 0 0)) else (zq.j0 k 0 false a0_0 a0_1 a0_2 a0_3 a0_4 a0_5 l0_6 a0_0 a0_1 a0_2 0 0 0))) else (if a0_0 = 3 then ((uq.f a0_1).bind fun t261 => (if t261 = true then ((ur.f a0_3).bind fun t262 => (zq.j0 k 0 t262 a0_0 a0_1 a0_2 a0_3 a0_4 a0_5 l0_6 a0_0 a0_1 0 a0_3 0 0)) else (zq.j0 k 0 false a0_0 a0_1 a0_2 a0_3 a0_4 a0_5 l0_6 a0_0 a0_1 0 a0_3 0 0))) else (if a0_0 = 4 then ((uq.f a0_1).bind fun t263 => (if t263 = true then ((ur.f a0_3).bind fun t264 => (zq.j0 k 1 t264 a0_0 a0_1 a0_2 a0_3 a0_4 a0_5 l0_6 a0_0 a0_1 0 a0_3 0 0)) else (zq.j0 k 1 false a0_0 a0_1 a0_2 a0_3 a0_4 a0_5 l0_6 a0_0 a0_1 0 a0_3 0 0))) else (if a0_0 = 5 then ((ur.f a0_3).bind fun t265 => (if t265 = true then (zq.j0 k (l0_6.length : Int) (decide ((l0_6.length : Int) ≤ 4)) a0_0 a0_1 a0_2 a0_3 a0_4 a0_5 l0_6 a0_0 0 0 a0_3 0 0) else (zq.j0 k (l0_6.length : Int) false a0_0 a0_1 a0_2 a0_3 a0_4 a0_5 l0_6 a0_0 0 0 a0_3 0 0))) else (if a0_0 = 6 then ((ut.f a0_1 a0_4).bind fun t266 => (if t266 = true then (if a0_5 ≥ 1 then (zq.j0 k 0 (decide (a0_5 ≤ 8)) a0_0 a0_1 a0_2 a0_3 a0_4 a0_5 l0_6 a0_0 a0_1 0 0 a0_4 a0_5) else (zq.j0 k 0 false a0_0 a0_1 a0_2 a0_3 a0_4 a0_5 l0_6 a0_0 a0_1 0 0 a0_4 a0_5)) else (zq.j0 k 0 false a0_0 a0_1 a0_2 a0_3 a0_4 a0_5 l0_6 a0_0 a0_1 0 0 a0_4 a0_5))) else (zq.j0 k 0 false a0_0 a0_1 a0_2 a0_3 a0_4 a0_5 l0_6 a0_0 0 0 0 0 0)))))))) = some r := H
 have A2 := Aside0.mk A20
 clear A20
 by_cases c3 : t256 = true
 ·
  subst c3
  have H1 : (some false) = some r := by rw [if_pos rfl] at H; exact H
  clear H
  have H := H1
  clear H1
  obtain rfl := Option.some.inj H
  go_enter Try.func42, Try.ntmps42
  go_wp2_with (first | ((with_reducible refine yf (N := 1) rfl ?_); (try (refine j7 (by rfl) ?_; dsimp only)); refine yd ?hg (N := 1) ?hd (cs := #[.int .i64 a0_0, .int .i64 a0_1, .int .i64 a0_2, .int .i64 a0_3, .int .i64 a0_4, .int .i64 a0_5, .slice A0_6 l0_6.length c0_6]) (t := 45) ?hr ?_; (case hd => rfl); (case hg => rfl); (case hr => first | (go_simp; done) | (go_simp; rfl)); intro gb255 hg w4 hbox hb; have n0_ := Aside0.mk (zj (by repeat (first | (with_reducible first | exact HB.out | apply z8 | apply z6 | apply z7) | exact HB.out)) hb); have n1_ := Aside0.mk (hbox); have n2_ := Aside0.mk ((by rw [hg]; exact (zk (by repeat (first | (with_reducible first | exact HB.out | apply z8 | apply z6 | apply z7) | exact HB.out))) : w.heap.size ≤ gb255)); have n3_ := Aside0.mk ((by rw [hg]; exact (zk (by repeat (first | (with_reducible first | exact HB.out | apply z8 | apply z6 | apply z7) | exact HB.out))) : w.heap.size ≤ gb255)); clear HB; have HB := n0_; have BK255 := n1_; have GW255 := n2_; have GE255 := n3_; clear n0_ n1_ n2_ n3_; clear hb hbox hg; have hcz5_0 := ug BK255.out; have hfz5_0 := fun j_ => zi BK255.out j_) | ((with_reducible refine zu (f := 69) rfl ?_); refine yn (some 8) rfl rfl Try.func69 (by kernel_rfl) rfl #[.slice A0_6 l0_6.length c0_6, .func (.func 70) #[] #[]] rfl (by (try simp only [List.map_toArray, List.map_cons, List.map_nil]); first | done | rfl | (simp only [List.length_drop, List.length_take]; rfl)) ?_; (with_reducible refine (jq.calls k _ _ l0_6 70 true _ ?side1 ?side2 A2.out).mono ?_); (case side1 => repeat (first | exact (Kd.yt HR0_6.out HB.out) | (with_reducible refine Kd.yo ?_ _) | (with_reducible refine Kd.yp ?_ _) | (with_reducible refine Kd.yy ?_))); (case side2 => exact HC0_6.out); rintro e w6 ⟨rfl, hb⟩; refine ⟨_, rfl, ?_⟩; have n0_ := Aside0.mk (zt (by (with_reducible repeat (first | refine ze ?_ _ | refine zf ?_ | refine zc ?_ _)); exact BK255.out) hb); have n1_ := Aside0.mk (zj (by repeat (first | (with_reducible first | exact HB.out | apply z8 | apply z6 | apply z7 | refine zb ?_ GE255.out) | exact HB.out)) hb); clear BK255; clear HB; have BK255 := n0_; have HB := n1_; clear n0_ n1_; (try clear hb); (try clear hb2); (try clear hk); (try clear hi)))
  go_ret
  exact ⟨by first | rfl | (simp [zm, zn] <;> rfl) | (simp [*, zm, zn] <;> rfl), by repeat (first | (with_reducible first | exact HB.out | apply z8 | apply z6 | apply z7 | refine zb ?_ GE255.out) | exact HB.out)⟩
 replace c3 := Bool.eq_false_iff.mpr c3
 subst c3
 have H1 : (if a0_0 = 1 then ((gp.f a0_2).bind fun t258 => (zq.j0 k 0 t258 a0_0 a0_1 a0_2 a0_3 a0_4 a0_5 l0_6 a0_0 0 a0_2 0 0 0)) else (if a0_0 = 2 then ((gp.f a0_2).bind fun t259 => (if t259 = true then ((uq.f a0_1).bind fun t260 => (zq.j0 k 0 t260 a0_0 a0_1 a0_2 a0_3 a0_4 a0_5 l0_6 a0_0 a0_1 a0_2 0 0 0)) else (zq.j0 k 0 false a0_0 a0_1 a0_2 a0_3 a0_4 a0_5 l0_6 a0_0 a0_1 a0_2 0 0 0))) else (if a0_0 = 3 then ((uq.f a0_1).bind fun t261 => (if t261 = true then ((ur.f a0_3).bind fun t262 => (zq.j0 k 0 t262 a0_0 a0_1 a0_2 a0_3 a0_4 a0_5 l0_6 a0_0 a0_1 0 a0_3 0 0)) else (zq.j0 k 0 false a0_0 a0_1 a0_2 a0_3 a0_4 a0_5 l0_6 a0_0 a0_1 0 a0_3 0 0))) else (if a0_0 = 4 then ((uq.f a0_1).bind fun t263 => (if t263 = true then ((ur.f a0_3).bind fun t264 => (zq.j0 k 1 t264 a0_0 a0_1 a0_2 a0_3 a0_4 a0_5 l0_6 a0_0 a0_1 0 a0_3 0 0)) else (zq.j0 k 1 false a0_0 a0_1 a0_2 a0_3 a0_4 a0_5 l0_6 a0_0 a0_1 0 a0_3 0 0))) else (if a0_0 = 5 then ((ur.f a0_3).bind fun t265 => (if t265 = true then (zq.j0 k (l0_6.length : Int) (decide ((l0_6.length : Int) ≤ 4)) a0_0 a0_1 a0_2 a0_3 a0_4 a0_5 l0_6 a0_0 0 0 a0_3 0 0) else (zq.j0 k (l0_6.length : Int) false a0_0 a0_1 a0_2 a0_3 a0_4 a0_5 l0_6 a0_0 0 0 a0_3 0 0))) else (if a0_0 = 6 then ((ut.f a0_1 a0_4).bind fun t266 => (if t266 = true then (if a0_5 ≥ 1 then (zq.j0 k 0 (decide (a0_5 ≤ 8)) a0_0 a0_1 a0_2 a0_3 a0_4 a0_5 l0_6 a0_0 a0_1 0 0 a0_4 a0_5) else (zq.j0 k 0 false a0_0 a0_1 a0_2 a0_3 a0_4 a0_5 l0_6 a0_0 a0_1 0 0 a0_4 a0_5)) else (zq.j0 k 0 false a0_0 a0_1 a0_2 a0_3 a0_4 a0_5 l0_6 a0_0 a0_1 0 0 a0_4 a0_5))) else (zq.j0 k 0 false a0_0 a0_1 a0_2 a0_3 a0_4 a0_5 l0_6 a0_0 0 0 0 0 0))))))) = some r := by rw [if_neg (show ¬ (false = true) by decide)] at H; exact H
 clear H
 have H := H1
 clear H1
 have HC7 := Aside0.mk H
 clear H
 go_enter Try.func42, Try.ntmps42
 go_upto_block 0 with (first | ((with_reducible refine yf (N := 1) rfl ?_); (try (refine j7 (by rfl) ?_; dsimp only)); refine yd ?hg (N := 1) ?hd (cs := #[.int .i64 a0_0, .int .i64 a0_1, .int .i64 a0_2, .int .i64 a0_3, .int .i64 a0_4, .int .i64 a0_5, .slice A0_6 l0_6.length c0_6]) (t := 45) ?hr ?_; (case hd => rfl); (case hg => rfl); (case hr => first | (go_simp; done) | (go_simp; rfl)); intro gb255 hg w8 hbox hb; have n0_ := Aside0.mk (zj (by repeat (first | (with_reducible first | exact HB.out | apply z8 | apply z6 | apply z7) | exact HB.out)) hb); have n1_ := Aside0.mk (hbox); have n2_ := Aside0.mk ((by rw [hg]; exact (zk (by repeat (first | (with_reducible first | exact HB.out | apply z8 | apply z6 | apply z7) | exact HB.out))) : w.heap.size ≤ gb255)); have n3_ := Aside0.mk ((by rw [hg]; exact (zk (by repeat (first | (with_reducible first | exact HB.out | apply z8 | apply z6 | apply z7) | exact HB.out))) : w.heap.size ≤ gb255)); clear HB; have HB := n0_; have BK255 := n1_; have GW255 := n2_; have GE255 := n3_; clear n0_ n1_ n2_ n3_; clear hb hbox hg; have hcz9_0 := ug BK255.out; have hfz9_0 := fun j_ => zi BK255.out j_) | ((with_reducible refine zu (f := 69) rfl ?_); refine yn (some 8) rfl rfl Try.func69 (by kernel_rfl) rfl #[.slice A0_6 l0_6.length c0_6, .func (.func 70) #[] #[]] rfl (by (try simp only [List.map_toArray, List.map_cons, List.map_nil]); first | done | rfl | (simp only [List.length_drop, List.length_take]; rfl)) ?_; (with_reducible refine (jq.calls k _ _ l0_6 70 false _ ?side1 ?side2 A2.out).mono ?_); (case side1 => repeat (first | exact (Kd.yt HR0_6.out HB.out) | (with_reducible refine Kd.yo ?_ _) | (with_reducible refine Kd.yp ?_ _) | (with_reducible refine Kd.yy ?_))); (case side2 => exact HC0_6.out); rintro e w10 ⟨rfl, hb⟩; refine ⟨_, rfl, ?_⟩; have n0_ := Aside0.mk (zt (by (with_reducible repeat (first | refine ze ?_ _ | refine zf ?_ | refine zc ?_ _)); exact BK255.out) hb); have n1_ := Aside0.mk (zj (by repeat (first | (with_reducible first | exact HB.out | apply z8 | apply z6 | apply z7 | refine zb ?_ GE255.out) | exact HB.out)) hb); clear BK255; clear HB; have BK255 := n0_; have HB := n1_; clear n0_ n1_; (try clear hb); (try clear hb2); (try clear hk); (try clear hi); have hcz11_0 := ug BK255.out; have hfz11_0 := fun j_ => zi BK255.out j_) | ((with_reducible refine yf (N := 3) rfl ?_); (try (refine j7 (by rfl) ?_; dsimp only)); refine yd ?hg (N := 3) ?hd (cs := #[.int .i64 0, .int .i64 0, .int .i64 0, .int .i64 0, .int .i64 0, .int .i64 0, .slice none 0 0]) (t := 45) ?hr ?_; (case hd => rfl); (case hg => rfl); (case hr => first | (go_simp; done) | (go_simp; rfl)); intro gb257 hg w12 hbox hb; have n0_ := Aside0.mk (zt (by (with_reducible repeat (first | refine ze ?_ _ | refine zf ?_ | refine zc ?_ _)); exact BK255.out) hb); have n1_ := Aside0.mk (zj (by repeat (first | (with_reducible first | exact HB.out | apply z8 | apply z6 | apply z7 | refine zb ?_ GE255.out) | exact HB.out)) hb); have n2_ := Aside0.mk (hbox); have n3_ := Aside0.mk ((by rw [hg]; exact (zk (by repeat (first | (with_reducible first | exact HB.out | apply z8 | apply z6 | apply z7 | refine zb ?_ GE255.out) | exact HB.out))) : w.heap.size ≤ gb257)); have n4_ := Aside0.mk ((by rw [hg]; exact (zk (by repeat (first | (with_reducible first | exact HB.out | apply z8 | apply z6 | apply z7 | refine zb ?_ GE255.out) | exact HB.out))) : w.heap.size ≤ gb257)); have n5_ := Aside0.mk ((by rw [hg]; exact Nat.ne_of_lt (vo (g := gb255) (o := .cells #[.int .i64 a0_0, .int .i64 a0_1, .int .i64 a0_2, .int .i64 a0_3, .int .i64 a0_4, .int .i64 a0_5, .slice A0_6 l0_6.length c0_6] 45 (0, 0)) (by (with_reducible repeat (first | refine ze ?_ _ | refine zf ?_ | refine zc ?_ _)); exact BK255.out)) : gb255 ≠ gb257)); have n6_ := Aside0.mk ((by rw [hg]; exact Nat.ne_of_gt (vo (g := gb255) (o := .cells #[.int .i64 a0_0, .int .i64 a0_1, .int .i64 a0_2, .int .i64 a0_3, .int .i64 a0_4, .int .i64 a0_5, .slice A0_6 l0_6.length c0_6] 45 (0, 0)) (by (with_reducible repeat (first | refine ze ?_ _ | refine zf ?_ | refine zc ?_ _)); exact BK255.out)) : gb257 ≠ gb255)); clear BK255; clear HB; have BK255 := n0_; have HB := n1_; have BK257 := n2_; have GW257 := n3_; have GE257 := n4_; have NB255_257 := n5_; have NB257_255 := n6_; clear n0_ n1_ n2_ n3_ n4_ n5_ n6_; clear hb hbox hg; have hnb13 := NB257_255.out; have hnc13 := NB255_257.out; have hcz14_0 := ug BK257.out; have hfz14_0 := fun j_ => zi BK257.out j_; have hcz15_0 := ug BK255.out; have hfz15_0 := fun j_ => zi BK255.out j_))
 (try simp only [Act.put, List.setIfInBounds_toArray, List.set_cons_zero, List.set_cons_succ])
 go_cut [4, 5] (fun v4 v5 wc => ∃ (kq : Nat) (x4_6 : Int) (x5_6 : Bool) (x258001_6 : Int) (x258002_6 : Int) (x258003_6 : Int) (x258004_6 : Int) (x258005_6 : Int), v4 = .int .i64 x4_6 ∧ v5 = .bool x5_6 ∧ Aside0 (zq.j0 kq x4_6 x5_6 a0_0 a0_1 a0_2 a0_3 a0_4 a0_5 l0_6 a0_0 x258001_6 x258002_6 x258003_6 x258004_6 x258005_6 = some r) ∧ Aside0 (kq ≤ k) ∧ Aside0 (wc.heap[gb255]? = some (.cells #[.int .i64 a0_0, .int .i64 a0_1, .int .i64 a0_2, .int .i64 a0_3, .int .i64 a0_4, .int .i64 a0_5, (.slice A0_6 l0_6.length c0_6)] 45 (0, 0))) ∧ Aside0 (wc.heap[gb257]? = some (.cells #[.int .i64 a0_0, .int .i64 x258001_6, .int .i64 x258002_6, .int .i64 x258003_6, .int .i64 x258004_6, .int .i64 x258005_6, (.slice none 0 0)] 45 (0, 0))) ∧ Aside0 (Below w.heap.size w wc))
 case first =>
  have H := HC7.out
  clear HC7
  by_cases c16 : a0_0 = 1
  ·
   rw [if_pos c16] at H
   have c16b0 : (a0_0 == 1) = true := beq_iff_eq.mpr c16
   have c16b1 : (a0_0 != 1) = false := bne_eq_false_iff_eq.mpr c16
   clear c16
   (first | rw [c16b0] | (simp only [vw, ud]; rw [c16b0]) | skip)
   replace H := Option.bind_eq_some_iff.mp H
   obtain ⟨t258, A170, H⟩ := H
   replace H : (zq.j0 k 0 t258 a0_0 a0_1 a0_2 a0_3 a0_4 a0_5 l0_6 a0_0 0 a0_2 0 0 0) = some r := H
   have A17 := Aside0.mk A170
   clear A170
   have H' := Aside0.mk H
   clear H
   try go_wp2
   generalize hw_ : (((((((w12.setCell ⟨gb257, 0, none⟩ (.int .i64 a0_0)).setCell ⟨gb257, 1, none⟩ (.int .i64 0)).setCell ⟨gb257, 2, none⟩ (.int .i64 0)).setCell ⟨gb257, 3, none⟩ (.int .i64 0)).setCell ⟨gb257, 4, none⟩ (.int .i64 0)).setCell ⟨gb257, 5, none⟩ (.int .i64 0)).setCell ⟨gb257, 6, none⟩ (.slice none 0 0)) = w18
   have n0_ : Aside0 (w18.heap[gb255]? = some (.cells #[.int .i64 a0_0, .int .i64 a0_1, .int .i64 a0_2, .int .i64 a0_3, .int .i64 a0_4, .int .i64 a0_5, .slice A0_6 l0_6.length c0_6] 45 (0, 0))) := by rw [← hw_]; exact ⟨(zp (zp (zp (zp (zp (zp (zp BK255.out NB255_257.out _) NB255_257.out _) NB255_257.out _) NB255_257.out _) NB255_257.out _) NB255_257.out _) NB255_257.out _)⟩
   have n1_ : Aside0 (w18.heap[gb257]? = some (.cells #[.int .i64 a0_0, .int .i64 0, .int .i64 0, .int .i64 0, .int .i64 0, .int .i64 0, .slice none 0 0] 45 (0, 0))) := by rw [← hw_]; exact ⟨(z0d BK257.out _ _ _ _ _ _ _)⟩
   have n2_ : Aside0 (Below w.heap.size w w18) := by rw [← hw_]; exact ⟨by repeat (first | (with_reducible first | exact HB.out | apply z8 | apply z6 | apply z7 | refine zb ?_ GE255.out | refine zb ?_ GE257.out) | exact HB.out)⟩
   clear hw_
   (try clear BK255)
   (try clear BK257)
   (try clear HB)
   have BK255 := n0_
   have BK257 := n1_
   have HB := n2_
   clear n0_ n1_ n2_
   have n0_ := Aside0.mk (zf BK255.out)
   have n1_ := Aside0.mk (zf BK257.out)
   have n2_ := Aside0.mk (z7 HB.out)
   clear BK255
   clear BK257
   clear HB
   have BK255 := n0_
   have BK257 := n1_
   have HB := n2_
   clear n0_ n1_ n2_
   refine ji (n := 8) (S := fun w' => w'.cell? ⟨gb255, 0, none⟩ = some (.int .i64 a0_0) ∧ w'.cell? ⟨gb255, 1, none⟩ = some (.int .i64 a0_1) ∧ w'.cell? ⟨gb255, 2, none⟩ = some (.int .i64 a0_2) ∧ w'.cell? ⟨gb255, 3, none⟩ = some (.int .i64 a0_3) ∧ w'.cell? ⟨gb255, 4, none⟩ = some (.int .i64 a0_4) ∧ w'.cell? ⟨gb255, 5, none⟩ = some (.int .i64 a0_5) ∧ w'.cell? ⟨gb255, 6, none⟩ = some (.slice A0_6 l0_6.length c0_6)) (ds := []) #[false, false, false, false, false, false, false, false] (by kernel_rfl) rfl rfl ⟨(za BK255.out 0).trans rfl, (za BK255.out 1).trans rfl, (za BK255.out 2).trans rfl, (za BK255.out 3).trans rfl, (za BK255.out 4).trans rfl, (za BK255.out 5).trans rfl, (za BK255.out 6).trans rfl⟩ (fun hHeld => ?_); refine uy zq.tab8 zq.bits8 (fun HT_ HW_ => ?_)
   generalize w18.drew = w19 at BK255 BK257 HB hHeld ⊢
   refine pq_ 0 16 #[true, false, false, false, false, false, false, false] (zo HT_.out (by kernel_rfl)) ?_
   refine pq_ 2 18 #[true, false, true, false, false, false, false, false] (zo HT_.out (by kernel_rfl)) ?_
   refine tq_ 1 17 #[true, true, true, false, false, false, false, false] (yj HT_.out HW_.out (by kernel_rfl)) hHeld ?_
   refine pq_ 5 21 #[true, true, true, false, false, true, false, false] (zo HT_.out (by kernel_rfl)) ?_
   refine tq_ 3 19 #[true, true, true, true, false, true, false, false] (yj HT_.out HW_.out (by kernel_rfl)) hHeld ?_
   refine ul (i := 4) (N := some 20) #[true, true, true, true, true, true, false, false] rfl rfl (vn HT_.out (by kernel_rfl)) (by decide) (fun K hK => ?_)
   refine j5 Try.func71 (by kernel_rfl) rfl #[.int .i64 a0_2] (by rfl) rfl rfl (by (try simp only [List.map_toArray, List.map_cons, List.map_nil]); first | done | rfl | (simp only [List.length_drop, List.length_take]; rfl)) ?_
   with_reducible refine (gp.calls a0_2 t258 _ A17.out).mono ?_
   rintro e w' ⟨rfl, ⟨nd, rfl⟩⟩
   refine ⟨_, rfl, ?_⟩
   refine hK.out _ _ ⟨(za BK255.out 0).trans rfl, (za BK255.out 1).trans rfl, (za BK255.out 2).trans rfl, (za BK255.out 3).trans rfl, (za BK255.out 4).trans rfl, (za BK255.out 5).trans rfl, (za BK255.out 6).trans rfl⟩ (fun hHeld => ?_)
   clear hK K
   refine um (a' := ?_) ?_ ?_
   rotate_left
   ·
    show Act.put _ (some 20) _ = _
    simp only [Act.put, List.setIfInBounds_toArray, List.set_cons_zero, List.set_cons_succ, vw, ud]
    rfl
   refine ul (i := 6) (N := none) #[true, true, true, true, true, true, true, false] rfl rfl (vn HT_.out (by kernel_rfl)) (by decide) (fun K hK => ?_)
   have hs20 : w19.cell? ⟨gb257, 2, none⟩ = some (.int .i64 0) := (za BK257.out 2).trans rfl
   have hfs20 := zi BK257.out 2
   have hns20_0 := NB255_257.out
   have hms20_0 := NB257_255.out
   refine jv (w1 := ?_) (by rfl) rfl ?_ ?_
   rotate_left
   ·
    go_simp
    rfl
   refine hK.out _ _ ⟨((cell_far (p := ⟨gb257, _, none⟩) NB255_257.out _).trans (hHeld.1)), ((cell_far (p := ⟨gb257, _, none⟩) NB255_257.out _).trans (hHeld.2.1)), ((cell_far (p := ⟨gb257, _, none⟩) NB255_257.out _).trans (hHeld.2.2.1)), ((cell_far (p := ⟨gb257, _, none⟩) NB255_257.out _).trans (hHeld.2.2.2.1)), ((cell_far (p := ⟨gb257, _, none⟩) NB255_257.out _).trans (hHeld.2.2.2.2.1)), ((cell_far (p := ⟨gb257, _, none⟩) NB255_257.out _).trans (hHeld.2.2.2.2.2.1)), ((cell_far (p := ⟨gb257, _, none⟩) NB255_257.out _).trans (hHeld.2.2.2.2.2.2))⟩ (fun hHeld => ?_)
   clear hK K
   refine pq_ 7 5 #[true, true, true, true, true, true, true, true] (zo HT_.out (by kernel_rfl)) ?_
   refine ju (j9 HT_.out (by kernel_rfl)) ?_
   try go_wp2
   go_meet
   case rel => exact ⟨_, (0), (t258), (0), (a0_2), (0), (0), (0), (by first | rfl | (simp; done) | (simp [*]; done)), (by first | rfl | (simp; done) | (simp [*]; done)), H', ⟨by first | omega | exact Nat.le_refl _⟩, ⟨by (with_reducible repeat (first | refine ze ?_ _ | refine zf ?_ | refine zc ?_ _)); refine zp ?_ NB255_257.out _; (with_reducible repeat (first | refine ze ?_ _ | refine zf ?_ | refine zc ?_ _)); exact BK255.out⟩, ⟨by (with_reducible repeat (first | refine ze ?_ _ | refine zf ?_ | refine zc ?_ _)); refine zx (cs := #[.int .i64 a0_0, .int .i64 0, .int .i64 0, .int .i64 0, .int .i64 0, .int .i64 0, .slice none 0 0]) ?_ 2 _ rfl; (with_reducible repeat (first | refine ze ?_ _ | refine zf ?_ | refine zc ?_ _)); exact BK257.out⟩, ⟨by repeat (first | (with_reducible first | exact HB.out | apply z8 | apply z6 | apply z7 | refine zb ?_ GE255.out | refine zb ?_ GE257.out) | exact HB.out)⟩⟩
  rw [if_neg c16] at H
  have c16b0 : (a0_0 == 1) = false := beq_eq_false_iff_ne.mpr c16
  have c16b1 : (a0_0 != 1) = true := bne_iff_ne.mpr c16
  (first | rw [c16b0] | (simp only [vw, ud]; rw [c16b0]) | skip)
  by_cases c21 : a0_0 = 2
  ·
   rw [if_pos c21] at H
   have c21b0 : (a0_0 == 2) = true := beq_iff_eq.mpr c21
   have c21b1 : (a0_0 != 2) = false := bne_eq_false_iff_eq.mpr c21
   clear c21
   replace H := Option.bind_eq_some_iff.mp H
   obtain ⟨t259, A220, H⟩ := H
   replace H : (if t259 = true then ((uq.f a0_1).bind fun t260 => (zq.j0 k 0 t260 a0_0 a0_1 a0_2 a0_3 a0_4 a0_5 l0_6 a0_0 a0_1 a0_2 0 0 0)) else (zq.j0 k 0 false a0_0 a0_1 a0_2 a0_3 a0_4 a0_5 l0_6 a0_0 a0_1 a0_2 0 0 0)) = some r := H
   have A22 := Aside0.mk A220
   clear A220
   by_cases c23 : t259 = true
   rotate_left
   ·
    replace c23 := Bool.eq_false_iff.mpr c23
    subst c23
    have H1 : (zq.j0 k 0 false a0_0 a0_1 a0_2 a0_3 a0_4 a0_5 l0_6 a0_0 a0_1 a0_2 0 0 0) = some r := by rw [if_neg (show ¬ (false = true) by decide)] at H; exact H
    clear H
    have H := H1
    clear H1
    have H' := Aside0.mk H
    clear H
    try go_wp2
    generalize hw_ : (((((((w12.setCell ⟨gb257, 0, none⟩ (.int .i64 a0_0)).setCell ⟨gb257, 1, none⟩ (.int .i64 0)).setCell ⟨gb257, 2, none⟩ (.int .i64 0)).setCell ⟨gb257, 3, none⟩ (.int .i64 0)).setCell ⟨gb257, 4, none⟩ (.int .i64 0)).setCell ⟨gb257, 5, none⟩ (.int .i64 0)).setCell ⟨gb257, 6, none⟩ (.slice none 0 0)) = w29
    have n0_ : Aside0 (w29.heap[gb255]? = some (.cells #[.int .i64 a0_0, .int .i64 a0_1, .int .i64 a0_2, .int .i64 a0_3, .int .i64 a0_4, .int .i64 a0_5, .slice A0_6 l0_6.length c0_6] 45 (0, 0))) := by rw [← hw_]; exact ⟨(zp (zp (zp (zp (zp (zp (zp BK255.out NB255_257.out _) NB255_257.out _) NB255_257.out _) NB255_257.out _) NB255_257.out _) NB255_257.out _) NB255_257.out _)⟩
    have n1_ : Aside0 (w29.heap[gb257]? = some (.cells #[.int .i64 a0_0, .int .i64 0, .int .i64 0, .int .i64 0, .int .i64 0, .int .i64 0, .slice none 0 0] 45 (0, 0))) := by rw [← hw_]; exact ⟨(z0d BK257.out _ _ _ _ _ _ _)⟩
    have n2_ : Aside0 (Below w.heap.size w w29) := by rw [← hw_]; exact ⟨by repeat (first | (with_reducible first | exact HB.out | apply z8 | apply z6 | apply z7 | refine zb ?_ GE255.out | refine zb ?_ GE257.out) | exact HB.out)⟩
    clear hw_
    (try clear BK255)
    (try clear BK257)
    (try clear HB)
    have BK255 := n0_
    have BK257 := n1_
    have HB := n2_
    clear n0_ n1_ n2_
    have n0_ := Aside0.mk (zf BK255.out)
    have n1_ := Aside0.mk (zf BK257.out)
    have n2_ := Aside0.mk (z7 HB.out)
    clear BK255
    clear BK257
    clear HB
    have BK255 := n0_
    have BK257 := n1_
    have HB := n2_
    clear n0_ n1_ n2_
    refine ji (n := 17) (S := fun w' => w'.cell? ⟨gb255, 0, none⟩ = some (.int .i64 a0_0) ∧ w'.cell? ⟨gb255, 1, none⟩ = some (.int .i64 a0_1) ∧ w'.cell? ⟨gb255, 2, none⟩ = some (.int .i64 a0_2) ∧ w'.cell? ⟨gb255, 3, none⟩ = some (.int .i64 a0_3) ∧ w'.cell? ⟨gb255, 4, none⟩ = some (.int .i64 a0_4) ∧ w'.cell? ⟨gb255, 5, none⟩ = some (.int .i64 a0_5) ∧ w'.cell? ⟨gb255, 6, none⟩ = some (.slice A0_6 l0_6.length c0_6)) (ds := []) z3f (by kernel_rfl) rfl rfl ⟨(za BK255.out 0).trans rfl, (za BK255.out 1).trans rfl, (za BK255.out 2).trans rfl, (za BK255.out 3).trans rfl, (za BK255.out 4).trans rfl, (za BK255.out 5).trans rfl, (za BK255.out 6).trans rfl⟩ (fun hHeld => ?_); refine uy zq.tab10 zq.bits10 (fun HT_ HW_ => ?_)
    generalize w29.drew = w30 at BK255 BK257 HB hHeld ⊢
    refine pq_ 0 24 z3g (zo HT_.out (by kernel_rfl)) ?_
    refine pq_ 2 26 z3h (zo HT_.out (by kernel_rfl)) ?_
    refine pq_ 4 28 z3i (zo HT_.out (by kernel_rfl)) ?_
    refine tq_ 1 25 z3j (yj HT_.out HW_.out (by kernel_rfl)) hHeld ?_
    refine pq_ 12 36 z3k (zo HT_.out (by kernel_rfl)) ?_
    refine tq_ 3 27 z3l (yj HT_.out HW_.out (by kernel_rfl)) hHeld ?_
    refine tq_ 5 29 z3m (yj HT_.out HW_.out (by kernel_rfl)) hHeld ?_
    refine ul (i := 6) (N := some 30) z3n rfl rfl (vn HT_.out (by kernel_rfl)) (by decide) (fun K hK => ?_)
    refine j5 Try.func71 (by kernel_rfl) rfl #[.int .i64 a0_2] (by rfl) rfl rfl (by (try simp only [List.map_toArray, List.map_cons, List.map_nil]); first | done | rfl | (simp only [List.length_drop, List.length_take]; rfl)) ?_
    with_reducible refine (gp.calls a0_2 false _ A22.out).mono ?_
    rintro e w' ⟨rfl, ⟨nd, rfl⟩⟩
    refine ⟨_, rfl, ?_⟩
    refine hK.out _ _ ⟨(za BK255.out 0).trans rfl, (za BK255.out 1).trans rfl, (za BK255.out 2).trans rfl, (za BK255.out 3).trans rfl, (za BK255.out 4).trans rfl, (za BK255.out 5).trans rfl, (za BK255.out 6).trans rfl⟩ (fun hHeld => ?_)
    clear hK K
    refine um (a' := ?_) ?_ ?_
    rotate_left
    ·
     show Act.put _ (some 30) _ = _
     simp only [Act.put, List.setIfInBounds_toArray, List.set_cons_zero, List.set_cons_succ, vw, ud]
     rfl
    refine pq_ 7 31 z3o (zo HT_.out (by kernel_rfl)) ?_
    refine uf 8 32 z1w (zo HT_.out (by kernel_rfl)) ?_
    refine uf 9 33 z1x (zo HT_.out (by kernel_rfl)) ?_
    refine uf 10 34 z1y (zo HT_.out (by kernel_rfl)) ?_
    refine pq_ 11 35 z1z (zo HT_.out (by kernel_rfl)) ?_
    refine ul (i := 13) (N := none) z22 rfl rfl (vn HT_.out (by kernel_rfl)) (by decide) (fun K hK => ?_)
    have hs31 : w30.cell? ⟨gb257, 2, none⟩ = some (.int .i64 0) := (za BK257.out 2).trans rfl
    have hfs31 := zi BK257.out 2
    have hns31_0 := NB255_257.out
    have hms31_0 := NB257_255.out
    refine jv (w1 := ?_) (by rfl) rfl ?_ ?_
    rotate_left
    ·
     go_simp
     rfl
    refine hK.out _ _ ⟨((cell_far (p := ⟨gb257, _, none⟩) NB255_257.out _).trans (hHeld.1)), ((cell_far (p := ⟨gb257, _, none⟩) NB255_257.out _).trans (hHeld.2.1)), ((cell_far (p := ⟨gb257, _, none⟩) NB255_257.out _).trans (hHeld.2.2.1)), ((cell_far (p := ⟨gb257, _, none⟩) NB255_257.out _).trans (hHeld.2.2.2.1)), ((cell_far (p := ⟨gb257, _, none⟩) NB255_257.out _).trans (hHeld.2.2.2.2.1)), ((cell_far (p := ⟨gb257, _, none⟩) NB255_257.out _).trans (hHeld.2.2.2.2.2.1)), ((cell_far (p := ⟨gb257, _, none⟩) NB255_257.out _).trans (hHeld.2.2.2.2.2.2))⟩ (fun hHeld => ?_)
    clear hK K
    refine pq_ 14 37 z25 (zo HT_.out (by kernel_rfl)) ?_
    refine ul (i := 15) (N := none) z27 rfl rfl (vn HT_.out (by kernel_rfl)) (by decide) (fun K hK => ?_)
    have hs32 : w30.cell? ⟨gb257, 1, none⟩ = some (.int .i64 0) := (za BK257.out 1).trans rfl
    have hfs32 := zi BK257.out 1
    have hns32_0 := NB255_257.out
    have hms32_0 := NB257_255.out
    refine jv (w1 := ?_) (by rfl) rfl ?_ ?_
    rotate_left
    ·
     go_simp
     rfl
    refine hK.out _ _ ⟨((cell_far (p := ⟨gb257, _, none⟩) NB255_257.out _).trans (hHeld.1)), ((cell_far (p := ⟨gb257, _, none⟩) NB255_257.out _).trans (hHeld.2.1)), ((cell_far (p := ⟨gb257, _, none⟩) NB255_257.out _).trans (hHeld.2.2.1)), ((cell_far (p := ⟨gb257, _, none⟩) NB255_257.out _).trans (hHeld.2.2.2.1)), ((cell_far (p := ⟨gb257, _, none⟩) NB255_257.out _).trans (hHeld.2.2.2.2.1)), ((cell_far (p := ⟨gb257, _, none⟩) NB255_257.out _).trans (hHeld.2.2.2.2.2.1)), ((cell_far (p := ⟨gb257, _, none⟩) NB255_257.out _).trans (hHeld.2.2.2.2.2.2))⟩ (fun hHeld => ?_)
    clear hK K
    refine pq_ 16 5 z29 (zo HT_.out (by kernel_rfl)) ?_
    refine ju (j9 HT_.out (by kernel_rfl)) ?_
    try go_wp2
    go_meet
    case rel => exact ⟨_, (0), (false), (a0_1), (a0_2), (0), (0), (0), (by first | rfl | (simp; done) | (simp [*]; done)), (by first | rfl | (simp; done) | (simp [*]; done)), H', ⟨by first | omega | exact Nat.le_refl _⟩, ⟨by (with_reducible repeat (first | refine ze ?_ _ | refine zf ?_ | refine zc ?_ _)); refine zp ?_ NB255_257.out _; (with_reducible repeat (first | refine ze ?_ _ | refine zf ?_ | refine zc ?_ _)); refine zp ?_ NB255_257.out _; (with_reducible repeat (first | refine ze ?_ _ | refine zf ?_ | refine zc ?_ _)); exact BK255.out⟩, ⟨by (with_reducible repeat (first | refine ze ?_ _ | refine zf ?_ | refine zc ?_ _)); refine zx (cs := #[.int .i64 a0_0, .int .i64 0, .int .i64 a0_2, .int .i64 0, .int .i64 0, .int .i64 0, .slice none 0 0]) ?_ 1 _ rfl; (with_reducible repeat (first | refine ze ?_ _ | refine zf ?_ | refine zc ?_ _)); refine zx (cs := #[.int .i64 a0_0, .int .i64 0, .int .i64 0, .int .i64 0, .int .i64 0, .int .i64 0, .slice none 0 0]) ?_ 2 _ rfl; (with_reducible repeat (first | refine ze ?_ _ | refine zf ?_ | refine zc ?_ _)); exact BK257.out⟩, ⟨by repeat (first | (with_reducible first | exact HB.out | apply z8 | apply z6 | apply z7 | refine zb ?_ GE255.out | refine zb ?_ GE257.out) | exact HB.out)⟩⟩
   subst c23
   have H1 : ((uq.f a0_1).bind fun t260 => (zq.j0 k 0 t260 a0_0 a0_1 a0_2 a0_3 a0_4 a0_5 l0_6 a0_0 a0_1 a0_2 0 0 0)) = some r := by rw [if_pos rfl] at H; exact H
   clear H
   have H := H1
   clear H1
   replace H := Option.bind_eq_some_iff.mp H
   obtain ⟨t260, A240, H⟩ := H
   replace H : (zq.j0 k 0 t260 a0_0 a0_1 a0_2 a0_3 a0_4 a0_5 l0_6 a0_0 a0_1 a0_2 0 0 0) = some r := H
   have A24 := Aside0.mk A240
   clear A240
   have H' := Aside0.mk H
   clear H
   try go_wp2
   generalize hw_ : (((((((w12.setCell ⟨gb257, 0, none⟩ (.int .i64 a0_0)).setCell ⟨gb257, 1, none⟩ (.int .i64 0)).setCell ⟨gb257, 2, none⟩ (.int .i64 0)).setCell ⟨gb257, 3, none⟩ (.int .i64 0)).setCell ⟨gb257, 4, none⟩ (.int .i64 0)).setCell ⟨gb257, 5, none⟩ (.int .i64 0)).setCell ⟨gb257, 6, none⟩ (.slice none 0 0)) = w25
   have n0_ : Aside0 (w25.heap[gb255]? = some (.cells #[.int .i64 a0_0, .int .i64 a0_1, .int .i64 a0_2, .int .i64 a0_3, .int .i64 a0_4, .int .i64 a0_5, .slice A0_6 l0_6.length c0_6] 45 (0, 0))) := by rw [← hw_]; exact ⟨(zp (zp (zp (zp (zp (zp (zp BK255.out NB255_257.out _) NB255_257.out _) NB255_257.out _) NB255_257.out _) NB255_257.out _) NB255_257.out _) NB255_257.out _)⟩
   have n1_ : Aside0 (w25.heap[gb257]? = some (.cells #[.int .i64 a0_0, .int .i64 0, .int .i64 0, .int .i64 0, .int .i64 0, .int .i64 0, .slice none 0 0] 45 (0, 0))) := by rw [← hw_]; exact ⟨(z0d BK257.out _ _ _ _ _ _ _)⟩
   have n2_ : Aside0 (Below w.heap.size w w25) := by rw [← hw_]; exact ⟨by repeat (first | (with_reducible first | exact HB.out | apply z8 | apply z6 | apply z7 | refine zb ?_ GE255.out | refine zb ?_ GE257.out) | exact HB.out)⟩
   clear hw_
   (try clear BK255)
   (try clear BK257)
   (try clear HB)
   have BK255 := n0_
   have BK257 := n1_
   have HB := n2_
   clear n0_ n1_ n2_
   have n0_ := Aside0.mk (zf BK255.out)
   have n1_ := Aside0.mk (zf BK257.out)
   have n2_ := Aside0.mk (z7 HB.out)
   clear BK255
   clear BK257
   clear HB
   have BK255 := n0_
   have BK257 := n1_
   have HB := n2_
   clear n0_ n1_ n2_
   refine ji (n := 17) (S := fun w' => w'.cell? ⟨gb255, 0, none⟩ = some (.int .i64 a0_0) ∧ w'.cell? ⟨gb255, 1, none⟩ = some (.int .i64 a0_1) ∧ w'.cell? ⟨gb255, 2, none⟩ = some (.int .i64 a0_2) ∧ w'.cell? ⟨gb255, 3, none⟩ = some (.int .i64 a0_3) ∧ w'.cell? ⟨gb255, 4, none⟩ = some (.int .i64 a0_4) ∧ w'.cell? ⟨gb255, 5, none⟩ = some (.int .i64 a0_5) ∧ w'.cell? ⟨gb255, 6, none⟩ = some (.slice A0_6 l0_6.length c0_6)) (ds := []) z3f (by kernel_rfl) rfl rfl ⟨(za BK255.out 0).trans rfl, (za BK255.out 1).trans rfl, (za BK255.out 2).trans rfl, (za BK255.out 3).trans rfl, (za BK255.out 4).trans rfl, (za BK255.out 5).trans rfl, (za BK255.out 6).trans rfl⟩ (fun hHeld => ?_); refine uy zq.tab10 zq.bits10 (fun HT_ HW_ => ?_)
   generalize w25.drew = w26 at BK255 BK257 HB hHeld ⊢
   refine pq_ 0 24 z3g (zo HT_.out (by kernel_rfl)) ?_
   refine pq_ 2 26 z3h (zo HT_.out (by kernel_rfl)) ?_
   refine pq_ 4 28 z3i (zo HT_.out (by kernel_rfl)) ?_
   refine tq_ 1 25 z3j (yj HT_.out HW_.out (by kernel_rfl)) hHeld ?_
   refine pq_ 12 36 z3k (zo HT_.out (by kernel_rfl)) ?_
   refine tq_ 3 27 z3l (yj HT_.out HW_.out (by kernel_rfl)) hHeld ?_
   refine tq_ 5 29 z3m (yj HT_.out HW_.out (by kernel_rfl)) hHeld ?_
   refine ul (i := 6) (N := some 30) z3n rfl rfl (vn HT_.out (by kernel_rfl)) (by decide) (fun K hK => ?_)
   refine j5 Try.func71 (by kernel_rfl) rfl #[.int .i64 a0_2] (by rfl) rfl rfl (by (try simp only [List.map_toArray, List.map_cons, List.map_nil]); first | done | rfl | (simp only [List.length_drop, List.length_take]; rfl)) ?_
   with_reducible refine (gp.calls a0_2 true _ A22.out).mono ?_
   rintro e w' ⟨rfl, ⟨nd, rfl⟩⟩
   refine ⟨_, rfl, ?_⟩
   refine hK.out _ _ ⟨(za BK255.out 0).trans rfl, (za BK255.out 1).trans rfl, (za BK255.out 2).trans rfl, (za BK255.out 3).trans rfl, (za BK255.out 4).trans rfl, (za BK255.out 5).trans rfl, (za BK255.out 6).trans rfl⟩ (fun hHeld => ?_)
   clear hK K
   refine um (a' := ?_) ?_ ?_
   rotate_left
   ·
    show Act.put _ (some 30) _ = _
    simp only [Act.put, List.setIfInBounds_toArray, List.set_cons_zero, List.set_cons_succ, vw, ud]
    rfl
   refine pq_ 7 31 z3o (zo HT_.out (by kernel_rfl)) ?_
   refine pq_ 8 32 z1w (zo HT_.out (by kernel_rfl)) ?_
   refine tq_ 9 33 z1x (yj HT_.out HW_.out (by kernel_rfl)) hHeld ?_
   refine ul (i := 10) (N := some 34) z1y rfl rfl (vn HT_.out (by kernel_rfl)) (by decide) (fun K hK => ?_)
   refine j5 Try.func72 (by kernel_rfl) rfl #[.int .i64 a0_1] (by rfl) rfl rfl (by (try simp only [List.map_toArray, List.map_cons, List.map_nil]); first | done | rfl | (simp only [List.length_drop, List.length_take]; rfl)) ?_
   with_reducible refine (uq.calls a0_1 t260 _ A24.out).mono ?_
   rintro e w' ⟨rfl, ⟨nd, rfl⟩⟩
   refine ⟨_, rfl, ?_⟩
   refine hK.out _ _ ⟨(za BK255.out 0).trans rfl, (za BK255.out 1).trans rfl, (za BK255.out 2).trans rfl, (za BK255.out 3).trans rfl, (za BK255.out 4).trans rfl, (za BK255.out 5).trans rfl, (za BK255.out 6).trans rfl⟩ (fun hHeld => ?_)
   clear hK K
   refine um (a' := ?_) ?_ ?_
   rotate_left
   ·
    show Act.put _ (some 34) _ = _
    simp only [Act.put, List.setIfInBounds_toArray, List.set_cons_zero, List.set_cons_succ, vw, ud]
    rfl
   refine pq_ 11 35 z1z (zo HT_.out (by kernel_rfl)) ?_
   refine ul (i := 13) (N := none) z22 rfl rfl (vn HT_.out (by kernel_rfl)) (by decide) (fun K hK => ?_)
   have hs27 : w26.cell? ⟨gb257, 2, none⟩ = some (.int .i64 0) := (za BK257.out 2).trans rfl
   have hfs27 := zi BK257.out 2
   have hns27_0 := NB255_257.out
   have hms27_0 := NB257_255.out
   refine jv (w1 := ?_) (by rfl) rfl ?_ ?_
   rotate_left
   ·
    go_simp
    rfl
   refine hK.out _ _ ⟨((cell_far (p := ⟨gb257, _, none⟩) NB255_257.out _).trans (hHeld.1)), ((cell_far (p := ⟨gb257, _, none⟩) NB255_257.out _).trans (hHeld.2.1)), ((cell_far (p := ⟨gb257, _, none⟩) NB255_257.out _).trans (hHeld.2.2.1)), ((cell_far (p := ⟨gb257, _, none⟩) NB255_257.out _).trans (hHeld.2.2.2.1)), ((cell_far (p := ⟨gb257, _, none⟩) NB255_257.out _).trans (hHeld.2.2.2.2.1)), ((cell_far (p := ⟨gb257, _, none⟩) NB255_257.out _).trans (hHeld.2.2.2.2.2.1)), ((cell_far (p := ⟨gb257, _, none⟩) NB255_257.out _).trans (hHeld.2.2.2.2.2.2))⟩ (fun hHeld => ?_)
   clear hK K
   refine pq_ 14 37 z25 (zo HT_.out (by kernel_rfl)) ?_
   refine ul (i := 15) (N := none) z27 rfl rfl (vn HT_.out (by kernel_rfl)) (by decide) (fun K hK => ?_)
   have hs28 : w26.cell? ⟨gb257, 1, none⟩ = some (.int .i64 0) := (za BK257.out 1).trans rfl
   have hfs28 := zi BK257.out 1
   have hns28_0 := NB255_257.out
   have hms28_0 := NB257_255.out
   refine jv (w1 := ?_) (by rfl) rfl ?_ ?_
   rotate_left
   ·
    go_simp
    rfl
   refine hK.out _ _ ⟨((cell_far (p := ⟨gb257, _, none⟩) NB255_257.out _).trans (hHeld.1)), ((cell_far (p := ⟨gb257, _, none⟩) NB255_257.out _).trans (hHeld.2.1)), ((cell_far (p := ⟨gb257, _, none⟩) NB255_257.out _).trans (hHeld.2.2.1)), ((cell_far (p := ⟨gb257, _, none⟩) NB255_257.out _).trans (hHeld.2.2.2.1)), ((cell_far (p := ⟨gb257, _, none⟩) NB255_257.out _).trans (hHeld.2.2.2.2.1)), ((cell_far (p := ⟨gb257, _, none⟩) NB255_257.out _).trans (hHeld.2.2.2.2.2.1)), ((cell_far (p := ⟨gb257, _, none⟩) NB255_257.out _).trans (hHeld.2.2.2.2.2.2))⟩ (fun hHeld => ?_)
   clear hK K
   refine pq_ 16 5 z29 (zo HT_.out (by kernel_rfl)) ?_
   refine ju (j9 HT_.out (by kernel_rfl)) ?_
   try go_wp2
   go_meet
   case rel => exact ⟨_, (0), (t260), (a0_1), (a0_2), (0), (0), (0), (by first | rfl | (simp; done) | (simp [*]; done)), (by first | rfl | (simp; done) | (simp [*]; done)), H', ⟨by first | omega | exact Nat.le_refl _⟩, ⟨by (with_reducible repeat (first | refine ze ?_ _ | refine zf ?_ | refine zc ?_ _)); refine zp ?_ NB255_257.out _; (with_reducible repeat (first | refine ze ?_ _ | refine zf ?_ | refine zc ?_ _)); refine zp ?_ NB255_257.out _; (with_reducible repeat (first | refine ze ?_ _ | refine zf ?_ | refine zc ?_ _)); exact BK255.out⟩, ⟨by (with_reducible repeat (first | refine ze ?_ _ | refine zf ?_ | refine zc ?_ _)); refine zx (cs := #[.int .i64 a0_0, .int .i64 0, .int .i64 a0_2, .int .i64 0, .int .i64 0, .int .i64 0, .slice none 0 0]) ?_ 1 _ rfl; (with_reducible repeat (first | refine ze ?_ _ | refine zf ?_ | refine zc ?_ _)); refine zx (cs := #[.int .i64 a0_0, .int .i64 0, .int .i64 0, .int .i64 0, .int .i64 0, .int .i64 0, .slice none 0 0]) ?_ 2 _ rfl; (with_reducible repeat (first | refine ze ?_ _ | refine zf ?_ | refine zc ?_ _)); exact BK257.out⟩, ⟨by repeat (first | (with_reducible first | exact HB.out | apply z8 | apply z6 | apply z7 | refine zb ?_ GE255.out | refine zb ?_ GE257.out) | exact HB.out)⟩⟩
  rw [if_neg c21] at H
  have c21b0 : (a0_0 == 2) = false := beq_eq_false_iff_ne.mpr c21
  have c21b1 : (a0_0 != 2) = true := bne_iff_ne.mpr c21
  by_cases c33 : a0_0 = 3
  ·
   rw [if_pos c33] at H
   have c33b0 : (a0_0 == 3) = true := beq_iff_eq.mpr c33
   have c33b1 : (a0_0 != 3) = false := bne_eq_false_iff_eq.mpr c33
   clear c33
   replace H := Option.bind_eq_some_iff.mp H
   obtain ⟨t261, A340, H⟩ := H
   replace H : (if t261 = true then ((ur.f a0_3).bind fun t262 => (zq.j0 k 0 t262 a0_0 a0_1 a0_2 a0_3 a0_4 a0_5 l0_6 a0_0 a0_1 0 a0_3 0 0)) else (zq.j0 k 0 false a0_0 a0_1 a0_2 a0_3 a0_4 a0_5 l0_6 a0_0 a0_1 0 a0_3 0 0)) = some r := H
   have A34 := Aside0.mk A340
   clear A340
   by_cases c35 : t261 = true
   rotate_left
   ·
    replace c35 := Bool.eq_false_iff.mpr c35
    subst c35
    have H1 : (zq.j0 k 0 false a0_0 a0_1 a0_2 a0_3 a0_4 a0_5 l0_6 a0_0 a0_1 0 a0_3 0 0) = some r := by rw [if_neg (show ¬ (false = true) by decide)] at H; exact H
    clear H
    have H := H1
    clear H1
    have H' := Aside0.mk H
    clear H
    try go_wp2
    generalize hw_ : (((((((w12.setCell ⟨gb257, 0, none⟩ (.int .i64 a0_0)).setCell ⟨gb257, 1, none⟩ (.int .i64 0)).setCell ⟨gb257, 2, none⟩ (.int .i64 0)).setCell ⟨gb257, 3, none⟩ (.int .i64 0)).setCell ⟨gb257, 4, none⟩ (.int .i64 0)).setCell ⟨gb257, 5, none⟩ (.int .i64 0)).setCell ⟨gb257, 6, none⟩ (.slice none 0 0)) = w41
    have n0_ : Aside0 (w41.heap[gb255]? = some (.cells #[.int .i64 a0_0, .int .i64 a0_1, .int .i64 a0_2, .int .i64 a0_3, .int .i64 a0_4, .int .i64 a0_5, .slice A0_6 l0_6.length c0_6] 45 (0, 0))) := by rw [← hw_]; exact ⟨(zp (zp (zp (zp (zp (zp (zp BK255.out NB255_257.out _) NB255_257.out _) NB255_257.out _) NB255_257.out _) NB255_257.out _) NB255_257.out _) NB255_257.out _)⟩
    have n1_ : Aside0 (w41.heap[gb257]? = some (.cells #[.int .i64 a0_0, .int .i64 0, .int .i64 0, .int .i64 0, .int .i64 0, .int .i64 0, .slice none 0 0] 45 (0, 0))) := by rw [← hw_]; exact ⟨(z0d BK257.out _ _ _ _ _ _ _)⟩
    have n2_ : Aside0 (Below w.heap.size w w41) := by rw [← hw_]; exact ⟨by repeat (first | (with_reducible first | exact HB.out | apply z8 | apply z6 | apply z7 | refine zb ?_ GE255.out | refine zb ?_ GE257.out) | exact HB.out)⟩
    clear hw_
    (try clear BK255)
    (try clear BK257)
    (try clear HB)
    have BK255 := n0_
    have BK257 := n1_
    have HB := n2_
    clear n0_ n1_ n2_
    have n0_ := Aside0.mk (zf BK255.out)
    have n1_ := Aside0.mk (zf BK257.out)
    have n2_ := Aside0.mk (z7 HB.out)
    clear BK255
    clear BK257
    clear HB
    have BK255 := n0_
    have BK257 := n1_
    have HB := n2_
    clear n0_ n1_ n2_
    refine ji (n := 17) (S := fun w' => w'.cell? ⟨gb255, 0, none⟩ = some (.int .i64 a0_0) ∧ w'.cell? ⟨gb255, 1, none⟩ = some (.int .i64 a0_1) ∧ w'.cell? ⟨gb255, 2, none⟩ = some (.int .i64 a0_2) ∧ w'.cell? ⟨gb255, 3, none⟩ = some (.int .i64 a0_3) ∧ w'.cell? ⟨gb255, 4, none⟩ = some (.int .i64 a0_4) ∧ w'.cell? ⟨gb255, 5, none⟩ = some (.int .i64 a0_5) ∧ w'.cell? ⟨gb255, 6, none⟩ = some (.slice A0_6 l0_6.length c0_6)) (ds := []) z3f (by kernel_rfl) rfl rfl ⟨(za BK255.out 0).trans rfl, (za BK255.out 1).trans rfl, (za BK255.out 2).trans rfl, (za BK255.out 3).trans rfl, (za BK255.out 4).trans rfl, (za BK255.out 5).trans rfl, (za BK255.out 6).trans rfl⟩ (fun hHeld => ?_); refine uy zq.tab12 zq.bits12 (fun HT_ HW_ => ?_)
    generalize w41.drew = w42 at BK255 BK257 HB hHeld ⊢
    refine pq_ 0 40 z3g (zo HT_.out (by kernel_rfl)) ?_
    refine pq_ 2 42 z3h (zo HT_.out (by kernel_rfl)) ?_
    refine pq_ 4 44 z3i (zo HT_.out (by kernel_rfl)) ?_
    refine tq_ 1 41 z3j (yj HT_.out HW_.out (by kernel_rfl)) hHeld ?_
    refine pq_ 12 52 z3k (zo HT_.out (by kernel_rfl)) ?_
    refine tq_ 3 43 z3l (yj HT_.out HW_.out (by kernel_rfl)) hHeld ?_
    refine tq_ 5 45 z3m (yj HT_.out HW_.out (by kernel_rfl)) hHeld ?_
    refine ul (i := 6) (N := some 46) z3n rfl rfl (vn HT_.out (by kernel_rfl)) (by decide) (fun K hK => ?_)
    refine j5 Try.func72 (by kernel_rfl) rfl #[.int .i64 a0_1] (by rfl) rfl rfl (by (try simp only [List.map_toArray, List.map_cons, List.map_nil]); first | done | rfl | (simp only [List.length_drop, List.length_take]; rfl)) ?_
    with_reducible refine (uq.calls a0_1 false _ A34.out).mono ?_
    rintro e w' ⟨rfl, ⟨nd, rfl⟩⟩
    refine ⟨_, rfl, ?_⟩
    refine hK.out _ _ ⟨(za BK255.out 0).trans rfl, (za BK255.out 1).trans rfl, (za BK255.out 2).trans rfl, (za BK255.out 3).trans rfl, (za BK255.out 4).trans rfl, (za BK255.out 5).trans rfl, (za BK255.out 6).trans rfl⟩ (fun hHeld => ?_)
    clear hK K
    refine um (a' := ?_) ?_ ?_
    rotate_left
    ·
     show Act.put _ (some 46) _ = _
     simp only [Act.put, List.setIfInBounds_toArray, List.set_cons_zero, List.set_cons_succ, vw, ud]
     rfl
    refine pq_ 7 47 z3o (zo HT_.out (by kernel_rfl)) ?_
    refine uf 8 48 z1w (zo HT_.out (by kernel_rfl)) ?_
    refine uf 9 49 z1x (zo HT_.out (by kernel_rfl)) ?_
    refine uf 10 50 z1y (zo HT_.out (by kernel_rfl)) ?_
    refine pq_ 11 51 z1z (zo HT_.out (by kernel_rfl)) ?_
    refine ul (i := 13) (N := none) z22 rfl rfl (vn HT_.out (by kernel_rfl)) (by decide) (fun K hK => ?_)
    have hs43 : w42.cell? ⟨gb257, 1, none⟩ = some (.int .i64 0) := (za BK257.out 1).trans rfl
    have hfs43 := zi BK257.out 1
    have hns43_0 := NB255_257.out
    have hms43_0 := NB257_255.out
    refine jv (w1 := ?_) (by rfl) rfl ?_ ?_
    rotate_left
    ·
     go_simp
     rfl
    refine hK.out _ _ ⟨((cell_far (p := ⟨gb257, _, none⟩) NB255_257.out _).trans (hHeld.1)), ((cell_far (p := ⟨gb257, _, none⟩) NB255_257.out _).trans (hHeld.2.1)), ((cell_far (p := ⟨gb257, _, none⟩) NB255_257.out _).trans (hHeld.2.2.1)), ((cell_far (p := ⟨gb257, _, none⟩) NB255_257.out _).trans (hHeld.2.2.2.1)), ((cell_far (p := ⟨gb257, _, none⟩) NB255_257.out _).trans (hHeld.2.2.2.2.1)), ((cell_far (p := ⟨gb257, _, none⟩) NB255_257.out _).trans (hHeld.2.2.2.2.2.1)), ((cell_far (p := ⟨gb257, _, none⟩) NB255_257.out _).trans (hHeld.2.2.2.2.2.2))⟩ (fun hHeld => ?_)
    clear hK K
    refine pq_ 14 53 z25 (zo HT_.out (by kernel_rfl)) ?_
    refine ul (i := 15) (N := none) z27 rfl rfl (vn HT_.out (by kernel_rfl)) (by decide) (fun K hK => ?_)
    have hs44 : w42.cell? ⟨gb257, 3, none⟩ = some (.int .i64 0) := (za BK257.out 3).trans rfl
    have hfs44 := zi BK257.out 3
    have hns44_0 := NB255_257.out
    have hms44_0 := NB257_255.out
    refine jv (w1 := ?_) (by rfl) rfl ?_ ?_
    rotate_left
    ·
     go_simp
     rfl
    refine hK.out _ _ ⟨((cell_far (p := ⟨gb257, _, none⟩) NB255_257.out _).trans (hHeld.1)), ((cell_far (p := ⟨gb257, _, none⟩) NB255_257.out _).trans (hHeld.2.1)), ((cell_far (p := ⟨gb257, _, none⟩) NB255_257.out _).trans (hHeld.2.2.1)), ((cell_far (p := ⟨gb257, _, none⟩) NB255_257.out _).trans (hHeld.2.2.2.1)), ((cell_far (p := ⟨gb257, _, none⟩) NB255_257.out _).trans (hHeld.2.2.2.2.1)), ((cell_far (p := ⟨gb257, _, none⟩) NB255_257.out _).trans (hHeld.2.2.2.2.2.1)), ((cell_far (p := ⟨gb257, _, none⟩) NB255_257.out _).trans (hHeld.2.2.2.2.2.2))⟩ (fun hHeld => ?_)
    clear hK K
    refine pq_ 16 5 z29 (zo HT_.out (by kernel_rfl)) ?_
    refine ju (j9 HT_.out (by kernel_rfl)) ?_
    try go_wp2
    go_meet
    case rel => exact ⟨_, (0), (false), (a0_1), (0), (a0_3), (0), (0), (by first | rfl | (simp; done) | (simp [*]; done)), (by first | rfl | (simp; done) | (simp [*]; done)), H', ⟨by first | omega | exact Nat.le_refl _⟩, ⟨by (with_reducible repeat (first | refine ze ?_ _ | refine zf ?_ | refine zc ?_ _)); refine zp ?_ NB255_257.out _; (with_reducible repeat (first | refine ze ?_ _ | refine zf ?_ | refine zc ?_ _)); refine zp ?_ NB255_257.out _; (with_reducible repeat (first | refine ze ?_ _ | refine zf ?_ | refine zc ?_ _)); exact BK255.out⟩, ⟨by (with_reducible repeat (first | refine ze ?_ _ | refine zf ?_ | refine zc ?_ _)); refine zx (cs := #[.int .i64 a0_0, .int .i64 a0_1, .int .i64 0, .int .i64 0, .int .i64 0, .int .i64 0, .slice none 0 0]) ?_ 3 _ rfl; (with_reducible repeat (first | refine ze ?_ _ | refine zf ?_ | refine zc ?_ _)); refine zx (cs := #[.int .i64 a0_0, .int .i64 0, .int .i64 0, .int .i64 0, .int .i64 0, .int .i64 0, .slice none 0 0]) ?_ 1 _ rfl; (with_reducible repeat (first | refine ze ?_ _ | refine zf ?_ | refine zc ?_ _)); exact BK257.out⟩, ⟨by repeat (first | (with_reducible first | exact HB.out | apply z8 | apply z6 | apply z7 | refine zb ?_ GE255.out | refine zb ?_ GE257.out) | exact HB.out)⟩⟩
   subst c35
   have H1 : ((ur.f a0_3).bind fun t262 => (zq.j0 k 0 t262 a0_0 a0_1 a0_2 a0_3 a0_4 a0_5 l0_6 a0_0 a0_1 0 a0_3 0 0)) = some r := by rw [if_pos rfl] at H; exact H
   clear H
   have H := H1
   clear H1
   replace H := Option.bind_eq_some_iff.mp H
   obtain ⟨t262, A360, H⟩ := H
   replace H : (zq.j0 k 0 t262 a0_0 a0_1 a0_2 a0_3 a0_4 a0_5 l0_6 a0_0 a0_1 0 a0_3 0 0) = some r := H
   have A36 := Aside0.mk A360
   clear A360
   have H' := Aside0.mk H
   clear H
   try go_wp2
   generalize hw_ : (((((((w12.setCell ⟨gb257, 0, none⟩ (.int .i64 a0_0)).setCell ⟨gb257, 1, none⟩ (.int .i64 0)).setCell ⟨gb257, 2, none⟩ (.int .i64 0)).setCell ⟨gb257, 3, none⟩ (.int .i64 0)).setCell ⟨gb257, 4, none⟩ (.int .i64 0)).setCell ⟨gb257, 5, none⟩ (.int .i64 0)).setCell ⟨gb257, 6, none⟩ (.slice none 0 0)) = w37
   have n0_ : Aside0 (w37.heap[gb255]? = some (.cells #[.int .i64 a0_0, .int .i64 a0_1, .int .i64 a0_2, .int .i64 a0_3, .int .i64 a0_4, .int .i64 a0_5, .slice A0_6 l0_6.length c0_6] 45 (0, 0))) := by rw [← hw_]; exact ⟨(zp (zp (zp (zp (zp (zp (zp BK255.out NB255_257.out _) NB255_257.out _) NB255_257.out _) NB255_257.out _) NB255_257.out _) NB255_257.out _) NB255_257.out _)⟩
   have n1_ : Aside0 (w37.heap[gb257]? = some (.cells #[.int .i64 a0_0, .int .i64 0, .int .i64 0, .int .i64 0, .int .i64 0, .int .i64 0, .slice none 0 0] 45 (0, 0))) := by rw [← hw_]; exact ⟨(z0d BK257.out _ _ _ _ _ _ _)⟩
   have n2_ : Aside0 (Below w.heap.size w w37) := by rw [← hw_]; exact ⟨by repeat (first | (with_reducible first | exact HB.out | apply z8 | apply z6 | apply z7 | refine zb ?_ GE255.out | refine zb ?_ GE257.out) | exact HB.out)⟩
   clear hw_
   (try clear BK255)
   (try clear BK257)
   (try clear HB)
   have BK255 := n0_
   have BK257 := n1_
   have HB := n2_
   clear n0_ n1_ n2_
   have n0_ := Aside0.mk (zf BK255.out)
   have n1_ := Aside0.mk (zf BK257.out)
   have n2_ := Aside0.mk (z7 HB.out)
   clear BK255
   clear BK257
   clear HB
   have BK255 := n0_
   have BK257 := n1_
   have HB := n2_
   clear n0_ n1_ n2_
   refine ji (n := 17) (S := fun w' => w'.cell? ⟨gb255, 0, none⟩ = some (.int .i64 a0_0) ∧ w'.cell? ⟨gb255, 1, none⟩ = some (.int .i64 a0_1) ∧ w'.cell? ⟨gb255, 2, none⟩ = some (.int .i64 a0_2) ∧ w'.cell? ⟨gb255, 3, none⟩ = some (.int .i64 a0_3) ∧ w'.cell? ⟨gb255, 4, none⟩ = some (.int .i64 a0_4) ∧ w'.cell? ⟨gb255, 5, none⟩ = some (.int .i64 a0_5) ∧ w'.cell? ⟨gb255, 6, none⟩ = some (.slice A0_6 l0_6.length c0_6)) (ds := []) z3f (by kernel_rfl) rfl rfl ⟨(za BK255.out 0).trans rfl, (za BK255.out 1).trans rfl, (za BK255.out 2).trans rfl, (za BK255.out 3).trans rfl, (za BK255.out 4).trans rfl, (za BK255.out 5).trans rfl, (za BK255.out 6).trans rfl⟩ (fun hHeld => ?_); refine uy zq.tab12 zq.bits12 (fun HT_ HW_ => ?_)
   generalize w37.drew = w38 at BK255 BK257 HB hHeld ⊢
   refine pq_ 0 40 z3g (zo HT_.out (by kernel_rfl)) ?_
   refine pq_ 2 42 z3h (zo HT_.out (by kernel_rfl)) ?_
   refine pq_ 4 44 z3i (zo HT_.out (by kernel_rfl)) ?_
   refine tq_ 1 41 z3j (yj HT_.out HW_.out (by kernel_rfl)) hHeld ?_
   refine pq_ 12 52 z3k (zo HT_.out (by kernel_rfl)) ?_
   refine tq_ 3 43 z3l (yj HT_.out HW_.out (by kernel_rfl)) hHeld ?_
   refine tq_ 5 45 z3m (yj HT_.out HW_.out (by kernel_rfl)) hHeld ?_
   refine ul (i := 6) (N := some 46) z3n rfl rfl (vn HT_.out (by kernel_rfl)) (by decide) (fun K hK => ?_)
   refine j5 Try.func72 (by kernel_rfl) rfl #[.int .i64 a0_1] (by rfl) rfl rfl (by (try simp only [List.map_toArray, List.map_cons, List.map_nil]); first | done | rfl | (simp only [List.length_drop, List.length_take]; rfl)) ?_
   with_reducible refine (uq.calls a0_1 true _ A34.out).mono ?_
   rintro e w' ⟨rfl, ⟨nd, rfl⟩⟩
   refine ⟨_, rfl, ?_⟩
   refine hK.out _ _ ⟨(za BK255.out 0).trans rfl, (za BK255.out 1).trans rfl, (za BK255.out 2).trans rfl, (za BK255.out 3).trans rfl, (za BK255.out 4).trans rfl, (za BK255.out 5).trans rfl, (za BK255.out 6).trans rfl⟩ (fun hHeld => ?_)
   clear hK K
   refine um (a' := ?_) ?_ ?_
   rotate_left
   ·
    show Act.put _ (some 46) _ = _
    simp only [Act.put, List.setIfInBounds_toArray, List.set_cons_zero, List.set_cons_succ, vw, ud]
    rfl
   refine pq_ 7 47 z3o (zo HT_.out (by kernel_rfl)) ?_
   refine pq_ 8 48 z1w (zo HT_.out (by kernel_rfl)) ?_
   refine tq_ 9 49 z1x (yj HT_.out HW_.out (by kernel_rfl)) hHeld ?_
   refine ul (i := 10) (N := some 50) z1y rfl rfl (vn HT_.out (by kernel_rfl)) (by decide) (fun K hK => ?_)
   refine j5 Try.func73 (by kernel_rfl) rfl #[.int .i64 a0_3] (by rfl) rfl rfl (by (try simp only [List.map_toArray, List.map_cons, List.map_nil]); first | done | rfl | (simp only [List.length_drop, List.length_take]; rfl)) ?_
   with_reducible refine (ur.calls a0_3 t262 _ A36.out).mono ?_
   rintro e w' ⟨rfl, ⟨nd, rfl⟩⟩
   refine ⟨_, rfl, ?_⟩
   refine hK.out _ _ ⟨(za BK255.out 0).trans rfl, (za BK255.out 1).trans rfl, (za BK255.out 2).trans rfl, (za BK255.out 3).trans rfl, (za BK255.out 4).trans rfl, (za BK255.out 5).trans rfl, (za BK255.out 6).trans rfl⟩ (fun hHeld => ?_)
   clear hK K
   refine um (a' := ?_) ?_ ?_
   rotate_left
   ·
    show Act.put _ (some 50) _ = _
    simp only [Act.put, List.setIfInBounds_toArray, List.set_cons_zero, List.set_cons_succ, vw, ud]
    rfl
   refine pq_ 11 51 z1z (zo HT_.out (by kernel_rfl)) ?_
   refine ul (i := 13) (N := none) z22 rfl rfl (vn HT_.out (by kernel_rfl)) (by decide) (fun K hK => ?_)
   have hs39 : w38.cell? ⟨gb257, 1, none⟩ = some (.int .i64 0) := (za BK257.out 1).trans rfl
   have hfs39 := zi BK257.out 1
   have hns39_0 := NB255_257.out
   have hms39_0 := NB257_255.out
   refine jv (w1 := ?_) (by rfl) rfl ?_ ?_
   rotate_left
   ·
    go_simp
    rfl
   refine hK.out _ _ ⟨((cell_far (p := ⟨gb257, _, none⟩) NB255_257.out _).trans (hHeld.1)), ((cell_far (p := ⟨gb257, _, none⟩) NB255_257.out _).trans (hHeld.2.1)), ((cell_far (p := ⟨gb257, _, none⟩) NB255_257.out _).trans (hHeld.2.2.1)), ((cell_far (p := ⟨gb257, _, none⟩) NB255_257.out _).trans (hHeld.2.2.2.1)), ((cell_far (p := ⟨gb257, _, none⟩) NB255_257.out _).trans (hHeld.2.2.2.2.1)), ((cell_far (p := ⟨gb257, _, none⟩) NB255_257.out _).trans (hHeld.2.2.2.2.2.1)), ((cell_far (p := ⟨gb257, _, none⟩) NB255_257.out _).trans (hHeld.2.2.2.2.2.2))⟩ (fun hHeld => ?_)
   clear hK K
   refine pq_ 14 53 z25 (zo HT_.out (by kernel_rfl)) ?_
   refine ul (i := 15) (N := none) z27 rfl rfl (vn HT_.out (by kernel_rfl)) (by decide) (fun K hK => ?_)
   have hs40 : w38.cell? ⟨gb257, 3, none⟩ = some (.int .i64 0) := (za BK257.out 3).trans rfl
   have hfs40 := zi BK257.out 3
   have hns40_0 := NB255_257.out
   have hms40_0 := NB257_255.out
   refine jv (w1 := ?_) (by rfl) rfl ?_ ?_
   rotate_left
   ·
    go_simp
    rfl
   refine hK.out _ _ ⟨((cell_far (p := ⟨gb257, _, none⟩) NB255_257.out _).trans (hHeld.1)), ((cell_far (p := ⟨gb257, _, none⟩) NB255_257.out _).trans (hHeld.2.1)), ((cell_far (p := ⟨gb257, _, none⟩) NB255_257.out _).trans (hHeld.2.2.1)), ((cell_far (p := ⟨gb257, _, none⟩) NB255_257.out _).trans (hHeld.2.2.2.1)), ((cell_far (p := ⟨gb257, _, none⟩) NB255_257.out _).trans (hHeld.2.2.2.2.1)), ((cell_far (p := ⟨gb257, _, none⟩) NB255_257.out _).trans (hHeld.2.2.2.2.2.1)), ((cell_far (p := ⟨gb257, _, none⟩) NB255_257.out _).trans (hHeld.2.2.2.2.2.2))⟩ (fun hHeld => ?_)
   clear hK K
   refine pq_ 16 5 z29 (zo HT_.out (by kernel_rfl)) ?_
   refine ju (j9 HT_.out (by kernel_rfl)) ?_
   try go_wp2
   go_meet
   case rel => exact ⟨_, (0), (t262), (a0_1), (0), (a0_3), (0), (0), (by first | rfl | (simp; done) | (simp [*]; done)), (by first | rfl | (simp; done) | (simp [*]; done)), H', ⟨by first | omega | exact Nat.le_refl _⟩, ⟨by (with_reducible repeat (first | refine ze ?_ _ | refine zf ?_ | refine zc ?_ _)); refine zp ?_ NB255_257.out _; (with_reducible repeat (first | refine ze ?_ _ | refine zf ?_ | refine zc ?_ _)); refine zp ?_ NB255_257.out _; (with_reducible repeat (first | refine ze ?_ _ | refine zf ?_ | refine zc ?_ _)); exact BK255.out⟩, ⟨by (with_reducible repeat (first | refine ze ?_ _ | refine zf ?_ | refine zc ?_ _)); refine zx (cs := #[.int .i64 a0_0, .int .i64 a0_1, .int .i64 0, .int .i64 0, .int .i64 0, .int .i64 0, .slice none 0 0]) ?_ 3 _ rfl; (with_reducible repeat (first | refine ze ?_ _ | refine zf ?_ | refine zc ?_ _)); refine zx (cs := #[.int .i64 a0_0, .int .i64 0, .int .i64 0, .int .i64 0, .int .i64 0, .int .i64 0, .slice none 0 0]) ?_ 1 _ rfl; (with_reducible repeat (first | refine ze ?_ _ | refine zf ?_ | refine zc ?_ _)); exact BK257.out⟩, ⟨by repeat (first | (with_reducible first | exact HB.out | apply z8 | apply z6 | apply z7 | refine zb ?_ GE255.out | refine zb ?_ GE257.out) | exact HB.out)⟩⟩
  rw [if_neg c33] at H
  have c33b0 : (a0_0 == 3) = false := beq_eq_false_iff_ne.mpr c33
  have c33b1 : (a0_0 != 3) = true := bne_iff_ne.mpr c33
  by_cases c45 : a0_0 = 4
  ·
   rw [if_pos c45] at H
   have c45b0 : (a0_0 == 4) = true := beq_iff_eq.mpr c45
   have c45b1 : (a0_0 != 4) = false := bne_eq_false_iff_eq.mpr c45
   clear c45
   replace H := Option.bind_eq_some_iff.mp H
   obtain ⟨t263, A460, H⟩ := H
   replace H : (if t263 = true then ((ur.f a0_3).bind fun t264 => (zq.j0 k 1 t264 a0_0 a0_1 a0_2 a0_3 a0_4 a0_5 l0_6 a0_0 a0_1 0 a0_3 0 0)) else (zq.j0 k 1 false a0_0 a0_1 a0_2 a0_3 a0_4 a0_5 l0_6 a0_0 a0_1 0 a0_3 0 0)) = some r := H
   have A46 := Aside0.mk A460
   clear A460
   by_cases c47 : t263 = true
   rotate_left
   ·
    replace c47 := Bool.eq_false_iff.mpr c47
    subst c47
    have H1 : (zq.j0 k 1 false a0_0 a0_1 a0_2 a0_3 a0_4 a0_5 l0_6 a0_0 a0_1 0 a0_3 0 0) = some r := by rw [if_neg (show ¬ (false = true) by decide)] at H; exact H
    clear H
    have H := H1
    clear H1
    have H' := Aside0.mk H
    clear H
    try go_wp2
    generalize hw_ : (((((((w12.setCell ⟨gb257, 0, none⟩ (.int .i64 a0_0)).setCell ⟨gb257, 1, none⟩ (.int .i64 0)).setCell ⟨gb257, 2, none⟩ (.int .i64 0)).setCell ⟨gb257, 3, none⟩ (.int .i64 0)).setCell ⟨gb257, 4, none⟩ (.int .i64 0)).setCell ⟨gb257, 5, none⟩ (.int .i64 0)).setCell ⟨gb257, 6, none⟩ (.slice none 0 0)) = w53
    have n0_ : Aside0 (w53.heap[gb255]? = some (.cells #[.int .i64 a0_0, .int .i64 a0_1, .int .i64 a0_2, .int .i64 a0_3, .int .i64 a0_4, .int .i64 a0_5, .slice A0_6 l0_6.length c0_6] 45 (0, 0))) := by rw [← hw_]; exact ⟨(zp (zp (zp (zp (zp (zp (zp BK255.out NB255_257.out _) NB255_257.out _) NB255_257.out _) NB255_257.out _) NB255_257.out _) NB255_257.out _) NB255_257.out _)⟩
    have n1_ : Aside0 (w53.heap[gb257]? = some (.cells #[.int .i64 a0_0, .int .i64 0, .int .i64 0, .int .i64 0, .int .i64 0, .int .i64 0, .slice none 0 0] 45 (0, 0))) := by rw [← hw_]; exact ⟨(z0d BK257.out _ _ _ _ _ _ _)⟩
    have n2_ : Aside0 (Below w.heap.size w w53) := by rw [← hw_]; exact ⟨by repeat (first | (with_reducible first | exact HB.out | apply z8 | apply z6 | apply z7 | refine zb ?_ GE255.out | refine zb ?_ GE257.out) | exact HB.out)⟩
    clear hw_
    (try clear BK255)
    (try clear BK257)
    (try clear HB)
    have BK255 := n0_
    have BK257 := n1_
    have HB := n2_
    clear n0_ n1_ n2_
    have n0_ := Aside0.mk (zf BK255.out)
    have n1_ := Aside0.mk (zf BK257.out)
    have n2_ := Aside0.mk (z7 HB.out)
    clear BK255
    clear BK257
    clear HB
    have BK255 := n0_
    have BK257 := n1_
    have HB := n2_
    clear n0_ n1_ n2_
    refine ji (n := 17) (S := fun w' => w'.cell? ⟨gb255, 0, none⟩ = some (.int .i64 a0_0) ∧ w'.cell? ⟨gb255, 1, none⟩ = some (.int .i64 a0_1) ∧ w'.cell? ⟨gb255, 2, none⟩ = some (.int .i64 a0_2) ∧ w'.cell? ⟨gb255, 3, none⟩ = some (.int .i64 a0_3) ∧ w'.cell? ⟨gb255, 4, none⟩ = some (.int .i64 a0_4) ∧ w'.cell? ⟨gb255, 5, none⟩ = some (.int .i64 a0_5) ∧ w'.cell? ⟨gb255, 6, none⟩ = some (.slice A0_6 l0_6.length c0_6)) (ds := []) z3f (by kernel_rfl) rfl rfl ⟨(za BK255.out 0).trans rfl, (za BK255.out 1).trans rfl, (za BK255.out 2).trans rfl, (za BK255.out 3).trans rfl, (za BK255.out 4).trans rfl, (za BK255.out 5).trans rfl, (za BK255.out 6).trans rfl⟩ (fun hHeld => ?_); refine uy zq.tab14 zq.bits14 (fun HT_ HW_ => ?_)
    generalize w53.drew = w54 at BK255 BK257 HB hHeld ⊢
    refine pq_ 0 56 z3g (zo HT_.out (by kernel_rfl)) ?_
    refine pq_ 2 58 z3h (zo HT_.out (by kernel_rfl)) ?_
    refine pq_ 4 60 z3i (zo HT_.out (by kernel_rfl)) ?_
    refine tq_ 1 57 z3j (yj HT_.out HW_.out (by kernel_rfl)) hHeld ?_
    refine pq_ 12 68 z3k (zo HT_.out (by kernel_rfl)) ?_
    refine tq_ 3 59 z3l (yj HT_.out HW_.out (by kernel_rfl)) hHeld ?_
    refine tq_ 5 61 z3m (yj HT_.out HW_.out (by kernel_rfl)) hHeld ?_
    refine ul (i := 6) (N := some 62) z3n rfl rfl (vn HT_.out (by kernel_rfl)) (by decide) (fun K hK => ?_)
    refine j5 Try.func72 (by kernel_rfl) rfl #[.int .i64 a0_1] (by rfl) rfl rfl (by (try simp only [List.map_toArray, List.map_cons, List.map_nil]); first | done | rfl | (simp only [List.length_drop, List.length_take]; rfl)) ?_
    with_reducible refine (uq.calls a0_1 false _ A46.out).mono ?_
    rintro e w' ⟨rfl, ⟨nd, rfl⟩⟩
    refine ⟨_, rfl, ?_⟩
    refine hK.out _ _ ⟨(za BK255.out 0).trans rfl, (za BK255.out 1).trans rfl, (za BK255.out 2).trans rfl, (za BK255.out 3).trans rfl, (za BK255.out 4).trans rfl, (za BK255.out 5).trans rfl, (za BK255.out 6).trans rfl⟩ (fun hHeld => ?_)
    clear hK K
    refine um (a' := ?_) ?_ ?_
    rotate_left
    ·
     show Act.put _ (some 62) _ = _
     simp only [Act.put, List.setIfInBounds_toArray, List.set_cons_zero, List.set_cons_succ, vw, ud]
     rfl
    refine pq_ 7 63 z3o (zo HT_.out (by kernel_rfl)) ?_
    refine uf 8 64 z1w (zo HT_.out (by kernel_rfl)) ?_
    refine uf 9 65 z1x (zo HT_.out (by kernel_rfl)) ?_
    refine uf 10 66 z1y (zo HT_.out (by kernel_rfl)) ?_
    refine pq_ 11 67 z1z (zo HT_.out (by kernel_rfl)) ?_
    refine ul (i := 13) (N := none) z22 rfl rfl (vn HT_.out (by kernel_rfl)) (by decide) (fun K hK => ?_)
    have hs55 : w54.cell? ⟨gb257, 1, none⟩ = some (.int .i64 0) := (za BK257.out 1).trans rfl
    have hfs55 := zi BK257.out 1
    have hns55_0 := NB255_257.out
    have hms55_0 := NB257_255.out
    refine jv (w1 := ?_) (by rfl) rfl ?_ ?_
    rotate_left
    ·
     go_simp
     rfl
    refine hK.out _ _ ⟨((cell_far (p := ⟨gb257, _, none⟩) NB255_257.out _).trans (hHeld.1)), ((cell_far (p := ⟨gb257, _, none⟩) NB255_257.out _).trans (hHeld.2.1)), ((cell_far (p := ⟨gb257, _, none⟩) NB255_257.out _).trans (hHeld.2.2.1)), ((cell_far (p := ⟨gb257, _, none⟩) NB255_257.out _).trans (hHeld.2.2.2.1)), ((cell_far (p := ⟨gb257, _, none⟩) NB255_257.out _).trans (hHeld.2.2.2.2.1)), ((cell_far (p := ⟨gb257, _, none⟩) NB255_257.out _).trans (hHeld.2.2.2.2.2.1)), ((cell_far (p := ⟨gb257, _, none⟩) NB255_257.out _).trans (hHeld.2.2.2.2.2.2))⟩ (fun hHeld => ?_)
    clear hK K
    refine pq_ 14 69 z25 (zo HT_.out (by kernel_rfl)) ?_
    refine ul (i := 15) (N := none) z27 rfl rfl (vn HT_.out (by kernel_rfl)) (by decide) (fun K hK => ?_)
    have hs56 : w54.cell? ⟨gb257, 3, none⟩ = some (.int .i64 0) := (za BK257.out 3).trans rfl
    have hfs56 := zi BK257.out 3
    have hns56_0 := NB255_257.out
    have hms56_0 := NB257_255.out
    refine jv (w1 := ?_) (by rfl) rfl ?_ ?_
    rotate_left
    ·
     go_simp
     rfl
    refine hK.out _ _ ⟨((cell_far (p := ⟨gb257, _, none⟩) NB255_257.out _).trans (hHeld.1)), ((cell_far (p := ⟨gb257, _, none⟩) NB255_257.out _).trans (hHeld.2.1)), ((cell_far (p := ⟨gb257, _, none⟩) NB255_257.out _).trans (hHeld.2.2.1)), ((cell_far (p := ⟨gb257, _, none⟩) NB255_257.out _).trans (hHeld.2.2.2.1)), ((cell_far (p := ⟨gb257, _, none⟩) NB255_257.out _).trans (hHeld.2.2.2.2.1)), ((cell_far (p := ⟨gb257, _, none⟩) NB255_257.out _).trans (hHeld.2.2.2.2.2.1)), ((cell_far (p := ⟨gb257, _, none⟩) NB255_257.out _).trans (hHeld.2.2.2.2.2.2))⟩ (fun hHeld => ?_)
    clear hK K
    refine pq_ 16 5 z29 (zo HT_.out (by kernel_rfl)) ?_
    refine ju (j9 HT_.out (by kernel_rfl)) ?_
    try go_wp2
    go_meet
    case rel => exact ⟨_, (1), (false), (a0_1), (0), (a0_3), (0), (0), (by first | rfl | (simp; done) | (simp [*]; done)), (by first | rfl | (simp; done) | (simp [*]; done)), H', ⟨by first | omega | exact Nat.le_refl _⟩, ⟨by (with_reducible repeat (first | refine ze ?_ _ | refine zf ?_ | refine zc ?_ _)); refine zp ?_ NB255_257.out _; (with_reducible repeat (first | refine ze ?_ _ | refine zf ?_ | refine zc ?_ _)); refine zp ?_ NB255_257.out _; (with_reducible repeat (first | refine ze ?_ _ | refine zf ?_ | refine zc ?_ _)); exact BK255.out⟩, ⟨by (with_reducible repeat (first | refine ze ?_ _ | refine zf ?_ | refine zc ?_ _)); refine zx (cs := #[.int .i64 a0_0, .int .i64 a0_1, .int .i64 0, .int .i64 0, .int .i64 0, .int .i64 0, .slice none 0 0]) ?_ 3 _ rfl; (with_reducible repeat (first | refine ze ?_ _ | refine zf ?_ | refine zc ?_ _)); refine zx (cs := #[.int .i64 a0_0, .int .i64 0, .int .i64 0, .int .i64 0, .int .i64 0, .int .i64 0, .slice none 0 0]) ?_ 1 _ rfl; (with_reducible repeat (first | refine ze ?_ _ | refine zf ?_ | refine zc ?_ _)); exact BK257.out⟩, ⟨by repeat (first | (with_reducible first | exact HB.out | apply z8 | apply z6 | apply z7 | refine zb ?_ GE255.out | refine zb ?_ GE257.out) | exact HB.out)⟩⟩
   subst c47
   have H1 : ((ur.f a0_3).bind fun t264 => (zq.j0 k 1 t264 a0_0 a0_1 a0_2 a0_3 a0_4 a0_5 l0_6 a0_0 a0_1 0 a0_3 0 0)) = some r := by rw [if_pos rfl] at H; exact H
   clear H
   have H := H1
   clear H1
   replace H := Option.bind_eq_some_iff.mp H
   obtain ⟨t264, A480, H⟩ := H
   replace H : (zq.j0 k 1 t264 a0_0 a0_1 a0_2 a0_3 a0_4 a0_5 l0_6 a0_0 a0_1 0 a0_3 0 0) = some r := H
   have A48 := Aside0.mk A480
   clear A480
   have H' := Aside0.mk H
   clear H
   try go_wp2
   generalize hw_ : (((((((w12.setCell ⟨gb257, 0, none⟩ (.int .i64 a0_0)).setCell ⟨gb257, 1, none⟩ (.int .i64 0)).setCell ⟨gb257, 2, none⟩ (.int .i64 0)).setCell ⟨gb257, 3, none⟩ (.int .i64 0)).setCell ⟨gb257, 4, none⟩ (.int .i64 0)).setCell ⟨gb257, 5, none⟩ (.int .i64 0)).setCell ⟨gb257, 6, none⟩ (.slice none 0 0)) = w49
   have n0_ : Aside0 (w49.heap[gb255]? = some (.cells #[.int .i64 a0_0, .int .i64 a0_1, .int .i64 a0_2, .int .i64 a0_3, .int .i64 a0_4, .int .i64 a0_5, .slice A0_6 l0_6.length c0_6] 45 (0, 0))) := by rw [← hw_]; exact ⟨(zp (zp (zp (zp (zp (zp (zp BK255.out NB255_257.out _) NB255_257.out _) NB255_257.out _) NB255_257.out _) NB255_257.out _) NB255_257.out _) NB255_257.out _)⟩
   have n1_ : Aside0 (w49.heap[gb257]? = some (.cells #[.int .i64 a0_0, .int .i64 0, .int .i64 0, .int .i64 0, .int .i64 0, .int .i64 0, .slice none 0 0] 45 (0, 0))) := by rw [← hw_]; exact ⟨(z0d BK257.out _ _ _ _ _ _ _)⟩
   have n2_ : Aside0 (Below w.heap.size w w49) := by rw [← hw_]; exact ⟨by repeat (first | (with_reducible first | exact HB.out | apply z8 | apply z6 | apply z7 | refine zb ?_ GE255.out | refine zb ?_ GE257.out) | exact HB.out)⟩
   clear hw_
   (try clear BK255)
   (try clear BK257)
   (try clear HB)
   have BK255 := n0_
   have BK257 := n1_
   have HB := n2_
   clear n0_ n1_ n2_
   have n0_ := Aside0.mk (zf BK255.out)
   have n1_ := Aside0.mk (zf BK257.out)
   have n2_ := Aside0.mk (z7 HB.out)
   clear BK255
   clear BK257
   clear HB
   have BK255 := n0_
   have BK257 := n1_
   have HB := n2_
   clear n0_ n1_ n2_
   refine ji (n := 17) (S := fun w' => w'.cell? ⟨gb255, 0, none⟩ = some (.int .i64 a0_0) ∧ w'.cell? ⟨gb255, 1, none⟩ = some (.int .i64 a0_1) ∧ w'.cell? ⟨gb255, 2, none⟩ = some (.int .i64 a0_2) ∧ w'.cell? ⟨gb255, 3, none⟩ = some (.int .i64 a0_3) ∧ w'.cell? ⟨gb255, 4, none⟩ = some (.int .i64 a0_4) ∧ w'.cell? ⟨gb255, 5, none⟩ = some (.int .i64 a0_5) ∧ w'.cell? ⟨gb255, 6, none⟩ = some (.slice A0_6 l0_6.length c0_6)) (ds := []) z3f (by kernel_rfl) rfl rfl ⟨(za BK255.out 0).trans rfl, (za BK255.out 1).trans rfl, (za BK255.out 2).trans rfl, (za BK255.out 3).trans rfl, (za BK255.out 4).trans rfl, (za BK255.out 5).trans rfl, (za BK255.out 6).trans rfl⟩ (fun hHeld => ?_); refine uy zq.tab14 zq.bits14 (fun HT_ HW_ => ?_)
   generalize w49.drew = w50 at BK255 BK257 HB hHeld ⊢
   refine pq_ 0 56 z3g (zo HT_.out (by kernel_rfl)) ?_
   refine pq_ 2 58 z3h (zo HT_.out (by kernel_rfl)) ?_
   refine pq_ 4 60 z3i (zo HT_.out (by kernel_rfl)) ?_
   refine tq_ 1 57 z3j (yj HT_.out HW_.out (by kernel_rfl)) hHeld ?_
   refine pq_ 12 68 z3k (zo HT_.out (by kernel_rfl)) ?_
   refine tq_ 3 59 z3l (yj HT_.out HW_.out (by kernel_rfl)) hHeld ?_
   refine tq_ 5 61 z3m (yj HT_.out HW_.out (by kernel_rfl)) hHeld ?_
   refine ul (i := 6) (N := some 62) z3n rfl rfl (vn HT_.out (by kernel_rfl)) (by decide) (fun K hK => ?_)
   refine j5 Try.func72 (by kernel_rfl) rfl #[.int .i64 a0_1] (by rfl) rfl rfl (by (try simp only [List.map_toArray, List.map_cons, List.map_nil]); first | done | rfl | (simp only [List.length_drop, List.length_take]; rfl)) ?_
   with_reducible refine (uq.calls a0_1 true _ A46.out).mono ?_
   rintro e w' ⟨rfl, ⟨nd, rfl⟩⟩
   refine ⟨_, rfl, ?_⟩
   refine hK.out _ _ ⟨(za BK255.out 0).trans rfl, (za BK255.out 1).trans rfl, (za BK255.out 2).trans rfl, (za BK255.out 3).trans rfl, (za BK255.out 4).trans rfl, (za BK255.out 5).trans rfl, (za BK255.out 6).trans rfl⟩ (fun hHeld => ?_)
   clear hK K
   refine um (a' := ?_) ?_ ?_
   rotate_left
   ·
    show Act.put _ (some 62) _ = _
    simp only [Act.put, List.setIfInBounds_toArray, List.set_cons_zero, List.set_cons_succ, vw, ud]
    rfl
   refine pq_ 7 63 z3o (zo HT_.out (by kernel_rfl)) ?_
   refine pq_ 8 64 z1w (zo HT_.out (by kernel_rfl)) ?_
   refine tq_ 9 65 z1x (yj HT_.out HW_.out (by kernel_rfl)) hHeld ?_
   refine ul (i := 10) (N := some 66) z1y rfl rfl (vn HT_.out (by kernel_rfl)) (by decide) (fun K hK => ?_)
   refine j5 Try.func73 (by kernel_rfl) rfl #[.int .i64 a0_3] (by rfl) rfl rfl (by (try simp only [List.map_toArray, List.map_cons, List.map_nil]); first | done | rfl | (simp only [List.length_drop, List.length_take]; rfl)) ?_
   with_reducible refine (ur.calls a0_3 t264 _ A48.out).mono ?_
   rintro e w' ⟨rfl, ⟨nd, rfl⟩⟩
   refine ⟨_, rfl, ?_⟩
   refine hK.out _ _ ⟨(za BK255.out 0).trans rfl, (za BK255.out 1).trans rfl, (za BK255.out 2).trans rfl, (za BK255.out 3).trans rfl, (za BK255.out 4).trans rfl, (za BK255.out 5).trans rfl, (za BK255.out 6).trans rfl⟩ (fun hHeld => ?_)
   clear hK K
   refine um (a' := ?_) ?_ ?_
   rotate_left
   ·
    show Act.put _ (some 66) _ = _
    simp only [Act.put, List.setIfInBounds_toArray, List.set_cons_zero, List.set_cons_succ, vw, ud]
    rfl
   refine pq_ 11 67 z1z (zo HT_.out (by kernel_rfl)) ?_
   refine ul (i := 13) (N := none) z22 rfl rfl (vn HT_.out (by kernel_rfl)) (by decide) (fun K hK => ?_)
   have hs51 : w50.cell? ⟨gb257, 1, none⟩ = some (.int .i64 0) := (za BK257.out 1).trans rfl
   have hfs51 := zi BK257.out 1
   have hns51_0 := NB255_257.out
   have hms51_0 := NB257_255.out
   refine jv (w1 := ?_) (by rfl) rfl ?_ ?_
   rotate_left
   ·
    go_simp
    rfl
   refine hK.out _ _ ⟨((cell_far (p := ⟨gb257, _, none⟩) NB255_257.out _).trans (hHeld.1)), ((cell_far (p := ⟨gb257, _, none⟩) NB255_257.out _).trans (hHeld.2.1)), ((cell_far (p := ⟨gb257, _, none⟩) NB255_257.out _).trans (hHeld.2.2.1)), ((cell_far (p := ⟨gb257, _, none⟩) NB255_257.out _).trans (hHeld.2.2.2.1)), ((cell_far (p := ⟨gb257, _, none⟩) NB255_257.out _).trans (hHeld.2.2.2.2.1)), ((cell_far (p := ⟨gb257, _, none⟩) NB255_257.out _).trans (hHeld.2.2.2.2.2.1)), ((cell_far (p := ⟨gb257, _, none⟩) NB255_257.out _).trans (hHeld.2.2.2.2.2.2))⟩ (fun hHeld => ?_)
   clear hK K
   refine pq_ 14 69 z25 (zo HT_.out (by kernel_rfl)) ?_
   refine ul (i := 15) (N := none) z27 rfl rfl (vn HT_.out (by kernel_rfl)) (by decide) (fun K hK => ?_)
   have hs52 : w50.cell? ⟨gb257, 3, none⟩ = some (.int .i64 0) := (za BK257.out 3).trans rfl
   have hfs52 := zi BK257.out 3
   have hns52_0 := NB255_257.out
   have hms52_0 := NB257_255.out
   refine jv (w1 := ?_) (by rfl) rfl ?_ ?_
   rotate_left
   ·
    go_simp
    rfl
   refine hK.out _ _ ⟨((cell_far (p := ⟨gb257, _, none⟩) NB255_257.out _).trans (hHeld.1)), ((cell_far (p := ⟨gb257, _, none⟩) NB255_257.out _).trans (hHeld.2.1)), ((cell_far (p := ⟨gb257, _, none⟩) NB255_257.out _).trans (hHeld.2.2.1)), ((cell_far (p := ⟨gb257, _, none⟩) NB255_257.out _).trans (hHeld.2.2.2.1)), ((cell_far (p := ⟨gb257, _, none⟩) NB255_257.out _).trans (hHeld.2.2.2.2.1)), ((cell_far (p := ⟨gb257, _, none⟩) NB255_257.out _).trans (hHeld.2.2.2.2.2.1)), ((cell_far (p := ⟨gb257, _, none⟩) NB255_257.out _).trans (hHeld.2.2.2.2.2.2))⟩ (fun hHeld => ?_)
   clear hK K
   refine pq_ 16 5 z29 (zo HT_.out (by kernel_rfl)) ?_
   refine ju (j9 HT_.out (by kernel_rfl)) ?_
   try go_wp2
   go_meet
   case rel => exact ⟨_, (1), (t264), (a0_1), (0), (a0_3), (0), (0), (by first | rfl | (simp; done) | (simp [*]; done)), (by first | rfl | (simp; done) | (simp [*]; done)), H', ⟨by first | omega | exact Nat.le_refl _⟩, ⟨by (with_reducible repeat (first | refine ze ?_ _ | refine zf ?_ | refine zc ?_ _)); refine zp ?_ NB255_257.out _; (with_reducible repeat (first | refine ze ?_ _ | refine zf ?_ | refine zc ?_ _)); refine zp ?_ NB255_257.out _; (with_reducible repeat (first | refine ze ?_ _ | refine zf ?_ | refine zc ?_ _)); exact BK255.out⟩, ⟨by (with_reducible repeat (first | refine ze ?_ _ | refine zf ?_ | refine zc ?_ _)); refine zx (cs := #[.int .i64 a0_0, .int .i64 a0_1, .int .i64 0, .int .i64 0, .int .i64 0, .int .i64 0, .slice none 0 0]) ?_ 3 _ rfl; (with_reducible repeat (first | refine ze ?_ _ | refine zf ?_ | refine zc ?_ _)); refine zx (cs := #[.int .i64 a0_0, .int .i64 0, .int .i64 0, .int .i64 0, .int .i64 0, .int .i64 0, .slice none 0 0]) ?_ 1 _ rfl; (with_reducible repeat (first | refine ze ?_ _ | refine zf ?_ | refine zc ?_ _)); exact BK257.out⟩, ⟨by repeat (first | (with_reducible first | exact HB.out | apply z8 | apply z6 | apply z7 | refine zb ?_ GE255.out | refine zb ?_ GE257.out) | exact HB.out)⟩⟩
  rw [if_neg c45] at H
  have c45b0 : (a0_0 == 4) = false := beq_eq_false_iff_ne.mpr c45
  have c45b1 : (a0_0 != 4) = true := bne_iff_ne.mpr c45
  by_cases c57 : a0_0 = 5
  ·
   rw [if_pos c57] at H
   have c57b0 : (a0_0 == 5) = true := beq_iff_eq.mpr c57
   have c57b1 : (a0_0 != 5) = false := bne_eq_false_iff_eq.mpr c57
   clear c57
   replace H := Option.bind_eq_some_iff.mp H
   obtain ⟨t265, A580, H⟩ := H
   replace H : (if t265 = true then (zq.j0 k (l0_6.length : Int) (decide ((l0_6.length : Int) ≤ 4)) a0_0 a0_1 a0_2 a0_3 a0_4 a0_5 l0_6 a0_0 0 0 a0_3 0 0) else (zq.j0 k (l0_6.length : Int) false a0_0 a0_1 a0_2 a0_3 a0_4 a0_5 l0_6 a0_0 0 0 a0_3 0 0)) = some r := H
   have A58 := Aside0.mk A580
   clear A580
   by_cases c59 : t265 = true
   ·
    subst c59
    have H1 : (zq.j0 k (l0_6.length : Int) (decide ((l0_6.length : Int) ≤ 4)) a0_0 a0_1 a0_2 a0_3 a0_4 a0_5 l0_6 a0_0 0 0 a0_3 0 0) = some r := by rw [if_pos rfl] at H; exact H
    clear H
    have H := H1
    clear H1
    have H' := Aside0.mk H
    clear H
    try go_wp2
    generalize hw_ : (((((((w12.setCell ⟨gb257, 0, none⟩ (.int .i64 a0_0)).setCell ⟨gb257, 1, none⟩ (.int .i64 0)).setCell ⟨gb257, 2, none⟩ (.int .i64 0)).setCell ⟨gb257, 3, none⟩ (.int .i64 0)).setCell ⟨gb257, 4, none⟩ (.int .i64 0)).setCell ⟨gb257, 5, none⟩ (.int .i64 0)).setCell ⟨gb257, 6, none⟩ (.slice none 0 0)) = w60
    have n0_ : Aside0 (w60.heap[gb255]? = some (.cells #[.int .i64 a0_0, .int .i64 a0_1, .int .i64 a0_2, .int .i64 a0_3, .int .i64 a0_4, .int .i64 a0_5, .slice A0_6 l0_6.length c0_6] 45 (0, 0))) := by rw [← hw_]; exact ⟨(zp (zp (zp (zp (zp (zp (zp BK255.out NB255_257.out _) NB255_257.out _) NB255_257.out _) NB255_257.out _) NB255_257.out _) NB255_257.out _) NB255_257.out _)⟩
    have n1_ : Aside0 (w60.heap[gb257]? = some (.cells #[.int .i64 a0_0, .int .i64 0, .int .i64 0, .int .i64 0, .int .i64 0, .int .i64 0, .slice none 0 0] 45 (0, 0))) := by rw [← hw_]; exact ⟨(z0d BK257.out _ _ _ _ _ _ _)⟩
    have n2_ : Aside0 (Below w.heap.size w w60) := by rw [← hw_]; exact ⟨by repeat (first | (with_reducible first | exact HB.out | apply z8 | apply z6 | apply z7 | refine zb ?_ GE255.out | refine zb ?_ GE257.out) | exact HB.out)⟩
    clear hw_
    (try clear BK255)
    (try clear BK257)
    (try clear HB)
    have BK255 := n0_
    have BK257 := n1_
    have HB := n2_
    clear n0_ n1_ n2_
    have n0_ := Aside0.mk (zf BK255.out)
    have n1_ := Aside0.mk (zf BK257.out)
    have n2_ := Aside0.mk (z7 HB.out)
    clear BK255
    clear BK257
    clear HB
    have BK255 := n0_
    have BK257 := n1_
    have HB := n2_
    clear n0_ n1_ n2_
    refine ji (n := 14) (S := fun w' => w'.cell? ⟨gb255, 0, none⟩ = some (.int .i64 a0_0) ∧ w'.cell? ⟨gb255, 1, none⟩ = some (.int .i64 a0_1) ∧ w'.cell? ⟨gb255, 2, none⟩ = some (.int .i64 a0_2) ∧ w'.cell? ⟨gb255, 3, none⟩ = some (.int .i64 a0_3) ∧ w'.cell? ⟨gb255, 4, none⟩ = some (.int .i64 a0_4) ∧ w'.cell? ⟨gb255, 5, none⟩ = some (.int .i64 a0_5) ∧ w'.cell? ⟨gb255, 6, none⟩ = some (.slice A0_6 l0_6.length c0_6)) (ds := []) z8z (by kernel_rfl) rfl rfl ⟨(za BK255.out 0).trans rfl, (za BK255.out 1).trans rfl, (za BK255.out 2).trans rfl, (za BK255.out 3).trans rfl, (za BK255.out 4).trans rfl, (za BK255.out 5).trans rfl, (za BK255.out 6).trans rfl⟩ (fun hHeld => ?_); refine uy zq.tab17 zq.bits17 (fun HT_ HW_ => ?_)
    generalize w60.drew = w61 at BK255 BK257 HB hHeld ⊢
    refine pq_ 0 72 z90 (zo HT_.out (by kernel_rfl)) ?_
    refine pq_ 2 74 z92 (zo HT_.out (by kernel_rfl)) ?_
    refine tq_ 1 73 z94 (yj HT_.out HW_.out (by kernel_rfl)) hHeld ?_
    refine pq_ 11 83 z95 (zo HT_.out (by kernel_rfl)) ?_
    refine tq_ 3 75 z96 (yj HT_.out HW_.out (by kernel_rfl)) hHeld ?_
    refine ul (i := 4) (N := some 76) z97 rfl rfl (vn HT_.out (by kernel_rfl)) (by decide) (fun K hK => ?_)
    refine j5 Try.func73 (by kernel_rfl) rfl #[.int .i64 a0_3] (by rfl) rfl rfl (by (try simp only [List.map_toArray, List.map_cons, List.map_nil]); first | done | rfl | (simp only [List.length_drop, List.length_take]; rfl)) ?_
    with_reducible refine (ur.calls a0_3 true _ A58.out).mono ?_
    rintro e w' ⟨rfl, ⟨nd, rfl⟩⟩
    refine ⟨_, rfl, ?_⟩
    refine hK.out _ _ ⟨(za BK255.out 0).trans rfl, (za BK255.out 1).trans rfl, (za BK255.out 2).trans rfl, (za BK255.out 3).trans rfl, (za BK255.out 4).trans rfl, (za BK255.out 5).trans rfl, (za BK255.out 6).trans rfl⟩ (fun hHeld => ?_)
    clear hK K
    refine um (a' := ?_) ?_ ?_
    rotate_left
    ·
     show Act.put _ (some 76) _ = _
     simp only [Act.put, List.setIfInBounds_toArray, List.set_cons_zero, List.set_cons_succ, vw, ud]
     rfl
    refine pq_ 5 77 z98 (zo HT_.out (by kernel_rfl)) ?_
    refine pq_ 6 78 z99 (zo HT_.out (by kernel_rfl)) ?_
    refine tq_ 7 79 z9a (yj HT_.out HW_.out (by kernel_rfl)) hHeld ?_
    refine pq_ 8 80 z9b (zo HT_.out (by kernel_rfl)) ?_
    refine gz 9 81 z9c (zo HT_.out (by kernel_rfl)) ?_
    refine pq_ 10 82 z9d (zo HT_.out (by kernel_rfl)) ?_
    refine ul (i := 12) (N := none) z9e rfl rfl (vn HT_.out (by kernel_rfl)) (by decide) (fun K hK => ?_)
    have hs62 : w61.cell? ⟨gb257, 3, none⟩ = some (.int .i64 0) := (za BK257.out 3).trans rfl
    have hfs62 := zi BK257.out 3
    have hns62_0 := NB255_257.out
    have hms62_0 := NB257_255.out
    refine jv (w1 := ?_) (by rfl) rfl ?_ ?_
    rotate_left
    ·
     go_simp
     rfl
    refine hK.out _ _ ⟨((cell_far (p := ⟨gb257, _, none⟩) NB255_257.out _).trans (hHeld.1)), ((cell_far (p := ⟨gb257, _, none⟩) NB255_257.out _).trans (hHeld.2.1)), ((cell_far (p := ⟨gb257, _, none⟩) NB255_257.out _).trans (hHeld.2.2.1)), ((cell_far (p := ⟨gb257, _, none⟩) NB255_257.out _).trans (hHeld.2.2.2.1)), ((cell_far (p := ⟨gb257, _, none⟩) NB255_257.out _).trans (hHeld.2.2.2.2.1)), ((cell_far (p := ⟨gb257, _, none⟩) NB255_257.out _).trans (hHeld.2.2.2.2.2.1)), ((cell_far (p := ⟨gb257, _, none⟩) NB255_257.out _).trans (hHeld.2.2.2.2.2.2))⟩ (fun hHeld => ?_)
    clear hK K
    refine pq_ 13 5 z9f (zo HT_.out (by kernel_rfl)) ?_
    refine ju (j9 HT_.out (by kernel_rfl)) ?_
    have hnb63 := NB255_257.out
    have hnc63 := NB257_255.out
    have hcz64_0 := ug BK255.out
    have hfz64_0 := fun j_ => zi BK255.out j_
    try go_wp2
    go_meet
    case rel => exact ⟨_, ((l0_6.length : Int)), (decide ((l0_6.length : Int) ≤ 4)), (0), (0), (a0_3), (0), (0), (by first | rfl | (simp; done) | (simp [*]; done)), (by first | rfl | (simp; done) | (simp [*]; done)), H', ⟨by first | omega | exact Nat.le_refl _⟩, ⟨by (with_reducible repeat (first | refine ze ?_ _ | refine zf ?_ | refine zc ?_ _)); refine zp ?_ NB255_257.out _; (with_reducible repeat (first | refine ze ?_ _ | refine zf ?_ | refine zc ?_ _)); exact BK255.out⟩, ⟨by (with_reducible repeat (first | refine ze ?_ _ | refine zf ?_ | refine zc ?_ _)); refine zx (cs := #[.int .i64 a0_0, .int .i64 0, .int .i64 0, .int .i64 0, .int .i64 0, .int .i64 0, .slice none 0 0]) ?_ 3 _ rfl; (with_reducible repeat (first | refine ze ?_ _ | refine zf ?_ | refine zc ?_ _)); exact BK257.out⟩, ⟨by repeat (first | (with_reducible first | exact HB.out | apply z8 | apply z6 | apply z7 | refine zb ?_ GE255.out | refine zb ?_ GE257.out) | exact HB.out)⟩⟩
   replace c59 := Bool.eq_false_iff.mpr c59
   subst c59
   have H1 : (zq.j0 k (l0_6.length : Int) false a0_0 a0_1 a0_2 a0_3 a0_4 a0_5 l0_6 a0_0 0 0 a0_3 0 0) = some r := by rw [if_neg (show ¬ (false = true) by decide)] at H; exact H
   clear H
   have H := H1
   clear H1
   have H' := Aside0.mk H
   clear H
   try go_wp2
   generalize hw_ : (((((((w12.setCell ⟨gb257, 0, none⟩ (.int .i64 a0_0)).setCell ⟨gb257, 1, none⟩ (.int .i64 0)).setCell ⟨gb257, 2, none⟩ (.int .i64 0)).setCell ⟨gb257, 3, none⟩ (.int .i64 0)).setCell ⟨gb257, 4, none⟩ (.int .i64 0)).setCell ⟨gb257, 5, none⟩ (.int .i64 0)).setCell ⟨gb257, 6, none⟩ (.slice none 0 0)) = w65
   have n0_ : Aside0 (w65.heap[gb255]? = some (.cells #[.int .i64 a0_0, .int .i64 a0_1, .int .i64 a0_2, .int .i64 a0_3, .int .i64 a0_4, .int .i64 a0_5, .slice A0_6 l0_6.length c0_6] 45 (0, 0))) := by rw [← hw_]; exact ⟨(zp (zp (zp (zp (zp (zp (zp BK255.out NB255_257.out _) NB255_257.out _) NB255_257.out _) NB255_257.out _) NB255_257.out _) NB255_257.out _) NB255_257.out _)⟩
   have n1_ : Aside0 (w65.heap[gb257]? = some (.cells #[.int .i64 a0_0, .int .i64 0, .int .i64 0, .int .i64 0, .int .i64 0, .int .i64 0, .slice none 0 0] 45 (0, 0))) := by rw [← hw_]; exact ⟨(z0d BK257.out _ _ _ _ _ _ _)⟩
   have n2_ : Aside0 (Below w.heap.size w w65) := by rw [← hw_]; exact ⟨by repeat (first | (with_reducible first | exact HB.out | apply z8 | apply z6 | apply z7 | refine zb ?_ GE255.out | refine zb ?_ GE257.out) | exact HB.out)⟩
   clear hw_
   (try clear BK255)
   (try clear BK257)
   (try clear HB)
   have BK255 := n0_
   have BK257 := n1_
   have HB := n2_
   clear n0_ n1_ n2_
   have n0_ := Aside0.mk (zf BK255.out)
   have n1_ := Aside0.mk (zf BK257.out)
   have n2_ := Aside0.mk (z7 HB.out)
   clear BK255
   clear BK257
   clear HB
   have BK255 := n0_
   have BK257 := n1_
   have HB := n2_
   clear n0_ n1_ n2_
   refine ji (n := 14) (S := fun w' => w'.cell? ⟨gb255, 0, none⟩ = some (.int .i64 a0_0) ∧ w'.cell? ⟨gb255, 1, none⟩ = some (.int .i64 a0_1) ∧ w'.cell? ⟨gb255, 2, none⟩ = some (.int .i64 a0_2) ∧ w'.cell? ⟨gb255, 3, none⟩ = some (.int .i64 a0_3) ∧ w'.cell? ⟨gb255, 4, none⟩ = some (.int .i64 a0_4) ∧ w'.cell? ⟨gb255, 5, none⟩ = some (.int .i64 a0_5) ∧ w'.cell? ⟨gb255, 6, none⟩ = some (.slice A0_6 l0_6.length c0_6)) (ds := []) z8z (by kernel_rfl) rfl rfl ⟨(za BK255.out 0).trans rfl, (za BK255.out 1).trans rfl, (za BK255.out 2).trans rfl, (za BK255.out 3).trans rfl, (za BK255.out 4).trans rfl, (za BK255.out 5).trans rfl, (za BK255.out 6).trans rfl⟩ (fun hHeld => ?_); refine uy zq.tab17 zq.bits17 (fun HT_ HW_ => ?_)
   generalize w65.drew = w66 at BK255 BK257 HB hHeld ⊢
   refine pq_ 0 72 z90 (zo HT_.out (by kernel_rfl)) ?_
   refine pq_ 2 74 z92 (zo HT_.out (by kernel_rfl)) ?_
   refine tq_ 1 73 z94 (yj HT_.out HW_.out (by kernel_rfl)) hHeld ?_
   refine pq_ 11 83 z95 (zo HT_.out (by kernel_rfl)) ?_
   refine tq_ 3 75 z96 (yj HT_.out HW_.out (by kernel_rfl)) hHeld ?_
   refine ul (i := 4) (N := some 76) z97 rfl rfl (vn HT_.out (by kernel_rfl)) (by decide) (fun K hK => ?_)
   refine j5 Try.func73 (by kernel_rfl) rfl #[.int .i64 a0_3] (by rfl) rfl rfl (by (try simp only [List.map_toArray, List.map_cons, List.map_nil]); first | done | rfl | (simp only [List.length_drop, List.length_take]; rfl)) ?_
   with_reducible refine (ur.calls a0_3 false _ A58.out).mono ?_
   rintro e w' ⟨rfl, ⟨nd, rfl⟩⟩
   refine ⟨_, rfl, ?_⟩
   refine hK.out _ _ ⟨(za BK255.out 0).trans rfl, (za BK255.out 1).trans rfl, (za BK255.out 2).trans rfl, (za BK255.out 3).trans rfl, (za BK255.out 4).trans rfl, (za BK255.out 5).trans rfl, (za BK255.out 6).trans rfl⟩ (fun hHeld => ?_)
   clear hK K
   refine um (a' := ?_) ?_ ?_
   rotate_left
   ·
    show Act.put _ (some 76) _ = _
    simp only [Act.put, List.setIfInBounds_toArray, List.set_cons_zero, List.set_cons_succ, vw, ud]
    rfl
   refine pq_ 5 77 z98 (zo HT_.out (by kernel_rfl)) ?_
   refine uf 6 78 z99 (zo HT_.out (by kernel_rfl)) ?_
   refine uf 7 79 z9a (zo HT_.out (by kernel_rfl)) ?_
   refine uf 8 80 z9b (zo HT_.out (by kernel_rfl)) ?_
   refine uf 9 81 z9c (zo HT_.out (by kernel_rfl)) ?_
   refine pq_ 10 82 z9d (zo HT_.out (by kernel_rfl)) ?_
   refine ul (i := 12) (N := none) z9e rfl rfl (vn HT_.out (by kernel_rfl)) (by decide) (fun K hK => ?_)
   have hs67 : w66.cell? ⟨gb257, 3, none⟩ = some (.int .i64 0) := (za BK257.out 3).trans rfl
   have hfs67 := zi BK257.out 3
   have hns67_0 := NB255_257.out
   have hms67_0 := NB257_255.out
   refine jv (w1 := ?_) (by rfl) rfl ?_ ?_
   rotate_left
   ·
    go_simp
    rfl
   refine hK.out _ _ ⟨((cell_far (p := ⟨gb257, _, none⟩) NB255_257.out _).trans (hHeld.1)), ((cell_far (p := ⟨gb257, _, none⟩) NB255_257.out _).trans (hHeld.2.1)), ((cell_far (p := ⟨gb257, _, none⟩) NB255_257.out _).trans (hHeld.2.2.1)), ((cell_far (p := ⟨gb257, _, none⟩) NB255_257.out _).trans (hHeld.2.2.2.1)), ((cell_far (p := ⟨gb257, _, none⟩) NB255_257.out _).trans (hHeld.2.2.2.2.1)), ((cell_far (p := ⟨gb257, _, none⟩) NB255_257.out _).trans (hHeld.2.2.2.2.2.1)), ((cell_far (p := ⟨gb257, _, none⟩) NB255_257.out _).trans (hHeld.2.2.2.2.2.2))⟩ (fun hHeld => ?_)
   clear hK K
   refine pq_ 13 5 z9f (zo HT_.out (by kernel_rfl)) ?_
   refine ju (j9 HT_.out (by kernel_rfl)) ?_
   have hnb68 := NB255_257.out
   have hnc68 := NB257_255.out
   have hcz69_0 := ug BK255.out
   have hfz69_0 := fun j_ => zi BK255.out j_
   try go_wp2
   go_meet
   case rel => exact ⟨_, ((l0_6.length : Int)), (false), (0), (0), (a0_3), (0), (0), (by first | rfl | (simp; done) | (simp [*]; done)), (by first | rfl | (simp; done) | (simp [*]; done)), H', ⟨by first | omega | exact Nat.le_refl _⟩, ⟨by (with_reducible repeat (first | refine ze ?_ _ | refine zf ?_ | refine zc ?_ _)); refine zp ?_ NB255_257.out _; (with_reducible repeat (first | refine ze ?_ _ | refine zf ?_ | refine zc ?_ _)); exact BK255.out⟩, ⟨by (with_reducible repeat (first | refine ze ?_ _ | refine zf ?_ | refine zc ?_ _)); refine zx (cs := #[.int .i64 a0_0, .int .i64 0, .int .i64 0, .int .i64 0, .int .i64 0, .int .i64 0, .slice none 0 0]) ?_ 3 _ rfl; (with_reducible repeat (first | refine ze ?_ _ | refine zf ?_ | refine zc ?_ _)); exact BK257.out⟩, ⟨by repeat (first | (with_reducible first | exact HB.out | apply z8 | apply z6 | apply z7 | refine zb ?_ GE255.out | refine zb ?_ GE257.out) | exact HB.out)⟩⟩
  rw [if_neg c57] at H
  have c57b0 : (a0_0 == 5) = false := beq_eq_false_iff_ne.mpr c57
  have c57b1 : (a0_0 != 5) = true := bne_iff_ne.mpr c57
  by_cases c70 : a0_0 = 6
  rotate_left
  ·
   rw [if_neg c70] at H
   have c70b0 : (a0_0 == 6) = false := beq_eq_false_iff_ne.mpr c70
   have c70b1 : (a0_0 != 6) = true := bne_iff_ne.mpr c70
   have H' := Aside0.mk H
   clear H
   go_wp2
   go_meet
   case rel => exact ⟨_, (0), (false), (0), (0), (0), (0), (0), (by first | rfl | (simp; done) | (simp [*]; done)), (by first | rfl | (simp; done) | (simp [*]; done)), H', ⟨by first | omega | exact Nat.le_refl _⟩, ⟨by (with_reducible repeat (first | refine ze ?_ _ | refine zf ?_ | refine zc ?_ _)); refine zp ?_ NB255_257.out _; (with_reducible repeat (first | refine ze ?_ _ | refine zf ?_ | refine zc ?_ _)); refine zp ?_ NB255_257.out _; (with_reducible repeat (first | refine ze ?_ _ | refine zf ?_ | refine zc ?_ _)); refine zp ?_ NB255_257.out _; (with_reducible repeat (first | refine ze ?_ _ | refine zf ?_ | refine zc ?_ _)); refine zp ?_ NB255_257.out _; (with_reducible repeat (first | refine ze ?_ _ | refine zf ?_ | refine zc ?_ _)); refine zp ?_ NB255_257.out _; (with_reducible repeat (first | refine ze ?_ _ | refine zf ?_ | refine zc ?_ _)); refine zp ?_ NB255_257.out _; (with_reducible repeat (first | refine ze ?_ _ | refine zf ?_ | refine zc ?_ _)); refine zp ?_ NB255_257.out _; (with_reducible repeat (first | refine ze ?_ _ | refine zf ?_ | refine zc ?_ _)); exact BK255.out⟩, ⟨by (with_reducible repeat (first | refine ze ?_ _ | refine zf ?_ | refine zc ?_ _)); refine zx (cs := #[.int .i64 a0_0, .int .i64 0, .int .i64 0, .int .i64 0, .int .i64 0, .int .i64 0, .slice none 0 0]) ?_ 6 _ rfl; (with_reducible repeat (first | refine ze ?_ _ | refine zf ?_ | refine zc ?_ _)); refine zx (cs := #[.int .i64 a0_0, .int .i64 0, .int .i64 0, .int .i64 0, .int .i64 0, .int .i64 0, .slice none 0 0]) ?_ 5 _ rfl; (with_reducible repeat (first | refine ze ?_ _ | refine zf ?_ | refine zc ?_ _)); refine zx (cs := #[.int .i64 a0_0, .int .i64 0, .int .i64 0, .int .i64 0, .int .i64 0, .int .i64 0, .slice none 0 0]) ?_ 4 _ rfl; (with_reducible repeat (first | refine ze ?_ _ | refine zf ?_ | refine zc ?_ _)); refine zx (cs := #[.int .i64 a0_0, .int .i64 0, .int .i64 0, .int .i64 0, .int .i64 0, .int .i64 0, .slice none 0 0]) ?_ 3 _ rfl; (with_reducible repeat (first | refine ze ?_ _ | refine zf ?_ | refine zc ?_ _)); refine zx (cs := #[.int .i64 a0_0, .int .i64 0, .int .i64 0, .int .i64 0, .int .i64 0, .int .i64 0, .slice none 0 0]) ?_ 2 _ rfl; (with_reducible repeat (first | refine ze ?_ _ | refine zf ?_ | refine zc ?_ _)); refine zx (cs := #[.int .i64 a0_0, .int .i64 0, .int .i64 0, .int .i64 0, .int .i64 0, .int .i64 0, .slice none 0 0]) ?_ 1 _ rfl; (with_reducible repeat (first | refine ze ?_ _ | refine zf ?_ | refine zc ?_ _)); refine zx (cs := #[.int .i64 0, .int .i64 0, .int .i64 0, .int .i64 0, .int .i64 0, .int .i64 0, .slice none 0 0]) ?_ 0 _ rfl; (with_reducible repeat (first | refine ze ?_ _ | refine zf ?_ | refine zc ?_ _)); exact BK257.out⟩, ⟨by repeat (first | (with_reducible first | exact HB.out | apply z8 | apply z6 | apply z7 | refine zb ?_ GE255.out | refine zb ?_ GE257.out) | exact HB.out)⟩⟩
  rw [if_pos c70] at H
  have c70b0 : (a0_0 == 6) = true := beq_iff_eq.mpr c70
  have c70b1 : (a0_0 != 6) = false := bne_eq_false_iff_eq.mpr c70
  clear c70
  replace H := Option.bind_eq_some_iff.mp H
  obtain ⟨t266, A710, H⟩ := H
  replace H : (if t266 = true then (if a0_5 ≥ 1 then (zq.j0 k 0 (decide (a0_5 ≤ 8)) a0_0 a0_1 a0_2 a0_3 a0_4 a0_5 l0_6 a0_0 a0_1 0 0 a0_4 a0_5) else (zq.j0 k 0 false a0_0 a0_1 a0_2 a0_3 a0_4 a0_5 l0_6 a0_0 a0_1 0 0 a0_4 a0_5)) else (zq.j0 k 0 false a0_0 a0_1 a0_2 a0_3 a0_4 a0_5 l0_6 a0_0 a0_1 0 0 a0_4 a0_5)) = some r := H
  have A71 := Aside0.mk A710
  clear A710
  by_cases c72 : t266 = true
  rotate_left
  ·
   replace c72 := Bool.eq_false_iff.mpr c72
   subst c72
   have H1 : (zq.j0 k 0 false a0_0 a0_1 a0_2 a0_3 a0_4 a0_5 l0_6 a0_0 a0_1 0 0 a0_4 a0_5) = some r := by rw [if_neg (show ¬ (false = true) by decide)] at H; exact H
   clear H
   have H := H1
   clear H1
   have H' := Aside0.mk H
   clear H
   try go_wp2
   generalize hw_ : (((((((w12.setCell ⟨gb257, 0, none⟩ (.int .i64 a0_0)).setCell ⟨gb257, 1, none⟩ (.int .i64 0)).setCell ⟨gb257, 2, none⟩ (.int .i64 0)).setCell ⟨gb257, 3, none⟩ (.int .i64 0)).setCell ⟨gb257, 4, none⟩ (.int .i64 0)).setCell ⟨gb257, 5, none⟩ (.int .i64 0)).setCell ⟨gb257, 6, none⟩ (.slice none 0 0)) = w84
   have n0_ : Aside0 (w84.heap[gb255]? = some (.cells #[.int .i64 a0_0, .int .i64 a0_1, .int .i64 a0_2, .int .i64 a0_3, .int .i64 a0_4, .int .i64 a0_5, .slice A0_6 l0_6.length c0_6] 45 (0, 0))) := by rw [← hw_]; exact ⟨(zp (zp (zp (zp (zp (zp (zp BK255.out NB255_257.out _) NB255_257.out _) NB255_257.out _) NB255_257.out _) NB255_257.out _) NB255_257.out _) NB255_257.out _)⟩
   have n1_ : Aside0 (w84.heap[gb257]? = some (.cells #[.int .i64 a0_0, .int .i64 0, .int .i64 0, .int .i64 0, .int .i64 0, .int .i64 0, .slice none 0 0] 45 (0, 0))) := by rw [← hw_]; exact ⟨(z0d BK257.out _ _ _ _ _ _ _)⟩
   have n2_ : Aside0 (Below w.heap.size w w84) := by rw [← hw_]; exact ⟨by repeat (first | (with_reducible first | exact HB.out | apply z8 | apply z6 | apply z7 | refine zb ?_ GE255.out | refine zb ?_ GE257.out) | exact HB.out)⟩
   clear hw_
   (try clear BK255)
   (try clear BK257)
   (try clear HB)
   have BK255 := n0_
   have BK257 := n1_
   have HB := n2_
   clear n0_ n1_ n2_
   have n0_ := Aside0.mk (zf BK255.out)
   have n1_ := Aside0.mk (zf BK257.out)
   have n2_ := Aside0.mk (z7 HB.out)
   clear BK255
   clear BK257
   clear HB
   have BK255 := n0_
   have BK257 := n1_
   have HB := n2_
   clear n0_ n1_ n2_
   refine ji (n := 28) (S := fun w' => w'.cell? ⟨gb255, 0, none⟩ = some (.int .i64 a0_0) ∧ w'.cell? ⟨gb255, 1, none⟩ = some (.int .i64 a0_1) ∧ w'.cell? ⟨gb255, 2, none⟩ = some (.int .i64 a0_2) ∧ w'.cell? ⟨gb255, 3, none⟩ = some (.int .i64 a0_3) ∧ w'.cell? ⟨gb255, 4, none⟩ = some (.int .i64 a0_4) ∧ w'.cell? ⟨gb255, 5, none⟩ = some (.int .i64 a0_5) ∧ w'.cell? ⟨gb255, 6, none⟩ = some (.slice A0_6 l0_6.length c0_6)) (ds := []) z5v (by kernel_rfl) rfl rfl ⟨(za BK255.out 0).trans rfl, (za BK255.out 1).trans rfl, (za BK255.out 2).trans rfl, (za BK255.out 3).trans rfl, (za BK255.out 4).trans rfl, (za BK255.out 5).trans rfl, (za BK255.out 6).trans rfl⟩ (fun hHeld => ?_); refine uy zq.tab20 zq.bits20 (fun HT_ HW_ => ?_)
   generalize w84.drew = w85 at BK255 BK257 HB hHeld ⊢
   refine pq_ 0 89 z5w (zo HT_.out (by kernel_rfl)) ?_
   refine pq_ 2 91 z5x (zo HT_.out (by kernel_rfl)) ?_
   refine pq_ 4 93 z5y (zo HT_.out (by kernel_rfl)) ?_
   refine pq_ 6 95 z5z (zo HT_.out (by kernel_rfl)) ?_
   refine pq_ 8 97 z61 (zo HT_.out (by kernel_rfl)) ?_
   refine tq_ 1 90 z62 (yj HT_.out HW_.out (by kernel_rfl)) hHeld ?_
   refine pq_ 21 110 z63 (zo HT_.out (by kernel_rfl)) ?_
   refine tq_ 3 92 z65 (yj HT_.out HW_.out (by kernel_rfl)) hHeld ?_
   refine tq_ 5 94 z68 (yj HT_.out HW_.out (by kernel_rfl)) hHeld ?_
   refine tq_ 7 96 z69 (yj HT_.out HW_.out (by kernel_rfl)) hHeld ?_
   refine tq_ 9 98 z6a (yj HT_.out HW_.out (by kernel_rfl)) hHeld ?_
   refine ul (i := 10) (N := some 99) z6b rfl rfl (vn HT_.out (by kernel_rfl)) (by decide) (fun K hK => ?_)
   refine j5 Try.func61 (by kernel_rfl) rfl #[.int .i64 a0_1, .int .i64 a0_4] (by rfl) rfl rfl (by (try simp only [List.map_toArray, List.map_cons, List.map_nil]); first | done | rfl | (simp only [List.length_drop, List.length_take]; rfl)) ?_
   with_reducible refine (ut.calls a0_1 a0_4 false _ A71.out).mono ?_
   rintro e w' ⟨rfl, ⟨nd, rfl⟩⟩
   refine ⟨_, rfl, ?_⟩
   refine hK.out _ _ ⟨(za BK255.out 0).trans rfl, (za BK255.out 1).trans rfl, (za BK255.out 2).trans rfl, (za BK255.out 3).trans rfl, (za BK255.out 4).trans rfl, (za BK255.out 5).trans rfl, (za BK255.out 6).trans rfl⟩ (fun hHeld => ?_)
   clear hK K
   refine um (a' := ?_) ?_ ?_
   rotate_left
   ·
    show Act.put _ (some 99) _ = _
    simp only [Act.put, List.setIfInBounds_toArray, List.set_cons_zero, List.set_cons_succ, vw, ud]
    rfl
   refine pq_ 11 100 z6c (zo HT_.out (by kernel_rfl)) ?_
   refine uf 12 101 z6d (zo HT_.out (by kernel_rfl)) ?_
   refine uf 13 102 z6e (zo HT_.out (by kernel_rfl)) ?_
   refine uf 14 103 z6f (zo HT_.out (by kernel_rfl)) ?_
   refine pq_ 15 104 z6g (zo HT_.out (by kernel_rfl)) ?_
   refine pq_ 16 105 z6h (zo HT_.out (by kernel_rfl)) ?_
   refine uf 17 106 z6i (zo HT_.out (by kernel_rfl)) ?_
   refine uf 18 107 z6j (zo HT_.out (by kernel_rfl)) ?_
   refine uf 19 108 z6k (zo HT_.out (by kernel_rfl)) ?_
   refine pq_ 20 109 z6l (zo HT_.out (by kernel_rfl)) ?_
   refine ul (i := 22) (N := none) z6m rfl rfl (vn HT_.out (by kernel_rfl)) (by decide) (fun K hK => ?_)
   have hs86 : w85.cell? ⟨gb257, 1, none⟩ = some (.int .i64 0) := (za BK257.out 1).trans rfl
   have hfs86 := zi BK257.out 1
   have hns86_0 := NB255_257.out
   have hms86_0 := NB257_255.out
   refine jv (w1 := ?_) (by rfl) rfl ?_ ?_
   rotate_left
   ·
    go_simp
    rfl
   refine hK.out _ _ ⟨((cell_far (p := ⟨gb257, _, none⟩) NB255_257.out _).trans (hHeld.1)), ((cell_far (p := ⟨gb257, _, none⟩) NB255_257.out _).trans (hHeld.2.1)), ((cell_far (p := ⟨gb257, _, none⟩) NB255_257.out _).trans (hHeld.2.2.1)), ((cell_far (p := ⟨gb257, _, none⟩) NB255_257.out _).trans (hHeld.2.2.2.1)), ((cell_far (p := ⟨gb257, _, none⟩) NB255_257.out _).trans (hHeld.2.2.2.2.1)), ((cell_far (p := ⟨gb257, _, none⟩) NB255_257.out _).trans (hHeld.2.2.2.2.2.1)), ((cell_far (p := ⟨gb257, _, none⟩) NB255_257.out _).trans (hHeld.2.2.2.2.2.2))⟩ (fun hHeld => ?_)
   clear hK K
   refine pq_ 23 111 z6n (zo HT_.out (by kernel_rfl)) ?_
   refine ul (i := 24) (N := none) z6o rfl rfl (vn HT_.out (by kernel_rfl)) (by decide) (fun K hK => ?_)
   have hs87 : w85.cell? ⟨gb257, 4, none⟩ = some (.int .i64 0) := (za BK257.out 4).trans rfl
   have hfs87 := zi BK257.out 4
   have hns87_0 := NB255_257.out
   have hms87_0 := NB257_255.out
   refine jv (w1 := ?_) (by rfl) rfl ?_ ?_
   rotate_left
   ·
    go_simp
    rfl
   refine hK.out _ _ ⟨((cell_far (p := ⟨gb257, _, none⟩) NB255_257.out _).trans (hHeld.1)), ((cell_far (p := ⟨gb257, _, none⟩) NB255_257.out _).trans (hHeld.2.1)), ((cell_far (p := ⟨gb257, _, none⟩) NB255_257.out _).trans (hHeld.2.2.1)), ((cell_far (p := ⟨gb257, _, none⟩) NB255_257.out _).trans (hHeld.2.2.2.1)), ((cell_far (p := ⟨gb257, _, none⟩) NB255_257.out _).trans (hHeld.2.2.2.2.1)), ((cell_far (p := ⟨gb257, _, none⟩) NB255_257.out _).trans (hHeld.2.2.2.2.2.1)), ((cell_far (p := ⟨gb257, _, none⟩) NB255_257.out _).trans (hHeld.2.2.2.2.2.2))⟩ (fun hHeld => ?_)
   clear hK K
   refine pq_ 25 112 z6p (zo HT_.out (by kernel_rfl)) ?_
   refine ul (i := 26) (N := none) z6q rfl rfl (vn HT_.out (by kernel_rfl)) (by decide) (fun K hK => ?_)
   have hs88 : w85.cell? ⟨gb257, 5, none⟩ = some (.int .i64 0) := (za BK257.out 5).trans rfl
   have hfs88 := zi BK257.out 5
   have hns88_0 := NB255_257.out
   have hms88_0 := NB257_255.out
   refine jv (w1 := ?_) (by rfl) rfl ?_ ?_
   rotate_left
   ·
    go_simp
    rfl
   refine hK.out _ _ ⟨((cell_far (p := ⟨gb257, _, none⟩) NB255_257.out _).trans (hHeld.1)), ((cell_far (p := ⟨gb257, _, none⟩) NB255_257.out _).trans (hHeld.2.1)), ((cell_far (p := ⟨gb257, _, none⟩) NB255_257.out _).trans (hHeld.2.2.1)), ((cell_far (p := ⟨gb257, _, none⟩) NB255_257.out _).trans (hHeld.2.2.2.1)), ((cell_far (p := ⟨gb257, _, none⟩) NB255_257.out _).trans (hHeld.2.2.2.2.1)), ((cell_far (p := ⟨gb257, _, none⟩) NB255_257.out _).trans (hHeld.2.2.2.2.2.1)), ((cell_far (p := ⟨gb257, _, none⟩) NB255_257.out _).trans (hHeld.2.2.2.2.2.2))⟩ (fun hHeld => ?_)
   clear hK K
   refine pq_ 27 5 z6r (zo HT_.out (by kernel_rfl)) ?_
   refine ju (j9 HT_.out (by kernel_rfl)) ?_
   try go_wp2
   go_meet
   case rel => exact ⟨_, (0), (false), (a0_1), (0), (0), (a0_4), (a0_5), (by first | rfl | (simp; done) | (simp [*]; done)), (by first | rfl | (simp; done) | (simp [*]; done)), H', ⟨by first | omega | exact Nat.le_refl _⟩, ⟨by (with_reducible repeat (first | refine ze ?_ _ | refine zf ?_ | refine zc ?_ _)); refine zp ?_ NB255_257.out _; (with_reducible repeat (first | refine ze ?_ _ | refine zf ?_ | refine zc ?_ _)); refine zp ?_ NB255_257.out _; (with_reducible repeat (first | refine ze ?_ _ | refine zf ?_ | refine zc ?_ _)); refine zp ?_ NB255_257.out _; (with_reducible repeat (first | refine ze ?_ _ | refine zf ?_ | refine zc ?_ _)); exact BK255.out⟩, ⟨by (with_reducible repeat (first | refine ze ?_ _ | refine zf ?_ | refine zc ?_ _)); refine zx (cs := #[.int .i64 a0_0, .int .i64 a0_1, .int .i64 0, .int .i64 0, .int .i64 a0_4, .int .i64 0, .slice none 0 0]) ?_ 5 _ rfl; (with_reducible repeat (first | refine ze ?_ _ | refine zf ?_ | refine zc ?_ _)); refine zx (cs := #[.int .i64 a0_0, .int .i64 a0_1, .int .i64 0, .int .i64 0, .int .i64 0, .int .i64 0, .slice none 0 0]) ?_ 4 _ rfl; (with_reducible repeat (first | refine ze ?_ _ | refine zf ?_ | refine zc ?_ _)); refine zx (cs := #[.int .i64 a0_0, .int .i64 0, .int .i64 0, .int .i64 0, .int .i64 0, .int .i64 0, .slice none 0 0]) ?_ 1 _ rfl; (with_reducible repeat (first | refine ze ?_ _ | refine zf ?_ | refine zc ?_ _)); exact BK257.out⟩, ⟨by repeat (first | (with_reducible first | exact HB.out | apply z8 | apply z6 | apply z7 | refine zb ?_ GE255.out | refine zb ?_ GE257.out) | exact HB.out)⟩⟩
  subst c72
  have H1 : (if a0_5 ≥ 1 then (zq.j0 k 0 (decide (a0_5 ≤ 8)) a0_0 a0_1 a0_2 a0_3 a0_4 a0_5 l0_6 a0_0 a0_1 0 0 a0_4 a0_5) else (zq.j0 k 0 false a0_0 a0_1 a0_2 a0_3 a0_4 a0_5 l0_6 a0_0 a0_1 0 0 a0_4 a0_5)) = some r := by rw [if_pos rfl] at H; exact H
  clear H
  have H := H1
  clear H1
  by_cases c73 : a0_5 ≥ 1
  ·
   rw [if_pos c73] at H
   have c73b0 : decide (1 ≤ a0_5) = true := decide_eq_true c73
   clear c73
   have H' := Aside0.mk H
   clear H
   try go_wp2
   generalize hw_ : (((((((w12.setCell ⟨gb257, 0, none⟩ (.int .i64 a0_0)).setCell ⟨gb257, 1, none⟩ (.int .i64 0)).setCell ⟨gb257, 2, none⟩ (.int .i64 0)).setCell ⟨gb257, 3, none⟩ (.int .i64 0)).setCell ⟨gb257, 4, none⟩ (.int .i64 0)).setCell ⟨gb257, 5, none⟩ (.int .i64 0)).setCell ⟨gb257, 6, none⟩ (.slice none 0 0)) = w74
   have n0_ : Aside0 (w74.heap[gb255]? = some (.cells #[.int .i64 a0_0, .int .i64 a0_1, .int .i64 a0_2, .int .i64 a0_3, .int .i64 a0_4, .int .i64 a0_5, .slice A0_6 l0_6.length c0_6] 45 (0, 0))) := by rw [← hw_]; exact ⟨(zp (zp (zp (zp (zp (zp (zp BK255.out NB255_257.out _) NB255_257.out _) NB255_257.out _) NB255_257.out _) NB255_257.out _) NB255_257.out _) NB255_257.out _)⟩
   have n1_ : Aside0 (w74.heap[gb257]? = some (.cells #[.int .i64 a0_0, .int .i64 0, .int .i64 0, .int .i64 0, .int .i64 0, .int .i64 0, .slice none 0 0] 45 (0, 0))) := by rw [← hw_]; exact ⟨(z0d BK257.out _ _ _ _ _ _ _)⟩
   have n2_ : Aside0 (Below w.heap.size w w74) := by rw [← hw_]; exact ⟨by repeat (first | (with_reducible first | exact HB.out | apply z8 | apply z6 | apply z7 | refine zb ?_ GE255.out | refine zb ?_ GE257.out) | exact HB.out)⟩
   clear hw_
   (try clear BK255)
   (try clear BK257)
   (try clear HB)
   have BK255 := n0_
   have BK257 := n1_
   have HB := n2_
   clear n0_ n1_ n2_
   have n0_ := Aside0.mk (zf BK255.out)
   have n1_ := Aside0.mk (zf BK257.out)
   have n2_ := Aside0.mk (z7 HB.out)
   clear BK255
   clear BK257
   clear HB
   have BK255 := n0_
   have BK257 := n1_
   have HB := n2_
   clear n0_ n1_ n2_
   refine ji (n := 28) (S := fun w' => w'.cell? ⟨gb255, 0, none⟩ = some (.int .i64 a0_0) ∧ w'.cell? ⟨gb255, 1, none⟩ = some (.int .i64 a0_1) ∧ w'.cell? ⟨gb255, 2, none⟩ = some (.int .i64 a0_2) ∧ w'.cell? ⟨gb255, 3, none⟩ = some (.int .i64 a0_3) ∧ w'.cell? ⟨gb255, 4, none⟩ = some (.int .i64 a0_4) ∧ w'.cell? ⟨gb255, 5, none⟩ = some (.int .i64 a0_5) ∧ w'.cell? ⟨gb255, 6, none⟩ = some (.slice A0_6 l0_6.length c0_6)) (ds := []) z5v (by kernel_rfl) rfl rfl ⟨(za BK255.out 0).trans rfl, (za BK255.out 1).trans rfl, (za BK255.out 2).trans rfl, (za BK255.out 3).trans rfl, (za BK255.out 4).trans rfl, (za BK255.out 5).trans rfl, (za BK255.out 6).trans rfl⟩ (fun hHeld => ?_); refine uy zq.tab20 zq.bits20 (fun HT_ HW_ => ?_)
   generalize w74.drew = w75 at BK255 BK257 HB hHeld ⊢
   refine pq_ 0 89 z5w (zo HT_.out (by kernel_rfl)) ?_
   refine pq_ 2 91 z5x (zo HT_.out (by kernel_rfl)) ?_
   refine pq_ 4 93 z5y (zo HT_.out (by kernel_rfl)) ?_
   refine pq_ 6 95 z5z (zo HT_.out (by kernel_rfl)) ?_
   refine pq_ 8 97 z61 (zo HT_.out (by kernel_rfl)) ?_
   refine tq_ 1 90 z62 (yj HT_.out HW_.out (by kernel_rfl)) hHeld ?_
   refine pq_ 21 110 z63 (zo HT_.out (by kernel_rfl)) ?_
   refine tq_ 3 92 z65 (yj HT_.out HW_.out (by kernel_rfl)) hHeld ?_
   refine tq_ 5 94 z68 (yj HT_.out HW_.out (by kernel_rfl)) hHeld ?_
   refine tq_ 7 96 z69 (yj HT_.out HW_.out (by kernel_rfl)) hHeld ?_
   refine tq_ 9 98 z6a (yj HT_.out HW_.out (by kernel_rfl)) hHeld ?_
   refine ul (i := 10) (N := some 99) z6b rfl rfl (vn HT_.out (by kernel_rfl)) (by decide) (fun K hK => ?_)
   refine j5 Try.func61 (by kernel_rfl) rfl #[.int .i64 a0_1, .int .i64 a0_4] (by rfl) rfl rfl (by (try simp only [List.map_toArray, List.map_cons, List.map_nil]); first | done | rfl | (simp only [List.length_drop, List.length_take]; rfl)) ?_
   with_reducible refine (ut.calls a0_1 a0_4 true _ A71.out).mono ?_
   rintro e w' ⟨rfl, ⟨nd, rfl⟩⟩
   refine ⟨_, rfl, ?_⟩
   refine hK.out _ _ ⟨(za BK255.out 0).trans rfl, (za BK255.out 1).trans rfl, (za BK255.out 2).trans rfl, (za BK255.out 3).trans rfl, (za BK255.out 4).trans rfl, (za BK255.out 5).trans rfl, (za BK255.out 6).trans rfl⟩ (fun hHeld => ?_)
   clear hK K
   refine um (a' := ?_) ?_ ?_
   rotate_left
   ·
    show Act.put _ (some 99) _ = _
    simp only [Act.put, List.setIfInBounds_toArray, List.set_cons_zero, List.set_cons_succ, vw, ud]
    rfl
   refine pq_ 11 100 z6c (zo HT_.out (by kernel_rfl)) ?_
   refine pq_ 12 101 z6d (zo HT_.out (by kernel_rfl)) ?_
   refine tq_ 13 102 z6e (yj HT_.out HW_.out (by kernel_rfl)) hHeld ?_
   refine gz 14 103 z6f (zo HT_.out (by kernel_rfl)) ?_
   refine pq_ 15 104 z6g (zo HT_.out (by kernel_rfl)) ?_
   refine pq_ 16 105 z6h (zo HT_.out (by kernel_rfl)) ?_
   refine pq_ 17 106 z6i (zo HT_.out (by kernel_rfl)) ?_
   refine tq_ 18 107 z6j (yj HT_.out HW_.out (by kernel_rfl)) hHeld ?_
   refine gz 19 108 z6k (zo HT_.out (by kernel_rfl)) ?_
   refine pq_ 20 109 z6l (zo HT_.out (by kernel_rfl)) ?_
   refine ul (i := 22) (N := none) z6m rfl rfl (vn HT_.out (by kernel_rfl)) (by decide) (fun K hK => ?_)
   have hs76 : w75.cell? ⟨gb257, 1, none⟩ = some (.int .i64 0) := (za BK257.out 1).trans rfl
   have hfs76 := zi BK257.out 1
   have hns76_0 := NB255_257.out
   have hms76_0 := NB257_255.out
   refine jv (w1 := ?_) (by rfl) rfl ?_ ?_
   rotate_left
   ·
    go_simp
    rfl
   refine hK.out _ _ ⟨((cell_far (p := ⟨gb257, _, none⟩) NB255_257.out _).trans (hHeld.1)), ((cell_far (p := ⟨gb257, _, none⟩) NB255_257.out _).trans (hHeld.2.1)), ((cell_far (p := ⟨gb257, _, none⟩) NB255_257.out _).trans (hHeld.2.2.1)), ((cell_far (p := ⟨gb257, _, none⟩) NB255_257.out _).trans (hHeld.2.2.2.1)), ((cell_far (p := ⟨gb257, _, none⟩) NB255_257.out _).trans (hHeld.2.2.2.2.1)), ((cell_far (p := ⟨gb257, _, none⟩) NB255_257.out _).trans (hHeld.2.2.2.2.2.1)), ((cell_far (p := ⟨gb257, _, none⟩) NB255_257.out _).trans (hHeld.2.2.2.2.2.2))⟩ (fun hHeld => ?_)
   clear hK K
   refine pq_ 23 111 z6n (zo HT_.out (by kernel_rfl)) ?_
   refine ul (i := 24) (N := none) z6o rfl rfl (vn HT_.out (by kernel_rfl)) (by decide) (fun K hK => ?_)
   have hs77 : w75.cell? ⟨gb257, 4, none⟩ = some (.int .i64 0) := (za BK257.out 4).trans rfl
   have hfs77 := zi BK257.out 4
   have hns77_0 := NB255_257.out
   have hms77_0 := NB257_255.out
   refine jv (w1 := ?_) (by rfl) rfl ?_ ?_
   rotate_left
   ·
    go_simp
    rfl
   refine hK.out _ _ ⟨((cell_far (p := ⟨gb257, _, none⟩) NB255_257.out _).trans (hHeld.1)), ((cell_far (p := ⟨gb257, _, none⟩) NB255_257.out _).trans (hHeld.2.1)), ((cell_far (p := ⟨gb257, _, none⟩) NB255_257.out _).trans (hHeld.2.2.1)), ((cell_far (p := ⟨gb257, _, none⟩) NB255_257.out _).trans (hHeld.2.2.2.1)), ((cell_far (p := ⟨gb257, _, none⟩) NB255_257.out _).trans (hHeld.2.2.2.2.1)), ((cell_far (p := ⟨gb257, _, none⟩) NB255_257.out _).trans (hHeld.2.2.2.2.2.1)), ((cell_far (p := ⟨gb257, _, none⟩) NB255_257.out _).trans (hHeld.2.2.2.2.2.2))⟩ (fun hHeld => ?_)
   clear hK K
   refine pq_ 25 112 z6p (zo HT_.out (by kernel_rfl)) ?_
   refine ul (i := 26) (N := none) z6q rfl rfl (vn HT_.out (by kernel_rfl)) (by decide) (fun K hK => ?_)
   have hs78 : w75.cell? ⟨gb257, 5, none⟩ = some (.int .i64 0) := (za BK257.out 5).trans rfl
   have hfs78 := zi BK257.out 5
   have hns78_0 := NB255_257.out
   have hms78_0 := NB257_255.out
   refine jv (w1 := ?_) (by rfl) rfl ?_ ?_
   rotate_left
   ·
    go_simp
    rfl
   refine hK.out _ _ ⟨((cell_far (p := ⟨gb257, _, none⟩) NB255_257.out _).trans (hHeld.1)), ((cell_far (p := ⟨gb257, _, none⟩) NB255_257.out _).trans (hHeld.2.1)), ((cell_far (p := ⟨gb257, _, none⟩) NB255_257.out _).trans (hHeld.2.2.1)), ((cell_far (p := ⟨gb257, _, none⟩) NB255_257.out _).trans (hHeld.2.2.2.1)), ((cell_far (p := ⟨gb257, _, none⟩) NB255_257.out _).trans (hHeld.2.2.2.2.1)), ((cell_far (p := ⟨gb257, _, none⟩) NB255_257.out _).trans (hHeld.2.2.2.2.2.1)), ((cell_far (p := ⟨gb257, _, none⟩) NB255_257.out _).trans (hHeld.2.2.2.2.2.2))⟩ (fun hHeld => ?_)
   clear hK K
   refine pq_ 27 5 z6r (zo HT_.out (by kernel_rfl)) ?_
   refine ju (j9 HT_.out (by kernel_rfl)) ?_
   try go_wp2
   go_meet
   case rel => exact ⟨_, (0), (decide (a0_5 ≤ 8)), (a0_1), (0), (0), (a0_4), (a0_5), (by first | rfl | (simp; done) | (simp [*]; done)), (by first | rfl | (simp; done) | (simp [*]; done)), H', ⟨by first | omega | exact Nat.le_refl _⟩, ⟨by (with_reducible repeat (first | refine ze ?_ _ | refine zf ?_ | refine zc ?_ _)); refine zp ?_ NB255_257.out _; (with_reducible repeat (first | refine ze ?_ _ | refine zf ?_ | refine zc ?_ _)); refine zp ?_ NB255_257.out _; (with_reducible repeat (first | refine ze ?_ _ | refine zf ?_ | refine zc ?_ _)); refine zp ?_ NB255_257.out _; (with_reducible repeat (first | refine ze ?_ _ | refine zf ?_ | refine zc ?_ _)); exact BK255.out⟩, ⟨by (with_reducible repeat (first | refine ze ?_ _ | refine zf ?_ | refine zc ?_ _)); refine zx (cs := #[.int .i64 a0_0, .int .i64 a0_1, .int .i64 0, .int .i64 0, .int .i64 a0_4, .int .i64 0, .slice none 0 0]) ?_ 5 _ rfl; (with_reducible repeat (first | refine ze ?_ _ | refine zf ?_ | refine zc ?_ _)); refine zx (cs := #[.int .i64 a0_0, .int .i64 a0_1, .int .i64 0, .int .i64 0, .int .i64 0, .int .i64 0, .slice none 0 0]) ?_ 4 _ rfl; (with_reducible repeat (first | refine ze ?_ _ | refine zf ?_ | refine zc ?_ _)); refine zx (cs := #[.int .i64 a0_0, .int .i64 0, .int .i64 0, .int .i64 0, .int .i64 0, .int .i64 0, .slice none 0 0]) ?_ 1 _ rfl; (with_reducible repeat (first | refine ze ?_ _ | refine zf ?_ | refine zc ?_ _)); exact BK257.out⟩, ⟨by repeat (first | (with_reducible first | exact HB.out | apply z8 | apply z6 | apply z7 | refine zb ?_ GE255.out | refine zb ?_ GE257.out) | exact HB.out)⟩⟩
  rw [if_neg c73] at H
  have c73b0 : decide (1 ≤ a0_5) = false := decide_eq_false c73
  clear c73
  have H' := Aside0.mk H
  clear H
  try go_wp2
  generalize hw_ : (((((((w12.setCell ⟨gb257, 0, none⟩ (.int .i64 a0_0)).setCell ⟨gb257, 1, none⟩ (.int .i64 0)).setCell ⟨gb257, 2, none⟩ (.int .i64 0)).setCell ⟨gb257, 3, none⟩ (.int .i64 0)).setCell ⟨gb257, 4, none⟩ (.int .i64 0)).setCell ⟨gb257, 5, none⟩ (.int .i64 0)).setCell ⟨gb257, 6, none⟩ (.slice none 0 0)) = w79
  have n0_ : Aside0 (w79.heap[gb255]? = some (.cells #[.int .i64 a0_0, .int .i64 a0_1, .int .i64 a0_2, .int .i64 a0_3, .int .i64 a0_4, .int .i64 a0_5, .slice A0_6 l0_6.length c0_6] 45 (0, 0))) := by rw [← hw_]; exact ⟨(zp (zp (zp (zp (zp (zp (zp BK255.out NB255_257.out _) NB255_257.out _) NB255_257.out _) NB255_257.out _) NB255_257.out _) NB255_257.out _) NB255_257.out _)⟩
  have n1_ : Aside0 (w79.heap[gb257]? = some (.cells #[.int .i64 a0_0, .int .i64 0, .int .i64 0, .int .i64 0, .int .i64 0, .int .i64 0, .slice none 0 0] 45 (0, 0))) := by rw [← hw_]; exact ⟨(z0d BK257.out _ _ _ _ _ _ _)⟩
  have n2_ : Aside0 (Below w.heap.size w w79) := by rw [← hw_]; exact ⟨by repeat (first | (with_reducible first | exact HB.out | apply z8 | apply z6 | apply z7 | refine zb ?_ GE255.out | refine zb ?_ GE257.out) | exact HB.out)⟩
  clear hw_
  (try clear BK255)
  (try clear BK257)
  (try clear HB)
  have BK255 := n0_
  have BK257 := n1_
  have HB := n2_
  clear n0_ n1_ n2_
  have n0_ := Aside0.mk (zf BK255.out)
  have n1_ := Aside0.mk (zf BK257.out)
  have n2_ := Aside0.mk (z7 HB.out)
  clear BK255
  clear BK257
  clear HB
  have BK255 := n0_
  have BK257 := n1_
  have HB := n2_
  clear n0_ n1_ n2_
  refine ji (n := 28) (S := fun w' => w'.cell? ⟨gb255, 0, none⟩ = some (.int .i64 a0_0) ∧ w'.cell? ⟨gb255, 1, none⟩ = some (.int .i64 a0_1) ∧ w'.cell? ⟨gb255, 2, none⟩ = some (.int .i64 a0_2) ∧ w'.cell? ⟨gb255, 3, none⟩ = some (.int .i64 a0_3) ∧ w'.cell? ⟨gb255, 4, none⟩ = some (.int .i64 a0_4) ∧ w'.cell? ⟨gb255, 5, none⟩ = some (.int .i64 a0_5) ∧ w'.cell? ⟨gb255, 6, none⟩ = some (.slice A0_6 l0_6.length c0_6)) (ds := []) z5v (by kernel_rfl) rfl rfl ⟨(za BK255.out 0).trans rfl, (za BK255.out 1).trans rfl, (za BK255.out 2).trans rfl, (za BK255.out 3).trans rfl, (za BK255.out 4).trans rfl, (za BK255.out 5).trans rfl, (za BK255.out 6).trans rfl⟩ (fun hHeld => ?_); refine uy zq.tab20 zq.bits20 (fun HT_ HW_ => ?_)
  generalize w79.drew = w80 at BK255 BK257 HB hHeld ⊢
  refine pq_ 0 89 z5w (zo HT_.out (by kernel_rfl)) ?_
  refine pq_ 2 91 z5x (zo HT_.out (by kernel_rfl)) ?_
  refine pq_ 4 93 z5y (zo HT_.out (by kernel_rfl)) ?_
  refine pq_ 6 95 z5z (zo HT_.out (by kernel_rfl)) ?_
  refine pq_ 8 97 z61 (zo HT_.out (by kernel_rfl)) ?_
  refine tq_ 1 90 z62 (yj HT_.out HW_.out (by kernel_rfl)) hHeld ?_
  refine pq_ 21 110 z63 (zo HT_.out (by kernel_rfl)) ?_
  refine tq_ 3 92 z65 (yj HT_.out HW_.out (by kernel_rfl)) hHeld ?_
  refine tq_ 5 94 z68 (yj HT_.out HW_.out (by kernel_rfl)) hHeld ?_
  refine tq_ 7 96 z69 (yj HT_.out HW_.out (by kernel_rfl)) hHeld ?_
  refine tq_ 9 98 z6a (yj HT_.out HW_.out (by kernel_rfl)) hHeld ?_
  refine ul (i := 10) (N := some 99) z6b rfl rfl (vn HT_.out (by kernel_rfl)) (by decide) (fun K hK => ?_)
  refine j5 Try.func61 (by kernel_rfl) rfl #[.int .i64 a0_1, .int .i64 a0_4] (by rfl) rfl rfl (by (try simp only [List.map_toArray, List.map_cons, List.map_nil]); first | done | rfl | (simp only [List.length_drop, List.length_take]; rfl)) ?_
  with_reducible refine (ut.calls a0_1 a0_4 true _ A71.out).mono ?_
  rintro e w' ⟨rfl, ⟨nd, rfl⟩⟩
  refine ⟨_, rfl, ?_⟩
  refine hK.out _ _ ⟨(za BK255.out 0).trans rfl, (za BK255.out 1).trans rfl, (za BK255.out 2).trans rfl, (za BK255.out 3).trans rfl, (za BK255.out 4).trans rfl, (za BK255.out 5).trans rfl, (za BK255.out 6).trans rfl⟩ (fun hHeld => ?_)
  clear hK K
  refine um (a' := ?_) ?_ ?_
  rotate_left
  ·
   show Act.put _ (some 99) _ = _
   simp only [Act.put, List.setIfInBounds_toArray, List.set_cons_zero, List.set_cons_succ, vw, ud]
   rfl
  refine pq_ 11 100 z6c (zo HT_.out (by kernel_rfl)) ?_
  refine pq_ 12 101 z6d (zo HT_.out (by kernel_rfl)) ?_
  refine tq_ 13 102 z6e (yj HT_.out HW_.out (by kernel_rfl)) hHeld ?_
  refine gz 14 103 z6f (zo HT_.out (by kernel_rfl)) ?_
  refine pq_ 15 104 z6g (zo HT_.out (by kernel_rfl)) ?_
  refine pq_ 16 105 z6h (zo HT_.out (by kernel_rfl)) ?_
  refine uf 17 106 z6i (zo HT_.out (by kernel_rfl)) ?_
  refine uf 18 107 z6j (zo HT_.out (by kernel_rfl)) ?_
  refine uf 19 108 z6k (zo HT_.out (by kernel_rfl)) ?_
  refine pq_ 20 109 z6l (zo HT_.out (by kernel_rfl)) ?_
  refine ul (i := 22) (N := none) z6m rfl rfl (vn HT_.out (by kernel_rfl)) (by decide) (fun K hK => ?_)
  have hs81 : w80.cell? ⟨gb257, 1, none⟩ = some (.int .i64 0) := (za BK257.out 1).trans rfl
  have hfs81 := zi BK257.out 1
  have hns81_0 := NB255_257.out
  have hms81_0 := NB257_255.out
  refine jv (w1 := ?_) (by rfl) rfl ?_ ?_
  rotate_left
  ·
   go_simp
   rfl
  refine hK.out _ _ ⟨((cell_far (p := ⟨gb257, _, none⟩) NB255_257.out _).trans (hHeld.1)), ((cell_far (p := ⟨gb257, _, none⟩) NB255_257.out _).trans (hHeld.2.1)), ((cell_far (p := ⟨gb257, _, none⟩) NB255_257.out _).trans (hHeld.2.2.1)), ((cell_far (p := ⟨gb257, _, none⟩) NB255_257.out _).trans (hHeld.2.2.2.1)), ((cell_far (p := ⟨gb257, _, none⟩) NB255_257.out _).trans (hHeld.2.2.2.2.1)), ((cell_far (p := ⟨gb257, _, none⟩) NB255_257.out _).trans (hHeld.2.2.2.2.2.1)), ((cell_far (p := ⟨gb257, _, none⟩) NB255_257.out _).trans (hHeld.2.2.2.2.2.2))⟩ (fun hHeld => ?_)
  clear hK K
  refine pq_ 23 111 z6n (zo HT_.out (by kernel_rfl)) ?_
  refine ul (i := 24) (N := none) z6o rfl rfl (vn HT_.out (by kernel_rfl)) (by decide) (fun K hK => ?_)
  have hs82 : w80.cell? ⟨gb257, 4, none⟩ = some (.int .i64 0) := (za BK257.out 4).trans rfl
  have hfs82 := zi BK257.out 4
  have hns82_0 := NB255_257.out
  have hms82_0 := NB257_255.out
  refine jv (w1 := ?_) (by rfl) rfl ?_ ?_
  rotate_left
  ·
   go_simp
   rfl
  refine hK.out _ _ ⟨((cell_far (p := ⟨gb257, _, none⟩) NB255_257.out _).trans (hHeld.1)), ((cell_far (p := ⟨gb257, _, none⟩) NB255_257.out _).trans (hHeld.2.1)), ((cell_far (p := ⟨gb257, _, none⟩) NB255_257.out _).trans (hHeld.2.2.1)), ((cell_far (p := ⟨gb257, _, none⟩) NB255_257.out _).trans (hHeld.2.2.2.1)), ((cell_far (p := ⟨gb257, _, none⟩) NB255_257.out _).trans (hHeld.2.2.2.2.1)), ((cell_far (p := ⟨gb257, _, none⟩) NB255_257.out _).trans (hHeld.2.2.2.2.2.1)), ((cell_far (p := ⟨gb257, _, none⟩) NB255_257.out _).trans (hHeld.2.2.2.2.2.2))⟩ (fun hHeld => ?_)
  clear hK K
  refine pq_ 25 112 z6p (zo HT_.out (by kernel_rfl)) ?_
  refine ul (i := 26) (N := none) z6q rfl rfl (vn HT_.out (by kernel_rfl)) (by decide) (fun K hK => ?_)
  have hs83 : w80.cell? ⟨gb257, 5, none⟩ = some (.int .i64 0) := (za BK257.out 5).trans rfl
  have hfs83 := zi BK257.out 5
  have hns83_0 := NB255_257.out
  have hms83_0 := NB257_255.out
  refine jv (w1 := ?_) (by rfl) rfl ?_ ?_
  rotate_left
  ·
   go_simp
   rfl
  refine hK.out _ _ ⟨((cell_far (p := ⟨gb257, _, none⟩) NB255_257.out _).trans (hHeld.1)), ((cell_far (p := ⟨gb257, _, none⟩) NB255_257.out _).trans (hHeld.2.1)), ((cell_far (p := ⟨gb257, _, none⟩) NB255_257.out _).trans (hHeld.2.2.1)), ((cell_far (p := ⟨gb257, _, none⟩) NB255_257.out _).trans (hHeld.2.2.2.1)), ((cell_far (p := ⟨gb257, _, none⟩) NB255_257.out _).trans (hHeld.2.2.2.2.1)), ((cell_far (p := ⟨gb257, _, none⟩) NB255_257.out _).trans (hHeld.2.2.2.2.2.1)), ((cell_far (p := ⟨gb257, _, none⟩) NB255_257.out _).trans (hHeld.2.2.2.2.2.2))⟩ (fun hHeld => ?_)
  clear hK K
  refine pq_ 27 5 z6r (zo HT_.out (by kernel_rfl)) ?_
  refine ju (j9 HT_.out (by kernel_rfl)) ?_
  try go_wp2
  go_meet
  case rel => exact ⟨_, (0), (false), (a0_1), (0), (0), (a0_4), (a0_5), (by first | rfl | (simp; done) | (simp [*]; done)), (by first | rfl | (simp; done) | (simp [*]; done)), H', ⟨by first | omega | exact Nat.le_refl _⟩, ⟨by (with_reducible repeat (first | refine ze ?_ _ | refine zf ?_ | refine zc ?_ _)); refine zp ?_ NB255_257.out _; (with_reducible repeat (first | refine ze ?_ _ | refine zf ?_ | refine zc ?_ _)); refine zp ?_ NB255_257.out _; (with_reducible repeat (first | refine ze ?_ _ | refine zf ?_ | refine zc ?_ _)); refine zp ?_ NB255_257.out _; (with_reducible repeat (first | refine ze ?_ _ | refine zf ?_ | refine zc ?_ _)); exact BK255.out⟩, ⟨by (with_reducible repeat (first | refine ze ?_ _ | refine zf ?_ | refine zc ?_ _)); refine zx (cs := #[.int .i64 a0_0, .int .i64 a0_1, .int .i64 0, .int .i64 0, .int .i64 a0_4, .int .i64 0, .slice none 0 0]) ?_ 5 _ rfl; (with_reducible repeat (first | refine ze ?_ _ | refine zf ?_ | refine zc ?_ _)); refine zx (cs := #[.int .i64 a0_0, .int .i64 a0_1, .int .i64 0, .int .i64 0, .int .i64 0, .int .i64 0, .slice none 0 0]) ?_ 4 _ rfl; (with_reducible repeat (first | refine ze ?_ _ | refine zf ?_ | refine zc ?_ _)); refine zx (cs := #[.int .i64 a0_0, .int .i64 0, .int .i64 0, .int .i64 0, .int .i64 0, .int .i64 0, .slice none 0 0]) ?_ 1 _ rfl; (with_reducible repeat (first | refine ze ?_ _ | refine zf ?_ | refine zc ?_ _)); exact BK257.out⟩, ⟨by repeat (first | (with_reducible first | exact HB.out | apply z8 | apply z6 | apply z7 | refine zb ?_ GE255.out | refine zb ?_ GE257.out) | exact HB.out)⟩⟩
 case rest =>
  clear HC7
  try clear p2
  try clear c6
  try clear c7
  try clear c61
  try clear c70
  try clear c70b0
  try clear c70b1
  try clear c72
  try clear c73
  try clear c73b0
  obtain ⟨kq, x4_6, x5_6, x258001_6, x258002_6, x258003_6, x258004_6, x258005_6, rfl, rfl, HA, HJ6, BK255, BK257, HB⟩ := hcut
  cases kq with
  | zero => exact absurd HA.out (by simp [zq.j0])
  | succ kj6 =>
   have H := HA.out
   clear HA
   simp only [zq.j0] at H
   by_cases c89 : x5_6 = true
   rotate_left
   ·
    replace c89 := Bool.eq_false_iff.mpr c89
    subst c89
    have H1 : (some false) = some r := by rw [if_neg (show ¬ (false = true) by decide)] at H; exact H
    clear H
    have H := H1
    clear H1
    obtain rfl := Option.some.inj H
    go_wp2
    go_ret
    exact ⟨by first | rfl | (simp [zm, zn] <;> rfl) | (simp [*, zm, zn] <;> rfl), by repeat (first | (with_reducible first | exact HB.out | apply z8 | apply z6 | apply z7 | refine zb ?_ GE255.out | refine zb ?_ GE257.out) | exact HB.out)⟩
   subst c89
   have H1 : (if (l0_6.length : Int) = x4_6 then (if a0_1 = x258001_6 then (if a0_2 = x258002_6 then (if a0_3 = x258003_6 then (if a0_4 = x258004_6 then (some (a0_5 == x258005_6)) else (some false)) else (some false)) else (some false)) else (some false)) else (some false)) = some r := by rw [if_pos rfl] at H; exact H
   clear H
   have H := H1
   clear H1
   by_cases c90 : (l0_6.length : Int) = x4_6
   rotate_left
   ·
    rw [if_neg c90] at H
    have c90b0 : ((l0_6.length : Int) == x4_6) = false := beq_eq_false_iff_ne.mpr c90
    have c90b1 : ((l0_6.length : Int) != x4_6) = true := bne_iff_ne.mpr c90
    obtain rfl := Option.some.inj H
    have hnb110 := NB255_257.out
    have hnc110 := NB257_255.out
    have hcz111_0 := ug BK255.out
    have hfz111_0 := fun j_ => zi BK255.out j_
    go_wp2
    go_ret
    exact ⟨by first | rfl | (simp [zm, zn] <;> rfl) | (simp [*, zm, zn] <;> rfl), by repeat (first | (with_reducible first | exact HB.out | apply z8 | apply z6 | apply z7 | refine zb ?_ GE255.out | refine zb ?_ GE257.out) | exact HB.out)⟩
   rw [if_pos c90] at H
   have c90b0 : ((l0_6.length : Int) == x4_6) = true := beq_iff_eq.mpr c90
   have c90b1 : ((l0_6.length : Int) != x4_6) = false := bne_eq_false_iff_eq.mpr c90
   clear c90
   by_cases c91 : a0_1 = x258001_6
   rotate_left
   ·
    rw [if_neg c91] at H
    have c91b0 : (a0_1 == x258001_6) = false := beq_eq_false_iff_ne.mpr c91
    have c91b1 : (a0_1 != x258001_6) = true := bne_iff_ne.mpr c91
    obtain rfl := Option.some.inj H
    have hnb107 := NB255_257.out
    have hnc107 := NB257_255.out
    have hcz108_0 := ug BK255.out
    have hfz108_0 := fun j_ => zi BK255.out j_
    have hcz109_0 := ug BK257.out
    have hfz109_0 := fun j_ => zi BK257.out j_
    go_wp2
    go_ret
    exact ⟨by first | rfl | (simp [zm, zn] <;> rfl) | (simp [*, zm, zn] <;> rfl), by repeat (first | (with_reducible first | exact HB.out | apply z8 | apply z6 | apply z7 | refine zb ?_ GE255.out | refine zb ?_ GE257.out) | exact HB.out)⟩
   rw [if_pos c91] at H
   have c91b0 : (a0_1 == x258001_6) = true := beq_iff_eq.mpr c91
   have c91b1 : (a0_1 != x258001_6) = false := bne_eq_false_iff_eq.mpr c91
   clear c91
   by_cases c92 : a0_2 = x258002_6
   rotate_left
   ·
    rw [if_neg c92] at H
    have c92b0 : (a0_2 == x258002_6) = false := beq_eq_false_iff_ne.mpr c92
    have c92b1 : (a0_2 != x258002_6) = true := bne_iff_ne.mpr c92
    obtain rfl := Option.some.inj H
    have hnb104 := NB255_257.out
    have hnc104 := NB257_255.out
    have hcz105_0 := ug BK255.out
    have hfz105_0 := fun j_ => zi BK255.out j_
    have hcz106_0 := ug BK257.out
    have hfz106_0 := fun j_ => zi BK257.out j_
    go_wp2
    go_ret
    exact ⟨by first | rfl | (simp [zm, zn] <;> rfl) | (simp [*, zm, zn] <;> rfl), by repeat (first | (with_reducible first | exact HB.out | apply z8 | apply z6 | apply z7 | refine zb ?_ GE255.out | refine zb ?_ GE257.out) | exact HB.out)⟩
   rw [if_pos c92] at H
   have c92b0 : (a0_2 == x258002_6) = true := beq_iff_eq.mpr c92
   have c92b1 : (a0_2 != x258002_6) = false := bne_eq_false_iff_eq.mpr c92
   clear c92
   by_cases c93 : a0_3 = x258003_6
   rotate_left
   ·
    rw [if_neg c93] at H
    have c93b0 : (a0_3 == x258003_6) = false := beq_eq_false_iff_ne.mpr c93
    have c93b1 : (a0_3 != x258003_6) = true := bne_iff_ne.mpr c93
    obtain rfl := Option.some.inj H
    have hnb101 := NB255_257.out
    have hnc101 := NB257_255.out
    have hcz102_0 := ug BK255.out
    have hfz102_0 := fun j_ => zi BK255.out j_
    have hcz103_0 := ug BK257.out
    have hfz103_0 := fun j_ => zi BK257.out j_
    go_wp2
    go_ret
    exact ⟨by first | rfl | (simp [zm, zn] <;> rfl) | (simp [*, zm, zn] <;> rfl), by repeat (first | (with_reducible first | exact HB.out | apply z8 | apply z6 | apply z7 | refine zb ?_ GE255.out | refine zb ?_ GE257.out) | exact HB.out)⟩
   rw [if_pos c93] at H
   have c93b0 : (a0_3 == x258003_6) = true := beq_iff_eq.mpr c93
   have c93b1 : (a0_3 != x258003_6) = false := bne_eq_false_iff_eq.mpr c93
   clear c93
   by_cases c94 : a0_4 = x258004_6
   rotate_left
   ·
    rw [if_neg c94] at H
    have c94b0 : (a0_4 == x258004_6) = false := beq_eq_false_iff_ne.mpr c94
    have c94b1 : (a0_4 != x258004_6) = true := bne_iff_ne.mpr c94
    obtain rfl := Option.some.inj H
    have hnb98 := NB255_257.out
    have hnc98 := NB257_255.out
    have hcz99_0 := ug BK255.out
    have hfz99_0 := fun j_ => zi BK255.out j_
    have hcz100_0 := ug BK257.out
    have hfz100_0 := fun j_ => zi BK257.out j_
    go_wp2
    go_ret
    exact ⟨by first | rfl | (simp [zm, zn] <;> rfl) | (simp [*, zm, zn] <;> rfl), by repeat (first | (with_reducible first | exact HB.out | apply z8 | apply z6 | apply z7 | refine zb ?_ GE255.out | refine zb ?_ GE257.out) | exact HB.out)⟩
   rw [if_pos c94] at H
   have c94b0 : (a0_4 == x258004_6) = true := beq_iff_eq.mpr c94
   have c94b1 : (a0_4 != x258004_6) = false := bne_eq_false_iff_eq.mpr c94
   clear c94
   obtain rfl := Option.some.inj H
   have hnb95 := NB255_257.out
   have hnc95 := NB257_255.out
   have hcz96_0 := ug BK255.out
   have hfz96_0 := fun j_ => zi BK255.out j_
   have hcz97_0 := ug BK257.out
   have hfz97_0 := fun j_ => zi BK257.out j_
   go_wp2
   go_ret
   exact ⟨by first | rfl | (simp [zm, zn] <;> rfl) | (simp [*, zm, zn] <;> rfl), by repeat (first | (with_reducible first | exact HB.out | apply z8 | apply z6 | apply z7 | refine zb ?_ GE255.out | refine zb ?_ GE257.out) | exact HB.out)⟩
end Go.Proofs.Ytadfohbogoocgaa.PA
