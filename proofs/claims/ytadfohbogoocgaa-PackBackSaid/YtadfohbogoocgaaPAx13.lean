import Derived.Test.YtadfohbogoocgaaPAx0
import Derived.Test.YtadfohbogoocgaaPAx2
import Derived.Test.YtadfohbogoocgaaPAx6
import Derived.Test.YtadfohbogoocgaaPAx8
import Derived.Test.YtadfohbogoocgaaPAx9
import Derived.Test.YtadfohbogoocgaaPAx11
import Derived.Test.YtadfohbogoocgaaPAx12
namespace Go.Proofs.Ytadfohbogoocgaa.PA
open Go.RowKit Go.Proofs.YtadfohbogoocgaaW.PrintWords Go.Proofs.YtadfohbogoocgaaW.PrintLast Go.Proofs.YtadfohbogoocgaaW.PrintMore Go.Proofs.YtadfohbogoocgaaX Go.Proofs.YtadfohbogoocgaaB Go.Proofs.YtadfohbogoocgaaPq
attribute [local go_sem] gi gj gx gy jr js gm gn
set_option linter.unusedVariables false
set_option linter.unusedSimpArgs false
mutual
def zh.l0 : Nat → Int → List (S38) → List (S36) → List Int → List (S45) → List ByteArray → Option (Bool)
  | 0, _, _, _, _, _, _ => none
  | k + 1, x3, x343000, x343001, x343002, x343003, x343004 => if x3 < (x343000.length : Int) then (zh.j1 k x3 (decide (x3 < 8)) x343000 x343001 x343002 x343003 x343004) else (zh.j1 k x3 false x343000 x343001 x343002 x343003 x343004)
def zh.j1 : Nat → Int → Bool → List (S38) → List (S36) → List Int → List (S45) → List ByteArray → Option (Bool)
  | 0, _, _, _, _, _, _, _ => none
  | k + 1, x3, x27, x343000, x343001, x343002, x343003, x343004 => if x27 = true then (if 0 ≤ x3 then (if x3 < (x343000.length : Int) then ((jm.f k ((zg x343000 x3).f0) ((zg x343000 x3).f1) ((zg x343000 x3).f2) ((zg x343000 x3).f3.f0) ((zg x343000 x3).f3.f1) ((zg x343000 x3).f3.f2) ((zg x343000 x3).f4) ((zg x343000 x3).f5) ((zg x343000 x3).f6) ((zg x343000 x3).f7) ((zg x343000 x3).f8)).bind fun bt345 => ((zy.f bt345.2).bind fun t347 => (if t347 = 0 then (if bt345.1.size + 6 ≤ 9223372036854775807 then ((uo.f k (bt345.1 ++ (⟨#[98, 101, 104, 105, 110, 100]⟩ : ByteArray))).bind fun bt348 => ((zy.f bt348.2.2.2.2.2.2.2.2.2.2.2.2).bind fun t364 => (if t364 = 0 then ((yu.f k bt348.1 bt348.2.1 bt348.2.2.1 bt348.2.2.2.1 bt348.2.2.2.2.1 bt348.2.2.2.2.2.1 bt348.2.2.2.2.2.2.1 bt348.2.2.2.2.2.2.2.1 bt348.2.2.2.2.2.2.2.2.1 bt348.2.2.2.2.2.2.2.2.2.1 bt348.2.2.2.2.2.2.2.2.2.2.1 ((zg x343000 x3).f0) ((zg x343000 x3).f1) ((zg x343000 x3).f2) ((zg x343000 x3).f3.f0) ((zg x343000 x3).f3.f1) ((zg x343000 x3).f3.f2) ((zg x343000 x3).f4) ((zg x343000 x3).f5) ((zg x343000 x3).f6) ((zg x343000 x3).f7) ((zg x343000 x3).f8)).bind fun t366 => (if t366 = true then (if bt348.2.2.2.2.2.2.2.2.2.2.2.1.toList = ([98, 101, 104, 105, 110, 100] : List UInt8) then (zh.l0 k (wrap64 (x3 + 1)) x343000 x343001 x343002 x343003 x343004) else (none)) else (none))) else (none)))) else (none)) else (zh.l0 k (wrap64 (x3 + 1)) x343000 x343001 x343002 x343003 x343004)))) else (none)) else (none)) else (zh.l1 k 0 x343000 x343001 x343002 x343003 x343004)
def zh.l1 : Nat → Int → List (S38) → List (S36) → List Int → List (S45) → List ByteArray → Option (Bool)
  | 0, _, _, _, _, _, _ => none
  | k + 1, x9, x343000, x343001, x343002, x343003, x343004 => if x9 < (x343003.length : Int) then (zh.j3 k x9 (decide (x9 < 8)) x343000 x343001 x343002 x343003 x343004) else (zh.j3 k x9 false x343000 x343001 x343002 x343003 x343004)
def zh.j3 : Nat → Int → Bool → List (S38) → List (S36) → List Int → List (S45) → List ByteArray → Option (Bool)
  | 0, _, _, _, _, _, _, _ => none
  | k + 1, x9, x76, x343000, x343001, x343002, x343003, x343004 => if x76 = true then (if 0 ≤ x9 then (if x9 < (x343003.length : Int) then ((uj.f k ((yg x343003 x9).f0) ((yg x343003 x9).f1) ((yg x343003 x9).f2) ((yg x343003 x9).f3) ((yg x343003 x9).f4) ((yg x343003 x9).f5) ((yg x343003 x9).f6)).bind fun bt370 => ((zy.f bt370.2).bind fun t372 => (if t372 = 0 then ((ym.f k bt370.1).bind fun bt373 => (if bt370.1.size + 1 ≤ 9223372036854775807 then ((ym.f k (bt370.1 ++ (⟨#[1]⟩ : ByteArray))).bind fun bt384 => ((zy.f bt373.2.2.2.2.2.2.2).bind fun t395 => (if t395 = 0 then ((zy.f bt384.2.2.2.2.2.2.2).bind fun t396 => (if t396 = 7 then ((yz.f k bt373.1 bt373.2.1 bt373.2.2.1 bt373.2.2.2.1 bt373.2.2.2.2.1 bt373.2.2.2.2.2.1 bt373.2.2.2.2.2.2.1 ((yg x343003 x9).f0) ((yg x343003 x9).f1) ((yg x343003 x9).f2) ((yg x343003 x9).f3) ((yg x343003 x9).f4) ((yg x343003 x9).f5) ((yg x343003 x9).f6)).bind fun t398 => (if t398 = true then (zh.l1 k (wrap64 (x9 + 1)) x343000 x343001 x343002 x343003 x343004) else (none))) else (none))) else (none)))) else (none))) else (zh.l1 k (wrap64 (x9 + 1)) x343000 x343001 x343002 x343003 x343004)))) else (none)) else (none)) else ((gb.f 97).bind fun t367 => (if t367 = true then ((vm.f k).bind fun t368 => (some t368)) else (none)))
end
def zh.f (k : Nat) (l0_0 : List (S38)) (l0_1 : List (S36)) (l0_2 : List Int) (l0_3 : List (S45)) (l0_4 : List ByteArray) : Option (Bool) := (yc.f k l0_0 l0_1 l0_2 l0_3 l0_4).bind fun t343 => (if t343 = true then (some true) else (zh.l0 k 0 l0_0 l0_1 l0_2 l0_3 l0_4))
theorem zh.mono_l : ∀ k, (∀ y0 y1 y2 y3 y4 y5, LeO (zh.l0 k y0 y1 y2 y3 y4 y5) (zh.l0 (k + 1) y0 y1 y2 y3 y4 y5)) ∧ (∀ y0 y1 y2 y3 y4 y5 y6, LeO (zh.j1 k y0 y1 y2 y3 y4 y5 y6) (zh.j1 (k + 1) y0 y1 y2 y3 y4 y5 y6)) ∧ (∀ y0 y1 y2 y3 y4 y5, LeO (zh.l1 k y0 y1 y2 y3 y4 y5) (zh.l1 (k + 1) y0 y1 y2 y3 y4 y5)) ∧ (∀ y0 y1 y2 y3 y4 y5 y6, LeO (zh.j3 k y0 y1 y2 y3 y4 y5 y6) (zh.j3 (k + 1) y0 y1 y2 y3 y4 y5 y6))
  | 0 => ⟨fun _ _ _ _ _ _ r h => by simp [zh.l0] at h, fun _ _ _ _ _ _ _ r h => by simp [zh.j1] at h, fun _ _ _ _ _ _ r h => by simp [zh.l1] at h, fun _ _ _ _ _ _ _ r h => by simp [zh.j3] at h⟩
  | k + 1 => by
    obtain ⟨ih0, ih1, ih2, ih3⟩ := zh.mono_l k
    refine ⟨?_, ?_, ?_, ?_⟩
    · intro y0 y1 y2 y3 y4 y5
      unfold zh.l0
      repeat' first
      | (with_reducible exact ih0 _ _ _ _ _ _)
      | (with_reducible exact ih1 _ _ _ _ _ _ _)
      | (with_reducible exact ih2 _ _ _ _ _ _)
      | (with_reducible exact ih3 _ _ _ _ _ _ _)
      | (with_reducible exact yc.mono _ _ _ _ _ _)
      | (with_reducible exact vm.mono _)
      | (with_reducible exact yz.mono _ _ _ _ _ _ _ _ _ _ _ _ _ _ _)
      | (with_reducible exact yu.mono _ _ _ _ _ _ _ _ _ _ _ _ _ _ _ _ _ _ _ _ _ _ _)
      | (with_reducible exact uj.mono _ _ _ _ _ _ _ _)
      | (with_reducible exact jm.mono _ _ _ _ _ _ _ _ _ _ _ _)
      | (with_reducible exact ym.mono _ _)
      | (with_reducible exact uo.mono _ _)
      | (with_reducible exact LeO.refl _)
      | (with_reducible exact LeO.none _)
      | (with_reducible refine LeO.ite ?_ ?_)
      | (with_reducible refine LeO.bind ?_ (fun _ => ?_))
      | exact ih0 _ _ _ _ _ _
      | exact ih1 _ _ _ _ _ _ _
      | exact ih2 _ _ _ _ _ _
      | exact ih3 _ _ _ _ _ _ _
      | exact yc.mono _ _ _ _ _ _
      | exact vm.mono _
      | exact yz.mono _ _ _ _ _ _ _ _ _ _ _ _ _ _ _
      | exact yu.mono _ _ _ _ _ _ _ _ _ _ _ _ _ _ _ _ _ _ _ _ _ _ _
      | exact uj.mono _ _ _ _ _ _ _ _
      | exact jm.mono _ _ _ _ _ _ _ _ _ _ _ _
      | exact ym.mono _ _
      | exact uo.mono _ _
      | exact LeO.none _
      | refine LeO.ite ?_ ?_
      | refine LeO.bind ?_ (fun _ => ?_)
    · intro y0 y1 y2 y3 y4 y5 y6
      unfold zh.j1
      repeat' first
      | (with_reducible exact ih0 _ _ _ _ _ _)
      | (with_reducible exact ih1 _ _ _ _ _ _ _)
      | (with_reducible exact ih2 _ _ _ _ _ _)
      | (with_reducible exact ih3 _ _ _ _ _ _ _)
      | (with_reducible exact yc.mono _ _ _ _ _ _)
      | (with_reducible exact vm.mono _)
      | (with_reducible exact yz.mono _ _ _ _ _ _ _ _ _ _ _ _ _ _ _)
      | (with_reducible exact yu.mono _ _ _ _ _ _ _ _ _ _ _ _ _ _ _ _ _ _ _ _ _ _ _)
      | (with_reducible exact uj.mono _ _ _ _ _ _ _ _)
      | (with_reducible exact jm.mono _ _ _ _ _ _ _ _ _ _ _ _)
      | (with_reducible exact ym.mono _ _)
      | (with_reducible exact uo.mono _ _)
      | (with_reducible exact LeO.refl _)
      | (with_reducible exact LeO.none _)
      | (with_reducible refine LeO.ite ?_ ?_)
      | (with_reducible refine LeO.bind ?_ (fun _ => ?_))
      | exact ih0 _ _ _ _ _ _
      | exact ih1 _ _ _ _ _ _ _
      | exact ih2 _ _ _ _ _ _
      | exact ih3 _ _ _ _ _ _ _
      | exact yc.mono _ _ _ _ _ _
      | exact vm.mono _
      | exact yz.mono _ _ _ _ _ _ _ _ _ _ _ _ _ _ _
      | exact yu.mono _ _ _ _ _ _ _ _ _ _ _ _ _ _ _ _ _ _ _ _ _ _ _
      | exact uj.mono _ _ _ _ _ _ _ _
      | exact jm.mono _ _ _ _ _ _ _ _ _ _ _ _
      | exact ym.mono _ _
      | exact uo.mono _ _
      | exact LeO.none _
      | refine LeO.ite ?_ ?_
      | refine LeO.bind ?_ (fun _ => ?_)
    · intro y0 y1 y2 y3 y4 y5
      unfold zh.l1
      repeat' first
      | (with_reducible exact ih0 _ _ _ _ _ _)
      | (with_reducible exact ih1 _ _ _ _ _ _ _)
      | (with_reducible exact ih2 _ _ _ _ _ _)
      | (with_reducible exact ih3 _ _ _ _ _ _ _)
      | (with_reducible exact yc.mono _ _ _ _ _ _)
      | (with_reducible exact vm.mono _)
      | (with_reducible exact yz.mono _ _ _ _ _ _ _ _ _ _ _ _ _ _ _)
      | (with_reducible exact yu.mono _ _ _ _ _ _ _ _ _ _ _ _ _ _ _ _ _ _ _ _ _ _ _)
      | (with_reducible exact uj.mono _ _ _ _ _ _ _ _)
      | (with_reducible exact jm.mono _ _ _ _ _ _ _ _ _ _ _ _)
      | (with_reducible exact ym.mono _ _)
      | (with_reducible exact uo.mono _ _)
      | (with_reducible exact LeO.refl _)
      | (with_reducible exact LeO.none _)
      | (with_reducible refine LeO.ite ?_ ?_)
      | (with_reducible refine LeO.bind ?_ (fun _ => ?_))
      | exact ih0 _ _ _ _ _ _
      | exact ih1 _ _ _ _ _ _ _
      | exact ih2 _ _ _ _ _ _
      | exact ih3 _ _ _ _ _ _ _
      | exact yc.mono _ _ _ _ _ _
      | exact vm.mono _
      | exact yz.mono _ _ _ _ _ _ _ _ _ _ _ _ _ _ _
      | exact yu.mono _ _ _ _ _ _ _ _ _ _ _ _ _ _ _ _ _ _ _ _ _ _ _
      | exact uj.mono _ _ _ _ _ _ _ _
      | exact jm.mono _ _ _ _ _ _ _ _ _ _ _ _
      | exact ym.mono _ _
      | exact uo.mono _ _
      | exact LeO.none _
      | refine LeO.ite ?_ ?_
      | refine LeO.bind ?_ (fun _ => ?_)
    · intro y0 y1 y2 y3 y4 y5 y6
      unfold zh.j3
      repeat' first
      | (with_reducible exact ih0 _ _ _ _ _ _)
      | (with_reducible exact ih1 _ _ _ _ _ _ _)
      | (with_reducible exact ih2 _ _ _ _ _ _)
      | (with_reducible exact ih3 _ _ _ _ _ _ _)
      | (with_reducible exact yc.mono _ _ _ _ _ _)
      | (with_reducible exact vm.mono _)
      | (with_reducible exact yz.mono _ _ _ _ _ _ _ _ _ _ _ _ _ _ _)
      | (with_reducible exact yu.mono _ _ _ _ _ _ _ _ _ _ _ _ _ _ _ _ _ _ _ _ _ _ _)
      | (with_reducible exact uj.mono _ _ _ _ _ _ _ _)
      | (with_reducible exact jm.mono _ _ _ _ _ _ _ _ _ _ _ _)
      | (with_reducible exact ym.mono _ _)
      | (with_reducible exact uo.mono _ _)
      | (with_reducible exact LeO.refl _)
      | (with_reducible exact LeO.none _)
      | (with_reducible refine LeO.ite ?_ ?_)
      | (with_reducible refine LeO.bind ?_ (fun _ => ?_))
      | exact ih0 _ _ _ _ _ _
      | exact ih1 _ _ _ _ _ _ _
      | exact ih2 _ _ _ _ _ _
      | exact ih3 _ _ _ _ _ _ _
      | exact yc.mono _ _ _ _ _ _
      | exact vm.mono _
      | exact yz.mono _ _ _ _ _ _ _ _ _ _ _ _ _ _ _
      | exact yu.mono _ _ _ _ _ _ _ _ _ _ _ _ _ _ _ _ _ _ _ _ _ _ _
      | exact uj.mono _ _ _ _ _ _ _ _
      | exact jm.mono _ _ _ _ _ _ _ _ _ _ _ _
      | exact ym.mono _ _
      | exact uo.mono _ _
      | exact LeO.none _
      | refine LeO.ite ?_ ?_
      | refine LeO.bind ?_ (fun _ => ?_)
theorem zh.mono : ∀ a0 a1 a2 a3 a4 k, LeO (zh.f k a0 a1 a2 a3 a4) (zh.f (k + 1) a0 a1 a2 a3 a4) := by
  intro a0 a1 a2 a3 a4 k
  obtain ⟨ih0, ih1, ih2, ih3⟩ := zh.mono_l k
  unfold zh.f
  repeat' first
      | (with_reducible exact ih0 _ _ _ _ _ _)
      | (with_reducible exact ih1 _ _ _ _ _ _ _)
      | (with_reducible exact ih2 _ _ _ _ _ _)
      | (with_reducible exact ih3 _ _ _ _ _ _ _)
      | (with_reducible exact yc.mono _ _ _ _ _ _)
      | (with_reducible exact vm.mono _)
      | (with_reducible exact yz.mono _ _ _ _ _ _ _ _ _ _ _ _ _ _ _)
      | (with_reducible exact yu.mono _ _ _ _ _ _ _ _ _ _ _ _ _ _ _ _ _ _ _ _ _ _ _)
      | (with_reducible exact uj.mono _ _ _ _ _ _ _ _)
      | (with_reducible exact jm.mono _ _ _ _ _ _ _ _ _ _ _ _)
      | (with_reducible exact ym.mono _ _)
      | (with_reducible exact uo.mono _ _)
      | (with_reducible exact LeO.refl _)
      | (with_reducible exact LeO.none _)
      | (with_reducible refine LeO.ite ?_ ?_)
      | (with_reducible refine LeO.bind ?_ (fun _ => ?_))
      | exact ih0 _ _ _ _ _ _
      | exact ih1 _ _ _ _ _ _ _
      | exact ih2 _ _ _ _ _ _
      | exact ih3 _ _ _ _ _ _ _
      | exact yc.mono _ _ _ _ _ _
      | exact vm.mono _
      | exact yz.mono _ _ _ _ _ _ _ _ _ _ _ _ _ _ _
      | exact yu.mono _ _ _ _ _ _ _ _ _ _ _ _ _ _ _ _ _ _ _ _ _ _ _
      | exact uj.mono _ _ _ _ _ _ _ _
      | exact jm.mono _ _ _ _ _ _ _ _ _ _ _ _
      | exact ym.mono _ _
      | exact uo.mono _ _
      | exact LeO.none _
      | refine LeO.ite ?_ ?_
      | refine LeO.bind ?_ (fun _ => ?_)
def zh.T9 : Bool × List (List Nat × List Nat) := (true, [([], []), ([0], [0]), ([1], [1]), ([2, 1], [2]), ([3], [3]), ([3], [3]), ([5, 3], [3, 5]), ([6, 3], [3, 6]), ([3], [3]), ([7, 8, 3], [3, 7, 8]), ([9, 3], [3, 9]), ([4, 10, 3, 3], [3, 4, 10]), ([11, 3], [3, 11]), ([3, 12], [3, 12]), ([13, 11], [13]), ([14], [14]), ([15, 14], [14, 15]), ([14, 16], [14, 16])])
def zh.B9 : List Nat := [0, 1, 3, 7, 15, 15, 47, 111, 15, 495, 1007, 2047, 4095, 8191, 16383, 32767, 65535, 131071]
theorem zh.tab9 : rtab .any (opsOf Try.f3 9) = zh.T9 := by kernel_rfl
theorem zh.bits9 : waitsOk zh.T9.2 zh.B9 = true := by kernel_rfl
def zh.T18 : Bool × List (List Nat × List Nat) := (true, [([], []), ([0], [0]), ([1], [1]), ([2, 1], [2]), ([3], [3]), ([4, 3, 3], [3, 4]), ([5, 3], [3, 5]), ([3, 6], [3, 6]), ([7, 5], [7]), ([8], [8]), ([8], [8]), ([10, 8], [8, 10]), ([8], [8]), ([11, 12, 8], [8, 11, 12]), ([13, 8], [8, 13]), ([9, 14, 8, 8], [8, 9, 14]), ([15, 8], [8, 15]), ([8, 16], [8, 16])])
def zh.B18 : List Nat := [0, 1, 3, 7, 15, 31, 63, 127, 255, 511, 511, 1535, 511, 7679, 15871, 32767, 65535, 131071]
theorem zh.tab18 : rtab .any (opsOf Try.f3 18) = zh.T18 := by kernel_rfl
theorem zh.bits18 : waitsOk zh.T18.2 zh.B18 = true := by kernel_rfl
set_option maxHeartbeats 8000000 in
set_option maxRecDepth 100000 in
theorem zh.calls (k : Nat) (A0_0 : Option Addr) (c0_0 : Nat) (l0_0 : List (S38)) (A0_1 : Option Addr) (c0_1 : Nat) (l0_1 : List (S36)) (A0_2 : Option Addr) (c0_2 : Nat) (l0_2 : List Int) (A0_3 : Option Addr) (c0_3 : Nat) (l0_3 : List (S45)) (A0_4 : Option Addr) (c0_4 : Nat) (l0_4 : List ByteArray) (r : Bool) (w : World) (hr0_0 : Kd.C k38 w A0_0 l0_0.length l0_0) (hc0_0 : l0_0.length ≤ c0_0) (hr0_1 : Kd.C k36 w A0_1 l0_1.length l0_1) (hc0_1 : l0_1.length ≤ c0_1) (hr0_2 : Kd.C (Kd.int .i64) w A0_2 l0_2.length l0_2) (hc0_2 : l0_2.length ≤ c0_2) (hr0_3 : Kd.C k45 w A0_3 l0_3.length l0_3) (hc0_3 : l0_3.length ≤ c0_3) (hr0_4 : Kd.C Kd.string w A0_4 l0_4.length l0_4) (hc0_4 : l0_4.length ≤ c0_4) (h : zh.f k l0_0 l0_1 l0_2 l0_3 l0_4 = some r) :
  Calls Try.prog 3 #[.agg #[.slice A0_0 l0_0.length c0_0, .slice A0_1 l0_1.length c0_1, .slice A0_2 l0_2.length c0_2, .slice A0_3 l0_3.length c0_3, .slice A0_4 l0_4.length c0_4]] w fun e w' => e = .returned (.bool r) ∧ Below w.heap.size w w' := by
 have hu30 := Try.underlying30
 have hu38 := Try.underlying38
 have hu45 := Try.underlying45
 have HR0_0 := Aside0.mk hr0_0
 have HC0_0 := Aside0.mk hc0_0
 clear hr0_0 hc0_0
 have HR0_1 := Aside0.mk hr0_1
 have HC0_1 := Aside0.mk hc0_1
 clear hr0_1 hc0_1
 have HR0_2 := Aside0.mk hr0_2
 have HC0_2 := Aside0.mk hc0_2
 clear hr0_2 hc0_2
 have HR0_3 := Aside0.mk hr0_3
 have HC0_3 := Aside0.mk hc0_3
 clear hr0_3 hc0_3
 have HR0_4 := Aside0.mk hr0_4
 have HC0_4 := Aside0.mk hc0_4
 clear hr0_4 hc0_4
 have HB := Aside0.mk (Below.refl w.heap.size w)
 have H : ((yc.f k l0_0 l0_1 l0_2 l0_3 l0_4).bind fun t343 => (if t343 = true then (some true) else (zh.l0 k 0 l0_0 l0_1 l0_2 l0_3 l0_4))) = some r := h
 clear h
 replace H := Option.bind_eq_some_iff.mp H
 obtain ⟨t343, A20, H⟩ := H
 replace H : (if t343 = true then (some true) else (zh.l0 k 0 l0_0 l0_1 l0_2 l0_3 l0_4)) = some r := H
 have A2 := Aside0.mk A20
 clear A20
 by_cases c3 : t343 = true
 ·
  subst c3
  have H1 : (some true) = some r := by rw [if_pos rfl] at H; exact H
  clear H
  have H := H1
  clear H1
  obtain rfl := Option.some.inj H
  go_enter Try.func3, Try.ntmps3
  go_wp2_with (first | ((with_reducible refine yf (N := 1) rfl ?_); refine yd ?hg (N := 1) ?hd (cs := #[.slice A0_0 l0_0.length c0_0, .slice A0_1 l0_1.length c0_1, .slice A0_2 l0_2.length c0_2, .slice A0_3 l0_3.length c0_3, .slice A0_4 l0_4.length c0_4]) (t := 30) ?hr ?_; (case hd => rfl); (case hg => rfl); (case hr => first | (go_simp; done) | (go_simp; rfl)); intro gb342 hg w4 hbox hb; have n0_ := Aside0.mk (zj (by repeat (first | (with_reducible first | exact HB.out | apply z8 | apply z6 | apply z7) | exact HB.out)) hb); have n1_ := Aside0.mk (hbox); have n2_ := Aside0.mk ((by rw [hg]; exact (zk (by repeat (first | (with_reducible first | exact HB.out | apply z8 | apply z6 | apply z7) | exact HB.out))) : w.heap.size ≤ gb342)); have n3_ := Aside0.mk ((by rw [hg]; exact (zk (by repeat (first | (with_reducible first | exact HB.out | apply z8 | apply z6 | apply z7) | exact HB.out))) : w.heap.size ≤ gb342)); clear HB; have HB := n0_; have BK342 := n1_; have GW342 := n2_; have GE342 := n3_; clear n0_ n1_ n2_ n3_; clear hb hbox hg; have hcz5_0 := gq BK342.out; have hfz5_0 := fun j_ => zi BK342.out j_) | ((with_reducible refine zu (f := 6) rfl ?_); refine yn (some 17) rfl rfl Try.func6 (by kernel_rfl) rfl #[.agg #[.slice A0_0 l0_0.length c0_0, .slice A0_1 l0_1.length c0_1, .slice A0_2 l0_2.length c0_2, .slice A0_3 l0_3.length c0_3, .slice A0_4 l0_4.length c0_4]] rfl (by (try simp only [List.map_toArray, List.map_cons, List.map_nil]); first | done | rfl | (simp only [List.length_drop, List.length_take]; rfl)) ?_; (with_reducible refine (yc.calls k _ _ l0_0 _ _ l0_1 _ _ l0_2 _ _ l0_3 _ _ l0_4 true _ ?side1 ?side2 ?side3 ?side4 ?side5 ?side6 ?side7 ?side8 ?side9 ?side10 A2.out).mono ?_); (case side1 => repeat (first | exact (Kd.yt HR0_0.out HB.out) | (with_reducible refine Kd.yo ?_ _) | (with_reducible refine Kd.yp ?_ _) | (with_reducible refine Kd.yy ?_))); (case side2 => exact HC0_0.out); (case side3 => repeat (first | exact (Kd.yt HR0_1.out HB.out) | (with_reducible refine Kd.yo ?_ _) | (with_reducible refine Kd.yp ?_ _) | (with_reducible refine Kd.yy ?_))); (case side4 => exact HC0_1.out); (case side5 => repeat (first | exact (Kd.yt HR0_2.out HB.out) | (with_reducible refine Kd.yo ?_ _) | (with_reducible refine Kd.yp ?_ _) | (with_reducible refine Kd.yy ?_))); (case side6 => exact HC0_2.out); (case side7 => repeat (first | exact (Kd.yt HR0_3.out HB.out) | (with_reducible refine Kd.yo ?_ _) | (with_reducible refine Kd.yp ?_ _) | (with_reducible refine Kd.yy ?_))); (case side8 => exact HC0_3.out); (case side9 => repeat (first | exact (Kd.yt HR0_4.out HB.out) | (with_reducible refine Kd.yo ?_ _) | (with_reducible refine Kd.yp ?_ _) | (with_reducible refine Kd.yy ?_))); (case side10 => exact HC0_4.out); rintro e w6 ⟨rfl, hb⟩; refine ⟨_, rfl, ?_⟩; have n0_ := Aside0.mk (zt (by (with_reducible repeat (first | refine ze ?_ _ | refine zf ?_ | refine zc ?_ _)); exact BK342.out) hb); have n1_ := Aside0.mk (zj (by repeat (first | (with_reducible first | exact HB.out | apply z8 | apply z6 | apply z7 | refine zb ?_ GE342.out) | exact HB.out)) hb); clear BK342; clear HB; have BK342 := n0_; have HB := n1_; clear n0_ n1_; (try clear hb); (try clear hb2); (try clear hk); (try clear hi)))
  go_ret
  exact ⟨by first | rfl | (simp [zm, zn] <;> rfl) | (simp [*, zm, zn] <;> rfl), by repeat (first | (with_reducible first | exact HB.out | apply z8 | apply z6 | apply z7 | refine zb ?_ GE342.out) | exact HB.out)⟩
 replace c3 := Bool.eq_false_iff.mpr c3
 subst c3
 have H1 : (zh.l0 k 0 l0_0 l0_1 l0_2 l0_3 l0_4) = some r := by rw [if_neg (show ¬ (false = true) by decide)] at H; exact H
 clear H
 have H := H1
 clear H1
 have H' := Aside0.mk H
 clear H
 go_enter Try.func3, Try.ntmps3
 go_wp2_with (first | ((with_reducible refine yf (N := 1) rfl ?_); refine yd ?hg (N := 1) ?hd (cs := #[.slice A0_0 l0_0.length c0_0, .slice A0_1 l0_1.length c0_1, .slice A0_2 l0_2.length c0_2, .slice A0_3 l0_3.length c0_3, .slice A0_4 l0_4.length c0_4]) (t := 30) ?hr ?_; (case hd => rfl); (case hg => rfl); (case hr => first | (go_simp; done) | (go_simp; rfl)); intro gb342 hg w7 hbox hb; have n0_ := Aside0.mk (zj (by repeat (first | (with_reducible first | exact HB.out | apply z8 | apply z6 | apply z7) | exact HB.out)) hb); have n1_ := Aside0.mk (hbox); have n2_ := Aside0.mk ((by rw [hg]; exact (zk (by repeat (first | (with_reducible first | exact HB.out | apply z8 | apply z6 | apply z7) | exact HB.out))) : w.heap.size ≤ gb342)); have n3_ := Aside0.mk ((by rw [hg]; exact (zk (by repeat (first | (with_reducible first | exact HB.out | apply z8 | apply z6 | apply z7) | exact HB.out))) : w.heap.size ≤ gb342)); clear HB; have HB := n0_; have BK342 := n1_; have GW342 := n2_; have GE342 := n3_; clear n0_ n1_ n2_ n3_; clear hb hbox hg; have hcz8_0 := gq BK342.out; have hfz8_0 := fun j_ => zi BK342.out j_) | ((with_reducible refine zu (f := 6) rfl ?_); refine yn (some 17) rfl rfl Try.func6 (by kernel_rfl) rfl #[.agg #[.slice A0_0 l0_0.length c0_0, .slice A0_1 l0_1.length c0_1, .slice A0_2 l0_2.length c0_2, .slice A0_3 l0_3.length c0_3, .slice A0_4 l0_4.length c0_4]] rfl (by (try simp only [List.map_toArray, List.map_cons, List.map_nil]); first | done | rfl | (simp only [List.length_drop, List.length_take]; rfl)) ?_; (with_reducible refine (yc.calls k _ _ l0_0 _ _ l0_1 _ _ l0_2 _ _ l0_3 _ _ l0_4 false _ ?side1 ?side2 ?side3 ?side4 ?side5 ?side6 ?side7 ?side8 ?side9 ?side10 A2.out).mono ?_); (case side1 => repeat (first | exact (Kd.yt HR0_0.out HB.out) | (with_reducible refine Kd.yo ?_ _) | (with_reducible refine Kd.yp ?_ _) | (with_reducible refine Kd.yy ?_))); (case side2 => exact HC0_0.out); (case side3 => repeat (first | exact (Kd.yt HR0_1.out HB.out) | (with_reducible refine Kd.yo ?_ _) | (with_reducible refine Kd.yp ?_ _) | (with_reducible refine Kd.yy ?_))); (case side4 => exact HC0_1.out); (case side5 => repeat (first | exact (Kd.yt HR0_2.out HB.out) | (with_reducible refine Kd.yo ?_ _) | (with_reducible refine Kd.yp ?_ _) | (with_reducible refine Kd.yy ?_))); (case side6 => exact HC0_2.out); (case side7 => repeat (first | exact (Kd.yt HR0_3.out HB.out) | (with_reducible refine Kd.yo ?_ _) | (with_reducible refine Kd.yp ?_ _) | (with_reducible refine Kd.yy ?_))); (case side8 => exact HC0_3.out); (case side9 => repeat (first | exact (Kd.yt HR0_4.out HB.out) | (with_reducible refine Kd.yo ?_ _) | (with_reducible refine Kd.yp ?_ _) | (with_reducible refine Kd.yy ?_))); (case side10 => exact HC0_4.out); rintro e w9 ⟨rfl, hb⟩; refine ⟨_, rfl, ?_⟩; have n0_ := Aside0.mk (zt (by (with_reducible repeat (first | refine ze ?_ _ | refine zf ?_ | refine zc ?_ _)); exact BK342.out) hb); have n1_ := Aside0.mk (zj (by repeat (first | (with_reducible first | exact HB.out | apply z8 | apply z6 | apply z7 | refine zb ?_ GE342.out) | exact HB.out)) hb); clear BK342; clear HB; have BK342 := n0_; have HB := n1_; clear n0_ n1_; (try clear hb); (try clear hb2); (try clear hk); (try clear hi)))
 go_loopg [3] k (fun kq v3 w' => ∃ (x3_1 : Int), v3 = .int .i64 x3_1 ∧ Aside0 (zh.l0 kq x3_1 l0_0 l0_1 l0_2 l0_3 l0_4 = some r) ∧ Aside0 (kq ≤ k) ∧ Aside0 (w'.heap[gb342]? = some (.cells #[(.slice A0_0 l0_0.length c0_0), (.slice A0_1 l0_1.length c0_1), (.slice A0_2 l0_2.length c0_2), (.slice A0_3 l0_3.length c0_3), (.slice A0_4 l0_4.length c0_4)] 30 (0, 0))) ∧ Aside0 (Below w.heap.size w w'))
 case atStart => exact ⟨(0), (by first | rfl | (simp; done) | (simp [*]; done)), H', ⟨Nat.le_refl _⟩, ⟨by (with_reducible repeat (first | refine ze ?_ _ | refine zf ?_ | refine zc ?_ _)); exact BK342.out⟩, ⟨by repeat (first | (with_reducible first | exact HB.out | apply z8 | apply z6 | apply z7 | refine zb ?_ GE342.out) | exact HB.out)⟩⟩
 clear H'
 try clear p2
 try clear c3
 try clear c5
 try clear c6
 try clear hcz5_0
 try clear hcz8_0
 try clear hfz5_0
 try clear hfz8_0
 obtain ⟨x3_1, rfl, HA, HK1, BK342, HB⟩ := hrel
 cases gk with
 | zero => exact absurd HA.out (by simp [zh.l0])
 | succ k1 =>
  have H := HA.out
  clear HA
  simp only [zh.l0] at H
  have HC10 := Aside0.mk H
  clear H
  go_upto_region 4 with (fail)
  go_cut [27] (fun v27 wc => ∃ (kq : Nat) (x27_9 : Bool), v27 = .bool x27_9 ∧ Aside0 (zh.j1 kq x3_1 x27_9 l0_0 l0_1 l0_2 l0_3 l0_4 = some r) ∧ Aside0 (kq ≤ k1) ∧ Aside0 (wc.heap[gb342]? = some (.cells #[(.slice A0_0 l0_0.length c0_0), (.slice A0_1 l0_1.length c0_1), (.slice A0_2 l0_2.length c0_2), (.slice A0_3 l0_3.length c0_3), (.slice A0_4 l0_4.length c0_4)] 30 (0, 0))) ∧ Aside0 (Below w.heap.size w wc))
  case first =>
   have H := HC10.out
   clear HC10
   by_cases c11 : x3_1 < (l0_0.length : Int)
   ·
    rw [if_pos c11] at H
    have c11b0 : decide (x3_1 < (l0_0.length : Int)) = true := decide_eq_true c11
    clear c11
    (first | rw [c11b0] | (simp only [vw, ud]; rw [c11b0]) | skip)
    have H' := Aside0.mk H
    clear H
    have hcz12_0 := gq BK342.out
    have hfz12_0 := fun j_ => zi BK342.out j_
    go_wp2
    go_meet
    case rel => exact ⟨_, (decide (x3_1 < 8)), (by first | rfl | (simp; done) | (simp [*]; done)), H', ⟨by have := HK1.out; first | omega | exact Nat.le_refl _⟩, ⟨by (with_reducible repeat (first | refine ze ?_ _ | refine zf ?_ | refine zc ?_ _)); exact BK342.out⟩, ⟨by repeat (first | (with_reducible first | exact HB.out | apply z8 | apply z6 | apply z7 | refine zb ?_ GE342.out) | exact HB.out)⟩⟩
   rw [if_neg c11] at H
   have c11b0 : decide (x3_1 < (l0_0.length : Int)) = false := decide_eq_false c11
   clear c11
   (first | rw [c11b0] | (simp only [vw, ud]; rw [c11b0]) | skip)
   have H' := Aside0.mk H
   clear H
   have hcz13_0 := gq BK342.out
   have hfz13_0 := fun j_ => zi BK342.out j_
   go_wp2
   go_meet
   case rel => exact ⟨_, (false), (by first | rfl | (simp; done) | (simp [*]; done)), H', ⟨by have := HK1.out; first | omega | exact Nat.le_refl _⟩, ⟨by (with_reducible repeat (first | refine ze ?_ _ | refine zf ?_ | refine zc ?_ _)); exact BK342.out⟩, ⟨by repeat (first | (with_reducible first | exact HB.out | apply z8 | apply z6 | apply z7 | refine zb ?_ GE342.out) | exact HB.out)⟩⟩
  case rest =>
   clear HC10
   try clear c1
   try clear p2
   try clear c3
   try clear c5
   try clear c6
   try clear c11
   try clear c11b0
   try clear hcz12_0
   try clear hcz13_0
   try clear hcz5_0
   try clear hcz8_0
   try clear hfz12_0
   try clear hfz13_0
   try clear hfz5_0
   try clear hfz8_0
   try clear p2
   obtain ⟨kq, x27_9, rfl, HA, HJ9, BK342, HB⟩ := hcut
   cases kq with
   | zero => exact absurd HA.out (by simp [zh.j1])
   | succ kj9 =>
    have H := HA.out
    clear HA
    simp only [zh.j1] at H
    by_cases c14 : x27_9 = true
    ·
     subst c14
     have H1 : (if 0 ≤ x3_1 then (if x3_1 < (l0_0.length : Int) then ((jm.f kj9 ((zg l0_0 x3_1).f0) ((zg l0_0 x3_1).f1) ((zg l0_0 x3_1).f2) ((zg l0_0 x3_1).f3.f0) ((zg l0_0 x3_1).f3.f1) ((zg l0_0 x3_1).f3.f2) ((zg l0_0 x3_1).f4) ((zg l0_0 x3_1).f5) ((zg l0_0 x3_1).f6) ((zg l0_0 x3_1).f7) ((zg l0_0 x3_1).f8)).bind fun bt345 => ((zy.f bt345.2).bind fun t347 => (if t347 = 0 then (if bt345.1.size + 6 ≤ 9223372036854775807 then ((uo.f kj9 (bt345.1 ++ (⟨#[98, 101, 104, 105, 110, 100]⟩ : ByteArray))).bind fun bt348 => ((zy.f bt348.2.2.2.2.2.2.2.2.2.2.2.2).bind fun t364 => (if t364 = 0 then ((yu.f kj9 bt348.1 bt348.2.1 bt348.2.2.1 bt348.2.2.2.1 bt348.2.2.2.2.1 bt348.2.2.2.2.2.1 bt348.2.2.2.2.2.2.1 bt348.2.2.2.2.2.2.2.1 bt348.2.2.2.2.2.2.2.2.1 bt348.2.2.2.2.2.2.2.2.2.1 bt348.2.2.2.2.2.2.2.2.2.2.1 ((zg l0_0 x3_1).f0) ((zg l0_0 x3_1).f1) ((zg l0_0 x3_1).f2) ((zg l0_0 x3_1).f3.f0) ((zg l0_0 x3_1).f3.f1) ((zg l0_0 x3_1).f3.f2) ((zg l0_0 x3_1).f4) ((zg l0_0 x3_1).f5) ((zg l0_0 x3_1).f6) ((zg l0_0 x3_1).f7) ((zg l0_0 x3_1).f8)).bind fun t366 => (if t366 = true then (if bt348.2.2.2.2.2.2.2.2.2.2.2.1.toList = ([98, 101, 104, 105, 110, 100] : List UInt8) then (zh.l0 kj9 (wrap64 (x3_1 + 1)) l0_0 l0_1 l0_2 l0_3 l0_4) else (none)) else (none))) else (none)))) else (none)) else (zh.l0 kj9 (wrap64 (x3_1 + 1)) l0_0 l0_1 l0_2 l0_3 l0_4)))) else (none)) else (none)) = some r := by rw [if_pos rfl] at H; exact H
     clear H
     have H := H1
     clear H1
     by_cases c15 : 0 ≤ x3_1
     rotate_left
     ·
      rw [if_neg c15] at H
      exact absurd H (by simp)
     rw [if_pos c15] at H
     have c15b0 : decide (0 ≤ x3_1) = true := decide_eq_true c15
     clear c15
     by_cases c16 : x3_1 < (l0_0.length : Int)
     rotate_left
     ·
      rw [if_neg c16] at H
      exact absurd H (by simp)
     rw [if_pos c16] at H
     have c16b0 : decide (x3_1 < (l0_0.length : Int)) = true := decide_eq_true c16
     clear c16
     replace H := Option.bind_eq_some_iff.mp H
     obtain ⟨⟨t345, t346⟩, A170, H⟩ := H
     replace H : ((zy.f t346).bind fun t347 => (if t347 = 0 then (if t345.size + 6 ≤ 9223372036854775807 then ((uo.f kj9 (t345 ++ (⟨#[98, 101, 104, 105, 110, 100]⟩ : ByteArray))).bind fun bt348 => ((zy.f bt348.2.2.2.2.2.2.2.2.2.2.2.2).bind fun t364 => (if t364 = 0 then ((yu.f kj9 bt348.1 bt348.2.1 bt348.2.2.1 bt348.2.2.2.1 bt348.2.2.2.2.1 bt348.2.2.2.2.2.1 bt348.2.2.2.2.2.2.1 bt348.2.2.2.2.2.2.2.1 bt348.2.2.2.2.2.2.2.2.1 bt348.2.2.2.2.2.2.2.2.2.1 bt348.2.2.2.2.2.2.2.2.2.2.1 ((zg l0_0 x3_1).f0) ((zg l0_0 x3_1).f1) ((zg l0_0 x3_1).f2) ((zg l0_0 x3_1).f3.f0) ((zg l0_0 x3_1).f3.f1) ((zg l0_0 x3_1).f3.f2) ((zg l0_0 x3_1).f4) ((zg l0_0 x3_1).f5) ((zg l0_0 x3_1).f6) ((zg l0_0 x3_1).f7) ((zg l0_0 x3_1).f8)).bind fun t366 => (if t366 = true then (if bt348.2.2.2.2.2.2.2.2.2.2.2.1.toList = ([98, 101, 104, 105, 110, 100] : List UInt8) then (zh.l0 kj9 (wrap64 (x3_1 + 1)) l0_0 l0_1 l0_2 l0_3 l0_4) else (none)) else (none))) else (none)))) else (none)) else (zh.l0 kj9 (wrap64 (x3_1 + 1)) l0_0 l0_1 l0_2 l0_3 l0_4))) = some r := H
     have A17 := Aside0.mk A170
     clear A170
     replace H := Option.bind_eq_some_iff.mp H
     obtain ⟨t347, A180, H⟩ := H
     replace H : (if t347 = 0 then (if t345.size + 6 ≤ 9223372036854775807 then ((uo.f kj9 (t345 ++ (⟨#[98, 101, 104, 105, 110, 100]⟩ : ByteArray))).bind fun bt348 => ((zy.f bt348.2.2.2.2.2.2.2.2.2.2.2.2).bind fun t364 => (if t364 = 0 then ((yu.f kj9 bt348.1 bt348.2.1 bt348.2.2.1 bt348.2.2.2.1 bt348.2.2.2.2.1 bt348.2.2.2.2.2.1 bt348.2.2.2.2.2.2.1 bt348.2.2.2.2.2.2.2.1 bt348.2.2.2.2.2.2.2.2.1 bt348.2.2.2.2.2.2.2.2.2.1 bt348.2.2.2.2.2.2.2.2.2.2.1 ((zg l0_0 x3_1).f0) ((zg l0_0 x3_1).f1) ((zg l0_0 x3_1).f2) ((zg l0_0 x3_1).f3.f0) ((zg l0_0 x3_1).f3.f1) ((zg l0_0 x3_1).f3.f2) ((zg l0_0 x3_1).f4) ((zg l0_0 x3_1).f5) ((zg l0_0 x3_1).f6) ((zg l0_0 x3_1).f7) ((zg l0_0 x3_1).f8)).bind fun t366 => (if t366 = true then (if bt348.2.2.2.2.2.2.2.2.2.2.2.1.toList = ([98, 101, 104, 105, 110, 100] : List UInt8) then (zh.l0 kj9 (wrap64 (x3_1 + 1)) l0_0 l0_1 l0_2 l0_3 l0_4) else (none)) else (none))) else (none)))) else (none)) else (zh.l0 kj9 (wrap64 (x3_1 + 1)) l0_0 l0_1 l0_2 l0_3 l0_4)) = some r := H
     have A18 := Aside0.mk A180
     clear A180
     by_cases c19 : t347 = 0
     rotate_left
     ·
      rw [if_neg c19] at H
      have c19b0 : (t347 == 0) = false := beq_eq_false_iff_ne.mpr c19
      have c19b1 : (t347 != 0) = true := bne_iff_ne.mpr c19
      have H' := Aside0.mk H
      clear H
      have hcz37_0 := gq BK342.out
      have hfz37_0 := fun j_ => zi BK342.out j_
      have p344 : 0 ≤ (x3_1 : Int) := of_decide_eq_true (by first | (with_reducible assumption) | assumption)
      have q344 : x3_1 < (l0_0.length : Int) := of_decide_eq_true (by first | (with_reducible assumption) | assumption)
      obtain ⟨ad344, A344_7, c344_7, e344, hx344_0, hx344_1, hx344_2, hx344_3, hx344_4, hx344_5, hx344_6, hx344_7, hx344_8, hx344_9, hx344_10, hl344_7, hi344_7⟩ := z0q HR0_0.out x3_1 p344 q344
      cases e344
      replace hx344_0 := (HB.out.cell (World.block_lt_of_cell? w _ hx344_0)).trans hx344_0
      replace hx344_1 := (HB.out.cell (World.block_lt_of_cell? w _ hx344_1)).trans hx344_1
      replace hx344_2 := (HB.out.cell (World.block_lt_of_cell? w _ hx344_2)).trans hx344_2
      replace hx344_3 := (HB.out.cell (World.block_lt_of_cell? w _ hx344_3)).trans hx344_3
      replace hx344_4 := (HB.out.cell (World.block_lt_of_cell? w _ hx344_4)).trans hx344_4
      replace hx344_5 := (HB.out.cell (World.block_lt_of_cell? w _ hx344_5)).trans hx344_5
      replace hx344_6 := (HB.out.cell (World.block_lt_of_cell? w _ hx344_6)).trans hx344_6
      replace hx344_7 := (HB.out.cell (World.block_lt_of_cell? w _ hx344_7)).trans hx344_7
      replace hx344_8 := (HB.out.cell (World.block_lt_of_cell? w _ hx344_8)).trans hx344_8
      replace hx344_9 := (HB.out.cell (World.block_lt_of_cell? w _ hx344_9)).trans hx344_9
      replace hx344_10 := (HB.out.cell (World.block_lt_of_cell? w _ hx344_10)).trans hx344_10
      have HR344_7 := Aside0.mk hi344_7
      have HC344_7 := Aside0.mk hl344_7
      clear hi344_7 hl344_7
      replace p344 := eq_true p344
      replace q344 := eq_true q344
      go_wp2_with (first | ((with_reducible refine zu (f := 7) rfl ?_); refine yn (some 37) rfl rfl Try.func7 (by kernel_rfl) rfl #[.agg #[.int .i64 ((zg l0_0 x3_1).f0), .int .i64 ((zg l0_0 x3_1).f1), .int .i64 ((zg l0_0 x3_1).f2), .int .i64 ((zg l0_0 x3_1).f3.f0), .int .i64 ((zg l0_0 x3_1).f3.f1), .int .i64 ((zg l0_0 x3_1).f3.f2), .string ((zg l0_0 x3_1).f4), .slice A344_7 ((zg l0_0 x3_1).f5).length c344_7, .int .i64 ((zg l0_0 x3_1).f6), .int .i64 ((zg l0_0 x3_1).f7), .int .i64 ((zg l0_0 x3_1).f8)]] rfl (by (try simp only [List.map_toArray, List.map_cons, List.map_nil]); first | done | rfl | (simp only [List.length_drop, List.length_take]; rfl)) ?_; (with_reducible refine (jm.calls kj9 ((zg l0_0 x3_1).f0) ((zg l0_0 x3_1).f1) ((zg l0_0 x3_1).f2) ((zg l0_0 x3_1).f3.f0) ((zg l0_0 x3_1).f3.f1) ((zg l0_0 x3_1).f3.f2) ((zg l0_0 x3_1).f4) _ _ ((zg l0_0 x3_1).f5) ((zg l0_0 x3_1).f6) ((zg l0_0 x3_1).f7) ((zg l0_0 x3_1).f8) t345 t346 _ ?side1 ?side2 A17.out).mono ?_); (case side1 => repeat (first | exact (Kd.yt HR344_7.out HB.out) | (with_reducible refine Kd.yo ?_ _) | (with_reducible refine Kd.yp ?_ _) | (with_reducible refine Kd.yy ?_))); (case side2 => exact HC344_7.out); rintro e w38 ⟨rfl, hb⟩; refine ⟨_, rfl, ?_⟩; have n0_ := Aside0.mk (zt (by (with_reducible repeat (first | refine ze ?_ _ | refine zf ?_ | refine zc ?_ _)); exact BK342.out) hb); have n1_ := Aside0.mk (zj (by repeat (first | (with_reducible first | exact HB.out | apply z8 | apply z6 | apply z7 | refine zb ?_ GE342.out) | exact HB.out)) hb); clear BK342; clear HB; have BK342 := n0_; have HB := n1_; clear n0_ n1_; (try clear hb); (try clear hb2); (try clear hk); (try clear hi)) | ((with_reducible refine zu (f := 8) rfl ?_); refine yn (some 41) rfl rfl Try.func8 (by kernel_rfl) rfl #[.int .i64 t346] rfl (by (try simp only [List.map_toArray, List.map_cons, List.map_nil]); first | done | rfl | (simp only [List.length_drop, List.length_take]; rfl)) ?_; (with_reducible refine (zy.calls t346 t347 _ A18.out).mono ?_); rintro e w' ⟨rfl, ⟨nd, rfl⟩⟩; refine ⟨_, rfl, ?_⟩))
      go_roundg kj9
      case measure => have := HK1.out; have := HJ9.out; omega
      case rel => exact ⟨(wrap64 (x3_1 + 1)), (by first | rfl | (simp; done) | (simp [*]; done)), H', ⟨by have := HK1.out; have := HJ9.out; omega⟩, ⟨by (with_reducible repeat (first | refine ze ?_ _ | refine zf ?_ | refine zc ?_ _)); exact BK342.out⟩, ⟨by repeat (first | (with_reducible first | exact HB.out | apply z8 | apply z6 | apply z7 | refine zb ?_ GE342.out) | exact HB.out)⟩⟩
     rw [if_pos c19] at H
     have c19b0 : (t347 == 0) = true := beq_iff_eq.mpr c19
     have c19b1 : (t347 != 0) = false := bne_eq_false_iff_eq.mpr c19
     clear c19
     by_cases c20 : t345.size + 6 ≤ 9223372036854775807
     rotate_left
     ·
      rw [if_neg c20] at H
      exact absurd H (by simp)
     rw [if_pos c20] at H
     have c20b0 := eq_true c20
     have c20b1 : decide (t345.size + 6 ≤ 9223372036854775807) = true := decide_eq_true c20
     try have c20b2 : (9223372036854775807 < t345.size + 6) = False := eq_false (Nat.not_lt.2 c20)
     replace H := Option.bind_eq_some_iff.mp H
     obtain ⟨⟨t348, t349, t350, t351, t352, t353, t354, t355, t358, t359, t360, t361, t362⟩, A210, H⟩ := H
     replace H : ((zy.f t362).bind fun t364 => (if t364 = 0 then ((yu.f kj9 t348 t349 t350 t351 t352 t353 t354 t355 t358 t359 t360 ((zg l0_0 x3_1).f0) ((zg l0_0 x3_1).f1) ((zg l0_0 x3_1).f2) ((zg l0_0 x3_1).f3.f0) ((zg l0_0 x3_1).f3.f1) ((zg l0_0 x3_1).f3.f2) ((zg l0_0 x3_1).f4) ((zg l0_0 x3_1).f5) ((zg l0_0 x3_1).f6) ((zg l0_0 x3_1).f7) ((zg l0_0 x3_1).f8)).bind fun t366 => (if t366 = true then (if t361.toList = ([98, 101, 104, 105, 110, 100] : List UInt8) then (zh.l0 kj9 (wrap64 (x3_1 + 1)) l0_0 l0_1 l0_2 l0_3 l0_4) else (none)) else (none))) else (none))) = some r := H
     have A21 := Aside0.mk A210
     clear A210
     replace H := Option.bind_eq_some_iff.mp H
     obtain ⟨t364, A220, H⟩ := H
     replace H : (if t364 = 0 then ((yu.f kj9 t348 t349 t350 t351 t352 t353 t354 t355 t358 t359 t360 ((zg l0_0 x3_1).f0) ((zg l0_0 x3_1).f1) ((zg l0_0 x3_1).f2) ((zg l0_0 x3_1).f3.f0) ((zg l0_0 x3_1).f3.f1) ((zg l0_0 x3_1).f3.f2) ((zg l0_0 x3_1).f4) ((zg l0_0 x3_1).f5) ((zg l0_0 x3_1).f6) ((zg l0_0 x3_1).f7) ((zg l0_0 x3_1).f8)).bind fun t366 => (if t366 = true then (if t361.toList = ([98, 101, 104, 105, 110, 100] : List UInt8) then (zh.l0 kj9 (wrap64 (x3_1 + 1)) l0_0 l0_1 l0_2 l0_3 l0_4) else (none)) else (none))) else (none)) = some r := H
     have A22 := Aside0.mk A220
     clear A220
     by_cases c23 : t364 = 0
     rotate_left
     ·
      rw [if_neg c23] at H
      exact absurd H (by simp)
     rw [if_pos c23] at H
     have c23b0 : (t364 == 0) = true := beq_iff_eq.mpr c23
     have c23b1 : (t364 != 0) = false := bne_eq_false_iff_eq.mpr c23
     clear c23
     replace H := Option.bind_eq_some_iff.mp H
     obtain ⟨t366, A240, H⟩ := H
     replace H : (if t366 = true then (if t361.toList = ([98, 101, 104, 105, 110, 100] : List UInt8) then (zh.l0 kj9 (wrap64 (x3_1 + 1)) l0_0 l0_1 l0_2 l0_3 l0_4) else (none)) else (none)) = some r := H
     have A24 := Aside0.mk A240
     clear A240
     by_cases c25 : t366 = true
     rotate_left
     ·
      replace c25 := Bool.eq_false_iff.mpr c25
      subst c25
      have H1 : (none) = some r := by rw [if_neg (show ¬ (false = true) by decide)] at H; exact H
      clear H
      have H := H1
      clear H1
      exact absurd H (by simp)
     subst c25
     have H1 : (if t361.toList = ([98, 101, 104, 105, 110, 100] : List UInt8) then (zh.l0 kj9 (wrap64 (x3_1 + 1)) l0_0 l0_1 l0_2 l0_3 l0_4) else (none)) = some r := by rw [if_pos rfl] at H; exact H
     clear H
     have H := H1
     clear H1
     by_cases c26 : t361.toList = ([98, 101, 104, 105, 110, 100] : List UInt8)
     rotate_left
     ·
      rw [if_neg c26] at H
      exact absurd H (by simp)
     rw [if_pos c26] at H
     have c26b0 : (t361.toList == ([98, 101, 104, 105, 110, 100] : List UInt8)) = true := beq_iff_eq.mpr c26
     have c26b1 : (t361.toList != ([98, 101, 104, 105, 110, 100] : List UInt8)) = false := bne_eq_false_iff_eq.mpr c26
     clear c26
     have H' := Aside0.mk H
     clear H
     have hcz27_0 := gq BK342.out
     have hfz27_0 := fun j_ => zi BK342.out j_
     have p344 : 0 ≤ (x3_1 : Int) := of_decide_eq_true (by first | (with_reducible assumption) | assumption)
     have q344 : x3_1 < (l0_0.length : Int) := of_decide_eq_true (by first | (with_reducible assumption) | assumption)
     obtain ⟨ad344, A344_7, c344_7, e344, hx344_0, hx344_1, hx344_2, hx344_3, hx344_4, hx344_5, hx344_6, hx344_7, hx344_8, hx344_9, hx344_10, hl344_7, hi344_7⟩ := z0q HR0_0.out x3_1 p344 q344
     cases e344
     replace hx344_0 := (HB.out.cell (World.block_lt_of_cell? w _ hx344_0)).trans hx344_0
     replace hx344_1 := (HB.out.cell (World.block_lt_of_cell? w _ hx344_1)).trans hx344_1
     replace hx344_2 := (HB.out.cell (World.block_lt_of_cell? w _ hx344_2)).trans hx344_2
     replace hx344_3 := (HB.out.cell (World.block_lt_of_cell? w _ hx344_3)).trans hx344_3
     replace hx344_4 := (HB.out.cell (World.block_lt_of_cell? w _ hx344_4)).trans hx344_4
     replace hx344_5 := (HB.out.cell (World.block_lt_of_cell? w _ hx344_5)).trans hx344_5
     replace hx344_6 := (HB.out.cell (World.block_lt_of_cell? w _ hx344_6)).trans hx344_6
     replace hx344_7 := (HB.out.cell (World.block_lt_of_cell? w _ hx344_7)).trans hx344_7
     replace hx344_8 := (HB.out.cell (World.block_lt_of_cell? w _ hx344_8)).trans hx344_8
     replace hx344_9 := (HB.out.cell (World.block_lt_of_cell? w _ hx344_9)).trans hx344_9
     replace hx344_10 := (HB.out.cell (World.block_lt_of_cell? w _ hx344_10)).trans hx344_10
     have HR344_7 := Aside0.mk hi344_7
     have HC344_7 := Aside0.mk hl344_7
     clear hi344_7 hl344_7
     replace p344 := eq_true p344
     replace q344 := eq_true q344
     try go_wp2_with (first | ((with_reducible refine zu (f := 7) rfl ?_); refine yn (some 37) rfl rfl Try.func7 (by kernel_rfl) rfl #[.agg #[.int .i64 ((zg l0_0 x3_1).f0), .int .i64 ((zg l0_0 x3_1).f1), .int .i64 ((zg l0_0 x3_1).f2), .int .i64 ((zg l0_0 x3_1).f3.f0), .int .i64 ((zg l0_0 x3_1).f3.f1), .int .i64 ((zg l0_0 x3_1).f3.f2), .string ((zg l0_0 x3_1).f4), .slice A344_7 ((zg l0_0 x3_1).f5).length c344_7, .int .i64 ((zg l0_0 x3_1).f6), .int .i64 ((zg l0_0 x3_1).f7), .int .i64 ((zg l0_0 x3_1).f8)]] rfl (by (try simp only [List.map_toArray, List.map_cons, List.map_nil]); first | done | rfl | (simp only [List.length_drop, List.length_take]; rfl)) ?_; (with_reducible refine (jm.calls kj9 ((zg l0_0 x3_1).f0) ((zg l0_0 x3_1).f1) ((zg l0_0 x3_1).f2) ((zg l0_0 x3_1).f3.f0) ((zg l0_0 x3_1).f3.f1) ((zg l0_0 x3_1).f3.f2) ((zg l0_0 x3_1).f4) _ _ ((zg l0_0 x3_1).f5) ((zg l0_0 x3_1).f6) ((zg l0_0 x3_1).f7) ((zg l0_0 x3_1).f8) t345 t346 _ ?side1 ?side2 A17.out).mono ?_); (case side1 => repeat (first | exact (Kd.yt HR344_7.out HB.out) | (with_reducible refine Kd.yo ?_ _) | (with_reducible refine Kd.yp ?_ _) | (with_reducible refine Kd.yy ?_))); (case side2 => exact HC344_7.out); rintro e w28 ⟨rfl, hb⟩; refine ⟨_, rfl, ?_⟩; have n0_ := Aside0.mk (zt (by (with_reducible repeat (first | refine ze ?_ _ | refine zf ?_ | refine zc ?_ _)); exact BK342.out) hb); have n1_ := Aside0.mk (zj (by repeat (first | (with_reducible first | exact HB.out | apply z8 | apply z6 | apply z7 | refine zb ?_ GE342.out) | exact HB.out)) hb); clear BK342; clear HB; have BK342 := n0_; have HB := n1_; clear n0_ n1_; (try clear hb); (try clear hb2); (try clear hk); (try clear hi)) | ((with_reducible refine zu (f := 8) rfl ?_); refine yn (some 41) rfl rfl Try.func8 (by kernel_rfl) rfl #[.int .i64 t346] rfl (by (try simp only [List.map_toArray, List.map_cons, List.map_nil]); first | done | rfl | (simp only [List.length_drop, List.length_take]; rfl)) ?_; (with_reducible refine (zy.calls t346 t347 _ A18.out).mono ?_); rintro e w' ⟨rfl, ⟨nd, rfl⟩⟩; refine ⟨_, rfl, ?_⟩; (try (rw [z47 w28]; generalize hq_ : World.drewN w28 _ = w28; have n0_ : Aside0 (w28.heap[gb342]? = some (.cells #[.slice (some ad344) l0_0.length c0_0, .slice A0_1 l0_1.length c0_1, .slice A0_2 l0_2.length c0_2, .slice A0_3 l0_3.length c0_3, .slice A0_4 l0_4.length c0_4] 30 (0, 0))) := ⟨by rw [← hq_]; exact (by (with_reducible repeat (first | refine ze ?_ _ | refine zf ?_ | refine zc ?_ _)); exact BK342.out)⟩; have n1_ : Aside0 (Below w.heap.size w w28) := ⟨by rw [← hq_]; exact (by repeat (first | (with_reducible first | exact HB.out | apply z8 | apply z6 | apply z7 | refine zb ?_ GE342.out) | exact HB.out))⟩; clear BK342 HB hq_; have BK342 := n0_; have HB := n1_; clear n0_ n1_))) | ((with_reducible refine zu (f := 9) rfl ?_); refine yn (some 46) rfl rfl Try.func9 (by kernel_rfl) rfl #[.string (t345 ++ (⟨#[98, 101, 104, 105, 110, 100]⟩ : ByteArray))] rfl (by (try simp only [List.map_toArray, List.map_cons, List.map_nil]); first | done | rfl | (simp only [List.length_drop, List.length_take]; rfl)) ?_; (with_reducible refine (uo.calls kj9 (t345 ++ (⟨#[98, 101, 104, 105, 110, 100]⟩ : ByteArray)) t348 t349 t350 t351 t352 t353 t354 t355 t358 t359 t360 t361 t362 _ A21.out).mono ?_); rintro e w29 ⟨v356, rfl, ho0, hb⟩; refine ⟨_, rfl, ?_⟩; have n0_ := Aside0.mk (Kd.z00 ho0 (zk (by repeat (first | (with_reducible first | exact HB.out | apply z8 | apply z6 | apply z7 | refine zb ?_ GE342.out) | exact HB.out)))); have n1_ := Aside0.mk (zt (by (with_reducible repeat (first | refine ze ?_ _ | refine zf ?_ | refine zc ?_ _)); exact BK342.out) hb); have n2_ := Aside0.mk (zj (by repeat (first | (with_reducible first | exact HB.out | apply z8 | apply z6 | apply z7 | refine zb ?_ GE342.out) | exact HB.out)) hb); clear BK342; clear HB; have HO357 := n0_; have BK342 := n1_; have HB := n2_; clear n0_ n1_ n2_; (try clear hb); (try clear hb2); (try clear hk); (try clear hi); (try clear ho0)) | ((with_reducible refine yf (N := 6) rfl ?_); refine yd ?hg (N := 6) ?hd (cs := #[.int .i64 0, .int .i64 0, .int .i64 0, .int .i64 0, .int .i64 0, .int .i64 0, .string (⟨#[]⟩ : ByteArray), .slice none 0 0, .int .i64 0, .int .i64 0, .int .i64 0]) (t := 38) ?hr ?_; (case hd => rfl); (case hg => rfl); (case hr => first | (go_simp; done) | (go_simp; rfl)); intro gb363 hg w30 hbox hb; have n0_ := Aside0.mk (Kd.jl (by (with_reducible repeat (first | apply Kd.uh | apply Kd.ui | apply Kd.uk)); exact HO357.out) hb); have n1_ := Aside0.mk (zt (by (with_reducible repeat (first | refine ze ?_ _ | refine zf ?_ | refine zc ?_ _)); exact BK342.out) hb); have n2_ := Aside0.mk (zj (by repeat (first | (with_reducible first | exact HB.out | apply z8 | apply z6 | apply z7 | refine zb ?_ GE342.out) | exact HB.out)) hb); have n3_ := Aside0.mk (hbox); have n4_ := Aside0.mk ((by rw [hg]; exact (zk (by repeat (first | (with_reducible first | exact HB.out | apply z8 | apply z6 | apply z7 | refine zb ?_ GE342.out) | exact HB.out))) : w.heap.size ≤ gb363)); have n5_ := Aside0.mk ((by rw [hg]; exact (zk (by repeat (first | (with_reducible first | exact HB.out | apply z8 | apply z6 | apply z7 | refine zb ?_ GE342.out) | exact HB.out))) : w.heap.size ≤ gb363)); have n6_ := Aside0.mk ((by rw [hg]; exact Nat.ne_of_lt (vo (g := gb342) (o := .cells #[.slice (some ad344) l0_0.length c0_0, .slice A0_1 l0_1.length c0_1, .slice A0_2 l0_2.length c0_2, .slice A0_3 l0_3.length c0_3, .slice A0_4 l0_4.length c0_4] 30 (0, 0)) (by (with_reducible repeat (first | refine ze ?_ _ | refine zf ?_ | refine zc ?_ _)); exact BK342.out)) : gb342 ≠ gb363)); have n7_ := Aside0.mk ((by rw [hg]; exact Nat.ne_of_gt (vo (g := gb342) (o := .cells #[.slice (some ad344) l0_0.length c0_0, .slice A0_1 l0_1.length c0_1, .slice A0_2 l0_2.length c0_2, .slice A0_3 l0_3.length c0_3, .slice A0_4 l0_4.length c0_4] 30 (0, 0)) (by (with_reducible repeat (first | refine ze ?_ _ | refine zf ?_ | refine zc ?_ _)); exact BK342.out)) : gb363 ≠ gb342)); clear HO357; clear BK342; clear HB; have HO357 := n0_; have BK342 := n1_; have HB := n2_; have BK363 := n3_; have GW363 := n4_; have GE363 := n5_; have NB342_363 := n6_; have NB363_342 := n7_; clear n0_ n1_ n2_ n3_ n4_ n5_ n6_ n7_; clear hb hbox hg; have hnb31 := NB363_342.out; have hnc31 := NB342_363.out; have hcz32_0 := yq BK363.out; have hfz32_0 := fun j_ => zi BK363.out j_; obtain ⟨Ao33, co33, eo33⟩ := Kd.z01 HO357.out; subst eo33))
     generalize hw_ : (((((((((((w30.setCell ⟨gb363, 0, none⟩ (.int .i64 t348)).setCell ⟨gb363, 1, none⟩ (.int .i64 t349)).setCell ⟨gb363, 2, none⟩ (.int .i64 t350)).setCell ⟨gb363, 3, none⟩ (.int .i64 t351)).setCell ⟨gb363, 4, none⟩ (.int .i64 t352)).setCell ⟨gb363, 5, none⟩ (.int .i64 t353)).setCell ⟨gb363, 6, none⟩ (.string t354)).setCell ⟨gb363, 7, none⟩ (.slice Ao33 t355.length co33)).setCell ⟨gb363, 8, none⟩ (.int .i64 t358)).setCell ⟨gb363, 9, none⟩ (.int .i64 t359)).setCell ⟨gb363, 10, none⟩ (.int .i64 t360)) = w34
     have n0_ : Aside0 (Kd.R k36 36 w34 w.heap.size (fun _ => True) (.slice Ao33 t355.length co33) t355) := by rw [← hw_]; exact ⟨by (with_reducible repeat (first | apply Kd.uh | apply Kd.ui | apply Kd.uk)); exact Kd.jj (Kd.ux (p := ⟨gb363, 10, none⟩) (Kd.ux (p := ⟨gb363, 9, none⟩) (Kd.ux (p := ⟨gb363, 8, none⟩) (Kd.ux (p := ⟨gb363, 7, none⟩) (Kd.ux (p := ⟨gb363, 6, none⟩) (Kd.ux (p := ⟨gb363, 5, none⟩) (Kd.ux (p := ⟨gb363, 4, none⟩) (Kd.ux (p := ⟨gb363, 3, none⟩) (Kd.ux (p := ⟨gb363, 2, none⟩) (Kd.ux (p := ⟨gb363, 1, none⟩) (Kd.ux (p := ⟨gb363, 0, none⟩) (Kd.z1e HO357.out BK363.out (by decide)) (fun _ hk => hk.2) (.int .i64 t348)) (fun _ hk => hk.2) (.int .i64 t349)) (fun _ hk => hk.2) (.int .i64 t350)) (fun _ hk => hk.2) (.int .i64 t351)) (fun _ hk => hk.2) (.int .i64 t352)) (fun _ hk => hk.2) (.int .i64 t353)) (fun _ hk => hk.2) (.string t354)) (fun _ hk => hk.2) (.slice Ao33 t355.length co33)) (fun _ hk => hk.2) (.int .i64 t358)) (fun _ hk => hk.2) (.int .i64 t359)) (fun _ hk => hk.2) (.int .i64 t360)) (fun _ hk => trivial)⟩
     have n1_ : Aside0 (w34.heap[gb342]? = some (.cells #[.slice (some ad344) l0_0.length c0_0, .slice A0_1 l0_1.length c0_1, .slice A0_2 l0_2.length c0_2, .slice A0_3 l0_3.length c0_3, .slice A0_4 l0_4.length c0_4] 30 (0, 0))) := by rw [← hw_]; exact ⟨(zp (zp (zp (zp (zp (zp (zp (zp (zp (zp (zp BK342.out NB342_363.out _) NB342_363.out _) NB342_363.out _) NB342_363.out _) NB342_363.out _) NB342_363.out _) NB342_363.out _) NB342_363.out _) NB342_363.out _) NB342_363.out _) NB342_363.out _)⟩
     have n2_ : Aside0 (w34.heap[gb363]? = some (.cells #[.int .i64 t348, .int .i64 t349, .int .i64 t350, .int .i64 t351, .int .i64 t352, .int .i64 t353, .string t354, .slice Ao33 t355.length co33, .int .i64 t358, .int .i64 t359, .int .i64 t360] 38 (0, 0))) := by rw [← hw_]; exact ⟨(z3e BK363.out _ _ _ _ _ _ _ _ _ _ _)⟩
     have n3_ : Aside0 (Below w.heap.size w w34) := by rw [← hw_]; exact ⟨by repeat (first | (with_reducible first | exact HB.out | apply z8 | apply z6 | apply z7 | refine zb ?_ GE342.out | refine zb ?_ GE363.out) | exact HB.out)⟩
     clear hw_
     (try clear HO357)
     (try clear BK342)
     (try clear BK363)
     (try clear HB)
     have HO357 := n0_
     have BK342 := n1_
     have BK363 := n2_
     have HB := n3_
     clear n0_ n1_ n2_ n3_
     have n0_ := Aside0.mk (Kd.uk HO357.out)
     have n1_ := Aside0.mk (zf BK342.out)
     have n2_ := Aside0.mk (zf BK363.out)
     have n3_ := Aside0.mk (z7 HB.out)
     clear HO357
     clear BK342
     clear BK363
     clear HB
     have HO357 := n0_
     have BK342 := n1_
     have BK363 := n2_
     have HB := n3_
     clear n0_ n1_ n2_ n3_
     have p365 : 0 ≤ (x3_1 : Int) := of_decide_eq_true (by first | (with_reducible assumption) | assumption)
     have q365 : x3_1 < (l0_0.length : Int) := of_decide_eq_true (by first | (with_reducible assumption) | assumption)
     obtain ⟨ad365, A365_7, c365_7, e365, hx365_0, hx365_1, hx365_2, hx365_3, hx365_4, hx365_5, hx365_6, hx365_7, hx365_8, hx365_9, hx365_10, hl365_7, hi365_7⟩ := z0q HR0_0.out x3_1 p365 q365
     have hw365_10 := hx365_10
     have hw365_9 := hx365_9
     have hw365_8 := hx365_8
     have hw365_7 := hx365_7
     have hw365_6 := hx365_6
     have hw365_5 := hx365_5
     have hw365_4 := hx365_4
     have hw365_3 := hx365_3
     have hw365_2 := hx365_2
     have hw365_1 := hx365_1
     have hw365_0 := hx365_0
     obtain rfl : ad344 = ad365 := (by injection e365)
     replace hx365_0 := (HB.out.cell (World.block_lt_of_cell? w _ hx365_0)).trans hx365_0
     replace hx365_1 := (HB.out.cell (World.block_lt_of_cell? w _ hx365_1)).trans hx365_1
     replace hx365_2 := (HB.out.cell (World.block_lt_of_cell? w _ hx365_2)).trans hx365_2
     replace hx365_3 := (HB.out.cell (World.block_lt_of_cell? w _ hx365_3)).trans hx365_3
     replace hx365_4 := (HB.out.cell (World.block_lt_of_cell? w _ hx365_4)).trans hx365_4
     replace hx365_5 := (HB.out.cell (World.block_lt_of_cell? w _ hx365_5)).trans hx365_5
     replace hx365_6 := (HB.out.cell (World.block_lt_of_cell? w _ hx365_6)).trans hx365_6
     replace hx365_7 := (HB.out.cell (World.block_lt_of_cell? w _ hx365_7)).trans hx365_7
     replace hx365_8 := (HB.out.cell (World.block_lt_of_cell? w _ hx365_8)).trans hx365_8
     replace hx365_9 := (HB.out.cell (World.block_lt_of_cell? w _ hx365_9)).trans hx365_9
     replace hx365_10 := (HB.out.cell (World.block_lt_of_cell? w _ hx365_10)).trans hx365_10
     have HR365_7 := Aside0.mk hi365_7
     have HC365_7 := Aside0.mk hl365_7
     clear hi365_7 hl365_7
     replace p365 := eq_true p365
     replace q365 := eq_true q365
     refine ji (n := 18) (S := fun w' => w'.cell? ⟨gb363, 0, none⟩ = some (.int .i64 t348) ∧ w'.cell? ⟨gb363, 1, none⟩ = some (.int .i64 t349) ∧ w'.cell? ⟨gb363, 2, none⟩ = some (.int .i64 t350) ∧ w'.cell? ⟨gb363, 3, none⟩ = some (.int .i64 t351) ∧ w'.cell? ⟨gb363, 4, none⟩ = some (.int .i64 t352) ∧ w'.cell? ⟨gb363, 5, none⟩ = some (.int .i64 t353) ∧ w'.cell? ⟨gb363, 6, none⟩ = some (.string t354) ∧ w'.cell? ⟨gb363, 7, none⟩ = some (.slice Ao33 t355.length co33) ∧ w'.cell? ⟨gb363, 8, none⟩ = some (.int .i64 t358) ∧ w'.cell? ⟨gb363, 9, none⟩ = some (.int .i64 t359) ∧ w'.cell? ⟨gb363, 10, none⟩ = some (.int .i64 t360) ∧ w'.cell? ⟨gb342, 0, none⟩ = some (.slice (some ad344) l0_0.length c0_0) ∧ w'.cell? ⟨gb342, 1, none⟩ = some (.slice A0_1 l0_1.length c0_1) ∧ w'.cell? ⟨gb342, 2, none⟩ = some (.slice A0_2 l0_2.length c0_2) ∧ w'.cell? ⟨gb342, 3, none⟩ = some (.slice A0_3 l0_3.length c0_3) ∧ w'.cell? ⟨gb342, 4, none⟩ = some (.slice A0_4 l0_4.length c0_4) ∧ w'.cell? (ad344.add ((x3_1).toNat * 11)) = some (.int .i64 ((zg l0_0 x3_1).f0)) ∧ w'.cell? ⟨(ad344.add ((x3_1).toNat * 11)).block, (ad344.add ((x3_1).toNat * 11)).off + 1, none⟩ = some (.int .i64 ((zg l0_0 x3_1).f1)) ∧ w'.cell? ⟨(ad344.add ((x3_1).toNat * 11)).block, (ad344.add ((x3_1).toNat * 11)).off + 2, none⟩ = some (.int .i64 ((zg l0_0 x3_1).f2)) ∧ w'.cell? ⟨(ad344.add ((x3_1).toNat * 11)).block, (ad344.add ((x3_1).toNat * 11)).off + 3, none⟩ = some (.int .i64 ((zg l0_0 x3_1).f3.f0)) ∧ w'.cell? ⟨(ad344.add ((x3_1).toNat * 11)).block, (ad344.add ((x3_1).toNat * 11)).off + 4, none⟩ = some (.int .i64 ((zg l0_0 x3_1).f3.f1)) ∧ w'.cell? ⟨(ad344.add ((x3_1).toNat * 11)).block, (ad344.add ((x3_1).toNat * 11)).off + 5, none⟩ = some (.int .i64 ((zg l0_0 x3_1).f3.f2)) ∧ w'.cell? ⟨(ad344.add ((x3_1).toNat * 11)).block, (ad344.add ((x3_1).toNat * 11)).off + 6, none⟩ = some (.string ((zg l0_0 x3_1).f4)) ∧ w'.cell? ⟨(ad344.add ((x3_1).toNat * 11)).block, (ad344.add ((x3_1).toNat * 11)).off + 7, none⟩ = some (.slice A365_7 ((zg l0_0 x3_1).f5).length c365_7) ∧ w'.cell? ⟨(ad344.add ((x3_1).toNat * 11)).block, (ad344.add ((x3_1).toNat * 11)).off + 8, none⟩ = some (.int .i64 ((zg l0_0 x3_1).f6)) ∧ w'.cell? ⟨(ad344.add ((x3_1).toNat * 11)).block, (ad344.add ((x3_1).toNat * 11)).off + 9, none⟩ = some (.int .i64 ((zg l0_0 x3_1).f7)) ∧ w'.cell? ⟨(ad344.add ((x3_1).toNat * 11)).block, (ad344.add ((x3_1).toNat * 11)).off + 10, none⟩ = some (.int .i64 ((zg l0_0 x3_1).f8))) (ds := []) zco (by kernel_rfl) rfl rfl ⟨(za BK363.out 0).trans rfl, (za BK363.out 1).trans rfl, (za BK363.out 2).trans rfl, (za BK363.out 3).trans rfl, (za BK363.out 4).trans rfl, (za BK363.out 5).trans rfl, (za BK363.out 6).trans rfl, (za BK363.out 7).trans rfl, (za BK363.out 8).trans rfl, (za BK363.out 9).trans rfl, (za BK363.out 10).trans rfl, (za BK342.out 0).trans rfl, (za BK342.out 1).trans rfl, (za BK342.out 2).trans rfl, (za BK342.out 3).trans rfl, (za BK342.out 4).trans rfl, ((HB.out.cell (World.block_lt_of_cell? w _ hw365_0)).trans hw365_0), ((HB.out.cell (World.block_lt_of_cell? w _ hw365_1)).trans hw365_1), ((HB.out.cell (World.block_lt_of_cell? w _ hw365_2)).trans hw365_2), ((HB.out.cell (World.block_lt_of_cell? w _ hw365_3)).trans hw365_3), ((HB.out.cell (World.block_lt_of_cell? w _ hw365_4)).trans hw365_4), ((HB.out.cell (World.block_lt_of_cell? w _ hw365_5)).trans hw365_5), ((HB.out.cell (World.block_lt_of_cell? w _ hw365_6)).trans hw365_6), ((HB.out.cell (World.block_lt_of_cell? w _ hw365_7)).trans hw365_7), ((HB.out.cell (World.block_lt_of_cell? w _ hw365_8)).trans hw365_8), ((HB.out.cell (World.block_lt_of_cell? w _ hw365_9)).trans hw365_9), ((HB.out.cell (World.block_lt_of_cell? w _ hw365_10)).trans hw365_10)⟩ (fun hHeld => ?_); refine uy zh.tab9 zh.bits9 (fun HT_ HW_ => ?_)
     generalize w34.drew = w35 at HO357 BK342 BK363 HB HR365_7 hx365_0 hx365_1 hx365_10 hx365_2 hx365_3 hx365_4 hx365_5 hx365_6 hx365_7 hx365_8 hx365_9 hHeld ⊢
     refine pq_ 0 50 zcp (zo HT_.out (by kernel_rfl)) ?_
     refine ul (i := 1) (N := some 51) zcq rfl rfl (vn HT_.out (by kernel_rfl)) (by decide) (fun K hK => ?_)
     refine j5 Try.func8 (by kernel_rfl) rfl #[.int .i64 t362] (by rfl) rfl rfl (by (try simp only [List.map_toArray, List.map_cons, List.map_nil]); first | done | rfl | (simp only [List.length_drop, List.length_take]; rfl)) ?_
     with_reducible refine (zy.calls t362 t364 _ A22.out).mono ?_
     rintro e w' ⟨rfl, ⟨nd, rfl⟩⟩
     refine ⟨_, rfl, ?_⟩
     refine hK.out _ _ ⟨(za BK363.out 0).trans rfl, (za BK363.out 1).trans rfl, (za BK363.out 2).trans rfl, (za BK363.out 3).trans rfl, (za BK363.out 4).trans rfl, (za BK363.out 5).trans rfl, (za BK363.out 6).trans rfl, (za BK363.out 7).trans rfl, (za BK363.out 8).trans rfl, (za BK363.out 9).trans rfl, (za BK363.out 10).trans rfl, (za BK342.out 0).trans rfl, (za BK342.out 1).trans rfl, (za BK342.out 2).trans rfl, (za BK342.out 3).trans rfl, (za BK342.out 4).trans rfl, ((HB.out.cell (World.block_lt_of_cell? w _ hw365_0)).trans hw365_0), ((HB.out.cell (World.block_lt_of_cell? w _ hw365_1)).trans hw365_1), ((HB.out.cell (World.block_lt_of_cell? w _ hw365_2)).trans hw365_2), ((HB.out.cell (World.block_lt_of_cell? w _ hw365_3)).trans hw365_3), ((HB.out.cell (World.block_lt_of_cell? w _ hw365_4)).trans hw365_4), ((HB.out.cell (World.block_lt_of_cell? w _ hw365_5)).trans hw365_5), ((HB.out.cell (World.block_lt_of_cell? w _ hw365_6)).trans hw365_6), ((HB.out.cell (World.block_lt_of_cell? w _ hw365_7)).trans hw365_7), ((HB.out.cell (World.block_lt_of_cell? w _ hw365_8)).trans hw365_8), ((HB.out.cell (World.block_lt_of_cell? w _ hw365_9)).trans hw365_9), ((HB.out.cell (World.block_lt_of_cell? w _ hw365_10)).trans hw365_10)⟩ (fun hHeld => ?_)
     clear hK K
     refine um (a' := ?_) ?_ ?_
     rotate_left
     ·
      show Act.put _ (some 51) _ = _
      simp only [Act.put, List.setIfInBounds_toArray, List.set_cons_zero, List.set_cons_succ, vw, ud]
      rfl
     refine gz 2 52 zcr (zo HT_.out (by kernel_rfl)) ?_
     refine pq_ 3 53 zcs (zo HT_.out (by kernel_rfl)) ?_
     refine pq_ 5 55 zeg (zo HT_.out (by kernel_rfl)) ?_
     refine pq_ 6 56 zeh (zo HT_.out (by kernel_rfl)) ?_
     refine pq_ 8 58 zei (zo HT_.out (by kernel_rfl)) ?_
     refine tq_ 4 54 zej (yj HT_.out HW_.out (by kernel_rfl)) hHeld ?_
     refine tq_ 7 57 zct (yj HT_.out HW_.out (by kernel_rfl)) hHeld ?_
     refine pq_ 9 59 zdz (zo HT_.out (by kernel_rfl)) ?_
     refine tq_ 10 60 ze0 (yj HT_.out HW_.out (by kernel_rfl)) hHeld ?_
     refine ul (i := 11) (N := some 61) ze1 rfl rfl (vn HT_.out (by kernel_rfl)) (by decide) (fun K hK => ?_)
     refine j5 Try.func10 (by kernel_rfl) rfl #[.agg #[.int .i64 t348, .int .i64 t349, .int .i64 t350, .int .i64 t351, .int .i64 t352, .int .i64 t353, .string t354, .slice Ao33 t355.length co33, .int .i64 t358, .int .i64 t359, .int .i64 t360], .agg #[.int .i64 ((zg l0_0 x3_1).f0), .int .i64 ((zg l0_0 x3_1).f1), .int .i64 ((zg l0_0 x3_1).f2), .int .i64 ((zg l0_0 x3_1).f3.f0), .int .i64 ((zg l0_0 x3_1).f3.f1), .int .i64 ((zg l0_0 x3_1).f3.f2), .string ((zg l0_0 x3_1).f4), .slice A365_7 ((zg l0_0 x3_1).f5).length c365_7, .int .i64 ((zg l0_0 x3_1).f6), .int .i64 ((zg l0_0 x3_1).f7), .int .i64 ((zg l0_0 x3_1).f8)]] (by rfl) rfl rfl (by (try simp only [List.map_toArray, List.map_cons, List.map_nil]); first | done | rfl | (simp only [List.length_drop, List.length_take]; rfl)) ?_
     with_reducible refine (yu.calls kj9 t348 t349 t350 t351 t352 t353 t354 _ _ t355 t358 t359 t360 ((zg l0_0 x3_1).f0) ((zg l0_0 x3_1).f1) ((zg l0_0 x3_1).f2) ((zg l0_0 x3_1).f3.f0) ((zg l0_0 x3_1).f3.f1) ((zg l0_0 x3_1).f3.f2) ((zg l0_0 x3_1).f4) _ _ ((zg l0_0 x3_1).f5) ((zg l0_0 x3_1).f6) ((zg l0_0 x3_1).f7) ((zg l0_0 x3_1).f8) true _ ?side1 ?side2 ?side3 ?side4 A24.out).mono ?_
     (case side1 => repeat (first | exact (Kd.jn HO357.out).2.2 | (with_reducible refine Kd.yo ?_ _) | (with_reducible refine Kd.yp ?_ _) | (with_reducible refine Kd.yy ?_)))
     (case side2 => exact (Kd.jn HO357.out).2.1)
     (case side3 => repeat (first | exact (Kd.yt HR365_7.out (by repeat (first | (with_reducible first | exact HB.out | apply z8 | apply z6 | apply z7 | refine zb ?_ GE342.out | refine zb ?_ GE363.out) | exact HB.out))) | (with_reducible refine Kd.yo ?_ _) | (with_reducible refine Kd.yp ?_ _) | (with_reducible refine Kd.yy ?_)))
     (case side4 => exact HC365_7.out)
     rintro e w36 ⟨rfl, hb⟩
     refine ⟨_, rfl, ?_⟩
     have n0_ := Aside0.mk (Kd.jl (by (with_reducible repeat (first | apply Kd.uh | apply Kd.ui | apply Kd.uk)); exact HO357.out) hb)
     have n1_ := Aside0.mk (zt (by (with_reducible repeat (first | refine ze ?_ _ | refine zf ?_ | refine zc ?_ _)); exact BK342.out) hb)
     have n2_ := Aside0.mk (zt (by (with_reducible repeat (first | refine ze ?_ _ | refine zf ?_ | refine zc ?_ _)); exact BK363.out) hb)
     have n3_ := Aside0.mk (zj (by repeat (first | (with_reducible first | exact HB.out | apply z8 | apply z6 | apply z7 | refine zb ?_ GE342.out | refine zb ?_ GE363.out) | exact HB.out)) hb)
     clear HO357
     clear BK342
     clear BK363
     clear HB
     have HO357 := n0_
     have BK342 := n1_
     have BK363 := n2_
     have HB := n3_
     clear n0_ n1_ n2_ n3_
     (try clear hb)
     (try clear hb2)
     (try clear hk)
     (try clear hi)
     refine hK.out _ _ ⟨(za BK363.out 0).trans rfl, (za BK363.out 1).trans rfl, (za BK363.out 2).trans rfl, (za BK363.out 3).trans rfl, (za BK363.out 4).trans rfl, (za BK363.out 5).trans rfl, (za BK363.out 6).trans rfl, (za BK363.out 7).trans rfl, (za BK363.out 8).trans rfl, (za BK363.out 9).trans rfl, (za BK363.out 10).trans rfl, (za BK342.out 0).trans rfl, (za BK342.out 1).trans rfl, (za BK342.out 2).trans rfl, (za BK342.out 3).trans rfl, (za BK342.out 4).trans rfl, ((HB.out.cell (World.block_lt_of_cell? w _ hw365_0)).trans hw365_0), ((HB.out.cell (World.block_lt_of_cell? w _ hw365_1)).trans hw365_1), ((HB.out.cell (World.block_lt_of_cell? w _ hw365_2)).trans hw365_2), ((HB.out.cell (World.block_lt_of_cell? w _ hw365_3)).trans hw365_3), ((HB.out.cell (World.block_lt_of_cell? w _ hw365_4)).trans hw365_4), ((HB.out.cell (World.block_lt_of_cell? w _ hw365_5)).trans hw365_5), ((HB.out.cell (World.block_lt_of_cell? w _ hw365_6)).trans hw365_6), ((HB.out.cell (World.block_lt_of_cell? w _ hw365_7)).trans hw365_7), ((HB.out.cell (World.block_lt_of_cell? w _ hw365_8)).trans hw365_8), ((HB.out.cell (World.block_lt_of_cell? w _ hw365_9)).trans hw365_9), ((HB.out.cell (World.block_lt_of_cell? w _ hw365_10)).trans hw365_10)⟩ (fun hHeld => ?_)
     clear hK K
     refine um (a' := ?_) ?_ ?_
     rotate_left
     ·
      show Act.put _ (some 61) _ = _
      simp only [Act.put, List.setIfInBounds_toArray, List.set_cons_zero, List.set_cons_succ, vw, ud]
      rfl
     refine pq_ 12 62 zaw (zo HT_.out (by kernel_rfl)) ?_
     refine pq_ 13 63 zax (zo HT_.out (by kernel_rfl)) ?_
     refine pq_ 14 64 zay (zo HT_.out (by kernel_rfl)) ?_
     refine pq_ 15 65 zaz (zo HT_.out (by kernel_rfl)) ?_
     refine gz 16 66 zb0 (zo HT_.out (by kernel_rfl)) ?_
     refine pq_ 17 67 zb1 (zo HT_.out (by kernel_rfl)) ?_
     refine ju (j9 HT_.out (by kernel_rfl)) ?_
     try go_wp2
     go_roundg kj9
     case measure => have := HK1.out; have := HJ9.out; omega
     case rel => exact ⟨(wrap64 (x3_1 + 1)), (by first | rfl | (simp; done) | (simp [*]; done)), H', ⟨by have := HK1.out; have := HJ9.out; omega⟩, ⟨by (with_reducible repeat (first | refine ze ?_ _ | refine zf ?_ | refine zc ?_ _)); exact BK342.out⟩, ⟨by repeat (first | (with_reducible first | exact HB.out | apply z8 | apply z6 | apply z7 | refine zb ?_ GE342.out | refine zb ?_ GE363.out) | exact HB.out)⟩⟩
    replace c14 := Bool.eq_false_iff.mpr c14
    subst c14
    have H1 : (zh.l1 kj9 0 l0_0 l0_1 l0_2 l0_3 l0_4) = some r := by rw [if_neg (show ¬ (false = true) by decide)] at H; exact H
    clear H
    have H := H1
    clear H1
    have H' := Aside0.mk H
    clear H
    go_wp2
    go_loopg [9] kj9 (fun kq v9 w' => ∃ (x9_3 : Int), v9 = .int .i64 x9_3 ∧ Aside0 (zh.l1 kq x9_3 l0_0 l0_1 l0_2 l0_3 l0_4 = some r) ∧ Aside0 (kq ≤ kj9) ∧ Aside0 (w'.heap[gb342]? = some (.cells #[(.slice A0_0 l0_0.length c0_0), (.slice A0_1 l0_1.length c0_1), (.slice A0_2 l0_2.length c0_2), (.slice A0_3 l0_3.length c0_3), (.slice A0_4 l0_4.length c0_4)] 30 (0, 0))) ∧ Aside0 (Below w.heap.size w w'))
    case atStart => exact ⟨(0), (by first | rfl | (simp; done) | (simp [*]; done)), H', ⟨Nat.le_refl _⟩, ⟨by (with_reducible repeat (first | refine ze ?_ _ | refine zf ?_ | refine zc ?_ _)); exact BK342.out⟩, ⟨by repeat (first | (with_reducible first | exact HB.out | apply z8 | apply z6 | apply z7 | refine zb ?_ GE342.out) | exact HB.out)⟩⟩
    clear H'
    try clear c1
    try clear c2
    try clear p2
    try clear c3
    try clear p3
    try clear q3
    try clear hx3
    try clear c5
    try clear c6
    try clear p6
    try clear c7
    try clear c8
    try clear c9
    try clear c10
    try clear c11
    try clear c11b0
    try clear c14
    try clear c15
    try clear c15b0
    try clear c16
    try clear c16b0
    try clear c19
    try clear c19b0
    try clear c19b1
    try clear c20
    try clear c20b0
    try clear c20b1
    try clear c20b2
    try clear c23
    try clear c23b0
    try clear c23b1
    try clear c25
    try clear c26
    try clear c26b0
    try clear c26b1
    try clear c31
    try clear c34
    try clear p34
    try clear q34
    try clear hx34
    try clear c36
    try clear p36
    try clear q36
    try clear hx36
    try clear hcz12_0
    try clear hcz13_0
    try clear hcz27_0
    try clear hcz32_0
    try clear hcz37_0
    try clear hcz5_0
    try clear hcz8_0
    try clear hfz12_0
    try clear hfz13_0
    try clear hfz27_0
    try clear hfz32_0
    try clear hfz37_0
    try clear hfz5_0
    try clear hfz8_0
    try clear hx344_0
    try clear hx344_1
    try clear hx344_10
    try clear hx344_2
    try clear hx344_3
    try clear hx344_4
    try clear hx344_5
    try clear hx344_6
    try clear hx344_7
    try clear hx344_8
    try clear hx344_9
    try clear hx365_0
    try clear hx365_1
    try clear hx365_10
    try clear hx365_2
    try clear hx365_3
    try clear hx365_4
    try clear hx365_5
    try clear hx365_6
    try clear hx365_7
    try clear hx365_8
    try clear hx365_9
    try clear p2
    try clear p344
    try clear p365
    try clear q344
    try clear q365
    obtain ⟨x9_3, rfl, HA, HK3, BK342, HB⟩ := hrel
    cases gk with
    | zero => exact absurd HA.out (by simp [zh.l1])
    | succ k3 =>
     have H := HA.out
     clear HA
     simp only [zh.l1] at H
     have HC39 := Aside0.mk H
     clear H
     go_upto_region 12 with (fail)
     go_cut [76] (fun v76 wc => ∃ (kq : Nat) (x76_38 : Bool), v76 = .bool x76_38 ∧ Aside0 (zh.j3 kq x9_3 x76_38 l0_0 l0_1 l0_2 l0_3 l0_4 = some r) ∧ Aside0 (kq ≤ k3) ∧ Aside0 (wc.heap[gb342]? = some (.cells #[(.slice A0_0 l0_0.length c0_0), (.slice A0_1 l0_1.length c0_1), (.slice A0_2 l0_2.length c0_2), (.slice A0_3 l0_3.length c0_3), (.slice A0_4 l0_4.length c0_4)] 30 (0, 0))) ∧ Aside0 (Below w.heap.size w wc))
     case first =>
      have H := HC39.out
      clear HC39
      by_cases c40 : x9_3 < (l0_3.length : Int)
      ·
       rw [if_pos c40] at H
       have c40b0 : decide (x9_3 < (l0_3.length : Int)) = true := decide_eq_true c40
       clear c40
       (first | rw [c40b0] | (simp only [vw, ud]; rw [c40b0]) | skip)
       have H' := Aside0.mk H
       clear H
       have hcz41_0 := gq BK342.out
       have hfz41_0 := fun j_ => zi BK342.out j_
       go_wp2
       go_meet
       case rel => exact ⟨_, (decide (x9_3 < 8)), (by first | rfl | (simp; done) | (simp [*]; done)), H', ⟨by have := HK1.out; have := HJ9.out; have := HK3.out; first | omega | exact Nat.le_refl _⟩, ⟨by (with_reducible repeat (first | refine ze ?_ _ | refine zf ?_ | refine zc ?_ _)); exact BK342.out⟩, ⟨by repeat (first | (with_reducible first | exact HB.out | apply z8 | apply z6 | apply z7 | refine zb ?_ GE342.out) | exact HB.out)⟩⟩
      rw [if_neg c40] at H
      have c40b0 : decide (x9_3 < (l0_3.length : Int)) = false := decide_eq_false c40
      clear c40
      (first | rw [c40b0] | (simp only [vw, ud]; rw [c40b0]) | skip)
      have H' := Aside0.mk H
      clear H
      have hcz42_0 := gq BK342.out
      have hfz42_0 := fun j_ => zi BK342.out j_
      go_wp2
      go_meet
      case rel => exact ⟨_, (false), (by first | rfl | (simp; done) | (simp [*]; done)), H', ⟨by have := HK1.out; have := HJ9.out; have := HK3.out; first | omega | exact Nat.le_refl _⟩, ⟨by (with_reducible repeat (first | refine ze ?_ _ | refine zf ?_ | refine zc ?_ _)); exact BK342.out⟩, ⟨by repeat (first | (with_reducible first | exact HB.out | apply z8 | apply z6 | apply z7 | refine zb ?_ GE342.out) | exact HB.out)⟩⟩
     case rest =>
      clear HC39
      try clear c1
      try clear c2
      try clear p2
      try clear c3
      try clear p3
      try clear q3
      try clear hx3
      try clear c4
      try clear c5
      try clear c6
      try clear p6
      try clear c7
      try clear c8
      try clear c9
      try clear c10
      try clear c11
      try clear c11b0
      try clear c14
      try clear c15
      try clear c15b0
      try clear c16
      try clear c16b0
      try clear c19
      try clear c19b0
      try clear c19b1
      try clear c20
      try clear c20b0
      try clear c20b1
      try clear c20b2
      try clear c23
      try clear c23b0
      try clear c23b1
      try clear c25
      try clear c26
      try clear c26b0
      try clear c26b1
      try clear c31
      try clear c34
      try clear p34
      try clear q34
      try clear hx34
      try clear c36
      try clear p36
      try clear q36
      try clear hx36
      try clear c40
      try clear c40b0
      try clear hcz12_0
      try clear hcz13_0
      try clear hcz27_0
      try clear hcz32_0
      try clear hcz37_0
      try clear hcz41_0
      try clear hcz42_0
      try clear hcz5_0
      try clear hcz8_0
      try clear hfz12_0
      try clear hfz13_0
      try clear hfz27_0
      try clear hfz32_0
      try clear hfz37_0
      try clear hfz41_0
      try clear hfz42_0
      try clear hfz5_0
      try clear hfz8_0
      try clear hx344_0
      try clear hx344_1
      try clear hx344_10
      try clear hx344_2
      try clear hx344_3
      try clear hx344_4
      try clear hx344_5
      try clear hx344_6
      try clear hx344_7
      try clear hx344_8
      try clear hx344_9
      try clear hx365_0
      try clear hx365_1
      try clear hx365_10
      try clear hx365_2
      try clear hx365_3
      try clear hx365_4
      try clear hx365_5
      try clear hx365_6
      try clear hx365_7
      try clear hx365_8
      try clear hx365_9
      try clear p2
      try clear p3
      try clear p34
      try clear p344
      try clear p36
      try clear p365
      try clear p6
      try clear q3
      try clear q34
      try clear q344
      try clear q36
      try clear q365
      obtain ⟨kq, x76_38, rfl, HA, HJ38, BK342, HB⟩ := hcut
      cases kq with
      | zero => exact absurd HA.out (by simp [zh.j3])
      | succ kj38 =>
       have H := HA.out
       clear HA
       simp only [zh.j3] at H
       by_cases c43 : x76_38 = true
       rotate_left
       ·
        replace c43 := Bool.eq_false_iff.mpr c43
        subst c43
        have H1 : ((gb.f 97).bind fun t367 => (if t367 = true then ((vm.f kj38).bind fun t368 => (some t368)) else (none))) = some r := by rw [if_neg (show ¬ (false = true) by decide)] at H; exact H
        clear H
        have H := H1
        clear H1
        replace H := Option.bind_eq_some_iff.mp H
        obtain ⟨t367, A760, H⟩ := H
        replace H : (if t367 = true then ((vm.f kj38).bind fun t368 => (some t368)) else (none)) = some r := H
        have A76 := Aside0.mk A760
        clear A760
        by_cases c77 : t367 = true
        rotate_left
        ·
         replace c77 := Bool.eq_false_iff.mpr c77
         subst c77
         have H1 : (none) = some r := by rw [if_neg (show ¬ (false = true) by decide)] at H; exact H
         clear H
         have H := H1
         clear H1
         exact absurd H (by simp)
        subst c77
        have H1 : ((vm.f kj38).bind fun t368 => (some t368)) = some r := by rw [if_pos rfl] at H; exact H
        clear H
        have H := H1
        clear H1
        replace H := Option.bind_eq_some_iff.mp H
        obtain ⟨t368, A780, H⟩ := H
        replace H : (some t368) = some r := H
        have A78 := Aside0.mk A780
        clear A780
        obtain rfl := Option.some.inj H
        go_wp2_with (first | ((with_reducible refine zu (f := 14) rfl ?_); refine yn (some 120) rfl rfl Try.func14 (by kernel_rfl) rfl #[.int .i32 97] rfl (by (try simp only [List.map_toArray, List.map_cons, List.map_nil]); first | done | rfl | (simp only [List.length_drop, List.length_take]; rfl)) ?_; (with_reducible refine (gb.calls 97 true _ A76.out).mono ?_); rintro e w' ⟨rfl, ⟨nd, rfl⟩⟩; refine ⟨_, rfl, ?_⟩) | (go_at_call 15; (with_reducible refine (vm.calls kj38  t368 _ A78.out).mono ?_); rintro e w79 ⟨rfl, hb⟩; have n0_ := Aside0.mk (zt (by (with_reducible repeat (first | refine ze ?_ _ | refine zf ?_ | refine zc ?_ _)); exact BK342.out) hb); have n1_ := Aside0.mk (zj (by repeat (first | (with_reducible first | exact HB.out | apply z8 | apply z6 | apply z7 | refine zb ?_ GE342.out) | exact HB.out)) hb); clear BK342; clear HB; have BK342 := n0_; have HB := n1_; clear n0_ n1_; (try clear hb); (try clear hb2); (try clear hk); (try clear hi)))
        go_ret
        exact ⟨by first | rfl | (simp [zm, zn] <;> rfl) | (simp [*, zm, zn] <;> rfl), by repeat (first | (with_reducible first | exact HB.out | apply z8 | apply z6 | apply z7 | refine zb ?_ GE342.out) | exact HB.out)⟩
       subst c43
       have H1 : (if 0 ≤ x9_3 then (if x9_3 < (l0_3.length : Int) then ((uj.f kj38 ((yg l0_3 x9_3).f0) ((yg l0_3 x9_3).f1) ((yg l0_3 x9_3).f2) ((yg l0_3 x9_3).f3) ((yg l0_3 x9_3).f4) ((yg l0_3 x9_3).f5) ((yg l0_3 x9_3).f6)).bind fun bt370 => ((zy.f bt370.2).bind fun t372 => (if t372 = 0 then ((ym.f kj38 bt370.1).bind fun bt373 => (if bt370.1.size + 1 ≤ 9223372036854775807 then ((ym.f kj38 (bt370.1 ++ (⟨#[1]⟩ : ByteArray))).bind fun bt384 => ((zy.f bt373.2.2.2.2.2.2.2).bind fun t395 => (if t395 = 0 then ((zy.f bt384.2.2.2.2.2.2.2).bind fun t396 => (if t396 = 7 then ((yz.f kj38 bt373.1 bt373.2.1 bt373.2.2.1 bt373.2.2.2.1 bt373.2.2.2.2.1 bt373.2.2.2.2.2.1 bt373.2.2.2.2.2.2.1 ((yg l0_3 x9_3).f0) ((yg l0_3 x9_3).f1) ((yg l0_3 x9_3).f2) ((yg l0_3 x9_3).f3) ((yg l0_3 x9_3).f4) ((yg l0_3 x9_3).f5) ((yg l0_3 x9_3).f6)).bind fun t398 => (if t398 = true then (zh.l1 kj38 (wrap64 (x9_3 + 1)) l0_0 l0_1 l0_2 l0_3 l0_4) else (none))) else (none))) else (none)))) else (none))) else (zh.l1 kj38 (wrap64 (x9_3 + 1)) l0_0 l0_1 l0_2 l0_3 l0_4)))) else (none)) else (none)) = some r := by rw [if_pos rfl] at H; exact H
       clear H
       have H := H1
       clear H1
       by_cases c44 : 0 ≤ x9_3
       rotate_left
       ·
        rw [if_neg c44] at H
        exact absurd H (by simp)
       rw [if_pos c44] at H
       have c44b0 : decide (0 ≤ x9_3) = true := decide_eq_true c44
       clear c44
       by_cases c45 : x9_3 < (l0_3.length : Int)
       rotate_left
       ·
        rw [if_neg c45] at H
        exact absurd H (by simp)
       rw [if_pos c45] at H
       have c45b0 : decide (x9_3 < (l0_3.length : Int)) = true := decide_eq_true c45
       clear c45
       replace H := Option.bind_eq_some_iff.mp H
       obtain ⟨⟨t370, t371⟩, A460, H⟩ := H
       replace H : ((zy.f t371).bind fun t372 => (if t372 = 0 then ((ym.f kj38 t370).bind fun bt373 => (if t370.size + 1 ≤ 9223372036854775807 then ((ym.f kj38 (t370 ++ (⟨#[1]⟩ : ByteArray))).bind fun bt384 => ((zy.f bt373.2.2.2.2.2.2.2).bind fun t395 => (if t395 = 0 then ((zy.f bt384.2.2.2.2.2.2.2).bind fun t396 => (if t396 = 7 then ((yz.f kj38 bt373.1 bt373.2.1 bt373.2.2.1 bt373.2.2.2.1 bt373.2.2.2.2.1 bt373.2.2.2.2.2.1 bt373.2.2.2.2.2.2.1 ((yg l0_3 x9_3).f0) ((yg l0_3 x9_3).f1) ((yg l0_3 x9_3).f2) ((yg l0_3 x9_3).f3) ((yg l0_3 x9_3).f4) ((yg l0_3 x9_3).f5) ((yg l0_3 x9_3).f6)).bind fun t398 => (if t398 = true then (zh.l1 kj38 (wrap64 (x9_3 + 1)) l0_0 l0_1 l0_2 l0_3 l0_4) else (none))) else (none))) else (none)))) else (none))) else (zh.l1 kj38 (wrap64 (x9_3 + 1)) l0_0 l0_1 l0_2 l0_3 l0_4))) = some r := H
       have A46 := Aside0.mk A460
       clear A460
       replace H := Option.bind_eq_some_iff.mp H
       obtain ⟨t372, A470, H⟩ := H
       replace H : (if t372 = 0 then ((ym.f kj38 t370).bind fun bt373 => (if t370.size + 1 ≤ 9223372036854775807 then ((ym.f kj38 (t370 ++ (⟨#[1]⟩ : ByteArray))).bind fun bt384 => ((zy.f bt373.2.2.2.2.2.2.2).bind fun t395 => (if t395 = 0 then ((zy.f bt384.2.2.2.2.2.2.2).bind fun t396 => (if t396 = 7 then ((yz.f kj38 bt373.1 bt373.2.1 bt373.2.2.1 bt373.2.2.2.1 bt373.2.2.2.2.1 bt373.2.2.2.2.2.1 bt373.2.2.2.2.2.2.1 ((yg l0_3 x9_3).f0) ((yg l0_3 x9_3).f1) ((yg l0_3 x9_3).f2) ((yg l0_3 x9_3).f3) ((yg l0_3 x9_3).f4) ((yg l0_3 x9_3).f5) ((yg l0_3 x9_3).f6)).bind fun t398 => (if t398 = true then (zh.l1 kj38 (wrap64 (x9_3 + 1)) l0_0 l0_1 l0_2 l0_3 l0_4) else (none))) else (none))) else (none)))) else (none))) else (zh.l1 kj38 (wrap64 (x9_3 + 1)) l0_0 l0_1 l0_2 l0_3 l0_4)) = some r := H
       have A47 := Aside0.mk A470
       clear A470
       by_cases c48 : t372 = 0
       rotate_left
       ·
        rw [if_neg c48] at H
        have c48b0 : (t372 == 0) = false := beq_eq_false_iff_ne.mpr c48
        have c48b1 : (t372 != 0) = true := bne_iff_ne.mpr c48
        have H' := Aside0.mk H
        clear H
        have hcz74_0 := gq BK342.out
        have hfz74_0 := fun j_ => zi BK342.out j_
        have p369 : 0 ≤ (x9_3 : Int) := of_decide_eq_true (by first | (with_reducible assumption) | assumption)
        have q369 : x9_3 < (l0_3.length : Int) := of_decide_eq_true (by first | (with_reducible assumption) | assumption)
        obtain ⟨ad369, A369_6, c369_6, e369, hx369_0, hx369_1, hx369_2, hx369_3, hx369_4, hx369_5, hx369_6, hl369_6, hi369_6⟩ := z48 HR0_3.out x9_3 p369 q369
        cases e369
        replace hx369_0 := (HB.out.cell (World.block_lt_of_cell? w _ hx369_0)).trans hx369_0
        replace hx369_1 := (HB.out.cell (World.block_lt_of_cell? w _ hx369_1)).trans hx369_1
        replace hx369_2 := (HB.out.cell (World.block_lt_of_cell? w _ hx369_2)).trans hx369_2
        replace hx369_3 := (HB.out.cell (World.block_lt_of_cell? w _ hx369_3)).trans hx369_3
        replace hx369_4 := (HB.out.cell (World.block_lt_of_cell? w _ hx369_4)).trans hx369_4
        replace hx369_5 := (HB.out.cell (World.block_lt_of_cell? w _ hx369_5)).trans hx369_5
        replace hx369_6 := (HB.out.cell (World.block_lt_of_cell? w _ hx369_6)).trans hx369_6
        have HR369_6 := Aside0.mk hi369_6
        have HC369_6 := Aside0.mk hl369_6
        clear hi369_6 hl369_6
        replace p369 := eq_true p369
        replace q369 := eq_true q369
        go_wp2_with (first | ((with_reducible refine zu (f := 11) rfl ?_); refine yn (some 85) rfl rfl Try.func11 (by kernel_rfl) rfl #[.agg #[.int .i64 ((yg l0_3 x9_3).f0), .int .i64 ((yg l0_3 x9_3).f1), .int .i64 ((yg l0_3 x9_3).f2), .int .i64 ((yg l0_3 x9_3).f3), .int .i64 ((yg l0_3 x9_3).f4), .int .i64 ((yg l0_3 x9_3).f5), .slice A369_6 ((yg l0_3 x9_3).f6).length c369_6]] rfl (by (try simp only [List.map_toArray, List.map_cons, List.map_nil]); first | done | rfl | (simp only [List.length_drop, List.length_take]; rfl)) ?_; (with_reducible refine (uj.calls kj38 ((yg l0_3 x9_3).f0) ((yg l0_3 x9_3).f1) ((yg l0_3 x9_3).f2) ((yg l0_3 x9_3).f3) ((yg l0_3 x9_3).f4) ((yg l0_3 x9_3).f5) _ _ ((yg l0_3 x9_3).f6) t370 t371 _ ?side1 ?side2 A46.out).mono ?_); (case side1 => repeat (first | exact (Kd.yt HR369_6.out HB.out) | (with_reducible refine Kd.yo ?_ _) | (with_reducible refine Kd.yp ?_ _) | (with_reducible refine Kd.yy ?_))); (case side2 => exact HC369_6.out); rintro e w75 ⟨rfl, hb⟩; refine ⟨_, rfl, ?_⟩; have n0_ := Aside0.mk (zt (by (with_reducible repeat (first | refine ze ?_ _ | refine zf ?_ | refine zc ?_ _)); exact BK342.out) hb); have n1_ := Aside0.mk (zj (by repeat (first | (with_reducible first | exact HB.out | apply z8 | apply z6 | apply z7 | refine zb ?_ GE342.out) | exact HB.out)) hb); clear BK342; clear HB; have BK342 := n0_; have HB := n1_; clear n0_ n1_; (try clear hb); (try clear hb2); (try clear hk); (try clear hi)) | ((with_reducible refine zu (f := 8) rfl ?_); refine yn (some 89) rfl rfl Try.func8 (by kernel_rfl) rfl #[.int .i64 t371] rfl (by (try simp only [List.map_toArray, List.map_cons, List.map_nil]); first | done | rfl | (simp only [List.length_drop, List.length_take]; rfl)) ?_; (with_reducible refine (zy.calls t371 t372 _ A47.out).mono ?_); rintro e w' ⟨rfl, ⟨nd, rfl⟩⟩; refine ⟨_, rfl, ?_⟩))
        go_roundg kj38
        case measure => have := HK1.out; have := HJ9.out; have := HK3.out; have := HJ38.out; omega
        case rel => exact ⟨(wrap64 (x9_3 + 1)), (by first | rfl | (simp; done) | (simp [*]; done)), H', ⟨by have := HK1.out; have := HJ9.out; have := HK3.out; have := HJ38.out; omega⟩, ⟨by (with_reducible repeat (first | refine ze ?_ _ | refine zf ?_ | refine zc ?_ _)); exact BK342.out⟩, ⟨by repeat (first | (with_reducible first | exact HB.out | apply z8 | apply z6 | apply z7 | refine zb ?_ GE342.out) | exact HB.out)⟩⟩
       rw [if_pos c48] at H
       have c48b0 : (t372 == 0) = true := beq_iff_eq.mpr c48
       have c48b1 : (t372 != 0) = false := bne_eq_false_iff_eq.mpr c48
       clear c48
       replace H := Option.bind_eq_some_iff.mp H
       obtain ⟨⟨t373, t374, t375, t376, t377, t378, t379, t382⟩, A490, H⟩ := H
       replace H : (if t370.size + 1 ≤ 9223372036854775807 then ((ym.f kj38 (t370 ++ (⟨#[1]⟩ : ByteArray))).bind fun bt384 => ((zy.f t382).bind fun t395 => (if t395 = 0 then ((zy.f bt384.2.2.2.2.2.2.2).bind fun t396 => (if t396 = 7 then ((yz.f kj38 t373 t374 t375 t376 t377 t378 t379 ((yg l0_3 x9_3).f0) ((yg l0_3 x9_3).f1) ((yg l0_3 x9_3).f2) ((yg l0_3 x9_3).f3) ((yg l0_3 x9_3).f4) ((yg l0_3 x9_3).f5) ((yg l0_3 x9_3).f6)).bind fun t398 => (if t398 = true then (zh.l1 kj38 (wrap64 (x9_3 + 1)) l0_0 l0_1 l0_2 l0_3 l0_4) else (none))) else (none))) else (none)))) else (none)) = some r := H
       have A49 := Aside0.mk A490
       clear A490
       by_cases c50 : t370.size + 1 ≤ 9223372036854775807
       rotate_left
       ·
        rw [if_neg c50] at H
        exact absurd H (by simp)
       rw [if_pos c50] at H
       have c50b0 := eq_true c50
       have c50b1 : decide (t370.size + 1 ≤ 9223372036854775807) = true := decide_eq_true c50
       try have c50b2 : (9223372036854775807 < t370.size + 1) = False := eq_false (Nat.not_lt.2 c50)
       replace H := Option.bind_eq_some_iff.mp H
       obtain ⟨⟨t384, t385, t386, t387, t388, t389, t390, t393⟩, A510, H⟩ := H
       replace H : ((zy.f t382).bind fun t395 => (if t395 = 0 then ((zy.f t393).bind fun t396 => (if t396 = 7 then ((yz.f kj38 t373 t374 t375 t376 t377 t378 t379 ((yg l0_3 x9_3).f0) ((yg l0_3 x9_3).f1) ((yg l0_3 x9_3).f2) ((yg l0_3 x9_3).f3) ((yg l0_3 x9_3).f4) ((yg l0_3 x9_3).f5) ((yg l0_3 x9_3).f6)).bind fun t398 => (if t398 = true then (zh.l1 kj38 (wrap64 (x9_3 + 1)) l0_0 l0_1 l0_2 l0_3 l0_4) else (none))) else (none))) else (none))) = some r := H
       have A51 := Aside0.mk A510
       clear A510
       replace H := Option.bind_eq_some_iff.mp H
       obtain ⟨t395, A520, H⟩ := H
       replace H : (if t395 = 0 then ((zy.f t393).bind fun t396 => (if t396 = 7 then ((yz.f kj38 t373 t374 t375 t376 t377 t378 t379 ((yg l0_3 x9_3).f0) ((yg l0_3 x9_3).f1) ((yg l0_3 x9_3).f2) ((yg l0_3 x9_3).f3) ((yg l0_3 x9_3).f4) ((yg l0_3 x9_3).f5) ((yg l0_3 x9_3).f6)).bind fun t398 => (if t398 = true then (zh.l1 kj38 (wrap64 (x9_3 + 1)) l0_0 l0_1 l0_2 l0_3 l0_4) else (none))) else (none))) else (none)) = some r := H
       have A52 := Aside0.mk A520
       clear A520
       by_cases c53 : t395 = 0
       rotate_left
       ·
        rw [if_neg c53] at H
        exact absurd H (by simp)
       rw [if_pos c53] at H
       have c53b0 : (t395 == 0) = true := beq_iff_eq.mpr c53
       have c53b1 : (t395 != 0) = false := bne_eq_false_iff_eq.mpr c53
       clear c53
       replace H := Option.bind_eq_some_iff.mp H
       obtain ⟨t396, A540, H⟩ := H
       replace H : (if t396 = 7 then ((yz.f kj38 t373 t374 t375 t376 t377 t378 t379 ((yg l0_3 x9_3).f0) ((yg l0_3 x9_3).f1) ((yg l0_3 x9_3).f2) ((yg l0_3 x9_3).f3) ((yg l0_3 x9_3).f4) ((yg l0_3 x9_3).f5) ((yg l0_3 x9_3).f6)).bind fun t398 => (if t398 = true then (zh.l1 kj38 (wrap64 (x9_3 + 1)) l0_0 l0_1 l0_2 l0_3 l0_4) else (none))) else (none)) = some r := H
       have A54 := Aside0.mk A540
       clear A540
       by_cases c55 : t396 = 7
       rotate_left
       ·
        rw [if_neg c55] at H
        exact absurd H (by simp)
       rw [if_pos c55] at H
       have c55b0 : (t396 == 7) = true := beq_iff_eq.mpr c55
       have c55b1 : (t396 != 7) = false := bne_eq_false_iff_eq.mpr c55
       clear c55
       replace H := Option.bind_eq_some_iff.mp H
       obtain ⟨t398, A560, H⟩ := H
       replace H : (if t398 = true then (zh.l1 kj38 (wrap64 (x9_3 + 1)) l0_0 l0_1 l0_2 l0_3 l0_4) else (none)) = some r := H
       have A56 := Aside0.mk A560
       clear A560
       by_cases c57 : t398 = true
       rotate_left
       ·
        replace c57 := Bool.eq_false_iff.mpr c57
        subst c57
        have H1 : (none) = some r := by rw [if_neg (show ¬ (false = true) by decide)] at H; exact H
        clear H
        have H := H1
        clear H1
        exact absurd H (by simp)
       subst c57
       have H1 : (zh.l1 kj38 (wrap64 (x9_3 + 1)) l0_0 l0_1 l0_2 l0_3 l0_4) = some r := by rw [if_pos rfl] at H; exact H
       clear H
       have H := H1
       clear H1
       have H' := Aside0.mk H
       clear H
       have hcz58_0 := gq BK342.out
       have hfz58_0 := fun j_ => zi BK342.out j_
       have p369 : 0 ≤ (x9_3 : Int) := of_decide_eq_true (by first | (with_reducible assumption) | assumption)
       have q369 : x9_3 < (l0_3.length : Int) := of_decide_eq_true (by first | (with_reducible assumption) | assumption)
       obtain ⟨ad369, A369_6, c369_6, e369, hx369_0, hx369_1, hx369_2, hx369_3, hx369_4, hx369_5, hx369_6, hl369_6, hi369_6⟩ := z48 HR0_3.out x9_3 p369 q369
       cases e369
       replace hx369_0 := (HB.out.cell (World.block_lt_of_cell? w _ hx369_0)).trans hx369_0
       replace hx369_1 := (HB.out.cell (World.block_lt_of_cell? w _ hx369_1)).trans hx369_1
       replace hx369_2 := (HB.out.cell (World.block_lt_of_cell? w _ hx369_2)).trans hx369_2
       replace hx369_3 := (HB.out.cell (World.block_lt_of_cell? w _ hx369_3)).trans hx369_3
       replace hx369_4 := (HB.out.cell (World.block_lt_of_cell? w _ hx369_4)).trans hx369_4
       replace hx369_5 := (HB.out.cell (World.block_lt_of_cell? w _ hx369_5)).trans hx369_5
       replace hx369_6 := (HB.out.cell (World.block_lt_of_cell? w _ hx369_6)).trans hx369_6
       have HR369_6 := Aside0.mk hi369_6
       have HC369_6 := Aside0.mk hl369_6
       clear hi369_6 hl369_6
       replace p369 := eq_true p369
       replace q369 := eq_true q369
       try go_wp2_with (first | ((with_reducible refine zu (f := 11) rfl ?_); refine yn (some 85) rfl rfl Try.func11 (by kernel_rfl) rfl #[.agg #[.int .i64 ((yg l0_3 x9_3).f0), .int .i64 ((yg l0_3 x9_3).f1), .int .i64 ((yg l0_3 x9_3).f2), .int .i64 ((yg l0_3 x9_3).f3), .int .i64 ((yg l0_3 x9_3).f4), .int .i64 ((yg l0_3 x9_3).f5), .slice A369_6 ((yg l0_3 x9_3).f6).length c369_6]] rfl (by (try simp only [List.map_toArray, List.map_cons, List.map_nil]); first | done | rfl | (simp only [List.length_drop, List.length_take]; rfl)) ?_; (with_reducible refine (uj.calls kj38 ((yg l0_3 x9_3).f0) ((yg l0_3 x9_3).f1) ((yg l0_3 x9_3).f2) ((yg l0_3 x9_3).f3) ((yg l0_3 x9_3).f4) ((yg l0_3 x9_3).f5) _ _ ((yg l0_3 x9_3).f6) t370 t371 _ ?side1 ?side2 A46.out).mono ?_); (case side1 => repeat (first | exact (Kd.yt HR369_6.out HB.out) | (with_reducible refine Kd.yo ?_ _) | (with_reducible refine Kd.yp ?_ _) | (with_reducible refine Kd.yy ?_))); (case side2 => exact HC369_6.out); rintro e w59 ⟨rfl, hb⟩; refine ⟨_, rfl, ?_⟩; have n0_ := Aside0.mk (zt (by (with_reducible repeat (first | refine ze ?_ _ | refine zf ?_ | refine zc ?_ _)); exact BK342.out) hb); have n1_ := Aside0.mk (zj (by repeat (first | (with_reducible first | exact HB.out | apply z8 | apply z6 | apply z7 | refine zb ?_ GE342.out) | exact HB.out)) hb); clear BK342; clear HB; have BK342 := n0_; have HB := n1_; clear n0_ n1_; (try clear hb); (try clear hb2); (try clear hk); (try clear hi)) | ((with_reducible refine zu (f := 8) rfl ?_); refine yn (some 89) rfl rfl Try.func8 (by kernel_rfl) rfl #[.int .i64 t371] rfl (by (try simp only [List.map_toArray, List.map_cons, List.map_nil]); first | done | rfl | (simp only [List.length_drop, List.length_take]; rfl)) ?_; (with_reducible refine (zy.calls t371 t372 _ A47.out).mono ?_); rintro e w' ⟨rfl, ⟨nd, rfl⟩⟩; refine ⟨_, rfl, ?_⟩; (try (rw [z47 w59]; generalize hq_ : World.drewN w59 _ = w59; have n0_ : Aside0 (w59.heap[gb342]? = some (.cells #[.slice A0_0 l0_0.length c0_0, .slice A0_1 l0_1.length c0_1, .slice A0_2 l0_2.length c0_2, .slice (some ad369) l0_3.length c0_3, .slice A0_4 l0_4.length c0_4] 30 (0, 0))) := ⟨by rw [← hq_]; exact (by (with_reducible repeat (first | refine ze ?_ _ | refine zf ?_ | refine zc ?_ _)); exact BK342.out)⟩; have n1_ : Aside0 (Below w.heap.size w w59) := ⟨by rw [← hq_]; exact (by repeat (first | (with_reducible first | exact HB.out | apply z8 | apply z6 | apply z7 | refine zb ?_ GE342.out) | exact HB.out))⟩; clear BK342 HB hq_; have BK342 := n0_; have HB := n1_; clear n0_ n1_))) | ((with_reducible refine zu (f := 12) rfl ?_); refine yn (some 93) rfl rfl Try.func12 (by kernel_rfl) rfl #[.string t370] rfl (by (try simp only [List.map_toArray, List.map_cons, List.map_nil]); first | done | rfl | (simp only [List.length_drop, List.length_take]; rfl)) ?_; (with_reducible refine (ym.calls kj38 t370 t373 t374 t375 t376 t377 t378 t379 t382 _ A49.out).mono ?_); rintro e w60 ⟨v380, rfl, ho0, hb⟩; refine ⟨_, rfl, ?_⟩; have n0_ := Aside0.mk (Kd.z1f ho0 (zk (by repeat (first | (with_reducible first | exact HB.out | apply z8 | apply z6 | apply z7 | refine zb ?_ GE342.out) | exact HB.out)))); have n1_ := Aside0.mk (zt (by (with_reducible repeat (first | refine ze ?_ _ | refine zf ?_ | refine zc ?_ _)); exact BK342.out) hb); have n2_ := Aside0.mk (zj (by repeat (first | (with_reducible first | exact HB.out | apply z8 | apply z6 | apply z7 | refine zb ?_ GE342.out) | exact HB.out)) hb); clear BK342; clear HB; have HO381 := n0_; have BK342 := n1_; have HB := n2_; clear n0_ n1_ n2_; (try clear hb); (try clear hb2); (try clear hk); (try clear hi); (try clear ho0)) | ((with_reducible refine yf (N := 12) rfl ?_); refine yd ?hg (N := 12) ?hd (cs := #[.int .i64 0, .int .i64 0, .int .i64 0, .int .i64 0, .int .i64 0, .int .i64 0, .slice none 0 0]) (t := 45) ?hr ?_; (case hd => rfl); (case hg => rfl); (case hr => first | (go_simp; done) | (go_simp; rfl)); intro gb383 hg w61 hbox hb; have n0_ := Aside0.mk (Kd.z02 (by (with_reducible repeat (first | apply Kd.jw | apply Kd.jx | apply Kd.jy)); exact HO381.out) hb); have n1_ := Aside0.mk (zt (by (with_reducible repeat (first | refine ze ?_ _ | refine zf ?_ | refine zc ?_ _)); exact BK342.out) hb); have n2_ := Aside0.mk (zj (by repeat (first | (with_reducible first | exact HB.out | apply z8 | apply z6 | apply z7 | refine zb ?_ GE342.out) | exact HB.out)) hb); have n3_ := Aside0.mk (hbox); have n4_ := Aside0.mk ((by rw [hg]; exact (zk (by repeat (first | (with_reducible first | exact HB.out | apply z8 | apply z6 | apply z7 | refine zb ?_ GE342.out) | exact HB.out))) : w.heap.size ≤ gb383)); have n5_ := Aside0.mk ((by rw [hg]; exact (zk (by repeat (first | (with_reducible first | exact HB.out | apply z8 | apply z6 | apply z7 | refine zb ?_ GE342.out) | exact HB.out))) : w.heap.size ≤ gb383)); have n6_ := Aside0.mk ((by rw [hg]; exact Nat.ne_of_lt (vo (g := gb342) (o := .cells #[.slice A0_0 l0_0.length c0_0, .slice A0_1 l0_1.length c0_1, .slice A0_2 l0_2.length c0_2, .slice (some ad369) l0_3.length c0_3, .slice A0_4 l0_4.length c0_4] 30 (0, 0)) (by (with_reducible repeat (first | refine ze ?_ _ | refine zf ?_ | refine zc ?_ _)); exact BK342.out)) : gb342 ≠ gb383)); have n7_ := Aside0.mk ((by rw [hg]; exact Nat.ne_of_gt (vo (g := gb342) (o := .cells #[.slice A0_0 l0_0.length c0_0, .slice A0_1 l0_1.length c0_1, .slice A0_2 l0_2.length c0_2, .slice (some ad369) l0_3.length c0_3, .slice A0_4 l0_4.length c0_4] 30 (0, 0)) (by (with_reducible repeat (first | refine ze ?_ _ | refine zf ?_ | refine zc ?_ _)); exact BK342.out)) : gb383 ≠ gb342)); clear HO381; clear BK342; clear HB; have HO381 := n0_; have BK342 := n1_; have HB := n2_; have BK383 := n3_; have GW383 := n4_; have GE383 := n5_; have NB342_383 := n6_; have NB383_342 := n7_; clear n0_ n1_ n2_ n3_ n4_ n5_ n6_ n7_; clear hb hbox hg; have hnb62 := NB383_342.out; have hnc62 := NB342_383.out; have hcz63_0 := ug BK383.out; have hfz63_0 := fun j_ => zi BK383.out j_; obtain ⟨Ao64, co64, eo64⟩ := Kd.z0n HO381.out; subst eo64) | ((with_reducible refine zu (f := 12) rfl ?_); refine yn (some 99) rfl rfl Try.func12 (by kernel_rfl) rfl #[.string (t370 ++ (⟨#[1]⟩ : ByteArray))] rfl (by (try simp only [List.map_toArray, List.map_cons, List.map_nil]); first | done | rfl | (simp only [List.length_drop, List.length_take]; rfl)) ?_; (with_reducible refine (ym.calls kj38 (t370 ++ (⟨#[1]⟩ : ByteArray)) t384 t385 t386 t387 t388 t389 t390 t393 _ A51.out).mono ?_); rintro e w65 ⟨v391, rfl, ho0, hb⟩; refine ⟨_, rfl, ?_⟩; have n0_ := Aside0.mk (Kd.z9z (by (with_reducible repeat (first | apply Kd.jw | apply Kd.jx | apply Kd.jy)); exact (Kd.z0j (Kd.jb (p := ⟨gb383, 6, none⟩) (Kd.jb (p := ⟨gb383, 5, none⟩) (Kd.jb (p := ⟨gb383, 4, none⟩) (Kd.jb (p := ⟨gb383, 3, none⟩) (Kd.jb (p := ⟨gb383, 2, none⟩) (Kd.jb (p := ⟨gb383, 1, none⟩) (Kd.jb (p := ⟨gb383, 0, none⟩) (Kd.z13 HO381.out BK383.out (by decide)) (fun _ hk => hk.2) (.int .i64 t373)) (fun _ hk => hk.2) (.int .i64 t374)) (fun _ hk => hk.2) (.int .i64 t375)) (fun _ hk => hk.2) (.int .i64 t376)) (fun _ hk => hk.2) (.int .i64 t377)) (fun _ hk => hk.2) (.int .i64 t378)) (fun _ hk => hk.2) (.slice Ao64 t379.length co64)) (fun _ h_ => h_.1))) (Kd.zbw ho0) hb); have n1_ := Aside0.mk (Kd.z1f (Kd.zbx ho0 (Kd.zef (by (with_reducible repeat (first | apply Kd.jw | apply Kd.jx | apply Kd.jy)); exact (Kd.z0j (Kd.jb (p := ⟨gb383, 6, none⟩) (Kd.jb (p := ⟨gb383, 5, none⟩) (Kd.jb (p := ⟨gb383, 4, none⟩) (Kd.jb (p := ⟨gb383, 3, none⟩) (Kd.jb (p := ⟨gb383, 2, none⟩) (Kd.jb (p := ⟨gb383, 1, none⟩) (Kd.jb (p := ⟨gb383, 0, none⟩) (Kd.z13 HO381.out BK383.out (by decide)) (fun _ hk => hk.2) (.int .i64 t373)) (fun _ hk => hk.2) (.int .i64 t374)) (fun _ hk => hk.2) (.int .i64 t375)) (fun _ hk => hk.2) (.int .i64 t376)) (fun _ hk => hk.2) (.int .i64 t377)) (fun _ hk => hk.2) (.int .i64 t378)) (fun _ hk => hk.2) (.slice Ao64 t379.length co64)) (fun _ h_ => h_.1))))) (zk (by repeat (first | (with_reducible first | exact HB.out | apply z8 | apply z6 | apply z7 | refine zb ?_ GE342.out | refine zb ?_ GE383.out) | exact HB.out)))); have n2_ := Aside0.mk (zt (g := gb342) (o := .cells #[.slice A0_0 l0_0.length c0_0, .slice A0_1 l0_1.length c0_1, .slice A0_2 l0_2.length c0_2, .slice (some ad369) l0_3.length c0_3, .slice A0_4 l0_4.length c0_4] 30 (0, 0)) (by (with_reducible repeat (first | refine ze ?_ _ | refine zf ?_ | refine zc ?_ _)); refine zp ?_ NB342_383.out _; (with_reducible repeat (first | refine ze ?_ _ | refine zf ?_ | refine zc ?_ _)); refine zp ?_ NB342_383.out _; (with_reducible repeat (first | refine ze ?_ _ | refine zf ?_ | refine zc ?_ _)); refine zp ?_ NB342_383.out _; (with_reducible repeat (first | refine ze ?_ _ | refine zf ?_ | refine zc ?_ _)); refine zp ?_ NB342_383.out _; (with_reducible repeat (first | refine ze ?_ _ | refine zf ?_ | refine zc ?_ _)); refine zp ?_ NB342_383.out _; (with_reducible repeat (first | refine ze ?_ _ | refine zf ?_ | refine zc ?_ _)); refine zp ?_ NB342_383.out _; (with_reducible repeat (first | refine ze ?_ _ | refine zf ?_ | refine zc ?_ _)); refine zp ?_ NB342_383.out _; (with_reducible repeat (first | refine ze ?_ _ | refine zf ?_ | refine zc ?_ _)); exact BK342.out) hb); have n3_ := Aside0.mk (zt (g := gb383) (o := .cells #[.int .i64 t373, .int .i64 t374, .int .i64 t375, .int .i64 t376, .int .i64 t377, .int .i64 t378, .slice Ao64 t379.length co64] 45 (0, 0)) (by (with_reducible repeat (first | refine ze ?_ _ | refine zf ?_ | refine zc ?_ _)); refine zx (cs := #[.int .i64 t373, .int .i64 t374, .int .i64 t375, .int .i64 t376, .int .i64 t377, .int .i64 t378, .slice none 0 0]) ?_ 6 _ rfl; (with_reducible repeat (first | refine ze ?_ _ | refine zf ?_ | refine zc ?_ _)); refine zx (cs := #[.int .i64 t373, .int .i64 t374, .int .i64 t375, .int .i64 t376, .int .i64 t377, .int .i64 0, .slice none 0 0]) ?_ 5 _ rfl; (with_reducible repeat (first | refine ze ?_ _ | refine zf ?_ | refine zc ?_ _)); refine zx (cs := #[.int .i64 t373, .int .i64 t374, .int .i64 t375, .int .i64 t376, .int .i64 0, .int .i64 0, .slice none 0 0]) ?_ 4 _ rfl; (with_reducible repeat (first | refine ze ?_ _ | refine zf ?_ | refine zc ?_ _)); refine zx (cs := #[.int .i64 t373, .int .i64 t374, .int .i64 t375, .int .i64 0, .int .i64 0, .int .i64 0, .slice none 0 0]) ?_ 3 _ rfl; (with_reducible repeat (first | refine ze ?_ _ | refine zf ?_ | refine zc ?_ _)); refine zx (cs := #[.int .i64 t373, .int .i64 t374, .int .i64 0, .int .i64 0, .int .i64 0, .int .i64 0, .slice none 0 0]) ?_ 2 _ rfl; (with_reducible repeat (first | refine ze ?_ _ | refine zf ?_ | refine zc ?_ _)); refine zx (cs := #[.int .i64 t373, .int .i64 0, .int .i64 0, .int .i64 0, .int .i64 0, .int .i64 0, .slice none 0 0]) ?_ 1 _ rfl; (with_reducible repeat (first | refine ze ?_ _ | refine zf ?_ | refine zc ?_ _)); refine zx (cs := #[.int .i64 0, .int .i64 0, .int .i64 0, .int .i64 0, .int .i64 0, .int .i64 0, .slice none 0 0]) ?_ 0 _ rfl; (with_reducible repeat (first | refine ze ?_ _ | refine zf ?_ | refine zc ?_ _)); exact BK383.out) hb); have n4_ := Aside0.mk (zj (by repeat (first | (with_reducible first | exact HB.out | apply z8 | apply z6 | apply z7 | refine zb ?_ GE342.out | refine zb ?_ GE383.out) | exact HB.out)) hb); clear HO381; clear BK342; clear BK383; clear HB; have HO381 := n0_; have HO392 := n1_; have BK342 := n2_; have BK383 := n3_; have HB := n4_; clear n0_ n1_ n2_ n3_ n4_; (try clear hb); (try clear hb2); (try clear hk); (try clear hi); (try clear ho0)) | ((with_reducible refine yf (N := 14) rfl ?_); refine yd ?hg (N := 14) ?hd (cs := #[.int .i64 0, .int .i64 0, .int .i64 0, .int .i64 0, .int .i64 0, .int .i64 0, .slice none 0 0]) (t := 45) ?hr ?_; (case hd => rfl); (case hg => rfl); (case hr => first | (go_simp; done) | (go_simp; rfl)); intro gb394 hg w66 hbox hb; have n0_ := Aside0.mk (Kd.z02 (by (with_reducible repeat (first | apply Kd.jw | apply Kd.jx | apply Kd.jy)); exact HO381.out) hb); have n1_ := Aside0.mk (Kd.z02 (by (with_reducible repeat (first | apply Kd.jw | apply Kd.jx | apply Kd.jy)); exact HO392.out) hb); have n2_ := Aside0.mk (zt (by (with_reducible repeat (first | refine ze ?_ _ | refine zf ?_ | refine zc ?_ _)); exact BK342.out) hb); have n3_ := Aside0.mk (zt (by (with_reducible repeat (first | refine ze ?_ _ | refine zf ?_ | refine zc ?_ _)); exact BK383.out) hb); have n4_ := Aside0.mk (zj (by repeat (first | (with_reducible first | exact HB.out | apply z8 | apply z6 | apply z7 | refine zb ?_ GE342.out | refine zb ?_ GE383.out) | exact HB.out)) hb); have n5_ := Aside0.mk (hbox); have n6_ := Aside0.mk ((by rw [hg]; exact (zk (by repeat (first | (with_reducible first | exact HB.out | apply z8 | apply z6 | apply z7 | refine zb ?_ GE342.out | refine zb ?_ GE383.out) | exact HB.out))) : w.heap.size ≤ gb394)); have n7_ := Aside0.mk ((by rw [hg]; exact (zk (by repeat (first | (with_reducible first | exact HB.out | apply z8 | apply z6 | apply z7 | refine zb ?_ GE342.out | refine zb ?_ GE383.out) | exact HB.out))) : w.heap.size ≤ gb394)); have n8_ := Aside0.mk ((by rw [hg]; exact Nat.ne_of_lt (vo (g := gb342) (o := .cells #[.slice A0_0 l0_0.length c0_0, .slice A0_1 l0_1.length c0_1, .slice A0_2 l0_2.length c0_2, .slice (some ad369) l0_3.length c0_3, .slice A0_4 l0_4.length c0_4] 30 (0, 0)) (by (with_reducible repeat (first | refine ze ?_ _ | refine zf ?_ | refine zc ?_ _)); exact BK342.out)) : gb342 ≠ gb394)); have n9_ := Aside0.mk ((by rw [hg]; exact Nat.ne_of_gt (vo (g := gb342) (o := .cells #[.slice A0_0 l0_0.length c0_0, .slice A0_1 l0_1.length c0_1, .slice A0_2 l0_2.length c0_2, .slice (some ad369) l0_3.length c0_3, .slice A0_4 l0_4.length c0_4] 30 (0, 0)) (by (with_reducible repeat (first | refine ze ?_ _ | refine zf ?_ | refine zc ?_ _)); exact BK342.out)) : gb394 ≠ gb342)); have n10_ := Aside0.mk ((by rw [hg]; exact Nat.ne_of_lt (vo (g := gb383) (o := .cells #[.int .i64 t373, .int .i64 t374, .int .i64 t375, .int .i64 t376, .int .i64 t377, .int .i64 t378, .slice Ao64 t379.length co64] 45 (0, 0)) (by (with_reducible repeat (first | refine ze ?_ _ | refine zf ?_ | refine zc ?_ _)); exact BK383.out)) : gb383 ≠ gb394)); have n11_ := Aside0.mk ((by rw [hg]; exact Nat.ne_of_gt (vo (g := gb383) (o := .cells #[.int .i64 t373, .int .i64 t374, .int .i64 t375, .int .i64 t376, .int .i64 t377, .int .i64 t378, .slice Ao64 t379.length co64] 45 (0, 0)) (by (with_reducible repeat (first | refine ze ?_ _ | refine zf ?_ | refine zc ?_ _)); exact BK383.out)) : gb394 ≠ gb383)); clear HO381; clear HO392; clear BK342; clear BK383; clear HB; have HO381 := n0_; have HO392 := n1_; have BK342 := n2_; have BK383 := n3_; have HB := n4_; have BK394 := n5_; have GW394 := n6_; have GE394 := n7_; have NB342_394 := n8_; have NB394_342 := n9_; have NB383_394 := n10_; have NB394_383 := n11_; clear n0_ n1_ n2_ n3_ n4_ n5_ n6_ n7_ n8_ n9_ n10_ n11_; clear hb hbox hg; have hnb67 := NB394_342.out; have hnc67 := NB342_394.out; have hnb68 := NB394_383.out; have hnc68 := NB383_394.out; have hcz69_0 := ug BK394.out; have hfz69_0 := fun j_ => zi BK394.out j_; obtain ⟨Ao70, co70, eo70⟩ := Kd.z0n HO392.out; subst eo70))
       generalize hw_ : (((((((w66.setCell ⟨gb394, 0, none⟩ (.int .i64 t384)).setCell ⟨gb394, 1, none⟩ (.int .i64 t385)).setCell ⟨gb394, 2, none⟩ (.int .i64 t386)).setCell ⟨gb394, 3, none⟩ (.int .i64 t387)).setCell ⟨gb394, 4, none⟩ (.int .i64 t388)).setCell ⟨gb394, 5, none⟩ (.int .i64 t389)).setCell ⟨gb394, 6, none⟩ (.slice Ao70 t390.length co70)) = w71
       have n0_ : Aside0 (Kd.S k38 38 w71 w.heap.size (fun k_ => some k_ ≠ (.slice Ao70 t390.length co70 : Value).ownBlock) (.slice Ao64 t379.length co64) t379) := by rw [← hw_]; exact ⟨by (with_reducible repeat (first | apply Kd.jw | apply Kd.jx | apply Kd.jy)); exact Kd.z0j (Kd.jb (p := ⟨gb394, 6, none⟩) (Kd.jb (p := ⟨gb394, 5, none⟩) (Kd.jb (p := ⟨gb394, 4, none⟩) (Kd.jb (p := ⟨gb394, 3, none⟩) (Kd.jb (p := ⟨gb394, 2, none⟩) (Kd.jb (p := ⟨gb394, 1, none⟩) (Kd.jb (p := ⟨gb394, 0, none⟩) (Kd.z13 HO381.out BK394.out (by decide)) (fun _ hk => hk.2) (.int .i64 t384)) (fun _ hk => hk.2) (.int .i64 t385)) (fun _ hk => hk.2) (.int .i64 t386)) (fun _ hk => hk.2) (.int .i64 t387)) (fun _ hk => hk.2) (.int .i64 t388)) (fun _ hk => hk.2) (.int .i64 t389)) (fun _ hk => hk.2) (.slice Ao70 t390.length co70)) (fun _ hk => hk.1.2)⟩
       have n1_ : Aside0 (Kd.S k38 38 w71 w.heap.size (fun k_ => some k_ ≠ (.slice Ao64 t379.length co64 : Value).ownBlock) (.slice Ao70 t390.length co70) t390) := by rw [← hw_]; exact ⟨by (with_reducible repeat (first | apply Kd.jw | apply Kd.jx | apply Kd.jy)); exact Kd.z0j (Kd.jb (p := ⟨gb394, 6, none⟩) (Kd.jb (p := ⟨gb394, 5, none⟩) (Kd.jb (p := ⟨gb394, 4, none⟩) (Kd.jb (p := ⟨gb394, 3, none⟩) (Kd.jb (p := ⟨gb394, 2, none⟩) (Kd.jb (p := ⟨gb394, 1, none⟩) (Kd.jb (p := ⟨gb394, 0, none⟩) (Kd.z13 HO392.out BK394.out (by decide)) (fun _ hk => hk.2) (.int .i64 t384)) (fun _ hk => hk.2) (.int .i64 t385)) (fun _ hk => hk.2) (.int .i64 t386)) (fun _ hk => hk.2) (.int .i64 t387)) (fun _ hk => hk.2) (.int .i64 t388)) (fun _ hk => hk.2) (.int .i64 t389)) (fun _ hk => hk.2) (.slice Ao70 t390.length co70)) (fun _ hk => hk.1.2)⟩
       have n2_ : Aside0 (w71.heap[gb342]? = some (.cells #[.slice A0_0 l0_0.length c0_0, .slice A0_1 l0_1.length c0_1, .slice A0_2 l0_2.length c0_2, .slice (some ad369) l0_3.length c0_3, .slice A0_4 l0_4.length c0_4] 30 (0, 0))) := by rw [← hw_]; exact ⟨(zp (zp (zp (zp (zp (zp (zp BK342.out NB342_394.out _) NB342_394.out _) NB342_394.out _) NB342_394.out _) NB342_394.out _) NB342_394.out _) NB342_394.out _)⟩
       have n3_ : Aside0 (w71.heap[gb383]? = some (.cells #[.int .i64 t373, .int .i64 t374, .int .i64 t375, .int .i64 t376, .int .i64 t377, .int .i64 t378, .slice Ao64 t379.length co64] 45 (0, 0))) := by rw [← hw_]; exact ⟨(zp (zp (zp (zp (zp (zp (zp BK383.out NB383_394.out _) NB383_394.out _) NB383_394.out _) NB383_394.out _) NB383_394.out _) NB383_394.out _) NB383_394.out _)⟩
       have n4_ : Aside0 (w71.heap[gb394]? = some (.cells #[.int .i64 t384, .int .i64 t385, .int .i64 t386, .int .i64 t387, .int .i64 t388, .int .i64 t389, .slice Ao70 t390.length co70] 45 (0, 0))) := by rw [← hw_]; exact ⟨(z0d BK394.out _ _ _ _ _ _ _)⟩
       have n5_ : Aside0 (Below w.heap.size w w71) := by rw [← hw_]; exact ⟨by repeat (first | (with_reducible first | exact HB.out | apply z8 | apply z6 | apply z7 | refine zb ?_ GE342.out | refine zb ?_ GE383.out | refine zb ?_ GE394.out) | exact HB.out)⟩
       clear hw_
       (try clear HO381)
       (try clear HO392)
       (try clear BK342)
       (try clear BK383)
       (try clear BK394)
       (try clear HB)
       have HO381 := n0_
       have HO392 := n1_
       have BK342 := n2_
       have BK383 := n3_
       have BK394 := n4_
       have HB := n5_
       clear n0_ n1_ n2_ n3_ n4_ n5_
       have n0_ := Aside0.mk (Kd.jy HO381.out)
       have n1_ := Aside0.mk (Kd.jy HO392.out)
       have n2_ := Aside0.mk (zf BK342.out)
       have n3_ := Aside0.mk (zf BK383.out)
       have n4_ := Aside0.mk (zf BK394.out)
       have n5_ := Aside0.mk (z7 HB.out)
       clear HO381
       clear HO392
       clear BK342
       clear BK383
       clear BK394
       clear HB
       have HO381 := n0_
       have HO392 := n1_
       have BK342 := n2_
       have BK383 := n3_
       have BK394 := n4_
       have HB := n5_
       clear n0_ n1_ n2_ n3_ n4_ n5_
       have p397 : 0 ≤ (x9_3 : Int) := of_decide_eq_true (by first | (with_reducible assumption) | assumption)
       have q397 : x9_3 < (l0_3.length : Int) := of_decide_eq_true (by first | (with_reducible assumption) | assumption)
       obtain ⟨ad397, A397_6, c397_6, e397, hx397_0, hx397_1, hx397_2, hx397_3, hx397_4, hx397_5, hx397_6, hl397_6, hi397_6⟩ := z48 HR0_3.out x9_3 p397 q397
       have hw397_6 := hx397_6
       have hw397_5 := hx397_5
       have hw397_4 := hx397_4
       have hw397_3 := hx397_3
       have hw397_2 := hx397_2
       have hw397_1 := hx397_1
       have hw397_0 := hx397_0
       obtain rfl : ad369 = ad397 := (by injection e397)
       replace hx397_0 := (HB.out.cell (World.block_lt_of_cell? w _ hx397_0)).trans hx397_0
       replace hx397_1 := (HB.out.cell (World.block_lt_of_cell? w _ hx397_1)).trans hx397_1
       replace hx397_2 := (HB.out.cell (World.block_lt_of_cell? w _ hx397_2)).trans hx397_2
       replace hx397_3 := (HB.out.cell (World.block_lt_of_cell? w _ hx397_3)).trans hx397_3
       replace hx397_4 := (HB.out.cell (World.block_lt_of_cell? w _ hx397_4)).trans hx397_4
       replace hx397_5 := (HB.out.cell (World.block_lt_of_cell? w _ hx397_5)).trans hx397_5
       replace hx397_6 := (HB.out.cell (World.block_lt_of_cell? w _ hx397_6)).trans hx397_6
       have HR397_6 := Aside0.mk hi397_6
       have HC397_6 := Aside0.mk hl397_6
       clear hi397_6 hl397_6
       replace p397 := eq_true p397
       replace q397 := eq_true q397
       refine ji (n := 18) (S := fun w' => w'.cell? ⟨gb383, 0, none⟩ = some (.int .i64 t373) ∧ w'.cell? ⟨gb383, 1, none⟩ = some (.int .i64 t374) ∧ w'.cell? ⟨gb383, 2, none⟩ = some (.int .i64 t375) ∧ w'.cell? ⟨gb383, 3, none⟩ = some (.int .i64 t376) ∧ w'.cell? ⟨gb383, 4, none⟩ = some (.int .i64 t377) ∧ w'.cell? ⟨gb383, 5, none⟩ = some (.int .i64 t378) ∧ w'.cell? ⟨gb383, 6, none⟩ = some (.slice Ao64 t379.length co64) ∧ w'.cell? ⟨gb342, 0, none⟩ = some (.slice A0_0 l0_0.length c0_0) ∧ w'.cell? ⟨gb342, 1, none⟩ = some (.slice A0_1 l0_1.length c0_1) ∧ w'.cell? ⟨gb342, 2, none⟩ = some (.slice A0_2 l0_2.length c0_2) ∧ w'.cell? ⟨gb342, 3, none⟩ = some (.slice (some ad369) l0_3.length c0_3) ∧ w'.cell? ⟨gb342, 4, none⟩ = some (.slice A0_4 l0_4.length c0_4) ∧ w'.cell? (ad369.add ((x9_3).toNat * 7)) = some (.int .i64 ((yg l0_3 x9_3).f0)) ∧ w'.cell? ⟨(ad369.add ((x9_3).toNat * 7)).block, (ad369.add ((x9_3).toNat * 7)).off + 1, none⟩ = some (.int .i64 ((yg l0_3 x9_3).f1)) ∧ w'.cell? ⟨(ad369.add ((x9_3).toNat * 7)).block, (ad369.add ((x9_3).toNat * 7)).off + 2, none⟩ = some (.int .i64 ((yg l0_3 x9_3).f2)) ∧ w'.cell? ⟨(ad369.add ((x9_3).toNat * 7)).block, (ad369.add ((x9_3).toNat * 7)).off + 3, none⟩ = some (.int .i64 ((yg l0_3 x9_3).f3)) ∧ w'.cell? ⟨(ad369.add ((x9_3).toNat * 7)).block, (ad369.add ((x9_3).toNat * 7)).off + 4, none⟩ = some (.int .i64 ((yg l0_3 x9_3).f4)) ∧ w'.cell? ⟨(ad369.add ((x9_3).toNat * 7)).block, (ad369.add ((x9_3).toNat * 7)).off + 5, none⟩ = some (.int .i64 ((yg l0_3 x9_3).f5)) ∧ w'.cell? ⟨(ad369.add ((x9_3).toNat * 7)).block, (ad369.add ((x9_3).toNat * 7)).off + 6, none⟩ = some (.slice A397_6 ((yg l0_3 x9_3).f6).length c397_6)) (ds := []) zco (by kernel_rfl) rfl rfl ⟨(za BK383.out 0).trans rfl, (za BK383.out 1).trans rfl, (za BK383.out 2).trans rfl, (za BK383.out 3).trans rfl, (za BK383.out 4).trans rfl, (za BK383.out 5).trans rfl, (za BK383.out 6).trans rfl, (za BK342.out 0).trans rfl, (za BK342.out 1).trans rfl, (za BK342.out 2).trans rfl, (za BK342.out 3).trans rfl, (za BK342.out 4).trans rfl, ((HB.out.cell (World.block_lt_of_cell? w _ hw397_0)).trans hw397_0), ((HB.out.cell (World.block_lt_of_cell? w _ hw397_1)).trans hw397_1), ((HB.out.cell (World.block_lt_of_cell? w _ hw397_2)).trans hw397_2), ((HB.out.cell (World.block_lt_of_cell? w _ hw397_3)).trans hw397_3), ((HB.out.cell (World.block_lt_of_cell? w _ hw397_4)).trans hw397_4), ((HB.out.cell (World.block_lt_of_cell? w _ hw397_5)).trans hw397_5), ((HB.out.cell (World.block_lt_of_cell? w _ hw397_6)).trans hw397_6)⟩ (fun hHeld => ?_); refine uy zh.tab18 zh.bits18 (fun HT_ HW_ => ?_)
       generalize w71.drew = w72 at HO381 HO392 BK342 BK383 BK394 HB HR397_6 hx397_0 hx397_1 hx397_2 hx397_3 hx397_4 hx397_5 hx397_6 hHeld ⊢
       refine pq_ 0 102 zcp (zo HT_.out (by kernel_rfl)) ?_
       refine ul (i := 1) (N := some 103) zcq rfl rfl (vn HT_.out (by kernel_rfl)) (by decide) (fun K hK => ?_)
       refine j5 Try.func8 (by kernel_rfl) rfl #[.int .i64 t382] (by rfl) rfl rfl (by (try simp only [List.map_toArray, List.map_cons, List.map_nil]); first | done | rfl | (simp only [List.length_drop, List.length_take]; rfl)) ?_
       with_reducible refine (zy.calls t382 t395 _ A52.out).mono ?_
       rintro e w' ⟨rfl, ⟨nd, rfl⟩⟩
       refine ⟨_, rfl, ?_⟩
       refine hK.out _ _ ⟨(za BK383.out 0).trans rfl, (za BK383.out 1).trans rfl, (za BK383.out 2).trans rfl, (za BK383.out 3).trans rfl, (za BK383.out 4).trans rfl, (za BK383.out 5).trans rfl, (za BK383.out 6).trans rfl, (za BK342.out 0).trans rfl, (za BK342.out 1).trans rfl, (za BK342.out 2).trans rfl, (za BK342.out 3).trans rfl, (za BK342.out 4).trans rfl, ((HB.out.cell (World.block_lt_of_cell? w _ hw397_0)).trans hw397_0), ((HB.out.cell (World.block_lt_of_cell? w _ hw397_1)).trans hw397_1), ((HB.out.cell (World.block_lt_of_cell? w _ hw397_2)).trans hw397_2), ((HB.out.cell (World.block_lt_of_cell? w _ hw397_3)).trans hw397_3), ((HB.out.cell (World.block_lt_of_cell? w _ hw397_4)).trans hw397_4), ((HB.out.cell (World.block_lt_of_cell? w _ hw397_5)).trans hw397_5), ((HB.out.cell (World.block_lt_of_cell? w _ hw397_6)).trans hw397_6)⟩ (fun hHeld => ?_)
       clear hK K
       refine um (a' := ?_) ?_ ?_
       rotate_left
       ·
        show Act.put _ (some 103) _ = _
        simp only [Act.put, List.setIfInBounds_toArray, List.set_cons_zero, List.set_cons_succ, vw, ud]
        rfl
       refine gz 2 104 zcr (zo HT_.out (by kernel_rfl)) ?_
       refine pq_ 3 105 zcs (zo HT_.out (by kernel_rfl)) ?_
       refine pq_ 4 106 ze2 (zo HT_.out (by kernel_rfl)) ?_
       refine ul (i := 5) (N := some 107) ze3 rfl rfl (vn HT_.out (by kernel_rfl)) (by decide) (fun K hK => ?_)
       refine j5 Try.func8 (by kernel_rfl) rfl #[.int .i64 t393] (by rfl) rfl rfl (by (try simp only [List.map_toArray, List.map_cons, List.map_nil]); first | done | rfl | (simp only [List.length_drop, List.length_take]; rfl)) ?_
       with_reducible refine (zy.calls t393 t396 _ A54.out).mono ?_
       rintro e w' ⟨rfl, ⟨nd, rfl⟩⟩
       refine ⟨_, rfl, ?_⟩
       refine hK.out _ _ ⟨(za BK383.out 0).trans rfl, (za BK383.out 1).trans rfl, (za BK383.out 2).trans rfl, (za BK383.out 3).trans rfl, (za BK383.out 4).trans rfl, (za BK383.out 5).trans rfl, (za BK383.out 6).trans rfl, (za BK342.out 0).trans rfl, (za BK342.out 1).trans rfl, (za BK342.out 2).trans rfl, (za BK342.out 3).trans rfl, (za BK342.out 4).trans rfl, ((HB.out.cell (World.block_lt_of_cell? w _ hw397_0)).trans hw397_0), ((HB.out.cell (World.block_lt_of_cell? w _ hw397_1)).trans hw397_1), ((HB.out.cell (World.block_lt_of_cell? w _ hw397_2)).trans hw397_2), ((HB.out.cell (World.block_lt_of_cell? w _ hw397_3)).trans hw397_3), ((HB.out.cell (World.block_lt_of_cell? w _ hw397_4)).trans hw397_4), ((HB.out.cell (World.block_lt_of_cell? w _ hw397_5)).trans hw397_5), ((HB.out.cell (World.block_lt_of_cell? w _ hw397_6)).trans hw397_6)⟩ (fun hHeld => ?_)
       clear hK K
       refine um (a' := ?_) ?_ ?_
       rotate_left
       ·
        show Act.put _ (some 107) _ = _
        simp only [Act.put, List.setIfInBounds_toArray, List.set_cons_zero, List.set_cons_succ, vw, ud]
        rfl
       refine gz 6 108 ze4 (zo HT_.out (by kernel_rfl)) ?_
       refine pq_ 7 109 ze5 (zo HT_.out (by kernel_rfl)) ?_
       refine pq_ 8 110 zct (zo HT_.out (by kernel_rfl)) ?_
       refine pq_ 10 112 ze6 (zo HT_.out (by kernel_rfl)) ?_
       refine pq_ 12 114 ze7 (zo HT_.out (by kernel_rfl)) ?_
       refine tq_ 9 111 ze8 (yj HT_.out HW_.out (by kernel_rfl)) hHeld ?_
       refine tq_ 11 113 zaw (yj HT_.out HW_.out (by kernel_rfl)) hHeld ?_
       refine pq_ 13 115 zax (zo HT_.out (by kernel_rfl)) ?_
       refine tq_ 14 116 zay (yj HT_.out HW_.out (by kernel_rfl)) hHeld ?_
       refine ul (i := 15) (N := some 117) zaz rfl rfl (vn HT_.out (by kernel_rfl)) (by decide) (fun K hK => ?_)
       refine j5 Try.func13 (by kernel_rfl) rfl #[.agg #[.int .i64 t373, .int .i64 t374, .int .i64 t375, .int .i64 t376, .int .i64 t377, .int .i64 t378, .slice Ao64 t379.length co64], .agg #[.int .i64 ((yg l0_3 x9_3).f0), .int .i64 ((yg l0_3 x9_3).f1), .int .i64 ((yg l0_3 x9_3).f2), .int .i64 ((yg l0_3 x9_3).f3), .int .i64 ((yg l0_3 x9_3).f4), .int .i64 ((yg l0_3 x9_3).f5), .slice A397_6 ((yg l0_3 x9_3).f6).length c397_6]] (by rfl) rfl rfl (by (try simp only [List.map_toArray, List.map_cons, List.map_nil]); first | done | rfl | (simp only [List.length_drop, List.length_take]; rfl)) ?_
       with_reducible refine (yz.calls kj38 t373 t374 t375 t376 t377 t378 _ _ t379 ((yg l0_3 x9_3).f0) ((yg l0_3 x9_3).f1) ((yg l0_3 x9_3).f2) ((yg l0_3 x9_3).f3) ((yg l0_3 x9_3).f4) ((yg l0_3 x9_3).f5) _ _ ((yg l0_3 x9_3).f6) true _ ?side1 ?side2 ?side3 ?side4 A56.out).mono ?_
       (case side1 => repeat (first | exact (Kd.z14 HO381.out).2.2 | (with_reducible refine Kd.yo ?_ _) | (with_reducible refine Kd.yp ?_ _) | (with_reducible refine Kd.yy ?_)))
       (case side2 => exact (Kd.z14 HO381.out).2.1)
       (case side3 => repeat (first | exact (Kd.yt HR397_6.out (by repeat (first | (with_reducible first | exact HB.out | apply z8 | apply z6 | apply z7 | refine zb ?_ GE342.out | refine zb ?_ GE383.out | refine zb ?_ GE394.out) | exact HB.out))) | (with_reducible refine Kd.yo ?_ _) | (with_reducible refine Kd.yp ?_ _) | (with_reducible refine Kd.yy ?_)))
       (case side4 => exact HC397_6.out)
       rintro e w73 ⟨rfl, hb⟩
       refine ⟨_, rfl, ?_⟩
       have n0_ := Aside0.mk (Kd.z02 (by (with_reducible repeat (first | apply Kd.jw | apply Kd.jx | apply Kd.jy)); exact HO381.out) hb)
       have n1_ := Aside0.mk (Kd.z02 (by (with_reducible repeat (first | apply Kd.jw | apply Kd.jx | apply Kd.jy)); exact HO392.out) hb)
       have n2_ := Aside0.mk (zt (by (with_reducible repeat (first | refine ze ?_ _ | refine zf ?_ | refine zc ?_ _)); exact BK342.out) hb)
       have n3_ := Aside0.mk (zt (by (with_reducible repeat (first | refine ze ?_ _ | refine zf ?_ | refine zc ?_ _)); exact BK383.out) hb)
       have n4_ := Aside0.mk (zt (by (with_reducible repeat (first | refine ze ?_ _ | refine zf ?_ | refine zc ?_ _)); exact BK394.out) hb)
       have n5_ := Aside0.mk (zj (by repeat (first | (with_reducible first | exact HB.out | apply z8 | apply z6 | apply z7 | refine zb ?_ GE342.out | refine zb ?_ GE383.out | refine zb ?_ GE394.out) | exact HB.out)) hb)
       clear HO381
       clear HO392
       clear BK342
       clear BK383
       clear BK394
       clear HB
       have HO381 := n0_
       have HO392 := n1_
       have BK342 := n2_
       have BK383 := n3_
       have BK394 := n4_
       have HB := n5_
       clear n0_ n1_ n2_ n3_ n4_ n5_
       (try clear hb)
       (try clear hb2)
       (try clear hk)
       (try clear hi)
       refine hK.out _ _ ⟨(za BK383.out 0).trans rfl, (za BK383.out 1).trans rfl, (za BK383.out 2).trans rfl, (za BK383.out 3).trans rfl, (za BK383.out 4).trans rfl, (za BK383.out 5).trans rfl, (za BK383.out 6).trans rfl, (za BK342.out 0).trans rfl, (za BK342.out 1).trans rfl, (za BK342.out 2).trans rfl, (za BK342.out 3).trans rfl, (za BK342.out 4).trans rfl, ((HB.out.cell (World.block_lt_of_cell? w _ hw397_0)).trans hw397_0), ((HB.out.cell (World.block_lt_of_cell? w _ hw397_1)).trans hw397_1), ((HB.out.cell (World.block_lt_of_cell? w _ hw397_2)).trans hw397_2), ((HB.out.cell (World.block_lt_of_cell? w _ hw397_3)).trans hw397_3), ((HB.out.cell (World.block_lt_of_cell? w _ hw397_4)).trans hw397_4), ((HB.out.cell (World.block_lt_of_cell? w _ hw397_5)).trans hw397_5), ((HB.out.cell (World.block_lt_of_cell? w _ hw397_6)).trans hw397_6)⟩ (fun hHeld => ?_)
       clear hK K
       refine um (a' := ?_) ?_ ?_
       rotate_left
       ·
        show Act.put _ (some 117) _ = _
        simp only [Act.put, List.setIfInBounds_toArray, List.set_cons_zero, List.set_cons_succ, vw, ud]
        rfl
       refine pq_ 16 118 zb0 (zo HT_.out (by kernel_rfl)) ?_
       refine pq_ 17 119 zb1 (zo HT_.out (by kernel_rfl)) ?_
       refine ju (j9 HT_.out (by kernel_rfl)) ?_
       try go_wp2
       go_roundg kj38
       case measure => have := HK1.out; have := HJ9.out; have := HK3.out; have := HJ38.out; omega
       case rel => exact ⟨(wrap64 (x9_3 + 1)), (by first | rfl | (simp; done) | (simp [*]; done)), H', ⟨by have := HK1.out; have := HJ9.out; have := HK3.out; have := HJ38.out; omega⟩, ⟨by (with_reducible repeat (first | refine ze ?_ _ | refine zf ?_ | refine zc ?_ _)); exact BK342.out⟩, ⟨by repeat (first | (with_reducible first | exact HB.out | apply z8 | apply z6 | apply z7 | refine zb ?_ GE342.out | refine zb ?_ GE383.out | refine zb ?_ GE394.out) | exact HB.out)⟩⟩
end Go.Proofs.Ytadfohbogoocgaa.PA
