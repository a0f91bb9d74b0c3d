import Derived.Test.YtadfohbogoocgaaPAx0
import Derived.Test.YtadfohbogoocgaaPAx5
namespace Go.Proofs.Ytadfohbogoocgaa.PA
open Go.RowKit Go.Proofs.YtadfohbogoocgaaW.PrintWords Go.Proofs.YtadfohbogoocgaaW.PrintLast Go.Proofs.YtadfohbogoocgaaW.PrintMore Go.Proofs.YtadfohbogoocgaaX Go.Proofs.YtadfohbogoocgaaB Go.Proofs.YtadfohbogoocgaaPq
attribute [local go_sem] gi gj gx gy jr js gm gn
set_option linter.unusedVariables false
set_option linter.unusedSimpArgs false
def ja.f (k : Nat) (a0_0 : Int) (a0_1 : Int) (a0_2 : Int) : Option (ByteArray) := (v6.f k (([a0_0, a0_1, a0_2] : List Int))).bind fun t165 => (some t165)
theorem ja.mono : ∀ a0 a1 a2 k, LeO (ja.f k a0 a1 a2) (ja.f (k + 1) a0 a1 a2) := by
  intro a0 a1 a2 k
  unfold ja.f
  repeat' first
      | (with_reducible exact v6.mono _ _)
      | (with_reducible exact LeO.refl _)
      | (with_reducible exact LeO.none _)
      | (with_reducible refine LeO.ite ?_ ?_)
      | (with_reducible refine LeO.bind ?_ (fun _ => ?_))
      | exact v6.mono _ _
      | exact LeO.none _
      | refine LeO.ite ?_ ?_
      | refine LeO.bind ?_ (fun _ => ?_)
set_option maxHeartbeats 8000000 in
set_option maxRecDepth 100000 in
theorem ja.calls (k : Nat) (a0_0 : Int) (a0_1 : Int) (a0_2 : Int) (r : ByteArray) (w : World) (h : ja.f k a0_0 a0_1 a0_2 = some r) :
  Calls Try.prog 65 #[.agg #[.int .i64 a0_0, .int .i64 a0_1, .int .i64 a0_2]] w fun e w' => e = .returned (.string r) ∧ Below w.heap.size w w' := by
 have hu36 := Try.underlying36
 have HB := Aside0.mk (Below.refl w.heap.size w)
 have H : ((v6.f k (([a0_0, a0_1, a0_2] : List Int))).bind fun t165 => (some t165)) = some r := h
 clear h
 obtain ⟨y162, hy162⟩ : ∃ y_ : List Int, y_ = (([a0_0, a0_1, a0_2] : List Int)) := ⟨_, rfl⟩
 replace H : ((v6.f k y162).bind fun t165 => (some t165)) = some r := by first | (rw [hy162]; with_reducible exact H) | (have H2_ := (Option.bind_some _ _).symm.trans H; rw [hy162]; with_reducible exact H2_) | (have H2_ := (Option.bind_some _ _).symm.trans H; with_reducible exact H2_) | with_reducible exact H | (rw [hy162]; exact H) | exact H
 have Ny162 := Aside0.mk hy162
 clear hy162
 replace H := Option.bind_eq_some_iff.mp H
 obtain ⟨t165, A20, H⟩ := H
 replace H : (some t165) = some r := H
 have A2 := Aside0.mk A20
 clear A20
 obtain rfl := Option.some.inj H
 go_enter Try.func65, Try.ntmps65
 go_wp2_with (first | ((with_reducible refine yf (N := 1) rfl ?_); refine yd ?hg (N := 1) ?hd (cs := #[.int .i64 a0_0, .int .i64 a0_1, .int .i64 a0_2]) (t := 36) ?hr ?_; (case hd => rfl); (case hg => rfl); (case hr => first | (go_simp; done) | (go_simp; rfl)); intro gb161 hg w3 hbox hb; have n0_ := Aside0.mk (zj (by repeat (first | (with_reducible first | exact HB.out | apply z8 | apply z6 | apply z7) | exact HB.out)) hb); have n1_ := Aside0.mk (hbox); have n2_ := Aside0.mk ((by rw [hg]; exact (zk (by repeat (first | (with_reducible first | exact HB.out | apply z8 | apply z6 | apply z7) | exact HB.out))) : w.heap.size ≤ gb161)); have n3_ := Aside0.mk ((by rw [hg]; exact (zk (by repeat (first | (with_reducible first | exact HB.out | apply z8 | apply z6 | apply z7) | exact HB.out))) : w.heap.size ≤ gb161)); clear HB; have HB := n0_; have BK161 := n1_; have GW161 := n2_; have GE161 := n3_; clear n0_ n1_ n2_ n3_; clear hb hbox hg; have hcz4_0 := z0g BK161.out; have hfz4_0 := fun j_ => zi BK161.out j_) | ((with_reducible refine yf (N := 9) rfl ?_); refine Kd.z3y (Kd.int .i64) _ 3 ?hg (N := 9) ?hd (xs := ([a0_0, a0_1, a0_2] : List Int)) (inner := [.int .i64 a0_0, .int .i64 a0_1, .int .i64 a0_2]) (ok := fun _ => True) (okp := fun _ => True) ?hr ?hp (fun _ hk => hk) trivial (Below.refl _ _) (Nat.le_refl _) (by simp) ?_; (case hd => rfl); (case hg => rfl); (case hr => first | (go_simp; done) | (go_simp; rfl)); (case hp => exact (Reps.one (show Kd.M (Kd.int .i64) _ _ _ a0_0 [.int .i64 a0_0] from rfl) (Reps.one (show Kd.M (Kd.int .i64) _ _ _ a0_1 [.int .i64 a0_1] from rfl) (Reps.one (show Kd.M (Kd.int .i64) _ _ _ a0_2 [.int .i64 a0_2] from rfl) (Reps.none _ _))))); intro v163 w5 ho6 hb hg_ hnew_; clear hg_ hnew_; (first | rw [← Ny162.out] at ho6 | (simp only [Int.reduceToNat] at ho6; rw [← Ny162.out] at ho6)); have n0_ := Aside0.mk (Kd.z00 ho6 (zk (by repeat (first | (with_reducible first | exact HB.out | apply z8 | apply z6 | apply z7 | refine zb ?_ GE161.out) | exact HB.out)))); have n1_ := Aside0.mk (zt (by (with_reducible repeat (first | refine ze ?_ _ | refine zf ?_ | refine zc ?_ _)); exact BK161.out) hb); have n2_ := Aside0.mk (zj (by repeat (first | (with_reducible first | exact HB.out | apply z8 | apply z6 | apply z7 | refine zb ?_ GE161.out) | exact HB.out)) hb); clear BK161; clear HB; have HO164 := n0_; have BK161 := n1_; have HB := n2_; clear n0_ n1_ n2_; clear hb ho6; obtain ⟨Ao7, co7, eo7⟩ := Kd.z01 HO164.out; subst eo7) | ((with_reducible refine zu (f := 64) rfl ?_); refine yn (some 10) rfl rfl Try.func64 (by kernel_rfl) rfl #[.slice Ao7 y162.length co7] rfl (by (try simp only [List.map_toArray, List.map_cons, List.map_nil]); first | done | rfl | (simp only [List.length_drop, List.length_take]; rfl)) ?_; (with_reducible refine (v6.calls k _ _ y162 t165 _ ?side1 ?side2 A2.out).mono ?_); (case side1 => repeat (first | exact (Kd.jn HO164.out).2.2 | (with_reducible refine Kd.yo ?_ _) | (with_reducible refine Kd.yp ?_ _) | (with_reducible refine Kd.yy ?_))); (case side2 => exact (Kd.jn HO164.out).2.1); rintro e w8 ⟨rfl, hb⟩; refine ⟨_, rfl, ?_⟩; have n0_ := Aside0.mk (Kd.jl (by (with_reducible repeat (first | apply Kd.uh | apply Kd.ui | apply Kd.uk)); exact HO164.out) hb); have n1_ := Aside0.mk (zt (by (with_reducible repeat (first | refine ze ?_ _ | refine zf ?_ | refine zc ?_ _)); exact BK161.out) hb); have n2_ := Aside0.mk (zj (by repeat (first | (with_reducible first | exact HB.out | apply z8 | apply z6 | apply z7 | refine zb ?_ GE161.out) | exact HB.out)) hb); clear HO164; clear BK161; clear HB; have HO164 := n0_; have BK161 := n1_; have HB := n2_; clear n0_ n1_ n2_; (try clear hb); (try clear hb2); (try clear hk); (try clear hi)))
 go_ret
 exact ⟨by first | rfl | (simp [zm, zn] <;> rfl) | (simp [*, zm, zn] <;> rfl), by repeat (first | (with_reducible first | exact HB.out | apply z8 | apply z6 | apply z7 | refine zb ?_ GE161.out) | exact HB.out)⟩
def uz.f (k : Nat) (a0 : ByteArray) : Option (ByteArray) := (vr.f k (a0.size : Int)).bind fun t166 => (if t166.size + a0.size ≤ 9223372036854775807 then (some (t166 ++ a0)) else (none))
theorem uz.mono : ∀ a0 k, LeO (uz.f k a0) (uz.f (k + 1) a0) := by
  intro a0 k
  unfold uz.f
  repeat' first
      | (with_reducible exact vr.mono _ _)
      | (with_reducible exact LeO.refl _)
      | (with_reducible exact LeO.none _)
      | (with_reducible refine LeO.ite ?_ ?_)
      | (with_reducible refine LeO.bind ?_ (fun _ => ?_))
      | exact vr.mono _ _
      | exact LeO.none _
      | refine LeO.ite ?_ ?_
      | refine LeO.bind ?_ (fun _ => ?_)
set_option maxHeartbeats 8000000 in
set_option maxRecDepth 100000 in
theorem uz.calls (k : Nat) (a0 : ByteArray) (r : ByteArray) (w : World) (h : uz.f k a0 = some r) :
  Calls Try.prog 66 #[.string a0] w fun e w' => e = .returned (.string r) ∧ Below w.heap.size w w' := by
 have HB := Aside0.mk (Below.refl w.heap.size w)
 have H : ((vr.f k (a0.size : Int)).bind fun t166 => (if t166.size + a0.size ≤ 9223372036854775807 then (some (t166 ++ a0)) else (none))) = some r := h
 clear h
 replace H := Option.bind_eq_some_iff.mp H
 obtain ⟨t166, A20, H⟩ := H
 replace H : (if t166.size + a0.size ≤ 9223372036854775807 then (some (t166 ++ a0)) else (none)) = some r := H
 have A2 := Aside0.mk A20
 clear A20
 by_cases c3 : t166.size + a0.size ≤ 9223372036854775807
 rotate_left
 ·
  rw [if_neg c3] at H
  exact absurd H (by simp)
 rw [if_pos c3] at H
 have c3b0 := eq_true c3
 have c3b1 : decide (t166.size + a0.size ≤ 9223372036854775807) = true := decide_eq_true c3
 try have c3b2 : (9223372036854775807 < t166.size + a0.size) = False := eq_false (Nat.not_lt.2 c3)
 obtain rfl := Option.some.inj H
 go_enter Try.func66, Try.ntmps66
 go_wp2_with (first | ((with_reducible refine zu (f := 75) rfl ?_); refine yn (some 5) rfl rfl Try.func75 (by kernel_rfl) rfl #[.int .i64 (a0.size : Int)] rfl (by (try simp only [List.map_toArray, List.map_cons, List.map_nil]); first | done | rfl | (simp only [List.length_drop, List.length_take]; rfl)) ?_; (with_reducible refine (vr.calls k (a0.size : Int) t166 _ A2.out).mono ?_); rintro e w4 ⟨rfl, hb⟩; refine ⟨_, rfl, ?_⟩; have n0_ := Aside0.mk (zj (by repeat (first | (with_reducible first | exact HB.out | apply z8 | apply z6 | apply z7) | exact HB.out)) hb); clear HB; have HB := n0_; clear n0_; (try clear hb); (try clear hb2); (try clear hk); (try clear hi)))
 go_ret
 exact ⟨by first | rfl | (simp [zm, zn] <;> rfl) | (simp [*, zm, zn] <;> rfl), by repeat (first | (with_reducible first | exact HB.out | apply z8 | apply z6 | apply z7) | exact HB.out)⟩
def vk.l0 : Nat → ByteArray → List (S36) → Int → Int → Option (ByteArray)
  | 0, _, _, _, _ => none
  | k + 1, x3, x43, x44, x45 => if x45 < x44 then (if 0 ≤ x45 then (if x45 < (x43.length : Int) then ((ja.f k ((zr x43 x45).f0) ((zr x43 x45).f1) ((zr x43 x45).f2)).bind fun t184 => (if x3.size + t184.size ≤ 9223372036854775807 then (vk.l0 k (x3 ++ t184) x43 x44 (wrap64 (x45 + 1))) else (none))) else (none)) else (none)) else (some x3)
def vk.f (k : Nat) (a0_0 : Int) (a0_1 : Int) (a0_2 : Int) (a0_3 : Int) (a0_4 : Int) (a0_5 : Int) (a0_6 : ByteArray) (l0_7 : List (S36)) (a0_8 : Int) (a0_9 : Int) (a0_10 : Int) : Option (ByteArray) := (v6.f k (([a0_0, a0_1, a0_2] : List Int))).bind fun t171 => (if a0_2 = 2 then ((v6.f k (([a0_8, a0_9, a0_10] : List Int))).bind fun t175 => (if t171.size + t175.size ≤ 9223372036854775807 then (some (t171 ++ t175)) else (none))) else ((ja.f k a0_3 a0_4 a0_5).bind fun t176 => ((uz.f k a0_6).bind fun t177 => (if t176.size + t177.size ≤ 9223372036854775807 then ((v6.f k (([(l0_7.length : Int)] : List Int))).bind fun t181 => (if (t176 ++ t177).size + t181.size ≤ 9223372036854775807 then (if t171.size + ((t176 ++ t177) ++ t181).size ≤ 9223372036854775807 then (vk.l0 k (t171 ++ ((t176 ++ t177) ++ t181)) l0_7 (l0_7.length : Int) 0) else (none)) else (none))) else (none)))))
theorem vk.mono_l : ∀ k, (∀ y0 y1 y2 y3, LeO (vk.l0 k y0 y1 y2 y3) (vk.l0 (k + 1) y0 y1 y2 y3))
  | 0 => fun _ _ _ _ r h => by simp [vk.l0] at h
  | k + 1 => by
    have ih0 := vk.mono_l k
    · intro y0 y1 y2 y3
      unfold vk.l0
      repeat' first
      | (with_reducible exact ih0 _ _ _ _)
      | (with_reducible exact uz.mono _ _)
      | (with_reducible exact ja.mono _ _ _ _)
      | (with_reducible exact v6.mono _ _)
      | (with_reducible exact LeO.refl _)
      | (with_reducible exact LeO.none _)
      | (with_reducible refine LeO.ite ?_ ?_)
      | (with_reducible refine LeO.bind ?_ (fun _ => ?_))
      | exact ih0 _ _ _ _
      | exact uz.mono _ _
      | exact ja.mono _ _ _ _
      | exact v6.mono _ _
      | exact LeO.none _
      | refine LeO.ite ?_ ?_
      | refine LeO.bind ?_ (fun _ => ?_)
theorem vk.mono : ∀ a0 a1 a2 a3 a4 a5 a6 a7 a8 a9 a10 k, LeO (vk.f k a0 a1 a2 a3 a4 a5 a6 a7 a8 a9 a10) (vk.f (k + 1) a0 a1 a2 a3 a4 a5 a6 a7 a8 a9 a10) := by
  intro a0 a1 a2 a3 a4 a5 a6 a7 a8 a9 a10 k
  have ih0 := vk.mono_l k
  unfold vk.f
  repeat' first
      | (with_reducible exact ih0 _ _ _ _)
      | (with_reducible exact uz.mono _ _)
      | (with_reducible exact ja.mono _ _ _ _)
      | (with_reducible exact v6.mono _ _)
      | (with_reducible exact LeO.refl _)
      | (with_reducible exact LeO.none _)
      | (with_reducible refine LeO.ite ?_ ?_)
      | (with_reducible refine LeO.bind ?_ (fun _ => ?_))
      | exact ih0 _ _ _ _
      | exact uz.mono _ _
      | exact ja.mono _ _ _ _
      | exact v6.mono _ _
      | exact LeO.none _
      | refine LeO.ite ?_ ?_
      | refine LeO.bind ?_ (fun _ => ?_)
def vk.T4 : Bool × List (List Nat × List Nat) := (true, [([], []), ([], []), ([1], [1]), ([2], [2]), ([], []), ([4], [4]), ([5, 3], [5]), ([3, 6], [3, 6]), ([], []), ([8], [8]), ([9], [9]), ([10], [10]), ([11, 6], [11]), ([7, 12], [7, 12]), ([0, 13], [0, 13]), ([14, 12, 0, 1, 2, 3, 4, 5, 6, 7, 8, 9, 10, 11, 12, 13, 14], [0, 14])])
def vk.B4 : List Nat := [0, 0, 2, 6, 0, 16, 62, 126, 0, 256, 768, 1792, 3966, 8190, 16383, 32767]
theorem vk.tab4 : rtab .any (opsOf Try.f39 4) = vk.T4 := by kernel_rfl
theorem vk.bits4 : waitsOk vk.T4.2 vk.B4 = true := by kernel_rfl
set_option maxHeartbeats 8000000 in
set_option maxRecDepth 100000 in
theorem vk.calls (k : Nat) (a0_0 : Int) (a0_1 : Int) (a0_2 : Int) (a0_3 : Int) (a0_4 : Int) (a0_5 : Int) (a0_6 : ByteArray) (A0_7 : Option Addr) (c0_7 : Nat) (l0_7 : List (S36)) (a0_8 : Int) (a0_9 : Int) (a0_10 : Int) (r : ByteArray) (w : World) (hr0_7 : Kd.C k36 w A0_7 l0_7.length l0_7) (hc0_7 : l0_7.length ≤ c0_7) (h : vk.f k a0_0 a0_1 a0_2 a0_3 a0_4 a0_5 a0_6 l0_7 a0_8 a0_9 a0_10 = some r) :
  Calls Try.prog 39 #[.agg #[.int .i64 a0_0, .int .i64 a0_1, .int .i64 a0_2, .int .i64 a0_3, .int .i64 a0_4, .int .i64 a0_5, .string a0_6, .slice A0_7 l0_7.length c0_7, .int .i64 a0_8, .int .i64 a0_9, .int .i64 a0_10]] w fun e w' => e = .returned (.string r) ∧ Below w.heap.size w w' := by
 have hu38 := Try.underlying38
 have hu36 := Try.underlying36
 have HR0_7 := Aside0.mk hr0_7
 have HC0_7 := Aside0.mk hc0_7
 clear hr0_7 hc0_7
 have HB := Aside0.mk (Below.refl w.heap.size w)
 have H : ((v6.f k (([a0_0, a0_1, a0_2] : List Int))).bind fun t171 => (if a0_2 = 2 then ((v6.f k (([a0_8, a0_9, a0_10] : List Int))).bind fun t175 => (if t171.size + t175.size ≤ 9223372036854775807 then (some (t171 ++ t175)) else (none))) else ((ja.f k a0_3 a0_4 a0_5).bind fun t176 => ((uz.f k a0_6).bind fun t177 => (if t176.size + t177.size ≤ 9223372036854775807 then ((v6.f k (([(l0_7.length : Int)] : List Int))).bind fun t181 => (if (t176 ++ t177).size + t181.size ≤ 9223372036854775807 then (if t171.size + ((t176 ++ t177) ++ t181).size ≤ 9223372036854775807 then (vk.l0 k (t171 ++ ((t176 ++ t177) ++ t181)) l0_7 (l0_7.length : Int) 0) else (none)) else (none))) else (none)))))) = some r := h
 clear h
 obtain ⟨y168, hy168⟩ : ∃ y_ : List Int, y_ = (([a0_0, a0_1, a0_2] : List Int)) := ⟨_, rfl⟩
 replace H : ((v6.f k y168).bind fun t171 => (if a0_2 = 2 then ((v6.f k (([a0_8, a0_9, a0_10] : List Int))).bind fun t175 => (if t171.size + t175.size ≤ 9223372036854775807 then (some (t171 ++ t175)) else (none))) else ((ja.f k a0_3 a0_4 a0_5).bind fun t176 => ((uz.f k a0_6).bind fun t177 => (if t176.size + t177.size ≤ 9223372036854775807 then ((v6.f k (([(l0_7.length : Int)] : List Int))).bind fun t181 => (if (t176 ++ t177).size + t181.size ≤ 9223372036854775807 then (if t171.size + ((t176 ++ t177) ++ t181).size ≤ 9223372036854775807 then (vk.l0 k (t171 ++ ((t176 ++ t177) ++ t181)) l0_7 (l0_7.length : Int) 0) else (none)) else (none))) else (none)))))) = some r := by first | (rw [hy168]; with_reducible exact H) | (have H2_ := (Option.bind_some _ _).symm.trans H; rw [hy168]; with_reducible exact H2_) | (have H2_ := (Option.bind_some _ _).symm.trans H; with_reducible exact H2_) | with_reducible exact H | (rw [hy168]; exact H) | exact H
 have Ny168 := Aside0.mk hy168
 clear hy168
 replace H := Option.bind_eq_some_iff.mp H
 obtain ⟨t171, A20, H⟩ := H
 replace H : (if a0_2 = 2 then ((v6.f k (([a0_8, a0_9, a0_10] : List Int))).bind fun t175 => (if t171.size + t175.size ≤ 9223372036854775807 then (some (t171 ++ t175)) else (none))) else ((ja.f k a0_3 a0_4 a0_5).bind fun t176 => ((uz.f k a0_6).bind fun t177 => (if t176.size + t177.size ≤ 9223372036854775807 then ((v6.f k (([(l0_7.length : Int)] : List Int))).bind fun t181 => (if (t176 ++ t177).size + t181.size ≤ 9223372036854775807 then (if t171.size + ((t176 ++ t177) ++ t181).size ≤ 9223372036854775807 then (vk.l0 k (t171 ++ ((t176 ++ t177) ++ t181)) l0_7 (l0_7.length : Int) 0) else (none)) else (none))) else (none))))) = some r := H
 have A2 := Aside0.mk A20
 clear A20
 by_cases c3 : a0_2 = 2
 ·
  rw [if_pos c3] at H
  have c3b0 : (a0_2 == 2) = true := beq_iff_eq.mpr c3
  have c3b1 : (a0_2 != 2) = false := bne_eq_false_iff_eq.mpr c3
  clear c3
  obtain ⟨y172, hy172⟩ : ∃ y_ : List Int, y_ = (([a0_8, a0_9, a0_10] : List Int)) := ⟨_, rfl⟩
  replace H : ((v6.f k y172).bind fun t175 => (if t171.size + t175.size ≤ 9223372036854775807 then (some (t171 ++ t175)) else (none))) = some r := by first | (rw [hy172]; with_reducible exact H) | (have H2_ := (Option.bind_some _ _).symm.trans H; rw [hy172]; with_reducible exact H2_) | (have H2_ := (Option.bind_some _ _).symm.trans H; with_reducible exact H2_) | with_reducible exact H | (rw [hy172]; exact H) | exact H
  have Ny172 := Aside0.mk hy172
  clear hy172
  replace H := Option.bind_eq_some_iff.mp H
  obtain ⟨t175, A40, H⟩ := H
  replace H : (if t171.size + t175.size ≤ 9223372036854775807 then (some (t171 ++ t175)) else (none)) = some r := H
  have A4 := Aside0.mk A40
  clear A40
  by_cases c5 : t171.size + t175.size ≤ 9223372036854775807
  rotate_left
  ·
   rw [if_neg c5] at H
   exact absurd H (by simp)
  rw [if_pos c5] at H
  have c5b0 := eq_true c5
  have c5b1 : decide (t171.size + t175.size ≤ 9223372036854775807) = true := decide_eq_true c5
  try have c5b2 : (9223372036854775807 < t171.size + t175.size) = False := eq_false (Nat.not_lt.2 c5)
  obtain rfl := Option.some.inj H
  go_enter Try.func39, Try.ntmps39
  go_wp2_with (first | ((with_reducible refine yf (N := 1) rfl ?_); refine yd ?hg (N := 1) ?hd (cs := #[.int .i64 a0_0, .int .i64 a0_1, .int .i64 a0_2, .int .i64 a0_3, .int .i64 a0_4, .int .i64 a0_5, .string a0_6, .slice A0_7 l0_7.length c0_7, .int .i64 a0_8, .int .i64 a0_9, .int .i64 a0_10]) (t := 38) ?hr ?_; (case hd => rfl); (case hg => rfl); (case hr => first | (go_simp; done) | (go_simp; rfl)); intro gb167 hg w6 hbox hb; have n0_ := Aside0.mk (zj (by repeat (first | (with_reducible first | exact HB.out | apply z8 | apply z6 | apply z7) | exact HB.out)) hb); have n1_ := Aside0.mk (hbox); have n2_ := Aside0.mk ((by rw [hg]; exact (zk (by repeat (first | (with_reducible first | exact HB.out | apply z8 | apply z6 | apply z7) | exact HB.out))) : w.heap.size ≤ gb167)); have n3_ := Aside0.mk ((by rw [hg]; exact (zk (by repeat (first | (with_reducible first | exact HB.out | apply z8 | apply z6 | apply z7) | exact HB.out))) : w.heap.size ≤ gb167)); clear HB; have HB := n0_; have BK167 := n1_; have GW167 := n2_; have GE167 := n3_; clear n0_ n1_ n2_ n3_; clear hb hbox hg; have hcz7_0 := yq BK167.out; have hfz7_0 := fun j_ => zi BK167.out j_) | ((with_reducible refine yf (N := 12) rfl ?_); refine Kd.z3y (Kd.int .i64) _ 3 ?hg (N := 12) ?hd (xs := ([a0_0, a0_1, a0_2] : List Int)) (inner := [.int .i64 a0_0, .int .i64 a0_1, .int .i64 a0_2]) (ok := fun _ => True) (okp := fun _ => True) ?hr ?hp (fun _ hk => hk) trivial (Below.refl _ _) (Nat.le_refl _) (by simp) ?_; (case hd => rfl); (case hg => rfl); (case hr => first | (go_simp; done) | (go_simp; rfl)); (case hp => exact (Reps.one (show Kd.M (Kd.int .i64) _ _ _ a0_0 [.int .i64 a0_0] from rfl) (Reps.one (show Kd.M (Kd.int .i64) _ _ _ a0_1 [.int .i64 a0_1] from rfl) (Reps.one (show Kd.M (Kd.int .i64) _ _ _ a0_2 [.int .i64 a0_2] from rfl) (Reps.none _ _))))); intro v169 w8 ho9 hb hg_ hnew_; clear hg_ hnew_; (first | rw [← Ny168.out] at ho9 | (simp only [Int.reduceToNat] at ho9; rw [← Ny168.out] at ho9)); have n0_ := Aside0.mk (Kd.z00 ho9 (zk (by repeat (first | (with_reducible first | exact HB.out | apply z8 | apply z6 | apply z7 | refine zb ?_ GE167.out) | exact HB.out)))); have n1_ := Aside0.mk (zt (by (with_reducible repeat (first | refine ze ?_ _ | refine zf ?_ | refine zc ?_ _)); exact BK167.out) hb); have n2_ := Aside0.mk (zj (by repeat (first | (with_reducible first | exact HB.out | apply z8 | apply z6 | apply z7 | refine zb ?_ GE167.out) | exact HB.out)) hb); clear BK167; clear HB; have HO170 := n0_; have BK167 := n1_; have HB := n2_; clear n0_ n1_ n2_; clear hb ho9; obtain ⟨Ao10, co10, eo10⟩ := Kd.z01 HO170.out; subst eo10) | ((with_reducible refine zu (f := 64) rfl ?_); refine yn (some 13) rfl rfl Try.func64 (by kernel_rfl) rfl #[.slice Ao10 y168.length co10] rfl (by (try simp only [List.map_toArray, List.map_cons, List.map_nil]); first | done | rfl | (simp only [List.length_drop, List.length_take]; rfl)) ?_; (with_reducible refine (v6.calls k _ _ y168 t171 _ ?side1 ?side2 A2.out).mono ?_); (case side1 => repeat (first | exact (Kd.jn HO170.out).2.2 | (with_reducible refine Kd.yo ?_ _) | (with_reducible refine Kd.yp ?_ _) | (with_reducible refine Kd.yy ?_))); (case side2 => exact (Kd.jn HO170.out).2.1); rintro e w11 ⟨rfl, hb⟩; refine ⟨_, rfl, ?_⟩; have n0_ := Aside0.mk (Kd.jl (by (with_reducible repeat (first | apply Kd.uh | apply Kd.ui | apply Kd.uk)); exact HO170.out) hb); have n1_ := Aside0.mk (zt (by (with_reducible repeat (first | refine ze ?_ _ | refine zf ?_ | refine zc ?_ _)); exact BK167.out) hb); have n2_ := Aside0.mk (zj (by repeat (first | (with_reducible first | exact HB.out | apply z8 | apply z6 | apply z7 | refine zb ?_ GE167.out) | exact HB.out)) hb); clear HO170; clear BK167; clear HB; have HO170 := n0_; have BK167 := n1_; have HB := n2_; clear n0_ n1_ n2_; (try clear hb); (try clear hb2); (try clear hk); (try clear hi); have hcz12_0 := yq BK167.out; have hfz12_0 := fun j_ => zi BK167.out j_) | ((with_reducible refine yf (N := 24) rfl ?_); refine Kd.z3y (Kd.int .i64) _ 3 ?hg (N := 24) ?hd (xs := ([a0_8, a0_9, a0_10] : List Int)) (inner := [.int .i64 a0_8, .int .i64 a0_9, .int .i64 a0_10]) (ok := fun _ => True) (okp := fun _ => True) ?hr ?hp (fun _ hk => hk) trivial (Below.refl _ _) (Nat.le_refl _) (by simp) ?_; (case hd => rfl); (case hg => rfl); (case hr => first | (go_simp; done) | (go_simp; rfl)); (case hp => exact (Reps.one (show Kd.M (Kd.int .i64) _ _ _ a0_8 [.int .i64 a0_8] from rfl) (Reps.one (show Kd.M (Kd.int .i64) _ _ _ a0_9 [.int .i64 a0_9] from rfl) (Reps.one (show Kd.M (Kd.int .i64) _ _ _ a0_10 [.int .i64 a0_10] from rfl) (Reps.none _ _))))); intro v173 w13 ho14 hb hg_ hnew_; clear hg_ hnew_; (first | rw [← Ny172.out] at ho14 | (simp only [Int.reduceToNat] at ho14; rw [← Ny172.out] at ho14)); have n0_ := Aside0.mk (Kd.z1i (by (with_reducible repeat (first | apply Kd.uh | apply Kd.ui | apply Kd.uk)); exact HO170.out) (Kd.z1v ho14) hb); have n1_ := Aside0.mk (Kd.z00 (Kd.z2i ho14 (Kd.z5m (by (with_reducible repeat (first | apply Kd.uh | apply Kd.ui | apply Kd.uk)); exact HO170.out))) (zk (by repeat (first | (with_reducible first | exact HB.out | apply z8 | apply z6 | apply z7 | refine zb ?_ GE167.out) | exact HB.out)))); have n2_ := Aside0.mk (zt (by (with_reducible repeat (first | refine ze ?_ _ | refine zf ?_ | refine zc ?_ _)); exact BK167.out) hb); have n3_ := Aside0.mk (zj (by repeat (first | (with_reducible first | exact HB.out | apply z8 | apply z6 | apply z7 | refine zb ?_ GE167.out) | exact HB.out)) hb); clear HO170; clear BK167; clear HB; have HO170 := n0_; have HO174 := n1_; have BK167 := n2_; have HB := n3_; clear n0_ n1_ n2_ n3_; clear hb ho14; obtain ⟨Ao15, co15, eo15⟩ := Kd.z01 HO174.out; subst eo15) | ((with_reducible refine zu (f := 64) rfl ?_); refine yn (some 25) rfl rfl Try.func64 (by kernel_rfl) rfl #[.slice Ao15 y172.length co15] rfl (by (try simp only [List.map_toArray, List.map_cons, List.map_nil]); first | done | rfl | (simp only [List.length_drop, List.length_take]; rfl)) ?_; (with_reducible refine (v6.calls k _ _ y172 t175 _ ?side1 ?side2 A4.out).mono ?_); (case side1 => repeat (first | exact (Kd.jn HO174.out).2.2 | (with_reducible refine Kd.yo ?_ _) | (with_reducible refine Kd.yp ?_ _) | (with_reducible refine Kd.yy ?_))); (case side2 => exact (Kd.jn HO174.out).2.1); rintro e w16 ⟨rfl, hb⟩; refine ⟨_, rfl, ?_⟩; have n0_ := Aside0.mk (Kd.jl (by (with_reducible repeat (first | apply Kd.uh | apply Kd.ui | apply Kd.uk)); exact HO170.out) hb); have n1_ := Aside0.mk (Kd.jl (by (with_reducible repeat (first | apply Kd.uh | apply Kd.ui | apply Kd.uk)); exact HO174.out) hb); have n2_ := Aside0.mk (zt (by (with_reducible repeat (first | refine ze ?_ _ | refine zf ?_ | refine zc ?_ _)); exact BK167.out) hb); have n3_ := Aside0.mk (zj (by repeat (first | (with_reducible first | exact HB.out | apply z8 | apply z6 | apply z7 | refine zb ?_ GE167.out) | exact HB.out)) hb); clear HO170; clear HO174; clear BK167; clear HB; have HO170 := n0_; have HO174 := n1_; have BK167 := n2_; have HB := n3_; clear n0_ n1_ n2_ n3_; (try clear hb); (try clear hb2); (try clear hk); (try clear hi)))
  go_ret
  exact ⟨by first | rfl | (simp [zm, zn] <;> rfl) | (simp [*, zm, zn] <;> rfl), by repeat (first | (with_reducible first | exact HB.out | apply z8 | apply z6 | apply z7 | refine zb ?_ GE167.out) | exact HB.out)⟩
 rw [if_neg c3] at H
 have c3b0 : (a0_2 == 2) = false := beq_eq_false_iff_ne.mpr c3
 have c3b1 : (a0_2 != 2) = true := bne_iff_ne.mpr c3
 replace H := Option.bind_eq_some_iff.mp H
 obtain ⟨t176, A170, H⟩ := H
 replace H : ((uz.f k a0_6).bind fun t177 => (if t176.size + t177.size ≤ 9223372036854775807 then ((v6.f k (([(l0_7.length : Int)] : List Int))).bind fun t181 => (if (t176 ++ t177).size + t181.size ≤ 9223372036854775807 then (if t171.size + ((t176 ++ t177) ++ t181).size ≤ 9223372036854775807 then (vk.l0 k (t171 ++ ((t176 ++ t177) ++ t181)) l0_7 (l0_7.length : Int) 0) else (none)) else (none))) else (none))) = some r := H
 have A17 := Aside0.mk A170
 clear A170
 replace H := Option.bind_eq_some_iff.mp H
 obtain ⟨t177, A180, H⟩ := H
 replace H : (if t176.size + t177.size ≤ 9223372036854775807 then ((v6.f k (([(l0_7.length : Int)] : List Int))).bind fun t181 => (if (t176 ++ t177).size + t181.size ≤ 9223372036854775807 then (if t171.size + ((t176 ++ t177) ++ t181).size ≤ 9223372036854775807 then (vk.l0 k (t171 ++ ((t176 ++ t177) ++ t181)) l0_7 (l0_7.length : Int) 0) else (none)) else (none))) else (none)) = some r := H
 have A18 := Aside0.mk A180
 clear A180
 by_cases c19 : t176.size + t177.size ≤ 9223372036854775807
 rotate_left
 ·
  rw [if_neg c19] at H
  exact absurd H (by simp)
 rw [if_pos c19] at H
 have c19b0 := eq_true c19
 have c19b1 : decide (t176.size + t177.size ≤ 9223372036854775807) = true := decide_eq_true c19
 try have c19b2 : (9223372036854775807 < t176.size + t177.size) = False := eq_false (Nat.not_lt.2 c19)
 obtain ⟨y178, hy178⟩ : ∃ y_ : List Int, y_ = (([(l0_7.length : Int)] : List Int)) := ⟨_, rfl⟩
 replace H : ((v6.f k y178).bind fun t181 => (if (t176 ++ t177).size + t181.size ≤ 9223372036854775807 then (if t171.size + ((t176 ++ t177) ++ t181).size ≤ 9223372036854775807 then (vk.l0 k (t171 ++ ((t176 ++ t177) ++ t181)) l0_7 (l0_7.length : Int) 0) else (none)) else (none))) = some r := by first | (rw [hy178]; with_reducible exact H) | (have H2_ := (Option.bind_some _ _).symm.trans H; rw [hy178]; with_reducible exact H2_) | (have H2_ := (Option.bind_some _ _).symm.trans H; with_reducible exact H2_) | with_reducible exact H | (rw [hy178]; exact H) | exact H
 have Ny178 := Aside0.mk hy178
 clear hy178
 replace H := Option.bind_eq_some_iff.mp H
 obtain ⟨t181, A200, H⟩ := H
 replace H : (if (t176 ++ t177).size + t181.size ≤ 9223372036854775807 then (if t171.size + ((t176 ++ t177) ++ t181).size ≤ 9223372036854775807 then (vk.l0 k (t171 ++ ((t176 ++ t177) ++ t181)) l0_7 (l0_7.length : Int) 0) else (none)) else (none)) = some r := H
 have A20 := Aside0.mk A200
 clear A200
 by_cases c21 : (t176 ++ t177).size + t181.size ≤ 9223372036854775807
 rotate_left
 ·
  rw [if_neg c21] at H
  exact absurd H (by simp)
 rw [if_pos c21] at H
 have c21b0 := eq_true c21
 have c21b1 : decide ((t176 ++ t177).size + t181.size ≤ 9223372036854775807) = true := decide_eq_true c21
 try have c21b2 : (9223372036854775807 < (t176 ++ t177).size + t181.size) = False := eq_false (Nat.not_lt.2 c21)
 (try have c21b3 : (9223372036854775807 < (t176.size + t177.size) + t181.size) = False := eq_false (by (try simp only [ByteArray.size_extract, ByteArray.size_append, decide_eq_true_eq, eq_iff_iff, iff_true] at *); omega))
 by_cases c22 : t171.size + ((t176 ++ t177) ++ t181).size ≤ 9223372036854775807
 rotate_left
 ·
  rw [if_neg c22] at H
  exact absurd H (by simp)
 rw [if_pos c22] at H
 have c22b0 := eq_true c22
 have c22b1 : decide (t171.size + ((t176 ++ t177) ++ t181).size ≤ 9223372036854775807) = true := decide_eq_true c22
 try have c22b2 : (9223372036854775807 < t171.size + ((t176 ++ t177) ++ t181).size) = False := eq_false (Nat.not_lt.2 c22)
 (try have c22b3 : (9223372036854775807 < t171.size + ((t176.size + t177.size) + t181.size)) = False := eq_false (by (try simp only [ByteArray.size_extract, ByteArray.size_append, decide_eq_true_eq, eq_iff_iff, iff_true] at *); omega))
 have H' := Aside0.mk H
 clear H
 go_enter Try.func39, Try.ntmps39
 try go_wp2_with (first | ((with_reducible refine yf (N := 1) rfl ?_); refine yd ?hg (N := 1) ?hd (cs := #[.int .i64 a0_0, .int .i64 a0_1, .int .i64 a0_2, .int .i64 a0_3, .int .i64 a0_4, .int .i64 a0_5, .string a0_6, .slice A0_7 l0_7.length c0_7, .int .i64 a0_8, .int .i64 a0_9, .int .i64 a0_10]) (t := 38) ?hr ?_; (case hd => rfl); (case hg => rfl); (case hr => first | (go_simp; done) | (go_simp; rfl)); intro gb167 hg w23 hbox hb; have n0_ := Aside0.mk (zj (by repeat (first | (with_reducible first | exact HB.out | apply z8 | apply z6 | apply z7) | exact HB.out)) hb); have n1_ := Aside0.mk (hbox); have n2_ := Aside0.mk ((by rw [hg]; exact (zk (by repeat (first | (with_reducible first | exact HB.out | apply z8 | apply z6 | apply z7) | exact HB.out))) : w.heap.size ≤ gb167)); have n3_ := Aside0.mk ((by rw [hg]; exact (zk (by repeat (first | (with_reducible first | exact HB.out | apply z8 | apply z6 | apply z7) | exact HB.out))) : w.heap.size ≤ gb167)); clear HB; have HB := n0_; have BK167 := n1_; have GW167 := n2_; have GE167 := n3_; clear n0_ n1_ n2_ n3_; clear hb hbox hg; have hcz24_0 := yq BK167.out; have hfz24_0 := fun j_ => zi BK167.out j_) | ((with_reducible refine yf (N := 12) rfl ?_); refine Kd.z3y (Kd.int .i64) _ 3 ?hg (N := 12) ?hd (xs := ([a0_0, a0_1, a0_2] : List Int)) (inner := [.int .i64 a0_0, .int .i64 a0_1, .int .i64 a0_2]) (ok := fun _ => True) (okp := fun _ => True) ?hr ?hp (fun _ hk => hk) trivial (Below.refl _ _) (Nat.le_refl _) (by simp) ?_; (case hd => rfl); (case hg => rfl); (case hr => first | (go_simp; done) | (go_simp; rfl)); (case hp => exact (Reps.one (show Kd.M (Kd.int .i64) _ _ _ a0_0 [.int .i64 a0_0] from rfl) (Reps.one (show Kd.M (Kd.int .i64) _ _ _ a0_1 [.int .i64 a0_1] from rfl) (Reps.one (show Kd.M (Kd.int .i64) _ _ _ a0_2 [.int .i64 a0_2] from rfl) (Reps.none _ _))))); intro v169 w25 ho26 hb hg_ hnew_; clear hg_ hnew_; (first | rw [← Ny168.out] at ho26 | (simp only [Int.reduceToNat] at ho26; rw [← Ny168.out] at ho26)); have n0_ := Aside0.mk (Kd.z00 ho26 (zk (by repeat (first | (with_reducible first | exact HB.out | apply z8 | apply z6 | apply z7 | refine zb ?_ GE167.out) | exact HB.out)))); have n1_ := Aside0.mk (zt (by (with_reducible repeat (first | refine ze ?_ _ | refine zf ?_ | refine zc ?_ _)); exact BK167.out) hb); have n2_ := Aside0.mk (zj (by repeat (first | (with_reducible first | exact HB.out | apply z8 | apply z6 | apply z7 | refine zb ?_ GE167.out) | exact HB.out)) hb); clear BK167; clear HB; have HO170 := n0_; have BK167 := n1_; have HB := n2_; clear n0_ n1_ n2_; clear hb ho26; obtain ⟨Ao27, co27, eo27⟩ := Kd.z01 HO170.out; subst eo27) | ((with_reducible refine zu (f := 64) rfl ?_); refine yn (some 13) rfl rfl Try.func64 (by kernel_rfl) rfl #[.slice Ao27 y168.length co27] rfl (by (try simp only [List.map_toArray, List.map_cons, List.map_nil]); first | done | rfl | (simp only [List.length_drop, List.length_take]; rfl)) ?_; (with_reducible refine (v6.calls k _ _ y168 t171 _ ?side1 ?side2 A2.out).mono ?_); (case side1 => repeat (first | exact (Kd.jn HO170.out).2.2 | (with_reducible refine Kd.yo ?_ _) | (with_reducible refine Kd.yp ?_ _) | (with_reducible refine Kd.yy ?_))); (case side2 => exact (Kd.jn HO170.out).2.1); rintro e w28 ⟨rfl, hb⟩; refine ⟨_, rfl, ?_⟩; have n0_ := Aside0.mk (Kd.jl (by (with_reducible repeat (first | apply Kd.uh | apply Kd.ui | apply Kd.uk)); exact HO170.out) hb); have n1_ := Aside0.mk (zt (by (with_reducible repeat (first | refine ze ?_ _ | refine zf ?_ | refine zc ?_ _)); exact BK167.out) hb); have n2_ := Aside0.mk (zj (by repeat (first | (with_reducible first | exact HB.out | apply z8 | apply z6 | apply z7 | refine zb ?_ GE167.out) | exact HB.out)) hb); clear HO170; clear BK167; clear HB; have HO170 := n0_; have BK167 := n1_; have HB := n2_; clear n0_ n1_ n2_; (try clear hb); (try clear hb2); (try clear hk); (try clear hi); have hcz29_0 := yq BK167.out; have hfz29_0 := fun j_ => zi BK167.out j_))
 have n0_ := Aside0.mk (Kd.uk HO170.out)
 have n1_ := Aside0.mk (zf BK167.out)
 have n2_ := Aside0.mk (z7 HB.out)
 clear HO170
 clear BK167
 clear HB
 have HO170 := n0_
 have BK167 := n1_
 have HB := n2_
 clear n0_ n1_ n2_
 refine ji (n := 16) (S := fun w' => w'.cell? ⟨gb167, 0, none⟩ = some (.int .i64 a0_0) ∧ w'.cell? ⟨gb167, 1, none⟩ = some (.int .i64 a0_1) ∧ w'.cell? ⟨gb167, 2, none⟩ = some (.int .i64 a0_2) ∧ w'.cell? ⟨gb167, 3, none⟩ = some (.int .i64 a0_3) ∧ w'.cell? ⟨gb167, 4, none⟩ = some (.int .i64 a0_4) ∧ w'.cell? ⟨gb167, 5, none⟩ = some (.int .i64 a0_5) ∧ w'.cell? ⟨gb167, 6, none⟩ = some (.string a0_6) ∧ w'.cell? ⟨gb167, 7, none⟩ = some (.slice A0_7 l0_7.length c0_7) ∧ w'.cell? ⟨gb167, 8, none⟩ = some (.int .i64 a0_8) ∧ w'.cell? ⟨gb167, 9, none⟩ = some (.int .i64 a0_9) ∧ w'.cell? ⟨gb167, 10, none⟩ = some (.int .i64 a0_10)) (ds := []) zdq (by kernel_rfl) rfl rfl ⟨(za BK167.out 0).trans rfl, (za BK167.out 1).trans rfl, (za BK167.out 2).trans rfl, (za BK167.out 3).trans rfl, (za BK167.out 4).trans rfl, (za BK167.out 5).trans rfl, (za BK167.out 6).trans rfl, (za BK167.out 7).trans rfl, (za BK167.out 8).trans rfl, (za BK167.out 9).trans rfl, (za BK167.out 10).trans rfl⟩ (fun hHeld => ?_); refine uy vk.tab4 vk.bits4 (fun HT_ HW_ => ?_)
 generalize w28.drew = w30 at HO170 BK167 HB hHeld ⊢
 refine pq_ 0 27 zdr (zo HT_.out (by kernel_rfl)) ?_
 refine pq_ 1 28 zds (zo HT_.out (by kernel_rfl)) ?_
 refine pq_ 4 31 zdt (zo HT_.out (by kernel_rfl)) ?_
 refine pq_ 8 35 zdu (zo HT_.out (by kernel_rfl)) ?_
 refine tq_ 2 29 zdv (yj HT_.out HW_.out (by kernel_rfl)) hHeld ?_
 refine tq_ 5 32 zdw (yj HT_.out HW_.out (by kernel_rfl)) hHeld ?_
 refine tq_ 9 36 zdx (yj HT_.out HW_.out (by kernel_rfl)) hHeld ?_
 refine pq_ 10 37 zdy (zo HT_.out (by kernel_rfl)) ?_
 refine zd2 (σ := Value) 4 z5h (fun s_ => [(30, .string t176), (33, .string t177), (38, s_), (34, .string (t176 ++ t177))]) (fun s_ w' => (w'.cell? ⟨gb167, 0, none⟩ = some (.int .i64 a0_0) ∧ w'.cell? ⟨gb167, 1, none⟩ = some (.int .i64 a0_1) ∧ w'.cell? ⟨gb167, 2, none⟩ = some (.int .i64 a0_2) ∧ w'.cell? ⟨gb167, 3, none⟩ = some (.int .i64 a0_3) ∧ w'.cell? ⟨gb167, 4, none⟩ = some (.int .i64 a0_4) ∧ w'.cell? ⟨gb167, 5, none⟩ = some (.int .i64 a0_5) ∧ w'.cell? ⟨gb167, 6, none⟩ = some (.string a0_6) ∧ w'.cell? ⟨gb167, 7, none⟩ = some (.slice A0_7 l0_7.length c0_7) ∧ w'.cell? ⟨gb167, 8, none⟩ = some (.int .i64 a0_8) ∧ w'.cell? ⟨gb167, 9, none⟩ = some (.int .i64 a0_9) ∧ w'.cell? ⟨gb167, 10, none⟩ = some (.int .i64 a0_10)) ∧ (Kd.R (Kd.int .i64) 3 w' w.heap.size (fun k_ => some k_ ≠ (s_ : Value).ownBlock) (.slice Ao27 y168.length co27) y168) ∧ (Kd.R (Kd.int .i64) 3 w' w.heap.size (fun k_ => some k_ ≠ (.slice Ao27 y168.length co27 : Value).ownBlock) s_ y178) ∧ (w'.heap[gb167]? = some (.cells #[.int .i64 a0_0, .int .i64 a0_1, .int .i64 a0_2, .int .i64 a0_3, .int .i64 a0_4, .int .i64 a0_5, .string a0_6, .slice A0_7 l0_7.length c0_7, .int .i64 a0_8, .int .i64 a0_9, .int .i64 a0_10] 38 (0, 0))) ∧ (Below w.heap.size w w')) ?_ ?_
 rotate_left
 ·
  intro hCont
  refine zbs (i := 3) (j := 11) (Ni := some 30) (Nj := some 38) zcg zch rfl rfl rfl rfl (z8w HT_.out (by kernel_rfl)) (by decide) (by decide) (fun K hK => ?_) (fun K hK => ?_)
  ·
   skip
   refine j5 Try.func65 (by kernel_rfl) rfl #[.agg #[.int .i64 a0_3, .int .i64 a0_4, .int .i64 a0_5]] (by rfl) rfl rfl (by (try simp only [List.map_toArray, List.map_cons, List.map_nil]); first | done | rfl | (simp only [List.length_drop, List.length_take]; rfl)) ?_
   with_reducible refine (ja.calls k a0_3 a0_4 a0_5 t176 _ A17.out).mono ?_
   rintro e w31 ⟨rfl, hb⟩
   refine ⟨_, rfl, ?_⟩
   have n0_ := Aside0.mk (Kd.jl (by (with_reducible repeat (first | apply Kd.uh | apply Kd.ui | apply Kd.uk)); exact HO170.out) hb)
   have n1_ := Aside0.mk (zt (by (with_reducible repeat (first | refine ze ?_ _ | refine zf ?_ | refine zc ?_ _)); exact BK167.out) hb)
   have n2_ := Aside0.mk (zj (by repeat (first | (with_reducible first | exact HB.out | apply z8 | apply z6 | apply z7 | refine zb ?_ GE167.out) | exact HB.out)) hb)
   clear HO170
   clear BK167
   clear HB
   have HO170 := n0_
   have BK167 := n1_
   have HB := n2_
   clear n0_ n1_ n2_
   (try clear hb)
   (try clear hb2)
   (try clear hk)
   (try clear hi)
   refine hK.out _ _ ⟨(za BK167.out 0).trans rfl, (za BK167.out 1).trans rfl, (za BK167.out 2).trans rfl, (za BK167.out 3).trans rfl, (za BK167.out 4).trans rfl, (za BK167.out 5).trans rfl, (za BK167.out 6).trans rfl, (za BK167.out 7).trans rfl, (za BK167.out 8).trans rfl, (za BK167.out 9).trans rfl, (za BK167.out 10).trans rfl⟩ (fun hHeld => ?_)
   clear hK K
   refine um (a' := ?_) ?_ ?_
   rotate_left
   ·
    show Act.put _ (some 30) _ = _
    simp only [Act.put, List.setIfInBounds_toArray, List.set_cons_zero, List.set_cons_succ, vw, ud]
    rfl
   refine zbs (i := 6) (j := 11) (Ni := some 33) (Nj := some 38) zci z8x rfl rfl rfl rfl (z8w HT_.out (by kernel_rfl)) (by decide) (by decide) (fun K hK => ?_) (fun K hK => ?_)
   ·
    skip
    refine j5 Try.func66 (by kernel_rfl) rfl #[.string a0_6] (by rfl) rfl rfl (by (try simp only [List.map_toArray, List.map_cons, List.map_nil]); first | done | rfl | (simp only [List.length_drop, List.length_take]; rfl)) ?_
    with_reducible refine (uz.calls k a0_6 t177 _ A18.out).mono ?_
    rintro e w32 ⟨rfl, hb⟩
    refine ⟨_, rfl, ?_⟩
    have n0_ := Aside0.mk (Kd.jl (by (with_reducible repeat (first | apply Kd.uh | apply Kd.ui | apply Kd.uk)); exact HO170.out) hb)
    have n1_ := Aside0.mk (zt (by (with_reducible repeat (first | refine ze ?_ _ | refine zf ?_ | refine zc ?_ _)); exact BK167.out) hb)
    have n2_ := Aside0.mk (zj (by repeat (first | (with_reducible first | exact HB.out | apply z8 | apply z6 | apply z7 | refine zb ?_ GE167.out) | exact HB.out)) hb)
    clear HO170
    clear BK167
    clear HB
    have HO170 := n0_
    have BK167 := n1_
    have HB := n2_
    clear n0_ n1_ n2_
    (try clear hb)
    (try clear hb2)
    (try clear hk)
    (try clear hi)
    refine hK.out _ _ ⟨(za BK167.out 0).trans rfl, (za BK167.out 1).trans rfl, (za BK167.out 2).trans rfl, (za BK167.out 3).trans rfl, (za BK167.out 4).trans rfl, (za BK167.out 5).trans rfl, (za BK167.out 6).trans rfl, (za BK167.out 7).trans rfl, (za BK167.out 8).trans rfl, (za BK167.out 9).trans rfl, (za BK167.out 10).trans rfl⟩ (fun hHeld => ?_)
    clear hK K
    refine um (a' := ?_) ?_ ?_
    rotate_left
    ·
     show Act.put _ (some 33) _ = _
     simp only [Act.put, List.setIfInBounds_toArray, List.set_cons_zero, List.set_cons_succ, vw, ud]
     rfl
    refine gz 7 34 zcj (zo HT_.out (by kernel_rfl)) ?_
    refine ul (i := 11) (N := some 38) z5h rfl rfl (vn HT_.out (by kernel_rfl)) (by decide) (fun K hK => ?_)
    refine Kd.z1d (Kd.int .i64) _ 3 ?hg (N := 38) ?hd (xs := ([(l0_7.length : Int)] : List Int)) (inner := [.int .i64 (l0_7.length : Int)]) (ok := fun _ => True) (okp := fun _ => True) ?hr ?hp (fun _ hk => hk) trivial (Below.refl _ _) (Nat.le_refl _) (by simp) ?_; (case hd => rfl); (case hg => rfl); (case hr => first | (go_simp; done) | (go_simp; rfl)); (case hp => exact (Reps.one (show Kd.M (Kd.int .i64) _ _ _ (l0_7.length : Int) [.int .i64 (l0_7.length : Int)] from rfl) (Reps.none _ _)))
    intro v179 w33 ho34 hb hg_ hnew_
    clear hg_ hnew_
    (first | rw [← Ny178.out] at ho34 | (simp only [Int.reduceToNat] at ho34; rw [← Ny178.out] at ho34))
    have n0_ := Aside0.mk (Kd.z1i (by (with_reducible repeat (first | apply Kd.uh | apply Kd.ui | apply Kd.uk)); exact HO170.out) (Kd.z1v ho34) hb)
    have n1_ := Aside0.mk (Kd.z00 (Kd.z2i ho34 (Kd.z5m (by (with_reducible repeat (first | apply Kd.uh | apply Kd.ui | apply Kd.uk)); exact HO170.out))) (zk (by repeat (first | (with_reducible first | exact HB.out | apply z8 | apply z6 | apply z7 | refine zb ?_ GE167.out) | exact HB.out))))
    have n2_ := Aside0.mk (zt (by (with_reducible repeat (first | refine ze ?_ _ | refine zf ?_ | refine zc ?_ _)); exact BK167.out) hb)
    have n3_ := Aside0.mk (zj (by repeat (first | (with_reducible first | exact HB.out | apply z8 | apply z6 | apply z7 | refine zb ?_ GE167.out) | exact HB.out)) hb)
    clear HO170
    clear BK167
    clear HB
    have HO170 := n0_
    have HO180 := n1_
    have BK167 := n2_
    have HB := n3_
    clear n0_ n1_ n2_ n3_
    clear hb ho34
    refine hK.out _ _ ⟨(za BK167.out 0).trans rfl, (za BK167.out 1).trans rfl, (za BK167.out 2).trans rfl, (za BK167.out 3).trans rfl, (za BK167.out 4).trans rfl, (za BK167.out 5).trans rfl, (za BK167.out 6).trans rfl, (za BK167.out 7).trans rfl, (za BK167.out 8).trans rfl, (za BK167.out 9).trans rfl, (za BK167.out 10).trans rfl⟩ (fun hHeld => ?_)
    clear hK K
    refine um (a' := ?_) ?_ ?_
    rotate_left
    ·
     show Act.put _ (some 38) _ = _
     simp only [Act.put, List.setIfInBounds_toArray, List.set_cons_zero, List.set_cons_succ, vw, ud]
     rfl
    exact um (by simp only [putAll, Act.put, List.setIfInBounds_toArray, List.set_cons_zero, List.set_cons_succ]) (hCont (v179) _ ⟨hHeld, (by (with_reducible repeat (first | apply Kd.uh | apply Kd.ui | apply Kd.uk)); exact Kd.jj HO170.out (fun _ hk => hk.2)), (by (with_reducible repeat (first | apply Kd.uh | apply Kd.ui | apply Kd.uk)); exact Kd.jj HO180.out (fun _ hk => hk.2)), (by (with_reducible repeat (first | refine ze ?_ _ | refine zf ?_ | refine zc ?_ _)); exact BK167.out), (by repeat (first | (with_reducible first | exact HB.out | apply z8 | apply z6 | apply z7 | refine zb ?_ GE167.out) | exact HB.out))⟩)
   skip
   refine Kd.z1d (Kd.int .i64) _ 3 ?hg (N := 38) ?hd (xs := ([(l0_7.length : Int)] : List Int)) (inner := [.int .i64 (l0_7.length : Int)]) (ok := fun _ => True) (okp := fun _ => True) ?hr ?hp (fun _ hk => hk) trivial (Below.refl _ _) (Nat.le_refl _) (by simp) ?_; (case hd => rfl); (case hg => rfl); (case hr => first | (go_simp; done) | (go_simp; rfl)); (case hp => exact (Reps.one (show Kd.M (Kd.int .i64) _ _ _ (l0_7.length : Int) [.int .i64 (l0_7.length : Int)] from rfl) (Reps.none _ _)))
   intro v179 w32 ho33 hb hg_ hnew_
   clear hg_ hnew_
   (first | rw [← Ny178.out] at ho33 | (simp only [Int.reduceToNat] at ho33; rw [← Ny178.out] at ho33))
   have n0_ := Aside0.mk (Kd.z1i (by (with_reducible repeat (first | apply Kd.uh | apply Kd.ui | apply Kd.uk)); exact HO170.out) (Kd.z1v ho33) hb)
   have n1_ := Aside0.mk (Kd.z00 (Kd.z2i ho33 (Kd.z5m (by (with_reducible repeat (first | apply Kd.uh | apply Kd.ui | apply Kd.uk)); exact HO170.out))) (zk (by repeat (first | (with_reducible first | exact HB.out | apply z8 | apply z6 | apply z7 | refine zb ?_ GE167.out) | exact HB.out))))
   have n2_ := Aside0.mk (zt (by (with_reducible repeat (first | refine ze ?_ _ | refine zf ?_ | refine zc ?_ _)); exact BK167.out) hb)
   have n3_ := Aside0.mk (zj (by repeat (first | (with_reducible first | exact HB.out | apply z8 | apply z6 | apply z7 | refine zb ?_ GE167.out) | exact HB.out)) hb)
   clear HO170
   clear BK167
   clear HB
   have HO170 := n0_
   have HO180 := n1_
   have BK167 := n2_
   have HB := n3_
   clear n0_ n1_ n2_ n3_
   clear hb ho33
   refine hK.out _ _ ⟨(za BK167.out 0).trans rfl, (za BK167.out 1).trans rfl, (za BK167.out 2).trans rfl, (za BK167.out 3).trans rfl, (za BK167.out 4).trans rfl, (za BK167.out 5).trans rfl, (za BK167.out 6).trans rfl, (za BK167.out 7).trans rfl, (za BK167.out 8).trans rfl, (za BK167.out 9).trans rfl, (za BK167.out 10).trans rfl⟩ (fun hHeld => ?_)
   clear hK K
   refine um (a' := ?_) ?_ ?_
   rotate_left
   ·
    show Act.put _ (some 38) _ = _
    simp only [Act.put, List.setIfInBounds_toArray, List.set_cons_zero, List.set_cons_succ, vw, ud]
    rfl
   refine ul (i := 6) (N := some 33) z8y rfl rfl (vn HT_.out (by kernel_rfl)) (by decide) (fun K hK => ?_)
   refine j5 Try.func66 (by kernel_rfl) rfl #[.string a0_6] (by rfl) rfl rfl (by (try simp only [List.map_toArray, List.map_cons, List.map_nil]); first | done | rfl | (simp only [List.length_drop, List.length_take]; rfl)) ?_
   with_reducible refine (uz.calls k a0_6 t177 _ A18.out).mono ?_
   rintro e w34 ⟨rfl, hb⟩
   refine ⟨_, rfl, ?_⟩
   have n0_ := Aside0.mk (Kd.jl (by (with_reducible repeat (first | apply Kd.uh | apply Kd.ui | apply Kd.uk)); exact HO170.out) hb)
   have n1_ := Aside0.mk (Kd.jl (by (with_reducible repeat (first | apply Kd.uh | apply Kd.ui | apply Kd.uk)); exact HO180.out) hb)
   have n2_ := Aside0.mk (zt (by (with_reducible repeat (first | refine ze ?_ _ | refine zf ?_ | refine zc ?_ _)); exact BK167.out) hb)
   have n3_ := Aside0.mk (zj (by repeat (first | (with_reducible first | exact HB.out | apply z8 | apply z6 | apply z7 | refine zb ?_ GE167.out) | exact HB.out)) hb)
   clear HO170
   clear HO180
   clear BK167
   clear HB
   have HO170 := n0_
   have HO180 := n1_
   have BK167 := n2_
   have HB := n3_
   clear n0_ n1_ n2_ n3_
   (try clear hb)
   (try clear hb2)
   (try clear hk)
   (try clear hi)
   refine hK.out _ _ ⟨(za BK167.out 0).trans rfl, (za BK167.out 1).trans rfl, (za BK167.out 2).trans rfl, (za BK167.out 3).trans rfl, (za BK167.out 4).trans rfl, (za BK167.out 5).trans rfl, (za BK167.out 6).trans rfl, (za BK167.out 7).trans rfl, (za BK167.out 8).trans rfl, (za BK167.out 9).trans rfl, (za BK167.out 10).trans rfl⟩ (fun hHeld => ?_)
   clear hK K
   refine um (a' := ?_) ?_ ?_
   rotate_left
   ·
    show Act.put _ (some 33) _ = _
    simp only [Act.put, List.setIfInBounds_toArray, List.set_cons_zero, List.set_cons_succ, vw, ud]
    rfl
   refine gz 7 34 z5h (zo HT_.out (by kernel_rfl)) ?_
   exact um (by simp only [putAll, Act.put, List.setIfInBounds_toArray, List.set_cons_zero, List.set_cons_succ]) (hCont (v179) _ ⟨hHeld, (by (with_reducible repeat (first | apply Kd.uh | apply Kd.ui | apply Kd.uk)); exact Kd.jj HO170.out (fun _ hk => hk.2)), (by (with_reducible repeat (first | apply Kd.uh | apply Kd.ui | apply Kd.uk)); exact Kd.jj HO180.out (fun _ hk => hk.2)), (by (with_reducible repeat (first | refine ze ?_ _ | refine zf ?_ | refine zc ?_ _)); exact BK167.out), (by repeat (first | (with_reducible first | exact HB.out | apply z8 | apply z6 | apply z7 | refine zb ?_ GE167.out) | exact HB.out))⟩)
  skip
  refine Kd.z1d (Kd.int .i64) _ 3 ?hg (N := 38) ?hd (xs := ([(l0_7.length : Int)] : List Int)) (inner := [.int .i64 (l0_7.length : Int)]) (ok := fun _ => True) (okp := fun _ => True) ?hr ?hp (fun _ hk => hk) trivial (Below.refl _ _) (Nat.le_refl _) (by simp) ?_; (case hd => rfl); (case hg => rfl); (case hr => first | (go_simp; done) | (go_simp; rfl)); (case hp => exact (Reps.one (show Kd.M (Kd.int .i64) _ _ _ (l0_7.length : Int) [.int .i64 (l0_7.length : Int)] from rfl) (Reps.none _ _)))
  intro v179 w31 ho32 hb hg_ hnew_
  clear hg_ hnew_
  (first | rw [← Ny178.out] at ho32 | (simp only [Int.reduceToNat] at ho32; rw [← Ny178.out] at ho32))
  have n0_ := Aside0.mk (Kd.z1i (by (with_reducible repeat (first | apply Kd.uh | apply Kd.ui | apply Kd.uk)); exact HO170.out) (Kd.z1v ho32) hb)
  have n1_ := Aside0.mk (Kd.z00 (Kd.z2i ho32 (Kd.z5m (by (with_reducible repeat (first | apply Kd.uh | apply Kd.ui | apply Kd.uk)); exact HO170.out))) (zk (by repeat (first | (with_reducible first | exact HB.out | apply z8 | apply z6 | apply z7 | refine zb ?_ GE167.out) | exact HB.out))))
  have n2_ := Aside0.mk (zt (by (with_reducible repeat (first | refine ze ?_ _ | refine zf ?_ | refine zc ?_ _)); exact BK167.out) hb)
  have n3_ := Aside0.mk (zj (by repeat (first | (with_reducible first | exact HB.out | apply z8 | apply z6 | apply z7 | refine zb ?_ GE167.out) | exact HB.out)) hb)
  clear HO170
  clear BK167
  clear HB
  have HO170 := n0_
  have HO180 := n1_
  have BK167 := n2_
  have HB := n3_
  clear n0_ n1_ n2_ n3_
  clear hb ho32
  refine hK.out _ _ ⟨(za BK167.out 0).trans rfl, (za BK167.out 1).trans rfl, (za BK167.out 2).trans rfl, (za BK167.out 3).trans rfl, (za BK167.out 4).trans rfl, (za BK167.out 5).trans rfl, (za BK167.out 6).trans rfl, (za BK167.out 7).trans rfl, (za BK167.out 8).trans rfl, (za BK167.out 9).trans rfl, (za BK167.out 10).trans rfl⟩ (fun hHeld => ?_)
  clear hK K
  refine um (a' := ?_) ?_ ?_
  rotate_left
  ·
   show Act.put _ (some 38) _ = _
   simp only [Act.put, List.setIfInBounds_toArray, List.set_cons_zero, List.set_cons_succ, vw, ud]
   rfl
  refine ul (i := 3) (N := some 30) z8x rfl rfl (vn HT_.out (by kernel_rfl)) (by decide) (fun K hK => ?_)
  refine j5 Try.func65 (by kernel_rfl) rfl #[.agg #[.int .i64 a0_3, .int .i64 a0_4, .int .i64 a0_5]] (by rfl) rfl rfl (by (try simp only [List.map_toArray, List.map_cons, List.map_nil]); first | done | rfl | (simp only [List.length_drop, List.length_take]; rfl)) ?_
  with_reducible refine (ja.calls k a0_3 a0_4 a0_5 t176 _ A17.out).mono ?_
  rintro e w33 ⟨rfl, hb⟩
  refine ⟨_, rfl, ?_⟩
  have n0_ := Aside0.mk (Kd.jl (by (with_reducible repeat (first | apply Kd.uh | apply Kd.ui | apply Kd.uk)); exact HO170.out) hb)
  have n1_ := Aside0.mk (Kd.jl (by (with_reducible repeat (first | apply Kd.uh | apply Kd.ui | apply Kd.uk)); exact HO180.out) hb)
  have n2_ := Aside0.mk (zt (by (with_reducible repeat (first | refine ze ?_ _ | refine zf ?_ | refine zc ?_ _)); exact BK167.out) hb)
  have n3_ := Aside0.mk (zj (by repeat (first | (with_reducible first | exact HB.out | apply z8 | apply z6 | apply z7 | refine zb ?_ GE167.out) | exact HB.out)) hb)
  clear HO170
  clear HO180
  clear BK167
  clear HB
  have HO170 := n0_
  have HO180 := n1_
  have BK167 := n2_
  have HB := n3_
  clear n0_ n1_ n2_ n3_
  (try clear hb)
  (try clear hb2)
  (try clear hk)
  (try clear hi)
  refine hK.out _ _ ⟨(za BK167.out 0).trans rfl, (za BK167.out 1).trans rfl, (za BK167.out 2).trans rfl, (za BK167.out 3).trans rfl, (za BK167.out 4).trans rfl, (za BK167.out 5).trans rfl, (za BK167.out 6).trans rfl, (za BK167.out 7).trans rfl, (za BK167.out 8).trans rfl, (za BK167.out 9).trans rfl, (za BK167.out 10).trans rfl⟩ (fun hHeld => ?_)
  clear hK K
  refine um (a' := ?_) ?_ ?_
  rotate_left
  ·
   show Act.put _ (some 30) _ = _
   simp only [Act.put, List.setIfInBounds_toArray, List.set_cons_zero, List.set_cons_succ, vw, ud]
   rfl
  refine ul (i := 6) (N := some 33) z8y rfl rfl (vn HT_.out (by kernel_rfl)) (by decide) (fun K hK => ?_)
  refine j5 Try.func66 (by kernel_rfl) rfl #[.string a0_6] (by rfl) rfl rfl (by (try simp only [List.map_toArray, List.map_cons, List.map_nil]); first | done | rfl | (simp only [List.length_drop, List.length_take]; rfl)) ?_
  with_reducible refine (uz.calls k a0_6 t177 _ A18.out).mono ?_
  rintro e w34 ⟨rfl, hb⟩
  refine ⟨_, rfl, ?_⟩
  have n0_ := Aside0.mk (Kd.jl (by (with_reducible repeat (first | apply Kd.uh | apply Kd.ui | apply Kd.uk)); exact HO170.out) hb)
  have n1_ := Aside0.mk (Kd.jl (by (with_reducible repeat (first | apply Kd.uh | apply Kd.ui | apply Kd.uk)); exact HO180.out) hb)
  have n2_ := Aside0.mk (zt (by (with_reducible repeat (first | refine ze ?_ _ | refine zf ?_ | refine zc ?_ _)); exact BK167.out) hb)
  have n3_ := Aside0.mk (zj (by repeat (first | (with_reducible first | exact HB.out | apply z8 | apply z6 | apply z7 | refine zb ?_ GE167.out) | exact HB.out)) hb)
  clear HO170
  clear HO180
  clear BK167
  clear HB
  have HO170 := n0_
  have HO180 := n1_
  have BK167 := n2_
  have HB := n3_
  clear n0_ n1_ n2_ n3_
  (try clear hb)
  (try clear hb2)
  (try clear hk)
  (try clear hi)
  refine hK.out _ _ ⟨(za BK167.out 0).trans rfl, (za BK167.out 1).trans rfl, (za BK167.out 2).trans rfl, (za BK167.out 3).trans rfl, (za BK167.out 4).trans rfl, (za BK167.out 5).trans rfl, (za BK167.out 6).trans rfl, (za BK167.out 7).trans rfl, (za BK167.out 8).trans rfl, (za BK167.out 9).trans rfl, (za BK167.out 10).trans rfl⟩ (fun hHeld => ?_)
  clear hK K
  refine um (a' := ?_) ?_ ?_
  rotate_left
  ·
   show Act.put _ (some 33) _ = _
   simp only [Act.put, List.setIfInBounds_toArray, List.set_cons_zero, List.set_cons_succ, vw, ud]
   rfl
  refine gz 7 34 z5h (zo HT_.out (by kernel_rfl)) ?_
  exact um (by simp only [putAll, Act.put, List.setIfInBounds_toArray, List.set_cons_zero, List.set_cons_succ]) (hCont (v179) _ ⟨hHeld, (by (with_reducible repeat (first | apply Kd.uh | apply Kd.ui | apply Kd.uk)); exact Kd.jj HO170.out (fun _ hk => hk.2)), (by (with_reducible repeat (first | apply Kd.uh | apply Kd.ui | apply Kd.uk)); exact Kd.jj HO180.out (fun _ hk => hk.2)), (by (with_reducible repeat (first | refine ze ?_ _ | refine zf ?_ | refine zc ?_ _)); exact BK167.out), (by repeat (first | (with_reducible first | exact HB.out | apply z8 | apply z6 | apply z7 | refine zb ?_ GE167.out) | exact HB.out))⟩)
 rintro v179 w35 ⟨hS_, h0_, h1_, h2_, h3_⟩
 have n0_ : Aside0 (Kd.R (Kd.int .i64) 3 w35 w.heap.size (fun k_ => some k_ ≠ (v179 : Value).ownBlock) (.slice Ao27 y168.length co27) y168) := ⟨h0_⟩
 have n1_ : Aside0 (Kd.R (Kd.int .i64) 3 w35 w.heap.size (fun k_ => some k_ ≠ (.slice Ao27 y168.length co27 : Value).ownBlock) v179 y178) := ⟨h1_⟩
 have n2_ : Aside0 (w35.heap[gb167]? = some (.cells #[.int .i64 a0_0, .int .i64 a0_1, .int .i64 a0_2, .int .i64 a0_3, .int .i64 a0_4, .int .i64 a0_5, .string a0_6, .slice A0_7 l0_7.length c0_7, .int .i64 a0_8, .int .i64 a0_9, .int .i64 a0_10] 38 (0, 0))) := ⟨h2_⟩
 have n3_ : Aside0 (Below w.heap.size w w35) := ⟨h3_⟩
 clear HO170
 clear BK167
 clear HB
 clear h0_ h1_ h2_ h3_
 have HO170 := n0_
 have HO180 := n1_
 have BK167 := n2_
 have HB := n3_
 clear n0_ n1_ n2_ n3_
 have hHeld : w35.cell? ⟨gb167, 0, none⟩ = some (.int .i64 a0_0) ∧ w35.cell? ⟨gb167, 1, none⟩ = some (.int .i64 a0_1) ∧ w35.cell? ⟨gb167, 2, none⟩ = some (.int .i64 a0_2) ∧ w35.cell? ⟨gb167, 3, none⟩ = some (.int .i64 a0_3) ∧ w35.cell? ⟨gb167, 4, none⟩ = some (.int .i64 a0_4) ∧ w35.cell? ⟨gb167, 5, none⟩ = some (.int .i64 a0_5) ∧ w35.cell? ⟨gb167, 6, none⟩ = some (.string a0_6) ∧ w35.cell? ⟨gb167, 7, none⟩ = some (.slice A0_7 l0_7.length c0_7) ∧ w35.cell? ⟨gb167, 8, none⟩ = some (.int .i64 a0_8) ∧ w35.cell? ⟨gb167, 9, none⟩ = some (.int .i64 a0_9) ∧ w35.cell? ⟨gb167, 10, none⟩ = some (.int .i64 a0_10) := hS_
 obtain ⟨Ao36, co36, eo36⟩ := Kd.z01 HO180.out
 (first | subst eo36 | (injection eo36 with f1_ f2_ f3_; have f4_ := f1_.symm; have f5_ := f3_.symm; clear f1_ f2_ f3_; subst f4_; subst f5_))
 refine um (a' := ?_) ?_ ?_
 rotate_left
 ·
  simp only [putAll, Act.put, List.setIfInBounds_toArray, List.set_cons_zero, List.set_cons_succ]
  rfl
 refine ul (i := 12) (N := some 39) zck rfl rfl (vn HT_.out (by kernel_rfl)) (by decide) (fun K hK => ?_)
 refine j5 Try.func64 (by kernel_rfl) rfl #[.slice Ao36 y178.length co36] (by rfl) rfl rfl (by (try simp only [List.map_toArray, List.map_cons, List.map_nil]); first | done | rfl | (simp only [List.length_drop, List.length_take]; rfl)) ?_
 with_reducible refine (v6.calls k _ _ y178 t181 _ ?side1 ?side2 A20.out).mono ?_
 (case side1 => repeat (first | exact (Kd.jn HO180.out).2.2 | (with_reducible refine Kd.yo ?_ _) | (with_reducible refine Kd.yp ?_ _) | (with_reducible refine Kd.yy ?_)))
 (case side2 => exact (Kd.jn HO180.out).2.1)
 rintro e w37 ⟨rfl, hb⟩
 refine ⟨_, rfl, ?_⟩
 have n0_ := Aside0.mk (Kd.jl (by (with_reducible repeat (first | apply Kd.uh | apply Kd.ui | apply Kd.uk)); exact HO170.out) hb)
 have n1_ := Aside0.mk (Kd.jl (by (with_reducible repeat (first | apply Kd.uh | apply Kd.ui | apply Kd.uk)); exact HO180.out) hb)
 have n2_ := Aside0.mk (zt (by (with_reducible repeat (first | refine ze ?_ _ | refine zf ?_ | refine zc ?_ _)); exact BK167.out) hb)
 have n3_ := Aside0.mk (zj (by repeat (first | (with_reducible first | exact HB.out | apply z8 | apply z6 | apply z7 | refine zb ?_ GE167.out) | exact HB.out)) hb)
 clear HO170
 clear HO180
 clear BK167
 clear HB
 have HO170 := n0_
 have HO180 := n1_
 have BK167 := n2_
 have HB := n3_
 clear n0_ n1_ n2_ n3_
 (try clear hb)
 (try clear hb2)
 (try clear hk)
 (try clear hi)
 refine hK.out _ _ ⟨(za BK167.out 0).trans rfl, (za BK167.out 1).trans rfl, (za BK167.out 2).trans rfl, (za BK167.out 3).trans rfl, (za BK167.out 4).trans rfl, (za BK167.out 5).trans rfl, (za BK167.out 6).trans rfl, (za BK167.out 7).trans rfl, (za BK167.out 8).trans rfl, (za BK167.out 9).trans rfl, (za BK167.out 10).trans rfl⟩ (fun hHeld => ?_)
 clear hK K
 refine um (a' := ?_) ?_ ?_
 rotate_left
 ·
  show Act.put _ (some 39) _ = _
  simp only [Act.put, List.setIfInBounds_toArray, List.set_cons_zero, List.set_cons_succ, vw, ud]
  rfl
 refine gz 13 40 zcl (zo HT_.out (by kernel_rfl)) ?_
 refine gz 14 41 zcm (zo HT_.out (by kernel_rfl)) ?_
 refine pq_ 15 3 zcn (zo HT_.out (by kernel_rfl)) ?_
 refine ju (j9 HT_.out (by kernel_rfl)) ?_
 have hcz38_0 := yq BK167.out
 have hfz38_0 := fun j_ => zi BK167.out j_
 try go_wp2
 go_loopg [3, 45] k (fun kq v3 v45 w' => ∃ (x3_1 : ByteArray) (x45_1 : Int), v3 = .string x3_1 ∧ v45 = .int .i64 x45_1 ∧ Aside0 (vk.l0 kq x3_1 l0_7 (l0_7.length : Int) x45_1 = some r) ∧ Aside0 (kq ≤ k) ∧ Aside0 (w'.heap[gb167]? = some (.cells #[.int .i64 a0_0, .int .i64 a0_1, .int .i64 a0_2, .int .i64 a0_3, .int .i64 a0_4, .int .i64 a0_5, .string a0_6, (.slice A0_7 l0_7.length c0_7), .int .i64 a0_8, .int .i64 a0_9, .int .i64 a0_10] 38 (0, 0))) ∧ Aside0 (Below w.heap.size w w'))
 case atStart => exact ⟨(t171 ++ ((t176 ++ t177) ++ t181)), (0), (by first | rfl | (simp; done) | (simp [*]; done)), (by first | rfl | (simp; done) | (simp [*]; done)), H', ⟨Nat.le_refl _⟩, ⟨by (with_reducible repeat (first | refine ze ?_ _ | refine zf ?_ | refine zc ?_ _)); exact BK167.out⟩, ⟨by repeat (first | (with_reducible first | exact HB.out | apply z8 | apply z6 | apply z7 | refine zb ?_ GE167.out) | exact HB.out)⟩⟩
 clear H'
 try clear c1
 try clear c2
 try clear p2
 try clear c3
 try clear c3b0
 try clear c3b1
 try clear c5
 try clear c5b0
 try clear c5b1
 try clear c5b2
 try clear c6
 try clear c11
 try clear c19
 try clear c19b0
 try clear c19b1
 try clear c19b2
 try clear c21
 try clear c21b0
 try clear c21b1
 try clear c21b2
 try clear c22
 try clear c22b0
 try clear c22b1
 try clear c22b2
 try clear hcz12_0
 try clear hcz24_0
 try clear hcz29_0
 try clear hcz38_0
 try clear hcz7_0
 try clear hfz12_0
 try clear hfz24_0
 try clear hfz29_0
 try clear hfz38_0
 try clear hfz7_0
 obtain ⟨x3_1, x45_1, rfl, rfl, HA, HK1, BK167, HB⟩ := hrel
 cases gk with
 | zero => exact absurd HA.out (by simp [vk.l0])
 | succ k1 =>
  have H := HA.out
  clear HA
  simp only [vk.l0] at H
  by_cases c39 : x45_1 < (l0_7.length : Int)
  rotate_left
  ·
   rw [if_neg c39] at H
   have c39b0 : decide (x45_1 < (l0_7.length : Int)) = false := decide_eq_false c39
   clear c39
   obtain rfl := Option.some.inj H
   go_wp2
   go_ret
   exact ⟨by first | rfl | (simp [zm, zn] <;> rfl) | (simp [*, zm, zn] <;> rfl), by repeat (first | (with_reducible first | exact HB.out | apply z8 | apply z6 | apply z7 | refine zb ?_ GE167.out) | exact HB.out)⟩
  rw [if_pos c39] at H
  have c39b0 : decide (x45_1 < (l0_7.length : Int)) = true := decide_eq_true c39
  clear c39
  by_cases c40 : 0 ≤ x45_1
  rotate_left
  ·
   rw [if_neg c40] at H
   exact absurd H (by simp)
  rw [if_pos c40] at H
  have c40b0 : decide (0 ≤ x45_1) = true := decide_eq_true c40
  clear c40
  by_cases c41 : x45_1 < (l0_7.length : Int)
  rotate_left
  ·
   rw [if_neg c41] at H
   exact absurd H (by simp)
  rw [if_pos c41] at H
  have c41b0 : decide (x45_1 < (l0_7.length : Int)) = true := decide_eq_true c41
  clear c41
  replace H := Option.bind_eq_some_iff.mp H
  obtain ⟨t184, A420, H⟩ := H
  replace H : (if x3_1.size + t184.size ≤ 9223372036854775807 then (vk.l0 k1 (x3_1 ++ t184) l0_7 (l0_7.length : Int) (wrap64 (x45_1 + 1))) else (none)) = some r := H
  have A42 := Aside0.mk A420
  clear A420
  by_cases c43 : x3_1.size + t184.size ≤ 9223372036854775807
  rotate_left
  ·
   rw [if_neg c43] at H
   exact absurd H (by simp)
  rw [if_pos c43] at H
  have c43b0 := eq_true c43
  have c43b1 : decide (x3_1.size + t184.size ≤ 9223372036854775807) = true := decide_eq_true c43
  try have c43b2 : (9223372036854775807 < x3_1.size + t184.size) = False := eq_false (Nat.not_lt.2 c43)
  have H' := Aside0.mk H
  clear H
  have p182 : 0 ≤ (x45_1 : Int) := of_decide_eq_true (by first | (with_reducible assumption) | assumption)
  have q182 : x45_1 < (l0_7.length : Int) := of_decide_eq_true (by first | (with_reducible assumption) | assumption)
  obtain ⟨ad182, e182, hx182_0, hx182_1, hx182_2⟩ := z1j HR0_7.out x45_1 p182 q182
  cases e182
  replace hx182_0 := (HB.out.cell (World.block_lt_of_cell? w _ hx182_0)).trans hx182_0
  replace hx182_1 := (HB.out.cell (World.block_lt_of_cell? w _ hx182_1)).trans hx182_1
  replace hx182_2 := (HB.out.cell (World.block_lt_of_cell? w _ hx182_2)).trans hx182_2
  replace p182 := eq_true p182
  replace q182 := eq_true q182
  go_wp2_with (first | ((with_reducible refine yf (N := 5) rfl ?_); refine yd ?hg (N := 5) ?hd (cs := #[.int .i64 0, .int .i64 0, .int .i64 0]) (t := 36) ?hr ?_; (case hd => rfl); (case hg => rfl); (case hr => first | (go_simp; done) | (go_simp; rfl)); intro gb183 hg w44 hbox hb; have n0_ := Aside0.mk (zt (by (with_reducible repeat (first | refine ze ?_ _ | refine zf ?_ | refine zc ?_ _)); exact BK167.out) hb); have n1_ := Aside0.mk (zj (by repeat (first | (with_reducible first | exact HB.out | apply z8 | apply z6 | apply z7 | refine zb ?_ GE167.out) | exact HB.out)) hb); have n2_ := Aside0.mk (hbox); have n3_ := Aside0.mk ((by rw [hg]; exact (zk (by repeat (first | (with_reducible first | exact HB.out | apply z8 | apply z6 | apply z7 | refine zb ?_ GE167.out) | exact HB.out))) : w.heap.size ≤ gb183)); have n4_ := Aside0.mk ((by rw [hg]; exact (zk (by repeat (first | (with_reducible first | exact HB.out | apply z8 | apply z6 | apply z7 | refine zb ?_ GE167.out) | exact HB.out))) : w.heap.size ≤ gb183)); have n5_ := Aside0.mk ((by rw [hg]; exact Nat.ne_of_lt (vo (g := gb167) (o := .cells #[.int .i64 a0_0, .int .i64 a0_1, .int .i64 a0_2, .int .i64 a0_3, .int .i64 a0_4, .int .i64 a0_5, .string a0_6, .slice (some ad182) l0_7.length c0_7, .int .i64 a0_8, .int .i64 a0_9, .int .i64 a0_10] 38 (0, 0)) (by (with_reducible repeat (first | refine ze ?_ _ | refine zf ?_ | refine zc ?_ _)); exact BK167.out)) : gb167 ≠ gb183)); have n6_ := Aside0.mk ((by rw [hg]; exact Nat.ne_of_gt (vo (g := gb167) (o := .cells #[.int .i64 a0_0, .int .i64 a0_1, .int .i64 a0_2, .int .i64 a0_3, .int .i64 a0_4, .int .i64 a0_5, .string a0_6, .slice (some ad182) l0_7.length c0_7, .int .i64 a0_8, .int .i64 a0_9, .int .i64 a0_10] 38 (0, 0)) (by (with_reducible repeat (first | refine ze ?_ _ | refine zf ?_ | refine zc ?_ _)); exact BK167.out)) : gb183 ≠ gb167)); clear BK167; clear HB; have BK167 := n0_; have HB := n1_; have BK183 := n2_; have GW183 := n3_; have GE183 := n4_; have NB167_183 := n5_; have NB183_167 := n6_; clear n0_ n1_ n2_ n3_ n4_ n5_ n6_; clear hb hbox hg; have hnb45 := NB183_167.out; have hnc45 := NB167_183.out; have hcz46_0 := z0g BK183.out; have hfz46_0 := fun j_ => zi BK183.out j_) | ((with_reducible refine zu (f := 65) rfl ?_); refine yn (some 51) rfl rfl Try.func65 (by kernel_rfl) rfl #[.agg #[.int .i64 ((zr l0_7 x45_1).f0), .int .i64 ((zr l0_7 x45_1).f1), .int .i64 ((zr l0_7 x45_1).f2)]] rfl (by (try simp only [List.map_toArray, List.map_cons, List.map_nil]); first | done | rfl | (simp only [List.length_drop, List.length_take]; rfl)) ?_; (with_reducible refine (ja.calls k1 ((zr l0_7 x45_1).f0) ((zr l0_7 x45_1).f1) ((zr l0_7 x45_1).f2) t184 _ A42.out).mono ?_); rintro e w47 ⟨rfl, hb⟩; refine ⟨_, rfl, ?_⟩; have n0_ := Aside0.mk (zt (g := gb167) (o := .cells #[.int .i64 a0_0, .int .i64 a0_1, .int .i64 a0_2, .int .i64 a0_3, .int .i64 a0_4, .int .i64 a0_5, .string a0_6, .slice (some ad182) l0_7.length c0_7, .int .i64 a0_8, .int .i64 a0_9, .int .i64 a0_10] 38 (0, 0)) (by (with_reducible repeat (first | refine ze ?_ _ | refine zf ?_ | refine zc ?_ _)); refine zp ?_ NB167_183.out _; (with_reducible repeat (first | refine ze ?_ _ | refine zf ?_ | refine zc ?_ _)); refine zp ?_ NB167_183.out _; (with_reducible repeat (first | refine ze ?_ _ | refine zf ?_ | refine zc ?_ _)); refine zp ?_ NB167_183.out _; (with_reducible repeat (first | refine ze ?_ _ | refine zf ?_ | refine zc ?_ _)); exact BK167.out) hb); have n1_ := Aside0.mk (zt (g := gb183) (o := .cells #[.int .i64 ((zr l0_7 x45_1).f0), .int .i64 ((zr l0_7 x45_1).f1), .int .i64 ((zr l0_7 x45_1).f2)] 36 (0, 0)) (by (with_reducible repeat (first | refine ze ?_ _ | refine zf ?_ | refine zc ?_ _)); refine zx (cs := #[.int .i64 ((zr l0_7 x45_1).f0), .int .i64 ((zr l0_7 x45_1).f1), .int .i64 0]) ?_ 2 _ rfl; (with_reducible repeat (first | refine ze ?_ _ | refine zf ?_ | refine zc ?_ _)); refine zx (cs := #[.int .i64 ((zr l0_7 x45_1).f0), .int .i64 0, .int .i64 0]) ?_ 1 _ rfl; (with_reducible repeat (first | refine ze ?_ _ | refine zf ?_ | refine zc ?_ _)); refine zx (cs := #[.int .i64 0, .int .i64 0, .int .i64 0]) ?_ 0 _ rfl; (with_reducible repeat (first | refine ze ?_ _ | refine zf ?_ | refine zc ?_ _)); exact BK183.out) hb); have n2_ := Aside0.mk (zj (by repeat (first | (with_reducible first | exact HB.out | apply z8 | apply z6 | apply z7 | refine zb ?_ GE167.out | refine zb ?_ GE183.out) | exact HB.out)) hb); clear BK167; clear BK183; clear HB; have BK167 := n0_; have BK183 := n1_; have HB := n2_; clear n0_ n1_ n2_; (try clear hb); (try clear hb2); (try clear hk); (try clear hi)))
  go_roundg k1
  case measure => have := HK1.out; omega
  case rel => exact ⟨(x3_1 ++ t184), (wrap64 (x45_1 + 1)), (by first | rfl | (simp; done) | (simp [*]; done)), (by first | rfl | (simp; done) | (simp [*]; done)), H', ⟨by have := HK1.out; omega⟩, ⟨by (with_reducible repeat (first | refine ze ?_ _ | refine zf ?_ | refine zc ?_ _)); exact BK167.out⟩, ⟨by repeat (first | (with_reducible first | exact HB.out | apply z8 | apply z6 | apply z7 | refine zb ?_ GE167.out | refine zb ?_ GE183.out) | exact HB.out)⟩⟩
def jm.f (k : Nat) (a0_0 : Int) (a0_1 : Int) (a0_2 : Int) (a0_3 : Int) (a0_4 : Int) (a0_5 : Int) (a0_6 : ByteArray) (l0_7 : List (S36)) (a0_8 : Int) (a0_9 : Int) (a0_10 : Int) : Option (ByteArray × Int) := (je.f k a0_0 a0_1 a0_2 a0_3 a0_4 a0_5 a0_6 l0_7 a0_8 a0_9 a0_10).bind fun t186 => (if t186 = true then ((vk.f k a0_0 a0_1 a0_2 a0_3 a0_4 a0_5 a0_6 l0_7 a0_8 a0_9 a0_10).bind fun t187 => (some (t187, 0))) else (some ((⟨#[]⟩ : ByteArray), 1)))
theorem jm.mono : ∀ a0 a1 a2 a3 a4 a5 a6 a7 a8 a9 a10 k, LeO (jm.f k a0 a1 a2 a3 a4 a5 a6 a7 a8 a9 a10) (jm.f (k + 1) a0 a1 a2 a3 a4 a5 a6 a7 a8 a9 a10) := by
  intro a0 a1 a2 a3 a4 a5 a6 a7 a8 a9 a10 k
  unfold jm.f
  repeat' first
      | (with_reducible exact je.mono _ _ _ _ _ _ _ _ _ _ _ _)
      | (with_reducible exact vk.mono _ _ _ _ _ _ _ _ _ _ _ _)
      | (with_reducible exact LeO.refl _)
      | (with_reducible exact LeO.none _)
      | (with_reducible refine LeO.ite ?_ ?_)
      | (with_reducible refine LeO.bind ?_ (fun _ => ?_))
      | exact je.mono _ _ _ _ _ _ _ _ _ _ _ _
      | exact vk.mono _ _ _ _ _ _ _ _ _ _ _ _
      | exact LeO.none _
      | refine LeO.ite ?_ ?_
      | refine LeO.bind ?_ (fun _ => ?_)
set_option maxHeartbeats 8000000 in
set_option maxRecDepth 100000 in
theorem jm.calls (k : Nat) (a0_0 : Int) (a0_1 : Int) (a0_2 : Int) (a0_3 : Int) (a0_4 : Int) (a0_5 : Int) (a0_6 : ByteArray) (A0_7 : Option Addr) (c0_7 : Nat) (l0_7 : List (S36)) (a0_8 : Int) (a0_9 : Int) (a0_10 : Int) (r1 : ByteArray) (r2 : Int) (w : World) (hr0_7 : Kd.C k36 w A0_7 l0_7.length l0_7) (hc0_7 : l0_7.length ≤ c0_7) (h : jm.f k a0_0 a0_1 a0_2 a0_3 a0_4 a0_5 a0_6 l0_7 a0_8 a0_9 a0_10 = some (r1, r2)) :
  Calls Try.prog 7 #[.agg #[.int .i64 a0_0, .int .i64 a0_1, .int .i64 a0_2, .int .i64 a0_3, .int .i64 a0_4, .int .i64 a0_5, .string a0_6, .slice A0_7 l0_7.length c0_7, .int .i64 a0_8, .int .i64 a0_9, .int .i64 a0_10]] w fun e w' => e = .returned (.tuple #[.string r1, .int .i64 r2]) ∧ Below w.heap.size w w' := by
 have hu38 := Try.underlying38
 have HR0_7 := Aside0.mk hr0_7
 have HC0_7 := Aside0.mk hc0_7
 clear hr0_7 hc0_7
 have HB := Aside0.mk (Below.refl w.heap.size w)
 have H : ((je.f k a0_0 a0_1 a0_2 a0_3 a0_4 a0_5 a0_6 l0_7 a0_8 a0_9 a0_10).bind fun t186 => (if t186 = true then ((vk.f k a0_0 a0_1 a0_2 a0_3 a0_4 a0_5 a0_6 l0_7 a0_8 a0_9 a0_10).bind fun t187 => (some (t187, 0))) else (some ((⟨#[]⟩ : ByteArray), 1)))) = some (r1, r2) := h
 clear h
 replace H := Option.bind_eq_some_iff.mp H
 obtain ⟨t186, A20, H⟩ := H
 replace H : (if t186 = true then ((vk.f k a0_0 a0_1 a0_2 a0_3 a0_4 a0_5 a0_6 l0_7 a0_8 a0_9 a0_10).bind fun t187 => (some (t187, 0))) else (some ((⟨#[]⟩ : ByteArray), 1))) = some (r1, r2) := H
 have A2 := Aside0.mk A20
 clear A20
 by_cases c3 : t186 = true
 rotate_left
 ·
  replace c3 := Bool.eq_false_iff.mpr c3
  subst c3
  have H1 : (some ((⟨#[]⟩ : ByteArray), 1)) = some (r1, r2) := by rw [if_neg (show ¬ (false = true) by decide)] at H; exact H
  clear H
  have H := H1
  clear H1
  simp only [Option.some.injEq, Prod.mk.injEq] at H
  obtain ⟨rfl, rfl⟩ := H
  go_enter Try.func7, Try.ntmps7
  go_wp2_with (first | ((with_reducible refine yf (N := 1) rfl ?_); refine yd ?hg (N := 1) ?hd (cs := #[.int .i64 a0_0, .int .i64 a0_1, .int .i64 a0_2, .int .i64 a0_3, .int .i64 a0_4, .int .i64 a0_5, .string a0_6, .slice A0_7 l0_7.length c0_7, .int .i64 a0_8, .int .i64 a0_9, .int .i64 a0_10]) (t := 38) ?hr ?_; (case hd => rfl); (case hg => rfl); (case hr => first | (go_simp; done) | (go_simp; rfl)); intro gb185 hg w10 hbox hb; have n0_ := Aside0.mk (zj (by repeat (first | (with_reducible first | exact HB.out | apply z8 | apply z6 | apply z7) | exact HB.out)) hb); have n1_ := Aside0.mk (hbox); have n2_ := Aside0.mk ((by rw [hg]; exact (zk (by repeat (first | (with_reducible first | exact HB.out | apply z8 | apply z6 | apply z7) | exact HB.out))) : w.heap.size ≤ gb185)); have n3_ := Aside0.mk ((by rw [hg]; exact (zk (by repeat (first | (with_reducible first | exact HB.out | apply z8 | apply z6 | apply z7) | exact HB.out))) : w.heap.size ≤ gb185)); clear HB; have HB := n0_; have BK185 := n1_; have GW185 := n2_; have GE185 := n3_; clear n0_ n1_ n2_ n3_; clear hb hbox hg; have hcz11_0 := yq BK185.out; have hfz11_0 := fun j_ => zi BK185.out j_) | ((with_reducible refine zu (f := 38) rfl ?_); refine yn (some 5) rfl rfl Try.func38 (by kernel_rfl) rfl #[.agg #[.int .i64 a0_0, .int .i64 a0_1, .int .i64 a0_2, .int .i64 a0_3, .int .i64 a0_4, .int .i64 a0_5, .string a0_6, .slice A0_7 l0_7.length c0_7, .int .i64 a0_8, .int .i64 a0_9, .int .i64 a0_10]] rfl (by (try simp only [List.map_toArray, List.map_cons, List.map_nil]); first | done | rfl | (simp only [List.length_drop, List.length_take]; rfl)) ?_; (with_reducible refine (je.calls k a0_0 a0_1 a0_2 a0_3 a0_4 a0_5 a0_6 _ _ l0_7 a0_8 a0_9 a0_10 false _ ?side1 ?side2 A2.out).mono ?_); (case side1 => repeat (first | exact (Kd.yt HR0_7.out HB.out) | (with_reducible refine Kd.yo ?_ _) | (with_reducible refine Kd.yp ?_ _) | (with_reducible refine Kd.yy ?_))); (case side2 => exact HC0_7.out); rintro e w12 ⟨rfl, hb⟩; refine ⟨_, rfl, ?_⟩; have n0_ := Aside0.mk (zt (by (with_reducible repeat (first | refine ze ?_ _ | refine zf ?_ | refine zc ?_ _)); exact BK185.out) hb); have n1_ := Aside0.mk (zj (by repeat (first | (with_reducible first | exact HB.out | apply z8 | apply z6 | apply z7 | refine zb ?_ GE185.out) | exact HB.out)) hb); clear BK185; clear HB; have BK185 := n0_; have HB := n1_; clear n0_ n1_; (try clear hb); (try clear hb2); (try clear hk); (try clear hi)))
  go_ret2
  exact ⟨by first | rfl | (simp [zm, zn] <;> rfl) | (simp [*, zm, zn] <;> rfl), by repeat (first | (with_reducible first | exact HB.out | apply z8 | apply z6 | apply z7 | refine zb ?_ GE185.out) | exact HB.out)⟩
 subst c3
 have H1 : ((vk.f k a0_0 a0_1 a0_2 a0_3 a0_4 a0_5 a0_6 l0_7 a0_8 a0_9 a0_10).bind fun t187 => (some (t187, 0))) = some (r1, r2) := by rw [if_pos rfl] at H; exact H
 clear H
 have H := H1
 clear H1
 replace H := Option.bind_eq_some_iff.mp H
 obtain ⟨t187, A40, H⟩ := H
 replace H : (some (t187, 0)) = some (r1, r2) := H
 have A4 := Aside0.mk A40
 clear A40
 simp only [Option.some.injEq, Prod.mk.injEq] at H
 obtain ⟨rfl, rfl⟩ := H
 go_enter Try.func7, Try.ntmps7
 go_wp2_with (first | ((with_reducible refine yf (N := 1) rfl ?_); refine yd ?hg (N := 1) ?hd (cs := #[.int .i64 a0_0, .int .i64 a0_1, .int .i64 a0_2, .int .i64 a0_3, .int .i64 a0_4, .int .i64 a0_5, .string a0_6, .slice A0_7 l0_7.length c0_7, .int .i64 a0_8, .int .i64 a0_9, .int .i64 a0_10]) (t := 38) ?hr ?_; (case hd => rfl); (case hg => rfl); (case hr => first | (go_simp; done) | (go_simp; rfl)); intro gb185 hg w5 hbox hb; have n0_ := Aside0.mk (zj (by repeat (first | (with_reducible first | exact HB.out | apply z8 | apply z6 | apply z7) | exact HB.out)) hb); have n1_ := Aside0.mk (hbox); have n2_ := Aside0.mk ((by rw [hg]; exact (zk (by repeat (first | (with_reducible first | exact HB.out | apply z8 | apply z6 | apply z7) | exact HB.out))) : w.heap.size ≤ gb185)); have n3_ := Aside0.mk ((by rw [hg]; exact (zk (by repeat (first | (with_reducible first | exact HB.out | apply z8 | apply z6 | apply z7) | exact HB.out))) : w.heap.size ≤ gb185)); clear HB; have HB := n0_; have BK185 := n1_; have GW185 := n2_; have GE185 := n3_; clear n0_ n1_ n2_ n3_; clear hb hbox hg; have hcz6_0 := yq BK185.out; have hfz6_0 := fun j_ => zi BK185.out j_) | ((with_reducible refine zu (f := 38) rfl ?_); refine yn (some 5) rfl rfl Try.func38 (by kernel_rfl) rfl #[.agg #[.int .i64 a0_0, .int .i64 a0_1, .int .i64 a0_2, .int .i64 a0_3, .int .i64 a0_4, .int .i64 a0_5, .string a0_6, .slice A0_7 l0_7.length c0_7, .int .i64 a0_8, .int .i64 a0_9, .int .i64 a0_10]] rfl (by (try simp only [List.map_toArray, List.map_cons, List.map_nil]); first | done | rfl | (simp only [List.length_drop, List.length_take]; rfl)) ?_; (with_reducible refine (je.calls k a0_0 a0_1 a0_2 a0_3 a0_4 a0_5 a0_6 _ _ l0_7 a0_8 a0_9 a0_10 true _ ?side1 ?side2 A2.out).mono ?_); (case side1 => repeat (first | exact (Kd.yt HR0_7.out HB.out) | (with_reducible refine Kd.yo ?_ _) | (with_reducible refine Kd.yp ?_ _) | (with_reducible refine Kd.yy ?_))); (case side2 => exact HC0_7.out); rintro e w7 ⟨rfl, hb⟩; refine ⟨_, rfl, ?_⟩; have n0_ := Aside0.mk (zt (by (with_reducible repeat (first | refine ze ?_ _ | refine zf ?_ | refine zc ?_ _)); exact BK185.out) hb); have n1_ := Aside0.mk (zj (by repeat (first | (with_reducible first | exact HB.out | apply z8 | apply z6 | apply z7 | refine zb ?_ GE185.out) | exact HB.out)) hb); clear BK185; clear HB; have BK185 := n0_; have HB := n1_; clear n0_ n1_; (try clear hb); (try clear hb2); (try clear hk); (try clear hi); have hcz8_0 := yq BK185.out; have hfz8_0 := fun j_ => zi BK185.out j_) | ((with_reducible refine zu (f := 39) rfl ?_); refine yn (some 8) rfl rfl Try.func39 (by kernel_rfl) rfl #[.agg #[.int .i64 a0_0, .int .i64 a0_1, .int .i64 a0_2, .int .i64 a0_3, .int .i64 a0_4, .int .i64 a0_5, .string a0_6, .slice A0_7 l0_7.length c0_7, .int .i64 a0_8, .int .i64 a0_9, .int .i64 a0_10]] rfl (by (try simp only [List.map_toArray, List.map_cons, List.map_nil]); first | done | rfl | (simp only [List.length_drop, List.length_take]; rfl)) ?_; (with_reducible refine (vk.calls k a0_0 a0_1 a0_2 a0_3 a0_4 a0_5 a0_6 _ _ l0_7 a0_8 a0_9 a0_10 t187 _ ?side1 ?side2 A4.out).mono ?_); (case side1 => repeat (first | exact (Kd.yt HR0_7.out HB.out) | (with_reducible refine Kd.yo ?_ _) | (with_reducible refine Kd.yp ?_ _) | (with_reducible refine Kd.yy ?_))); (case side2 => exact HC0_7.out); rintro e w9 ⟨rfl, hb⟩; refine ⟨_, rfl, ?_⟩; have n0_ := Aside0.mk (zt (by (with_reducible repeat (first | refine ze ?_ _ | refine zf ?_ | refine zc ?_ _)); exact BK185.out) hb); have n1_ := Aside0.mk (zj (by repeat (first | (with_reducible first | exact HB.out | apply z8 | apply z6 | apply z7 | refine zb ?_ GE185.out) | exact HB.out)) hb); clear BK185; clear HB; have BK185 := n0_; have HB := n1_; clear n0_ n1_; (try clear hb); (try clear hb2); (try clear hk); (try clear hi)))
 go_ret2
 exact ⟨by first | rfl | (simp [zm, zn] <;> rfl) | (simp [*, zm, zn] <;> rfl), by repeat (first | (with_reducible first | exact HB.out | apply z8 | apply z6 | apply z7 | refine zb ?_ GE185.out) | exact HB.out)⟩
def zy.f (a0 : Int) : Option (Int) := some a0
set_option maxHeartbeats 8000000 in
set_option maxRecDepth 100000 in
theorem zy.calls (a0 : Int) (r : Int) (w : World) (h : zy.f a0 = some r) :
  Calls Try.prog 8 #[.int .i64 a0] w fun e w' => e = .returned (.int .i64 r) ∧ Drawn0 w w' := by
 have H : (some a0) = some r := h
 clear h
 obtain rfl := Option.some.inj H
 go_enter Try.func8, Try.ntmps8
 go_wp2
 go_ret
 exact ⟨by first | rfl | (simp; done) | (simp [*]; done), by repeat (first | exact Drawn0.refl _ | apply Drawn0.step)⟩
def jc.f (a0 : Int) : Option (Bool) := if a0 ≥ 0 then (some (decide (a0 ≤ 268435456))) else (some false)
set_option maxHeartbeats 8000000 in
set_option maxRecDepth 100000 in
theorem jc.calls (a0 : Int) (r : Bool) (w : World) (h : jc.f a0 = some r) :
  Calls Try.prog 90 #[.int .i64 a0] w fun e w' => e = .returned (.bool r) ∧ Drawn0 w w' := by
 have H : (if a0 ≥ 0 then (some (decide (a0 ≤ 268435456))) else (some false)) = some r := h
 clear h
 by_cases c2 : a0 ≥ 0
 ·
  rw [if_pos c2] at H
  have c2b0 : decide (0 ≤ a0) = true := decide_eq_true c2
  clear c2
  obtain rfl := Option.some.inj H
  go_enter Try.func90, Try.ntmps90
  go_wp2
  go_ret
  exact ⟨by first | rfl | (simp; done) | (simp [*]; done), by repeat (first | exact Drawn0.refl _ | apply Drawn0.step)⟩
 rw [if_neg c2] at H
 have c2b0 : decide (0 ≤ a0) = false := decide_eq_false c2
 clear c2
 obtain rfl := Option.some.inj H
 go_enter Try.func90, Try.ntmps90
 go_wp2
 go_ret
 exact ⟨by first | rfl | (simp; done) | (simp [*]; done), by repeat (first | exact Drawn0.refl _ | apply Drawn0.step)⟩
end Go.Proofs.Ytadfohbogoocgaa.PA
