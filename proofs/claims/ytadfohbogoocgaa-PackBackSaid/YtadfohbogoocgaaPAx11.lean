import Derived.Test.YtadfohbogoocgaaPAx0
import Derived.Test.YtadfohbogoocgaaPAx5
import Derived.Test.YtadfohbogoocgaaPAx6
import Derived.Test.YtadfohbogoocgaaPAx7
import Derived.Test.YtadfohbogoocgaaPAx8
import Derived.Test.YtadfohbogoocgaaPAx10
namespace Go.Proofs.Ytadfohbogoocgaa.PA
open Go.RowKit Go.Proofs.YtadfohbogoocgaaW.PrintWords Go.Proofs.YtadfohbogoocgaaW.PrintLast Go.Proofs.YtadfohbogoocgaaW.PrintMore Go.Proofs.YtadfohbogoocgaaX Go.Proofs.YtadfohbogoocgaaB Go.Proofs.YtadfohbogoocgaaPq
attribute [local go_sem] gi gj gx gy jr js gm gn
set_option linter.unusedVariables false
set_option linter.unusedSimpArgs false
def ue.l0 : Nat → ByteArray → List (S38) → Int → Int → Option (ByteArray)
  | 0, _, _, _, _ => none
  | k + 1, x3, x24, x25, x26 => if x26 < x25 then (if 0 ≤ x26 then (if x26 < (x24.length : Int) then ((vk.f k ((zg x24 x26).f0) ((zg x24 x26).f1) ((zg x24 x26).f2) ((zg x24 x26).f3.f0) ((zg x24 x26).f3.f1) ((zg x24 x26).f3.f2) ((zg x24 x26).f4) ((zg x24 x26).f5) ((zg x24 x26).f6) ((zg x24 x26).f7) ((zg x24 x26).f8)).bind fun t274 => (if x3.size + t274.size ≤ 9223372036854775807 then (ue.l0 k (x3 ++ t274) x24 x25 (wrap64 (x26 + 1))) else (none))) else (none)) else (none)) else (some x3)
def ue.f (k : Nat) (a0_0 : Int) (a0_1 : Int) (a0_2 : Int) (a0_3 : Int) (a0_4 : Int) (a0_5 : Int) (l0_6 : List (S38)) : Option (ByteArray) := (v6.f k (([a0_0, a0_1, a0_2, a0_3, a0_4, a0_5, (l0_6.length : Int)] : List Int))).bind fun t271 => (ue.l0 k t271 l0_6 (l0_6.length : Int) 0)
theorem ue.mono_l : ∀ k, (∀ y0 y1 y2 y3, LeO (ue.l0 k y0 y1 y2 y3) (ue.l0 (k + 1) y0 y1 y2 y3))
  | 0 => fun _ _ _ _ r h => by simp [ue.l0] at h
  | k + 1 => by
    have ih0 := ue.mono_l k
    · intro y0 y1 y2 y3
      unfold ue.l0
      repeat' first
      | (with_reducible exact ih0 _ _ _ _)
      | (with_reducible exact vk.mono _ _ _ _ _ _ _ _ _ _ _ _)
      | (with_reducible exact v6.mono _ _)
      | (with_reducible exact LeO.refl _)
      | (with_reducible exact LeO.none _)
      | (with_reducible refine LeO.ite ?_ ?_)
      | (with_reducible refine LeO.bind ?_ (fun _ => ?_))
      | exact ih0 _ _ _ _
      | exact vk.mono _ _ _ _ _ _ _ _ _ _ _ _
      | exact v6.mono _ _
      | exact LeO.none _
      | refine LeO.ite ?_ ?_
      | refine LeO.bind ?_ (fun _ => ?_)
theorem ue.mono : ∀ a0 a1 a2 a3 a4 a5 a6 k, LeO (ue.f k a0 a1 a2 a3 a4 a5 a6) (ue.f (k + 1) a0 a1 a2 a3 a4 a5 a6) := by
  intro a0 a1 a2 a3 a4 a5 a6 k
  have ih0 := ue.mono_l k
  unfold ue.f
  repeat' first
      | (with_reducible exact ih0 _ _ _ _)
      | (with_reducible exact vk.mono _ _ _ _ _ _ _ _ _ _ _ _)
      | (with_reducible exact v6.mono _ _)
      | (with_reducible exact LeO.refl _)
      | (with_reducible exact LeO.none _)
      | (with_reducible refine LeO.ite ?_ ?_)
      | (with_reducible refine LeO.bind ?_ (fun _ => ?_))
      | exact ih0 _ _ _ _
      | exact vk.mono _ _ _ _ _ _ _ _ _ _ _ _
      | exact v6.mono _ _
      | exact LeO.none _
      | refine LeO.ite ?_ ?_
      | refine LeO.bind ?_ (fun _ => ?_)
set_option maxHeartbeats 8000000 in
set_option maxRecDepth 100000 in
theorem ue.calls (k : Nat) (a0_0 : Int) (a0_1 : Int) (a0_2 : Int) (a0_3 : Int) (a0_4 : Int) (a0_5 : Int) (A0_6 : Option Addr) (c0_6 : Nat) (l0_6 : List (S38)) (r : ByteArray) (w : World) (hr0_6 : Kd.C k38 w A0_6 l0_6.length l0_6) (hc0_6 : l0_6.length ≤ c0_6) (h : ue.f k a0_0 a0_1 a0_2 a0_3 a0_4 a0_5 l0_6 = some r) :
  Calls Try.prog 43 #[.agg #[.int .i64 a0_0, .int .i64 a0_1, .int .i64 a0_2, .int .i64 a0_3, .int .i64 a0_4, .int .i64 a0_5, .slice A0_6 l0_6.length c0_6]] w fun e w' => e = .returned (.string r) ∧ Below w.heap.size w w' := by
 have hu45 := Try.underlying45
 have hu38 := Try.underlying38
 have HR0_6 := Aside0.mk hr0_6
 have HC0_6 := Aside0.mk hc0_6
 clear hr0_6 hc0_6
 have HB := Aside0.mk (Below.refl w.heap.size w)
 have H : ((v6.f k (([a0_0, a0_1, a0_2, a0_3, a0_4, a0_5, (l0_6.length : Int)] : List Int))).bind fun t271 => (ue.l0 k t271 l0_6 (l0_6.length : Int) 0)) = some r := h
 clear h
 obtain ⟨y268, hy268⟩ : ∃ y_ : List Int, y_ = (([a0_0, a0_1, a0_2, a0_3, a0_4, a0_5, (l0_6.length : Int)] : List Int)) := ⟨_, rfl⟩
 replace H : ((v6.f k y268).bind fun t271 => (ue.l0 k t271 l0_6 (l0_6.length : Int) 0)) = some r := by first | (rw [hy268]; with_reducible exact H) | (have H2_ := (Option.bind_some _ _).symm.trans H; rw [hy268]; with_reducible exact H2_) | (have H2_ := (Option.bind_some _ _).symm.trans H; with_reducible exact H2_) | with_reducible exact H | (rw [hy268]; exact H) | exact H
 have Ny268 := Aside0.mk hy268
 clear hy268
 replace H := Option.bind_eq_some_iff.mp H
 obtain ⟨t271, A20, H⟩ := H
 replace H : (ue.l0 k t271 l0_6 (l0_6.length : Int) 0) = some r := H
 have A2 := Aside0.mk A20
 clear A20
 have H' := Aside0.mk H
 clear H
 go_enter Try.func43, Try.ntmps43
 go_wp2_with (first | ((with_reducible refine yf (N := 1) rfl ?_); refine yd ?hg (N := 1) ?hd (cs := #[.int .i64 a0_0, .int .i64 a0_1, .int .i64 a0_2, .int .i64 a0_3, .int .i64 a0_4, .int .i64 a0_5, .slice A0_6 l0_6.length c0_6]) (t := 45) ?hr ?_; (case hd => rfl); (case hg => rfl); (case hr => first | (go_simp; done) | (go_simp; rfl)); intro gb267 hg w3 hbox hb; have n0_ := Aside0.mk (zj (by repeat (first | (with_reducible first | exact HB.out | apply z8 | apply z6 | apply z7) | exact HB.out)) hb); have n1_ := Aside0.mk (hbox); have n2_ := Aside0.mk ((by rw [hg]; exact (zk (by repeat (first | (with_reducible first | exact HB.out | apply z8 | apply z6 | apply z7) | exact HB.out))) : w.heap.size ≤ gb267)); have n3_ := Aside0.mk ((by rw [hg]; exact (zk (by repeat (first | (with_reducible first | exact HB.out | apply z8 | apply z6 | apply z7) | exact HB.out))) : w.heap.size ≤ gb267)); clear HB; have HB := n0_; have BK267 := n1_; have GW267 := n2_; have GE267 := n3_; clear n0_ n1_ n2_ n3_; clear hb hbox hg; have hcz4_0 := ug BK267.out; have hfz4_0 := fun j_ => zi BK267.out j_) | ((with_reducible refine yf (N := 21) rfl ?_); refine Kd.z3y (Kd.int .i64) _ 3 ?hg (N := 21) ?hd (xs := ([a0_0, a0_1, a0_2, a0_3, a0_4, a0_5, (l0_6.length : Int)] : List Int)) (inner := [.int .i64 a0_0, .int .i64 a0_1, .int .i64 a0_2, .int .i64 a0_3, .int .i64 a0_4, .int .i64 a0_5, .int .i64 (l0_6.length : Int)]) (ok := fun _ => True) (okp := fun _ => True) ?hr ?hp (fun _ hk => hk) trivial (Below.refl _ _) (Nat.le_refl _) (by simp) ?_; (case hd => rfl); (case hg => rfl); (case hr => first | (go_simp; done) | (go_simp; rfl)); (case hp => exact (Reps.one (show Kd.M (Kd.int .i64) _ _ _ a0_0 [.int .i64 a0_0] from rfl) (Reps.one (show Kd.M (Kd.int .i64) _ _ _ a0_1 [.int .i64 a0_1] from rfl) (Reps.one (show Kd.M (Kd.int .i64) _ _ _ a0_2 [.int .i64 a0_2] from rfl) (Reps.one (show Kd.M (Kd.int .i64) _ _ _ a0_3 [.int .i64 a0_3] from rfl) (Reps.one (show Kd.M (Kd.int .i64) _ _ _ a0_4 [.int .i64 a0_4] from rfl) (Reps.one (show Kd.M (Kd.int .i64) _ _ _ a0_5 [.int .i64 a0_5] from rfl) (Reps.one (show Kd.M (Kd.int .i64) _ _ _ (l0_6.length : Int) [.int .i64 (l0_6.length : Int)] from rfl) (Reps.none _ _))))))))); intro v269 w5 ho6 hb hg_ hnew_; clear hg_ hnew_; (first | rw [← Ny268.out] at ho6 | (simp only [Int.reduceToNat] at ho6; rw [← Ny268.out] at ho6)); have n0_ := Aside0.mk (Kd.z00 ho6 (zk (by repeat (first | (with_reducible first | exact HB.out | apply z8 | apply z6 | apply z7 | refine zb ?_ GE267.out) | exact HB.out)))); have n1_ := Aside0.mk (zt (by (with_reducible repeat (first | refine ze ?_ _ | refine zf ?_ | refine zc ?_ _)); exact BK267.out) hb); have n2_ := Aside0.mk (zj (by repeat (first | (with_reducible first | exact HB.out | apply z8 | apply z6 | apply z7 | refine zb ?_ GE267.out) | exact HB.out)) hb); clear BK267; clear HB; have HO270 := n0_; have BK267 := n1_; have HB := n2_; clear n0_ n1_ n2_; clear hb ho6; obtain ⟨Ao7, co7, eo7⟩ := Kd.z01 HO270.out; subst eo7) | ((with_reducible refine zu (f := 64) rfl ?_); refine yn (some 22) rfl rfl Try.func64 (by kernel_rfl) rfl #[.slice Ao7 y268.length co7] rfl (by (try simp only [List.map_toArray, List.map_cons, List.map_nil]); first | done | rfl | (simp only [List.length_drop, List.length_take]; rfl)) ?_; (with_reducible refine (v6.calls k _ _ y268 t271 _ ?side1 ?side2 A2.out).mono ?_); (case side1 => repeat (first | exact (Kd.jn HO270.out).2.2 | (with_reducible refine Kd.yo ?_ _) | (with_reducible refine Kd.yp ?_ _) | (with_reducible refine Kd.yy ?_))); (case side2 => exact (Kd.jn HO270.out).2.1); rintro e w8 ⟨rfl, hb⟩; refine ⟨_, rfl, ?_⟩; have n0_ := Aside0.mk (Kd.jl (by (with_reducible repeat (first | apply Kd.uh | apply Kd.ui | apply Kd.uk)); exact HO270.out) hb); have n1_ := Aside0.mk (zt (by (with_reducible repeat (first | refine ze ?_ _ | refine zf ?_ | refine zc ?_ _)); exact BK267.out) hb); have n2_ := Aside0.mk (zj (by repeat (first | (with_reducible first | exact HB.out | apply z8 | apply z6 | apply z7 | refine zb ?_ GE267.out) | exact HB.out)) hb); clear HO270; clear BK267; clear HB; have HO270 := n0_; have BK267 := n1_; have HB := n2_; clear n0_ n1_ n2_; (try clear hb); (try clear hb2); (try clear hk); (try clear hi); have hcz9_0 := ug BK267.out; have hfz9_0 := fun j_ => zi BK267.out j_))
 go_loopg [3, 26] k (fun kq v3 v26 w' => ∃ (x3_1 : ByteArray) (x26_1 : Int), v3 = .string x3_1 ∧ v26 = .int .i64 x26_1 ∧ Aside0 (ue.l0 kq x3_1 l0_6 (l0_6.length : Int) x26_1 = some r) ∧ Aside0 (kq ≤ k) ∧ Aside0 (w'.heap[gb267]? = some (.cells #[.int .i64 a0_0, .int .i64 a0_1, .int .i64 a0_2, .int .i64 a0_3, .int .i64 a0_4, .int .i64 a0_5, (.slice A0_6 l0_6.length c0_6)] 45 (0, 0))) ∧ Aside0 (Below w.heap.size w w'))
 case atStart => exact ⟨(t271), (0), (by first | rfl | (simp; done) | (simp [*]; done)), (by first | rfl | (simp; done) | (simp [*]; done)), H', ⟨Nat.le_refl _⟩, ⟨by (with_reducible repeat (first | refine ze ?_ _ | refine zf ?_ | refine zc ?_ _)); exact BK267.out⟩, ⟨by repeat (first | (with_reducible first | exact HB.out | apply z8 | apply z6 | apply z7 | refine zb ?_ GE267.out) | exact HB.out)⟩⟩
 clear H'
 try clear p2
 try clear c4
 try clear c6
 try clear c7
 try clear hcz4_0
 try clear hcz9_0
 try clear hfz4_0
 try clear hfz9_0
 obtain ⟨x3_1, x26_1, rfl, rfl, HA, HK1, BK267, HB⟩ := hrel
 cases gk with
 | zero => exact absurd HA.out (by simp [ue.l0])
 | succ k1 =>
  have H := HA.out
  clear HA
  simp only [ue.l0] at H
  by_cases c10 : x26_1 < (l0_6.length : Int)
  rotate_left
  ·
   rw [if_neg c10] at H
   have c10b0 : decide (x26_1 < (l0_6.length : Int)) = false := decide_eq_false c10
   clear c10
   obtain rfl := Option.some.inj H
   go_wp2
   go_ret
   exact ⟨by first | rfl | (simp [zm, zn] <;> rfl) | (simp [*, zm, zn] <;> rfl), by repeat (first | (with_reducible first | exact HB.out | apply z8 | apply z6 | apply z7 | refine zb ?_ GE267.out) | exact HB.out)⟩
  rw [if_pos c10] at H
  have c10b0 : decide (x26_1 < (l0_6.length : Int)) = true := decide_eq_true c10
  clear c10
  by_cases c11 : 0 ≤ x26_1
  rotate_left
  ·
   rw [if_neg c11] at H
   exact absurd H (by simp)
  rw [if_pos c11] at H
  have c11b0 : decide (0 ≤ x26_1) = true := decide_eq_true c11
  clear c11
  by_cases c12 : x26_1 < (l0_6.length : Int)
  rotate_left
  ·
   rw [if_neg c12] at H
   exact absurd H (by simp)
  rw [if_pos c12] at H
  have c12b0 : decide (x26_1 < (l0_6.length : Int)) = true := decide_eq_true c12
  clear c12
  replace H := Option.bind_eq_some_iff.mp H
  obtain ⟨t274, A130, H⟩ := H
  replace H : (if x3_1.size + t274.size ≤ 9223372036854775807 then (ue.l0 k1 (x3_1 ++ t274) l0_6 (l0_6.length : Int) (wrap64 (x26_1 + 1))) else (none)) = some r := H
  have A13 := Aside0.mk A130
  clear A130
  by_cases c14 : x3_1.size + t274.size ≤ 9223372036854775807
  rotate_left
  ·
   rw [if_neg c14] at H
   exact absurd H (by simp)
  rw [if_pos c14] at H
  have c14b0 := eq_true c14
  have c14b1 : decide (x3_1.size + t274.size ≤ 9223372036854775807) = true := decide_eq_true c14
  try have c14b2 : (9223372036854775807 < x3_1.size + t274.size) = False := eq_false (Nat.not_lt.2 c14)
  have H' := Aside0.mk H
  clear H
  have p272 : 0 ≤ (x26_1 : Int) := of_decide_eq_true (by first | (with_reducible assumption) | assumption)
  have q272 : x26_1 < (l0_6.length : Int) := of_decide_eq_true (by first | (with_reducible assumption) | assumption)
  obtain ⟨ad272, A272_7, c272_7, e272, hx272_0, hx272_1, hx272_2, hx272_3, hx272_4, hx272_5, hx272_6, hx272_7, hx272_8, hx272_9, hx272_10, hl272_7, hi272_7⟩ := z0q HR0_6.out x26_1 p272 q272
  cases e272
  replace hx272_0 := (HB.out.cell (World.block_lt_of_cell? w _ hx272_0)).trans hx272_0
  replace hx272_1 := (HB.out.cell (World.block_lt_of_cell? w _ hx272_1)).trans hx272_1
  replace hx272_2 := (HB.out.cell (World.block_lt_of_cell? w _ hx272_2)).trans hx272_2
  replace hx272_3 := (HB.out.cell (World.block_lt_of_cell? w _ hx272_3)).trans hx272_3
  replace hx272_4 := (HB.out.cell (World.block_lt_of_cell? w _ hx272_4)).trans hx272_4
  replace hx272_5 := (HB.out.cell (World.block_lt_of_cell? w _ hx272_5)).trans hx272_5
  replace hx272_6 := (HB.out.cell (World.block_lt_of_cell? w _ hx272_6)).trans hx272_6
  replace hx272_7 := (HB.out.cell (World.block_lt_of_cell? w _ hx272_7)).trans hx272_7
  replace hx272_8 := (HB.out.cell (World.block_lt_of_cell? w _ hx272_8)).trans hx272_8
  replace hx272_9 := (HB.out.cell (World.block_lt_of_cell? w _ hx272_9)).trans hx272_9
  replace hx272_10 := (HB.out.cell (World.block_lt_of_cell? w _ hx272_10)).trans hx272_10
  have HR272_7 := Aside0.mk hi272_7
  have HC272_7 := Aside0.mk hl272_7
  clear hi272_7 hl272_7
  replace p272 := eq_true p272
  replace q272 := eq_true q272
  go_wp2_with (first | ((with_reducible refine yf (N := 5) rfl ?_); refine yd ?hg (N := 5) ?hd (cs := #[.int .i64 0, .int .i64 0, .int .i64 0, .int .i64 0, .int .i64 0, .int .i64 0, .string (⟨#[]⟩ : ByteArray), .slice none 0 0, .int .i64 0, .int .i64 0, .int .i64 0]) (t := 38) ?hr ?_; (case hd => rfl); (case hg => rfl); (case hr => first | (go_simp; done) | (go_simp; rfl)); intro gb273 hg w15 hbox hb; have n0_ := Aside0.mk (zt (by (with_reducible repeat (first | refine ze ?_ _ | refine zf ?_ | refine zc ?_ _)); exact BK267.out) hb); have n1_ := Aside0.mk (zj (by repeat (first | (with_reducible first | exact HB.out | apply z8 | apply z6 | apply z7 | refine zb ?_ GE267.out) | exact HB.out)) hb); have n2_ := Aside0.mk (hbox); have n3_ := Aside0.mk ((by rw [hg]; exact (zk (by repeat (first | (with_reducible first | exact HB.out | apply z8 | apply z6 | apply z7 | refine zb ?_ GE267.out) | exact HB.out))) : w.heap.size ≤ gb273)); have n4_ := Aside0.mk ((by rw [hg]; exact (zk (by repeat (first | (with_reducible first | exact HB.out | apply z8 | apply z6 | apply z7 | refine zb ?_ GE267.out) | exact HB.out))) : w.heap.size ≤ gb273)); have n5_ := Aside0.mk ((by rw [hg]; exact Nat.ne_of_lt (vo (g := gb267) (o := .cells #[.int .i64 a0_0, .int .i64 a0_1, .int .i64 a0_2, .int .i64 a0_3, .int .i64 a0_4, .int .i64 a0_5, .slice (some ad272) l0_6.length c0_6] 45 (0, 0)) (by (with_reducible repeat (first | refine ze ?_ _ | refine zf ?_ | refine zc ?_ _)); exact BK267.out)) : gb267 ≠ gb273)); have n6_ := Aside0.mk ((by rw [hg]; exact Nat.ne_of_gt (vo (g := gb267) (o := .cells #[.int .i64 a0_0, .int .i64 a0_1, .int .i64 a0_2, .int .i64 a0_3, .int .i64 a0_4, .int .i64 a0_5, .slice (some ad272) l0_6.length c0_6] 45 (0, 0)) (by (with_reducible repeat (first | refine ze ?_ _ | refine zf ?_ | refine zc ?_ _)); exact BK267.out)) : gb273 ≠ gb267)); clear BK267; clear HB; have BK267 := n0_; have HB := n1_; have BK273 := n2_; have GW273 := n3_; have GE273 := n4_; have NB267_273 := n5_; have NB273_267 := n6_; clear n0_ n1_ n2_ n3_ n4_ n5_ n6_; clear hb hbox hg; have hnb16 := NB273_267.out; have hnc16 := NB267_273.out; have hcz17_0 := yq BK273.out; have hfz17_0 := fun j_ => zi BK273.out j_) | ((with_reducible refine zu (f := 39) rfl ?_); refine yn (some 32) rfl rfl Try.func39 (by kernel_rfl) rfl #[.agg #[.int .i64 ((zg l0_6 x26_1).f0), .int .i64 ((zg l0_6 x26_1).f1), .int .i64 ((zg l0_6 x26_1).f2), .int .i64 ((zg l0_6 x26_1).f3.f0), .int .i64 ((zg l0_6 x26_1).f3.f1), .int .i64 ((zg l0_6 x26_1).f3.f2), .string ((zg l0_6 x26_1).f4), .slice A272_7 ((zg l0_6 x26_1).f5).length c272_7, .int .i64 ((zg l0_6 x26_1).f6), .int .i64 ((zg l0_6 x26_1).f7), .int .i64 ((zg l0_6 x26_1).f8)]] rfl (by (try simp only [List.map_toArray, List.map_cons, List.map_nil]); first | done | rfl | (simp only [List.length_drop, List.length_take]; rfl)) ?_; (with_reducible refine (vk.calls k1 ((zg l0_6 x26_1).f0) ((zg l0_6 x26_1).f1) ((zg l0_6 x26_1).f2) ((zg l0_6 x26_1).f3.f0) ((zg l0_6 x26_1).f3.f1) ((zg l0_6 x26_1).f3.f2) ((zg l0_6 x26_1).f4) _ _ ((zg l0_6 x26_1).f5) ((zg l0_6 x26_1).f6) ((zg l0_6 x26_1).f7) ((zg l0_6 x26_1).f8) t274 _ ?side1 ?side2 A13.out).mono ?_); (case side1 => exact Kd.yt HR272_7.out (by repeat (first | (with_reducible first | exact HB.out | apply z8 | apply z6 | apply z7 | refine zb ?_ GE267.out | refine zb ?_ GE273.out) | exact HB.out))); (case side2 => exact HC272_7.out); rintro e w18 ⟨rfl, hb⟩; refine ⟨_, rfl, ?_⟩; have n0_ := Aside0.mk (zt (g := gb267) (o := .cells #[.int .i64 a0_0, .int .i64 a0_1, .int .i64 a0_2, .int .i64 a0_3, .int .i64 a0_4, .int .i64 a0_5, .slice (some ad272) l0_6.length c0_6] 45 (0, 0)) (by (with_reducible repeat (first | refine ze ?_ _ | refine zf ?_ | refine zc ?_ _)); refine zp ?_ NB267_273.out _; (with_reducible repeat (first | refine ze ?_ _ | refine zf ?_ | refine zc ?_ _)); refine zp ?_ NB267_273.out _; (with_reducible repeat (first | refine ze ?_ _ | refine zf ?_ | refine zc ?_ _)); refine zp ?_ NB267_273.out _; (with_reducible repeat (first | refine ze ?_ _ | refine zf ?_ | refine zc ?_ _)); refine zp ?_ NB267_273.out _; (with_reducible repeat (first | refine ze ?_ _ | refine zf ?_ | refine zc ?_ _)); refine zp ?_ NB267_273.out _; (with_reducible repeat (first | refine ze ?_ _ | refine zf ?_ | refine zc ?_ _)); refine zp ?_ NB267_273.out _; (with_reducible repeat (first | refine ze ?_ _ | refine zf ?_ | refine zc ?_ _)); refine zp ?_ NB267_273.out _; (with_reducible repeat (first | refine ze ?_ _ | refine zf ?_ | refine zc ?_ _)); refine zp ?_ NB267_273.out _; (with_reducible repeat (first | refine ze ?_ _ | refine zf ?_ | refine zc ?_ _)); refine zp ?_ NB267_273.out _; (with_reducible repeat (first | refine ze ?_ _ | refine zf ?_ | refine zc ?_ _)); refine zp ?_ NB267_273.out _; (with_reducible repeat (first | refine ze ?_ _ | refine zf ?_ | refine zc ?_ _)); refine zp ?_ NB267_273.out _; (with_reducible repeat (first | refine ze ?_ _ | refine zf ?_ | refine zc ?_ _)); exact BK267.out) hb); have n1_ := Aside0.mk (zt (g := gb273) (o := .cells #[.int .i64 ((zg l0_6 x26_1).f0), .int .i64 ((zg l0_6 x26_1).f1), .int .i64 ((zg l0_6 x26_1).f2), .int .i64 ((zg l0_6 x26_1).f3.f0), .int .i64 ((zg l0_6 x26_1).f3.f1), .int .i64 ((zg l0_6 x26_1).f3.f2), .string ((zg l0_6 x26_1).f4), .slice A272_7 ((zg l0_6 x26_1).f5).length c272_7, .int .i64 ((zg l0_6 x26_1).f6), .int .i64 ((zg l0_6 x26_1).f7), .int .i64 ((zg l0_6 x26_1).f8)] 38 (0, 0)) (by (with_reducible repeat (first | refine ze ?_ _ | refine zf ?_ | refine zc ?_ _)); refine zx (cs := #[.int .i64 ((zg l0_6 x26_1).f0), .int .i64 ((zg l0_6 x26_1).f1), .int .i64 ((zg l0_6 x26_1).f2), .int .i64 ((zg l0_6 x26_1).f3.f0), .int .i64 ((zg l0_6 x26_1).f3.f1), .int .i64 ((zg l0_6 x26_1).f3.f2), .string ((zg l0_6 x26_1).f4), .slice A272_7 ((zg l0_6 x26_1).f5).length c272_7, .int .i64 ((zg l0_6 x26_1).f6), .int .i64 ((zg l0_6 x26_1).f7), .int .i64 0]) ?_ 10 _ rfl; (with_reducible repeat (first | refine ze ?_ _ | refine zf ?_ | refine zc ?_ _)); refine zx (cs := #[.int .i64 ((zg l0_6 x26_1).f0), .int .i64 ((zg l0_6 x26_1).f1), .int .i64 ((zg l0_6 x26_1).f2), .int .i64 ((zg l0_6 x26_1).f3.f0), .int .i64 ((zg l0_6 x26_1).f3.f1), .int .i64 ((zg l0_6 x26_1).f3.f2), .string ((zg l0_6 x26_1).f4), .slice A272_7 ((zg l0_6 x26_1).f5).length c272_7, .int .i64 ((zg l0_6 x26_1).f6), .int .i64 0, .int .i64 0]) ?_ 9 _ rfl; (with_reducible repeat (first | refine ze ?_ _ | refine zf ?_ | refine zc ?_ _)); refine zx (cs := #[.int .i64 ((zg l0_6 x26_1).f0), .int .i64 ((zg l0_6 x26_1).f1), .int .i64 ((zg l0_6 x26_1).f2), .int .i64 ((zg l0_6 x26_1).f3.f0), .int .i64 ((zg l0_6 x26_1).f3.f1), .int .i64 ((zg l0_6 x26_1).f3.f2), .string ((zg l0_6 x26_1).f4), .slice A272_7 ((zg l0_6 x26_1).f5).length c272_7, .int .i64 0, .int .i64 0, .int .i64 0]) ?_ 8 _ rfl; (with_reducible repeat (first | refine ze ?_ _ | refine zf ?_ | refine zc ?_ _)); refine zx (cs := #[.int .i64 ((zg l0_6 x26_1).f0), .int .i64 ((zg l0_6 x26_1).f1), .int .i64 ((zg l0_6 x26_1).f2), .int .i64 ((zg l0_6 x26_1).f3.f0), .int .i64 ((zg l0_6 x26_1).f3.f1), .int .i64 ((zg l0_6 x26_1).f3.f2), .string ((zg l0_6 x26_1).f4), .slice none 0 0, .int .i64 0, .int .i64 0, .int .i64 0]) ?_ 7 _ rfl; (with_reducible repeat (first | refine ze ?_ _ | refine zf ?_ | refine zc ?_ _)); refine zx (cs := #[.int .i64 ((zg l0_6 x26_1).f0), .int .i64 ((zg l0_6 x26_1).f1), .int .i64 ((zg l0_6 x26_1).f2), .int .i64 ((zg l0_6 x26_1).f3.f0), .int .i64 ((zg l0_6 x26_1).f3.f1), .int .i64 ((zg l0_6 x26_1).f3.f2), .string (⟨#[]⟩ : ByteArray), .slice none 0 0, .int .i64 0, .int .i64 0, .int .i64 0]) ?_ 6 _ rfl; (with_reducible repeat (first | refine ze ?_ _ | refine zf ?_ | refine zc ?_ _)); refine zx (cs := #[.int .i64 ((zg l0_6 x26_1).f0), .int .i64 ((zg l0_6 x26_1).f1), .int .i64 ((zg l0_6 x26_1).f2), .int .i64 ((zg l0_6 x26_1).f3.f0), .int .i64 ((zg l0_6 x26_1).f3.f1), .int .i64 0, .string (⟨#[]⟩ : ByteArray), .slice none 0 0, .int .i64 0, .int .i64 0, .int .i64 0]) ?_ 5 _ rfl; (with_reducible repeat (first | refine ze ?_ _ | refine zf ?_ | refine zc ?_ _)); refine zx (cs := #[.int .i64 ((zg l0_6 x26_1).f0), .int .i64 ((zg l0_6 x26_1).f1), .int .i64 ((zg l0_6 x26_1).f2), .int .i64 ((zg l0_6 x26_1).f3.f0), .int .i64 0, .int .i64 0, .string (⟨#[]⟩ : ByteArray), .slice none 0 0, .int .i64 0, .int .i64 0, .int .i64 0]) ?_ 4 _ rfl; (with_reducible repeat (first | refine ze ?_ _ | refine zf ?_ | refine zc ?_ _)); refine zx (cs := #[.int .i64 ((zg l0_6 x26_1).f0), .int .i64 ((zg l0_6 x26_1).f1), .int .i64 ((zg l0_6 x26_1).f2), .int .i64 0, .int .i64 0, .int .i64 0, .string (⟨#[]⟩ : ByteArray), .slice none 0 0, .int .i64 0, .int .i64 0, .int .i64 0]) ?_ 3 _ rfl; (with_reducible repeat (first | refine ze ?_ _ | refine zf ?_ | refine zc ?_ _)); refine zx (cs := #[.int .i64 ((zg l0_6 x26_1).f0), .int .i64 ((zg l0_6 x26_1).f1), .int .i64 0, .int .i64 0, .int .i64 0, .int .i64 0, .string (⟨#[]⟩ : ByteArray), .slice none 0 0, .int .i64 0, .int .i64 0, .int .i64 0]) ?_ 2 _ rfl; (with_reducible repeat (first | refine ze ?_ _ | refine zf ?_ | refine zc ?_ _)); refine zx (cs := #[.int .i64 ((zg l0_6 x26_1).f0), .int .i64 0, .int .i64 0, .int .i64 0, .int .i64 0, .int .i64 0, .string (⟨#[]⟩ : ByteArray), .slice none 0 0, .int .i64 0, .int .i64 0, .int .i64 0]) ?_ 1 _ rfl; (with_reducible repeat (first | refine ze ?_ _ | refine zf ?_ | refine zc ?_ _)); refine zx (cs := #[.int .i64 0, .int .i64 0, .int .i64 0, .int .i64 0, .int .i64 0, .int .i64 0, .string (⟨#[]⟩ : ByteArray), .slice none 0 0, .int .i64 0, .int .i64 0, .int .i64 0]) ?_ 0 _ rfl; (with_reducible repeat (first | refine ze ?_ _ | refine zf ?_ | refine zc ?_ _)); exact BK273.out) hb); have n2_ := Aside0.mk (zj (by repeat (first | (with_reducible first | exact HB.out | apply z8 | apply z6 | apply z7 | refine zb ?_ GE267.out | refine zb ?_ GE273.out) | exact HB.out)) hb); clear BK267; clear BK273; clear HB; have BK267 := n0_; have BK273 := n1_; have HB := n2_; clear n0_ n1_ n2_; (try clear hb); (try clear hb2); (try clear hk); (try clear hi)))
  go_roundg k1
  case measure => have := HK1.out; omega
  case rel => exact ⟨(x3_1 ++ t274), (wrap64 (x26_1 + 1)), (by first | rfl | (simp; done) | (simp [*]; done)), (by first | rfl | (simp; done) | (simp [*]; done)), H', ⟨by have := HK1.out; omega⟩, ⟨by (with_reducible repeat (first | refine ze ?_ _ | refine zf ?_ | refine zc ?_ _)); exact BK267.out⟩, ⟨by repeat (first | (with_reducible first | exact HB.out | apply z8 | apply z6 | apply z7 | refine zb ?_ GE267.out | refine zb ?_ GE273.out) | exact HB.out)⟩⟩
def uj.f (k : Nat) (a0_0 : Int) (a0_1 : Int) (a0_2 : Int) (a0_3 : Int) (a0_4 : Int) (a0_5 : Int) (l0_6 : List (S38)) : Option (ByteArray × Int) := (zq.f k a0_0 a0_1 a0_2 a0_3 a0_4 a0_5 l0_6).bind fun t276 => (if t276 = true then ((ue.f k a0_0 a0_1 a0_2 a0_3 a0_4 a0_5 l0_6).bind fun t277 => (some (t277, 0))) else (some ((⟨#[]⟩ : ByteArray), 1)))
theorem uj.mono : ∀ a0 a1 a2 a3 a4 a5 a6 k, LeO (uj.f k a0 a1 a2 a3 a4 a5 a6) (uj.f (k + 1) a0 a1 a2 a3 a4 a5 a6) := by
  intro a0 a1 a2 a3 a4 a5 a6 k
  unfold uj.f
  repeat' first
      | (with_reducible exact zq.mono _ _ _ _ _ _ _ _)
      | (with_reducible exact ue.mono _ _ _ _ _ _ _ _)
      | (with_reducible exact LeO.refl _)
      | (with_reducible exact LeO.none _)
      | (with_reducible refine LeO.ite ?_ ?_)
      | (with_reducible refine LeO.bind ?_ (fun _ => ?_))
      | exact zq.mono _ _ _ _ _ _ _ _
      | exact ue.mono _ _ _ _ _ _ _ _
      | exact LeO.none _
      | refine LeO.ite ?_ ?_
      | refine LeO.bind ?_ (fun _ => ?_)
set_option maxHeartbeats 8000000 in
set_option maxRecDepth 100000 in
theorem uj.calls (k : Nat) (a0_0 : Int) (a0_1 : Int) (a0_2 : Int) (a0_3 : Int) (a0_4 : Int) (a0_5 : Int) (A0_6 : Option Addr) (c0_6 : Nat) (l0_6 : List (S38)) (r1 : ByteArray) (r2 : Int) (w : World) (hr0_6 : Kd.C k38 w A0_6 l0_6.length l0_6) (hc0_6 : l0_6.length ≤ c0_6) (h : uj.f k a0_0 a0_1 a0_2 a0_3 a0_4 a0_5 l0_6 = some (r1, r2)) :
  Calls Try.prog 11 #[.agg #[.int .i64 a0_0, .int .i64 a0_1, .int .i64 a0_2, .int .i64 a0_3, .int .i64 a0_4, .int .i64 a0_5, .slice A0_6 l0_6.length c0_6]] w fun e w' => e = .returned (.tuple #[.string r1, .int .i64 r2]) ∧ Below w.heap.size w w' := by
 have hu45 := Try.underlying45
 have HR0_6 := Aside0.mk hr0_6
 have HC0_6 := Aside0.mk hc0_6
 clear hr0_6 hc0_6
 have HB := Aside0.mk (Below.refl w.heap.size w)
 have H : ((zq.f k a0_0 a0_1 a0_2 a0_3 a0_4 a0_5 l0_6).bind fun t276 => (if t276 = true then ((ue.f k a0_0 a0_1 a0_2 a0_3 a0_4 a0_5 l0_6).bind fun t277 => (some (t277, 0))) else (some ((⟨#[]⟩ : ByteArray), 1)))) = some (r1, r2) := h
 clear h
 replace H := Option.bind_eq_some_iff.mp H
 obtain ⟨t276, A20, H⟩ := H
 replace H : (if t276 = true then ((ue.f k a0_0 a0_1 a0_2 a0_3 a0_4 a0_5 l0_6).bind fun t277 => (some (t277, 0))) else (some ((⟨#[]⟩ : ByteArray), 1))) = some (r1, r2) := H
 have A2 := Aside0.mk A20
 clear A20
 by_cases c3 : t276 = true
 rotate_left
 ·
  replace c3 := Bool.eq_false_iff.mpr c3
  subst c3
  have H1 : (some ((⟨#[]⟩ : ByteArray), 1)) = some (r1, r2) := by rw [if_neg (show ¬ (false = true) by decide)] at H; exact H
  clear H
  have H := H1
  clear H1
  simp only [Option.some.injEq, Prod.mk.injEq] at H
  obtain ⟨rfl, rfl⟩ := H
  go_enter Try.func11, Try.ntmps11
  go_wp2_with (first | ((with_reducible refine yf (N := 1) rfl ?_); refine yd ?hg (N := 1) ?hd (cs := #[.int .i64 a0_0, .int .i64 a0_1, .int .i64 a0_2, .int .i64 a0_3, .int .i64 a0_4, .int .i64 a0_5, .slice A0_6 l0_6.length c0_6]) (t := 45) ?hr ?_; (case hd => rfl); (case hg => rfl); (case hr => first | (go_simp; done) | (go_simp; rfl)); intro gb275 hg w10 hbox hb; have n0_ := Aside0.mk (zj (by repeat (first | (with_reducible first | exact HB.out | apply z8 | apply z6 | apply z7) | exact HB.out)) hb); have n1_ := Aside0.mk (hbox); have n2_ := Aside0.mk ((by rw [hg]; exact (zk (by repeat (first | (with_reducible first | exact HB.out | apply z8 | apply z6 | apply z7) | exact HB.out))) : w.heap.size ≤ gb275)); have n3_ := Aside0.mk ((by rw [hg]; exact (zk (by repeat (first | (with_reducible first | exact HB.out | apply z8 | apply z6 | apply z7) | exact HB.out))) : w.heap.size ≤ gb275)); clear HB; have HB := n0_; have BK275 := n1_; have GW275 := n2_; have GE275 := n3_; clear n0_ n1_ n2_ n3_; clear hb hbox hg; have hcz11_0 := ug BK275.out; have hfz11_0 := fun j_ => zi BK275.out j_) | ((with_reducible refine zu (f := 42) rfl ?_); refine yn (some 5) rfl rfl Try.func42 (by kernel_rfl) rfl #[.agg #[.int .i64 a0_0, .int .i64 a0_1, .int .i64 a0_2, .int .i64 a0_3, .int .i64 a0_4, .int .i64 a0_5, .slice A0_6 l0_6.length c0_6]] rfl (by (try simp only [List.map_toArray, List.map_cons, List.map_nil]); first | done | rfl | (simp only [List.length_drop, List.length_take]; rfl)) ?_; (with_reducible refine (zq.calls k a0_0 a0_1 a0_2 a0_3 a0_4 a0_5 _ _ l0_6 false _ ?side1 ?side2 A2.out).mono ?_); (case side1 => repeat (first | exact (Kd.yt HR0_6.out HB.out) | (with_reducible refine Kd.yo ?_ _) | (with_reducible refine Kd.yp ?_ _) | (with_reducible refine Kd.yy ?_))); (case side2 => exact HC0_6.out); rintro e w12 ⟨rfl, hb⟩; refine ⟨_, rfl, ?_⟩; have n0_ := Aside0.mk (zt (by (with_reducible repeat (first | refine ze ?_ _ | refine zf ?_ | refine zc ?_ _)); exact BK275.out) hb); have n1_ := Aside0.mk (zj (by repeat (first | (with_reducible first | exact HB.out | apply z8 | apply z6 | apply z7 | refine zb ?_ GE275.out) | exact HB.out)) hb); clear BK275; clear HB; have BK275 := n0_; have HB := n1_; clear n0_ n1_; (try clear hb); (try clear hb2); (try clear hk); (try clear hi)))
  go_ret2
  exact ⟨by first | rfl | (simp [zm, zn] <;> rfl) | (simp [*, zm, zn] <;> rfl), by repeat (first | (with_reducible first | exact HB.out | apply z8 | apply z6 | apply z7 | refine zb ?_ GE275.out) | exact HB.out)⟩
 subst c3
 have H1 : ((ue.f k a0_0 a0_1 a0_2 a0_3 a0_4 a0_5 l0_6).bind fun t277 => (some (t277, 0))) = some (r1, r2) := by rw [if_pos rfl] at H; exact H
 clear H
 have H := H1
 clear H1
 replace H := Option.bind_eq_some_iff.mp H
 obtain ⟨t277, A40, H⟩ := H
 replace H : (some (t277, 0)) = some (r1, r2) := H
 have A4 := Aside0.mk A40
 clear A40
 simp only [Option.some.injEq, Prod.mk.injEq] at H
 obtain ⟨rfl, rfl⟩ := H
 go_enter Try.func11, Try.ntmps11
 go_wp2_with (first | ((with_reducible refine yf (N := 1) rfl ?_); refine yd ?hg (N := 1) ?hd (cs := #[.int .i64 a0_0, .int .i64 a0_1, .int .i64 a0_2, .int .i64 a0_3, .int .i64 a0_4, .int .i64 a0_5, .slice A0_6 l0_6.length c0_6]) (t := 45) ?hr ?_; (case hd => rfl); (case hg => rfl); (case hr => first | (go_simp; done) | (go_simp; rfl)); intro gb275 hg w5 hbox hb; have n0_ := Aside0.mk (zj (by repeat (first | (with_reducible first | exact HB.out | apply z8 | apply z6 | apply z7) | exact HB.out)) hb); have n1_ := Aside0.mk (hbox); have n2_ := Aside0.mk ((by rw [hg]; exact (zk (by repeat (first | (with_reducible first | exact HB.out | apply z8 | apply z6 | apply z7) | exact HB.out))) : w.heap.size ≤ gb275)); have n3_ := Aside0.mk ((by rw [hg]; exact (zk (by repeat (first | (with_reducible first | exact HB.out | apply z8 | apply z6 | apply z7) | exact HB.out))) : w.heap.size ≤ gb275)); clear HB; have HB := n0_; have BK275 := n1_; have GW275 := n2_; have GE275 := n3_; clear n0_ n1_ n2_ n3_; clear hb hbox hg; have hcz6_0 := ug BK275.out; have hfz6_0 := fun j_ => zi BK275.out j_) | ((with_reducible refine zu (f := 42) rfl ?_); refine yn (some 5) rfl rfl Try.func42 (by kernel_rfl) rfl #[.agg #[.int .i64 a0_0, .int .i64 a0_1, .int .i64 a0_2, .int .i64 a0_3, .int .i64 a0_4, .int .i64 a0_5, .slice A0_6 l0_6.length c0_6]] rfl (by (try simp only [List.map_toArray, List.map_cons, List.map_nil]); first | done | rfl | (simp only [List.length_drop, List.length_take]; rfl)) ?_; (with_reducible refine (zq.calls k a0_0 a0_1 a0_2 a0_3 a0_4 a0_5 _ _ l0_6 true _ ?side1 ?side2 A2.out).mono ?_); (case side1 => repeat (first | exact (Kd.yt HR0_6.out HB.out) | (with_reducible refine Kd.yo ?_ _) | (with_reducible refine Kd.yp ?_ _) | (with_reducible refine Kd.yy ?_))); (case side2 => exact HC0_6.out); rintro e w7 ⟨rfl, hb⟩; refine ⟨_, rfl, ?_⟩; have n0_ := Aside0.mk (zt (by (with_reducible repeat (first | refine ze ?_ _ | refine zf ?_ | refine zc ?_ _)); exact BK275.out) hb); have n1_ := Aside0.mk (zj (by repeat (first | (with_reducible first | exact HB.out | apply z8 | apply z6 | apply z7 | refine zb ?_ GE275.out) | exact HB.out)) hb); clear BK275; clear HB; have BK275 := n0_; have HB := n1_; clear n0_ n1_; (try clear hb); (try clear hb2); (try clear hk); (try clear hi); have hcz8_0 := ug BK275.out; have hfz8_0 := fun j_ => zi BK275.out j_) | ((with_reducible refine zu (f := 43) rfl ?_); refine yn (some 8) rfl rfl Try.func43 (by kernel_rfl) rfl #[.agg #[.int .i64 a0_0, .int .i64 a0_1, .int .i64 a0_2, .int .i64 a0_3, .int .i64 a0_4, .int .i64 a0_5, .slice A0_6 l0_6.length c0_6]] rfl (by (try simp only [List.map_toArray, List.map_cons, List.map_nil]); first | done | rfl | (simp only [List.length_drop, List.length_take]; rfl)) ?_; (with_reducible refine (ue.calls k a0_0 a0_1 a0_2 a0_3 a0_4 a0_5 _ _ l0_6 t277 _ ?side1 ?side2 A4.out).mono ?_); (case side1 => repeat (first | exact (Kd.yt HR0_6.out HB.out) | (with_reducible refine Kd.yo ?_ _) | (with_reducible refine Kd.yp ?_ _) | (with_reducible refine Kd.yy ?_))); (case side2 => exact HC0_6.out); rintro e w9 ⟨rfl, hb⟩; refine ⟨_, rfl, ?_⟩; have n0_ := Aside0.mk (zt (by (with_reducible repeat (first | refine ze ?_ _ | refine zf ?_ | refine zc ?_ _)); exact BK275.out) hb); have n1_ := Aside0.mk (zj (by repeat (first | (with_reducible first | exact HB.out | apply z8 | apply z6 | apply z7 | refine zb ?_ GE275.out) | exact HB.out)) hb); clear BK275; clear HB; have BK275 := n0_; have HB := n1_; clear n0_ n1_; (try clear hb); (try clear hb2); (try clear hk); (try clear hi)))
 go_ret2
 exact ⟨by first | rfl | (simp [zm, zn] <;> rfl) | (simp [*, zm, zn] <;> rfl), by repeat (first | (with_reducible first | exact HB.out | apply z8 | apply z6 | apply z7 | refine zb ?_ GE275.out) | exact HB.out)⟩
def ym.l0 : Nat → Int → Int → Int → ByteArray → Bool → Int → Int → Int → Int → Int → Int → List (S38) → Option (Int × Int × Int × Int × Int × Int × (List (S38)) × Int)
  | 0, _, _, _, _, _, _, _, _, _, _, _, _ => none
  | k + 1, x6, x26, x27, x280000, x280001, x299000, x299001, x299002, x299003, x299004, x299005, x299006 => if x27 < x26 then ((zw.f k x280000 x280001).bind fun bt302 => (if x299006.length < 1256584717458 then (ym.l0 k x6 x26 (wrap64 (x27 + 1)) bt302.2.2.2.2.2.2.2.2.2.2.2.1 bt302.2.2.2.2.2.2.2.2.2.2.2.2 x299000 x299001 x299002 x299003 x299004 x299005 (x299006 ++ [(⟨bt302.1, bt302.2.1, bt302.2.2.1, (⟨bt302.2.2.2.1, bt302.2.2.2.2.1, bt302.2.2.2.2.2.1⟩ : S36), bt302.2.2.2.2.2.2.1, bt302.2.2.2.2.2.2.2.1, bt302.2.2.2.2.2.2.2.2.1, bt302.2.2.2.2.2.2.2.2.2.1, bt302.2.2.2.2.2.2.2.2.2.2.1⟩ : S38)])) else (none))) else (if x280001 = true then (some (0, 0, 0, 0, 0, 0, ([] : List (S38)), 7)) else (if x6 > 4 then (some (0, 0, 0, 0, 0, 0, ([] : List (S38)), 7)) else (if x280000.toList = ([] : List UInt8) then ((zq.f k x299000 x299001 x299002 x299003 x299004 x299005 x299006).bind fun t320 => (if t320 = true then (some (x299000, x299001, x299002, x299003, x299004, x299005, x299006, 0)) else (some (0, 0, 0, 0, 0, 0, ([] : List (S38)), 7)))) else (some (0, 0, 0, 0, 0, 0, ([] : List (S38)), 7)))))
def ym.f (k : Nat) (a0 : ByteArray) : Option (Int × Int × Int × Int × Int × Int × (List (S38)) × Int) := (zl.f k a0 false).bind fun bt280 => ((zl.f k bt280.2.1 bt280.2.2).bind fun bt283 => ((zl.f k bt283.2.1 bt283.2.2).bind fun bt286 => ((zl.f k bt286.2.1 bt286.2.2).bind fun bt289 => ((zl.f k bt289.2.1 bt289.2.2).bind fun bt292 => ((zl.f k bt292.2.1 bt292.2.2).bind fun bt295 => ((zl.f k bt295.2.1 bt295.2.2).bind fun bt299 => (ym.l0 k bt299.1 (mn bt299.1 4) 0 bt299.2.1 bt299.2.2 bt280.1 bt283.1 bt286.1 bt289.1 bt292.1 bt295.1 ([] : List (S38)))))))))
theorem ym.mono_l : ∀ k, (∀ y0 y1 y2 y3 y4 y5 y6 y7 y8 y9 y10 y11, LeO (ym.l0 k y0 y1 y2 y3 y4 y5 y6 y7 y8 y9 y10 y11) (ym.l0 (k + 1) y0 y1 y2 y3 y4 y5 y6 y7 y8 y9 y10 y11))
  | 0 => fun _ _ _ _ _ _ _ _ _ _ _ _ r h => by simp [ym.l0] at h
  | k + 1 => by
    have ih0 := ym.mono_l k
    · intro y0 y1 y2 y3 y4 y5 y6 y7 y8 y9 y10 y11
      unfold ym.l0
      repeat' first
      | (with_reducible exact ih0 _ _ _ _ _ _ _ _ _ _ _ _)
      | (with_reducible exact zq.mono _ _ _ _ _ _ _ _)
      | (with_reducible exact zl.mono _ _ _)
      | (with_reducible exact zw.mono _ _ _)
      | (with_reducible exact LeO.refl _)
      | (with_reducible exact LeO.none _)
      | (with_reducible refine LeO.ite ?_ ?_)
      | (with_reducible refine LeO.bind ?_ (fun _ => ?_))
      | exact ih0 _ _ _ _ _ _ _ _ _ _ _ _
      | exact zq.mono _ _ _ _ _ _ _ _
      | exact zl.mono _ _ _
      | exact zw.mono _ _ _
      | exact LeO.none _
      | refine LeO.ite ?_ ?_
      | refine LeO.bind ?_ (fun _ => ?_)
theorem ym.mono : ∀ a0 k, LeO (ym.f k a0) (ym.f (k + 1) a0) := by
  intro a0 k
  have ih0 := ym.mono_l k
  unfold ym.f
  repeat' first
      | (with_reducible exact ih0 _ _ _ _ _ _ _ _ _ _ _ _)
      | (with_reducible exact zq.mono _ _ _ _ _ _ _ _)
      | (with_reducible exact zl.mono _ _ _)
      | (with_reducible exact zw.mono _ _ _)
      | (with_reducible exact LeO.refl _)
      | (with_reducible exact LeO.none _)
      | (with_reducible refine LeO.ite ?_ ?_)
      | (with_reducible refine LeO.bind ?_ (fun _ => ?_))
      | exact ih0 _ _ _ _ _ _ _ _ _ _ _ _
      | exact zq.mono _ _ _ _ _ _ _ _
      | exact zl.mono _ _ _
      | exact zw.mono _ _ _
      | exact LeO.none _
      | refine LeO.ite ?_ ?_
      | refine LeO.bind ?_ (fun _ => ?_)
def ym.T6 : Bool × List (List Nat × List Nat) := (true, [([], []), ([0], [0]), ([], []), ([2], [2]), ([3], [3]), ([1, 4, 3], [1, 4]), ([0, 1, 2, 3, 4, 5], []), ([6, 5, 5, 0, 1, 2, 3, 4, 5], [5, 6])])
def ym.B6 : List Nat := [0, 1, 0, 4, 12, 31, 63, 127]
theorem ym.tab6 : rtab .any (opsOf Try.f12 6) = ym.T6 := by kernel_rfl
theorem ym.bits6 : waitsOk ym.T6.2 ym.B6 = true := by kernel_rfl
set_option maxHeartbeats 8000000 in
set_option maxRecDepth 100000 in
theorem ym.calls (k : Nat) (a0 : ByteArray) (r1 : Int) (r2 : Int) (r3 : Int) (r4 : Int) (r5 : Int) (r6 : Int) (r7 : List (S38)) (r8 : Int) (w : World) (h : ym.f k a0 = some (r1, r2, r3, r4, r5, r6, r7, r8)) :
  Calls Try.prog 12 #[.string a0] w fun e w' => ∃ v6_ : Value, e = .returned (.tuple #[.agg #[.int .i64 r1, .int .i64 r2, .int .i64 r3, .int .i64 r4, .int .i64 r5, .int .i64 r6, v6_], .int .i64 r8]) ∧ Kd.S k38 38 w' w.heap.size (fun _ => True) v6_ r7 ∧ Below w.heap.size w w' := by
 have hu45 := Try.underlying45
 have hu86 := Try.underlying86
 have HB := Aside0.mk (Below.refl w.heap.size w)
 have H : ((zl.f k a0 false).bind fun bt280 => ((zl.f k bt280.2.1 bt280.2.2).bind fun bt283 => ((zl.f k bt283.2.1 bt283.2.2).bind fun bt286 => ((zl.f k bt286.2.1 bt286.2.2).bind fun bt289 => ((zl.f k bt289.2.1 bt289.2.2).bind fun bt292 => ((zl.f k bt292.2.1 bt292.2.2).bind fun bt295 => ((zl.f k bt295.2.1 bt295.2.2).bind fun bt299 => (ym.l0 k bt299.1 (mn bt299.1 4) 0 bt299.2.1 bt299.2.2 bt280.1 bt283.1 bt286.1 bt289.1 bt292.1 bt295.1 ([] : List (S38)))))))))) = some (r1, r2, r3, r4, r5, r6, r7, r8) := h
 clear h
 replace H := Option.bind_eq_some_iff.mp H
 obtain ⟨⟨t280, t281, t282⟩, A20, H⟩ := H
 replace H : ((zl.f k t281 t282).bind fun bt283 => ((zl.f k bt283.2.1 bt283.2.2).bind fun bt286 => ((zl.f k bt286.2.1 bt286.2.2).bind fun bt289 => ((zl.f k bt289.2.1 bt289.2.2).bind fun bt292 => ((zl.f k bt292.2.1 bt292.2.2).bind fun bt295 => ((zl.f k bt295.2.1 bt295.2.2).bind fun bt299 => (ym.l0 k bt299.1 (mn bt299.1 4) 0 bt299.2.1 bt299.2.2 t280 bt283.1 bt286.1 bt289.1 bt292.1 bt295.1 ([] : List (S38))))))))) = some (r1, r2, r3, r4, r5, r6, r7, r8) := H
 have A2 := Aside0.mk A20
 clear A20
 replace H := Option.bind_eq_some_iff.mp H
 obtain ⟨⟨t283, t284, t285⟩, A30, H⟩ := H
 replace H : ((zl.f k t284 t285).bind fun bt286 => ((zl.f k bt286.2.1 bt286.2.2).bind fun bt289 => ((zl.f k bt289.2.1 bt289.2.2).bind fun bt292 => ((zl.f k bt292.2.1 bt292.2.2).bind fun bt295 => ((zl.f k bt295.2.1 bt295.2.2).bind fun bt299 => (ym.l0 k bt299.1 (mn bt299.1 4) 0 bt299.2.1 bt299.2.2 t280 t283 bt286.1 bt289.1 bt292.1 bt295.1 ([] : List (S38)))))))) = some (r1, r2, r3, r4, r5, r6, r7, r8) := H
 have A3 := Aside0.mk A30
 clear A30
 replace H := Option.bind_eq_some_iff.mp H
 obtain ⟨⟨t286, t287, t288⟩, A40, H⟩ := H
 replace H : ((zl.f k t287 t288).bind fun bt289 => ((zl.f k bt289.2.1 bt289.2.2).bind fun bt292 => ((zl.f k bt292.2.1 bt292.2.2).bind fun bt295 => ((zl.f k bt295.2.1 bt295.2.2).bind fun bt299 => (ym.l0 k bt299.1 (mn bt299.1 4) 0 bt299.2.1 bt299.2.2 t280 t283 t286 bt289.1 bt292.1 bt295.1 ([] : List (S38))))))) = some (r1, r2, r3, r4, r5, r6, r7, r8) := H
 have A4 := Aside0.mk A40
 clear A40
 replace H := Option.bind_eq_some_iff.mp H
 obtain ⟨⟨t289, t290, t291⟩, A50, H⟩ := H
 replace H : ((zl.f k t290 t291).bind fun bt292 => ((zl.f k bt292.2.1 bt292.2.2).bind fun bt295 => ((zl.f k bt295.2.1 bt295.2.2).bind fun bt299 => (ym.l0 k bt299.1 (mn bt299.1 4) 0 bt299.2.1 bt299.2.2 t280 t283 t286 t289 bt292.1 bt295.1 ([] : List (S38)))))) = some (r1, r2, r3, r4, r5, r6, r7, r8) := H
 have A5 := Aside0.mk A50
 clear A50
 replace H := Option.bind_eq_some_iff.mp H
 obtain ⟨⟨t292, t293, t294⟩, A60, H⟩ := H
 replace H : ((zl.f k t293 t294).bind fun bt295 => ((zl.f k bt295.2.1 bt295.2.2).bind fun bt299 => (ym.l0 k bt299.1 (mn bt299.1 4) 0 bt299.2.1 bt299.2.2 t280 t283 t286 t289 t292 bt295.1 ([] : List (S38))))) = some (r1, r2, r3, r4, r5, r6, r7, r8) := H
 have A6 := Aside0.mk A60
 clear A60
 replace H := Option.bind_eq_some_iff.mp H
 obtain ⟨⟨t295, t296, t297⟩, A70, H⟩ := H
 replace H : ((zl.f k t296 t297).bind fun bt299 => (ym.l0 k bt299.1 (mn bt299.1 4) 0 bt299.2.1 bt299.2.2 t280 t283 t286 t289 t292 t295 ([] : List (S38)))) = some (r1, r2, r3, r4, r5, r6, r7, r8) := H
 have A7 := Aside0.mk A70
 clear A70
 replace H := Option.bind_eq_some_iff.mp H
 obtain ⟨⟨t299, t300, t301⟩, A80, H⟩ := H
 replace H : (ym.l0 k t299 (mn t299 4) 0 t300 t301 t280 t283 t286 t289 t292 t295 ([] : List (S38))) = some (r1, r2, r3, r4, r5, r6, r7, r8) := H
 have A8 := Aside0.mk A80
 clear A80
 obtain ⟨ji9, hji9⟩ : ∃ j_ : Int, (mn t299 4) = j_ := ⟨_, rfl⟩
 replace H : (ym.l0 k t299 ji9 0 t300 t301 t280 t283 t286 t289 t292 t295 ([] : List (S38))) = some (r1, r2, r3, r4, r5, r6, r7, r8) := by first | (rw [hji9] at H; exact H) | (simp only [hji9] at H ⊢; exact H)
 (try rw [hji9] at A2)
 (try rw [hji9] at A3)
 (try rw [hji9] at A4)
 (try rw [hji9] at A5)
 (try rw [hji9] at A6)
 (try rw [hji9] at A7)
 (try rw [hji9] at A8)
 (try (have hji9h : ji9 ≤ 4 := by (rw [← hji9]; unfold mn; (repeat' split) <;> omega)))
 (try (have hji9g : ji9 ≤ 64 := by omega))
 have hji9_ : (if 4 < t299 then 4 else t299) = ji9 := hji9
 have H' := Aside0.mk H
 clear H
 go_enter Try.func12, Try.ntmps12
 go_wp2_with (first | ((with_reducible refine yf (N := 2) rfl ?_); refine yd ?hg (N := 2) ?hd (cs := #[.int .i64 0, .int .i64 0, .int .i64 0, .int .i64 0, .int .i64 0, .int .i64 0, .slice none 0 0]) (t := 45) ?hr ?_; (case hd => rfl); (case hg => rfl); (case hr => first | (go_simp; done) | (go_simp; rfl)); intro gb278 hg w10 hbox hb; have n0_ := Aside0.mk (zj (by repeat (first | (with_reducible first | exact HB.out | apply z8 | apply z6 | apply z7) | exact HB.out)) hb); have n1_ := Aside0.mk (hbox); have n2_ := Aside0.mk ((by rw [hg]; exact (zk (by repeat (first | (with_reducible first | exact HB.out | apply z8 | apply z6 | apply z7) | exact HB.out))) : w.heap.size ≤ gb278)); have n3_ := Aside0.mk ((by rw [hg]; exact (zk (by repeat (first | (with_reducible first | exact HB.out | apply z8 | apply z6 | apply z7) | exact HB.out))) : w.heap.size ≤ gb278)); clear HB; have HB := n0_; have BK278 := n1_; have GW278 := n2_; have GE278 := n3_; clear n0_ n1_ n2_ n3_; clear hb hbox hg) | ((with_reducible refine yf (N := 9) rfl ?_); refine yd ?hg (N := 9) ?hd (cs := #[.string a0, .bool false]) (t := 86) ?hr ?_; (case hd => rfl); (case hg => rfl); (case hr => first | (go_simp; done) | (go_simp; rfl)); intro gb279 hg w11 hbox hb; have n0_ := Aside0.mk (zt (by (with_reducible repeat (first | refine ze ?_ _ | refine zf ?_ | refine zc ?_ _)); exact BK278.out) hb); have n1_ := Aside0.mk (zj (by repeat (first | (with_reducible first | exact HB.out | apply z8 | apply z6 | apply z7 | refine zb ?_ GE278.out) | exact HB.out)) hb); have n2_ := Aside0.mk ((show IsS86 w w11 gb279 a0 false from ⟨hbox, by rw [hg]; exact (zk (by repeat (first | (with_reducible first | exact HB.out | apply z8 | apply z6 | apply z7 | refine zb ?_ GE278.out) | exact HB.out)))⟩)); have n3_ := Aside0.mk ((by rw [hg]; exact Nat.ne_of_lt (vo (g := gb278) (o := .cells #[.int .i64 0, .int .i64 0, .int .i64 0, .int .i64 0, .int .i64 0, .int .i64 0, .slice none 0 0] 45 (0, 0)) (by (with_reducible repeat (first | refine ze ?_ _ | refine zf ?_ | refine zc ?_ _)); exact BK278.out)) : gb278 ≠ gb279)); have n4_ := Aside0.mk ((by rw [hg]; exact Nat.ne_of_gt (vo (g := gb278) (o := .cells #[.int .i64 0, .int .i64 0, .int .i64 0, .int .i64 0, .int .i64 0, .int .i64 0, .slice none 0 0] 45 (0, 0)) (by (with_reducible repeat (first | refine ze ?_ _ | refine zf ?_ | refine zc ?_ _)); exact BK278.out)) : gb279 ≠ gb278)); clear BK278; clear HB; have BK278 := n0_; have HB := n1_; have HI279 := n2_; have NB278_279 := n3_; have NB279_278 := n4_; clear n0_ n1_ n2_ n3_ n4_; clear hb hbox hg) | ((with_reducible refine zu (f := 44) rfl ?_); refine yn (some 11) rfl rfl Try.func44 (by kernel_rfl) rfl #[.pointer (some ⟨gb279, 0, none⟩)] rfl (by (try simp only [List.map_toArray, List.map_cons, List.map_nil]); first | done | rfl | (simp only [List.length_drop, List.length_take]; rfl)) ?_; (with_reducible refine (zl.calls k gb279 a0 false t280 t281 t282 w _ ?side1 ?side2 A2.out).mono ?_); (case side1 => repeat (first | (with_reducible first | exact HI279.out | apply IsS86.alloc | apply IsS86.drewN | apply IsS86.drew | apply IsS86.set_0 | apply IsS86.set_1 | refine IsS86.far ?_ NB279_278.out _) | exact HI279.out)); (case side2 => repeat (first | (with_reducible first | exact HB.out | apply z8 | apply z6 | apply z7 | refine zb ?_ (IsS86.ge HI279.out) | refine zb ?_ GE278.out) | exact HB.out)); rintro e w12 ⟨rfl, hi, hb, hk⟩; refine ⟨_, rfl, ?_⟩; have n0_ := Aside0.mk (KeepBut.blk hk (g' := gb278) (o := .cells #[.int .i64 0, .int .i64 0, .int .i64 0, .int .i64 0, .int .i64 0, .int .i64 0, .slice none 0 0] 45 (0, 0)) (by (with_reducible repeat (first | refine ze ?_ _ | refine zf ?_ | refine zc ?_ _)); exact BK278.out) NB278_279.out (by simp)); have n1_ := Aside0.mk (hb); have n2_ := Aside0.mk (hi); clear BK278; clear HB; clear HI279; have BK278 := n0_; have HB := n1_; have HI279 := n2_; clear n0_ n1_ n2_; (try clear hb); (try clear hb2); (try clear hk); (try clear hi)) | ((with_reducible refine zu (f := 44) rfl ?_); refine yn (some 13) rfl rfl Try.func44 (by kernel_rfl) rfl #[.pointer (some ⟨gb279, 0, none⟩)] rfl (by (try simp only [List.map_toArray, List.map_cons, List.map_nil]); first | done | rfl | (simp only [List.length_drop, List.length_take]; rfl)) ?_; (with_reducible refine (zl.calls k gb279 t281 t282 t283 t284 t285 w _ ?side1 ?side2 A3.out).mono ?_); (case side1 => repeat (first | (with_reducible first | exact HI279.out | apply IsS86.alloc | apply IsS86.drewN | apply IsS86.drew | apply IsS86.set_0 | apply IsS86.set_1 | refine IsS86.far ?_ NB279_278.out _) | exact HI279.out)); (case side2 => repeat (first | (with_reducible first | exact HB.out | apply z8 | apply z6 | apply z7 | refine zb ?_ (IsS86.ge HI279.out) | refine zb ?_ GE278.out) | exact HB.out)); rintro e w13 ⟨rfl, hi, hb, hk⟩; refine ⟨_, rfl, ?_⟩; have n0_ := Aside0.mk (KeepBut.blk hk (g' := gb278) (o := .cells #[.int .i64 0, .int .i64 0, .int .i64 0, .int .i64 0, .int .i64 0, .int .i64 0, .slice none 0 0] 45 (0, 0)) (by (with_reducible repeat (first | refine ze ?_ _ | refine zf ?_ | refine zc ?_ _)); exact BK278.out) NB278_279.out (by simp)); have n1_ := Aside0.mk (hb); have n2_ := Aside0.mk (hi); clear BK278; clear HB; clear HI279; have BK278 := n0_; have HB := n1_; have HI279 := n2_; clear n0_ n1_ n2_; (try clear hb); (try clear hb2); (try clear hk); (try clear hi)) | ((with_reducible refine zu (f := 44) rfl ?_); refine yn (some 15) rfl rfl Try.func44 (by kernel_rfl) rfl #[.pointer (some ⟨gb279, 0, none⟩)] rfl (by (try simp only [List.map_toArray, List.map_cons, List.map_nil]); first | done | rfl | (simp only [List.length_drop, List.length_take]; rfl)) ?_; (with_reducible refine (zl.calls k gb279 t284 t285 t286 t287 t288 w _ ?side1 ?side2 A4.out).mono ?_); (case side1 => repeat (first | (with_reducible first | exact HI279.out | apply IsS86.alloc | apply IsS86.drewN | apply IsS86.drew | apply IsS86.set_0 | apply IsS86.set_1 | refine IsS86.far ?_ NB279_278.out _) | exact HI279.out)); (case side2 => repeat (first | (with_reducible first | exact HB.out | apply z8 | apply z6 | apply z7 | refine zb ?_ (IsS86.ge HI279.out) | refine zb ?_ GE278.out) | exact HB.out)); rintro e w14 ⟨rfl, hi, hb, hk⟩; refine ⟨_, rfl, ?_⟩; have n0_ := Aside0.mk (KeepBut.blk hk (g' := gb278) (o := .cells #[.int .i64 0, .int .i64 0, .int .i64 0, .int .i64 0, .int .i64 0, .int .i64 0, .slice none 0 0] 45 (0, 0)) (by (with_reducible repeat (first | refine ze ?_ _ | refine zf ?_ | refine zc ?_ _)); exact BK278.out) NB278_279.out (by simp)); have n1_ := Aside0.mk (hb); have n2_ := Aside0.mk (hi); clear BK278; clear HB; clear HI279; have BK278 := n0_; have HB := n1_; have HI279 := n2_; clear n0_ n1_ n2_; (try clear hb); (try clear hb2); (try clear hk); (try clear hi)) | ((with_reducible refine zu (f := 44) rfl ?_); refine yn (some 17) rfl rfl Try.func44 (by kernel_rfl) rfl #[.pointer (some ⟨gb279, 0, none⟩)] rfl (by (try simp only [List.map_toArray, List.map_cons, List.map_nil]); first | done | rfl | (simp only [List.length_drop, List.length_take]; rfl)) ?_; (with_reducible refine (zl.calls k gb279 t287 t288 t289 t290 t291 w _ ?side1 ?side2 A5.out).mono ?_); (case side1 => repeat (first | (with_reducible first | exact HI279.out | apply IsS86.alloc | apply IsS86.drewN | apply IsS86.drew | apply IsS86.set_0 | apply IsS86.set_1 | refine IsS86.far ?_ NB279_278.out _) | exact HI279.out)); (case side2 => repeat (first | (with_reducible first | exact HB.out | apply z8 | apply z6 | apply z7 | refine zb ?_ (IsS86.ge HI279.out) | refine zb ?_ GE278.out) | exact HB.out)); rintro e w15 ⟨rfl, hi, hb, hk⟩; refine ⟨_, rfl, ?_⟩; have n0_ := Aside0.mk (KeepBut.blk hk (g' := gb278) (o := .cells #[.int .i64 0, .int .i64 0, .int .i64 0, .int .i64 0, .int .i64 0, .int .i64 0, .slice none 0 0] 45 (0, 0)) (by (with_reducible repeat (first | refine ze ?_ _ | refine zf ?_ | refine zc ?_ _)); exact BK278.out) NB278_279.out (by simp)); have n1_ := Aside0.mk (hb); have n2_ := Aside0.mk (hi); clear BK278; clear HB; clear HI279; have BK278 := n0_; have HB := n1_; have HI279 := n2_; clear n0_ n1_ n2_; (try clear hb); (try clear hb2); (try clear hk); (try clear hi)) | ((with_reducible refine zu (f := 44) rfl ?_); refine yn (some 19) rfl rfl Try.func44 (by kernel_rfl) rfl #[.pointer (some ⟨gb279, 0, none⟩)] rfl (by (try simp only [List.map_toArray, List.map_cons, List.map_nil]); first | done | rfl | (simp only [List.length_drop, List.length_take]; rfl)) ?_; (with_reducible refine (zl.calls k gb279 t290 t291 t292 t293 t294 w _ ?side1 ?side2 A6.out).mono ?_); (case side1 => repeat (first | (with_reducible first | exact HI279.out | apply IsS86.alloc | apply IsS86.drewN | apply IsS86.drew | apply IsS86.set_0 | apply IsS86.set_1 | refine IsS86.far ?_ NB279_278.out _) | exact HI279.out)); (case side2 => repeat (first | (with_reducible first | exact HB.out | apply z8 | apply z6 | apply z7 | refine zb ?_ (IsS86.ge HI279.out) | refine zb ?_ GE278.out) | exact HB.out)); rintro e w16 ⟨rfl, hi, hb, hk⟩; refine ⟨_, rfl, ?_⟩; have n0_ := Aside0.mk (KeepBut.blk hk (g' := gb278) (o := .cells #[.int .i64 0, .int .i64 0, .int .i64 0, .int .i64 0, .int .i64 0, .int .i64 0, .slice none 0 0] 45 (0, 0)) (by (with_reducible repeat (first | refine ze ?_ _ | refine zf ?_ | refine zc ?_ _)); exact BK278.out) NB278_279.out (by simp)); have n1_ := Aside0.mk (hb); have n2_ := Aside0.mk (hi); clear BK278; clear HB; clear HI279; have BK278 := n0_; have HB := n1_; have HI279 := n2_; clear n0_ n1_ n2_; (try clear hb); (try clear hb2); (try clear hk); (try clear hi)) | ((with_reducible refine zu (f := 44) rfl ?_); refine yn (some 21) rfl rfl Try.func44 (by kernel_rfl) rfl #[.pointer (some ⟨gb279, 0, none⟩)] rfl (by (try simp only [List.map_toArray, List.map_cons, List.map_nil]); first | done | rfl | (simp only [List.length_drop, List.length_take]; rfl)) ?_; (with_reducible refine (zl.calls k gb279 t293 t294 t295 t296 t297 w _ ?side1 ?side2 A7.out).mono ?_); (case side1 => repeat (first | (with_reducible first | exact HI279.out | apply IsS86.alloc | apply IsS86.drewN | apply IsS86.drew | apply IsS86.set_0 | apply IsS86.set_1 | refine IsS86.far ?_ NB279_278.out _) | exact HI279.out)); (case side2 => repeat (first | (with_reducible first | exact HB.out | apply z8 | apply z6 | apply z7 | refine zb ?_ (IsS86.ge HI279.out) | refine zb ?_ GE278.out) | exact HB.out)); rintro e w17 ⟨rfl, hi, hb, hk⟩; refine ⟨_, rfl, ?_⟩; have n0_ := Aside0.mk (KeepBut.blk hk (g' := gb278) (o := .cells #[.int .i64 0, .int .i64 0, .int .i64 0, .int .i64 0, .int .i64 0, .int .i64 0, .slice none 0 0] 45 (0, 0)) (by (with_reducible repeat (first | refine ze ?_ _ | refine zf ?_ | refine zc ?_ _)); exact BK278.out) NB278_279.out (by simp)); have n1_ := Aside0.mk (hb); have n2_ := Aside0.mk (hi); clear BK278; clear HB; clear HI279; have BK278 := n0_; have HB := n1_; have HI279 := n2_; clear n0_ n1_ n2_; (try clear hb); (try clear hb2); (try clear hk); (try clear hi)) | ((with_reducible refine yf (N := 5) rfl ?_); refine yd ?hg (N := 5) ?hd (cs := #[.int .i64 0, .int .i64 0, .int .i64 0, .int .i64 0, .int .i64 0, .int .i64 0, .slice none 0 0]) (t := 45) ?hr ?_; (case hd => rfl); (case hg => rfl); (case hr => first | (go_simp; done) | (go_simp; rfl)); intro gb298 hg w18 hbox hb; have n0_ := Aside0.mk (zt (by (with_reducible repeat (first | refine ze ?_ _ | refine zf ?_ | refine zc ?_ _)); exact BK278.out) hb); have n1_ := Aside0.mk (IsS86.below (by repeat (first | (with_reducible first | exact HI279.out | apply IsS86.alloc | apply IsS86.drewN | apply IsS86.drew | apply IsS86.set_0 | apply IsS86.set_1 | refine IsS86.far ?_ NB279_278.out _) | exact HI279.out)) hb); have n2_ := Aside0.mk (zj (by repeat (first | (with_reducible first | exact HB.out | apply z8 | apply z6 | apply z7 | refine zb ?_ (IsS86.ge HI279.out) | refine zb ?_ GE278.out) | exact HB.out)) hb); have n3_ := Aside0.mk (hbox); have n4_ := Aside0.mk ((by rw [hg]; exact (zk (by repeat (first | (with_reducible first | exact HB.out | apply z8 | apply z6 | apply z7 | refine zb ?_ (IsS86.ge HI279.out) | refine zb ?_ GE278.out) | exact HB.out))) : w.heap.size ≤ gb298)); have n5_ := Aside0.mk ((by rw [hg]; exact (zk (by repeat (first | (with_reducible first | exact HB.out | apply z8 | apply z6 | apply z7 | refine zb ?_ (IsS86.ge HI279.out) | refine zb ?_ GE278.out) | exact HB.out))) : w.heap.size ≤ gb298)); have n6_ := Aside0.mk ((by rw [hg]; exact Nat.ne_of_lt (vo (g := gb278) (o := .cells #[.int .i64 0, .int .i64 0, .int .i64 0, .int .i64 0, .int .i64 0, .int .i64 0, .slice none 0 0] 45 (0, 0)) (by (with_reducible repeat (first | refine ze ?_ _ | refine zf ?_ | refine zc ?_ _)); exact BK278.out)) : gb278 ≠ gb298)); have n7_ := Aside0.mk ((by rw [hg]; exact Nat.ne_of_gt (vo (g := gb278) (o := .cells #[.int .i64 0, .int .i64 0, .int .i64 0, .int .i64 0, .int .i64 0, .int .i64 0, .slice none 0 0] 45 (0, 0)) (by (with_reducible repeat (first | refine ze ?_ _ | refine zf ?_ | refine zc ?_ _)); exact BK278.out)) : gb298 ≠ gb278)); have n8_ := Aside0.mk ((by rw [hg]; exact Nat.ne_of_lt (IsS86.lt (show IsS86 w _ gb279 t296 t297 from by repeat (first | (with_reducible first | exact HI279.out | apply IsS86.alloc | apply IsS86.drewN | apply IsS86.drew | apply IsS86.set_0 | apply IsS86.set_1 | refine IsS86.far ?_ NB279_278.out _) | exact HI279.out))) : gb279 ≠ gb298)); have n9_ := Aside0.mk ((by rw [hg]; exact Nat.ne_of_gt (IsS86.lt (show IsS86 w _ gb279 t296 t297 from by repeat (first | (with_reducible first | exact HI279.out | apply IsS86.alloc | apply IsS86.drewN | apply IsS86.drew | apply IsS86.set_0 | apply IsS86.set_1 | refine IsS86.far ?_ NB279_278.out _) | exact HI279.out))) : gb298 ≠ gb279)); clear BK278; clear HI279; clear HB; have BK278 := n0_; have HI279 := n1_; have HB := n2_; have BK298 := n3_; have GW298 := n4_; have GE298 := n5_; have NB278_298 := n6_; have NB298_278 := n7_; have NB279_298 := n8_; have NB298_279 := n9_; clear n0_ n1_ n2_ n3_ n4_ n5_ n6_ n7_ n8_ n9_; clear hb hbox hg; have hnb19 := NB298_278.out; have hnc19 := NB278_298.out; have hnb20 := NB298_279.out; have hnc20 := NB279_298.out; have hcz21_0 := ug BK298.out; have hfz21_0 := fun j_ => zi BK298.out j_) | ((with_reducible refine zu (f := 44) rfl ?_); refine yn (some 24) rfl rfl Try.func44 (by kernel_rfl) rfl #[.pointer (some ⟨gb279, 0, none⟩)] rfl (by (try simp only [List.map_toArray, List.map_cons, List.map_nil]); first | done | rfl | (simp only [List.length_drop, List.length_take]; rfl)) ?_; (with_reducible refine (zl.calls k gb279 t296 t297 t299 t300 t301 w _ ?side1 ?side2 A8.out).mono ?_); (case side1 => repeat (first | (with_reducible first | exact HI279.out | apply IsS86.alloc | apply IsS86.drewN | apply IsS86.drew | apply IsS86.set_0 | apply IsS86.set_1 | refine IsS86.far ?_ NB279_278.out _ | refine IsS86.far ?_ NB279_298.out _) | exact HI279.out)); (case side2 => repeat (first | (with_reducible first | exact HB.out | apply z8 | apply z6 | apply z7 | refine zb ?_ (IsS86.ge HI279.out) | refine zb ?_ GE278.out | refine zb ?_ GE298.out) | exact HB.out)); rintro e w22 ⟨rfl, hi, hb, hk⟩; refine ⟨_, rfl, ?_⟩; have n0_ := Aside0.mk (KeepBut.blk hk (g' := gb278) (o := .cells #[.int .i64 0, .int .i64 0, .int .i64 0, .int .i64 0, .int .i64 0, .int .i64 0, .slice none 0 0] 45 (0, 0)) (by (with_reducible repeat (first | refine ze ?_ _ | refine zf ?_ | refine zc ?_ _)); refine zp ?_ NB278_298.out _; (with_reducible repeat (first | refine ze ?_ _ | refine zf ?_ | refine zc ?_ _)); refine zp ?_ NB278_298.out _; (with_reducible repeat (first | refine ze ?_ _ | refine zf ?_ | refine zc ?_ _)); refine zp ?_ NB278_298.out _; (with_reducible repeat (first | refine ze ?_ _ | refine zf ?_ | refine zc ?_ _)); refine zp ?_ NB278_298.out _; (with_reducible repeat (first | refine ze ?_ _ | refine zf ?_ | refine zc ?_ _)); refine zp ?_ NB278_298.out _; (with_reducible repeat (first | refine ze ?_ _ | refine zf ?_ | refine zc ?_ _)); refine zp ?_ NB278_298.out _; (with_reducible repeat (first | refine ze ?_ _ | refine zf ?_ | refine zc ?_ _)); refine zp ?_ NB278_298.out _; (with_reducible repeat (first | refine ze ?_ _ | refine zf ?_ | refine zc ?_ _)); exact BK278.out) NB278_279.out (by simp)); have n1_ := Aside0.mk (KeepBut.blk hk (g' := gb298) (o := .cells #[.int .i64 t280, .int .i64 t283, .int .i64 t286, .int .i64 t289, .int .i64 t292, .int .i64 t295, .slice none 0 0] 45 (0, 0)) (by (with_reducible repeat (first | refine ze ?_ _ | refine zf ?_ | refine zc ?_ _)); refine zx (cs := #[.int .i64 t280, .int .i64 t283, .int .i64 t286, .int .i64 t289, .int .i64 t292, .int .i64 t295, .slice none 0 0]) ?_ 6 _ rfl; (with_reducible repeat (first | refine ze ?_ _ | refine zf ?_ | refine zc ?_ _)); refine zx (cs := #[.int .i64 t280, .int .i64 t283, .int .i64 t286, .int .i64 t289, .int .i64 t292, .int .i64 0, .slice none 0 0]) ?_ 5 _ rfl; (with_reducible repeat (first | refine ze ?_ _ | refine zf ?_ | refine zc ?_ _)); refine zx (cs := #[.int .i64 t280, .int .i64 t283, .int .i64 t286, .int .i64 t289, .int .i64 0, .int .i64 0, .slice none 0 0]) ?_ 4 _ rfl; (with_reducible repeat (first | refine ze ?_ _ | refine zf ?_ | refine zc ?_ _)); refine zx (cs := #[.int .i64 t280, .int .i64 t283, .int .i64 t286, .int .i64 0, .int .i64 0, .int .i64 0, .slice none 0 0]) ?_ 3 _ rfl; (with_reducible repeat (first | refine ze ?_ _ | refine zf ?_ | refine zc ?_ _)); refine zx (cs := #[.int .i64 t280, .int .i64 t283, .int .i64 0, .int .i64 0, .int .i64 0, .int .i64 0, .slice none 0 0]) ?_ 2 _ rfl; (with_reducible repeat (first | refine ze ?_ _ | refine zf ?_ | refine zc ?_ _)); refine zx (cs := #[.int .i64 t280, .int .i64 0, .int .i64 0, .int .i64 0, .int .i64 0, .int .i64 0, .slice none 0 0]) ?_ 1 _ rfl; (with_reducible repeat (first | refine ze ?_ _ | refine zf ?_ | refine zc ?_ _)); refine zx (cs := #[.int .i64 0, .int .i64 0, .int .i64 0, .int .i64 0, .int .i64 0, .int .i64 0, .slice none 0 0]) ?_ 0 _ rfl; (with_reducible repeat (first | refine ze ?_ _ | refine zf ?_ | refine zc ?_ _)); exact BK298.out) NB298_279.out (by simp)); have n2_ := Aside0.mk (hb); have n3_ := Aside0.mk (hi); clear BK278; clear BK298; clear HB; clear HI279; have BK278 := n0_; have BK298 := n1_; have HB := n2_; have HI279 := n3_; clear n0_ n1_ n2_ n3_; (try clear hb); (try clear hb2); (try clear hk); (try clear hi)))
 go_loopg [27] k (fun kq v27 w' => ∃ (x27_1 : Int) (x280000_1 : ByteArray) (x280001_1 : Bool) (x299006_1 : List (S38)) (u299006 : Value), v27 = .int .i64 x27_1 ∧ Aside0 (ym.l0 kq t299 ji9 x27_1 x280000_1 x280001_1 t280 t283 t286 t289 t292 t295 x299006_1 = some (r1, r2, r3, r4, r5, r6, r7, r8)) ∧ Aside0 (kq ≤ k) ∧ Aside0 (Kd.S k38 38 w' w.heap.size (fun _ => True) u299006 x299006_1) ∧ Aside0 (w'.heap[gb278]? = some (.cells #[.int .i64 0, .int .i64 0, .int .i64 0, .int .i64 0, .int .i64 0, .int .i64 0, (.slice none 0 0)] 45 (0, 0))) ∧ Aside0 (w'.heap[gb298]? = some (.cells #[.int .i64 t280, .int .i64 t283, .int .i64 t286, .int .i64 t289, .int .i64 t292, .int .i64 t295, u299006] 45 (0, 0))) ∧ Aside0 (IsS86 w w' gb279 x280000_1 x280001_1) ∧ Aside0 (Below w.heap.size w w'))
 case atStart => exact ⟨(0), (t300), (t301), (([] : List (S38))), (.slice none 0 0), (by first | rfl | (simp; done) | (simp [*]; done)), H', ⟨Nat.le_refl _⟩, ⟨by first | exact Kd.z1m _ _ _ _ _ | exact Kd.z1n _ _ _ _ _ | exact Kd.z1o _ _ _ _ _ | exact Kd.z1l _ _ _ _ _ | exact Kd.z0v _ _ _ _ _⟩, ⟨by (with_reducible repeat (first | refine ze ?_ _ | refine zf ?_ | refine zc ?_ _)); exact BK278.out⟩, ⟨by (with_reducible repeat (first | refine ze ?_ _ | refine zf ?_ | refine zc ?_ _)); exact BK298.out⟩, ⟨by repeat (first | (with_reducible first | exact HI279.out | apply IsS86.alloc | apply IsS86.drewN | apply IsS86.drew | apply IsS86.set_0 | apply IsS86.set_1 | refine IsS86.far ?_ NB279_278.out _ | refine IsS86.far ?_ NB279_298.out _) | exact HI279.out)⟩, ⟨by repeat (first | (with_reducible first | exact HB.out | apply z8 | apply z6 | apply z7 | refine zb ?_ (IsS86.ge HI279.out) | refine zb ?_ GE278.out | refine zb ?_ GE298.out) | exact HB.out)⟩⟩
 clear H'
 try clear c1
 try clear c2
 try clear p2
 try clear c4
 try clear c7
 try clear c12
 try clear c19
 try clear c20
 try clear hcz21_0
 try clear hfz21_0
 obtain ⟨x27_1, x280000_1, x280001_1, x299006_1, u299006, rfl, HA, HK1, HO_299006, BK278, BK298, HI279, HB⟩ := hrel
 cases gk with
 | zero => exact absurd HA.out (by simp [ym.l0])
 | succ k1 =>
  have H := HA.out
  clear HA
  simp only [ym.l0] at H
  by_cases c23 : x27_1 < ji9
  rotate_left
  ·
   rw [if_neg c23] at H
   have c23b0 : decide (x27_1 < ji9) = false := decide_eq_false c23
   clear c23
   by_cases c32 : x280001_1 = true
   ·
    subst c32
    have H1 : (some (0, 0, 0, 0, 0, 0, ([] : List (S38)), 7)) = some (r1, r2, r3, r4, r5, r6, r7, r8) := by rw [if_pos rfl] at H; exact H
    clear H
    have H := H1
    clear H1
    simp only [Option.some.injEq, Prod.mk.injEq] at H
    obtain ⟨rfl, rfl, rfl, rfl, rfl, rfl, rfl, rfl⟩ := H
    obtain ⟨HGz33, hgz33⟩ := HI279.out
    have hcz33_0 := jg HGz33
    have hcz33_1 := jh HGz33
    have hfz33_0 := zi HGz33 0
    have hfz33_1 := zi HGz33 1
    clear HGz33 hgz33
    have hnb34 := NB278_298.out
    have hnc34 := NB298_278.out
    have hnb35 := NB278_279.out
    have hnc35 := NB279_278.out
    have hcz36_0 := ug BK278.out
    have hfz36_0 := fun j_ => zi BK278.out j_
    go_wp2
    refine bodyPost_ret (z0x rfl _ _ gb278 45 #[.int .i64 0, .int .i64 0, .int .i64 0, .int .i64 0, .int .i64 0, .int .i64 0, .slice none 0 0] (0, 0) _ rfl (by (with_reducible repeat (first | refine ze ?_ _ | refine zf ?_ | refine zc ?_ _)); refine zx (cs := #[.int .i64 0, .int .i64 0, .int .i64 0, .int .i64 0, .int .i64 0, .int .i64 0, .slice none 0 0]) ?_ 6 _ rfl; (with_reducible repeat (first | refine ze ?_ _ | refine zf ?_ | refine zc ?_ _)); refine zx (cs := #[.int .i64 0, .int .i64 0, .int .i64 0, .int .i64 0, .int .i64 0, .int .i64 0, .slice none 0 0]) ?_ 5 _ rfl; (with_reducible repeat (first | refine ze ?_ _ | refine zf ?_ | refine zc ?_ _)); refine zx (cs := #[.int .i64 0, .int .i64 0, .int .i64 0, .int .i64 0, .int .i64 0, .int .i64 0, .slice none 0 0]) ?_ 4 _ rfl; (with_reducible repeat (first | refine ze ?_ _ | refine zf ?_ | refine zc ?_ _)); refine zx (cs := #[.int .i64 0, .int .i64 0, .int .i64 0, .int .i64 0, .int .i64 0, .int .i64 0, .slice none 0 0]) ?_ 3 _ rfl; (with_reducible repeat (first | refine ze ?_ _ | refine zf ?_ | refine zc ?_ _)); refine zx (cs := #[.int .i64 0, .int .i64 0, .int .i64 0, .int .i64 0, .int .i64 0, .int .i64 0, .slice none 0 0]) ?_ 2 _ rfl; (with_reducible repeat (first | refine ze ?_ _ | refine zf ?_ | refine zc ?_ _)); refine zx (cs := #[.int .i64 0, .int .i64 0, .int .i64 0, .int .i64 0, .int .i64 0, .int .i64 0, .slice none 0 0]) ?_ 1 _ rfl; (with_reducible repeat (first | refine ze ?_ _ | refine zf ?_ | refine zc ?_ _)); refine zx (cs := #[.int .i64 0, .int .i64 0, .int .i64 0, .int .i64 0, .int .i64 0, .int .i64 0, .slice none 0 0]) ?_ 0 _ rfl; (with_reducible repeat (first | refine ze ?_ _ | refine zf ?_ | refine zc ?_ _)); exact BK278.out) Try.underlying45 rfl (by kernel_rfl)) rfl ?_
    exact ⟨_, by first | rfl | (simp [zm, zn] <;> rfl) | (simp only [← hji9]; first | rfl | (simp [zm, zn] <;> rfl)) | (simp [*, zm, zn] <;> rfl), by first | exact Kd.z1m _ _ _ _ _ | exact Kd.z1n _ _ _ _ _ | exact Kd.z1o _ _ _ _ _ | exact Kd.z1l _ _ _ _ _ | exact Kd.z0v _ _ _ _ _, by repeat (first | (with_reducible first | exact HB.out | apply z8 | apply z6 | apply z7 | refine zb ?_ (IsS86.ge HI279.out) | refine zb ?_ GE278.out | refine zb ?_ GE298.out) | exact HB.out)⟩
   replace c32 := Bool.eq_false_iff.mpr c32
   subst c32
   have H1 : (if t299 > 4 then (some (0, 0, 0, 0, 0, 0, ([] : List (S38)), 7)) else (if x280000_1.toList = ([] : List UInt8) then ((zq.f k1 t280 t283 t286 t289 t292 t295 x299006_1).bind fun t320 => (if t320 = true then (some (t280, t283, t286, t289, t292, t295, x299006_1, 0)) else (some (0, 0, 0, 0, 0, 0, ([] : List (S38)), 7)))) else (some (0, 0, 0, 0, 0, 0, ([] : List (S38)), 7)))) = some (r1, r2, r3, r4, r5, r6, r7, r8) := by rw [if_neg (show ¬ (false = true) by decide)] at H; exact H
   clear H
   have H := H1
   clear H1
   by_cases c37 : t299 > 4
   ·
    rw [if_pos c37] at H
    have c37b0 : decide (4 < t299) = true := decide_eq_true c37
    clear c37
    simp only [Option.some.injEq, Prod.mk.injEq] at H
    obtain ⟨rfl, rfl, rfl, rfl, rfl, rfl, rfl, rfl⟩ := H
    obtain ⟨HGz38, hgz38⟩ := HI279.out
    have hcz38_0 := jg HGz38
    have hcz38_1 := jh HGz38
    have hfz38_0 := zi HGz38 0
    have hfz38_1 := zi HGz38 1
    clear HGz38 hgz38
    have hnb39 := NB278_298.out
    have hnc39 := NB298_278.out
    have hnb40 := NB278_279.out
    have hnc40 := NB279_278.out
    have hcz41_0 := ug BK278.out
    have hfz41_0 := fun j_ => zi BK278.out j_
    go_wp2
    refine bodyPost_ret (z0x rfl _ _ gb278 45 #[.int .i64 0, .int .i64 0, .int .i64 0, .int .i64 0, .int .i64 0, .int .i64 0, .slice none 0 0] (0, 0) _ rfl (by (with_reducible repeat (first | refine ze ?_ _ | refine zf ?_ | refine zc ?_ _)); refine zx (cs := #[.int .i64 0, .int .i64 0, .int .i64 0, .int .i64 0, .int .i64 0, .int .i64 0, .slice none 0 0]) ?_ 6 _ rfl; (with_reducible repeat (first | refine ze ?_ _ | refine zf ?_ | refine zc ?_ _)); refine zx (cs := #[.int .i64 0, .int .i64 0, .int .i64 0, .int .i64 0, .int .i64 0, .int .i64 0, .slice none 0 0]) ?_ 5 _ rfl; (with_reducible repeat (first | refine ze ?_ _ | refine zf ?_ | refine zc ?_ _)); refine zx (cs := #[.int .i64 0, .int .i64 0, .int .i64 0, .int .i64 0, .int .i64 0, .int .i64 0, .slice none 0 0]) ?_ 4 _ rfl; (with_reducible repeat (first | refine ze ?_ _ | refine zf ?_ | refine zc ?_ _)); refine zx (cs := #[.int .i64 0, .int .i64 0, .int .i64 0, .int .i64 0, .int .i64 0, .int .i64 0, .slice none 0 0]) ?_ 3 _ rfl; (with_reducible repeat (first | refine ze ?_ _ | refine zf ?_ | refine zc ?_ _)); refine zx (cs := #[.int .i64 0, .int .i64 0, .int .i64 0, .int .i64 0, .int .i64 0, .int .i64 0, .slice none 0 0]) ?_ 2 _ rfl; (with_reducible repeat (first | refine ze ?_ _ | refine zf ?_ | refine zc ?_ _)); refine zx (cs := #[.int .i64 0, .int .i64 0, .int .i64 0, .int .i64 0, .int .i64 0, .int .i64 0, .slice none 0 0]) ?_ 1 _ rfl; (with_reducible repeat (first | refine ze ?_ _ | refine zf ?_ | refine zc ?_ _)); refine zx (cs := #[.int .i64 0, .int .i64 0, .int .i64 0, .int .i64 0, .int .i64 0, .int .i64 0, .slice none 0 0]) ?_ 0 _ rfl; (with_reducible repeat (first | refine ze ?_ _ | refine zf ?_ | refine zc ?_ _)); exact BK278.out) Try.underlying45 rfl (by kernel_rfl)) rfl ?_
    exact ⟨_, by first | rfl | (simp [zm, zn] <;> rfl) | (simp only [← hji9]; first | rfl | (simp [zm, zn] <;> rfl)) | (simp [*, zm, zn] <;> rfl), by first | exact Kd.z1m _ _ _ _ _ | exact Kd.z1n _ _ _ _ _ | exact Kd.z1o _ _ _ _ _ | exact Kd.z1l _ _ _ _ _ | exact Kd.z0v _ _ _ _ _, by repeat (first | (with_reducible first | exact HB.out | apply z8 | apply z6 | apply z7 | refine zb ?_ (IsS86.ge HI279.out) | refine zb ?_ GE278.out | refine zb ?_ GE298.out) | exact HB.out)⟩
   rw [if_neg c37] at H
   have c37b0 : decide (4 < t299) = false := decide_eq_false c37
   clear c37
   by_cases c42 : x280000_1.toList = ([] : List UInt8)
   rotate_left
   ·
    rw [if_neg c42] at H
    have c42b0 : (x280000_1.toList == ([] : List UInt8)) = false := beq_eq_false_iff_ne.mpr c42
    have c42b1 : (x280000_1.toList != ([] : List UInt8)) = true := bne_iff_ne.mpr c42
    simp only [Option.some.injEq, Prod.mk.injEq] at H
    obtain ⟨rfl, rfl, rfl, rfl, rfl, rfl, rfl, rfl⟩ := H
    obtain ⟨HGz62, hgz62⟩ := HI279.out
    have hcz62_0 := jg HGz62
    have hcz62_1 := jh HGz62
    have hfz62_0 := zi HGz62 0
    have hfz62_1 := zi HGz62 1
    clear HGz62 hgz62
    have hnb63 := NB278_298.out
    have hnc63 := NB298_278.out
    have hnb64 := NB278_279.out
    have hnc64 := NB279_278.out
    have hcz65_0 := ug BK278.out
    have hfz65_0 := fun j_ => zi BK278.out j_
    go_wp2
    refine bodyPost_ret (z0x rfl _ _ gb278 45 #[.int .i64 0, .int .i64 0, .int .i64 0, .int .i64 0, .int .i64 0, .int .i64 0, .slice none 0 0] (0, 0) _ rfl (by (with_reducible repeat (first | refine ze ?_ _ | refine zf ?_ | refine zc ?_ _)); refine zx (cs := #[.int .i64 0, .int .i64 0, .int .i64 0, .int .i64 0, .int .i64 0, .int .i64 0, .slice none 0 0]) ?_ 6 _ rfl; (with_reducible repeat (first | refine ze ?_ _ | refine zf ?_ | refine zc ?_ _)); refine zx (cs := #[.int .i64 0, .int .i64 0, .int .i64 0, .int .i64 0, .int .i64 0, .int .i64 0, .slice none 0 0]) ?_ 5 _ rfl; (with_reducible repeat (first | refine ze ?_ _ | refine zf ?_ | refine zc ?_ _)); refine zx (cs := #[.int .i64 0, .int .i64 0, .int .i64 0, .int .i64 0, .int .i64 0, .int .i64 0, .slice none 0 0]) ?_ 4 _ rfl; (with_reducible repeat (first | refine ze ?_ _ | refine zf ?_ | refine zc ?_ _)); refine zx (cs := #[.int .i64 0, .int .i64 0, .int .i64 0, .int .i64 0, .int .i64 0, .int .i64 0, .slice none 0 0]) ?_ 3 _ rfl; (with_reducible repeat (first | refine ze ?_ _ | refine zf ?_ | refine zc ?_ _)); refine zx (cs := #[.int .i64 0, .int .i64 0, .int .i64 0, .int .i64 0, .int .i64 0, .int .i64 0, .slice none 0 0]) ?_ 2 _ rfl; (with_reducible repeat (first | refine ze ?_ _ | refine zf ?_ | refine zc ?_ _)); refine zx (cs := #[.int .i64 0, .int .i64 0, .int .i64 0, .int .i64 0, .int .i64 0, .int .i64 0, .slice none 0 0]) ?_ 1 _ rfl; (with_reducible repeat (first | refine ze ?_ _ | refine zf ?_ | refine zc ?_ _)); refine zx (cs := #[.int .i64 0, .int .i64 0, .int .i64 0, .int .i64 0, .int .i64 0, .int .i64 0, .slice none 0 0]) ?_ 0 _ rfl; (with_reducible repeat (first | refine ze ?_ _ | refine zf ?_ | refine zc ?_ _)); exact BK278.out) Try.underlying45 rfl (by kernel_rfl)) rfl ?_
    exact ⟨_, by first | rfl | (simp [zm, zn] <;> rfl) | (simp only [← hji9]; first | rfl | (simp [zm, zn] <;> rfl)) | (simp [*, zm, zn] <;> rfl), by first | exact Kd.z1m _ _ _ _ _ | exact Kd.z1n _ _ _ _ _ | exact Kd.z1o _ _ _ _ _ | exact Kd.z1l _ _ _ _ _ | exact Kd.z0v _ _ _ _ _, by repeat (first | (with_reducible first | exact HB.out | apply z8 | apply z6 | apply z7 | refine zb ?_ (IsS86.ge HI279.out) | refine zb ?_ GE278.out | refine zb ?_ GE298.out) | exact HB.out)⟩
   rw [if_pos c42] at H
   have c42b0 : (x280000_1.toList == ([] : List UInt8)) = true := beq_iff_eq.mpr c42
   have c42b1 : (x280000_1.toList != ([] : List UInt8)) = false := bne_eq_false_iff_eq.mpr c42
   clear c42
   replace H := Option.bind_eq_some_iff.mp H
   obtain ⟨t320, A430, H⟩ := H
   replace H : (if t320 = true then (some (t280, t283, t286, t289, t292, t295, x299006_1, 0)) else (some (0, 0, 0, 0, 0, 0, ([] : List (S38)), 7))) = some (r1, r2, r3, r4, r5, r6, r7, r8) := H
   have A43 := Aside0.mk A430
   clear A430
   by_cases c44 : t320 = true
   ·
    subst c44
    have H1 : (some (t280, t283, t286, t289, t292, t295, x299006_1, 0)) = some (r1, r2, r3, r4, r5, r6, r7, r8) := by rw [if_pos rfl] at H; exact H
    clear H
    have H := H1
    clear H1
    simp only [Option.some.injEq, Prod.mk.injEq] at H
    obtain ⟨rfl, rfl, rfl, rfl, rfl, rfl, rfl, rfl⟩ := H
    obtain ⟨HGz45, hgz45⟩ := HI279.out
    have hcz45_0 := jg HGz45
    have hcz45_1 := jh HGz45
    have hfz45_0 := zi HGz45 0
    have hfz45_1 := zi HGz45 1
    clear HGz45 hgz45
    have hnb46 := NB298_278.out
    have hnc46 := NB278_298.out
    have hnb47 := NB298_279.out
    have hnc47 := NB279_298.out
    have hcz48_0 := ug BK298.out
    have hfz48_0 := fun j_ => zi BK298.out j_
    obtain ⟨Ao49, co49, eo49⟩ := Kd.z0n HO_299006.out
    subst eo49
    go_wp2_with (first | (go_at_call 42; (with_reducible refine (zq.calls k1 t280 t283 t286 t289 t292 t295 _ _ x299006_1 true _ ?side1 ?side2 A43.out).mono ?_); (case side1 => repeat (first | exact (Kd.z14 HO_299006.out).2.2 | (with_reducible refine Kd.yo ?_ _) | (with_reducible refine Kd.yp ?_ _) | (with_reducible refine Kd.yy ?_))); (case side2 => exact (Kd.z14 HO_299006.out).2.1); rintro e w50 ⟨rfl, hb⟩; have n0_ := Aside0.mk (Kd.z02 (by (with_reducible repeat (first | apply Kd.jw | apply Kd.jx | apply Kd.jy)); exact HO_299006.out) hb); have n1_ := Aside0.mk (zt (by (with_reducible repeat (first | refine ze ?_ _ | refine zf ?_ | refine zc ?_ _)); exact BK278.out) hb); have n2_ := Aside0.mk (zt (by (with_reducible repeat (first | refine ze ?_ _ | refine zf ?_ | refine zc ?_ _)); exact BK298.out) hb); have n3_ := Aside0.mk (IsS86.below (by repeat (first | (with_reducible first | exact HI279.out | apply IsS86.alloc | apply IsS86.drewN | apply IsS86.drew | apply IsS86.set_0 | apply IsS86.set_1 | refine IsS86.far ?_ NB279_278.out _ | refine IsS86.far ?_ NB279_298.out _) | exact HI279.out)) hb); have n4_ := Aside0.mk (zj (by repeat (first | (with_reducible first | exact HB.out | apply z8 | apply z6 | apply z7 | refine zb ?_ (IsS86.ge HI279.out) | refine zb ?_ GE278.out | refine zb ?_ GE298.out) | exact HB.out)) hb); clear HO_299006; clear BK278; clear BK298; clear HI279; clear HB; have HO_299006 := n0_; have BK278 := n1_; have BK298 := n2_; have HI279 := n3_; have HB := n4_; clear n0_ n1_ n2_ n3_ n4_; (try clear hb); (try clear hb2); (try clear hk); (try clear hi); have hcz51_0 := ug BK298.out; have hfz51_0 := fun j_ => zi BK298.out j_; have hnb52 := NB278_279.out; have hnc52 := NB279_278.out; have hcz53_0 := ug BK278.out; have hfz53_0 := fun j_ => zi BK278.out j_))
    refine bodyPost_ret (z0x rfl _ _ gb278 45 #[.int .i64 t280, .int .i64 t283, .int .i64 t286, .int .i64 t289, .int .i64 t292, .int .i64 t295, .slice Ao49 x299006_1.length co49] (0, 0) _ rfl (by (with_reducible repeat (first | refine ze ?_ _ | refine zf ?_ | refine zc ?_ _)); refine zx (cs := #[.int .i64 t280, .int .i64 t283, .int .i64 t286, .int .i64 t289, .int .i64 t292, .int .i64 t295, .slice none 0 0]) ?_ 6 _ rfl; (with_reducible repeat (first | refine ze ?_ _ | refine zf ?_ | refine zc ?_ _)); refine zx (cs := #[.int .i64 t280, .int .i64 t283, .int .i64 t286, .int .i64 t289, .int .i64 t292, .int .i64 0, .slice none 0 0]) ?_ 5 _ rfl; (with_reducible repeat (first | refine ze ?_ _ | refine zf ?_ | refine zc ?_ _)); refine zx (cs := #[.int .i64 t280, .int .i64 t283, .int .i64 t286, .int .i64 t289, .int .i64 0, .int .i64 0, .slice none 0 0]) ?_ 4 _ rfl; (with_reducible repeat (first | refine ze ?_ _ | refine zf ?_ | refine zc ?_ _)); refine zx (cs := #[.int .i64 t280, .int .i64 t283, .int .i64 t286, .int .i64 0, .int .i64 0, .int .i64 0, .slice none 0 0]) ?_ 3 _ rfl; (with_reducible repeat (first | refine ze ?_ _ | refine zf ?_ | refine zc ?_ _)); refine zx (cs := #[.int .i64 t280, .int .i64 t283, .int .i64 0, .int .i64 0, .int .i64 0, .int .i64 0, .slice none 0 0]) ?_ 2 _ rfl; (with_reducible repeat (first | refine ze ?_ _ | refine zf ?_ | refine zc ?_ _)); refine zx (cs := #[.int .i64 t280, .int .i64 0, .int .i64 0, .int .i64 0, .int .i64 0, .int .i64 0, .slice none 0 0]) ?_ 1 _ rfl; (with_reducible repeat (first | refine ze ?_ _ | refine zf ?_ | refine zc ?_ _)); refine zx (cs := #[.int .i64 0, .int .i64 0, .int .i64 0, .int .i64 0, .int .i64 0, .int .i64 0, .slice none 0 0]) ?_ 0 _ rfl; (with_reducible repeat (first | refine ze ?_ _ | refine zf ?_ | refine zc ?_ _)); exact BK278.out) Try.underlying45 rfl (by kernel_rfl)) rfl ?_
    exact ⟨_, by first | rfl | (simp [zm, zn] <;> rfl) | (simp only [← hji9]; first | rfl | (simp [zm, zn] <;> rfl)) | (simp [*, zm, zn] <;> rfl), by (with_reducible repeat (first | apply Kd.jw | apply Kd.jx | apply Kd.jy)); exact Kd.z0j (Kd.jb (p := ⟨gb278, 6, none⟩) (Kd.jb (p := ⟨gb278, 5, none⟩) (Kd.jb (p := ⟨gb278, 4, none⟩) (Kd.jb (p := ⟨gb278, 3, none⟩) (Kd.jb (p := ⟨gb278, 2, none⟩) (Kd.jb (p := ⟨gb278, 1, none⟩) (Kd.jb (p := ⟨gb278, 0, none⟩) (Kd.z13 HO_299006.out BK278.out (by decide)) (fun _ hk => hk.2) (.int .i64 t280)) (fun _ hk => hk.2) (.int .i64 t283)) (fun _ hk => hk.2) (.int .i64 t286)) (fun _ hk => hk.2) (.int .i64 t289)) (fun _ hk => hk.2) (.int .i64 t292)) (fun _ hk => hk.2) (.int .i64 t295)) (fun _ hk => hk.2) (.slice Ao49 x299006_1.length co49)) (fun _ hk => trivial), by repeat (first | (with_reducible first | exact HB.out | apply z8 | apply z6 | apply z7 | refine zb ?_ (IsS86.ge HI279.out) | refine zb ?_ GE278.out | refine zb ?_ GE298.out) | exact HB.out)⟩
   replace c44 := Bool.eq_false_iff.mpr c44
   subst c44
   have H1 : (some (0, 0, 0, 0, 0, 0, ([] : List (S38)), 7)) = some (r1, r2, r3, r4, r5, r6, r7, r8) := by rw [if_neg (show ¬ (false = true) by decide)] at H; exact H
   clear H
   have H := H1
   clear H1
   simp only [Option.some.injEq, Prod.mk.injEq] at H
   obtain ⟨rfl, rfl, rfl, rfl, rfl, rfl, rfl, rfl⟩ := H
   obtain ⟨HGz54, hgz54⟩ := HI279.out
   have hcz54_0 := jg HGz54
   have hcz54_1 := jh HGz54
   have hfz54_0 := zi HGz54 0
   have hfz54_1 := zi HGz54 1
   clear HGz54 hgz54
   have hnb55 := NB298_278.out
   have hnc55 := NB278_298.out
   have hnb56 := NB298_279.out
   have hnc56 := NB279_298.out
   have hcz57_0 := ug BK298.out
   have hfz57_0 := fun j_ => zi BK298.out j_
   obtain ⟨Ao58, co58, eo58⟩ := Kd.z0n HO_299006.out
   subst eo58
   go_wp2_with (first | (go_at_call 42; (with_reducible refine (zq.calls k1 t280 t283 t286 t289 t292 t295 _ _ x299006_1 false _ ?side1 ?side2 A43.out).mono ?_); (case side1 => repeat (first | exact (Kd.z14 HO_299006.out).2.2 | (with_reducible refine Kd.yo ?_ _) | (with_reducible refine Kd.yp ?_ _) | (with_reducible refine Kd.yy ?_))); (case side2 => exact (Kd.z14 HO_299006.out).2.1); rintro e w59 ⟨rfl, hb⟩; have n0_ := Aside0.mk (Kd.z02 (by (with_reducible repeat (first | apply Kd.jw | apply Kd.jx | apply Kd.jy)); exact HO_299006.out) hb); have n1_ := Aside0.mk (zt (by (with_reducible repeat (first | refine ze ?_ _ | refine zf ?_ | refine zc ?_ _)); exact BK278.out) hb); have n2_ := Aside0.mk (zt (by (with_reducible repeat (first | refine ze ?_ _ | refine zf ?_ | refine zc ?_ _)); exact BK298.out) hb); have n3_ := Aside0.mk (IsS86.below (by repeat (first | (with_reducible first | exact HI279.out | apply IsS86.alloc | apply IsS86.drewN | apply IsS86.drew | apply IsS86.set_0 | apply IsS86.set_1 | refine IsS86.far ?_ NB279_278.out _ | refine IsS86.far ?_ NB279_298.out _) | exact HI279.out)) hb); have n4_ := Aside0.mk (zj (by repeat (first | (with_reducible first | exact HB.out | apply z8 | apply z6 | apply z7 | refine zb ?_ (IsS86.ge HI279.out) | refine zb ?_ GE278.out | refine zb ?_ GE298.out) | exact HB.out)) hb); clear HO_299006; clear BK278; clear BK298; clear HI279; clear HB; have HO_299006 := n0_; have BK278 := n1_; have BK298 := n2_; have HI279 := n3_; have HB := n4_; clear n0_ n1_ n2_ n3_ n4_; (try clear hb); (try clear hb2); (try clear hk); (try clear hi); have hnb60 := NB278_279.out; have hnc60 := NB279_278.out; have hcz61_0 := ug BK278.out; have hfz61_0 := fun j_ => zi BK278.out j_))
   refine bodyPost_ret (z0x rfl _ _ gb278 45 #[.int .i64 0, .int .i64 0, .int .i64 0, .int .i64 0, .int .i64 0, .int .i64 0, .slice none 0 0] (0, 0) _ rfl (by (with_reducible repeat (first | refine ze ?_ _ | refine zf ?_ | refine zc ?_ _)); refine zx (cs := #[.int .i64 0, .int .i64 0, .int .i64 0, .int .i64 0, .int .i64 0, .int .i64 0, .slice none 0 0]) ?_ 6 _ rfl; (with_reducible repeat (first | refine ze ?_ _ | refine zf ?_ | refine zc ?_ _)); refine zx (cs := #[.int .i64 0, .int .i64 0, .int .i64 0, .int .i64 0, .int .i64 0, .int .i64 0, .slice none 0 0]) ?_ 5 _ rfl; (with_reducible repeat (first | refine ze ?_ _ | refine zf ?_ | refine zc ?_ _)); refine zx (cs := #[.int .i64 0, .int .i64 0, .int .i64 0, .int .i64 0, .int .i64 0, .int .i64 0, .slice none 0 0]) ?_ 4 _ rfl; (with_reducible repeat (first | refine ze ?_ _ | refine zf ?_ | refine zc ?_ _)); refine zx (cs := #[.int .i64 0, .int .i64 0, .int .i64 0, .int .i64 0, .int .i64 0, .int .i64 0, .slice none 0 0]) ?_ 3 _ rfl; (with_reducible repeat (first | refine ze ?_ _ | refine zf ?_ | refine zc ?_ _)); refine zx (cs := #[.int .i64 0, .int .i64 0, .int .i64 0, .int .i64 0, .int .i64 0, .int .i64 0, .slice none 0 0]) ?_ 2 _ rfl; (with_reducible repeat (first | refine ze ?_ _ | refine zf ?_ | refine zc ?_ _)); refine zx (cs := #[.int .i64 0, .int .i64 0, .int .i64 0, .int .i64 0, .int .i64 0, .int .i64 0, .slice none 0 0]) ?_ 1 _ rfl; (with_reducible repeat (first | refine ze ?_ _ | refine zf ?_ | refine zc ?_ _)); refine zx (cs := #[.int .i64 0, .int .i64 0, .int .i64 0, .int .i64 0, .int .i64 0, .int .i64 0, .slice none 0 0]) ?_ 0 _ rfl; (with_reducible repeat (first | refine ze ?_ _ | refine zf ?_ | refine zc ?_ _)); exact BK278.out) Try.underlying45 rfl (by kernel_rfl)) rfl ?_
   exact ⟨_, by first | rfl | (simp [zm, zn] <;> rfl) | (simp only [← hji9]; first | rfl | (simp [zm, zn] <;> rfl)) | (simp [*, zm, zn] <;> rfl), by first | exact Kd.z1m _ _ _ _ _ | exact Kd.z1n _ _ _ _ _ | exact Kd.z1o _ _ _ _ _ | exact Kd.z1l _ _ _ _ _ | exact Kd.z0v _ _ _ _ _, by repeat (first | (with_reducible first | exact HB.out | apply z8 | apply z6 | apply z7 | refine zb ?_ (IsS86.ge HI279.out) | refine zb ?_ GE278.out | refine zb ?_ GE298.out) | exact HB.out)⟩
  rw [if_pos c23] at H
  have c23b0 : decide (x27_1 < ji9) = true := decide_eq_true c23
  clear c23
  replace H := Option.bind_eq_some_iff.mp H
  obtain ⟨⟨t302, t303, t304, t305, t306, t307, t308, t309, t312, t313, t314, t315, t316⟩, A240, H⟩ := H
  replace H : (if x299006_1.length < 1256584717458 then (ym.l0 k1 t299 ji9 (wrap64 (x27_1 + 1)) t315 t316 t280 t283 t286 t289 t292 t295 (x299006_1 ++ [(⟨t302, t303, t304, (⟨t305, t306, t307⟩ : S36), t308, t309, t312, t313, t314⟩ : S38)])) else (none)) = some (r1, r2, r3, r4, r5, r6, r7, r8) := H
  have A24 := Aside0.mk A240
  clear A240
  by_cases c25 : x299006_1.length < 1256584717458
  rotate_left
  ·
   rw [if_neg c25] at H
   exact absurd H (by simp)
  rw [if_pos c25] at H
  have LMc25 := Aside0.mk c25
  clear c25
  obtain ⟨y317, hy317⟩ : ∃ y_ : List (S38), y_ = (x299006_1 ++ [(⟨t302, t303, t304, (⟨t305, t306, t307⟩ : S36), t308, t309, t312, t313, t314⟩ : S38)]) := ⟨_, rfl⟩
  replace H : (ym.l0 k1 t299 ji9 (wrap64 (x27_1 + 1)) t315 t316 t280 t283 t286 t289 t292 t295 y317) = some (r1, r2, r3, r4, r5, r6, r7, r8) := by first | (rw [hy317]; with_reducible exact H) | (have H2_ := (Option.bind_some _ _).symm.trans H; rw [hy317]; with_reducible exact H2_) | (have H2_ := (Option.bind_some _ _).symm.trans H; with_reducible exact H2_) | with_reducible exact H | (rw [hy317]; exact H) | exact H
  have Ny317 := Aside0.mk hy317
  clear hy317
  have H' := Aside0.mk H
  clear H
  try go_wp2
  have n0_ := Aside0.mk (Kd.jy HO_299006.out)
  have n1_ := Aside0.mk (zf BK278.out)
  have n2_ := Aside0.mk (zf BK298.out)
  have n3_ := Aside0.mk (IsS86.drew HI279.out)
  have n4_ := Aside0.mk (z7 HB.out)
  clear HO_299006
  clear BK278
  clear BK298
  clear HI279
  clear HB
  have HO_299006 := n0_
  have BK278 := n1_
  have BK298 := n2_
  have HI279 := n3_
  have HB := n4_
  clear n0_ n1_ n2_ n3_ n4_
  refine ji (n := 8) (S := fun w' => w'.cell? ⟨gb298, 0, none⟩ = some (.int .i64 t280) ∧ w'.cell? ⟨gb298, 1, none⟩ = some (.int .i64 t283) ∧ w'.cell? ⟨gb298, 2, none⟩ = some (.int .i64 t286) ∧ w'.cell? ⟨gb298, 3, none⟩ = some (.int .i64 t289) ∧ w'.cell? ⟨gb298, 4, none⟩ = some (.int .i64 t292) ∧ w'.cell? ⟨gb298, 5, none⟩ = some (.int .i64 t295) ∧ w'.cell? ⟨gb298, 6, none⟩ = some (u299006)) (ds := [7]) #[false, false, false, false, false, false, false, false] (by kernel_rfl) rfl rfl ⟨(za BK298.out 0).trans rfl, (za BK298.out 1).trans rfl, (za BK298.out 2).trans rfl, (za BK298.out 3).trans rfl, (za BK298.out 4).trans rfl, (za BK298.out 5).trans rfl, (za BK298.out 6).trans rfl⟩ (fun hHeld => ?_); refine uy ym.tab6 ym.bits6 (fun HT_ HW_ => ?_)
  generalize wr.drew = w26 at HO_299006 BK278 BK298 HI279 HB hHeld ⊢
  refine pq_ 0 29 #[true, false, false, false, false, false, false, false] (zo HT_.out (by kernel_rfl)) ?_
  refine pq_ 2 31 #[true, false, true, false, false, false, false, false] (zo HT_.out (by kernel_rfl)) ?_
  refine tq_ 1 30 #[true, true, true, false, false, false, false, false] (yj HT_.out HW_.out (by kernel_rfl)) hHeld ?_
  refine ul (i := 3) (N := some 32) #[true, true, true, true, false, false, false, false] rfl rfl (vn HT_.out (by kernel_rfl)) (by decide) (fun K hK => ?_)
  refine j5 Try.func40 (by kernel_rfl) rfl #[.pointer (some ⟨gb279, 0, none⟩)] (by rfl) rfl rfl (by (try simp only [List.map_toArray, List.map_cons, List.map_nil]); first | done | rfl | (simp only [List.length_drop, List.length_take]; rfl)) ?_
  with_reducible refine (zw.calls k1 gb279 x280000_1 x280001_1 t302 t303 t304 t305 t306 t307 t308 t309 t312 t313 t314 t315 t316 w _ ?side1 ?side2 A24.out).mono ?_
  (case side1 => repeat (first | (with_reducible first | exact HI279.out | apply IsS86.alloc | apply IsS86.drewN | apply IsS86.drew | apply IsS86.set_0 | apply IsS86.set_1 | refine IsS86.far ?_ NB279_278.out _ | refine IsS86.far ?_ NB279_298.out _) | exact HI279.out))
  (case side2 => repeat (first | (with_reducible first | exact HB.out | apply z8 | apply z6 | apply z7 | refine zb ?_ (IsS86.ge HI279.out) | refine zb ?_ GE278.out | refine zb ?_ GE298.out) | exact HB.out))
  rintro e w27 ⟨v310, rfl, ho0, hi, hb, hk⟩
  refine ⟨_, rfl, ?_⟩
  have n0_ := Aside0.mk (Kd.z0j (Kd.zbz (Kd.zby (IsS86.apartS (show IsS86 w _ gb279 x280000_1 x280001_1 from by repeat (first | (with_reducible first | exact HI279.out | apply IsS86.alloc | apply IsS86.drewN | apply IsS86.drew | apply IsS86.set_0 | apply IsS86.set_1 | refine IsS86.far ?_ NB279_278.out _ | refine IsS86.far ?_ NB279_298.out _) | exact HI279.out)) (by (with_reducible repeat (first | apply Kd.jw | apply Kd.jx | apply Kd.jy)); exact HO_299006.out) (by decide)) hk) (Kd.z1v ho0)) (fun _ h_ => h_.1))
  have n1_ := Aside0.mk (KeepBut.blk hk (g' := gb278) (o := .cells #[.int .i64 0, .int .i64 0, .int .i64 0, .int .i64 0, .int .i64 0, .int .i64 0, .slice none 0 0] 45 (0, 0)) (by (with_reducible repeat (first | refine ze ?_ _ | refine zf ?_ | refine zc ?_ _)); exact BK278.out) NB278_279.out (by simp))
  have n2_ := Aside0.mk (KeepBut.blk hk (g' := gb298) (o := .cells #[.int .i64 t280, .int .i64 t283, .int .i64 t286, .int .i64 t289, .int .i64 t292, .int .i64 t295, u299006] 45 (0, 0)) (by (with_reducible repeat (first | refine ze ?_ _ | refine zf ?_ | refine zc ?_ _)); exact BK298.out) NB298_279.out (by simp))
  have n3_ := Aside0.mk (Kd.z00 ho0 (zk (by repeat (first | (with_reducible first | exact HB.out | apply z8 | apply z6 | apply z7 | refine zb ?_ (IsS86.ge HI279.out) | refine zb ?_ GE278.out | refine zb ?_ GE298.out) | exact HB.out))))
  have n4_ := Aside0.mk (hb)
  have n5_ := Aside0.mk (hi)
  clear HO_299006
  clear BK278
  clear BK298
  clear HB
  clear HI279
  have HO_299006 := n0_
  have BK278 := n1_
  have BK298 := n2_
  have HO311 := n3_
  have HB := n4_
  have HI279 := n5_
  clear n0_ n1_ n2_ n3_ n4_ n5_
  (try clear hb)
  (try clear hb2)
  (try clear hk)
  (try clear hi)
  (try clear ho0)
  obtain ⟨Ao29, co29, eo29⟩ := Kd.z01 HO311.out
  (first | subst eo29 | (injection eo29 with f1_ f2_ f3_; have f4_ := f1_.symm; have f5_ := f3_.symm; clear f1_ f2_ f3_; subst f4_; subst f5_))
  refine hK.out _ _ ⟨(za BK298.out 0).trans rfl, (za BK298.out 1).trans rfl, (za BK298.out 2).trans rfl, (za BK298.out 3).trans rfl, (za BK298.out 4).trans rfl, (za BK298.out 5).trans rfl, (za BK298.out 6).trans rfl⟩ (fun hHeld => ?_)
  clear hK K
  refine um (a' := ?_) ?_ ?_
  rotate_left
  ·
   show Act.put _ (some 32) _ = _
   simp only [Act.put, List.setIfInBounds_toArray, List.set_cons_zero, List.set_cons_succ, vw, ud]
   rfl
  refine ul (i := 4) (N := some 33) #[true, true, true, true, true, false, false, false] rfl rfl (vn HT_.out (by kernel_rfl)) (by decide) (fun K hK => ?_)
  refine z8q (w1 := ?_) (v := ?_) (by rfl) rfl ?_ ?_
  rotate_left 2
  ·
   go_simp
   constructor
   ·
    rfl
   rfl
  refine hK.out _ _ ⟨(za (zc BK298.out _) 0).trans rfl, (za (zc BK298.out _) 1).trans rfl, (za (zc BK298.out _) 2).trans rfl, (za (zc BK298.out _) 3).trans rfl, (za (zc BK298.out _) 4).trans rfl, (za (zc BK298.out _) 5).trans rfl, (za (zc BK298.out _) 6).trans rfl⟩ (fun hHeld => ?_)
  clear hK K
  refine um (a' := ?_) ?_ ?_
  rotate_left
  ·
   show Act.put _ (some 33) _ = _
   simp only [Act.put, List.setIfInBounds_toArray, List.set_cons_zero, List.set_cons_succ, vw, ud]
   rfl
  refine ul (i := 5) (N := some 34) #[true, true, true, true, true, true, false, false] rfl rfl (vn HT_.out (by kernel_rfl)) (by decide) (fun K hK => ?_)
  refine Kd.z5e k38 (w0 := w) w.heap.size (by rfl) (.tmp 30) (.tmp 33) 22 38 (.agg #[(.int .i64 0), (.int .i64 0), (.int .i64 0), (.int .i64 0), (.int .i64 0), (.int .i64 0), (.string ⟨#[]⟩), (.slice none 0 0), (.int .i64 0), (.int .i64 0), (.int .i64 0)]) 112 rfl Try.underlying22 info38 rfl (by decide) (by omega) u299006 x299006_1 (⟨t302, t303, t304, (⟨t305, t306, t307⟩ : S36), t308, t309, t312, t313, t314⟩ : S38) [.int .i64 t302, .int .i64 t303, .int .i64 t304, .int .i64 t305, .int .i64 t306, .int .i64 t307, .string t308, .slice Ao29 t309.length co29, .int .i64 t312, .int .i64 t313, .int .i64 t314] (fun _ => True) (fun k_ => some k_ = (.slice Ao29 t309.length co29 : Value).ownBlock) rfl rfl ?aP (fun k_ hk_ => ((Kd.jj (ok' := fun k_ => ((fun _ => True)) k_ ∧ some k_ ≠ (u299006 : Value).ownBlock) (Kd.z5o (HO311.out) (Kd.z7p HO_299006.out) (by decide)) (fun k_ hk => ⟨trivial, hk.2⟩))).1 k_ hk_.symm) ?aF ?aO ?aB ?aS ?aL ?_
  (case aP => exact zbd _ _ _ (⟨t302, t303, t304, (⟨t305, t306, t307⟩ : S36), t308, t309, t312, t313, t314⟩ : S38) (Kd.jj (Kd.zb8 rfl (Kd.jj (ok' := fun k_ => ((fun _ => True)) k_ ∧ some k_ ≠ (u299006 : Value).ownBlock) (Kd.z5o (HO311.out) (Kd.z7p HO_299006.out) (by decide)) (fun k_ hk => ⟨trivial, hk.2⟩))) (fun _ h_ => h_)))
  (case aB => exact (by repeat (first | (with_reducible first | exact HB.out | apply z8 | apply z6 | apply z7 | refine zb ?_ (IsS86.ge HI279.out) | refine zb ?_ GE278.out | refine zb ?_ GE298.out) | exact HB.out)))
  (case aF => exact (fun _ _ => trivial))
  (case aO => exact (by (with_reducible repeat (first | apply Kd.jw | apply Kd.jx | apply Kd.jy)); exact Kd.z0j HO_299006.out (fun k_ hk => ⟨trivial, fun e_ => hk.2 e_⟩)))
  (case aS => exact (zk (by repeat (first | (with_reducible first | exact HB.out | apply z8 | apply z6 | apply z7 | refine zb ?_ (IsS86.ge HI279.out) | refine zb ?_ GE278.out | refine zb ?_ GE298.out) | exact HB.out))))
  (case aL => have := LMc25.out; omega)
  intro v318 w28 ho hb hg hat
  rw [← Ny317.out] at ho
  have n0_ := Aside0.mk (z1a (g := gb278) (o := .cells #[.int .i64 0, .int .i64 0, .int .i64 0, .int .i64 0, .int .i64 0, .int .i64 0, .slice none 0 0] 45 (0, 0)) (by (with_reducible repeat (first | refine ze ?_ _ | refine zf ?_ | refine zc ?_ _)); exact BK278.out) hg (Kd.za0 HO_299006.out BK278.out (by decide)))
  have n1_ := Aside0.mk (z1a (g := gb298) (o := .cells #[.int .i64 t280, .int .i64 t283, .int .i64 t286, .int .i64 t289, .int .i64 t292, .int .i64 t295, u299006] 45 (0, 0)) (by (with_reducible repeat (first | refine ze ?_ _ | refine zf ?_ | refine zc ?_ _)); exact BK298.out) hg (Kd.za0 HO_299006.out BK298.out (by decide)))
  have n2_ := Aside0.mk (IsS86.grown (by repeat (first | (with_reducible first | exact HI279.out | apply IsS86.alloc | apply IsS86.drewN | apply IsS86.drew | apply IsS86.set_0 | apply IsS86.set_1 | refine IsS86.far ?_ NB279_278.out _ | refine IsS86.far ?_ NB279_298.out _) | exact HI279.out)) hg (IsS86.own_neS HI279.out HO_299006.out (by decide)))
  have n3_ := Aside0.mk (hb)
  have n4_ := Aside0.mk (ho)
  clear BK278
  clear BK298
  clear HI279
  clear HB
  clear HO_299006
  clear HO311
  have BK278 := n0_
  have BK298 := n1_
  have HI279 := n2_
  have HB := n3_
  have HO319 := n4_
  clear n0_ n1_ n2_ n3_ n4_
  clear ho hb hg hat
  obtain ⟨Ao30, co30, eo30⟩ := Kd.z0n HO319.out
  (first | subst eo30 | (injection eo30 with f1_ f2_ f3_; have f4_ := f1_.symm; have f5_ := f3_.symm; clear f1_ f2_ f3_; subst f4_; subst f5_))
  refine hK.out _ _ ⟨(za BK298.out 0).trans rfl, (za BK298.out 1).trans rfl, (za BK298.out 2).trans rfl, (za BK298.out 3).trans rfl, (za BK298.out 4).trans rfl, (za BK298.out 5).trans rfl, (za BK298.out 6).trans rfl⟩ (fun hHeld => ?_)
  clear hK K
  refine um (a' := ?_) ?_ ?_
  rotate_left
  ·
   show Act.put _ (some 34) _ = _
   simp only [Act.put, List.setIfInBounds_toArray, List.set_cons_zero, List.set_cons_succ, vw, ud]
   rfl
  refine pq_ 6 35 #[true, true, true, true, true, true, true, false] (zo HT_.out (by kernel_rfl)) ?_
  refine zal (i := 7) (N := none) #[true, true, true, true, true, true, true, true] rfl rfl (vn HT_.out (by kernel_rfl)) (by decide) (fun K hK => ?_)
  have hs31 : w28.cell? ⟨gb298, 6, none⟩ = some (u299006) := (za BK298.out 6).trans rfl
  have hfs31 := zi BK298.out 6
  have hns31_0 := NB278_298.out
  have hms31_0 := NB298_278.out
  refine jv (w1 := ?_) (by rfl) rfl ?_ ?_
  rotate_left
  ·
   go_simp
   rfl
  refine hK.out _ _ ?_
  clear hK K
  refine ju (j9 HT_.out (by kernel_rfl)) ?_
  try go_wp2
  go_roundg k1
  case measure => have := HK1.out; omega
  case rel => exact ⟨(wrap64 (x27_1 + 1)), (t315), (t316), (y317), (.slice Ao30 y317.length co30), (by first | rfl | (simp; done) | (simp [*]; done)), H', ⟨by have := HK1.out; omega⟩, ⟨by (with_reducible repeat (first | apply Kd.jw | apply Kd.jx | apply Kd.jy)); exact Kd.z0j (Kd.jb (p := ⟨gb298, 6, none⟩) (Kd.z13 HO319.out BK298.out (by decide)) (fun _ hk => hk.2) (.slice Ao30 y317.length co30)) (fun _ hk => trivial)⟩, ⟨by (with_reducible repeat (first | refine ze ?_ _ | refine zf ?_ | refine zc ?_ _)); refine zp ?_ NB278_298.out _; (with_reducible repeat (first | refine ze ?_ _ | refine zf ?_ | refine zc ?_ _)); exact BK278.out⟩, ⟨by (with_reducible repeat (first | refine ze ?_ _ | refine zf ?_ | refine zc ?_ _)); refine zx (cs := #[.int .i64 t280, .int .i64 t283, .int .i64 t286, .int .i64 t289, .int .i64 t292, .int .i64 t295, u299006]) ?_ 6 _ rfl; (with_reducible repeat (first | refine ze ?_ _ | refine zf ?_ | refine zc ?_ _)); exact BK298.out⟩, ⟨by repeat (first | (with_reducible first | exact HI279.out | apply IsS86.alloc | apply IsS86.drewN | apply IsS86.drew | apply IsS86.set_0 | apply IsS86.set_1 | refine IsS86.far ?_ NB279_278.out _ | refine IsS86.far ?_ NB279_298.out _) | exact HI279.out)⟩, ⟨by repeat (first | (with_reducible first | exact HB.out | apply z8 | apply z6 | apply z7 | refine zb ?_ (IsS86.ge HI279.out) | refine zb ?_ GE278.out | refine zb ?_ GE298.out) | exact HB.out)⟩⟩
end Go.Proofs.Ytadfohbogoocgaa.PA
