import Derived.Test.YtadfohbogoocgaaPAx0
import Derived.Test.YtadfohbogoocgaaPAx1
import Derived.Test.YtadfohbogoocgaaPAx2
import Derived.Test.YtadfohbogoocgaaPAx3
namespace Go.Proofs.Ytadfohbogoocgaa.PA
open Go.RowKit Go.Proofs.YtadfohbogoocgaaW.PrintWords Go.Proofs.YtadfohbogoocgaaW.PrintLast Go.Proofs.YtadfohbogoocgaaW.PrintMore Go.Proofs.YtadfohbogoocgaaX Go.Proofs.YtadfohbogoocgaaB Go.Proofs.YtadfohbogoocgaaPq
attribute [local go_sem] gi gj gx gy jr js gm gn
set_option linter.unusedVariables false
set_option linter.unusedSimpArgs false
attribute [local go_sem high] eqA36
mutual
def yx.l0 : Nat → List (S36) → Int → Int → Int → Int → Int → Int → Int → Int → ByteArray → List (S36) → Int → Int → Int → Option (Bool)
  | 0, _, _, _, _, _, _, _, _, _, _, _, _, _, _ => none
  | k + 1, x6, x7, x8, x137000, x137001, x137002, x137003, x137004, x137005, x137006, x137007, x137008, x137009, x137010 => if x8 < x7 then (if 0 ≤ x8 then (if x8 < (x6.length : Int) then (if (((zr x6 x8).f0) == 0 && (((zr x6 x8).f1) == 0 && (((zr x6 x8).f2) == 0))) = true then (yx.j1 k x6 x7 x8 true x137000 x137001 x137002 x137003 x137004 x137005 x137006 x137007 x137008 x137009 x137010) else ((jp.f ((zr x6 x8).f0) ((zr x6 x8).f1) ((zr x6 x8).f2)).bind fun t139 => (if t139 = true then ((gr.f x137000 x137001 x137002 x137003 x137004 x137005 x137006 x137007 x137008 x137009 x137010 ((zr x6 x8).f0) ((zr x6 x8).f1) ((zr x6 x8).f2)).bind fun t140 => (if t140 = true then (yx.j1 k x6 x7 x8 true x137000 x137001 x137002 x137003 x137004 x137005 x137006 x137007 x137008 x137009 x137010) else (if x8 > 0 then (if 0 ≤ (wrap64 (x8 - 1)) then (if (wrap64 (x8 - 1)) < (x137007.length : Int) then ((jo.f k ((zr x137007 (wrap64 (x8 - 1))).f0) ((zr x137007 (wrap64 (x8 - 1))).f1) ((zr x137007 (wrap64 (x8 - 1))).f2) ((zr x6 x8).f0) ((zr x6 x8).f1) ((zr x6 x8).f2)).bind fun t142 => (yx.j1 k x6 x7 x8 (!t142) x137000 x137001 x137002 x137003 x137004 x137005 x137006 x137007 x137008 x137009 x137010)) else (none)) else (none)) else (yx.j1 k x6 x7 x8 false x137000 x137001 x137002 x137003 x137004 x137005 x137006 x137007 x137008 x137009 x137010)))) else (yx.j1 k x6 x7 x8 true x137000 x137001 x137002 x137003 x137004 x137005 x137006 x137007 x137008 x137009 x137010)))) else (none)) else (none)) else (some (decide ((x137007.length : Int) ≤ 200)))
def yx.j1 : Nat → List (S36) → Int → Int → Bool → Int → Int → Int → Int → Int → Int → ByteArray → List (S36) → Int → Int → Int → Option (Bool)
  | 0, _, _, _, _, _, _, _, _, _, _, _, _, _, _, _ => none
  | k + 1, x6, x7, x8, x40, x137000, x137001, x137002, x137003, x137004, x137005, x137006, x137007, x137008, x137009, x137010 => if x40 = true then (some false) else (yx.l0 k x6 x7 (wrap64 (x8 + 1)) x137000 x137001 x137002 x137003 x137004 x137005 x137006 x137007 x137008 x137009 x137010)
end
def yx.f (k : Nat) (a0_0 : Int) (a0_1 : Int) (a0_2 : Int) (a0_3 : Int) (a0_4 : Int) (a0_5 : Int) (a0_6 : ByteArray) (l0_7 : List (S36)) (a0_8 : Int) (a0_9 : Int) (a0_10 : Int) : Option (Bool) := yx.l0 k l0_7 (l0_7.length : Int) 0 a0_0 a0_1 a0_2 a0_3 a0_4 a0_5 a0_6 l0_7 a0_8 a0_9 a0_10
theorem yx.mono_l : ∀ k, (∀ y0 y1 y2 y3 y4 y5 y6 y7 y8 y9 y10 y11 y12 y13, LeO (yx.l0 k y0 y1 y2 y3 y4 y5 y6 y7 y8 y9 y10 y11 y12 y13) (yx.l0 (k + 1) y0 y1 y2 y3 y4 y5 y6 y7 y8 y9 y10 y11 y12 y13)) ∧ (∀ y0 y1 y2 y3 y4 y5 y6 y7 y8 y9 y10 y11 y12 y13 y14, LeO (yx.j1 k y0 y1 y2 y3 y4 y5 y6 y7 y8 y9 y10 y11 y12 y13 y14) (yx.j1 (k + 1) y0 y1 y2 y3 y4 y5 y6 y7 y8 y9 y10 y11 y12 y13 y14))
  | 0 => ⟨fun _ _ _ _ _ _ _ _ _ _ _ _ _ _ r h => by simp [yx.l0] at h, fun _ _ _ _ _ _ _ _ _ _ _ _ _ _ _ r h => by simp [yx.j1] at h⟩
  | k + 1 => by
    obtain ⟨ih0, ih1⟩ := yx.mono_l k
    refine ⟨?_, ?_⟩
    · intro y0 y1 y2 y3 y4 y5 y6 y7 y8 y9 y10 y11 y12 y13
      unfold yx.l0
      repeat' first
      | (with_reducible exact ih0 _ _ _ _ _ _ _ _ _ _ _ _ _ _)
      | (with_reducible exact ih1 _ _ _ _ _ _ _ _ _ _ _ _ _ _ _)
      | (with_reducible exact jo.mono _ _ _ _ _ _ _)
      | (with_reducible exact LeO.refl _)
      | (with_reducible exact LeO.none _)
      | (with_reducible refine LeO.ite ?_ ?_)
      | (with_reducible refine LeO.bind ?_ (fun _ => ?_))
      | exact ih0 _ _ _ _ _ _ _ _ _ _ _ _ _ _
      | exact ih1 _ _ _ _ _ _ _ _ _ _ _ _ _ _ _
      | exact jo.mono _ _ _ _ _ _ _
      | exact LeO.none _
      | refine LeO.ite ?_ ?_
      | refine LeO.bind ?_ (fun _ => ?_)
    · intro y0 y1 y2 y3 y4 y5 y6 y7 y8 y9 y10 y11 y12 y13 y14
      unfold yx.j1
      repeat' first
      | (with_reducible exact ih0 _ _ _ _ _ _ _ _ _ _ _ _ _ _)
      | (with_reducible exact ih1 _ _ _ _ _ _ _ _ _ _ _ _ _ _ _)
      | (with_reducible exact jo.mono _ _ _ _ _ _ _)
      | (with_reducible exact LeO.refl _)
      | (with_reducible exact LeO.none _)
      | (with_reducible refine LeO.ite ?_ ?_)
      | (with_reducible refine LeO.bind ?_ (fun _ => ?_))
      | exact ih0 _ _ _ _ _ _ _ _ _ _ _ _ _ _
      | exact ih1 _ _ _ _ _ _ _ _ _ _ _ _ _ _ _
      | exact jo.mono _ _ _ _ _ _ _
      | exact LeO.none _
      | refine LeO.ite ?_ ?_
      | refine LeO.bind ?_ (fun _ => ?_)
theorem yx.mono : ∀ a0 a1 a2 a3 a4 a5 a6 a7 a8 a9 a10 k, LeO (yx.f k a0 a1 a2 a3 a4 a5 a6 a7 a8 a9 a10) (yx.f (k + 1) a0 a1 a2 a3 a4 a5 a6 a7 a8 a9 a10) := by
  intro a0 a1 a2 a3 a4 a5 a6 a7 a8 a9 a10 k
  obtain ⟨ih0, ih1⟩ := yx.mono_l k
  unfold yx.f
  repeat' first
      | (with_reducible exact ih0 _ _ _ _ _ _ _ _ _ _ _ _ _ _)
      | (with_reducible exact ih1 _ _ _ _ _ _ _ _ _ _ _ _ _ _ _)
      | (with_reducible exact jo.mono _ _ _ _ _ _ _)
      | (with_reducible exact LeO.refl _)
      | (with_reducible exact LeO.none _)
      | (with_reducible refine LeO.ite ?_ ?_)
      | (with_reducible refine LeO.bind ?_ (fun _ => ?_))
      | exact ih0 _ _ _ _ _ _ _ _ _ _ _ _ _ _
      | exact ih1 _ _ _ _ _ _ _ _ _ _ _ _ _ _ _
      | exact jo.mono _ _ _ _ _ _ _
      | exact LeO.none _
      | refine LeO.ite ?_ ?_
      | refine LeO.bind ?_ (fun _ => ?_)
def yx.T4 : Bool × List (List Nat × List Nat) := (true, [([], []), ([], []), ([0, 1], [0, 1]), ([2], [2]), ([3], [3]), ([4, 3, 3], [3, 4]), ([5, 3], [3, 5]), ([3, 6], [3, 6]), ([7, 5], [7]), ([8], [8]), ([8], [8]), ([9, 10, 8, 8], [8, 9, 10]), ([8, 11], [8, 11]), ([12, 11], [12]), ([13], [13]), ([14, 13], [13, 14]), ([15, 13, 13], [13, 15]), ([16], [16]), ([17, 16], [16, 17]), ([16], [16]), ([19, 16], [16, 19]), ([18, 20, 16], [16, 18, 20]), ([21, 16], [16, 21]), ([16], [16]), ([22, 23, 16, 16], [16, 22, 23]), ([24, 16], [16, 24]), ([16, 25, 13], [13, 16, 25]), ([13, 26], [13, 26])])
def yx.B4 : List Nat := [0, 0, 3, 7, 15, 31, 63, 127, 255, 511, 511, 2047, 4095, 8191, 16383, 32767, 65535, 131071, 262143, 131071, 655359, 2097151, 4194303, 131071, 16777215, 33554431, 67108863, 134217727]
theorem yx.tab4 : rtab .any (opsOf Try.f85 4) = yx.T4 := by kernel_rfl
theorem yx.bits4 : waitsOk yx.T4.2 yx.B4 = true := by kernel_rfl
set_option maxHeartbeats 8000000 in
set_option maxRecDepth 100000 in
theorem yx.calls (k : Nat) (a0_0 : Int) (a0_1 : Int) (a0_2 : Int) (a0_3 : Int) (a0_4 : Int) (a0_5 : Int) (a0_6 : ByteArray) (A0_7 : Option Addr) (c0_7 : Nat) (l0_7 : List (S36)) (a0_8 : Int) (a0_9 : Int) (a0_10 : Int) (r : Bool) (w : World) (hr0_7 : Kd.C k36 w A0_7 l0_7.length l0_7) (hc0_7 : l0_7.length ≤ c0_7) (h : yx.f k a0_0 a0_1 a0_2 a0_3 a0_4 a0_5 a0_6 l0_7 a0_8 a0_9 a0_10 = some r) :
  Calls Try.prog 85 #[.agg #[.int .i64 a0_0, .int .i64 a0_1, .int .i64 a0_2, .int .i64 a0_3, .int .i64 a0_4, .int .i64 a0_5, .string a0_6, .slice A0_7 l0_7.length c0_7, .int .i64 a0_8, .int .i64 a0_9, .int .i64 a0_10]] w fun e w' => e = .returned (.bool r) ∧ Below w.heap.size w w' := by
 have hu38 := Try.underlying38
 have hu36 := Try.underlying36
 have HR0_7 := Aside0.mk hr0_7
 have HC0_7 := Aside0.mk hc0_7
 clear hr0_7 hc0_7
 have HB := Aside0.mk (Below.refl w.heap.size w)
 have H : (yx.l0 k l0_7 (l0_7.length : Int) 0 a0_0 a0_1 a0_2 a0_3 a0_4 a0_5 a0_6 l0_7 a0_8 a0_9 a0_10) = some r := h
 clear h
 have H' := Aside0.mk H
 clear H
 go_enter Try.func85, Try.ntmps85
 go_wp2_with (first | ((with_reducible refine yf (N := 1) rfl ?_); refine yd ?hg (N := 1) ?hd (cs := #[.int .i64 a0_0, .int .i64 a0_1, .int .i64 a0_2, .int .i64 a0_3, .int .i64 a0_4, .int .i64 a0_5, .string a0_6, .slice A0_7 l0_7.length c0_7, .int .i64 a0_8, .int .i64 a0_9, .int .i64 a0_10]) (t := 38) ?hr ?_; (case hd => rfl); (case hg => rfl); (case hr => first | (go_simp; done) | (go_simp; rfl)); intro gb136 hg w2 hbox hb; have n0_ := Aside0.mk (zj (by repeat (first | (with_reducible first | exact HB.out | apply z8 | apply z6 | apply z7) | exact HB.out)) hb); have n1_ := Aside0.mk (hbox); have n2_ := Aside0.mk ((by rw [hg]; exact (zk (by repeat (first | (with_reducible first | exact HB.out | apply z8 | apply z6 | apply z7) | exact HB.out))) : w.heap.size ≤ gb136)); have n3_ := Aside0.mk ((by rw [hg]; exact (zk (by repeat (first | (with_reducible first | exact HB.out | apply z8 | apply z6 | apply z7) | exact HB.out))) : w.heap.size ≤ gb136)); clear HB; have HB := n0_; have BK136 := n1_; have GW136 := n2_; have GE136 := n3_; clear n0_ n1_ n2_ n3_; clear hb hbox hg; have hcz3_0 := yq BK136.out; have hfz3_0 := fun j_ => zi BK136.out j_))
 go_loopg [8] k (fun kq v8 w' => ∃ (x8_1 : Int), v8 = .int .i64 x8_1 ∧ Aside0 (yx.l0 kq l0_7 (l0_7.length : Int) x8_1 a0_0 a0_1 a0_2 a0_3 a0_4 a0_5 a0_6 l0_7 a0_8 a0_9 a0_10 = some r) ∧ Aside0 (kq ≤ k) ∧ Aside0 (w'.heap[gb136]? = some (.cells #[.int .i64 a0_0, .int .i64 a0_1, .int .i64 a0_2, .int .i64 a0_3, .int .i64 a0_4, .int .i64 a0_5, .string a0_6, (.slice A0_7 l0_7.length c0_7), .int .i64 a0_8, .int .i64 a0_9, .int .i64 a0_10] 38 (0, 0))) ∧ Aside0 (Below w.heap.size w w'))
 case atStart => exact ⟨(0), (by first | rfl | (simp; done) | (simp [*]; done)), H', ⟨Nat.le_refl _⟩, ⟨by (with_reducible repeat (first | refine ze ?_ _ | refine zf ?_ | refine zc ?_ _)); exact BK136.out⟩, ⟨by repeat (first | (with_reducible first | exact HB.out | apply z8 | apply z6 | apply z7 | refine zb ?_ GE136.out) | exact HB.out)⟩⟩
 clear H'
 try clear c1
 try clear p2
 try clear hcz3_0
 try clear hfz3_0
 obtain ⟨x8_1, rfl, HA, HK1, BK136, HB⟩ := hrel
 cases gk with
 | zero => exact absurd HA.out (by simp [yx.l0])
 | succ k1 =>
  have H := HA.out
  clear HA
  simp only [yx.l0] at H
  by_cases c4 : x8_1 < (l0_7.length : Int)
  rotate_left
  ·
   rw [if_neg c4] at H
   have c4b0 : decide (x8_1 < (l0_7.length : Int)) = false := decide_eq_false c4
   clear c4
   obtain rfl := Option.some.inj H
   have hcz40_0 := yq BK136.out
   have hfz40_0 := fun j_ => zi BK136.out j_
   go_wp2
   go_ret
   exact ⟨by first | rfl | (simp [zm, zn] <;> rfl) | (simp [*, zm, zn] <;> rfl), by repeat (first | (with_reducible first | exact HB.out | apply z8 | apply z6 | apply z7 | refine zb ?_ GE136.out) | exact HB.out)⟩
  rw [if_pos c4] at H
  have c4b0 : decide (x8_1 < (l0_7.length : Int)) = true := decide_eq_true c4
  clear c4
  by_cases c5 : 0 ≤ x8_1
  rotate_left
  ·
   rw [if_neg c5] at H
   exact absurd H (by simp)
  rw [if_pos c5] at H
  have c5b0 : decide (0 ≤ x8_1) = true := decide_eq_true c5
  clear c5
  by_cases c6 : x8_1 < (l0_7.length : Int)
  rotate_left
  ·
   rw [if_neg c6] at H
   exact absurd H (by simp)
  rw [if_pos c6] at H
  have c6b0 : decide (x8_1 < (l0_7.length : Int)) = true := decide_eq_true c6
  clear c6
  have HC7 := Aside0.mk H
  clear H
  have p137 : 0 ≤ (x8_1 : Int) := of_decide_eq_true (by first | (with_reducible assumption) | assumption)
  have q137 : x8_1 < (l0_7.length : Int) := of_decide_eq_true (by first | (with_reducible assumption) | assumption)
  obtain ⟨ad137, e137, hx137_0, hx137_1, hx137_2⟩ := z1j HR0_7.out x8_1 p137 q137
  cases e137
  replace hx137_0 := (HB.out.cell (World.block_lt_of_cell? w _ hx137_0)).trans hx137_0
  replace hx137_1 := (HB.out.cell (World.block_lt_of_cell? w _ hx137_1)).trans hx137_1
  replace hx137_2 := (HB.out.cell (World.block_lt_of_cell? w _ hx137_2)).trans hx137_2
  replace p137 := eq_true p137
  replace q137 := eq_true q137
  go_upto_region 4 with (first | ((with_reducible refine yf (N := 4) rfl ?_); refine yd ?hg (N := 4) ?hd (cs := #[.int .i64 0, .int .i64 0, .int .i64 0]) (t := 36) ?hr ?_; (case hd => rfl); (case hg => rfl); (case hr => first | (go_simp; done) | (go_simp; rfl)); intro gb138 hg w8 hbox hb; have n0_ := Aside0.mk (zt (by (with_reducible repeat (first | refine ze ?_ _ | refine zf ?_ | refine zc ?_ _)); exact BK136.out) hb); have n1_ := Aside0.mk (zj (by repeat (first | (with_reducible first | exact HB.out | apply z8 | apply z6 | apply z7 | refine zb ?_ GE136.out) | exact HB.out)) hb); have n2_ := Aside0.mk (hbox); have n3_ := Aside0.mk ((by rw [hg]; exact (zk (by repeat (first | (with_reducible first | exact HB.out | apply z8 | apply z6 | apply z7 | refine zb ?_ GE136.out) | exact HB.out))) : w.heap.size ≤ gb138)); have n4_ := Aside0.mk ((by rw [hg]; exact (zk (by repeat (first | (with_reducible first | exact HB.out | apply z8 | apply z6 | apply z7 | refine zb ?_ GE136.out) | exact HB.out))) : w.heap.size ≤ gb138)); have n5_ := Aside0.mk ((by rw [hg]; exact Nat.ne_of_lt (vo (g := gb136) (o := .cells #[.int .i64 a0_0, .int .i64 a0_1, .int .i64 a0_2, .int .i64 a0_3, .int .i64 a0_4, .int .i64 a0_5, .string a0_6, .slice (some ad137) l0_7.length c0_7, .int .i64 a0_8, .int .i64 a0_9, .int .i64 a0_10] 38 (0, 0)) (by (with_reducible repeat (first | refine ze ?_ _ | refine zf ?_ | refine zc ?_ _)); exact BK136.out)) : gb136 ≠ gb138)); have n6_ := Aside0.mk ((by rw [hg]; exact Nat.ne_of_gt (vo (g := gb136) (o := .cells #[.int .i64 a0_0, .int .i64 a0_1, .int .i64 a0_2, .int .i64 a0_3, .int .i64 a0_4, .int .i64 a0_5, .string a0_6, .slice (some ad137) l0_7.length c0_7, .int .i64 a0_8, .int .i64 a0_9, .int .i64 a0_10] 38 (0, 0)) (by (with_reducible repeat (first | refine ze ?_ _ | refine zf ?_ | refine zc ?_ _)); exact BK136.out)) : gb138 ≠ gb136)); clear BK136; clear HB; have BK136 := n0_; have HB := n1_; have BK138 := n2_; have GW138 := n3_; have GE138 := n4_; have NB136_138 := n5_; have NB138_136 := n6_; clear n0_ n1_ n2_ n3_ n4_ n5_ n6_; clear hb hbox hg; have hnb9 := NB138_136.out; have hnc9 := NB136_138.out; have hcz10_0 := z0g BK138.out; have hfz10_0 := fun j_ => zi BK138.out j_))
  (try simp only [Act.put, List.setIfInBounds_toArray, List.set_cons_zero, List.set_cons_succ])
  go_cut [40] (fun v40 wc => ∃ (kq : Nat) (x40_6 : Bool), v40 = .bool x40_6 ∧ Aside0 (yx.j1 kq l0_7 (l0_7.length : Int) x8_1 x40_6 a0_0 a0_1 a0_2 a0_3 a0_4 a0_5 a0_6 l0_7 a0_8 a0_9 a0_10 = some r) ∧ Aside0 (kq ≤ k1) ∧ Aside0 (wc.heap[gb136]? = some (.cells #[.int .i64 a0_0, .int .i64 a0_1, .int .i64 a0_2, .int .i64 a0_3, .int .i64 a0_4, .int .i64 a0_5, .string a0_6, (.slice (some ad137) l0_7.length c0_7), .int .i64 a0_8, .int .i64 a0_9, .int .i64 a0_10] 38 (0, 0))) ∧ Aside0 (wc.heap[gb138]? = some (.cells #[.int .i64 ((zr l0_7 x8_1).f0), .int .i64 ((zr l0_7 x8_1).f1), .int .i64 ((zr l0_7 x8_1).f2)] 36 (0, 0))) ∧ Aside0 (Below w.heap.size w wc))
  case first =>
   have H := HC7.out
   clear HC7
   by_cases c11 : (((zr l0_7 x8_1).f0) == 0 && (((zr l0_7 x8_1).f1) == 0 && (((zr l0_7 x8_1).f2) == 0))) = true
   ·
    rw [if_pos c11] at H
    have c11b0 : (((zr l0_7 x8_1).f0) == 0 && (((zr l0_7 x8_1).f1) == 0 && (((zr l0_7 x8_1).f2) == 0))) = true := c11
    (try (have c11b1 : decide (((zr l0_7 x8_1).f0) = 0 && (((zr l0_7 x8_1).f1) == 0 && (((zr l0_7 x8_1).f2) == 0))) = true := by simpa using c11))
    (try (have c11b2 : (((zr l0_7 x8_1).f0) == 0 && (((zr l0_7 x8_1).f1) == 0 && (((zr l0_7 x8_1).f2) == 0))) = true := by simpa using c11))
    clear c11
    (first | rw [c11b0] | (simp only [vw, ud]; rw [c11b0]) | skip)
    have H' := Aside0.mk H
    clear H
    try go_wp2
    generalize hw_ : (((w8.setCell ⟨gb138, 0, none⟩ (.int .i64 ((zr l0_7 x8_1).f0))).setCell ⟨gb138, 1, none⟩ (.int .i64 ((zr l0_7 x8_1).f1))).setCell ⟨gb138, 2, none⟩ (.int .i64 ((zr l0_7 x8_1).f2))) = w12
    have n0_ : Aside0 (w12.heap[gb136]? = some (.cells #[.int .i64 a0_0, .int .i64 a0_1, .int .i64 a0_2, .int .i64 a0_3, .int .i64 a0_4, .int .i64 a0_5, .string a0_6, .slice (some ad137) l0_7.length c0_7, .int .i64 a0_8, .int .i64 a0_9, .int .i64 a0_10] 38 (0, 0))) := by rw [← hw_]; exact ⟨(zp (zp (zp BK136.out NB136_138.out _) NB136_138.out _) NB136_138.out _)⟩
    have n1_ : Aside0 (w12.heap[gb138]? = some (.cells #[.int .i64 ((zr l0_7 x8_1).f0), .int .i64 ((zr l0_7 x8_1).f1), .int .i64 ((zr l0_7 x8_1).f2)] 36 (0, 0))) := by rw [← hw_]; exact ⟨(z2k BK138.out _ _ _)⟩
    have n2_ : Aside0 (Below w.heap.size w w12) := by rw [← hw_]; exact ⟨by repeat (first | (with_reducible first | exact HB.out | apply z8 | apply z6 | apply z7 | refine zb ?_ GE136.out | refine zb ?_ GE138.out) | exact HB.out)⟩
    clear hw_
    (try clear BK136)
    (try clear BK138)
    (try clear HB)
    have BK136 := n0_
    have BK138 := n1_
    have HB := n2_
    clear n0_ n1_ n2_
    have n0_ := Aside0.mk (zf BK136.out)
    have n1_ := Aside0.mk (zf BK138.out)
    have n2_ := Aside0.mk (z7 HB.out)
    clear BK136
    clear BK138
    clear HB
    have BK136 := n0_
    have BK138 := n1_
    have HB := n2_
    clear n0_ n1_ n2_
    refine ji (n := 28) (S := fun w' => w'.cell? ⟨gb138, 0, none⟩ = some (.int .i64 ((zr l0_7 x8_1).f0)) ∧ w'.cell? ⟨gb138, 1, none⟩ = some (.int .i64 ((zr l0_7 x8_1).f1)) ∧ w'.cell? ⟨gb138, 2, none⟩ = some (.int .i64 ((zr l0_7 x8_1).f2))) (ds := []) z4a (by kernel_rfl) rfl rfl ⟨(za BK138.out 0).trans rfl, (za BK138.out 1).trans rfl, (za BK138.out 2).trans rfl⟩ (fun hHeld => ?_); refine uy yx.tab4 yx.bits4 (fun HT_ HW_ => ?_)
    generalize w12.drew = w13 at BK136 BK138 HB hHeld ⊢
    refine pq_ 1 14 z4b (zo HT_.out (by kernel_rfl)) ?_
    refine tq_ 0 13 z4c (yj HT_.out HW_.out (by kernel_rfl)) hHeld ?_
    refine gz 2 15 z4d (zo HT_.out (by kernel_rfl)) ?_
    refine pq_ 3 16 z4e (zo HT_.out (by kernel_rfl)) ?_
    refine uf 4 17 z4f (zo HT_.out (by kernel_rfl)) ?_
    refine uf 5 18 z4g (zo HT_.out (by kernel_rfl)) ?_
    refine uf 6 19 z4h (zo HT_.out (by kernel_rfl)) ?_
    refine pq_ 7 20 z4i (zo HT_.out (by kernel_rfl)) ?_
    refine pq_ 8 21 z4j (zo HT_.out (by kernel_rfl)) ?_
    refine uf 9 22 z2m (zo HT_.out (by kernel_rfl)) ?_
    refine uf 10 23 z2n (zo HT_.out (by kernel_rfl)) ?_
    refine uf 11 24 z2o (zo HT_.out (by kernel_rfl)) ?_
    refine pq_ 12 25 z2p (zo HT_.out (by kernel_rfl)) ?_
    refine pq_ 13 26 z2q (zo HT_.out (by kernel_rfl)) ?_
    refine uf 14 27 z2r (zo HT_.out (by kernel_rfl)) ?_
    refine uf 15 28 z2s (zo HT_.out (by kernel_rfl)) ?_
    refine uf 16 29 z2t (zo HT_.out (by kernel_rfl)) ?_
    refine uf 17 30 z2u (zo HT_.out (by kernel_rfl)) ?_
    refine uf 18 31 z4k (zo HT_.out (by kernel_rfl)) ?_
    refine uf 19 32 z4l (zo HT_.out (by kernel_rfl)) ?_
    refine uf 20 33 z2v (zo HT_.out (by kernel_rfl)) ?_
    refine uf 21 34 z2w (zo HT_.out (by kernel_rfl)) ?_
    refine uf 22 35 z2x (zo HT_.out (by kernel_rfl)) ?_
    refine uf 23 36 z2y (zo HT_.out (by kernel_rfl)) ?_
    refine uf 24 37 z2z (zo HT_.out (by kernel_rfl)) ?_
    refine uf 25 38 z30 (zo HT_.out (by kernel_rfl)) ?_
    refine uf 26 39 z34 (zo HT_.out (by kernel_rfl)) ?_
    refine pq_ 27 40 z39 (zo HT_.out (by kernel_rfl)) ?_
    refine ju (j9 HT_.out (by kernel_rfl)) ?_
    try go_wp2
    go_meet
    case rel => exact ⟨_, (true), (by first | rfl | (simp; done) | (simp [*]; done)), H', ⟨by have := HK1.out; first | omega | exact Nat.le_refl _⟩, ⟨by (with_reducible repeat (first | refine ze ?_ _ | refine zf ?_ | refine zc ?_ _)); exact BK136.out⟩, ⟨by (with_reducible repeat (first | refine ze ?_ _ | refine zf ?_ | refine zc ?_ _)); exact BK138.out⟩, ⟨by repeat (first | (with_reducible first | exact HB.out | apply z8 | apply z6 | apply z7 | refine zb ?_ GE136.out | refine zb ?_ GE138.out) | exact HB.out)⟩⟩
   rw [if_neg c11] at H
   have c11b0 : (((zr l0_7 x8_1).f0) == 0 && (((zr l0_7 x8_1).f1) == 0 && (((zr l0_7 x8_1).f2) == 0))) = false := by simpa using c11
   (try (have c11b1 : decide (((zr l0_7 x8_1).f0) = 0 && (((zr l0_7 x8_1).f1) == 0 && (((zr l0_7 x8_1).f2) == 0))) = false := by simpa using c11))
   (try (have c11b2 : (((zr l0_7 x8_1).f0) == 0 && (((zr l0_7 x8_1).f1) == 0 && (((zr l0_7 x8_1).f2) == 0))) = false := by simpa using c11))
   (try (have c11b3 : ¬ (((zr l0_7 x8_1).f0) = 0 && (((zr l0_7 x8_1).f1) == 0 && (((zr l0_7 x8_1).f2) == 0))) := by simpa using c11))
   clear c11
   (first | rw [c11b0] | (simp only [vw, ud]; rw [c11b0]) | skip)
   replace H := Option.bind_eq_some_iff.mp H
   obtain ⟨t139, A140, H⟩ := H
   replace H : (if t139 = true then ((gr.f a0_0 a0_1 a0_2 a0_3 a0_4 a0_5 a0_6 l0_7 a0_8 a0_9 a0_10 ((zr l0_7 x8_1).f0) ((zr l0_7 x8_1).f1) ((zr l0_7 x8_1).f2)).bind fun t140 => (if t140 = true then (yx.j1 k1 l0_7 (l0_7.length : Int) x8_1 true a0_0 a0_1 a0_2 a0_3 a0_4 a0_5 a0_6 l0_7 a0_8 a0_9 a0_10) else (if x8_1 > 0 then (if 0 ≤ (wrap64 (x8_1 - 1)) then (if (wrap64 (x8_1 - 1)) < (l0_7.length : Int) then ((jo.f k1 ((zr l0_7 (wrap64 (x8_1 - 1))).f0) ((zr l0_7 (wrap64 (x8_1 - 1))).f1) ((zr l0_7 (wrap64 (x8_1 - 1))).f2) ((zr l0_7 x8_1).f0) ((zr l0_7 x8_1).f1) ((zr l0_7 x8_1).f2)).bind fun t142 => (yx.j1 k1 l0_7 (l0_7.length : Int) x8_1 (!t142) a0_0 a0_1 a0_2 a0_3 a0_4 a0_5 a0_6 l0_7 a0_8 a0_9 a0_10)) else (none)) else (none)) else (yx.j1 k1 l0_7 (l0_7.length : Int) x8_1 false a0_0 a0_1 a0_2 a0_3 a0_4 a0_5 a0_6 l0_7 a0_8 a0_9 a0_10)))) else (yx.j1 k1 l0_7 (l0_7.length : Int) x8_1 true a0_0 a0_1 a0_2 a0_3 a0_4 a0_5 a0_6 l0_7 a0_8 a0_9 a0_10)) = some r := H
   have A14 := Aside0.mk A140
   clear A140
   by_cases c15 : t139 = true
   rotate_left
   ·
    replace c15 := Bool.eq_false_iff.mpr c15
    subst c15
    have H1 : (yx.j1 k1 l0_7 (l0_7.length : Int) x8_1 true a0_0 a0_1 a0_2 a0_3 a0_4 a0_5 a0_6 l0_7 a0_8 a0_9 a0_10) = some r := by rw [if_neg (show ¬ (false = true) by decide)] at H; exact H
    clear H
    have H := H1
    clear H1
    have H' := Aside0.mk H
    clear H
    try go_wp2
    generalize hw_ : (((w8.setCell ⟨gb138, 0, none⟩ (.int .i64 ((zr l0_7 x8_1).f0))).setCell ⟨gb138, 1, none⟩ (.int .i64 ((zr l0_7 x8_1).f1))).setCell ⟨gb138, 2, none⟩ (.int .i64 ((zr l0_7 x8_1).f2))) = w36
    have n0_ : Aside0 (w36.heap[gb136]? = some (.cells #[.int .i64 a0_0, .int .i64 a0_1, .int .i64 a0_2, .int .i64 a0_3, .int .i64 a0_4, .int .i64 a0_5, .string a0_6, .slice (some ad137) l0_7.length c0_7, .int .i64 a0_8, .int .i64 a0_9, .int .i64 a0_10] 38 (0, 0))) := by rw [← hw_]; exact ⟨(zp (zp (zp BK136.out NB136_138.out _) NB136_138.out _) NB136_138.out _)⟩
    have n1_ : Aside0 (w36.heap[gb138]? = some (.cells #[.int .i64 ((zr l0_7 x8_1).f0), .int .i64 ((zr l0_7 x8_1).f1), .int .i64 ((zr l0_7 x8_1).f2)] 36 (0, 0))) := by rw [← hw_]; exact ⟨(z2k BK138.out _ _ _)⟩
    have n2_ : Aside0 (Below w.heap.size w w36) := by rw [← hw_]; exact ⟨by repeat (first | (with_reducible first | exact HB.out | apply z8 | apply z6 | apply z7 | refine zb ?_ GE136.out | refine zb ?_ GE138.out) | exact HB.out)⟩
    clear hw_
    (try clear BK136)
    (try clear BK138)
    (try clear HB)
    have BK136 := n0_
    have BK138 := n1_
    have HB := n2_
    clear n0_ n1_ n2_
    have n0_ := Aside0.mk (zf BK136.out)
    have n1_ := Aside0.mk (zf BK138.out)
    have n2_ := Aside0.mk (z7 HB.out)
    clear BK136
    clear BK138
    clear HB
    have BK136 := n0_
    have BK138 := n1_
    have HB := n2_
    clear n0_ n1_ n2_
    refine ji (n := 28) (S := fun w' => w'.cell? ⟨gb138, 0, none⟩ = some (.int .i64 ((zr l0_7 x8_1).f0)) ∧ w'.cell? ⟨gb138, 1, none⟩ = some (.int .i64 ((zr l0_7 x8_1).f1)) ∧ w'.cell? ⟨gb138, 2, none⟩ = some (.int .i64 ((zr l0_7 x8_1).f2))) (ds := []) z4a (by kernel_rfl) rfl rfl ⟨(za BK138.out 0).trans rfl, (za BK138.out 1).trans rfl, (za BK138.out 2).trans rfl⟩ (fun hHeld => ?_); refine uy yx.tab4 yx.bits4 (fun HT_ HW_ => ?_)
    generalize w36.drew = w37 at BK136 BK138 HB hHeld ⊢
    refine pq_ 1 14 z4b (zo HT_.out (by kernel_rfl)) ?_
    refine tq_ 0 13 z4c (yj HT_.out HW_.out (by kernel_rfl)) hHeld ?_
    refine gz 2 15 z4d (zo HT_.out (by kernel_rfl)) ?_
    refine pq_ 3 16 z4e (zo HT_.out (by kernel_rfl)) ?_
    refine tq_ 4 17 z4f (yj HT_.out HW_.out (by kernel_rfl)) hHeld ?_
    refine ul (i := 5) (N := some 18) z4g rfl rfl (vn HT_.out (by kernel_rfl)) (by decide) (fun K hK => ?_)
    refine j5 Try.func81 (by kernel_rfl) rfl #[.agg #[.int .i64 ((zr l0_7 x8_1).f0), .int .i64 ((zr l0_7 x8_1).f1), .int .i64 ((zr l0_7 x8_1).f2)]] (by rfl) rfl rfl (by (try simp only [List.map_toArray, List.map_cons, List.map_nil]); first | done | rfl | (simp only [List.length_drop, List.length_take]; rfl)) ?_
    with_reducible refine (jp.calls ((zr l0_7 x8_1).f0) ((zr l0_7 x8_1).f1) ((zr l0_7 x8_1).f2) false _ A14.out).mono ?_
    rintro e w38 ⟨rfl, hb⟩
    refine ⟨_, rfl, ?_⟩
    have n0_ := Aside0.mk (zt (by (with_reducible repeat (first | refine ze ?_ _ | refine zf ?_ | refine zc ?_ _)); exact BK136.out) hb)
    have n1_ := Aside0.mk (zt (by (with_reducible repeat (first | refine ze ?_ _ | refine zf ?_ | refine zc ?_ _)); exact BK138.out) hb)
    have n2_ := Aside0.mk (zj (by repeat (first | (with_reducible first | exact HB.out | apply z8 | apply z6 | apply z7 | refine zb ?_ GE136.out | refine zb ?_ GE138.out) | exact HB.out)) hb)
    clear BK136
    clear BK138
    clear HB
    have BK136 := n0_
    have BK138 := n1_
    have HB := n2_
    clear n0_ n1_ n2_
    (try clear hb)
    (try clear hb2)
    (try clear hk)
    (try clear hi)
    refine hK.out _ _ ⟨(za BK138.out 0).trans rfl, (za BK138.out 1).trans rfl, (za BK138.out 2).trans rfl⟩ (fun hHeld => ?_)
    clear hK K
    refine um (a' := ?_) ?_ ?_
    rotate_left
    ·
     show Act.put _ (some 18) _ = _
     simp only [Act.put, List.setIfInBounds_toArray, List.set_cons_zero, List.set_cons_succ, vw, ud]
     rfl
    refine pq_ 6 19 z4h (zo HT_.out (by kernel_rfl)) ?_
    refine pq_ 7 20 z4i (zo HT_.out (by kernel_rfl)) ?_
    refine pq_ 8 21 z4j (zo HT_.out (by kernel_rfl)) ?_
    refine uf 9 22 z2m (zo HT_.out (by kernel_rfl)) ?_
    refine uf 10 23 z2n (zo HT_.out (by kernel_rfl)) ?_
    refine uf 11 24 z2o (zo HT_.out (by kernel_rfl)) ?_
    refine pq_ 12 25 z2p (zo HT_.out (by kernel_rfl)) ?_
    refine pq_ 13 26 z2q (zo HT_.out (by kernel_rfl)) ?_
    refine uf 14 27 z2r (zo HT_.out (by kernel_rfl)) ?_
    refine uf 15 28 z2s (zo HT_.out (by kernel_rfl)) ?_
    refine uf 16 29 z2t (zo HT_.out (by kernel_rfl)) ?_
    refine uf 17 30 z2u (zo HT_.out (by kernel_rfl)) ?_
    refine uf 18 31 z4k (zo HT_.out (by kernel_rfl)) ?_
    refine uf 19 32 z4l (zo HT_.out (by kernel_rfl)) ?_
    refine uf 20 33 z2v (zo HT_.out (by kernel_rfl)) ?_
    refine uf 21 34 z2w (zo HT_.out (by kernel_rfl)) ?_
    refine uf 22 35 z2x (zo HT_.out (by kernel_rfl)) ?_
    refine uf 23 36 z2y (zo HT_.out (by kernel_rfl)) ?_
    refine uf 24 37 z2z (zo HT_.out (by kernel_rfl)) ?_
    refine uf 25 38 z30 (zo HT_.out (by kernel_rfl)) ?_
    refine uf 26 39 z34 (zo HT_.out (by kernel_rfl)) ?_
    refine pq_ 27 40 z39 (zo HT_.out (by kernel_rfl)) ?_
    refine ju (j9 HT_.out (by kernel_rfl)) ?_
    try go_wp2
    go_meet
    case rel => exact ⟨_, (true), (by first | rfl | (simp; done) | (simp [*]; done)), H', ⟨by have := HK1.out; first | omega | exact Nat.le_refl _⟩, ⟨by (with_reducible repeat (first | refine ze ?_ _ | refine zf ?_ | refine zc ?_ _)); exact BK136.out⟩, ⟨by (with_reducible repeat (first | refine ze ?_ _ | refine zf ?_ | refine zc ?_ _)); exact BK138.out⟩, ⟨by repeat (first | (with_reducible first | exact HB.out | apply z8 | apply z6 | apply z7 | refine zb ?_ GE136.out | refine zb ?_ GE138.out) | exact HB.out)⟩⟩
   subst c15
   have H1 : ((gr.f a0_0 a0_1 a0_2 a0_3 a0_4 a0_5 a0_6 l0_7 a0_8 a0_9 a0_10 ((zr l0_7 x8_1).f0) ((zr l0_7 x8_1).f1) ((zr l0_7 x8_1).f2)).bind fun t140 => (if t140 = true then (yx.j1 k1 l0_7 (l0_7.length : Int) x8_1 true a0_0 a0_1 a0_2 a0_3 a0_4 a0_5 a0_6 l0_7 a0_8 a0_9 a0_10) else (if x8_1 > 0 then (if 0 ≤ (wrap64 (x8_1 - 1)) then (if (wrap64 (x8_1 - 1)) < (l0_7.length : Int) then ((jo.f k1 ((zr l0_7 (wrap64 (x8_1 - 1))).f0) ((zr l0_7 (wrap64 (x8_1 - 1))).f1) ((zr l0_7 (wrap64 (x8_1 - 1))).f2) ((zr l0_7 x8_1).f0) ((zr l0_7 x8_1).f1) ((zr l0_7 x8_1).f2)).bind fun t142 => (yx.j1 k1 l0_7 (l0_7.length : Int) x8_1 (!t142) a0_0 a0_1 a0_2 a0_3 a0_4 a0_5 a0_6 l0_7 a0_8 a0_9 a0_10)) else (none)) else (none)) else (yx.j1 k1 l0_7 (l0_7.length : Int) x8_1 false a0_0 a0_1 a0_2 a0_3 a0_4 a0_5 a0_6 l0_7 a0_8 a0_9 a0_10)))) = some r := by rw [if_pos rfl] at H; exact H
   clear H
   have H := H1
   clear H1
   replace H := Option.bind_eq_some_iff.mp H
   obtain ⟨t140, A160, H⟩ := H
   replace H : (if t140 = true then (yx.j1 k1 l0_7 (l0_7.length : Int) x8_1 true a0_0 a0_1 a0_2 a0_3 a0_4 a0_5 a0_6 l0_7 a0_8 a0_9 a0_10) else (if x8_1 > 0 then (if 0 ≤ (wrap64 (x8_1 - 1)) then (if (wrap64 (x8_1 - 1)) < (l0_7.length : Int) then ((jo.f k1 ((zr l0_7 (wrap64 (x8_1 - 1))).f0) ((zr l0_7 (wrap64 (x8_1 - 1))).f1) ((zr l0_7 (wrap64 (x8_1 - 1))).f2) ((zr l0_7 x8_1).f0) ((zr l0_7 x8_1).f1) ((zr l0_7 x8_1).f2)).bind fun t142 => (yx.j1 k1 l0_7 (l0_7.length : Int) x8_1 (!t142) a0_0 a0_1 a0_2 a0_3 a0_4 a0_5 a0_6 l0_7 a0_8 a0_9 a0_10)) else (none)) else (none)) else (yx.j1 k1 l0_7 (l0_7.length : Int) x8_1 false a0_0 a0_1 a0_2 a0_3 a0_4 a0_5 a0_6 l0_7 a0_8 a0_9 a0_10))) = some r := H
   have A16 := Aside0.mk A160
   clear A160
   by_cases c17 : t140 = true
   ·
    subst c17
    have H1 : (yx.j1 k1 l0_7 (l0_7.length : Int) x8_1 true a0_0 a0_1 a0_2 a0_3 a0_4 a0_5 a0_6 l0_7 a0_8 a0_9 a0_10) = some r := by rw [if_pos rfl] at H; exact H
    clear H
    have H := H1
    clear H1
    have H' := Aside0.mk H
    clear H
    try go_wp2
    generalize hw_ : (((w8.setCell ⟨gb138, 0, none⟩ (.int .i64 ((zr l0_7 x8_1).f0))).setCell ⟨gb138, 1, none⟩ (.int .i64 ((zr l0_7 x8_1).f1))).setCell ⟨gb138, 2, none⟩ (.int .i64 ((zr l0_7 x8_1).f2))) = w18
    have n0_ : Aside0 (w18.heap[gb136]? = some (.cells #[.int .i64 a0_0, .int .i64 a0_1, .int .i64 a0_2, .int .i64 a0_3, .int .i64 a0_4, .int .i64 a0_5, .string a0_6, .slice (some ad137) l0_7.length c0_7, .int .i64 a0_8, .int .i64 a0_9, .int .i64 a0_10] 38 (0, 0))) := by rw [← hw_]; exact ⟨(zp (zp (zp BK136.out NB136_138.out _) NB136_138.out _) NB136_138.out _)⟩
    have n1_ : Aside0 (w18.heap[gb138]? = some (.cells #[.int .i64 ((zr l0_7 x8_1).f0), .int .i64 ((zr l0_7 x8_1).f1), .int .i64 ((zr l0_7 x8_1).f2)] 36 (0, 0))) := by rw [← hw_]; exact ⟨(z2k BK138.out _ _ _)⟩
    have n2_ : Aside0 (Below w.heap.size w w18) := by rw [← hw_]; exact ⟨by repeat (first | (with_reducible first | exact HB.out | apply z8 | apply z6 | apply z7 | refine zb ?_ GE136.out | refine zb ?_ GE138.out) | exact HB.out)⟩
    clear hw_
    (try clear BK136)
    (try clear BK138)
    (try clear HB)
    have BK136 := n0_
    have BK138 := n1_
    have HB := n2_
    clear n0_ n1_ n2_
    have n0_ := Aside0.mk (zf BK136.out)
    have n1_ := Aside0.mk (zf BK138.out)
    have n2_ := Aside0.mk (z7 HB.out)
    clear BK136
    clear BK138
    clear HB
    have BK136 := n0_
    have BK138 := n1_
    have HB := n2_
    clear n0_ n1_ n2_
    refine ji (n := 28) (S := fun w' => w'.cell? ⟨gb138, 0, none⟩ = some (.int .i64 ((zr l0_7 x8_1).f0)) ∧ w'.cell? ⟨gb138, 1, none⟩ = some (.int .i64 ((zr l0_7 x8_1).f1)) ∧ w'.cell? ⟨gb138, 2, none⟩ = some (.int .i64 ((zr l0_7 x8_1).f2)) ∧ w'.cell? ⟨gb136, 0, none⟩ = some (.int .i64 a0_0) ∧ w'.cell? ⟨gb136, 1, none⟩ = some (.int .i64 a0_1) ∧ w'.cell? ⟨gb136, 2, none⟩ = some (.int .i64 a0_2) ∧ w'.cell? ⟨gb136, 3, none⟩ = some (.int .i64 a0_3) ∧ w'.cell? ⟨gb136, 4, none⟩ = some (.int .i64 a0_4) ∧ w'.cell? ⟨gb136, 5, none⟩ = some (.int .i64 a0_5) ∧ w'.cell? ⟨gb136, 6, none⟩ = some (.string a0_6) ∧ w'.cell? ⟨gb136, 7, none⟩ = some (.slice (some ad137) l0_7.length c0_7) ∧ w'.cell? ⟨gb136, 8, none⟩ = some (.int .i64 a0_8) ∧ w'.cell? ⟨gb136, 9, none⟩ = some (.int .i64 a0_9) ∧ w'.cell? ⟨gb136, 10, none⟩ = some (.int .i64 a0_10)) (ds := []) z4a (by kernel_rfl) rfl rfl ⟨(za BK138.out 0).trans rfl, (za BK138.out 1).trans rfl, (za BK138.out 2).trans rfl, (za BK136.out 0).trans rfl, (za BK136.out 1).trans rfl, (za BK136.out 2).trans rfl, (za BK136.out 3).trans rfl, (za BK136.out 4).trans rfl, (za BK136.out 5).trans rfl, (za BK136.out 6).trans rfl, (za BK136.out 7).trans rfl, (za BK136.out 8).trans rfl, (za BK136.out 9).trans rfl, (za BK136.out 10).trans rfl⟩ (fun hHeld => ?_); refine uy yx.tab4 yx.bits4 (fun HT_ HW_ => ?_)
    generalize w18.drew = w19 at BK136 BK138 HB hHeld ⊢
    refine pq_ 1 14 z4b (zo HT_.out (by kernel_rfl)) ?_
    refine tq_ 0 13 z4c (yj HT_.out HW_.out (by kernel_rfl)) hHeld ?_
    refine gz 2 15 z4d (zo HT_.out (by kernel_rfl)) ?_
    refine pq_ 3 16 z4e (zo HT_.out (by kernel_rfl)) ?_
    refine tq_ 4 17 z4f (yj HT_.out HW_.out (by kernel_rfl)) hHeld ?_
    refine ul (i := 5) (N := some 18) z4g rfl rfl (vn HT_.out (by kernel_rfl)) (by decide) (fun K hK => ?_)
    refine j5 Try.func81 (by kernel_rfl) rfl #[.agg #[.int .i64 ((zr l0_7 x8_1).f0), .int .i64 ((zr l0_7 x8_1).f1), .int .i64 ((zr l0_7 x8_1).f2)]] (by rfl) rfl rfl (by (try simp only [List.map_toArray, List.map_cons, List.map_nil]); first | done | rfl | (simp only [List.length_drop, List.length_take]; rfl)) ?_
    with_reducible refine (jp.calls ((zr l0_7 x8_1).f0) ((zr l0_7 x8_1).f1) ((zr l0_7 x8_1).f2) true _ A14.out).mono ?_
    rintro e w20 ⟨rfl, hb⟩
    refine ⟨_, rfl, ?_⟩
    have n0_ := Aside0.mk (zt (by (with_reducible repeat (first | refine ze ?_ _ | refine zf ?_ | refine zc ?_ _)); exact BK136.out) hb)
    have n1_ := Aside0.mk (zt (by (with_reducible repeat (first | refine ze ?_ _ | refine zf ?_ | refine zc ?_ _)); exact BK138.out) hb)
    have n2_ := Aside0.mk (zj (by repeat (first | (with_reducible first | exact HB.out | apply z8 | apply z6 | apply z7 | refine zb ?_ GE136.out | refine zb ?_ GE138.out) | exact HB.out)) hb)
    clear BK136
    clear BK138
    clear HB
    have BK136 := n0_
    have BK138 := n1_
    have HB := n2_
    clear n0_ n1_ n2_
    (try clear hb)
    (try clear hb2)
    (try clear hk)
    (try clear hi)
    refine hK.out _ _ ⟨(za BK138.out 0).trans rfl, (za BK138.out 1).trans rfl, (za BK138.out 2).trans rfl, (za BK136.out 0).trans rfl, (za BK136.out 1).trans rfl, (za BK136.out 2).trans rfl, (za BK136.out 3).trans rfl, (za BK136.out 4).trans rfl, (za BK136.out 5).trans rfl, (za BK136.out 6).trans rfl, (za BK136.out 7).trans rfl, (za BK136.out 8).trans rfl, (za BK136.out 9).trans rfl, (za BK136.out 10).trans rfl⟩ (fun hHeld => ?_)
    clear hK K
    refine um (a' := ?_) ?_ ?_
    rotate_left
    ·
     show Act.put _ (some 18) _ = _
     simp only [Act.put, List.setIfInBounds_toArray, List.set_cons_zero, List.set_cons_succ, vw, ud]
     rfl
    refine pq_ 6 19 z4h (zo HT_.out (by kernel_rfl)) ?_
    refine pq_ 7 20 z4i (zo HT_.out (by kernel_rfl)) ?_
    refine pq_ 8 21 z4j (zo HT_.out (by kernel_rfl)) ?_
    refine tq_ 9 22 z2m (yj HT_.out HW_.out (by kernel_rfl)) hHeld ?_
    refine tq_ 10 23 z2n (yj HT_.out HW_.out (by kernel_rfl)) hHeld ?_
    refine ul (i := 11) (N := some 24) z2o rfl rfl (vn HT_.out (by kernel_rfl)) (by decide) (fun K hK => ?_)
    refine j5 Try.func82 (by kernel_rfl) rfl #[.agg #[.int .i64 a0_0, .int .i64 a0_1, .int .i64 a0_2, .int .i64 a0_3, .int .i64 a0_4, .int .i64 a0_5, .string a0_6, .slice (some ad137) l0_7.length c0_7, .int .i64 a0_8, .int .i64 a0_9, .int .i64 a0_10], .agg #[.int .i64 ((zr l0_7 x8_1).f0), .int .i64 ((zr l0_7 x8_1).f1), .int .i64 ((zr l0_7 x8_1).f2)]] (by rfl) rfl rfl (by (try simp only [List.map_toArray, List.map_cons, List.map_nil]); first | done | rfl | (simp only [List.length_drop, List.length_take]; rfl)) ?_
    with_reducible refine (gr.calls a0_0 a0_1 a0_2 a0_3 a0_4 a0_5 a0_6 _ _ l0_7 a0_8 a0_9 a0_10 ((zr l0_7 x8_1).f0) ((zr l0_7 x8_1).f1) ((zr l0_7 x8_1).f2) true _ ?side1 ?side2 A16.out).mono ?_
    (case side1 => repeat (first | exact (Kd.yt HR0_7.out HB.out) | (with_reducible refine Kd.yo ?_ _) | (with_reducible refine Kd.yp ?_ _) | (with_reducible refine Kd.yy ?_)))
    (case side2 => exact HC0_7.out)
    rintro e w21 ⟨rfl, hb⟩
    refine ⟨_, rfl, ?_⟩
    have n0_ := Aside0.mk (zt (by (with_reducible repeat (first | refine ze ?_ _ | refine zf ?_ | refine zc ?_ _)); exact BK136.out) hb)
    have n1_ := Aside0.mk (zt (by (with_reducible repeat (first | refine ze ?_ _ | refine zf ?_ | refine zc ?_ _)); exact BK138.out) hb)
    have n2_ := Aside0.mk (zj (by repeat (first | (with_reducible first | exact HB.out | apply z8 | apply z6 | apply z7 | refine zb ?_ GE136.out | refine zb ?_ GE138.out) | exact HB.out)) hb)
    clear BK136
    clear BK138
    clear HB
    have BK136 := n0_
    have BK138 := n1_
    have HB := n2_
    clear n0_ n1_ n2_
    (try clear hb)
    (try clear hb2)
    (try clear hk)
    (try clear hi)
    refine hK.out _ _ ⟨(za BK138.out 0).trans rfl, (za BK138.out 1).trans rfl, (za BK138.out 2).trans rfl, (za BK136.out 0).trans rfl, (za BK136.out 1).trans rfl, (za BK136.out 2).trans rfl, (za BK136.out 3).trans rfl, (za BK136.out 4).trans rfl, (za BK136.out 5).trans rfl, (za BK136.out 6).trans rfl, (za BK136.out 7).trans rfl, (za BK136.out 8).trans rfl, (za BK136.out 9).trans rfl, (za BK136.out 10).trans rfl⟩ (fun hHeld => ?_)
    clear hK K
    refine um (a' := ?_) ?_ ?_
    rotate_left
    ·
     show Act.put _ (some 24) _ = _
     simp only [Act.put, List.setIfInBounds_toArray, List.set_cons_zero, List.set_cons_succ, vw, ud]
     rfl
    refine pq_ 12 25 z2p (zo HT_.out (by kernel_rfl)) ?_
    refine pq_ 13 26 z2q (zo HT_.out (by kernel_rfl)) ?_
    refine uf 14 27 z2r (zo HT_.out (by kernel_rfl)) ?_
    refine uf 15 28 z2s (zo HT_.out (by kernel_rfl)) ?_
    refine uf 16 29 z2t (zo HT_.out (by kernel_rfl)) ?_
    refine uf 17 30 z2u (zo HT_.out (by kernel_rfl)) ?_
    refine uf 18 31 z4k (zo HT_.out (by kernel_rfl)) ?_
    refine uf 19 32 z4l (zo HT_.out (by kernel_rfl)) ?_
    refine uf 20 33 z2v (zo HT_.out (by kernel_rfl)) ?_
    refine uf 21 34 z2w (zo HT_.out (by kernel_rfl)) ?_
    refine uf 22 35 z2x (zo HT_.out (by kernel_rfl)) ?_
    refine uf 23 36 z2y (zo HT_.out (by kernel_rfl)) ?_
    refine uf 24 37 z2z (zo HT_.out (by kernel_rfl)) ?_
    refine uf 25 38 z30 (zo HT_.out (by kernel_rfl)) ?_
    refine uf 26 39 z34 (zo HT_.out (by kernel_rfl)) ?_
    refine pq_ 27 40 z39 (zo HT_.out (by kernel_rfl)) ?_
    refine ju (j9 HT_.out (by kernel_rfl)) ?_
    try go_wp2
    go_meet
    case rel => exact ⟨_, (true), (by first | rfl | (simp; done) | (simp [*]; done)), H', ⟨by have := HK1.out; first | omega | exact Nat.le_refl _⟩, ⟨by (with_reducible repeat (first | refine ze ?_ _ | refine zf ?_ | refine zc ?_ _)); exact BK136.out⟩, ⟨by (with_reducible repeat (first | refine ze ?_ _ | refine zf ?_ | refine zc ?_ _)); exact BK138.out⟩, ⟨by repeat (first | (with_reducible first | exact HB.out | apply z8 | apply z6 | apply z7 | refine zb ?_ GE136.out | refine zb ?_ GE138.out) | exact HB.out)⟩⟩
   replace c17 := Bool.eq_false_iff.mpr c17
   subst c17
   have H1 : (if x8_1 > 0 then (if 0 ≤ (wrap64 (x8_1 - 1)) then (if (wrap64 (x8_1 - 1)) < (l0_7.length : Int) then ((jo.f k1 ((zr l0_7 (wrap64 (x8_1 - 1))).f0) ((zr l0_7 (wrap64 (x8_1 - 1))).f1) ((zr l0_7 (wrap64 (x8_1 - 1))).f2) ((zr l0_7 x8_1).f0) ((zr l0_7 x8_1).f1) ((zr l0_7 x8_1).f2)).bind fun t142 => (yx.j1 k1 l0_7 (l0_7.length : Int) x8_1 (!t142) a0_0 a0_1 a0_2 a0_3 a0_4 a0_5 a0_6 l0_7 a0_8 a0_9 a0_10)) else (none)) else (none)) else (yx.j1 k1 l0_7 (l0_7.length : Int) x8_1 false a0_0 a0_1 a0_2 a0_3 a0_4 a0_5 a0_6 l0_7 a0_8 a0_9 a0_10)) = some r := by rw [if_neg (show ¬ (false = true) by decide)] at H; exact H
   clear H
   have H := H1
   clear H1
   by_cases c22 : x8_1 > 0
   rotate_left
   ·
    rw [if_neg c22] at H
    have c22b0 : decide (0 < x8_1) = false := decide_eq_false c22
    clear c22
    have H' := Aside0.mk H
    clear H
    try go_wp2
    generalize hw_ : (((w8.setCell ⟨gb138, 0, none⟩ (.int .i64 ((zr l0_7 x8_1).f0))).setCell ⟨gb138, 1, none⟩ (.int .i64 ((zr l0_7 x8_1).f1))).setCell ⟨gb138, 2, none⟩ (.int .i64 ((zr l0_7 x8_1).f2))) = w32
    have n0_ : Aside0 (w32.heap[gb136]? = some (.cells #[.int .i64 a0_0, .int .i64 a0_1, .int .i64 a0_2, .int .i64 a0_3, .int .i64 a0_4, .int .i64 a0_5, .string a0_6, .slice (some ad137) l0_7.length c0_7, .int .i64 a0_8, .int .i64 a0_9, .int .i64 a0_10] 38 (0, 0))) := by rw [← hw_]; exact ⟨(zp (zp (zp BK136.out NB136_138.out _) NB136_138.out _) NB136_138.out _)⟩
    have n1_ : Aside0 (w32.heap[gb138]? = some (.cells #[.int .i64 ((zr l0_7 x8_1).f0), .int .i64 ((zr l0_7 x8_1).f1), .int .i64 ((zr l0_7 x8_1).f2)] 36 (0, 0))) := by rw [← hw_]; exact ⟨(z2k BK138.out _ _ _)⟩
    have n2_ : Aside0 (Below w.heap.size w w32) := by rw [← hw_]; exact ⟨by repeat (first | (with_reducible first | exact HB.out | apply z8 | apply z6 | apply z7 | refine zb ?_ GE136.out | refine zb ?_ GE138.out) | exact HB.out)⟩
    clear hw_
    (try clear BK136)
    (try clear BK138)
    (try clear HB)
    have BK136 := n0_
    have BK138 := n1_
    have HB := n2_
    clear n0_ n1_ n2_
    have n0_ := Aside0.mk (zf BK136.out)
    have n1_ := Aside0.mk (zf BK138.out)
    have n2_ := Aside0.mk (z7 HB.out)
    clear BK136
    clear BK138
    clear HB
    have BK136 := n0_
    have BK138 := n1_
    have HB := n2_
    clear n0_ n1_ n2_
    refine ji (n := 28) (S := fun w' => w'.cell? ⟨gb138, 0, none⟩ = some (.int .i64 ((zr l0_7 x8_1).f0)) ∧ w'.cell? ⟨gb138, 1, none⟩ = some (.int .i64 ((zr l0_7 x8_1).f1)) ∧ w'.cell? ⟨gb138, 2, none⟩ = some (.int .i64 ((zr l0_7 x8_1).f2)) ∧ w'.cell? ⟨gb136, 0, none⟩ = some (.int .i64 a0_0) ∧ w'.cell? ⟨gb136, 1, none⟩ = some (.int .i64 a0_1) ∧ w'.cell? ⟨gb136, 2, none⟩ = some (.int .i64 a0_2) ∧ w'.cell? ⟨gb136, 3, none⟩ = some (.int .i64 a0_3) ∧ w'.cell? ⟨gb136, 4, none⟩ = some (.int .i64 a0_4) ∧ w'.cell? ⟨gb136, 5, none⟩ = some (.int .i64 a0_5) ∧ w'.cell? ⟨gb136, 6, none⟩ = some (.string a0_6) ∧ w'.cell? ⟨gb136, 7, none⟩ = some (.slice (some ad137) l0_7.length c0_7) ∧ w'.cell? ⟨gb136, 8, none⟩ = some (.int .i64 a0_8) ∧ w'.cell? ⟨gb136, 9, none⟩ = some (.int .i64 a0_9) ∧ w'.cell? ⟨gb136, 10, none⟩ = some (.int .i64 a0_10)) (ds := []) z4a (by kernel_rfl) rfl rfl ⟨(za BK138.out 0).trans rfl, (za BK138.out 1).trans rfl, (za BK138.out 2).trans rfl, (za BK136.out 0).trans rfl, (za BK136.out 1).trans rfl, (za BK136.out 2).trans rfl, (za BK136.out 3).trans rfl, (za BK136.out 4).trans rfl, (za BK136.out 5).trans rfl, (za BK136.out 6).trans rfl, (za BK136.out 7).trans rfl, (za BK136.out 8).trans rfl, (za BK136.out 9).trans rfl, (za BK136.out 10).trans rfl⟩ (fun hHeld => ?_); refine uy yx.tab4 yx.bits4 (fun HT_ HW_ => ?_)
    generalize w32.drew = w33 at BK136 BK138 HB hHeld ⊢
    refine pq_ 1 14 z4b (zo HT_.out (by kernel_rfl)) ?_
    refine tq_ 0 13 z4c (yj HT_.out HW_.out (by kernel_rfl)) hHeld ?_
    refine gz 2 15 z4d (zo HT_.out (by kernel_rfl)) ?_
    refine pq_ 3 16 z4e (zo HT_.out (by kernel_rfl)) ?_
    refine tq_ 4 17 z4f (yj HT_.out HW_.out (by kernel_rfl)) hHeld ?_
    refine ul (i := 5) (N := some 18) z4g rfl rfl (vn HT_.out (by kernel_rfl)) (by decide) (fun K hK => ?_)
    refine j5 Try.func81 (by kernel_rfl) rfl #[.agg #[.int .i64 ((zr l0_7 x8_1).f0), .int .i64 ((zr l0_7 x8_1).f1), .int .i64 ((zr l0_7 x8_1).f2)]] (by rfl) rfl rfl (by (try simp only [List.map_toArray, List.map_cons, List.map_nil]); first | done | rfl | (simp only [List.length_drop, List.length_take]; rfl)) ?_
    with_reducible refine (jp.calls ((zr l0_7 x8_1).f0) ((zr l0_7 x8_1).f1) ((zr l0_7 x8_1).f2) true _ A14.out).mono ?_
    rintro e w34 ⟨rfl, hb⟩
    refine ⟨_, rfl, ?_⟩
    have n0_ := Aside0.mk (zt (by (with_reducible repeat (first | refine ze ?_ _ | refine zf ?_ | refine zc ?_ _)); exact BK136.out) hb)
    have n1_ := Aside0.mk (zt (by (with_reducible repeat (first | refine ze ?_ _ | refine zf ?_ | refine zc ?_ _)); exact BK138.out) hb)
    have n2_ := Aside0.mk (zj (by repeat (first | (with_reducible first | exact HB.out | apply z8 | apply z6 | apply z7 | refine zb ?_ GE136.out | refine zb ?_ GE138.out) | exact HB.out)) hb)
    clear BK136
    clear BK138
    clear HB
    have BK136 := n0_
    have BK138 := n1_
    have HB := n2_
    clear n0_ n1_ n2_
    (try clear hb)
    (try clear hb2)
    (try clear hk)
    (try clear hi)
    refine hK.out _ _ ⟨(za BK138.out 0).trans rfl, (za BK138.out 1).trans rfl, (za BK138.out 2).trans rfl, (za BK136.out 0).trans rfl, (za BK136.out 1).trans rfl, (za BK136.out 2).trans rfl, (za BK136.out 3).trans rfl, (za BK136.out 4).trans rfl, (za BK136.out 5).trans rfl, (za BK136.out 6).trans rfl, (za BK136.out 7).trans rfl, (za BK136.out 8).trans rfl, (za BK136.out 9).trans rfl, (za BK136.out 10).trans rfl⟩ (fun hHeld => ?_)
    clear hK K
    refine um (a' := ?_) ?_ ?_
    rotate_left
    ·
     show Act.put _ (some 18) _ = _
     simp only [Act.put, List.setIfInBounds_toArray, List.set_cons_zero, List.set_cons_succ, vw, ud]
     rfl
    refine pq_ 6 19 z4h (zo HT_.out (by kernel_rfl)) ?_
    refine pq_ 7 20 z4i (zo HT_.out (by kernel_rfl)) ?_
    refine pq_ 8 21 z4j (zo HT_.out (by kernel_rfl)) ?_
    refine tq_ 9 22 z2m (yj HT_.out HW_.out (by kernel_rfl)) hHeld ?_
    refine tq_ 10 23 z2n (yj HT_.out HW_.out (by kernel_rfl)) hHeld ?_
    refine ul (i := 11) (N := some 24) z2o rfl rfl (vn HT_.out (by kernel_rfl)) (by decide) (fun K hK => ?_)
    refine j5 Try.func82 (by kernel_rfl) rfl #[.agg #[.int .i64 a0_0, .int .i64 a0_1, .int .i64 a0_2, .int .i64 a0_3, .int .i64 a0_4, .int .i64 a0_5, .string a0_6, .slice (some ad137) l0_7.length c0_7, .int .i64 a0_8, .int .i64 a0_9, .int .i64 a0_10], .agg #[.int .i64 ((zr l0_7 x8_1).f0), .int .i64 ((zr l0_7 x8_1).f1), .int .i64 ((zr l0_7 x8_1).f2)]] (by rfl) rfl rfl (by (try simp only [List.map_toArray, List.map_cons, List.map_nil]); first | done | rfl | (simp only [List.length_drop, List.length_take]; rfl)) ?_
    with_reducible refine (gr.calls a0_0 a0_1 a0_2 a0_3 a0_4 a0_5 a0_6 _ _ l0_7 a0_8 a0_9 a0_10 ((zr l0_7 x8_1).f0) ((zr l0_7 x8_1).f1) ((zr l0_7 x8_1).f2) false _ ?side1 ?side2 A16.out).mono ?_
    (case side1 => repeat (first | exact (Kd.yt HR0_7.out HB.out) | (with_reducible refine Kd.yo ?_ _) | (with_reducible refine Kd.yp ?_ _) | (with_reducible refine Kd.yy ?_)))
    (case side2 => exact HC0_7.out)
    rintro e w35 ⟨rfl, hb⟩
    refine ⟨_, rfl, ?_⟩
    have n0_ := Aside0.mk (zt (by (with_reducible repeat (first | refine ze ?_ _ | refine zf ?_ | refine zc ?_ _)); exact BK136.out) hb)
    have n1_ := Aside0.mk (zt (by (with_reducible repeat (first | refine ze ?_ _ | refine zf ?_ | refine zc ?_ _)); exact BK138.out) hb)
    have n2_ := Aside0.mk (zj (by repeat (first | (with_reducible first | exact HB.out | apply z8 | apply z6 | apply z7 | refine zb ?_ GE136.out | refine zb ?_ GE138.out) | exact HB.out)) hb)
    clear BK136
    clear BK138
    clear HB
    have BK136 := n0_
    have BK138 := n1_
    have HB := n2_
    clear n0_ n1_ n2_
    (try clear hb)
    (try clear hb2)
    (try clear hk)
    (try clear hi)
    refine hK.out _ _ ⟨(za BK138.out 0).trans rfl, (za BK138.out 1).trans rfl, (za BK138.out 2).trans rfl, (za BK136.out 0).trans rfl, (za BK136.out 1).trans rfl, (za BK136.out 2).trans rfl, (za BK136.out 3).trans rfl, (za BK136.out 4).trans rfl, (za BK136.out 5).trans rfl, (za BK136.out 6).trans rfl, (za BK136.out 7).trans rfl, (za BK136.out 8).trans rfl, (za BK136.out 9).trans rfl, (za BK136.out 10).trans rfl⟩ (fun hHeld => ?_)
    clear hK K
    refine um (a' := ?_) ?_ ?_
    rotate_left
    ·
     show Act.put _ (some 24) _ = _
     simp only [Act.put, List.setIfInBounds_toArray, List.set_cons_zero, List.set_cons_succ, vw, ud]
     rfl
    refine pq_ 12 25 z2p (zo HT_.out (by kernel_rfl)) ?_
    refine pq_ 13 26 z2q (zo HT_.out (by kernel_rfl)) ?_
    refine pq_ 14 27 z2r (zo HT_.out (by kernel_rfl)) ?_
    refine gz 15 28 z2s (zo HT_.out (by kernel_rfl)) ?_
    refine pq_ 16 29 z2t (zo HT_.out (by kernel_rfl)) ?_
    refine uf 17 30 z2u (zo HT_.out (by kernel_rfl)) ?_
    refine uf 18 31 z4k (zo HT_.out (by kernel_rfl)) ?_
    refine uf 19 32 z4l (zo HT_.out (by kernel_rfl)) ?_
    refine uf 20 33 z2v (zo HT_.out (by kernel_rfl)) ?_
    refine uf 21 34 z2w (zo HT_.out (by kernel_rfl)) ?_
    refine uf 22 35 z2x (zo HT_.out (by kernel_rfl)) ?_
    refine uf 23 36 z2y (zo HT_.out (by kernel_rfl)) ?_
    refine uf 24 37 z2z (zo HT_.out (by kernel_rfl)) ?_
    refine uf 25 38 z30 (zo HT_.out (by kernel_rfl)) ?_
    refine pq_ 26 39 z34 (zo HT_.out (by kernel_rfl)) ?_
    refine pq_ 27 40 z39 (zo HT_.out (by kernel_rfl)) ?_
    refine ju (j9 HT_.out (by kernel_rfl)) ?_
    try go_wp2
    go_meet
    case rel => exact ⟨_, (false), (by first | rfl | (simp; done) | (simp [*]; done)), H', ⟨by have := HK1.out; first | omega | exact Nat.le_refl _⟩, ⟨by (with_reducible repeat (first | refine ze ?_ _ | refine zf ?_ | refine zc ?_ _)); exact BK136.out⟩, ⟨by (with_reducible repeat (first | refine ze ?_ _ | refine zf ?_ | refine zc ?_ _)); exact BK138.out⟩, ⟨by repeat (first | (with_reducible first | exact HB.out | apply z8 | apply z6 | apply z7 | refine zb ?_ GE136.out | refine zb ?_ GE138.out) | exact HB.out)⟩⟩
   rw [if_pos c22] at H
   have c22b0 : decide (0 < x8_1) = true := decide_eq_true c22
   clear c22
   obtain ⟨ji23, hji23⟩ : ∃ j_ : Int, (wrap64 (x8_1 - 1)) = j_ := ⟨_, rfl⟩
   replace H : (if 0 ≤ (ji23) then (if (ji23) < (l0_7.length : Int) then ((jo.f k1 ((zr l0_7 (ji23)).f0) ((zr l0_7 (ji23)).f1) ((zr l0_7 (ji23)).f2) ((zr l0_7 x8_1).f0) ((zr l0_7 x8_1).f1) ((zr l0_7 x8_1).f2)).bind fun t142 => (yx.j1 k1 l0_7 (l0_7.length : Int) x8_1 (!t142) a0_0 a0_1 a0_2 a0_3 a0_4 a0_5 a0_6 l0_7 a0_8 a0_9 a0_10)) else (none)) else (none)) = some r := by first | (rw [hji23] at H; exact H) | (simp only [hji23] at H ⊢; exact H)
   (try rw [hji23] at A14)
   (try rw [hji23] at A16)
   have hji23w : (IntKind.i64.wrap (x8_1 - 1)) = ji23 := (vw _).trans hji23
   by_cases c24 : 0 ≤ (ji23)
   rotate_left
   ·
    rw [if_neg c24] at H
    exact absurd H (by simp)
   rw [if_pos c24] at H
   have c24b0 : decide (0 ≤ (ji23)) = true := decide_eq_true c24
   clear c24
   by_cases c25 : (ji23) < (l0_7.length : Int)
   rotate_left
   ·
    rw [if_neg c25] at H
    exact absurd H (by simp)
   rw [if_pos c25] at H
   have c25b0 : decide ((ji23) < (l0_7.length : Int)) = true := decide_eq_true c25
   clear c25
   replace H := Option.bind_eq_some_iff.mp H
   obtain ⟨t142, A260, H⟩ := H
   replace H : (yx.j1 k1 l0_7 (l0_7.length : Int) x8_1 (!t142) a0_0 a0_1 a0_2 a0_3 a0_4 a0_5 a0_6 l0_7 a0_8 a0_9 a0_10) = some r := H
   have A26 := Aside0.mk A260
   clear A260
   have H' := Aside0.mk H
   clear H
   try go_wp2
   generalize hw_ : (((w8.setCell ⟨gb138, 0, none⟩ (.int .i64 ((zr l0_7 x8_1).f0))).setCell ⟨gb138, 1, none⟩ (.int .i64 ((zr l0_7 x8_1).f1))).setCell ⟨gb138, 2, none⟩ (.int .i64 ((zr l0_7 x8_1).f2))) = w27
   have n0_ : Aside0 (w27.heap[gb136]? = some (.cells #[.int .i64 a0_0, .int .i64 a0_1, .int .i64 a0_2, .int .i64 a0_3, .int .i64 a0_4, .int .i64 a0_5, .string a0_6, .slice (some ad137) l0_7.length c0_7, .int .i64 a0_8, .int .i64 a0_9, .int .i64 a0_10] 38 (0, 0))) := by rw [← hw_]; exact ⟨(zp (zp (zp BK136.out NB136_138.out _) NB136_138.out _) NB136_138.out _)⟩
   have n1_ : Aside0 (w27.heap[gb138]? = some (.cells #[.int .i64 ((zr l0_7 x8_1).f0), .int .i64 ((zr l0_7 x8_1).f1), .int .i64 ((zr l0_7 x8_1).f2)] 36 (0, 0))) := by rw [← hw_]; exact ⟨(z2k BK138.out _ _ _)⟩
   have n2_ : Aside0 (Below w.heap.size w w27) := by rw [← hw_]; exact ⟨by repeat (first | (with_reducible first | exact HB.out | apply z8 | apply z6 | apply z7 | refine zb ?_ GE136.out | refine zb ?_ GE138.out) | exact HB.out)⟩
   clear hw_
   (try clear BK136)
   (try clear BK138)
   (try clear HB)
   have BK136 := n0_
   have BK138 := n1_
   have HB := n2_
   clear n0_ n1_ n2_
   have n0_ := Aside0.mk (zf BK136.out)
   have n1_ := Aside0.mk (zf BK138.out)
   have n2_ := Aside0.mk (z7 HB.out)
   clear BK136
   clear BK138
   clear HB
   have BK136 := n0_
   have BK138 := n1_
   have HB := n2_
   clear n0_ n1_ n2_
   have p141 : 0 ≤ ((ji23) : Int) := of_decide_eq_true (by first | (with_reducible assumption) | assumption)
   have q141 : (ji23) < (l0_7.length : Int) := of_decide_eq_true (by first | (with_reducible assumption) | assumption)
   obtain ⟨ad141, e141, hx141_0, hx141_1, hx141_2⟩ := z1j HR0_7.out (ji23) p141 q141
   have hw141_2 := hx141_2
   have hw141_1 := hx141_1
   have hw141_0 := hx141_0
   obtain rfl : ad137 = ad141 := (by injection e141)
   replace hx141_0 := (HB.out.cell (World.block_lt_of_cell? w _ hx141_0)).trans hx141_0
   replace hx141_1 := (HB.out.cell (World.block_lt_of_cell? w _ hx141_1)).trans hx141_1
   replace hx141_2 := (HB.out.cell (World.block_lt_of_cell? w _ hx141_2)).trans hx141_2
   replace p141 := eq_true p141
   replace q141 := eq_true q141
   refine ji (n := 28) (S := fun w' => w'.cell? ⟨gb138, 0, none⟩ = some (.int .i64 ((zr l0_7 x8_1).f0)) ∧ w'.cell? ⟨gb138, 1, none⟩ = some (.int .i64 ((zr l0_7 x8_1).f1)) ∧ w'.cell? ⟨gb138, 2, none⟩ = some (.int .i64 ((zr l0_7 x8_1).f2)) ∧ w'.cell? ⟨gb136, 0, none⟩ = some (.int .i64 a0_0) ∧ w'.cell? ⟨gb136, 1, none⟩ = some (.int .i64 a0_1) ∧ w'.cell? ⟨gb136, 2, none⟩ = some (.int .i64 a0_2) ∧ w'.cell? ⟨gb136, 3, none⟩ = some (.int .i64 a0_3) ∧ w'.cell? ⟨gb136, 4, none⟩ = some (.int .i64 a0_4) ∧ w'.cell? ⟨gb136, 5, none⟩ = some (.int .i64 a0_5) ∧ w'.cell? ⟨gb136, 6, none⟩ = some (.string a0_6) ∧ w'.cell? ⟨gb136, 7, none⟩ = some (.slice (some ad137) l0_7.length c0_7) ∧ w'.cell? ⟨gb136, 8, none⟩ = some (.int .i64 a0_8) ∧ w'.cell? ⟨gb136, 9, none⟩ = some (.int .i64 a0_9) ∧ w'.cell? ⟨gb136, 10, none⟩ = some (.int .i64 a0_10) ∧ w'.cell? (ad137.add (((ji23)).toNat * 3)) = some (.int .i64 ((zr l0_7 (ji23)).f0)) ∧ w'.cell? ⟨(ad137.add (((ji23)).toNat * 3)).block, (ad137.add (((ji23)).toNat * 3)).off + 1, none⟩ = some (.int .i64 ((zr l0_7 (ji23)).f1)) ∧ w'.cell? ⟨(ad137.add (((ji23)).toNat * 3)).block, (ad137.add (((ji23)).toNat * 3)).off + 2, none⟩ = some (.int .i64 ((zr l0_7 (ji23)).f2))) (ds := []) z4a (by kernel_rfl) rfl rfl ⟨(za BK138.out 0).trans rfl, (za BK138.out 1).trans rfl, (za BK138.out 2).trans rfl, (za BK136.out 0).trans rfl, (za BK136.out 1).trans rfl, (za BK136.out 2).trans rfl, (za BK136.out 3).trans rfl, (za BK136.out 4).trans rfl, (za BK136.out 5).trans rfl, (za BK136.out 6).trans rfl, (za BK136.out 7).trans rfl, (za BK136.out 8).trans rfl, (za BK136.out 9).trans rfl, (za BK136.out 10).trans rfl, ((HB.out.cell (World.block_lt_of_cell? w _ hw141_0)).trans hw141_0), ((HB.out.cell (World.block_lt_of_cell? w _ hw141_1)).trans hw141_1), ((HB.out.cell (World.block_lt_of_cell? w _ hw141_2)).trans hw141_2)⟩ (fun hHeld => ?_); refine uy yx.tab4 yx.bits4 (fun HT_ HW_ => ?_)
   generalize w27.drew = w28 at BK136 BK138 HB hx141_0 hx141_1 hx141_2 hHeld ⊢
   refine pq_ 1 14 z4b (zo HT_.out (by kernel_rfl)) ?_
   refine tq_ 0 13 z4c (yj HT_.out HW_.out (by kernel_rfl)) hHeld ?_
   refine gz 2 15 z4d (zo HT_.out (by kernel_rfl)) ?_
   refine pq_ 3 16 z4e (zo HT_.out (by kernel_rfl)) ?_
   refine tq_ 4 17 z4f (yj HT_.out HW_.out (by kernel_rfl)) hHeld ?_
   refine ul (i := 5) (N := some 18) z4g rfl rfl (vn HT_.out (by kernel_rfl)) (by decide) (fun K hK => ?_)
   refine j5 Try.func81 (by kernel_rfl) rfl #[.agg #[.int .i64 ((zr l0_7 x8_1).f0), .int .i64 ((zr l0_7 x8_1).f1), .int .i64 ((zr l0_7 x8_1).f2)]] (by rfl) rfl rfl (by (try simp only [List.map_toArray, List.map_cons, List.map_nil]); first | done | rfl | (simp only [List.length_drop, List.length_take]; rfl)) ?_
   with_reducible refine (jp.calls ((zr l0_7 x8_1).f0) ((zr l0_7 x8_1).f1) ((zr l0_7 x8_1).f2) true _ A14.out).mono ?_
   rintro e w29 ⟨rfl, hb⟩
   refine ⟨_, rfl, ?_⟩
   have n0_ := Aside0.mk (zt (by (with_reducible repeat (first | refine ze ?_ _ | refine zf ?_ | refine zc ?_ _)); exact BK136.out) hb)
   have n1_ := Aside0.mk (zt (by (with_reducible repeat (first | refine ze ?_ _ | refine zf ?_ | refine zc ?_ _)); exact BK138.out) hb)
   have n2_ := Aside0.mk (zj (by repeat (first | (with_reducible first | exact HB.out | apply z8 | apply z6 | apply z7 | refine zb ?_ GE136.out | refine zb ?_ GE138.out) | exact HB.out)) hb)
   clear BK136
   clear BK138
   clear HB
   have BK136 := n0_
   have BK138 := n1_
   have HB := n2_
   clear n0_ n1_ n2_
   (try clear hb)
   (try clear hb2)
   (try clear hk)
   (try clear hi)
   refine hK.out _ _ ⟨(za BK138.out 0).trans rfl, (za BK138.out 1).trans rfl, (za BK138.out 2).trans rfl, (za BK136.out 0).trans rfl, (za BK136.out 1).trans rfl, (za BK136.out 2).trans rfl, (za BK136.out 3).trans rfl, (za BK136.out 4).trans rfl, (za BK136.out 5).trans rfl, (za BK136.out 6).trans rfl, (za BK136.out 7).trans rfl, (za BK136.out 8).trans rfl, (za BK136.out 9).trans rfl, (za BK136.out 10).trans rfl, ((HB.out.cell (World.block_lt_of_cell? w _ hw141_0)).trans hw141_0), ((HB.out.cell (World.block_lt_of_cell? w _ hw141_1)).trans hw141_1), ((HB.out.cell (World.block_lt_of_cell? w _ hw141_2)).trans hw141_2)⟩ (fun hHeld => ?_)
   clear hK K
   refine um (a' := ?_) ?_ ?_
   rotate_left
   ·
    show Act.put _ (some 18) _ = _
    simp only [Act.put, List.setIfInBounds_toArray, List.set_cons_zero, List.set_cons_succ, vw, ud]
    rfl
   refine pq_ 6 19 z4h (zo HT_.out (by kernel_rfl)) ?_
   refine pq_ 7 20 z4i (zo HT_.out (by kernel_rfl)) ?_
   refine pq_ 8 21 z4j (zo HT_.out (by kernel_rfl)) ?_
   refine tq_ 9 22 z2m (yj HT_.out HW_.out (by kernel_rfl)) hHeld ?_
   refine tq_ 10 23 z2n (yj HT_.out HW_.out (by kernel_rfl)) hHeld ?_
   refine ul (i := 11) (N := some 24) z2o rfl rfl (vn HT_.out (by kernel_rfl)) (by decide) (fun K hK => ?_)
   refine j5 Try.func82 (by kernel_rfl) rfl #[.agg #[.int .i64 a0_0, .int .i64 a0_1, .int .i64 a0_2, .int .i64 a0_3, .int .i64 a0_4, .int .i64 a0_5, .string a0_6, .slice (some ad137) l0_7.length c0_7, .int .i64 a0_8, .int .i64 a0_9, .int .i64 a0_10], .agg #[.int .i64 ((zr l0_7 x8_1).f0), .int .i64 ((zr l0_7 x8_1).f1), .int .i64 ((zr l0_7 x8_1).f2)]] (by rfl) rfl rfl (by (try simp only [List.map_toArray, List.map_cons, List.map_nil]); first | done | rfl | (simp only [List.length_drop, List.length_take]; rfl)) ?_
   with_reducible refine (gr.calls a0_0 a0_1 a0_2 a0_3 a0_4 a0_5 a0_6 _ _ l0_7 a0_8 a0_9 a0_10 ((zr l0_7 x8_1).f0) ((zr l0_7 x8_1).f1) ((zr l0_7 x8_1).f2) false _ ?side1 ?side2 A16.out).mono ?_
   (case side1 => repeat (first | exact (Kd.yt HR0_7.out HB.out) | (with_reducible refine Kd.yo ?_ _) | (with_reducible refine Kd.yp ?_ _) | (with_reducible refine Kd.yy ?_)))
   (case side2 => exact HC0_7.out)
   rintro e w30 ⟨rfl, hb⟩
   refine ⟨_, rfl, ?_⟩
   have n0_ := Aside0.mk (zt (by (with_reducible repeat (first | refine ze ?_ _ | refine zf ?_ | refine zc ?_ _)); exact BK136.out) hb)
   have n1_ := Aside0.mk (zt (by (with_reducible repeat (first | refine ze ?_ _ | refine zf ?_ | refine zc ?_ _)); exact BK138.out) hb)
   have n2_ := Aside0.mk (zj (by repeat (first | (with_reducible first | exact HB.out | apply z8 | apply z6 | apply z7 | refine zb ?_ GE136.out | refine zb ?_ GE138.out) | exact HB.out)) hb)
   clear BK136
   clear BK138
   clear HB
   have BK136 := n0_
   have BK138 := n1_
   have HB := n2_
   clear n0_ n1_ n2_
   (try clear hb)
   (try clear hb2)
   (try clear hk)
   (try clear hi)
   refine hK.out _ _ ⟨(za BK138.out 0).trans rfl, (za BK138.out 1).trans rfl, (za BK138.out 2).trans rfl, (za BK136.out 0).trans rfl, (za BK136.out 1).trans rfl, (za BK136.out 2).trans rfl, (za BK136.out 3).trans rfl, (za BK136.out 4).trans rfl, (za BK136.out 5).trans rfl, (za BK136.out 6).trans rfl, (za BK136.out 7).trans rfl, (za BK136.out 8).trans rfl, (za BK136.out 9).trans rfl, (za BK136.out 10).trans rfl, ((HB.out.cell (World.block_lt_of_cell? w _ hw141_0)).trans hw141_0), ((HB.out.cell (World.block_lt_of_cell? w _ hw141_1)).trans hw141_1), ((HB.out.cell (World.block_lt_of_cell? w _ hw141_2)).trans hw141_2)⟩ (fun hHeld => ?_)
   clear hK K
   refine um (a' := ?_) ?_ ?_
   rotate_left
   ·
    show Act.put _ (some 24) _ = _
    simp only [Act.put, List.setIfInBounds_toArray, List.set_cons_zero, List.set_cons_succ, vw, ud]
    rfl
   refine pq_ 12 25 z2p (zo HT_.out (by kernel_rfl)) ?_
   refine pq_ 13 26 z2q (zo HT_.out (by kernel_rfl)) ?_
   refine pq_ 14 27 z2r (zo HT_.out (by kernel_rfl)) ?_
   refine gz 15 28 z2s (zo HT_.out (by kernel_rfl)) ?_
   refine pq_ 16 29 z2t (zo HT_.out (by kernel_rfl)) ?_
   refine pq_ 17 30 z2u (zo HT_.out (by kernel_rfl)) ?_
   refine pq_ 19 32 zce (zo HT_.out (by kernel_rfl)) ?_
   refine gz 20 33 zcf (zo HT_.out (by kernel_rfl)) ?_
   refine tq_ 18 31 z2v (yj HT_.out HW_.out (by kernel_rfl)) hHeld ?_
   refine pq_ 21 34 z2w (zo HT_.out (by kernel_rfl)) ?_
   refine tq_ 22 35 z2x (yj HT_.out HW_.out (by kernel_rfl)) hHeld ?_
   refine tq_ 23 36 z2y (yj HT_.out HW_.out (by kernel_rfl)) hHeld ?_
   refine ul (i := 24) (N := some 37) z2z rfl rfl (vn HT_.out (by kernel_rfl)) (by decide) (fun K hK => ?_)
   refine j5 Try.func94 (by kernel_rfl) rfl #[.agg #[.int .i64 ((zr l0_7 (ji23)).f0), .int .i64 ((zr l0_7 (ji23)).f1), .int .i64 ((zr l0_7 (ji23)).f2)], .agg #[.int .i64 ((zr l0_7 x8_1).f0), .int .i64 ((zr l0_7 x8_1).f1), .int .i64 ((zr l0_7 x8_1).f2)]] (by rfl) rfl rfl (by (try simp only [List.map_toArray, List.map_cons, List.map_nil]); first | done | (simp only [hji23]; rfl) | rfl | (simp only [List.length_drop, List.length_take]; rfl)) ?_
   with_reducible refine (jo.calls k1 ((zr l0_7 (ji23)).f0) ((zr l0_7 (ji23)).f1) ((zr l0_7 (ji23)).f2) ((zr l0_7 x8_1).f0) ((zr l0_7 x8_1).f1) ((zr l0_7 x8_1).f2) t142 _ A26.out).mono ?_
   rintro e w31 ⟨rfl, hb⟩
   refine ⟨_, rfl, ?_⟩
   have n0_ := Aside0.mk (zt (by (with_reducible repeat (first | refine ze ?_ _ | refine zf ?_ | refine zc ?_ _)); exact BK136.out) hb)
   have n1_ := Aside0.mk (zt (by (with_reducible repeat (first | refine ze ?_ _ | refine zf ?_ | refine zc ?_ _)); exact BK138.out) hb)
   have n2_ := Aside0.mk (zj (by repeat (first | (with_reducible first | exact HB.out | apply z8 | apply z6 | apply z7 | refine zb ?_ GE136.out | refine zb ?_ GE138.out) | exact HB.out)) hb)
   clear BK136
   clear BK138
   clear HB
   have BK136 := n0_
   have BK138 := n1_
   have HB := n2_
   clear n0_ n1_ n2_
   (try clear hb)
   (try clear hb2)
   (try clear hk)
   (try clear hi)
   refine hK.out _ _ ⟨(za BK138.out 0).trans rfl, (za BK138.out 1).trans rfl, (za BK138.out 2).trans rfl, (za BK136.out 0).trans rfl, (za BK136.out 1).trans rfl, (za BK136.out 2).trans rfl, (za BK136.out 3).trans rfl, (za BK136.out 4).trans rfl, (za BK136.out 5).trans rfl, (za BK136.out 6).trans rfl, (za BK136.out 7).trans rfl, (za BK136.out 8).trans rfl, (za BK136.out 9).trans rfl, (za BK136.out 10).trans rfl, ((HB.out.cell (World.block_lt_of_cell? w _ hw141_0)).trans hw141_0), ((HB.out.cell (World.block_lt_of_cell? w _ hw141_1)).trans hw141_1), ((HB.out.cell (World.block_lt_of_cell? w _ hw141_2)).trans hw141_2)⟩ (fun hHeld => ?_)
   clear hK K
   refine um (a' := ?_) ?_ ?_
   rotate_left
   ·
    show Act.put _ (some 37) _ = _
    simp only [Act.put, List.setIfInBounds_toArray, List.set_cons_zero, List.set_cons_succ, vw, ud]
    rfl
   refine pq_ 25 38 z30 (zo HT_.out (by kernel_rfl)) ?_
   refine pq_ 26 39 z34 (zo HT_.out (by kernel_rfl)) ?_
   refine pq_ 27 40 z39 (zo HT_.out (by kernel_rfl)) ?_
   refine ju (j9 HT_.out (by kernel_rfl)) ?_
   try go_wp2
   go_meet
   case rel => exact ⟨_, (!t142), (by first | rfl | (simp; done) | (simp [*]; done)), H', ⟨by have := HK1.out; first | omega | exact Nat.le_refl _⟩, ⟨by (with_reducible repeat (first | refine ze ?_ _ | refine zf ?_ | refine zc ?_ _)); exact BK136.out⟩, ⟨by (with_reducible repeat (first | refine ze ?_ _ | refine zf ?_ | refine zc ?_ _)); exact BK138.out⟩, ⟨by repeat (first | (with_reducible first | exact HB.out | apply z8 | apply z6 | apply z7 | refine zb ?_ GE136.out | refine zb ?_ GE138.out) | exact HB.out)⟩⟩
  case rest =>
   clear HC7
   try clear c1
   try clear c2
   try clear p2
   try clear c8
   try clear c9
   try clear c15
   try clear c22
   try clear c22b0
   try clear c24
   try clear c25
   obtain ⟨kq, x40_6, rfl, HA, HJ6, BK136, BK138, HB⟩ := hcut
   cases kq with
   | zero => exact absurd HA.out (by simp [yx.j1])
   | succ kj6 =>
    have H := HA.out
    clear HA
    simp only [yx.j1] at H
    by_cases c39 : x40_6 = true
    ·
     subst c39
     have H1 : (some false) = some r := by rw [if_pos rfl] at H; exact H
     clear H
     have H := H1
     clear H1
     obtain rfl := Option.some.inj H
     go_wp2
     go_ret
     exact ⟨by first | rfl | (simp [zm, zn] <;> rfl) | (simp [*, zm, zn] <;> rfl), by repeat (first | (with_reducible first | exact HB.out | apply z8 | apply z6 | apply z7 | refine zb ?_ GE136.out | refine zb ?_ GE138.out) | exact HB.out)⟩
    replace c39 := Bool.eq_false_iff.mpr c39
    subst c39
    have H1 : (yx.l0 kj6 l0_7 (l0_7.length : Int) (wrap64 (x8_1 + 1)) a0_0 a0_1 a0_2 a0_3 a0_4 a0_5 a0_6 l0_7 a0_8 a0_9 a0_10) = some r := by rw [if_neg (show ¬ (false = true) by decide)] at H; exact H
    clear H
    have H := H1
    clear H1
    have H' := Aside0.mk H
    clear H
    go_wp2
    go_roundg kj6
    case measure => have := HK1.out; have := HJ6.out; omega
    case rel => exact ⟨(wrap64 (x8_1 + 1)), (by first | rfl | (simp; done) | (simp [*]; done)), H', ⟨by have := HK1.out; have := HJ6.out; omega⟩, ⟨by (with_reducible repeat (first | refine ze ?_ _ | refine zf ?_ | refine zc ?_ _)); exact BK136.out⟩, ⟨by repeat (first | (with_reducible first | exact HB.out | apply z8 | apply z6 | apply z7 | refine zb ?_ GE136.out | refine zb ?_ GE138.out) | exact HB.out)⟩⟩
end Go.Proofs.Ytadfohbogoocgaa.PA
