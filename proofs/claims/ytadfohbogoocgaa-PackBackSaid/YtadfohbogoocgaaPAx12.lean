import Derived.Test.YtadfohbogoocgaaPAx0
import Derived.Test.YtadfohbogoocgaaPAx6
import Derived.Test.YtadfohbogoocgaaPAx9
import Derived.Test.YtadfohbogoocgaaPAx11
namespace Go.Proofs.Ytadfohbogoocgaa.PA
open Go.RowKit Go.Proofs.YtadfohbogoocgaaW.PrintWords Go.Proofs.YtadfohbogoocgaaW.PrintLast Go.Proofs.YtadfohbogoocgaaW.PrintMore Go.Proofs.YtadfohbogoocgaaX Go.Proofs.YtadfohbogoocgaaB Go.Proofs.YtadfohbogoocgaaPq
attribute [local go_sem] gi gj gx gy jr js gm gn
set_option linter.unusedVariables false
set_option linter.unusedSimpArgs false
def ye.l0 : Nat → List (S38) → List (S38) → Int → Option (Bool)
  | 0, _, _, _ => none
  | k + 1, x0, x1, x5 => if x5 < (x0.length : Int) then (if 0 ≤ x5 then (if x5 < (x1.length : Int) then ((yu.f k ((zg x0 x5).f0) ((zg x0 x5).f1) ((zg x0 x5).f2) ((zg x0 x5).f3.f0) ((zg x0 x5).f3.f1) ((zg x0 x5).f3.f2) ((zg x0 x5).f4) ((zg x0 x5).f5) ((zg x0 x5).f6) ((zg x0 x5).f7) ((zg x0 x5).f8) ((zg x1 x5).f0) ((zg x1 x5).f1) ((zg x1 x5).f2) ((zg x1 x5).f3.f0) ((zg x1 x5).f3.f1) ((zg x1 x5).f3.f2) ((zg x1 x5).f4) ((zg x1 x5).f5) ((zg x1 x5).f6) ((zg x1 x5).f7) ((zg x1 x5).f8)).bind fun t323 => (if t323 = true then (ye.l0 k x0 x1 (wrap64 (x5 + 1))) else (some false))) else (none)) else (none)) else (some true)
def ye.f (k : Nat) (l0 : List (S38)) (l1 : List (S38)) : Option (Bool) := if (l0.length : Int) = (l1.length : Int) then (ye.l0 k l0 l1 0) else (some false)
theorem ye.mono_l : ∀ k, (∀ y0 y1 y2, LeO (ye.l0 k y0 y1 y2) (ye.l0 (k + 1) y0 y1 y2))
  | 0 => fun _ _ _ r h => by simp [ye.l0] at h
  | k + 1 => by
    have ih0 := ye.mono_l k
    · intro y0 y1 y2
      unfold ye.l0
      repeat' first
      | (with_reducible exact ih0 _ _ _)
      | (with_reducible exact yu.mono _ _ _ _ _ _ _ _ _ _ _ _ _ _ _ _ _ _ _ _ _ _ _)
      | (with_reducible exact LeO.refl _)
      | (with_reducible exact LeO.none _)
      | (with_reducible refine LeO.ite ?_ ?_)
      | (with_reducible refine LeO.bind ?_ (fun _ => ?_))
      | exact ih0 _ _ _
      | exact yu.mono _ _ _ _ _ _ _ _ _ _ _ _ _ _ _ _ _ _ _ _ _ _ _
      | exact LeO.none _
      | refine LeO.ite ?_ ?_
      | refine LeO.bind ?_ (fun _ => ?_)
theorem ye.mono : ∀ a0 a1 k, LeO (ye.f k a0 a1) (ye.f (k + 1) a0 a1) := by
  intro a0 a1 k
  have ih0 := ye.mono_l k
  unfold ye.f
  repeat' first
      | (with_reducible exact ih0 _ _ _)
      | (with_reducible exact yu.mono _ _ _ _ _ _ _ _ _ _ _ _ _ _ _ _ _ _ _ _ _ _ _)
      | (with_reducible exact LeO.refl _)
      | (with_reducible exact LeO.none _)
      | (with_reducible refine LeO.ite ?_ ?_)
      | (with_reducible refine LeO.bind ?_ (fun _ => ?_))
      | exact ih0 _ _ _
      | exact yu.mono _ _ _ _ _ _ _ _ _ _ _ _ _ _ _ _ _ _ _ _ _ _ _
      | exact LeO.none _
      | refine LeO.ite ?_ ?_
      | refine LeO.bind ?_ (fun _ => ?_)
def ye.T6 : Bool × List (List Nat × List Nat) := (true, [([], []), ([], []), ([0, 1], [0, 1]), ([2], [2]), ([], []), ([], []), ([4, 5], [4, 5]), ([6], [6]), ([3, 7], [3, 7]), ([8], [8])])
def ye.B6 : List Nat := [0, 0, 3, 7, 0, 0, 48, 112, 255, 511]
theorem ye.tab6 : rtab .any (opsOf Try.f45 6) = ye.T6 := by kernel_rfl
theorem ye.bits6 : waitsOk ye.T6.2 ye.B6 = true := by kernel_rfl
set_option maxHeartbeats 8000000 in
set_option maxRecDepth 100000 in
theorem ye.calls (k : Nat) (A0 : Option Addr) (c0 : Nat) (l0 : List (S38)) (A1 : Option Addr) (c1 : Nat) (l1 : List (S38)) (r : Bool) (w : World) (hr0 : Kd.C k38 w A0 l0.length l0) (hc0 : l0.length ≤ c0) (hr1 : Kd.C k38 w A1 l1.length l1) (hc1 : l1.length ≤ c1) (h : ye.f k l0 l1 = some r) :
  Calls Try.prog 45 #[.slice A0 l0.length c0, .slice A1 l1.length c1] w fun e w' => e = .returned (.bool r) ∧ Below w.heap.size w w' := by
 have hu38 := Try.underlying38
 have HR0 := Aside0.mk hr0
 have HC0 := Aside0.mk hc0
 clear hr0 hc0
 have HR1 := Aside0.mk hr1
 have HC1 := Aside0.mk hc1
 clear hr1 hc1
 have HB := Aside0.mk (Below.refl w.heap.size w)
 have H : (if (l0.length : Int) = (l1.length : Int) then (ye.l0 k l0 l1 0) else (some false)) = some r := h
 clear h
 by_cases c3 : (l0.length : Int) = (l1.length : Int)
 rotate_left
 ·
  rw [if_neg c3] at H
  have c3b0 : ((l0.length : Int) == (l1.length : Int)) = false := beq_eq_false_iff_ne.mpr c3
  have c3b1 : ((l0.length : Int) != (l1.length : Int)) = true := bne_iff_ne.mpr c3
  have c3b2 : (l0.length == l1.length) = false := by first | simpa using c3 | (simp at c3 ⊢; omega)
  obtain rfl := Option.some.inj H
  go_enter Try.func45, Try.ntmps45
  go_wp2
  go_ret
  exact ⟨by first | rfl | (simp [zm, zn] <;> rfl) | (simp [*, zm, zn] <;> rfl), by repeat (first | (with_reducible first | exact HB.out | apply z8 | apply z6 | apply z7) | exact HB.out)⟩
 rw [if_pos c3] at H
 have c3b0 : ((l0.length : Int) == (l1.length : Int)) = true := beq_iff_eq.mpr c3
 have c3b1 : ((l0.length : Int) != (l1.length : Int)) = false := bne_eq_false_iff_eq.mpr c3
 have c3b2 : (l0.length == l1.length) = true := by first | simpa using c3 | (simp at c3 ⊢; omega)
 clear c3
 have H' := Aside0.mk H
 clear H
 go_enter Try.func45, Try.ntmps45
 go_wp2
 go_loopg [5] k (fun kq v5 w' => ∃ (x5_1 : Int), v5 = .int .i64 x5_1 ∧ Aside0 (ye.l0 kq l0 l1 x5_1 = some r) ∧ Aside0 (kq ≤ k) ∧ Aside0 (Below w.heap.size w w'))
 case atStart => exact ⟨(0), (by first | rfl | (simp; done) | (simp [*]; done)), H', ⟨Nat.le_refl _⟩, ⟨by repeat (first | (with_reducible first | exact HB.out | apply z8 | apply z6 | apply z7) | exact HB.out)⟩⟩
 clear H'
 try clear c1
 try clear p2
 try clear c3
 try clear c3b0
 try clear c3b1
 try clear c3b2
 obtain ⟨x5_1, rfl, HA, HK1, HB⟩ := hrel
 cases gk with
 | zero => exact absurd HA.out (by simp [ye.l0])
 | succ k1 =>
  have H := HA.out
  clear HA
  simp only [ye.l0] at H
  by_cases c4 : x5_1 < (l0.length : Int)
  rotate_left
  ·
   rw [if_neg c4] at H
   have c4b0 : decide (x5_1 < (l0.length : Int)) = false := decide_eq_false c4
   clear c4
   obtain rfl := Option.some.inj H
   go_wp2
   go_ret
   exact ⟨by first | rfl | (simp [zm, zn] <;> rfl) | (simp [*, zm, zn] <;> rfl), by repeat (first | (with_reducible first | exact HB.out | apply z8 | apply z6 | apply z7) | exact HB.out)⟩
  rw [if_pos c4] at H
  have c4b0 : decide (x5_1 < (l0.length : Int)) = true := decide_eq_true c4
  clear c4
  by_cases c5 : 0 ≤ x5_1
  rotate_left
  ·
   rw [if_neg c5] at H
   exact absurd H (by simp)
  rw [if_pos c5] at H
  have c5b0 : decide (0 ≤ x5_1) = true := decide_eq_true c5
  clear c5
  by_cases c6 : x5_1 < (l1.length : Int)
  rotate_left
  ·
   rw [if_neg c6] at H
   exact absurd H (by simp)
  rw [if_pos c6] at H
  have c6b0 : decide (x5_1 < (l1.length : Int)) = true := decide_eq_true c6
  clear c6
  replace H := Option.bind_eq_some_iff.mp H
  obtain ⟨t323, A70, H⟩ := H
  replace H : (if t323 = true then (ye.l0 k1 l0 l1 (wrap64 (x5_1 + 1))) else (some false)) = some r := H
  have A7 := Aside0.mk A70
  clear A70
  by_cases c8 : t323 = true
  rotate_left
  ·
   replace c8 := Bool.eq_false_iff.mpr c8
   subst c8
   have H1 : (some false) = some r := by rw [if_neg (show ¬ (false = true) by decide)] at H; exact H
   clear H
   have H := H1
   clear H1
   obtain rfl := Option.some.inj H
   try go_wp2
   have n0_ := Aside0.mk (z7 HB.out)
   clear HB
   have HB := n0_
   clear n0_
   have p321 : 0 ≤ (x5_1 : Int) := of_decide_eq_true (by first | (with_reducible assumption) | assumption)
   have q321 : x5_1 < (l0.length : Int) := of_decide_eq_true (by first | (with_reducible assumption) | assumption)
   obtain ⟨ad321, A321_7, c321_7, e321, hx321_0, hx321_1, hx321_2, hx321_3, hx321_4, hx321_5, hx321_6, hx321_7, hx321_8, hx321_9, hx321_10, hl321_7, hi321_7⟩ := z0q HR0.out x5_1 p321 q321
   have hw321_10 := hx321_10
   have hw321_9 := hx321_9
   have hw321_8 := hx321_8
   have hw321_7 := hx321_7
   have hw321_6 := hx321_6
   have hw321_5 := hx321_5
   have hw321_4 := hx321_4
   have hw321_3 := hx321_3
   have hw321_2 := hx321_2
   have hw321_1 := hx321_1
   have hw321_0 := hx321_0
   cases e321
   replace hx321_0 := (HB.out.cell (World.block_lt_of_cell? w _ hx321_0)).trans hx321_0
   replace hx321_1 := (HB.out.cell (World.block_lt_of_cell? w _ hx321_1)).trans hx321_1
   replace hx321_2 := (HB.out.cell (World.block_lt_of_cell? w _ hx321_2)).trans hx321_2
   replace hx321_3 := (HB.out.cell (World.block_lt_of_cell? w _ hx321_3)).trans hx321_3
   replace hx321_4 := (HB.out.cell (World.block_lt_of_cell? w _ hx321_4)).trans hx321_4
   replace hx321_5 := (HB.out.cell (World.block_lt_of_cell? w _ hx321_5)).trans hx321_5
   replace hx321_6 := (HB.out.cell (World.block_lt_of_cell? w _ hx321_6)).trans hx321_6
   replace hx321_7 := (HB.out.cell (World.block_lt_of_cell? w _ hx321_7)).trans hx321_7
   replace hx321_8 := (HB.out.cell (World.block_lt_of_cell? w _ hx321_8)).trans hx321_8
   replace hx321_9 := (HB.out.cell (World.block_lt_of_cell? w _ hx321_9)).trans hx321_9
   replace hx321_10 := (HB.out.cell (World.block_lt_of_cell? w _ hx321_10)).trans hx321_10
   have HR321_7 := Aside0.mk hi321_7
   have HC321_7 := Aside0.mk hl321_7
   clear hi321_7 hl321_7
   replace p321 := eq_true p321
   replace q321 := eq_true q321
   have p322 : 0 ≤ (x5_1 : Int) := of_decide_eq_true (by first | (with_reducible assumption) | assumption)
   have q322 : x5_1 < (l1.length : Int) := of_decide_eq_true (by first | (with_reducible assumption) | assumption)
   obtain ⟨ad322, A322_7, c322_7, e322, hx322_0, hx322_1, hx322_2, hx322_3, hx322_4, hx322_5, hx322_6, hx322_7, hx322_8, hx322_9, hx322_10, hl322_7, hi322_7⟩ := z0q HR1.out x5_1 p322 q322
   have hw322_10 := hx322_10
   have hw322_9 := hx322_9
   have hw322_8 := hx322_8
   have hw322_7 := hx322_7
   have hw322_6 := hx322_6
   have hw322_5 := hx322_5
   have hw322_4 := hx322_4
   have hw322_3 := hx322_3
   have hw322_2 := hx322_2
   have hw322_1 := hx322_1
   have hw322_0 := hx322_0
   cases e322
   replace hx322_0 := (HB.out.cell (World.block_lt_of_cell? w _ hx322_0)).trans hx322_0
   replace hx322_1 := (HB.out.cell (World.block_lt_of_cell? w _ hx322_1)).trans hx322_1
   replace hx322_2 := (HB.out.cell (World.block_lt_of_cell? w _ hx322_2)).trans hx322_2
   replace hx322_3 := (HB.out.cell (World.block_lt_of_cell? w _ hx322_3)).trans hx322_3
   replace hx322_4 := (HB.out.cell (World.block_lt_of_cell? w _ hx322_4)).trans hx322_4
   replace hx322_5 := (HB.out.cell (World.block_lt_of_cell? w _ hx322_5)).trans hx322_5
   replace hx322_6 := (HB.out.cell (World.block_lt_of_cell? w _ hx322_6)).trans hx322_6
   replace hx322_7 := (HB.out.cell (World.block_lt_of_cell? w _ hx322_7)).trans hx322_7
   replace hx322_8 := (HB.out.cell (World.block_lt_of_cell? w _ hx322_8)).trans hx322_8
   replace hx322_9 := (HB.out.cell (World.block_lt_of_cell? w _ hx322_9)).trans hx322_9
   replace hx322_10 := (HB.out.cell (World.block_lt_of_cell? w _ hx322_10)).trans hx322_10
   have HR322_7 := Aside0.mk hi322_7
   have HC322_7 := Aside0.mk hl322_7
   clear hi322_7 hl322_7
   replace p322 := eq_true p322
   replace q322 := eq_true q322
   refine ji (n := 10) (S := fun w' => w'.cell? (ad321.add ((x5_1).toNat * 11)) = some (.int .i64 ((zg l0 x5_1).f0)) ∧ w'.cell? ⟨(ad321.add ((x5_1).toNat * 11)).block, (ad321.add ((x5_1).toNat * 11)).off + 1, none⟩ = some (.int .i64 ((zg l0 x5_1).f1)) ∧ w'.cell? ⟨(ad321.add ((x5_1).toNat * 11)).block, (ad321.add ((x5_1).toNat * 11)).off + 2, none⟩ = some (.int .i64 ((zg l0 x5_1).f2)) ∧ w'.cell? ⟨(ad321.add ((x5_1).toNat * 11)).block, (ad321.add ((x5_1).toNat * 11)).off + 3, none⟩ = some (.int .i64 ((zg l0 x5_1).f3.f0)) ∧ w'.cell? ⟨(ad321.add ((x5_1).toNat * 11)).block, (ad321.add ((x5_1).toNat * 11)).off + 4, none⟩ = some (.int .i64 ((zg l0 x5_1).f3.f1)) ∧ w'.cell? ⟨(ad321.add ((x5_1).toNat * 11)).block, (ad321.add ((x5_1).toNat * 11)).off + 5, none⟩ = some (.int .i64 ((zg l0 x5_1).f3.f2)) ∧ w'.cell? ⟨(ad321.add ((x5_1).toNat * 11)).block, (ad321.add ((x5_1).toNat * 11)).off + 6, none⟩ = some (.string ((zg l0 x5_1).f4)) ∧ w'.cell? ⟨(ad321.add ((x5_1).toNat * 11)).block, (ad321.add ((x5_1).toNat * 11)).off + 7, none⟩ = some (.slice A321_7 ((zg l0 x5_1).f5).length c321_7) ∧ w'.cell? ⟨(ad321.add ((x5_1).toNat * 11)).block, (ad321.add ((x5_1).toNat * 11)).off + 8, none⟩ = some (.int .i64 ((zg l0 x5_1).f6)) ∧ w'.cell? ⟨(ad321.add ((x5_1).toNat * 11)).block, (ad321.add ((x5_1).toNat * 11)).off + 9, none⟩ = some (.int .i64 ((zg l0 x5_1).f7)) ∧ w'.cell? ⟨(ad321.add ((x5_1).toNat * 11)).block, (ad321.add ((x5_1).toNat * 11)).off + 10, none⟩ = some (.int .i64 ((zg l0 x5_1).f8)) ∧ w'.cell? (ad322.add ((x5_1).toNat * 11)) = some (.int .i64 ((zg l1 x5_1).f0)) ∧ w'.cell? ⟨(ad322.add ((x5_1).toNat * 11)).block, (ad322.add ((x5_1).toNat * 11)).off + 1, none⟩ = some (.int .i64 ((zg l1 x5_1).f1)) ∧ w'.cell? ⟨(ad322.add ((x5_1).toNat * 11)).block, (ad322.add ((x5_1).toNat * 11)).off + 2, none⟩ = some (.int .i64 ((zg l1 x5_1).f2)) ∧ w'.cell? ⟨(ad322.add ((x5_1).toNat * 11)).block, (ad322.add ((x5_1).toNat * 11)).off + 3, none⟩ = some (.int .i64 ((zg l1 x5_1).f3.f0)) ∧ w'.cell? ⟨(ad322.add ((x5_1).toNat * 11)).block, (ad322.add ((x5_1).toNat * 11)).off + 4, none⟩ = some (.int .i64 ((zg l1 x5_1).f3.f1)) ∧ w'.cell? ⟨(ad322.add ((x5_1).toNat * 11)).block, (ad322.add ((x5_1).toNat * 11)).off + 5, none⟩ = some (.int .i64 ((zg l1 x5_1).f3.f2)) ∧ w'.cell? ⟨(ad322.add ((x5_1).toNat * 11)).block, (ad322.add ((x5_1).toNat * 11)).off + 6, none⟩ = some (.string ((zg l1 x5_1).f4)) ∧ w'.cell? ⟨(ad322.add ((x5_1).toNat * 11)).block, (ad322.add ((x5_1).toNat * 11)).off + 7, none⟩ = some (.slice A322_7 ((zg l1 x5_1).f5).length c322_7) ∧ w'.cell? ⟨(ad322.add ((x5_1).toNat * 11)).block, (ad322.add ((x5_1).toNat * 11)).off + 8, none⟩ = some (.int .i64 ((zg l1 x5_1).f6)) ∧ w'.cell? ⟨(ad322.add ((x5_1).toNat * 11)).block, (ad322.add ((x5_1).toNat * 11)).off + 9, none⟩ = some (.int .i64 ((zg l1 x5_1).f7)) ∧ w'.cell? ⟨(ad322.add ((x5_1).toNat * 11)).block, (ad322.add ((x5_1).toNat * 11)).off + 10, none⟩ = some (.int .i64 ((zg l1 x5_1).f8))) (ds := []) zam (by kernel_rfl) rfl rfl ⟨((HB.out.cell (World.block_lt_of_cell? w _ hw321_0)).trans hw321_0), ((HB.out.cell (World.block_lt_of_cell? w _ hw321_1)).trans hw321_1), ((HB.out.cell (World.block_lt_of_cell? w _ hw321_2)).trans hw321_2), ((HB.out.cell (World.block_lt_of_cell? w _ hw321_3)).trans hw321_3), ((HB.out.cell (World.block_lt_of_cell? w _ hw321_4)).trans hw321_4), ((HB.out.cell (World.block_lt_of_cell? w _ hw321_5)).trans hw321_5), ((HB.out.cell (World.block_lt_of_cell? w _ hw321_6)).trans hw321_6), ((HB.out.cell (World.block_lt_of_cell? w _ hw321_7)).trans hw321_7), ((HB.out.cell (World.block_lt_of_cell? w _ hw321_8)).trans hw321_8), ((HB.out.cell (World.block_lt_of_cell? w _ hw321_9)).trans hw321_9), ((HB.out.cell (World.block_lt_of_cell? w _ hw321_10)).trans hw321_10), ((HB.out.cell (World.block_lt_of_cell? w _ hw322_0)).trans hw322_0), ((HB.out.cell (World.block_lt_of_cell? w _ hw322_1)).trans hw322_1), ((HB.out.cell (World.block_lt_of_cell? w _ hw322_2)).trans hw322_2), ((HB.out.cell (World.block_lt_of_cell? w _ hw322_3)).trans hw322_3), ((HB.out.cell (World.block_lt_of_cell? w _ hw322_4)).trans hw322_4), ((HB.out.cell (World.block_lt_of_cell? w _ hw322_5)).trans hw322_5), ((HB.out.cell (World.block_lt_of_cell? w _ hw322_6)).trans hw322_6), ((HB.out.cell (World.block_lt_of_cell? w _ hw322_7)).trans hw322_7), ((HB.out.cell (World.block_lt_of_cell? w _ hw322_8)).trans hw322_8), ((HB.out.cell (World.block_lt_of_cell? w _ hw322_9)).trans hw322_9), ((HB.out.cell (World.block_lt_of_cell? w _ hw322_10)).trans hw322_10)⟩ (fun hHeld => ?_); refine uy ye.tab6 ye.bits6 (fun HT_ HW_ => ?_)
   generalize wr.drew = w11 at HB HR321_7 HR322_7 hx321_0 hx321_1 hx321_10 hx321_2 hx321_3 hx321_4 hx321_5 hx321_6 hx321_7 hx321_8 hx321_9 hx322_0 hx322_1 hx322_10 hx322_2 hx322_3 hx322_4 hx322_5 hx322_6 hx322_7 hx322_8 hx322_9 hHeld ⊢
   refine pq_ 0 17 zan (zo HT_.out (by kernel_rfl)) ?_
   refine pq_ 1 18 zao (zo HT_.out (by kernel_rfl)) ?_
   refine pq_ 2 19 zap (zo HT_.out (by kernel_rfl)) ?_
   refine pq_ 4 21 zaq (zo HT_.out (by kernel_rfl)) ?_
   refine pq_ 5 22 zar (zo HT_.out (by kernel_rfl)) ?_
   refine pq_ 6 23 zas (zo HT_.out (by kernel_rfl)) ?_
   refine tq_ 3 20 zat (yj HT_.out HW_.out (by kernel_rfl)) hHeld ?_
   refine tq_ 7 24 zau (yj HT_.out HW_.out (by kernel_rfl)) hHeld ?_
   refine ul (i := 8) (N := some 25) zav rfl rfl (vn HT_.out (by kernel_rfl)) (by decide) (fun K hK => ?_)
   refine j5 Try.func10 (by kernel_rfl) rfl #[.agg #[.int .i64 ((zg l0 x5_1).f0), .int .i64 ((zg l0 x5_1).f1), .int .i64 ((zg l0 x5_1).f2), .int .i64 ((zg l0 x5_1).f3.f0), .int .i64 ((zg l0 x5_1).f3.f1), .int .i64 ((zg l0 x5_1).f3.f2), .string ((zg l0 x5_1).f4), .slice A321_7 ((zg l0 x5_1).f5).length c321_7, .int .i64 ((zg l0 x5_1).f6), .int .i64 ((zg l0 x5_1).f7), .int .i64 ((zg l0 x5_1).f8)], .agg #[.int .i64 ((zg l1 x5_1).f0), .int .i64 ((zg l1 x5_1).f1), .int .i64 ((zg l1 x5_1).f2), .int .i64 ((zg l1 x5_1).f3.f0), .int .i64 ((zg l1 x5_1).f3.f1), .int .i64 ((zg l1 x5_1).f3.f2), .string ((zg l1 x5_1).f4), .slice A322_7 ((zg l1 x5_1).f5).length c322_7, .int .i64 ((zg l1 x5_1).f6), .int .i64 ((zg l1 x5_1).f7), .int .i64 ((zg l1 x5_1).f8)]] (by rfl) rfl rfl (by (try simp only [List.map_toArray, List.map_cons, List.map_nil]); first | done | rfl | (simp only [List.length_drop, List.length_take]; rfl)) ?_
   with_reducible refine (yu.calls k1 ((zg l0 x5_1).f0) ((zg l0 x5_1).f1) ((zg l0 x5_1).f2) ((zg l0 x5_1).f3.f0) ((zg l0 x5_1).f3.f1) ((zg l0 x5_1).f3.f2) ((zg l0 x5_1).f4) _ _ ((zg l0 x5_1).f5) ((zg l0 x5_1).f6) ((zg l0 x5_1).f7) ((zg l0 x5_1).f8) ((zg l1 x5_1).f0) ((zg l1 x5_1).f1) ((zg l1 x5_1).f2) ((zg l1 x5_1).f3.f0) ((zg l1 x5_1).f3.f1) ((zg l1 x5_1).f3.f2) ((zg l1 x5_1).f4) _ _ ((zg l1 x5_1).f5) ((zg l1 x5_1).f6) ((zg l1 x5_1).f7) ((zg l1 x5_1).f8) false _ ?side1 ?side2 ?side3 ?side4 A7.out).mono ?_
   (case side1 => repeat (first | exact (Kd.yt HR321_7.out HB.out) | (with_reducible refine Kd.yo ?_ _) | (with_reducible refine Kd.yp ?_ _) | (with_reducible refine Kd.yy ?_)))
   (case side2 => exact HC321_7.out)
   (case side3 => repeat (first | exact (Kd.yt HR322_7.out HB.out) | (with_reducible refine Kd.yo ?_ _) | (with_reducible refine Kd.yp ?_ _) | (with_reducible refine Kd.yy ?_)))
   (case side4 => exact HC322_7.out)
   rintro e w12 ⟨rfl, hb⟩
   refine ⟨_, rfl, ?_⟩
   have n0_ := Aside0.mk (zj (by repeat (first | (with_reducible first | exact HB.out | apply z8 | apply z6 | apply z7) | exact HB.out)) hb)
   clear HB
   have HB := n0_
   clear n0_
   (try clear hb)
   (try clear hb2)
   (try clear hk)
   (try clear hi)
   refine hK.out _ _ ⟨((HB.out.cell (World.block_lt_of_cell? w _ hw321_0)).trans hw321_0), ((HB.out.cell (World.block_lt_of_cell? w _ hw321_1)).trans hw321_1), ((HB.out.cell (World.block_lt_of_cell? w _ hw321_2)).trans hw321_2), ((HB.out.cell (World.block_lt_of_cell? w _ hw321_3)).trans hw321_3), ((HB.out.cell (World.block_lt_of_cell? w _ hw321_4)).trans hw321_4), ((HB.out.cell (World.block_lt_of_cell? w _ hw321_5)).trans hw321_5), ((HB.out.cell (World.block_lt_of_cell? w _ hw321_6)).trans hw321_6), ((HB.out.cell (World.block_lt_of_cell? w _ hw321_7)).trans hw321_7), ((HB.out.cell (World.block_lt_of_cell? w _ hw321_8)).trans hw321_8), ((HB.out.cell (World.block_lt_of_cell? w _ hw321_9)).trans hw321_9), ((HB.out.cell (World.block_lt_of_cell? w _ hw321_10)).trans hw321_10), ((HB.out.cell (World.block_lt_of_cell? w _ hw322_0)).trans hw322_0), ((HB.out.cell (World.block_lt_of_cell? w _ hw322_1)).trans hw322_1), ((HB.out.cell (World.block_lt_of_cell? w _ hw322_2)).trans hw322_2), ((HB.out.cell (World.block_lt_of_cell? w _ hw322_3)).trans hw322_3), ((HB.out.cell (World.block_lt_of_cell? w _ hw322_4)).trans hw322_4), ((HB.out.cell (World.block_lt_of_cell? w _ hw322_5)).trans hw322_5), ((HB.out.cell (World.block_lt_of_cell? w _ hw322_6)).trans hw322_6), ((HB.out.cell (World.block_lt_of_cell? w _ hw322_7)).trans hw322_7), ((HB.out.cell (World.block_lt_of_cell? w _ hw322_8)).trans hw322_8), ((HB.out.cell (World.block_lt_of_cell? w _ hw322_9)).trans hw322_9), ((HB.out.cell (World.block_lt_of_cell? w _ hw322_10)).trans hw322_10)⟩ (fun hHeld => ?_)
   clear hK K
   refine um (a' := ?_) ?_ ?_
   rotate_left
   ·
    show Act.put _ (some 25) _ = _
    simp only [Act.put, List.setIfInBounds_toArray, List.set_cons_zero, List.set_cons_succ, vw, ud]
    rfl
   refine pq_ 9 26 z9g (zo HT_.out (by kernel_rfl)) ?_
   refine ju (j9 HT_.out (by kernel_rfl)) ?_
   try go_wp2
   go_ret
   exact ⟨by first | rfl | (simp [zm, zn] <;> rfl) | (simp [*, zm, zn] <;> rfl), by repeat (first | (with_reducible first | exact HB.out | apply z8 | apply z6 | apply z7) | exact HB.out)⟩
  subst c8
  have H1 : (ye.l0 k1 l0 l1 (wrap64 (x5_1 + 1))) = some r := by rw [if_pos rfl] at H; exact H
  clear H
  have H := H1
  clear H1
  have H' := Aside0.mk H
  clear H
  try go_wp2
  have n0_ := Aside0.mk (z7 HB.out)
  clear HB
  have HB := n0_
  clear n0_
  have p321 : 0 ≤ (x5_1 : Int) := of_decide_eq_true (by first | (with_reducible assumption) | assumption)
  have q321 : x5_1 < (l0.length : Int) := of_decide_eq_true (by first | (with_reducible assumption) | assumption)
  obtain ⟨ad321, A321_7, c321_7, e321, hx321_0, hx321_1, hx321_2, hx321_3, hx321_4, hx321_5, hx321_6, hx321_7, hx321_8, hx321_9, hx321_10, hl321_7, hi321_7⟩ := z0q HR0.out x5_1 p321 q321
  have hw321_10 := hx321_10
  have hw321_9 := hx321_9
  have hw321_8 := hx321_8
  have hw321_7 := hx321_7
  have hw321_6 := hx321_6
  have hw321_5 := hx321_5
  have hw321_4 := hx321_4
  have hw321_3 := hx321_3
  have hw321_2 := hx321_2
  have hw321_1 := hx321_1
  have hw321_0 := hx321_0
  cases e321
  replace hx321_0 := (HB.out.cell (World.block_lt_of_cell? w _ hx321_0)).trans hx321_0
  replace hx321_1 := (HB.out.cell (World.block_lt_of_cell? w _ hx321_1)).trans hx321_1
  replace hx321_2 := (HB.out.cell (World.block_lt_of_cell? w _ hx321_2)).trans hx321_2
  replace hx321_3 := (HB.out.cell (World.block_lt_of_cell? w _ hx321_3)).trans hx321_3
  replace hx321_4 := (HB.out.cell (World.block_lt_of_cell? w _ hx321_4)).trans hx321_4
  replace hx321_5 := (HB.out.cell (World.block_lt_of_cell? w _ hx321_5)).trans hx321_5
  replace hx321_6 := (HB.out.cell (World.block_lt_of_cell? w _ hx321_6)).trans hx321_6
  replace hx321_7 := (HB.out.cell (World.block_lt_of_cell? w _ hx321_7)).trans hx321_7
  replace hx321_8 := (HB.out.cell (World.block_lt_of_cell? w _ hx321_8)).trans hx321_8
  replace hx321_9 := (HB.out.cell (World.block_lt_of_cell? w _ hx321_9)).trans hx321_9
  replace hx321_10 := (HB.out.cell (World.block_lt_of_cell? w _ hx321_10)).trans hx321_10
  have HR321_7 := Aside0.mk hi321_7
  have HC321_7 := Aside0.mk hl321_7
  clear hi321_7 hl321_7
  replace p321 := eq_true p321
  replace q321 := eq_true q321
  have p322 : 0 ≤ (x5_1 : Int) := of_decide_eq_true (by first | (with_reducible assumption) | assumption)
  have q322 : x5_1 < (l1.length : Int) := of_decide_eq_true (by first | (with_reducible assumption) | assumption)
  obtain ⟨ad322, A322_7, c322_7, e322, hx322_0, hx322_1, hx322_2, hx322_3, hx322_4, hx322_5, hx322_6, hx322_7, hx322_8, hx322_9, hx322_10, hl322_7, hi322_7⟩ := z0q HR1.out x5_1 p322 q322
  have hw322_10 := hx322_10
  have hw322_9 := hx322_9
  have hw322_8 := hx322_8
  have hw322_7 := hx322_7
  have hw322_6 := hx322_6
  have hw322_5 := hx322_5
  have hw322_4 := hx322_4
  have hw322_3 := hx322_3
  have hw322_2 := hx322_2
  have hw322_1 := hx322_1
  have hw322_0 := hx322_0
  cases e322
  replace hx322_0 := (HB.out.cell (World.block_lt_of_cell? w _ hx322_0)).trans hx322_0
  replace hx322_1 := (HB.out.cell (World.block_lt_of_cell? w _ hx322_1)).trans hx322_1
  replace hx322_2 := (HB.out.cell (World.block_lt_of_cell? w _ hx322_2)).trans hx322_2
  replace hx322_3 := (HB.out.cell (World.block_lt_of_cell? w _ hx322_3)).trans hx322_3
  replace hx322_4 := (HB.out.cell (World.block_lt_of_cell? w _ hx322_4)).trans hx322_4
  replace hx322_5 := (HB.out.cell (World.block_lt_of_cell? w _ hx322_5)).trans hx322_5
  replace hx322_6 := (HB.out.cell (World.block_lt_of_cell? w _ hx322_6)).trans hx322_6
  replace hx322_7 := (HB.out.cell (World.block_lt_of_cell? w _ hx322_7)).trans hx322_7
  replace hx322_8 := (HB.out.cell (World.block_lt_of_cell? w _ hx322_8)).trans hx322_8
  replace hx322_9 := (HB.out.cell (World.block_lt_of_cell? w _ hx322_9)).trans hx322_9
  replace hx322_10 := (HB.out.cell (World.block_lt_of_cell? w _ hx322_10)).trans hx322_10
  have HR322_7 := Aside0.mk hi322_7
  have HC322_7 := Aside0.mk hl322_7
  clear hi322_7 hl322_7
  replace p322 := eq_true p322
  replace q322 := eq_true q322
  refine ji (n := 10) (S := fun w' => w'.cell? (ad321.add ((x5_1).toNat * 11)) = some (.int .i64 ((zg l0 x5_1).f0)) ∧ w'.cell? ⟨(ad321.add ((x5_1).toNat * 11)).block, (ad321.add ((x5_1).toNat * 11)).off + 1, none⟩ = some (.int .i64 ((zg l0 x5_1).f1)) ∧ w'.cell? ⟨(ad321.add ((x5_1).toNat * 11)).block, (ad321.add ((x5_1).toNat * 11)).off + 2, none⟩ = some (.int .i64 ((zg l0 x5_1).f2)) ∧ w'.cell? ⟨(ad321.add ((x5_1).toNat * 11)).block, (ad321.add ((x5_1).toNat * 11)).off + 3, none⟩ = some (.int .i64 ((zg l0 x5_1).f3.f0)) ∧ w'.cell? ⟨(ad321.add ((x5_1).toNat * 11)).block, (ad321.add ((x5_1).toNat * 11)).off + 4, none⟩ = some (.int .i64 ((zg l0 x5_1).f3.f1)) ∧ w'.cell? ⟨(ad321.add ((x5_1).toNat * 11)).block, (ad321.add ((x5_1).toNat * 11)).off + 5, none⟩ = some (.int .i64 ((zg l0 x5_1).f3.f2)) ∧ w'.cell? ⟨(ad321.add ((x5_1).toNat * 11)).block, (ad321.add ((x5_1).toNat * 11)).off + 6, none⟩ = some (.string ((zg l0 x5_1).f4)) ∧ w'.cell? ⟨(ad321.add ((x5_1).toNat * 11)).block, (ad321.add ((x5_1).toNat * 11)).off + 7, none⟩ = some (.slice A321_7 ((zg l0 x5_1).f5).length c321_7) ∧ w'.cell? ⟨(ad321.add ((x5_1).toNat * 11)).block, (ad321.add ((x5_1).toNat * 11)).off + 8, none⟩ = some (.int .i64 ((zg l0 x5_1).f6)) ∧ w'.cell? ⟨(ad321.add ((x5_1).toNat * 11)).block, (ad321.add ((x5_1).toNat * 11)).off + 9, none⟩ = some (.int .i64 ((zg l0 x5_1).f7)) ∧ w'.cell? ⟨(ad321.add ((x5_1).toNat * 11)).block, (ad321.add ((x5_1).toNat * 11)).off + 10, none⟩ = some (.int .i64 ((zg l0 x5_1).f8)) ∧ w'.cell? (ad322.add ((x5_1).toNat * 11)) = some (.int .i64 ((zg l1 x5_1).f0)) ∧ w'.cell? ⟨(ad322.add ((x5_1).toNat * 11)).block, (ad322.add ((x5_1).toNat * 11)).off + 1, none⟩ = some (.int .i64 ((zg l1 x5_1).f1)) ∧ w'.cell? ⟨(ad322.add ((x5_1).toNat * 11)).block, (ad322.add ((x5_1).toNat * 11)).off + 2, none⟩ = some (.int .i64 ((zg l1 x5_1).f2)) ∧ w'.cell? ⟨(ad322.add ((x5_1).toNat * 11)).block, (ad322.add ((x5_1).toNat * 11)).off + 3, none⟩ = some (.int .i64 ((zg l1 x5_1).f3.f0)) ∧ w'.cell? ⟨(ad322.add ((x5_1).toNat * 11)).block, (ad322.add ((x5_1).toNat * 11)).off + 4, none⟩ = some (.int .i64 ((zg l1 x5_1).f3.f1)) ∧ w'.cell? ⟨(ad322.add ((x5_1).toNat * 11)).block, (ad322.add ((x5_1).toNat * 11)).off + 5, none⟩ = some (.int .i64 ((zg l1 x5_1).f3.f2)) ∧ w'.cell? ⟨(ad322.add ((x5_1).toNat * 11)).block, (ad322.add ((x5_1).toNat * 11)).off + 6, none⟩ = some (.string ((zg l1 x5_1).f4)) ∧ w'.cell? ⟨(ad322.add ((x5_1).toNat * 11)).block, (ad322.add ((x5_1).toNat * 11)).off + 7, none⟩ = some (.slice A322_7 ((zg l1 x5_1).f5).length c322_7) ∧ w'.cell? ⟨(ad322.add ((x5_1).toNat * 11)).block, (ad322.add ((x5_1).toNat * 11)).off + 8, none⟩ = some (.int .i64 ((zg l1 x5_1).f6)) ∧ w'.cell? ⟨(ad322.add ((x5_1).toNat * 11)).block, (ad322.add ((x5_1).toNat * 11)).off + 9, none⟩ = some (.int .i64 ((zg l1 x5_1).f7)) ∧ w'.cell? ⟨(ad322.add ((x5_1).toNat * 11)).block, (ad322.add ((x5_1).toNat * 11)).off + 10, none⟩ = some (.int .i64 ((zg l1 x5_1).f8))) (ds := []) zam (by kernel_rfl) rfl rfl ⟨((HB.out.cell (World.block_lt_of_cell? w _ hw321_0)).trans hw321_0), ((HB.out.cell (World.block_lt_of_cell? w _ hw321_1)).trans hw321_1), ((HB.out.cell (World.block_lt_of_cell? w _ hw321_2)).trans hw321_2), ((HB.out.cell (World.block_lt_of_cell? w _ hw321_3)).trans hw321_3), ((HB.out.cell (World.block_lt_of_cell? w _ hw321_4)).trans hw321_4), ((HB.out.cell (World.block_lt_of_cell? w _ hw321_5)).trans hw321_5), ((HB.out.cell (World.block_lt_of_cell? w _ hw321_6)).trans hw321_6), ((HB.out.cell (World.block_lt_of_cell? w _ hw321_7)).trans hw321_7), ((HB.out.cell (World.block_lt_of_cell? w _ hw321_8)).trans hw321_8), ((HB.out.cell (World.block_lt_of_cell? w _ hw321_9)).trans hw321_9), ((HB.out.cell (World.block_lt_of_cell? w _ hw321_10)).trans hw321_10), ((HB.out.cell (World.block_lt_of_cell? w _ hw322_0)).trans hw322_0), ((HB.out.cell (World.block_lt_of_cell? w _ hw322_1)).trans hw322_1), ((HB.out.cell (World.block_lt_of_cell? w _ hw322_2)).trans hw322_2), ((HB.out.cell (World.block_lt_of_cell? w _ hw322_3)).trans hw322_3), ((HB.out.cell (World.block_lt_of_cell? w _ hw322_4)).trans hw322_4), ((HB.out.cell (World.block_lt_of_cell? w _ hw322_5)).trans hw322_5), ((HB.out.cell (World.block_lt_of_cell? w _ hw322_6)).trans hw322_6), ((HB.out.cell (World.block_lt_of_cell? w _ hw322_7)).trans hw322_7), ((HB.out.cell (World.block_lt_of_cell? w _ hw322_8)).trans hw322_8), ((HB.out.cell (World.block_lt_of_cell? w _ hw322_9)).trans hw322_9), ((HB.out.cell (World.block_lt_of_cell? w _ hw322_10)).trans hw322_10)⟩ (fun hHeld => ?_); refine uy ye.tab6 ye.bits6 (fun HT_ HW_ => ?_)
  generalize wr.drew = w9 at HB HR321_7 HR322_7 hx321_0 hx321_1 hx321_10 hx321_2 hx321_3 hx321_4 hx321_5 hx321_6 hx321_7 hx321_8 hx321_9 hx322_0 hx322_1 hx322_10 hx322_2 hx322_3 hx322_4 hx322_5 hx322_6 hx322_7 hx322_8 hx322_9 hHeld ⊢
  refine pq_ 0 17 zan (zo HT_.out (by kernel_rfl)) ?_
  refine pq_ 1 18 zao (zo HT_.out (by kernel_rfl)) ?_
  refine pq_ 2 19 zap (zo HT_.out (by kernel_rfl)) ?_
  refine pq_ 4 21 zaq (zo HT_.out (by kernel_rfl)) ?_
  refine pq_ 5 22 zar (zo HT_.out (by kernel_rfl)) ?_
  refine pq_ 6 23 zas (zo HT_.out (by kernel_rfl)) ?_
  refine tq_ 3 20 zat (yj HT_.out HW_.out (by kernel_rfl)) hHeld ?_
  refine tq_ 7 24 zau (yj HT_.out HW_.out (by kernel_rfl)) hHeld ?_
  refine ul (i := 8) (N := some 25) zav rfl rfl (vn HT_.out (by kernel_rfl)) (by decide) (fun K hK => ?_)
  refine j5 Try.func10 (by kernel_rfl) rfl #[.agg #[.int .i64 ((zg l0 x5_1).f0), .int .i64 ((zg l0 x5_1).f1), .int .i64 ((zg l0 x5_1).f2), .int .i64 ((zg l0 x5_1).f3.f0), .int .i64 ((zg l0 x5_1).f3.f1), .int .i64 ((zg l0 x5_1).f3.f2), .string ((zg l0 x5_1).f4), .slice A321_7 ((zg l0 x5_1).f5).length c321_7, .int .i64 ((zg l0 x5_1).f6), .int .i64 ((zg l0 x5_1).f7), .int .i64 ((zg l0 x5_1).f8)], .agg #[.int .i64 ((zg l1 x5_1).f0), .int .i64 ((zg l1 x5_1).f1), .int .i64 ((zg l1 x5_1).f2), .int .i64 ((zg l1 x5_1).f3.f0), .int .i64 ((zg l1 x5_1).f3.f1), .int .i64 ((zg l1 x5_1).f3.f2), .string ((zg l1 x5_1).f4), .slice A322_7 ((zg l1 x5_1).f5).length c322_7, .int .i64 ((zg l1 x5_1).f6), .int .i64 ((zg l1 x5_1).f7), .int .i64 ((zg l1 x5_1).f8)]] (by rfl) rfl rfl (by (try simp only [List.map_toArray, List.map_cons, List.map_nil]); first | done | rfl | (simp only [List.length_drop, List.length_take]; rfl)) ?_
  with_reducible refine (yu.calls k1 ((zg l0 x5_1).f0) ((zg l0 x5_1).f1) ((zg l0 x5_1).f2) ((zg l0 x5_1).f3.f0) ((zg l0 x5_1).f3.f1) ((zg l0 x5_1).f3.f2) ((zg l0 x5_1).f4) _ _ ((zg l0 x5_1).f5) ((zg l0 x5_1).f6) ((zg l0 x5_1).f7) ((zg l0 x5_1).f8) ((zg l1 x5_1).f0) ((zg l1 x5_1).f1) ((zg l1 x5_1).f2) ((zg l1 x5_1).f3.f0) ((zg l1 x5_1).f3.f1) ((zg l1 x5_1).f3.f2) ((zg l1 x5_1).f4) _ _ ((zg l1 x5_1).f5) ((zg l1 x5_1).f6) ((zg l1 x5_1).f7) ((zg l1 x5_1).f8) true _ ?side1 ?side2 ?side3 ?side4 A7.out).mono ?_
  (case side1 => repeat (first | exact (Kd.yt HR321_7.out HB.out) | (with_reducible refine Kd.yo ?_ _) | (with_reducible refine Kd.yp ?_ _) | (with_reducible refine Kd.yy ?_)))
  (case side2 => exact HC321_7.out)
  (case side3 => repeat (first | exact (Kd.yt HR322_7.out HB.out) | (with_reducible refine Kd.yo ?_ _) | (with_reducible refine Kd.yp ?_ _) | (with_reducible refine Kd.yy ?_)))
  (case side4 => exact HC322_7.out)
  rintro e w10 ⟨rfl, hb⟩
  refine ⟨_, rfl, ?_⟩
  have n0_ := Aside0.mk (zj (by repeat (first | (with_reducible first | exact HB.out | apply z8 | apply z6 | apply z7) | exact HB.out)) hb)
  clear HB
  have HB := n0_
  clear n0_
  (try clear hb)
  (try clear hb2)
  (try clear hk)
  (try clear hi)
  refine hK.out _ _ ⟨((HB.out.cell (World.block_lt_of_cell? w _ hw321_0)).trans hw321_0), ((HB.out.cell (World.block_lt_of_cell? w _ hw321_1)).trans hw321_1), ((HB.out.cell (World.block_lt_of_cell? w _ hw321_2)).trans hw321_2), ((HB.out.cell (World.block_lt_of_cell? w _ hw321_3)).trans hw321_3), ((HB.out.cell (World.block_lt_of_cell? w _ hw321_4)).trans hw321_4), ((HB.out.cell (World.block_lt_of_cell? w _ hw321_5)).trans hw321_5), ((HB.out.cell (World.block_lt_of_cell? w _ hw321_6)).trans hw321_6), ((HB.out.cell (World.block_lt_of_cell? w _ hw321_7)).trans hw321_7), ((HB.out.cell (World.block_lt_of_cell? w _ hw321_8)).trans hw321_8), ((HB.out.cell (World.block_lt_of_cell? w _ hw321_9)).trans hw321_9), ((HB.out.cell (World.block_lt_of_cell? w _ hw321_10)).trans hw321_10), ((HB.out.cell (World.block_lt_of_cell? w _ hw322_0)).trans hw322_0), ((HB.out.cell (World.block_lt_of_cell? w _ hw322_1)).trans hw322_1), ((HB.out.cell (World.block_lt_of_cell? w _ hw322_2)).trans hw322_2), ((HB.out.cell (World.block_lt_of_cell? w _ hw322_3)).trans hw322_3), ((HB.out.cell (World.block_lt_of_cell? w _ hw322_4)).trans hw322_4), ((HB.out.cell (World.block_lt_of_cell? w _ hw322_5)).trans hw322_5), ((HB.out.cell (World.block_lt_of_cell? w _ hw322_6)).trans hw322_6), ((HB.out.cell (World.block_lt_of_cell? w _ hw322_7)).trans hw322_7), ((HB.out.cell (World.block_lt_of_cell? w _ hw322_8)).trans hw322_8), ((HB.out.cell (World.block_lt_of_cell? w _ hw322_9)).trans hw322_9), ((HB.out.cell (World.block_lt_of_cell? w _ hw322_10)).trans hw322_10)⟩ (fun hHeld => ?_)
  clear hK K
  refine um (a' := ?_) ?_ ?_
  rotate_left
  ·
   show Act.put _ (some 25) _ = _
   simp only [Act.put, List.setIfInBounds_toArray, List.set_cons_zero, List.set_cons_succ, vw, ud]
   rfl
  refine pq_ 9 26 z9g (zo HT_.out (by kernel_rfl)) ?_
  refine ju (j9 HT_.out (by kernel_rfl)) ?_
  try go_wp2
  go_roundg k1
  case measure => have := HK1.out; omega
  case rel => exact ⟨(wrap64 (x5_1 + 1)), (by first | rfl | (simp; done) | (simp [*]; done)), H', ⟨by have := HK1.out; omega⟩, ⟨by repeat (first | (with_reducible first | exact HB.out | apply z8 | apply z6 | apply z7) | exact HB.out)⟩⟩
def yz.f (k : Nat) (a0_0 : Int) (a0_1 : Int) (a0_2 : Int) (a0_3 : Int) (a0_4 : Int) (a0_5 : Int) (l0_6 : List (S38)) (a1_0 : Int) (a1_1 : Int) (a1_2 : Int) (a1_3 : Int) (a1_4 : Int) (a1_5 : Int) (l1_6 : List (S38)) : Option (Bool) := if a0_0 = a1_0 then (if a0_1 = a1_1 then (if a0_2 = a1_2 then (if a0_3 = a1_3 then (if a0_4 = a1_4 then (if a0_5 = a1_5 then ((ye.f k l0_6 l1_6).bind fun t326 => (some t326)) else (some false)) else (some false)) else (some false)) else (some false)) else (some false)) else (some false)
theorem yz.mono : ∀ a0 a1 a2 a3 a4 a5 a6 a7 a8 a9 a10 a11 a12 a13 k, LeO (yz.f k a0 a1 a2 a3 a4 a5 a6 a7 a8 a9 a10 a11 a12 a13) (yz.f (k + 1) a0 a1 a2 a3 a4 a5 a6 a7 a8 a9 a10 a11 a12 a13) := by
  intro a0 a1 a2 a3 a4 a5 a6 a7 a8 a9 a10 a11 a12 a13 k
  unfold yz.f
  repeat' first
      | (with_reducible exact ye.mono _ _ _)
      | (with_reducible exact LeO.refl _)
      | (with_reducible exact LeO.none _)
      | (with_reducible refine LeO.ite ?_ ?_)
      | (with_reducible refine LeO.bind ?_ (fun _ => ?_))
      | exact ye.mono _ _ _
      | exact LeO.none _
      | refine LeO.ite ?_ ?_
      | refine LeO.bind ?_ (fun _ => ?_)
set_option maxHeartbeats 8000000 in
set_option maxRecDepth 100000 in
theorem yz.calls (k : Nat) (a0_0 : Int) (a0_1 : Int) (a0_2 : Int) (a0_3 : Int) (a0_4 : Int) (a0_5 : Int) (A0_6 : Option Addr) (c0_6 : Nat) (l0_6 : List (S38)) (a1_0 : Int) (a1_1 : Int) (a1_2 : Int) (a1_3 : Int) (a1_4 : Int) (a1_5 : Int) (A1_6 : Option Addr) (c1_6 : Nat) (l1_6 : List (S38)) (r : Bool) (w : World) (hr0_6 : Kd.C k38 w A0_6 l0_6.length l0_6) (hc0_6 : l0_6.length ≤ c0_6) (hr1_6 : Kd.C k38 w A1_6 l1_6.length l1_6) (hc1_6 : l1_6.length ≤ c1_6) (h : yz.f k a0_0 a0_1 a0_2 a0_3 a0_4 a0_5 l0_6 a1_0 a1_1 a1_2 a1_3 a1_4 a1_5 l1_6 = some r) :
  Calls Try.prog 13 #[.agg #[.int .i64 a0_0, .int .i64 a0_1, .int .i64 a0_2, .int .i64 a0_3, .int .i64 a0_4, .int .i64 a0_5, .slice A0_6 l0_6.length c0_6], .agg #[.int .i64 a1_0, .int .i64 a1_1, .int .i64 a1_2, .int .i64 a1_3, .int .i64 a1_4, .int .i64 a1_5, .slice A1_6 l1_6.length c1_6]] w fun e w' => e = .returned (.bool r) ∧ Below w.heap.size w w' := by
 have hu45 := Try.underlying45
 have HR0_6 := Aside0.mk hr0_6
 have HC0_6 := Aside0.mk hc0_6
 clear hr0_6 hc0_6
 have HR1_6 := Aside0.mk hr1_6
 have HC1_6 := Aside0.mk hc1_6
 clear hr1_6 hc1_6
 have HB := Aside0.mk (Below.refl w.heap.size w)
 have H : (if a0_0 = a1_0 then (if a0_1 = a1_1 then (if a0_2 = a1_2 then (if a0_3 = a1_3 then (if a0_4 = a1_4 then (if a0_5 = a1_5 then ((ye.f k l0_6 l1_6).bind fun t326 => (some t326)) else (some false)) else (some false)) else (some false)) else (some false)) else (some false)) else (some false)) = some r := h
 clear h
 by_cases c3 : a0_0 = a1_0
 rotate_left
 ·
  rw [if_neg c3] at H
  have c3b0 : (a0_0 == a1_0) = false := beq_eq_false_iff_ne.mpr c3
  have c3b1 : (a0_0 != a1_0) = true := bne_iff_ne.mpr c3
  obtain rfl := Option.some.inj H
  go_enter Try.func13, Try.ntmps13
  go_wp2_with (first | ((with_reducible refine yf (N := 2) rfl ?_); refine yd ?hg (N := 2) ?hd (cs := #[.int .i64 a0_0, .int .i64 a0_1, .int .i64 a0_2, .int .i64 a0_3, .int .i64 a0_4, .int .i64 a0_5, .slice A0_6 l0_6.length c0_6]) (t := 45) ?hr ?_; (case hd => rfl); (case hg => rfl); (case hr => first | (go_simp; done) | (go_simp; rfl)); intro gb324 hg w41 hbox hb; have n0_ := Aside0.mk (zj (by repeat (first | (with_reducible first | exact HB.out | apply z8 | apply z6 | apply z7) | exact HB.out)) hb); have n1_ := Aside0.mk (hbox); have n2_ := Aside0.mk ((by rw [hg]; exact (zk (by repeat (first | (with_reducible first | exact HB.out | apply z8 | apply z6 | apply z7) | exact HB.out))) : w.heap.size ≤ gb324)); have n3_ := Aside0.mk ((by rw [hg]; exact (zk (by repeat (first | (with_reducible first | exact HB.out | apply z8 | apply z6 | apply z7) | exact HB.out))) : w.heap.size ≤ gb324)); clear HB; have HB := n0_; have BK324 := n1_; have GW324 := n2_; have GE324 := n3_; clear n0_ n1_ n2_ n3_; clear hb hbox hg) | ((with_reducible refine yf (N := 3) rfl ?_); refine yd ?hg (N := 3) ?hd (cs := #[.int .i64 a1_0, .int .i64 a1_1, .int .i64 a1_2, .int .i64 a1_3, .int .i64 a1_4, .int .i64 a1_5, .slice A1_6 l1_6.length c1_6]) (t := 45) ?hr ?_; (case hd => rfl); (case hg => rfl); (case hr => first | (go_simp; done) | (go_simp; rfl)); intro gb325 hg w42 hbox hb; have n0_ := Aside0.mk (zt (by (with_reducible repeat (first | refine ze ?_ _ | refine zf ?_ | refine zc ?_ _)); exact BK324.out) hb); have n1_ := Aside0.mk (zj (by repeat (first | (with_reducible first | exact HB.out | apply z8 | apply z6 | apply z7 | refine zb ?_ GE324.out) | exact HB.out)) hb); have n2_ := Aside0.mk (hbox); have n3_ := Aside0.mk ((by rw [hg]; exact (zk (by repeat (first | (with_reducible first | exact HB.out | apply z8 | apply z6 | apply z7 | refine zb ?_ GE324.out) | exact HB.out))) : w.heap.size ≤ gb325)); have n4_ := Aside0.mk ((by rw [hg]; exact (zk (by repeat (first | (with_reducible first | exact HB.out | apply z8 | apply z6 | apply z7 | refine zb ?_ GE324.out) | exact HB.out))) : w.heap.size ≤ gb325)); have n5_ := Aside0.mk ((by rw [hg]; exact Nat.ne_of_lt (vo (g := gb324) (o := .cells #[.int .i64 a0_0, .int .i64 a0_1, .int .i64 a0_2, .int .i64 a0_3, .int .i64 a0_4, .int .i64 a0_5, .slice A0_6 l0_6.length c0_6] 45 (0, 0)) (by (with_reducible repeat (first | refine ze ?_ _ | refine zf ?_ | refine zc ?_ _)); exact BK324.out)) : gb324 ≠ gb325)); have n6_ := Aside0.mk ((by rw [hg]; exact Nat.ne_of_gt (vo (g := gb324) (o := .cells #[.int .i64 a0_0, .int .i64 a0_1, .int .i64 a0_2, .int .i64 a0_3, .int .i64 a0_4, .int .i64 a0_5, .slice A0_6 l0_6.length c0_6] 45 (0, 0)) (by (with_reducible repeat (first | refine ze ?_ _ | refine zf ?_ | refine zc ?_ _)); exact BK324.out)) : gb325 ≠ gb324)); clear BK324; clear HB; have BK324 := n0_; have HB := n1_; have BK325 := n2_; have GW325 := n3_; have GE325 := n4_; have NB324_325 := n5_; have NB325_324 := n6_; clear n0_ n1_ n2_ n3_ n4_ n5_ n6_; clear hb hbox hg; have hnb43 := NB324_325.out; have hnc43 := NB325_324.out; have hcz44_0 := ug BK324.out; have hfz44_0 := fun j_ => zi BK324.out j_; have hcz45_0 := ug BK325.out; have hfz45_0 := fun j_ => zi BK325.out j_))
  go_ret
  exact ⟨by first | rfl | (simp [zm, zn] <;> rfl) | (simp [*, zm, zn] <;> rfl), by repeat (first | (with_reducible first | exact HB.out | apply z8 | apply z6 | apply z7 | refine zb ?_ GE324.out | refine zb ?_ GE325.out) | exact HB.out)⟩
 rw [if_pos c3] at H
 have c3b0 : (a0_0 == a1_0) = true := beq_iff_eq.mpr c3
 have c3b1 : (a0_0 != a1_0) = false := bne_eq_false_iff_eq.mpr c3
 clear c3
 by_cases c4 : a0_1 = a1_1
 rotate_left
 ·
  rw [if_neg c4] at H
  have c4b0 : (a0_1 == a1_1) = false := beq_eq_false_iff_ne.mpr c4
  have c4b1 : (a0_1 != a1_1) = true := bne_iff_ne.mpr c4
  obtain rfl := Option.some.inj H
  go_enter Try.func13, Try.ntmps13
  go_wp2_with (first | ((with_reducible refine yf (N := 2) rfl ?_); refine yd ?hg (N := 2) ?hd (cs := #[.int .i64 a0_0, .int .i64 a0_1, .int .i64 a0_2, .int .i64 a0_3, .int .i64 a0_4, .int .i64 a0_5, .slice A0_6 l0_6.length c0_6]) (t := 45) ?hr ?_; (case hd => rfl); (case hg => rfl); (case hr => first | (go_simp; done) | (go_simp; rfl)); intro gb324 hg w36 hbox hb; have n0_ := Aside0.mk (zj (by repeat (first | (with_reducible first | exact HB.out | apply z8 | apply z6 | apply z7) | exact HB.out)) hb); have n1_ := Aside0.mk (hbox); have n2_ := Aside0.mk ((by rw [hg]; exact (zk (by repeat (first | (with_reducible first | exact HB.out | apply z8 | apply z6 | apply z7) | exact HB.out))) : w.heap.size ≤ gb324)); have n3_ := Aside0.mk ((by rw [hg]; exact (zk (by repeat (first | (with_reducible first | exact HB.out | apply z8 | apply z6 | apply z7) | exact HB.out))) : w.heap.size ≤ gb324)); clear HB; have HB := n0_; have BK324 := n1_; have GW324 := n2_; have GE324 := n3_; clear n0_ n1_ n2_ n3_; clear hb hbox hg) | ((with_reducible refine yf (N := 3) rfl ?_); refine yd ?hg (N := 3) ?hd (cs := #[.int .i64 a1_0, .int .i64 a1_1, .int .i64 a1_2, .int .i64 a1_3, .int .i64 a1_4, .int .i64 a1_5, .slice A1_6 l1_6.length c1_6]) (t := 45) ?hr ?_; (case hd => rfl); (case hg => rfl); (case hr => first | (go_simp; done) | (go_simp; rfl)); intro gb325 hg w37 hbox hb; have n0_ := Aside0.mk (zt (by (with_reducible repeat (first | refine ze ?_ _ | refine zf ?_ | refine zc ?_ _)); exact BK324.out) hb); have n1_ := Aside0.mk (zj (by repeat (first | (with_reducible first | exact HB.out | apply z8 | apply z6 | apply z7 | refine zb ?_ GE324.out) | exact HB.out)) hb); have n2_ := Aside0.mk (hbox); have n3_ := Aside0.mk ((by rw [hg]; exact (zk (by repeat (first | (with_reducible first | exact HB.out | apply z8 | apply z6 | apply z7 | refine zb ?_ GE324.out) | exact HB.out))) : w.heap.size ≤ gb325)); have n4_ := Aside0.mk ((by rw [hg]; exact (zk (by repeat (first | (with_reducible first | exact HB.out | apply z8 | apply z6 | apply z7 | refine zb ?_ GE324.out) | exact HB.out))) : w.heap.size ≤ gb325)); have n5_ := Aside0.mk ((by rw [hg]; exact Nat.ne_of_lt (vo (g := gb324) (o := .cells #[.int .i64 a0_0, .int .i64 a0_1, .int .i64 a0_2, .int .i64 a0_3, .int .i64 a0_4, .int .i64 a0_5, .slice A0_6 l0_6.length c0_6] 45 (0, 0)) (by (with_reducible repeat (first | refine ze ?_ _ | refine zf ?_ | refine zc ?_ _)); exact BK324.out)) : gb324 ≠ gb325)); have n6_ := Aside0.mk ((by rw [hg]; exact Nat.ne_of_gt (vo (g := gb324) (o := .cells #[.int .i64 a0_0, .int .i64 a0_1, .int .i64 a0_2, .int .i64 a0_3, .int .i64 a0_4, .int .i64 a0_5, .slice A0_6 l0_6.length c0_6] 45 (0, 0)) (by (with_reducible repeat (first | refine ze ?_ _ | refine zf ?_ | refine zc ?_ _)); exact BK324.out)) : gb325 ≠ gb324)); clear BK324; clear HB; have BK324 := n0_; have HB := n1_; have BK325 := n2_; have GW325 := n3_; have GE325 := n4_; have NB324_325 := n5_; have NB325_324 := n6_; clear n0_ n1_ n2_ n3_ n4_ n5_ n6_; clear hb hbox hg; have hnb38 := NB324_325.out; have hnc38 := NB325_324.out; have hcz39_0 := ug BK324.out; have hfz39_0 := fun j_ => zi BK324.out j_; have hcz40_0 := ug BK325.out; have hfz40_0 := fun j_ => zi BK325.out j_))
  go_ret
  exact ⟨by first | rfl | (simp [zm, zn] <;> rfl) | (simp [*, zm, zn] <;> rfl), by repeat (first | (with_reducible first | exact HB.out | apply z8 | apply z6 | apply z7 | refine zb ?_ GE324.out | refine zb ?_ GE325.out) | exact HB.out)⟩
 rw [if_pos c4] at H
 have c4b0 : (a0_1 == a1_1) = true := beq_iff_eq.mpr c4
 have c4b1 : (a0_1 != a1_1) = false := bne_eq_false_iff_eq.mpr c4
 clear c4
 by_cases c5 : a0_2 = a1_2
 rotate_left
 ·
  rw [if_neg c5] at H
  have c5b0 : (a0_2 == a1_2) = false := beq_eq_false_iff_ne.mpr c5
  have c5b1 : (a0_2 != a1_2) = true := bne_iff_ne.mpr c5
  obtain rfl := Option.some.inj H
  go_enter Try.func13, Try.ntmps13
  go_wp2_with (first | ((with_reducible refine yf (N := 2) rfl ?_); refine yd ?hg (N := 2) ?hd (cs := #[.int .i64 a0_0, .int .i64 a0_1, .int .i64 a0_2, .int .i64 a0_3, .int .i64 a0_4, .int .i64 a0_5, .slice A0_6 l0_6.length c0_6]) (t := 45) ?hr ?_; (case hd => rfl); (case hg => rfl); (case hr => first | (go_simp; done) | (go_simp; rfl)); intro gb324 hg w31 hbox hb; have n0_ := Aside0.mk (zj (by repeat (first | (with_reducible first | exact HB.out | apply z8 | apply z6 | apply z7) | exact HB.out)) hb); have n1_ := Aside0.mk (hbox); have n2_ := Aside0.mk ((by rw [hg]; exact (zk (by repeat (first | (with_reducible first | exact HB.out | apply z8 | apply z6 | apply z7) | exact HB.out))) : w.heap.size ≤ gb324)); have n3_ := Aside0.mk ((by rw [hg]; exact (zk (by repeat (first | (with_reducible first | exact HB.out | apply z8 | apply z6 | apply z7) | exact HB.out))) : w.heap.size ≤ gb324)); clear HB; have HB := n0_; have BK324 := n1_; have GW324 := n2_; have GE324 := n3_; clear n0_ n1_ n2_ n3_; clear hb hbox hg) | ((with_reducible refine yf (N := 3) rfl ?_); refine yd ?hg (N := 3) ?hd (cs := #[.int .i64 a1_0, .int .i64 a1_1, .int .i64 a1_2, .int .i64 a1_3, .int .i64 a1_4, .int .i64 a1_5, .slice A1_6 l1_6.length c1_6]) (t := 45) ?hr ?_; (case hd => rfl); (case hg => rfl); (case hr => first | (go_simp; done) | (go_simp; rfl)); intro gb325 hg w32 hbox hb; have n0_ := Aside0.mk (zt (by (with_reducible repeat (first | refine ze ?_ _ | refine zf ?_ | refine zc ?_ _)); exact BK324.out) hb); have n1_ := Aside0.mk (zj (by repeat (first | (with_reducible first | exact HB.out | apply z8 | apply z6 | apply z7 | refine zb ?_ GE324.out) | exact HB.out)) hb); have n2_ := Aside0.mk (hbox); have n3_ := Aside0.mk ((by rw [hg]; exact (zk (by repeat (first | (with_reducible first | exact HB.out | apply z8 | apply z6 | apply z7 | refine zb ?_ GE324.out) | exact HB.out))) : w.heap.size ≤ gb325)); have n4_ := Aside0.mk ((by rw [hg]; exact (zk (by repeat (first | (with_reducible first | exact HB.out | apply z8 | apply z6 | apply z7 | refine zb ?_ GE324.out) | exact HB.out))) : w.heap.size ≤ gb325)); have n5_ := Aside0.mk ((by rw [hg]; exact Nat.ne_of_lt (vo (g := gb324) (o := .cells #[.int .i64 a0_0, .int .i64 a0_1, .int .i64 a0_2, .int .i64 a0_3, .int .i64 a0_4, .int .i64 a0_5, .slice A0_6 l0_6.length c0_6] 45 (0, 0)) (by (with_reducible repeat (first | refine ze ?_ _ | refine zf ?_ | refine zc ?_ _)); exact BK324.out)) : gb324 ≠ gb325)); have n6_ := Aside0.mk ((by rw [hg]; exact Nat.ne_of_gt (vo (g := gb324) (o := .cells #[.int .i64 a0_0, .int .i64 a0_1, .int .i64 a0_2, .int .i64 a0_3, .int .i64 a0_4, .int .i64 a0_5, .slice A0_6 l0_6.length c0_6] 45 (0, 0)) (by (with_reducible repeat (first | refine ze ?_ _ | refine zf ?_ | refine zc ?_ _)); exact BK324.out)) : gb325 ≠ gb324)); clear BK324; clear HB; have BK324 := n0_; have HB := n1_; have BK325 := n2_; have GW325 := n3_; have GE325 := n4_; have NB324_325 := n5_; have NB325_324 := n6_; clear n0_ n1_ n2_ n3_ n4_ n5_ n6_; clear hb hbox hg; have hnb33 := NB324_325.out; have hnc33 := NB325_324.out; have hcz34_0 := ug BK324.out; have hfz34_0 := fun j_ => zi BK324.out j_; have hcz35_0 := ug BK325.out; have hfz35_0 := fun j_ => zi BK325.out j_))
  go_ret
  exact ⟨by first | rfl | (simp [zm, zn] <;> rfl) | (simp [*, zm, zn] <;> rfl), by repeat (first | (with_reducible first | exact HB.out | apply z8 | apply z6 | apply z7 | refine zb ?_ GE324.out | refine zb ?_ GE325.out) | exact HB.out)⟩
 rw [if_pos c5] at H
 have c5b0 : (a0_2 == a1_2) = true := beq_iff_eq.mpr c5
 have c5b1 : (a0_2 != a1_2) = false := bne_eq_false_iff_eq.mpr c5
 clear c5
 by_cases c6 : a0_3 = a1_3
 rotate_left
 ·
  rw [if_neg c6] at H
  have c6b0 : (a0_3 == a1_3) = false := beq_eq_false_iff_ne.mpr c6
  have c6b1 : (a0_3 != a1_3) = true := bne_iff_ne.mpr c6
  obtain rfl := Option.some.inj H
  go_enter Try.func13, Try.ntmps13
  go_wp2_with (first | ((with_reducible refine yf (N := 2) rfl ?_); refine yd ?hg (N := 2) ?hd (cs := #[.int .i64 a0_0, .int .i64 a0_1, .int .i64 a0_2, .int .i64 a0_3, .int .i64 a0_4, .int .i64 a0_5, .slice A0_6 l0_6.length c0_6]) (t := 45) ?hr ?_; (case hd => rfl); (case hg => rfl); (case hr => first | (go_simp; done) | (go_simp; rfl)); intro gb324 hg w26 hbox hb; have n0_ := Aside0.mk (zj (by repeat (first | (with_reducible first | exact HB.out | apply z8 | apply z6 | apply z7) | exact HB.out)) hb); have n1_ := Aside0.mk (hbox); have n2_ := Aside0.mk ((by rw [hg]; exact (zk (by repeat (first | (with_reducible first | exact HB.out | apply z8 | apply z6 | apply z7) | exact HB.out))) : w.heap.size ≤ gb324)); have n3_ := Aside0.mk ((by rw [hg]; exact (zk (by repeat (first | (with_reducible first | exact HB.out | apply z8 | apply z6 | apply z7) | exact HB.out))) : w.heap.size ≤ gb324)); clear HB; have HB := n0_; have BK324 := n1_; have GW324 := n2_; have GE324 := n3_; clear n0_ n1_ n2_ n3_; clear hb hbox hg) | ((with_reducible refine yf (N := 3) rfl ?_); refine yd ?hg (N := 3) ?hd (cs := #[.int .i64 a1_0, .int .i64 a1_1, .int .i64 a1_2, .int .i64 a1_3, .int .i64 a1_4, .int .i64 a1_5, .slice A1_6 l1_6.length c1_6]) (t := 45) ?hr ?_; (case hd => rfl); (case hg => rfl); (case hr => first | (go_simp; done) | (go_simp; rfl)); intro gb325 hg w27 hbox hb; have n0_ := Aside0.mk (zt (by (with_reducible repeat (first | refine ze ?_ _ | refine zf ?_ | refine zc ?_ _)); exact BK324.out) hb); have n1_ := Aside0.mk (zj (by repeat (first | (with_reducible first | exact HB.out | apply z8 | apply z6 | apply z7 | refine zb ?_ GE324.out) | exact HB.out)) hb); have n2_ := Aside0.mk (hbox); have n3_ := Aside0.mk ((by rw [hg]; exact (zk (by repeat (first | (with_reducible first | exact HB.out | apply z8 | apply z6 | apply z7 | refine zb ?_ GE324.out) | exact HB.out))) : w.heap.size ≤ gb325)); have n4_ := Aside0.mk ((by rw [hg]; exact (zk (by repeat (first | (with_reducible first | exact HB.out | apply z8 | apply z6 | apply z7 | refine zb ?_ GE324.out) | exact HB.out))) : w.heap.size ≤ gb325)); have n5_ := Aside0.mk ((by rw [hg]; exact Nat.ne_of_lt (vo (g := gb324) (o := .cells #[.int .i64 a0_0, .int .i64 a0_1, .int .i64 a0_2, .int .i64 a0_3, .int .i64 a0_4, .int .i64 a0_5, .slice A0_6 l0_6.length c0_6] 45 (0, 0)) (by (with_reducible repeat (first | refine ze ?_ _ | refine zf ?_ | refine zc ?_ _)); exact BK324.out)) : gb324 ≠ gb325)); have n6_ := Aside0.mk ((by rw [hg]; exact Nat.ne_of_gt (vo (g := gb324) (o := .cells #[.int .i64 a0_0, .int .i64 a0_1, .int .i64 a0_2, .int .i64 a0_3, .int .i64 a0_4, .int .i64 a0_5, .slice A0_6 l0_6.length c0_6] 45 (0, 0)) (by (with_reducible repeat (first | refine ze ?_ _ | refine zf ?_ | refine zc ?_ _)); exact BK324.out)) : gb325 ≠ gb324)); clear BK324; clear HB; have BK324 := n0_; have HB := n1_; have BK325 := n2_; have GW325 := n3_; have GE325 := n4_; have NB324_325 := n5_; have NB325_324 := n6_; clear n0_ n1_ n2_ n3_ n4_ n5_ n6_; clear hb hbox hg; have hnb28 := NB324_325.out; have hnc28 := NB325_324.out; have hcz29_0 := ug BK324.out; have hfz29_0 := fun j_ => zi BK324.out j_; have hcz30_0 := ug BK325.out; have hfz30_0 := fun j_ => zi BK325.out j_))
  go_ret
  exact ⟨by first | rfl | (simp [zm, zn] <;> rfl) | (simp [*, zm, zn] <;> rfl), by repeat (first | (with_reducible first | exact HB.out | apply z8 | apply z6 | apply z7 | refine zb ?_ GE324.out | refine zb ?_ GE325.out) | exact HB.out)⟩
 rw [if_pos c6] at H
 have c6b0 : (a0_3 == a1_3) = true := beq_iff_eq.mpr c6
 have c6b1 : (a0_3 != a1_3) = false := bne_eq_false_iff_eq.mpr c6
 clear c6
 by_cases c7 : a0_4 = a1_4
 rotate_left
 ·
  rw [if_neg c7] at H
  have c7b0 : (a0_4 == a1_4) = false := beq_eq_false_iff_ne.mpr c7
  have c7b1 : (a0_4 != a1_4) = true := bne_iff_ne.mpr c7
  obtain rfl := Option.some.inj H
  go_enter Try.func13, Try.ntmps13
  go_wp2_with (first | ((with_reducible refine yf (N := 2) rfl ?_); refine yd ?hg (N := 2) ?hd (cs := #[.int .i64 a0_0, .int .i64 a0_1, .int .i64 a0_2, .int .i64 a0_3, .int .i64 a0_4, .int .i64 a0_5, .slice A0_6 l0_6.length c0_6]) (t := 45) ?hr ?_; (case hd => rfl); (case hg => rfl); (case hr => first | (go_simp; done) | (go_simp; rfl)); intro gb324 hg w21 hbox hb; have n0_ := Aside0.mk (zj (by repeat (first | (with_reducible first | exact HB.out | apply z8 | apply z6 | apply z7) | exact HB.out)) hb); have n1_ := Aside0.mk (hbox); have n2_ := Aside0.mk ((by rw [hg]; exact (zk (by repeat (first | (with_reducible first | exact HB.out | apply z8 | apply z6 | apply z7) | exact HB.out))) : w.heap.size ≤ gb324)); have n3_ := Aside0.mk ((by rw [hg]; exact (zk (by repeat (first | (with_reducible first | exact HB.out | apply z8 | apply z6 | apply z7) | exact HB.out))) : w.heap.size ≤ gb324)); clear HB; have HB := n0_; have BK324 := n1_; have GW324 := n2_; have GE324 := n3_; clear n0_ n1_ n2_ n3_; clear hb hbox hg) | ((with_reducible refine yf (N := 3) rfl ?_); refine yd ?hg (N := 3) ?hd (cs := #[.int .i64 a1_0, .int .i64 a1_1, .int .i64 a1_2, .int .i64 a1_3, .int .i64 a1_4, .int .i64 a1_5, .slice A1_6 l1_6.length c1_6]) (t := 45) ?hr ?_; (case hd => rfl); (case hg => rfl); (case hr => first | (go_simp; done) | (go_simp; rfl)); intro gb325 hg w22 hbox hb; have n0_ := Aside0.mk (zt (by (with_reducible repeat (first | refine ze ?_ _ | refine zf ?_ | refine zc ?_ _)); exact BK324.out) hb); have n1_ := Aside0.mk (zj (by repeat (first | (with_reducible first | exact HB.out | apply z8 | apply z6 | apply z7 | refine zb ?_ GE324.out) | exact HB.out)) hb); have n2_ := Aside0.mk (hbox); have n3_ := Aside0.mk ((by rw [hg]; exact (zk (by repeat (first | (with_reducible first | exact HB.out | apply z8 | apply z6 | apply z7 | refine zb ?_ GE324.out) | exact HB.out))) : w.heap.size ≤ gb325)); have n4_ := Aside0.mk ((by rw [hg]; exact (zk (by repeat (first | (with_reducible first | exact HB.out | apply z8 | apply z6 | apply z7 | refine zb ?_ GE324.out) | exact HB.out))) : w.heap.size ≤ gb325)); have n5_ := Aside0.mk ((by rw [hg]; exact Nat.ne_of_lt (vo (g := gb324) (o := .cells #[.int .i64 a0_0, .int .i64 a0_1, .int .i64 a0_2, .int .i64 a0_3, .int .i64 a0_4, .int .i64 a0_5, .slice A0_6 l0_6.length c0_6] 45 (0, 0)) (by (with_reducible repeat (first | refine ze ?_ _ | refine zf ?_ | refine zc ?_ _)); exact BK324.out)) : gb324 ≠ gb325)); have n6_ := Aside0.mk ((by rw [hg]; exact Nat.ne_of_gt (vo (g := gb324) (o := .cells #[.int .i64 a0_0, .int .i64 a0_1, .int .i64 a0_2, .int .i64 a0_3, .int .i64 a0_4, .int .i64 a0_5, .slice A0_6 l0_6.length c0_6] 45 (0, 0)) (by (with_reducible repeat (first | refine ze ?_ _ | refine zf ?_ | refine zc ?_ _)); exact BK324.out)) : gb325 ≠ gb324)); clear BK324; clear HB; have BK324 := n0_; have HB := n1_; have BK325 := n2_; have GW325 := n3_; have GE325 := n4_; have NB324_325 := n5_; have NB325_324 := n6_; clear n0_ n1_ n2_ n3_ n4_ n5_ n6_; clear hb hbox hg; have hnb23 := NB324_325.out; have hnc23 := NB325_324.out; have hcz24_0 := ug BK324.out; have hfz24_0 := fun j_ => zi BK324.out j_; have hcz25_0 := ug BK325.out; have hfz25_0 := fun j_ => zi BK325.out j_))
  go_ret
  exact ⟨by first | rfl | (simp [zm, zn] <;> rfl) | (simp [*, zm, zn] <;> rfl), by repeat (first | (with_reducible first | exact HB.out | apply z8 | apply z6 | apply z7 | refine zb ?_ GE324.out | refine zb ?_ GE325.out) | exact HB.out)⟩
 rw [if_pos c7] at H
 have c7b0 : (a0_4 == a1_4) = true := beq_iff_eq.mpr c7
 have c7b1 : (a0_4 != a1_4) = false := bne_eq_false_iff_eq.mpr c7
 clear c7
 by_cases c8 : a0_5 = a1_5
 rotate_left
 ·
  rw [if_neg c8] at H
  have c8b0 : (a0_5 == a1_5) = false := beq_eq_false_iff_ne.mpr c8
  have c8b1 : (a0_5 != a1_5) = true := bne_iff_ne.mpr c8
  obtain rfl := Option.some.inj H
  go_enter Try.func13, Try.ntmps13
  go_wp2_with (first | ((with_reducible refine yf (N := 2) rfl ?_); refine yd ?hg (N := 2) ?hd (cs := #[.int .i64 a0_0, .int .i64 a0_1, .int .i64 a0_2, .int .i64 a0_3, .int .i64 a0_4, .int .i64 a0_5, .slice A0_6 l0_6.length c0_6]) (t := 45) ?hr ?_; (case hd => rfl); (case hg => rfl); (case hr => first | (go_simp; done) | (go_simp; rfl)); intro gb324 hg w16 hbox hb; have n0_ := Aside0.mk (zj (by repeat (first | (with_reducible first | exact HB.out | apply z8 | apply z6 | apply z7) | exact HB.out)) hb); have n1_ := Aside0.mk (hbox); have n2_ := Aside0.mk ((by rw [hg]; exact (zk (by repeat (first | (with_reducible first | exact HB.out | apply z8 | apply z6 | apply z7) | exact HB.out))) : w.heap.size ≤ gb324)); have n3_ := Aside0.mk ((by rw [hg]; exact (zk (by repeat (first | (with_reducible first | exact HB.out | apply z8 | apply z6 | apply z7) | exact HB.out))) : w.heap.size ≤ gb324)); clear HB; have HB := n0_; have BK324 := n1_; have GW324 := n2_; have GE324 := n3_; clear n0_ n1_ n2_ n3_; clear hb hbox hg) | ((with_reducible refine yf (N := 3) rfl ?_); refine yd ?hg (N := 3) ?hd (cs := #[.int .i64 a1_0, .int .i64 a1_1, .int .i64 a1_2, .int .i64 a1_3, .int .i64 a1_4, .int .i64 a1_5, .slice A1_6 l1_6.length c1_6]) (t := 45) ?hr ?_; (case hd => rfl); (case hg => rfl); (case hr => first | (go_simp; done) | (go_simp; rfl)); intro gb325 hg w17 hbox hb; have n0_ := Aside0.mk (zt (by (with_reducible repeat (first | refine ze ?_ _ | refine zf ?_ | refine zc ?_ _)); exact BK324.out) hb); have n1_ := Aside0.mk (zj (by repeat (first | (with_reducible first | exact HB.out | apply z8 | apply z6 | apply z7 | refine zb ?_ GE324.out) | exact HB.out)) hb); have n2_ := Aside0.mk (hbox); have n3_ := Aside0.mk ((by rw [hg]; exact (zk (by repeat (first | (with_reducible first | exact HB.out | apply z8 | apply z6 | apply z7 | refine zb ?_ GE324.out) | exact HB.out))) : w.heap.size ≤ gb325)); have n4_ := Aside0.mk ((by rw [hg]; exact (zk (by repeat (first | (with_reducible first | exact HB.out | apply z8 | apply z6 | apply z7 | refine zb ?_ GE324.out) | exact HB.out))) : w.heap.size ≤ gb325)); have n5_ := Aside0.mk ((by rw [hg]; exact Nat.ne_of_lt (vo (g := gb324) (o := .cells #[.int .i64 a0_0, .int .i64 a0_1, .int .i64 a0_2, .int .i64 a0_3, .int .i64 a0_4, .int .i64 a0_5, .slice A0_6 l0_6.length c0_6] 45 (0, 0)) (by (with_reducible repeat (first | refine ze ?_ _ | refine zf ?_ | refine zc ?_ _)); exact BK324.out)) : gb324 ≠ gb325)); have n6_ := Aside0.mk ((by rw [hg]; exact Nat.ne_of_gt (vo (g := gb324) (o := .cells #[.int .i64 a0_0, .int .i64 a0_1, .int .i64 a0_2, .int .i64 a0_3, .int .i64 a0_4, .int .i64 a0_5, .slice A0_6 l0_6.length c0_6] 45 (0, 0)) (by (with_reducible repeat (first | refine ze ?_ _ | refine zf ?_ | refine zc ?_ _)); exact BK324.out)) : gb325 ≠ gb324)); clear BK324; clear HB; have BK324 := n0_; have HB := n1_; have BK325 := n2_; have GW325 := n3_; have GE325 := n4_; have NB324_325 := n5_; have NB325_324 := n6_; clear n0_ n1_ n2_ n3_ n4_ n5_ n6_; clear hb hbox hg; have hnb18 := NB324_325.out; have hnc18 := NB325_324.out; have hcz19_0 := ug BK324.out; have hfz19_0 := fun j_ => zi BK324.out j_; have hcz20_0 := ug BK325.out; have hfz20_0 := fun j_ => zi BK325.out j_))
  go_ret
  exact ⟨by first | rfl | (simp [zm, zn] <;> rfl) | (simp [*, zm, zn] <;> rfl), by repeat (first | (with_reducible first | exact HB.out | apply z8 | apply z6 | apply z7 | refine zb ?_ GE324.out | refine zb ?_ GE325.out) | exact HB.out)⟩
 rw [if_pos c8] at H
 have c8b0 : (a0_5 == a1_5) = true := beq_iff_eq.mpr c8
 have c8b1 : (a0_5 != a1_5) = false := bne_eq_false_iff_eq.mpr c8
 clear c8
 replace H := Option.bind_eq_some_iff.mp H
 obtain ⟨t326, A90, H⟩ := H
 replace H : (some t326) = some r := H
 have A9 := Aside0.mk A90
 clear A90
 obtain rfl := Option.some.inj H
 go_enter Try.func13, Try.ntmps13
 go_wp2_with (first | ((with_reducible refine yf (N := 2) rfl ?_); refine yd ?hg (N := 2) ?hd (cs := #[.int .i64 a0_0, .int .i64 a0_1, .int .i64 a0_2, .int .i64 a0_3, .int .i64 a0_4, .int .i64 a0_5, .slice A0_6 l0_6.length c0_6]) (t := 45) ?hr ?_; (case hd => rfl); (case hg => rfl); (case hr => first | (go_simp; done) | (go_simp; rfl)); intro gb324 hg w10 hbox hb; have n0_ := Aside0.mk (zj (by repeat (first | (with_reducible first | exact HB.out | apply z8 | apply z6 | apply z7) | exact HB.out)) hb); have n1_ := Aside0.mk (hbox); have n2_ := Aside0.mk ((by rw [hg]; exact (zk (by repeat (first | (with_reducible first | exact HB.out | apply z8 | apply z6 | apply z7) | exact HB.out))) : w.heap.size ≤ gb324)); have n3_ := Aside0.mk ((by rw [hg]; exact (zk (by repeat (first | (with_reducible first | exact HB.out | apply z8 | apply z6 | apply z7) | exact HB.out))) : w.heap.size ≤ gb324)); clear HB; have HB := n0_; have BK324 := n1_; have GW324 := n2_; have GE324 := n3_; clear n0_ n1_ n2_ n3_; clear hb hbox hg) | ((with_reducible refine yf (N := 3) rfl ?_); refine yd ?hg (N := 3) ?hd (cs := #[.int .i64 a1_0, .int .i64 a1_1, .int .i64 a1_2, .int .i64 a1_3, .int .i64 a1_4, .int .i64 a1_5, .slice A1_6 l1_6.length c1_6]) (t := 45) ?hr ?_; (case hd => rfl); (case hg => rfl); (case hr => first | (go_simp; done) | (go_simp; rfl)); intro gb325 hg w11 hbox hb; have n0_ := Aside0.mk (zt (by (with_reducible repeat (first | refine ze ?_ _ | refine zf ?_ | refine zc ?_ _)); exact BK324.out) hb); have n1_ := Aside0.mk (zj (by repeat (first | (with_reducible first | exact HB.out | apply z8 | apply z6 | apply z7 | refine zb ?_ GE324.out) | exact HB.out)) hb); have n2_ := Aside0.mk (hbox); have n3_ := Aside0.mk ((by rw [hg]; exact (zk (by repeat (first | (with_reducible first | exact HB.out | apply z8 | apply z6 | apply z7 | refine zb ?_ GE324.out) | exact HB.out))) : w.heap.size ≤ gb325)); have n4_ := Aside0.mk ((by rw [hg]; exact (zk (by repeat (first | (with_reducible first | exact HB.out | apply z8 | apply z6 | apply z7 | refine zb ?_ GE324.out) | exact HB.out))) : w.heap.size ≤ gb325)); have n5_ := Aside0.mk ((by rw [hg]; exact Nat.ne_of_lt (vo (g := gb324) (o := .cells #[.int .i64 a0_0, .int .i64 a0_1, .int .i64 a0_2, .int .i64 a0_3, .int .i64 a0_4, .int .i64 a0_5, .slice A0_6 l0_6.length c0_6] 45 (0, 0)) (by (with_reducible repeat (first | refine ze ?_ _ | refine zf ?_ | refine zc ?_ _)); exact BK324.out)) : gb324 ≠ gb325)); have n6_ := Aside0.mk ((by rw [hg]; exact Nat.ne_of_gt (vo (g := gb324) (o := .cells #[.int .i64 a0_0, .int .i64 a0_1, .int .i64 a0_2, .int .i64 a0_3, .int .i64 a0_4, .int .i64 a0_5, .slice A0_6 l0_6.length c0_6] 45 (0, 0)) (by (with_reducible repeat (first | refine ze ?_ _ | refine zf ?_ | refine zc ?_ _)); exact BK324.out)) : gb325 ≠ gb324)); clear BK324; clear HB; have BK324 := n0_; have HB := n1_; have BK325 := n2_; have GW325 := n3_; have GE325 := n4_; have NB324_325 := n5_; have NB325_324 := n6_; clear n0_ n1_ n2_ n3_ n4_ n5_ n6_; clear hb hbox hg; have hnb12 := NB324_325.out; have hnc12 := NB325_324.out; have hcz13_0 := ug BK324.out; have hfz13_0 := fun j_ => zi BK324.out j_; have hcz14_0 := ug BK325.out; have hfz14_0 := fun j_ => zi BK325.out j_) | (go_at_call 45; (with_reducible refine (ye.calls k _ _ l0_6 _ _ l1_6 t326 _ ?side1 ?side2 ?side3 ?side4 A9.out).mono ?_); (case side1 => repeat (first | exact (Kd.yt HR0_6.out HB.out) | (with_reducible refine Kd.yo ?_ _) | (with_reducible refine Kd.yp ?_ _) | (with_reducible refine Kd.yy ?_))); (case side2 => exact HC0_6.out); (case side3 => repeat (first | exact (Kd.yt HR1_6.out HB.out) | (with_reducible refine Kd.yo ?_ _) | (with_reducible refine Kd.yp ?_ _) | (with_reducible refine Kd.yy ?_))); (case side4 => exact HC1_6.out); rintro e w15 ⟨rfl, hb⟩; have n0_ := Aside0.mk (zt (by (with_reducible repeat (first | refine ze ?_ _ | refine zf ?_ | refine zc ?_ _)); exact BK324.out) hb); have n1_ := Aside0.mk (zt (by (with_reducible repeat (first | refine ze ?_ _ | refine zf ?_ | refine zc ?_ _)); exact BK325.out) hb); have n2_ := Aside0.mk (zj (by repeat (first | (with_reducible first | exact HB.out | apply z8 | apply z6 | apply z7 | refine zb ?_ GE324.out | refine zb ?_ GE325.out) | exact HB.out)) hb); clear BK324; clear BK325; clear HB; have BK324 := n0_; have BK325 := n1_; have HB := n2_; clear n0_ n1_ n2_; (try clear hb); (try clear hb2); (try clear hk); (try clear hi)))
 go_ret
 exact ⟨by first | rfl | (simp [zm, zn] <;> rfl) | (simp [*, zm, zn] <;> rfl), by repeat (first | (with_reducible first | exact HB.out | apply z8 | apply z6 | apply z7 | refine zb ?_ GE324.out | refine zb ?_ GE325.out) | exact HB.out)⟩
def gb.f (a0 : Int) : Option (Bool) := if a0 = 10 then (some true) else (if a0 ≥ 32 then (if a0 ≤ 55295 then (if a0 = 127 then (if a0 ≥ 57344 then (if a0 ≤ 1114111 then (some (a0 != 65533)) else (some false)) else (some false)) else (some true)) else (if a0 ≥ 57344 then (if a0 ≤ 1114111 then (some (a0 != 65533)) else (some false)) else (some false))) else (if a0 ≥ 57344 then (if a0 ≤ 1114111 then (some (a0 != 65533)) else (some false)) else (some false)))
set_option maxHeartbeats 8000000 in
set_option maxRecDepth 100000 in
theorem gb.calls (a0 : Int) (r : Bool) (w : World) (h : gb.f a0 = some r) :
  Calls Try.prog 14 #[.int .i32 a0] w fun e w' => e = .returned (.bool r) ∧ Drawn0 w w' := by
 have H : (if a0 = 10 then (some true) else (if a0 ≥ 32 then (if a0 ≤ 55295 then (if a0 = 127 then (if a0 ≥ 57344 then (if a0 ≤ 1114111 then (some (a0 != 65533)) else (some false)) else (some false)) else (some true)) else (if a0 ≥ 57344 then (if a0 ≤ 1114111 then (some (a0 != 65533)) else (some false)) else (some false))) else (if a0 ≥ 57344 then (if a0 ≤ 1114111 then (some (a0 != 65533)) else (some false)) else (some false)))) = some r := h
 clear h
 by_cases c2 : a0 = 10
 ·
  rw [if_pos c2] at H
  have c2b0 : (a0 == 10) = true := beq_iff_eq.mpr c2
  have c2b1 : (a0 != 10) = false := bne_eq_false_iff_eq.mpr c2
  clear c2
  obtain rfl := Option.some.inj H
  go_enter Try.func14, Try.ntmps14
  go_wp2
  go_ret
  exact ⟨by first | rfl | (simp; done) | (simp [*]; done), by repeat (first | exact Drawn0.refl _ | apply Drawn0.step)⟩
 rw [if_neg c2] at H
 have c2b0 : (a0 == 10) = false := beq_eq_false_iff_ne.mpr c2
 have c2b1 : (a0 != 10) = true := bne_iff_ne.mpr c2
 by_cases c3 : a0 ≥ 32
 rotate_left
 ·
  rw [if_neg c3] at H
  have c3b0 : decide (32 ≤ a0) = false := decide_eq_false c3
  clear c3
  by_cases c10 : a0 ≥ 57344
  rotate_left
  ·
   rw [if_neg c10] at H
   have c10b0 : decide (57344 ≤ a0) = false := decide_eq_false c10
   clear c10
   obtain rfl := Option.some.inj H
   go_enter Try.func14, Try.ntmps14
   go_wp2
   go_ret
   exact ⟨by first | rfl | (simp; done) | (simp [*]; done), by repeat (first | exact Drawn0.refl _ | apply Drawn0.step)⟩
  rw [if_pos c10] at H
  have c10b0 : decide (57344 ≤ a0) = true := decide_eq_true c10
  clear c10
  by_cases c11 : a0 ≤ 1114111
  ·
   rw [if_pos c11] at H
   have c11b0 : decide (a0 ≤ 1114111) = true := decide_eq_true c11
   clear c11
   obtain rfl := Option.some.inj H
   go_enter Try.func14, Try.ntmps14
   go_wp2
   go_ret
   exact ⟨by first | rfl | (simp; done) | (simp [*]; done), by repeat (first | exact Drawn0.refl _ | apply Drawn0.step)⟩
  rw [if_neg c11] at H
  have c11b0 : decide (a0 ≤ 1114111) = false := decide_eq_false c11
  clear c11
  obtain rfl := Option.some.inj H
  go_enter Try.func14, Try.ntmps14
  go_wp2
  go_ret
  exact ⟨by first | rfl | (simp; done) | (simp [*]; done), by repeat (first | exact Drawn0.refl _ | apply Drawn0.step)⟩
 rw [if_pos c3] at H
 have c3b0 : decide (32 ≤ a0) = true := decide_eq_true c3
 clear c3
 by_cases c4 : a0 ≤ 55295
 rotate_left
 ·
  rw [if_neg c4] at H
  have c4b0 : decide (a0 ≤ 55295) = false := decide_eq_false c4
  clear c4
  by_cases c8 : a0 ≥ 57344
  rotate_left
  ·
   rw [if_neg c8] at H
   have c8b0 : decide (57344 ≤ a0) = false := decide_eq_false c8
   clear c8
   obtain rfl := Option.some.inj H
   go_enter Try.func14, Try.ntmps14
   go_wp2
   go_ret
   exact ⟨by first | rfl | (simp; done) | (simp [*]; done), by repeat (first | exact Drawn0.refl _ | apply Drawn0.step)⟩
  rw [if_pos c8] at H
  have c8b0 : decide (57344 ≤ a0) = true := decide_eq_true c8
  clear c8
  by_cases c9 : a0 ≤ 1114111
  ·
   rw [if_pos c9] at H
   have c9b0 : decide (a0 ≤ 1114111) = true := decide_eq_true c9
   clear c9
   obtain rfl := Option.some.inj H
   go_enter Try.func14, Try.ntmps14
   go_wp2
   go_ret
   exact ⟨by first | rfl | (simp; done) | (simp [*]; done), by repeat (first | exact Drawn0.refl _ | apply Drawn0.step)⟩
  rw [if_neg c9] at H
  have c9b0 : decide (a0 ≤ 1114111) = false := decide_eq_false c9
  clear c9
  obtain rfl := Option.some.inj H
  go_enter Try.func14, Try.ntmps14
  go_wp2
  go_ret
  exact ⟨by first | rfl | (simp; done) | (simp [*]; done), by repeat (first | exact Drawn0.refl _ | apply Drawn0.step)⟩
 rw [if_pos c4] at H
 have c4b0 : decide (a0 ≤ 55295) = true := decide_eq_true c4
 clear c4
 by_cases c5 : a0 = 127
 rotate_left
 ·
  rw [if_neg c5] at H
  have c5b0 : (a0 == 127) = false := beq_eq_false_iff_ne.mpr c5
  have c5b1 : (a0 != 127) = true := bne_iff_ne.mpr c5
  obtain rfl := Option.some.inj H
  go_enter Try.func14, Try.ntmps14
  go_wp2
  go_ret
  exact ⟨by first | rfl | (simp; done) | (simp [*]; done), by repeat (first | exact Drawn0.refl _ | apply Drawn0.step)⟩
 rw [if_pos c5] at H
 have c5b0 : (a0 == 127) = true := beq_iff_eq.mpr c5
 have c5b1 : (a0 != 127) = false := bne_eq_false_iff_eq.mpr c5
 clear c5
 by_cases c6 : a0 ≥ 57344
 rotate_left
 ·
  rw [if_neg c6] at H
  have c6b0 : decide (57344 ≤ a0) = false := decide_eq_false c6
  clear c6
  obtain rfl := Option.some.inj H
  go_enter Try.func14, Try.ntmps14
  go_wp2
  go_ret
  exact ⟨by first | rfl | (simp; done) | (simp [*]; done), by repeat (first | exact Drawn0.refl _ | apply Drawn0.step)⟩
 rw [if_pos c6] at H
 have c6b0 : decide (57344 ≤ a0) = true := decide_eq_true c6
 clear c6
 by_cases c7 : a0 ≤ 1114111
 ·
  rw [if_pos c7] at H
  have c7b0 : decide (a0 ≤ 1114111) = true := decide_eq_true c7
  clear c7
  obtain rfl := Option.some.inj H
  go_enter Try.func14, Try.ntmps14
  go_wp2
  go_ret
  exact ⟨by first | rfl | (simp; done) | (simp [*]; done), by repeat (first | exact Drawn0.refl _ | apply Drawn0.step)⟩
 rw [if_neg c7] at H
 have c7b0 : decide (a0 ≤ 1114111) = false := decide_eq_false c7
 clear c7
 obtain rfl := Option.some.inj H
 go_enter Try.func14, Try.ntmps14
 go_wp2
 go_ret
 exact ⟨by first | rfl | (simp; done) | (simp [*]; done), by repeat (first | exact Drawn0.refl _ | apply Drawn0.step)⟩
def vm.f (k : Nat)  : Option (Bool) := (uj.f k 1 0 5 0 0 0 ([] : List (S38))).bind fun bt327 => ((ym.f k bt327.1).bind fun bt329 => ((zy.f bt327.2).bind fun t340 => (if t340 = 0 then ((zy.f bt329.2.2.2.2.2.2.2).bind fun t341 => (if t341 = 0 then (if (bt327.1.size : Int) = 7 then (some (bt329.2.2.1 == 5)) else (some false)) else (some false))) else (some false))))
theorem vm.mono : ∀ k, LeO (vm.f k ) (vm.f (k + 1) ) := by
  intro  k
  unfold vm.f
  repeat' first
      | (with_reducible exact uj.mono _ _ _ _ _ _ _ _)
      | (with_reducible exact ym.mono _ _)
      | (with_reducible exact LeO.refl _)
      | (with_reducible exact LeO.none _)
      | (with_reducible refine LeO.ite ?_ ?_)
      | (with_reducible refine LeO.bind ?_ (fun _ => ?_))
      | exact uj.mono _ _ _ _ _ _ _ _
      | exact ym.mono _ _
      | exact LeO.none _
      | refine LeO.ite ?_ ?_
      | refine LeO.bind ?_ (fun _ => ?_)
set_option maxHeartbeats 8000000 in
set_option maxRecDepth 100000 in
theorem vm.calls (k : Nat)  (r : Bool) (w : World) (h : vm.f k  = some r) :
  Calls Try.prog 15 #[] w fun e w' => e = .returned (.bool r) ∧ Below w.heap.size w w' := by
 have hu45 := Try.underlying45
 have HB := Aside0.mk (Below.refl w.heap.size w)
 have H : ((uj.f k 1 0 5 0 0 0 ([] : List (S38))).bind fun bt327 => ((ym.f k bt327.1).bind fun bt329 => ((zy.f bt327.2).bind fun t340 => (if t340 = 0 then ((zy.f bt329.2.2.2.2.2.2.2).bind fun t341 => (if t341 = 0 then (if (bt327.1.size : Int) = 7 then (some (bt329.2.2.1 == 5)) else (some false)) else (some false))) else (some false))))) = some r := h
 clear h
 replace H := Option.bind_eq_some_iff.mp H
 obtain ⟨⟨t327, t328⟩, A10, H⟩ := H
 replace H : ((ym.f k t327).bind fun bt329 => ((zy.f t328).bind fun t340 => (if t340 = 0 then ((zy.f bt329.2.2.2.2.2.2.2).bind fun t341 => (if t341 = 0 then (if (t327.size : Int) = 7 then (some (bt329.2.2.1 == 5)) else (some false)) else (some false))) else (some false)))) = some r := H
 have A1 := Aside0.mk A10
 clear A10
 replace H := Option.bind_eq_some_iff.mp H
 obtain ⟨⟨t329, t330, t331, t332, t333, t334, t335, t338⟩, A20, H⟩ := H
 replace H : ((zy.f t328).bind fun t340 => (if t340 = 0 then ((zy.f t338).bind fun t341 => (if t341 = 0 then (if (t327.size : Int) = 7 then (some (t331 == 5)) else (some false)) else (some false))) else (some false))) = some r := H
 have A2 := Aside0.mk A20
 clear A20
 replace H := Option.bind_eq_some_iff.mp H
 obtain ⟨t340, A30, H⟩ := H
 replace H : (if t340 = 0 then ((zy.f t338).bind fun t341 => (if t341 = 0 then (if (t327.size : Int) = 7 then (some (t331 == 5)) else (some false)) else (some false))) else (some false)) = some r := H
 have A3 := Aside0.mk A30
 clear A30
 by_cases c4 : t340 = 0
 rotate_left
 ·
  rw [if_neg c4] at H
  have c4b0 : (t340 == 0) = false := beq_eq_false_iff_ne.mpr c4
  have c4b1 : (t340 != 0) = true := bne_iff_ne.mpr c4
  obtain rfl := Option.some.inj H
  go_enter Try.func15, Try.ntmps15
  go_wp2_with (first | ((with_reducible refine zu (f := 11) rfl ?_); refine yn (some 7) rfl rfl Try.func11 (by kernel_rfl) rfl #[.agg #[.int .i64 1, .int .i64 0, .int .i64 5, .int .i64 0, .int .i64 0, .int .i64 0, .slice none 0 0]] rfl (by (try simp only [List.map_toArray, List.map_cons, List.map_nil]); first | done | rfl | (simp only [List.length_drop, List.length_take]; rfl)) ?_; (refine (uj.calls k 1 0 5 0 0 0 _ _ ([] : List (S38)) t327 t328 _ ?side1 ?side2 A1.out).mono ?_); (case side1 => exact Kd.z3d _ _); (case side2 => exact Nat.le_refl _); rintro e w23 ⟨rfl, hb⟩; refine ⟨_, rfl, ?_⟩; have n0_ := Aside0.mk (zj (by repeat (first | (with_reducible first | exact HB.out | apply z8 | apply z6 | apply z7) | exact HB.out)) hb); clear HB; have HB := n0_; clear n0_; (try clear hb); (try clear hb2); (try clear hk); (try clear hi)) | ((with_reducible refine zu (f := 12) rfl ?_); refine yn (some 12) rfl rfl Try.func12 (by kernel_rfl) rfl #[.string t327] rfl (by (try simp only [List.map_toArray, List.map_cons, List.map_nil]); first | done | rfl | (simp only [List.length_drop, List.length_take]; rfl)) ?_; (with_reducible refine (ym.calls k t327 t329 t330 t331 t332 t333 t334 t335 t338 _ A2.out).mono ?_); rintro e w24 ⟨v336, rfl, ho0, hb⟩; refine ⟨_, rfl, ?_⟩; have n0_ := Aside0.mk (Kd.z1f ho0 (zk (by repeat (first | (with_reducible first | exact HB.out | apply z8 | apply z6 | apply z7) | exact HB.out)))); have n1_ := Aside0.mk (zj (by repeat (first | (with_reducible first | exact HB.out | apply z8 | apply z6 | apply z7) | exact HB.out)) hb); clear HB; have HO337 := n0_; have HB := n1_; clear n0_ n1_; (try clear hb); (try clear hb2); (try clear hk); (try clear hi); (try clear ho0)) | ((with_reducible refine yf (N := 3) rfl ?_); (try (refine j7 (by rfl) ?_; dsimp only)); refine yd ?hg (N := 3) ?hd (cs := #[.int .i64 0, .int .i64 0, .int .i64 0, .int .i64 0, .int .i64 0, .int .i64 0, .slice none 0 0]) (t := 45) ?hr ?_; (case hd => rfl); (case hg => rfl); (case hr => first | (go_simp; done) | (go_simp; rfl)); intro gb339 hg w25 hbox hb; have n0_ := Aside0.mk (Kd.z02 (by (with_reducible repeat (first | apply Kd.jw | apply Kd.jx | apply Kd.jy)); exact HO337.out) hb); have n1_ := Aside0.mk (zj (by repeat (first | (with_reducible first | exact HB.out | apply z8 | apply z6 | apply z7) | exact HB.out)) hb); have n2_ := Aside0.mk (hbox); have n3_ := Aside0.mk ((by rw [hg]; exact (zk (by repeat (first | (with_reducible first | exact HB.out | apply z8 | apply z6 | apply z7) | exact HB.out))) : w.heap.size ≤ gb339)); have n4_ := Aside0.mk ((by rw [hg]; exact (zk (by repeat (first | (with_reducible first | exact HB.out | apply z8 | apply z6 | apply z7) | exact HB.out))) : w.heap.size ≤ gb339)); clear HO337; clear HB; have HO337 := n0_; have HB := n1_; have BK339 := n2_; have GW339 := n3_; have GE339 := n4_; clear n0_ n1_ n2_ n3_ n4_; clear hb hbox hg; have hcz26_0 := ug BK339.out; have hfz26_0 := fun j_ => zi BK339.out j_; obtain ⟨Ao27, co27, eo27⟩ := Kd.z0n HO337.out; subst eo27) | ((with_reducible refine zu (f := 8) rfl ?_); refine yn (some 16) rfl rfl Try.func8 (by kernel_rfl) rfl #[.int .i64 t328] rfl (by (try simp only [List.map_toArray, List.map_cons, List.map_nil]); first | done | rfl | (simp only [List.length_drop, List.length_take]; rfl)) ?_; (with_reducible refine (zy.calls t328 t340 _ A3.out).mono ?_); rintro e w' ⟨rfl, ⟨nd, rfl⟩⟩; refine ⟨_, rfl, ?_⟩))
  go_ret
  exact ⟨by first | rfl | (simp [zm, zn] <;> rfl) | (simp [*, zm, zn] <;> rfl), by repeat (first | (with_reducible first | exact HB.out | apply z8 | apply z6 | apply z7 | refine zb ?_ GE339.out) | exact HB.out)⟩
 rw [if_pos c4] at H
 have c4b0 : (t340 == 0) = true := beq_iff_eq.mpr c4
 have c4b1 : (t340 != 0) = false := bne_eq_false_iff_eq.mpr c4
 clear c4
 replace H := Option.bind_eq_some_iff.mp H
 obtain ⟨t341, A50, H⟩ := H
 replace H : (if t341 = 0 then (if (t327.size : Int) = 7 then (some (t331 == 5)) else (some false)) else (some false)) = some r := H
 have A5 := Aside0.mk A50
 clear A50
 by_cases c6 : t341 = 0
 rotate_left
 ·
  rw [if_neg c6] at H
  have c6b0 : (t341 == 0) = false := beq_eq_false_iff_ne.mpr c6
  have c6b1 : (t341 != 0) = true := bne_iff_ne.mpr c6
  obtain rfl := Option.some.inj H
  go_enter Try.func15, Try.ntmps15
  go_wp2_with (first | ((with_reducible refine zu (f := 11) rfl ?_); refine yn (some 7) rfl rfl Try.func11 (by kernel_rfl) rfl #[.agg #[.int .i64 1, .int .i64 0, .int .i64 5, .int .i64 0, .int .i64 0, .int .i64 0, .slice none 0 0]] rfl (by (try simp only [List.map_toArray, List.map_cons, List.map_nil]); first | done | rfl | (simp only [List.length_drop, List.length_take]; rfl)) ?_; (refine (uj.calls k 1 0 5 0 0 0 _ _ ([] : List (S38)) t327 t328 _ ?side1 ?side2 A1.out).mono ?_); (case side1 => exact Kd.z3d _ _); (case side2 => exact Nat.le_refl _); rintro e w18 ⟨rfl, hb⟩; refine ⟨_, rfl, ?_⟩; have n0_ := Aside0.mk (zj (by repeat (first | (with_reducible first | exact HB.out | apply z8 | apply z6 | apply z7) | exact HB.out)) hb); clear HB; have HB := n0_; clear n0_; (try clear hb); (try clear hb2); (try clear hk); (try clear hi)) | ((with_reducible refine zu (f := 12) rfl ?_); refine yn (some 12) rfl rfl Try.func12 (by kernel_rfl) rfl #[.string t327] rfl (by (try simp only [List.map_toArray, List.map_cons, List.map_nil]); first | done | rfl | (simp only [List.length_drop, List.length_take]; rfl)) ?_; (with_reducible refine (ym.calls k t327 t329 t330 t331 t332 t333 t334 t335 t338 _ A2.out).mono ?_); rintro e w19 ⟨v336, rfl, ho0, hb⟩; refine ⟨_, rfl, ?_⟩; have n0_ := Aside0.mk (Kd.z1f ho0 (zk (by repeat (first | (with_reducible first | exact HB.out | apply z8 | apply z6 | apply z7) | exact HB.out)))); have n1_ := Aside0.mk (zj (by repeat (first | (with_reducible first | exact HB.out | apply z8 | apply z6 | apply z7) | exact HB.out)) hb); clear HB; have HO337 := n0_; have HB := n1_; clear n0_ n1_; (try clear hb); (try clear hb2); (try clear hk); (try clear hi); (try clear ho0)) | ((with_reducible refine yf (N := 3) rfl ?_); (try (refine j7 (by rfl) ?_; dsimp only)); refine yd ?hg (N := 3) ?hd (cs := #[.int .i64 0, .int .i64 0, .int .i64 0, .int .i64 0, .int .i64 0, .int .i64 0, .slice none 0 0]) (t := 45) ?hr ?_; (case hd => rfl); (case hg => rfl); (case hr => first | (go_simp; done) | (go_simp; rfl)); intro gb339 hg w20 hbox hb; have n0_ := Aside0.mk (Kd.z02 (by (with_reducible repeat (first | apply Kd.jw | apply Kd.jx | apply Kd.jy)); exact HO337.out) hb); have n1_ := Aside0.mk (zj (by repeat (first | (with_reducible first | exact HB.out | apply z8 | apply z6 | apply z7) | exact HB.out)) hb); have n2_ := Aside0.mk (hbox); have n3_ := Aside0.mk ((by rw [hg]; exact (zk (by repeat (first | (with_reducible first | exact HB.out | apply z8 | apply z6 | apply z7) | exact HB.out))) : w.heap.size ≤ gb339)); have n4_ := Aside0.mk ((by rw [hg]; exact (zk (by repeat (first | (with_reducible first | exact HB.out | apply z8 | apply z6 | apply z7) | exact HB.out))) : w.heap.size ≤ gb339)); clear HO337; clear HB; have HO337 := n0_; have HB := n1_; have BK339 := n2_; have GW339 := n3_; have GE339 := n4_; clear n0_ n1_ n2_ n3_ n4_; clear hb hbox hg; have hcz21_0 := ug BK339.out; have hfz21_0 := fun j_ => zi BK339.out j_; obtain ⟨Ao22, co22, eo22⟩ := Kd.z0n HO337.out; subst eo22) | ((with_reducible refine zu (f := 8) rfl ?_); refine yn (some 16) rfl rfl Try.func8 (by kernel_rfl) rfl #[.int .i64 t328] rfl (by (try simp only [List.map_toArray, List.map_cons, List.map_nil]); first | done | rfl | (simp only [List.length_drop, List.length_take]; rfl)) ?_; (with_reducible refine (zy.calls t328 t340 _ A3.out).mono ?_); rintro e w' ⟨rfl, ⟨nd, rfl⟩⟩; refine ⟨_, rfl, ?_⟩) | (go_at_call 8; (with_reducible refine (zy.calls t338 t341 _ A5.out).mono ?_); rintro e w' ⟨rfl, ⟨nd, rfl⟩⟩))
  go_ret
  exact ⟨by first | rfl | (simp [zm, zn] <;> rfl) | (simp [*, zm, zn] <;> rfl), by repeat (first | (with_reducible first | exact HB.out | apply z8 | apply z6 | apply z7 | refine zb ?_ GE339.out) | exact HB.out)⟩
 rw [if_pos c6] at H
 have c6b0 : (t341 == 0) = true := beq_iff_eq.mpr c6
 have c6b1 : (t341 != 0) = false := bne_eq_false_iff_eq.mpr c6
 clear c6
 by_cases c7 : (t327.size : Int) = 7
 rotate_left
 ·
  rw [if_neg c7] at H
  have c7b0 : ((t327.size : Int) == 7) = false := beq_eq_false_iff_ne.mpr c7
  have c7b1 : ((t327.size : Int) != 7) = true := bne_iff_ne.mpr c7
  obtain rfl := Option.some.inj H
  go_enter Try.func15, Try.ntmps15
  go_wp2_with (first | ((with_reducible refine zu (f := 11) rfl ?_); refine yn (some 7) rfl rfl Try.func11 (by kernel_rfl) rfl #[.agg #[.int .i64 1, .int .i64 0, .int .i64 5, .int .i64 0, .int .i64 0, .int .i64 0, .slice none 0 0]] rfl (by (try simp only [List.map_toArray, List.map_cons, List.map_nil]); first | done | rfl | (simp only [List.length_drop, List.length_take]; rfl)) ?_; (refine (uj.calls k 1 0 5 0 0 0 _ _ ([] : List (S38)) t327 t328 _ ?side1 ?side2 A1.out).mono ?_); (case side1 => exact Kd.z3d _ _); (case side2 => exact Nat.le_refl _); rintro e w13 ⟨rfl, hb⟩; refine ⟨_, rfl, ?_⟩; have n0_ := Aside0.mk (zj (by repeat (first | (with_reducible first | exact HB.out | apply z8 | apply z6 | apply z7) | exact HB.out)) hb); clear HB; have HB := n0_; clear n0_; (try clear hb); (try clear hb2); (try clear hk); (try clear hi)) | ((with_reducible refine zu (f := 12) rfl ?_); refine yn (some 12) rfl rfl Try.func12 (by kernel_rfl) rfl #[.string t327] rfl (by (try simp only [List.map_toArray, List.map_cons, List.map_nil]); first | done | rfl | (simp only [List.length_drop, List.length_take]; rfl)) ?_; (with_reducible refine (ym.calls k t327 t329 t330 t331 t332 t333 t334 t335 t338 _ A2.out).mono ?_); rintro e w14 ⟨v336, rfl, ho0, hb⟩; refine ⟨_, rfl, ?_⟩; have n0_ := Aside0.mk (Kd.z1f ho0 (zk (by repeat (first | (with_reducible first | exact HB.out | apply z8 | apply z6 | apply z7) | exact HB.out)))); have n1_ := Aside0.mk (zj (by repeat (first | (with_reducible first | exact HB.out | apply z8 | apply z6 | apply z7) | exact HB.out)) hb); clear HB; have HO337 := n0_; have HB := n1_; clear n0_ n1_; (try clear hb); (try clear hb2); (try clear hk); (try clear hi); (try clear ho0)) | ((with_reducible refine yf (N := 3) rfl ?_); (try (refine j7 (by rfl) ?_; dsimp only)); refine yd ?hg (N := 3) ?hd (cs := #[.int .i64 0, .int .i64 0, .int .i64 0, .int .i64 0, .int .i64 0, .int .i64 0, .slice none 0 0]) (t := 45) ?hr ?_; (case hd => rfl); (case hg => rfl); (case hr => first | (go_simp; done) | (go_simp; rfl)); intro gb339 hg w15 hbox hb; have n0_ := Aside0.mk (Kd.z02 (by (with_reducible repeat (first | apply Kd.jw | apply Kd.jx | apply Kd.jy)); exact HO337.out) hb); have n1_ := Aside0.mk (zj (by repeat (first | (with_reducible first | exact HB.out | apply z8 | apply z6 | apply z7) | exact HB.out)) hb); have n2_ := Aside0.mk (hbox); have n3_ := Aside0.mk ((by rw [hg]; exact (zk (by repeat (first | (with_reducible first | exact HB.out | apply z8 | apply z6 | apply z7) | exact HB.out))) : w.heap.size ≤ gb339)); have n4_ := Aside0.mk ((by rw [hg]; exact (zk (by repeat (first | (with_reducible first | exact HB.out | apply z8 | apply z6 | apply z7) | exact HB.out))) : w.heap.size ≤ gb339)); clear HO337; clear HB; have HO337 := n0_; have HB := n1_; have BK339 := n2_; have GW339 := n3_; have GE339 := n4_; clear n0_ n1_ n2_ n3_ n4_; clear hb hbox hg; have hcz16_0 := ug BK339.out; have hfz16_0 := fun j_ => zi BK339.out j_; obtain ⟨Ao17, co17, eo17⟩ := Kd.z0n HO337.out; subst eo17) | ((with_reducible refine zu (f := 8) rfl ?_); refine yn (some 16) rfl rfl Try.func8 (by kernel_rfl) rfl #[.int .i64 t328] rfl (by (try simp only [List.map_toArray, List.map_cons, List.map_nil]); first | done | rfl | (simp only [List.length_drop, List.length_take]; rfl)) ?_; (with_reducible refine (zy.calls t328 t340 _ A3.out).mono ?_); rintro e w' ⟨rfl, ⟨nd, rfl⟩⟩; refine ⟨_, rfl, ?_⟩) | (go_at_call 8; (with_reducible refine (zy.calls t338 t341 _ A5.out).mono ?_); rintro e w' ⟨rfl, ⟨nd, rfl⟩⟩))
  go_ret
  exact ⟨by first | rfl | (simp [zm, zn] <;> rfl) | (simp [*, zm, zn] <;> rfl), by repeat (first | (with_reducible first | exact HB.out | apply z8 | apply z6 | apply z7 | refine zb ?_ GE339.out) | exact HB.out)⟩
 rw [if_pos c7] at H
 have c7b0 : ((t327.size : Int) == 7) = true := beq_iff_eq.mpr c7
 have c7b1 : ((t327.size : Int) != 7) = false := bne_eq_false_iff_eq.mpr c7
 clear c7
 obtain rfl := Option.some.inj H
 go_enter Try.func15, Try.ntmps15
 go_wp2_with (first | ((with_reducible refine zu (f := 11) rfl ?_); refine yn (some 7) rfl rfl Try.func11 (by kernel_rfl) rfl #[.agg #[.int .i64 1, .int .i64 0, .int .i64 5, .int .i64 0, .int .i64 0, .int .i64 0, .slice none 0 0]] rfl (by (try simp only [List.map_toArray, List.map_cons, List.map_nil]); first | done | rfl | (simp only [List.length_drop, List.length_take]; rfl)) ?_; (refine (uj.calls k 1 0 5 0 0 0 _ _ ([] : List (S38)) t327 t328 _ ?side1 ?side2 A1.out).mono ?_); (case side1 => exact Kd.z3d _ _); (case side2 => exact Nat.le_refl _); rintro e w8 ⟨rfl, hb⟩; refine ⟨_, rfl, ?_⟩; have n0_ := Aside0.mk (zj (by repeat (first | (with_reducible first | exact HB.out | apply z8 | apply z6 | apply z7) | exact HB.out)) hb); clear HB; have HB := n0_; clear n0_; (try clear hb); (try clear hb2); (try clear hk); (try clear hi)) | ((with_reducible refine zu (f := 12) rfl ?_); refine yn (some 12) rfl rfl Try.func12 (by kernel_rfl) rfl #[.string t327] rfl (by (try simp only [List.map_toArray, List.map_cons, List.map_nil]); first | done | rfl | (simp only [List.length_drop, List.length_take]; rfl)) ?_; (with_reducible refine (ym.calls k t327 t329 t330 t331 t332 t333 t334 t335 t338 _ A2.out).mono ?_); rintro e w9 ⟨v336, rfl, ho0, hb⟩; refine ⟨_, rfl, ?_⟩; have n0_ := Aside0.mk (Kd.z1f ho0 (zk (by repeat (first | (with_reducible first | exact HB.out | apply z8 | apply z6 | apply z7) | exact HB.out)))); have n1_ := Aside0.mk (zj (by repeat (first | (with_reducible first | exact HB.out | apply z8 | apply z6 | apply z7) | exact HB.out)) hb); clear HB; have HO337 := n0_; have HB := n1_; clear n0_ n1_; (try clear hb); (try clear hb2); (try clear hk); (try clear hi); (try clear ho0)) | ((with_reducible refine yf (N := 3) rfl ?_); (try (refine j7 (by rfl) ?_; dsimp only)); refine yd ?hg (N := 3) ?hd (cs := #[.int .i64 0, .int .i64 0, .int .i64 0, .int .i64 0, .int .i64 0, .int .i64 0, .slice none 0 0]) (t := 45) ?hr ?_; (case hd => rfl); (case hg => rfl); (case hr => first | (go_simp; done) | (go_simp; rfl)); intro gb339 hg w10 hbox hb; have n0_ := Aside0.mk (Kd.z02 (by (with_reducible repeat (first | apply Kd.jw | apply Kd.jx | apply Kd.jy)); exact HO337.out) hb); have n1_ := Aside0.mk (zj (by repeat (first | (with_reducible first | exact HB.out | apply z8 | apply z6 | apply z7) | exact HB.out)) hb); have n2_ := Aside0.mk (hbox); have n3_ := Aside0.mk ((by rw [hg]; exact (zk (by repeat (first | (with_reducible first | exact HB.out | apply z8 | apply z6 | apply z7) | exact HB.out))) : w.heap.size ≤ gb339)); have n4_ := Aside0.mk ((by rw [hg]; exact (zk (by repeat (first | (with_reducible first | exact HB.out | apply z8 | apply z6 | apply z7) | exact HB.out))) : w.heap.size ≤ gb339)); clear HO337; clear HB; have HO337 := n0_; have HB := n1_; have BK339 := n2_; have GW339 := n3_; have GE339 := n4_; clear n0_ n1_ n2_ n3_ n4_; clear hb hbox hg; have hcz11_0 := ug BK339.out; have hfz11_0 := fun j_ => zi BK339.out j_; obtain ⟨Ao12, co12, eo12⟩ := Kd.z0n HO337.out; subst eo12) | ((with_reducible refine zu (f := 8) rfl ?_); refine yn (some 16) rfl rfl Try.func8 (by kernel_rfl) rfl #[.int .i64 t328] rfl (by (try simp only [List.map_toArray, List.map_cons, List.map_nil]); first | done | rfl | (simp only [List.length_drop, List.length_take]; rfl)) ?_; (with_reducible refine (zy.calls t328 t340 _ A3.out).mono ?_); rintro e w' ⟨rfl, ⟨nd, rfl⟩⟩; refine ⟨_, rfl, ?_⟩) | (go_at_call 8; (with_reducible refine (zy.calls t338 t341 _ A5.out).mono ?_); rintro e w' ⟨rfl, ⟨nd, rfl⟩⟩))
 go_ret
 exact ⟨by first | rfl | (simp [zm, zn] <;> rfl) | (simp [*, zm, zn] <;> rfl), by repeat (first | (with_reducible first | exact HB.out | apply z8 | apply z6 | apply z7 | refine zb ?_ GE339.out) | exact HB.out)⟩
end Go.Proofs.Ytadfohbogoocgaa.PA
