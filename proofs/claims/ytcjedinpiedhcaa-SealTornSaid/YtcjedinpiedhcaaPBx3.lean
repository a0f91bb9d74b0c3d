-- Written by a program of this proof's author (wip/myprint.py, over the translation): group B.
import Derived.Test.YtcjedinpiedhcaaPBx0
import Derived.Test.YtcjedinpiedhcaaPBx1
import Derived.Test.YtcjedinpiedhcaaPBx2
namespace Go.Proofs.Ytcjedinpiedhcaa.PB
open Go.RowKit Go.Proofs.YtcjedinpiedhcaaW.PrintWords Go.Proofs.YtcjedinpiedhcaaW.PrintLast Go.Proofs.YtcjedinpiedhcaaW.PrintMore
attribute [local go_sem] max2_int min2_int max_two min_two max_three min_three max_four min_four   -- for this text's walks alone
set_option linter.unusedVariables false
set_option linter.unusedSimpArgs false

/-! ### lectionarylaw1_NumberEdges: function 3 -/
mutual
def lectionarylaw1_NumberEdges.l0 : Nat → Int → List Int → List ByteArray → Option (Bool)
  | 0, _, _, _ => none
  | k + 1, x3, x125000, x125001 => if x3 < 31 then (lectionarylaw1_NumberEdges.l1 k x3 (-1) x125000 x125001) else (if (x125000.length : Int) ≥ 0 then ((lectionarylaw1_wakes.f k).bind fun t125 => (some t125)) else (some false))
def lectionarylaw1_NumberEdges.l1 : Nat → Int → Int → List Int → List ByteArray → Option (Bool)
  | 0, _, _, _, _ => none
  | k + 1, x3, x4, x125000, x125001 => if x4 < 2 then (if 0 ≤ x3 then ((number_Put.f k (wrap64 ((shl .i64 1 x3) + x4))).bind fun bt126 => ((lectionaryref0_Num.f (wrap64 ((shl .i64 1 x3) + x4)) 268435456).bind fun t128 => ((lectionarylaw1_num.f bt126.2).bind fun t129 => (if (t128 != (t129 == 0)) = true then (lectionarylaw1_NumberEdges.j2 k x3 x4 bt126.1 true x125000 x125001) else ((lectionarylaw1_num.f bt126.2).bind fun t130 => (if t130 = 0 then ((lectionaryref1_Put.f k (wrap64 ((shl .i64 1 x3) + x4))).bind fun t131 => (lectionarylaw1_NumberEdges.j2 k x3 x4 bt126.1 (bt126.1.toList != t131.toList) x125000 x125001)) else (lectionarylaw1_NumberEdges.j2 k x3 x4 bt126.1 false x125000 x125001))))))) else (none)) else (lectionarylaw1_NumberEdges.l0 k (wrap64 (x3 + 1)) x125000 x125001)
def lectionarylaw1_NumberEdges.j2 : Nat → Int → Int → ByteArray → Bool → List Int → List ByteArray → Option (Bool)
  | 0, _, _, _, _, _, _ => none
  | k + 1, x3, x4, x6, x49, x125000, x125001 => if x49 = true then (some false) else (if x6.size + 1 ≤ 9223372036854775807 then (if 1 + x6.size ≤ 9223372036854775807 then (if x6.size + x6.size ≤ 9223372036854775807 then ((some (([x6, x6 ++ (⟨#[128]⟩ : ByteArray), (⟨#[128]⟩ : ByteArray) ++ x6, x6 ++ x6] : List ByteArray) : List ByteArray)).bind fun y132 => (if (x6.size : Int) > 0 then (if 0 ≤ (wrap64 ((x6.size : Int) - 1)) then (if (wrap64 ((x6.size : Int) - 1)) ≤ (x6.size : Int) then (if (x6.extract 0 ((wrap64 ((x6.size : Int) - 1)) : Int).toNat).size + 2 ≤ 9223372036854775807 then ((some (([x6.extract 0 ((wrap64 ((x6.size : Int) - 1)) : Int).toNat, (x6.extract 0 ((wrap64 ((x6.size : Int) - 1)) : Int).toNat) ++ (⟨#[128, 0]⟩ : ByteArray)] : List ByteArray) : List ByteArray)).bind fun y135 => (if y132.length + y135.length < 8796093022208 then (lectionarylaw1_NumberEdges.j3 k x3 x4 (y132 ++ y135) x125000 x125001) else (none))) else (none)) else (none)) else (none)) else (lectionarylaw1_NumberEdges.j3 k x3 x4 y132 x125000 x125001))) else (none)) else (none)) else (none))
def lectionarylaw1_NumberEdges.j3 : Nat → Int → Int → List ByteArray → List Int → List ByteArray → Option (Bool)
  | 0, _, _, _, _, _ => none
  | k + 1, x3, x4, x8, x125000, x125001 => lectionarylaw1_NumberEdges.l2 k x3 x4 x8 0 x125000 x125001
def lectionarylaw1_NumberEdges.l2 : Nat → Int → Int → List ByteArray → Int → List Int → List ByteArray → Option (Bool)
  | 0, _, _, _, _, _, _ => none
  | k + 1, x3, x4, x8, x9, x125000, x125001 => if x9 < (x8.length : Int) then (if 0 ≤ x9 then ((number_Take.f k (rdOf ByteArray.empty x8 x9)).bind fun bt142 => ((lectionaryref1_Take.f k (rdOf ByteArray.empty x8 x9)).bind fun bt146 => ((lectionarylaw1_num.f bt142.2.2).bind fun t149 => (if (bt146.2.2 != (t149 == 0)) = true then (some false) else (if bt142.1 = bt146.1 then (if bt142.2.1.toList = bt146.2.1.toList then (lectionarylaw1_NumberEdges.l2 k x3 x4 x8 (wrap64 (x9 + 1)) x125000 x125001) else (some false)) else (some false)))))) else (none)) else (lectionarylaw1_NumberEdges.l1 k x3 (wrap64 (x4 + 1)) x125000 x125001)
end
def lectionarylaw1_NumberEdges.f (k : Nat) (l0_0 : List Int) (l0_1 : List ByteArray) : Option (Bool) := lectionarylaw1_NumberEdges.l0 k 0 l0_0 l0_1
theorem lectionarylaw1_NumberEdges.mono_l : ∀ k, (∀ y0 y1 y2, LeO (lectionarylaw1_NumberEdges.l0 k y0 y1 y2) (lectionarylaw1_NumberEdges.l0 (k + 1) y0 y1 y2)) ∧ (∀ y0 y1 y2 y3, LeO (lectionarylaw1_NumberEdges.l1 k y0 y1 y2 y3) (lectionarylaw1_NumberEdges.l1 (k + 1) y0 y1 y2 y3)) ∧ (∀ y0 y1 y2 y3 y4 y5, LeO (lectionarylaw1_NumberEdges.j2 k y0 y1 y2 y3 y4 y5) (lectionarylaw1_NumberEdges.j2 (k + 1) y0 y1 y2 y3 y4 y5)) ∧ (∀ y0 y1 y2 y3 y4, LeO (lectionarylaw1_NumberEdges.j3 k y0 y1 y2 y3 y4) (lectionarylaw1_NumberEdges.j3 (k + 1) y0 y1 y2 y3 y4)) ∧ (∀ y0 y1 y2 y3 y4 y5, LeO (lectionarylaw1_NumberEdges.l2 k y0 y1 y2 y3 y4 y5) (lectionarylaw1_NumberEdges.l2 (k + 1) y0 y1 y2 y3 y4 y5))
  | 0 => ⟨fun _ _ _ r h => by simp [lectionarylaw1_NumberEdges.l0] at h, fun _ _ _ _ r h => by simp [lectionarylaw1_NumberEdges.l1] at h, fun _ _ _ _ _ _ r h => by simp [lectionarylaw1_NumberEdges.j2] at h, fun _ _ _ _ _ r h => by simp [lectionarylaw1_NumberEdges.j3] at h, fun _ _ _ _ _ _ r h => by simp [lectionarylaw1_NumberEdges.l2] at h⟩
  | k + 1 => by
    obtain ⟨ih0, ih1, ih2, ih3, ih4⟩ := lectionarylaw1_NumberEdges.mono_l k
    refine ⟨?_, ?_, ?_, ?_, ?_⟩
    · intro y0 y1 y2
      unfold lectionarylaw1_NumberEdges.l0
      repeat' first
      | (with_reducible exact ih0 _ _ _)
      | (with_reducible exact ih1 _ _ _ _)
      | (with_reducible exact ih2 _ _ _ _ _ _)
      | (with_reducible exact ih3 _ _ _ _ _)
      | (with_reducible exact ih4 _ _ _ _ _ _)
      | (with_reducible exact lectionarylaw1_wakes.mono _)
      | (with_reducible exact lectionaryref1_Put.mono _ _)
      | (with_reducible exact lectionaryref1_Take.mono _ _)
      | (with_reducible exact number_Put.mono _ _)
      | (with_reducible exact number_Take.mono _ _)
      | (with_reducible exact LeO.refl _)
      | (with_reducible exact LeO.none _)
      | (with_reducible refine LeO.ite ?_ ?_)
      | (with_reducible refine LeO.bind ?_ (fun _ => ?_))
      | exact ih0 _ _ _
      | exact ih1 _ _ _ _
      | exact ih2 _ _ _ _ _ _
      | exact ih3 _ _ _ _ _
      | exact ih4 _ _ _ _ _ _
      | exact lectionarylaw1_wakes.mono _
      | exact lectionaryref1_Put.mono _ _
      | exact lectionaryref1_Take.mono _ _
      | exact number_Put.mono _ _
      | exact number_Take.mono _ _
      | exact LeO.none _
      | refine LeO.ite ?_ ?_
      | refine LeO.bind ?_ (fun _ => ?_)
    · intro y0 y1 y2 y3
      unfold lectionarylaw1_NumberEdges.l1
      repeat' first
      | (with_reducible exact ih0 _ _ _)
      | (with_reducible exact ih1 _ _ _ _)
      | (with_reducible exact ih2 _ _ _ _ _ _)
      | (with_reducible exact ih3 _ _ _ _ _)
      | (with_reducible exact ih4 _ _ _ _ _ _)
      | (with_reducible exact lectionarylaw1_wakes.mono _)
      | (with_reducible exact lectionaryref1_Put.mono _ _)
      | (with_reducible exact lectionaryref1_Take.mono _ _)
      | (with_reducible exact number_Put.mono _ _)
      | (with_reducible exact number_Take.mono _ _)
      | (with_reducible exact LeO.refl _)
      | (with_reducible exact LeO.none _)
      | (with_reducible refine LeO.ite ?_ ?_)
      | (with_reducible refine LeO.bind ?_ (fun _ => ?_))
      | exact ih0 _ _ _
      | exact ih1 _ _ _ _
      | exact ih2 _ _ _ _ _ _
      | exact ih3 _ _ _ _ _
      | exact ih4 _ _ _ _ _ _
      | exact lectionarylaw1_wakes.mono _
      | exact lectionaryref1_Put.mono _ _
      | exact lectionaryref1_Take.mono _ _
      | exact number_Put.mono _ _
      | exact number_Take.mono _ _
      | exact LeO.none _
      | refine LeO.ite ?_ ?_
      | refine LeO.bind ?_ (fun _ => ?_)
    · intro y0 y1 y2 y3 y4 y5
      unfold lectionarylaw1_NumberEdges.j2
      repeat' first
      | (with_reducible exact ih0 _ _ _)
      | (with_reducible exact ih1 _ _ _ _)
      | (with_reducible exact ih2 _ _ _ _ _ _)
      | (with_reducible exact ih3 _ _ _ _ _)
      | (with_reducible exact ih4 _ _ _ _ _ _)
      | (with_reducible exact lectionarylaw1_wakes.mono _)
      | (with_reducible exact lectionaryref1_Put.mono _ _)
      | (with_reducible exact lectionaryref1_Take.mono _ _)
      | (with_reducible exact number_Put.mono _ _)
      | (with_reducible exact number_Take.mono _ _)
      | (with_reducible exact LeO.refl _)
      | (with_reducible exact LeO.none _)
      | (with_reducible refine LeO.ite ?_ ?_)
      | (with_reducible refine LeO.bind ?_ (fun _ => ?_))
      | exact ih0 _ _ _
      | exact ih1 _ _ _ _
      | exact ih2 _ _ _ _ _ _
      | exact ih3 _ _ _ _ _
      | exact ih4 _ _ _ _ _ _
      | exact lectionarylaw1_wakes.mono _
      | exact lectionaryref1_Put.mono _ _
      | exact lectionaryref1_Take.mono _ _
      | exact number_Put.mono _ _
      | exact number_Take.mono _ _
      | exact LeO.none _
      | refine LeO.ite ?_ ?_
      | refine LeO.bind ?_ (fun _ => ?_)
    · intro y0 y1 y2 y3 y4
      unfold lectionarylaw1_NumberEdges.j3
      repeat' first
      | (with_reducible exact ih0 _ _ _)
      | (with_reducible exact ih1 _ _ _ _)
      | (with_reducible exact ih2 _ _ _ _ _ _)
      | (with_reducible exact ih3 _ _ _ _ _)
      | (with_reducible exact ih4 _ _ _ _ _ _)
      | (with_reducible exact lectionarylaw1_wakes.mono _)
      | (with_reducible exact lectionaryref1_Put.mono _ _)
      | (with_reducible exact lectionaryref1_Take.mono _ _)
      | (with_reducible exact number_Put.mono _ _)
      | (with_reducible exact number_Take.mono _ _)
      | (with_reducible exact LeO.refl _)
      | (with_reducible exact LeO.none _)
      | (with_reducible refine LeO.ite ?_ ?_)
      | (with_reducible refine LeO.bind ?_ (fun _ => ?_))
      | exact ih0 _ _ _
      | exact ih1 _ _ _ _
      | exact ih2 _ _ _ _ _ _
      | exact ih3 _ _ _ _ _
      | exact ih4 _ _ _ _ _ _
      | exact lectionarylaw1_wakes.mono _
      | exact lectionaryref1_Put.mono _ _
      | exact lectionaryref1_Take.mono _ _
      | exact number_Put.mono _ _
      | exact number_Take.mono _ _
      | exact LeO.none _
      | refine LeO.ite ?_ ?_
      | refine LeO.bind ?_ (fun _ => ?_)
    · intro y0 y1 y2 y3 y4 y5
      unfold lectionarylaw1_NumberEdges.l2
      repeat' first
      | (with_reducible exact ih0 _ _ _)
      | (with_reducible exact ih1 _ _ _ _)
      | (with_reducible exact ih2 _ _ _ _ _ _)
      | (with_reducible exact ih3 _ _ _ _ _)
      | (with_reducible exact ih4 _ _ _ _ _ _)
      | (with_reducible exact lectionarylaw1_wakes.mono _)
      | (with_reducible exact lectionaryref1_Put.mono _ _)
      | (with_reducible exact lectionaryref1_Take.mono _ _)
      | (with_reducible exact number_Put.mono _ _)
      | (with_reducible exact number_Take.mono _ _)
      | (with_reducible exact LeO.refl _)
      | (with_reducible exact LeO.none _)
      | (with_reducible refine LeO.ite ?_ ?_)
      | (with_reducible refine LeO.bind ?_ (fun _ => ?_))
      | exact ih0 _ _ _
      | exact ih1 _ _ _ _
      | exact ih2 _ _ _ _ _ _
      | exact ih3 _ _ _ _ _
      | exact ih4 _ _ _ _ _ _
      | exact lectionarylaw1_wakes.mono _
      | exact lectionaryref1_Put.mono _ _
      | exact lectionaryref1_Take.mono _ _
      | exact number_Put.mono _ _
      | exact number_Take.mono _ _
      | exact LeO.none _
      | refine LeO.ite ?_ ?_
      | refine LeO.bind ?_ (fun _ => ?_)
theorem lectionarylaw1_NumberEdges.mono : ∀ a0 a1 k, LeO (lectionarylaw1_NumberEdges.f k a0 a1) (lectionarylaw1_NumberEdges.f (k + 1) a0 a1) := by
  intro a0 a1 k
  obtain ⟨ih0, ih1, ih2, ih3, ih4⟩ := lectionarylaw1_NumberEdges.mono_l k
  unfold lectionarylaw1_NumberEdges.f
  repeat' first
      | (with_reducible exact ih0 _ _ _)
      | (with_reducible exact ih1 _ _ _ _)
      | (with_reducible exact ih2 _ _ _ _ _ _)
      | (with_reducible exact ih3 _ _ _ _ _)
      | (with_reducible exact ih4 _ _ _ _ _ _)
      | (with_reducible exact lectionarylaw1_wakes.mono _)
      | (with_reducible exact lectionaryref1_Put.mono _ _)
      | (with_reducible exact lectionaryref1_Take.mono _ _)
      | (with_reducible exact number_Put.mono _ _)
      | (with_reducible exact number_Take.mono _ _)
      | (with_reducible exact LeO.refl _)
      | (with_reducible exact LeO.none _)
      | (with_reducible refine LeO.ite ?_ ?_)
      | (with_reducible refine LeO.bind ?_ (fun _ => ?_))
      | exact ih0 _ _ _
      | exact ih1 _ _ _ _
      | exact ih2 _ _ _ _ _ _
      | exact ih3 _ _ _ _ _
      | exact ih4 _ _ _ _ _ _
      | exact lectionarylaw1_wakes.mono _
      | exact lectionaryref1_Put.mono _ _
      | exact lectionaryref1_Take.mono _ _
      | exact number_Put.mono _ _
      | exact number_Take.mono _ _
      | exact LeO.none _
      | refine LeO.ite ?_ ?_
      | refine LeO.bind ?_ (fun _ => ?_)
def lectionarylaw1_NumberEdges.T13 : Bool × List (List Nat × List Nat) := (true, [([], []), ([], []), ([], []), ([2], [2]), ([3], [3]), ([1, 4], [1, 4]), ([], []), ([], []), ([7], [7]), ([8], [8]), ([6, 9], [6, 9]), ([10], [10]), ([5, 11], [5, 11]), ([0, 12], [0, 12]), ([13, 13, 0, 1, 2, 3, 4, 5, 6, 7, 8, 9, 10, 11, 12, 13], [0, 13])])
def lectionarylaw1_NumberEdges.B13 : List Nat := [0, 0, 0, 4, 12, 30, 0, 0, 128, 384, 960, 1984, 4094, 8191, 16383]
theorem lectionarylaw1_NumberEdges.tab13 : rtab .any (opsOf Try.f3 13) = lectionarylaw1_NumberEdges.T13 := by kernel_rfl
theorem lectionarylaw1_NumberEdges.bits13 : waitsOk lectionarylaw1_NumberEdges.T13.2 lectionarylaw1_NumberEdges.B13 = true := by kernel_rfl
set_option maxHeartbeats 8000000 in
set_option maxRecDepth 100000 in
theorem lectionarylaw1_NumberEdges.calls (k : Nat) (A0_0 : Option Addr) (c0_0 : Nat) (l0_0 : List Int) (A0_1 : Option Addr) (c0_1 : Nat) (l0_1 : List ByteArray) (r : Bool) (w : World) (hr0_0 : Kd.C (Kd.int .i64) w A0_0 l0_0.length l0_0) (hc0_0 : l0_0.length ≤ c0_0) (hr0_1 : Kd.C Kd.string w A0_1 l0_1.length l0_1) (hc0_1 : l0_1.length ≤ c0_1) (h : lectionarylaw1_NumberEdges.f k l0_0 l0_1 = some r) :
    Calls Try.prog 3 #[.agg #[.slice A0_0 l0_0.length c0_0, .slice A0_1 l0_1.length c0_1]] w fun e w' => e = .returned (.bool r) ∧ Below w.heap.size w w' := by
  have hu25 := Try.underlying25
  have HR0_0 := Aside0.mk hr0_0
  have HC0_0 := Aside0.mk hc0_0
  clear hr0_0 hc0_0
  have HR0_1 := Aside0.mk hr0_1
  have HC0_1 := Aside0.mk hc0_1
  clear hr0_1 hc0_1
  have HB := Aside0.mk (Below.refl w.heap.size w)
  have H : (lectionarylaw1_NumberEdges.l0 k 0 l0_0 l0_1) = some r := h
  clear h
  have H' := Aside0.mk H
  clear H
  go_enter Try.func3, Try.ntmps3
  go_wp2_with (first | ((with_reducible refine gate_dst (N := 1) rfl ?_); refine box_event ?hg (N := 1) ?hd (cs := #[.slice A0_0 l0_0.length c0_0, .slice A0_1 l0_1.length c0_1]) (t := 25) ?hr ?_; (case hd => rfl); (case hg => rfl); (case hr => first | (go_simp; done) | (go_simp; rfl)); intro gb124 hg w2 hbox hb; have n0_ := Aside0.mk (below_step (by repeat (first | (with_reducible first | exact HB.out | apply below_alloc | apply pw_below_drewN | apply below_drew1) | exact HB.out)) hb); have n1_ := Aside0.mk (hbox); have n2_ := Aside0.mk ((by rw [hg]; exact (below_size (by repeat (first | (with_reducible first | exact HB.out | apply below_alloc | apply pw_below_drewN | apply below_drew1) | exact HB.out))) : w.heap.size ≤ gb124)); have n3_ := Aside0.mk ((by rw [hg]; exact (below_size (by repeat (first | (with_reducible first | exact HB.out | apply below_alloc | apply pw_below_drewN | apply below_drew1) | exact HB.out))) : w.heap.size ≤ gb124)); clear HB; have HB := n0_; have BK124 := n1_; have GW124 := n2_; have GE124 := n3_; clear n0_ n1_ n2_ n3_; clear hb hbox hg))
  go_loopg [3] k (fun kq v3 w' => ∃ (x3_1 : Int), v3 = .int .i64 x3_1 ∧ Aside0 (lectionarylaw1_NumberEdges.l0 kq x3_1 l0_0 l0_1 = some r) ∧ Aside0 (kq ≤ k) ∧ Aside0 (w'.heap[gb124]? = some (.cells #[(.slice A0_0 l0_0.length c0_0), (.slice A0_1 l0_1.length c0_1)] 25 (0, 0))) ∧ Aside0 (Below w.heap.size w w'))
  case atStart => exact ⟨(0), (by first | rfl | (simp; done) | (simp [*]; done)), H', ⟨Nat.le_refl _⟩, ⟨by (with_reducible repeat (first | refine blk_drewN ?_ _ | refine blk_drew ?_ | refine blk_alloc ?_ _)); exact BK124.out⟩, ⟨by repeat (first | (with_reducible first | exact HB.out | apply below_alloc | apply pw_below_drewN | apply below_drew1 | refine below_set ?_ GE124.out) | exact HB.out)⟩⟩
  case round =>
    clear H'
    try clear p2
    obtain ⟨x3_1, rfl, HA, HK1, BK124, HB⟩ := hrel
    cases gk with
    | zero => exact absurd HA.out (by simp [lectionarylaw1_NumberEdges.l0])
    | succ k1 =>
      have H := HA.out
      clear HA
      simp only [lectionarylaw1_NumberEdges.l0] at H
      by_cases c3 : x3_1 < 31
      · rw [if_pos c3] at H
        have c3b0 : decide (x3_1 < 31) = true := decide_eq_true c3
        clear c3
        have H' := Aside0.mk H
        clear H
        go_wp2
        go_loopg [4] k1 (fun kq v4 w' => ∃ (x4_2 : Int), v4 = .int .i64 x4_2 ∧ Aside0 (lectionarylaw1_NumberEdges.l1 kq x3_1 x4_2 l0_0 l0_1 = some r) ∧ Aside0 (kq ≤ k1) ∧ Aside0 (w'.heap[gb124]? = some (.cells #[(.slice A0_0 l0_0.length c0_0), (.slice A0_1 l0_1.length c0_1)] 25 (0, 0))) ∧ Aside0 (Below w.heap.size w w'))
        case atStart => exact ⟨((-1)), (by first | rfl | (simp; done) | (simp [*]; done)), H', ⟨Nat.le_refl _⟩, ⟨by (with_reducible repeat (first | refine blk_drewN ?_ _ | refine blk_drew ?_ | refine blk_alloc ?_ _)); exact BK124.out⟩, ⟨by repeat (first | (with_reducible first | exact HB.out | apply below_alloc | apply pw_below_drewN | apply below_drew1 | refine below_set ?_ GE124.out) | exact HB.out)⟩⟩
        case round =>
          clear H'
          try clear p2
          try clear c3
          try clear c3b0
          try clear p2
          obtain ⟨x4_2, rfl, HA, HK2, BK124, HB⟩ := hrel
          cases gk with
          | zero => exact absurd HA.out (by simp [lectionarylaw1_NumberEdges.l1])
          | succ k2 =>
            have H := HA.out
            clear HA
            simp only [lectionarylaw1_NumberEdges.l1] at H
            by_cases c4 : x4_2 < 2
            · rw [if_pos c4] at H
              have c4b0 : decide (x4_2 < 2) = true := decide_eq_true c4
              clear c4
              by_cases c5 : 0 ≤ x3_1
              · rw [if_pos c5] at H
                have c5b0 := eq_true c5
                have c5b1 : decide (0 ≤ x3_1) = true := decide_eq_true c5
                clear c5
                obtain ⟨ji6, hji6⟩ : ∃ j_ : Int, (shl .i64 1 x3_1) = j_ := ⟨_, rfl⟩
                replace H : ((number_Put.f k2 (wrap64 ((ji6) + x4_2))).bind fun bt126 => ((lectionaryref0_Num.f (wrap64 ((ji6) + x4_2)) 268435456).bind fun t128 => ((lectionarylaw1_num.f bt126.2).bind fun t129 => (if (t128 != (t129 == 0)) = true then (lectionarylaw1_NumberEdges.j2 k2 x3_1 x4_2 bt126.1 true l0_0 l0_1) else ((lectionarylaw1_num.f bt126.2).bind fun t130 => (if t130 = 0 then ((lectionaryref1_Put.f k2 (wrap64 ((ji6) + x4_2))).bind fun t131 => (lectionarylaw1_NumberEdges.j2 k2 x3_1 x4_2 bt126.1 (bt126.1.toList != t131.toList) l0_0 l0_1)) else (lectionarylaw1_NumberEdges.j2 k2 x3_1 x4_2 bt126.1 false l0_0 l0_1))))))) = some r := by first | (rw [hji6] at H; exact H) | (simp only [hji6] at H ⊢; exact H)
                have hji6_ : (IntKind.i64.wrap (1 * 2 ^ min x3_1.toNat 64)) = ji6 := hji6
                have hji6z : x3_1 ≤ 64 → (IntKind.i64.wrap (1 * 2 ^ x3_1.toNat)) = ji6 := shl_small hji6
                have hji6u : (IntKind.i64.wrap (2 ^ min x3_1.toNat 64)) = ji6 := by have h_ := hji6_; rw [Int.one_mul] at h_; exact h_
                have hji6v : x3_1 ≤ 64 → (IntKind.i64.wrap (2 ^ x3_1.toNat)) = ji6 := fun hle_ => by have h_ := hji6z hle_; rw [Int.one_mul] at h_; exact h_
                have hji6y : (wrap64 (1 * 2 ^ min x3_1.toNat 64)) = ji6 := (i64_w _).symm.trans hji6_
                have hji6x : x3_1 ≤ 64 → (wrap64 (1 * 2 ^ x3_1.toNat)) = ji6 := fun h_ => (i64_w _).symm.trans (hji6z h_)
                replace H := Option.bind_eq_some_iff.mp H
                obtain ⟨⟨t126, t127⟩, A70, H⟩ := H
                replace H : ((lectionaryref0_Num.f (wrap64 ((ji6) + x4_2)) 268435456).bind fun t128 => ((lectionarylaw1_num.f t127).bind fun t129 => (if (t128 != (t129 == 0)) = true then (lectionarylaw1_NumberEdges.j2 k2 x3_1 x4_2 t126 true l0_0 l0_1) else ((lectionarylaw1_num.f t127).bind fun t130 => (if t130 = 0 then ((lectionaryref1_Put.f k2 (wrap64 ((ji6) + x4_2))).bind fun t131 => (lectionarylaw1_NumberEdges.j2 k2 x3_1 x4_2 t126 (t126.toList != t131.toList) l0_0 l0_1)) else (lectionarylaw1_NumberEdges.j2 k2 x3_1 x4_2 t126 false l0_0 l0_1)))))) = some r := H
                have A7 := Aside0.mk A70
                clear A70
                have HC8 := Aside0.mk H
                clear H
                go_upto_region 9 with (first | ((with_reducible refine gate_callee (f := 13) rfl ?_); refine goesL_ (some 30) rfl rfl Try.func13 (by kernel_rfl) rfl #[.int .i64 (wrap64 ((ji6) + x4_2))] rfl (by (try simp only [List.map_toArray, List.map_cons, List.map_nil]); first | done | (simp only [hji6]; rfl) | rfl | (simp only [List.length_drop, List.length_take]; rfl)) ?_; (with_reducible refine (number_Put.calls k2 (wrap64 ((ji6) + x4_2)) t126 t127 _ A7.out).mono ?_); rintro e w9 ⟨rfl, hb⟩; refine ⟨_, rfl, ?_⟩; have n0_ := Aside0.mk (blk_below (g := gb124) (o := .cells #[.slice A0_0 l0_0.length c0_0, .slice A0_1 l0_1.length c0_1] 25 (0, 0)) (by (with_reducible repeat (first | refine blk_drewN ?_ _ | refine blk_drew ?_ | refine blk_alloc ?_ _)); exact BK124.out) hb); have n1_ := Aside0.mk (below_step (by repeat (first | (with_reducible first | exact HB.out | apply below_alloc | apply pw_below_drewN | apply below_drew1 | refine below_set ?_ GE124.out) | exact HB.out)) hb); clear BK124; clear HB; have BK124 := n0_; have HB := n1_; clear n0_ n1_; (try clear hb); (try clear hb2); (try clear hk); (try clear hi)))
                (try simp only [Act.put, List.setIfInBounds_toArray, List.set_cons_zero, List.set_cons_succ])
                go_cut [49] (fun v49 wc => ∃ (kq : Nat) (x49_7 : Bool), v49 = .bool x49_7 ∧ Aside0 (lectionarylaw1_NumberEdges.j2 kq x3_1 x4_2 t126 x49_7 l0_0 l0_1 = some r) ∧ Aside0 (kq ≤ k2) ∧ Aside0 (wc.heap[gb124]? = some (.cells #[(.slice A0_0 l0_0.length c0_0), (.slice A0_1 l0_1.length c0_1)] 25 (0, 0))) ∧ Aside0 (Below w.heap.size w wc))
                case first =>
                  have H := HC8.out
                  clear HC8
                  replace H := Option.bind_eq_some_iff.mp H
                  obtain ⟨t128, A100, H⟩ := H
                  replace H : ((lectionarylaw1_num.f t127).bind fun t129 => (if (t128 != (t129 == 0)) = true then (lectionarylaw1_NumberEdges.j2 k2 x3_1 x4_2 t126 true l0_0 l0_1) else ((lectionarylaw1_num.f t127).bind fun t130 => (if t130 = 0 then ((lectionaryref1_Put.f k2 (wrap64 ((ji6) + x4_2))).bind fun t131 => (lectionarylaw1_NumberEdges.j2 k2 x3_1 x4_2 t126 (t126.toList != t131.toList) l0_0 l0_1)) else (lectionarylaw1_NumberEdges.j2 k2 x3_1 x4_2 t126 false l0_0 l0_1))))) = some r := H
                  have A10 := Aside0.mk A100
                  clear A100
                  replace H := Option.bind_eq_some_iff.mp H
                  obtain ⟨t129, A110, H⟩ := H
                  replace H : (if (t128 != (t129 == 0)) = true then (lectionarylaw1_NumberEdges.j2 k2 x3_1 x4_2 t126 true l0_0 l0_1) else ((lectionarylaw1_num.f t127).bind fun t130 => (if t130 = 0 then ((lectionaryref1_Put.f k2 (wrap64 ((ji6) + x4_2))).bind fun t131 => (lectionarylaw1_NumberEdges.j2 k2 x3_1 x4_2 t126 (t126.toList != t131.toList) l0_0 l0_1)) else (lectionarylaw1_NumberEdges.j2 k2 x3_1 x4_2 t126 false l0_0 l0_1)))) = some r := H
                  have A11 := Aside0.mk A110
                  clear A110
                  by_cases c12 : (t128 != (t129 == 0)) = true
                  · rw [if_pos c12] at H
                    have c12b0 : (t128 != (t129 == 0)) = true := c12
                    (try (have c12b1 : decide (t128 = (t129 == 0)) = false := by simpa using c12))
                    (try (have c12b2 : (t128 == (t129 == 0)) = false := by simpa using c12))
                    (try (have c12b3 : ¬ (t128 = (t129 == 0)) := by simpa using c12))
                    clear c12
                    (first | rw [c12b0] | (simp only [i64_w, i32_w]; rw [c12b0]) | skip)
                    have H' := Aside0.mk H
                    clear H
                    go_wp2_with (first | ((with_reducible refine gate_callee (f := 14) rfl ?_); refine goesL_ (some 34) rfl rfl Try.func14 (by kernel_rfl) rfl #[.int .i64 (wrap64 ((ji6) + x4_2)), .int .i64 268435456] rfl (by (try simp only [List.map_toArray, List.map_cons, List.map_nil]); first | done | (simp only [hji6]; rfl) | rfl | (simp only [List.length_drop, List.length_take]; rfl)) ?_; (with_reducible refine (lectionaryref0_Num.calls (wrap64 ((ji6) + x4_2)) 268435456 t128 _ A10.out).mono ?_); rintro e w' ⟨rfl, ⟨nd, rfl⟩⟩; refine ⟨_, rfl, ?_⟩) | ((with_reducible refine gate_callee (f := 15) rfl ?_); refine goesL_ (some 36) rfl rfl Try.func15 (by kernel_rfl) rfl #[.int .i64 t127] rfl (by (try simp only [List.map_toArray, List.map_cons, List.map_nil]); first | done | rfl | (simp only [List.length_drop, List.length_take]; rfl)) ?_; (with_reducible refine (lectionarylaw1_num.calls t127 t129 _ A11.out).mono ?_); rintro e w' ⟨rfl, ⟨nd, rfl⟩⟩; refine ⟨_, rfl, ?_⟩))
                    go_meet
                    case rel => exact ⟨_, (true), (by first | rfl | (simp; done) | (simp [*]; done)), H', ⟨by have := HK1.out; have := HK2.out; first | omega | exact Nat.le_refl _⟩, ⟨by (with_reducible repeat (first | refine blk_drewN ?_ _ | refine blk_drew ?_ | refine blk_alloc ?_ _)); exact BK124.out⟩, ⟨by repeat (first | (with_reducible first | exact HB.out | apply below_alloc | apply pw_below_drewN | apply below_drew1 | refine below_set ?_ GE124.out) | exact HB.out)⟩⟩
                  · rw [if_neg c12] at H
                    have c12b0 : (t128 != (t129 == 0)) = false := by simpa using c12
                    (try (have c12b1 : decide (t128 = (t129 == 0)) = true := by simpa using c12))
                    (try (have c12b2 : (t128 == (t129 == 0)) = true := by simpa using c12))
                    clear c12
                    (first | rw [c12b0] | (simp only [i64_w, i32_w]; rw [c12b0]) | skip)
                    replace H := Option.bind_eq_some_iff.mp H
                    obtain ⟨t130, A130, H⟩ := H
                    replace H : (if t130 = 0 then ((lectionaryref1_Put.f k2 (wrap64 ((ji6) + x4_2))).bind fun t131 => (lectionarylaw1_NumberEdges.j2 k2 x3_1 x4_2 t126 (t126.toList != t131.toList) l0_0 l0_1)) else (lectionarylaw1_NumberEdges.j2 k2 x3_1 x4_2 t126 false l0_0 l0_1)) = some r := H
                    have A13 := Aside0.mk A130
                    clear A130
                    by_cases c14 : t130 = 0
                    · rw [if_pos c14] at H
                      have c14b0 : (t130 == 0) = true := beq_iff_eq.mpr c14
                      have c14b1 : (t130 != 0) = false := bne_eq_false_iff_eq.mpr c14
                      clear c14
                      replace H := Option.bind_eq_some_iff.mp H
                      obtain ⟨t131, A150, H⟩ := H
                      replace H : (lectionarylaw1_NumberEdges.j2 k2 x3_1 x4_2 t126 (t126.toList != t131.toList) l0_0 l0_1) = some r := H
                      have A15 := Aside0.mk A150
                      clear A150
                      have H' := Aside0.mk H
                      clear H
                      go_wp2_with (first | ((with_reducible refine gate_callee (f := 14) rfl ?_); refine goesL_ (some 34) rfl rfl Try.func14 (by kernel_rfl) rfl #[.int .i64 (wrap64 ((ji6) + x4_2)), .int .i64 268435456] rfl (by (try simp only [List.map_toArray, List.map_cons, List.map_nil]); first | done | (simp only [hji6]; rfl) | rfl | (simp only [List.length_drop, List.length_take]; rfl)) ?_; (with_reducible refine (lectionaryref0_Num.calls (wrap64 ((ji6) + x4_2)) 268435456 t128 _ A10.out).mono ?_); rintro e w' ⟨rfl, ⟨nd, rfl⟩⟩; refine ⟨_, rfl, ?_⟩) | ((with_reducible refine gate_callee (f := 15) rfl ?_); refine goesL_ (some 36) rfl rfl Try.func15 (by kernel_rfl) rfl #[.int .i64 t127] rfl (by (try simp only [List.map_toArray, List.map_cons, List.map_nil]); first | done | rfl | (simp only [List.length_drop, List.length_take]; rfl)) ?_; (with_reducible refine (lectionarylaw1_num.calls t127 t129 _ A11.out).mono ?_); rintro e w' ⟨rfl, ⟨nd, rfl⟩⟩; refine ⟨_, rfl, ?_⟩) | (go_at_call 15; (with_reducible refine (lectionarylaw1_num.calls t127 t130 _ A13.out).mono ?_); rintro e w' ⟨rfl, ⟨nd, rfl⟩⟩) | (go_at_call 16; (with_reducible refine (lectionaryref1_Put.calls k2 (wrap64 ((ji6) + x4_2)) t131 _ A15.out).mono ?_); rintro e w16 ⟨rfl, hb⟩; have n0_ := Aside0.mk (blk_below (g := gb124) (o := .cells #[.slice A0_0 l0_0.length c0_0, .slice A0_1 l0_1.length c0_1] 25 (0, 0)) (by (with_reducible repeat (first | refine blk_drewN ?_ _ | refine blk_drew ?_ | refine blk_alloc ?_ _)); exact BK124.out) hb); have n1_ := Aside0.mk (below_step (by repeat (first | (with_reducible first | exact HB.out | apply below_alloc | apply pw_below_drewN | apply below_drew1 | refine below_set ?_ GE124.out) | exact HB.out)) hb); clear BK124; clear HB; have BK124 := n0_; have HB := n1_; clear n0_ n1_; (try clear hb); (try clear hb2); (try clear hk); (try clear hi)))
                      go_meet
                      case rel => exact ⟨_, ((t126.toList != t131.toList)), (by first | rfl | (simp; done) | (simp [*]; done)), H', ⟨by have := HK1.out; have := HK2.out; first | omega | exact Nat.le_refl _⟩, ⟨by (with_reducible repeat (first | refine blk_drewN ?_ _ | refine blk_drew ?_ | refine blk_alloc ?_ _)); exact BK124.out⟩, ⟨by repeat (first | (with_reducible first | exact HB.out | apply below_alloc | apply pw_below_drewN | apply below_drew1 | refine below_set ?_ GE124.out) | exact HB.out)⟩⟩
                    · rw [if_neg c14] at H
                      have c14b0 : (t130 == 0) = false := beq_eq_false_iff_ne.mpr c14
                      have c14b1 : (t130 != 0) = true := bne_iff_ne.mpr c14
                      have H' := Aside0.mk H
                      clear H
                      go_wp2_with (first | ((with_reducible refine gate_callee (f := 14) rfl ?_); refine goesL_ (some 34) rfl rfl Try.func14 (by kernel_rfl) rfl #[.int .i64 (wrap64 ((ji6) + x4_2)), .int .i64 268435456] rfl (by (try simp only [List.map_toArray, List.map_cons, List.map_nil]); first | done | (simp only [hji6]; rfl) | rfl | (simp only [List.length_drop, List.length_take]; rfl)) ?_; (with_reducible refine (lectionaryref0_Num.calls (wrap64 ((ji6) + x4_2)) 268435456 t128 _ A10.out).mono ?_); rintro e w' ⟨rfl, ⟨nd, rfl⟩⟩; refine ⟨_, rfl, ?_⟩) | ((with_reducible refine gate_callee (f := 15) rfl ?_); refine goesL_ (some 36) rfl rfl Try.func15 (by kernel_rfl) rfl #[.int .i64 t127] rfl (by (try simp only [List.map_toArray, List.map_cons, List.map_nil]); first | done | rfl | (simp only [List.length_drop, List.length_take]; rfl)) ?_; (with_reducible refine (lectionarylaw1_num.calls t127 t129 _ A11.out).mono ?_); rintro e w' ⟨rfl, ⟨nd, rfl⟩⟩; refine ⟨_, rfl, ?_⟩) | (go_at_call 15; (with_reducible refine (lectionarylaw1_num.calls t127 t130 _ A13.out).mono ?_); rintro e w' ⟨rfl, ⟨nd, rfl⟩⟩))
                      go_meet
                      case rel => exact ⟨_, (false), (by first | rfl | (simp; done) | (simp [*]; done)), H', ⟨by have := HK1.out; have := HK2.out; first | omega | exact Nat.le_refl _⟩, ⟨by (with_reducible repeat (first | refine blk_drewN ?_ _ | refine blk_drew ?_ | refine blk_alloc ?_ _)); exact BK124.out⟩, ⟨by repeat (first | (with_reducible first | exact HB.out | apply below_alloc | apply pw_below_drewN | apply below_drew1 | refine below_set ?_ GE124.out) | exact HB.out)⟩⟩
                case rest =>
                  clear HC8
                  try clear c1
                  try clear p2
                  try clear c3
                  try clear c3b0
                  try clear c4
                  try clear c4b0
                  try clear c5
                  try clear c5b0
                  try clear c5b1
                  try clear p6
                  try clear c12
                  try clear c12b0
                  try clear c12b1
                  try clear c12b2
                  try clear c13
                  try clear c14
                  try clear c14b0
                  try clear c14b1
                  try clear c15
                  try clear p2
                  obtain ⟨kq, x49_7, rfl, HA, HJ7, BK124, HB⟩ := hcut
                  cases kq with
                  | zero => exact absurd HA.out (by simp [lectionarylaw1_NumberEdges.j2])
                  | succ kj7 =>
                    have H := HA.out
                    clear HA
                    simp only [lectionarylaw1_NumberEdges.j2] at H
                    by_cases c17 : x49_7 = true
                    · subst c17
                      have H1 : (some false) = some r := by rw [if_pos rfl] at H; exact H
                      clear H
                      have H := H1
                      clear H1
                      obtain rfl := Option.some.inj H
                      go_wp2
                      go_ret
                      exact ⟨by first | rfl | (simp [errW_none, errW_some] <;> rfl) | (simp only [← hji6]; first | rfl | (simp [errW_none, errW_some] <;> rfl)) | (simp [*, errW_none, errW_some] <;> rfl), by repeat (first | (with_reducible first | exact HB.out | apply below_alloc | apply pw_below_drewN | apply below_drew1 | refine below_set ?_ GE124.out) | exact HB.out)⟩
                    · replace c17 := Bool.eq_false_iff.mpr c17
                      subst c17
                      have H1 : (if t126.size + 1 ≤ 9223372036854775807 then (if 1 + t126.size ≤ 9223372036854775807 then (if t126.size + t126.size ≤ 9223372036854775807 then ((some (([t126, t126 ++ (⟨#[128]⟩ : ByteArray), (⟨#[128]⟩ : ByteArray) ++ t126, t126 ++ t126] : List ByteArray) : List ByteArray)).bind fun y132 => (if (t126.size : Int) > 0 then (if 0 ≤ (wrap64 ((t126.size : Int) - 1)) then (if (wrap64 ((t126.size : Int) - 1)) ≤ (t126.size : Int) then (if (t126.extract 0 ((wrap64 ((t126.size : Int) - 1)) : Int).toNat).size + 2 ≤ 9223372036854775807 then ((some (([t126.extract 0 ((wrap64 ((t126.size : Int) - 1)) : Int).toNat, (t126.extract 0 ((wrap64 ((t126.size : Int) - 1)) : Int).toNat) ++ (⟨#[128, 0]⟩ : ByteArray)] : List ByteArray) : List ByteArray)).bind fun y135 => (if y132.length + y135.length < 8796093022208 then (lectionarylaw1_NumberEdges.j3 kj7 x3_1 x4_2 (y132 ++ y135) l0_0 l0_1) else (none))) else (none)) else (none)) else (none)) else (lectionarylaw1_NumberEdges.j3 kj7 x3_1 x4_2 y132 l0_0 l0_1))) else (none)) else (none)) else (none)) = some r := by rw [if_neg (show ¬ (false = true) by decide)] at H; exact H
                      clear H
                      have H := H1
                      clear H1
                      by_cases c18 : t126.size + 1 ≤ 9223372036854775807
                      · rw [if_pos c18] at H
                        have c18b0 := eq_true c18
                        have c18b1 : decide (t126.size + 1 ≤ 9223372036854775807) = true := decide_eq_true c18
                        try have c18b2 : (9223372036854775807 < t126.size + 1) = False := eq_false (Nat.not_lt.2 c18)
                        by_cases c19 : 1 + t126.size ≤ 9223372036854775807
                        · rw [if_pos c19] at H
                          have c19b0 := eq_true c19
                          have c19b1 : decide (1 + t126.size ≤ 9223372036854775807) = true := decide_eq_true c19
                          try have c19b2 : (9223372036854775807 < 1 + t126.size) = False := eq_false (Nat.not_lt.2 c19)
                          by_cases c20 : t126.size + t126.size ≤ 9223372036854775807
                          · rw [if_pos c20] at H
                            have c20b0 := eq_true c20
                            have c20b1 : decide (t126.size + t126.size ≤ 9223372036854775807) = true := decide_eq_true c20
                            try have c20b2 : (9223372036854775807 < t126.size + t126.size) = False := eq_false (Nat.not_lt.2 c20)
                            obtain ⟨y132, hy132⟩ : ∃ y_ : List ByteArray, y_ = (([t126, t126 ++ (⟨#[128]⟩ : ByteArray), (⟨#[128]⟩ : ByteArray) ++ t126, t126 ++ t126] : List ByteArray)) := ⟨_, rfl⟩
                            replace H : (if (t126.size : Int) > 0 then (if 0 ≤ (wrap64 ((t126.size : Int) - 1)) then (if (wrap64 ((t126.size : Int) - 1)) ≤ (t126.size : Int) then (if (t126.extract 0 ((wrap64 ((t126.size : Int) - 1)) : Int).toNat).size + 2 ≤ 9223372036854775807 then ((some (([t126.extract 0 ((wrap64 ((t126.size : Int) - 1)) : Int).toNat, (t126.extract 0 ((wrap64 ((t126.size : Int) - 1)) : Int).toNat) ++ (⟨#[128, 0]⟩ : ByteArray)] : List ByteArray) : List ByteArray)).bind fun y135 => (if y132.length + y135.length < 8796093022208 then (lectionarylaw1_NumberEdges.j3 kj7 x3_1 x4_2 (y132 ++ y135) l0_0 l0_1) else (none))) else (none)) else (none)) else (none)) else (lectionarylaw1_NumberEdges.j3 kj7 x3_1 x4_2 y132 l0_0 l0_1)) = some r := by first | (rw [hy132]; with_reducible exact H) | (have H2_ := (Option.bind_some _ _).symm.trans H; rw [hy132]; with_reducible exact H2_) | (have H2_ := (Option.bind_some _ _).symm.trans H; with_reducible exact H2_) | with_reducible exact H | (rw [hy132]; exact H) | exact H
                            have Ny132 := Aside0.mk hy132
                            clear hy132
                            have HC21 := Aside0.mk H
                            clear H
                            go_upto_if 61 with (first | ((with_reducible refine gate_dst (N := 58) rfl ?_); refine Kd.R_lit Kd.string _ 9 ?hg (N := 58) ?hd (xs := ([t126, t126 ++ (⟨#[128]⟩ : ByteArray), (⟨#[128]⟩ : ByteArray) ++ t126, t126 ++ t126] : List ByteArray)) (inner := [.string t126, .string (t126 ++ (⟨#[128]⟩ : ByteArray)), .string ((⟨#[128]⟩ : ByteArray) ++ t126), .string (t126 ++ t126)]) (ok := fun _ => True) (okp := fun _ => True) ?hr ?hp (fun _ hk => hk) trivial (Below.refl _ _) (Nat.le_refl _) (by simp) ?_; (case hd => rfl); (case hg => rfl); (case hr => first | (go_simp; done) | (go_simp; rfl)); (case hp => exact (Reps.one (show Kd.M Kd.string _ _ _ t126 [.string t126] from rfl) (Reps.one (show Kd.M Kd.string _ _ _ (t126 ++ (⟨#[128]⟩ : ByteArray)) [.string (t126 ++ (⟨#[128]⟩ : ByteArray))] from rfl) (Reps.one (show Kd.M Kd.string _ _ _ ((⟨#[128]⟩ : ByteArray) ++ t126) [.string ((⟨#[128]⟩ : ByteArray) ++ t126)] from rfl) (Reps.one (show Kd.M Kd.string _ _ _ (t126 ++ t126) [.string (t126 ++ t126)] from rfl) (Reps.none _ _)))))); intro v133 w22 ho23 hb hg_ hnew_; clear hg_ hnew_; (first | rw [← Ny132.out] at ho23 | (simp only [Int.reduceToNat] at ho23; rw [← Ny132.out] at ho23)); have n0_ := Aside0.mk (Kd.R_lower ho23 (below_size (by repeat (first | (with_reducible first | exact HB.out | apply below_alloc | apply pw_below_drewN | apply below_drew1 | refine below_set ?_ GE124.out) | exact HB.out)))); have n1_ := Aside0.mk (blk_below (g := gb124) (o := .cells #[.slice A0_0 l0_0.length c0_0, .slice A0_1 l0_1.length c0_1] 25 (0, 0)) (by (with_reducible repeat (first | refine blk_drewN ?_ _ | refine blk_drew ?_ | refine blk_alloc ?_ _)); exact BK124.out) hb); have n2_ := Aside0.mk (below_step (by repeat (first | (with_reducible first | exact HB.out | apply below_alloc | apply pw_below_drewN | apply below_drew1 | refine below_set ?_ GE124.out) | exact HB.out)) hb); clear BK124; clear HB; have HO134 := n0_; have BK124 := n1_; have HB := n2_; clear n0_ n1_ n2_; clear hb ho23))
                            (try simp only [Act.put, List.setIfInBounds_toArray, List.set_cons_zero, List.set_cons_succ])
                            go_cut [8] (fun v8 wc => ∃ (kq : Nat) (x8_20 : List ByteArray), Aside0 (lectionarylaw1_NumberEdges.j3 kq x3_1 x4_2 x8_20 l0_0 l0_1 = some r) ∧ Aside0 (kq ≤ kj7) ∧ Aside0 (Kd.R Kd.string 9 wc w.heap.size (fun _ => True) v8 x8_20) ∧ Aside0 (wc.heap[gb124]? = some (.cells #[(.slice A0_0 l0_0.length c0_0), (.slice A0_1 l0_1.length c0_1)] 25 (0, 0))) ∧ Aside0 (Below w.heap.size w wc))
                            case first =>
                              have H := HC21.out
                              clear HC21
                              by_cases c24 : (t126.size : Int) > 0
                              · rw [if_pos c24] at H
                                have c24b0 : decide (0 < (t126.size : Int)) = true := decide_eq_true c24
                                have c24b1 : decide (0 < t126.size) = true := decide_eq_true (by omega)
                                have c24b2 : 0 < t126.size := by omega
                                clear c24
                                (first | rw [c24b0] | (simp only [i64_w, i32_w]; rw [c24b0]) | skip)
                                obtain ⟨ji25, hji25⟩ : ∃ j_ : Int, (wrap64 ((t126.size : Int) - 1)) = j_ := ⟨_, rfl⟩
                                replace H : (if 0 ≤ (ji25) then (if (ji25) ≤ (t126.size : Int) then (if (t126.extract 0 ((ji25) : Int).toNat).size + 2 ≤ 9223372036854775807 then ((some (([t126.extract 0 ((ji25) : Int).toNat, (t126.extract 0 ((ji25) : Int).toNat) ++ (⟨#[128, 0]⟩ : ByteArray)] : List ByteArray) : List ByteArray)).bind fun y135 => (if y132.length + y135.length < 8796093022208 then (lectionarylaw1_NumberEdges.j3 kj7 x3_1 x4_2 (y132 ++ y135) l0_0 l0_1) else (none))) else (none)) else (none)) else (none)) = some r := by first | (rw [hji25] at H; exact H) | (simp only [hji25] at H ⊢; exact H)
                                have hji25w : (IntKind.i64.wrap ((t126.size : Int) - 1)) = ji25 := (i64_w _).trans hji25
                                by_cases c26 : 0 ≤ (ji25)
                                · rw [if_pos c26] at H
                                  have c26b0 := eq_true c26
                                  have c26b1 : decide (0 ≤ (ji25)) = true := decide_eq_true c26
                                  clear c26
                                  by_cases c27 : (ji25) ≤ (t126.size : Int)
                                  · rw [if_pos c27] at H
                                    have c27b0 := eq_true c27
                                    have c27b1 : decide ((ji25) ≤ (t126.size : Int)) = true := decide_eq_true c27
                                    clear c27
                                    have c28b0 := eq_true (of_decide_eq_true (by first | (with_reducible assumption) | assumption) : 0 ≤ (ji25))
                                    have c29b0 := eq_true (of_decide_eq_true (by first | (with_reducible assumption) | assumption) : (ji25) ≤ (t126.size : Int))
                                    by_cases c30 : (t126.extract 0 ((ji25) : Int).toNat).size + 2 ≤ 9223372036854775807
                                    · rw [if_pos c30] at H
                                      have c30b0 := eq_true c30
                                      have c30b1 : decide ((t126.extract 0 ((ji25) : Int).toNat).size + 2 ≤ 9223372036854775807) = true := decide_eq_true c30
                                      try have c30b2 : (9223372036854775807 < (t126.extract 0 ((ji25) : Int).toNat).size + 2) = False := eq_false (Nat.not_lt.2 c30)
                                      (try have c30b3 : (9223372036854775807 < ((ji25) : Int).toNat + 2) = False := eq_false (by (try simp only [ByteArray.size_extract, ByteArray.size_append, decide_eq_true_eq, eq_iff_iff, iff_true] at *); omega))
                                      obtain ⟨y135, hy135⟩ : ∃ y_ : List ByteArray, y_ = (([t126.extract 0 ((ji25) : Int).toNat, (t126.extract 0 ((ji25) : Int).toNat) ++ (⟨#[128, 0]⟩ : ByteArray)] : List ByteArray)) := ⟨_, rfl⟩
                                      replace H : (if y132.length + y135.length < 8796093022208 then (lectionarylaw1_NumberEdges.j3 kj7 x3_1 x4_2 (y132 ++ y135) l0_0 l0_1) else (none)) = some r := by first | (rw [hy135]; with_reducible exact H) | (have H2_ := (Option.bind_some _ _).symm.trans H; rw [hy135]; with_reducible exact H2_) | (have H2_ := (Option.bind_some _ _).symm.trans H; with_reducible exact H2_) | with_reducible exact H | (rw [hy135]; exact H) | exact H
                                      have Ny135 := Aside0.mk hy135
                                      clear hy135
                                      by_cases c31 : y132.length + y135.length < 8796093022208
                                      · rw [if_pos c31] at H
                                        have LMc31 := Aside0.mk c31
                                        clear c31
                                        obtain ⟨y138, hy138⟩ : ∃ y_ : List ByteArray, y_ = (y132 ++ y135) := ⟨_, rfl⟩
                                        replace H : (lectionarylaw1_NumberEdges.j3 kj7 x3_1 x4_2 y138 l0_0 l0_1) = some r := by first | (rw [hy138]; with_reducible exact H) | (have H2_ := (Option.bind_some _ _).symm.trans H; rw [hy138]; with_reducible exact H2_) | (have H2_ := (Option.bind_some _ _).symm.trans H; with_reducible exact H2_) | with_reducible exact H | (rw [hy138]; exact H) | exact H
                                        have Ny138 := Aside0.mk hy138
                                        clear hy138
                                        have H' := Aside0.mk H
                                        clear H
                                        try go_wp2
                                        have n0_ := Aside0.mk (Kd.R_drew HO134.out)
                                        have n1_ := Aside0.mk (blk_drew BK124.out)
                                        have n2_ := Aside0.mk (below_drew1 HB.out)
                                        clear HO134
                                        clear BK124
                                        clear HB
                                        have HO134 := n0_
                                        have BK124 := n1_
                                        have HB := n2_
                                        clear n0_ n1_ n2_
                                        refine start_ (n := 15) (S := fun w' => True) (ds := []) #[false, false, false, false, false, false, false, false, false, false, false, false, false, false, false] (by kernel_rfl) rfl rfl trivial (fun hHeld => ?_); refine with_tabW lectionarylaw1_NumberEdges.tab13 lectionarylaw1_NumberEdges.bits13 (fun HT_ HW_ => ?_)
                                        generalize w22.drew = w32 at HO134 BK124 HB hHeld ⊢
                                        refine pure_ (i := 0) (N := some 62) (v := ?_) (a' := ?_) #[true, false, false, false, false, false, false, false, false, false, false, false, false, false, false] rfl rfl (any_of HT_.out (by kernel_rfl)) (fun _ _ _ h => h) (Or.inl ⟨by rfl, ?_⟩) ?_ ?_
                                        rotate_left
                                        · intro w'
                                          go_simp
                                          first | with_reducible rfl | (rw [if_neg (by (try simp only [ByteArray.size_extract, ByteArray.size_append, decide_eq_true_eq, eq_iff_iff, iff_true] at *); omega)])
                                        rotate_left
                                        · simp only [Act.put, List.setIfInBounds_toArray, List.set_cons_zero, List.set_cons_succ, i64_w, i32_w]
                                          rfl
                                        refine pure_ (i := 1) (N := some 63) (v := ?_) (a' := ?_) #[true, true, false, false, false, false, false, false, false, false, false, false, false, false, false] rfl rfl (any_of HT_.out (by kernel_rfl)) (fun _ _ _ h => h) (Or.inl ⟨by rfl, ?_⟩) ?_ ?_
                                        rotate_left
                                        · intro w'
                                          go_simp
                                          first | with_reducible rfl | (rw [if_neg (by (try simp only [ByteArray.size_extract, ByteArray.size_append, decide_eq_true_eq, eq_iff_iff, iff_true] at *); omega)])
                                        rotate_left
                                        · simp only [Act.put, List.setIfInBounds_toArray, List.set_cons_zero, List.set_cons_succ, i64_w, i32_w]
                                          rfl
                                        refine pure_ (i := 2) (N := some 64) (v := ?_) (a' := ?_) #[true, true, true, false, false, false, false, false, false, false, false, false, false, false, false] rfl rfl (any_of HT_.out (by kernel_rfl)) (fun _ _ _ h => h) (Or.inl ⟨by rfl, ?_⟩) ?_ ?_
                                        rotate_left
                                        · intro w'
                                          go_simp
                                          first | with_reducible rfl | (rw [if_neg (by (try simp only [ByteArray.size_extract, ByteArray.size_append, decide_eq_true_eq, eq_iff_iff, iff_true] at *); omega)])
                                        rotate_left
                                        · simp only [Act.put, List.setIfInBounds_toArray, List.set_cons_zero, List.set_cons_succ, i64_w, i32_w]
                                          rfl
                                        refine pure_ (i := 3) (N := some 65) (v := ?_) (a' := ?_) #[true, true, true, true, false, false, false, false, false, false, false, false, false, false, false] rfl rfl (any_of HT_.out (by kernel_rfl)) (fun _ _ _ h => h) (Or.inl ⟨by rfl, ?_⟩) ?_ ?_
                                        rotate_left
                                        · intro w'
                                          go_simp
                                          first | with_reducible rfl | (rw [if_neg (by (try simp only [ByteArray.size_extract, ByteArray.size_append, decide_eq_true_eq, eq_iff_iff, iff_true] at *); omega)])
                                        rotate_left
                                        · simp only [Act.put, List.setIfInBounds_toArray, List.set_cons_zero, List.set_cons_succ, i64_w, i32_w]
                                          rfl
                                        refine pure_ (i := 4) (N := some 66) (v := ?_) (a' := ?_) #[true, true, true, true, true, false, false, false, false, false, false, false, false, false, false] rfl rfl (any_of HT_.out (by kernel_rfl)) (fun _ _ _ h => h) (Or.inl ⟨by rfl, ?_⟩) ?_ ?_
                                        rotate_left
                                        · intro w'
                                          go_simp
                                          first | with_reducible rfl | (rw [if_neg (by (try simp only [ByteArray.size_extract, ByteArray.size_append, decide_eq_true_eq, eq_iff_iff, iff_true] at *); omega)])
                                        rotate_left
                                        · simp only [Act.put, List.setIfInBounds_toArray, List.set_cons_zero, List.set_cons_succ, i64_w, i32_w]
                                          rfl
                                        refine pure_ (i := 5) (N := some 67) (v := ?_) (a' := ?_) #[true, true, true, true, true, true, false, false, false, false, false, false, false, false, false] rfl rfl (any_of HT_.out (by kernel_rfl)) (fun _ _ _ h => h) (Or.inl ⟨by rfl, ?_⟩) ?_ ?_
                                        rotate_left
                                        · intro w'
                                          go_simp
                                          first | with_reducible rfl | (rw [if_neg (by (try simp only [ByteArray.size_extract, ByteArray.size_append, decide_eq_true_eq, eq_iff_iff, iff_true] at *); omega)])
                                        rotate_left
                                        · simp only [Act.put, List.setIfInBounds_toArray, List.set_cons_zero, List.set_cons_succ, i64_w, i32_w]
                                          rfl
                                        refine pure_ (i := 6) (N := some 68) (v := ?_) (a' := ?_) #[true, true, true, true, true, true, true, false, false, false, false, false, false, false, false] rfl rfl (any_of HT_.out (by kernel_rfl)) (fun _ _ _ h => h) (Or.inl ⟨by rfl, ?_⟩) ?_ ?_
                                        rotate_left
                                        · intro w'
                                          go_simp
                                          first | with_reducible rfl | (rw [if_neg (by (try simp only [ByteArray.size_extract, ByteArray.size_append, decide_eq_true_eq, eq_iff_iff, iff_true] at *); omega)])
                                        rotate_left
                                        · simp only [Act.put, List.setIfInBounds_toArray, List.set_cons_zero, List.set_cons_succ, i64_w, i32_w]
                                          rfl
                                        refine pure_ (i := 7) (N := some 69) (v := ?_) (a' := ?_) #[true, true, true, true, true, true, true, true, false, false, false, false, false, false, false] rfl rfl (any_of HT_.out (by kernel_rfl)) (fun _ _ _ h => h) (Or.inl ⟨by rfl, ?_⟩) ?_ ?_
                                        rotate_left
                                        · intro w'
                                          go_simp
                                          first | with_reducible rfl | (rw [if_neg (by (try simp only [ByteArray.size_extract, ByteArray.size_append, decide_eq_true_eq, eq_iff_iff, iff_true] at *); omega)])
                                        rotate_left
                                        · simp only [Act.put, List.setIfInBounds_toArray, List.set_cons_zero, List.set_cons_succ, i64_w, i32_w]
                                          rfl
                                        refine pure_ (i := 8) (N := some 70) (v := ?_) (a' := ?_) #[true, true, true, true, true, true, true, true, true, false, false, false, false, false, false] rfl rfl (any_of HT_.out (by kernel_rfl)) (fun _ _ _ h => h) (Or.inl ⟨by rfl, ?_⟩) ?_ ?_
                                        rotate_left
                                        · intro w'
                                          go_simp
                                          first | with_reducible rfl | (rw [if_neg (by (try simp only [ByteArray.size_extract, ByteArray.size_append, decide_eq_true_eq, eq_iff_iff, iff_true] at *); omega)])
                                        rotate_left
                                        · simp only [Act.put, List.setIfInBounds_toArray, List.set_cons_zero, List.set_cons_succ, i64_w, i32_w]
                                          rfl
                                        refine pure_ (i := 9) (N := some 71) (v := ?_) (a' := ?_) #[true, true, true, true, true, true, true, true, true, true, false, false, false, false, false] rfl rfl (any_of HT_.out (by kernel_rfl)) (fun _ _ _ h => h) (Or.inl ⟨by rfl, ?_⟩) ?_ ?_
                                        rotate_left
                                        · intro w'
                                          go_simp
                                          first | with_reducible rfl | (rw [if_neg (by (try simp only [ByteArray.size_extract, ByteArray.size_append, decide_eq_true_eq, eq_iff_iff, iff_true] at *); omega)])
                                        rotate_left
                                        · simp only [Act.put, List.setIfInBounds_toArray, List.set_cons_zero, List.set_cons_succ, i64_w, i32_w]
                                          rfl
                                        refine pure_ (i := 10) (N := some 72) (v := ?_) (a' := ?_) #[true, true, true, true, true, true, true, true, true, true, true, false, false, false, false] rfl rfl (any_of HT_.out (by kernel_rfl)) (fun _ _ _ h => h) (Or.inl ⟨by rfl, ?_⟩) ?_ ?_
                                        rotate_left
                                        · intro w'
                                          go_simp
                                          first | with_reducible rfl | (rw [if_neg (by (try simp only [ByteArray.size_extract, ByteArray.size_append, decide_eq_true_eq, eq_iff_iff, iff_true] at *); omega)])
                                        rotate_left
                                        · simp only [Act.put, List.setIfInBounds_toArray, List.set_cons_zero, List.set_cons_succ, i64_w, i32_w]
                                          rfl
                                        refine pure_ (i := 11) (N := some 73) (v := ?_) (a' := ?_) #[true, true, true, true, true, true, true, true, true, true, true, true, false, false, false] rfl rfl (any_of HT_.out (by kernel_rfl)) (fun _ _ _ h => h) (Or.inl ⟨by rfl, ?_⟩) ?_ ?_
                                        rotate_left
                                        · intro w'
                                          go_simp
                                          first | with_reducible rfl | (rw [if_neg (by (try simp only [ByteArray.size_extract, ByteArray.size_append, decide_eq_true_eq, eq_iff_iff, iff_true] at *); omega)])
                                        rotate_left
                                        · simp only [Act.put, List.setIfInBounds_toArray, List.set_cons_zero, List.set_cons_succ, i64_w, i32_w]
                                          rfl
                                        refine one_ (i := 12) (N := some 74) #[true, true, true, true, true, true, true, true, true, true, true, true, true, false, false] rfl rfl (one_of HT_.out (by kernel_rfl)) (by decide) (fun K hK => ?_)
                                        refine Kd.R_lit_step Kd.string _ 9 ?hg (N := 74) ?hd (xs := ([t126.extract 0 ((ji25) : Int).toNat, (t126.extract 0 ((ji25) : Int).toNat) ++ (⟨#[128, 0]⟩ : ByteArray)] : List ByteArray)) (inner := [.string (t126.extract 0 ((ji25) : Int).toNat), .string ((t126.extract 0 ((ji25) : Int).toNat) ++ (⟨#[128, 0]⟩ : ByteArray))]) (ok := fun _ => True) (okp := fun _ => True) ?hr ?hp (fun _ hk => hk) trivial (Below.refl _ _) (Nat.le_refl _) (by simp) ?_; (case hd => rfl); (case hg => rfl); (case hr => first | (go_simp; done) | (go_simp; rfl)); (case hp => exact (Reps.one (show Kd.M Kd.string _ _ _ (t126.extract 0 ((ji25) : Int).toNat) [.string (t126.extract 0 ((ji25) : Int).toNat)] from rfl) (Reps.one (show Kd.M Kd.string _ _ _ ((t126.extract 0 ((ji25) : Int).toNat) ++ (⟨#[128, 0]⟩ : ByteArray)) [.string ((t126.extract 0 ((ji25) : Int).toNat) ++ (⟨#[128, 0]⟩ : ByteArray))] from rfl) (Reps.none _ _))))
                                        intro v136 w33 ho34 hb hg_ hnew_
                                        clear hg_ hnew_
                                        (first | rw [← Ny135.out] at ho34 | (simp only [Int.reduceToNat] at ho34; rw [← Ny135.out] at ho34))
                                        have n0_ := Aside0.mk (Kd.R_elder' (by (with_reducible repeat (first | apply Kd.R_alloc | apply Kd.R_drewN | apply Kd.R_drew)); exact HO134.out) (Kd.R_base ho34) hb)
                                        have n1_ := Aside0.mk (Kd.R_lower (Kd.R_new' ho34 (Kd.R_lt (by (with_reducible repeat (first | apply Kd.R_alloc | apply Kd.R_drewN | apply Kd.R_drew)); exact HO134.out))) (below_size (by repeat (first | (with_reducible first | exact HB.out | apply below_alloc | apply pw_below_drewN | apply below_drew1 | refine below_set ?_ GE124.out) | exact HB.out))))
                                        have n2_ := Aside0.mk (blk_below (g := gb124) (o := .cells #[.slice A0_0 l0_0.length c0_0, .slice A0_1 l0_1.length c0_1] 25 (0, 0)) (by (with_reducible repeat (first | refine blk_drewN ?_ _ | refine blk_drew ?_ | refine blk_alloc ?_ _)); exact BK124.out) hb)
                                        have n3_ := Aside0.mk (below_step (by repeat (first | (with_reducible first | exact HB.out | apply below_alloc | apply pw_below_drewN | apply below_drew1 | refine below_set ?_ GE124.out) | exact HB.out)) hb)
                                        clear HO134
                                        clear BK124
                                        clear HB
                                        have HO134 := n0_
                                        have HO137 := n1_
                                        have BK124 := n2_
                                        have HB := n3_
                                        clear n0_ n1_ n2_ n3_
                                        clear hb ho34
                                        obtain ⟨Ao36, co36, eo36⟩ := Kd.R_slice HO137.out
                                        (first | subst eo36 | (injection eo36 with f1_ f2_ f3_; have f4_ := f1_.symm; have f5_ := f3_.symm; clear f1_ f2_ f3_; subst f4_; subst f5_))
                                        refine hK.out _ _ trivial (fun hHeld => ?_)
                                        clear hK K
                                        refine norm_ (a' := ?_) ?_ ?_
                                        rotate_left
                                        · show Act.put _ (some 74) _ = _
                                          simp only [Act.put, List.setIfInBounds_toArray, List.set_cons_zero, List.set_cons_succ, i64_w, i32_w]
                                          rfl
                                        refine one_ (i := 13) (N := some 75) #[true, true, true, true, true, true, true, true, true, true, true, true, true, true, false] rfl rfl (one_of HT_.out (by kernel_rfl)) (by decide) (fun K hK => ?_)
                                        refine Kd.R_append_rows_step Kd.string (w0 := w) w.heap.size (by rfl) (.tmp 62) (.tmp 74) 23 9 (.string ⟨#[]⟩) 16 rfl Try.underlying23 info9 rfl (by decide) (by omega) v133 y132 y135 _ _ _ (fun k_ => some k_ ≠ (.slice Ao36 y135.length co36 : Value).ownBlock) (fun _ => False) rfl rfl ?aO ?aR (fun _ _ h => h) (fun _ h => h.elim) ?aF ?aB ?aS ?aL ?_
                                        (case aR => repeat (first | exact (Kd.R_reads' HO137.out).2.2 | (with_reducible refine Kd.C_alloc ?_ _) | (with_reducible refine Kd.C_drewN ?_ _) | (with_reducible refine Kd.C_drew ?_)))
                                        (case aB => exact (by repeat (first | (with_reducible first | exact HB.out | apply below_alloc | apply pw_below_drewN | apply below_drew1 | refine below_set ?_ GE124.out) | exact HB.out)))
                                        (case aF => exact (fun k_ hk => Kd.fresh' (Kd.R_lt (by (with_reducible repeat (first | apply Kd.R_alloc | apply Kd.R_drewN | apply Kd.R_drew)); exact HO137.out)) k_ hk))
                                        (case aO => exact (by (with_reducible repeat (first | apply Kd.R_alloc | apply Kd.R_drewN | apply Kd.R_drew)); exact Kd.R_mono HO134.out (fun _ hk => hk.2)))
                                        (case aS => exact (below_size (by repeat (first | (with_reducible first | exact HB.out | apply below_alloc | apply pw_below_drewN | apply below_drew1 | refine below_set ?_ GE124.out) | exact HB.out))))
                                        (case aL => have := LMc31.out; omega)
                                        intro v139 w35 ho hb hg hat
                                        rw [← Ny138.out] at ho
                                        have n0_ := Aside0.mk (blk_grown (g := gb124) (o := .cells #[.slice A0_0 l0_0.length c0_0, .slice A0_1 l0_1.length c0_1] 25 (0, 0)) (by (with_reducible repeat (first | refine blk_drewN ?_ _ | refine blk_drew ?_ | refine blk_alloc ?_ _)); exact BK124.out) hg (Kd.R_ne HO134.out BK124.out (by decide)))
                                        have n1_ := Aside0.mk (Kd.R_after (ok := (fun _ => True)) (by (with_reducible repeat (first | apply Kd.R_alloc | apply Kd.R_drewN | apply Kd.R_drew)); exact HO137.out) hg hat)
                                        have n2_ := Aside0.mk (hb)
                                        have n3_ := Aside0.mk (ho)
                                        clear BK124
                                        clear HO137
                                        clear HB
                                        clear HO134
                                        have BK124 := n0_
                                        have HO137 := n1_
                                        have HB := n2_
                                        have HO140 := n3_
                                        clear n0_ n1_ n2_ n3_
                                        clear ho hb hg hat
                                        refine hK.out _ _ trivial (fun hHeld => ?_)
                                        clear hK K
                                        refine norm_ (a' := ?_) ?_ ?_
                                        rotate_left
                                        · show Act.put _ (some 75) _ = _
                                          simp only [Act.put, List.setIfInBounds_toArray, List.set_cons_zero, List.set_cons_succ, i64_w, i32_w]
                                          rfl
                                        refine pure_ (i := 14) (N := some 8) (v := ?_) (a' := ?_) #[true, true, true, true, true, true, true, true, true, true, true, true, true, true, true] rfl rfl (any_of HT_.out (by kernel_rfl)) (fun _ _ _ h => h) (Or.inl ⟨by rfl, ?_⟩) ?_ ?_
                                        rotate_left
                                        · intro w'
                                          go_simp
                                          first | with_reducible rfl | (rw [if_neg (by (try simp only [ByteArray.size_extract, ByteArray.size_append, decide_eq_true_eq, eq_iff_iff, iff_true] at *); omega)])
                                        rotate_left
                                        · simp only [Act.put, List.setIfInBounds_toArray, List.set_cons_zero, List.set_cons_succ, i64_w, i32_w]
                                          rfl
                                        refine done_ (done_of HT_.out (by kernel_rfl)) ?_
                                        try go_wp2
                                        go_meet
                                        case rel => exact ⟨_, (y138), H', ⟨by have := HK1.out; have := HK2.out; have := HJ7.out; first | omega | exact Nat.le_refl _⟩, ⟨by (with_reducible repeat (first | apply Kd.R_alloc | apply Kd.R_drewN | apply Kd.R_drew)); exact Kd.R_mono HO140.out (fun _ hk => trivial)⟩, ⟨by (with_reducible repeat (first | refine blk_drewN ?_ _ | refine blk_drew ?_ | refine blk_alloc ?_ _)); exact BK124.out⟩, ⟨by repeat (first | (with_reducible first | exact HB.out | apply below_alloc | apply pw_below_drewN | apply below_drew1 | refine below_set ?_ GE124.out) | exact HB.out)⟩⟩
                                      · rw [if_neg c31] at H
                                        exact absurd H (by simp)
                                    · rw [if_neg c30] at H
                                      exact absurd H (by simp)
                                  · rw [if_neg c27] at H
                                    exact absurd H (by simp)
                                · rw [if_neg c26] at H
                                  exact absurd H (by simp)
                              · rw [if_neg c24] at H
                                have c24b0 : decide (0 < (t126.size : Int)) = false := decide_eq_false c24
                                have c24b1 : decide (0 < t126.size) = false := decide_eq_false (by omega)
                                have c24b2 : ¬ (0 < t126.size) := by omega
                                clear c24
                                (first | rw [c24b0] | (simp only [i64_w, i32_w]; rw [c24b0]) | skip)
                                have H' := Aside0.mk H
                                clear H
                                go_wp2
                                go_meet
                                case rel => exact ⟨_, (y132), H', ⟨by have := HK1.out; have := HK2.out; have := HJ7.out; first | omega | exact Nat.le_refl _⟩, ⟨by (with_reducible repeat (first | apply Kd.R_alloc | apply Kd.R_drewN | apply Kd.R_drew)); exact HO134.out⟩, ⟨by (with_reducible repeat (first | refine blk_drewN ?_ _ | refine blk_drew ?_ | refine blk_alloc ?_ _)); exact BK124.out⟩, ⟨by repeat (first | (with_reducible first | exact HB.out | apply below_alloc | apply pw_below_drewN | apply below_drew1 | refine below_set ?_ GE124.out) | exact HB.out)⟩⟩
                            case rest =>
                              clear HC21
                              try clear c1
                              try clear c2
                              try clear p2
                              try clear c3
                              try clear c3b0
                              try clear c4
                              try clear c4b0
                              try clear c5
                              try clear c5b0
                              try clear c5b1
                              try clear p6
                              try clear c12
                              try clear c12b0
                              try clear c12b1
                              try clear c12b2
                              try clear c13
                              try clear c14
                              try clear c14b0
                              try clear c14b1
                              try clear c15
                              try clear c17
                              try clear c18
                              try clear c18b0
                              try clear c18b1
                              try clear c18b2
                              try clear c19
                              try clear c19b0
                              try clear c19b1
                              try clear c19b2
                              try clear c20
                              try clear c20b0
                              try clear c20b1
                              try clear c20b2
                              try clear c24
                              try clear c24b0
                              try clear c24b1
                              try clear c24b2
                              try clear c26
                              try clear c26b0
                              try clear c26b1
                              try clear c27
                              try clear c27b0
                              try clear c27b1
                              try clear c28
                              try clear c28b0
                              try clear c29
                              try clear c29b0
                              try clear c30
                              try clear c30b0
                              try clear c30b1
                              try clear c30b2
                              try clear c31
                              try clear p2
                              try clear p6
                              obtain ⟨kq, x8_20, HA, HJ20, HO_8, BK124, HB⟩ := hcut
                              cases kq with
                              | zero => exact absurd HA.out (by simp [lectionarylaw1_NumberEdges.j3])
                              | succ kj20 =>
                                have H := HA.out
                                clear HA
                                simp only [lectionarylaw1_NumberEdges.j3] at H
                                have H' := Aside0.mk H
                                clear H
                                go_wp2
                                go_loopg [9] kj20 (fun kq v9 w' => ∃ (x9_5 : Int), v9 = .int .i64 x9_5 ∧ Aside0 (lectionarylaw1_NumberEdges.l2 kq x3_1 x4_2 x8_20 x9_5 l0_0 l0_1 = some r) ∧ Aside0 (kq ≤ kj20) ∧ Aside0 (Kd.R Kd.string 9 w' w.heap.size (fun _ => True) u8 x8_20) ∧ Aside0 (w'.heap[gb124]? = some (.cells #[(.slice A0_0 l0_0.length c0_0), (.slice A0_1 l0_1.length c0_1)] 25 (0, 0))) ∧ Aside0 (Below w.heap.size w w'))
                                case atStart => exact ⟨(0), (by first | rfl | (simp; done) | (simp [*]; done)), H', ⟨Nat.le_refl _⟩, ⟨by (with_reducible repeat (first | apply Kd.R_alloc | apply Kd.R_drewN | apply Kd.R_drew)); exact HO_8.out⟩, ⟨by (with_reducible repeat (first | refine blk_drewN ?_ _ | refine blk_drew ?_ | refine blk_alloc ?_ _)); exact BK124.out⟩, ⟨by repeat (first | (with_reducible first | exact HB.out | apply below_alloc | apply pw_below_drewN | apply below_drew1 | refine below_set ?_ GE124.out) | exact HB.out)⟩⟩
                                case round =>
                                  clear H'
                                  try clear c1
                                  try clear c2
                                  try clear p2
                                  try clear c3
                                  try clear c3b0
                                  try clear c4
                                  try clear c4b0
                                  try clear c5
                                  try clear c5b0
                                  try clear c5b1
                                  try clear p6
                                  try clear c12
                                  try clear c12b0
                                  try clear c12b1
                                  try clear c12b2
                                  try clear c13
                                  try clear c14
                                  try clear c14b0
                                  try clear c14b1
                                  try clear c15
                                  try clear c17
                                  try clear c18
                                  try clear c18b0
                                  try clear c18b1
                                  try clear c18b2
                                  try clear c19
                                  try clear c19b0
                                  try clear c19b1
                                  try clear c19b2
                                  try clear c20
                                  try clear c20b0
                                  try clear c20b1
                                  try clear c20b2
                                  try clear c24
                                  try clear c24b0
                                  try clear c24b1
                                  try clear c24b2
                                  try clear c26
                                  try clear c26b0
                                  try clear c26b1
                                  try clear c27
                                  try clear c27b0
                                  try clear c27b1
                                  try clear c28
                                  try clear c28b0
                                  try clear c29
                                  try clear c29b0
                                  try clear c30
                                  try clear c30b0
                                  try clear c30b1
                                  try clear c30b2
                                  try clear c31
                                  try clear p2
                                  try clear p6
                                  obtain ⟨x9_5, rfl, HA, HK5, HO_8, BK124, HB⟩ := hrel
                                  cases gk with
                                  | zero => exact absurd HA.out (by simp [lectionarylaw1_NumberEdges.l2])
                                  | succ k5 =>
                                    have H := HA.out
                                    clear HA
                                    simp only [lectionarylaw1_NumberEdges.l2] at H
                                    by_cases c37 : x9_5 < (x8_20.length : Int)
                                    · rw [if_pos c37] at H
                                      have c37b0 : decide (x9_5 < (x8_20.length : Int)) = true := decide_eq_true c37
                                      clear c37
                                      by_cases c38 : 0 ≤ x9_5
                                      · rw [if_pos c38] at H
                                        have c38b0 : decide (0 ≤ x9_5) = true := decide_eq_true c38
                                        clear c38
                                        replace H := Option.bind_eq_some_iff.mp H
                                        obtain ⟨⟨t142, t143, t144⟩, A390, H⟩ := H
                                        replace H : ((lectionaryref1_Take.f k5 (rdOf ByteArray.empty x8_20 x9_5)).bind fun bt146 => ((lectionarylaw1_num.f t144).bind fun t149 => (if (bt146.2.2 != (t149 == 0)) = true then (some false) else (if t142 = bt146.1 then (if t143.toList = bt146.2.1.toList then (lectionarylaw1_NumberEdges.l2 k5 x3_1 x4_2 x8_20 (wrap64 (x9_5 + 1)) l0_0 l0_1) else (some false)) else (some false))))) = some r := H
                                        have A39 := Aside0.mk A390
                                        clear A390
                                        replace H := Option.bind_eq_some_iff.mp H
                                        obtain ⟨⟨t146, t147, t148⟩, A400, H⟩ := H
                                        replace H : ((lectionarylaw1_num.f t144).bind fun t149 => (if (t148 != (t149 == 0)) = true then (some false) else (if t142 = t146 then (if t143.toList = t147.toList then (lectionarylaw1_NumberEdges.l2 k5 x3_1 x4_2 x8_20 (wrap64 (x9_5 + 1)) l0_0 l0_1) else (some false)) else (some false)))) = some r := H
                                        have A40 := Aside0.mk A400
                                        clear A400
                                        replace H := Option.bind_eq_some_iff.mp H
                                        obtain ⟨t149, A410, H⟩ := H
                                        replace H : (if (t148 != (t149 == 0)) = true then (some false) else (if t142 = t146 then (if t143.toList = t147.toList then (lectionarylaw1_NumberEdges.l2 k5 x3_1 x4_2 x8_20 (wrap64 (x9_5 + 1)) l0_0 l0_1) else (some false)) else (some false))) = some r := H
                                        have A41 := Aside0.mk A410
                                        clear A410
                                        by_cases c42 : (t148 != (t149 == 0)) = true
                                        · rw [if_pos c42] at H
                                          have c42b0 : (t148 != (t149 == 0)) = true := c42
                                          (try (have c42b1 : decide (t148 = (t149 == 0)) = false := by simpa using c42))
                                          (try (have c42b2 : (t148 == (t149 == 0)) = false := by simpa using c42))
                                          (try (have c42b3 : ¬ (t148 = (t149 == 0)) := by simpa using c42))
                                          clear c42
                                          obtain rfl := Option.some.inj H
                                          obtain ⟨Ao43, co43, eo43⟩ := Kd.R_slice HO_8.out
                                          subst eo43
                                          have p141 : 0 ≤ (x9_5 : Int) := of_decide_eq_true (by first | (with_reducible assumption) | assumption)
                                          have q141 : x9_5 < (x8_20.length : Int) := of_decide_eq_true (by first | (with_reducible assumption) | assumption)
                                          obtain ⟨ad141, e141, hx141_0⟩ := Kd.at_string (Kd.R_reads' HO_8.out).2.2 x9_5 p141 q141
                                          cases e141
                                          replace p141 := eq_true p141
                                          replace q141 := eq_true q141
                                          go_wp2_with (first | ((with_reducible refine gate_callee (f := 17) rfl ?_); refine goesL_ (some 87) rfl rfl Try.func17 (by kernel_rfl) rfl #[.string (rdOf ByteArray.empty x8_20 x9_5)] rfl (by (try simp only [List.map_toArray, List.map_cons, List.map_nil]); first | done | rfl | (simp only [List.length_drop, List.length_take]; rfl)) ?_; (with_reducible refine (number_Take.calls k5 (rdOf ByteArray.empty x8_20 x9_5) t142 t143 t144 _ A39.out).mono ?_); rintro e w44 ⟨rfl, hb⟩; refine ⟨_, rfl, ?_⟩; have n0_ := Aside0.mk (Kd.R_below (by (with_reducible repeat (first | apply Kd.R_alloc | apply Kd.R_drewN | apply Kd.R_drew)); exact HO_8.out) hb); have n1_ := Aside0.mk (blk_below (g := gb124) (o := .cells #[.slice A0_0 l0_0.length c0_0, .slice A0_1 l0_1.length c0_1] 25 (0, 0)) (by (with_reducible repeat (first | refine blk_drewN ?_ _ | refine blk_drew ?_ | refine blk_alloc ?_ _)); exact BK124.out) hb); have n2_ := Aside0.mk (below_step (by repeat (first | (with_reducible first | exact HB.out | apply below_alloc | apply pw_below_drewN | apply below_drew1 | refine below_set ?_ GE124.out) | exact HB.out)) hb); clear HO_8; clear BK124; clear HB; have HO_8 := n0_; have BK124 := n1_; have HB := n2_; clear n0_ n1_ n2_; (try clear hb); (try clear hb2); (try clear hk); (try clear hi); have p145 : 0 ≤ (x9_5 : Int) := of_decide_eq_true (by first | (with_reducible assumption) | assumption); have q145 : x9_5 < (x8_20.length : Int) := of_decide_eq_true (by first | (with_reducible assumption) | assumption); obtain ⟨ad145, e145, hx145_0⟩ := Kd.at_string (Kd.R_reads' HO_8.out).2.2 x9_5 p145 q145; obtain rfl : ad141 = ad145 := (by injection e145); replace p145 := eq_true p145; replace q145 := eq_true q145) | ((with_reducible refine gate_callee (f := 18) rfl ?_); refine goesL_ (some 96) rfl rfl Try.func18 (by kernel_rfl) rfl #[.string (rdOf ByteArray.empty x8_20 x9_5)] rfl (by (try simp only [List.map_toArray, List.map_cons, List.map_nil]); first | done | rfl | (simp only [List.length_drop, List.length_take]; rfl)) ?_; (with_reducible refine (lectionaryref1_Take.calls k5 (rdOf ByteArray.empty x8_20 x9_5) t146 t147 t148 _ A40.out).mono ?_); rintro e w45 ⟨rfl, hb⟩; refine ⟨_, rfl, ?_⟩; have n0_ := Aside0.mk (Kd.R_below (by (with_reducible repeat (first | apply Kd.R_alloc | apply Kd.R_drewN | apply Kd.R_drew)); exact HO_8.out) hb); have n1_ := Aside0.mk (blk_below (g := gb124) (o := .cells #[.slice A0_0 l0_0.length c0_0, .slice A0_1 l0_1.length c0_1] 25 (0, 0)) (by (with_reducible repeat (first | refine blk_drewN ?_ _ | refine blk_drew ?_ | refine blk_alloc ?_ _)); exact BK124.out) hb); have n2_ := Aside0.mk (below_step (by repeat (first | (with_reducible first | exact HB.out | apply below_alloc | apply pw_below_drewN | apply below_drew1 | refine below_set ?_ GE124.out) | exact HB.out)) hb); clear HO_8; clear BK124; clear HB; have HO_8 := n0_; have BK124 := n1_; have HB := n2_; clear n0_ n1_ n2_; (try clear hb); (try clear hb2); (try clear hk); (try clear hi)) | ((with_reducible refine gate_callee (f := 15) rfl ?_); refine goesL_ (some 102) rfl rfl Try.func15 (by kernel_rfl) rfl #[.int .i64 t144] rfl (by (try simp only [List.map_toArray, List.map_cons, List.map_nil]); first | done | rfl | (simp only [List.length_drop, List.length_take]; rfl)) ?_; (with_reducible refine (lectionarylaw1_num.calls t144 t149 _ A41.out).mono ?_); rintro e w' ⟨rfl, ⟨nd, rfl⟩⟩; refine ⟨_, rfl, ?_⟩))
                                          go_ret
                                          exact ⟨by first | rfl | (simp [errW_none, errW_some] <;> rfl) | (simp only [← hji6]; first | rfl | (simp [errW_none, errW_some] <;> rfl)) | (simp [*, errW_none, errW_some] <;> rfl), by repeat (first | (with_reducible first | exact HB.out | apply below_alloc | apply pw_below_drewN | apply below_drew1 | refine below_set ?_ GE124.out) | exact HB.out)⟩
                                        · rw [if_neg c42] at H
                                          have c42b0 : (t148 != (t149 == 0)) = false := by simpa using c42
                                          (try (have c42b1 : decide (t148 = (t149 == 0)) = true := by simpa using c42))
                                          (try (have c42b2 : (t148 == (t149 == 0)) = true := by simpa using c42))
                                          clear c42
                                          by_cases c46 : t142 = t146
                                          · rw [if_pos c46] at H
                                            have c46b0 : (t142 == t146) = true := beq_iff_eq.mpr c46
                                            have c46b1 : (t142 != t146) = false := bne_eq_false_iff_eq.mpr c46
                                            clear c46
                                            by_cases c47 : t143.toList = t147.toList
                                            · rw [if_pos c47] at H
                                              have c47b0 : (t143.toList == t147.toList) = true := beq_iff_eq.mpr c47
                                              have c47b1 : (t143.toList != t147.toList) = false := bne_eq_false_iff_eq.mpr c47
                                              clear c47
                                              have H' := Aside0.mk H
                                              clear H
                                              obtain ⟨Ao48, co48, eo48⟩ := Kd.R_slice HO_8.out
                                              subst eo48
                                              have p141 : 0 ≤ (x9_5 : Int) := of_decide_eq_true (by first | (with_reducible assumption) | assumption)
                                              have q141 : x9_5 < (x8_20.length : Int) := of_decide_eq_true (by first | (with_reducible assumption) | assumption)
                                              obtain ⟨ad141, e141, hx141_0⟩ := Kd.at_string (Kd.R_reads' HO_8.out).2.2 x9_5 p141 q141
                                              cases e141
                                              replace p141 := eq_true p141
                                              replace q141 := eq_true q141
                                              go_wp2_with (first | ((with_reducible refine gate_callee (f := 17) rfl ?_); refine goesL_ (some 87) rfl rfl Try.func17 (by kernel_rfl) rfl #[.string (rdOf ByteArray.empty x8_20 x9_5)] rfl (by (try simp only [List.map_toArray, List.map_cons, List.map_nil]); first | done | rfl | (simp only [List.length_drop, List.length_take]; rfl)) ?_; (with_reducible refine (number_Take.calls k5 (rdOf ByteArray.empty x8_20 x9_5) t142 t143 t144 _ A39.out).mono ?_); rintro e w49 ⟨rfl, hb⟩; refine ⟨_, rfl, ?_⟩; have n0_ := Aside0.mk (Kd.R_below (by (with_reducible repeat (first | apply Kd.R_alloc | apply Kd.R_drewN | apply Kd.R_drew)); exact HO_8.out) hb); have n1_ := Aside0.mk (blk_below (g := gb124) (o := .cells #[.slice A0_0 l0_0.length c0_0, .slice A0_1 l0_1.length c0_1] 25 (0, 0)) (by (with_reducible repeat (first | refine blk_drewN ?_ _ | refine blk_drew ?_ | refine blk_alloc ?_ _)); exact BK124.out) hb); have n2_ := Aside0.mk (below_step (by repeat (first | (with_reducible first | exact HB.out | apply below_alloc | apply pw_below_drewN | apply below_drew1 | refine below_set ?_ GE124.out) | exact HB.out)) hb); clear HO_8; clear BK124; clear HB; have HO_8 := n0_; have BK124 := n1_; have HB := n2_; clear n0_ n1_ n2_; (try clear hb); (try clear hb2); (try clear hk); (try clear hi); have p145 : 0 ≤ (x9_5 : Int) := of_decide_eq_true (by first | (with_reducible assumption) | assumption); have q145 : x9_5 < (x8_20.length : Int) := of_decide_eq_true (by first | (with_reducible assumption) | assumption); obtain ⟨ad145, e145, hx145_0⟩ := Kd.at_string (Kd.R_reads' HO_8.out).2.2 x9_5 p145 q145; obtain rfl : ad141 = ad145 := (by injection e145); replace p145 := eq_true p145; replace q145 := eq_true q145) | ((with_reducible refine gate_callee (f := 18) rfl ?_); refine goesL_ (some 96) rfl rfl Try.func18 (by kernel_rfl) rfl #[.string (rdOf ByteArray.empty x8_20 x9_5)] rfl (by (try simp only [List.map_toArray, List.map_cons, List.map_nil]); first | done | rfl | (simp only [List.length_drop, List.length_take]; rfl)) ?_; (with_reducible refine (lectionaryref1_Take.calls k5 (rdOf ByteArray.empty x8_20 x9_5) t146 t147 t148 _ A40.out).mono ?_); rintro e w50 ⟨rfl, hb⟩; refine ⟨_, rfl, ?_⟩; have n0_ := Aside0.mk (Kd.R_below (by (with_reducible repeat (first | apply Kd.R_alloc | apply Kd.R_drewN | apply Kd.R_drew)); exact HO_8.out) hb); have n1_ := Aside0.mk (blk_below (g := gb124) (o := .cells #[.slice A0_0 l0_0.length c0_0, .slice A0_1 l0_1.length c0_1] 25 (0, 0)) (by (with_reducible repeat (first | refine blk_drewN ?_ _ | refine blk_drew ?_ | refine blk_alloc ?_ _)); exact BK124.out) hb); have n2_ := Aside0.mk (below_step (by repeat (first | (with_reducible first | exact HB.out | apply below_alloc | apply pw_below_drewN | apply below_drew1 | refine below_set ?_ GE124.out) | exact HB.out)) hb); clear HO_8; clear BK124; clear HB; have HO_8 := n0_; have BK124 := n1_; have HB := n2_; clear n0_ n1_ n2_; (try clear hb); (try clear hb2); (try clear hk); (try clear hi)) | ((with_reducible refine gate_callee (f := 15) rfl ?_); refine goesL_ (some 102) rfl rfl Try.func15 (by kernel_rfl) rfl #[.int .i64 t144] rfl (by (try simp only [List.map_toArray, List.map_cons, List.map_nil]); first | done | rfl | (simp only [List.length_drop, List.length_take]; rfl)) ?_; (with_reducible refine (lectionarylaw1_num.calls t144 t149 _ A41.out).mono ?_); rintro e w' ⟨rfl, ⟨nd, rfl⟩⟩; refine ⟨_, rfl, ?_⟩))
                                              go_roundg k5
                                              case measure => have := HK1.out; have := HK2.out; have := HJ7.out; have := HJ20.out; have := HK5.out; omega
                                              case rel => exact ⟨(wrap64 (x9_5 + 1)), (by first | rfl | (simp; done) | (simp [*]; done)), H', ⟨by have := HK1.out; have := HK2.out; have := HJ7.out; have := HJ20.out; have := HK5.out; omega⟩, ⟨by (with_reducible repeat (first | apply Kd.R_alloc | apply Kd.R_drewN | apply Kd.R_drew)); exact HO_8.out⟩, ⟨by (with_reducible repeat (first | refine blk_drewN ?_ _ | refine blk_drew ?_ | refine blk_alloc ?_ _)); exact BK124.out⟩, ⟨by repeat (first | (with_reducible first | exact HB.out | apply below_alloc | apply pw_below_drewN | apply below_drew1 | refine below_set ?_ GE124.out) | exact HB.out)⟩⟩
                                            · rw [if_neg c47] at H
                                              have c47b0 : (t143.toList == t147.toList) = false := beq_eq_false_iff_ne.mpr c47
                                              have c47b1 : (t143.toList != t147.toList) = true := bne_iff_ne.mpr c47
                                              obtain rfl := Option.some.inj H
                                              obtain ⟨Ao51, co51, eo51⟩ := Kd.R_slice HO_8.out
                                              subst eo51
                                              have p141 : 0 ≤ (x9_5 : Int) := of_decide_eq_true (by first | (with_reducible assumption) | assumption)
                                              have q141 : x9_5 < (x8_20.length : Int) := of_decide_eq_true (by first | (with_reducible assumption) | assumption)
                                              obtain ⟨ad141, e141, hx141_0⟩ := Kd.at_string (Kd.R_reads' HO_8.out).2.2 x9_5 p141 q141
                                              cases e141
                                              replace p141 := eq_true p141
                                              replace q141 := eq_true q141
                                              go_wp2_with (first | ((with_reducible refine gate_callee (f := 17) rfl ?_); refine goesL_ (some 87) rfl rfl Try.func17 (by kernel_rfl) rfl #[.string (rdOf ByteArray.empty x8_20 x9_5)] rfl (by (try simp only [List.map_toArray, List.map_cons, List.map_nil]); first | done | rfl | (simp only [List.length_drop, List.length_take]; rfl)) ?_; (with_reducible refine (number_Take.calls k5 (rdOf ByteArray.empty x8_20 x9_5) t142 t143 t144 _ A39.out).mono ?_); rintro e w52 ⟨rfl, hb⟩; refine ⟨_, rfl, ?_⟩; have n0_ := Aside0.mk (Kd.R_below (by (with_reducible repeat (first | apply Kd.R_alloc | apply Kd.R_drewN | apply Kd.R_drew)); exact HO_8.out) hb); have n1_ := Aside0.mk (blk_below (g := gb124) (o := .cells #[.slice A0_0 l0_0.length c0_0, .slice A0_1 l0_1.length c0_1] 25 (0, 0)) (by (with_reducible repeat (first | refine blk_drewN ?_ _ | refine blk_drew ?_ | refine blk_alloc ?_ _)); exact BK124.out) hb); have n2_ := Aside0.mk (below_step (by repeat (first | (with_reducible first | exact HB.out | apply below_alloc | apply pw_below_drewN | apply below_drew1 | refine below_set ?_ GE124.out) | exact HB.out)) hb); clear HO_8; clear BK124; clear HB; have HO_8 := n0_; have BK124 := n1_; have HB := n2_; clear n0_ n1_ n2_; (try clear hb); (try clear hb2); (try clear hk); (try clear hi); have p145 : 0 ≤ (x9_5 : Int) := of_decide_eq_true (by first | (with_reducible assumption) | assumption); have q145 : x9_5 < (x8_20.length : Int) := of_decide_eq_true (by first | (with_reducible assumption) | assumption); obtain ⟨ad145, e145, hx145_0⟩ := Kd.at_string (Kd.R_reads' HO_8.out).2.2 x9_5 p145 q145; obtain rfl : ad141 = ad145 := (by injection e145); replace p145 := eq_true p145; replace q145 := eq_true q145) | ((with_reducible refine gate_callee (f := 18) rfl ?_); refine goesL_ (some 96) rfl rfl Try.func18 (by kernel_rfl) rfl #[.string (rdOf ByteArray.empty x8_20 x9_5)] rfl (by (try simp only [List.map_toArray, List.map_cons, List.map_nil]); first | done | rfl | (simp only [List.length_drop, List.length_take]; rfl)) ?_; (with_reducible refine (lectionaryref1_Take.calls k5 (rdOf ByteArray.empty x8_20 x9_5) t146 t147 t148 _ A40.out).mono ?_); rintro e w53 ⟨rfl, hb⟩; refine ⟨_, rfl, ?_⟩; have n0_ := Aside0.mk (Kd.R_below (by (with_reducible repeat (first | apply Kd.R_alloc | apply Kd.R_drewN | apply Kd.R_drew)); exact HO_8.out) hb); have n1_ := Aside0.mk (blk_below (g := gb124) (o := .cells #[.slice A0_0 l0_0.length c0_0, .slice A0_1 l0_1.length c0_1] 25 (0, 0)) (by (with_reducible repeat (first | refine blk_drewN ?_ _ | refine blk_drew ?_ | refine blk_alloc ?_ _)); exact BK124.out) hb); have n2_ := Aside0.mk (below_step (by repeat (first | (with_reducible first | exact HB.out | apply below_alloc | apply pw_below_drewN | apply below_drew1 | refine below_set ?_ GE124.out) | exact HB.out)) hb); clear HO_8; clear BK124; clear HB; have HO_8 := n0_; have BK124 := n1_; have HB := n2_; clear n0_ n1_ n2_; (try clear hb); (try clear hb2); (try clear hk); (try clear hi)) | ((with_reducible refine gate_callee (f := 15) rfl ?_); refine goesL_ (some 102) rfl rfl Try.func15 (by kernel_rfl) rfl #[.int .i64 t144] rfl (by (try simp only [List.map_toArray, List.map_cons, List.map_nil]); first | done | rfl | (simp only [List.length_drop, List.length_take]; rfl)) ?_; (with_reducible refine (lectionarylaw1_num.calls t144 t149 _ A41.out).mono ?_); rintro e w' ⟨rfl, ⟨nd, rfl⟩⟩; refine ⟨_, rfl, ?_⟩))
                                              go_ret
                                              exact ⟨by first | rfl | (simp [errW_none, errW_some] <;> rfl) | (simp only [← hji6]; first | rfl | (simp [errW_none, errW_some] <;> rfl)) | (simp [*, errW_none, errW_some] <;> rfl), by repeat (first | (with_reducible first | exact HB.out | apply below_alloc | apply pw_below_drewN | apply below_drew1 | refine below_set ?_ GE124.out) | exact HB.out)⟩
                                          · rw [if_neg c46] at H
                                            have c46b0 : (t142 == t146) = false := beq_eq_false_iff_ne.mpr c46
                                            have c46b1 : (t142 != t146) = true := bne_iff_ne.mpr c46
                                            obtain rfl := Option.some.inj H
                                            obtain ⟨Ao54, co54, eo54⟩ := Kd.R_slice HO_8.out
                                            subst eo54
                                            have p141 : 0 ≤ (x9_5 : Int) := of_decide_eq_true (by first | (with_reducible assumption) | assumption)
                                            have q141 : x9_5 < (x8_20.length : Int) := of_decide_eq_true (by first | (with_reducible assumption) | assumption)
                                            obtain ⟨ad141, e141, hx141_0⟩ := Kd.at_string (Kd.R_reads' HO_8.out).2.2 x9_5 p141 q141
                                            cases e141
                                            replace p141 := eq_true p141
                                            replace q141 := eq_true q141
                                            go_wp2_with (first | ((with_reducible refine gate_callee (f := 17) rfl ?_); refine goesL_ (some 87) rfl rfl Try.func17 (by kernel_rfl) rfl #[.string (rdOf ByteArray.empty x8_20 x9_5)] rfl (by (try simp only [List.map_toArray, List.map_cons, List.map_nil]); first | done | rfl | (simp only [List.length_drop, List.length_take]; rfl)) ?_; (with_reducible refine (number_Take.calls k5 (rdOf ByteArray.empty x8_20 x9_5) t142 t143 t144 _ A39.out).mono ?_); rintro e w55 ⟨rfl, hb⟩; refine ⟨_, rfl, ?_⟩; have n0_ := Aside0.mk (Kd.R_below (by (with_reducible repeat (first | apply Kd.R_alloc | apply Kd.R_drewN | apply Kd.R_drew)); exact HO_8.out) hb); have n1_ := Aside0.mk (blk_below (g := gb124) (o := .cells #[.slice A0_0 l0_0.length c0_0, .slice A0_1 l0_1.length c0_1] 25 (0, 0)) (by (with_reducible repeat (first | refine blk_drewN ?_ _ | refine blk_drew ?_ | refine blk_alloc ?_ _)); exact BK124.out) hb); have n2_ := Aside0.mk (below_step (by repeat (first | (with_reducible first | exact HB.out | apply below_alloc | apply pw_below_drewN | apply below_drew1 | refine below_set ?_ GE124.out) | exact HB.out)) hb); clear HO_8; clear BK124; clear HB; have HO_8 := n0_; have BK124 := n1_; have HB := n2_; clear n0_ n1_ n2_; (try clear hb); (try clear hb2); (try clear hk); (try clear hi); have p145 : 0 ≤ (x9_5 : Int) := of_decide_eq_true (by first | (with_reducible assumption) | assumption); have q145 : x9_5 < (x8_20.length : Int) := of_decide_eq_true (by first | (with_reducible assumption) | assumption); obtain ⟨ad145, e145, hx145_0⟩ := Kd.at_string (Kd.R_reads' HO_8.out).2.2 x9_5 p145 q145; obtain rfl : ad141 = ad145 := (by injection e145); replace p145 := eq_true p145; replace q145 := eq_true q145) | ((with_reducible refine gate_callee (f := 18) rfl ?_); refine goesL_ (some 96) rfl rfl Try.func18 (by kernel_rfl) rfl #[.string (rdOf ByteArray.empty x8_20 x9_5)] rfl (by (try simp only [List.map_toArray, List.map_cons, List.map_nil]); first | done | rfl | (simp only [List.length_drop, List.length_take]; rfl)) ?_; (with_reducible refine (lectionaryref1_Take.calls k5 (rdOf ByteArray.empty x8_20 x9_5) t146 t147 t148 _ A40.out).mono ?_); rintro e w56 ⟨rfl, hb⟩; refine ⟨_, rfl, ?_⟩; have n0_ := Aside0.mk (Kd.R_below (by (with_reducible repeat (first | apply Kd.R_alloc | apply Kd.R_drewN | apply Kd.R_drew)); exact HO_8.out) hb); have n1_ := Aside0.mk (blk_below (g := gb124) (o := .cells #[.slice A0_0 l0_0.length c0_0, .slice A0_1 l0_1.length c0_1] 25 (0, 0)) (by (with_reducible repeat (first | refine blk_drewN ?_ _ | refine blk_drew ?_ | refine blk_alloc ?_ _)); exact BK124.out) hb); have n2_ := Aside0.mk (below_step (by repeat (first | (with_reducible first | exact HB.out | apply below_alloc | apply pw_below_drewN | apply below_drew1 | refine below_set ?_ GE124.out) | exact HB.out)) hb); clear HO_8; clear BK124; clear HB; have HO_8 := n0_; have BK124 := n1_; have HB := n2_; clear n0_ n1_ n2_; (try clear hb); (try clear hb2); (try clear hk); (try clear hi)) | ((with_reducible refine gate_callee (f := 15) rfl ?_); refine goesL_ (some 102) rfl rfl Try.func15 (by kernel_rfl) rfl #[.int .i64 t144] rfl (by (try simp only [List.map_toArray, List.map_cons, List.map_nil]); first | done | rfl | (simp only [List.length_drop, List.length_take]; rfl)) ?_; (with_reducible refine (lectionarylaw1_num.calls t144 t149 _ A41.out).mono ?_); rintro e w' ⟨rfl, ⟨nd, rfl⟩⟩; refine ⟨_, rfl, ?_⟩))
                                            go_ret
                                            exact ⟨by first | rfl | (simp [errW_none, errW_some] <;> rfl) | (simp only [← hji6]; first | rfl | (simp [errW_none, errW_some] <;> rfl)) | (simp [*, errW_none, errW_some] <;> rfl), by repeat (first | (with_reducible first | exact HB.out | apply below_alloc | apply pw_below_drewN | apply below_drew1 | refine below_set ?_ GE124.out) | exact HB.out)⟩
                                      · rw [if_neg c38] at H
                                        exact absurd H (by simp)
                                    · rw [if_neg c37] at H
                                      have c37b0 : decide (x9_5 < (x8_20.length : Int)) = false := decide_eq_false c37
                                      clear c37
                                      have H' := Aside0.mk H
                                      clear H
                                      obtain ⟨Ao57, co57, eo57⟩ := Kd.R_slice HO_8.out
                                      subst eo57
                                      go_wp2
                                      go_roundg k5
                                      case measure => have := HK1.out; have := HK2.out; have := HJ7.out; have := HJ20.out; have := HK5.out; omega
                                      case rel => exact ⟨(wrap64 (x4_2 + 1)), (by first | rfl | (simp; done) | (simp [*]; done)), H', ⟨by have := HK1.out; have := HK2.out; have := HJ7.out; have := HJ20.out; have := HK5.out; omega⟩, ⟨by (with_reducible repeat (first | refine blk_drewN ?_ _ | refine blk_drew ?_ | refine blk_alloc ?_ _)); exact BK124.out⟩, ⟨by repeat (first | (with_reducible first | exact HB.out | apply below_alloc | apply pw_below_drewN | apply below_drew1 | refine below_set ?_ GE124.out) | exact HB.out)⟩⟩
                          · rw [if_neg c20] at H
                            exact absurd H (by simp)
                        · rw [if_neg c19] at H
                          exact absurd H (by simp)
                      · rw [if_neg c18] at H
                        exact absurd H (by simp)
              · rw [if_neg c5] at H
                exact absurd H (by simp)
            · rw [if_neg c4] at H
              have c4b0 : decide (x4_2 < 2) = false := decide_eq_false c4
              clear c4
              have H' := Aside0.mk H
              clear H
              go_wp2
              go_roundg k2
              case measure => have := HK1.out; have := HK2.out; omega
              case rel => exact ⟨(wrap64 (x3_1 + 1)), (by first | rfl | (simp; done) | (simp [*]; done)), H', ⟨by have := HK1.out; have := HK2.out; omega⟩, ⟨by (with_reducible repeat (first | refine blk_drewN ?_ _ | refine blk_drew ?_ | refine blk_alloc ?_ _)); exact BK124.out⟩, ⟨by repeat (first | (with_reducible first | exact HB.out | apply below_alloc | apply pw_below_drewN | apply below_drew1 | refine below_set ?_ GE124.out) | exact HB.out)⟩⟩
      · rw [if_neg c3] at H
        have c3b0 : decide (x3_1 < 31) = false := decide_eq_false c3
        clear c3
        by_cases c58 : (l0_0.length : Int) ≥ 0
        · rw [if_pos c58] at H
          have c58b0 : decide (0 ≤ (l0_0.length : Int)) = true := decide_eq_true c58
          have c58b1 : decide (0 ≤ l0_0.length) = true := decide_eq_true (by omega)
          have c58b2 : 0 ≤ l0_0.length := by omega
          clear c58
          replace H := Option.bind_eq_some_iff.mp H
          obtain ⟨t125, A590, H⟩ := H
          replace H : (some t125) = some r := H
          have A59 := Aside0.mk A590
          clear A590
          obtain rfl := Option.some.inj H
          have hcz60_0 : wr.cell? ⟨gb124, 0, none⟩ = some (.slice A0_0 l0_0.length c0_0) := (blk_cell BK124.out 0).trans rfl
          have hcz60_1 : wr.cell? ⟨gb124, 1, none⟩ = some (.slice A0_1 l0_1.length c0_1) := (blk_cell BK124.out 1).trans rfl
          have hfz60_0 := blk_frozen BK124.out 0
          have hfz60_1 := blk_frozen BK124.out 1
          go_wp2_with (first | (go_at_call 19; (with_reducible refine (lectionarylaw1_wakes.calls k1  t125 _ A59.out).mono ?_); rintro e w61 ⟨rfl, hb⟩; have n0_ := Aside0.mk (blk_below (g := gb124) (o := .cells #[.slice A0_0 l0_0.length c0_0, .slice A0_1 l0_1.length c0_1] 25 (0, 0)) (by (with_reducible repeat (first | refine blk_drewN ?_ _ | refine blk_drew ?_ | refine blk_alloc ?_ _)); exact BK124.out) hb); have n1_ := Aside0.mk (below_step (by repeat (first | (with_reducible first | exact HB.out | apply below_alloc | apply pw_below_drewN | apply below_drew1 | refine below_set ?_ GE124.out) | exact HB.out)) hb); clear BK124; clear HB; have BK124 := n0_; have HB := n1_; clear n0_ n1_; (try clear hb); (try clear hb2); (try clear hk); (try clear hi)))
          go_ret
          exact ⟨by first | rfl | (simp [errW_none, errW_some] <;> rfl) | (simp [*, errW_none, errW_some] <;> rfl), by repeat (first | (with_reducible first | exact HB.out | apply below_alloc | apply pw_below_drewN | apply below_drew1 | refine below_set ?_ GE124.out) | exact HB.out)⟩
        · rw [if_neg c58] at H
          exact absurd (show (l0_0.length : Int) ≥ 0 from by omega) c58

end Go.Proofs.Ytcjedinpiedhcaa.PB
