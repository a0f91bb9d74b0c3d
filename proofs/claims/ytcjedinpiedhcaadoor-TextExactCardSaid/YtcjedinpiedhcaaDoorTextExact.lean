/- The law TextExact. -/
import Derived.Test.YtcjedinpiedhcaaDoorTextMoreE
namespace Go.Proofs.YtcjedinpiedhcaaDoor.Pure
open Go.RowKit Go.Proofs.YtcjedinpiedhcaaDoorW.PrintWords Go.Proofs.YtcjedinpiedhcaaDoorW.PrintLast Go.Proofs.YtcjedinpiedhcaaDoorW.PrintMore Go.Proofs.YtcjedinpiedhcaaDoorX Go.Proofs.YtcjedinpiedhcaaDoorVb Go.Proofs.YtcjedinpiedhcaaDoorTextE Go.Proofs.YtcjedinpiedhcaaDoor.PE
set_option linter.unusedVariables false
set_option linter.unusedSimpArgs false

theorem ex_l3 (l : List Int) (hl : l.length ≤ 1000) : ∀ (d i : Nat), i + d = l.length → Ev (fun k => lectionarylaw3_TextExact.l3 k l (i : Int)) true := by
  have hend : ∀ i : Int, Ev (fun k => lectionarylaw3_TextExact.j11 k l i false) true := by
    intro i
    refine Ev.succ ?_
    simp only [lectionarylaw3_TextExact.j11, wakes_ev, Option.bind_some]
    exact Ev.nite (by simp) (Ev.now _)
  intro d
  induction d with
  | zero =>
    intro i hi
    refine Ev.succ ?_
    simp only [lectionarylaw3_TextExact.l3]
    exact Ev.nite (by omega) (hend _)
  | succ d ih =>
    intro i hi
    refine Ev.succ ?_
    simp only [lectionarylaw3_TextExact.l3]
    by_cases c : i < 40
    · have hk := ih (i + 1) (by omega)
      rw [← wstep i 4000 (by omega) (by omega)] at hk
      rw [decide_eq_true (show (i : Int) < 40 by omega)]
      refine Ev.ite (by omega) (Ev.succ ?_)
      have hq : Int.tmod (wrap64 ((i : Int) + 1)) (l.length : Int) = (((i + 1) % l.length : Nat) : Int) := by
        rw [wstep i 4000 (by omega) (by omega), Int.tmod_eq_emod_of_nonneg (by omega)]
        simp
      have hm := Nat.mod_lt (i + 1) (show l.length > 0 by omega)
      simp only [lectionarylaw3_TextExact.j11, rune_f, rune1_f, lectionarylaw3_num.f, Option.bind_some, hq]
      generalize (i + 1) % l.length = q at hm
      have hb : (((if okR (rd l (i : Int)) then (0 : Int) else 1) == 0) != decide (okR (rd l (i : Int)))) = false := by
        by_cases h : okR (rd l (i : Int))
        · simp [h]
        · simp [h]
      refine Ev.ite (by simp) (Ev.ite (by omega) (Ev.ite (by omega) (Ev.nite (by rw [hb]; simp) (Ev.nite (by omega) (Ev.ite (by omega) (Ev.ite (by omega) ?_))))))
      generalize hL : [rd l (i : Int), 97, rd l (q : Int)] = L
      have hLl : L.length = 3 := by rw [← hL]; rfl
      by_cases h : ∀ x ∈ L, okR x
      · simp only [make_f h (by omega), Option.bind_some]
        refine Ev.bind (all1_ev L (by omega)) (Ev.ite (decide_eq_true h) (Ev.bind (make1_ev L (by omega)) (Ev.succ ?_)))
        simp only [lectionarylaw3_TextExact.j12, lectionarylaw3_num.f, Option.bind_some]
        exact Ev.ite (by simp) (Ev.ite (by simp) hk)
      · simp only [make_no h (by omega), Option.bind_some]
        refine Ev.bind (all1_ev L (by omega)) (Ev.nite (by rw [decide_eq_false h]; simp) (Ev.succ ?_))
        simp only [lectionarylaw3_TextExact.j12, lectionarylaw3_num.f, Option.bind_some]
        exact Ev.ite (by simp) (Ev.ite (by simp) hk)
    · rw [decide_eq_false (show ¬ (i : Int) < 40 by omega)]
      exact Ev.ite (by omega) (hend _)
/-- What the reference says of a text: its runes, whether it may be, the error. -/
def refR (s : ByteArray) : List Int × Bool × Int := if May s then (runesOf s, true, 0) else ([], false, 1)
section
variable (ts : List ByteArray) (L0 : List ByteArray) (L1 L2 ns : List Int) (i : Nat) (s : ByteArray)
theorem ex_l2 (hi : i < ts.length) (hs : rdOf ByteArray.empty ts (i : Int) = s) (hz : s.size ≤ 3000) (hn : ns.length ≤ 1000) (m : Nat) (hm : m < ns.length)
    (hk : Ev (fun k => lectionarylaw3_TextExact.l1 k ts (i : Int) (refR s).1 (refR s).2.1 (refR s).2.2 ns (wrap64 ((m : Int) + 1)) L0 L1 L2) true) :
    ∀ (d j : Nat), j + d = ns.length → Ev (fun k => lectionarylaw3_TextExact.l2 k ts (i : Int) (refR s).1 (refR s).2.1 (refR s).2.2 ns (m : Int) (j : Int) L0 L1 L2) true := by
  have hend : ∀ j : Int, Ev (fun k => lectionarylaw3_TextExact.j7 k ts (i : Int) (refR s).1 (refR s).2.1 (refR s).2.2 ns (m : Int) j false L0 L1 L2) true := by
    intro j
    refine Ev.succ ?_
    simp only [lectionarylaw3_TextExact.j7]
    exact Ev.nite (by simp) hk
  intro d
  induction d with
  | zero =>
    intro j hj
    refine Ev.succ ?_
    simp only [lectionarylaw3_TextExact.l2]
    exact Ev.nite (by omega) (hend _)
  | succ d ih =>
    intro j hj
    refine Ev.succ ?_
    simp only [lectionarylaw3_TextExact.l2]
    by_cases c : j < 8
    · have hr := ih (j + 1) (by omega)
      rw [← wstep j 4000 (by omega) (by omega)] at hr
      rw [decide_eq_true (show (j : Int) < 8 by omega)]
      refine Ev.ite (by omega) (Ev.succ ?_)
      simp only [lectionarylaw3_TextExact.j7, hs]
      refine Ev.ite (by simp) (Ev.ite (by omega) (Ev.ite (by omega) (Ev.ite (by omega) (Ev.ite (by omega) (Ev.ite (by omega) (Ev.ite (by omega) ?_))))))
      -- what j9 asks
      have h9 : ∀ (b1 : ByteArray) (e1 : Int), Ev (fun k => lectionarylaw3_TextExact.j9 k ts (i : Int) (refR s).1 (refR s).2.1 (refR s).2.2 ns (m : Int) (j : Int) b1 e1 e1 b1 L0 L1 L2) true := by
        intro b1 e1
        refine Ev.succ ?_
        simp only [lectionarylaw3_TextExact.j9, lectionarylaw3_num.f, Option.bind_some]
        exact Ev.ite (by simp) (Ev.ite (by simp) hr)
      by_cases h : May s
      · have e0 : refR s = (runesOf s, true, 0) := if_pos h
        rw [e0] at h9 ⊢
        simp only at h9 ⊢
        by_cases hab : 0 ≤ rd ns (m : Int) ∧ rd ns (m : Int) ≤ rd ns (j : Int) ∧ rd ns (j : Int) ≤ ((runesOf s).length : Int)
        · obtain ⟨a, ha⟩ := Int.eq_ofNat_of_zero_le hab.1
          obtain ⟨b, hb⟩ := Int.eq_ofNat_of_zero_le (Int.le_trans hab.1 hab.2.1)
          rw [ha, hb] at hab
          have hl := runesOf_length s
          simp only [ha, hb, cut_f (by omega) h a b (by omega) (by omega), Option.bind_some]
          refine Ev.ite (by simp) (Ev.ite (by omega) (Ev.ite (by omega) (Ev.succ ?_)))
          simp only [lectionarylaw3_TextExact.j8, ha, hb, Int.toNat_natCast]
          refine Ev.ite (decide_eq_true (by omega)) (Ev.ite (by omega) (Ev.ite (by omega) (Ev.ite (by omega) (Ev.ite (by omega) (Ev.ite (by omega) (Ev.ite (by omega) (Ev.ite (by omega) ?_)))))))
          exact Ev.bind (make1_ev _ (by rw [List.length_drop, List.length_take]; omega)) (h9 _ _)
        · simp only [cut_far (by omega) h _ _ hab, Option.bind_some]
          have h8 : ∀ b : Bool, b = false → Ev (fun k => lectionarylaw3_TextExact.j8 k ts (i : Int) (runesOf s) true 0 ns (m : Int) (j : Int) (⟨#[]⟩ : ByteArray) 2 2 (⟨#[]⟩ : ByteArray) b L0 L1 L2) true := by
            rintro b rfl
            refine Ev.succ ?_
            simp only [lectionarylaw3_TextExact.j8]
            exact Ev.nite (by simp) (h9 _ _)
          refine Ev.ite (by simp) ?_
          by_cases c1 : rd ns (m : Int) ≥ 0
          · refine Ev.ite c1 ?_
            by_cases c2 : rd ns (m : Int) ≤ rd ns (j : Int)
            · exact Ev.ite c2 (h8 _ (decide_eq_false (by omega)))
            · exact Ev.nite c2 (h8 _ rfl)
          · exact Ev.nite c1 (h8 _ rfl)
      · have e0 : refR s = ([], false, 1) := if_neg h
        rw [e0] at h9 ⊢
        simp only at h9 ⊢
        simp only [cut_no (by omega) h, Option.bind_some]
        exact Ev.nite (by simp) (h9 _ _)
    · rw [decide_eq_false (show ¬ (j : Int) < 8 by omega)]
      exact Ev.ite (by omega) (hend _)
theorem ex_l1 (hi : i < ts.length) (hs : rdOf ByteArray.empty ts (i : Int) = s) (hz : s.size ≤ 3000) (hn : ns.length ≤ 1000)
    (hk : Ev (fun k => lectionarylaw3_TextExact.l0 k ts (wrap64 ((i : Int) + 1)) L0 L1 L2) true) :
    ∀ (d m : Nat), m + d = ns.length → Ev (fun k => lectionarylaw3_TextExact.l1 k ts (i : Int) (refR s).1 (refR s).2.1 (refR s).2.2 ns (m : Int) L0 L1 L2) true := by
  have hend : ∀ m : Int, Ev (fun k => lectionarylaw3_TextExact.j5 k ts (i : Int) (refR s).1 (refR s).2.1 (refR s).2.2 ns m false L0 L1 L2) true := by
    intro m
    refine Ev.succ ?_
    simp only [lectionarylaw3_TextExact.j5]
    exact Ev.nite (by simp) hk
  intro d
  induction d with
  | zero =>
    intro m hm
    refine Ev.succ ?_
    simp only [lectionarylaw3_TextExact.l1]
    exact Ev.nite (by omega) (hend _)
  | succ d ih =>
    intro m hm
    refine Ev.succ ?_
    simp only [lectionarylaw3_TextExact.l1]
    by_cases c : m < 8
    · have hr := ih (m + 1) (by omega)
      rw [← wstep m 4000 (by omega) (by omega)] at hr
      rw [decide_eq_true (show (m : Int) < 8 by omega)]
      refine Ev.ite (by omega) (Ev.succ ?_)
      simp only [lectionarylaw3_TextExact.j5]
      exact Ev.ite (by simp) (ex_l2 ts L0 L1 L2 ns i s hi hs hz hn m (by omega) hr ns.length 0 (by omega))
    · rw [decide_eq_false (show ¬ (m : Int) < 8 by omega)]
      exact Ev.ite (by omega) (hend _)
end
theorem ex_l0 (ts L0 : List ByteArray) (L1 L2 : List Int) (hl : ts.length ≤ 4000) (hs : ∀ t ∈ ts, t.size ≤ 3000) (h1 : L1.length ≤ 200) (h2 : L2.length ≤ 200) :
    ∀ (d i : Nat), i + d = ts.length → Ev (fun k => lectionarylaw3_TextExact.l0 k ts (i : Int) L0 L1 L2) true := by
  have hend : ∀ i : Int, Ev (fun k => lectionarylaw3_TextExact.j1 k ts i false L0 L1 L2) true := by
    intro i
    refine Ev.succ ?_
    simp only [lectionarylaw3_TextExact.j1, Option.bind_some]
    refine Ev.nite (by simp) (Ev.ite (by simp only [List.length_cons, List.length_nil]; omega) ?_)
    exact ex_l3 _ (by simp only [List.length_append, List.length_cons, List.length_nil]; omega) _ 0 (Nat.zero_add _)
  intro d
  induction d with
  | zero =>
    intro i hi
    refine Ev.succ ?_
    simp only [lectionarylaw3_TextExact.l0]
    exact Ev.nite (by omega) (hend _)
  | succ d ih =>
    intro i hi
    refine Ev.succ ?_
    simp only [lectionarylaw3_TextExact.l0]
    by_cases c : i < 16
    · have hk := ih (i + 1) (by omega)
      rw [← wstep i 8000 (by omega) (by omega)] at hk
      rw [decide_eq_true (show (i : Int) < 16 by omega)]
      refine Ev.ite (by omega) (Ev.succ ?_)
      have hz := hs _ (rdOf_mem ByteArray.empty ts i (by omega))
      generalize he : rdOf ByteArray.empty ts (i : Int) = s at hz
      have hl1 := runesOf_length s
      have h3 : ∀ (ns : List Int), ns.length ≤ 1000 → Ev (fun k => lectionarylaw3_TextExact.l1 k ts (i : Int) (refR s).1 (refR s).2.1 (refR s).2.2 ns 0 L0 L1 L2) true := fun ns hn => ex_l1 ts L0 L1 L2 ns i s (by omega) he hz hn hk ns.length 0 (by omega)
      simp only [lectionarylaw3_TextExact.j1, he]
      refine Ev.ite (by simp) (Ev.ite (by omega) (Ev.ite (by omega) ?_))
      by_cases h : May s
      · have e0 : refR s = (runesOf s, true, 0) := if_pos h
        rw [e0] at h3
        simp only [runes_f (show s.size ≤ 70368744177664 by omega), len_f (show s.size ≤ 70368744177664 by omega), if_pos h, Option.bind_some]
        have hr := runes1_ev s (by omega)
        rw [if_pos h] at hr
        refine Ev.bind hr (Ev.ite (by simp) (Ev.succ ?_))
        simp only [lectionarylaw3_TextExact.j2, he, check_f, if_pos h, lectionarylaw3_num.f, Option.bind_some]
        refine Ev.ite (by omega) (Ev.ite (by omega) (Ev.ite (by simp) (Ev.ite (by simp) (Ev.bind (eqrunes_ev _ (by omega)) (Ev.ite (by simp) (Ev.ite (by simp) (Ev.succ ?_)))))))
        simp only [lectionarylaw3_TextExact.j3, Option.bind_some]
        refine Ev.nite (by simp) (Ev.ite (by simp only [List.length_cons, List.length_nil]; omega) ?_)
        exact h3 _ (by simp only [List.length_append, List.length_cons, List.length_nil]; omega)
      · have e0 : refR s = ([], false, 1) := if_neg h
        rw [e0] at h3
        simp only [runes_f (show s.size ≤ 70368744177664 by omega), len_f (show s.size ≤ 70368744177664 by omega), if_neg h, Option.bind_some]
        have hr := runes1_ev s (by omega)
        rw [if_neg h] at hr
        refine Ev.bind hr (Ev.nite (by simp) (Ev.succ ?_))
        simp only [lectionarylaw3_TextExact.j2, he, check_f, if_neg h, lectionarylaw3_num.f, Option.bind_some]
        refine Ev.ite (by omega) (Ev.ite (by omega) (Ev.ite (by simp) (Ev.ite (by simp) (Ev.bind (eqrunes_ev _ (by simp)) (Ev.ite (by simp) (Ev.ite (by simp) (Ev.succ ?_)))))))
        simp only [lectionarylaw3_TextExact.j3, Option.bind_some]
        refine Ev.nite (by simp) (Ev.ite (by simp only [List.length_cons, List.length_nil]; omega) ?_)
        exact h3 _ (by simp only [List.length_append, List.length_cons, List.length_nil]; omega)
    · rw [decide_eq_false (show ¬ (i : Int) < 16 by omega)]
      exact Ev.ite (by omega) (hend _)
theorem TextExact : ∀ (l0_0 : List ByteArray) (l0_1 : List Int) (l0_2 : List Int), (l0_0.length * 16 ≤ 140737488351232 ∧ ∀ x0 ∈ l0_0, x0.size ≤ 140737488351232) → (l0_1.length * 4 ≤ 140737488351232 ∧ ∀ x0 ∈ l0_1, (Lit.int .i32 x0).wf = true) → (l0_2.length * 8 ≤ 140737488351232 ∧ ∀ x0 ∈ l0_2, (Lit.int .i64 x0).wf = true) →  ∃ k, lectionarylaw3_TextExact.f k l0_0 l0_1 l0_2 = some true := by
  intro L0 L1 L2 hb0 hb1 hb2
  apply Ev.rounds
  unfold lectionarylaw3_TextExact.f
  have hh : Ev (fun k => lectionarylaw3_Heavy.f k L0 L1 L2) true ∨ Ev (fun k => lectionarylaw3_Heavy.f k L0 L1 L2) false ∧ L0.length ≤ 3000 ∧ (∀ x ∈ L0, x.size ≤ 3000) ∧ L1.length ≤ 200 ∧ L2.length ≤ 200 := by
    unfold lectionarylaw3_Heavy.f
    rcases heavy_ev L2 L0 hb0.1 hb0.2 with h | ⟨h, h200, h1, h2⟩
    · exact .inl (Ev.bind h (Ev.ite (by simp) (Ev.now _)))
    · by_cases c : (L1.length : Int) > 200
      · refine .inl (Ev.bind h (Ev.nite (by simp) ?_))
        rw [decide_eq_true c]
        exact Ev.now _
      · refine .inr ⟨Ev.bind h (Ev.nite (by simp) ?_), h1, h2, by omega, h200⟩
        rw [decide_eq_false c]
        exact Ev.now _
  rcases hh with h | ⟨h, h1, h2, h3, h4⟩
  · exact Ev.bind h (Ev.ite (by simp) (Ev.now _))
  · refine Ev.bind h (Ev.nite (by simp) ?_)
    simp only [Option.bind_some]
    refine Ev.ite (by simp only [List.length_cons, List.length_nil]; omega) ?_
    refine ex_l0 _ L0 L1 L2 (by simp only [List.length_append, List.length_cons, List.length_nil]; omega) ?_ h3 h4 _ 0 (Nat.zero_add _)
    intro t ht
    rcases List.mem_append.1 ht with ht | ht
    · simp only [List.mem_cons, List.not_mem_nil, or_false] at ht
      rcases ht with rfl | rfl | rfl | rfl | rfl | rfl | rfl | rfl <;> decide
    · exact h2 t ht
end Go.Proofs.YtcjedinpiedhcaaDoor.Pure
