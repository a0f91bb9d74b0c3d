/- The law TextBack. -/
import Derived.Test.YtcjedinpiedhcaaTextT
namespace Go.Proofs.Ytcjedinpiedhcaa.Pure
open Go.RowKit Go.Proofs.YtcjedinpiedhcaaW.PrintWords Go.Proofs.YtcjedinpiedhcaaW.PrintLast Go.Proofs.YtcjedinpiedhcaaW.PrintMore Go.Proofs.YtcjedinpiedhcaaX Go.Proofs.YtcjedinpiedhcaaVb Go.Proofs.YtcjedinpiedhcaaTextT Go.Proofs.Ytcjedinpiedhcaa.PT
set_option linter.unusedVariables false
set_option linter.unusedSimpArgs false

theorem back_join {s : ByteArray} (h : May s) (n : Nat) : runesBytes (((runesOf s).take n).drop 0) ++ runesBytes (((runesOf s).take (runesOf s).length).drop n) = s := by
  apply ext_list
  rw [ByteArray.data_append, Array.toList_append, runesBytes_list, runesBytes_list, List.drop_zero, List.take_length, ← runeBs_append, List.take_append_drop, h.bytes]
theorem back_l1 (L0 : List ByteArray) (L1 L2 : List Int) (s : ByteArray) (hs : s.size ≤ 3000) (h : May s) (i : Int) (hk : Ev (fun k => lectionarylaw3_TextBack.l0 k (wrap64 (i + 1)) L0 L1 L2) true) :
    ∀ (d n : Nat), n + d = (runesOf s).length + 1 → Ev (fun k => lectionarylaw3_TextBack.l1 k i (runesOf s) s (n : Int) L0 L1 L2) true := by
  have hl := runesOf_length s
  intro d
  induction d with
  | zero =>
    intro n hn
    refine Ev.succ ?_
    simp only [lectionarylaw3_TextBack.l1]
    refine Ev.nite (by omega) (Ev.succ ?_)
    simp only [lectionarylaw3_TextBack.j4]
    exact Ev.nite (by simp) hk
  | succ d ih =>
    intro n hn
    refine Ev.succ ?_
    simp only [lectionarylaw3_TextBack.l1]
    refine Ev.ite (by omega) (Ev.succ ?_)
    simp only [lectionarylaw3_TextBack.j4]
    by_cases c : n < 30
    · have h0 : text_Cut.f s 0 (n : Int) = _ := cut_f (by omega) h 0 n (Nat.zero_le _) (by omega)
      have h1 := cut_f (by omega) h n (runesOf s).length (by omega) (Nat.le_refl _)
      have j := back_join h n
      simp only [h0, h1, Option.bind_some, lectionarylaw3_num.f]
      generalize runesBytes (((runesOf s).take n).drop 0) = a at j ⊢
      generalize runesBytes (((runesOf s).take (runesOf s).length).drop n) = b at j ⊢
      refine Ev.ite (decide_eq_true (by omega)) (Ev.ite (by simp) (Ev.ite (by simp) ?_))
      have hz : a.size + b.size = s.size := by rw [← j, ByteArray.size_append]
      refine Ev.ite (by omega) (Ev.ite (by rw [j]) ?_)
      rw [wstep n 4000 (by omega) (by omega)]
      exact ih (n + 1) (by omega)
    · exact Ev.nite (by rw [decide_eq_true_eq]; omega) hk
theorem back_l0 (L0 : List ByteArray) (L1 L2 : List Int) (hl : L0.length ≤ 3000) (hs : ∀ x ∈ L0, x.size ≤ 3000) : ∀ (d i : Nat), i + d = L0.length → Ev (fun k => lectionarylaw3_TextBack.l0 k (i : Int) L0 L1 L2) true := by
  intro d
  have hw : Ev (fun _ => (lectionarylaw3_wakes.f).bind fun t => some t) true := by rw [wakes_ev]; exact Ev.now _
  induction d with
  | zero =>
    intro i hi
    refine Ev.succ ?_
    simp only [lectionarylaw3_TextBack.l0]
    refine Ev.nite (by omega) (Ev.succ ?_)
    simp only [lectionarylaw3_TextBack.j1]
    exact Ev.nite (by simp) hw
  | succ d ih =>
    intro i hi
    refine Ev.succ ?_
    simp only [lectionarylaw3_TextBack.l0]
    refine Ev.ite (by omega) (Ev.succ ?_)
    simp only [lectionarylaw3_TextBack.j1]
    by_cases c : i < 8
    · have hsi := hs _ (rdOf_mem ByteArray.empty L0 i (by omega))
      have hk := ih (i + 1) (by omega)
      rw [← wstep i 4000 (by omega) (by omega)] at hk
      generalize rdOf ByteArray.empty L0 (i : Int) = s at hsi ⊢
      refine Ev.ite (decide_eq_true (by omega)) (Ev.ite (by omega) (Ev.ite (by omega) ?_))
      rw [runes_f (by omega)]
      by_cases h : May s
      · rw [if_pos h]
        have hl := runesOf_length s
        simp only [Option.bind_some, lectionarylaw3_num.f, make_f h.ok (by omega), h.make]
        refine Ev.ite (by simp) (Ev.ite (by simp) (Ev.succ ?_))
        simp only [lectionarylaw3_TextBack.j2]
        refine Ev.nite (by simp) ?_
        exact back_l1 L0 L1 L2 s hsi h i hk ((runesOf s).length + 1) 0 (by omega)
      · rw [if_neg h]
        simp only [Option.bind_some, lectionarylaw3_num.f]
        exact Ev.nite (by simp) hk
    · exact Ev.nite (by rw [decide_eq_true_eq]; omega) hw
theorem TextBack : ∀ (l0_0 : List ByteArray) (l0_1 : List Int) (l0_2 : List Int), (l0_0.length * 16 ≤ 140737488351232 ∧ ∀ x0 ∈ l0_0, x0.size ≤ 140737488351232) → (l0_1.length * 4 ≤ 140737488351232 ∧ ∀ x0 ∈ l0_1, (Lit.int .i32 x0).wf = true) → (l0_2.length * 8 ≤ 140737488351232 ∧ ∀ x0 ∈ l0_2, (Lit.int .i64 x0).wf = true) →  ∃ k, lectionarylaw3_TextBack.f k l0_0 l0_1 l0_2 = some true := by
  intro L0 L1 L2 hb0 hb1 hb2
  apply Ev.rounds
  unfold lectionarylaw3_TextBack.f
  have hh : Ev (fun k => lectionarylaw3_Heavy.f k L0 L1 L2) true ∨ Ev (fun k => lectionarylaw3_Heavy.f k L0 L1 L2) false ∧ L0.length ≤ 3000 ∧ ∀ x ∈ L0, x.size ≤ 3000 := by
    unfold lectionarylaw3_Heavy.f
    rcases heavy_ev L2 L0 hb0.1 hb0.2 with h | ⟨h, _, h1, h2⟩
    · exact .inl (Ev.bind h (Ev.ite rfl (Ev.now _)))
    · by_cases c : (L1.length : Int) > 200
      · refine .inl (Ev.bind h (Ev.nite (by simp) ?_))
        rw [decide_eq_true c]
        exact Ev.now _
      · refine .inr ⟨Ev.bind h (Ev.nite (by simp) ?_), h1, h2⟩
        rw [decide_eq_false c]
        exact Ev.now _
  rcases hh with h | ⟨h, h1, h2⟩
  · exact Ev.bind h (Ev.ite rfl (Ev.now _))
  · exact Ev.bind h (Ev.nite (by simp) (back_l0 L0 L1 L2 h1 h2 L0.length 0 (by omega)))
end Go.Proofs.Ytcjedinpiedhcaa.Pure
