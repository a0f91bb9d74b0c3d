/- The law NumberExact, as a statement over lists alone. -/
import Derived.Test.YtcjedinpiedhcaaNumMoreE
namespace Go.Proofs.YtcjedinpiedhcaaNumE
open Go.RowKit Go.Proofs.YtcjedinpiedhcaaW.PrintWords Go.Proofs.YtcjedinpiedhcaaW.PrintLast Go.Proofs.YtcjedinpiedhcaaW.PrintMore Go.Proofs.YtcjedinpiedhcaaVb Go.Proofs.Ytcjedinpiedhcaa.PE
set_option linter.unusedVariables false
set_option linter.unusedSimpArgs false
open lectionarylaw1_NumberExact

theorem taketexts_same (l : List Int) : (takeTextR l).1 = (rtakeTextR l).1 ∧ (takeTextR l).2.1 = (rtakeTextR l).2.1 ∧ ((rtakeTextR l).2.2 = true ∧ (takeTextR l).2.2 = 0 ∨ (rtakeTextR l).2.2 = false ∧ (takeTextR l).2.2 = 7) := by
  unfold takeTextR rtakeTextR
  cases pk l with
  | none => exact ⟨rfl, rfl, .inr ⟨rfl, rfl⟩⟩
  | some y =>
    simp only
    by_cases h : y.1 > (y.2.length : Int)
    · rw [if_pos h, if_pos h]; exact ⟨rfl, rfl, .inr ⟨rfl, rfl⟩⟩
    · rw [if_neg h, if_neg h]; exact ⟨rfl, rfl, .inl ⟨rfl, rfl⟩⟩
theorem takes_how (l : List Int) : (rtakeR l).2.2 = true ∧ (takeR l).2.2 = 0 ∨ (rtakeR l).2.2 = false ∧ (takeR l).2.2 = 7 := by
  unfold takeR rtakeR
  cases pk l with
  | none => exact .inr ⟨rfl, rfl⟩
  | some y => exact .inl ⟨rfl, rfl⟩

theorem exact_l1 (l : List ByteArray) (hl : l.length < 100000) (hs : ∀ x ∈ l, x.size < 100000) : ∀ (d i : Nat), i + d = l.length → Ev (fun k => l1 k l (i : Int)) true := by
  intro d
  induction d with
  | zero =>
    intro i hi
    refine Ev.succ ?_
    simp only [l1]
    exact Ev.nite (by omega) (Ev.bind wakes_ev (Ev.now _))
  | succ d ih =>
    intro i hi
    have hm := hs _ (rdOf_mem ByteArray.empty l i (by omega))
    have hrec := ih (i + 1) (by omega)
    rw [← wstep i l.length (by omega) (by omega)] at hrec
    refine Ev.succ ?_
    simp only [l1]
    refine Ev.ite (by omega) (Ev.ite (by omega) ?_)
    generalize rdOf ByteArray.empty l (i : Int) = s at hm ⊢
    obtain ⟨e1, e2, _⟩ := takes_same (bytesOf s)
    obtain ⟨f1, f2, f3⟩ := taketexts_same (bytesOf s)
    refine Ev.bind (take_ev s (by omega)) (Ev.bind (rtake_ev s (by omega)) (Ev.bind (taketext_ev s (by omega)) (Ev.bind (rtaketext_ev s (by omega)) ?_)))
    simp only [num1_some, Option.bind_some]
    have last : Ev (fun n => (number_Text.f n s).bind fun a => (lectionaryref1_Text.f n s).bind fun b => if a.toList = b.toList then l1 n l (wrap64 ((i : Int) + 1)) else none) true :=
      Ev.bind (text_ev s (by omega)) (Ev.bind (rtext_ev s (by omega)) (Ev.ite rfl hrec))
    rcases takes_how (bytesOf s) with ⟨a1, a2⟩ | ⟨a1, a2⟩ <;> rcases f3 with ⟨b1, b2⟩ | ⟨b1, b2⟩ <;> simp only [a1, a2, b1, b2, e1, e2, f1, f2]
    all_goals
      simp (config := { decide := true }) only [if_true, if_false]
      exact last

theorem exact_l0 (L : List Int) (hL : L.length < 1000) : ∀ (d i : Nat) (l : List ByteArray), i + d = 30 → l.length + 2 * d < 50000 → (∀ x ∈ l, x.size < 100000) → Ev (fun k => l0 k L l (i : Int)) true := by
  have fin : ∀ (i : Nat) (l : List ByteArray), l.length < 50000 → (∀ x ∈ l, x.size < 100000) → Ev (fun k => j1 k L l (i : Int) false) true := by
    intro i l hl hs
    refine Ev.succ ?_
    simp only [j1]
    exact Ev.nite (by simp) (exact_l1 l (by omega) hs _ 0 (Nat.zero_add _))
  intro d
  induction d with
  | zero =>
    intro i l hi hl hs
    refine Ev.succ ?_
    simp only [l0]
    by_cases h : (i : Int) < (L.length : Int)
    · refine Ev.ite h ?_
      rw [decide_eq_false (by omega)]
      exact fin i l (by omega) hs
    · exact Ev.nite h (fin i l (by omega) hs)
  | succ d ih =>
    intro i l hi hl hs
    refine Ev.succ ?_
    simp only [l0]
    by_cases h : (i : Int) < (L.length : Int)
    · refine Ev.ite h ?_
      rw [decide_eq_true (show (i : Int) < 30 by omega)]
      refine Ev.succ ?_
      simp only [j1]
      refine Ev.ite (by simp) (Ev.ite (by omega) (Ev.ite h ?_))
      rw [wstep i 50 (by omega) (by omega)]
      generalize rd L (i : Int) = n
      refine Ev.bind (put_ev n) (Ev.bind (size_ev n) ?_)
      rw [num_some]
      simp only [num1_some, Option.bind_some]
      by_cases hok : 0 ≤ n ∧ n ≤ 268435456
      · have h2 : (putR n).2 = 0 := by rw [putR_ok hok]
        have h1 : (putR n).1 = strOfNums (vb n.toNat) := by rw [putR_ok hok]
        have hl5 := vb_len5 n.toNat (by omega)
        have hne := vb_ne n.toNat
        have hsz : (strOfNums (vb n.toNat)).size = (vb n.toNat).length := strOfNums_size _
        refine Ev.ite (by simp [hok]) ?_
        have hr := rput_ev n.toNat (by omega)
        rw [Int.toNat_of_nonneg hok.1] at hr
        refine Ev.bind hr ?_
        rw [h1, h2]
        generalize strOfNums (vb n.toNat) = s at hsz ⊢
        have hw : wrap64 ((s.size : Int) - 1) = (s.size : Int) - 1 := w64 (by omega) (by omega)
        rw [hw]
        refine Ev.ite (by omega) (Ev.ite (by omega) (Ev.ite (by omega) (Ev.ite (by simp only [List.length_cons, List.length_nil]; omega) (Ev.ite rfl (Ev.ite rfl (Ev.ite rfl (Ev.ite rfl ?_)))))))
        refine ih (i + 1) _ (by omega) (by simp only [List.length_append, List.length_cons, List.length_nil]; omega) ?_
        intro x hx
        rcases List.mem_append.1 hx with hx | hx
        · exact hs x hx
        · have e1 : (⟨#[1]⟩ : ByteArray).size = 1 := rfl
          simp only [List.mem_cons, List.not_mem_nil, or_false] at hx
          rcases hx with rfl | rfl
          · rw [ByteArray.size_append, e1]; omega
          · rw [ByteArray.size_extract]; omega
      · have h2 : putR n = (⟨#[]⟩, 1) := putR_no hok
        refine Ev.nite (by simp; omega) ?_
        rw [h2]
        refine Ev.ite rfl (Ev.ite (by simp [ByteArray.toList_eq]) (Ev.ite rfl (Ev.ite rfl ?_)))
        exact ih (i + 1) l (by omega) (by omega) hs
    · exact Ev.nite h (fin i l (by omega) hs)

theorem NumberExact : ∀ (l0_0 : List Int) (l0_1 : List ByteArray), (l0_0.length * 8 ≤ 140737488351232 ∧ ∀ x0 ∈ l0_0, (Lit.int .i64 x0).wf = true) → (l0_1.length * 16 ≤ 140737488351232 ∧ ∀ x0 ∈ l0_1, x0.size ≤ 140737488351232) →  ∃ k, lectionarylaw1_NumberExact.f k l0_0 l0_1 = some true := by
  intro L0 L1 _ h1
  unfold lectionarylaw1_NumberExact.f
  rcases heavy_ev L0 L1 h1.1 h1.2 with h | ⟨h, h0, hl, h2⟩
  · refine Ev.rounds (Ev.bind h ?_)
    exact Ev.ite (by simp) (Ev.now _)
  · refine Ev.rounds (Ev.bind h (Ev.nite (by simp) ?_))
    simp only [Option.bind_some]
    refine Ev.ite (by simp only [List.length_cons, List.length_nil]; omega) (Ev.ite (by simp only [List.length_cons, List.length_nil]; omega) ?_)
    refine exact_l0 _ (by simp only [List.length_append, List.length_cons, List.length_nil]; omega) 30 0 _ rfl (by simp only [List.length_append, List.length_cons, List.length_nil]; omega) ?_
    intro x hx
    rcases List.mem_append.1 hx with hx | hx
    · simp only [List.mem_cons, List.not_mem_nil, or_false] at hx
      rcases hx with rfl | rfl | rfl | rfl | rfl <;> decide
    · have := h2 x hx; omega
end Go.Proofs.YtcjedinpiedhcaaNumE
