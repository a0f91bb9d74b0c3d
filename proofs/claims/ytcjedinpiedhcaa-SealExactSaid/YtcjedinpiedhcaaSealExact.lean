/- The law SealExact. -/
import Derived.Test.YtcjedinpiedhcaaCoreS
namespace Go.Proofs.Ytcjedinpiedhcaa.Pure
open Go.RowKit Go.Proofs.YtcjedinpiedhcaaW.PrintWords Go.Proofs.YtcjedinpiedhcaaW.PrintLast Go.Proofs.YtcjedinpiedhcaaW.PrintMore Go.Proofs.YtcjedinpiedhcaaVb Go.Proofs.YtcjedinpiedhcaaCoreS Go.Proofs.Ytcjedinpiedhcaa.PS
set_option linter.unusedVariables false
set_option linter.unusedSimpArgs false

theorem exact_l2 (L0 : List Int) (L1 ts : List ByteArray) (i : Int) (hn : ts.length ≤ 10000) (hs : ∀ t ∈ ts, t.size ≤ 100000) (hk : Ev (fun k => lectionarylaw2_SealExact.l0 k (wrap64 (i + 1)) L0 L1) true) :
    ∀ (d n : Nat), n + d = ts.length → Ev (fun k => lectionarylaw2_SealExact.l2 k i ts (n : Int) L0 L1) true := by
  intro d
  induction d with
  | zero =>
    intro n hnd
    refine Ev.succ ?_
    simp only [lectionarylaw2_SealExact.l2]
    exact Ev.nite (by omega) hk
  | succ d ih =>
    intro n hnd
    refine Ev.succ ?_
    simp only [lectionarylaw2_SealExact.l2]
    have hz := hs _ (rdOf_mem ByteArray.empty ts n (by omega))
    have hr := ih (n + 1) (by omega)
    rw [← wstep n 20000 (by omega) (by omega)] at hr
    generalize rdOf ByteArray.empty ts (n : Int) = t at hz ⊢
    refine Ev.ite (by omega) (Ev.ite (by omega) (Ev.bind (utake_ev t (by omega)) (Ev.bind (unframe_ev t (by omega)) ?_)))
    exact Ev.nite (by simp) (Ev.ite rfl (Ev.ite rfl hr))
theorem exact_at (i n m : Nat) (h0 : 0 < m) (hm : m ≤ 100000) (hn : n < 10) (hi : i < 10000) :
    ∃ q : Nat, Int.tmod (wrap64 ((wrap64 (Int.tdiv (wrap64 ((n : Int) * (m : Int))) 10)) + (i : Int))) (m : Int) = (q : Int) ∧ q < m := by
  have h1 : n * m ≤ 10 * 100000 := Nat.mul_le_mul (by omega) hm
  have e1 : ((n : Int) * (m : Int)) = ((n * m : Nat) : Int) := by simp
  rw [e1]
  generalize n * m = p at h1
  rw [w64 (n := (p : Int)) (by omega) (by omega), Int.tdiv_eq_ediv_of_nonneg (by omega)]
  rw [w64 (n := (p : Int) / 10) (by omega) (by omega), w64 (by omega) (by omega), Int.tmod_eq_emod_of_nonneg (by omega)]
  refine ⟨(p / 10 + i) % m, by simp, Nat.mod_lt _ h0⟩
theorem tmod8 (n : Nat) : 0 ≤ Int.tmod (n : Int) 8 := by rw [Int.tmod_eq_emod_of_nonneg (by omega)]; omega
theorem exact_l1 (L0 : List Int) (L1 : List ByteArray) (s : ByteArray) (i : Nat) (hi : i < 8) (hs : s.size ≤ 10000) (hk : Ev (fun k => lectionarylaw2_SealExact.l0 k (wrap64 ((i : Int) + 1)) L0 L1) true) :
    ∀ (d n : Nat) (ts : List ByteArray), n + d = 10 → ts.length ≤ 4 + 2 * n → (∀ t ∈ ts, t.size ≤ 100000) → Ev (fun k => lectionarylaw2_SealExact.l1 k (i : Int) s ts (n : Int) L0 L1) true := by
  intro d
  induction d with
  | zero =>
    intro n ts hn hl ht
    refine Ev.succ ?_
    simp only [lectionarylaw2_SealExact.l1]
    refine Ev.nite (by omega) (Ev.succ ?_)
    simp only [lectionarylaw2_SealExact.j4]
    exact exact_l2 L0 L1 ts i (by omega) ht hk ts.length 0 (by omega)
  | succ d ih =>
    intro n ts hn hl ht
    refine Ev.succ ?_
    simp only [lectionarylaw2_SealExact.l1, Option.bind_some]
    by_cases h0 : s.size = 0
    · refine Ev.ite (by omega) (Ev.nite (by omega) (Ev.succ ?_))
      simp only [lectionarylaw2_SealExact.j4]
      exact exact_l2 L0 L1 ts i (by omega) ht hk ts.length 0 (by omega)
    · have hb := bytesOf_length s
      obtain ⟨q, hq, hqm⟩ := exact_at i n (bytesOf s).length (by omega) (by omega) (by omega) (by omega)
      simp only [hq]
      refine Ev.ite (by omega) (Ev.ite (by omega) (Ev.ite (by omega) (Ev.nite (by omega) (Ev.ite (by omega) (Ev.ite (by omega) (Ev.ite (tmod8 n) (Ev.ite (by omega) (Ev.ite ?_ ?_))))))))
      · simp only [List.length_cons, List.length_nil]
        omega
      · rw [wstep n 11 (by omega) (by omega)]
        refine ih (n + 1) _ (by omega) ?_ ?_
        · simp only [List.length_append, List.length_cons, List.length_nil]
          omega
        · intro t hm
          rcases List.mem_append.1 hm with hm | hm
          · exact ht t hm
          · simp only [List.mem_cons, List.not_mem_nil, or_false] at hm
            rcases hm with rfl | rfl
            · rw [strOfNums_size, List.length_set, hb]; omega
            · rw [ByteArray.size_extract]; omega
theorem exact_l0 (L0 : List Int) (L1 : List ByteArray) (hl : L1.length ≤ 3000) (hs : ∀ x ∈ L1, x.size ≤ 3000) : ∀ (d i : Nat), i + d = L1.length → Ev (fun k => lectionarylaw2_SealExact.l0 k (i : Int) L0 L1) true := by
  have hend : ∀ i : Int, Ev (fun k => lectionarylaw2_SealExact.j1 k i false L0 L1) true := by
    intro i
    refine Ev.succ ?_
    simp only [lectionarylaw2_SealExact.j1]
    refine Ev.nite (by simp) (Ev.ite (by omega) (Ev.bind (add_ev _) (Ev.ite ?_ (Ev.bind wakes2_ev (Ev.now _)))))
    unfold addR
    rw [if_pos (by rw [strOfNums_size, List.length_replicate]; omega)]
    simp [ByteArray.toList_eq]
  intro d
  induction d with
  | zero =>
    intro i hi
    refine Ev.succ ?_
    simp only [lectionarylaw2_SealExact.l0]
    exact Ev.nite (by omega) (hend _)
  | succ d ih =>
    intro i hi
    refine Ev.succ ?_
    simp only [lectionarylaw2_SealExact.l0]
    by_cases c : i < 8
    · have hk := ih (i + 1) (by omega)
      rw [← wstep i 4000 (by omega) (by omega)] at hk
      rw [decide_eq_true (show (i : Int) < 8 by omega)]
      refine Ev.ite (by omega) (Ev.succ ?_)
      simp only [lectionarylaw2_SealExact.j1]
      have hz := hs _ (rdOf_mem ByteArray.empty L1 i (by omega))
      generalize he : rdOf ByteArray.empty L1 (i : Int) = s at hz ⊢
      have ha : (addR s).size ≤ 4000 := by
        unfold addR
        split
        · exact Nat.zero_le _
        · rw [strOfNums_size, fr_len, bytesOf_length]
          have := vb_len5 s.size (by omega)
          omega
      refine Ev.ite (by simp) (Ev.ite (by omega) (Ev.ite (by omega) (Ev.bind (add_ev s) (Ev.bind (of_ev s (by omega)) (Ev.bind (check_ev s (by omega)) (Ev.ite rfl (Ev.bind (frame_ev s) ?_)))))))
      refine Ev.succ ?_
      simp only [lectionarylaw2_SealExact.j2]
      rw [he]
      refine Ev.nite (by simp) (Ev.ite (by omega) (Ev.ite (by omega) (Ev.ite (by omega) (Ev.ite (by omega) ?_))))
      refine exact_l1 L0 L1 (addR s) i c (by omega) hk 10 0 _ (by omega) (by simp) ?_
      intro t hm
      simp only [List.mem_cons, List.not_mem_nil, or_false] at hm
      rcases hm with rfl | rfl | rfl | rfl
      · omega
      · rw [ByteArray.size_append]; omega
      · rw [ByteArray.size_append]; omega
      · exact Nat.zero_le _
    · rw [decide_eq_false (show ¬ (i : Int) < 8 by omega)]
      exact Ev.ite (by omega) (hend _)
theorem SealExact : ∀ (l0_0 : List Int) (l0_1 : List ByteArray), (l0_0.length * 8 ≤ 140737488351232 ∧ ∀ x0 ∈ l0_0, (Lit.int .i64 x0).wf = true) → (l0_1.length * 16 ≤ 140737488351232 ∧ ∀ x0 ∈ l0_1, x0.size ≤ 140737488351232) → ∃ k, lectionarylaw2_SealExact.f k l0_0 l0_1 = some true := by
  intro L0 L1 h0 h1
  apply Ev.rounds
  unfold lectionarylaw2_SealExact.f
  rcases heavy_ev L0 L1 h1.1 h1.2 with h | ⟨h, _, h2, h3⟩
  · exact Ev.bind h (Ev.ite rfl (Ev.now _))
  · exact Ev.bind h (Ev.nite (by simp) (exact_l0 L0 L1 h2 h3 L1.length 0 (by omega)))
end Go.Proofs.Ytcjedinpiedhcaa.Pure
