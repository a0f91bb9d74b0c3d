/- The law SealBack: another byte makes another check. -/
import Derived.Test.YtcjedinpiedhcaaCoreS
namespace Go.Proofs.Ytcjedinpiedhcaa.Pure
open Go.RowKit Go.Proofs.YtcjedinpiedhcaaW.PrintWords Go.Proofs.YtcjedinpiedhcaaW.PrintLast Go.Proofs.YtcjedinpiedhcaaW.PrintMore Go.Proofs.YtcjedinpiedhcaaVb Go.Proofs.YtcjedinpiedhcaaCoreS Go.Proofs.Ytcjedinpiedhcaa.PS
set_option linter.unusedVariables false
set_option linter.unusedSimpArgs false

theorem step_inj {h h' b : Int} (h0 : 0 ≤ h) (h1 : h < 4294967291) (h2 : 0 ≤ h') (h3 : h' < 4294967291) (e : chkStep h b = chkStep h' b) : h = h' := by
  unfold chkStep at e
  omega
theorem fold_range : ∀ (l : List Int) (h : Int), 0 ≤ h → h < 4294967291 → 0 ≤ l.foldl chkStep h ∧ l.foldl chkStep h < 4294967291
  | [], h, h0, h1 => ⟨h0, h1⟩
  | b :: l, h, h0, h1 => fold_range l _ (chkStep_range h b).1 (chkStep_range h b).2
theorem fold_inj : ∀ (l : List Int) (h h' : Int), 0 ≤ h → h < 4294967291 → 0 ≤ h' → h' < 4294967291 → l.foldl chkStep h = l.foldl chkStep h' → h = h'
  | [], h, h', _, _, _, _, e => e
  | b :: l, h, h', h0, h1, h2, h3, e => step_inj h0 h1 h2 h3 (fold_inj l _ _ (chkStep_range h b).1 (chkStep_range h b).2 (chkStep_range h' b).1 (chkStep_range h' b).2 e)
theorem step_byte {h b v : Int} (hb : isByte b) (hv : isByte v) (e : chkStep h b = chkStep h v) : b = v := by
  unfold chkStep at e
  unfold isByte at hb hv
  omega
theorem fold_set : ∀ (l : List Int) (m : Nat) (h v : Int), Bytes l → isByte v → m < l.length → l.getD m 0 ≠ v → l.foldl chkStep h ≠ (l.set m v).foldl chkStep h
  | [], m, h, v, _, _, hm, _ => by simp at hm
  | b :: l, 0, h, v, hl, hv, _, hn => by
    intro e
    simp only [List.set_cons_zero, List.foldl_cons] at e
    have h1 := fold_inj l _ _ (chkStep_range h b).1 (chkStep_range h b).2 (chkStep_range h v).1 (chkStep_range h v).2 e
    exact hn (by simpa using step_byte (hl b List.mem_cons_self) hv h1)
  | b :: l, m + 1, h, v, hl, hv, hm, hn => by
    simp only [List.set_cons_succ, List.foldl_cons]
    exact fold_set l m _ v (fun x hx => hl x (List.mem_cons_of_mem _ hx)) hv (by simpa using hm) (by simpa using hn)
theorem spelt_inj {a b : Int} (h0 : 0 ≤ a) (h1 : a < 4294967296) (h2 : 0 ≤ b) (h3 : b < 4294967296) (e : spelt a = spelt b) : a = b := by
  simp only [spelt, List.cons.injEq, and_true] at e
  omega
theorem chk_eq (l : List Int) : chk l = l.foldl chkStep 1 ∧ 0 ≤ chk l ∧ chk l < 4294967291 := by
  have h := fold_range l 1 (by decide) (by decide)
  unfold chk
  omega
theorem chk_set (p l : List Int) (m : Nat) (v : Int) (hl : Bytes l) (hv : isByte v) (hm : m < l.length) (hn : l.getD m 0 ≠ v) : spelt (chk (p ++ l)) ≠ spelt (chk (p ++ l.set m v)) := by
  intro e
  have h1 := chk_eq (p ++ l)
  have h2 := chk_eq (p ++ l.set m v)
  have h3 := spelt_inj (by omega) (by omega) (by omega) (by omega) e
  rw [h1.1, h2.1, List.foldl_append, List.foldl_append] at h3
  exact fold_set l m _ v hl hv hm hn h3
theorem set_ne {l : List Int} {m : Nat} {v : Int} (hm : m < l.length) (hn : l.getD m 0 ≠ v) : l.set m v ≠ l := by
  intro e
  have h1 : (l.set m v)[m]? = some v := by rw [List.getElem?_set]; simp [hm]
  rw [e] at h1
  exact hn (by rw [List.getD_eq_getElem?_getD, h1]; rfl)
theorem utk_hurt (l r : List Int) (hB : Bytes l) (h : l.length ≤ 700) (n : Nat) (v : Int) (hv : isByte v) (h1 : (vb l.length).length ≤ n) (h2 : n < (fr l).length) (hn : (fr l).getD n 0 ≠ v) :
    utk ((fr l).set n v ++ r) = none := by
  rw [fr_len] at h2
  obtain ⟨j, rfl⟩ : ∃ j, n = (vb l.length).length + j := ⟨n - (vb l.length).length, by omega⟩
  have hn' : (spelt (chk (vb l.length ++ l)) ++ l).getD j 0 ≠ v := by
    intro e
    apply hn
    rw [← e]
    unfold fr
    rw [List.getD_eq_getElem?_getD, List.getElem?_append_right (by omega), List.getD_eq_getElem?_getD]
    congr 2
    omega
  have e1 : (fr l).set ((vb l.length).length + j) v = vb l.length ++ (spelt (chk (vb l.length ++ l)) ++ l).set j v := by
    unfold fr
    rw [List.set_append_right _ _ (by omega)]
    congr 2
    omega
  rw [e1]
  clear e1 hn
  have e4 : (spelt (chk (vb l.length ++ l))).length = 4 := rfl
  unfold utk
  rw [List.append_assoc, pk_vb l.length (by omega)]
  simp only [Int.toNat_natCast]
  rw [if_neg (by simp only [List.length_append, List.length_set, e4]; omega)]
  by_cases c : j < 4
  · have hs : ((spelt (chk (vb l.length ++ l))) ++ l).set j v = (spelt (chk (vb l.length ++ l))).set j v ++ l := List.set_append_left _ _ (by omega)
    have hg : (spelt (chk (vb l.length ++ l))).getD j 0 ≠ v := by
      rw [List.getD_eq_getElem?_getD, List.getElem?_append_left (by omega), ← List.getD_eq_getElem?_getD] at hn'
      exact hn'
    rw [hs, List.append_assoc]
    have e5 : ((spelt (chk (vb l.length ++ l))).set j v).length = 4 := by rw [List.length_set]; exact e4
    rw [List.take_left' e5, List.drop_left' e5, List.take_left, if_neg (set_ne (by omega) hg)]
  · obtain ⟨m, rfl⟩ : ∃ m, j = 4 + m := ⟨j - 4, by omega⟩
    have hs : ((spelt (chk (vb l.length ++ l))) ++ l).set (4 + m) v = spelt (chk (vb l.length ++ l)) ++ l.set m v := by
      rw [List.set_append_right _ _ (by omega)]
      congr 2
      omega
    have hg : l.getD m 0 ≠ v := by
      intro e
      apply hn'
      rw [← e, List.getD_eq_getElem?_getD, List.getElem?_append_right (by omega), List.getD_eq_getElem?_getD]
      congr 2
      omega
    rw [hs, List.append_assoc, List.take_left' e4, List.drop_left' e4]
    have e6 : (l.set m v ++ r).take l.length = l.set m v := List.take_left' (List.length_set ..)
    rw [e6, if_neg (chk_set _ l m v hB hv (by omega) hg)]
theorem within_255 (x : Int) : ∃ t, lectionarylaw0_Within.f x 255 = some t ∧ 0 ≤ t ∧ t < 255 := by
  have e : IntKind.u64.wrap 255 = 255 := by decide
  unfold lectionarylaw0_Within.f
  rw [e, if_neg (by decide), wrap_u64, Int.tmod_eq_emod_of_nonneg (by omega)]
  exact ⟨_, rfl, by unfold wrap64; omega, by unfold wrap64; omega⟩
theorem set_bytes {l : List Int} (h : Bytes l) (n : Nat) {v : Int} (hv : isByte v) : Bytes (l.set n v) := by
  intro b hb
  rcases List.mem_or_eq_of_mem_set hb with hb | rfl
  · exact h b hb
  · exact hv
theorem hurt_take (l : List Int) (hB : Bytes l) (h : l.length ≤ 700) (n : Nat) (t : Int) (h0 : 0 ≤ t) (h255 : t < 255) (h1 : (vb l.length).length ≤ n) (h2 : n < (fr l).length) (u : ByteArray) :
    (utakeR (bytesOf (strOfNums ((fr l).set n ((rd (fr l) (n : Int) + wrap64 (1 + t) % 256) % 256)) ++ u))).2.2 = false := by
  have hv : isByte ((rd (fr l) (n : Int) + wrap64 (1 + t) % 256) % 256) := by unfold isByte; omega
  have hr : rd (fr l) (n : Int) = (fr l).getD n 0 := by unfold rd; rw [Int.toNat_natCast]
  have hb : isByte ((fr l).getD n 0) := by
    rw [List.getD_eq_getElem?_getD, List.getElem?_eq_getElem h2]
    exact fr_bytes hB _ (List.getElem_mem h2)
  have hn : (fr l).getD n 0 ≠ (rd (fr l) (n : Int) + wrap64 (1 + t) % 256) % 256 := by
    rw [hr]
    generalize (fr l).getD n 0 = b at hb ⊢
    unfold isByte at hb
    unfold wrap64
    omega
  unfold utakeR
  rw [bytesOf_append, bytesOf_str (set_bytes (fr_bytes hB) n hv), utk_hurt l _ hB h n _ hv h1 h2 hn]
theorem sback_l1 (L0 : List Int) (L1 : List ByteArray) (l : List Int) (hB : Bytes l) (h : l.length ≤ 700) (i : Int) (hk : Ev (fun k => lectionarylaw2_SealBack.l0 k (wrap64 (i + 1)) L0 L1) true) :
    ∀ (d n : Nat), n + d = (fr l).length → (vb l.length).length ≤ n → Ev (fun k => lectionarylaw2_SealBack.l1 k i (strOfNums (fr l)) (n : Int) L0 L1) true := by
  have hz : (fr l).length ≤ 1000 := by
    rw [fr_len]
    have := vb_len5 l.length (by omega)
    omega
  intro d
  induction d with
  | zero =>
    intro n hn h1
    refine Ev.succ ?_
    simp only [lectionarylaw2_SealBack.l1, strOfNums_size]
    exact Ev.nite (by omega) hk
  | succ d ih =>
    intro n hn h1
    refine Ev.succ ?_
    obtain ⟨t, ht, h0, h255⟩ := within_255 (wrap64 ((wrap64 ((n : Int) * 31)) + i))
    simp only [lectionarylaw2_SealBack.l1, strOfNums_size, bytesOf_str (fr_bytes hB), Option.bind_some, ht, List.length_set, Int.toNat_natCast]
    have hu := hurt_take l hB h n t h0 h255 h1 (by omega) (⟨#[98, 101, 104, 105, 110, 100]⟩ : ByteArray)
    refine Ev.ite (by omega) (Ev.ite (by omega) (Ev.ite (by omega) (Ev.ite (by omega) (Ev.ite (by omega) (Ev.bind (utake_ev _ ?_) (Ev.nite (by rw [hu]; simp) ?_))))))
    · rw [ByteArray.size_append, strOfNums_size, List.length_set, behind_size]
      omega
    · rw [wstep n 2000 (by omega) (by omega)]
      exact ih (n + 1) (by omega) (by omega)
theorem sback_l0 (L0 : List Int) (L1 : List ByteArray) (hl : L1.length ≤ 3000) (hs : ∀ x ∈ L1, x.size ≤ 3000) : ∀ (d i : Nat), i + d = L1.length → Ev (fun k => lectionarylaw2_SealBack.l0 k (i : Int) L0 L1) true := by
  have hend : ∀ i : Int, Ev (fun k => lectionarylaw2_SealBack.j1 k i false L0 L1) true := by
    intro i
    refine Ev.succ ?_
    simp only [lectionarylaw2_SealBack.j1]
    exact Ev.nite (by simp) (Ev.bind wakes2_ev (Ev.now _))
  intro d
  induction d with
  | zero =>
    intro i hi
    refine Ev.succ ?_
    simp only [lectionarylaw2_SealBack.l0]
    exact Ev.nite (by omega) (hend _)
  | succ d ih =>
    intro i hi
    refine Ev.succ ?_
    simp only [lectionarylaw2_SealBack.l0]
    by_cases c : i < 8
    · have hk := ih (i + 1) (by omega)
      rw [← wstep i 4000 (by omega) (by omega)] at hk
      rw [decide_eq_true (show (i : Int) < 8 by omega)]
      refine Ev.ite (by omega) (Ev.succ ?_)
      simp only [lectionarylaw2_SealBack.j1]
      have hz := hs _ (rdOf_mem ByteArray.empty L1 i (by omega))
      generalize rdOf ByteArray.empty L1 (i : Int) = s at hz ⊢
      refine Ev.ite (by simp) (Ev.ite (by omega) (Ev.ite (by omega) ?_))
      by_cases c7 : (s.size : Int) > 700
      · exact Ev.ite c7 hk
      · have h700 : s.size ≤ 700 := by omega
        have hBs := bytesOf_bytes s
        have hl7 : (bytesOf s).length ≤ 700 := by rw [bytesOf_length]; exact h700
        have hv5 := vb_len5 (bytesOf s).length (by omega)
        have hv0 := vb_ne (bytesOf s).length
        have hfl := fr_len (bytesOf s)
        have hut := utakeR_fr (bytesOf s) hl7 (⟨#[98, 101, 104, 105, 110, 100]⟩ : ByteArray) hBs
        have hbl := bytesOf_length s
        refine Ev.nite c7 (Ev.bind (add_ev s) ?_)
        rw [addR_ok h700]
        refine Ev.ite (by rw [strOfNums_size]; omega) (Ev.bind (utake_ev _ (by rw [ByteArray.size_append, strOfNums_size, behind_size]; omega)) ?_)
        rw [hut]
        refine Ev.ite rfl (Ev.ite (by rw [str_bytesOf]) (Ev.ite behind_list (Ev.succ ?_)))
        simp only [lectionarylaw2_SealBack.j2, strOfNums_size]
        rw [w64 (n := ((bytesOf s).length : Int) + 5) (by omega) (by omega), decide_eq_false (by omega), w64 (n := ((fr (bytesOf s)).length : Int) - ((bytesOf s).length : Int)) (by omega) (by omega), w64 (by omega) (by omega)]
        refine Ev.nite (by simp) ?_
        rw [show ((fr (bytesOf s)).length : Int) - ((bytesOf s).length : Int) - 4 = ((vb (bytesOf s).length).length : Int) by omega]
        exact sback_l1 L0 L1 (bytesOf s) hBs hl7 i hk ((fr (bytesOf s)).length - (vb (bytesOf s).length).length) _ (by omega) (Nat.le_refl _)
    · rw [decide_eq_false (show ¬ (i : Int) < 8 by omega)]
      exact Ev.ite (by omega) (hend _)
theorem SealBack : ∀ (l0_0 : List Int) (l0_1 : List ByteArray), (l0_0.length * 8 ≤ 140737488351232 ∧ ∀ x0 ∈ l0_0, (Lit.int .i64 x0).wf = true) → (l0_1.length * 16 ≤ 140737488351232 ∧ ∀ x0 ∈ l0_1, x0.size ≤ 140737488351232) → ∃ k, lectionarylaw2_SealBack.f k l0_0 l0_1 = some true := by
  intro L0 L1 h0 h1
  apply Ev.rounds
  unfold lectionarylaw2_SealBack.f
  rcases heavy_ev L0 L1 h1.1 h1.2 with h | ⟨h, _, h2, h3⟩
  · exact Ev.bind h (Ev.ite rfl (Ev.now _))
  · exact Ev.bind h (Ev.nite (by simp) (sback_l0 L0 L1 h2 h3 L1.length 0 (by omega)))
end Go.Proofs.Ytcjedinpiedhcaa.Pure
