import Derived.Test.YtadfohbogoocgaaMsgPA
namespace Go.Proofs.YtadfohbogoocgaaPackPA
open Go.RowKit Go.Proofs.YtadfohbogoocgaaW.PrintWords Go.Proofs.YtadfohbogoocgaaW.PrintLast Go.Proofs.YtadfohbogoocgaaW.PrintMore Go.Proofs.YtadfohbogoocgaaVb Go.Proofs.YtadfohbogoocgaaNumPA Go.Proofs.Ytadfohbogoocgaa.PA
set_option linter.unusedVariables false
set_option linter.unusedSimpArgs false
theorem z9s (l : List O) (hl : l.length < 4611686018427387904) : ∃ v, Ev (fun k => zz.f k l) v := by
  have key : ∀ (d i : Nat) (x : Int), i + d = l.length → ∃ v, Ev (fun k => zz.l0 k l x (i : Int)) v := by
    intro d
    induction d with
    | zero =>
      intro i x hi
      refine ⟨x, Ev.succ ?_⟩
      simp only [zz.l0]
      exact Ev.nite (by omega) (Ev.now _)
    | succ d ih =>
      intro i x hi
      by_cases h : x < 1048576
      · obtain ⟨v, hv⟩ := ih (i + 1) (wrap64 (x + wrap64 ((wrap64 (2 + (wrap64 (((zg l (i : Int)).f4.size : Int) / 4)))) + ((zg l (i : Int)).f5.length : Int)))) (by omega)
        refine ⟨v, Ev.succ ?_⟩
        simp only [zz.l0, jz.f, Option.bind_some]
        refine Ev.ite (by omega) (Ev.ite h (Ev.ite (by omega) ?_))
        rw [wstep i l.length (by omega) (by omega)]
        exact hv
      · refine ⟨x, Ev.succ ?_⟩
        simp only [zz.l0]
        exact Ev.ite (by omega) (Ev.nite h (Ev.now _))
  exact key l.length 0 (l.length : Int) (by omega)
theorem z9t (L0 : List O) (L1 : List E) (L2 : List Int) (hl : L0.length < 4611686018427387904) : ∃ v, Ev (fun k => yw.f k L0 L1 L2) v := by
  obtain ⟨v, hv⟩ := z9s L0 hl
  exact ⟨_, by unfold yw.f; exact Ev.bind hv (Ev.now _)⟩
theorem z9u (l : List M) (i : Nat) (h : i < l.length) : yg l (i : Int) = l[i] := by
  simp [yg, List.getD_eq_getElem?_getD, List.getElem?_eq_getElem h]
theorem z8i (L0 : List O) (L1 : List E) (L2 : List Int) (L3 : List M) (L4 : List ByteArray) (h0 : L0.length < 4611686018427387904) (h3 : L3.length < 4611686018427387904) (h3' : ∀ m ∈ L3, m.f6.length < 4611686018427387904)
    (h4 : L4.length * 16 ≤ 140737488351232) (h4' : ∀ x ∈ L4, x.size ≤ 140737488351232) : ∃ v, Ev (fun k => yc.f k L0 L1 L2 L3 L4) v := by
  obtain ⟨b, hb⟩ := z9t L0 L1 L2 h0
  have key : ∀ (d i : Nat) (x : Int), i + d = L3.length → ∃ v, Ev (fun k => yc.l0 k x (i : Int) L0 L1 L2 L3 L4) v := by
    intro d
    have stop : ∀ x : Int, ∃ v, Ev (fun k => if x > 900 then some true else (yw.f k L0 L1 L2).bind fun t => some t) v := by
      intro x
      by_cases h9 : x > 900
      · exact ⟨true, Ev.ite h9 (Ev.now _)⟩
      · exact ⟨b, Ev.nite h9 (Ev.bind hb (Ev.now _))⟩
    induction d with
    | zero =>
      intro i x hi
      obtain ⟨v, hv⟩ := stop x
      refine ⟨v, Ev.succ ?_⟩
      simp only [yc.l0]
      exact Ev.nite (by omega) hv
    | succ d ih =>
      intro i x hi
      by_cases h : x < 1048576
      · have hlt : i < L3.length := by omega
        obtain ⟨u, hu⟩ := z9s L3[i].f6 (h3' _ (List.getElem_mem hlt))
        obtain ⟨v, hv⟩ := ih (i + 1) (wrap64 (x + u)) (by omega)
        refine ⟨v, Ev.succ ?_⟩
        simp only [yc.l0, z9u _ i hlt]
        refine Ev.ite (by omega) (Ev.ite h (Ev.ite (by omega) (Ev.bind hu ?_)))
        rw [wstep i L3.length (by omega) (by omega)]
        exact hv
      · obtain ⟨v, hv⟩ := stop x
        refine ⟨v, Ev.succ ?_⟩
        simp only [yc.l0]
        exact Ev.ite (by omega) (Ev.nite h hv)
  obtain ⟨t, ht, _⟩ := zaa L4 h4 h4'
  obtain ⟨v, hv⟩ := key L3.length 0 (wrap64 ((L3.length : Int) + (wrap64 (Int.tdiv t 8)))) (by omega)
  refine ⟨v, ?_⟩
  unfold yc.f
  exact Ev.bind ht hv
theorem z8j (l : List E) (hl : l.length < 4611686018427387904) : Ev (fun k => yh.f k l l) true := by
  have key : ∀ (d i : Nat), i + d = l.length → Ev (fun k => yh.l0 k l l (i : Int)) true := by
    intro d
    induction d with
    | zero =>
      intro i hi
      refine Ev.succ ?_
      simp only [yh.l0]
      exact Ev.nite (by omega) (Ev.now _)
    | succ d ih =>
      intro i hi
      refine Ev.succ ?_
      simp only [yh.l0]
      refine Ev.ite (by omega) (Ev.ite (by omega) (Ev.ite (by omega) (Ev.nite (by simp) ?_)))
      rw [wstep i l.length (by omega) (by omega)]
      exact ih (i + 1) (by omega)
  unfold yh.f
  exact Ev.ite rfl (key l.length 0 (by omega))
theorem z7z (o : O) (h : Fit o) : Ev (fun k => yu.f k o.f0 o.f1 o.f2 o.f3.f0 o.f3.f1 o.f3.f2 o.f4 o.f5 o.f6 o.f7 o.f8 o.f0 o.f1 o.f2 o.f3.f0 o.f3.f1 o.f3.f2 o.f4 o.f5 o.f6 o.f7 o.f8) true := by
  unfold yu.f
  refine Ev.ite rfl (Ev.ite rfl (Ev.ite rfl (Ev.ite (by simp) (Ev.ite rfl (Ev.bind (z8j o.f5 h.2) (Ev.ite rfl (Ev.ite rfl (Ev.ite rfl ?_))))))))
  exact Ev.cong (Ev.now _) (by simp)
theorem zaj (l : List O) (hl : l.length < 4611686018427387904) (h : ∀ o ∈ l, Fit o) : Ev (fun k => ye.f k l l) true := by
  have key : ∀ (d i : Nat), i + d = l.length → Ev (fun k => ye.l0 k l l (i : Int)) true := by
    intro d
    induction d with
    | zero =>
      intro i hi
      refine Ev.succ ?_
      simp only [ye.l0]
      exact Ev.nite (by omega) (Ev.now _)
    | succ d ih =>
      intro i hi
      have hlt : i < l.length := by omega
      refine Ev.succ ?_
      simp only [ye.l0, z74 _ i hlt]
      refine Ev.ite (by omega) (Ev.ite (by omega) (Ev.ite (by omega) (Ev.bind (z7z l[i] (h _ (List.getElem_mem hlt))) (Ev.ite rfl ?_))))
      rw [wstep i l.length (by omega) (by omega)]
      exact ih (i + 1) (by omega)
  unfold ye.f
  exact Ev.ite rfl (key l.length 0 (by omega))
theorem zak (m : M) (hl : m.f6.length < 4611686018427387904) (h : ∀ o ∈ m.f6, Fit o) : Ev (fun k => yz.f k m.f0 m.f1 m.f2 m.f3 m.f4 m.f5 m.f6 m.f0 m.f1 m.f2 m.f3 m.f4 m.f5 m.f6) true := by
  unfold yz.f
  exact Ev.ite rfl (Ev.ite rfl (Ev.ite rfl (Ev.ite rfl (Ev.ite rfl (Ev.ite rfl (Ev.bind (zaj m.f6 hl h) (Ev.now _)))))))
theorem z4o (m : M) : Bytes (msgB m) := by
  unfold msgB
  refine (z0h _).append ?_
  intro b hb
  obtain ⟨x, _, hx⟩ := List.mem_flatMap.1 hb
  exact z3b _ b hx
theorem z57 {m : M} (h : mayM m = true) : Ev (fun k => ym.f k (strOfNums (msgB m))) (m.f0, m.f1, m.f2, m.f3, m.f4, m.f5, m.f6, 0) := by
  have hr := z7y h []
  rw [List.append_nil, if_pos rfl] at hr
  have ht := z7a (l := msgB m) ⟨z4o m, by have := z2e h; show (msgB m).length < _; omega⟩
  rw [hr] at ht
  exact ht
theorem z8k {m : M} (h : mayM m = true) : Ev (fun k => ym.f k (strOfNums (msgB m) ++ (⟨#[1]⟩ : ByteArray))) (0, 0, 0, 0, 0, 0, [], 7) := by
  have e : (⟨#[1]⟩ : ByteArray) = strOfNums [1] := rfl
  have hr := z7y h [1]
  rw [if_neg (by simp)] at hr
  have ht := z7a (l := msgB m ++ [1]) ⟨(z4o m).append (by intro b hb; rw [List.mem_singleton.1 hb]; exact ⟨by omega, by omega⟩), by have := z2e h; show (msgB m ++ [1]).length < _; rw [List.length_append]; simp; omega⟩
  rw [hr, z03] at ht
  rw [e]
  exact ht
theorem z8l : Ev (fun k => vm.f k) true := by
  have hm : mayM ⟨1, 0, 5, 0, 0, 0, []⟩ = true := by decide
  have hb := z56 ⟨1, 0, 5, 0, 0, 0, []⟩ (by simp) (by simp)
  rw [if_pos hm] at hb
  unfold vm.f
  refine Ev.bind hb (Ev.bind (z57 hm) ?_)
  simp only [zy.f, Option.bind_some]
  refine Ev.ite trivial (Ev.ite trivial (Ev.ite ?_ (Ev.cong (Ev.now _) rfl)))
  show ((strOfNums (msgB ⟨1, 0, 5, 0, 0, 0, []⟩)).size : Int) = 7
  rw [strOfNums_size]
  simp only [msgB, numsB, List.flatMap_cons, List.flatMap_nil, List.length_append, List.length_nil]
  rw [z0a (n := (1 : Int).toNat) (by decide), z0a (n := (0 : Int).toNat) (by decide), z0a (n := (5 : Int).toNat) (by decide), z0a (n := ((0 : Nat) : Int).toNat) (by decide)]
  rfl
theorem z9v : (⟨#[98, 101, 104, 105, 110, 100]⟩ : ByteArray) = strOfNums [98, 101, 104, 105, 110, 100] := rfl
theorem z7k : (strOfNums [98, 101, 104, 105, 110, 100]).toList = ([98, 101, 104, 105, 110, 100] : List UInt8) := by rw [ByteArray.toList_eq]; rfl
theorem z5f {o : O} (h : mayB o = true) : Ev (fun k => uo.f k (strOfNums (spellB o) ++ (⟨#[98, 101, 104, 105, 110, 100]⟩ : ByteArray))) (o.f0, o.f1, o.f2, o.f3.f0, o.f3.f1, o.f3.f2, o.f4, o.f5, o.f6, o.f7, o.f8, strOfNums [98, 101, 104, 105, 110, 100], 0) := by
  have hr := z55 h [98, 101, 104, 105, 110, 100] false
  have ht := z9p (l := spellB o ++ [98, 101, 104, 105, 110, 100]) ⟨(z3b o).append (by intro b hb; simp at hb; rcases hb with rfl | rfl | rfl | rfl | rfl | rfl <;> exact ⟨by omega, by omega⟩), by have := z10 h; show (spellB o ++ _).length < _; rw [List.length_append]; simp; omega⟩
  rw [hr, z03] at ht
  rw [z9v]
  exact ht
theorem zed (L0 : List O) (L1 : List E) (L2 : List Int) (L3 : List M) (L4 : List ByteArray) (h3 : L3.length < 4611686018427387904) (h3' : ∀ m ∈ L3, m.f6.length < 4611686018427387904) (h3f : ∀ m ∈ L3, ∀ o ∈ m.f6, Fit o) :
    ∀ (d i : Nat), i + d = L3.length → Ev (fun k => zh.l1 k (i : Int) L0 L1 L2 L3 L4) true := by
  intro d
  have stop : ∀ i : Int, Ev (fun k => zh.j3 k i false L0 L1 L2 L3 L4) true := by
    intro i
    refine Ev.succ ?_
    simp only [zh.j3]
    refine Ev.nite (by simp) (Ev.bind (g := fun _ => gb.f 97) (Ev.some_of (r := true) rfl) (Ev.ite rfl (Ev.bind z8l (Ev.now _))))
  induction d with
  | zero =>
    intro i hi
    refine Ev.succ ?_
    simp only [zh.l1]
    exact Ev.nite (by omega) (stop _)
  | succ d ih =>
    intro i hi
    have hlt : i < L3.length := by omega
    have hmem := List.getElem_mem hlt
    refine Ev.succ ?_
    simp only [zh.l1]
    refine Ev.ite (by omega) ?_
    by_cases h8 : (i : Int) < 8
    · rw [decide_eq_true h8]
      refine Ev.succ ?_
      simp only [zh.j3, zy.f, Option.bind_some, z9u _ i hlt]
      have hn := ih (i + 1) (by omega)
      rw [← wstep i L3.length (by omega) (by omega)] at hn
      refine Ev.ite trivial (Ev.ite (by omega) (Ev.ite (by omega) (Ev.bind (z56 L3[i] (h3f _ hmem) (by have := h3' _ hmem; omega)) ?_)))
      cases hm : mayM L3[i] with
      | false => exact Ev.nite (by simp) hn
      | true =>
        refine Ev.ite rfl (Ev.bind (z57 hm) (Ev.ite ?_ (Ev.bind (z8k hm) (Ev.ite rfl (Ev.ite rfl (Ev.bind (zak L3[i] (h3' _ hmem) (h3f _ hmem)) (Ev.ite rfl hn)))))))
        show (strOfNums (msgB L3[i])).size + 1 ≤ _
        rw [strOfNums_size]
        have := z2e hm
        omega
    · rw [decide_eq_false h8]
      exact stop _
theorem zee (L0 : List O) (L1 : List E) (L2 : List Int) (L3 : List M) (L4 : List ByteArray) (h0 : L0.length < 4611686018427387904) (h0f : ∀ o ∈ L0, Fit o) (hn1 : Ev (fun k => zh.l1 k 0 L0 L1 L2 L3 L4) true) :
    ∀ (d i : Nat), i + d = L0.length → Ev (fun k => zh.l0 k (i : Int) L0 L1 L2 L3 L4) true := by
  intro d
  have stop : ∀ i : Int, Ev (fun k => zh.j1 k i false L0 L1 L2 L3 L4) true := by
    intro i
    refine Ev.succ ?_
    simp only [zh.j1]
    exact Ev.nite (by simp) hn1
  induction d with
  | zero =>
    intro i hi
    refine Ev.succ ?_
    simp only [zh.l0]
    exact Ev.nite (by omega) (stop _)
  | succ d ih =>
    intro i hi
    have hlt : i < L0.length := by omega
    have hmem := List.getElem_mem hlt
    refine Ev.succ ?_
    simp only [zh.l0]
    refine Ev.ite (by omega) ?_
    by_cases h8 : (i : Int) < 8
    · rw [decide_eq_true h8]
      refine Ev.succ ?_
      simp only [zh.j1, zy.f, Option.bind_some, z74 _ i hlt]
      have hn := ih (i + 1) (by omega)
      rw [← wstep i L0.length (by omega) (by omega)] at hn
      have hf := h0f _ hmem
      refine Ev.ite trivial (Ev.ite (by omega) (Ev.ite (by omega) (Ev.bind (zec L0[i] hf.1 hf.2) ?_)))
      cases hm : mayB L0[i] with
      | false => exact Ev.nite (by simp) hn
      | true =>
        refine Ev.ite rfl (Ev.ite ?_ (Ev.bind (z5f hm) (Ev.ite rfl (Ev.bind (z7z L0[i] hf) (Ev.ite rfl (Ev.ite z7k hn))))))
        show (strOfNums (spellB L0[i])).size + 6 ≤ _
        rw [strOfNums_size]
        have := z10 hm
        omega
    · rw [decide_eq_false h8]
      exact stop _
theorem z7l (L0 : List O) (L1 : List E) (L2 : List Int) (L3 : List M) (L4 : List ByteArray) (h0 : L0.length < 4611686018427387904) (h0f : ∀ o ∈ L0, Fit o) (h3 : L3.length < 4611686018427387904) (h3' : ∀ m ∈ L3, m.f6.length < 4611686018427387904) (h3f : ∀ m ∈ L3, ∀ o ∈ m.f6, Fit o)
    (h4 : L4.length * 16 ≤ 140737488351232) (h4' : ∀ x ∈ L4, x.size ≤ 140737488351232) : Ev (fun k => zh.f k L0 L1 L2 L3 L4) true := by
  obtain ⟨b, hb⟩ := z8i L0 L1 L2 L3 L4 h0 h3 h3' h4 h4'
  unfold zh.f
  refine Ev.bind hb ?_
  cases b with
  | true => exact Ev.ite rfl (Ev.now _)
  | false => exact Ev.nite (by simp) (zee L0 L1 L2 L3 L4 h0 h0f (zed L0 L1 L2 L3 L4 h3 h3' h3f L3.length 0 (by omega)) L0.length 0 (by omega))
end Go.Proofs.YtadfohbogoocgaaPackPA
namespace Go.Proofs.Ytadfohbogoocgaa.Pure
open Go.RowKit Go.Proofs.YtadfohbogoocgaaW.PrintWords Go.Proofs.YtadfohbogoocgaaW.PrintMore Go.Proofs.YtadfohbogoocgaaPackPA Go.Proofs.Ytadfohbogoocgaa.PA
theorem PackBack : ∀ (L0 : List S38) (L1 : List S36) (L2 : List Int) (L3 : List S45) (L4 : List ByteArray), (L0.length * 112 ≤ 140737488351232 ∧ ∀ x0 ∈ L0, ((Lit.int .i64 x0.f0).wf = true ∧ ((Lit.int .i64 x0.f1).wf = true ∧ ((Lit.int .i64 x0.f2).wf = true ∧ (((Lit.int .i64 x0.f3.f0).wf = true ∧ ((Lit.int .i64 x0.f3.f1).wf = true ∧ (Lit.int .i64 x0.f3.f2).wf = true)) ∧ (x0.f4.size ≤ 140737488351232 ∧ ((x0.f5.length * 24 ≤ 140737488351232 ∧ ∀ x2 ∈ x0.f5, ((Lit.int .i64 x2.f0).wf = true ∧ ((Lit.int .i64 x2.f1).wf = true ∧ (Lit.int .i64 x2.f2).wf = true))) ∧ ((Lit.int .i64 x0.f6).wf = true ∧ ((Lit.int .i64 x0.f7).wf = true ∧ (Lit.int .i64 x0.f8).wf = true))))))))) → (L1.length * 24 ≤ 140737488351232 ∧ ∀ x0 ∈ L1, ((Lit.int .i64 x0.f0).wf = true ∧ ((Lit.int .i64 x0.f1).wf = true ∧ (Lit.int .i64 x0.f2).wf = true))) → (L2.length * 8 ≤ 140737488351232 ∧ ∀ x0 ∈ L2, (Lit.int .i64 x0).wf = true) → (L3.length * 72 ≤ 140737488351232 ∧ ∀ x0 ∈ L3, ((Lit.int .i64 x0.f0).wf = true ∧ ((Lit.int .i64 x0.f1).wf = true ∧ ((Lit.int .i64 x0.f2).wf = true ∧ ((Lit.int .i64 x0.f3).wf = true ∧ ((Lit.int .i64 x0.f4).wf = true ∧ ((Lit.int .i64 x0.f5).wf = true ∧ (x0.f6.length * 112 ≤ 140737488351232 ∧ ∀ x2 ∈ x0.f6, ((Lit.int .i64 x2.f0).wf = true ∧ ((Lit.int .i64 x2.f1).wf = true ∧ ((Lit.int .i64 x2.f2).wf = true ∧ (((Lit.int .i64 x2.f3.f0).wf = true ∧ ((Lit.int .i64 x2.f3.f1).wf = true ∧ (Lit.int .i64 x2.f3.f2).wf = true)) ∧ (x2.f4.size ≤ 140737488351232 ∧ ((x2.f5.length * 24 ≤ 140737488351232 ∧ ∀ x3 ∈ x2.f5, ((Lit.int .i64 x3.f0).wf = true ∧ ((Lit.int .i64 x3.f1).wf = true ∧ (Lit.int .i64 x3.f2).wf = true))) ∧ ((Lit.int .i64 x2.f6).wf = true ∧ ((Lit.int .i64 x2.f7).wf = true ∧ (Lit.int .i64 x2.f8).wf = true)))))))))))))))) → (L4.length * 16 ≤ 140737488351232 ∧ ∀ x0 ∈ L4, x0.size ≤ 140737488351232) → ∃ k, zh.f k L0 L1 L2 L3 L4 = some true := by
  intro L0 L1 L2 L3 L4 h0 h1 h2 h3 h4
  apply Ev.rounds
  refine z7l L0 L1 L2 L3 L4 (by omega) (fun o ho => ?_) (by omega) (fun m hm => ?_) (fun m hm o ho => ?_) h4.1 h4.2
  · obtain ⟨_, _, _, _, a, b, _⟩ := h0.2 o ho
    have := b.1
    exact ⟨by omega, by omega⟩
  · obtain ⟨_, _, _, _, _, _, a⟩ := h3.2 m hm
    have := a.1
    omega
  · obtain ⟨_, _, _, _, _, _, a⟩ := h3.2 m hm
    obtain ⟨_, _, _, _, b, c, _⟩ := a.2 o ho
    have := c.1
    exact ⟨by omega, by omega⟩
end Go.Proofs.Ytadfohbogoocgaa.Pure
