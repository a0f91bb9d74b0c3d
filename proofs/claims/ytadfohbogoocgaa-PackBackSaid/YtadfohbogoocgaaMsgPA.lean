import Derived.Test.YtadfohbogoocgaaPackPA
namespace Go.Proofs.YtadfohbogoocgaaPackPA
open Go.RowKit Go.Proofs.YtadfohbogoocgaaW.PrintWords Go.Proofs.YtadfohbogoocgaaW.PrintLast Go.Proofs.YtadfohbogoocgaaW.PrintMore Go.Proofs.YtadfohbogoocgaaVb Go.Proofs.YtadfohbogoocgaaNumPA Go.Proofs.Ytadfohbogoocgaa.PA
set_option linter.unusedVariables false
set_option linter.unusedSimpArgs false
def Fit (o : O) : Prop := o.f4.size < 9223372036854775807 ∧ o.f5.length < 4611686018427387904
def caseM (m : M) : Bool :=
  if m.f0 = 1 then decide (1 ≤ m.f2 ∧ m.f2 ≤ 268435456) && decide (m.f6.length = 0) && decide (m.f1 = 0 ∧ m.f3 = 0 ∧ m.f4 = 0 ∧ m.f5 = 0)
  else if m.f0 = 2 then decide (1 ≤ m.f2 ∧ m.f2 ≤ 268435456) && siteB m.f1 && decide (m.f6.length = 0) && decide (m.f3 = 0 ∧ m.f4 = 0 ∧ m.f5 = 0)
  else if m.f0 = 3 then siteB m.f1 && decide (0 ≤ m.f3 ∧ m.f3 ≤ 40) && decide (m.f6.length = 0) && decide (m.f2 = 0 ∧ m.f4 = 0 ∧ m.f5 = 0)
  else if m.f0 = 4 then siteB m.f1 && decide (0 ≤ m.f3 ∧ m.f3 ≤ 40) && decide (m.f6.length = 1) && decide (m.f2 = 0 ∧ m.f4 = 0 ∧ m.f5 = 0)
  else if m.f0 = 5 then decide (0 ≤ m.f3 ∧ m.f3 ≤ 40) && decide (m.f6.length ≤ 4) && decide (m.f1 = 0 ∧ m.f2 = 0 ∧ m.f4 = 0 ∧ m.f5 = 0)
  else if m.f0 = 6 then nameB m.f1 m.f4 && decide (1 ≤ m.f5 ∧ m.f5 ≤ 8) && decide (m.f6.length = 0) && decide (m.f2 = 0 ∧ m.f3 = 0)
  else false
def mayM (m : M) : Bool := m.f6.all mayB && caseM m
def msgB (m : M) : List Int := numsB [m.f0, m.f1, m.f2, m.f3, m.f4, m.f5, (m.f6.length : Int)] ++ m.f6.flatMap spellB
theorem z73 (n : Int) : gp.f n = some (decide (1 ≤ n ∧ n ≤ 268435456)) := by
  unfold gp.f
  by_cases h : n ≥ 1
  · rw [if_pos h]; congr 1; simp only [decide_eq_decide]; omega
  · rw [if_neg h]; congr 1; symm; rw [decide_eq_false_iff_not]; omega
theorem z4n (n : Int) : ur.f n = some (decide (0 ≤ n ∧ n ≤ 40)) := by
  unfold ur.f
  by_cases h : n ≥ 0
  · rw [if_pos h]; congr 1; simp only [decide_eq_decide]; omega
  · rw [if_neg h]; congr 1; symm; rw [decide_eq_false_iff_not]; omega
theorem zbm (o : O) (h : Fit o) : Ev (fun k => gh.f k o.f0 o.f1 o.f2 o.f3.f0 o.f3.f1 o.f3.f2 o.f4 o.f5 o.f6 o.f7 o.f8) (!mayB o) := by
  unfold gh.f
  exact Ev.bind (z6w o h.1 h.2) (Ev.now _)
theorem zd0 (l : List O) : (∀ o ∈ l, Fit o) → Ev (fun k => cfo.go (fun x => gh.f k x.f0 x.f1 x.f2 x.f3.f0 x.f3.f1 x.f3.f2 x.f4 x.f5 x.f6 x.f7 x.f8) l) (!l.all mayB) := by
  induction l with
  | nil => intro _; exact Ev.now _
  | cons o l ih =>
    intro h
    simp only [cfo.go, List.all_cons]
    refine Ev.bind (zbm o (h o (List.mem_cons_self ..))) ?_
    cases mayB o with
    | true => exact Ev.nite (by simp) (by simpa using ih (fun x hx => h x (List.mem_cons_of_mem _ hx)))
    | false => exact Ev.ite rfl (Ev.now _)
theorem z7j (l : List O) (h : ∀ o ∈ l, Fit o) (hl : l.length ≤ 4611686018427387904) : Ev (fun k => jq.f k l 70) (!l.all mayB) := by
  unfold jq.f
  exact Ev.ite rfl (Ev.ite hl (zd0 l h))
theorem z0e (m : M) (len : Int) (b : Bool) (s1 s2 s3 s4 s5 : Int) :
    Ev (fun k => zq.j0 k len b m.f0 m.f1 m.f2 m.f3 m.f4 m.f5 m.f6 m.f0 s1 s2 s3 s4 s5) (b && decide ((m.f6.length : Int) = len) && decide (m.f1 = s1 ∧ m.f2 = s2 ∧ m.f3 = s3 ∧ m.f4 = s4 ∧ m.f5 = s5)) := by
  refine Ev.succ ?_
  simp only [zq.j0]
  by_cases hb : b = true
  · refine Ev.ite hb ?_
    by_cases h0 : (m.f6.length : Int) = len
    · refine Ev.ite h0 ?_
      by_cases h1 : m.f1 = s1
      · refine Ev.ite h1 ?_
        by_cases h2 : m.f2 = s2
        · refine Ev.ite h2 ?_
          by_cases h3 : m.f3 = s3
          · refine Ev.ite h3 ?_
            by_cases h4 : m.f4 = s4
            · exact Ev.ite h4 (Ev.cong (Ev.now _) (by by_cases h5 : m.f5 = s5 <;> simp [hb, h0, h1, h2, h3, h4, h5]))
            · exact Ev.nite h4 (Ev.cong (Ev.now _) (by simp [h4]))
          · exact Ev.nite h3 (Ev.cong (Ev.now _) (by simp [h3]))
        · exact Ev.nite h2 (Ev.cong (Ev.now _) (by simp [h2]))
      · exact Ev.nite h1 (Ev.cong (Ev.now _) (by simp [h1]))
    · exact Ev.nite h0 (Ev.cong (Ev.now _) (by simp [h0]))
  · exact Ev.nite hb (Ev.cong (Ev.now _) (by simp [hb]))
theorem z7x (m : M) (h : ∀ o ∈ m.f6, Fit o) (hl : m.f6.length ≤ 4611686018427387904) : Ev (fun k => zq.f k m.f0 m.f1 m.f2 m.f3 m.f4 m.f5 m.f6) (mayM m) := by
  unfold zq.f mayM
  refine Ev.bind (z7j m.f6 h hl) ?_
  cases m.f6.all mayB with
  | false => exact Ev.ite rfl (Ev.now _)
  | true =>
    refine Ev.nite (by simp) ?_
    simp only [Bool.true_and]
    unfold caseM
    by_cases k1 : m.f0 = 1
    · rw [if_pos k1, z73]
      refine Ev.ite k1 ?_
      simp only [Option.bind_some]
      refine Ev.cong (z0e m _ _ _ _ _ _ _) ?_
      rw [Bool.eq_iff_iff]; generalize siteB m.f1 = z; cases z <;> simp only [Bool.and_eq_true, decide_eq_true_eq, Bool.false_eq_true, false_and, and_false, true_and, and_true, Bool.true_and, Bool.false_and, Bool.and_true, Bool.and_false] <;> omega
    · rw [if_neg k1]
      refine Ev.nite k1 ?_
      by_cases k2 : m.f0 = 2
      · rw [if_pos k2, z73, z1s]
        refine Ev.ite k2 ?_
        simp only [Option.bind_some]
        by_cases c : 1 ≤ m.f2 ∧ m.f2 ≤ 268435456
        · refine Ev.ite (decide_eq_true c) (Ev.cong (z0e m _ _ _ _ _ _ _) ?_)
          rw [Bool.eq_iff_iff]; generalize siteB m.f1 = z; cases z <;> simp only [Bool.and_eq_true, decide_eq_true_eq, Bool.false_eq_true, false_and, and_false, true_and, and_true, Bool.true_and, Bool.false_and, Bool.and_true, Bool.and_false] <;> omega
        · refine Ev.nite (by simpa using c) (Ev.cong (z0e m _ _ _ _ _ _ _) ?_)
          rw [decide_eq_false c]
          simp
      · rw [if_neg k2]
        refine Ev.nite k2 ?_
        have two : ∀ (n : Nat), Ev (fun k => if siteB m.f1 = true then (ur.f m.f3).bind fun t => zq.j0 k (n : Int) t m.f0 m.f1 m.f2 m.f3 m.f4 m.f5 m.f6 m.f0 m.f1 0 m.f3 0 0 else zq.j0 k (n : Int) false m.f0 m.f1 m.f2 m.f3 m.f4 m.f5 m.f6 m.f0 m.f1 0 m.f3 0 0)
            (siteB m.f1 && decide (0 ≤ m.f3 ∧ m.f3 ≤ 40) && decide (m.f6.length = n) && decide (m.f2 = 0 ∧ m.f4 = 0 ∧ m.f5 = 0)) := by
          intro n
          rw [z4n]
          simp only [Option.bind_some]
          cases siteB m.f1 with
          | false => exact Ev.nite (by simp) (Ev.cong (z0e m _ _ _ _ _ _ _) (by simp))
          | true =>
            refine Ev.ite rfl (Ev.cong (z0e m _ _ _ _ _ _ _) ?_)
            rw [Bool.eq_iff_iff]; generalize siteB m.f1 = z; cases z <;> simp only [Bool.and_eq_true, decide_eq_true_eq, Bool.false_eq_true, false_and, and_false, true_and, and_true, Bool.true_and, Bool.false_and, Bool.and_true, Bool.and_false] <;> omega
        by_cases k3 : m.f0 = 3
        · rw [if_pos k3, z1s]
          refine Ev.ite k3 ?_
          simp only [Option.bind_some]
          exact two 0
        · rw [if_neg k3]
          refine Ev.nite k3 ?_
          by_cases k4 : m.f0 = 4
          · rw [if_pos k4, z1s]
            refine Ev.ite k4 ?_
            simp only [Option.bind_some]
            exact two 1
          · rw [if_neg k4]
            refine Ev.nite k4 ?_
            by_cases k5 : m.f0 = 5
            · rw [if_pos k5, z4n]
              refine Ev.ite k5 ?_
              simp only [Option.bind_some]
              by_cases c : 0 ≤ m.f3 ∧ m.f3 ≤ 40
              · refine Ev.ite (decide_eq_true c) (Ev.cong (z0e m _ _ _ _ _ _ _) ?_)
                rw [Bool.eq_iff_iff]; generalize siteB m.f1 = z; cases z <;> simp only [Bool.and_eq_true, decide_eq_true_eq, Bool.false_eq_true, false_and, and_false, true_and, and_true, Bool.true_and, Bool.false_and, Bool.and_true, Bool.and_false] <;> omega
              · refine Ev.nite (by simpa using c) (Ev.cong (z0e m _ _ _ _ _ _ _) ?_)
                rw [decide_eq_false c]
                simp
            · rw [if_neg k5]
              refine Ev.nite k5 ?_
              by_cases k6 : m.f0 = 6
              · rw [if_pos k6, z1t]
                refine Ev.ite k6 ?_
                simp only [Option.bind_some]
                cases nameB m.f1 m.f4 with
                | false => exact Ev.nite (by simp) (Ev.cong (z0e m _ _ _ _ _ _ _) (by simp))
                | true =>
                  refine Ev.ite rfl ?_
                  by_cases c : m.f5 ≥ 1
                  · refine Ev.ite c (Ev.cong (z0e m _ _ _ _ _ _ _) ?_)
                    rw [Bool.eq_iff_iff]; generalize siteB m.f1 = z; cases z <;> simp only [Bool.and_eq_true, decide_eq_true_eq, Bool.false_eq_true, false_and, and_false, true_and, and_true, Bool.true_and, Bool.false_and, Bool.and_true, Bool.and_false] <;> omega
                  · refine Ev.nite c (Ev.cong (z0e m _ _ _ _ _ _ _) ?_)
                    rw [decide_eq_false (by omega : ¬ (1 ≤ m.f5 ∧ m.f5 ≤ 8))]; simp
              · rw [if_neg k6]
                refine Ev.nite k6 (Ev.cong (z0e m _ _ _ _ _ _ _) (by simp))
structure MayM (m : M) : Prop where
  n : inN m.f0 ∧ inN m.f1 ∧ inN m.f2 ∧ inN m.f3 ∧ inN m.f4 ∧ inN m.f5
  l : m.f6.length ≤ 4
  o : ∀ o ∈ m.f6, mayB o = true
theorem z4v {m : M} (h : mayM m = true) : MayM m := by
  simp only [mayM, Bool.and_eq_true, List.all_eq_true] at h
  obtain ⟨h1, h2⟩ := h
  refine ⟨?_, ?_, h1⟩
  · simp only [caseM, siteB, nameB] at h2
    unfold inN
    repeat' split at h2
    all_goals simp only [Bool.and_eq_true, decide_eq_true_eq, Bool.false_eq_true] at h2
    all_goals omega
  · simp only [caseM, siteB, nameB] at h2
    repeat' split at h2
    all_goals simp only [Bool.and_eq_true, decide_eq_true_eq, Bool.false_eq_true] at h2
    all_goals omega
theorem z74 (l : List O) (i : Nat) (h : i < l.length) : zg l (i : Int) = l[i] := by
  simp [zg, List.getD_eq_getElem?_getD, List.getElem?_eq_getElem h]
theorem zbn (l : List O) (h : ∀ o ∈ l, mayB o = true) : (l.flatMap spellB).length ≤ 4000 * l.length := by
  induction l with
  | nil => simp
  | cons x l ih =>
    have h1 := ih (fun y hy => h y (List.mem_cons_of_mem _ hy))
    have h2 := z10 (h x (List.mem_cons_self ..))
    simp only [List.flatMap_cons, List.length_append, List.length_cons] at h1 h2 ⊢
    omega
theorem zbo (l : List O) (hn : l.length ≤ 4) (he : ∀ o ∈ l, mayB o = true) : ∀ (d i : Nat) (acc : ByteArray), i + d = l.length → acc.size + 4000 * d ≤ 140737488355328 →
    Ev (fun k => ue.l0 k acc l (l.length : Int) (i : Int)) (acc ++ strOfNums ((l.drop i).flatMap spellB)) := by
  intro d
  induction d with
  | zero =>
    intro i acc hi hs
    have : l.drop i = [] := List.drop_eq_nil_of_le (by omega)
    rw [this]
    refine Ev.succ ?_
    simp only [ue.l0]
    refine Ev.nite (by omega) (Ev.some_of ?_)
    congr 1
    exact z0b (by rw [z0o]; simp [z4u, z0w])
  | succ d ih =>
    intro i acc hi hs
    have hlt : i < l.length := by omega
    have hm := he _ (List.getElem_mem hlt)
    have hsz : (strOfNums (spellB l[i])).size ≤ 4000 := by rw [strOfNums_size]; exact z10 hm
    have hr := ih (i + 1) (acc ++ strOfNums (spellB l[i])) (by omega) (by rw [ByteArray.size_append]; omega)
    rw [List.drop_eq_getElem_cons hlt, List.flatMap_cons, z03, ← ByteArray.append_assoc]
    refine Ev.succ ?_
    simp only [ue.l0, z74 _ i hlt]
    refine Ev.ite (by omega) (Ev.ite (by omega) (Ev.ite (by omega) (Ev.bind (z6y hm) (Ev.ite (by omega) ?_))))
    rw [wstep i l.length (by omega) (by omega)]
    exact hr
theorem z2e {m : M} (h : mayM m = true) : (msgB m).length ≤ 20000 := by
  have k := z4v h
  have h1 := z0k [m.f0, m.f1, m.f2, m.f3, m.f4, m.f5, (m.f6.length : Int)] (by
    obtain ⟨a, b, c, d, e, f⟩ := k.n
    have := k.l
    simpa [a, b, c, d, e, f] using (show inN (m.f6.length : Int) by unfold inN; omega))
  have h2 := zbn m.f6 k.o
  have h3 := k.l
  unfold msgB
  simp only [List.length_append, List.length_cons, List.length_nil] at h1 ⊢
  omega
theorem zag {m : M} (h : mayM m = true) : Ev (fun k => ue.f k m.f0 m.f1 m.f2 m.f3 m.f4 m.f5 m.f6) (strOfNums (msgB m)) := by
  have k := z4v h
  have hl := z2e h
  unfold ue.f
  refine Ev.bind (z0z [m.f0, m.f1, m.f2, m.f3, m.f4, m.f5, (m.f6.length : Int)] (by
    obtain ⟨a, b, c, d, e, f⟩ := k.n
    have := k.l
    simpa [a, b, c, d, e, f] using (show inN (m.f6.length : Int) by unfold inN; omega)) (by simp)) ?_
  unfold msgB at hl ⊢
  rw [List.length_append] at hl
  have hr := zbo m.f6 k.l k.o m.f6.length 0 (strOfNums (numsB [m.f0, m.f1, m.f2, m.f3, m.f4, m.f5, (m.f6.length : Int)])) (by omega) (by rw [strOfNums_size]; have := k.l; omega)
  refine Ev.cong hr ?_
  rw [List.drop_zero, z03]
theorem z56 (m : M) (h : ∀ o ∈ m.f6, Fit o) (hl : m.f6.length ≤ 4611686018427387904) : Ev (fun k => uj.f k m.f0 m.f1 m.f2 m.f3 m.f4 m.f5 m.f6) (if mayM m then (strOfNums (msgB m), 0) else (⟨#[]⟩, 1)) := by
  unfold uj.f
  refine Ev.bind (z7x m h hl) ?_
  cases hm : mayM m with
  | true => exact Ev.ite rfl (Ev.bind (zag hm) (Ev.now _))
  | false => exact Ev.nite (by simp) (Ev.now _)
theorem z3u : ∀ (n : Nat) (p : Pt), Good p → Good (rdG n p).2 ∧ (rdG n p).1.length = n
  | 0, p, hp => ⟨hp, rfl⟩
  | n + 1, p, hp => ⟨(z3u n _ (z1k hp)).1, by show ((rdE p).1 :: (rdG n (rdE p).2).1).length = n + 1; rw [List.length_cons, (z3u n _ (z1k hp)).2]⟩
theorem z8f {p : Pt} (a b : Int) (h : Good p) : Good (rdTog a b p).2 ∧ Fit (rdTog a b p).1 :=
  ⟨(j8 (j8 (j8 h).1).1).1, (show (⟨#[]⟩ : ByteArray).size < 9223372036854775807 by decide), (show ([] : List E).length < 4611686018427387904 by decide)⟩
theorem z8g {g : List E × Pt} (a b c : Int) (e : E) (s : ByteArray) (n : Int) (h : Good g.2) (hs : s.size < 9223372036854775807) (hg : g.1.length < 4611686018427387904) : Good (rdEd4 a b c e s n g).2 ∧ Fit (rdEd4 a b c e s n g).1 := ⟨h, hs, hg⟩
theorem z8h {n : Int × Pt} (a b c : Int) (e : E) (s : ByteArray) (h : Good n.2) (hs : s.size < 9223372036854775807) : Good (rdEd3 a b c e s n).2 ∧ Fit (rdEd3 a b c e s n).1 := by
  unfold rdEd3
  have g := z3u (min n.1.toNat 200) n.2 h
  exact z8g a b c e s n.1 g.1 hs (by rw [g.2]; omega)
theorem z9r {e : E × Pt} (a b c : Int) (h : Good e.2) : Good (rdEd a b c e).2 ∧ Fit (rdEd a b c e).1 := by
  unfold rdEd rdEd2
  have g := z6z h
  exact z8h a b c e.1 _ (j8 g.1).1 (by have := g.2; omega)
theorem zah {p : Pt} (h : Good p) : Good (rdO p).2 ∧ Fit (rdO p).1 := by
  have g3 := (j8 (j8 (j8 h).1).1).1
  unfold rdO rdO3
  generalize rdN (rdN (rdN p).2).2 = q at g3 ⊢
  split
  · exact z8f _ _ g3
  · have g4 := z1k g3
    generalize rdE q.2 = r at g4 ⊢
    exact z9r _ _ _ g4
def rdOs : Nat → Pt → List O × Pt
  | 0, p => ([], p)
  | n + 1, p => ((rdO p).1 :: (rdOs n (rdO p).2).1, (rdOs n (rdO p).2).2)
def finM (n : Int) (m : M) (p : Pt) : Option M := if p.2 = false ∧ n ≤ 4 ∧ p.1 = [] ∧ mayM m = true then some m else none
def rdM7 (a b c d e f : Int) (n : Int × Pt) : Option M := finM n.1 ⟨a, b, c, d, e, f, (rdOs (min n.1.toNat 4) n.2).1⟩ (rdOs (min n.1.toNat 4) n.2).2
def rdM (p : Pt) : Option M :=
  rdM7 (rdN p).1 (rdN (rdN p).2).1 (rdN (rdN (rdN p).2).2).1 (rdN (rdN (rdN (rdN p).2).2).2).1 (rdN (rdN (rdN (rdN (rdN p).2).2).2).2).1 (rdN (rdN (rdN (rdN (rdN (rdN p).2).2).2).2).2).1 (rdN (rdN (rdN (rdN (rdN (rdN (rdN p).2).2).2).2).2).2)
abbrev RM := Int × Int × Int × Int × Int × Int × List O × Int
def tkM : Option M → RM
  | some m => (m.f0, m.f1, m.f2, m.f3, m.f4, m.f5, m.f6, 0)
  | none => (0, 0, 0, 0, 0, 0, [], 7)
theorem z2h (l : List Int) : (strOfNums l).toList = ([] : List UInt8) ↔ l = [] := by
  rw [z1u, strOfNums_size]
  constructor
  · exact List.eq_nil_of_length_eq_zero
  · rintro rfl; rfl
theorem zai (a b c d e f n : Int) (m : Nat) (hm : m ≤ 4) : ∀ (q i : Nat) (acc : List O) (p : Pt), i + q = m → acc.length = i → Good p → (∀ o ∈ acc, Fit o) →
    Ev (fun k => ym.l0 k n (m : Int) (i : Int) (strOfNums p.1) p.2 a b c d e f acc) (tkM (finM n ⟨a, b, c, d, e, f, acc ++ (rdOs q p).1⟩ (rdOs q p).2)) := by
  intro q
  induction q with
  | zero =>
    intro i acc p hi ha hp hf
    refine Ev.succ ?_
    simp only [ym.l0, rdOs, List.append_nil]
    refine Ev.nite (by omega) ?_
    unfold finM
    cases hb : p.2 with
    | true => exact Ev.ite rfl (Ev.cong (Ev.now _) (by simp [tkM]))
    | false =>
      refine Ev.nite (by simp) ?_
      by_cases h4 : n > 4
      · exact Ev.ite h4 (Ev.cong (Ev.now _) (by rw [if_neg (by omega)]; rfl))
      · refine Ev.nite h4 ?_
        by_cases he : p.1 = []
        · refine Ev.ite ((z2h _).2 he) (Ev.bind (z7x ⟨a, b, c, d, e, f, acc⟩ hf (by show acc.length ≤ _; omega)) ?_)
          cases hmm : mayM ⟨a, b, c, d, e, f, acc⟩ with
          | true => exact Ev.ite rfl (Ev.cong (Ev.now _) (by rw [if_pos ⟨rfl, by omega, he, rfl⟩]; rfl))
          | false => exact Ev.nite (by simp) (Ev.cong (Ev.now _) (by rw [if_neg (by simp)]; rfl))
        · exact Ev.nite (fun h => he ((z2h _).1 h)) (Ev.cong (Ev.now _) (by rw [if_neg (fun h => he h.2.2.1)]; rfl))
  | succ q ih =>
    intro i acc p hi ha hp hf
    have g := zah hp
    have hr := ih (i + 1) (acc ++ [(rdO p).1]) (rdO p).2 (by omega) (by simp [ha]) g.1 (by
      intro o ho
      rcases List.mem_append.1 ho with ho | ho
      · exact hf o ho
      · rw [List.mem_singleton.1 ho]; exact g.2)
    refine Ev.succ ?_
    simp only [ym.l0]
    refine Ev.ite (by omega) (Ev.bind (z9o hp) (Ev.ite (by omega) ?_))
    rw [wstep i m (by omega) (by omega)]
    refine Ev.cong hr ?_
    simp only [rdOs, List.append_assoc, List.singleton_append]
theorem z7a {l : List Int} (h : Good (l, false)) : Ev (fun k => ym.f k (strOfNums l)) (tkM (rdM (l, false))) := by
  unfold ym.f rdM
  have g1 := (j8 h).1
  have g2 := (j8 g1).1
  have g3 := (j8 g2).1
  have g4 := (j8 g3).1
  have g5 := (j8 g4).1
  have g6 := (j8 g5).1
  have g7 := j8 g6
  refine Ev.bind (jk h) (Ev.bind (jk g1) (Ev.bind (jk g2) (Ev.bind (jk g3) (Ev.bind (jk g4) (Ev.bind (jk g5) (Ev.bind (jk g6) ?_))))))
  unfold rdM7
  generalize rdN (rdN (rdN (rdN (rdN (rdN (rdN (l, false)).2).2).2).2).2).2 = n at g7 ⊢
  have hmn : mn n.1 4 = ((min n.1.toNat 4 : Nat) : Int) := by unfold mn; split <;> omega
  rw [hmn]
  have := zai (rdN (l, false)).1 (rdN (rdN (l, false)).2).1 (rdN (rdN (rdN (l, false)).2).2).1 (rdN (rdN (rdN (rdN (l, false)).2).2).2).1 (rdN (rdN (rdN (rdN (rdN (l, false)).2).2).2).2).1 (rdN (rdN (rdN (rdN (rdN (rdN (l, false)).2).2).2).2).2).1 n.1 (min n.1.toNat 4) (by omega) (min n.1.toNat 4) 0 [] n.2 (by omega) rfl g7.1 (by simp)
  simpa using this
theorem z7b : ∀ (l : List O) (t : List Int) (b : Bool), (∀ o ∈ l, mayB o = true) → rdOs l.length (l.flatMap spellB ++ t, b) = (l, (t, b))
  | [], t, b, _ => by simp [rdOs]
  | x :: l, t, b, h => by
    simp only [List.length_cons, rdOs, List.flatMap_cons, List.append_assoc]
    rw [z55 (h x (List.mem_cons_self ..))]
    dsimp only
    rw [z7b l t b (fun y hy => h y (List.mem_cons_of_mem _ hy))]
theorem z7y {m : M} (h : mayM m = true) (t : List Int) : rdM (msgB m ++ t, false) = if t = [] then some m else none := by
  have k := z4v h
  obtain ⟨a, b, c, d, e, f⟩ := k.n
  have hl := k.l
  unfold rdM msgB
  rw [List.append_assoc, jt a]
  dsimp only
  rw [jt b]
  dsimp only
  rw [jt c]
  dsimp only
  rw [jt d]
  dsimp only
  rw [jt e]
  dsimp only
  rw [jt f]
  dsimp only
  rw [jt (by unfold inN; omega), z1b]
  unfold rdM7
  dsimp only
  rw [Int.toNat_natCast, Nat.min_eq_left hl, z7b _ _ _ k.o]
  unfold finM
  dsimp only
  by_cases ht : t = []
  · rw [if_pos ht, if_pos ⟨rfl, by omega, ht, h⟩]
  · rw [if_neg ht, if_neg (fun h => ht h.2.2.1)]
end Go.Proofs.YtadfohbogoocgaaPackPA
