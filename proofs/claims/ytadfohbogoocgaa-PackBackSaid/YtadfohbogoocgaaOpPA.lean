import Derived.Test.YtadfohbogoocgaaNumPA
namespace Go.Proofs.YtadfohbogoocgaaPackPA
open Go.RowKit Go.Proofs.YtadfohbogoocgaaW.PrintWords Go.Proofs.YtadfohbogoocgaaW.PrintLast Go.Proofs.YtadfohbogoocgaaW.PrintMore Go.Proofs.YtadfohbogoocgaaVb Go.Proofs.YtadfohbogoocgaaNumPA Go.Proofs.Ytadfohbogoocgaa.PA
set_option linter.unusedVariables false
set_option linter.unusedSimpArgs false
abbrev E := S36
abbrev O := S38
abbrev M := S45
def siteB (s : Int) : Bool := decide (1 ≤ s ∧ s ≤ 8)
def nameB (s q : Int) : Bool := siteB s && decide (1 ≤ q ∧ q ≤ 268435456)
def zeroE (e : E) : Bool := decide (e.f0 = 0 ∧ e.f1 = 0 ∧ e.f2 = 0)
def elemB (e : E) : Bool := zeroE e || nameB e.f0 e.f1 && decide (0 ≤ e.f2 ∧ e.f2 < 12)
def lessB (a b : E) : Bool := decide (a.f0 < b.f0 ∨ a.f0 = b.f0 ∧ (a.f1 < b.f1 ∨ a.f1 = b.f1 ∧ a.f2 < b.f2))
def ownB (o : O) (e : E) : Bool := decide (e.f0 = o.f0 ∧ e.f1 = o.f1)
def goneFrom (o : O) : Option E → List E → Bool
  | _, [] => true
  | p, e :: l => !zeroE e && elemB e && !ownB o e && (match p with | none => true | some q => lessB q e) && goneFrom o (some e) l
def goneB (o : O) : Bool := goneFrom o none o.f5 && decide (o.f5.length ≤ 200)
def textB (s : ByteArray) : Bool := !decide (0 ≤ Lib.idxFunc (fun x => badR (x : Int)) true s)
def emptyB (s : ByteArray) : Bool := decide (s.size = 0)
def editB (o : O) : Bool := elemB o.f3 && !ownB o o.f3 && !(emptyB o.f4 && !zeroE o.f3) && !(emptyB o.f4 && decide (o.f5.length = 0)) && textB o.f4 && decide (Lib.runeCount o.f4 ≤ 12) && goneB o && decide (o.f6 = 0 ∧ o.f7 = 0 ∧ o.f8 = 0)
def toggleB (o : O) : Bool := nameB o.f6 o.f7 && !decide (o.f6 = o.f0 ∧ o.f7 = o.f1) && decide (0 ≤ o.f8 ∧ o.f8 ≤ 268435456) && zeroE o.f3 && emptyB o.f4 && decide (o.f5.length = 0)
def mayB (o : O) : Bool := nameB o.f0 o.f1 && (decide (o.f2 = 1) && editB o || decide (o.f2 = 2) && toggleB o)
theorem z1s (s : Int) : uq.f s = some (siteB s) := by
  unfold uq.f siteB
  by_cases h : s ≥ 1
  · rw [if_pos h]; congr 1; simp only [decide_eq_decide]; omega
  · rw [if_neg h]; congr 1; symm; rw [decide_eq_false_iff_not]; omega
theorem z1t (s q : Int) : ut.f s q = some (nameB s q) := by
  unfold ut.f nameB
  rw [z1s]
  simp only [Option.bind_some]
  cases siteB s with
  | false => rfl
  | true =>
    simp only [if_true, Bool.true_and]
    by_cases h : q ≥ 1
    · rw [if_pos h]; congr 1; simp only [decide_eq_decide]; omega
    · rw [if_neg h]; congr 1; symm; rw [decide_eq_false_iff_not]; omega
theorem z3p (a b c : Int) : (a == 0 && (b == 0 && (c == 0))) = zeroE ⟨a, b, c⟩ := by
  unfold zeroE
  rw [Bool.eq_iff_iff]
  simp
theorem zab (a b c : Int) : (!(a == 0) || (!(b == 0) || (!(c == 0)))) = !zeroE ⟨a, b, c⟩ := by
  rw [← z3p]
  cases (a == 0) <;> cases (b == 0) <;> cases (c == 0) <;> rfl
theorem z52 (a b c : Int) : jp.f a b c = some (elemB ⟨a, b, c⟩) := by
  unfold jp.f elemB
  rw [z3p]
  cases zeroE ⟨a, b, c⟩ with
  | true => rfl
  | false =>
    simp only [Bool.false_eq_true, if_false, Bool.false_or]
    rw [z1t]
    simp only [Option.bind_some]
    cases nameB a b with
    | false => rfl
    | true =>
      simp only [if_true, Bool.true_and]
      by_cases h : c ≥ 0
      · rw [if_pos h]; congr 1; simp only [decide_eq_decide]; omega
      · rw [if_neg h]; congr 1; symm; rw [decide_eq_false_iff_not]; omega
theorem z6v (o : O) (e : E) : gr.f o.f0 o.f1 o.f2 o.f3.f0 o.f3.f1 o.f3.f2 o.f4 o.f5 o.f6 o.f7 o.f8 e.f0 e.f1 e.f2 = some (ownB o e) := by
  unfold gr.f ownB
  by_cases h : e.f0 = o.f0
  · rw [if_pos h]; congr 1; rw [Bool.eq_iff_iff]; simp [h]
  · rw [if_neg h]; congr 1; symm; rw [decide_eq_false_iff_not]; exact fun k => h k.1
def cmpI (a b : Int) : Int := if a < b then -1 else if a > b then 1 else 0
theorem zac (a b : Int) : uu.f a b = some (cmpI a b) := by
  unfold uu.f cmp_isNaN_int.f cmpI
  simp only [Option.bind_some, bne_self_eq_false, Bool.false_eq_true, if_false]
  split
  · rfl
  · split <;> rfl
theorem zea (a b c : Int) : Ev (fun k => ub.f k [a, b, c]) (if a = 0 then if b = 0 then c else b else a) := by
  unfold ub.f
  have e1 : wrap64 (0 + 1) = 1 := by rw [w64 (by omega) (by omega)]; rfl
  have e2 : wrap64 (1 + 1) = 2 := by rw [w64 (by omega) (by omega)]; rfl
  have e3 : wrap64 (2 + 1) = 3 := by rw [w64 (by omega) (by omega)]; rfl
  have r0 : rd [a, b, c] 0 = a := rfl
  have r1 : rd [a, b, c] 1 = b := rfl
  have r2 : rd [a, b, c] 2 = c := rfl
  refine Ev.succ ?_
  simp only [ub.l0, List.length_cons, List.length_nil, r0, e1]
  refine Ev.ite (by decide) (Ev.ite (by decide) (Ev.ite (by decide) ?_))
  by_cases ha : a = 0
  · refine Ev.ite ha ?_
    rw [if_pos ha]
    refine Ev.succ ?_
    simp only [ub.l0, List.length_cons, List.length_nil, r1, e2]
    refine Ev.ite (by decide) (Ev.ite (by decide) (Ev.ite (by decide) ?_))
    by_cases hb : b = 0
    · refine Ev.ite hb ?_
      rw [if_pos hb]
      refine Ev.succ ?_
      simp only [ub.l0, List.length_cons, List.length_nil, r2, e3]
      refine Ev.ite (by decide) (Ev.ite (by decide) (Ev.ite (by decide) ?_))
      by_cases hc : c = 0
      · refine Ev.ite hc (Ev.succ ?_)
        simp only [ub.l0, List.length_cons, List.length_nil]
        rw [hc]
        exact Ev.nite (by decide) (Ev.now _)
      · exact Ev.nite hc (Ev.now _)
    · rw [if_neg hb]; exact Ev.nite hb (Ev.now _)
  · rw [if_neg ha]; exact Ev.nite ha (Ev.now _)
theorem zbh (a b : E) : Ev (fun k => jo.f k a.f0 a.f1 a.f2 b.f0 b.f1 b.f2) (lessB a b) := by
  unfold jo.f j6.f
  simp only [zac, Option.bind_some]
  have h := zea (cmpI a.f0 b.f0) (cmpI a.f1 b.f1) (cmpI a.f2 b.f2)
  refine Ev.bind (Ev.bind h (Ev.now _)) (Ev.some_of ?_)
  congr 1
  unfold lessB
  simp only [decide_eq_decide]
  unfold cmpI
  repeat' split
  all_goals omega
theorem z5i (l : List E) (i : Nat) (h : i < l.length) : zr l (i : Int) = l[i] := by
  simp [zr, List.getD_eq_getElem?_getD, List.getElem?_eq_getElem h]
theorem zbi (o : O) (hn : o.f5.length < 4611686018427387904) : ∀ (d i : Nat), i + d = o.f5.length →
    Ev (fun k => yx.l0 k o.f5 (o.f5.length : Int) (i : Int) o.f0 o.f1 o.f2 o.f3.f0 o.f3.f1 o.f3.f2 o.f4 o.f5 o.f6 o.f7 o.f8) (goneFrom o (if 0 < i then some (zr o.f5 ((i : Int) - 1)) else none) (o.f5.drop i) && decide (o.f5.length ≤ 200)) := by
  have j1 : ∀ (i : Nat) (b r : Bool), (b = false → Ev (fun k => yx.l0 k o.f5 (o.f5.length : Int) (wrap64 ((i : Int) + 1)) o.f0 o.f1 o.f2 o.f3.f0 o.f3.f1 o.f3.f2 o.f4 o.f5 o.f6 o.f7 o.f8) r) → (b = true → r = false) →
      Ev (fun k => yx.j1 k o.f5 (o.f5.length : Int) (i : Int) b o.f0 o.f1 o.f2 o.f3.f0 o.f3.f1 o.f3.f2 o.f4 o.f5 o.f6 o.f7 o.f8) r := by
    intro i b r h1 h2
    refine Ev.succ ?_
    simp only [yx.j1]
    cases b with
    | true => rw [h2 rfl]; exact Ev.ite rfl (Ev.now _)
    | false => exact Ev.nite (by simp) (h1 rfl)
  intro d
  induction d with
  | zero =>
    intro i hi
    have : o.f5.drop i = [] := List.drop_eq_nil_of_le (by omega)
    rw [this]
    refine Ev.succ ?_
    simp only [yx.l0]
    refine Ev.nite (by omega) (Ev.some_of ?_)
    congr 1
    simp only [goneFrom, Bool.true_and, decide_eq_decide]
    omega
  | succ d ih =>
    intro i hi
    have hlt : i < o.f5.length := by omega
    have hr := ih (i + 1) (by omega)
    have hw : wrap64 ((i : Int) + 1) = ((i + 1 : Nat) : Int) := by rw [w64 (by omega) (by omega)]; omega
    rw [if_pos (by omega)] at hr
    have e1 : ((i + 1 : Nat) : Int) - 1 = (i : Int) := by omega
    rw [e1, z5i _ i hlt, ← hw] at hr
    rw [List.drop_eq_getElem_cons hlt]
    simp only [goneFrom]
    refine Ev.succ ?_
    simp only [yx.l0, z5i _ i hlt]
    refine Ev.ite (by omega) (Ev.ite (by omega) (Ev.ite (by omega) ?_))
    rw [z3p]
    show Ev _ (!zeroE o.f5[i] && elemB o.f5[i] && !ownB o o.f5[i] && _ && _ && _)
    have ez : zeroE ⟨o.f5[i].f0, o.f5[i].f1, o.f5[i].f2⟩ = zeroE o.f5[i] := rfl
    rw [ez]
    cases hz : zeroE o.f5[i] with
    | true => exact Ev.ite rfl (j1 i true _ (fun h => by cases h) (fun _ => by simp))
    | false =>
      refine Ev.nite (by simp) ?_
      rw [z52]
      simp only [Option.bind_some]
      have ee : elemB ⟨o.f5[i].f0, o.f5[i].f1, o.f5[i].f2⟩ = elemB o.f5[i] := rfl
      rw [ee]
      cases he : elemB o.f5[i] with
      | false => exact Ev.nite (by simp) (j1 i true _ (fun h => by cases h) (fun _ => by simp))
      | true =>
        refine Ev.ite rfl ?_
        rw [z6v]
        simp only [Option.bind_some]
        cases ho : ownB o o.f5[i] with
        | true => exact Ev.ite rfl (j1 i true _ (fun h => by cases h) (fun _ => by simp))
        | false =>
          refine Ev.nite (by simp) ?_
          by_cases h0 : 0 < i
          · have e2 : wrap64 ((i : Int) - 1) = ((i - 1 : Nat) : Int) := by rw [w64 (by omega) (by omega)]; omega
            have e3 : (i : Int) - 1 = ((i - 1 : Nat) : Int) := by omega
            rw [if_pos h0, e2, e3, z5i _ (i - 1) (by omega)]
            refine Ev.ite (by omega) (Ev.ite (by omega) (Ev.ite (by omega) ?_))
            refine Ev.bind (zbh o.f5[i - 1] o.f5[i]) ?_
            cases hl : lessB o.f5[i - 1] o.f5[i] with
            | false => exact j1 i true _ (fun h => by cases h) (fun _ => by simp [hl])
            | true => exact j1 i false _ (fun _ => by simpa [hl] using hr) (fun h => by cases h)
          · refine Ev.nite (by omega) ?_
            rw [if_neg h0]
            exact j1 i false _ (fun _ => by simpa using hr) (fun h => by cases h)
theorem zbj (o : O) (hn : o.f5.length < 4611686018427387904) : Ev (fun k => yx.f k o.f0 o.f1 o.f2 o.f3.f0 o.f3.f1 o.f3.f2 o.f4 o.f5 o.f6 o.f7 o.f8) (goneB o) := by
  have := zbi o hn o.f5.length 0 (by omega)
  exact this
theorem z9k (o : O) (hs : o.f4.size < 9223372036854775807) : z04.f o.f0 o.f1 o.f2 o.f3.f0 o.f3.f1 o.f3.f2 o.f4 o.f5 o.f6 o.f7 o.f8 = some (Lib.runeCount o.f4 : Int) := by
  unfold z04.f utf8_RuneCountInString.f
  rw [if_pos hs]
  rfl
theorem z1u (s : ByteArray) : s.toList = ([] : List UInt8) ↔ s.size = 0 := by
  rw [ByteArray.toList_eq]
  constructor
  · intro h
    have := congrArg List.length h
    rw [z0p] at this
    simpa using this
  · intro h
    apply List.eq_nil_of_length_eq_zero
    rw [z0p]
    exact h
theorem zbk (o : O) (hs : o.f4.size < 9223372036854775807) (hn : o.f5.length < 4611686018427387904) : Ev (fun k => vu.f k o.f0 o.f1 o.f2 o.f3.f0 o.f3.f1 o.f3.f2 o.f4 o.f5 o.f6 o.f7 o.f8) (editB o) := by
  have j0 : ∀ (b r : Bool), (b = true → r = false) → (b = false → r = (textB o.f4 && decide (Lib.runeCount o.f4 ≤ 12) && goneB o && decide (o.f6 = 0 ∧ o.f7 = 0 ∧ o.f8 = 0))) →
      Ev (fun k => vu.j0 k b o.f0 o.f1 o.f2 o.f3.f0 o.f3.f1 o.f3.f2 o.f4 o.f5 o.f6 o.f7 o.f8) r := by
    intro b r h1 h2
    refine Ev.succ ?_
    simp only [vu.j0]
    cases b with
    | true => rw [h1 rfl]; exact Ev.ite rfl (Ev.now _)
    | false =>
      rw [h2 rfl]
      refine Ev.nite (by simp) ?_
      have et : z06.f o.f4 = some (textB o.f4) := rfl
      rw [et, z9k o hs]
      simp only [Option.bind_some]
      cases textB o.f4 with
      | false => exact Ev.nite (by simp) (Ev.now _)
      | true =>
        refine Ev.ite rfl ?_
        by_cases hc : Lib.runeCount o.f4 ≤ 12
        · refine Ev.ite (by omega) (Ev.bind (zbj o hn) ?_)
          rw [decide_eq_true hc]
          cases goneB o with
          | false => exact Ev.nite (by simp) (Ev.now _)
          | true =>
            refine Ev.ite rfl (Ev.some_of ?_)
            by_cases h6 : o.f6 = 0 <;> by_cases h7 : o.f7 = 0 <;> by_cases h8 : o.f8 = 0 <;> simp [h6, h7, h8]
        · refine Ev.nite (by omega) ?_
          rw [decide_eq_false hc]
          exact Ev.now _
  unfold vu.f editB
  rw [z52, z6v o o.f3]
  simp only [Option.bind_some, zab]
  show Ev _ (elemB o.f3 && _ && _ && _ && _ && _ && _ && _)
  have e1 : elemB ⟨o.f3.f0, o.f3.f1, o.f3.f2⟩ = elemB o.f3 := rfl
  have e2 : zeroE ⟨o.f3.f0, o.f3.f1, o.f3.f2⟩ = zeroE o.f3 := rfl
  rw [e1, e2]
  cases elemB o.f3 with
  | false => exact Ev.nite (by simp) (j0 true _ (fun _ => by simp) (fun h => by cases h))
  | true =>
    refine Ev.ite rfl ?_
    cases ownB o o.f3 with
    | true => exact Ev.ite rfl (j0 true _ (fun _ => by simp) (fun h => by cases h))
    | false =>
      refine Ev.nite (by simp) ?_
      unfold emptyB
      by_cases h4 : o.f4.size = 0
      · refine Ev.ite ((z1u _).2 h4) ?_
        rw [decide_eq_true h4]
        cases zeroE o.f3 with
        | false => exact Ev.ite rfl (j0 true _ (fun _ => by simp) (fun h => by cases h))
        | true =>
          refine Ev.nite (by simp) ?_
          by_cases h5 : o.f5.length = 0
          · refine j0 _ _ (fun _ => by simp [h5]) (fun h => by simp [h5] at h)
          · refine j0 _ _ (fun h => absurd (beq_iff_eq.1 h) (by omega)) (fun h => by simp [h5])
      · refine Ev.nite (fun h => h4 ((z1u _).1 h)) ?_
        rw [decide_eq_false h4]
        exact j0 false _ (fun h => by cases h) (fun _ => by simp)
theorem z7i (o : O) : z09.f o.f0 o.f1 o.f2 o.f3.f0 o.f3.f1 o.f3.f2 o.f4 o.f5 o.f6 o.f7 o.f8 = some (toggleB o) := by
  unfold z09.f toggleB
  rw [z1t]
  simp only [Option.bind_some, z3p, z1u]
  have e2 : zeroE ⟨o.f3.f0, o.f3.f1, o.f3.f2⟩ = zeroE o.f3 := rfl
  rw [e2]
  unfold emptyB
  cases nameB o.f6 o.f7 with
  | false => rfl
  | true =>
    by_cases h1 : o.f6 = o.f0 <;> by_cases h2 : o.f7 = o.f1 <;> by_cases h3 : o.f8 < 0 <;> by_cases h4 : o.f8 > 268435456 <;> by_cases h5 : o.f4.size = 0 <;> by_cases h6 : o.f5.length = 0 <;> cases zeroE o.f3 <;> simp [h1, h2, h3, h4, h5, h6] <;> omega
theorem z6w (o : O) (hs : o.f4.size < 9223372036854775807) (hn : o.f5.length < 4611686018427387904) : Ev (fun k => je.f k o.f0 o.f1 o.f2 o.f3.f0 o.f3.f1 o.f3.f2 o.f4 o.f5 o.f6 o.f7 o.f8) (mayB o) := by
  unfold je.f mayB
  rw [z1t]
  simp only [Option.bind_some]
  cases nameB o.f0 o.f1 with
  | false => exact Ev.nite (by simp) (Ev.now _)
  | true =>
    refine Ev.ite rfl ?_
    by_cases h1 : o.f2 = 1
    · refine Ev.ite h1 ?_
      have h := zbk o hs hn
      refine Ev.bind h (Ev.some_of ?_)
      simp [h1]
    · refine Ev.nite h1 ?_
      by_cases h2 : o.f2 = 2
      · refine Ev.ite h2 ?_
        rw [z7i]
        refine Ev.some_of ?_
        simp [h2]
      · refine Ev.nite h2 (Ev.some_of ?_)
        simp [h1, h2]
end Go.Proofs.YtadfohbogoocgaaPackPA
