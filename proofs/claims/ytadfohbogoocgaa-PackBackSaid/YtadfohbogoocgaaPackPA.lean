import Derived.Test.YtadfohbogoocgaaOpPA
namespace Go.Proofs.YtadfohbogoocgaaPackPA
open Go.RowKit Go.Proofs.YtadfohbogoocgaaW.PrintWords Go.Proofs.YtadfohbogoocgaaW.PrintLast Go.Proofs.YtadfohbogoocgaaW.PrintMore Go.Proofs.YtadfohbogoocgaaVb Go.Proofs.YtadfohbogoocgaaNumPA Go.Proofs.Ytadfohbogoocgaa.PA
set_option linter.unusedVariables false
set_option linter.unusedSimpArgs false
def numsB (l : List Int) : List Int := l.flatMap fun x => vb x.toNat
def elB (e : E) : List Int := numsB [e.f0, e.f1, e.f2]
def txB (s : ByteArray) : List Int := vb s.size ++ bytesOf s
def spellB (o : O) : List Int := numsB [o.f0, o.f1, o.f2] ++ (if o.f2 = 2 then numsB [o.f6, o.f7, o.f8] else elB o.f3 ++ txB o.f4 ++ numsB [(o.f5.length : Int)] ++ o.f5.flatMap elB)
def inN (x : Int) : Prop := 0 ≤ x ∧ x ≤ 268435456
theorem z0h (l : List Int) : Bytes (numsB l) := by
  intro b hb
  obtain ⟨x, _, hx⟩ := List.mem_flatMap.1 hb
  exact z6s _ b hx
theorem z9l (s : ByteArray) : Bytes (txB s) := (z6s _).append (z08 s)
theorem z9m (l : List E) : Bytes (l.flatMap elB) := by
  intro b hb
  obtain ⟨x, _, hx⟩ := List.mem_flatMap.1 hb
  exact z0h _ b hx
theorem z3b (o : O) : Bytes (spellB o) := by
  unfold spellB
  refine (z0h _).append ?_
  split
  · exact z0h _
  · exact (((z0h _).append (z9l _)).append (z0h _)).append (z9m _)
theorem z0k (l : List Int) (h : ∀ x ∈ l, inN x) : (numsB l).length ≤ 5 * l.length := by
  induction l with
  | nil => simp [numsB]
  | cons x l ih =>
    have h1 := ih (fun y hy => h y (List.mem_cons_of_mem _ hy))
    have h2 := z4t x.toNat (by have := (h x (List.mem_cons_self ..)); unfold inN at this; omega)
    simp only [numsB, List.flatMap_cons, List.length_append, List.length_cons] at h1 ⊢
    omega
theorem z8e (l : List Int) : (∀ x ∈ l, inN x) → ∀ acc : ByteArray, acc.size + 5 * l.length ≤ 140737488355328 → Ev (fun k => pn.go k l acc) (acc ++ strOfNums (numsB l)) := by
  induction l with
  | nil =>
    intro _ acc _
    refine Ev.cong (Ev.now acc) ?_
    exact z0b (by rw [z0o]; simp [numsB, z4u, z0w])
  | cons x l ih =>
    intro h acc hs
    have hx := h x (List.mem_cons_self ..)
    unfold inN at hx
    obtain ⟨n, rfl⟩ := Int.eq_ofNat_of_zero_le hx.1
    have h5 := z4t n (by omega)
    simp only [List.length_cons] at hs
    have hr := ih (fun y hy => h y (List.mem_cons_of_mem _ hy)) (acc ++ strOfNums (vb n)) (by rw [ByteArray.size_append, strOfNums_size]; omega)
    simp only [pn.go]
    refine Ev.bind (z6u n (by omega)) (Ev.ite (by rw [strOfNums_size]; omega) ?_)
    refine Ev.cong hr ?_
    simp only [numsB, List.flatMap_cons, Int.toNat_natCast, z03]
    rw [ByteArray.append_assoc]
theorem z0z (l : List Int) (h : ∀ x ∈ l, inN x) (hl : l.length ≤ 1000) : Ev (fun k => v6.f k l) (strOfNums (numsB l)) := by
  unfold v6.f
  refine Ev.ite (by omega) ?_
  refine Ev.cong (z8e l h ⟨#[]⟩ (by have : (⟨#[]⟩ : ByteArray).size = 0 := rfl; omega)) ?_
  exact z0b (by rw [z0o, z0w, List.nil_append])
theorem zb3 (e : E) (h : inN e.f0 ∧ inN e.f1 ∧ inN e.f2) : Ev (fun k => ja.f k e.f0 e.f1 e.f2) (strOfNums (elB e)) := by
  unfold ja.f
  refine Ev.bind (z0z [e.f0, e.f1, e.f2] (by simpa using h) (by simp)) (Ev.now _)
theorem zeb (s : ByteArray) (hs : s.size ≤ 268435456) : Ev (fun k => uz.f k s) (strOfNums (txB s)) := by
  refine Ev.cong (zbg s (by omega)) ?_
  unfold txB
  rw [z03, z18]
theorem z7v {e : E} (h : elemB e = true) : inN e.f0 ∧ inN e.f1 ∧ inN e.f2 := by
  simp only [elemB, zeroE, nameB, siteB, Bool.or_eq_true, Bool.and_eq_true, decide_eq_true_eq] at h
  unfold inN
  omega
theorem z3t (o : O) : ∀ (l : List E) (p : Option E), goneFrom o p l = true → ∀ e ∈ l, inN e.f0 ∧ inN e.f1 ∧ inN e.f2
  | [], _, _, _, he => by simp at he
  | x :: l, p, h, e, he => by
    simp only [goneFrom, Bool.and_eq_true] at h
    rcases List.mem_cons.1 he with rfl | he
    · exact z7v h.1.1.1.2
    · exact z3t o l _ h.2 e he
structure MayO (o : O) : Prop where
  a : inN o.f0 ∧ inN o.f1 ∧ inN o.f2
  k : o.f2 = 2 → inN o.f6 ∧ inN o.f7 ∧ inN o.f8 ∧ o.f3 = ⟨0, 0, 0⟩ ∧ o.f4 = ⟨#[]⟩ ∧ o.f5 = []
  e : o.f2 ≠ 2 → (inN o.f3.f0 ∧ inN o.f3.f1 ∧ inN o.f3.f2) ∧ Lib.runeCount o.f4 ≤ 12 ∧ o.f5.length ≤ 200 ∧ (∀ e ∈ o.f5, inN e.f0 ∧ inN e.f1 ∧ inN e.f2) ∧ o.f6 = 0 ∧ o.f7 = 0 ∧ o.f8 = 0
theorem zad {s : ByteArray} (h : s.size = 0) : s = ⟨#[]⟩ := by
  have h2 : bytesOf s = [] := List.eq_nil_of_length_eq_zero (by rw [gu]; exact h)
  exact z0b (by rw [h2]; rfl)
theorem z6x {o : O} (h : mayB o = true) : MayO o := by
  simp only [mayB, nameB, siteB, Bool.and_eq_true, Bool.or_eq_true, decide_eq_true_eq] at h
  obtain ⟨⟨h0, h1⟩, h2⟩ := h
  refine ⟨?_, fun e2 => ?_, fun e2 => ?_⟩
  · unfold inN; rcases h2 with h2 | h2 <;> omega
  · rcases h2 with h2 | h2
    · omega
    · have h3 := h2.2
      simp only [toggleB, nameB, siteB, zeroE, emptyB, Bool.and_eq_true, decide_eq_true_eq] at h3
      obtain ⟨⟨⟨⟨⟨⟨h4, h5⟩, _⟩, h6⟩, h7⟩, h8⟩, h9⟩ := h3
      refine ⟨by unfold inN; omega, by unfold inN; omega, h6, ?_, zad h8, List.eq_nil_of_length_eq_zero h9⟩
      obtain ⟨a, b, c⟩ := h7
      show (⟨o.f3.f0, o.f3.f1, o.f3.f2⟩ : E) = _
      rw [a, b, c]
  · rcases h2 with h2 | h2
    · have h3 := h2.2
      simp only [editB, goneB, Bool.and_eq_true, decide_eq_true_eq] at h3
      obtain ⟨⟨⟨⟨⟨⟨⟨h4, _⟩, _⟩, _⟩, _⟩, h5⟩, h6, h7⟩, h8⟩ := h3
      exact ⟨z7v h4, h5, h7, z3t o _ _ h6, h8⟩
    · omega
theorem zcw (s : ByteArray) (i : Nat) : (Utf8.decode s i).2 ≤ 4 := by
  unfold Utf8.decode
  dsimp only
  repeat' split
  all_goals simp
theorem z4m (s : ByteArray) : ∀ (f i : Nat), s.size ≤ i + f → s.size ≤ i + 4 * Lib.runeCountFrom s f i
  | 0, i, h => by unfold Lib.runeCountFrom; omega
  | f + 1, i, h => by
    unfold Lib.runeCountFrom
    split
    · have hd := zcw s i
      have h0 := Lib.decode_width_pos s i ‹_›
      have := z4m s f (i + (Utf8.decode s i).2) (by omega)
      omega
    · omega
theorem z3c {s : ByteArray} (h : Lib.runeCount s ≤ 12) : s.size ≤ 48 := by
  have := z4m s s.size 0 (by omega)
  unfold Lib.runeCount at h
  omega
theorem zbl (l : List E) (h : ∀ e ∈ l, inN e.f0 ∧ inN e.f1 ∧ inN e.f2) : (l.flatMap elB).length ≤ 15 * l.length := by
  induction l with
  | nil => simp
  | cons x l ih =>
    have h1 := ih (fun y hy => h y (List.mem_cons_of_mem _ hy))
    have h2 := z0k [x.f0, x.f1, x.f2] (by have := h x (List.mem_cons_self ..); simpa using this)
    simp only [List.flatMap_cons, List.length_append, List.length_cons, List.length_nil, elB] at h1 h2 ⊢
    omega
theorem zae (o : O) (hn : o.f5.length ≤ 200) (he : ∀ e ∈ o.f5, inN e.f0 ∧ inN e.f1 ∧ inN e.f2) : ∀ (d i : Nat) (acc : ByteArray), i + d = o.f5.length → acc.size + 15 * d ≤ 140737488355328 →
    Ev (fun k => vk.l0 k acc o.f5 (o.f5.length : Int) (i : Int)) (acc ++ strOfNums ((o.f5.drop i).flatMap elB)) := by
  intro d
  induction d with
  | zero =>
    intro i acc hi hs
    have : o.f5.drop i = [] := List.drop_eq_nil_of_le (by omega)
    rw [this]
    refine Ev.succ ?_
    simp only [vk.l0]
    refine Ev.nite (by omega) (Ev.some_of ?_)
    congr 1
    exact z0b (by rw [z0o]; simp [z4u, z0w])
  | succ d ih =>
    intro i acc hi hs
    have hlt : i < o.f5.length := by omega
    have hm := he _ (List.getElem_mem hlt)
    have h15 := z0k [o.f5[i].f0, o.f5[i].f1, o.f5[i].f2] (by simpa using hm)
    have hsz : (strOfNums (elB o.f5[i])).size ≤ 15 := by rw [strOfNums_size]; simpa [elB] using h15
    have hr := ih (i + 1) (acc ++ strOfNums (elB o.f5[i])) (by omega) (by rw [ByteArray.size_append]; omega)
    rw [List.drop_eq_getElem_cons hlt, List.flatMap_cons, z03, ← ByteArray.append_assoc]
    refine Ev.succ ?_
    simp only [vk.l0, z5i _ i hlt]
    refine Ev.ite (by omega) (Ev.ite (by omega) (Ev.ite (by omega) (Ev.bind (zb3 o.f5[i] hm) (Ev.ite (by omega) ?_))))
    rw [wstep i o.f5.length (by omega) (by omega)]
    exact hr
theorem z10 {o : O} (h : mayB o = true) : (spellB o).length ≤ 4000 := by
  have m := z6x h
  have h1 := z0k [o.f0, o.f1, o.f2] (by simpa using m.a)
  unfold spellB
  rw [List.length_append]
  simp only [List.length_cons, List.length_nil] at h1
  split
  · rename_i e2
    have m2 := m.k e2
    have h2 := z0k [o.f6, o.f7, o.f8] (by simpa using ⟨m2.1, m2.2.1, m2.2.2.1⟩)
    simp only [List.length_cons, List.length_nil] at h2
    omega
  · rename_i e2
    have m2 := m.e e2
    have h2 := z0k [o.f3.f0, o.f3.f1, o.f3.f2] (by simpa using m2.1)
    have h3 := z3c m2.2.1
    have h4 := z4t o.f4.size (by omega)
    have h5 := z0k [(o.f5.length : Int)] (by simp only [List.mem_singleton, forall_eq]; unfold inN; omega)
    have h6 := zbl o.f5 m2.2.2.2.1
    simp only [List.length_append, elB, txB, gu, List.length_cons, List.length_nil] at h2 h5 ⊢
    have h7 := m2.2.2.1
    omega
theorem z6y {o : O} (h : mayB o = true) : Ev (fun k => vk.f k o.f0 o.f1 o.f2 o.f3.f0 o.f3.f1 o.f3.f2 o.f4 o.f5 o.f6 o.f7 o.f8) (strOfNums (spellB o)) := by
  have m := z6x h
  have hl := z10 h
  unfold vk.f
  refine Ev.bind (z0z [o.f0, o.f1, o.f2] (by simpa using m.a) (by simp)) ?_
  have z1 := strOfNums_size (numsB [o.f0, o.f1, o.f2])
  unfold spellB at hl ⊢
  rw [List.length_append] at hl
  by_cases e2 : o.f2 = 2
  · have m2 := m.k e2
    rw [if_pos e2] at hl ⊢
    refine Ev.ite e2 (Ev.bind (z0z [o.f6, o.f7, o.f8] (by simpa using ⟨m2.1, m2.2.1, m2.2.2.1⟩) (by simp)) ?_)
    refine Ev.ite (by rw [z1, strOfNums_size]; omega) ?_
    rw [z03]
    exact Ev.now _
  · have m2 := m.e e2
    rw [if_neg e2] at hl ⊢
    simp only [List.length_append] at hl
    have h3 := z3c m2.2.1
    refine Ev.nite e2 (Ev.bind (zb3 o.f3 m2.1) (Ev.bind (zeb o.f4 (by omega)) ?_))
    have z2 := strOfNums_size (elB o.f3)
    have z3 := strOfNums_size (txB o.f4)
    refine Ev.ite (by rw [z2, z3]; omega) ?_
    refine Ev.bind (z0z [(o.f5.length : Int)] (by simp only [List.mem_singleton, forall_eq]; unfold inN; have := m2.2.2.1; omega) (by simp)) ?_
    have z4 := strOfNums_size (numsB [(o.f5.length : Int)])
    refine Ev.ite (by simp only [ByteArray.size_append]; rw [z2, z3, z4]; omega) (Ev.ite (by simp only [ByteArray.size_append]; rw [z1, z2, z3, z4]; omega) ?_)
    have hr := zae o m2.2.2.1 m2.2.2.2.1 o.f5.length 0 (strOfNums (numsB [o.f0, o.f1, o.f2]) ++ (strOfNums (elB o.f3) ++ strOfNums (txB o.f4) ++ strOfNums (numsB [(o.f5.length : Int)]))) (by omega) (by simp only [ByteArray.size_append]; rw [z1, z2, z3, z4]; have := m2.2.2.1; omega)
    refine Ev.cong hr ?_
    simp only [z03, List.drop_zero, ByteArray.append_assoc]
theorem zec (o : O) (hs : o.f4.size < 9223372036854775807) (hn : o.f5.length < 4611686018427387904) :
    Ev (fun k => jm.f k o.f0 o.f1 o.f2 o.f3.f0 o.f3.f1 o.f3.f2 o.f4 o.f5 o.f6 o.f7 o.f8) (if mayB o then (strOfNums (spellB o), 0) else (⟨#[]⟩, 1)) := by
  unfold jm.f
  refine Ev.bind (z6w o hs hn) ?_
  cases h : mayB o with
  | true => exact Ev.ite rfl (Ev.bind (z6y h) (Ev.now _))
  | false => exact Ev.nite (by simp) (Ev.now _)
abbrev Pt := List Int × Bool
def rdN (p : Pt) : Int × Pt := match pk p.1 with
  | some (m, r) => (m, (r, p.2))
  | none => (0, ([], true))
def rdT (p : Pt) : ByteArray × Pt := match pk p.1 with
  | some (m, r) => if m > r.length then (⟨#[]⟩, ([], true)) else (strOfNums (r.take m.toNat), (r.drop m.toNat, p.2))
  | none => (⟨#[]⟩, ([], true))
def rdE (p : Pt) : E × Pt := (⟨(rdN p).1, (rdN (rdN p).2).1, (rdN (rdN (rdN p).2).2).1⟩, (rdN (rdN (rdN p).2).2).2)
def rdG : Nat → Pt → List E × Pt
  | 0, p => ([], p)
  | n + 1, p => ((rdE p).1 :: (rdG n (rdE p).2).1, (rdG n (rdE p).2).2)
def fin (o : O) (p : Pt) : O × Pt := (o, (p.1, p.2 || !mayB o))
def rdTog (a b : Int) (p : Pt) : O × Pt := fin ⟨a, b, 2, ⟨0, 0, 0⟩, ⟨#[]⟩, [], (rdN p).1, (rdN (rdN p).2).1, (rdN (rdN (rdN p).2).2).1⟩ (rdN (rdN (rdN p).2).2).2
def rdEd4 (a b c : Int) (e : E) (s : ByteArray) (n : Int) (g : List E × Pt) : O × Pt := fin ⟨a, b, c, e, s, g.1, 0, 0, 0⟩ (g.2.1, g.2.2 || decide (n > 200))
def rdEd3 (a b c : Int) (e : E) (s : ByteArray) (n : Int × Pt) : O × Pt := rdEd4 a b c e s n.1 (rdG (min n.1.toNat 200) n.2)
def rdEd2 (a b c : Int) (e : E) (t : ByteArray × Pt) : O × Pt := rdEd3 a b c e t.1 (rdN t.2)
def rdEd (a b c : Int) (e : E × Pt) : O × Pt := rdEd2 a b c e.1 (rdT e.2)
def rdO3 (a b : Int) (c : Int × Pt) : O × Pt := if c.1 = 2 then rdTog a b c.2 else rdEd a b c.1 (rdE c.2)
def rdO (p : Pt) : O × Pt := rdO3 (rdN p).1 (rdN (rdN p).2).1 (rdN (rdN (rdN p).2).2)
def Good (p : Pt) : Prop := Bytes p.1 ∧ p.1.length < 4611686018427387904
theorem j8 {p : Pt} (h : Good p) : Good (rdN p).2 ∧ 0 ≤ (rdN p).1 ∧ (rdN p).1 ≤ 268435456 := by
  unfold rdN
  cases hp : pk p.1 with
  | none => exact ⟨⟨Bytes.nil, by simp⟩, by simp, by simp⟩
  | some y =>
    obtain ⟨m, r⟩ := y
    obtain ⟨h0, h1, h2, h3⟩ := z2d h.1 hp
    have := z9i h.1 hp
    exact ⟨⟨h3, by have := h.2; simp only; omega⟩, h0, h1⟩
theorem z6z {p : Pt} (h : Good p) : Good (rdT p).2 ∧ (rdT p).1.size < 4611686018427387904 := by
  unfold rdT
  cases hp : pk p.1 with
  | none => exact ⟨⟨Bytes.nil, by simp⟩, (show (⟨#[]⟩ : ByteArray).size < 4611686018427387904 by decide)⟩
  | some y =>
    obtain ⟨m, r⟩ := y
    obtain ⟨h0, h1, h2, h3⟩ := z2d h.1 hp
    have := z9i h.1 hp
    simp only
    have := h.2
    split
    · exact ⟨⟨Bytes.nil, by simp⟩, (show (⟨#[]⟩ : ByteArray).size < 4611686018427387904 by decide)⟩
    · exact ⟨⟨h3.drop _, by simp only [List.length_drop]; omega⟩, by rw [strOfNums_size, List.length_take]; omega⟩
theorem z1k {p : Pt} (h : Good p) : Good (rdE p).2 := (j8 (j8 (j8 h).1).1).1
theorem jk {p : Pt} (h : Good p) : Ev (fun k => zl.f k (strOfNums p.1) p.2) ((rdN p).1, strOfNums (rdN p).2.1, (rdN p).2.2) := by
  unfold zl.f
  have ht := z7u (strOfNums p.1) (by rw [strOfNums_size]; have := h.2; omega)
  rw [z0r h.1] at ht
  refine Ev.bind ht ?_
  unfold takeR rdN
  cases pk p.1 with
  | none =>
    cases hb : p.2 with
    | true => exact Ev.ite rfl (Ev.now _)
    | false => exact Ev.nite (by simp) (Ev.now _)
  | some y =>
    cases hb : p.2 with
    | true => exact Ev.ite rfl (Ev.now _)
    | false => exact Ev.nite (by simp) (Ev.now _)
theorem zaf {p : Pt} (h : Good p) : Ev (fun k => uc.f k (strOfNums p.1) p.2) ((rdT p).1, strOfNums (rdT p).2.1, (rdT p).2.2) := by
  unfold uc.f
  have ht := z7h (strOfNums p.1) (by rw [strOfNums_size]; have := h.2; omega)
  rw [z0r h.1] at ht
  refine Ev.bind ht ?_
  unfold takeTextR rdT
  cases pk p.1 with
  | none =>
    cases hb : p.2 with
    | true => exact Ev.ite rfl (Ev.now _)
    | false => exact Ev.nite (by simp) (Ev.now _)
  | some y =>
    by_cases hm : y.1 > (y.2.length : Int)
    · simp only [if_pos hm]
      cases hb : p.2 with
      | true => exact Ev.ite rfl (Ev.now _)
      | false => exact Ev.nite (by simp) (Ev.now _)
    · simp only [if_neg hm]
      cases hb : p.2 with
      | true => exact Ev.ite rfl (Ev.now _)
      | false => exact Ev.nite (by simp) (Ev.now _)
theorem z71 {p : Pt} (h : Good p) : Ev (fun k => vz.f k (strOfNums p.1) p.2) ((rdE p).1.f0, (rdE p).1.f1, (rdE p).1.f2, strOfNums (rdE p).2.1, (rdE p).2.2) := by
  unfold vz.f
  have g1 := (j8 h).1
  have g2 := (j8 g1).1
  exact Ev.bind (jk h) (Ev.bind (jk g1) (Ev.bind (jk g2) (Ev.now _)))
abbrev RO := Int × Int × Int × Int × Int × Int × ByteArray × List E × Int × Int × Int × ByteArray × Bool
def outO (x : O × Pt) : RO := (x.1.f0, x.1.f1, x.1.f2, x.1.f3.f0, x.1.f3.f1, x.1.f3.f2, x.1.f4, x.1.f5, x.1.f6, x.1.f7, x.1.f8, strOfNums x.2.1, x.2.2)
theorem z9n (o : O) (p : Pt) (hs : o.f4.size < 9223372036854775807) (hn : o.f5.length < 4611686018427387904) :
    Ev (fun k => zw.j1 k (strOfNums p.1) p.2 o.f0 o.f1 o.f2 o.f3.f0 o.f3.f1 o.f3.f2 o.f4 o.f5 o.f6 o.f7 o.f8) (outO (fin o p)) := by
  refine Ev.succ ?_
  simp only [zw.j1]
  cases hb : p.2 with
  | true =>
    refine Ev.ite rfl (Ev.some_of ?_)
    simp [outO, fin, hb]
  | false =>
    refine Ev.nite (by simp) (Ev.bind (z6w o hs hn) (Ev.some_of ?_))
    simp [outO, fin, hb]
theorem zcx (a b c : Int) (e : E) (s : ByteArray) (n : Int) (hs : s.size < 4611686018427387904) (m : Nat) (hm : m ≤ 200) : ∀ (d i : Nat) (acc : List E) (p : Pt), i + d = m → acc.length = i → Good p →
    Ev (fun k => zw.l0 k n (m : Int) (i : Int) (strOfNums p.1) p.2 a b c e.f0 e.f1 e.f2 s acc 0 0 0) (outO (rdEd4 a b c e s n (acc ++ (rdG d p).1, (rdG d p).2))) := by
  intro d
  induction d with
  | zero =>
    intro i acc p hi ha hp
    refine Ev.succ ?_
    simp only [zw.l0]
    refine Ev.nite (by omega) ?_
    have hj := fun q => z9n ⟨a, b, c, e, s, acc, 0, 0, 0⟩ (p.1, q) (by show s.size < _; omega) (by show acc.length < _; omega)
    simp only [rdG, List.append_nil, rdEd4]
    cases hb : p.2 with
    | true =>
      refine Ev.ite rfl ?_
      have := hj true
      simpa using this
    | false =>
      refine Ev.nite (by simp) ?_
      have := hj (decide (n > 200))
      simpa using this
  | succ d ih =>
    intro i acc p hi ha hp
    have hr := ih (i + 1) (acc ++ [(rdE p).1]) (rdE p).2 (by omega) (by simp [ha]) (z1k hp)
    refine Ev.succ ?_
    simp only [zw.l0]
    refine Ev.ite (by omega) (Ev.bind (z71 hp) (Ev.ite (by omega) ?_))
    rw [wstep i m (by omega) (by omega)]
    refine Ev.cong hr ?_
    simp only [rdG, List.append_assoc, List.singleton_append]
theorem z9o {p : Pt} (h : Good p) : Ev (fun k => zw.f k (strOfNums p.1) p.2) (outO (rdO p)) := by
  unfold zw.f rdO
  have g1 := (j8 h).1
  have g2 := (j8 g1).1
  have g3 := (j8 g2).1
  refine Ev.bind (jk h) (Ev.bind (jk g1) (Ev.bind (jk g2) ?_))
  unfold rdO3
  by_cases e2 : (rdN (rdN (rdN p).2).2).1 = 2
  · rw [if_pos e2]
    refine Ev.ite e2 ?_
    have g4 := (j8 g3).1
    have g5 := (j8 g4).1
    refine Ev.bind (jk g3) (Ev.bind (jk g4) (Ev.bind (jk g5) ?_))
    rw [e2]
    exact z9n ⟨(rdN p).1, (rdN (rdN p).2).1, 2, ⟨0, 0, 0⟩, ⟨#[]⟩, [], _, _, _⟩ _ (by show (⟨#[]⟩ : ByteArray).size < _; decide) (by show ([] : List E).length < _; decide)
  · rw [if_neg e2]
    refine Ev.nite e2 ?_
    have g4 := z1k g3
    have g5 := z6z g4
    have g6 := j8 g5.1
    refine Ev.bind (z71 g3) (Ev.bind (zaf g4) (Ev.bind (jk g5.1) ?_))
    unfold rdEd rdEd2 rdEd3
    generalize rdT (rdE (rdN (rdN (rdN p).2).2).2).2 = t at g5 g6 ⊢
    generalize rdN t.2 = n at g6 ⊢
    have hmn : mn n.1 200 = ((min n.1.toNat 200 : Nat) : Int) := by unfold mn; split <;> omega
    rw [hmn]
    have := zcx (rdN p).1 (rdN (rdN p).2).1 (rdN (rdN (rdN p).2).2).1 (rdE (rdN (rdN (rdN p).2).2).2).1 t.1 n.1 g5.2 (min n.1.toNat 200) (by omega) (min n.1.toNat 200) 0 [] n.2 (by omega) rfl g6.1
    simpa using this
def tkO (x : O × Pt) : Int × Int × Int × Int × Int × Int × ByteArray × List E × Int × Int × Int × ByteArray × Int :=
  if x.2.2 then (0, 0, 0, 0, 0, 0, ⟨#[]⟩, [], 0, 0, 0, ⟨#[]⟩, 7) else (x.1.f0, x.1.f1, x.1.f2, x.1.f3.f0, x.1.f3.f1, x.1.f3.f2, x.1.f4, x.1.f5, x.1.f6, x.1.f7, x.1.f8, strOfNums x.2.1, 0)
theorem z9p {l : List Int} (h : Good (l, false)) : Ev (fun k => uo.f k (strOfNums l)) (tkO (rdO (l, false))) := by
  unfold uo.f
  refine Ev.bind (z9o h) ?_
  unfold tkO outO
  dsimp only
  cases (rdO (l, false)).2.2 with
  | true => exact Ev.ite rfl (Ev.now _)
  | false => exact Ev.nite (by simp) (Ev.now _)
theorem zcy {x : Int} (h : inN x) (t : List Int) (b : Bool) : rdN (vb x.toNat ++ t, b) = (x, (t, b)) := by
  unfold rdN
  rw [zb2 x.toNat (by unfold inN at h; omega)]
  simp only
  rw [Int.toNat_of_nonneg h.1]
theorem jt {x : Int} {l : List Int} (h : inN x) (t : List Int) (b : Bool) : rdN (numsB (x :: l) ++ t, b) = (x, (numsB l ++ t, b)) := by
  have : numsB (x :: l) ++ t = vb x.toNat ++ (numsB l ++ t) := by simp [numsB]
  rw [this, zcy h]
theorem z1b (t : List Int) : numsB [] ++ t = t := by simp [numsB]
theorem z9q {e : E} (h : inN e.f0 ∧ inN e.f1 ∧ inN e.f2) (t : List Int) (b : Bool) : rdE (elB e ++ t, b) = (e, (t, b)) := by
  unfold rdE elB
  rw [jt h.1]
  dsimp only
  rw [jt h.2.1]
  dsimp only
  rw [jt h.2.2]
  dsimp only
  rw [z1b]
theorem zcz {s : ByteArray} (h : s.size ≤ 268435456) (t : List Int) (b : Bool) : rdT (txB s ++ t, b) = (s, (t, b)) := by
  unfold rdT txB
  rw [List.append_assoc, zb2 s.size h]
  simp only [List.length_append, gu]
  rw [if_neg (by omega), Int.toNat_natCast]
  have e : s.size = (bytesOf s).length := (gu s).symm
  rw [e, List.take_left, List.drop_left, z18]
theorem z7w : ∀ (l : List E) (t : List Int) (b : Bool), (∀ e ∈ l, inN e.f0 ∧ inN e.f1 ∧ inN e.f2) → rdG l.length (l.flatMap elB ++ t, b) = (l, (t, b))
  | [], t, b, _ => by simp [rdG]
  | x :: l, t, b, h => by
    simp only [List.length_cons, rdG, List.flatMap_cons, List.append_assoc]
    rw [z9q (h x (List.mem_cons_self ..))]
    dsimp only
    rw [z7w l t b (fun y hy => h y (List.mem_cons_of_mem _ hy))]
theorem z55 {o : O} (h : mayB o = true) (t : List Int) (b : Bool) : rdO (spellB o ++ t, b) = (o, (t, b)) := by
  have m := z6x h
  unfold rdO spellB
  rw [List.append_assoc, jt m.a.1]
  dsimp only
  rw [jt m.a.2.1]
  dsimp only
  rw [jt m.a.2.2, z1b]
  unfold rdO3
  dsimp only
  by_cases e2 : o.f2 = 2
  · have m2 := m.k e2
    rw [if_pos e2, if_pos e2]
    unfold rdTog
    rw [jt m2.1]
    dsimp only
    rw [jt m2.2.1]
    dsimp only
    rw [jt m2.2.2.1]
    dsimp only
    rw [z1b]
    have e : (⟨o.f0, o.f1, 2, ⟨0, 0, 0⟩, ⟨#[]⟩, [], o.f6, o.f7, o.f8⟩ : O) = o := by
      show _ = (⟨o.f0, o.f1, o.f2, o.f3, o.f4, o.f5, o.f6, o.f7, o.f8⟩ : O)
      rw [e2, m2.2.2.2.1, m2.2.2.2.2.1, m2.2.2.2.2.2]
    rw [e]
    unfold fin
    rw [h]
    simp
  · have m2 := m.e e2
    rw [if_neg e2, if_neg e2]
    unfold rdEd
    simp only [List.append_assoc]
    rw [z9q m2.1]
    unfold rdEd2
    dsimp only
    rw [zcz (by have := z3c m2.2.1; omega)]
    dsimp only
    rw [jt (by unfold inN; have := m2.2.2.1; omega), z1b]
    unfold rdEd3 rdEd4
    dsimp only
    have h200 := m2.2.2.1
    rw [Int.toNat_natCast, Nat.min_eq_left h200, z7w _ _ _ m2.2.2.2.1]
    dsimp only
    have e : (⟨o.f0, o.f1, o.f2, o.f3, o.f4, o.f5, 0, 0, 0⟩ : O) = o := by
      show _ = (⟨o.f0, o.f1, o.f2, o.f3, o.f4, o.f5, o.f6, o.f7, o.f8⟩ : O)
      rw [m2.2.2.2.2.1, m2.2.2.2.2.2.1, m2.2.2.2.2.2.2]
    rw [e]
    unfold fin
    rw [h]
    have : decide ((o.f5.length : Int) > 200) = false := decide_eq_false (by omega)
    simp [this]
end Go.Proofs.YtadfohbogoocgaaPackPA
