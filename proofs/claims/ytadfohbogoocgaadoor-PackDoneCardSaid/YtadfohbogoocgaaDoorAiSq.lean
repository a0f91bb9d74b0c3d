/- A part of the proof: what the program does, step by step, over values without addresses. No conditions of mine. -/
import Derived.Test.YtadfohbogoocgaaDoorAiSp
set_option linter.unusedVariables false
set_option linter.unusedSimpArgs false
namespace Go.Sp
open Go Go.RowKit Go.Ai
set_option linter.unusedVariables false
set_option linter.unusedSimpArgs false
def rkOs : Nat → Pt → List O × Pt
  | 0, q => ([], q)
  | n + 1, q => if q.2 = true then ([], q) else ((rkO q).1 :: (rkOs n (rkO q).2).1, (rkOs n (rkO q).2).2)
def fkM (m : M) (q : Pt) : Option M := if q.2 = false ∧ q.1 = [] ∧ mayM m = true then some m else none
def rkM7 (a b c d e f : Int) (n : Int × Pt) : Option M := fkM ⟨a, b, c, d, e, f, (rkOs n.1.toNat n.2).1⟩ (rkOs n.1.toNat n.2).2
def rkM (p : Pt) : Option M :=
  rkM7 (rkN p).1 (rkN (rkN p).2).1 (rkN (rkN (rkN p).2).2).1 (rkN (rkN (rkN (rkN p).2).2).2).1 (rkN (rkN (rkN (rkN (rkN p).2).2).2).2).1 (rkN (rkN (rkN (rkN (rkN (rkN p).2).2).2).2).2).1 (rkN (rkN (rkN (rkN (rkN (rkN (rkN p).2).2).2).2).2).2)
theorem rdT_bad {p : Pt} (h : p.2 = true) : (rdT p).2.2 = true := by
  unfold rdT
  cases pk p.1 with
  | none => rfl
  | some y =>
    simp only
    split
    · rfl
    · exact h
theorem rdE_bad {p : Pt} (h : p.2 = true) : (rdE p).2.2 = true := rdN_bad (rdN_bad (rdN_bad h))
theorem rdO_bad {p : Pt} (h : p.2 = true) : (rdO p).2.2 = true := by
  have h3 := rdE_bad h
  unfold rdO rdO3
  have h4 : (rdN (rdN (rdN p).2).2).2.2 = true := h3
  generalize rdN (rdN (rdN p).2).2 = q at h4 ⊢
  split
  · show ((rdN (rdN (rdN q.2).2).2).2.2 || _) = true
    rw [rdN_bad (rdN_bad (rdN_bad h4))]; rfl
  · show (((rdG (min (rdN (rdT (rdE q.2).2).2).1.toNat 200) (rdN (rdT (rdE q.2).2).2).2).2.2 || _) || _) = true
    rw [rdG_bad _ _ (rdN_bad (rdT_bad (rdE_bad h4)))]; rfl
theorem rdOs_bad : ∀ (n : Nat) (p : Pt), p.2 = true → (rdOs n p).2.2 = true
  | 0, p, h => h
  | n + 1, p, h => rdOs_bad n _ (rdO_bad h)
theorem rkO_few {B : Nat} {q : Pt} (h : Few B q) : Few B (rkO q).2 ∧ (rkO q).1.f4.size ≤ B ∧ (rkO q).1.f5.length ≤ 268435456 := by
  have f3 := (rkN_few (rkN_few (rkN_few h).1).1).1
  unfold rkO rkO3
  generalize rkN (rkN (rkN q).2).2 = r at f3 ⊢
  split
  · exact ⟨(rkN_few (rkN_few (rkN_few f3).1).1).1, Nat.zero_le _, Nat.zero_le _⟩
  · have f4 := rkE_few f3
    have f5 := rkT_few f4
    have f6 := rkN_few f5.1
    have g := rkG_few (rkN (rkT (rkE r.2).2).2).1.toNat _ f6.1
    exact ⟨g.1, f5.2, Nat.le_trans g.2.1 (by have := f6.2.2; omega)⟩
theorem rkOs_few {B : Nat} : ∀ (n : Nat) (q : Pt), Few B q → Few B (rkOs n q).2 ∧ (rkOs n q).1.length ≤ n ∧ ((rkOs n q).2.2 = true ∨ (rkOs n q).1.length = n) ∧ ∀ o ∈ (rkOs n q).1, o.f4.size ≤ B ∧ o.f5.length ≤ 268435456
  | 0, q, h => ⟨h, Nat.le_refl _, .inr rfl, nofun⟩
  | n + 1, q, h => by
    unfold rkOs
    by_cases hb : q.2 = true
    · rw [if_pos hb]
      exact ⟨h, Nat.zero_le _, .inl hb, nofun⟩
    · rw [if_neg hb]
      have f := rkO_few h
      have r := rkOs_few n _ f.1
      refine ⟨r.1, ?_, ?_, ?_⟩
      · show ((rkO q).1 :: (rkOs n (rkO q).2).1).length ≤ n + 1
        rw [List.length_cons]; have := r.2.1; omega
      · rcases r.2.2.1 with h1 | h1
        · exact .inl h1
        · right
          show ((rkO q).1 :: (rkOs n (rkO q).2).1).length = n + 1
          rw [List.length_cons, h1]
      · intro o ho
        rcases List.mem_cons.1 ho with rfl | ho
        · exact f.2
        · exact r.2.2.2 o ho
theorem rkOs_stop {q : Pt} (h : q.2 = true) : ∀ n, rkOs n q = ([], q)
  | 0 => rfl
  | n + 1 => if_pos h
theorem sim_Os {B : Nat} : ∀ (n : Nat) (q p : Pt), Few B q → Sim q p → (rkOs n q).2.2 = (rdOs n p).2.2 ∧ ((rdOs n p).2.2 = false → (rkOs n q).1 = (rdOs n p).1 ∧ (rkOs n q).2.1 = (rdOs n p).2.1)
  | 0, q, p, _, h => ⟨h.1, fun hb => ⟨rfl, h.2.1 hb⟩⟩
  | n + 1, q, p, hf, h => by
    by_cases hb : q.2 = true
    · have hb' : p.2 = true := h.1 ▸ hb
      have := rdOs_bad (n + 1) p hb'
      rw [rkOs_stop hb]
      exact ⟨hb.trans this.symm, fun hf => by rw [this] at hf; cases hf⟩
    · unfold rkOs
      rw [if_neg hb]
      have a := alike_op hf h
      have ff := rkO_few hf
      cases hd : (rdO p).2.2 with
      | true =>
        have hk : (rkO q).2.2 = true := a.1.trans hd
        have hd2 := rdOs_bad n _ hd
        rw [rkOs_stop hk]
        exact ⟨hk.trans hd2.symm, fun hf => by have hf' := hd2.symm.trans hf; cases hf'⟩
      | false =>
        obtain ⟨e1, e2⟩ := a.2 hd
        have s : Sim (rkO q).2 (rdO p).2 := ⟨a.1, fun _ => e2, fun h => by rw [hd] at h; cases h⟩
        have r := sim_Os n _ _ ff.1 s
        refine ⟨r.1, fun hf => ?_⟩
        have r2 := r.2 hf
        refine ⟨?_, r2.2⟩
        show (rkO q).1 :: (rkOs n (rkO q).2).1 = (rdO p).1 :: (rdOs n (rdO p).2).1
        rw [e1, r2.1]
theorem rkM_eq {B : Nat} {l : List Int} (hf : Few B (l, false)) : rkM (l, false) = rdM (l, false) := by
  have s0 : Sim (l, false) (l, false) := ⟨rfl, fun _ => rfl, fun h => by cases h⟩
  have s1 := sim_N s0
  have s2 := sim_N s1.2
  have s3 := sim_N s2.2
  have s4 := sim_N s3.2
  have s5 := sim_N s4.2
  have s6 := sim_N s5.2
  have s7 := sim_N s6.2
  have f6 := rkN_few (rkN_few (rkN_few (rkN_few (rkN_few (rkN_few (rkN_few hf).1).1).1).1).1).1
  unfold rkM rdM
  rw [s1.1, s2.1, s3.1, s4.1, s5.1, s6.1]
  generalize (rdN (l, false)).1 = a
  generalize (rdN (rdN (l, false)).2).1 = b
  generalize (rdN (rdN (rdN (l, false)).2).2).1 = c
  generalize (rdN (rdN (rdN (rdN (l, false)).2).2).2).1 = d
  generalize (rdN (rdN (rdN (rdN (rdN (l, false)).2).2).2).2).1 = e
  generalize (rdN (rdN (rdN (rdN (rdN (rdN (l, false)).2).2).2).2).2).1 = f
  generalize rkN (rkN (rkN (rkN (rkN (rkN (rkN (l, false)).2).2).2).2).2).2 = x at *
  generalize rdN (rdN (rdN (rdN (rdN (rdN (rdN (l, false)).2).2).2).2).2).2 = y at *
  unfold rkM7 rdM7
  rw [s7.1]
  by_cases h4 : y.1 > 4
  · have hg := rkOs_few y.1.toNat x.2 f6.1
    unfold fkM finM
    rw [if_neg, if_neg]
    · rintro ⟨_, h, _⟩; omega
    · rintro ⟨h1, _, h2⟩
      have := (mayM_in h2).l
      rcases hg.2.2.1 with hg | hg
      · rw [hg] at h1; cases h1
      · have this : (rkOs y.1.toNat x.2).1.length ≤ 4 := this
        omega
  · have em : min y.1.toNat 4 = y.1.toNat := by omega
    rw [em]
    have hs := sim_Os y.1.toNat x.2 y.2 f6.1 s7.2
    unfold fkM finM
    cases hb : (rdOs y.1.toNat y.2).2.2 with
    | true =>
      rw [if_neg (by rw [hs.1, hb]; simp), if_neg (by simp)]
    | false =>
      obtain ⟨h1, h2⟩ := hs.2 hb
      rw [hs.1, hb, h1, h2]
      by_cases hc : (rdOs y.1.toNat y.2).2.1 = [] ∧ mayM ⟨a, b, c, d, e, f, (rdOs y.1.toNat y.2).1⟩ = true
      · rw [if_pos ⟨rfl, hc.1, hc.2⟩, if_pos ⟨rfl, by omega, hc.1, hc.2⟩]
      · rw [if_neg (fun h => hc h.2), if_neg (fun h => hc h.2.2)]
end Go.Sp
