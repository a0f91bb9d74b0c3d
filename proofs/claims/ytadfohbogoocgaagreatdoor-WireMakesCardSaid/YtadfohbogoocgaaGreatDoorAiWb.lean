/- What a message is read of is its bytes. -/
import Derived.Test.YtadfohbogoocgaaGreatDoorCoreAiHtoAiSk
set_option linter.unusedVariables false
set_option linter.unusedSimpArgs false
namespace Go.Sp
open Go Go.RowKit Go.Ai
set_option linter.unusedVariables false
set_option linter.unusedSimpArgs false
/-- Read well: what was there is what it spells, and the rest. -/
def Snd {α : Type} (p : Pt) (enc : α → List Int) (x : α × Pt) : Prop := x.2.2 = false → p.2 = false ∧ p.1 = enc x.1 ++ x.2.1 ∧ Bytes x.2.1
theorem rdN_snd {p : Pt} (hb : Bytes p.1) : Snd p (fun n : Int => vb n.toNat) (rdN p) := by
  intro h
  unfold rdN at h ⊢
  cases hp : pk p.1 with
  | none => rw [hp] at h; cases h
  | some y =>
    obtain ⟨m, r⟩ := y
    rw [hp] at h
    obtain ⟨_, _, h2, h3⟩ := pk_sound hb hp
    exact ⟨h, h2, h3⟩
theorem rdT_snd {p : Pt} (hb : Bytes p.1) : Snd p txB (rdT p) := by
  intro h
  unfold rdT at h ⊢
  cases hp : pk p.1 with
  | none => rw [hp] at h; cases h
  | some y =>
    obtain ⟨m, r⟩ := y
    rw [hp] at h
    obtain ⟨h0, _, h2, h3⟩ := pk_sound hb hp
    dsimp only at h ⊢
    by_cases hm : m > (r.length : Int)
    · rw [if_pos hm] at h; cases h
    · rw [if_neg hm] at h ⊢
      refine ⟨h, ?_, fun c hc => h3 c (List.mem_of_mem_drop hc)⟩
      have hl : (r.take m.toNat).length = m.toNat := by rw [List.length_take]; omega
      dsimp only
      unfold txB
      rw [strOfNums_size, hl, bytesOf_str (fun c hc => h3 c (List.mem_of_mem_take hc)), List.append_assoc, List.take_append_drop]
      exact h2
theorem rdE_snd {p : Pt} (hb : Bytes p.1) : Snd p elB (rdE p) := by
  intro h
  have s1 := rdN_snd hb
  have h3 : (rdN (rdN (rdN p).2).2).2.2 = false := h
  have k2 : (rdN (rdN p).2).2.2 = false := by
    cases hc : (rdN (rdN p).2).2.2 with
    | false => rfl
    | true => rw [rdN_bad hc] at h3; cases h3
  have k1 : (rdN p).2.2 = false := by
    cases hc : (rdN p).2.2 with
    | false => rfl
    | true => rw [rdN_bad hc] at k2; cases k2
  obtain ⟨a1, a2, a3⟩ := s1 k1
  obtain ⟨b1, b2, b3⟩ := rdN_snd a3 k2
  obtain ⟨c1, c2, c3⟩ := rdN_snd b3 h3
  refine ⟨a1, ?_, c3⟩
  rw [a2, b2, c2]
  simp [elB, numsB, rdE]
theorem rdG_snd : ∀ (n : Nat) {p : Pt}, Bytes p.1 → Snd p (fun l : List E => l.flatMap elB) (rdG n p) ∧ (rdG n p).1.length = n
  | 0, p, hb => ⟨fun h => ⟨h, by simp [rdG], hb⟩, rfl⟩
  | n + 1, p, hb => by
    refine ⟨fun h => ?_, ?_⟩
    · have h' : (rdG n (rdE p).2).2.2 = false := h
      have k : (rdE p).2.2 = false := by
        cases hc : (rdE p).2.2 with
        | false => rfl
        | true => rw [rdG_bad n _ hc] at h'; cases h'
      obtain ⟨a1, a2, a3⟩ := rdE_snd hb k
      obtain ⟨b1, b2, b3⟩ := (rdG_snd n a3).1 h'
      refine ⟨a1, ?_, b3⟩
      rw [a2, b2]
      simp [rdG]
    · show ((rdE p).1 :: (rdG n (rdE p).2).1).length = n + 1
      by_cases hk : (rdE p).2.2 = false
      · rw [List.length_cons, (rdG_snd n (rdE_snd hb hk).2.2).2]
      · have : ∀ (n : Nat) (q : Pt), (rdG n q).1.length = n := by
          intro n
          induction n with
          | zero => intro q; rfl
          | succ n ih => intro q; show ((rdE q).1 :: (rdG n (rdE q).2).1).length = n + 1; rw [List.length_cons, ih]
        rw [List.length_cons, this]
theorem rdO_snd {p : Pt} (hb : Bytes p.1) : Snd p spellB (rdO p) := by
  intro h
  unfold rdO at h ⊢
  generalize hx : rdN p = x at h ⊢
  generalize hy : rdN x.2 = y at h ⊢
  generalize hz : rdN y.2 = z at h ⊢
  have kz : z.2.2 = false := by
    cases hc : z.2.2 with
    | false => rfl
    | true =>
      exfalso
      unfold rdO3 at h
      split at h
      · have : ((rdN (rdN (rdN z.2).2).2).2.2 || _) = false := h
        rw [rdN_bad (rdN_bad (rdN_bad hc))] at this; cases this
      · have : (((rdG (min (rdN (rdT (rdE z.2).2).2).1.toNat 200) (rdN (rdT (rdE z.2).2).2).2).2.2 || _) || _) = false := h
        rw [rdG_bad _ _ (rdN_bad (rdT_bad (rdE_bad hc)))] at this; cases this
  have ky : y.2.2 = false := by
    cases hc : y.2.2 with
    | false => rfl
    | true => have := rdN_bad hc; rw [hz] at this; rw [this] at kz; cases kz
  have kx : x.2.2 = false := by
    cases hc : x.2.2 with
    | false => rfl
    | true => have := rdN_bad hc; rw [hy] at this; rw [this] at ky; cases ky
  obtain ⟨a1, a2, a3⟩ := (hx ▸ rdN_snd hb : Snd p _ x) kx
  obtain ⟨b1, b2, b3⟩ := (hy ▸ rdN_snd a3 : Snd x.2 _ y) ky
  obtain ⟨c1, c2, c3⟩ := (hz ▸ rdN_snd b3 : Snd y.2 _ z) kz
  refine ⟨a1, ?_⟩
  rw [a2, b2, c2]
  unfold rdO3 at h ⊢
  by_cases e2 : z.1 = 2
  · rw [if_pos e2] at h ⊢
    unfold rdTog at h ⊢
    generalize hu : rdN z.2 = u at h ⊢
    generalize hv : rdN u.2 = v at h ⊢
    generalize hw : rdN v.2 = w at h ⊢
    have h' : (w.2.2 || !mayB ⟨x.1, y.1, 2, ⟨0, 0, 0⟩, ⟨#[]⟩, [], u.1, v.1, w.1⟩) = false := h
    have kw : w.2.2 = false := by
      cases hc : w.2.2 with
      | false => rfl
      | true => rw [hc] at h'; cases h'
    have kv : v.2.2 = false := by
      cases hc : v.2.2 with
      | false => rfl
      | true => have := rdN_bad hc; rw [hw] at this; rw [this] at kw; cases kw
    have ku : u.2.2 = false := by
      cases hc : u.2.2 with
      | false => rfl
      | true => have := rdN_bad hc; rw [hv] at this; rw [this] at kv; cases kv
    obtain ⟨d1, d2, d3⟩ := (hu ▸ rdN_snd c3 : Snd z.2 _ u) ku
    obtain ⟨e1, e2', e3⟩ := (hv ▸ rdN_snd d3 : Snd u.2 _ v) kv
    obtain ⟨f1, f2, f3⟩ := (hw ▸ rdN_snd e3 : Snd v.2 _ w) kw
    refine ⟨?_, f3⟩
    rw [d2, e2', f2]
    simp [spellB, fin, numsB, e2]
  · rw [if_neg e2] at h ⊢
    unfold rdEd rdEd2 rdEd3 rdEd4 at h ⊢
    generalize hu : rdE z.2 = u at h ⊢
    generalize hv : rdT u.2 = v at h ⊢
    generalize hw : rdN v.2 = w at h ⊢
    generalize hg : rdG (min w.1.toNat 200) w.2 = g at h ⊢
    have h' : ((g.2.2 || decide (w.1 > 200)) || !mayB ⟨x.1, y.1, z.1, u.1, v.1, g.1, 0, 0, 0⟩) = false := h
    simp only [Bool.or_eq_false_iff, decide_eq_false_iff_not] at h'
    obtain ⟨⟨kg, h200⟩, _⟩ := h'
    have kw : w.2.2 = false := by
      cases hc : w.2.2 with
      | false => rfl
      | true => have := rdG_bad (min w.1.toNat 200) w.2 hc; rw [hg] at this; rw [this] at kg; cases kg
    have kv : v.2.2 = false := by
      cases hc : v.2.2 with
      | false => rfl
      | true => have := rdN_bad hc; rw [hw] at this; rw [this] at kw; cases kw
    have ku : u.2.2 = false := by
      cases hc : u.2.2 with
      | false => rfl
      | true => have := rdT_bad hc; rw [hv] at this; rw [this] at kv; cases kv
    obtain ⟨d1, d2, d3⟩ := (hu ▸ rdE_snd c3 : Snd z.2 _ u) ku
    obtain ⟨e1, e2', e3⟩ := (hv ▸ rdT_snd d3 : Snd u.2 _ v) kv
    obtain ⟨f1, f2, f3⟩ := (hw ▸ rdN_snd e3 : Snd v.2 _ w) kw
    have hgs := rdG_snd (min w.1.toNat 200) f3
    rw [hg] at hgs
    obtain ⟨g1, g2, g3⟩ := hgs.1 kg
    refine ⟨?_, g3⟩
    have hn : w.1.toNat = g.1.length := by rw [hgs.2]; omega
    rw [d2, e2', f2, g2]
    simp [spellB, fin, numsB, e2, hn]
theorem rdOs_snd : ∀ (n : Nat) {p : Pt}, Bytes p.1 → (rdOs n p).2.2 = false → p.2 = false ∧ p.1 = (rdOs n p).1.flatMap spellB ++ (rdOs n p).2.1 ∧ (rdOs n p).1.length = n
  | 0, p, hb, h => ⟨h, by simp [rdOs], rfl⟩
  | n + 1, p, hb, h => by
    have h' : (rdOs n (rdO p).2).2.2 = false := h
    have k : (rdO p).2.2 = false := by
      cases hc : (rdO p).2.2 with
      | false => rfl
      | true => rw [rdOs_bad n _ hc] at h'; cases h'
    obtain ⟨a1, a2, a3⟩ := rdO_snd hb k
    obtain ⟨b1, b2, b3⟩ := rdOs_snd n a3 h'
    refine ⟨a1, ?_, ?_⟩
    · rw [a2, b2]
      simp [rdOs]
    · show ((rdO p).1 :: (rdOs n (rdO p).2).1).length = n + 1
      rw [List.length_cons, b3]
/-- A message is read of its bytes alone. -/
theorem rdM_snd {l : List Int} (hb : Bytes l) {m : M} (h : rdM (l, false) = some m) : l = msgB m ∧ mayM m = true := by
  unfold rdM at h
  generalize h1 : rdN (l, false) = a at h
  generalize h2 : rdN a.2 = b at h
  generalize h3 : rdN b.2 = c at h
  generalize h4 : rdN c.2 = d at h
  generalize h5 : rdN d.2 = e at h
  generalize h6 : rdN e.2 = f at h
  generalize h7 : rdN f.2 = g at h
  unfold rdM7 finM at h
  by_cases hc : (rdOs (min g.1.toNat 4) g.2).2.2 = false ∧ g.1 ≤ 4 ∧ (rdOs (min g.1.toNat 4) g.2).2.1 = [] ∧ mayM ⟨a.1, b.1, c.1, d.1, e.1, f.1, (rdOs (min g.1.toNat 4) g.2).1⟩ = true
  · rw [if_pos hc] at h
    obtain rfl := Option.some.inj h
    obtain ⟨c1, c2, c3, c4⟩ := hc
    refine ⟨?_, c4⟩
    have kg : g.2.2 = false := by
      cases hc : g.2.2 with
      | false => rfl
      | true => rw [rdOs_bad _ _ hc] at c1; cases c1
    have kf : f.2.2 = false := by
      cases hc : f.2.2 with
      | false => rfl
      | true => have := rdN_bad hc; rw [h7] at this; rw [this] at kg; cases kg
    have ke : e.2.2 = false := by
      cases hc : e.2.2 with
      | false => rfl
      | true => have := rdN_bad hc; rw [h6] at this; rw [this] at kf; cases kf
    have kd : d.2.2 = false := by
      cases hc : d.2.2 with
      | false => rfl
      | true => have := rdN_bad hc; rw [h5] at this; rw [this] at ke; cases ke
    have kc : c.2.2 = false := by
      cases hc : c.2.2 with
      | false => rfl
      | true => have := rdN_bad hc; rw [h4] at this; rw [this] at kd; cases kd
    have kb : b.2.2 = false := by
      cases hc : b.2.2 with
      | false => rfl
      | true => have := rdN_bad hc; rw [h3] at this; rw [this] at kc; cases kc
    have ka : a.2.2 = false := by
      cases hc : a.2.2 with
      | false => rfl
      | true => have := rdN_bad hc; rw [h2] at this; rw [this] at kb; cases kb
    obtain ⟨_, a2, a3⟩ := (h1 ▸ rdN_snd (p := (l, false)) hb : Snd (l, false) _ a) ka
    obtain ⟨_, b2, b3⟩ := (h2 ▸ rdN_snd a3 : Snd a.2 _ b) kb
    obtain ⟨_, c2', c3'⟩ := (h3 ▸ rdN_snd b3 : Snd b.2 _ c) kc
    obtain ⟨_, d2, d3⟩ := (h4 ▸ rdN_snd c3' : Snd c.2 _ d) kd
    obtain ⟨_, e2, e3⟩ := (h5 ▸ rdN_snd d3 : Snd d.2 _ e) ke
    obtain ⟨_, f2, f3⟩ := (h6 ▸ rdN_snd e3 : Snd e.2 _ f) kf
    obtain ⟨_, g2, g3⟩ := (h7 ▸ rdN_snd f3 : Snd f.2 _ g) kg
    obtain ⟨_, o2, o3⟩ := rdOs_snd (min g.1.toNat 4) g3 c1
    have hm : min g.1.toNat 4 = g.1.toNat := by omega
    have a2' : l = vb a.1.toNat ++ a.2.1 := a2
    rw [c3] at o2
    rw [a2', b2, c2', d2, e2, f2, g2, o2, hm]
    rw [hm] at o3
    simp [msgB, numsB, o3]
    exact congrArg vb (by omega)
  · rw [if_neg hc] at h; cases h
end Go.Sp
