/- A part of the proof: what the program does, step by step, over values without addresses. No conditions of mine. -/
import Derived.Test.YtadfohbogoocgaaGreatDoorCoreAiTtoAiZ2
set_option linter.unusedVariables false
set_option linter.unusedSimpArgs false
namespace Go.Ai
open Go Go.RowKit
variable {C : Cfg} {P : Program} {E : Env}

theorem callee_even {E' : Env} {pts' : List (Nat × List V)} {outs : List Blk} (hh : E'.h = h1 pts' outs) (i : Nat) : E'.h (2 * i) = outs[i]? := by
  rw [hh]; unfold h1
  rw [if_neg (by omega), show 2 * i / 2 = i by omega]
theorem callee_odd {E' : Env} {pts' : List (Nat × List V)} {outs : List Blk} (hh : E'.h = h1 pts' outs) (i : Nat) : E'.h (2 * i + 1) = (pts'[i]?).map ptBlk := by
  rw [hh]; unfold h1
  rw [if_pos (by omega), show (2 * i + 1) / 2 = i by omega]

structure Came (C : Cfg) (E E' : Env) (site : Nat) (hr : Nat → Option Blk) (p : Prep) (res : V) (pts' : List (Nat × List V)) (outs : List Blk) : Prop where
  good : Good ⟨C.S, E.w, snapI E p, (pbOf E p).map (·.1)⟩ E'
  ext : Ext ⟨E.w, snapI E p, ρ0 (pbOf E p), h0 (ptsOf p)⟩ E'
  h : E'.h = h1 pts' outs
  ρ : ∀ b, b % 2 = 1 → E'.ρ b = ρ0 (pbOf E p) b
  np : pts'.length = p.pts.length
  pt : ∀ (j : Nat) q, p.pts[j]? = some q → ∃ k e g c, (E.h q.1 = some k ∧ hr q.1 = some k) ∧ k.wr = true ∧ k.es = [e] ∧ q.2.1 = k.sz ∧ E.ρ q.1 = some (g, c)
  sn : ∀ b ∈ p.snaps, b % 2 = 0 ∧ hr b ≠ none
  sub : ∀ b k, hr b = some k → E.h b = some k
  ok : prepOk site p = true

theorem Came.pbget {E' : Env} {site : Nat} {hr : Nat → Option Blk} {p : Prep} {res : V} {pts' : List (Nat × List V)} {outs : List Blk} (K : Came C E E' site hr p res pts' outs) {j : Nat} {q : Nat × Nat × List V} (hq : p.pts[j]? = some q) :
    E'.ρ (2 * j + 1) = E.ρ q.1 := by
  obtain ⟨k, e, g, c, _, _, _, _, t5⟩ := K.pt j q hq
  rw [K.ρ _ (by omega)]
  unfold ρ0
  rw [if_pos (by omega), show (2 * j + 1) / 2 = j by omega]
  simp [pbOf, hq, t5]

theorem Came.mempb {E' : Env} {site : Nat} {hr : Nat → Option Blk} {p : Prep} {res : V} {pts' : List (Nat × List V)} {outs : List Blk} (K : Came C E E' site hr p res pts' outs) {g : Nat} (hg : g ∈ (pbOf E p).map (·.1)) :
    ∃ (j : Nat) (q : Nat × Nat × List V) (c : Nat), p.pts[j]? = some q ∧ E.ρ q.1 = some (g, c) := by
  simp only [pbOf, List.map_map, List.mem_map, Function.comp] at hg
  obtain ⟨q, hq, rfl⟩ := hg
  obtain ⟨j, hj⟩ := List.getElem?_of_mem hq
  obtain ⟨k, e, g, c, _, _, _, _, t5⟩ := K.pt j q hj
  exact ⟨j, q, c, hj, by rw [t5]; rfl⟩

/-- Back from the function: its variables hold what it left in them. -/
theorem stepA_ok (G : Good C E) {E' : Env} {site : Nat} {hr : Nat → Option Blk} {p : Prep} {res : V} {pts' : List (Nat × List V)} {outs : List Blk} (K : Came C E E' site hr p res pts' outs) (sf : Bool) (hsf : sf = true → pts'.all (fun q => q.2.all ns0) = true) :
    Good C ⟨E'.w, (if sf then E.I else E'.I), E.ρ, updAll E.h (upsPt hr p pts' ++ if sf then [] else upsSn hr p)⟩ ∧
    Ext E ⟨E'.w, (if sf then E.I else E'.I), E.ρ, updAll E.h (upsPt hr p pts' ++ if sf then [] else upsSn hr p)⟩ := by
  have hok := K.ok
  simp only [prepOk, Bool.and_eq_true, List.all_eq_true, Bool.not_eq_true', List.contains_eq_mem, decide_eq_false_iff_not, decide_eq_true_eq] at hok
  obtain ⟨ok1, ok2⟩ := hok
  have hEI : ∀ g, E.I g → E'.I g := fun g h => K.ext.I g (.inl h)
  have hI2 : ∀ g, E.I g → (if sf then E.I else E'.I) g := by intro g h; cases sf <;> simp [h, hEI]
  have hI3 : ∀ g, (if sf then E.I else E'.I) g → E'.I g := by intro g h; cases sf <;> simp at h <;> first | exact h | exact hEI g h
  have hsize : E.w.heap.size ≤ E'.w.heap.size := K.good.size
  have hframe : ∀ g, g < E.w.heap.size → (∀ (j : Nat) q c, p.pts[j]? = some q → E.ρ q.1 ≠ some (g, c)) → E'.w.heap[g]? = E.w.heap[g]? := fun g h1 h2 =>
    K.good.frame g h1 (fun hm => by obtain ⟨j, q, c, hq, hr⟩ := K.mempb hm; exact h2 j q c hq hr)
  -- the blocks' new sights
  have hsame : ∀ b, (∀ (j : Nat) q, p.pts[j]? = some q → q.1 ≠ b) → (sf = true ∨ b ∉ p.snaps) → updAll E.h (upsPt hr p pts' ++ if sf then [] else upsSn hr p) b = E.h b := by
    intro b h1 h2
    refine updAll_other _ _ _ (fun hm => ?_)
    obtain ⟨⟨b', k'⟩, hmem, rfl⟩ := List.mem_map.1 hm
    rcases List.mem_append.1 hmem with hmem | hmem
    · obtain ⟨j, q, _, _, hq, _, e, _⟩ := mem_upsPt hmem
      exact h1 j q hq e
    · rcases h2 with rfl | h2
      · simp at hmem
      · cases sf with
        | true => simp at hmem
        | false => exact h2 (mem_upsSn hmem).1
  have hpt : ∀ (j : Nat) q q' k, p.pts[j]? = some q → pts'[j]? = some q' → hr q.1 = some k → updAll E.h (upsPt hr p pts' ++ if sf then [] else upsSn hr p) q.1 = some { k with es := [q'.2], cl := true } := by
    intro j q q' k hq hq' hk
    refine updAll_val (fun k' hmem => ?_) (.inl ?_)
    · rcases List.mem_append.1 hmem with hmem | hmem
      · obtain ⟨j2, q2, q2', k2, e1, e2, e3, e4, e5⟩ := mem_upsPt hmem
        have : j2 = j := nodup_get ok2 (x := q.1) (by simp [e1, e3]) (by simp [hq])
        subst this
        rw [hq] at e1; rw [hq'] at e2; rw [hk] at e4
        obtain rfl := Option.some.inj e1
        obtain rfl := Option.some.inj e2
        obtain rfl := Option.some.inj e4
        exact e5
      · cases sf with
        | true => simp at hmem
        | false => exact absurd (mem_upsSn hmem).1 (ok1 q (List.mem_of_getElem? hq)).1
    · rw [List.map_append]
      exact List.mem_append_left _ (List.mem_map.2 ⟨_, upsPt_mem hq hq' hk, rfl⟩)
  have hsn : sf = false → ∀ b k, b ∈ p.snaps → hr b = some k → updAll E.h (upsPt hr p pts' ++ if sf then [] else upsSn hr p) b = some { k with wr := false } := by
    rintro rfl b k hb hk
    refine updAll_val (fun k' hmem => ?_) (.inl ?_)
    · rcases List.mem_append.1 hmem with hmem | hmem
      · obtain ⟨j2, q2, q2', k2, e1, e2, e3, e4, e5⟩ := mem_upsPt hmem
        exact absurd (by rw [e3]; exact hb) (ok1 q2 (List.mem_of_getElem? e1)).1
      · obtain ⟨_, k2, h2, h3⟩ := mem_upsSn hmem
        rw [hk] at h2
        obtain rfl := Option.some.inj h2
        exact h3
    · rw [List.map_append]
      exact List.mem_append_right _ (List.mem_map.2 ⟨_, upsSn_mem hb hk, rfl⟩)
  have X : Ext E ⟨E'.w, (if sf then E.I else E'.I), E.ρ, updAll E.h (upsPt hr p pts' ++ if sf then [] else upsSn hr p)⟩ := by
    refine ⟨hI2, fun g o hg => ?_, fun b k hk => ?_⟩
    · refine World.cell?_of_block (a := ⟨g, o, none⟩) (hframe g (G.iold g hg) (fun j q c hq hr => ?_))
      obtain ⟨k, e, g', c', t1, t2, t3, t4, t5⟩ := K.pt j q hq
      rcases G.blk _ k t1.1 with ⟨h0, _⟩ | ⟨g2, cap2, h1, _, _, _, _, _, _, h8, _⟩
      · rw [h0] at hr; cases hr
      · rw [h1] at hr; obtain ⟨rfl, rfl⟩ := Prod.mk.inj (Option.some.inj hr); exact h8 t2 hg
    · by_cases hp : ∃ (j : Nat) (q : Nat × Nat × List V), p.pts[j]? = some q ∧ q.1 = b
      · obtain ⟨j, q, hq, rfl⟩ := hp
        obtain ⟨k2, e, g', c', t1, t2, t3, t4, t5⟩ := K.pt j q hq
        rw [hk] at t1
        obtain rfl := Option.some.inj t1.1
        have hj : j < pts'.length := by rw [K.np]; exact (List.getElem?_eq_some_iff.1 hq).1
        exact ⟨_, hpt j q pts'[j] k hq (List.getElem?_eq_getElem hj) t1.2, Nat.le_refl _, fun _ => ⟨rfl, rfl⟩⟩
      · have hnp : ∀ (j : Nat) q, p.pts[j]? = some q → q.1 ≠ b := fun j q hq h => hp ⟨j, q, hq, h⟩
        by_cases hs : sf = true ∨ b ∉ p.snaps
        · exact ⟨k, by rw [← hk]; exact hsame b hnp hs, Nat.le_refl _, fun _ => ⟨rfl, rfl⟩⟩
        · have hs1 : sf = false := by cases sf with | true => exact absurd (.inl rfl) hs | false => rfl
          have hs2 : b ∈ p.snaps := Classical.byContradiction fun h => hs (.inr h)
          obtain ⟨k2, hk2⟩ := Option.ne_none_iff_exists'.1 (K.sn b hs2).2
          have := K.sub b k2 hk2
          rw [hk] at this
          obtain rfl := Option.some.inj this
          exact ⟨_, hsn hs1 b k hs2 hk2, Nat.le_refl _, fun _ => ⟨rfl, rfl⟩⟩
  refine ⟨⟨fun b k hk => ?_, G.inj, fun g hg => K.good.iold g (hI3 g hg), fun g hg => ?_, G.own, fun b hb => ?_, K.good.os.trans G.os, K.good.tape.trans G.tape, K.good.output.trans G.output, Nat.le_trans G.size hsize, fun g h1 h2 => ?_, G.lo, G.lo0, K.good.u⟩, X⟩
  · have hk : updAll E.h (upsPt hr p pts' ++ if sf then [] else upsSn hr p) b = some k := hk
    by_cases hp : ∃ (j : Nat) (q : Nat × Nat × List V), p.pts[j]? = some q ∧ q.1 = b
    · obtain ⟨j, q, hq, rfl⟩ := hp
      obtain ⟨k2, e, g, c, t1, t2, t3, t4, t5⟩ := K.pt j q hq
      have hj : j < pts'.length := by rw [K.np]; exact (List.getElem?_eq_some_iff.1 hq).1
      have hq' : pts'[j]? = some pts'[j] := List.getElem?_eq_getElem hj
      rw [hpt j q pts'[j] k2 hq hq' t1.2] at hk
      obtain rfl := Option.some.inj hk
      have hB := K.good.blk (2 * j + 1) (ptBlk pts'[j]) (by rw [callee_odd K.h, hq']; rfl)
      have hsz : pts'[j].1 = k2.sz := by
        obtain ⟨k', hk', _, heq⟩ := K.ext.h (2 * j + 1) (ptBlk q.2) (by simp [h0, ptsOf, hq, show (2 * j + 1) / 2 = j by omega])
        have : k' = ptBlk pts'[j] := by
          have h2 := hk'
          rw [callee_odd K.h, hq'] at h2
          exact (Option.some.inj h2).symm
        rw [this] at heq
        have := (heq rfl).1
        simp only [ptBlk] at this
        omega
      rcases hB with ⟨h0', _⟩ | ⟨g', cap', b1, b2, b3, b4, b5, b6, b7, b8, b9⟩
      · rw [K.pbget hq, t5] at h0'; cases h0'
      rw [K.pbget hq] at b1
      refine .inr ⟨g', cap', b1, b2, b3, fun _ => b4 rfl, ?_, ?_, fun i j' e' c' he' hj' => ?_, fun _ hI => b8 rfl (hI3 _ hI), fun h => by rw [show ({ k2 with es := [pts'[j].2], cl := true } : Blk).wr = k2.wr from rfl, t2] at h; cases h⟩
      · intro e' he'
        have := b5 e' he'
        simp only [ptBlk] at this
        show e'.length = k2.sz
        omega
      · have := b6
        simp only [ptBlk, hsz] at this
        exact this
      · have := b7 i j' e' c' he' hj'
        simp only [ptBlk, hsz] at this
        obtain ⟨⟨x, hx1, hx2⟩, hx3, hx4⟩ := this
        refine ⟨⟨x, hx1, ?_⟩, hx3, fun _ => hx4 trivial⟩
        cases sf with
        | false =>
          have h5 : CR E'.w E'.I c' x := clo0_cr hx2 (hx4 trivial)
          exact .clo h5
        | true =>
          have hns := hsf rfl
          rw [List.all_eq_true] at hns
          have hns := hns _ (List.mem_of_getElem? hq')
          rw [List.all_eq_true] at hns
          have hmem : c' ∈ pts'[j].2 := by
            cases i with
            | zero => simp at he'; subst he'; exact List.mem_of_getElem? hj'
            | succ i => simp at he'
          exact ns0_vr (hns _ hmem) hx2
    · have hnp : ∀ (j : Nat) q, p.pts[j]? = some q → q.1 ≠ b := fun j q hq h => hp ⟨j, q, hq, h⟩
      -- its memory stands as it was
      have hmem : ∀ g c, E.ρ b = some (g, c) → g < E.w.heap.size → E'.w.heap[g]? = E.w.heap[g]? := fun g c hr hlt => hframe g hlt (fun j q c' hq hr' => by
        have := G.inj _ _ _ _ _ hr hr'
        exact hnp j q hq this.symm)
      have hstand : ∀ k0, E.h b = some k0 → BR ⟨E'.w, (if sf then E.I else E'.I), E.ρ, updAll E.h (upsPt hr p pts' ++ if sf then [] else upsSn hr p)⟩ b { k0 with wr := k.wr } ∨ ¬ ((k.wr = true → k0.wr = true ∧ ∀ g c, E.ρ b = some (g, c) → ¬ (if sf then E.I else E'.I) g) ∧ (k.wr = false → ∀ g c, E.ρ b = some (g, c) → (if sf then E.I else E'.I) g)) := by
        intro k0 hk0
        by_cases hcond : ((k.wr = true → k0.wr = true ∧ ∀ g c, E.ρ b = some (g, c) → ¬ (if sf then E.I else E'.I) g) ∧ (k.wr = false → ∀ g c, E.ρ b = some (g, c) → (if sf then E.I else E'.I) g))
        · left
          rcases G.blk b k0 hk0 with h0' | ⟨g, cap, b1, b2, b3, b4, b5, b6, b7, b8, b9⟩
          · exact .inl h0'
          · have hb := hmem g cap b1 b2
            have hcell : ∀ o, E'.w.cell? ⟨g, o, none⟩ = E.w.cell? ⟨g, o, none⟩ := fun o => World.cell?_of_block (a := ⟨g, o, none⟩) hb
            have hfrz : ∀ o, E'.w.frozen? ⟨g, o, none⟩ = E.w.frozen? ⟨g, o, none⟩ := fun o => World.frozen?_of_block (a := ⟨g, o, none⟩) hb
            refine .inr ⟨g, cap, b1, Nat.lt_of_lt_of_le b2 hsize, fun j hj => by rw [hcell]; exact b3 j hj, fun hw j hj => by rw [hfrz]; exact b4 (hcond.1 hw).1 j hj, b5, b6, fun i j e c he hj => ?_, fun hw => (hcond.1 hw).2 g cap b1, fun hw => hcond.2 hw g cap b1⟩
            obtain ⟨⟨x, hx1, hx2⟩, hx3⟩ := b7 i j e c he hj
            exact ⟨⟨x, by rw [hcell]; exact hx1, hx2.mono X⟩, hx3⟩
        · exact .inr hcond
      by_cases hs : sf = true ∨ b ∉ p.snaps
      · rw [hsame b hnp hs] at hk
        rcases hstand k hk with h | h
        · exact h
        · exfalso
          apply h
          rcases G.blk b k hk with ⟨h0', _⟩ | ⟨g, cap, b1, b2, b3, b4, b5, b6, b7, b8, b9⟩
          · exact ⟨fun hw => ⟨hw, fun g c hr => by rw [h0'] at hr; cases hr⟩, fun _ g c hr => by rw [h0'] at hr; cases hr⟩
          · refine ⟨fun hw => ⟨hw, fun g2 c2 hr hI => ?_⟩, fun hw g2 c2 hr => ?_⟩
            · rw [b1] at hr; obtain ⟨rfl, rfl⟩ := Prod.mk.inj (Option.some.inj hr)
              have hEg := b8 hw
              cases sf with
              | true => exact hEg hI
              | false =>
                have hI : E'.I g := hI
                have hs2 : b ∉ p.snaps := hs.resolve_left (by simp)
                rcases K.good.isub g hI with h | h
                · rcases h with h | ⟨b', hb', n, hr'⟩
                  · exact hEg h
                  · have := G.inj _ _ _ _ _ b1 hr'; subst this; exact hs2 hb'
                · have h : E.w.heap.size ≤ g := h
                  omega
            · rw [b1] at hr; obtain ⟨rfl, rfl⟩ := Prod.mk.inj (Option.some.inj hr)
              exact hI2 g (b9 hw)
      · have hs1 : sf = false := by cases sf with | true => exact absurd (.inl rfl) hs | false => rfl
        have hs2 : b ∈ p.snaps := Classical.byContradiction fun h => hs (.inr h)
        obtain ⟨k2, hk2⟩ := Option.ne_none_iff_exists'.1 (K.sn b hs2).2
        have hk0 := K.sub b k2 hk2
        rw [hsn hs1 b k2 hs2 hk2] at hk
        obtain rfl := Option.some.inj hk
        rcases hstand k2 hk0 with h | h
        · exact h
        · exfalso
          apply h
          refine ⟨(fun hw => by cases hw), fun _ g c hr => ?_⟩
          subst hs1
          exact K.ext.I g (.inr ⟨b, hs2, c, hr⟩)
  · rcases K.good.isub g (hI3 g hg) with h | h
    · rcases h with h | ⟨b, hb, n, hr⟩
      · exact G.isub g h
      · rcases G.own b g n hr with ⟨j, hj, _⟩ | ⟨hge, _⟩
        · have := (K.sn b hb).1; omega
        · exact .inr hge
    · exact .inr (Nat.le_trans G.size h)
  · obtain ⟨k, hk⟩ := Option.ne_none_iff_exists'.1 (G.has b hb)
    obtain ⟨k', hk', _⟩ := X.h b k hk
    rw [hk']; simp
  · rw [hframe g (Nat.lt_of_lt_of_le h1 G.size) ?_]
    · exact G.frame g h1 h2
    · intro j q c hq hr
      rcases G.own _ _ _ hr with ⟨j', _, hj'⟩ | ⟨hge, _⟩
      · exact h2 (List.mem_of_getElem? hj')
      · omega
end Go.Ai

namespace Go.Ai
open Go Go.RowKit
variable {C : Cfg} {P : Program} {E : Env}

def outsOk (res : V) (outs : List Blk) : Bool := outs.all (fun B => B.ver == 0 && B.wr && B.cl) && decide (outs.length ≤ 4) && resOk outs.length res

theorem rn0_ns {site : Nat} {hr : Nat → Option Blk} {v : V} (h : ns1 v = true) : rn0 site hr v = v := by
  cases v <;> first | rfl | cases h
theorem rn_ns {site : Nat} {hr : Nat → Option Blk} {v : V} (h : ns2 v = true) : rn site hr v = v := by
  cases v with
  | tup vs =>
    simp only [ns2, List.all_eq_true] at h
    simp only [rn]
    congr 1
    have : ∀ l : List V, (∀ x ∈ l, ns1 x = true) → l.map (rn0 site hr) = l := by
      intro l
      induction l with
      | nil => intro _; rfl
      | cons x l ih => intro hl; rw [List.map_cons, rn0_ns (hl x (by simp)), ih (fun y hy => hl y (by simp [hy]))]
    exact this vs h
  | _ => first | rfl | cases h

theorem back_ok (G : Good C E) {E' : Env} {site : Nat} {hr : Nat → Option Blk} {p : Prep} {res : V} {pts' : List (Nat × List V)} {outs : List Blk} (K : Came C E E' site hr p res pts' outs) (hnew : ∀ j, j < 4 → hr (newId site j) = E.h (newId site j))
    (hout : outsOk res outs = true) {y : Value} (hy : VR E' res y) :
    ∃ ρ' I', Good C ⟨E'.w, I', ρ', updAll E.h (callUps site hr p res pts' outs)⟩ ∧ Ext E ⟨E'.w, I', ρ', updAll E.h (callUps site hr p res pts' outs)⟩ ∧ VR ⟨E'.w, I', ρ', updAll E.h (callUps site hr p res pts' outs)⟩ (rn site hr res) y := by
  simp only [outsOk, Bool.and_eq_true, List.all_eq_true, decide_eq_true_eq, beq_iff_eq] at hout
  obtain ⟨⟨ho, hlen⟩, hres⟩ := hout
  cases hsf : isSf res pts' outs with
  | true =>
    have h := hsf
    simp only [isSf, Bool.and_eq_true] at h
    obtain ⟨⟨s1, s2⟩, s3⟩ := h
    have houts : outs = [] := by simpa using s2
    obtain ⟨G1, X1⟩ := stepA_ok G K true (fun _ => s3)
    have e : callUps site hr p res pts' outs = upsPt hr p pts' ++ if true then [] else upsSn hr p := by
      unfold callUps
      rw [hsf, houts]
      simp [upsOut]
    rw [e, rn_ns s1]
    exact ⟨_, _, G1, X1, ns2_vr s1 hy⟩
  | false =>
    obtain ⟨G1, X1⟩ := stepA_ok G K false (fun h => by cases h)
    have e : callUps site hr p res pts' outs = (upsPt hr p pts' ++ if false then [] else upsSn hr p) ++ upsOut site hr outs 0 := by
      unfold callUps; rw [hsf]
    have hok := K.ok
    simp only [prepOk, Bool.and_eq_true, List.all_eq_true, Bool.not_eq_true', List.contains_eq_mem, decide_eq_false_iff_not, decide_eq_true_eq] at hok
    obtain ⟨ok1, ok2⟩ := hok
    have hsub2 : ∀ b k, updAll E.h (upsPt hr p pts' ++ if false = true then [] else upsSn hr p) b = some k → (∀ (j : Nat) q, p.pts[j]? = some q → q.1 ≠ b) → nextVer (updAll E.h (upsPt hr p pts' ++ if false = true then [] else upsSn hr p)) b = nextVer E.h b := by
      intro b k hk hnp
      by_cases hm : b ∈ (upsPt hr p pts' ++ if false = true then [] else upsSn hr p).map (·.1)
      · obtain ⟨⟨b', k'⟩, hmem, rfl⟩ := List.mem_map.1 hm
        rcases List.mem_append.1 hmem with hmem | hmem
        · obtain ⟨j, q, _, _, hq, _, e, _⟩ := mem_upsPt hmem
          exact absurd e (hnp j q hq)
        · have hmem : (b', k') ∈ upsSn hr p := by simpa using hmem
          obtain ⟨hb, k2, hk2, hk3⟩ := mem_upsSn hmem
          have hEk := K.sub b' k2 hk2
          obtain ⟨k4, hk4, _, _⟩ := X1.h b' k2 hEk
          have hval : updAll E.h (upsPt hr p pts' ++ if false = true then [] else upsSn hr p) b' = some { k2 with wr := false } := by
            refine updAll_val (fun k5 h5 => ?_) (.inl hm)
            rcases List.mem_append.1 h5 with h5 | h5
            · obtain ⟨j, q, _, _, hq, _, e, _⟩ := mem_upsPt h5
              exact absurd e (hnp j q hq)
            · have h5 : (b', k5) ∈ upsSn hr p := by simpa using h5
              obtain ⟨_, k6, hk6, hk7⟩ := mem_upsSn h5
              rw [hk2] at hk6; obtain rfl := Option.some.inj hk6
              exact hk7
          unfold nextVer
          rw [hval, hEk]
      · unfold nextVer
        rw [updAll_other _ _ _ hm]
    obtain ⟨ρ', G2, X2, hlast⟩ := outs_ok (site := site) (hr := hr) outs 0 (fun i => E'.ρ (2 * i)) G1 (fun i _ hi => by
        have hi4 : i < 4 := by omega
        have h1 : nextVer hr (newId site i) = nextVer E.h (newId site i) := by unfold nextVer; rw [hnew i hi4]
        rw [h1]
        cases hk : updAll E.h (upsPt hr p pts' ++ if false = true then [] else upsSn hr p) (newId site i) with
        | none =>
          have hE : E.h (newId site i) = none := by
            cases hE : E.h (newId site i) with
            | none => rfl
            | some k =>
              obtain ⟨k', hk', _⟩ := X1.h _ k hE
              have hk' : updAll E.h (upsPt hr p pts' ++ if false = true then [] else upsSn hr p) (newId site i) = some k' := hk'
              rw [hk] at hk'; cases hk'
          show nextVer E.h (newId site i) = nextVer (updAll E.h (upsPt hr p pts' ++ if false = true then [] else upsSn hr p)) (newId site i)
          unfold nextVer
          rw [hk, hE]
        | some k =>
          refine (hsub2 _ k hk (fun j q hq h => ?_)).symm
          have := (ok1 q (List.mem_of_getElem? hq)).2
          rw [h] at this
          apply this
          have : i = 0 ∨ i = 1 ∨ i = 2 ∨ i = 3 := by omega
          rcases this with rfl | rfl | rfl | rfl <;> simp [news])
      (fun i B hB => by
        rw [Nat.zero_add]
        have hE' : E'.h (2 * i) = some B := by rw [callee_even K.h]; exact hB
        have hBo := ho B (List.mem_of_getElem? hB)
        rcases K.good.blk (2 * i) B hE' with ⟨h0, he⟩ | ⟨g, cap, b1, b2, b3, b4, b5, b6, b7, b8, b9⟩
        · simp only [h0]; exact he
        · simp only [b1]
          have hge : E.w.heap.size ≤ g := by
            rcases K.good.own _ _ _ b1 with ⟨j, hj, _⟩ | ⟨h, _⟩
            · omega
            · exact h
          refine ⟨b2, hBo.1.2, b3, b4 hBo.1.2, b5, b6, fun i' j e c he hj => ?_, b8 hBo.1.2, fun b c h => ?_, Nat.le_trans G.size hge⟩
          · obtain ⟨⟨x, hx1, hx2⟩, hx3, hx4⟩ := b7 i' j e c he hj
            have h5 : CR E'.w E'.I c x := clo0_cr hx2 (hx4 hBo.2)
            exact ⟨⟨x, hx1, h5⟩, hx3, hx4 hBo.2⟩
          · have h : E.ρ b = some (g, c) := h
            obtain ⟨k, hk⟩ := Option.ne_none_iff_exists'.1 (G.has b (by rw [h]; simp))
            rcases G.blk b k hk with ⟨h0, _⟩ | ⟨g', cap', c1, c2, _⟩
            · rw [h0] at h; cases h
            · rw [c1] at h; obtain ⟨rfl, rfl⟩ := Prod.mk.inj (Option.some.inj h); omega)
      (fun i i' g c c' h1 h2 => by have := K.good.inj _ _ _ _ _ h1 h2; omega)
    rw [e, updAll_append]
    refine ⟨ρ', _, G2, X1.trans X2, ?_⟩
    have hcomp : ∀ v x, VR E' v x → resOk0 outs.length v = true → VR ⟨E'.w, (if false = true then E.I else E'.I), ρ', updAll (updAll E.h (upsPt hr p pts' ++ if false = true then [] else upsSn hr p)) (upsOut site hr outs 0)⟩ (rn0 site hr v) x := by
      intro v x hv hr0
      by_cases hc : clo1 v = true
      · have h5 : CR E'.w E'.I v x := clo1_cr hv hc
        have : rn0 site hr v = v := by cases v <;> first | rfl | cases hc
        rw [this]
        exact .clo h5
      · simp only [resOk0, Bool.or_eq_true] at hr0
        replace hr0 := hr0.resolve_left hc
        cases v with
        | sl b ver off len =>
          simp only [Bool.and_eq_true, beq_iff_eq, decide_eq_true_eq] at hr0
          obtain ⟨⟨hb, hlt⟩, rfl⟩ := hr0
          have hbe : b = 2 * (b / 2) := by omega
          have hB : outs[b / 2]? = some outs[b / 2] := List.getElem?_eq_getElem hlt
          have hE0 := callee_even K.h (b / 2)
          rw [← hbe, hB] at hE0
          have hE' : E'.h b = some outs[b / 2] := hE0
          have hver : outs[b / 2].ver = 0 := (ho _ (List.getElem_mem hlt)).1.1
          obtain ⟨l1, l2⟩ := hlast (b / 2) outs[b / 2] hB
          rw [Nat.zero_add] at l1 l2
          have hsh : ∃ a n c, x = .slice a n c := by
            cases hv with
            | clo h => cases h
            | sl _ _ _ _ _ _ hs => exact hs
          refine .sl _ _ _ _ _ { outs[b / 2] with ver := nextVer hr (newId site (b / 2)) } hsh l1 (Nat.le_refl _) (fun _ => ?_)
          rcases vr_sl hv hE' hver with ⟨h0, h1, h2, a, h3⟩ | ⟨g, c, cap, h0, h1, h2, h3⟩
          · left
            refine ⟨?_, h1, h2, a, h3⟩
            show ρ' (newId site (b / 2)) = none
            rw [l2, ← hbe]; exact h0
          · right
            refine ⟨g, c, cap, ?_, h1, h2, h3⟩
            show ρ' (newId site (b / 2)) = some (g, c)
            rw [l2, ← hbe]; exact h0
        | _ => cases hr0
    by_cases ht : ∃ vs, res = .tup vs
    · obtain ⟨vs, rfl⟩ := ht
      obtain ⟨xs, rfl, hs, hx⟩ := vr_tup hy
      simp only [resOk, List.all_eq_true] at hres
      simp only [rn]
      refine .tup _ _ (by simp [hs]) (fun j c hj => ?_)
      rw [List.getElem?_map] at hj
      simp only [Option.map_eq_some_iff] at hj
      obtain ⟨v, hv, rfl⟩ := hj
      exact hcomp v _ (hx j v hv) (hres v (List.mem_of_getElem? hv))
    · have e1 : rn site hr res = rn0 site hr res := by cases res <;> first | rfl | exact absurd ⟨_, rfl⟩ ht
      have e2 : resOk outs.length res = resOk0 outs.length res := by cases res <;> first | rfl | exact absurd ⟨_, rfl⟩ ht
      rw [e1]; rw [e2] at hres
      exact hcomp res y hy hres
end Go.Ai

namespace Go.Ai
open Go Go.RowKit
variable {C : Cfg} {P : Program} {E E0 : Env}

theorem guard_wanted {nt : Nat} {ops : Array Oper} {σ : St} {a : Act} {o : Oper} {b : Bool} (hs : Sim C E0 nt σ a E) (h : guardV ops σ.s o = some b) : Region.wanted o (yielded ops a.tmps) = b := by
  unfold guardV at h
  unfold Region.wanted
  cases hg : o.guard with
  | none => rw [hg] at h; simpa using h
  | some p =>
    obtain ⟨j, want⟩ := p
    rw [hg] at h
    simp only at h ⊢
    unfold yielded
    cases hd : (ops[j]?).bind (·.dst) with
    | none => rw [hd] at h; simpa using h
    | some d =>
      rw [hd] at h
      simp only [Option.bind_some] at h ⊢
      have hv := hs.s d
      rw [Array.getD_eq_getD_getElem?] at hv
      split at h
      · rename_i bb hb
        rw [hb] at hv
        have := val_vr hv
        cases ht : a.tmps[d]? with
        | none => rw [ht] at this; simp [undef] at this
        | some x =>
          rw [ht] at this
          simp only [Option.getD_some] at this
          subst this
          obtain rfl := Option.some.inj h
          simp only
          cases bb <;> cases want <;> rfl
      · rename_i v hne hv'
        rw [hv'] at hv
        have := val_vr hv
        obtain rfl := Option.some.inj h
        cases ht : a.tmps[d]? with
        | none => rfl
        | some x =>
          rw [ht] at this
          simp only [Option.getD_some] at this
          subst this
          cases x <;> first | rfl | exact (hne _ rfl).elim
      · cases h

theorem fits_hr {nt : Nat} {ops : Array Oper} {r : Rec} {σ : St} (h : Fits ops nt r σ) (hsk : r.skip = false) : (∀ b k, r.hr b = some k → σ.h b = some k) ∧ ∀ j, j < 4 → r.hr (newId r.site j) = σ.h (newId r.site j) := by
  have h1 := h.hr hsk
  have h2 := h.rd hsk
  refine ⟨fun b k hb => ?_, fun j hj => ?_⟩
  · rw [← h1] at hb
    simp only [restrict] at hb
    split at hb
    · exact hb
    · cases hb
  · rw [← h1]
    simp only [restrict]
    rw [if_pos]
    rw [← h2]
    have : j = 0 ∨ j = 1 ∨ j = 2 ∨ j = 3 := by omega
    rcases this with rfl | rfl | rfl | rfl <;> simp [reach, news]

/-- A slot takes its value. -/
theorem Sim.put {nt : Nat} {σ : St} {a : Act} {E' : Env} (hs : Sim C E0 nt σ a E) (G' : Good C E') (X : Ext E E') {o : Option Tmp} (hd : ∀ d, o = some d → d < nt) {v : V} {y : Value} {h' : Nat → Option Blk} (hh : E'.h = h') (hv : VR E' v y) :
    Sim C E0 nt { s := Ai.put σ.s o v, h := h' } (a.put o y) E' := by
  refine ⟨G', hh, fun t => ?_, ?_, ?_, hs.x.trans X, hs.e⟩
  · cases o with
    | none => exact (hs.s t).mono X
    | some d =>
      have hlt := hd d rfl
      simp only [Act.put, Ai.put, upd]
      by_cases ht : t = d
      · subst ht
        rw [if_pos rfl, Array.getD_eq_getD_getElem?, Array.getElem?_setIfInBounds, if_pos rfl]
        simp [hs.n, hlt, hv]
      · rw [if_neg ht, Array.getD_eq_getD_getElem?, Array.getElem?_setIfInBounds, if_neg (fun h => ht h.symm), ← Array.getD_eq_getD_getElem?]
        exact (hs.s t).mono X
  · cases o with
    | none => exact hs.n
    | some d => simp [Act.put, hs.n]
  · cases o <;> exact hs.d

theorem eval_vr {nt : Nat} {σ : St} {a : Act} (hs : Sim C E0 nt σ a E) (x : Operand) : VR E (evalO σ.s x) (a.eval x) := by
  cases x with
  | tmp t => exact hs.s t
  | const v => exact ofValue_vr v
  | global g => exact .clo (.val _)
  | func f => exact .clo (.val _)

theorem step_skip_ok {S : Sys} {nt : Nat} {ops : Array Oper} {r : Rec} (hsk : r.skip = true) : StepOk P S nt ops r := by
  intro C hCS E0 σ a E Q K hs hf hK
  obtain ⟨h1, h2, _⟩ := hf.skip hsk
  unfold wpOp
  rw [hf.op]
  have hw := guard_wanted hs hf.guard
  simp only [hw, hsk, Bool.not_true, Bool.false_eq_true, if_false]
  refine hK _ E ?_
  have := hs.put (E' := E) (y := undef) hs.good (Ext.refl E) hf.dst (v := r.v) (h' := σ.h) hs.h (by rw [h1]; exact .clo (.val _))
  have e : r.app σ = { s := Ai.put σ.s r.o.dst r.v, h := σ.h } := by simp [Rec.app, h2, updAll]
  rw [e]
  exact this

theorem step_eff_ok {S : Sys} {nt : Nat} {ops : Array Oper} {r : Rec} (hsk : r.skip = false) (h : eff P r.site r.o.op r.vals r.hr = some (r.v, r.ups)) : StepOk P S nt ops r := by
  intro C hCS E0 σ a E Q K hs hf hK
  obtain ⟨h1, h2⟩ := fits_hr hf hsk
  unfold wpOp
  rw [hf.op]
  have hw := guard_wanted hs hf.guard
  simp only [hw, hsk, Bool.not_false, if_true]
  left
  rw [← hf.vals hsk] at h
  have H : HR r.hr E.h r.site := ⟨fun b k hb => by rw [hs.h]; exact h1 b k hb, by rw [hs.h]; exact h2 0 (by omega)⟩
  obtain ⟨y, w', ρ', hrun, G', X', hv⟩ := eff_ok (P := P) hs.good (o := r.o) (ρ := a.eval) H (eval_vr hs) (fun _ _ h => by subst h; rfl) h
  have hsim := hs.put G' X' hf.dst (v := r.v) (h' := updAll E.h r.ups) rfl hv
  have e : r.app σ = { s := Ai.put σ.s r.o.dst r.v, h := updAll E.h r.ups } := by simp [Rec.app, hs.h]
  unfold Oper.wp
  rcases hrun with hrun | ⟨hrun, rfl⟩
  · rw [hrun]
    simp only [Oper.upon]
    exact hK _ _ (by rw [e]; exact hsim)
  · rw [hrun]
    simp only [Oper.upon]
    exact hK _ _ (by rw [e]; exact hsim)

def calleeOf : V → Option FuncId
  | .val (.func (.func f) fi ca) => if fi.isEmpty && ca.isEmpty then some f else none
  | _ => none
def callable (P : Program) (f : FuncId) : Bool :=
  match P.funcs[f]? with
  | some fn => !(fn.name == "runtime.NumGoroutine") && fn.body.isSome
  | none => false

theorem run_callFunc {f : FuncId} (h : callable P f = true) (args : Array Value) (w : World) : (callFunc f args).run P w = .ok (.enter f args) w := by
  unfold callable at h
  split at h
  · rename_i fn hf
    simp only [Bool.and_eq_true, Bool.not_eq_true', beq_eq_false_iff_ne] at h
    have hb : ¬ fn.body = none := by intro e; rw [e] at h; simp at h
    have h1 := h.1
    simp [callFunc, program, hf, bind, Sem.bind, pure, Sem.run]
    rw [if_neg h1, if_neg hb]
  · cases h

/-- A call of a function of Go's text. -/
structure CallRec (P : Program) (S : Sys) (nt : Nat) (ops : Array Oper) (r : Rec) : Prop where
  skip : r.skip = false
  run : ∃ (fo : Operand) (args : Array Operand) (ats : Array TypeId) (f : FuncId) (vf : V) (vs : List V) (p : Prep) (res : V) (pts' : List (Nat × List V)) (outs : List Blk),
    r.o.op = .call { callee := .value fo, args := args, argTypes := ats } ∧ r.vals = vf :: vs ∧ calleeOf vf = some f ∧ callable P f = true ∧ prep r.hr vs 0 = some p ∧ prepOk r.site p = true ∧
    CallOk P S f p.args (ptsOf p) res pts' outs ∧ pts'.length = p.pts.length ∧ outsOk res outs = true ∧ r.v = rn r.site r.hr res ∧ r.ups = callUps r.site r.hr p res pts' outs

theorem step_call_ok {nt : Nat} {ops : Array Oper} {r : Rec} {S : Sys} (h : CallRec P S nt ops r) : StepOk P S nt ops r := by
  intro C hCS E0 σ a E Q K hs hf hK
  obtain ⟨hsk, fo, args, ats, f, vf, vs, p, res, pts', outs, hop, hvals, hcal, hcb, hprep, hpok, hcall, hnp, hout, hrv, hru⟩ := h
  obtain ⟨h1, h2⟩ := fits_hr hf hsk
  unfold wpOp
  rw [hf.op]
  have hw := guard_wanted hs hf.guard
  simp only [hw, hsk, Bool.not_false, if_true]
  left
  have hsub : ∀ b k, r.hr b = some k → E.h b = some k := fun b k hb => by rw [hs.h]; exact h1 b k hb
  have hvals2 := hf.vals hsk
  rw [hop, hvals] at hvals2
  simp only [Op.operands, Call.operands, Array.toList_append, List.singleton_append, List.map_cons, List.cons.injEq] at hvals2
  obtain ⟨hvf, hvs⟩ := hvals2
  -- the callee
  have hfv := eval_vr hs fo
  rw [hvf] at hfv
  unfold calleeOf at hcal
  split at hcal
  · rename_i f' fi ca
    split at hcal
    · rename_i hemp
      obtain rfl := Option.some.inj hcal
      simp only [Bool.and_eq_true] at hemp
      have e1 : fi = #[] := by simpa using hemp.1
      have e2 : ca = #[] := by simpa using hemp.2
      subst e1 e2
      have hfv := val_vr hfv
      have hrunop : (execOp a.eval r.o).run P E.w = .ok (.enter f' (args.map a.eval)) E.w := by
        unfold execOp
        rw [hop]
        simp only [resolve, hfv, Deferred.ofValue, Sem.run_bind]
        simp only [bind, Sem.bind, pure, Sem.run, Result.andThen, invoke, Array.empty_append, Array.append_empty]
        exact run_callFunc hcb _ _
      unfold Oper.wp
      rw [hrunop]
      simp only [Oper.upon]
      -- into it
      have hrel : ∀ (j : Nat) v, vs[j]? = some v → VR E v ((args.map a.eval).toList.getD j undef) := by
        intro j v hj
        rw [← hvs, List.getElem?_map] at hj
        simp only [Option.map_eq_some_iff] at hj
        obtain ⟨x, hx, rfl⟩ := hj
        have : (args.map a.eval).toList.getD j undef = a.eval x := by
          rw [List.getD_eq_getElem?_getD, Array.toList_map, List.getElem?_map, hx]; rfl
        rw [this]; exact eval_vr hs x
      have hlen : (args.map a.eval).toList.length = vs.length := by rw [← hvs]; simp
      obtain ⟨q1, q2, q3, q4⟩ := prep_ok hs.good hsub hprep hlen hrel
      obtain ⟨G0, hargs⟩ := enter_ok hs.good hsub hprep hpok hlen hrel
      subst hCS
      have hc := hcall E.w (snapI E p) (args.map a.eval) (pbOf E p) (by simp [ptsOf, pbOf]) (by rw [q2, ← hlen]; simp) G0 (fun j v hj => by
        have := hargs j v hj
        rwa [List.getD_eq_getElem?_getD, Array.getElem?_toList, ← Array.getD_eq_getD_getElem?] at this)
      refine hc.mono ?_
      rintro e w' ⟨y, E', rfl, rfl, G', X', hy, hh, hρ⟩
      have KC : Came C E E' r.site r.hr p res pts' outs := ⟨G', X', hh, hρ, hnp, fun j q hq => by
        obtain ⟨k, e, g, c, t1, t2, t3, t4, t5, _⟩ := q3 j q hq
        exact ⟨k, e, g, c, t1, t2, t3, t4, t5⟩, q1, hsub, hpok⟩
      obtain ⟨ρ', I', G2, X2, hv2⟩ := back_ok hs.good KC (fun j hj => by rw [hs.h]; exact h2 j hj) hout hy
      refine hK _ ⟨E'.w, I', ρ', updAll E.h (callUps r.site r.hr p res pts' outs)⟩ ?_
      have hsim := hs.put G2 X2 hf.dst (v := r.v) (y := y) (h' := updAll E.h r.ups) (by rw [hru]) (by rw [hrv]; exact hv2)
      have e : r.app σ = { s := Ai.put σ.s r.o.dst r.v, h := updAll E.h r.ups } := by simp [Rec.app, hs.h]
      rw [e]
      exact hsim
    · cases hcal
  · cases hcal
end Go.Ai

namespace Go.Ai
open Go Go.RowKit
variable {C : Cfg} {P : Program} {E : Env}

/-- Is the value a block of the call's own, whole, that the caller may have? -/
def outOf (h : Nat → Option Blk) (taken : List Nat) : V → Option (Nat × Nat)
  | .sl b ver 0 len =>
    match live h b ver with
    | some k => if k.wr ∧ k.cl ∧ len ≤ k.es.length ∧ b % 2 = 0 ∧ b ∉ taken then some (b, len) else none
    | none => none
  | _ => none
/-- The results, closed: lists that are read, and blocks that the caller takes over. -/
def closeR (h : Nat → Option Blk) : List V → List Nat → Option (List V × List Nat × List Nat)
  | [], o => some ([], o, [])
  | v :: vs, o =>
    match outOf h o v with
    | some (b, len) =>
      match closeR h vs (o ++ [b]) with
      | some (vs', o', s) => some (.sl (2 * o.length) 0 0 len :: vs', o', s)
      | none => none
    | none =>
      match closeA h v, closeR h vs o with
      | some (v', l), some (vs', o', s) => some (v' :: vs', o', l ++ s)
      | _, _ => none

def outBlk (k : Blk) : Blk := { ver := 0, sz := k.sz, wr := true, cl := true, es := k.es }
def outsOf (h : Nat → Option Blk) (o : List Nat) : List Blk := o.filterMap fun b => (h b).map outBlk

/-- The variables that were handed in, at the end. -/
def endPts (h : Nat → Option Blk) : Nat → Nat → Option (List (Nat × List V) × List Nat)
  | 0, _ => some ([], [])
  | n + 1, j =>
    match h (2 * j + 1) with
    | some k =>
      match k.es with
      | [e] =>
        if k.ver = 0 ∧ k.wr then
          match closeC h k.cl e, endPts h n (j + 1) with
          | some (e', l), some (ps, s) => some ((k.sz, e') :: ps, l ++ s)
          | _, _ => none
        else none
      | _ => none
    | none => none

def snapJ (E : Env) (s : List Nat) : Nat → Prop := fun g => E.I g ∨ ∃ b ∈ s, ∃ n, E.ρ b = some (g, n)

theorem outOf_some {h : Nat → Option Blk} {taken : List Nat} {v : V} {b len : Nat} (hv : outOf h taken v = some (b, len)) : ∃ k ver, v = .sl b ver 0 len ∧ h b = some k ∧ k.ver = ver ∧ k.wr = true ∧ k.cl = true ∧ len ≤ k.es.length ∧ b % 2 = 0 ∧ b ∉ taken := by
  unfold outOf at hv
  split at hv
  · rename_i b' ver len'
    split at hv
    · rename_i k hk
      split at hv
      · rename_i hc
        obtain ⟨rfl, rfl⟩ := Prod.mk.inj (Option.some.inj hv)
        obtain ⟨h1, h2⟩ := live_some hk
        exact ⟨k, ver, rfl, h1, h2, hc.1, hc.2.1, hc.2.2.1, hc.2.2.2.1, hc.2.2.2.2⟩
      · cases hv
    · cases hv
  · cases hv

theorem closeR_ids (G : Good C E) : ∀ {vs vs' : List V} {o o' s : List Nat}, closeR E.h vs o = some (vs', o', s) →
    (∃ t, o' = o ++ t) ∧ (∀ b ∈ s, b % 2 = 0 ∧ E.h b ≠ none) ∧ ((∀ b ∈ o, b % 2 = 0 ∧ ∃ k, E.h b = some k ∧ k.wr = true ∧ k.cl = true) → ∀ b ∈ o', b % 2 = 0 ∧ ∃ k, E.h b = some k ∧ k.wr = true ∧ k.cl = true) ∧ (o.Nodup → o'.Nodup) ∧ vs'.length = vs.length
  | [], vs', o, o', s, h => by
    simp [closeR] at h
    obtain ⟨rfl, rfl, rfl⟩ := h
    exact ⟨⟨[], by simp⟩, fun b hb => by simp at hb, fun h => h, fun h => h, rfl⟩
  | v :: vs, vs', o, o', s, h => by
    simp only [closeR] at h
    split at h
    · rename_i b len hout
      split at h
      · rename_i vs1 o1 s1 hr
        obtain ⟨rfl, hq⟩ := Prod.mk.inj (Option.some.inj h)
        obtain ⟨rfl, rfl⟩ := Prod.mk.inj hq
        obtain ⟨⟨t, rfl⟩, a2, a3, a4, a5⟩ := closeR_ids G hr
        obtain ⟨k, ver, _, hk, _, hw, hcl, _, hb2, hnt⟩ := outOf_some hout
        refine ⟨⟨b :: t, by simp⟩, a2, fun ho => a3 (fun b' hb' => ?_), fun hn => a4 ?_, by simp [a5]⟩
        · rcases List.mem_append.1 hb' with hb' | hb'
          · exact ho b' hb'
          · simp at hb'; subst hb'; exact ⟨hb2, k, hk, hw, hcl⟩
        · rw [List.nodup_append]
          exact ⟨hn, by simp, fun x hx y hy e => by simp at hy; subst hy; subst e; exact hnt hx⟩
      · cases h
    · split at h
      · rename_i v1 l vs1 o1 s1 hc hr
        obtain ⟨rfl, hq⟩ := Prod.mk.inj (Option.some.inj h)
        obtain ⟨rfl, rfl⟩ := Prod.mk.inj hq
        obtain ⟨a1, a2, a3, a4, a5⟩ := closeR_ids G hr
        refine ⟨a1, fun b hb => ?_, a3, a4, by simp [a5]⟩
        rcases List.mem_append.1 hb with hb | hb
        · exact closeA_ids G (fun _ _ h => h) hc b hb
        · exact a2 b hb
      · cases h

/-- The final environment, the results' own names in it. -/
def endEnv (E : Env) (pb : List (Nat × Nat)) (pts' : List (Nat × List V)) (o s : List Nat) : Env :=
  ⟨E.w, snapJ E s, fun b => if b % 2 = 1 then ρ0 pb b else (o[b / 2]?).bind E.ρ, h1 pts' (outsOf E.h o)⟩

theorem outsOf_get {h : Nat → Option Blk} : ∀ {o : List Nat}, (∀ b ∈ o, ∃ k, h b = some k) → ∀ (i : Nat), (outsOf h o)[i]? = (o[i]?).bind fun b => (h b).map outBlk
  | [], _, i => by simp [outsOf]
  | b :: o, ho, i => by
    obtain ⟨k, hk⟩ := ho b (by simp)
    have ih := outsOf_get (o := o) (fun b hb => ho b (by simp [hb]))
    have e : outsOf h (b :: o) = outBlk k :: outsOf h o := by simp [outsOf, hk]
    rw [e]
    cases i with
    | zero => simp [hk]
    | succ i => simpa using ih i

theorem closeR_ok (G : Good C E) {pb : List (Nat × Nat)} {pts' : List (Nat × List V)} {oo ss : List Nat} (hoo : ∀ b ∈ oo, b % 2 = 0 ∧ ∃ k, E.h b = some k ∧ k.wr = true ∧ k.cl = true) :
    ∀ {vs vs' : List V} {xs : List Value} {o o' s : List Nat}, closeR E.h vs o = some (vs', o', s) → (∃ t, oo = o' ++ t) → (∀ b ∈ s, b ∈ ss) → (∀ (j : Nat) v, vs[j]? = some v → VR E v (xs.getD j undef)) →
    ∀ (j : Nat) v, vs'[j]? = some v → VR (endEnv E pb pts' oo ss) v (xs.getD j undef)
  | [], vs', xs, o, o', s, h, _, _, _, j, v, hj => by
    simp [closeR] at h
    obtain ⟨rfl, _, _⟩ := h
    simp at hj
  | v0 :: vs, vs', xs, o, o', s, h, hpre, hs, hv, j, v, hj => by
    have hv0 : VR E v0 (xs.getD 0 undef) := hv 0 v0 rfl
    have hvs : ∀ (j : Nat) v, vs[j]? = some v → VR E v (xs.tail.getD j undef) := fun j v hj => by
      have := hv (j + 1) v (by simpa using hj)
      cases xs <;> simpa using this
    simp only [closeR] at h
    split at h
    · rename_i b len hout
      split at h
      · rename_i vs1 o1 s1 hr
        obtain ⟨rfl, hq⟩ := Prod.mk.inj (Option.some.inj h)
        obtain ⟨rfl, rfl⟩ := Prod.mk.inj hq
        obtain ⟨⟨t1, ht1⟩, _⟩ := closeR_ids G hr
        cases j with
        | succ j =>
          have := closeR_ok (pb := pb) (pts' := pts') G hoo hr hpre hs hvs j v (by simpa using hj)
          cases xs <;> simpa using this
        | zero =>
          simp at hj; subst hj
          obtain ⟨k, ver, rfl, hk, hver, hw, hcl, hle, hb2, hnt⟩ := outOf_some hout
          obtain ⟨t, ht⟩ := hpre
          have hget : oo[o.length]? = some b := by rw [ht, ht1]; simp
          have he : 2 * o.length % 2 = 0 := by omega
          have hd : 2 * o.length / 2 = o.length := by omega
          have hsh : ∃ a n c, xs.getD 0 undef = .slice a n c := by
            cases hv0 with
            | clo h => cases h
            | sl _ _ _ _ _ _ hs => exact hs
          refine .sl _ _ _ _ _ (outBlk k) hsh ?_ (Nat.le_refl _) (fun _ => ?_)
          · show h1 pts' (outsOf E.h oo) (2 * o.length) = _
            unfold h1
            rw [if_neg (by omega), hd, outsOf_get (fun b hb => by obtain ⟨_, k, hk, _⟩ := hoo b hb; exact ⟨k, hk⟩), hget]
            simp [hk]
          · have hρ : (endEnv E pb pts' oo ss).ρ (2 * o.length) = E.ρ b := by
              show (if 2 * o.length % 2 = 1 then _ else _) = _
              rw [if_neg (by omega), hd, hget]; rfl
            rw [hρ]
            have h6 := vr_sl hv0 hk hver
            exact h6
      · cases h
    · split at h
      · rename_i v1 l vs1 o1 s1 hc hr
        obtain ⟨rfl, hq⟩ := Prod.mk.inj (Option.some.inj h)
        obtain ⟨rfl, rfl⟩ := Prod.mk.inj hq
        cases j with
        | succ j =>
          have := closeR_ok (pb := pb) (pts' := pts') G hoo hr hpre (fun b hb => hs b (List.mem_append_right _ hb)) hvs j v (by simpa using hj)
          cases xs <;> simpa using this
        | zero =>
          simp at hj; subst hj
          exact .clo (closeA_ok G (fun _ _ h => h) hc hv0 (fun g h => .inl h) (fun b hb g n hr => .inr ⟨b, hs b (List.mem_append_left _ hb), n, hr⟩))
      · cases h

theorem endPts_ok (G : Good C E) : ∀ {n j : Nat} {ps : List (Nat × List V)} {s : List Nat}, endPts E.h n j = some (ps, s) →
    ps.length = n ∧ (∀ b ∈ s, b % 2 = 0 ∧ E.h b ≠ none) ∧ ∀ i, i < n → ∃ k e e', E.h (2 * (j + i) + 1) = some k ∧ k.es = [e] ∧ k.ver = 0 ∧ k.wr = true ∧ ps[i]? = some (k.sz, e') ∧ e'.length = e.length ∧
      ∀ (x : Nat) c', e'[x]? = some c' → ∃ c0, e[x]? = some c0 ∧ (∀ y I, VR E c0 y → (∀ g, E.I g → I g) → (∀ b ∈ s, ∀ g n, E.ρ b = some (g, n) → I g) → (cellOk c0 = true ∧ (k.cl = true → clo0 c0 = true)) → CR E.w I c' y) ∧ (cellOk c0 = true ∧ (k.cl = true → clo0 c0 = true) → clo0 c' = true ∧ cellOk c' = true)
  | 0, j, ps, s, h => by
    simp [endPts] at h
    obtain ⟨rfl, rfl⟩ := h
    exact ⟨rfl, fun b hb => by simp at hb, fun i hi => by omega⟩
  | n + 1, j, ps, s, h => by
    simp only [endPts] at h
    split at h
    · rename_i k hk
      split at h
      · rename_i e he
        split at h
        · rename_i hc
          split at h
          · rename_i e' l ps1 s1 hcl hr
            obtain ⟨rfl, rfl⟩ := Prod.mk.inj (Option.some.inj h)
            obtain ⟨a1, a2, a3⟩ := endPts_ok G hr
            have hclo : e'.length = e.length ∧ (∀ (x : Nat) c', e'[x]? = some c' → ∃ c0, e[x]? = some c0 ∧ (∀ y I, VR E c0 y → (∀ g, E.I g → I g) → (∀ b ∈ l, ∀ g n, E.ρ b = some (g, n) → I g) → (cellOk c0 = true ∧ (k.cl = true → clo0 c0 = true)) → CR E.w I c' y) ∧ (cellOk c0 = true ∧ (k.cl = true → clo0 c0 = true) → clo0 c' = true ∧ cellOk c' = true)) ∧ ∀ b ∈ l, b % 2 = 0 ∧ E.h b ≠ none := by
              unfold closeC at hcl
              split at hcl
              · rename_i hkc
                obtain ⟨rfl, rfl⟩ := Prod.mk.inj (Option.some.inj hcl)
                exact ⟨rfl, fun x c' hx => ⟨c', hx, fun y I hy hI _ hq => (clo0_cr hy (hq.2 hkc)).mono hI (fun _ _ _ => rfl), fun hq => ⟨hq.2 hkc, hq.1⟩⟩, fun b hb => by simp at hb⟩
              · obtain ⟨b1, b2, b3⟩ := closeL_ok G (fun _ _ h => h) hcl
                exact ⟨b1, fun x c' hx => by
                  obtain ⟨c0, d1, d2, d3, d4⟩ := b2 x c' hx
                  exact ⟨c0, d1, fun y I hy hI hs _ => d2 y I hy hI hs, fun hq => ⟨d3, d4 hq.1⟩⟩, b3⟩
            obtain ⟨r1, r2, r3⟩ := hclo
            refine ⟨by simp [a1], fun b hb => ?_, fun i hi => ?_⟩
            · rcases List.mem_append.1 hb with hb | hb
              · exact r3 b hb
              · exact a2 b hb
            · cases i with
              | zero =>
                exact ⟨k, e, e', hk, he, hc.1, hc.2, rfl, r1, fun x c' hx => by
                  obtain ⟨c0, d1, d2, d3⟩ := r2 x c' hx
                  exact ⟨c0, d1, fun y I hy hI hs hq => d2 y I hy hI (fun b hb => hs b (List.mem_append_left _ hb)) hq, d3⟩⟩
              | succ i =>
                obtain ⟨k2, e2, e2', t1, t2, t3, t4, t5, t6, t7⟩ := a3 i (by omega)
                rw [show j + 1 + i = j + (i + 1) by omega] at t1
                exact ⟨k2, e2, e2', t1, t2, t3, t4, by simpa using t5, t6, fun x c' hx => by
                  obtain ⟨c0, d1, d2, d3⟩ := t7 x c' hx
                  exact ⟨c0, d1, fun y I hy hI hs hq => d2 y I hy hI (fun b hb => hs b (List.mem_append_right _ hb)) hq, d3⟩⟩
          · cases h
        · cases h
      · cases h
    · cases h

/-- Out of the function. -/
theorem leave_ok {S : Sys} {w : World} {I : Nat → Prop} {pb : List (Nat × Nat)} {pts pts' : List (Nat × List V)} {o s1 s2 : List Nat} (G : Good ⟨S, w, I, pb.map (·.1)⟩ E) (X : Ext ⟨w, I, ρ0 pb, h0 pts⟩ E) (hnp : pts.length = pb.length)
    (ho : ∀ b ∈ o, b % 2 = 0 ∧ ∃ k, E.h b = some k ∧ k.wr = true ∧ k.cl = true) (hnd : o.Nodup) (hs1 : ∀ b ∈ s1, b % 2 = 0 ∧ E.h b ≠ none) (hdis : ∀ b ∈ o, b ∉ s1 ++ s2) (hend : endPts E.h pts.length 0 = some (pts', s2)) :
    Good ⟨S, w, I, pb.map (·.1)⟩ (endEnv E pb pts' o (s1 ++ s2)) ∧ Ext ⟨w, I, ρ0 pb, h0 pts⟩ (endEnv E pb pts' o (s1 ++ s2)) := by
  obtain ⟨e1, e2, e3⟩ := endPts_ok G hend
  have hsall : ∀ b ∈ s1 ++ s2, b % 2 = 0 ∧ E.h b ≠ none := fun b hb => (List.mem_append.1 hb).elim (hs1 b) (e2 b)
  have hIsub : ∀ g, E.I g → snapJ E (s1 ++ s2) g := fun g h => .inl h
  have hss : ∀ b ∈ s1 ++ s2, ∀ g n, E.ρ b = some (g, n) → snapJ E (s1 ++ s2) g := fun b hb g n hr => .inr ⟨b, hb, n, hr⟩
  have hodd : ∀ j, j < pts.length → ∃ k e e' sz0 e0, E.h (2 * j + 1) = some k ∧ k.es = [e] ∧ k.ver = 0 ∧ k.wr = true ∧ pts'[j]? = some (k.sz, e') ∧ e'.length = e.length ∧ pts[j]? = some (sz0, e0) ∧ k.sz = sz0 ∧ E.ρ (2 * j + 1) = pb[j]? ∧
      ∀ (x : Nat) c', e'[x]? = some c' → ∃ c0, e[x]? = some c0 ∧ (∀ y I, VR E c0 y → (∀ g, E.I g → I g) → (∀ b ∈ s2, ∀ g n, E.ρ b = some (g, n) → I g) → (cellOk c0 = true ∧ (k.cl = true → clo0 c0 = true)) → CR E.w I c' y) ∧ (cellOk c0 = true ∧ (k.cl = true → clo0 c0 = true) → clo0 c' = true ∧ cellOk c' = true) := by
    intro j hj
    obtain ⟨k, e, e', t1, t2, t3, t4, t5, t6, t7⟩ := e3 j hj
    rw [Nat.zero_add] at t1
    have hp : pts[j]? = some pts[j] := List.getElem?_eq_getElem hj
    obtain ⟨k', hk', _, heq⟩ := X.h (2 * j + 1) (ptBlk pts[j]) (by simp [h0, hp, show (2 * j + 1) / 2 = j by omega])
    rw [t1] at hk'
    obtain rfl := Option.some.inj hk'
    obtain ⟨q1, q2⟩ := heq (by rw [t3]; rfl)
    refine ⟨k, e, e', pts[j].1, pts[j].2, t1, t2, t3, t4, t5, t6, hp, q1, ?_, t7⟩
    rw [q2]
    show ρ0 pb (2 * j + 1) = _
    unfold ρ0
    rw [if_pos (by omega), show (2 * j + 1) / 2 = j by omega]
  have hρodd : ∀ b, b % 2 = 1 → (endEnv E pb pts' o (s1 ++ s2)).ρ b = ρ0 pb b := fun b hb => by
    show (if b % 2 = 1 then _ else _) = _
    rw [if_pos hb]
  have hρeven : ∀ b, b % 2 = 0 → (endEnv E pb pts' o (s1 ++ s2)).ρ b = (o[b / 2]?).bind E.ρ := fun b hb => by
    show (if b % 2 = 1 then _ else _) = _
    rw [if_neg (by omega)]
  have hρE : ∀ b g c, (endEnv E pb pts' o (s1 ++ s2)).ρ b = some (g, c) → (b % 2 = 1 ∧ b / 2 < pts.length ∧ E.ρ b = some (g, c)) ∨ (b % 2 = 0 ∧ ∃ x, o[b / 2]? = some x ∧ E.ρ x = some (g, c)) := by
    intro b g c h
    by_cases hb : b % 2 = 1
    · left
      rw [hρodd b hb] at h
      have h2 : ρ0 pb b = pb[b / 2]? := by unfold ρ0; rw [if_pos hb]
      rw [h2] at h
      have hlt := (List.getElem?_eq_some_iff.1 h).1
      obtain ⟨_, _, _, _, _, _, _, _, _, _, _, _, _, hr, _⟩ := hodd (b / 2) (by omega)
      rw [show 2 * (b / 2) + 1 = b by omega] at hr
      exact ⟨hb, by omega, by rw [hr, h]⟩
    · right
      have hb0 : b % 2 = 0 := by omega
      rw [hρeven b hb0] at h
      simp only [Option.bind_eq_some_iff] at h
      obtain ⟨x, hx, hr⟩ := h
      exact ⟨hb0, x, hx, hr⟩
  have himm : ∀ b k g c, E.h b = some k → k.wr = true → b ∉ s1 ++ s2 → E.ρ b = some (g, c) → ¬ snapJ E (s1 ++ s2) g := by
    intro b k g c hk hw hns hr hI
    rcases hI with hI | ⟨b', hb', n, hr'⟩
    · rcases G.blk b k hk with ⟨h0, _⟩ | ⟨g', cap, b1, _, _, _, _, _, _, b8, _⟩
      · rw [h0] at hr; cases hr
      · rw [b1] at hr; obtain ⟨rfl, rfl⟩ := Prod.mk.inj (Option.some.inj hr); exact b8 hw hI
    · have := G.inj _ _ _ _ _ hr hr'
      subst this; exact hns hb'
  have hX : Ext ⟨w, I, ρ0 pb, h0 pts⟩ (endEnv E pb pts' o (s1 ++ s2)) := by
    refine ⟨fun g hg => .inl (X.I g hg), X.w, fun b k hk => ?_⟩
    have hk : h0 pts b = some k := hk
    unfold h0 at hk
    split at hk
    · rename_i hb
      simp only [Option.map_eq_some_iff] at hk
      obtain ⟨q, hq, rfl⟩ := hk
      have hlt := (List.getElem?_eq_some_iff.1 hq).1
      obtain ⟨k2, e, e', sz0, e0, t1, t2, t3, t4, t5, t6, t7, t8, t9, _⟩ := hodd (b / 2) hlt
      rw [hq] at t7
      obtain rfl := Option.some.inj t7
      refine ⟨ptBlk (k2.sz, e'), ?_, Nat.le_refl _, fun _ => ⟨t8, hρodd b hb⟩⟩
      show h1 pts' _ b = _
      unfold h1
      rw [if_pos hb, t5]; rfl
    · cases hk
  refine ⟨⟨fun b k hk => ?_, fun b b' g c c' h1 h2 => ?_, fun g hg => ?_, fun g hg => ?_, fun b g c hr => ?_, fun b hb => ?_, G.os, G.tape, G.output, G.size, G.frame, fun b g c hr => ?_, G.lo0, G.u⟩, hX⟩
  · have hk : h1 pts' (outsOf E.h o) b = some k := hk
    unfold h1 at hk
    split at hk
    · rename_i hb
      simp only [Option.map_eq_some_iff] at hk
      obtain ⟨q, hq, rfl⟩ := hk
      have hlt := (List.getElem?_eq_some_iff.1 hq).1
      obtain ⟨k2, e, e', sz0, e0, t1, t2, t3, t4, t5, t6, t7, t8, t9, t10⟩ := hodd (b / 2) (by omega)
      rw [hq] at t5
      obtain rfl := Option.some.inj t5
      rw [show 2 * (b / 2) + 1 = b by omega] at t1 t9
      have hpb : ∃ gc, pb[b / 2]? = some gc := ⟨pb[b / 2]'(by omega), List.getElem?_eq_getElem (by omega)⟩
      obtain ⟨gc, hgc⟩ := hpb
      obtain ⟨g, cap⟩ := gc
      rcases G.blk b k2 t1 with ⟨h0', _⟩ | ⟨g', cap', b1, b2, b3, b4, b5, b6, b7, b8, b9⟩
      · rw [t9, hgc] at h0'; cases h0'
      rw [t9, hgc] at b1; obtain ⟨rfl, rfl⟩ := Prod.mk.inj (Option.some.inj b1)
      have hel : e.length = k2.sz := b5 e (by rw [t2]; simp)
      refine .inr ⟨g, cap, by rw [hρodd b hb]; unfold ρ0; rw [if_pos hb, hgc], b2, b3, fun _ => b4 t4, fun e2 he2 => ?_, ?_, fun i j e2 c he hj => ?_, fun _ => himm b k2 g cap t1 t4 (fun h => by have := (hsall b h).1; omega) (by rw [t9, hgc]), fun h => by cases h⟩
      · simp [ptBlk] at he2 ⊢; subst he2; omega
      · have := b6; rw [t2] at this; exact this
      · cases i with
        | succ i => simp [ptBlk] at he
        | zero =>
          simp [ptBlk] at he; subst he
          obtain ⟨c0, d1, d2, d3⟩ := t10 j c hj
          obtain ⟨⟨x, hx1, hx2⟩, hx3⟩ := b7 0 j e c0 (by rw [t2]; rfl) d1
          have h5 : CR E.w (snapJ E (s1 ++ s2)) c x := d2 x _ hx2 hIsub (fun b hb => hss b (List.mem_append_right _ hb)) hx3
          simp only [Nat.zero_mul, Nat.zero_add] at hx1
          have h7 : E.w.cell? ⟨g, 0 * (ptBlk (k2.sz, e')).sz + j, none⟩ = some x := by rw [Nat.zero_mul, Nat.zero_add]; exact hx1
          exact ⟨⟨x, h7, .clo h5⟩, (d3 hx3).2, fun _ => (d3 hx3).1⟩
    · rename_i hb
      have hb0 : b % 2 = 0 := by omega
      rw [outsOf_get (fun b hb => by obtain ⟨_, k, hk, _⟩ := ho b hb; exact ⟨k, hk⟩)] at hk
      simp only [Option.bind_eq_some_iff, Option.map_eq_some_iff] at hk
      obtain ⟨x, hx, k2, hk2, rfl⟩ := hk
      obtain ⟨hx2, k3, hk3, hw, hcl⟩ := ho x (List.mem_of_getElem? hx)
      rw [hk2] at hk3; obtain rfl := Option.some.inj hk3
      have hρ := hρeven b hb0
      rw [hx] at hρ
      simp only [Option.bind_some] at hρ
      rcases G.blk x k2 hk2 with ⟨h0', he⟩ | ⟨g, cap, b1, b2, b3, b4, b5, b6, b7, b8, b9⟩
      · exact .inl ⟨by rw [hρ]; exact h0', he⟩
      · refine .inr ⟨g, cap, by rw [hρ]; exact b1, b2, b3, fun _ => b4 hw, b5, b6, fun i j e c he hj => ?_, fun _ => himm x k2 g cap hk2 hw (hdis x (List.mem_of_getElem? hx)) b1, fun h => by cases h⟩
        obtain ⟨⟨y, hy1, hy2⟩, hy3, hy4⟩ := b7 i j e c he hj
        have h5 : CR E.w (snapJ E (s1 ++ s2)) c y := (clo0_cr hy2 (hy4 hcl)).mono hIsub (fun _ _ _ => rfl)
        exact ⟨⟨y, hy1, .clo h5⟩, hy3, fun _ => hy4 hcl⟩
  · rcases hρE b g c h1 with ⟨a1, a2, a3⟩ | ⟨a1, x, a2, a3⟩ <;> rcases hρE b' g c' h2 with ⟨d1, d2, d3⟩ | ⟨d1, y, d2, d3⟩
    · exact G.inj _ _ _ _ _ a3 d3
    · have := G.inj _ _ _ _ _ a3 d3
      have := (ho y (List.mem_of_getElem? d2)).1
      omega
    · have := G.inj _ _ _ _ _ a3 d3
      have := (ho x (List.mem_of_getElem? a2)).1
      omega
    · have hxy := G.inj _ _ _ _ _ a3 d3
      subst hxy
      have := nodup_get hnd a2 d2
      omega
  · rcases hg with hg | ⟨b, hb, n, hr⟩
    · exact G.iold g hg
    · obtain ⟨k, hk⟩ := Option.ne_none_iff_exists'.1 (hsall b hb).2
      rcases G.blk b k hk with ⟨h0', _⟩ | ⟨g', cap, b1, b2, _⟩
      · rw [h0'] at hr; cases hr
      · rw [b1] at hr; obtain ⟨rfl, rfl⟩ := Prod.mk.inj (Option.some.inj hr); exact b2
  · rcases hg with hg | ⟨b, hb, n, hr⟩
    · exact G.isub g hg
    · rcases G.own b g n hr with ⟨j, hj, _⟩ | ⟨h, _⟩
      · have := (hsall b hb).1; omega
      · exact .inr h
  · rcases hρE b g c hr with ⟨a1, a2, a3⟩ | ⟨a1, x, a2, a3⟩
    · exact G.own _ _ _ a3
    · rcases G.own _ _ _ a3 with ⟨j, hj, _⟩ | ⟨h, _⟩
      · have := (ho x (List.mem_of_getElem? a2)).1; omega
      · exact .inr ⟨h, a1⟩
  · have hb : (endEnv E pb pts' o (s1 ++ s2)).ρ b ≠ none := hb
    show h1 pts' (outsOf E.h o) b ≠ none
    obtain ⟨⟨g, c⟩, hgc⟩ := Option.ne_none_iff_exists'.1 hb
    unfold h1
    rcases hρE b g c hgc with ⟨a1, a2, a3⟩ | ⟨a1, x, a2, a3⟩
    · rw [if_pos a1, List.getElem?_eq_getElem (by omega)]; simp
    · obtain ⟨_, k, hk, _⟩ := ho x (List.mem_of_getElem? a2)
      rw [if_neg (by omega), outsOf_get (fun b hb => by obtain ⟨_, k, hk, _⟩ := ho b hb; exact ⟨k, hk⟩), a2]
      simp [hk]
  · rcases hρE b g c hr with ⟨a1, a2, a3⟩ | ⟨a1, x, a2, a3⟩
    · exact G.lo _ _ _ a3
    · exact G.lo _ _ _ a3
end Go.Ai

namespace Go.Ai
open Go Go.RowKit
set_option linter.unusedVariables false
variable {C : Cfg} {P : Program} {E E0 : Env}

/-- What a call may hand back that took over a row: the row's first so many, or nothing. -/
def eatX (g cap : Nat) : Option Nat → Value
  | some n => .slice (some ⟨g, 0, none⟩) n cap
  | none => .tuple #[]
def eatV (b ver : Nat) : Option Nat → V
  | some n => .sl b ver 0 n
  | none => .val (.tuple #[])
/-- A function that writes over a row of plain values that it is handed, and leaves the rest of memory as it is. -/
def EatOk (P : Program) (f : FuncId) (sz len : Nat) (es : List (List Value)) (rest : List Value) (out : Option Nat) (es' : List (List Value)) : Prop :=
  ∀ (w : World) (g cap : Nat), len ≤ cap → g < w.heap.size →
    (∀ (i j : Nat) e v, es[i]? = some e → e[j]? = some v → w.cell? ⟨g, i * sz + j, none⟩ = some v) →
    (∀ j, j < cap * sz → (w.cell? ⟨g, j, none⟩).isSome = true ∧ w.frozen? ⟨g, j, none⟩ = false) →
    Calls P f (Value.slice (some ⟨g, 0, none⟩) len cap :: rest).toArray w fun e w' => e = .returned (eatX g cap out) ∧ (∀ n, out = some n → n ≤ cap) ∧
      (∀ x, x < w.heap.size → x ≠ g → w'.heap[x]? = w.heap[x]?) ∧ w.heap.size ≤ w'.heap.size ∧ w'.os = w.os ∧ w'.tape = w.tape ∧ w'.output = w.output ∧
      (∀ j, (w.cell? ⟨g, j, none⟩).isSome = true → (w'.cell? ⟨g, j, none⟩).isSome = true) ∧ (∀ j, w'.frozen? ⟨g, j, none⟩ = w.frozen? ⟨g, j, none⟩) ∧
      (∀ (i j : Nat) e v, es'[i]? = some e → e[j]? = some v → w'.cell? ⟨g, i * sz + j, none⟩ = some v)

def eatB (k : Blk) (len : Nat) (es es' : List (List Value)) : Bool :=
  k.wr && decide (0 < len) && decide (es'.length ≤ len) && es'.all (fun e => e.length == k.sz && e.all fun v => cellOk (.val v))
def eatK (k : Blk) (es' : List (List Value)) : Blk := { k with es := es'.map (·.map V.val), cl := true }

theorem Good.eat (G : Good C E) {b : Nat} {k k' : Blk} (hk : E.h b = some k) (hwr : k.wr = true) {g cap : Nat} (hρ : E.ρ b = some (g, cap)) (w' : World)
    (hoth : ∀ x, x < E.w.heap.size → x ≠ g → w'.heap[x]? = E.w.heap[x]?) (hsz : E.w.heap.size ≤ w'.heap.size) (hos : w'.os = E.w.os) (ht : w'.tape = E.w.tape) (ho : w'.output = E.w.output)
    (hthere : ∀ j, (E.w.cell? ⟨g, j, none⟩).isSome = true → (w'.cell? ⟨g, j, none⟩).isSome = true) (hfree : ∀ j, w'.frozen? ⟨g, j, none⟩ = E.w.frozen? ⟨g, j, none⟩)
    (hv : k'.ver = k.ver) (hs : k'.sz = k.sz) (hw : k'.wr = true) (hlen : ∀ e ∈ k'.es, e.length = k'.sz) (hcap : k'.es.length * k'.sz ≤ cap)
    (hcells : ∀ (i j : Nat) e c, k'.es[i]? = some e → e[j]? = some c → (∃ x, w'.cell? ⟨g, i * k'.sz + j, none⟩ = some x ∧ c = .val x) ∧ cellOk c = true) :
    Good C ⟨w', E.I, E.ρ, upd E.h b (some k')⟩ ∧ Ext E ⟨w', E.I, E.ρ, upd E.h b (some k')⟩ := by
  rcases G.blk b k hk with ⟨h0, _⟩ | ⟨g', cap', h1, h2, h3, h4, h5, h6, h7, h8, h9⟩
  · rw [h0] at hρ; cases hρ
  rw [h1] at hρ; obtain ⟨rfl, rfl⟩ := Prod.mk.inj (Option.some.inj hρ)
  refine G.change (E' := ⟨w', E.I, E.ρ, upd E.h b (some k')⟩) (fun x => x = b) (fun x => x = g') rfl ?_ ?_ hsz ?_ ?_ ?_ ?_ ?_ ?_ ?_ hos ht ho
  · intro x hx; simp [upd, hx]
  · rintro x rfl; exact ⟨b, cap', k, rfl, h1, hk, hwr⟩
  · intro x hx hne; exact hoth x hx hne
  · rintro x y rfl hy
    rw [hk] at hy; obtain rfl := Option.some.inj hy
    exact ⟨k', by simp [upd], by omega, fun _ => ⟨hs, rfl⟩⟩
  · rintro X x y rfl hy
    simp only [upd, if_true] at hy
    obtain rfl := Option.some.inj hy
    refine .inr ⟨g', cap', h1, Nat.lt_of_lt_of_le h2 hsz, fun j hj => hthere j (h3 j hj), fun _ j hj => by rw [hfree]; exact h4 hwr j hj, hlen, hcap, fun i j e c he hj => ?_, fun _ => h8 hwr, fun h => by rw [hw] at h; cases h⟩
    obtain ⟨⟨x, hx, rfl⟩, hok⟩ := hcells i j e c he hj
    exact ⟨⟨x, hx, .clo (.val x)⟩, hok, fun _ => rfl⟩
  · rintro x b' g c c' rfl e1 e2; exact G.inj _ _ _ _ _ e1 e2
  · rintro x g c rfl e; exact G.own _ _ _ e
  · rintro x rfl _; simp [upd]
  · rintro x g c rfl e; exact G.lo _ _ _ e

/-- A call that takes over a row of the call's own. -/
structure EatRec (P : Program) (nt : Nat) (ops : Array Oper) (r : Rec) : Prop where
  skip : r.skip = false
  run : ∃ (fo : Operand) (args : Array Operand) (ats : Array TypeId) (f : FuncId) (vf : V) (b ver len : Nat) (k : Blk) (es es' : List (List Value)) (rest : List Value) (out : Option Nat),
    r.o.op = .call { callee := .value fo, args := args, argTypes := ats } ∧ r.vals = vf :: .sl b ver 0 len :: rest.map V.val ∧ calleeOf vf = some f ∧ callable P f = true ∧ live r.hr b ver = some k ∧
    k.es = es.map (·.map V.val) ∧ eatB k len es es' = true ∧ EatOk P f k.sz len es rest out es' ∧ r.v = eatV b ver out ∧ r.ups = [(b, eatK k es')]

theorem step_eat_ok {S : Sys} {nt : Nat} {ops : Array Oper} {r : Rec} (h : EatRec P nt ops r) : StepOk P S nt ops r := by
  intro C hCS E0 σ a E Q K hs hf hK
  obtain ⟨hsk, fo, args, ats, f, vf, b, ver, len, k, es, es', rest, out, hop, hvals, hcal, hcb, hlv, hes, hcb2, heat, hrv, hru⟩ := h
  obtain ⟨h1, h2⟩ := fits_hr hf hsk
  unfold wpOp
  rw [hf.op]
  have hw := guard_wanted hs hf.guard
  simp only [hw, hsk, Bool.not_false, if_true]
  left
  have hsub : ∀ b k, r.hr b = some k → E.h b = some k := fun b k hb => by rw [hs.h]; exact h1 b k hb
  have hvals2 := hf.vals hsk
  rw [hop, hvals] at hvals2
  simp only [Op.operands, Call.operands, Array.toList_append, List.singleton_append, List.map_cons, List.cons.injEq] at hvals2
  obtain ⟨hvf, hvs⟩ := hvals2
  have hfv := eval_vr hs fo
  rw [hvf] at hfv
  unfold calleeOf at hcal
  split at hcal
  · rename_i f' fi ca
    split at hcal
    · rename_i hemp
      obtain rfl := Option.some.inj hcal
      simp only [Bool.and_eq_true] at hemp
      have e1 : fi = #[] := by simpa using hemp.1
      have e2 : ca = #[] := by simpa using hemp.2
      subst e1 e2
      have hfv := val_vr hfv
      have hrunop : (execOp a.eval r.o).run P E.w = .ok (.enter f' (args.map a.eval)) E.w := by
        unfold execOp
        rw [hop]
        simp only [resolve, hfv, Deferred.ofValue, Sem.run_bind]
        simp only [pure, Sem.run, Result.andThen, invoke, Array.empty_append, Array.append_empty]
        exact run_callFunc hcb _ _
      unfold Oper.wp
      rw [hrunop]
      simp only [Oper.upon]
      obtain ⟨hk0, hver⟩ := live_some hlv
      have hk1 := hsub _ _ hk0
      simp only [eatB, Bool.and_eq_true, decide_eq_true_eq, List.all_eq_true, beq_iff_eq] at hcb2
      obtain ⟨⟨⟨c1, c2⟩, c3⟩, c4⟩ := hcb2
      -- the arguments
      have hargs : ∃ g c cap, E.ρ b = some (g, c) ∧ args.map a.eval = (Value.slice (some ⟨g, 0, none⟩) len cap :: rest).toArray ∧ cap * k.sz ≤ c ∧ len ≤ cap := by
        have hls : ∀ (l : List Operand) (vs : List V), l.map (evalO σ.s) = vs → ∀ (rs : List Value), vs = rs.map V.val → l.map a.eval = rs := by
          intro l
          induction l with
          | nil => intro vs hv rs hr; subst hv; cases rs with
            | nil => rfl
            | cons => cases hr
          | cons x l ih =>
            intro vs hv rs hr
            subst hv
            cases rs with
            | nil => cases hr
            | cons r rs =>
              simp only [List.map_cons, List.cons.injEq] at hr ⊢
              have hx := eval_vr hs x
              rw [hr.1] at hx
              exact ⟨val_vr hx, ih _ rfl rs hr.2⟩
        cases hl : args.toList with
        | nil => rw [hl] at hvs; cases hvs
        | cons x l =>
          rw [hl] at hvs
          simp only [List.map_cons, List.cons.injEq] at hvs
          have hx := eval_vr hs x
          rw [hvs.1] at hx
          rcases vr_sl hx hk1 hver with ⟨_, _, h0, _⟩ | ⟨g, c, cap, hρ, hxe, hcap, hle⟩
          · omega
          · refine ⟨g, c, cap, hρ, ?_, by simpa using hcap, hle⟩
            apply Array.ext'
            rw [Array.toList_map, hl, List.map_cons, hxe, hls l _ rfl rest hvs.2]
            simp
      obtain ⟨g, c, cap, hρ, hae, hcap, hle⟩ := hargs
      rw [hae]
      rcases hs.good.blk b k hk1 with ⟨h0, _⟩ | ⟨g', cap', b1, b2, b3, b4, b5, b6, b7, b8, b9⟩
      · rw [h0] at hρ; cases hρ
      rw [b1] at hρ; obtain ⟨rfl, rfl⟩ := Prod.mk.inj (Option.some.inj hρ)
      refine (heat E.w g' cap hle b2 (fun i j e v he hv => ?_) (fun j hj => ⟨b3 j (by omega), b4 c1 j (by omega)⟩)).mono ?_
      · obtain ⟨⟨x, hx1, hx2⟩, _⟩ := b7 i j (e.map V.val) (.val v) (by rw [hes, List.getElem?_map, he]; rfl) (by rw [List.getElem?_map, hv]; rfl)
        rw [val_vr hx2] at hx1
        exact hx1
      rintro e w' ⟨rfl, q0, q1, q2, q3, q4, q5, q6, q7, q8⟩
      have hfit : es'.length * k.sz ≤ cap' := Nat.le_trans (Nat.mul_le_mul_right _ (Nat.le_trans c3 hle)) hcap
      obtain ⟨G2, X2⟩ := hs.good.eat (k' := eatK k es') hk1 c1 b1 w' q1 q2 q3 q4 q5 q6 q7 rfl rfl c1
        (fun e he => by
          obtain ⟨e0, he0, rfl⟩ := List.mem_map.1 he
          rw [List.length_map]; exact (c4 e0 he0).1)
        (by show (es'.map _).length * k.sz ≤ cap'; rw [List.length_map]; exact hfit)
        (fun i j e c he hj => by
          have he : (es'.map (·.map V.val))[i]? = some e := he
          rw [List.getElem?_map] at he
          simp only [Option.map_eq_some_iff] at he
          obtain ⟨e0, he0, rfl⟩ := he
          rw [List.getElem?_map] at hj
          simp only [Option.map_eq_some_iff] at hj
          obtain ⟨v, hv, rfl⟩ := hj
          exact ⟨⟨v, q8 i j e0 v he0 hv, rfl⟩, (c4 e0 (List.mem_of_getElem? he0)).2 v (List.mem_of_getElem? hv)⟩)
      refine hK _ ⟨w', E.I, E.ρ, upd E.h b (some (eatK k es'))⟩ ?_
      have hvv : VR ⟨w', E.I, E.ρ, upd E.h b (some (eatK k es'))⟩ r.v (eatX g' cap out) := by
        rw [hrv]
        cases out with
        | none => exact .clo (.val _)
        | some n =>
          refine .sl b ver 0 n _ (eatK k es') ⟨_, _, _, rfl⟩ (by simp [upd]) (by show ver ≤ k.ver; omega) (fun _ => .inr ⟨g', cap', cap, b1, ?_, by show (0 + cap) * k.sz ≤ cap'; rw [Nat.zero_add]; exact hcap, q0 n rfl⟩)
          show Value.slice (some ⟨g', 0, none⟩) n cap = .slice (some ⟨g', 0 * k.sz, none⟩) n cap
          rw [Nat.zero_mul]
      have hsim := hs.put G2 X2 hf.dst (v := r.v) (y := eatX g' cap out) (h' := upd E.h b (some (eatK k es'))) rfl hvv
      have e : r.app σ = { s := Ai.put σ.s r.o.dst r.v, h := upd E.h b (some (eatK k es')) } := by
        simp only [Rec.app, hru, updAll, hs.h]
      rw [e]
      exact hsim
    · cases hcal
  · cases hcal
end Go.Ai

namespace Go.Ai
open Go Go.RowKit

inductive Ex where
  | normal
  | exit (id : Nat)
  | ret
  deriving DecidableEq
def Ex.to : Ex → Exit
  | .normal => .normal
  | .exit id => .exit id
  | .ret => .ret
def Ex.inBlock (id : Nat) : Ex → Ex
  | .exit id' => if id' = id then .normal else .exit id'
  | x => x

def resL (P : Program) (fn : Func) (σ : St) : List ResultVar → Option (List V)
  | [] => some []
  | r :: rs =>
    match (match r with | .tmp t => some (σ.s t) | .cell a t => effLoad P t (σ.s a) σ.h : Option V), resL P fn σ rs with
    | some v, some vs => some (v :: vs)
    | _, _ => none
def oneV : List V → V
  | [v] => v
  | vs => .tup vs

def s0 (args : List V) : Nat → V := fun t => args.getD t (.val undef)

/-- Slots and blocks, written out: of what stands nowhere nothing is known. -/
def L (l : List V) : Nat → V := fun t => l.getD t .any
def HH (h : Nat → Option Blk) : List (Nat × Blk) → Nat → Option Blk
  | [] => h
  | (b, k) :: r => fun x => bif Nat.beq x b then some k else HH h r x
/-- Of the blocks that were handed in alone. -/
def odds (h : Nat → Option Blk) : Nat → Option Blk := fun b => bif Nat.beq (b % 2) 1 then (h b).map (fun k => bif k.cl then k else { k with es := [] }) else none

/-- A value under the names' new numbers. -/
inductive Ren (h : Nat → Option Blk) (H : List (Nat × Blk)) : V → V → Prop
  | any (v : V) : Ren h H v .any
  | same (v : V) (hc : clo1 v = true) : Ren h H v v
  | ipt (cs : List V) : Ren h H (.ipt cs) (.ipt cs)
  | nil (sz : Nat) : Ren h H .emp (.isl sz [])
  | frz (b ver off len : Nat) (v' : V) (hf : close0 h (.sl b ver off len) = some (v', [b])) (hd : HH (odds h) H b = none) : Ren h H (.sl b ver off len) v'
  | sl (b ver ver' off len : Nat) (k k' : Blk) (hk : h b = some k) (hv : k.ver = ver) (hk' : HH (odds h) H b = some k') (hv' : k'.ver = ver') : Ren h H (.sl b ver off len) (.sl b ver' off len)
  | ptr (b ver ver' i off : Nat) (k k' : Blk) (hk : h b = some k) (hv : k.ver = ver) (hk' : HH (odds h) H b = some k') (hv' : k'.ver = ver') : Ren h H (.ptr b ver i off) (.ptr b ver' i off)
  | agg (cs cs' : List V) (hl : cs'.length = cs.length) (hc : ∀ (j : Nat) c c', cs[j]? = some c → cs'[j]? = some c' → Ren h H c c') : Ren h H (.agg cs) (.agg cs')

/-- The blocks that are kept, under new numbers. -/
structure RenB (h : Nat → Option Blk) (H : List (Nat × Blk)) (b : Nat) (k' : Blk) : Prop where
  blk : ∃ k, h b = some k ∧ k'.sz = k.sz ∧ k'.wr = k.wr ∧ (b % 2 = 1 → k'.ver = k.ver) ∧ ((k.cl = true ∧ k'.es = k.es) ∨
    ((k'.cl = true → ∀ e ∈ k'.es, ∀ c ∈ e, clo0 c = true) ∧ k'.es.length = k.es.length ∧ ∀ (i : Nat) e e', k.es[i]? = some e → k'.es[i]? = some e' → e'.length = e.length ∧ ∀ (j : Nat) c c', e[j]? = some c → e'[j]? = some c' → c' ≠ .any ∧ Ren h H c c'))

/-- What is v may be read as v': nothing as a list of none. -/
inductive Lv : V → V → Prop
  | refl (v : V) : Lv v v
  | nil (sz : Nat) : Lv .emp (.isl sz [])
  | agg (cs cs' : List V) (hl : cs'.length = cs.length) (h : ∀ (j : Nat) c c', cs[j]? = some c → cs'[j]? = some c' → Lv c c') : Lv (.agg cs) (.agg cs')
theorem Lv.vr {E : Env} {v v' : V} (h : Lv v v') : ∀ {x : Value}, VR E v x → VR E v' x := by
  induction h with
  | refl v => exact fun h => h
  | nil sz =>
    intro x hx
    cases hx with
    | clo hx => cases hx with
      | emp a => exact .clo (.isl sz [] a 0 (fun _ _ => undef) (Nat.le_refl _) (fun e he => by cases he) (fun e he => by cases he) (fun h => absurd rfl h) (fun i j e c he => by simp at he) (fun i j e c he => by simp at he))
  | agg cs cs' hl _ ih =>
    intro x hx
    obtain ⟨xs, rfl, hs, hc⟩ := vr_agg hx
    refine .agg _ _ (by rw [hs, hl]) (fun j c' hj => ?_)
    have hlt : j < cs.length := by rw [← hl]; exact (List.getElem?_eq_some_iff.1 hj).1
    have hc0 : cs[j]? = some cs[j] := List.getElem?_eq_getElem hlt
    exact ih j _ _ hc0 hj (hc j _ hc0)

inductive Job where
  | code (nt : Nat) (c : Code) (σ : St) (x : Ex) (σ' : St)
  | ops (nt : Nat) (rid : Nat) (ops : Array Oper) (l : List Nat) (σ : St) (recs : List Rec) (σ' : St)
  | call (f : FuncId) (args : List V) (pts : List (Nat × List V)) (res : V) (pts' : List (Nat × List V)) (outs : List Blk)

/-- The name of a place in a function's text: the region and the operation's number in it. -/
def siteOf (rid i : Nat) : Nat := rid * 512 + i

def dstOk (nt : Nat) (o : Oper) : Bool := match o.dst with | some d => decide (d < nt) | none => true

def St.to (σ : St) (d : Option Tmp) (v : V) (ups : List (Nat × Blk)) : St := ⟨put σ.s d v, updAll σ.h ups⟩
def valsOf (o : Oper) (s : Nat → V) : List V := o.op.operands.toList.map (evalO s)
def hrAt (site : Nat) (vals : List V) (h : Nat → Option Blk) : Nat → Option Blk := restrict h (reach site vals h)
def recSkip (i : Nat) (o : Oper) (site : Nat) : Rec := ⟨i, o, true, site, [], fun _ => none, [], .val undef, []⟩
def recDo (i : Nat) (o : Oper) (site : Nat) (vals : List V) (h : Nat → Option Blk) (v : V) (ups : List (Nat × Blk)) : Rec := ⟨i, o, false, site, vals, hrAt site vals h, reach site vals h, v, ups⟩

/-- The interpreter's runs. X: what is known of functions otherwise. -/
inductive Run (P : Program) (X : FuncId → List V → List (Nat × List V) → V → List (Nat × List V) → List Blk → Prop) : Job → Prop
  | nil {nt rid : Nat} {ops : Array Oper} {σ : St} : Run P X (.ops nt rid ops [] σ [] σ)
  | skip {nt rid : Nat} {ops : Array Oper} {i : Nat} {l : List Nat} {σ σ' : St} {recs : List Rec} {o : Oper} (ho : ops[i]? = some o) (hg : guardV ops σ.s o = some false) (hd : dstOk nt o = true)
      (h : Run P X (.ops nt rid ops l (σ.to o.dst (.val undef) []) recs σ')) : Run P X (.ops nt rid ops (i :: l) σ (recSkip i o (siteOf rid i) :: recs) σ')
  | eff {nt rid : Nat} {ops : Array Oper} {i : Nat} {l : List Nat} {σ σ' : St} {recs : List Rec} {o : Oper} {v : V} {ups : List (Nat × Blk)} (ho : ops[i]? = some o) (hg : guardV ops σ.s o = some true) (hd : dstOk nt o = true)
      (he : eff P (siteOf rid i) o.op (valsOf o σ.s) (hrAt (siteOf rid i) (valsOf o σ.s) σ.h) = some (v, ups)) (h : Run P X (.ops nt rid ops l (σ.to o.dst v ups) recs σ')) :
      Run P X (.ops nt rid ops (i :: l) σ (recDo i o (siteOf rid i) (valsOf o σ.s) σ.h v ups :: recs) σ')
  | enter {nt rid : Nat} {ops : Array Oper} {i : Nat} {l : List Nat} {σ σ' : St} {recs : List Rec} {o : Oper} {fo : Operand} {args : Array Operand} {ats : Array TypeId} {f : FuncId} {p : Prep} {res : V} {pts' : List (Nat × List V)} {outs : List Blk}
      (ho : ops[i]? = some o) (hg : guardV ops σ.s o = some true) (hd : dstOk nt o = true) (hop : o.op = .call ⟨.value fo, args, ats⟩) (hf : calleeOf (evalO σ.s fo) = some f) (hcb : callable P f = true)
      (hp : prep (hrAt (siteOf rid i) (valsOf o σ.s) σ.h) (args.toList.map (evalO σ.s)) 0 = some p) (hpok : prepOk (siteOf rid i) p = true)
      (hcall : Run P X (.call f p.args (ptsOf p) res pts' outs)) (hnp : pts'.length = p.pts.length) (hout : outsOk res outs = true)
      (h : Run P X (.ops nt rid ops l (σ.to o.dst (rn (siteOf rid i) (hrAt (siteOf rid i) (valsOf o σ.s) σ.h) res) (callUps (siteOf rid i) (hrAt (siteOf rid i) (valsOf o σ.s) σ.h) p res pts' outs)) recs σ')) :
      Run P X (.ops nt rid ops (i :: l) σ (recDo i o (siteOf rid i) (valsOf o σ.s) σ.h (rn (siteOf rid i) (hrAt (siteOf rid i) (valsOf o σ.s) σ.h) res) (callUps (siteOf rid i) (hrAt (siteOf rid i) (valsOf o σ.s) σ.h) p res pts' outs) :: recs) σ')
  | eat {nt rid : Nat} {ops : Array Oper} {i : Nat} {l : List Nat} {σ σ' : St} {recs : List Rec} {o : Oper} {fo : Operand} {args : Array Operand} {ats : Array TypeId} {f : FuncId} {b ver len : Nat} {k : Blk} {es es' : List (List Value)} {rest : List Value} {out : Option Nat}
      (ho : ops[i]? = some o) (hg : guardV ops σ.s o = some true) (hd : dstOk nt o = true) (hop : o.op = .call ⟨.value fo, args, ats⟩) (hf : calleeOf (evalO σ.s fo) = some f) (hcb : callable P f = true)
      (hvs : args.toList.map (evalO σ.s) = .sl b ver 0 len :: rest.map V.val) (hk : live (hrAt (siteOf rid i) (valsOf o σ.s) σ.h) b ver = some k) (hes : k.es = es.map (·.map V.val)) (hc : eatB k len es es' = true) (he : EatOk P f k.sz len es rest out es')
      (h : Run P X (.ops nt rid ops l (σ.to o.dst (eatV b ver out) [(b, eatK k es')]) recs σ')) :
      Run P X (.ops nt rid ops (i :: l) σ (recDo i o (siteOf rid i) (valsOf o σ.s) σ.h (eatV b ver out) [(b, eatK k es')] :: recs) σ')
  | cskip {nt : Nat} {σ : St} : Run P X (.code nt .skip σ .normal σ)
  | label {nt : Nat} {σ : St} {l : Nat} : Run P X (.code nt (.label l) σ .normal σ)
  | exit {nt : Nat} {σ : St} {id : Nat} : Run P X (.code nt (.exit id) σ (.exit id) σ)
  | ret {nt : Nat} {σ : St} : Run P X (.code nt .ret σ .ret σ)
  | region {nt : Nat} {σ σ' : St} {id : Nat} {ops : Array Oper} {draw : Bool} {recs : List Rec} (h : Run P X (.ops nt id ops (List.range ops.size) σ recs σ')) (ho : draw = true → backB ops = true ∧ orderB ops (ancL ops) recs = true) :
      Run P X (.code nt (.region id ops draw) σ .normal σ')
  | seq {nt : Nat} {σ σ1 σ' : St} {a b : Code} {x : Ex} (ha : Run P X (.code nt a σ .normal σ1)) (hb : Run P X (.code nt b σ1 x σ')) : Run P X (.code nt (.seq a b) σ x σ')
  | seqx {nt : Nat} {σ σ' : St} {a b : Code} {x : Ex} (ha : Run P X (.code nt a σ x σ')) (hx : x ≠ .normal) : Run P X (.code nt (.seq a b) σ x σ')
  | cond {nt : Nat} {σ σ' : St} {c : Operand} {t e : Code} {x : Ex} {b : Bool} (hc : evalO σ.s c = .val (.bool b)) (h : Run P X (.code nt (if b then t else e) σ x σ')) : Run P X (.code nt (.cond c t e) σ x σ')
  | block {nt : Nat} {σ σ' : St} {id : Nat} {c : Code} {x y : Ex} (h : Run P X (.code nt c σ x σ')) (hy : x.inBlock id = y) : Run P X (.code nt (.block id c) σ y σ')
  | loop {nt : Nat} {σ σ1 σ' : St} {c : Code} {x : Ex} (h : Run P X (.code nt c σ .normal σ1)) (hl : Run P X (.code nt (.loop c) σ1 x σ')) : Run P X (.code nt (.loop c) σ x σ')
  | loopx {nt : Nat} {σ σ' : St} {c : Code} {x : Ex} (h : Run P X (.code nt c σ x σ')) (hx : x ≠ .normal) : Run P X (.code nt (.loop c) σ x σ')
  | weak {nt : Nat} {c : Code} {σ σ2 σ' : St} {x : Ex} (hs : ∀ t, σ2.s t = σ.s t ∨ σ2.s t = .any) (hh : σ2.h = σ.h) (h : Run P X (.code nt c σ2 x σ')) : Run P X (.code nt c σ x σ')
  | canon {nt : Nat} {c : Code} {σ σ' : St} {x : Ex} (l : List V) (H : List (Nat × Blk)) (hl : ∀ t, Ren σ.h H (σ.s t) (L l t)) (hH : ∀ b k', (b, k') ∈ H → RenB σ.h H b k') (h : Run P X (.code nt c ⟨L l, HH (odds σ.h) H⟩ x σ')) : Run P X (.code nt c σ x σ')
  | virt {nt : Nat} {c : Code} {σ σ' : St} {x : Ex} (t id : Nat) (B : Blk) (ht : σ.s t = .emp) (hv : B.ver = nextVer σ.h id) (he : B.es = []) (h : Run P X (.code nt c ⟨upd σ.s t (.sl id B.ver 0 0), upd σ.h id (some B)⟩ x σ')) : Run P X (.code nt c σ x σ')
  | call {f : FuncId} {fn : Func} {body : Code} {args : List V} {pts : List (Nat × List V)} {σ : St} {x : Ex} {vs vs' : List V} {o s1 s2 : List Nat} {pts' : List (Nat × List V)} (hf : P.funcs[f]? = some fn) (hb : fn.body = some body) (hn : args.length ≤ fn.ntmps)
      (h : Run P X (.code fn.ntmps body { s := s0 args, h := h0 pts } x σ)) (hx : x = .normal ∨ x = .ret) (hr : resL P fn σ fn.results.toList = some vs) (hc : closeR σ.h vs [] = some (vs', o, s1)) (he : endPts σ.h pts.length 0 = some (pts', s2))
      (hd : o.all (fun b => !(s1 ++ s2).contains b) = true) : Run P X (.call f args pts (oneV vs') pts' (outsOf σ.h o))
  | wk {f : FuncId} {args args' : List V} {pts : List (Nat × List V)} {res : V} {pts' : List (Nat × List V)} {outs : List Blk} (hl : args'.length = args.length) (hL : ∀ (j : Nat) v', args'[j]? = some v' → ∃ v, args[j]? = some v ∧ Lv v v') (h : Run P X (.call f args' pts res pts' outs)) : Run P X (.call f args pts res pts' outs)
  | known {f : FuncId} {args : List V} {pts : List (Nat × List V)} {res : V} {pts' : List (Nat × List V)} {outs : List Blk} (h : X f args pts res pts' outs) : Run P X (.call f args pts res pts' outs)

/-- From a loop's body on. -/
def Rounds (P : Program) (c : Code) (Q : Exit → Act → World → Prop) (a : Act) (w : World) : Prop :=
  ∀ (b : Frame) (k : List Item) (cs : List Frame), ∃ e a' w', Q e a' w' ∧ Arrives P (lone (b.at a (.code c :: .inLoop c :: k)) cs w) b k cs e a' w'
theorem Rounds.wp {P : Program} {c : Code} {Q : Exit → Act → World → Prop} {a : Act} {w : World} (h : Rounds P c Q a w) : (Code.loop c).wp P Q a w := fun b k cs => by
  obtain ⟨e, a', w', h1, h2⟩ := h b k cs
  exact ⟨e, a', w', h1, .of_steps (.one step_loop) h2⟩
theorem Rounds.more {P : Program} {c : Code} {Q : Exit → Act → World → Prop} {a : Act} {w : World} (h : c.wp P (Exit.then (Rounds P c Q) (fun _ _ _ => False)) a w) : Rounds P c Q a w := fun b k cs => by
  obtain ⟨e, a1, w1, hq1, harr⟩ := h b (.inLoop c :: k) cs
  cases e with
  | normal =>
    obtain ⟨e2, a2, w2, hq2, harr2⟩ := hq1 b k cs
    exact ⟨e2, a2, w2, hq2, .of_steps (Steps.trans harr (.one step_inLoop)) harr2⟩
  | _ => exact hq1.elim
theorem Rounds.out {P : Program} {c : Code} {Q : Exit → Act → World → Prop} {a : Act} {w : World} {x : Ex} (hx : x ≠ .normal) (h : c.wp P (fun e a' w' => e = x.to ∧ Q e a' w') a w) : Rounds P c Q a w := fun b k cs => by
  obtain ⟨e, a1, w1, ⟨rfl, hq1⟩, harr⟩ := h b (.inLoop c :: k) cs
  refine ⟨x.to, a1, w1, hq1, .pass (x := .inLoop c) rfl (fun _ _ => .inl ?_) harr⟩
  cases x <;> first | exact absurd rfl hx | simp [Ex.to]

def Sound (P : Program) (S : Sys) : Job → Prop
  | .code nt c σ x σ' => (∀ (C : Cfg), C.S = S → ∀ (E0 : Env) (a : Act) (E : Env) (Q : Exit → Act → World → Prop), Sim C E0 nt σ a E → (∀ a' E', Sim C E0 nt σ' a' E' → Q x.to a' E'.w) → c.wp P Q a E.w) ∧
      ∀ body, c = .loop body → ∀ (C : Cfg), C.S = S → ∀ (E0 : Env) (a : Act) (E : Env) (Q : Exit → Act → World → Prop), Sim C E0 nt σ a E → (∀ a' E', Sim C E0 nt σ' a' E' → Q x.to a' E'.w) → Rounds P body Q a E.w
  | .ops nt _ ops l σ recs σ' => Chain ops nt σ recs σ' ∧ recs.map (·.i) = l ∧ ∀ r ∈ recs, StepOk P S nt ops r
  | .call f args pts res pts' outs => CallOk P S f args pts res pts' outs

theorem dstOk_spec {nt : Nat} {o : Oper} (h : dstOk nt o = true) : ∀ d, o.dst = some d → d < nt := by
  intro d hd
  unfold dstOk at h
  rw [hd] at h
  simpa using h

theorem res_ok {P : Program} {C : Cfg} {E0 : Env} {nt : Nat} {fn : Func} {σ : St} {a : Act} {E : Env} (hs : Sim C E0 nt σ a E) : ∀ {l : List ResultVar} {vs : List V}, resL P fn σ l = some vs →
    ∃ xs : List Value, (l.mapM fun (r : ResultVar) => match r with
      | .tmp t => (pure (a.tmps.getD t undef) : Sem Value)
      | .cell ad t => do loadVar t (← asAddr (a.tmps.getD ad undef))).run P E.w = .ok xs E.w ∧ xs.length = vs.length ∧ ∀ (j : Nat) v, vs[j]? = some v → VR E v (xs.getD j undef)
  | [], vs, h => by
    simp [resL] at h
    subst h
    exact ⟨[], rfl, rfl, fun j v hj => by simp at hj⟩
  | r :: l, vs, h => by
    simp only [resL] at h
    split at h
    · rename_i v vs1 h1 h2
      obtain rfl := Option.some.inj h
      obtain ⟨xs, hrun, hlen, hrel⟩ := res_ok hs h2
      have hone : ∃ y, (match r with
        | .tmp t => (pure (a.tmps.getD t undef) : Sem Value)
        | .cell ad t => do loadVar t (← asAddr (a.tmps.getD ad undef))).run P E.w = .ok y E.w ∧ VR E v y := by
        cases r with
        | tmp t =>
          obtain rfl := Option.some.inj h1
          exact ⟨_, rfl, hs.s t⟩
        | cell ad t =>
          simp only at h1
          have H : HR σ.h E.h 0 := ⟨fun b k hb => by rw [hs.h]; exact hb, by rw [hs.h]⟩
          obtain ⟨y, hy1, hy2⟩ := load_ok (P := P) hs.good H (hs.s ad) h1
          refine ⟨y, ?_, hy2⟩
          unfold Instr.loadAt at hy1
          simp only [Sem.run_bind] at hy1 ⊢
          cases hv : a.tmps.getD ad undef with
          | pointer p =>
            rw [hv] at hy1
            cases p with
            | none => simp [Instr.sureAddr, stuck, Result.andThen] at hy1
            | some p => simpa [Instr.sureAddr, asAddr] using hy1
          | _ =>
            rw [hv] at hy1
            simp [Instr.sureAddr, stuck, Result.andThen] at hy1
      obtain ⟨y, hy1, hy2⟩ := hone
      refine ⟨y :: xs, ?_, by simp [hlen], fun j u hj => ?_⟩
      · rw [List.mapM_cons]
        simp only [Sem.run_bind, hy1, Result.andThen, hrun]
        rfl
      · cases j with
        | zero => simp at hj; subst hj; exact hy2
        | succ j => simpa using hrel j u (by simpa using hj)
    · cases h

theorem HH_cases {h : Nat → Option Blk} : ∀ {H : List (Nat × Blk)} {b : Nat} {k : Blk}, HH h H b = some k → (b, k) ∈ H ∨ h b = some k
  | [], b, k, hh => .inr hh
  | (c, k2) :: r, b, k, hh => by
    simp only [HH] at hh
    cases hb : Nat.beq b c with
    | true => rw [hb] at hh; simp only [cond_true] at hh; rw [Nat.eq_of_beq_eq_true hb, Option.some.inj hh]; exact .inl (by simp)
    | false =>
      rw [hb] at hh
      simp only [cond_false] at hh
      rcases HH_cases hh with h1 | h1
      · exact .inl (by simp [h1])
      · exact .inr h1
theorem odds_some {h : Nat → Option Blk} {b : Nat} {k' : Blk} (hh : odds h b = some k') : b % 2 = 1 ∧ ∃ k, h b = some k ∧ k'.ver = k.ver ∧ k'.sz = k.sz ∧ k'.wr = k.wr ∧ ((k.cl = true ∧ k' = k) ∨ (k'.es = [] ∧ k.cl = false)) := by
  unfold odds at hh
  cases hb : Nat.beq (b % 2) 1 with
  | true =>
    rw [hb] at hh
    simp only [cond_true, Option.map_eq_some_iff] at hh
    obtain ⟨k, hk, rfl⟩ := hh
    refine ⟨Nat.eq_of_beq_eq_true hb, k, hk, ?_⟩
    cases hc : k.cl with
    | true => simp
    | false => simp
  | false => rw [hb] at hh; cases hh

/-- What a kept block was. -/
theorem kept_ok {h : Nat → Option Blk} {H : List (Nat × Blk)} (hH : ∀ b k', (b, k') ∈ H → RenB h H b k') {b : Nat} {k' : Blk} (hh : HH (odds h) H b = some k') :
    ∃ k, h b = some k ∧ k'.sz = k.sz ∧ k'.wr = k.wr ∧ (b % 2 = 1 → k'.ver = k.ver) ∧ ((k.cl = true ∧ k'.es = k.es) ∨ k'.es = [] ∨
    ((k'.cl = true → ∀ e ∈ k'.es, ∀ c ∈ e, clo0 c = true) ∧ k'.es.length = k.es.length ∧ ∀ (i : Nat) e e', k.es[i]? = some e → k'.es[i]? = some e' → e'.length = e.length ∧ ∀ (j : Nat) c c', e[j]? = some c → e'[j]? = some c' → c' ≠ .any ∧ Ren h H c c')) := by
  rcases HH_cases hh with h1 | h1
  · obtain ⟨k, a1, a2, a3, a4, a5⟩ := (hH b k' h1).blk
    exact ⟨k, a1, a2, a3, a4, a5.elim .inl (fun h => .inr (.inr h))⟩
  · obtain ⟨_, k, a1, a2, a3, a4, a5⟩ := odds_some h1
    refine ⟨k, a1, a3, a4, fun _ => a2, ?_⟩
    rcases a5 with ⟨c1, c2⟩ | ⟨c1, _⟩
    · exact .inl ⟨c1, by rw [c2]⟩
    · exact .inr (.inl c1)

/-- What may be read from then on: the blocks that are dropped, too. -/
def canonI (E : Env) (h : Nat → Option Blk) (H : List (Nat × Blk)) : Nat → Prop := fun g => E.I g ∨ ∃ b c, h b ≠ none ∧ HH (odds h) H b = none ∧ E.ρ b = some (g, c)
theorem ren_vr {C : Cfg} {E : Env} (G : Good C E) {h : Nat → Option Blk} {H : List (Nat × Blk)} (hh : E.h = h) (hH : ∀ b k', (b, k') ∈ H → RenB h H b k') {v v' : V} {x : Value} (hr : Ren h H v v') (hv : VR E v x) :
    VR ⟨E.w, canonI E h H, fun b => if (HH (odds h) H b).isSome then E.ρ b else none, HH (odds h) H⟩ v' x := by
  induction hr generalizing x with
  | any v => exact .any _
  | same v hc =>
    have h5 : CR E.w E.I v x := clo1_cr hv hc
    exact .clo (h5.mono (fun _ hg => .inl hg) (fun _ _ _ => rfl))
  | nil sz =>
    have h5 : CR E.w E.I .emp x := clo0_cr hv rfl
    cases h5
    exact .clo (.isl sz [] _ 0 (fun _ _ => undef) (Nat.le_refl _) (by simp) (by simp) (fun h => absurd rfl h) (by simp) (by simp))
  | ipt cs =>
    obtain ⟨b, o, rfl, hat, hok, hI⟩ := vr_ipt hv
    refine mk_ipt (fun j c hj => ?_) hok (fun hne => .inl (hI hne))
    obtain ⟨y, h1, h2⟩ := hat j c hj
    have h5 : CR E.w E.I c y := clo0_cr h2 (hok c (List.mem_of_getElem? hj)).2
    exact ⟨y, h1, .clo (h5.mono (fun _ hg => .inl hg) (fun _ _ _ => rfl))⟩
  | frz b ver off len v' hf hd =>
    obtain ⟨q1, _, _, q4⟩ := close0_ok G (hr := h) (fun b k hb => by rw [hh]; exact hb) hf
    exact .clo (q1 x (canonI E h H) hv (fun _ hg => .inl hg) (fun b' hb' g n hρ => .inr ⟨b', n, (q4 b' hb').2, by rw [List.mem_singleton.1 hb']; exact hd, hρ⟩))
  | sl b ver ver' off len k k' hk hv0 hk' hv' =>
    obtain ⟨k2, a1, a2, a3, a4, a5⟩ := kept_ok hH hk'
    rw [hk] at a1; obtain rfl := Option.some.inj a1
    have hsh : ∃ a n c, x = .slice a n c := by
      cases hv with
      | clo h => cases h
      | sl _ _ _ _ _ _ hs => exact hs
    refine .sl _ _ _ _ _ k' hsh hk' (by omega) (fun _ => ?_)
    have := vr_sl hv (by rw [hh]; exact hk) hv0
    simp only [hk', Option.isSome_some, if_true, a2]
    exact this
  | ptr b ver ver' i off k k' hk hv0 hk' hv' =>
    obtain ⟨k2, a1, a2, a3, a4, a5⟩ := kept_ok hH hk'
    rw [hk] at a1; obtain rfl := Option.some.inj a1
    have := vr_ptr hv (by rw [hh]; exact hk) hv0
    obtain ⟨g, c, h1, h2⟩ := this
    refine .ptr _ _ _ _ _ k' ⟨_, h2⟩ hk' (by omega) (fun _ => ⟨g, c, ?_, ?_⟩)
    · simp only [hk', Option.isSome_some, if_true]; exact h1
    · rw [a2]; exact h2
  | agg cs cs' hl hc ih =>
    obtain ⟨xs, rfl, hs, hx⟩ := vr_agg hv
    refine .agg _ _ (by omega) (fun j c' hj => ?_)
    have hlt := (List.getElem?_eq_some_iff.1 hj).1
    have hjc : cs[j]? = some (cs[j]'(by omega)) := List.getElem?_eq_getElem (by omega)
    exact ih j _ c' hjc hj (hx j _ hjc)

theorem ren_ok {h : Nat → Option Blk} {H : List (Nat × Blk)} {c c' : V} (hr : Ren h H c c') (hne : c' ≠ .any) (hok : cellOk c = true) : cellOk c' = true := by
  cases hr with
  | any => exact absurd rfl hne
  | same => exact hok
  | nil => rfl
  | frz _ _ _ _ _ hf =>
    unfold close0 at hf
    split at hf
    all_goals first | (split at hf <;> first | (split at hf <;> first | (obtain ⟨rfl, _⟩ := Prod.mk.inj (Option.some.inj hf); rfl) | cases hf) | cases hf) | cases hf | skip
    all_goals first | rfl | (rename_i he; cases he)
  | ipt => rfl
  | sl => rfl
  | ptr => rfl
  | agg => cases hok

def canonE (E : Env) (h : Nat → Option Blk) (H : List (Nat × Blk)) : Env := ⟨E.w, canonI E h H, fun b => if (HH (odds h) H b).isSome then E.ρ b else none, HH (odds h) H⟩
theorem canon_ok {C : Cfg} {E0 E : Env} {nt : Nat} {σ : St} {a : Act} (hs : Sim C E0 nt σ a E) {l : List V} {H : List (Nat × Blk)} (hl : ∀ t, Ren σ.h H (σ.s t) (L l t)) (hH : ∀ b k', (b, k') ∈ H → RenB σ.h H b k') :
    Sim C E0 nt ⟨L l, HH (odds σ.h) H⟩ a (canonE E σ.h H) := by
  unfold canonE
  have G := hs.good
  have hρ : ∀ b g c, (if (HH (odds σ.h) H b).isSome = true then E.ρ b else none) = some (g, c) → E.ρ b = some (g, c) := fun b g c h => by split at h <;> first | exact h | cases h
  have hold : ∀ b g c, σ.h b ≠ none → E.ρ b = some (g, c) → g < E.w.heap.size := fun b g c hb hr => by
    cases hk : σ.h b with
    | none => exact absurd hk hb
    | some k =>
      rcases G.blk b k (by rw [hs.h]; exact hk) with ⟨h0, _⟩ | ⟨g', cap, h1, h2, _⟩
      · rw [h0] at hr; cases hr
      · rw [h1] at hr; obtain ⟨rfl, rfl⟩ := Prod.mk.inj (Option.some.inj hr); exact h2
  have hevn : ∀ b, σ.h b ≠ none → HH (odds σ.h) H b = none → b % 2 = 0 := fun b hb hd => by
    rcases Nat.mod_two_eq_zero_or_one b with h | h
    · exact h
    · exfalso
      cases hk : σ.h b with
      | none => exact hb hk
      | some k =>
        have hbase : ∃ k', odds σ.h b = some k' := ⟨bif k.cl then k else { k with es := [] }, by unfold odds; rw [h, hk]; rfl⟩
        have : ∀ H' : List (Nat × Blk), ∃ k', HH (odds σ.h) H' b = some k' := by
          intro H'
          induction H' with
          | nil => exact hbase
          | cons q r ih =>
            obtain ⟨b2, k2⟩ := q
            simp only [HH]
            cases Nat.beq b b2 with
            | true => exact ⟨k2, rfl⟩
            | false => exact ih
        obtain ⟨k', h'⟩ := this H
        rw [h'] at hd; cases hd
  have hiold : ∀ g, canonI E σ.h H g → g < E.w.heap.size := fun g hg => by
    rcases hg with h | ⟨b, c, h1, h2, h3⟩
    · exact G.iold g h
    · exact hold b g c h1 h3
  have hisub : ∀ g, canonI E σ.h H g → C.I0 g ∨ C.w0.heap.size ≤ g := fun g hg => by
    rcases hg with h | ⟨b, c, h1, h2, h3⟩
    · exact G.isub g h
    · rcases G.own b g c h3 with ⟨j, rfl, _⟩ | h
      · have := hevn _ h1 h2; omega
      · exact .inr h.1
  refine ⟨⟨fun b k' hk' => ?_, fun b b' g c c' h1 h2 => G.inj _ _ _ _ _ (hρ _ _ _ h1) (hρ _ _ _ h2), hiold, hisub, fun b g c h => G.own _ _ _ (hρ _ _ _ h), fun b hb => ?_, G.os, G.tape, G.output, G.size, G.frame, fun b g c h => G.lo _ _ _ (hρ _ _ _ h), G.lo0, G.u⟩, rfl, fun t => ren_vr G hs.h hH (hl t) (hs.s t), hs.n, hs.d, ⟨fun g hg => .inl (hs.x.I g hg), hs.x.w, fun b k0 hk0 => ?_⟩, hs.e⟩
  · have hk' : HH (odds σ.h) H b = some k' := hk'
    obtain ⟨k, a1, a2, a3, a4, a5⟩ := kept_ok hH hk'
    have e : (if (HH (odds σ.h) H b).isSome = true then E.ρ b else none) = E.ρ b := by rw [hk']; rfl
    unfold BR
    simp only [e]
    rcases G.blk b k (by rw [hs.h]; exact a1) with ⟨h0, he⟩ | ⟨g, cap, b1, b2, b3, b4, b5, b6, b7, b8, b9⟩
    · refine .inl ⟨h0, ?_⟩
      rcases a5 with ⟨_, h⟩ | h | ⟨_, h, _⟩
      · rw [h, he]
      · exact h
      · exact List.eq_nil_of_length_eq_zero (by rw [h, he]; rfl)
    · refine .inr ⟨g, cap, b1, b2, b3, fun hw => b4 (by rw [← a3]; exact hw), fun e' he' => ?_, ?_, fun i j e' c' he' hj' => ?_, (fun hw hI => by
        rcases hI with hI | ⟨b', c, q1, q2, q3⟩
        · exact b8 (by rw [← a3]; exact hw) hI
        · have := G.inj _ _ _ _ _ b1 q3; subst this; rw [hk'] at q2; cases q2), fun hw => .inl (b9 (by rw [← a3]; exact hw))⟩
      · rcases a5 with ⟨_, h⟩ | h | ⟨_, h, h2⟩
        · rw [h] at he'; rw [a2]; exact b5 e' he'
        · rw [h] at he'; cases he'
        · obtain ⟨i, hi⟩ := List.getElem?_of_mem he'
          have hlt := (List.getElem?_eq_some_iff.1 hi).1
          have hik : k.es[i]? = some (k.es[i]'(by omega)) := List.getElem?_eq_getElem (by omega)
          rw [(h2 i _ e' hik hi).1, a2]
          exact b5 _ (List.mem_of_getElem? hik)
      · rcases a5 with ⟨_, h⟩ | h | ⟨_, h, h2⟩
        · rw [h, a2]; exact b6
        · rw [h]; simp
        · rw [h, a2]; exact b6
      · rcases a5 with ⟨hcl, h⟩ | h | ⟨hcl, h, h2⟩
        · rw [h] at he'
          obtain ⟨⟨x, hx1, hx2⟩, hx3, hx4⟩ := b7 i j e' c' he' hj'
          have h5 : CR E.w E.I c' x := clo0_cr hx2 (hx4 hcl)
          exact ⟨⟨x, by rw [a2]; exact hx1, .clo (h5.mono (fun _ hg => .inl hg) (fun _ _ _ => rfl))⟩, hx3, fun _ => hx4 hcl⟩
        · rw [h] at he'; simp at he'
        · have hlt := (List.getElem?_eq_some_iff.1 he').1
          have hik : k.es[i]? = some (k.es[i]'(by omega)) := List.getElem?_eq_getElem (by omega)
          obtain ⟨q1, q2⟩ := h2 i _ e' hik he'
          have hlt2 := (List.getElem?_eq_some_iff.1 hj').1
          have hjk : (k.es[i]'(by omega))[j]? = some ((k.es[i]'(by omega))[j]'(by omega)) := List.getElem?_eq_getElem (by omega)
          obtain ⟨q3, q4⟩ := q2 j _ c' hjk hj'
          obtain ⟨⟨x, hx1, hx2⟩, hx3, hx4⟩ := b7 i j _ _ hik hjk
          exact ⟨⟨x, by rw [a2]; exact hx1, ren_vr G hs.h hH q4 hx2⟩, ren_ok q4 q3 hx3, fun h => hcl h _ (List.mem_of_getElem? he') _ (List.mem_of_getElem? hj')⟩
  · show HH (odds σ.h) H b ≠ none
    have hb : (if (HH (odds σ.h) H b).isSome = true then E.ρ b else none) ≠ none := hb
    intro h
    rw [h] at hb
    exact hb rfl
  · obtain ⟨k, hk, hle, heq⟩ := hs.x.h b k0 hk0
    have hodd : b % 2 = 1 := by
      rcases Nat.mod_two_eq_zero_or_one b with h | h
      · rw [hs.e b h] at hk0; cases hk0
      · exact h
    rw [hs.h] at hk
    have hex : ∃ k', HH (odds σ.h) H b = some k' := by
      have hbase : ∃ k', odds σ.h b = some k' := ⟨bif k.cl then k else { k with es := [] }, by unfold odds; rw [hodd, hk]; rfl⟩
      have : ∀ H' : List (Nat × Blk), ∃ k', HH (odds σ.h) H' b = some k' := by
        intro H'
        induction H' with
        | nil => exact hbase
        | cons p r ih =>
          obtain ⟨c, k2⟩ := p
          simp only [HH]
          cases Nat.beq b c with
          | true => exact ⟨k2, rfl⟩
          | false => exact ih
      exact this H
    obtain ⟨k', hk'⟩ := hex
    obtain ⟨k2, a1, a2, a3, a4, a5⟩ := kept_ok hH hk'
    rw [hk] at a1; obtain rfl := Option.some.inj a1
    refine ⟨k', hk', by rw [a4 hodd]; exact hle, fun e => ?_⟩
    obtain ⟨q1, q2⟩ := heq (by rw [← a4 hodd]; exact e)
    exact ⟨by rw [a2]; exact q1, by simp only [hk', Option.isSome_some, if_true]; exact q2⟩

theorem run_sound {P : Program} {X : FuncId → List V → List (Nat × List V) → V → List (Nat × List V) → List Blk → Prop} {S : Sys} (hmix : P.follows .mixedOrders = true) (hX : ∀ f args pts res pts' outs, X f args pts res pts' outs → CallOk P S f args pts res pts' outs) {j : Job} (h : Run P X j) : Sound P S j := by
  induction h with
  | nil => exact ⟨.nil _, rfl, fun r hr => by simp at hr⟩
  | skip ho hg hd _ ih =>
    obtain ⟨h1, h2, h3⟩ := ih
    refine ⟨.cons ⟨ho, hg, dstOk_spec hd, fun _ => ⟨rfl, rfl, rfl⟩, (fun h => by cases h), (fun h => by cases h), (fun h => by cases h)⟩ h1, by rw [List.map_cons, h2]; rfl, fun r hr => ?_⟩
    rcases List.mem_cons.1 hr with rfl | hr
    · exact step_skip_ok rfl
    · exact h3 r hr
  | eff ho hg hd he _ ih =>
    obtain ⟨h1, h2, h3⟩ := ih
    refine ⟨.cons ⟨ho, hg, dstOk_spec hd, (fun h => by cases h), fun _ => rfl, fun _ => rfl, fun _ => rfl⟩ h1, by rw [List.map_cons, h2]; rfl, fun r hr => ?_⟩
    rcases List.mem_cons.1 hr with rfl | hr
    · exact step_eff_ok rfl he
    · exact h3 r hr
  | enter ho hg hd hop hf hcb hp hpok _ hnp hout _ ihc ih =>
    obtain ⟨h1, h2, h3⟩ := ih
    refine ⟨.cons ⟨ho, hg, dstOk_spec hd, (fun h => by cases h), fun _ => rfl, fun _ => rfl, fun _ => rfl⟩ h1, by rw [List.map_cons, h2]; rfl, fun r hr => ?_⟩
    rcases List.mem_cons.1 hr with rfl | hr
    · exact step_call_ok ⟨rfl, _, _, _, _, _, _, _, _, _, _, hop, by simp [recDo, valsOf, hop, Op.operands, Call.operands], hf, hcb, hp, hpok, ihc, hnp, hout, rfl, rfl⟩
    · exact h3 r hr
  | eat ho hg hd hop hf hcb hvs hk hes hc he _ ih =>
    obtain ⟨h1, h2, h3⟩ := ih
    refine ⟨.cons ⟨ho, hg, dstOk_spec hd, (fun h => by cases h), fun _ => rfl, fun _ => rfl, fun _ => rfl⟩ h1, by rw [List.map_cons, h2]; rfl, fun r hr => ?_⟩
    rcases List.mem_cons.1 hr with rfl | hr
    · exact step_eat_ok ⟨rfl, _, _, _, _, _, _, _, _, _, _, _, _, _, hop, by simp [recDo, valsOf, hop, Op.operands, Call.operands, hvs], hf, hcb, hk, hes, hc, he, rfl, rfl⟩
    · exact h3 r hr
  | cskip => exact ⟨fun C hC E0 a E Q hs hq => wp_skip (hq a E hs), fun body h => by cases h⟩
  | label => exact ⟨fun C hC E0 a E Q hs hq => wp_label (hq a E hs), fun body h => by cases h⟩
  | exit => exact ⟨fun C hC E0 a E Q hs hq => wp_exit (hq a E hs), fun body h => by cases h⟩
  | ret => exact ⟨fun C hC E0 a E Q hs hq => wp_ret (hq a E hs), fun body h => by cases h⟩
  | region _ ho ih =>
    obtain ⟨h1, h2, h3⟩ := ih
    exact ⟨fun C hC E0 a E Q hs hq => region_ok hC hmix h1 h2 h3 ho hs hq, fun body h => by cases h⟩
  | seq _ _ iha ihb =>
    refine ⟨fun C hC E0 a E Q hs hq => wp_seq (iha.1 C hC E0 a E _ hs (fun a' E' hs' => ?_)), fun body h => by cases h⟩
    exact ihb.1 C hC E0 a' E' Q hs' hq
  | seqx _ hx iha =>
    refine ⟨fun C hC E0 a E Q hs hq => wp_seq (iha.1 C hC E0 a E _ hs (fun a' E' hs' => ?_)), fun body h => by cases h⟩
    rename_i x _
    cases x <;> first | exact absurd rfl hx | exact hq a' E' hs'
  | cond hc _ ih =>
    refine ⟨fun C hC E0 a E Q hs hq => ?_, fun body h => by cases h⟩
    have := eval_vr hs
    rename_i c t e x b _
    have hv := eval_vr hs c
    rw [hc] at hv
    exact wp_cond (val_vr hv) (ih.1 C hC E0 a E Q hs hq)
  | block _ hy ih =>
    refine ⟨fun C hC E0 a E Q hs hq => wp_block (ih.1 C hC E0 a E _ hs (fun a' E' hs' => ?_)), fun body h => by cases h⟩
    subst hy
    have := hq a' E' hs'
    rename_i id _ x _
    cases x with
    | normal => exact this
    | ret => exact this
    | exit id' =>
      simp only [Ex.to, Exit.inBlock, Ex.inBlock] at this ⊢
      split
      · rename_i he; rw [if_pos he] at this; exact this
      · rename_i he; rw [if_neg he] at this; exact this
  | loop _ _ ih ihl =>
    rename_i c x _ _
    refine ⟨fun C hC E0 a E Q hs hq => Rounds.wp (Rounds.more (ih.1 C hC E0 a E _ hs (fun a' E' hs' => ihl.2 c rfl C hC E0 a' E' Q hs' hq))), fun body hb C hC E0 a E Q hs hq => ?_⟩
    cases hb
    exact Rounds.more (ih.1 C hC E0 a E _ hs (fun a' E' hs' => ihl.2 c rfl C hC E0 a' E' Q hs' hq))
  | loopx _ hx ih =>
    refine ⟨fun C hC E0 a E Q hs hq => Rounds.wp (Rounds.out hx (ih.1 C hC E0 a E _ hs (fun a' E' hs' => ⟨rfl, hq a' E' hs'⟩))), fun body hb C hC E0 a E Q hs hq => ?_⟩
    cases hb
    exact Rounds.out hx (ih.1 C hC E0 a E _ hs (fun a' E' hs' => ⟨rfl, hq a' E' hs'⟩))
  | weak hs hh _ ih =>
    rename_i σ σ2 _ _ _
    have key : ∀ {C : Cfg} {E0 : Env} {nt : Nat} {a : Act} {E : Env}, Sim C E0 nt σ a E → Sim C E0 nt σ2 a E := fun h =>
      ⟨h.good, h.h.trans hh.symm, fun t => by rcases hs t with h1 | h1 <;> rw [h1]; exact h.s t; exact .any _, h.n, h.d, h.x, h.e⟩
    exact ⟨fun C hC E0 a E Q hs hq => ih.1 C hC E0 a E Q (key hs) hq, fun body hb C hC E0 a E Q hs hq => ih.2 body hb C hC E0 a E Q (key hs) hq⟩
  | canon l H hl hH _ ih =>
    exact ⟨fun C hC E0 a E Q hs hq => ih.1 C hC E0 a (canonE E _ H) Q (canon_ok hs hl hH) hq, fun body hb C hC E0 a E Q hs hq => ih.2 body hb C hC E0 a (canonE E _ H) Q (canon_ok hs hl hH) hq⟩
  | virt t id B ht hv he _ ih =>
    rename_i σ _ _ _
    have key : ∀ {C : Cfg} {E0 : Env} {nt : Nat} {a : Act} {E : Env}, Sim C E0 nt σ a E → Sim C E0 nt ⟨upd σ.s t (.sl id B.ver 0 0), upd σ.h id (some B)⟩ a ⟨E.w, E.I, upd E.ρ id none, upd E.h id (some B)⟩ := by
      intro C E0 nt a E h
      obtain ⟨G2, X2⟩ := h.good.empty id B (by rw [hv, h.h]) he
      refine ⟨G2, by rw [h.h], fun u => ?_, h.n, h.d, h.x.trans X2, h.e⟩
      simp only [upd]
      by_cases hu : u = t
      · rw [if_pos hu]
        have hv0 := h.s u
        rw [hu, ht] at hv0
        have hsh : ∃ a0, a.tmps.getD u undef = .slice a0 0 0 := by
          rw [hu]
          cases hv0 with
          | clo h => generalize a.tmps.getD t undef = y at h; cases h with | emp a0 => exact ⟨a0, rfl⟩
        obtain ⟨a0, ha0⟩ := hsh
        rw [ha0]
        exact .sl _ _ _ _ _ B ⟨_, _, _, rfl⟩ (by simp [upd]) (Nat.le_refl _) (fun _ => .inl ⟨by simp [upd], rfl, rfl, a0, rfl⟩)
      · rw [if_neg hu]
        exact (h.s u).mono X2
    exact ⟨fun C hC E0 a E Q hs hq => ih.1 C hC E0 a ⟨E.w, E.I, upd E.ρ id none, upd E.h id (some B)⟩ Q (key hs) hq, fun body hb C hC E0 a E Q hs hq => ih.2 body hb C hC E0 a ⟨E.w, E.I, upd E.ρ id none, upd E.h id (some B)⟩ Q (key hs) hq⟩
  | call hf hb hn _ hx hr hc he hd ih =>
    intro w I cargs pb hnp hlen G0 hargs
    rename_i f fn body args pts σ x vs vs' o s1 s2 pts' _
    refine calls_of_wp hf hb ?_
    have hs0 : Sim ⟨S, w, I, pb.map (·.1)⟩ ⟨w, I, ρ0 pb, h0 pts⟩ fn.ntmps { s := s0 args, h := h0 pts } { tmps := cargs ++ Array.replicate (fn.ntmps - cargs.size) undef, defers := [] } ⟨w, I, ρ0 pb, h0 pts⟩ := by
      refine ⟨G0, rfl, fun t => ?_, by simp; omega, rfl, Ext.refl _, fun b hb => by simp [h0, hb]⟩
      show VR _ (s0 args t) _
      unfold s0
      rw [List.getD_eq_getElem?_getD, Array.getD_eq_getD_getElem?]
      by_cases ht : t < args.length
      · have := hargs t args[t] (List.getElem?_eq_getElem ht)
        rw [Array.getD_eq_getD_getElem?] at this
        rw [List.getElem?_eq_getElem ht, Array.getElem?_append_left (by omega)]
        exact this
      · rw [List.getElem?_eq_none (by omega), Array.getElem?_append_right (by omega)]
        have : (Array.replicate (fn.ntmps - cargs.size) undef)[t - cargs.size]?.getD undef = undef := by
          rw [Array.getElem?_replicate]; split <;> rfl
        rw [this]
        exact .clo (.val _)
    refine ih.1 _ rfl _ _ _ _ hs0 (fun a' E' hs' => ?_)
    have hfin : a'.defers = [] ∧ ∃ v, (results fn a'.tmps).run P E'.w = .ok v E'.w ∧ ∃ y E2, Ending.returned v = .returned y ∧ E2.w = E'.w ∧ Good ⟨S, w, I, pb.map (·.1)⟩ E2 ∧ Ext ⟨w, I, ρ0 pb, h0 pts⟩ E2 ∧ VR E2 (oneV vs') y ∧ E2.h = h1 pts' (outsOf σ.h o) ∧ (∀ b, b % 2 = 1 → E2.ρ b = ρ0 pb b) := by
      obtain ⟨xs, hrun, hxl, hrel⟩ := res_ok hs' hr
      have hE := hs'.h
      rw [← hE] at hc he
      obtain ⟨⟨tt, ht⟩, c2, c3, c4, c5⟩ := closeR_ids hs'.good hc
      have hoo := c3 (fun b hb => by simp at hb)
      have hnd := c4 List.nodup_nil
      have hX : Ext ⟨w, I, ρ0 pb, h0 pts⟩ E' := hs'.x
      obtain ⟨G2, X2⟩ := leave_ok hs'.good hX hnp hoo hnd c2 (fun b hb hm => by
        rw [List.all_eq_true] at hd
        have := hd b hb
        simp [hm] at this) he
      have hV := closeR_ok (pb := pb) (pts' := pts') (oo := o) (ss := s1 ++ s2) hs'.good hoo hc ⟨[], by simp⟩ (fun b hb => List.mem_append_left _ hb) hrel
      refine ⟨hs'.d, (if h : xs.toArray.size = 1 then xs.toArray[0] else .tuple xs.toArray), ?_, _, endEnv E' pb pts' o (s1 ++ s2), rfl, rfl, G2, X2, ?_, by rw [← hE]; rfl, fun b hb => ?_⟩
      · unfold results
        rw [Array.mapM_eq_mapM_toList]
        have hr2 := congrArg (fun (r : Result (List Value)) => Result.andThen (Result.andThen r fun l w' => .ok l.toArray w') fun (vs : Array Value) w' => Result.ok (if h : vs.size = 1 then vs[0] else .tuple vs) w') hrun
        refine Eq.trans ?_ hr2
        rw [Sem.run_bind]
        rw [show ∀ (M : Sem (List Value)), (List.toArray <$> M : Sem (Array Value)) = M >>= fun l => pure l.toArray from fun _ => rfl, Sem.run_bind]
        rfl
      · cases hvs : vs' with
        | nil =>
          have : xs = [] := List.eq_nil_of_length_eq_zero (by rw [hxl, ← c5, hvs]; rfl)
          subst this
          exact .tup _ _ rfl (fun j c hj => by simp at hj)
        | cons v1 rest =>
          cases rest with
          | nil =>
            have h1 : xs.length = 1 := by rw [hxl, ← c5, hvs]; rfl
            obtain ⟨x1, rfl⟩ := List.length_eq_one_iff.1 h1
            have := hV 0 v1 (by rw [hvs]; rfl)
            simpa [oneV] using this
          | cons v2 rest =>
            have h1 : ¬ xs.length = 1 := by rw [hxl, ← c5, hvs]; simp
            have e : (if h : xs.toArray.size = 1 then xs.toArray[0] else Value.tuple xs.toArray) = .tuple xs.toArray := by
              rw [dif_neg (by simpa using h1)]
            rw [e]
            refine .tup _ _ (by simp [hxl, ← c5, hvs]) (fun j c hj => ?_)
            have := hV j c (by rw [hvs]; exact hj)
            simpa using this
      · show (if b % 2 = 1 then _ else _) = _
        rw [if_pos hb]
    rcases hx with rfl | rfl
    · exact hfin
    · exact hfin
  | wk hl hL _ ih =>
    intro w I cargs pb hnp hlen G0 hargs
    exact ih w I cargs pb hnp (by rw [hlen, hl]) G0 (fun j v' hj => by
      obtain ⟨v, hv, hLv⟩ := hL j v' hj
      exact hLv.vr (hargs j v hv))
  | known h => exact hX _ _ _ _ _ _ h
end Go.Ai
