/- A part of the proof: what the program does, step by step, over values without addresses. No conditions of mine. -/
import Derived.Test.YtadfohbogoocgaaGreatDoorCoreAiRtoAiZ
set_option linter.unusedVariables false
set_option linter.unusedSimpArgs false
namespace Go.Ai
open Go Go.RowKit
variable {C : Cfg} {P : Program} {E : Env}

theorem mem_upsPt {hr : Nat → Option Blk} {p : Prep} {pts' : List (Nat × List V)} {b : Nat} {k' : Blk} (h : (b, k') ∈ upsPt hr p pts') :
    ∃ (j : Nat) (q : Nat × Nat × List V) (q' : Nat × List V) (k : Blk), p.pts[j]? = some q ∧ pts'[j]? = some q' ∧ q.1 = b ∧ hr b = some k ∧ k' = { k with es := [q'.2], cl := true } := by
  unfold upsPt at h
  simp only [List.mem_filterMap, Option.map_eq_some_iff, Prod.mk.injEq] at h
  obtain ⟨⟨q, q'⟩, hz, k, hk, rfl, rfl⟩ := h
  obtain ⟨j, hj⟩ := List.getElem?_of_mem hz
  rw [List.getElem?_zip_eq_some] at hj
  exact ⟨j, q, q', k, hj.1, hj.2, rfl, hk, rfl⟩
theorem upsPt_mem {hr : Nat → Option Blk} {p : Prep} {pts' : List (Nat × List V)} {j : Nat} {q : Nat × Nat × List V} {q' : Nat × List V} {k : Blk} (h1 : p.pts[j]? = some q) (h2 : pts'[j]? = some q') (hk : hr q.1 = some k) :
    (q.1, ({ k with es := [q'.2], cl := true } : Blk)) ∈ upsPt hr p pts' := by
  unfold upsPt
  simp only [List.mem_filterMap, Option.map_eq_some_iff, Prod.mk.injEq]
  exact ⟨(q, q'), List.mem_of_getElem? (i := j) (by rw [List.getElem?_zip_eq_some]; exact ⟨h1, h2⟩), k, hk, rfl, rfl⟩
theorem mem_upsSn {hr : Nat → Option Blk} {p : Prep} {b : Nat} {k' : Blk} (h : (b, k') ∈ upsSn hr p) : b ∈ p.snaps ∧ ∃ k, hr b = some k ∧ k' = { k with wr := false } := by
  unfold upsSn at h
  simp only [List.mem_filterMap, Option.map_eq_some_iff, Prod.mk.injEq] at h
  obtain ⟨c, hc, k, hk, rfl, rfl⟩ := h
  exact ⟨hc, k, hk, rfl⟩
theorem upsSn_mem {hr : Nat → Option Blk} {p : Prep} {b : Nat} {k : Blk} (hb : b ∈ p.snaps) (hk : hr b = some k) : (b, ({ k with wr := false } : Blk)) ∈ upsSn hr p := by
  unfold upsSn
  simp only [List.mem_filterMap, Option.map_eq_some_iff, Prod.mk.injEq]
  exact ⟨b, hb, k, hk, rfl, rfl⟩

/-- A block that nobody names yet. -/
structure Adoptable (C : Cfg) (E : Env) (B : Blk) (g cap : Nat) : Prop where
  lt : g < E.w.heap.size
  wr : B.wr = true
  there : ∀ j, j < cap → (E.w.cell? ⟨g, j, none⟩).isSome = true
  free : Free E.w g
  len : ∀ e ∈ B.es, e.length = B.sz
  fit : B.es.length * B.sz ≤ cap
  cells : ∀ i j e c, B.es[i]? = some e → e[j]? = some c → (∃ x, E.w.cell? ⟨g, i * B.sz + j, none⟩ = some x ∧ CR E.w E.I c x) ∧ cellOk c = true ∧ clo0 c = true
  im : ¬ E.I g
  new : ∀ b c, E.ρ b ≠ some (g, c)
  base : C.w0.heap.size ≤ g
  nj : ∀ b, ¬ E.J b g

theorem Good.adopt (G : Good C E) {id : Nat} (hid : id % 2 = 0) {B : Blk} {g cap : Nat} (hv : B.ver = nextVer E.h id) (A : Adoptable C E B g cap) :
    Good C ⟨E.w, E.I, E.J, upd E.ρ id (some (g, cap)), upd E.h id (some B)⟩ ∧ Ext E ⟨E.w, E.I, E.J, upd E.ρ id (some (g, cap)), upd E.h id (some B)⟩ := by
  refine G.change (E' := ⟨E.w, E.I, E.J, upd E.ρ id (some (g, cap)), upd E.h id (some B)⟩) (fun b => b = id) (fun _ => False) rfl rfl (fun b hb => by simp [upd, hb]) (fun _ h => h.elim) (Nat.le_refl _) (fun _ _ _ => rfl) ?_ ?_ ?_ ?_ ?_ ?_ ?_ rfl rfl rfl
  · rintro b k rfl hk
    have := nextVer_ge hk
    exact ⟨B, by simp [upd], by omega, fun e => by omega⟩
  · rintro X b k rfl hk
    simp only [upd, if_true] at hk
    obtain rfl := Option.some.inj hk
    exact .inr ⟨g, cap, by simp [upd], A.lt, A.there, fun _ => A.free, A.len, A.fit, fun i j e c he hj => by
      obtain ⟨⟨x, h1, h2⟩, h3, h4⟩ := A.cells i j e c he hj
      exact ⟨⟨x, h1, .clo h2⟩, h3, fun _ => h4⟩, fun _ => A.im, fun h => by rw [A.wr] at h; cases h⟩
  · rintro b b' g' c c' rfl h1 h2
    simp only [upd, if_true, Option.some.injEq, Prod.mk.injEq] at h1
    by_cases hb : b' = b
    · exact hb.symm
    · simp only [upd, hb, if_false] at h2
      rw [← h1.1] at h2
      exact absurd h2 (A.new b' c')
  · rintro b g' c rfl h1
    simp only [upd, if_true, Option.some.injEq, Prod.mk.injEq] at h1
    exact .inr ⟨by rw [← h1.1]; exact A.base, hid⟩
  · rintro b rfl _; simp [upd]
  · rintro b g' c rfl h1
    simp only [upd, if_true, Option.some.injEq, Prod.mk.injEq] at h1
    have := A.base
    have := G.lo0
    omega
  · rintro b g' c rfl h1 b' hj
    simp only [upd, if_true, Option.some.injEq, Prod.mk.injEq] at h1
    rw [← h1.1] at hj
    exact A.nj b' hj

/-- A block that lies nowhere. -/
theorem Good.nowhere (G : Good C E) {id : Nat} {B : Blk} (hv : B.ver = nextVer E.h id) (he : B.es = []) :
    Good C ⟨E.w, E.I, E.J, upd E.ρ id none, upd E.h id (some B)⟩ ∧ Ext E ⟨E.w, E.I, E.J, upd E.ρ id none, upd E.h id (some B)⟩ := G.empty id B hv he

theorem newId_inj {site i j : Nat} (h : newId site i = newId site j) : i = j := by unfold newId at h; omega

/-- What was handed back takes names in the caller. -/
theorem outs_ok {site : Nat} {hr : Nat → Option Blk} : ∀ (outs : List Blk) (j : Nat) {E : Env} (pos : Nat → Option (Nat × Nat)), Good C E → (∀ i, j ≤ i → i < j + outs.length → nextVer hr (newId site i) = nextVer E.h (newId site i)) →
    (∀ (i : Nat) B, outs[i]? = some B → match pos (j + i) with
      | none => B.es = []
      | some (g, cap) => Adoptable C E B g cap) →
    (∀ i i' g c c', pos i = some (g, c) → pos i' = some (g, c') → i = i') →
    ∃ ρ', Good C ⟨E.w, E.I, E.J, ρ', updAll E.h (upsOut site hr outs j)⟩ ∧ Ext E ⟨E.w, E.I, E.J, ρ', updAll E.h (upsOut site hr outs j)⟩ ∧
      ∀ (i : Nat) B, outs[i]? = some B → updAll E.h (upsOut site hr outs j) (newId site (j + i)) = some { B with ver := nextVer hr (newId site (j + i)) } ∧ ρ' (newId site (j + i)) = pos (j + i)
  | [], j, E, pos, G, _, _, _ => ⟨E.ρ, G, Ext.refl E, fun i B h => by simp at h⟩
  | B :: l, j, E, pos, G, hnv, hA, hinj => by
    have hB := hA 0 B rfl
    simp only [Nat.add_zero] at hB
    have hmid : ∃ r : Option (Nat × Nat), r = pos j ∧ Good C ⟨E.w, E.I, E.J, upd E.ρ (newId site j) r, upd E.h (newId site j) (some { B with ver := nextVer hr (newId site j) })⟩ ∧
        Ext E ⟨E.w, E.I, E.J, upd E.ρ (newId site j) r, upd E.h (newId site j) (some { B with ver := nextVer hr (newId site j) })⟩ := by
      cases hp : pos j with
      | none =>
        rw [hp] at hB
        exact ⟨none, rfl, G.nowhere (hnv j (Nat.le_refl _) (by simp)) hB⟩
      | some gc =>
        obtain ⟨g, c⟩ := gc
        rw [hp] at hB
        have hB : Adoptable C E B g c := hB
        exact ⟨some (g, c), rfl, G.adopt (newId_even _ _) (B := { B with ver := nextVer hr (newId site j) }) (hnv j (Nat.le_refl _) (by simp)) ⟨hB.lt, hB.wr, hB.there, hB.free, hB.len, hB.fit, hB.cells, hB.im, hB.new, hB.base, hB.nj⟩⟩
    obtain ⟨r, hr0, G1, X1⟩ := hmid
    have ih := outs_ok (site := site) (hr := hr) l (j + 1) (E := ⟨E.w, E.I, E.J, upd E.ρ (newId site j) r, upd E.h (newId site j) (some { B with ver := nextVer hr (newId site j) })⟩) pos G1 (fun i hi hi2 => by
        rw [hnv i (by omega) (by simp; omega)]
        unfold nextVer
        have : newId site i ≠ newId site j := fun h => by have := newId_inj h; omega
        simp [upd, this]) (fun i B' hB' => by
        have := hA (i + 1) B' (by simpa using hB')
        rw [show j + (i + 1) = j + 1 + i by omega] at this
        cases hp : pos (j + 1 + i) with
        | none => rw [hp] at this; exact this
        | some gc =>
          obtain ⟨g, c⟩ := gc
          rw [hp] at this
          have this : Adoptable C E B' g c := this
          refine ⟨this.lt, this.wr, this.there, this.free, this.len, this.fit, this.cells, this.im, fun b c' h => ?_, this.base, this.nj⟩
          simp only [upd] at h
          split at h
          · rw [hr0] at h
            have := hinj _ _ _ _ _ h hp
            omega
          · exact this.new b c' h) hinj
    obtain ⟨ρ', G2, X2, hlast⟩ := ih
    refine ⟨ρ', G2, X1.trans X2, fun i B' hB' => ?_⟩
    cases i with
    | succ i =>
      have := hlast i B' (by simpa using hB')
      rw [show j + 1 + i = j + (i + 1) by omega] at this
      exact this
    | zero =>
      simp at hB'; subst hB'
      simp only [Nat.add_zero]
      have hother : newId site j ∉ (upsOut site hr l (j + 1)).map (·.1) := by
        have : ∀ (l : List Blk) (m : Nat), j < m → newId site j ∉ (upsOut site hr l m).map (·.1) := by
          intro l
          induction l with
          | nil => intro m _; simp [upsOut]
          | cons B l ih =>
            intro m hm
            simp only [upsOut, List.map_cons, List.mem_cons, not_or]
            exact ⟨fun h => by have := newId_inj h; omega, ih (m + 1) (by omega)⟩
        exact this l (j + 1) (by omega)
      have hval : updAll (upd E.h (newId site j) (some { B with ver := nextVer hr (newId site j) })) (upsOut site hr l (j + 1)) (newId site j) = some { B with ver := nextVer hr (newId site j) } := by
        rw [updAll_other _ _ _ hother]; simp [upd]
      refine ⟨hval, ?_⟩
      obtain ⟨k', hk', _, heq⟩ := X2.h (newId site j) { B with ver := nextVer hr (newId site j) } (by simp [upd])
      have hk'' : k' = { B with ver := nextVer hr (newId site j) } := by
        have : updAll (upd E.h (newId site j) (some { B with ver := nextVer hr (newId site j) })) (upsOut site hr l (j + 1)) (newId site j) = some k' := hk'
        rw [hval] at this
        exact (Option.some.inj this).symm
      have h3 : ρ' (newId site j) = upd E.ρ (newId site j) r (newId site j) := (heq (by rw [hk''])).2
      rw [h3]
      simp [upd, hr0]
end Go.Ai

namespace Go.Ai
open Go Go.RowKit
variable {C : Cfg} {P : Program} {E : Env}

theorem callee_even {E' : Env} {pts' : List (Nat × List V)} {outs : List Blk} (hh : E'.h = h1 pts' outs) (i : Nat) : E'.h (2 * i) = outs[i]? := by
  rw [hh]; unfold h1
  rw [if_neg (by omega), show 2 * i / 2 = i by omega]
theorem callee_odd {E' : Env} {pts' : List (Nat × List V)} {outs : List Blk} (hh : E'.h = h1 pts' outs) (i : Nat) : E'.h (2 * i + 1) = (pts'[i]?).map ptBlk := by
  rw [hh]; unfold h1
  rw [if_pos (by omega), show (2 * i + 1) / 2 = i by omega]

structure Came (C : Cfg) (E E' : Env) (site : Nat) (hr : Nat → Option Blk) (p : Prep) (res : V) (pts' : List (Nat × List V)) (outs : List Blk) : Prop where
  good : Good ⟨C.S, E.w, snapI E p, (pbOf E p).map (·.1)⟩ E'
  ext : Ext ⟨E.w, snapI E p, noJ, ρ0 (pbOf E p), h0 (ptsOf p)⟩ E'
  h : E'.h = h1 pts' outs
  ρ : ∀ b, b % 2 = 1 → E'.ρ b = ρ0 (pbOf E p) b
  np : pts'.length = p.pts.length
  pt : ∀ (j : Nat) q, p.pts[j]? = some q → ∃ k e g c, (E.h q.1 = some k ∧ hr q.1 = some k) ∧ k.wr = true ∧ k.es = [e] ∧ q.2.1 = k.sz ∧ E.ρ q.1 = some (g, c)
  sn : ∀ b ∈ p.snaps, b % 2 = 0 ∧ hr b ≠ none
  sub : ∀ b k, hr b = some k → E.h b = some k
  ok : prepOk site p = true

theorem Came.pbget {E' : Env} {site : Nat} {hr : Nat → Option Blk} {p : Prep} {res : V} {pts' : List (Nat × List V)} {outs : List Blk} (K : Came C E E' site hr p res pts' outs) {j : Nat} {q : Nat × Nat × List V} (hq : p.pts[j]? = some q) :
    E'.ρ (2 * j + 1) = E.ρ q.1 := by
  obtain ⟨k, e, g, c, _, _, _, _, t5⟩ := K.pt j q hq
  rw [K.ρ _ (by omega)]
  unfold ρ0
  rw [if_pos (by omega), show (2 * j + 1) / 2 = j by omega]
  simp [pbOf, hq, t5]

theorem Came.mempb {E' : Env} {site : Nat} {hr : Nat → Option Blk} {p : Prep} {res : V} {pts' : List (Nat × List V)} {outs : List Blk} (K : Came C E E' site hr p res pts' outs) {g : Nat} (hg : g ∈ (pbOf E p).map (·.1)) :
    ∃ (j : Nat) (q : Nat × Nat × List V) (c : Nat), p.pts[j]? = some q ∧ E.ρ q.1 = some (g, c) := by
  simp only [pbOf, List.map_map, List.mem_map, Function.comp] at hg
  obtain ⟨q, hq, rfl⟩ := hg
  obtain ⟨j, hj⟩ := List.getElem?_of_mem hq
  obtain ⟨k, e, g, c, _, _, _, _, t5⟩ := K.pt j q hj
  exact ⟨j, q, c, hj, by rw [t5]; rfl⟩

/-- Back from the function: its variables hold what it left in them. -/
theorem stepA_ok (G : Good C E) {E' : Env} {site : Nat} {hr : Nat → Option Blk} {p : Prep} {res : V} {pts' : List (Nat × List V)} {outs : List Blk} (K : Came C E E' site hr p res pts' outs) (sf : Bool) (hsf : sf = true → pts'.all (fun q => q.2.all ns0) = true) :
    Good C ⟨E'.w, (if sf then E.I else E'.I), E.J, E.ρ, updAll E.h (upsPt hr p pts' ++ if sf then [] else upsSn hr p)⟩ ∧
    Ext E ⟨E'.w, (if sf then E.I else E'.I), E.J, E.ρ, updAll E.h (upsPt hr p pts' ++ if sf then [] else upsSn hr p)⟩ := by
  have hok := K.ok
  simp only [prepOk, Bool.and_eq_true, List.all_eq_true, Bool.not_eq_true', List.contains_eq_mem, decide_eq_false_iff_not, decide_eq_true_eq] at hok
  obtain ⟨ok1, ok2⟩ := hok
  have hEI : ∀ g, E.I g → E'.I g := fun g h => K.ext.I g (.inl h)
  have hI2 : ∀ g, E.I g → (if sf then E.I else E'.I) g := by intro g h; cases sf <;> simp [h, hEI]
  have hI3 : ∀ g, (if sf then E.I else E'.I) g → E'.I g := by intro g h; cases sf <;> simp at h <;> first | exact h | exact hEI g h
  have hsize : E.w.heap.size ≤ E'.w.heap.size := K.good.size
  have hframe : ∀ g, g < E.w.heap.size → (∀ (j : Nat) q c, p.pts[j]? = some q → E.ρ q.1 ≠ some (g, c)) → E'.w.heap[g]? = E.w.heap[g]? := fun g h1 h2 =>
    K.good.frame g h1 (fun hm => by obtain ⟨j, q, c, hq, hr⟩ := K.mempb hm; exact h2 j q c hq hr)
  -- the blocks' new sights
  have hsame : ∀ b, (∀ (j : Nat) q, p.pts[j]? = some q → q.1 ≠ b) → (sf = true ∨ b ∉ p.snaps) → updAll E.h (upsPt hr p pts' ++ if sf then [] else upsSn hr p) b = E.h b := by
    intro b h1 h2
    refine updAll_other _ _ _ (fun hm => ?_)
    obtain ⟨⟨b', k'⟩, hmem, rfl⟩ := List.mem_map.1 hm
    rcases List.mem_append.1 hmem with hmem | hmem
    · obtain ⟨j, q, _, _, hq, _, e, _⟩ := mem_upsPt hmem
      exact h1 j q hq e
    · rcases h2 with rfl | h2
      · simp at hmem
      · cases sf with
        | true => simp at hmem
        | false => exact h2 (mem_upsSn hmem).1
  have hpt : ∀ (j : Nat) q q' k, p.pts[j]? = some q → pts'[j]? = some q' → hr q.1 = some k → updAll E.h (upsPt hr p pts' ++ if sf then [] else upsSn hr p) q.1 = some { k with es := [q'.2], cl := true } := by
    intro j q q' k hq hq' hk
    refine updAll_val (fun k' hmem => ?_) (.inl ?_)
    · rcases List.mem_append.1 hmem with hmem | hmem
      · obtain ⟨j2, q2, q2', k2, e1, e2, e3, e4, e5⟩ := mem_upsPt hmem
        have : j2 = j := nodup_get ok2 (x := q.1) (by simp [e1, e3]) (by simp [hq])
        subst this
        rw [hq] at e1; rw [hq'] at e2; rw [hk] at e4
        obtain rfl := Option.some.inj e1
        obtain rfl := Option.some.inj e2
        obtain rfl := Option.some.inj e4
        exact e5
      · cases sf with
        | true => simp at hmem
        | false => exact absurd (mem_upsSn hmem).1 (ok1 q (List.mem_of_getElem? hq)).1
    · rw [List.map_append]
      exact List.mem_append_left _ (List.mem_map.2 ⟨_, upsPt_mem hq hq' hk, rfl⟩)
  have hsn : sf = false → ∀ b k, b ∈ p.snaps → hr b = some k → updAll E.h (upsPt hr p pts' ++ if sf then [] else upsSn hr p) b = some { k with wr := false } := by
    rintro rfl b k hb hk
    refine updAll_val (fun k' hmem => ?_) (.inl ?_)
    · rcases List.mem_append.1 hmem with hmem | hmem
      · obtain ⟨j2, q2, q2', k2, e1, e2, e3, e4, e5⟩ := mem_upsPt hmem
        exact absurd (by rw [e3]; exact hb) (ok1 q2 (List.mem_of_getElem? e1)).1
      · obtain ⟨_, k2, h2, h3⟩ := mem_upsSn hmem
        rw [hk] at h2
        obtain rfl := Option.some.inj h2
        exact h3
    · rw [List.map_append]
      exact List.mem_append_right _ (List.mem_map.2 ⟨_, upsSn_mem hb hk, rfl⟩)
  have X : Ext E ⟨E'.w, (if sf then E.I else E'.I), E.J, E.ρ, updAll E.h (upsPt hr p pts' ++ if sf then [] else upsSn hr p)⟩ := by
    refine ⟨hI2, fun g o hg => ?_, fun b k hk => ?_, fun b k k' _ _ _ => ⟨fun g h => h, fun g o h => World.cell?_of_block (a := ⟨g, o, none⟩) (hframe g (G.j b g h).1 (fun j q c _ hr => (G.j b g h).2.2.2.2.1 _ _ hr))⟩⟩
    · refine World.cell?_of_block (a := ⟨g, o, none⟩) (hframe g (G.iold g hg) (fun j q c hq hr => ?_))
      obtain ⟨k, e, g', c', t1, t2, t3, t4, t5⟩ := K.pt j q hq
      rcases G.blk _ k t1.1 with ⟨h0, _⟩ | ⟨g2, cap2, h1, _, _, _, _, _, _, h8, _⟩
      · rw [h0] at hr; cases hr
      · rw [h1] at hr; obtain ⟨rfl, rfl⟩ := Prod.mk.inj (Option.some.inj hr); exact h8 t2 hg
    · by_cases hp : ∃ (j : Nat) (q : Nat × Nat × List V), p.pts[j]? = some q ∧ q.1 = b
      · obtain ⟨j, q, hq, rfl⟩ := hp
        obtain ⟨k2, e, g', c', t1, t2, t3, t4, t5⟩ := K.pt j q hq
        rw [hk] at t1
        obtain rfl := Option.some.inj t1.1
        have hj : j < pts'.length := by rw [K.np]; exact (List.getElem?_eq_some_iff.1 hq).1
        exact ⟨_, hpt j q pts'[j] k hq (List.getElem?_eq_getElem hj) t1.2, Nat.le_refl _, fun _ => ⟨rfl, rfl⟩⟩
      · have hnp : ∀ (j : Nat) q, p.pts[j]? = some q → q.1 ≠ b := fun j q hq h => hp ⟨j, q, hq, h⟩
        by_cases hs : sf = true ∨ b ∉ p.snaps
        · exact ⟨k, by rw [← hk]; exact hsame b hnp hs, Nat.le_refl _, fun _ => ⟨rfl, rfl⟩⟩
        · have hs1 : sf = false := by cases sf with | true => exact absurd (.inl rfl) hs | false => rfl
          have hs2 : b ∈ p.snaps := Classical.byContradiction fun h => hs (.inr h)
          obtain ⟨k2, hk2⟩ := Option.ne_none_iff_exists'.1 (K.sn b hs2).2
          have := K.sub b k2 hk2
          rw [hk] at this
          obtain rfl := Option.some.inj this
          exact ⟨_, hsn hs1 b k hs2 hk2, Nat.le_refl _, fun _ => ⟨rfl, rfl⟩⟩
  refine ⟨⟨fun b k hk => ?_, G.inj, fun g hg => K.good.iold g (hI3 g hg), fun g hg => ?_, G.own, fun b hb => ?_, K.good.os.trans G.os, K.good.tape.trans G.tape, K.good.output.trans G.output, Nat.le_trans G.size hsize, fun g h1 h2 => ?_, G.lo, G.lo0, K.good.u, fun b g hj => ?_⟩, X⟩
  · have hk : updAll E.h (upsPt hr p pts' ++ if sf then [] else upsSn hr p) b = some k := hk
    by_cases hp : ∃ (j : Nat) (q : Nat × Nat × List V), p.pts[j]? = some q ∧ q.1 = b
    · obtain ⟨j, q, hq, rfl⟩ := hp
      obtain ⟨k2, e, g, c, t1, t2, t3, t4, t5⟩ := K.pt j q hq
      have hj : j < pts'.length := by rw [K.np]; exact (List.getElem?_eq_some_iff.1 hq).1
      have hq' : pts'[j]? = some pts'[j] := List.getElem?_eq_getElem hj
      rw [hpt j q pts'[j] k2 hq hq' t1.2] at hk
      obtain rfl := Option.some.inj hk
      have hB := K.good.blk (2 * j + 1) (ptBlk pts'[j]) (by rw [callee_odd K.h, hq']; rfl)
      have hsz : pts'[j].1 = k2.sz := by
        obtain ⟨k', hk', _, heq⟩ := K.ext.h (2 * j + 1) (ptBlk q.2) (by simp [h0, ptsOf, hq, show (2 * j + 1) / 2 = j by omega])
        have : k' = ptBlk pts'[j] := by
          have h2 := hk'
          rw [callee_odd K.h, hq'] at h2
          exact (Option.some.inj h2).symm
        rw [this] at heq
        have := (heq rfl).1
        simp only [ptBlk] at this
        omega
      rcases hB with ⟨h0', _⟩ | ⟨g', cap', b1, b2, b3, b4, b5, b6, b7, b8, b9⟩
      · rw [K.pbget hq, t5] at h0'; cases h0'
      rw [K.pbget hq] at b1
      refine .inr ⟨g', cap', b1, b2, b3, fun _ => b4 rfl, ?_, ?_, fun i j' e' c' he' hj' => ?_, fun _ hI => b8 rfl (hI3 _ hI), fun h => by rw [show ({ k2 with es := [pts'[j].2], cl := true } : Blk).wr = k2.wr from rfl, t2] at h; cases h⟩
      · intro e' he'
        have := b5 e' he'
        simp only [ptBlk] at this
        show e'.length = k2.sz
        omega
      · have := b6
        simp only [ptBlk, hsz] at this
        exact this
      · have := b7 i j' e' c' he' hj'
        simp only [ptBlk, hsz] at this
        obtain ⟨⟨x, hx1, hx2⟩, hx3, hx4⟩ := this
        refine ⟨⟨x, hx1, ?_⟩, hx3, fun _ => hx4 trivial⟩
        cases sf with
        | false =>
          have h5 : CR E'.w E'.I c' x := clo0_cr hx2 (hx4 trivial)
          exact .clo h5
        | true =>
          have hns := hsf rfl
          rw [List.all_eq_true] at hns
          have hns := hns _ (List.mem_of_getElem? hq')
          rw [List.all_eq_true] at hns
          have hmem : c' ∈ pts'[j].2 := by
            cases i with
            | zero => simp at he'; subst he'; exact List.mem_of_getElem? hj'
            | succ i => simp at he'
          exact ns0_vr (hns _ hmem) hx2
    · have hnp : ∀ (j : Nat) q, p.pts[j]? = some q → q.1 ≠ b := fun j q hq h => hp ⟨j, q, hq, h⟩
      -- its memory stands as it was
      have hmem : ∀ g c, E.ρ b = some (g, c) → g < E.w.heap.size → E'.w.heap[g]? = E.w.heap[g]? := fun g c hr hlt => hframe g hlt (fun j q c' hq hr' => by
        have := G.inj _ _ _ _ _ hr hr'
        exact hnp j q hq this.symm)
      have hstand : ∀ k0, E.h b = some k0 → BR ⟨E'.w, (if sf then E.I else E'.I), E.J, E.ρ, updAll E.h (upsPt hr p pts' ++ if sf then [] else upsSn hr p)⟩ b { k0 with wr := k.wr } ∨ ¬ ((k.wr = true → k0.wr = true ∧ ∀ g c, E.ρ b = some (g, c) → ¬ (if sf then E.I else E'.I) g) ∧ (k.wr = false → ∀ g c, E.ρ b = some (g, c) → (if sf then E.I else E'.I) g)) := by
        intro k0 hk0
        by_cases hcond : ((k.wr = true → k0.wr = true ∧ ∀ g c, E.ρ b = some (g, c) → ¬ (if sf then E.I else E'.I) g) ∧ (k.wr = false → ∀ g c, E.ρ b = some (g, c) → (if sf then E.I else E'.I) g))
        · left
          rcases G.blk b k0 hk0 with h0' | ⟨g, cap, b1, b2, b3, b4, b5, b6, b7, b8, b9⟩
          · exact .inl h0'
          · have hb := hmem g cap b1 b2
            have hcell : ∀ o, E'.w.cell? ⟨g, o, none⟩ = E.w.cell? ⟨g, o, none⟩ := fun o => World.cell?_of_block (a := ⟨g, o, none⟩) hb
            have hfrz : ∀ o, E'.w.frozen? ⟨g, o, none⟩ = E.w.frozen? ⟨g, o, none⟩ := fun o => World.frozen?_of_block (a := ⟨g, o, none⟩) hb
            refine .inr ⟨g, cap, b1, Nat.lt_of_lt_of_le b2 hsize, fun j hj => by rw [hcell]; exact b3 j hj, fun hw j hj => by rw [hfrz]; have hj : (E'.w.cell? ⟨g, j, none⟩).isSome = true := hj; rw [hcell] at hj; exact b4 (hcond.1 hw).1 j hj, b5, b6, fun i j e c he hj => ?_, fun hw => (hcond.1 hw).2 g cap b1, fun hw => hcond.2 hw g cap b1⟩
            obtain ⟨⟨x, hx1, hx2⟩, hx3⟩ := b7 i j e c he hj
            exact ⟨⟨x, by rw [hcell]; exact hx1, hx2.mono X⟩, hx3⟩
        · exact .inr hcond
      by_cases hs : sf = true ∨ b ∉ p.snaps
      · rw [hsame b hnp hs] at hk
        rcases hstand k hk with h | h
        · exact h
        · exfalso
          apply h
          rcases G.blk b k hk with ⟨h0', _⟩ | ⟨g, cap, b1, b2, b3, b4, b5, b6, b7, b8, b9⟩
          · exact ⟨fun hw => ⟨hw, fun g c hr => by rw [h0'] at hr; cases hr⟩, fun _ g c hr => by rw [h0'] at hr; cases hr⟩
          · refine ⟨fun hw => ⟨hw, fun g2 c2 hr hI => ?_⟩, fun hw g2 c2 hr => ?_⟩
            · rw [b1] at hr; obtain ⟨rfl, rfl⟩ := Prod.mk.inj (Option.some.inj hr)
              have hEg := b8 hw
              cases sf with
              | true => exact hEg hI
              | false =>
                have hI : E'.I g := hI
                have hs2 : b ∉ p.snaps := hs.resolve_left (by simp)
                rcases K.good.isub g hI with h | h
                · rcases h with h | ⟨b', hb', n, hr'⟩
                  · exact hEg h
                  · have := G.inj _ _ _ _ _ b1 hr'; subst this; exact hs2 hb'
                · have h : E.w.heap.size ≤ g := h.1
                  omega
            · rw [b1] at hr; obtain ⟨rfl, rfl⟩ := Prod.mk.inj (Option.some.inj hr)
              exact hI2 g (b9 hw)
      · have hs1 : sf = false := by cases sf with | true => exact absurd (.inl rfl) hs | false => rfl
        have hs2 : b ∈ p.snaps := Classical.byContradiction fun h => hs (.inr h)
        obtain ⟨k2, hk2⟩ := Option.ne_none_iff_exists'.1 (K.sn b hs2).2
        have hk0 := K.sub b k2 hk2
        rw [hsn hs1 b k2 hs2 hk2] at hk
        obtain rfl := Option.some.inj hk
        rcases hstand k2 hk0 with h | h
        · exact h
        · exfalso
          apply h
          refine ⟨(fun hw => by cases hw), fun _ g c hr => ?_⟩
          subst hs1
          exact K.ext.I g (.inr ⟨b, hs2, c, hr⟩)
  · have hFree : ∀ g, g < E.w.heap.size → Free E.w g → Free E'.w g := by
      intro g hlt hf
      by_cases hp : ∃ (j : Nat) (q : Nat × Nat × List V) (c : Nat), p.pts[j]? = some q ∧ E.ρ q.1 = some (g, c)
      · obtain ⟨j, q, c, hq, hr⟩ := hp
        have hj : j < pts'.length := by rw [K.np]; exact (List.getElem?_eq_some_iff.1 hq).1
        have hq' : pts'[j]? = some pts'[j] := List.getElem?_eq_getElem hj
        rcases K.good.blk (2 * j + 1) (ptBlk pts'[j]) (by rw [callee_odd K.h, hq']; rfl) with ⟨h0', _⟩ | ⟨g', cap', b1, b2, b3, b4, _⟩
        · rw [K.pbget hq, hr] at h0'; cases h0'
        · rw [K.pbget hq, hr] at b1
          obtain ⟨rfl, rfl⟩ := Prod.mk.inj (Option.some.inj b1)
          exact b4 rfl
      · have hb := hframe g hlt (fun j q c' hq hr' => hp ⟨j, q, c', hq, hr'⟩)
        intro o ho
        rw [World.frozen?_of_block (a := ⟨g, o, none⟩) hb]
        rw [World.cell?_of_block (a := ⟨g, o, none⟩) hb] at ho
        exact hf o ho
    have hold : ∀ g, E.I g → C.I0 g ∨ (C.w0.heap.size ≤ g ∧ Free E'.w g) := fun g h => by
      rcases G.isub g h with h' | ⟨h1, h2⟩
      · exact .inl h'
      · exact .inr ⟨h1, hFree g (G.iold g h) h2⟩
    rcases K.good.isub g (hI3 g hg) with h | h
    · rcases h with h | ⟨b, hb, n, hr⟩
      · exact hold g h
      · obtain ⟨k, hk⟩ := Option.ne_none_iff_exists'.1 (G.has b (by rw [hr]; simp))
        rcases G.blk b k hk with ⟨h0', _⟩ | ⟨g', cap', b1, b2, b3, b4, b5, b6, b7, b8, b9⟩
        · rw [h0'] at hr; cases hr
        · rw [b1] at hr; obtain ⟨rfl, rfl⟩ := Prod.mk.inj (Option.some.inj hr)
          cases hw : k.wr with
          | false => exact hold _ (b9 hw)
          | true =>
            rcases G.own b _ _ b1 with ⟨j, hj, _⟩ | ⟨hge, _⟩
            · have := (K.sn b hb).1; omega
            · exact .inr ⟨hge, hFree _ b2 (b4 hw)⟩
    · exact .inr ⟨Nat.le_trans G.size h.1, h.2⟩
  · obtain ⟨k, hk⟩ := Option.ne_none_iff_exists'.1 (G.has b hb)
    obtain ⟨k', hk', _⟩ := X.h b k hk
    rw [hk']; simp
  · rw [hframe g (Nat.lt_of_lt_of_le h1 G.size) ?_]
    · exact G.frame g h1 h2
    · intro j q c hq hr
      rcases G.own _ _ _ hr with ⟨j', _, hj'⟩ | ⟨hge, _⟩
      · exact h2 (List.mem_of_getElem? hj')
      · omega
  · obtain ⟨j1, j2, j3, j4, j5, j6⟩ := G.j b g hj
    refine ⟨Nat.lt_of_lt_of_le j1 hsize, j2, j3.of_block (hframe g j1 (fun j q c _ hr => j5 _ _ hr)), fun hI => ?_, j5, j6⟩
    rcases K.good.isub g (hI3 g hI) with h | h
    · rcases h with h | ⟨b', _, n, hr⟩
      · exact j4 h
      · exact j5 _ _ hr
    · have h : E.w.heap.size ≤ g := h.1
      omega

end Go.Ai

namespace Go.Ai
open Go Go.RowKit
variable {C : Cfg} {P : Program} {E : Env}

def outsOk (res : V) (outs : List Blk) : Bool := outs.all (fun B => B.ver == 0 && B.wr && B.cl) && decide (outs.length ≤ 4) && resOk outs.length res

theorem rn0_ns {site : Nat} {hr : Nat → Option Blk} {v : V} (h : ns1 v = true) : rn0 site hr v = v := by
  cases v <;> first | rfl | cases h
theorem rn_ns {site : Nat} {hr : Nat → Option Blk} {v : V} (h : ns2 v = true) : rn site hr v = v := by
  cases v with
  | tup vs =>
    simp only [ns2, List.all_eq_true] at h
    simp only [rn]
    congr 1
    have : ∀ l : List V, (∀ x ∈ l, ns1 x = true) → l.map (rn0 site hr) = l := by
      intro l
      induction l with
      | nil => intro _; rfl
      | cons x l ih => intro hl; rw [List.map_cons, rn0_ns (hl x (by simp)), ih (fun y hy => hl y (by simp [hy]))]
    exact this vs h
  | _ => first | rfl | cases h

theorem back_ok (G : Good C E) {E' : Env} {site : Nat} {hr : Nat → Option Blk} {p : Prep} {res : V} {pts' : List (Nat × List V)} {outs : List Blk} (K : Came C E E' site hr p res pts' outs) (hnew : ∀ j, j < 4 → hr (newId site j) = E.h (newId site j))
    (hout : outsOk res outs = true) {y : Value} (hy : VR E' res y) :
    ∃ ρ' I', Good C ⟨E'.w, I', E.J, ρ', updAll E.h (callUps site hr p res pts' outs)⟩ ∧ Ext E ⟨E'.w, I', E.J, ρ', updAll E.h (callUps site hr p res pts' outs)⟩ ∧ VR ⟨E'.w, I', E.J, ρ', updAll E.h (callUps site hr p res pts' outs)⟩ (rn site hr res) y := by
  simp only [outsOk, Bool.and_eq_true, List.all_eq_true, decide_eq_true_eq, beq_iff_eq] at hout
  obtain ⟨⟨ho, hlen⟩, hres⟩ := hout
  cases hsf : isSf res pts' outs with
  | true =>
    have h := hsf
    simp only [isSf, Bool.and_eq_true] at h
    obtain ⟨⟨s1, s2⟩, s3⟩ := h
    have houts : outs = [] := by simpa using s2
    obtain ⟨G1, X1⟩ := stepA_ok G K true (fun _ => s3)
    have e : callUps site hr p res pts' outs = upsPt hr p pts' ++ if true then [] else upsSn hr p := by
      unfold callUps
      rw [hsf, houts]
      simp [upsOut]
    rw [e, rn_ns s1]
    exact ⟨_, _, G1, X1, ns2_vr s1 hy⟩
  | false =>
    obtain ⟨G1, X1⟩ := stepA_ok G K false (fun h => by cases h)
    have e : callUps site hr p res pts' outs = (upsPt hr p pts' ++ if false then [] else upsSn hr p) ++ upsOut site hr outs 0 := by
      unfold callUps; rw [hsf]
    have hok := K.ok
    simp only [prepOk, Bool.and_eq_true, List.all_eq_true, Bool.not_eq_true', List.contains_eq_mem, decide_eq_false_iff_not, decide_eq_true_eq] at hok
    obtain ⟨ok1, ok2⟩ := hok
    have hsub2 : ∀ b k, updAll E.h (upsPt hr p pts' ++ if false = true then [] else upsSn hr p) b = some k → (∀ (j : Nat) q, p.pts[j]? = some q → q.1 ≠ b) → nextVer (updAll E.h (upsPt hr p pts' ++ if false = true then [] else upsSn hr p)) b = nextVer E.h b := by
      intro b k hk hnp
      by_cases hm : b ∈ (upsPt hr p pts' ++ if false = true then [] else upsSn hr p).map (·.1)
      · obtain ⟨⟨b', k'⟩, hmem, rfl⟩ := List.mem_map.1 hm
        rcases List.mem_append.1 hmem with hmem | hmem
        · obtain ⟨j, q, _, _, hq, _, e, _⟩ := mem_upsPt hmem
          exact absurd e (hnp j q hq)
        · have hmem : (b', k') ∈ upsSn hr p := by simpa using hmem
          obtain ⟨hb, k2, hk2, hk3⟩ := mem_upsSn hmem
          have hEk := K.sub b' k2 hk2
          obtain ⟨k4, hk4, _, _⟩ := X1.h b' k2 hEk
          have hval : updAll E.h (upsPt hr p pts' ++ if false = true then [] else upsSn hr p) b' = some { k2 with wr := false } := by
            refine updAll_val (fun k5 h5 => ?_) (.inl hm)
            rcases List.mem_append.1 h5 with h5 | h5
            · obtain ⟨j, q, _, _, hq, _, e, _⟩ := mem_upsPt h5
              exact absurd e (hnp j q hq)
            · have h5 : (b', k5) ∈ upsSn hr p := by simpa using h5
              obtain ⟨_, k6, hk6, hk7⟩ := mem_upsSn h5
              rw [hk2] at hk6; obtain rfl := Option.some.inj hk6
              exact hk7
          unfold nextVer
          rw [hval, hEk]
      · unfold nextVer
        rw [updAll_other _ _ _ hm]
    obtain ⟨ρ', G2, X2, hlast⟩ := outs_ok (site := site) (hr := hr) outs 0 (fun i => E'.ρ (2 * i)) G1 (fun i _ hi => by
        have hi4 : i < 4 := by omega
        have h1 : nextVer hr (newId site i) = nextVer E.h (newId site i) := by unfold nextVer; rw [hnew i hi4]
        rw [h1]
        cases hk : updAll E.h (upsPt hr p pts' ++ if false = true then [] else upsSn hr p) (newId site i) with
        | none =>
          have hE : E.h (newId site i) = none := by
            cases hE : E.h (newId site i) with
            | none => rfl
            | some k =>
              obtain ⟨k', hk', _⟩ := X1.h _ k hE
              have hk' : updAll E.h (upsPt hr p pts' ++ if false = true then [] else upsSn hr p) (newId site i) = some k' := hk'
              rw [hk] at hk'; cases hk'
          show nextVer E.h (newId site i) = nextVer (updAll E.h (upsPt hr p pts' ++ if false = true then [] else upsSn hr p)) (newId site i)
          unfold nextVer
          rw [hk, hE]
        | some k =>
          refine (hsub2 _ k hk (fun j q hq h => ?_)).symm
          have := (ok1 q (List.mem_of_getElem? hq)).2
          rw [h] at this
          apply this
          have : i = 0 ∨ i = 1 ∨ i = 2 ∨ i = 3 := by omega
          rcases this with rfl | rfl | rfl | rfl <;> simp [news])
      (fun i B hB => by
        rw [Nat.zero_add]
        have hE' : E'.h (2 * i) = some B := by rw [callee_even K.h]; exact hB
        have hBo := ho B (List.mem_of_getElem? hB)
        rcases K.good.blk (2 * i) B hE' with ⟨h0, he⟩ | ⟨g, cap, b1, b2, b3, b4, b5, b6, b7, b8, b9⟩
        · simp only [h0]; exact he
        · simp only [b1]
          have hge : E.w.heap.size ≤ g := by
            rcases K.good.own _ _ _ b1 with ⟨j, hj, _⟩ | ⟨h, _⟩
            · omega
            · exact h
          refine ⟨b2, hBo.1.2, b3, b4 hBo.1.2, b5, b6, fun i' j e c he hj => ?_, b8 hBo.1.2, fun b c h => ?_, Nat.le_trans G.size hge, fun b hj => by have := (G.j b g hj).1; omega⟩
          · obtain ⟨⟨x, hx1, hx2⟩, hx3, hx4⟩ := b7 i' j e c he hj
            have h5 : CR E'.w E'.I c x := clo0_cr hx2 (hx4 hBo.2)
            exact ⟨⟨x, hx1, h5⟩, hx3, hx4 hBo.2⟩
          · have h : E.ρ b = some (g, c) := h
            obtain ⟨k, hk⟩ := Option.ne_none_iff_exists'.1 (G.has b (by rw [h]; simp))
            rcases G.blk b k hk with ⟨h0, _⟩ | ⟨g', cap', c1, c2, _⟩
            · rw [h0] at h; cases h
            · rw [c1] at h; obtain ⟨rfl, rfl⟩ := Prod.mk.inj (Option.some.inj h); omega)
      (fun i i' g c c' h1 h2 => by have := K.good.inj _ _ _ _ _ h1 h2; omega)
    rw [e, updAll_append]
    refine ⟨ρ', _, G2, X1.trans X2, ?_⟩
    have hcomp : ∀ v x, VR E' v x → resOk0 outs.length v = true → VR ⟨E'.w, (if false = true then E.I else E'.I), E.J, ρ', updAll (updAll E.h (upsPt hr p pts' ++ if false = true then [] else upsSn hr p)) (upsOut site hr outs 0)⟩ (rn0 site hr v) x := by
      intro v x hv hr0
      by_cases hc : clo1 v = true
      · have h5 : CR E'.w E'.I v x := clo1_cr hv hc
        have : rn0 site hr v = v := by cases v <;> first | rfl | cases hc
        rw [this]
        exact .clo h5
      · simp only [resOk0, Bool.or_eq_true] at hr0
        replace hr0 := hr0.resolve_left hc
        cases v with
        | sl b ver off len =>
          simp only [Bool.and_eq_true, beq_iff_eq, decide_eq_true_eq] at hr0
          obtain ⟨⟨hb, hlt⟩, rfl⟩ := hr0
          have hbe : b = 2 * (b / 2) := by omega
          have hB : outs[b / 2]? = some outs[b / 2] := List.getElem?_eq_getElem hlt
          have hE0 := callee_even K.h (b / 2)
          rw [← hbe, hB] at hE0
          have hE' : E'.h b = some outs[b / 2] := hE0
          have hver : outs[b / 2].ver = 0 := (ho _ (List.getElem_mem hlt)).1.1
          obtain ⟨l1, l2⟩ := hlast (b / 2) outs[b / 2] hB
          rw [Nat.zero_add] at l1 l2
          have hsh : ∃ a n c, x = .slice a n c := by
            cases hv with
            | clo h => cases h
            | sl _ _ _ _ _ _ hs => exact hs
          refine .sl _ _ _ _ _ { outs[b / 2] with ver := nextVer hr (newId site (b / 2)) } hsh l1 (Nat.le_refl _) (fun _ => ?_)
          rcases vr_sl hv hE' hver with ⟨h0, h1, h2, a, h3⟩ | ⟨g, c, cap, h0, h1, h2, h3⟩
          · left
            refine ⟨?_, h1, h2, a, h3⟩
            show ρ' (newId site (b / 2)) = none
            rw [l2, ← hbe]; exact h0
          · right
            refine ⟨g, c, cap, ?_, h1, h2, h3⟩
            show ρ' (newId site (b / 2)) = some (g, c)
            rw [l2, ← hbe]; exact h0
        | _ => cases hr0
    by_cases ht : ∃ vs, res = .tup vs
    · obtain ⟨vs, rfl⟩ := ht
      obtain ⟨xs, rfl, hs, hx⟩ := vr_tup hy
      simp only [resOk, List.all_eq_true] at hres
      simp only [rn]
      refine .tup _ _ (by simp [hs]) (fun j c hj => ?_)
      rw [List.getElem?_map] at hj
      simp only [Option.map_eq_some_iff] at hj
      obtain ⟨v, hv, rfl⟩ := hj
      exact hcomp v _ (hx j v hv) (hres v (List.mem_of_getElem? hv))
    · have e1 : rn site hr res = rn0 site hr res := by cases res <;> first | rfl | exact absurd ⟨_, rfl⟩ ht
      have e2 : resOk outs.length res = resOk0 outs.length res := by cases res <;> first | rfl | exact absurd ⟨_, rfl⟩ ht
      rw [e1]; rw [e2] at hres
      exact hcomp res y hy hres
end Go.Ai

namespace Go.Ai
open Go Go.RowKit
variable {C : Cfg} {P : Program} {E E0 : Env}

theorem guard_wanted {nt : Nat} {ops : Array Oper} {σ : St} {a : Act} {o : Oper} {b : Bool} (hs : Sim C E0 nt σ a E) (h : guardV ops σ.s o = some b) : Region.wanted o (yielded ops a.tmps) = b := by
  unfold guardV at h
  unfold Region.wanted
  cases hg : o.guard with
  | none => rw [hg] at h; simpa using h
  | some p =>
    obtain ⟨j, want⟩ := p
    rw [hg] at h
    simp only at h ⊢
    unfold yielded
    cases hd : (ops[j]?).bind (·.dst) with
    | none => rw [hd] at h; simpa using h
    | some d =>
      rw [hd] at h
      simp only [Option.bind_some] at h ⊢
      have hv := hs.s d
      rw [Array.getD_eq_getD_getElem?] at hv
      split at h
      · rename_i bb hb
        rw [hb] at hv
        have := val_vr hv
        cases ht : a.tmps[d]? with
        | none => rw [ht] at this; simp [undef] at this
        | some x =>
          rw [ht] at this
          simp only [Option.getD_some] at this
          subst this
          obtain rfl := Option.some.inj h
          simp only
          cases bb <;> cases want <;> rfl
      · rename_i v hne hv'
        rw [hv'] at hv
        have := val_vr hv
        obtain rfl := Option.some.inj h
        cases ht : a.tmps[d]? with
        | none => rfl
        | some x =>
          rw [ht] at this
          simp only [Option.getD_some] at this
          subst this
          cases x <;> first | rfl | exact (hne _ rfl).elim
      · cases h

theorem fits_hr {nt : Nat} {ops : Array Oper} {r : Rec} {σ : St} (h : Fits ops nt r σ) (hsk : r.skip = false) : (∀ b k, r.hr b = some k → σ.h b = some k) ∧ ∀ j, j < 4 → r.hr (newId r.site j) = σ.h (newId r.site j) := by
  have h1 := h.hr hsk
  have h2 := h.rd hsk
  refine ⟨fun b k hb => ?_, fun j hj => ?_⟩
  · rw [← h1] at hb
    simp only [restrict] at hb
    split at hb
    · exact hb
    · cases hb
  · rw [← h1]
    simp only [restrict]
    rw [if_pos]
    rw [← h2]
    have : j = 0 ∨ j = 1 ∨ j = 2 ∨ j = 3 := by omega
    rcases this with rfl | rfl | rfl | rfl <;> simp [reach, news]

/-- A slot takes its value. -/
theorem Sim.put {nt : Nat} {σ : St} {a : Act} {E' : Env} (hs : Sim C E0 nt σ a E) (G' : Good C E') (X : Ext E E') {o : Option Tmp} (hd : ∀ d, o = some d → d < nt) {v : V} {y : Value} {h' : Nat → Option Blk} (hh : E'.h = h') (hv : VR E' v y) :
    Sim C E0 nt { s := Ai.put σ.s o v, h := h' } (a.put o y) E' := by
  refine ⟨G', hh, fun t => ?_, ?_, ?_, hs.x.trans X, hs.e⟩
  · cases o with
    | none => exact (hs.s t).mono X
    | some d =>
      have hlt := hd d rfl
      simp only [Act.put, Ai.put, upd]
      by_cases ht : t = d
      · subst ht
        rw [if_pos rfl, Array.getD_eq_getD_getElem?, Array.getElem?_setIfInBounds, if_pos rfl]
        simp [hs.n, hlt, hv]
      · rw [if_neg ht, Array.getD_eq_getD_getElem?, Array.getElem?_setIfInBounds, if_neg (fun h => ht h.symm), ← Array.getD_eq_getD_getElem?]
        exact (hs.s t).mono X
  · cases o with
    | none => exact hs.n
    | some d => simp [Act.put, hs.n]
  · cases o <;> exact hs.d

theorem eval_vr {nt : Nat} {σ : St} {a : Act} (hs : Sim C E0 nt σ a E) (x : Operand) : VR E (evalO σ.s x) (a.eval x) := by
  cases x with
  | tmp t => exact hs.s t
  | const v => exact ofValue_vr v
  | global g => exact .clo (.val _)
  | func f => exact .clo (.val _)

theorem step_skip_ok {S : Sys} {nt : Nat} {ops : Array Oper} {r : Rec} (hsk : r.skip = true) : StepOk P S nt ops r := by
  intro C hCS E0 σ a E Q K hs hf hK
  obtain ⟨h1, h2, _⟩ := hf.skip hsk
  unfold wpOp
  rw [hf.op]
  have hw := guard_wanted hs hf.guard
  simp only [hw, hsk, Bool.not_true, Bool.false_eq_true, if_false]
  refine hK _ E ?_
  have := hs.put (E' := E) (y := undef) hs.good (Ext.refl E) hf.dst (v := r.v) (h' := σ.h) hs.h (by rw [h1]; exact .clo (.val _))
  have e : r.app σ = { s := Ai.put σ.s r.o.dst r.v, h := σ.h } := by simp [Rec.app, h2, updAll]
  rw [e]
  exact this

theorem step_eff_ok {S : Sys} {nt : Nat} {ops : Array Oper} {r : Rec} (hsk : r.skip = false) (h : eff P r.site r.o.op r.vals r.hr = some (r.v, r.ups)) : StepOk P S nt ops r := by
  intro C hCS E0 σ a E Q K hs hf hK
  obtain ⟨h1, h2⟩ := fits_hr hf hsk
  unfold wpOp
  rw [hf.op]
  have hw := guard_wanted hs hf.guard
  simp only [hw, hsk, Bool.not_false, if_true]
  left
  rw [← hf.vals hsk] at h
  have H : HR r.hr E.h r.site := ⟨fun b k hb => by rw [hs.h]; exact h1 b k hb, by rw [hs.h]; exact h2 0 (by omega)⟩
  obtain ⟨y, w', ρ', hrun, G', X', hv⟩ := eff_ok (P := P) hs.good (o := r.o) (ρ := a.eval) H (eval_vr hs) (fun _ _ h => by subst h; rfl) h
  have hsim := hs.put G' X' hf.dst (v := r.v) (h' := updAll E.h r.ups) rfl hv
  have e : r.app σ = { s := Ai.put σ.s r.o.dst r.v, h := updAll E.h r.ups } := by simp [Rec.app, hs.h]
  unfold Oper.wp
  rcases hrun with hrun | ⟨hrun, rfl⟩
  · rw [hrun]
    simp only [Oper.upon]
    exact hK _ _ (by rw [e]; exact hsim)
  · rw [hrun]
    simp only [Oper.upon]
    exact hK _ _ (by rw [e]; exact hsim)

def calleeOf : V → Option FuncId
  | .val (.func (.func f) fi ca) => if fi.isEmpty && ca.isEmpty then some f else none
  | _ => none
def callable (P : Program) (f : FuncId) : Bool :=
  match P.funcs[f]? with
  | some fn => !(fn.name == "runtime.NumGoroutine") && fn.body.isSome
  | none => false

theorem run_callFunc {f : FuncId} (h : callable P f = true) (args : Array Value) (w : World) : (callFunc f args).run P w = .ok (.enter f args) w := by
  unfold callable at h
  split at h
  · rename_i fn hf
    simp only [Bool.and_eq_true, Bool.not_eq_true', beq_eq_false_iff_ne] at h
    have hb : ¬ fn.body = none := by intro e; rw [e] at h; simp at h
    have h1 := h.1
    simp [callFunc, program, hf, bind, Sem.bind, pure, Sem.run]
    rw [if_neg h1, if_neg hb]
  · cases h

/-- A call of a function of Go's text. -/
structure CallRec (P : Program) (S : Sys) (nt : Nat) (ops : Array Oper) (r : Rec) : Prop where
  skip : r.skip = false
  run : ∃ (fo : Operand) (args : Array Operand) (ats : Array TypeId) (f : FuncId) (vf : V) (vs : List V) (p : Prep) (res : V) (pts' : List (Nat × List V)) (outs : List Blk),
    r.o.op = .call { callee := .value fo, args := args, argTypes := ats } ∧ r.vals = vf :: vs ∧ calleeOf vf = some f ∧ callable P f = true ∧ prep r.hr vs 0 = some p ∧ prepOk r.site p = true ∧
    CallOk P S f p.args (ptsOf p) res pts' outs ∧ pts'.length = p.pts.length ∧ outsOk res outs = true ∧ r.v = rn r.site r.hr res ∧ r.ups = callUps r.site r.hr p res pts' outs

theorem step_call_ok {nt : Nat} {ops : Array Oper} {r : Rec} {S : Sys} (h : CallRec P S nt ops r) : StepOk P S nt ops r := by
  intro C hCS E0 σ a E Q K hs hf hK
  obtain ⟨hsk, fo, args, ats, f, vf, vs, p, res, pts', outs, hop, hvals, hcal, hcb, hprep, hpok, hcall, hnp, hout, hrv, hru⟩ := h
  obtain ⟨h1, h2⟩ := fits_hr hf hsk
  unfold wpOp
  rw [hf.op]
  have hw := guard_wanted hs hf.guard
  simp only [hw, hsk, Bool.not_false, if_true]
  left
  have hsub : ∀ b k, r.hr b = some k → E.h b = some k := fun b k hb => by rw [hs.h]; exact h1 b k hb
  have hvals2 := hf.vals hsk
  rw [hop, hvals] at hvals2
  simp only [Op.operands, Call.operands, Array.toList_append, List.singleton_append, List.map_cons, List.cons.injEq] at hvals2
  obtain ⟨hvf, hvs⟩ := hvals2
  -- the callee
  have hfv := eval_vr hs fo
  rw [hvf] at hfv
  unfold calleeOf at hcal
  split at hcal
  · rename_i f' fi ca
    split at hcal
    · rename_i hemp
      obtain rfl := Option.some.inj hcal
      simp only [Bool.and_eq_true] at hemp
      have e1 : fi = #[] := by simpa using hemp.1
      have e2 : ca = #[] := by simpa using hemp.2
      subst e1 e2
      have hfv := val_vr hfv
      have hrunop : (execOp a.eval r.o).run P E.w = .ok (.enter f' (args.map a.eval)) E.w := by
        unfold execOp
        rw [hop]
        simp only [resolve, hfv, Deferred.ofValue, Sem.run_bind]
        simp only [bind, Sem.bind, pure, Sem.run, Result.andThen, invoke, Array.empty_append, Array.append_empty]
        exact run_callFunc hcb _ _
      unfold Oper.wp
      rw [hrunop]
      simp only [Oper.upon]
      -- into it
      have hrel : ∀ (j : Nat) v, vs[j]? = some v → VR E v ((args.map a.eval).toList.getD j undef) := by
        intro j v hj
        rw [← hvs, List.getElem?_map] at hj
        simp only [Option.map_eq_some_iff] at hj
        obtain ⟨x, hx, rfl⟩ := hj
        have : (args.map a.eval).toList.getD j undef = a.eval x := by
          rw [List.getD_eq_getElem?_getD, Array.toList_map, List.getElem?_map, hx]; rfl
        rw [this]; exact eval_vr hs x
      have hlen : (args.map a.eval).toList.length = vs.length := by rw [← hvs]; simp
      obtain ⟨q1, q2, q3, q4⟩ := prep_ok hs.good hsub hprep hlen hrel
      obtain ⟨G0, hargs⟩ := enter_ok hs.good hsub hprep hpok hlen hrel
      subst hCS
      have hc := hcall E.w (snapI E p) (args.map a.eval) (pbOf E p) (by simp [ptsOf, pbOf]) (by rw [q2, ← hlen]; simp) G0 (fun j v hj => by
        have := hargs j v hj
        rwa [List.getD_eq_getElem?_getD, Array.getElem?_toList, ← Array.getD_eq_getD_getElem?] at this)
      refine hc.mono ?_
      rintro e w' ⟨y, E', rfl, rfl, G', X', hy, hh, hρ⟩
      have KC : Came C E E' r.site r.hr p res pts' outs := ⟨G', X', hh, hρ, hnp, fun j q hq => by
        obtain ⟨k, e, g, c, t1, t2, t3, t4, t5, _⟩ := q3 j q hq
        exact ⟨k, e, g, c, t1, t2, t3, t4, t5⟩, q1, hsub, hpok⟩
      obtain ⟨ρ', I', G2, X2, hv2⟩ := back_ok hs.good KC (fun j hj => by rw [hs.h]; exact h2 j hj) hout hy
      refine hK _ ⟨E'.w, I', E.J, ρ', updAll E.h (callUps r.site r.hr p res pts' outs)⟩ ?_
      have hsim := hs.put G2 X2 hf.dst (v := r.v) (y := y) (h' := updAll E.h r.ups) (by rw [hru]) (by rw [hrv]; exact hv2)
      have e : r.app σ = { s := Ai.put σ.s r.o.dst r.v, h := updAll E.h r.ups } := by simp [Rec.app, hs.h]
      rw [e]
      exact hsim
    · cases hcal
  · cases hcal
end Go.Ai

namespace Go.Ai
open Go Go.RowKit
variable {C : Cfg} {P : Program} {E : Env}

/-- Is the value a block of the call's own, whole, that the caller may have? -/
def outOf (h : Nat → Option Blk) (taken : List Nat) : V → Option (Nat × Nat)
  | .sl b ver 0 len =>
    match live h b ver with
    | some k => if k.wr ∧ k.cl ∧ len ≤ k.es.length ∧ b % 2 = 0 ∧ b ∉ taken then some (b, len) else none
    | none => none
  | _ => none
/-- The results, closed: lists that are read, and blocks that the caller takes over. -/
def closeR (h : Nat → Option Blk) : List V → List Nat → Option (List V × List Nat × List Nat)
  | [], o => some ([], o, [])
  | v :: vs, o =>
    match outOf h o v with
    | some (b, len) =>
      match closeR h vs (o ++ [b]) with
      | some (vs', o', s) => some (.sl (2 * o.length) 0 0 len :: vs', o', s)
      | none => none
    | none =>
      match closeA h v, closeR h vs o with
      | some (v', l), some (vs', o', s) => some (v' :: vs', o', l ++ s)
      | _, _ => none

def outBlk (k : Blk) : Blk := { ver := 0, sz := k.sz, wr := true, cl := true, es := k.es }
def outsOf (h : Nat → Option Blk) (o : List Nat) : List Blk := o.filterMap fun b => (h b).map outBlk

/-- The variables that were handed in, at the end. -/
def endPts (h : Nat → Option Blk) : Nat → Nat → Option (List (Nat × List V) × List Nat)
  | 0, _ => some ([], [])
  | n + 1, j =>
    match h (2 * j + 1) with
    | some k =>
      match k.es with
      | [e] =>
        if k.ver = 0 ∧ k.wr then
          match closeC h k.cl e, endPts h n (j + 1) with
          | some (e', l), some (ps, s) => some ((k.sz, e') :: ps, l ++ s)
          | _, _ => none
        else none
      | _ => none
    | none => none

def snapJ (E : Env) (s : List Nat) : Nat → Prop := fun g => E.I g ∨ ∃ b ∈ s, ∃ n, E.ρ b = some (g, n)

theorem outOf_some {h : Nat → Option Blk} {taken : List Nat} {v : V} {b len : Nat} (hv : outOf h taken v = some (b, len)) : ∃ k ver, v = .sl b ver 0 len ∧ h b = some k ∧ k.ver = ver ∧ k.wr = true ∧ k.cl = true ∧ len ≤ k.es.length ∧ b % 2 = 0 ∧ b ∉ taken := by
  unfold outOf at hv
  split at hv
  · rename_i b' ver len'
    split at hv
    · rename_i k hk
      split at hv
      · rename_i hc
        obtain ⟨rfl, rfl⟩ := Prod.mk.inj (Option.some.inj hv)
        obtain ⟨h1, h2⟩ := live_some hk
        exact ⟨k, ver, rfl, h1, h2, hc.1, hc.2.1, hc.2.2.1, hc.2.2.2.1, hc.2.2.2.2⟩
      · cases hv
    · cases hv
  · cases hv

theorem closeR_ids (G : Good C E) : ∀ {vs vs' : List V} {o o' s : List Nat}, closeR E.h vs o = some (vs', o', s) →
    (∃ t, o' = o ++ t) ∧ (∀ b ∈ s, b % 2 = 0 ∧ E.h b ≠ none) ∧ ((∀ b ∈ o, b % 2 = 0 ∧ ∃ k, E.h b = some k ∧ k.wr = true ∧ k.cl = true) → ∀ b ∈ o', b % 2 = 0 ∧ ∃ k, E.h b = some k ∧ k.wr = true ∧ k.cl = true) ∧ (o.Nodup → o'.Nodup) ∧ vs'.length = vs.length
  | [], vs', o, o', s, h => by
    simp [closeR] at h
    obtain ⟨rfl, rfl, rfl⟩ := h
    exact ⟨⟨[], by simp⟩, fun b hb => by simp at hb, fun h => h, fun h => h, rfl⟩
  | v :: vs, vs', o, o', s, h => by
    simp only [closeR] at h
    split at h
    · rename_i b len hout
      split at h
      · rename_i vs1 o1 s1 hr
        obtain ⟨rfl, hq⟩ := Prod.mk.inj (Option.some.inj h)
        obtain ⟨rfl, rfl⟩ := Prod.mk.inj hq
        obtain ⟨⟨t, rfl⟩, a2, a3, a4, a5⟩ := closeR_ids G hr
        obtain ⟨k, ver, _, hk, _, hw, hcl, _, hb2, hnt⟩ := outOf_some hout
        refine ⟨⟨b :: t, by simp⟩, a2, fun ho => a3 (fun b' hb' => ?_), fun hn => a4 ?_, by simp [a5]⟩
        · rcases List.mem_append.1 hb' with hb' | hb'
          · exact ho b' hb'
          · simp at hb'; subst hb'; exact ⟨hb2, k, hk, hw, hcl⟩
        · rw [List.nodup_append]
          exact ⟨hn, by simp, fun x hx y hy e => by simp at hy; subst hy; subst e; exact hnt hx⟩
      · cases h
    · split at h
      · rename_i v1 l vs1 o1 s1 hc hr
        obtain ⟨rfl, hq⟩ := Prod.mk.inj (Option.some.inj h)
        obtain ⟨rfl, rfl⟩ := Prod.mk.inj hq
        obtain ⟨a1, a2, a3, a4, a5⟩ := closeR_ids G hr
        refine ⟨a1, fun b hb => ?_, a3, a4, by simp [a5]⟩
        rcases List.mem_append.1 hb with hb | hb
        · exact closeA_ids G (fun _ _ h => h) hc b hb
        · exact a2 b hb
      · cases h

/-- The final environment, the results' own names in it. -/
def endEnv (E : Env) (pb : List (Nat × Nat)) (pts' : List (Nat × List V)) (o s : List Nat) : Env :=
  ⟨E.w, snapJ E s, noJ, fun b => if b % 2 = 1 then ρ0 pb b else (o[b / 2]?).bind E.ρ, h1 pts' (outsOf E.h o)⟩

theorem outsOf_get {h : Nat → Option Blk} : ∀ {o : List Nat}, (∀ b ∈ o, ∃ k, h b = some k) → ∀ (i : Nat), (outsOf h o)[i]? = (o[i]?).bind fun b => (h b).map outBlk
  | [], _, i => by simp [outsOf]
  | b :: o, ho, i => by
    obtain ⟨k, hk⟩ := ho b (by simp)
    have ih := outsOf_get (o := o) (fun b hb => ho b (by simp [hb]))
    have e : outsOf h (b :: o) = outBlk k :: outsOf h o := by simp [outsOf, hk]
    rw [e]
    cases i with
    | zero => simp [hk]
    | succ i => simpa using ih i

theorem closeR_ok (G : Good C E) {pb : List (Nat × Nat)} {pts' : List (Nat × List V)} {oo ss : List Nat} (hoo : ∀ b ∈ oo, b % 2 = 0 ∧ ∃ k, E.h b = some k ∧ k.wr = true ∧ k.cl = true) :
    ∀ {vs vs' : List V} {xs : List Value} {o o' s : List Nat}, closeR E.h vs o = some (vs', o', s) → (∃ t, oo = o' ++ t) → (∀ b ∈ s, b ∈ ss) → (∀ (j : Nat) v, vs[j]? = some v → VR E v (xs.getD j undef)) →
    ∀ (j : Nat) v, vs'[j]? = some v → VR (endEnv E pb pts' oo ss) v (xs.getD j undef)
  | [], vs', xs, o, o', s, h, _, _, _, j, v, hj => by
    simp [closeR] at h
    obtain ⟨rfl, _, _⟩ := h
    simp at hj
  | v0 :: vs, vs', xs, o, o', s, h, hpre, hs, hv, j, v, hj => by
    have hv0 : VR E v0 (xs.getD 0 undef) := hv 0 v0 rfl
    have hvs : ∀ (j : Nat) v, vs[j]? = some v → VR E v (xs.tail.getD j undef) := fun j v hj => by
      have := hv (j + 1) v (by simpa using hj)
      cases xs <;> simpa using this
    simp only [closeR] at h
    split at h
    · rename_i b len hout
      split at h
      · rename_i vs1 o1 s1 hr
        obtain ⟨rfl, hq⟩ := Prod.mk.inj (Option.some.inj h)
        obtain ⟨rfl, rfl⟩ := Prod.mk.inj hq
        obtain ⟨⟨t1, ht1⟩, _⟩ := closeR_ids G hr
        cases j with
        | succ j =>
          have := closeR_ok (pb := pb) (pts' := pts') G hoo hr hpre hs hvs j v (by simpa using hj)
          cases xs <;> simpa using this
        | zero =>
          simp at hj; subst hj
          obtain ⟨k, ver, rfl, hk, hver, hw, hcl, hle, hb2, hnt⟩ := outOf_some hout
          obtain ⟨t, ht⟩ := hpre
          have hget : oo[o.length]? = some b := by rw [ht, ht1]; simp
          have he : 2 * o.length % 2 = 0 := by omega
          have hd : 2 * o.length / 2 = o.length := by omega
          have hsh : ∃ a n c, xs.getD 0 undef = .slice a n c := by
            cases hv0 with
            | clo h => cases h
            | sl _ _ _ _ _ _ hs => exact hs
          refine .sl _ _ _ _ _ (outBlk k) hsh ?_ (Nat.le_refl _) (fun _ => ?_)
          · show h1 pts' (outsOf E.h oo) (2 * o.length) = _
            unfold h1
            rw [if_neg (by omega), hd, outsOf_get (fun b hb => by obtain ⟨_, k, hk, _⟩ := hoo b hb; exact ⟨k, hk⟩), hget]
            simp [hk]
          · have hρ : (endEnv E pb pts' oo ss).ρ (2 * o.length) = E.ρ b := by
              show (if 2 * o.length % 2 = 1 then _ else _) = _
              rw [if_neg (by omega), hd, hget]; rfl
            rw [hρ]
            have h6 := vr_sl hv0 hk hver
            exact h6
      · cases h
    · split at h
      · rename_i v1 l vs1 o1 s1 hc hr
        obtain ⟨rfl, hq⟩ := Prod.mk.inj (Option.some.inj h)
        obtain ⟨rfl, rfl⟩ := Prod.mk.inj hq
        cases j with
        | succ j =>
          have := closeR_ok (pb := pb) (pts' := pts') G hoo hr hpre (fun b hb => hs b (List.mem_append_right _ hb)) hvs j v (by simpa using hj)
          cases xs <;> simpa using this
        | zero =>
          simp at hj; subst hj
          exact .clo (closeA_ok G (fun _ _ h => h) hc hv0 (fun g h => .inl h) (fun b hb g n hr => .inr ⟨b, hs b (List.mem_append_left _ hb), n, hr⟩))
      · cases h

theorem endPts_ok (G : Good C E) : ∀ {n j : Nat} {ps : List (Nat × List V)} {s : List Nat}, endPts E.h n j = some (ps, s) →
    ps.length = n ∧ (∀ b ∈ s, b % 2 = 0 ∧ E.h b ≠ none) ∧ ∀ i, i < n → ∃ k e e', E.h (2 * (j + i) + 1) = some k ∧ k.es = [e] ∧ k.ver = 0 ∧ k.wr = true ∧ ps[i]? = some (k.sz, e') ∧ e'.length = e.length ∧
      ∀ (x : Nat) c', e'[x]? = some c' → ∃ c0, e[x]? = some c0 ∧ (∀ y I, VR E c0 y → (∀ g, E.I g → I g) → (∀ b ∈ s, ∀ g n, E.ρ b = some (g, n) → I g) → (cellOk c0 = true ∧ (k.cl = true → clo0 c0 = true)) → CR E.w I c' y) ∧ (cellOk c0 = true ∧ (k.cl = true → clo0 c0 = true) → clo0 c' = true ∧ cellOk c' = true)
  | 0, j, ps, s, h => by
    simp [endPts] at h
    obtain ⟨rfl, rfl⟩ := h
    exact ⟨rfl, fun b hb => by simp at hb, fun i hi => by omega⟩
  | n + 1, j, ps, s, h => by
    simp only [endPts] at h
    split at h
    · rename_i k hk
      split at h
      · rename_i e he
        split at h
        · rename_i hc
          split at h
          · rename_i e' l ps1 s1 hcl hr
            obtain ⟨rfl, rfl⟩ := Prod.mk.inj (Option.some.inj h)
            obtain ⟨a1, a2, a3⟩ := endPts_ok G hr
            have hclo : e'.length = e.length ∧ (∀ (x : Nat) c', e'[x]? = some c' → ∃ c0, e[x]? = some c0 ∧ (∀ y I, VR E c0 y → (∀ g, E.I g → I g) → (∀ b ∈ l, ∀ g n, E.ρ b = some (g, n) → I g) → (cellOk c0 = true ∧ (k.cl = true → clo0 c0 = true)) → CR E.w I c' y) ∧ (cellOk c0 = true ∧ (k.cl = true → clo0 c0 = true) → clo0 c' = true ∧ cellOk c' = true)) ∧ ∀ b ∈ l, b % 2 = 0 ∧ E.h b ≠ none := by
              unfold closeC at hcl
              split at hcl
              · rename_i hkc
                obtain ⟨rfl, rfl⟩ := Prod.mk.inj (Option.some.inj hcl)
                exact ⟨rfl, fun x c' hx => ⟨c', hx, fun y I hy hI _ hq => (clo0_cr hy (hq.2 hkc)).mono hI (fun _ _ _ => rfl), fun hq => ⟨hq.2 hkc, hq.1⟩⟩, fun b hb => by simp at hb⟩
              · obtain ⟨b1, b2, b3⟩ := closeL_ok G (fun _ _ h => h) hcl
                exact ⟨b1, fun x c' hx => by
                  obtain ⟨c0, d1, d2, d3, d4⟩ := b2 x c' hx
                  exact ⟨c0, d1, fun y I hy hI hs _ => d2 y I hy hI hs, fun hq => ⟨d3, d4 hq.1⟩⟩, b3⟩
            obtain ⟨r1, r2, r3⟩ := hclo
            refine ⟨by simp [a1], fun b hb => ?_, fun i hi => ?_⟩
            · rcases List.mem_append.1 hb with hb | hb
              · exact r3 b hb
              · exact a2 b hb
            · cases i with
              | zero =>
                exact ⟨k, e, e', hk, he, hc.1, hc.2, rfl, r1, fun x c' hx => by
                  obtain ⟨c0, d1, d2, d3⟩ := r2 x c' hx
                  exact ⟨c0, d1, fun y I hy hI hs hq => d2 y I hy hI (fun b hb => hs b (List.mem_append_left _ hb)) hq, d3⟩⟩
              | succ i =>
                obtain ⟨k2, e2, e2', t1, t2, t3, t4, t5, t6, t7⟩ := a3 i (by omega)
                rw [show j + 1 + i = j + (i + 1) by omega] at t1
                exact ⟨k2, e2, e2', t1, t2, t3, t4, by simpa using t5, t6, fun x c' hx => by
                  obtain ⟨c0, d1, d2, d3⟩ := t7 x c' hx
                  exact ⟨c0, d1, fun y I hy hI hs hq => d2 y I hy hI (fun b hb => hs b (List.mem_append_right _ hb)) hq, d3⟩⟩
          · cases h
        · cases h
      · cases h
    · cases h

/-- Out of the function. -/
theorem leave_ok {S : Sys} {w : World} {I : Nat → Prop} {pb : List (Nat × Nat)} {pts pts' : List (Nat × List V)} {o s1 s2 : List Nat} (G : Good ⟨S, w, I, pb.map (·.1)⟩ E) (X : Ext ⟨w, I, noJ, ρ0 pb, h0 pts⟩ E) (hnp : pts.length = pb.length)
    (ho : ∀ b ∈ o, b % 2 = 0 ∧ ∃ k, E.h b = some k ∧ k.wr = true ∧ k.cl = true) (hnd : o.Nodup) (hs1 : ∀ b ∈ s1, b % 2 = 0 ∧ E.h b ≠ none) (hdis : ∀ b ∈ o, b ∉ s1 ++ s2) (hend : endPts E.h pts.length 0 = some (pts', s2)) :
    Good ⟨S, w, I, pb.map (·.1)⟩ (endEnv E pb pts' o (s1 ++ s2)) ∧ Ext ⟨w, I, noJ, ρ0 pb, h0 pts⟩ (endEnv E pb pts' o (s1 ++ s2)) := by
  obtain ⟨e1, e2, e3⟩ := endPts_ok G hend
  have hsall : ∀ b ∈ s1 ++ s2, b % 2 = 0 ∧ E.h b ≠ none := fun b hb => (List.mem_append.1 hb).elim (hs1 b) (e2 b)
  have hIsub : ∀ g, E.I g → snapJ E (s1 ++ s2) g := fun g h => .inl h
  have hss : ∀ b ∈ s1 ++ s2, ∀ g n, E.ρ b = some (g, n) → snapJ E (s1 ++ s2) g := fun b hb g n hr => .inr ⟨b, hb, n, hr⟩
  have hodd : ∀ j, j < pts.length → ∃ k e e' sz0 e0, E.h (2 * j + 1) = some k ∧ k.es = [e] ∧ k.ver = 0 ∧ k.wr = true ∧ pts'[j]? = some (k.sz, e') ∧ e'.length = e.length ∧ pts[j]? = some (sz0, e0) ∧ k.sz = sz0 ∧ E.ρ (2 * j + 1) = pb[j]? ∧
      ∀ (x : Nat) c', e'[x]? = some c' → ∃ c0, e[x]? = some c0 ∧ (∀ y I, VR E c0 y → (∀ g, E.I g → I g) → (∀ b ∈ s2, ∀ g n, E.ρ b = some (g, n) → I g) → (cellOk c0 = true ∧ (k.cl = true → clo0 c0 = true)) → CR E.w I c' y) ∧ (cellOk c0 = true ∧ (k.cl = true → clo0 c0 = true) → clo0 c' = true ∧ cellOk c' = true) := by
    intro j hj
    obtain ⟨k, e, e', t1, t2, t3, t4, t5, t6, t7⟩ := e3 j hj
    rw [Nat.zero_add] at t1
    have hp : pts[j]? = some pts[j] := List.getElem?_eq_getElem hj
    obtain ⟨k', hk', _, heq⟩ := X.h (2 * j + 1) (ptBlk pts[j]) (by simp [h0, hp, show (2 * j + 1) / 2 = j by omega])
    rw [t1] at hk'
    obtain rfl := Option.some.inj hk'
    obtain ⟨q1, q2⟩ := heq (by rw [t3]; rfl)
    refine ⟨k, e, e', pts[j].1, pts[j].2, t1, t2, t3, t4, t5, t6, hp, q1, ?_, t7⟩
    rw [q2]
    show ρ0 pb (2 * j + 1) = _
    unfold ρ0
    rw [if_pos (by omega), show (2 * j + 1) / 2 = j by omega]
  have hρodd : ∀ b, b % 2 = 1 → (endEnv E pb pts' o (s1 ++ s2)).ρ b = ρ0 pb b := fun b hb => by
    show (if b % 2 = 1 then _ else _) = _
    rw [if_pos hb]
  have hρeven : ∀ b, b % 2 = 0 → (endEnv E pb pts' o (s1 ++ s2)).ρ b = (o[b / 2]?).bind E.ρ := fun b hb => by
    show (if b % 2 = 1 then _ else _) = _
    rw [if_neg (by omega)]
  have hρE : ∀ b g c, (endEnv E pb pts' o (s1 ++ s2)).ρ b = some (g, c) → (b % 2 = 1 ∧ b / 2 < pts.length ∧ E.ρ b = some (g, c)) ∨ (b % 2 = 0 ∧ ∃ x, o[b / 2]? = some x ∧ E.ρ x = some (g, c)) := by
    intro b g c h
    by_cases hb : b % 2 = 1
    · left
      rw [hρodd b hb] at h
      have h2 : ρ0 pb b = pb[b / 2]? := by unfold ρ0; rw [if_pos hb]
      rw [h2] at h
      have hlt := (List.getElem?_eq_some_iff.1 h).1
      obtain ⟨_, _, _, _, _, _, _, _, _, _, _, _, _, hr, _⟩ := hodd (b / 2) (by omega)
      rw [show 2 * (b / 2) + 1 = b by omega] at hr
      exact ⟨hb, by omega, by rw [hr, h]⟩
    · right
      have hb0 : b % 2 = 0 := by omega
      rw [hρeven b hb0] at h
      simp only [Option.bind_eq_some_iff] at h
      obtain ⟨x, hx, hr⟩ := h
      exact ⟨hb0, x, hx, hr⟩
  have himm : ∀ b k g c, E.h b = some k → k.wr = true → b ∉ s1 ++ s2 → E.ρ b = some (g, c) → ¬ snapJ E (s1 ++ s2) g := by
    intro b k g c hk hw hns hr hI
    rcases hI with hI | ⟨b', hb', n, hr'⟩
    · rcases G.blk b k hk with ⟨h0, _⟩ | ⟨g', cap, b1, _, _, _, _, _, _, b8, _⟩
      · rw [h0] at hr; cases hr
      · rw [b1] at hr; obtain ⟨rfl, rfl⟩ := Prod.mk.inj (Option.some.inj hr); exact b8 hw hI
    · have := G.inj _ _ _ _ _ hr hr'
      subst this; exact hns hb'
  have hX : Ext ⟨w, I, noJ, ρ0 pb, h0 pts⟩ (endEnv E pb pts' o (s1 ++ s2)) := by
    refine ⟨fun g hg => .inl (X.I g hg), X.w, fun b k hk => ?_, fun _ _ _ _ _ _ => ⟨fun g h => h, fun g o h => h.elim⟩⟩
    have hk : h0 pts b = some k := hk
    unfold h0 at hk
    split at hk
    · rename_i hb
      simp only [Option.map_eq_some_iff] at hk
      obtain ⟨q, hq, rfl⟩ := hk
      have hlt := (List.getElem?_eq_some_iff.1 hq).1
      obtain ⟨k2, e, e', sz0, e0, t1, t2, t3, t4, t5, t6, t7, t8, t9, _⟩ := hodd (b / 2) hlt
      rw [hq] at t7
      obtain rfl := Option.some.inj t7
      refine ⟨ptBlk (k2.sz, e'), ?_, Nat.le_refl _, fun _ => ⟨t8, hρodd b hb⟩⟩
      show h1 pts' _ b = _
      unfold h1
      rw [if_pos hb, t5]; rfl
    · cases hk
  refine ⟨⟨fun b k hk => ?_, fun b b' g c c' h1 h2 => ?_, fun g hg => ?_, fun g hg => ?_, fun b g c hr => ?_, fun b hb => ?_, G.os, G.tape, G.output, G.size, G.frame, fun b g c hr => ?_, G.lo0, G.u, fun _ _ h => h.elim⟩, hX⟩
  · have hk : h1 pts' (outsOf E.h o) b = some k := hk
    unfold h1 at hk
    split at hk
    · rename_i hb
      simp only [Option.map_eq_some_iff] at hk
      obtain ⟨q, hq, rfl⟩ := hk
      have hlt := (List.getElem?_eq_some_iff.1 hq).1
      obtain ⟨k2, e, e', sz0, e0, t1, t2, t3, t4, t5, t6, t7, t8, t9, t10⟩ := hodd (b / 2) (by omega)
      rw [hq] at t5
      obtain rfl := Option.some.inj t5
      rw [show 2 * (b / 2) + 1 = b by omega] at t1 t9
      have hpb : ∃ gc, pb[b / 2]? = some gc := ⟨pb[b / 2]'(by omega), List.getElem?_eq_getElem (by omega)⟩
      obtain ⟨gc, hgc⟩ := hpb
      obtain ⟨g, cap⟩ := gc
      rcases G.blk b k2 t1 with ⟨h0', _⟩ | ⟨g', cap', b1, b2, b3, b4, b5, b6, b7, b8, b9⟩
      · rw [t9, hgc] at h0'; cases h0'
      rw [t9, hgc] at b1; obtain ⟨rfl, rfl⟩ := Prod.mk.inj (Option.some.inj b1)
      have hel : e.length = k2.sz := b5 e (by rw [t2]; simp)
      refine .inr ⟨g, cap, by rw [hρodd b hb]; unfold ρ0; rw [if_pos hb, hgc], b2, b3, fun _ => b4 t4, fun e2 he2 => ?_, ?_, fun i j e2 c he hj => ?_, fun _ => himm b k2 g cap t1 t4 (fun h => by have := (hsall b h).1; omega) (by rw [t9, hgc]), fun h => by cases h⟩
      · simp [ptBlk] at he2 ⊢; subst he2; omega
      · have := b6; rw [t2] at this; exact this
      · cases i with
        | succ i => simp [ptBlk] at he
        | zero =>
          simp [ptBlk] at he; subst he
          obtain ⟨c0, d1, d2, d3⟩ := t10 j c hj
          obtain ⟨⟨x, hx1, hx2⟩, hx3⟩ := b7 0 j e c0 (by rw [t2]; rfl) d1
          have h5 : CR E.w (snapJ E (s1 ++ s2)) c x := d2 x _ hx2 hIsub (fun b hb => hss b (List.mem_append_right _ hb)) hx3
          simp only [Nat.zero_mul, Nat.zero_add] at hx1
          have h7 : E.w.cell? ⟨g, 0 * (ptBlk (k2.sz, e')).sz + j, none⟩ = some x := by rw [Nat.zero_mul, Nat.zero_add]; exact hx1
          exact ⟨⟨x, h7, .clo h5⟩, (d3 hx3).2, fun _ => (d3 hx3).1⟩
    · rename_i hb
      have hb0 : b % 2 = 0 := by omega
      rw [outsOf_get (fun b hb => by obtain ⟨_, k, hk, _⟩ := ho b hb; exact ⟨k, hk⟩)] at hk
      simp only [Option.bind_eq_some_iff, Option.map_eq_some_iff] at hk
      obtain ⟨x, hx, k2, hk2, rfl⟩ := hk
      obtain ⟨hx2, k3, hk3, hw, hcl⟩ := ho x (List.mem_of_getElem? hx)
      rw [hk2] at hk3; obtain rfl := Option.some.inj hk3
      have hρ := hρeven b hb0
      rw [hx] at hρ
      simp only [Option.bind_some] at hρ
      rcases G.blk x k2 hk2 with ⟨h0', he⟩ | ⟨g, cap, b1, b2, b3, b4, b5, b6, b7, b8, b9⟩
      · exact .inl ⟨by rw [hρ]; exact h0', he⟩
      · refine .inr ⟨g, cap, by rw [hρ]; exact b1, b2, b3, fun _ => b4 hw, b5, b6, fun i j e c he hj => ?_, fun _ => himm x k2 g cap hk2 hw (hdis x (List.mem_of_getElem? hx)) b1, fun h => by cases h⟩
        obtain ⟨⟨y, hy1, hy2⟩, hy3, hy4⟩ := b7 i j e c he hj
        have h5 : CR E.w (snapJ E (s1 ++ s2)) c y := (clo0_cr hy2 (hy4 hcl)).mono hIsub (fun _ _ _ => rfl)
        exact ⟨⟨y, hy1, .clo h5⟩, hy3, fun _ => hy4 hcl⟩
  · rcases hρE b g c h1 with ⟨a1, a2, a3⟩ | ⟨a1, x, a2, a3⟩ <;> rcases hρE b' g c' h2 with ⟨d1, d2, d3⟩ | ⟨d1, y, d2, d3⟩
    · exact G.inj _ _ _ _ _ a3 d3
    · have := G.inj _ _ _ _ _ a3 d3
      have := (ho y (List.mem_of_getElem? d2)).1
      omega
    · have := G.inj _ _ _ _ _ a3 d3
      have := (ho x (List.mem_of_getElem? a2)).1
      omega
    · have hxy := G.inj _ _ _ _ _ a3 d3
      subst hxy
      have := nodup_get hnd a2 d2
      omega
  · rcases hg with hg | ⟨b, hb, n, hr⟩
    · exact G.iold g hg
    · obtain ⟨k, hk⟩ := Option.ne_none_iff_exists'.1 (hsall b hb).2
      rcases G.blk b k hk with ⟨h0', _⟩ | ⟨g', cap, b1, b2, _⟩
      · rw [h0'] at hr; cases hr
      · rw [b1] at hr; obtain ⟨rfl, rfl⟩ := Prod.mk.inj (Option.some.inj hr); exact b2
  · rcases hg with hg | ⟨b, hb, n, hr⟩
    · exact G.isub g hg
    · obtain ⟨k, hk⟩ := Option.ne_none_iff_exists'.1 (hsall b hb).2
      rcases G.blk b k hk with ⟨h0', _⟩ | ⟨g', cap, b1, b2, b3, b4, b5, b6, b7, b8, b9⟩
      · rw [h0'] at hr; cases hr
      · rw [b1] at hr; obtain ⟨rfl, rfl⟩ := Prod.mk.inj (Option.some.inj hr)
        cases hw : k.wr with
        | false => exact G.isub _ (b9 hw)
        | true =>
          rcases G.own b _ _ b1 with ⟨j, hj, _⟩ | ⟨h, _⟩
          · have := (hsall b hb).1; omega
          · exact .inr ⟨h, b4 hw⟩
  · rcases hρE b g c hr with ⟨a1, a2, a3⟩ | ⟨a1, x, a2, a3⟩
    · exact G.own _ _ _ a3
    · rcases G.own _ _ _ a3 with ⟨j, hj, _⟩ | ⟨h, _⟩
      · have := (ho x (List.mem_of_getElem? a2)).1; omega
      · exact .inr ⟨h, a1⟩
  · have hb : (endEnv E pb pts' o (s1 ++ s2)).ρ b ≠ none := hb
    show h1 pts' (outsOf E.h o) b ≠ none
    obtain ⟨⟨g, c⟩, hgc⟩ := Option.ne_none_iff_exists'.1 hb
    unfold h1
    rcases hρE b g c hgc with ⟨a1, a2, a3⟩ | ⟨a1, x, a2, a3⟩
    · rw [if_pos a1, List.getElem?_eq_getElem (by omega)]; simp
    · obtain ⟨_, k, hk, _⟩ := ho x (List.mem_of_getElem? a2)
      rw [if_neg (by omega), outsOf_get (fun b hb => by obtain ⟨_, k, hk, _⟩ := ho b hb; exact ⟨k, hk⟩), a2]
      simp [hk]
  · rcases hρE b g c hr with ⟨a1, a2, a3⟩ | ⟨a1, x, a2, a3⟩
    · exact G.lo _ _ _ a3
    · exact G.lo _ _ _ a3
end Go.Ai

namespace Go.Ai
open Go Go.RowKit
set_option linter.unusedVariables false
variable {C : Cfg} {P : Program} {E E0 : Env}

/-- A write makes no cell and takes none away. -/
theorem setCell_isSome (w : World) (a : Addr) (v : Value) (x : Addr) : ((w.setCell a v).cell? x).isSome = (w.cell? x).isSome := by
  by_cases h : a = x
  · subst h
    cases hc : w.cell? a with
    | some u => rw [World.cell?_setCell_same _ _ _ hc]; rfl
    | none =>
      have : (w.setCell a v).cell? a = none := by
        unfold World.cell? World.setCell at *
        rw [Array.getElem?_modify]
        rw [if_pos rfl]
        cases hb : w.heap[a.block]? with
        | none => simp
        | some b =>
          rw [hb] at hc
          cases b <;> simp_all
      rw [this]
  · rw [World.cell?_setCell_other _ _ _ _ h]
theorem setCells_isSome (b : Nat) : ∀ (vs : List Value) (o : Nat) (w : World) (x : Addr), ((w.setCells b o vs).cell? x).isSome = (w.cell? x).isSome
  | [], _, _, _ => rfl
  | v :: r, o, w, x => by
    show (((w.setCell ⟨b, o, none⟩ v).setCells b (o + 1) r).cell? x).isSome = _
    rw [setCells_isSome b r, setCell_isSome]
/-- What a call may hand back that took over a row: the row's first so many, or nothing. -/
def eatX (g cap : Nat) : Option Nat → Value
  | some n => .slice (some ⟨g, 0, none⟩) n cap
  | none => .tuple #[]
def eatV (b ver : Nat) : Option Nat → V
  | some n => .sl b ver 0 n
  | none => .val (.tuple #[])
/-- A function that writes over a row of plain values that it is handed, and leaves the rest of memory as it is. -/
def EatOk (P : Program) (f : FuncId) (sz len : Nat) (es : List (List Value)) (rest : List Value) (out : Option Nat) (es' : List (List Value)) : Prop :=
  ∀ (w : World) (g cap : Nat), len ≤ cap → g < w.heap.size →
    (∀ (i j : Nat) e v, es[i]? = some e → e[j]? = some v → w.cell? ⟨g, i * sz + j, none⟩ = some v) →
    (∀ j, j < cap * sz → (w.cell? ⟨g, j, none⟩).isSome = true ∧ w.frozen? ⟨g, j, none⟩ = false) →
    Calls P f (Value.slice (some ⟨g, 0, none⟩) len cap :: rest).toArray w fun e w' => e = .returned (eatX g cap out) ∧ (∀ n, out = some n → n ≤ cap) ∧
      (∀ x, x < w.heap.size → x ≠ g → w'.heap[x]? = w.heap[x]?) ∧ w.heap.size ≤ w'.heap.size ∧ w'.os = w.os ∧ w'.tape = w.tape ∧ w'.output = w.output ∧
      (∀ j, (w'.cell? ⟨g, j, none⟩).isSome = (w.cell? ⟨g, j, none⟩).isSome) ∧ (∀ j, w'.frozen? ⟨g, j, none⟩ = w.frozen? ⟨g, j, none⟩) ∧
      (∀ (i j : Nat) e v, es'[i]? = some e → e[j]? = some v → w'.cell? ⟨g, i * sz + j, none⟩ = some v)

def eatB (k : Blk) (len : Nat) (es es' : List (List Value)) : Bool :=
  k.wr && decide (0 < len) && decide (es'.length ≤ len) && es'.all (fun e => e.length == k.sz && e.all fun v => cellOk (.val v))
def eatK (k : Blk) (es' : List (List Value)) : Blk := { k with es := es'.map (·.map V.val), cl := true }

theorem Good.eat (G : Good C E) {b : Nat} {k k' : Blk} (hk : E.h b = some k) (hwr : k.wr = true) {g cap : Nat} (hρ : E.ρ b = some (g, cap)) (w' : World)
    (hoth : ∀ x, x < E.w.heap.size → x ≠ g → w'.heap[x]? = E.w.heap[x]?) (hsz : E.w.heap.size ≤ w'.heap.size) (hos : w'.os = E.w.os) (ht : w'.tape = E.w.tape) (ho : w'.output = E.w.output)
    (hthere : ∀ j, (w'.cell? ⟨g, j, none⟩).isSome = (E.w.cell? ⟨g, j, none⟩).isSome) (hfree : ∀ j, w'.frozen? ⟨g, j, none⟩ = E.w.frozen? ⟨g, j, none⟩)
    (hv : k'.ver = k.ver) (hs : k'.sz = k.sz) (hw : k'.wr = true) (hlen : ∀ e ∈ k'.es, e.length = k'.sz) (hcap : k'.es.length * k'.sz ≤ cap)
    (hcells : ∀ (i j : Nat) e c, k'.es[i]? = some e → e[j]? = some c → (∃ x, w'.cell? ⟨g, i * k'.sz + j, none⟩ = some x ∧ c = .val x) ∧ cellOk c = true) :
    Good C ⟨w', E.I, E.J, E.ρ, upd E.h b (some k')⟩ ∧ Ext E ⟨w', E.I, E.J, E.ρ, upd E.h b (some k')⟩ := by
  rcases G.blk b k hk with ⟨h0, _⟩ | ⟨g', cap', h1, h2, h3, h4, h5, h6, h7, h8, h9⟩
  · rw [h0] at hρ; cases hρ
  rw [h1] at hρ; obtain ⟨rfl, rfl⟩ := Prod.mk.inj (Option.some.inj hρ)
  refine G.change (E' := ⟨w', E.I, E.J, E.ρ, upd E.h b (some k')⟩) (fun x => x = b) (fun x => x = g') rfl rfl ?_ ?_ hsz ?_ ?_ ?_ ?_ ?_ ?_ ?_ ?_ hos ht ho
  · intro x hx; simp [upd, hx]
  · rintro x rfl; exact ⟨b, cap', k, rfl, h1, hk, hwr⟩
  · intro x hx hne; exact hoth x hx hne
  · rintro x y rfl hy
    rw [hk] at hy; obtain rfl := Option.some.inj hy
    exact ⟨k', by simp [upd], by omega, fun _ => ⟨hs, rfl⟩⟩
  · rintro X x y rfl hy
    simp only [upd, if_true] at hy
    obtain rfl := Option.some.inj hy
    refine .inr ⟨g', cap', h1, Nat.lt_of_lt_of_le h2 hsz, fun j hj => (hthere j).trans (h3 j hj), fun _ j hj => by rw [hfree]; exact h4 hwr j ((hthere j).symm.trans hj), hlen, hcap, fun i j e c he hj => ?_, fun _ => h8 hwr, fun h => by rw [hw] at h; cases h⟩
    obtain ⟨⟨x, hx, rfl⟩, hok⟩ := hcells i j e c he hj
    exact ⟨⟨x, hx, .clo (.val x)⟩, hok, fun _ => rfl⟩
  · rintro x b' g c c' rfl e1 e2; exact G.inj _ _ _ _ _ e1 e2
  · rintro x g c rfl e; exact G.own _ _ _ e
  · rintro x rfl _; simp [upd]
  · rintro x g c rfl e; exact G.lo _ _ _ e
  · rintro x g c rfl e b' hj; exact (G.j b' g hj).2.2.2.2.1 _ _ e

/-- A call that takes over a row of the call's own. -/
structure EatRec (P : Program) (nt : Nat) (ops : Array Oper) (r : Rec) : Prop where
  skip : r.skip = false
  run : ∃ (fo : Operand) (args : Array Operand) (ats : Array TypeId) (f : FuncId) (vf : V) (b ver len : Nat) (k : Blk) (es es' : List (List Value)) (rest : List Value) (out : Option Nat),
    r.o.op = .call { callee := .value fo, args := args, argTypes := ats } ∧ r.vals = vf :: .sl b ver 0 len :: rest.map V.val ∧ calleeOf vf = some f ∧ callable P f = true ∧ live r.hr b ver = some k ∧
    k.es = es.map (·.map V.val) ∧ eatB k len es es' = true ∧ EatOk P f k.sz len es rest out es' ∧ r.v = eatV b ver out ∧ r.ups = [(b, eatK k es')]

theorem step_eat_ok {S : Sys} {nt : Nat} {ops : Array Oper} {r : Rec} (h : EatRec P nt ops r) : StepOk P S nt ops r := by
  intro C hCS E0 σ a E Q K hs hf hK
  obtain ⟨hsk, fo, args, ats, f, vf, b, ver, len, k, es, es', rest, out, hop, hvals, hcal, hcb, hlv, hes, hcb2, heat, hrv, hru⟩ := h
  obtain ⟨h1, h2⟩ := fits_hr hf hsk
  unfold wpOp
  rw [hf.op]
  have hw := guard_wanted hs hf.guard
  simp only [hw, hsk, Bool.not_false, if_true]
  left
  have hsub : ∀ b k, r.hr b = some k → E.h b = some k := fun b k hb => by rw [hs.h]; exact h1 b k hb
  have hvals2 := hf.vals hsk
  rw [hop, hvals] at hvals2
  simp only [Op.operands, Call.operands, Array.toList_append, List.singleton_append, List.map_cons, List.cons.injEq] at hvals2
  obtain ⟨hvf, hvs⟩ := hvals2
  have hfv := eval_vr hs fo
  rw [hvf] at hfv
  unfold calleeOf at hcal
  split at hcal
  · rename_i f' fi ca
    split at hcal
    · rename_i hemp
      obtain rfl := Option.some.inj hcal
      simp only [Bool.and_eq_true] at hemp
      have e1 : fi = #[] := by simpa using hemp.1
      have e2 : ca = #[] := by simpa using hemp.2
      subst e1 e2
      have hfv := val_vr hfv
      have hrunop : (execOp a.eval r.o).run P E.w = .ok (.enter f' (args.map a.eval)) E.w := by
        unfold execOp
        rw [hop]
        simp only [resolve, hfv, Deferred.ofValue, Sem.run_bind]
        simp only [pure, Sem.run, Result.andThen, invoke, Array.empty_append, Array.append_empty]
        exact run_callFunc hcb _ _
      unfold Oper.wp
      rw [hrunop]
      simp only [Oper.upon]
      obtain ⟨hk0, hver⟩ := live_some hlv
      have hk1 := hsub _ _ hk0
      simp only [eatB, Bool.and_eq_true, decide_eq_true_eq, List.all_eq_true, beq_iff_eq] at hcb2
      obtain ⟨⟨⟨c1, c2⟩, c3⟩, c4⟩ := hcb2
      -- the arguments
      have hargs : ∃ g c cap, E.ρ b = some (g, c) ∧ args.map a.eval = (Value.slice (some ⟨g, 0, none⟩) len cap :: rest).toArray ∧ cap * k.sz ≤ c ∧ len ≤ cap := by
        have hls : ∀ (l : List Operand) (vs : List V), l.map (evalO σ.s) = vs → ∀ (rs : List Value), vs = rs.map V.val → l.map a.eval = rs := by
          intro l
          induction l with
          | nil => intro vs hv rs hr; subst hv; cases rs with
            | nil => rfl
            | cons => cases hr
          | cons x l ih =>
            intro vs hv rs hr
            subst hv
            cases rs with
            | nil => cases hr
            | cons r rs =>
              simp only [List.map_cons, List.cons.injEq] at hr ⊢
              have hx := eval_vr hs x
              rw [hr.1] at hx
              exact ⟨val_vr hx, ih _ rfl rs hr.2⟩
        cases hl : args.toList with
        | nil => rw [hl] at hvs; cases hvs
        | cons x l =>
          rw [hl] at hvs
          simp only [List.map_cons, List.cons.injEq] at hvs
          have hx := eval_vr hs x
          rw [hvs.1] at hx
          rcases vr_sl hx hk1 hver with ⟨_, _, h0, _⟩ | ⟨g, c, cap, hρ, hxe, hcap, hle⟩
          · omega
          · refine ⟨g, c, cap, hρ, ?_, by simpa using hcap, hle⟩
            apply Array.ext'
            rw [Array.toList_map, hl, List.map_cons, hxe, hls l _ rfl rest hvs.2]
            simp
      obtain ⟨g, c, cap, hρ, hae, hcap, hle⟩ := hargs
      rw [hae]
      rcases hs.good.blk b k hk1 with ⟨h0, _⟩ | ⟨g', cap', b1, b2, b3, b4, b5, b6, b7, b8, b9⟩
      · rw [h0] at hρ; cases hρ
      rw [b1] at hρ; obtain ⟨rfl, rfl⟩ := Prod.mk.inj (Option.some.inj hρ)
      refine (heat E.w g' cap hle b2 (fun i j e v he hv => ?_) (fun j hj => ⟨b3 j (by omega), b4 c1 j (b3 j (by omega))⟩)).mono ?_
      · obtain ⟨⟨x, hx1, hx2⟩, _⟩ := b7 i j (e.map V.val) (.val v) (by rw [hes, List.getElem?_map, he]; rfl) (by rw [List.getElem?_map, hv]; rfl)
        rw [val_vr hx2] at hx1
        exact hx1
      rintro e w' ⟨rfl, q0, q1, q2, q3, q4, q5, q6, q7, q8⟩
      have hfit : es'.length * k.sz ≤ cap' := Nat.le_trans (Nat.mul_le_mul_right _ (Nat.le_trans c3 hle)) hcap
      obtain ⟨G2, X2⟩ := hs.good.eat (k' := eatK k es') hk1 c1 b1 w' q1 q2 q3 q4 q5 q6 q7 rfl rfl c1
        (fun e he => by
          obtain ⟨e0, he0, rfl⟩ := List.mem_map.1 he
          rw [List.length_map]; exact (c4 e0 he0).1)
        (by show (es'.map _).length * k.sz ≤ cap'; rw [List.length_map]; exact hfit)
        (fun i j e c he hj => by
          have he : (es'.map (·.map V.val))[i]? = some e := he
          rw [List.getElem?_map] at he
          simp only [Option.map_eq_some_iff] at he
          obtain ⟨e0, he0, rfl⟩ := he
          rw [List.getElem?_map] at hj
          simp only [Option.map_eq_some_iff] at hj
          obtain ⟨v, hv, rfl⟩ := hj
          exact ⟨⟨v, q8 i j e0 v he0 hv, rfl⟩, (c4 e0 (List.mem_of_getElem? he0)).2 v (List.mem_of_getElem? hv)⟩)
      refine hK _ ⟨w', E.I, E.J, E.ρ, upd E.h b (some (eatK k es'))⟩ ?_
      have hvv : VR ⟨w', E.I, E.J, E.ρ, upd E.h b (some (eatK k es'))⟩ r.v (eatX g' cap out) := by
        rw [hrv]
        cases out with
        | none => exact .clo (.val _)
        | some n =>
          refine .sl b ver 0 n _ (eatK k es') ⟨_, _, _, rfl⟩ (by simp [upd]) (by show ver ≤ k.ver; omega) (fun _ => .inr ⟨g', cap', cap, b1, ?_, by show (0 + cap) * k.sz ≤ cap'; rw [Nat.zero_add]; exact hcap, q0 n rfl⟩)
          show Value.slice (some ⟨g', 0, none⟩) n cap = .slice (some ⟨g', 0 * k.sz, none⟩) n cap
          rw [Nat.zero_mul]
      have hsim := hs.put G2 X2 hf.dst (v := r.v) (y := eatX g' cap out) (h' := upd E.h b (some (eatK k es'))) rfl hvv
      have e : r.app σ = { s := Ai.put σ.s r.o.dst r.v, h := upd E.h b (some (eatK k es')) } := by
        simp only [Rec.app, hru, updAll, hs.h]
      rw [e]
      exact hsim
    · cases hcal
  · cases hcal
end Go.Ai

namespace Go.Ai
open Go Go.RowKit
set_option linter.unusedVariables false
set_option linter.unusedSimpArgs false
variable {C : Cfg} {P : Program} {E E0 : Env}

/-- Where a block of the call's own lies. -/
theorem Good.rlt (G : Good C E) {b g c : Nat} (h : E.ρ b = some (g, c)) : g < E.w.heap.size := by
  obtain ⟨k, hk⟩ := Option.ne_none_iff_exists'.1 (G.has b (by rw [h]; simp))
  rcases G.blk b k hk with ⟨h0, _⟩ | ⟨g', cap, b1, b2, _⟩
  · rw [h0] at h; cases h
  · rw [b1] at h; obtain ⟨rfl, rfl⟩ := Prod.mk.inj (Option.some.inj h); exact b2

/-- A name for lists that are known to be new: its blocks are others from now on. -/
theorem Good.token (G : Good C E) {id : Nat} {k' : Blk} (hv : ∀ k, E.h id = some k → k.ver < k'.ver) (he : k'.es = []) (Jn : Nat → Prop) (w' : World)
    (hsz : E.w.heap.size ≤ w'.heap.size) (hfr : ∀ g, g < E.w.heap.size → ¬ E.J id g → w'.heap[g]? = E.w.heap[g]?)
    (hJn : ∀ g, Jn g → E.w.heap.size ≤ g ∧ g < w'.heap.size ∧ Free w' g) (hos : w'.os = E.w.os) (ht : w'.tape = E.w.tape) (ho : w'.output = E.w.output) :
    Good C ⟨w', E.I, upd E.J id Jn, upd E.ρ id none, upd E.h id (some k')⟩ ∧ Ext E ⟨w', E.I, upd E.J id Jn, upd E.ρ id none, upd E.h id (some k')⟩ := by
  have hI : ∀ g, E.I g → w'.heap[g]? = E.w.heap[g]? := fun g h => hfr g (G.iold g h) (fun hj => (G.j id g hj).2.2.2.1 h)
  have hR : ∀ b g c, E.ρ b = some (g, c) → w'.heap[g]? = E.w.heap[g]? := fun b g c h => hfr g (G.rlt h) (fun hj => (G.j id g hj).2.2.2.2.1 b c h)
  have hJ : ∀ b g, b ≠ id → E.J b g → w'.heap[g]? = E.w.heap[g]? := fun b g hb h => hfr g (G.j b g h).1 (fun hj => hb ((G.j id g hj).2.2.2.2.2 b h))
  have X : Ext E ⟨w', E.I, upd E.J id Jn, upd E.ρ id none, upd E.h id (some k')⟩ := by
    refine ⟨fun g h => h, fun g o h => World.cell?_of_block (a := ⟨g, o, none⟩) (hI g h), fun b k hk => ?_, fun b k k2 hk hk2 e => ?_⟩
    · by_cases hb : b = id
      · subst hb
        have := hv k hk
        exact ⟨k', by simp [upd], by omega, fun e => by omega⟩
      · exact ⟨k, by simp [upd, hb]; exact hk, Nat.le_refl _, fun _ => ⟨rfl, by simp [upd, hb]⟩⟩
    · by_cases hb : b = id
      · subst hb
        simp only [upd, if_true] at hk2
        obtain rfl := Option.some.inj hk2
        have := hv k hk
        omega
      · refine ⟨fun g h => by simp only [upd, hb, if_false]; exact h, fun g o h => World.cell?_of_block (a := ⟨g, o, none⟩) (hJ b g hb h)⟩
  refine ⟨⟨fun b k hk => ?_, fun b b' g c c' h1 h2 => ?_, fun g h => Nat.lt_of_lt_of_le (G.iold g h) hsz, fun g h => ?_, fun b g c h => ?_, fun b h => ?_, hos.trans G.os, ht.trans G.tape, ho.trans G.output, Nat.le_trans G.size hsz, fun g h1 h2 => ?_, fun b g c h => ?_, G.lo0,
    C.S.st _ _ (fun g hg => hfr g (Nat.lt_of_lt_of_le hg (Nat.le_trans G.lo0 G.size)) (fun hj => ?_)) G.u, fun b g hj => ?_⟩, X⟩
  · by_cases hb : b = id
    · subst hb
      simp only [upd, if_true] at hk
      obtain rfl := Option.some.inj hk
      exact .inl ⟨by simp [upd], he⟩
    · simp only [upd, hb, if_false] at hk
      have e : upd E.ρ id none b = E.ρ b := by simp [upd, hb]
      unfold BR
      simp only [e]
      rcases G.blk b k hk with h0 | ⟨g, cap, h1, h2, h3, h4, h5, h6, h7, h8⟩
      · exact .inl h0
      · have hg := hR b g cap h1
        refine .inr ⟨g, cap, h1, Nat.lt_of_lt_of_le h2 hsz, fun j hj => by rw [World.cell?_of_block (a := ⟨g, j, none⟩) hg]; exact h3 j hj, fun hk => (h4 hk).of_block hg, h5, h6, fun i j e c he hj => ?_, h8⟩
        obtain ⟨⟨x, hx, hvx⟩, hok⟩ := h7 i j e c he hj
        exact ⟨⟨x, by rw [World.cell?_of_block (a := ⟨g, _, none⟩) hg]; exact hx, hvx.mono X⟩, hok⟩
  · simp only [upd] at h1 h2
    split at h1
    · cases h1
    · split at h2
      · cases h2
      · exact G.inj b b' g c c' h1 h2
  · rcases G.isub g h with h' | ⟨h1, h2⟩
    · exact .inl h'
    · exact .inr ⟨h1, h2.of_block (hI g h)⟩
  · simp only [upd] at h
    split at h
    · cases h
    · exact G.own b g c h
  · simp only [upd] at h ⊢
    split
    · simp
    · rename_i hb
      rw [if_neg hb] at h
      exact G.has b h
  · rw [hfr g (Nat.lt_of_lt_of_le h1 G.size) (fun hj => by have := (G.j id g hj).2.1; omega)]
    exact G.frame g h1 h2
  · simp only [upd] at h
    split at h
    · cases h
    · exact G.lo b g c h
  · have := (G.j id g hj).2.1
    have := G.lo0
    omega
  · simp only [upd] at hj
    split at hj
    · rename_i hb
      subst hb
      obtain ⟨a1, a2, a3⟩ := hJn g hj
      refine ⟨a2, Nat.le_trans G.size a1, a3, fun hI => ?_, fun b' c hr => ?_, fun b' h => ?_⟩
      · have hI : E.I g := hI
        have := G.iold g hI; omega
      · simp only [upd] at hr
        split at hr
        · cases hr
        · have := G.rlt hr; omega
      · simp only [upd] at h
        split at h
        · rename_i h'; exact h'
        · have := (G.j b' g h).1; omega
    · rename_i hb
      obtain ⟨j1, j2, j3, j4, j5, j6⟩ := G.j b g hj
      refine ⟨Nat.lt_of_lt_of_le j1 hsz, j2, j3.of_block (hJ b g hb hj), j4, fun b' c hr => ?_, fun b' h => ?_⟩
      · simp only [upd] at hr
        split at hr
        · cases hr
        · exact j5 b' c hr
      · simp only [upd] at h
        split at h
        · have := (hJn g h).1; omega
        · exact j6 b' h

/-- Memory has grown alone. -/
theorem Good.grown (G : Good C E) (w' : World) (hsz : E.w.heap.size ≤ w'.heap.size) (hfr : ∀ g, g < E.w.heap.size → w'.heap[g]? = E.w.heap[g]?) (hos : w'.os = E.w.os) (ht : w'.tape = E.w.tape) (ho : w'.output = E.w.output) :
    Good C ⟨w', E.I, E.J, E.ρ, E.h⟩ ∧ Ext E ⟨w', E.I, E.J, E.ρ, E.h⟩ :=
  G.change (E' := ⟨w', E.I, E.J, E.ρ, E.h⟩) (fun _ => False) (fun _ => False) rfl rfl (fun _ _ => ⟨rfl, rfl⟩) (fun _ h => h.elim) hsz (fun g hg _ => hfr g hg) (fun _ _ h => h.elim) (fun _ _ _ h => h.elim)
    (fun _ _ _ _ _ h => h.elim) (fun _ _ _ h => h.elim) (fun _ h => h.elim) (fun _ _ _ h => h.elim) (fun _ _ _ h => h.elim) hos ht ho

theorem good_none {S : Sys} {w : World} {I : Nat → Prop} (hi : ∀ g, I g → g < w.heap.size) (hlo : S.lo ≤ w.heap.size) (hu : S.U w) : Good ⟨S, w, I, []⟩ ⟨w, I, noJ, ρ0 [], h0 []⟩ := by
  have hr : ∀ b, ρ0 [] b = none := fun b => by unfold ρ0; split <;> simp
  have hh : ∀ b, h0 [] b = none := fun b => by unfold h0; split <;> simp
  refine ⟨fun b k hk => ?_, fun b b' g c c' h1 => ?_, hi, fun g hg => .inl hg, fun b g c h => ?_, fun b h => ?_, rfl, rfl, rfl, Nat.le_refl _, fun _ _ _ => rfl, fun b g c h => ?_, hlo, hu, fun _ _ h => h.elim⟩
  · have hk : h0 [] b = some k := hk
    rw [hh] at hk; cases hk
  · have h1 : ρ0 [] b = some (g, c) := h1
    rw [hr] at h1; cases h1
  · have h : ρ0 [] b = some (g, c) := h
    rw [hr] at h; cases h
  · exact absurd (hr b) h
  · have h : ρ0 [] b = some (g, c) := h
    rw [hr] at h; cases h

def clo2 : V → Bool
  | .tup vs => vs.all clo1
  | v => clo1 v
/-- The lists in it, as new ones. -/
def nsf0 (b ver : Nat) : V → V
  | .isl sz es => .nsl b ver sz es
  | v => v
def nsf1 (b ver : Nat) : V → V
  | .agg cs => .agg (cs.map (nsf0 b ver))
  | v => nsf0 b ver v
def nsf (b ver : Nat) : V → V
  | .tup vs => .tup (vs.map (nsf1 b ver))
  | v => nsf1 b ver v
def tokB (ver : Nat) : Blk := { ver := ver, sz := 0, wr := true, cl := true, es := [] }

theorem nsf0_vr {E1 E2 : Env} {b ver : Nat} {k : Blk} (hk : E2.h b = some k) (hver : k.ver = ver) (hJ : E2.J b = E1.I) (hw : E2.w = E1.w) {v : V} {x : Value} (hc : clo0 v = true) (hv : VR E1 v x) : VR E2 (nsf0 b ver v) x := by
  have h5 : CR E1.w E1.I v x := clo0_cr hv hc
  cases v with
  | val u => cases h5; exact .clo (.val _)
  | emp => cases h5 with | emp a => exact .clo (.emp a)
  | isl sz es =>
    refine .nsl b ver sz es x k ?_ hk (by omega) (fun _ => by rw [hw, hJ]; exact h5)
    cases h5; exact ⟨_, _, _, rfl⟩
  | _ => cases hc
theorem nsf1_vr {E1 E2 : Env} {b ver : Nat} {k : Blk} (hk : E2.h b = some k) (hver : k.ver = ver) (hJ : E2.J b = E1.I) (hw : E2.w = E1.w) {v : V} {x : Value} (hc : clo1 v = true) (hv : VR E1 v x) : VR E2 (nsf1 b ver v) x := by
  by_cases ha : ∃ cs, v = .agg cs
  · obtain ⟨cs, rfl⟩ := ha
    obtain ⟨xs, rfl, hs, hx⟩ := vr_agg hv
    simp only [clo1, List.all_eq_true] at hc
    simp only [nsf1]
    refine .agg _ _ (by simp [hs]) (fun j c hj => ?_)
    rw [List.getElem?_map] at hj
    simp only [Option.map_eq_some_iff] at hj
    obtain ⟨c0, hc0, rfl⟩ := hj
    exact nsf0_vr hk hver hJ hw (hc c0 (List.mem_of_getElem? hc0)) (hx j c0 hc0)
  · have e1 : clo1 v = clo0 v := by cases v <;> first | rfl | exact absurd ⟨_, rfl⟩ ha
    have e2 : nsf1 b ver v = nsf0 b ver v := by cases v <;> first | rfl | exact absurd ⟨_, rfl⟩ ha
    rw [e1] at hc; rw [e2]
    exact nsf0_vr hk hver hJ hw hc hv
theorem nsf_vr {E1 E2 : Env} {b ver : Nat} {k : Blk} (hk : E2.h b = some k) (hver : k.ver = ver) (hJ : E2.J b = E1.I) (hw : E2.w = E1.w) {v : V} {x : Value} (hc : clo2 v = true) (hv : VR E1 v x) : VR E2 (nsf b ver v) x := by
  by_cases ha : ∃ cs, v = .tup cs
  · obtain ⟨cs, rfl⟩ := ha
    obtain ⟨xs, rfl, hs, hx⟩ := vr_tup hv
    simp only [clo2, List.all_eq_true] at hc
    simp only [nsf]
    refine .tup _ _ (by simp [hs]) (fun j c hj => ?_)
    rw [List.getElem?_map] at hj
    simp only [Option.map_eq_some_iff] at hj
    obtain ⟨c0, hc0, rfl⟩ := hj
    exact nsf1_vr hk hver hJ hw (hc c0 (List.mem_of_getElem? hc0)) (hx j c0 hc0)
  · have e1 : clo2 v = clo1 v := by cases v <;> first | rfl | exact absurd ⟨_, rfl⟩ ha
    have e2 : nsf b ver v = nsf1 b ver v := by cases v <;> first | rfl | exact absurd ⟨_, rfl⟩ ha
    rw [e1] at hc; rw [e2]
    exact nsf1_vr hk hver hJ hw hc hv

/-- A new list, lent for reading. -/
def lend0 (hr : Nat → Option Blk) : V → V
  | .nsl b ver sz es => match live hr b ver with
    | some _ => .isl sz es
    | none => .any
  | v => v
def lend1 (hr : Nat → Option Blk) : V → V
  | .agg cs => .agg (cs.map (lend0 hr))
  | v => lend0 hr v
def lentI (E : Env) : Nat → Prop := fun g => E.I g ∨ ∃ b, E.J b g
theorem lend0_cr {hr : Nat → Option Blk} (hsub : ∀ b k, hr b = some k → E.h b = some k) {v : V} {x : Value} (hc : clo0 (lend0 hr v) = true) (hv : VR E v x) : CR E.w (lentI E) (lend0 hr v) x := by
  by_cases ha : ∃ b ver sz es, v = .nsl b ver sz es
  · obtain ⟨b, ver, sz, es, rfl⟩ := ha
    simp only [lend0] at hc ⊢
    cases hl : live hr b ver with
    | none => rw [hl] at hc; cases hc
    | some k =>
      obtain ⟨h1, h2⟩ := live_some hl
      have h1 := hsub _ _ h1
      cases hv with
      | clo h => cases h
      | nsl _ _ _ _ _ k2 hs hk hvv hx =>
        rw [h1] at hk
        obtain rfl := Option.some.inj hk
        exact (hx h2.symm).mono (fun g hg => .inr ⟨b, hg⟩) (fun _ _ _ => rfl)
  · have e : lend0 hr v = v := by cases v <;> first | rfl | exact absurd ⟨_, _, _, _, rfl⟩ ha
    rw [e] at hc ⊢
    exact (clo0_cr hv hc).mono (fun g hg => .inl hg) (fun _ _ _ => rfl)
theorem lend1_cr {hr : Nat → Option Blk} (hsub : ∀ b k, hr b = some k → E.h b = some k) {v : V} {x : Value} (hc : clo1 (lend1 hr v) = true) (hv : VR E v x) : CR E.w (lentI E) (lend1 hr v) x := by
  by_cases ha : ∃ cs, v = .agg cs
  · obtain ⟨cs, rfl⟩ := ha
    obtain ⟨xs, rfl, hs, hx⟩ := vr_agg hv
    simp only [lend1, clo1, List.all_eq_true] at hc ⊢
    refine .agg _ _ (by simp [hs]) (fun j c hj => ?_)
    rw [List.getElem?_map] at hj
    simp only [Option.map_eq_some_iff] at hj
    obtain ⟨c0, hc0, rfl⟩ := hj
    exact lend0_cr hsub (hc _ (List.mem_map.2 ⟨c0, List.mem_of_getElem? hc0, rfl⟩)) (hx j c0 hc0)
  · have e2 : lend1 hr v = lend0 hr v := by cases v <;> first | rfl | exact absurd ⟨_, rfl⟩ ha
    rw [e2] at hc ⊢
    refine lend0_cr hsub ?_ hv
    have : ∀ u : V, (¬ ∃ cs, u = .agg cs) → clo1 u = true → clo0 u = true := fun u hu h => by cases u <;> first | exact h | exact absurd ⟨_, rfl⟩ hu
    refine this _ ?_ hc
    rintro ⟨cs, h⟩
    cases v <;> simp only [lend0] at h <;> first | exact ha ⟨_, rfl⟩ | cases h | (split at h <;> cases h)

/-- A function that writes over lists that it is handed, of new blocks alone. -/
def EatNOk (P : Program) (f : FuncId) (sz : Nat) (es : List (List V)) : Prop :=
  ∀ (w : World) (J : Nat → Prop) (x : Value), CR w J (.isl sz es) x → (∀ g, J g → g < w.heap.size ∧ Free w g) →
    Calls P f #[x] w fun e w' => e = .returned (.tuple #[]) ∧ (∀ g, g < w.heap.size → ¬ J g → w'.heap[g]? = w.heap[g]?) ∧ w.heap.size ≤ w'.heap.size ∧ w'.os = w.os ∧ w'.tape = w.tape ∧ w'.output = w.output

/-- What is common to the three kinds of calls: the machine goes into the function. -/
theorem into_ok {S : Sys} {nt : Nat} {ops : Array Oper} {r : Rec} {σ : St} {a : Act} {Q : Exit → Act → World → Prop} {K : Act → World → Prop} (hs : Sim C E0 nt σ a E) (hf : Fits ops nt r σ) (hsk : r.skip = false)
    {fo : Operand} {args : Array Operand} {ats : Array TypeId} {f : FuncId} {vf : V} {vs : List V} (hop : r.o.op = .call { callee := .value fo, args := args, argTypes := ats }) (hvals : r.vals = vf :: vs) (hcal : calleeOf vf = some f) (hcb : callable P f = true)
    (h : (args.map a.eval).size = vs.length → (∀ (j : Nat) v, vs[j]? = some v → VR E v ((args.map a.eval).getD j undef)) → Calls P f (args.map a.eval) E.w fun e w' => ∃ y, e = .returned y ∧ K (a.put r.o.dst y) w') :
    wpOp P ops Q r.i K a E.w := by
  unfold wpOp
  rw [hf.op]
  have hw := guard_wanted hs hf.guard
  simp only [hw, hsk, Bool.not_false, if_true]
  left
  have hvals2 := hf.vals hsk
  rw [hop, hvals] at hvals2
  simp only [Op.operands, Call.operands, Array.toList_append, List.singleton_append, List.map_cons, List.cons.injEq] at hvals2
  obtain ⟨hvf, hvs⟩ := hvals2
  have hfv := eval_vr hs fo
  rw [hvf] at hfv
  unfold calleeOf at hcal
  split at hcal
  · rename_i f' fi ca
    split at hcal
    · rename_i hemp
      obtain rfl := Option.some.inj hcal
      simp only [Bool.and_eq_true] at hemp
      have e1 : fi = #[] := by simpa using hemp.1
      have e2 : ca = #[] := by simpa using hemp.2
      subst e1 e2
      have hfv := val_vr hfv
      have hrunop : (execOp a.eval r.o).run P E.w = .ok (.enter f' (args.map a.eval)) E.w := by
        unfold execOp
        rw [hop]
        simp only [resolve, hfv, Deferred.ofValue, Sem.run_bind]
        simp only [bind, Sem.bind, pure, Sem.run, Result.andThen, invoke, Array.empty_append, Array.append_empty]
        exact run_callFunc hcb _ _
      unfold Oper.wp
      rw [hrunop]
      simp only [Oper.upon]
      have hrel : ∀ (j : Nat) v, vs[j]? = some v → VR E v ((args.map a.eval).getD j undef) := by
        intro j v hj
        rw [← hvs, List.getElem?_map] at hj
        simp only [Option.map_eq_some_iff] at hj
        obtain ⟨x, hx, rfl⟩ := hj
        have : (args.map a.eval).getD j undef = a.eval x := by
          rw [Array.getD_eq_getD_getElem?, Array.getElem?_map, ← Array.getElem?_toList, hx]; rfl
        rw [this]; exact eval_vr hs x
      refine (h (by rw [← hvs]; simp) hrel).mono ?_
      rintro e w' ⟨y, rfl, hK⟩
      exact hK
    · cases hcal
  · cases hcal

/-- A call of values: the lists that it hands back are new. -/
structure NewRec (P : Program) (S : Sys) (nt : Nat) (ops : Array Oper) (r : Rec) : Prop where
  skip : r.skip = false
  run : ∃ (fo : Operand) (args : Array Operand) (ats : Array TypeId) (f : FuncId) (vf : V) (vs : List V) (res : V),
    r.o.op = .call { callee := .value fo, args := args, argTypes := ats } ∧ r.vals = vf :: vs ∧ calleeOf vf = some f ∧ callable P f = true ∧ vs.all ns1 = true ∧
    CallOk P S f vs [] res [] [] ∧ clo2 res = true ∧ r.v = nsf (newId r.site 0) (nextVer r.hr (newId r.site 0)) res ∧ r.ups = [(newId r.site 0, tokB (nextVer r.hr (newId r.site 0)))]

theorem step_new_ok {S : Sys} {nt : Nat} {ops : Array Oper} {r : Rec} (h : NewRec P S nt ops r) : StepOk P S nt ops r := by
  intro C hCS E0 σ a E Q K hs hf hK
  obtain ⟨hsk, fo, args, ats, f, vf, vs, res, hop, hvals, hcal, hcb, hvn, hcall, hclo, hrv, hru⟩ := h
  obtain ⟨h1, h2⟩ := fits_hr hf hsk
  refine into_ok (S := S) hs hf hsk hop hvals hcal hcb (fun hlen hrel => ?_)
  subst hCS
  have G := hs.good
  have hG0 : Good ⟨C.S, E.w, fun _ => False, []⟩ ⟨E.w, fun _ => False, noJ, ρ0 [], h0 []⟩ := good_none (fun _ h => h.elim) (Nat.le_trans G.lo0 G.size) G.u
  refine (hcall E.w (fun _ => False) (args.map a.eval) [] rfl hlen hG0 (fun j v hj => ?_)).mono ?_
  · exact ns1_vr (List.all_eq_true.1 hvn v (List.mem_of_getElem? hj)) (hrel j v hj)
  rintro e w' ⟨y, E', rfl, rfl, G', X', hy, _, _⟩
  have hnv : nextVer r.hr (newId r.site 0) = nextVer E.h (newId r.site 0) := by
    unfold nextVer; rw [h2 0 (by omega), hs.h]
  obtain ⟨G2, X2⟩ := G.token (id := newId r.site 0) (k' := tokB (nextVer r.hr (newId r.site 0))) (fun k hk => by rw [hnv]; exact nextVer_ge hk) rfl E'.I E'.w G'.size (fun g hg _ => G'.frame g hg (by simp))
    (fun g hg => by
      rcases G'.isub g hg with h | h
      · exact h.elim
      · exact ⟨h.1, G'.iold g hg, h.2⟩) G'.os G'.tape G'.output
  refine ⟨y, rfl, hK _ ⟨E'.w, E.I, upd E.J (newId r.site 0) E'.I, upd E.ρ (newId r.site 0) none, upd E.h (newId r.site 0) (some (tokB (nextVer r.hr (newId r.site 0))))⟩ ?_⟩
  have hsim := hs.put G2 X2 hf.dst (v := r.v) (y := y) (h' := upd E.h (newId r.site 0) (some (tokB (nextVer r.hr (newId r.site 0))))) rfl (by
    rw [hrv]
    exact nsf_vr (E1 := E') (E2 := ⟨E'.w, E.I, upd E.J (newId r.site 0) E'.I, upd E.ρ (newId r.site 0) none, upd E.h (newId r.site 0) (some (tokB (nextVer r.hr (newId r.site 0))))⟩) (k := tokB (nextVer r.hr (newId r.site 0))) (by simp [upd]) rfl (by simp [upd]) rfl hclo hy)
  have e : r.app σ = { s := Ai.put σ.s r.o.dst r.v, h := upd E.h (newId r.site 0) (some (tokB (nextVer r.hr (newId r.site 0)))) } := by
    simp only [Rec.app, hru, updAll, hs.h]
  rw [e]
  exact hsim

/-- A call that reads, new lists too, and hands back no list. -/
structure PeekRec (P : Program) (S : Sys) (nt : Nat) (ops : Array Oper) (r : Rec) : Prop where
  skip : r.skip = false
  run : ∃ (fo : Operand) (args : Array Operand) (ats : Array TypeId) (f : FuncId) (vf : V) (vs : List V) (res : V),
    r.o.op = .call { callee := .value fo, args := args, argTypes := ats } ∧ r.vals = vf :: vs ∧ calleeOf vf = some f ∧ callable P f = true ∧
    CallOk P S f (vs.map (lend1 r.hr)) [] res [] [] ∧ (vs.map (lend1 r.hr)).all clo1 = true ∧ ns2 res = true ∧ r.v = res ∧ r.ups = []

theorem step_peek_ok {S : Sys} {nt : Nat} {ops : Array Oper} {r : Rec} (h : PeekRec P S nt ops r) : StepOk P S nt ops r := by
  intro C hCS E0 σ a E Q K hs hf hK
  obtain ⟨hsk, fo, args, ats, f, vf, vs, res, hop, hvals, hcal, hcb, hcall, hclo, hns, hrv, hru⟩ := h
  obtain ⟨h1, h2⟩ := fits_hr hf hsk
  refine into_ok (S := S) hs hf hsk hop hvals hcal hcb (fun hlen hrel => ?_)
  subst hCS
  have G := hs.good
  have hG0 : Good ⟨C.S, E.w, lentI E, []⟩ ⟨E.w, lentI E, noJ, ρ0 [], h0 []⟩ := good_none (fun g hg => by
    rcases hg with hg | ⟨b, hg⟩
    · exact G.iold g hg
    · exact (G.j b g hg).1) (Nat.le_trans G.lo0 G.size) G.u
  refine (hcall E.w (lentI E) (args.map a.eval) [] rfl (by rw [hlen, List.length_map]) hG0 (fun j v hj => ?_)).mono ?_
  · rw [List.getElem?_map] at hj
    simp only [Option.map_eq_some_iff] at hj
    obtain ⟨u, hu, rfl⟩ := hj
    exact .clo (lend1_cr (E := E) (fun b k hb => by rw [hs.h]; exact h1 b k hb) (List.all_eq_true.1 hclo _ (List.mem_map.2 ⟨u, List.mem_of_getElem? hu, rfl⟩)) (hrel j u hu))
  rintro e w' ⟨y, E', rfl, rfl, G', X', hy, _, _⟩
  obtain ⟨G2, X2⟩ := G.grown E'.w G'.size (fun g hg => G'.frame g hg (by simp)) G'.os G'.tape G'.output
  refine ⟨y, rfl, hK _ ⟨E'.w, E.I, E.J, E.ρ, E.h⟩ ?_⟩
  have hsim := hs.put G2 X2 hf.dst (v := r.v) (y := y) (h' := E.h) rfl (by rw [hrv]; exact ns2_vr hns hy)
  have e : r.app σ = { s := Ai.put σ.s r.o.dst r.v, h := E.h } := by
    simp only [Rec.app, hru, updAll, hs.h]
  rw [e]
  exact hsim

/-- A call that writes over a new list: it is gone. -/
structure EatNRec (P : Program) (nt : Nat) (ops : Array Oper) (r : Rec) : Prop where
  skip : r.skip = false
  run : ∃ (fo : Operand) (args : Array Operand) (ats : Array TypeId) (f : FuncId) (vf : V) (b ver sz : Nat) (es : List (List V)) (k : Blk),
    r.o.op = .call { callee := .value fo, args := args, argTypes := ats } ∧ r.vals = [vf, .nsl b ver sz es] ∧ calleeOf vf = some f ∧ callable P f = true ∧ live r.hr b ver = some k ∧
    EatNOk P f sz es ∧ r.v = .val (.tuple #[]) ∧ r.ups = [(b, tokB (ver + 1))]

theorem step_eatn_ok {S : Sys} {nt : Nat} {ops : Array Oper} {r : Rec} (h : EatNRec P nt ops r) : StepOk P S nt ops r := by
  intro C hCS E0 σ a E Q K hs hf hK
  obtain ⟨hsk, fo, args, ats, f, vf, b, ver, sz, es, k, hop, hvals, hcal, hcb, hlv, heat, hrv, hru⟩ := h
  obtain ⟨h1, h2⟩ := fits_hr hf hsk
  refine into_ok (S := S) hs hf hsk hop hvals hcal hcb (fun hlen hrel => ?_)
  have G := hs.good
  obtain ⟨hk0, hver⟩ := live_some hlv
  have hk1 : E.h b = some k := by rw [hs.h]; exact h1 b k hk0
  have hx := hrel 0 _ rfl
  have hcr : CR E.w (E.J b) (.isl sz es) ((args.map a.eval).getD 0 undef) := by
    generalize (args.map a.eval).getD 0 undef = x at hx
    cases hx with
    | clo h => cases h
    | nsl _ _ _ _ _ k2 _ hk _ hx =>
      rw [hk1] at hk
      obtain rfl := Option.some.inj hk
      exact hx hver.symm
  have hargs : args.map a.eval = #[(args.map a.eval).getD 0 undef] := by
    apply Array.ext (by simpa using hlen)
    intro i hi hi2
    have : i = 0 := by simpa using hi2
    subst this
    rw [Array.getD_eq_getD_getElem?, Array.getElem?_eq_getElem hi]; rfl
  rw [hargs]
  refine (heat E.w (E.J b) _ hcr (fun g hg => ⟨(G.j b g hg).1, (G.j b g hg).2.2.1⟩)).mono ?_
  rintro e w' ⟨rfl, q1, q2, q3, q4, q5⟩
  obtain ⟨G2, X2⟩ := G.token (id := b) (k' := tokB (ver + 1)) (fun k3 hk3 => by
    rw [hk1] at hk3
    obtain rfl := Option.some.inj hk3
    show k.ver < ver + 1
    omega) rfl (fun _ => False) w' q2 q1 (fun g h => h.elim) q3 q4 q5
  refine ⟨_, rfl, hK _ ⟨w', E.I, upd E.J b (fun _ => False), upd E.ρ b none, upd E.h b (some (tokB (ver + 1)))⟩ ?_⟩
  have hsim := hs.put G2 X2 hf.dst (v := r.v) (y := .tuple #[]) (h' := upd E.h b (some (tokB (ver + 1)))) rfl (by rw [hrv]; exact .clo (.val _))
  have e : r.app σ = { s := Ai.put σ.s r.o.dst r.v, h := upd E.h b (some (tokB (ver + 1))) } := by
    simp only [Rec.app, hru, updAll, hs.h]
  rw [e]
  exact hsim
end Go.Ai
