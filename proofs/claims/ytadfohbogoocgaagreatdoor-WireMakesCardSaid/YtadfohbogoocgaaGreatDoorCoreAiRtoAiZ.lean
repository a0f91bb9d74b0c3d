/- A part of the proof: what the program does, step by step, over values without addresses. No conditions of mine. -/
import Derived.Test.YtadfohbogoocgaaGreatDoorCoreAitoAiQ
import Derived.Laws.MakeOwn
set_option linter.unusedVariables false
set_option linter.unusedSimpArgs false
namespace Go.Ai
open Go Go.RowKit
variable {C : Cfg} {P : Program} {E : Env}

theorem bytesT_some {T : TypeId} {n : Nat} (h : bytesT P T = some n) : ∃ i, P.info? T = some i ∧ i.bytes = n := by
  unfold bytesT at h
  cases hi : P.info? T with
  | none => rw [hi] at h; cases h
  | some i => rw [hi] at h; exact ⟨i, rfl, Option.some.inj h⟩

theorem replicate_get {z : List V} {n i j : Nat} {e : List V} {c : V} (he : (List.replicate n z)[i]? = some e) (_hj : e[j]? = some c) : e = z ∧ i < n := by
  rw [List.getElem?_replicate] at he
  split at he
  · rename_i h; exact ⟨(Option.some.inj he).symm, h⟩
  · cases he

theorem make_ok (G : Good C E) {site : Nat} {T : TypeId} {l c : V} {x y : Value} {r : V × List (Nat × Blk)} {hr : Nat → Option Blk} (H : HR hr E.h site) (hl : VR E l x) (hc : VR E c y) (h : effMake P site T l c hr = some r) :
    Does C P E (Instr.makeSlice T x y) r := by
  unfold effMake at h
  split at h
  · rename_i Et ln cn hE hln hcn
    obtain ⟨kl, rfl⟩ := natOf_some hl hln
    obtain ⟨kc, rfl⟩ := natOf_some hc hcn
    split at h
    · rename_i n by_ z hn hb hz
      split at h
      · rename_i hcond
        obtain ⟨c1, c2, c3, c4, c5⟩ := hcond
        obtain rfl := Option.some.inj h
        obtain ⟨zv, hz1, hz2, hz3, hz4, hz5⟩ := zeroCs_some hz
        obtain ⟨ie, hie, hzero⟩ := zeroT_some hz1
        obtain ⟨ie', hie', hsz⟩ := sizeT_some hn
        rw [hie] at hie'; obtain rfl := Option.some.inj hie'
        obtain ⟨ie', hie', hby⟩ := bytesT_some hb
        rw [hie] at hie'; obtain rfl := Option.some.inj hie'
        subst hsz
        have h4 : by_ * cn ≤ 281474976710656 := by omega
        have h5 : (ie.bytes : Int) * (cn : Int) ≤ 281474976710656 := by
          rw [hby]
          have := Int.ofNat_le.2 h4
          rw [Int.natCast_mul] at this
          exact this
        have hrun := run_make (P := P) E.w T Et ie zv (elemT_some hE) hie hzero kl kc ln cn (by omega) (by omega) h5 (by omega)
        simp only [Int.toNat_natCast] at hrun
        have hms : (madeCells zv.cells (cn * ie.size)).size = cn * ie.size := size_madeCells _ _
        refine row_ok G H (arr := madeCells zv.cells (cn * ie.size)) (el := Et) (cap := cn) (fr := (0, 0)) (w' := E.w.alloc (.cells (madeCells zv.cells (cn * ie.size)) Et)) (fun e he => ?_) (by rw [List.length_replicate, hms]; exact Nat.le_refl _) (by rw [hms]; exact Nat.le_refl _) c3
          (fun i j e c he hj => ?_) rfl rfl rfl rfl (fun j _ => by simp) hrun
        · obtain ⟨_, rfl⟩ := List.mem_replicate.1 he; exact c1
        · obtain ⟨rfl, hi⟩ := replicate_get he hj
          have hjl := (List.getElem?_eq_some_iff.1 hj).1
          have hlt := flat_lt (i := i) (j := j) (sz := ie.size) (by omega) hi (Nat.le_refl (cn * ie.size))
          have hmod : (i * ie.size + j) % ie.size = j := by rw [Nat.add_comm, Nat.add_mul_mod_self_right]; exact Nat.mod_eq_of_lt (by omega)
          have hjz : j < zv.cells.size := by omega
          have := hz3 E.w E.I j c hj
          simp only [Array.getD_eq_getD_getElem?, Array.getElem?_eq_getElem hjz, Option.getD_some] at this
          refine ⟨⟨zv.cells[j], ?_, .clo this⟩, List.all_eq_true.1 hz4 _ (List.mem_of_getElem? hj), fun _ => List.all_eq_true.1 hz5 _ (List.mem_of_getElem? hj)⟩
          have hzs : zv.cells.size = ie.size := by omega
          have e2 : zv.cells[j]! = zv.cells[j] := getElem!_pos zv.cells j hjz
          rw [← e2]
          simp only [madeCells, Array.getElem?_map, hzs]
          rw [Array.getElem?_eq_getElem (by rw [Array.size_range]; exact hlt)]
          simp [hmod]
      · cases h
    · cases h
  · cases h

/-- A block whose name is used no more. -/
theorem Good.gone (G : Good C E) {b : Nat} {k : Blk} (hk : E.h b = some k) (k' : Blk) (hv : k.ver < k'.ver) (he : k'.es = []) :
    Good C ⟨E.w, E.I, E.J, upd E.ρ b none, upd E.h b (some k')⟩ ∧ Ext E ⟨E.w, E.I, E.J, upd E.ρ b none, upd E.h b (some k')⟩ := by
  refine G.change (E' := ⟨E.w, E.I, E.J, upd E.ρ b none, upd E.h b (some k')⟩) (fun x => x = b) (fun _ => False) rfl rfl (fun x hx => by simp [upd, hx]) (fun _ h => h.elim) (Nat.le_refl _) (fun _ _ _ => rfl) ?_ ?_ ?_ ?_ ?_ ?_ ?_ rfl rfl rfl
  · rintro x y rfl hy
    rw [hk] at hy; obtain rfl := Option.some.inj hy
    exact ⟨k', by simp [upd], by omega, fun e => by omega⟩
  · rintro _ x y rfl hy
    simp only [upd, if_true] at hy
    obtain rfl := Option.some.inj hy
    exact .inl ⟨by simp [upd], he⟩
  · rintro x b' g c c' rfl h1 _; simp [upd] at h1
  · rintro x g c rfl h1; simp [upd] at h1
  · rintro x rfl h1; simp [upd] at h1
  · rintro x g c rfl h1; simp [upd] at h1
  · rintro x g c rfl h1; simp [upd] at h1

/-- A name for nothing: an empty list that lies nowhere. -/
theorem Good.empty (G : Good C E) (id : Nat) (k' : Blk) (hv : k'.ver = nextVer E.h id) (he : k'.es = []) :
    Good C ⟨E.w, E.I, E.J, upd E.ρ id none, upd E.h id (some k')⟩ ∧ Ext E ⟨E.w, E.I, E.J, upd E.ρ id none, upd E.h id (some k')⟩ := by
  refine G.change (E' := ⟨E.w, E.I, E.J, upd E.ρ id none, upd E.h id (some k')⟩) (fun x => x = id) (fun _ => False) rfl rfl (fun x hx => by simp [upd, hx]) (fun _ h => h.elim) (Nat.le_refl _) (fun _ _ _ => rfl) ?_ ?_ ?_ ?_ ?_ ?_ ?_ rfl rfl rfl
  · rintro x y rfl hy
    have := nextVer_ge hy
    exact ⟨k', by simp [upd], by omega, fun e => by omega⟩
  · rintro _ x y rfl hy
    simp only [upd, if_true] at hy
    obtain rfl := Option.some.inj hy
    exact .inl ⟨by simp [upd], he⟩
  · rintro x b' g c c' rfl h1 _; simp [upd] at h1
  · rintro x g c rfl h1; simp [upd] at h1
  · rintro x rfl h1; simp [upd] at h1
  · rintro x g c rfl h1; simp [upd] at h1
  · rintro x g c rfl h1; simp [upd] at h1

/-- In place: the block takes a new name, and cells behind those that it shows. -/
theorem Good.behind (G : Good C E) {b id : Nat} {k k' : Blk} (hk : E.h b = some k) (hwr : k.wr = true) {g cap : Nat} (hρ : E.ρ b = some (g, cap)) (hb2 : b % 2 = 0) (hid : id % 2 = 0) (off : Nat) (xs : List Value)
    (hfit : off + xs.length ≤ cap) (hv : k'.ver = nextVer E.h id) (hw : k'.wr = true) (hs : k'.sz = k.sz)
    (hlen : ∀ e ∈ k'.es, e.length = k'.sz) (hcap : k'.es.length * k'.sz ≤ cap)
    (hcells : ∀ i j e c, k'.es[i]? = some e → e[j]? = some c →
      ((off ≤ i * k.sz + j ∧ i * k.sz + j < off + xs.length ∧ ∃ x, xs[i * k.sz + j - off]? = some x ∧ VR E c x) ∨
       (¬ (off ≤ i * k.sz + j ∧ i * k.sz + j < off + xs.length) ∧ ∃ x, E.w.cell? ⟨g, i * k.sz + j, none⟩ = some x ∧ VR E c x)) ∧ cellOk c = true ∧ (k'.cl = true → clo0 c = true)) :
    Good C ⟨E.w.setCells g off xs, E.I, E.J, upd (upd E.ρ b none) id (some (g, cap)), upd (upd E.h b (some (goneB k))) id (some k')⟩ ∧
    Ext E ⟨E.w.setCells g off xs, E.I, E.J, upd (upd E.ρ b none) id (some (g, cap)), upd (upd E.h b (some (goneB k))) id (some k')⟩ := by
  obtain ⟨s1, s2, s3, s4, s5⟩ := setCells_other g xs off E.w
  rcases G.blk b k hk with ⟨h0, _⟩ | ⟨g', cap', h1, h2, h3, h4, h5, h6, h7, h8, h9⟩
  · rw [h0] at hρ; cases hρ
  rw [h1] at hρ; obtain ⟨rfl, rfl⟩ := Prod.mk.inj (Option.some.inj hρ)
  refine G.change (E' := ⟨E.w.setCells g' off xs, E.I, E.J, upd (upd E.ρ b none) id (some (g', cap')), upd (upd E.h b (some (goneB k))) id (some k')⟩) (fun x => x = b ∨ x = id) (fun x => x = g') rfl rfl ?_ ?_ (by show _ ≤ _; rw [s2]; exact Nat.le_refl _) ?_ ?_ ?_ ?_ ?_ ?_ ?_ ?_ s3 s4 s5
  · intro x hx
    have : x ≠ b ∧ x ≠ id := ⟨fun h => hx (.inl h), fun h => hx (.inr h)⟩
    simp [upd, this]
  · rintro x rfl; exact ⟨b, cap', k, .inl rfl, h1, hk, hwr⟩
  · intro x _ hx; exact s1 x hx
  · intro x y hx hy
    by_cases hxi : x = id
    · subst hxi
      have := nextVer_ge hy
      exact ⟨k', by simp [upd], by omega, fun e => by omega⟩
    · have hxb : x = b := hx.resolve_right hxi
      subst hxb
      rw [hk] at hy; obtain rfl := Option.some.inj hy
      exact ⟨goneB k, by simp [upd, hxi], by simp [goneB], fun e => by simp [goneB] at e⟩
  · intro X x y hx hy
    by_cases hxi : x = id
    · subst hxi
      simp only [upd, if_true] at hy
      obtain rfl := Option.some.inj hy
      have hcell : ∀ j, j < cap' → ¬ (off ≤ j ∧ j < off + xs.length) → (E.w.setCells g' off xs).cell? ⟨g', j, none⟩ = E.w.cell? ⟨g', j, none⟩ := fun j _ hj =>
        World.cell?_setCells_out g' xs off E.w ⟨g', j, none⟩ (fun _ _ => by show j < off ∨ off + xs.length ≤ j; omega)
      have hin : ∀ j (hj : j < xs.length), (E.w.setCells g' off xs).cell? ⟨g', off + j, none⟩ = some xs[j] := fun j hj =>
        World.cell?_setCells_in g' xs off E.w (fun j hj => h3 _ (by omega)) j hj
      refine .inr ⟨g', cap', by simp [upd], by show _ < _; rw [s2]; exact h2, fun j hj => ?_, fun _ j hj => ?_, hlen, hcap, fun i j e c he hj => ?_, fun _ => h8 hwr, fun h => by rw [hw] at h; cases h⟩
      · by_cases hin' : off ≤ j ∧ j < off + xs.length
        · have := hin (j - off) (by omega)
          rw [show off + (j - off) = j by omega] at this
          show (World.cell? _ _).isSome = true
          rw [this]; rfl
        · show (World.cell? _ _).isSome = true
          rw [hcell j hj hin']; exact h3 j hj
      · show World.frozen? _ _ = false
        rw [World.frozen?_setCells]
        refine h4 hwr j ?_
        by_cases hin' : off ≤ j ∧ j < off + xs.length
        · exact h3 j (by omega)
        · have e := World.cell?_setCells_out g' xs off E.w ⟨g', j, none⟩ (fun _ _ => by show j < off ∨ off + xs.length ≤ j; omega)
          have hj' : ((E.w.setCells g' off xs).cell? ⟨g', j, none⟩).isSome = true := hj
          rw [e] at hj'
          exact hj'
      · obtain ⟨hor, hok⟩ := hcells i j e c he hj
        refine ⟨?_, hok⟩
        have hje : j < k.sz := by
          have := hlen e (List.mem_of_getElem? he)
          have hjl := (List.getElem?_eq_some_iff.1 hj).1
          omega
        have hil := (List.getElem?_eq_some_iff.1 he).1
        rw [hs] at hcap ⊢
        have hlt := flat_lt hje hil hcap
        rcases hor with ⟨o1, o2, x, hx, hvx⟩ | ⟨hno, x, hx, hvx⟩
        · refine ⟨x, ?_, hvx.mono X⟩
          have hl := (List.getElem?_eq_some_iff.1 hx).1
          have := hin (i * k.sz + j - off) hl
          rw [show off + (i * k.sz + j - off) = i * k.sz + j by omega] at this
          show World.cell? _ _ = _
          rw [this]
          rw [List.getElem?_eq_getElem hl] at hx
          exact hx
        · refine ⟨x, ?_, hvx.mono X⟩
          show World.cell? _ _ = _
          rw [hcell _ hlt hno]; exact hx
    · have hxb : x = b := hx.resolve_right hxi
      subst hxb
      simp only [upd, hxi, if_false, if_true] at hy
      obtain rfl := Option.some.inj hy
      exact .inl ⟨by simp [upd, hxi], rfl⟩
  · intro x b' g c c' hx e1 e2
    by_cases hxi : x = id
    · subst hxi
      simp only [upd, if_true, Option.some.injEq, Prod.mk.injEq] at e1
      by_cases hb' : b' = x
      · exact hb'.symm
      · simp only [upd, hb', if_false] at e2
        by_cases hbb : b' = b
        · simp [hbb] at e2
        · simp only [hbb, if_false] at e2
          rw [← e1.1] at e2
          exact absurd (G.inj b b' g' cap' c' h1 e2).symm hbb
    · have hxb : x = b := hx.resolve_right hxi
      simp [upd, hxb] at e1
      exact absurd (hxb.trans e1.1) hxi
  · intro x g c hx e1
    by_cases hxi : x = id
    · subst hxi
      simp only [upd, if_true, Option.some.injEq, Prod.mk.injEq] at e1
      rcases G.own b g' cap' h1 with ⟨j, hj, _⟩ | ⟨hge, _⟩
      · omega
      · exact .inr ⟨by omega, hid⟩
    · have hxb : x = b := hx.resolve_right hxi
      simp [upd, hxb] at e1
      exact absurd (hxb.trans e1.1) hxi
  · intro x hx _
    by_cases hxi : x = id
    · simp [upd, hxi]
    · have hxb : x = b := hx.resolve_right hxi
      simp [upd, hxb]
      split <;> simp
  · intro x g c hx e1
    by_cases hxi : x = id
    · subst hxi
      simp only [upd, if_true, Option.some.injEq, Prod.mk.injEq] at e1
      rw [← e1.1]; exact G.lo _ _ _ h1
    · have hxb : x = b := hx.resolve_right hxi
      simp [upd, hxb] at e1
      exact absurd (hxb.trans e1.1) hxi
  · intro x g c hx e1 b' hj
    by_cases hxi : x = id
    · subst hxi
      simp only [upd, if_true, Option.some.injEq, Prod.mk.injEq] at e1
      rw [← e1.1] at hj; exact (G.j b' _ hj).2.2.2.2.1 _ _ h1
    · have hxb : x = b := hx.resolve_right hxi
      simp [upd, hxb] at e1
      exact absurd (hxb.trans e1.1) hxi
end Go.Ai

namespace Go.Ai
open Go Go.RowKit
variable {C : Cfg} {P : Program} {E : Env}

theorem run_bound {k : IntKind} {i y : Nat} (h : i ≤ y) (code : BoundsCode) (w : World) : (Instr.sliceBound (.int k (i : Int)) y code).run P w = .ok i w := by
  have h1 : (0 : Int) ≤ (i : Int) ∧ (i : Int) ≤ (y : Int) := ⟨by omega, by omega⟩
  simp [Instr.sliceBound, asIntOf, h]

theorem bnds_run {lo hi mx : Option Operand} {ev : Operand → V} {ρ : Operand → Value} {l : Nat} {h : Option Nat} {c : Bool} (hrel : ∀ x, VR E (ev x) (ρ x))
    (hb : bnds lo hi mx ((lo.toList ++ hi.toList ++ mx.toList).map ev) = some (l, h, c)) (isS : Bool) (len cap : Nat) (w : World) :
    (c = false → l ≤ h.getD len → h.getD len ≤ cap → (Instr.sliceBounds isS len cap (lo.map ρ) (hi.map ρ) (mx.map ρ)).run P w = .ok (l, h.getD len, cap) w) ∧
    (c = true → l = 0 ∧ h = some 0 ∧ (Instr.sliceBounds isS len cap (lo.map ρ) (hi.map ρ) (mx.map ρ)).run P w = .ok (0, 0, 0) w) := by
  have zero : ∀ (o : Operand), natOf (ev o) = some 0 → ∃ k, ρ o = .int k ((0 : Nat) : Int) := fun o ho => natOf_some (hrel o) ho
  cases lo with
  | none =>
    cases hi with
    | none =>
      cases mx with
      | none =>
        simp [bnds] at hb
        obtain ⟨rfl, rfl, rfl⟩ := hb
        refine ⟨fun _ h1 h2 => ?_, fun h => by cases h⟩
        simp [Instr.sliceBounds]
      | some m => simp [bnds] at hb
    | some ho =>
      cases mx with
      | none =>
        simp [bnds] at hb
        obtain ⟨n, hn, rfl, rfl, rfl⟩ := hb
        obtain ⟨k, hk⟩ := natOf_some (hrel ho) hn
        refine ⟨fun _ h1 h2 => ?_, fun h => by cases h⟩
        simp only [Option.getD_some] at h2
        simp [Instr.sliceBounds, hk, run_bound h2]
      | some m =>
        simp only [bnds, Option.toList_none, Option.toList_some, List.nil_append, List.cons_append, List.map_cons, List.map_nil] at hb
        split at hb
        case isFalse => cases hb
        rename_i hz
        obtain ⟨z1, z2⟩ := hz
        cases hb
        obtain ⟨k1, hk1⟩ := zero _ z1
        obtain ⟨k2, hk2⟩ := zero _ z2
        refine ⟨(fun h => by cases h), fun _ => ⟨rfl, rfl, ?_⟩⟩
        have b1 := fun code => run_bound (P := P) (k := k2) (Nat.zero_le cap) code w
        have b2 := fun code => run_bound (P := P) (k := k1) (Nat.zero_le 0) code w
        simp only [Instr.sliceBounds, Option.map_some, Option.map_none, hk1, hk2, Sem.run_bind, b1, Result.andThen, b2, Sem.run_pure]
  | some lo =>
    cases hi with
    | none =>
      cases mx with
      | none =>
        simp [bnds] at hb
        obtain ⟨n, hn, rfl, rfl, rfl⟩ := hb
        obtain ⟨k, hk⟩ := natOf_some (hrel lo) hn
        refine ⟨fun _ h1 h2 => ?_, fun h => by cases h⟩
        simp only [Option.getD_none] at h1 h2
        simp [Instr.sliceBounds, hk, run_bound h1]
      | some m => simp [bnds] at hb
    | some ho =>
      cases mx with
      | none =>
        simp only [bnds, Option.toList_some, Option.toList_none, List.append_nil, List.cons_append, List.nil_append, List.map_cons, List.map_nil] at hb
        split at hb
        case h_2 => cases hb
        rename_i n m hn hm
        cases hb
        obtain ⟨k, hk⟩ := natOf_some (hrel lo) hn
        obtain ⟨k', hk'⟩ := natOf_some (hrel ho) hm
        refine ⟨fun _ h1 h2 => ?_, fun h => by cases h⟩
        simp only [Option.getD_some] at h1 h2
        simp [Instr.sliceBounds, hk, hk', run_bound h1, run_bound h2]
      | some m =>
        simp only [bnds, Option.toList_some, List.nil_append, List.cons_append, List.map_cons, List.map_nil] at hb
        split at hb
        case isFalse => cases hb
        rename_i hz
        obtain ⟨z0, z1, z2⟩ := hz
        cases hb
        obtain ⟨k0, hk0⟩ := zero _ z0
        obtain ⟨k1, hk1⟩ := zero _ z1
        obtain ⟨k2, hk2⟩ := zero _ z2
        refine ⟨(fun h => by cases h), fun _ => ⟨rfl, rfl, ?_⟩⟩
        have b1 := fun code => run_bound (P := P) (k := k2) (Nat.zero_le cap) code w
        have b2 := fun code => run_bound (P := P) (k := k1) (Nat.zero_le 0) code w
        have b3 := fun code => run_bound (P := P) (k := k0) (Nat.zero_le 0) code w
        simp only [Instr.sliceBounds, Option.map_some, hk0, hk1, hk2, Sem.run_bind, b1, Result.andThen, b2, b3, Sem.run_pure]

theorem slice_ok {T : TypeId} {v r : V} {x : Value} {lo hi mx : Option Operand} {ev : Operand → V} {ρ : Operand → Value} {hr : Nat → Option Blk} {site : Nat} (H : HR hr E.h site) (hv : VR E v x) (hrel : ∀ x, VR E (ev x) (ρ x))
    (h : effSlice P T v (bnds lo hi mx ((lo.toList ++ hi.toList ++ mx.toList).map ev)) hr = some r) : Reads P E (Instr.sliceAt T x (lo.map ρ) (hi.map ρ) (mx.map ρ)) r := by
  unfold effSlice at h
  split at h
  · cases h
  · rename_i l hh c hb
    have hrun := fun isS len cap => bnds_run (E := E) (P := P) hrel hb isS len cap E.w
    split at h
    · rename_i s
      obtain rfl := val_vr hv
      split at h
      · rename_i hu
        split at h
        · cases h
        · rename_i hc
          have hc : c = false := by simpa using hc
          split at h
          · split at h
            · rename_i hle
              obtain rfl := Option.some.inj h
              have := (hrun false s.size s.size).1 hc hle (Nat.le_refl _)
              refine ⟨_, ?_, .clo (.val _)⟩
              have hmx : mx.map ρ = none := by
                subst hc
                cases mx with
                | none => rfl
                | some m => cases lo <;> cases hi <;> simp [bnds] at hb
              rw [hmx] at this ⊢
              simp [Instr.sliceAt, Instr.slice, run_und hu, this]
            · cases h
          · rename_i n
            split at h
            · rename_i hle
              obtain rfl := Option.some.inj h
              have := (hrun false s.size s.size).1 hc hle.1 hle.2
              refine ⟨_, ?_, .clo (.val _)⟩
              have hmx : mx.map ρ = none := by
                subst hc
                cases mx with
                | none => rfl
                | some m => cases lo <;> cases hi <;> simp [bnds] at hb
              rw [hmx] at this ⊢
              simp [Instr.sliceAt, Instr.slice, run_und hu, this]
            · cases h
      · cases h
    · split at h
      · rename_i Et hE
        split at h
        · rename_i hc
          simp only [Option.map_eq_some_iff] at h
          obtain ⟨n, hn, rfl⟩ := h
          have hu := elemT_some hE
          cases hv with
          | clo h => cases h with
            | emp a =>
              have hsz := run_size hn E.w
              cases c with
              | false =>
                have hle : hh.getD 0 = 0 := hc.2
                have := (hrun true 0 0).1 rfl (by omega) (by omega)
                rw [hc.1, hle] at this
                refine ⟨_, by simp [Instr.sliceAt, Instr.slice, run_und hu, this, hsz]; rfl, .clo (.emp _)⟩
              | true =>
                obtain ⟨_, _, this⟩ := (hrun true 0 0).2 rfl
                refine ⟨_, by simp [Instr.sliceAt, Instr.slice, run_und hu, this, hsz]; rfl, .clo (.emp _)⟩
        · cases h
      · cases h
    · rename_i sz es
      split at h
      · rename_i Et hE
        have hu := elemT_some hE
        split at h
        · rename_i hn
          have hsz := run_size hn E.w
          obtain ⟨a, cap, rfl, hcap, hl, hk, ha⟩ := vr_isl hv
          split at h
          · rename_i hc
            obtain rfl := Option.some.inj h
            obtain ⟨_, _, this⟩ := (hrun true es.length cap).2 hc
            refine ⟨_, by simp [Instr.sliceAt, Instr.slice, run_und hu, this, hsz]; rfl, .clo (.emp _)⟩
          · rename_i hc
            have hc : c = false := by simpa using hc
            split at h
            · rename_i hle
              obtain rfl := Option.some.inj h
              have := (hrun true es.length cap).1 hc hle.1 (by omega)
              have hlen : ((es.drop l).take (hh.getD es.length - l)).length = hh.getD es.length - l := by rw [List.length_take, List.length_drop]; omega
              refine ⟨.slice (if cap = l then a else a.map (·.add (l * sz))) (hh.getD es.length - l) (cap - l), ?_, ?_⟩
              · simp [Instr.sliceAt, Instr.slice, run_und hu, this, hsz]
              · have := mk_isl (E := E) (sz := sz) (es := (es.drop l).take (hh.getD es.length - l)) (a := if cap = l then a else a.map (·.add (l * sz))) (cap := cap - l) (by omega)
                  (fun e he => hl e (List.mem_of_mem_drop (List.mem_of_mem_take he))) (fun e he => hk e (List.mem_of_mem_drop (List.mem_of_mem_take he))) (fun hne => ?_)
                · rw [hlen] at this; exact .clo this
                · have hlt : l < es.length := by
                    rcases Nat.lt_or_ge l es.length with h | h
                    · exact h
                    · exact absurd (by rw [List.drop_eq_nil_of_le h]; simp) hne
                  obtain ⟨b, o, rfl, hI, hat⟩ := ha (by intro e0; subst e0; simp at hlt)
                  refine ⟨b, o + l * sz, ?_, hI, fun i e he => ?_⟩
                  · rw [if_neg (by omega)]; simp [add_lit]
                  · rw [List.getElem?_take] at he
                    split at he
                    · rw [List.getElem?_drop] at he
                      have := hat _ e he
                      rwa [Nat.add_mul, ← Nat.add_assoc] at this
                    · cases he
            · cases h
        · cases h
      · cases h
    · rename_i b ver off len
      split at h
      · rename_i Et k hE hk
        have hu := elemT_some hE
        obtain ⟨hk1, hk2⟩ := H.live hk
        split at h
        · rename_i hn
          have hsz := run_size hn E.w
          split at h
          · rename_i hc
            obtain rfl := Option.some.inj h
            rcases vr_sl hv hk1 hk2 with ⟨_, rfl, rfl, a, rfl⟩ | ⟨g, cc, cap, hρ, rfl, hcap, hlen⟩
            · obtain ⟨_, _, this⟩ := (hrun true 0 0).2 hc
              exact ⟨_, by simp [Instr.sliceAt, Instr.slice, run_und hu, this, hsz]; rfl, .clo (.emp _)⟩
            · obtain ⟨_, _, this⟩ := (hrun true len cap).2 hc
              exact ⟨_, by simp [Instr.sliceAt, Instr.slice, run_und hu, this, hsz]; rfl, .clo (.emp _)⟩
          · rename_i hc
            have hc : c = false := by simpa using hc
            split at h
            · rename_i hle
              obtain rfl := Option.some.inj h
              rcases vr_sl hv hk1 hk2 with ⟨_, rfl, rfl, a, rfl⟩ | ⟨g, cc, cap, hρ, rfl, hcap, hlen⟩
              · omega
              · have := (hrun true len cap).1 hc (by omega) (by omega)
                refine ⟨.slice (some ⟨g, (off + l) * k.sz, none⟩) (hh.getD len - l) (cap - l), ?_, .sl _ _ _ _ _ k ⟨_, _, _, rfl⟩ hk1 (by omega) (fun _ => .inr ⟨g, cc, cap - l, hρ, rfl, ?_, by omega⟩)⟩
                · have hne : ¬ cap = l := by omega
                  simp [Instr.sliceAt, Instr.slice, run_und hu, this, hsz, hne, add_lit, Nat.add_mul]
                · rw [show off + l + (cap - l) = off + cap by omega]; exact hcap
            · split at h
              · rename_i hnl hle
                split at h
                · rename_i hz
                  obtain ⟨rfl, rfl, hz⟩ := hz
                  obtain rfl := Option.some.inj h
                  obtain rfl : l = 0 := hle.1
                  rcases vr_sl hv hk1 hk2 with ⟨_, _, rfl, a, rfl⟩ | ⟨g, cc, cap, hρ, rfl, hcap, hlen⟩
                  · omega
                  have := (hrun true len cap).1 hc (by simp) (by simp)
                  refine ⟨.slice (some ⟨g, 0 * k.sz, none⟩) 0 cap, ?_, .sl _ _ _ _ _ k ⟨_, _, _, rfl⟩ hk1 (by omega) (fun _ => .inr ⟨g, cc, cap, hρ, rfl, hcap, Nat.zero_le _⟩)⟩
                  have hne : ¬ cap = 0 := by omega
                  simp at this
                  simp [Instr.sliceAt, Instr.slice, run_und hu, this, hsz, hne, add_lit]
                obtain rfl := Option.some.inj h
                rcases vr_sl hv hk1 hk2 with ⟨_, rfl, rfl, a, rfl⟩ | ⟨g, cc, cap, hρ, rfl, hcap, hlen⟩
                · have := (hrun true 0 0).1 hc (by omega) (by omega)
                  have h0 : hh.getD 0 = 0 := by omega
                  have hl0 : l = 0 := by omega
                  refine ⟨.slice a 0 0, ?_, .clo (CR.isl _ [] a 0 (fun _ _ => undef) (Nat.le_refl _) (fun e he => by simp at he) (fun e he => by simp at he) (fun h => absurd rfl h) (fun i j e c he => by simp at he) (fun i j e c he => by simp at he))⟩
                  simp [Instr.sliceAt, Instr.slice, run_und hu, this, hsz, h0, hl0]
                · have := (hrun true len cap).1 hc (by omega) (by omega)
                  have hd : hh.getD len - l = 0 := by omega
                  refine ⟨.slice (if cap = l then some ⟨g, off * k.sz, none⟩ else (some ⟨g, off * k.sz, none⟩ : Option Addr).map (·.add (l * k.sz))) 0 (cap - l), ?_, .clo (CR.isl _ [] _ _ (fun _ _ => undef) (Nat.zero_le _) (fun e he => by simp at he) (fun e he => by simp at he) (fun h => absurd rfl h) (fun i j e c he => by simp at he) (fun i j e c he => by simp at he))⟩
                  simp [Instr.sliceAt, Instr.slice, run_und hu, this, hsz, hd]
              · cases h
        · cases h
      · cases h
    · cases h
end Go.Ai

namespace Go.Ai
open Go Go.RowKit
variable {C : Cfg} {P : Program} {E : Env}

/-- Cells that lie side by side, as a list of Go's values. -/
theorem At.list {g o : Nat} {cs : List V} (h : At E g o cs) (hok : ∀ c ∈ cs, cellOk c = true) :
    ∃ us : List Value, us.length = cs.length ∧ (∀ (j : Nat) u, us[j]? = some u → E.w.cell? ((⟨g, o, none⟩ : Addr).add j) = some u) ∧ (∀ u ∈ us, u.oneCell' = true) ∧
      ∀ (j : Nat) c, cs[j]? = some c → ∃ u, us[j]? = some u ∧ VR E c u := by
  induction cs generalizing o with
  | nil => exact ⟨[], rfl, fun j u h => by simp at h, fun u h => by simp at h, fun j c h => by simp at h⟩
  | cons c cs ih =>
    obtain ⟨u, h1, h2⟩ := h 0 c rfl
    obtain ⟨us, k1, k2, k3, k4⟩ := ih (o := o + 1) (by simpa using h.drop 1) (fun c hc => hok c (by simp [hc]))
    refine ⟨u :: us, by simp [k1], fun j v hv => ?_, fun v hv => ?_, fun j d hd => ?_⟩
    · cases j with
      | zero => simp at hv; subst hv; rw [cell_add]; exact h1
      | succ j =>
        simp at hv
        have := k2 j v hv
        rw [cell_add] at this ⊢
        rwa [show o + (j + 1) = o + 1 + j by omega]
    · simp at hv
      rcases hv with rfl | hv
      · exact (cell_one h2 (hok c (by simp))).1
      · exact k3 v hv
    · cases j with
      | zero => simp at hd; subst hd; exact ⟨u, rfl, h2⟩
      | succ j => simp at hd; exact k4 j d hd

structure Adds (E : Env) (P : Program) (sz : Nat) (X : TypeId) (y : Value) (xs : List (List V)) (cx : Bool) (news : List Value) : Prop where
  src : Src P sz X y xs.length news E.w
  len : ∀ e ∈ xs, e.length = sz
  rel : ∀ (i j : Nat) e c, xs[i]? = some e → e[j]? = some c → (∃ u, news[i * sz + j]? = some u ∧ VR E c u) ∧ cellOk c = true ∧ (cx = true → clo0 c = true)

theorem src_ok (G : Good C E) {sz : Nat} {X : TypeId} {x : V} {y : Value} {xs : List (List V)} {cx : Bool} {hr : Nat → Option Blk} {site : Nat} (H : HR hr E.h site) (hv : VR E x y) (h : srcOf P sz X x hr = some (xs, cx)) :
    ∃ news, Adds E P sz X y xs cx news := by
  unfold srcOf at h
  split at h
  · rename_i e hu
    obtain ⟨a, cap, rfl, h1, h2, h3, h4⟩ := seen_ok G H hv h
    by_cases hne : xs = []
    · subst hne
      refine ⟨[], ?_, fun e he => by simp at he, fun i j e c he => by simp at he⟩
      cases a with
      | none => exact Src.ofNil E.w hu cap
      | some a => exact Src.ofSlice E.w hu a 0 cap [] (by simp) (fun j u hj => by simp at hj) (fun u hu => by simp at hu)
    · obtain ⟨b, o, rfl, hat⟩ := h4 hne
      have hflat := flat_at h2 hat
      obtain ⟨us, k1, k2, k3, k4⟩ := hflat.list (fun c hc => by obtain ⟨l, hl, hcl⟩ := List.mem_flatten.1 hc; exact (h3 l hl c hcl).1)
      refine ⟨us, Src.ofSlice E.w hu _ _ cap us (by rw [k1, flatten_len h2]) k2 k3, h2, fun i j e c he hj => ⟨?_, ?_⟩⟩
      · have hjl := (List.getElem?_eq_some_iff.1 hj).1
        have hel := h2 e (List.mem_of_getElem? he)
        exact k4 _ c (by rw [flatten_get h2 i j e he (by omega)]; exact hj)
      · exact h3 e (List.mem_of_getElem? he) c (List.mem_of_getElem? hj)
  · rename_i hu
    split at h
    · rename_i t
      obtain rfl := val_vr hv
      split at h
      · rename_i hs
        subst hs
        obtain ⟨rfl, rfl⟩ := Prod.mk.inj (Option.some.inj h)
        refine ⟨Go.byteCells t, ?_, fun e he => ?_, fun i j e c he hj => ?_⟩
        · rw [bytes_length]; exact Src.ofString E.w hu t
        · unfold Ai.byteCells at he; obtain ⟨b, _, rfl⟩ := List.mem_map.1 he; rfl
        · obtain ⟨hi, rfl, rfl⟩ := bytes_get t i j e c he hj
          refine ⟨⟨.int .u8 t[i].toNat, ?_, .clo (.val _)⟩, rfl, fun _ => rfl⟩
          have hds : t.data.size = t.size := rfl
          have h2 : t.data.toList[i]? = some t[i] := by
            rw [List.getElem?_eq_getElem (by simpa [hds] using hi)]
            rfl
          unfold Go.byteCells
          rw [Nat.mul_one, Nat.add_zero, List.getElem?_map, h2]; rfl
      · cases h
    · cases h
  · cases h

theorem append_get {es xs : List (List V)} {i : Nat} {e : List V} (h : (es ++ xs)[i]? = some e) : (i < es.length ∧ es[i]? = some e) ∨ (es.length ≤ i ∧ xs[i - es.length]? = some e) := by
  by_cases hi : i < es.length
  · rw [List.getElem?_append_left hi] at h; exact .inl ⟨hi, h⟩
  · rw [List.getElem?_append_right (by omega)] at h; exact .inr ⟨by omega, h⟩

theorem nil_cells (a : Option Addr) (n : Nat) (w : World) : (Builtin.firstCells n 0 (.slice a 0 0)).run P w = .ok ([] : List Value).toArray w := by
  cases a with
  | none => rfl
  | some a => simp [Builtin.firstCells, loadCells, loadCellsFrom]

theorem grow_fits {need old bytes : Nat} (h : old < need) (hb : need * bytes ≤ 2 ^ 47) : Builtin.nextslicecap need old * bytes ≤ 281474976710656 := growslice_fits h (by omega)

/-- A new row: what was there, what is appended, and zeros. -/
theorem grown_ok (G : Good C E) {site len old : Nat} {s : Sem Value} {ie : TypeInfo} {Et : TypeId} {z : Value} {hr : Nat → Option Blk} (H : HR hr E.h site) {es xs : List (List V)} {cl : Bool} {olds news : List Value}
    (hzs : z.cells.size = ie.size) (hel : es.length = len) (hlen : ∀ e ∈ es ++ xs, e.length = ie.size) (holds : olds.length = len * ie.size) (hnews : news.length = xs.length * ie.size)
    (h1 : ∀ (i j : Nat) e c, es[i]? = some e → e[j]? = some c → (∃ u, olds[i * ie.size + j]? = some u ∧ VR E c u) ∧ cellOk c = true ∧ (cl = true → clo0 c = true))
    (h2 : ∀ (i j : Nat) e c, xs[i]? = some e → e[j]? = some c → (∃ u, news[i * ie.size + j]? = some u ∧ VR E c u) ∧ cellOk c = true ∧ (cl = true → clo0 c = true))
    (hrun : s.run P E.w = .ok (.slice (some ⟨E.w.heap.size, 0, none⟩) (len + xs.length) (grownCap E.w (len + xs.length) old Et))
      (E.w.drew.alloc (.cells ((olds ++ news).toArray ++ Builtin.zeroCells z.cells (grownCap E.w (len + xs.length) old Et - (len + xs.length))) Et))) :
    Does C P E s (.sl (newId site 0) (nextVer hr (newId site 0)) 0 (len + xs.length), [mk hr (newId site 0) ie.size cl (es ++ xs)]) := by
  have hge := grownCap_ge E.w (len + xs.length) old Et
  generalize grownCap E.w (len + xs.length) old Et = cap at hge hrun
  have hsize : ((olds ++ news).toArray ++ Builtin.zeroCells z.cells (cap - (len + xs.length))).size = cap * ie.size := by
    simp only [Array.size_append, List.size_toArray, List.length_append, size_zeroCells, hzs, holds, hnews, ← Nat.add_mul]
    congr 1; omega
  refine row_ok G H (arr := (olds ++ news).toArray ++ Builtin.zeroCells z.cells (cap - (len + xs.length))) (el := Et) (cap := cap) (fr := (0, 0)) (w' := E.w.drew.alloc (.cells ((olds ++ news).toArray ++ Builtin.zeroCells z.cells (cap - (len + xs.length))) Et))
    hlen (by rw [hsize, List.length_append, hel]; exact Nat.mul_le_mul_right _ hge) (by rw [hsize]; exact Nat.le_refl _) hge (fun i j e c he hj => ?_) rfl rfl rfl rfl (fun j _ => by simp) hrun
  have hjl := (List.getElem?_eq_some_iff.1 hj).1
  have hesz := hlen e (List.mem_of_getElem? he)
  have hget : ∀ n, n < olds.length + news.length → ((olds ++ news).toArray ++ Builtin.zeroCells z.cells (cap - (len + xs.length)))[n]? = (olds ++ news)[n]? := by
    intro n hn
    rw [Array.getElem?_append_left (by simpa using hn)]
    simp
  rcases append_get he with ⟨hi, he'⟩ | ⟨hi, he'⟩
  · obtain ⟨⟨u, hu, hv⟩, hok⟩ := h1 i j e c he' hj
    have hlt := (List.getElem?_eq_some_iff.1 hu).1
    exact ⟨⟨u, by rw [hget _ (by omega), List.getElem?_append_left hlt]; exact hu, hv⟩, hok⟩
  · obtain ⟨⟨u, hu, hv⟩, hok⟩ := h2 _ j e c he' hj
    have hlt := (List.getElem?_eq_some_iff.1 hu).1
    rw [hel] at hi hu hlt
    have e1 : i * ie.size + j = olds.length + ((i - len) * ie.size + j) := by
      rw [holds, ← Nat.add_assoc, ← Nat.add_mul]; congr 2; omega
    exact ⟨⟨u, by rw [hget _ (by omega), e1, List.getElem?_append_right (by omega), show olds.length + ((i - len) * ie.size + j) - olds.length = (i - len) * ie.size + j by omega]; exact hu, hv⟩, hok⟩

theorem Does.then_gone {s : Sem Value} {v : V} {b id : Nat} {k B : Blk} (hk : E.h b = some k) (h : Does C P E s (v, [(id, B)])) : Does C P E s (v, [(b, goneB k), (id, B)]) := by
  obtain ⟨y, w', ρ', h1, h2, h3, h4⟩ := h
  by_cases hb : b = id
  · subst hb
    have e : updAll E.h [(b, goneB k), (b, B)] = updAll E.h [(b, B)] := by
      funext x; simp only [updAll, upd]; split <;> rfl
    exact ⟨y, w', ρ', h1, by rw [e]; exact h2, by rw [e]; exact h3, by rw [e]; exact h4⟩
  · have e : updAll E.h [(b, goneB k), (id, B)] = upd (updAll E.h [(id, B)]) b (some (goneB k)) := by
      funext x
      simp only [updAll, upd]
      by_cases h1 : x = id
      · subst h1; rw [if_pos rfl, if_neg (fun h => hb h.symm), if_pos rfl]
      · rw [if_neg h1, if_neg h1]
    have hk' : (⟨w', E.I, E.J, ρ', updAll E.h [(id, B)]⟩ : Env).h b = some k := by
      show updAll E.h [(id, B)] b = some k
      simp only [updAll, upd]; rw [if_neg hb]; exact hk
    have F := h2.gone hk' (goneB k) (by simp [goneB]) rfl
    refine ⟨y, w', upd ρ' b none, h1, ?_, ?_, ?_⟩
    · rw [e]; exact F.1
    · rw [e]; exact h3.trans F.2
    · rw [e]; exact h4.mono F.2

/-- No room: whatever lay there, a new row. -/
theorem append_grow_ok (G : Good C E) {site len old : Nat} {S X ty Et : TypeId} {base : Option Addr} {yx : Value} {ie : TypeInfo} {z : Value} {hr : Nat → Option Blk} (H : HR hr E.h site) {es xs : List (List V)} {cl cx : Bool} {olds news : List Value}
    (hE : P.underlying S = some (.slice Et)) (hie : P.info? Et = some ie) (hz : ie.zero = some z) (A : Adds E P ie.size X yx xs cx news)
    (hzs : z.cells.size = ie.size) (hel : es.length = len) (hlen : ∀ e ∈ es, e.length = ie.size) (holds : olds.length = len * ie.size)
    (hold : (Builtin.firstCells ie.size len (.slice base len old)).run P E.w.drew = .ok olds.toArray E.w.drew)
    (h1 : ∀ (i j : Nat) e c, es[i]? = some e → e[j]? = some c → (∃ u, olds[i * ie.size + j]? = some u ∧ VR E c u) ∧ cellOk c = true ∧ (cl = true → clo0 c = true))
    (hcl : cl = true → cx = true) (hg : old < len + xs.length) (h47 : (len + xs.length) * ie.bytes ≤ 2 ^ 47) (hb : 0 < ie.bytes) :
    Does C P E (Builtin.append_ #[S, X] ty #[.slice base len old, yx]) (.sl (newId site 0) (nextVer hr (newId site 0)) 0 (len + xs.length), [mk hr (newId site 0) ie.size cl (es ++ xs)]) := by
  have hmul : (len + xs.length) * 1 ≤ (len + xs.length) * ie.bytes := Nat.mul_le_mul_left _ hb
  have hrun := run_append_grow_src (P := P) E.w S X ty Et ie z hE hie hz base len old olds hold yx xs.length news A.src hg (by omega) (grow_fits hg h47)
  exact grown_ok (C := C) (z := z) G H hzs hel (fun e he => (List.mem_append.1 he).elim (hlen e) (A.len e)) holds A.src.newsLen h1 (fun i j e c he hj => by
    obtain ⟨q1, q2, q3⟩ := A.rel i j e c he hj
    exact ⟨q1, q2, fun h => q3 (hcl h)⟩) hrun

/-- Nothing lay anywhere. -/
theorem append_nil_ok (G : Good C E) {site : Nat} {S X ty Et : TypeId} {a : Option Addr} {yx : Value} {ie : TypeInfo} {z : Value} {hr : Nat → Option Blk} (H : HR hr E.h site) {xs : List (List V)} {cl cx : Bool} {news : List Value}
    (hE : P.underlying S = some (.slice Et)) (hie : P.info? Et = some ie) (hz : ie.zero = some z) (A : Adds E P ie.size X yx xs cx news)
    (hzs : z.cells.size = ie.size) (hcl : cl = true → cx = true) (h47 : xs.length * ie.bytes ≤ 2 ^ 47) (hb : 0 < ie.bytes) :
    Does C P E (Builtin.append_ #[S, X] ty #[.slice a 0 0, yx]) (.sl (newId site 0) (nextVer hr (newId site 0)) 0 xs.length, [mk hr (newId site 0) ie.size cl xs]) := by
  by_cases hn : xs.length = 0
  · have hx0 : xs = [] := List.eq_nil_of_length_eq_zero hn
    subst hx0
    have F := G.empty (newId site 0) { ver := nextVer hr (newId site 0), sz := ie.size, wr := true, cl := cl, es := [] } H.next rfl
    refine ⟨.slice a 0 0, E.w, _, ?_, F.1, F.2, .sl _ _ _ _ _ _ ⟨_, _, _, rfl⟩ (by simp [updAll, mk, upd]; rfl) (Nat.le_refl _) (fun _ => .inl ⟨by simp [upd], rfl, rfl, a, rfl⟩)⟩
    have hl : ∀ w' : World, (Builtin.lenOf yx).run P w' = .ok 0 w' := A.src.len
    have hnn : news = [] := List.eq_nil_of_length_eq_zero (by rw [A.src.newsLen]; simp)
    subst hnn
    have hce : (Builtin.firstCells ie.size 0 yx).run P E.w = .ok #[] E.w := A.src.cells
    rcases A.src.kind with ⟨e', hk⟩ | hk
    · cases a <;> simp [Builtin.append_, run_und hE, run_und hk, sizeOf, typeInfo, hie, hl, hce, storeCells]
    · cases a <;> simp [Builtin.append_, run_und hE, run_und hk, sizeOf, typeInfo, hie, hl, hce, storeCells]
  · have := append_grow_ok (es := []) (len := 0) (old := 0) (olds := []) (ty := ty) G H hE hie hz A hzs rfl (fun e he => by simp at he) (by simp) (nil_cells a _ _) (fun i j e c he => by simp at he) hcl (by omega) (by simpa using h47) hb
    simpa using this

/-- There is room. -/
theorem append_room_ok (G : Good C E) {site len cap b g : Nat} {cap' : Nat} {S X ty Et : TypeId} {yx : Value} {ie : TypeInfo} {k : Blk} {hr : Nat → Option Blk} (H : HR hr E.h site) {xs : List (List V)} {cx : Bool} {news : List Value}
    (hE : P.underlying S = some (.slice Et)) (hie : P.info? Et = some ie) (A : Adds E P ie.size X yx xs cx news) (hk1 : E.h b = some k) (hwr : k.wr = true) (hsz : k.sz = ie.size) (hb2 : b % 2 = 0) (hρ : E.ρ b = some (g, cap')) (hcap : cap * ie.size ≤ cap')
    (hlen : len ≤ k.es.length) (hroom : len + xs.length ≤ cap) :
    Does C P E (Builtin.append_ #[S, X] ty #[.slice (some ⟨g, 0, none⟩) len cap, yx]) (.sl (newId site 0) (nextVer hr (newId site 0)) 0 (len + xs.length), [(b, goneB k), mk hr (newId site 0) ie.size (k.cl && cx) (k.es.take len ++ xs)]) := by
  have htl : (k.es.take len).length = len := by rw [List.length_take]; omega
  rcases G.blk b k hk1 with ⟨h0, _⟩ | ⟨g', cap'', h1, h2, h3, h4, h5, h6, h7, h8, h9⟩
  · rw [h0] at hρ; cases hρ
  rw [h1] at hρ; obtain ⟨rfl, rfl⟩ := Prod.mk.inj (Option.some.inj hρ)
  rw [hsz] at h5 h7
  have hn0 : news.length = xs.length * ie.size := A.src.newsLen
  have hfit : len * ie.size + news.length ≤ cap'' := by
    rw [hn0, ← Nat.add_mul]; exact Nat.le_trans (Nat.mul_le_mul_right _ hroom) hcap
  have hrun := run_append_room_src (P := P) E.w S X ty Et ie hE hie g' 0 len cap yx xs.length news A.src hroom (fun j hj => h3 _ (by omega)) (fun j hj => h4 hwr _ (h3 _ (by omega)))
  simp only [Nat.zero_add] at hrun
  have F := G.behind (k' := { ver := nextVer hr (newId site 0), sz := ie.size, wr := true, cl := k.cl && cx, es := k.es.take len ++ xs }) hk1 hwr h1 hb2 (newId_even site 0) (len * ie.size) news hfit H.next rfl hsz.symm
    (fun e he => by
      rcases List.mem_append.1 he with he | he
      · exact h5 e (List.mem_of_mem_take he)
      · exact A.len e he)
    (by show (k.es.take len ++ xs).length * ie.size ≤ cap''; rw [List.length_append, htl, Nat.add_mul, ← hn0]; exact hfit)
    (fun i j e c he hj => by
      rw [hsz]
      have he : (k.es.take len ++ xs)[i]? = some e := he
      have hjl := (List.getElem?_eq_some_iff.1 hj).1
      rcases append_get he with ⟨hi, he'⟩ | ⟨hi, he'⟩
      · rw [htl] at hi
        rw [List.getElem?_take, if_pos hi] at he'
        have hesz := h5 e (List.mem_of_getElem? he')
        obtain ⟨hx, hok, hc0⟩ := h7 i j e c he' hj
        have : i * ie.size + j < len * ie.size := flat_lt (by omega) hi (Nat.le_refl _)
        exact ⟨.inr ⟨by omega, hx⟩, hok, fun h => hc0 (by have h : (k.cl && cx) = true := h; simp only [Bool.and_eq_true] at h; exact h.1)⟩
      · rw [htl] at hi he'
        have hesz := A.len e (List.mem_of_getElem? he')
        obtain ⟨⟨u, hu1, hu2⟩, hok, hc0⟩ := A.rel _ j e c he' hj
        have hlt := (List.getElem?_eq_some_iff.1 hu1).1
        have e1 : i * ie.size + j = len * ie.size + ((i - len) * ie.size + j) := by
          rw [← Nat.add_assoc, ← Nat.add_mul]; congr 2; omega
        exact ⟨.inl ⟨by omega, by omega, u, by rw [e1, show len * ie.size + ((i - len) * ie.size + j) - len * ie.size = (i - len) * ie.size + j by omega]; exact hu1, hu2⟩, hok, fun h => hc0 (by have h : (k.cl && cx) = true := h; simp only [Bool.and_eq_true] at h; exact h.2)⟩)
  refine ⟨_, _, _, hrun, F.1, F.2, .sl _ _ _ _ _ { ver := nextVer hr (newId site 0), sz := ie.size, wr := true, cl := k.cl && cx, es := k.es.take len ++ xs } ⟨_, _, _, rfl⟩ (by simp [updAll, mk, upd]) (Nat.le_refl _) (fun _ => .inr ⟨g', cap'', cap, by simp [upd], by simp, by simpa using hcap, hroom⟩)⟩

/-- Nothing lay anywhere, and so many zeros are put behind it. -/
theorem append_zeros_ok (G : Good C E) {site : Nat} {n : Int} {S X ty Et : TypeId} {a : Option Addr} {ie : TypeInfo} {z : Value} {zl : List V} {hr : Nat → Option Blk} (H : HR hr E.h site)
    (hE : P.underlying S = some (.slice Et)) (hX : P.underlying X = some (.int .i64)) (hie : P.info? Et = some ie) (hz : ie.zero = some z) (hzl : zl.length = ie.size) (hzs : z.cells.size = ie.size)
    (hzr : ∀ (w : World) (I : Nat → Prop) (j : Nat) c, zl[j]? = some c → CR w I c (z.cells.getD j undef)) (hzo : zl.all cellOk = true) (hzc : zl.all clo0 = true)
    (h0 : 0 < n) (hs : 0 < ie.size) (hb : 0 < ie.bytes) (h47 : n.toNat * ie.bytes ≤ 2 ^ 47) :
    Does C P E (Builtin.append_ #[S, X] ty #[.slice a 0 0, .int .i64 n]) (.sl (newId site 0) (nextVer hr (newId site 0)) 0 n.toNat, [mk hr (newId site 0) ie.size true (List.replicate n.toNat zl)]) := by
  obtain ⟨N, rfl⟩ : ∃ N : Nat, n = (N : Int) := ⟨n.toNat, by omega⟩
  simp only [Int.toNat_natCast] at h47 ⊢
  have hN : 0 < N := by omega
  have hmul : N * 1 ≤ N * ie.bytes := Nat.mul_le_mul_left _ hb
  have hNi : (N : Int) ≤ 140737488355328 := by omega
  have hwrap : IntKind.i64.wrap (N : Int) = (N : Int) := by simp only [IntKind.wrap, IntKind.signed, IntKind.bits]; simp; omega
  have hbi : ((N : Int) * (ie.bytes : Int)) ≤ 140737488355328 := by
    have : ((N * ie.bytes : Nat) : Int) ≤ 140737488355328 := by omega
    simpa using this
  have hsz : (Builtin.zeroCells z.cells N).toList.length = N * ie.size := by simp [hzs, Builtin.zeroCells]
  have hpos : ¬ N * ie.size = 0 := by
    have := Nat.mul_pos hN hs; omega
  have hrun : (Builtin.append_ #[S, X] ty #[.slice a 0 0, .int .i64 (N : Int)]).run P E.w = .ok (.slice (some ⟨E.w.heap.size, 0, none⟩) (0 + (List.replicate N zl).length) (grownCap E.w (0 + (List.replicate N zl).length) 0 Et))
      (E.w.drew.alloc (.cells ((([] : List Value) ++ (Builtin.zeroCells z.cells N).toList).toArray ++ Builtin.zeroCells z.cells (grownCap E.w (0 + (List.replicate N zl).length) 0 Et - (0 + (List.replicate N zl).length))) Et)) := by
    have hfit := grow_fits (need := N) (old := 0) (bytes := ie.bytes) hN h47
    have h1 : ¬ ((N : Int) < 0) := by omega
    have h2 : ¬ (281474976710656 < (N : Int) * (ie.bytes : Int)) := by omega
    have h3 : ¬ (9223372036854775807 < (N : Int)) := by omega
    have h4 : ¬ (281474976710656 < Builtin.nextslicecap N 0 * ie.bytes) := by omega
    have h5 : ¬ N = 0 := by omega
    have h6 : ¬ ie.size = 0 := by omega
    cases a <;> simp [Builtin.append_, run_und hE, run_und hX, sizeOf, typeInfo, zeroValue, hie, hz, asInt, asIntOf, hwrap, h1, h2, h3, h4, h5, h6, Question.forced, Builtin.firstCells, loadCells, loadCellsFrom, newRow, grownCap] <;> exact fun h => absurd h hpos
  have := grown_ok (C := C) (z := z) (es := []) (len := 0) (old := 0) (olds := []) (news := (Builtin.zeroCells z.cells N).toList) (xs := List.replicate N zl) (cl := true) (ie := ie) (Et := Et) (site := site) (hr := hr) G H hzs rfl
    (fun e he => by simp at he; rw [he.2, hzl]) (by simp) (by simp [hsz]) (fun i j e c he => by simp at he) (fun i j e c he hj => by
      have he := he
      rw [List.getElem?_replicate] at he
      split at he
      · rename_i hi
        obtain rfl := Option.some.inj he
        have hjl := (List.getElem?_eq_some_iff.1 hj).1
        have hlt : i * ie.size + j < N * ie.size := flat_lt (by omega) hi (Nat.le_refl _)
        have hmod : (i * ie.size + j) % ie.size = j := by rw [Nat.add_comm, Nat.add_mul_mod_self_right]; exact Nat.mod_eq_of_lt (by omega)
        refine ⟨⟨z.cells.getD j undef, ?_, .clo (hzr _ _ j c hj)⟩, List.all_eq_true.1 hzo _ (List.mem_of_getElem? hj), fun _ => List.all_eq_true.1 hzc _ (List.mem_of_getElem? hj)⟩
        have hjs : j < z.cells.size := by omega
        have h2 : z.cells[j]! = z.cells[j] := getElem!_pos z.cells j hjs
        simp [Builtin.zeroCells, hzs, hlt, hmod, Array.getD, hjs, show j < ie.size by omega, h2]
      · cases he) hrun
  simpa using this

theorem append_ok (G : Good C E) {site : Nat} {S X ty : TypeId} {s x : V} {ys yx : Value} {r : V × List (Nat × Blk)} {hr : Nat → Option Blk} (H : HR hr E.h site) (hs : VR E s ys) (hx : VR E x yx) (h : effAppend P site S X s x hr = some r) :
    Does C P E (Builtin.append_ #[S, X] ty #[ys, yx]) r := by
  unfold effAppend at h
  split at h
  · cases h
  rename_i Et hE
  have hu := elemT_some hE
  split at h
  · rename_i sz by_ zl hsz hby hzl
    obtain ⟨zv, hz1, hz2, hz3, hz4, hz5⟩ := zeroCs_some hzl
    obtain ⟨ie, hie, rfl⟩ := sizeT_some hsz
    obtain ⟨ie', hie', rfl⟩ := bytesT_some hby
    rw [hie] at hie'; obtain rfl := Option.some.inj hie'
    obtain ⟨ie', hie', hzero⟩ := zeroT_some hz1
    rw [hie] at hie'; obtain rfl := Option.some.inj hie'
    split at h
    · split at h
      · rename_i n hX hsn
        split at h
        · rename_i hc
          obtain ⟨c1, c2, c3, c4, c5⟩ := hc
          obtain rfl := Option.some.inj h
          obtain rfl := val_vr hx
          cases hs with
          | clo hs => cases hs with
            | emp a => exact append_zeros_ok G H hu hX hie hzero c5 (by omega) (by exact hz3) hz4 hz5 c1 c2 c3 c4
        · cases h
      · cases h
    rename_i xs cx hsrc
    obtain ⟨news, A⟩ := src_ok G H hx hsrc
    split at h
    · split at h
      · rename_i hc
        obtain ⟨c1, c2, c3, c4⟩ := hc
        obtain rfl := Option.some.inj h
        cases hs with
        | clo hs => cases hs with
          | emp a => exact append_nil_ok G H hu hie hzero A (by omega) (fun h => h) c3 c2
      · cases h
    · rename_i b ver len
      split at h
      · rename_i k hk
        split at h
        · rename_i hc
          obtain ⟨c1, c2, c3, c4, c5, c6, c7, c8⟩ := hc
          obtain ⟨hk1, hk2⟩ := H.live hk
          obtain rfl := Option.some.inj h
          have hand : (k.cl && cx) = true → cx = true := fun h => by simp only [Bool.and_eq_true] at h; exact h.2
          rcases vr_sl hs hk1 hk2 with ⟨hρ, _, hl0, a, rfl⟩ | ⟨g, cc, cap, hρ, rfl, hcap, hlen⟩
          · subst hl0
            have := append_nil_ok (cl := k.cl && cx) (a := a) (ty := ty) G H hu hie hzero A (by omega) hand (by simpa using c6) c5
            simp only [List.take_zero, List.nil_append, Nat.zero_add]
            exact this.then_gone hk1
          · simp only [Nat.zero_mul, Nat.zero_add, c1] at hcap ⊢
            by_cases hroom : len + xs.length ≤ cap
            · exact append_room_ok G H hu hie A hk1 c2 c1 c7 hρ hcap c3 hroom
            · refine Does.then_gone hk1 ?_
              rcases G.blk b k hk1 with ⟨h0, _⟩ | ⟨g', cap', h1, h2, h3, h4, h5, h6, h7, h8, h9⟩
              · rw [h0] at hρ; cases hρ
              rw [h1] at hρ; obtain ⟨rfl, rfl⟩ := Prod.mk.inj (Option.some.inj hρ)
              have htl : (k.es.take len).length = len := by rw [List.length_take]; omega
              rw [c1] at h5 h7
              have hat : At E g' 0 (k.es.take len).flatten := flat_at (sz := ie.size) (fun e he => h5 e (List.mem_of_mem_take he)) (fun i e he j c hj => by
                rw [List.getElem?_take] at he
                split at he
                · have := (h7 i j e c he hj).1; simpa using this
                · cases he)
              have hokm : ∀ e ∈ k.es.take len, ∀ c ∈ e, cellOk c = true ∧ (k.cl = true → clo0 c = true) := fun e he c hc => by
                obtain ⟨i, hi⟩ := List.getElem?_of_mem (List.mem_of_mem_take he)
                obtain ⟨j, hj⟩ := List.getElem?_of_mem hc
                exact (h7 i j e c hi hj).2
              obtain ⟨us, k1, k2, k3, k4⟩ := hat.list (fun c hc => by obtain ⟨l, hl, hcl⟩ := List.mem_flatten.1 hc; exact (hokm l hl c hcl).1)
              have hfl : (k.es.take len).flatten.length = len * ie.size := by rw [flatten_len (fun e he => h5 e (List.mem_of_mem_take he)), htl]
              refine append_grow_ok (olds := us) G H hu hie hzero A (by omega) htl (fun e he => h5 e (List.mem_of_mem_take he)) (by rw [k1, hfl]) ?_ (fun i j e c he hj => ?_) hand (by omega) c6 c5
              · exact run_firstCells_some (P := P) E.w.drew ie.size len _ len cap us (by rw [k1, hfl]) (by simpa using k2)
              · have hjl := (List.getElem?_eq_some_iff.1 hj).1
                have hesz := h5 e (List.mem_of_mem_take (List.mem_of_getElem? he))
                refine ⟨k4 _ c (by rw [flatten_get (fun e he => h5 e (List.mem_of_mem_take he)) i j e he (by omega)]; exact hj), ?_⟩
                obtain ⟨q1, q2⟩ := hokm e (List.mem_of_getElem? he) c (List.mem_of_getElem? hj)
                exact ⟨q1, fun h => q2 (by simp only [Bool.and_eq_true] at h; exact h.1)⟩
        · cases h
      · cases h
    · cases h
  · cases h
end Go.Ai

namespace Go.Ai
open Go Go.RowKit
variable {C : Cfg} {P : Program} {E : Env}

/-- An operation's step: a value (or none, of a store), new blocks. -/
def OpDoes (C : Cfg) (P : Program) (E : Env) (s : Sem Next) (r : V × List (Nat × Blk)) : Prop :=
  ∃ y w' ρ', (s.run P E.w = .ok (.value y) w' ∨ (s.run P E.w = .ok .skip w' ∧ y = undef)) ∧ Good C ⟨w', E.I, E.J, ρ', updAll E.h r.2⟩ ∧ Ext E ⟨w', E.I, E.J, ρ', updAll E.h r.2⟩ ∧ VR ⟨w', E.I, E.J, ρ', updAll E.h r.2⟩ r.1 y

theorem Does.op {s : Sem Value} {r : V × List (Nat × Blk)} (h : Does C P E s r) : OpDoes C P E (do pure (Next.value (← s))) r := by
  obtain ⟨y, w', ρ', h1, h2⟩ := h
  exact ⟨y, w', ρ', .inl (by simp [h1, Result.andThen]), h2⟩
theorem Reads.op (G : Good C E) {s : Sem Value} {v : V} (h : Reads P E s v) : OpDoes C P E (do pure (Next.value (← s))) (v, []) := (h.does G).op
theorem plain_op (G : Good C E) {v : V} {x : Value} (h : VR E v x) : OpDoes C P E (pure (Next.value x)) (v, []) := ⟨x, E.w, E.ρ, .inl rfl, G, Ext.refl E, h⟩

theorem map1 {f : Operand → Value} {a : Operand} {xs : Array Value} (h : (#[a] : Array Operand).map f = xs) : xs = #[f a] := by rw [← h]; simp
theorem map2 {f : Operand → Value} {a b : Operand} {xs : Array Value} (h : (#[a, b] : Array Operand).map f = xs) : xs = #[f a, f b] := by rw [← h]; simp

theorem rel_ops {ev : Operand → V} {ρ : Operand → Value} (hrel : ∀ x, VR E (ev x) (ρ x)) (ps : Array (Nat × Operand)) : Parts E ps ((ps.toList.map (·.2)).map ev) (ps.map fun (i, x) => (i, ρ x)).toList := by
  refine ⟨by simp, by simp, fun n p v q hp hv hq => ?_⟩
  simp only [List.getElem?_map, Array.toList_map, hp, Option.map_some, Option.some.injEq] at hv hq
  subst hv hq
  exact ⟨rfl, hrel _⟩

theorem mapM_vals {ev : Operand → V} {ρ : Operand → Value} (hrel : ∀ x, VR E (ev x) (ρ x)) : ∀ {xs : List Operand} {l : List Value}, (xs.map ev).mapM cellVal = some l → xs.map ρ = l
  | [], l, h => by simp at h; simp [h]
  | x :: xs, l, h => by
    simp only [List.map_cons, List.mapM_cons, Option.bind_eq_bind, Option.bind_eq_some_iff, Option.pure_def, Option.some.injEq] at h
    obtain ⟨v, hv, l', hl', rfl⟩ := h
    rw [List.map_cons, mapM_vals hrel hl', cellVal_vr (hrel x) hv]

theorem min_op (G : Good C E) {f : Array Value → Sem Value} {ev : Operand → V} {ρ : Operand → Value} (hrel : ∀ x, VR E (ev x) (ρ x)) {xs : Array Operand} {r : V} (h : effMin P f (xs.toList.map ev) = some r) :
    OpDoes C P E (do pure (Next.value (← f (xs.map ρ)))) (r, []) := by
  unfold effMin at h
  split at h
  · rename_i l hl
    simp only [Option.map_eq_some_iff] at h
    obtain ⟨z, hz, rfl⟩ := h
    have : xs.map ρ = l.toArray := by
      apply Array.ext'
      rw [Array.toList_map, mapM_vals hrel hl]
    rw [this]
    exact (pr_reads hz).op G
  · cases h

theorem eff_ok (G : Good C E) {o : Oper} {site : Nat} {ev : Operand → V} {ρ : Operand → Value} {hr : Nat → Option Blk} {r : V × List (Nat × Blk)} (H : HR hr E.h site) (hrel : ∀ x, VR E (ev x) (ρ x)) (hcon : ∀ y, NilIs y (ρ y))
    (h : eff P site o.op (o.op.operands.toList.map ev) hr = some r) : OpDoes C P E (execOp ρ o) r := by
  obtain ⟨dst, op, type, pos, after, guard⟩ := o
  simp only at h
  cases op <;> simp only [Op.operands, List.map_cons, List.map_nil, eff] at h <;> (try (cases h; done)) <;> simp only [execOp]
  case move x => obtain rfl := Option.some.inj h; exact plain_op G (hrel x)
  case assign x => obtain rfl := Option.some.inj h; exact plain_op G (hrel x)
  case pick c a b =>
    split at h
    · rename_i cc hc
      obtain rfl := Option.some.inj h
      have := hrel c
      rw [hc] at this
      have hcv := val_vr this
      refine ⟨if cc then ρ a else ρ b, E.w, E.ρ, .inl ?_, G, Ext.refl E, ?_⟩
      · rw [hcv]; cases cc <;> rfl
      · cases cc
        · exact hrel b
        · exact hrel a
    · cases h
  case alloc T => exact (alloc_ok G H h).op
  case box T x => exact (box_ok G H (hrel x) h).op
  case build T ps =>
    have h : effBuild P T ps ((ps.toList.map (·.2)).map ev) = some r := by simpa using h
    exact (build_ok G (rel_ops hrel ps) h).op
  case buildSlice T len ps =>
    have h : effBuildSlice P site T len ps ((ps.toList.map (·.2)).map ev) hr = some r := by simpa using h
    exact (buildSlice_ok G H (rel_ops hrel ps) h).op
  case load T x => obtain ⟨v, h1, rfl⟩ := same_some h; exact (load_ok G H (hrel x) h1).op G
  case store T p v =>
    obtain ⟨w', h1, h2, h3, h4⟩ := store_ok G H (hrel p) (hrel v) h
    refine ⟨undef, w', E.ρ, .inr ⟨?_, rfl⟩, h2, h3, by rw [h4]; exact .any _⟩
    simp [Sem.run_bind, h1, Result.andThen]
  case nilCheck x =>
    split at h
    · rename_i b ver i off hx
      simp only [Option.map_eq_some_iff] at h
      obtain ⟨k, hk, rfl⟩ := h
      obtain ⟨hk1, hk2⟩ := H.live hk
      have hv := hrel x
      rw [hx] at hv
      obtain ⟨g, c, hρ, e⟩ := vr_ptr hv hk1 hk2
      rw [e] at hv ⊢
      exact plain_op G hv
    · rename_i cs hx
      obtain rfl := Option.some.inj h
      have hv := hrel x
      rw [hx] at hv
      obtain ⟨b, o, e, _⟩ := vr_ipt hv
      rw [e] at hv ⊢
      exact plain_op G hv
    · cases h
  case binOp o T x y yT => obtain ⟨v, h1, rfl⟩ := same_some h; exact (bin_ok (hrel x) (hrel y) (hcon y) h1).op G
  case unOp o T x =>
    split at h
    · rename_i v hx
      obtain ⟨u, h1, rfl⟩ := same_some h
      have hv := hrel x
      rw [hx] at hv
      exact (un_ok hv h1).op G
    · cases h
  case convert S T x => exact (conv_ok G H (hrel x) h).op
  case makeSlice T l c => exact (make_ok G H (hrel l) (hrel c) h).op
  case slice T x lo hi mx =>
    have h : same (effSlice P T (ev x) (bnds lo hi mx ((lo.toList ++ hi.toList ++ mx.toList).map ev)) hr) = some r := by
      have e : (#[x] ++ lo.toArray ++ hi.toArray ++ mx.toArray).toList.map ev = ev x :: ((lo.toList ++ hi.toList ++ mx.toList).map ev) := by cases lo <;> cases hi <;> cases mx <;> rfl
      rw [e] at h
      exact h
    obtain ⟨v, h1, rfl⟩ := same_some h
    exact (slice_ok H (hrel x) hrel h1).op G
  case fieldAddr T x f => obtain ⟨v, h1, rfl⟩ := same_some h; exact (fieldAddr_ok H (hrel x) h1).op G
  case field T x f => obtain ⟨v, h1, rfl⟩ := same_some h; exact (field_ok (hrel x) h1).op G
  case indexAddr T x ix => obtain ⟨v, h1, rfl⟩ := same_some h; exact (ixAddr_ok H (hrel x) (hrel ix) h1).op G
  case index T x ix => obtain ⟨v, h1, rfl⟩ := same_some h; exact (index_ok (hrel x) (hrel ix) h1).op G
  case extract t ix =>
    split at h
    · rename_i vs hx
      simp only [Option.map_eq_some_iff] at h
      obtain ⟨v, hv, rfl⟩ := h
      have ht := hrel t
      rw [hx] at ht
      obtain ⟨xs, e, hs, hx⟩ := vr_tup ht
      have hlt := (List.getElem?_eq_some_iff.1 hv).1
      have hlt' : ix < xs.size := by omega
      have := hx ix v hv
      rw [e]
      refine ⟨xs[ix], E.w, E.ρ, .inl ?_, G, Ext.refl E, ?_⟩
      · simp [Instr.extract, hlt']
      · have h2 : VR E v xs[ix] := by simpa [Array.getD, hlt'] using this
        exact h2
    · cases h
  case makeFunc fn fi ca =>
    have hfi : fi = #[] ∧ ca = #[] ∧ r = (.val (.func fn #[] #[]), []) := by
      cases hl : ((fi ++ ca).toList.map ev) with
      | nil =>
        rw [hl] at h
        simp only at h
        split at h
        · rename_i hc
          simp at hc
          exact ⟨hc.1, hc.2, (Option.some.inj h).symm⟩
        · cases h
      | cons a l => rw [hl] at h; cases h
    obtain ⟨rfl, rfl, rfl⟩ := hfi
    exact ⟨.func fn #[] #[], E.w, E.ρ, .inl (by simp [Instr.makeFunc]), G, Ext.refl E, .clo (.val _)⟩
  case call c =>
    obtain ⟨callee, args, ats⟩ := c
    simp only [Call.operands] at h
    cases callee with
    | value f => cases h
    | invoke r m => cases h
    | builtin b =>
      simp only [Array.empty_append] at h
      have hinv : ∀ s : Sem Value, (∀ xs : Array Value, args.map ρ = xs → (builtin b ats type (args.map fun | .const _ => true | _ => false) xs) = (do pure (Next.value (← s)))) → OpDoes C P E (do pure (Next.value (← s))) r →
          OpDoes C P E (do let d ← resolve ρ { callee := .builtin b, args := args, argTypes := ats } type; invoke d.target d.args) r := by
        intro s hs hd
        have : (do let d ← resolve ρ { callee := .builtin b, args := args, argTypes := ats } type; invoke d.target d.args) = (do pure (Next.value (← s)) : Sem Next) := by
          rw [← hs _ rfl]; rfl
        rw [this]; exact hd
      cases b <;> simp only at h <;> (try (cases h; done))
      case len =>
        split at h
        · rename_i v hv
          cases hargs : args.toList with
          | nil => rw [hargs] at hv; cases hv
          | cons x l =>
            rw [hargs] at hv
            simp only [List.map_cons, List.cons.injEq, List.map_eq_nil_iff] at hv
            obtain ⟨rfl, rfl⟩ := hv
            have ha : args = #[x] := by apply Array.ext'; simpa using hargs
            subst ha
            obtain ⟨u, h1, rfl⟩ := same_some h
            cases hT : ats[0]? with
            | none => rw [hT] at h1; cases h1
            | some T =>
              rw [hT] at h1
              refine hinv (Builtin.len_ ats type #[ρ x]) (fun xs hxs => by rw [map1 hxs]; rfl) ?_
              exact (len_ok H hT (hrel x) h1).op G
        · cases h
      case cap =>
        split at h
        · rename_i v hv
          cases hargs : args.toList with
          | nil => rw [hargs] at hv; cases hv
          | cons x l =>
            rw [hargs] at hv
            simp only [List.map_cons, List.cons.injEq, List.map_eq_nil_iff] at hv
            obtain ⟨rfl, rfl⟩ := hv
            have ha : args = #[x] := by apply Array.ext'; simpa using hargs
            subst ha
            obtain ⟨u, h1, rfl⟩ := same_some h
            cases hT : ats[0]? with
            | none => rw [hT] at h1; cases h1
            | some T =>
              rw [hT] at h1
              refine hinv (Builtin.cap_ ats type #[ρ x]) (fun xs hxs => by rw [map1 hxs]; rfl) ?_
              exact (cap_ok hT (hrel x) h1).op G
        · cases h
      case min =>
        obtain ⟨u, h1, rfl⟩ := same_some h
        exact hinv (Builtin.min_ ats type (args.map ρ)) (fun xs hxs => by subst hxs; rfl) (min_op (f := Builtin.min_ ats type) G hrel h1)
      case max =>
        obtain ⟨u, h1, rfl⟩ := same_some h
        exact hinv (Builtin.max_ ats type (args.map ρ)) (fun xs hxs => by subst hxs; rfl) (min_op (f := Builtin.max_ ats type) G hrel h1)
      case append =>
        split at h
        · rename_i s x S X hv hS hX
          split at h
          · rename_i hsz
            cases hargs : args.toList with
            | nil => rw [hargs] at hv; cases hv
            | cons a l =>
              cases l with
              | nil => rw [hargs] at hv; cases hv
              | cons b l =>
                rw [hargs] at hv
                simp only [List.map_cons, List.cons.injEq, List.map_eq_nil_iff] at hv
                obtain ⟨rfl, rfl, rfl⟩ := hv
                have ha : args = #[a, b] := by apply Array.ext'; simpa using hargs
                subst ha
                have hats : ats = #[S, X] := by
                  apply Array.ext (by simpa using hsz)
                  intro i h1 h2
                  have : i = 0 ∨ i = 1 := by omega
                  rcases this with rfl | rfl
                  · simpa [h1] using hS
                  · simpa [h1] using hX
                subst hats
                refine hinv (Builtin.append_ #[S, X] type #[ρ a, ρ b]) (fun xs hxs => by rw [map2 hxs]; rfl) ?_
                exact (append_ok G H (hrel a) (hrel b) h).op
          · cases h
        · cases h
end Go.Ai

namespace Go.Ai
open Go Go.RowKit

/-- Does the operation want to be carried out? (none: that is not known) -/
def guardV (ops : Array Oper) (s : Nat → V) (o : Oper) : Option Bool :=
  match o.guard with
  | none => some true
  | some (j, want) =>
    match (ops[j]?).bind (·.dst) with
    | none => some false
    | some d =>
      match s d with
      | .val (.bool b) => some (b == want)
      | .val _ => some false
      | _ => none

def tmpsOf (l : List Operand) : List Nat := l.filterMap fun | .tmp t => some t | _ => none
def gslot (ops : Array Oper) (o : Oper) : List Nat :=
  match o.guard with
  | none => []
  | some (j, _) => ((ops[j]?).bind (·.dst)).toList

/-- One operation of a region, as it was carried out. -/
structure Rec where
  i : Nat
  o : Oper
  skip : Bool
  site : Nat
  vals : List V
  hr : Nat → Option Blk
  rd : List Nat
  v : V
  ups : List (Nat × Blk)

def Rec.slots (ops : Array Oper) (r : Rec) : List Nat := gslot ops r.o ++ (if r.skip then [] else tmpsOf r.o.op.operands.toList)
def Rec.wrs (r : Rec) : List Nat := r.ups.map (·.1)
def Rec.app (r : Rec) (σ : St) : St := { s := put σ.s r.o.dst r.v, h := updAll σ.h r.ups }

/-- The record fits the state. -/
structure Fits (ops : Array Oper) (nt : Nat) (r : Rec) (σ : St) : Prop where
  op : ops[r.i]? = some r.o
  guard : guardV ops σ.s r.o = some (!r.skip)
  dst : ∀ d, r.o.dst = some d → d < nt
  skip : r.skip = true → r.v = .val undef ∧ r.ups = [] ∧ r.rd = []
  vals : r.skip = false → r.o.op.operands.toList.map (evalO σ.s) = r.vals
  rd : r.skip = false → reach r.site r.vals σ.h = r.rd
  hr : r.skip = false → restrict σ.h r.rd = r.hr

def indep (ops : Array Oper) (a b : Rec) : Bool :=
  (match a.o.dst with
    | some d => !(b.slots ops).contains d && b.o.dst != some d
    | none => true) &&
  (match b.o.dst with
    | some d => !(a.slots ops).contains d
    | none => true) &&
  a.wrs.all (fun x => !b.rd.contains x && !b.wrs.contains x) && b.wrs.all (fun x => !a.rd.contains x)

theorem updAll_other (h : Nat → Option Blk) : ∀ (l : List (Nat × Blk)) (b : Nat), b ∉ l.map (·.1) → updAll h l b = h b := by
  intro l
  induction l generalizing h with
  | nil => intro b _; rfl
  | cons p l ih =>
    obtain ⟨c, k⟩ := p
    intro b hb
    simp only [List.map_cons, List.mem_cons, not_or] at hb
    rw [updAll, ih _ b hb.2]
    simp [upd, hb.1]

theorem updAll_congr : ∀ (l : List (Nat × Blk)) (h h' : Nat → Option Blk) (b : Nat), (b ∈ l.map (·.1) ∨ h b = h' b) → updAll h l b = updAll h' l b
  | [], h, h', b, hb => by simpa [updAll] using hb
  | (c, k) :: l, h, h', b, hb => by
    simp only [updAll]
    refine updAll_congr l _ _ b ?_
    by_cases hc : b = c
    · exact .inr (by simp [upd, hc])
    · rcases hb with hb | hb
      · simp only [List.map_cons, List.mem_cons] at hb
        exact .inl (hb.resolve_left hc)
      · exact .inr (by simp [upd, hc, hb])

theorem updAll_comm (h : Nat → Option Blk) (l m : List (Nat × Blk)) (hd : ∀ x ∈ l.map (·.1), x ∉ m.map (·.1)) : updAll (updAll h l) m = updAll (updAll h m) l := by
  funext b
  by_cases hm : b ∈ m.map (·.1)
  · have hl : b ∉ l.map (·.1) := fun hl => hd b hl hm
    rw [updAll_other _ l b hl]
    exact updAll_congr m _ _ b (.inl hm)
  · rw [updAll_other _ m b hm]
    by_cases hl : b ∈ l.map (·.1)
    · exact updAll_congr l _ _ b (.inl hl)
    · rw [updAll_other _ l b hl, updAll_other _ l b hl, updAll_other _ m b hm]

theorem put_other {s : Nat → V} {d : Option Tmp} {v : V} {t : Nat} (h : d ≠ some t) : put s d v t = s t := by
  cases d with
  | none => rfl
  | some d => simp only [put, upd]; rw [if_neg (fun e => h (by rw [e]))]

theorem put_comm {s : Nat → V} {d e : Option Tmp} {v u : V} (h : ∀ x, d = some x → e ≠ some x) : put (put s d v) e u = put (put s e u) d v := by
  funext t
  cases d with
  | none => rfl
  | some d =>
    cases e with
    | none => rfl
    | some e =>
      have hne : e ≠ d := fun x => h d rfl (by rw [x])
      simp only [put, upd]
      by_cases h1 : t = e
      · subst h1; rw [if_pos rfl, if_neg hne, if_pos rfl]
      · by_cases h2 : t = d
        · subst h2; simp [h1]
        · simp [h1, h2]

theorem eval_put {s : Nat → V} {d : Option Tmp} {v : V} {x : Operand} (h : ∀ t, x = .tmp t → d ≠ some t) : evalO (put s d v) x = evalO s x := by
  cases x with
  | tmp t => exact put_other (h t rfl)
  | _ => rfl

theorem guard_put {ops : Array Oper} {s : Nat → V} {o : Oper} {d : Option Tmp} {v : V} (h : ∀ x, d = some x → x ∉ gslot ops o) : guardV ops (put s d v) o = guardV ops s o := by
  unfold guardV
  unfold gslot at h
  cases hg : o.guard with
  | none => rfl
  | some p =>
    obtain ⟨j, want⟩ := p
    rw [hg] at h
    simp only at h ⊢
    cases hd : (ops[j]?).bind (·.dst) with
    | none => rfl
    | some e =>
      rw [hd] at h
      simp only [Option.toList_some, List.mem_singleton] at h
      have : put s d v e = s e := put_other (fun x => h e x rfl)
      simp only [this]

/-- What a record reads stands behind one that is apart from it, too. -/
theorem Fits.along {ops : Array Oper} {nt : Nat} {a b : Rec} {σ : St} (h : Fits ops nt b σ) (hs : ∀ x, a.o.dst = some x → x ∉ b.slots ops) (hw : ∀ x ∈ a.wrs, x ∉ b.rd) : Fits ops nt b (a.app σ) := by
  have hg : ∀ x, a.o.dst = some x → x ∉ gslot ops b.o := fun x hx hm => hs x hx (by simp [Rec.slots, hm])
  have ht : b.skip = false → ∀ y ∈ b.o.op.operands.toList, ∀ t, y = .tmp t → a.o.dst ≠ some t := by
    intro hsk y hy t hyt hx
    refine hs t hx ?_
    simp only [Rec.slots, hsk]
    exact List.mem_append_right _ (List.mem_filterMap.2 ⟨y, hy, by rw [hyt]⟩)
  have hh : ∀ x ∈ b.rd, (a.app σ).h x = σ.h x := fun x hx => updAll_other _ _ _ (fun hm => hw x hm hx)
  have hrd : b.skip = false → reach b.site b.vals (a.app σ).h = b.rd := by
    intro hsk
    rw [← h.rd hsk]
    have hin : ∀ x ∈ ids1 b.vals, x ∈ b.rd := fun x hx => by rw [← h.rd hsk]; simp [reach, hx]
    unfold reach
    congr 2
    unfold ids2
    have : ∀ (l : List Nat), (∀ x ∈ l, x ∈ b.rd) → (l.flatMap fun b => match (a.app σ).h b with
        | some k => if k.cl then [] else k.es.flatMap fun e => e.flatMap ref0
        | none => []) = l.flatMap fun b => match σ.h b with
        | some k => if k.cl then [] else k.es.flatMap fun e => e.flatMap ref0
        | none => [] := by
      intro l
      induction l with
      | nil => intro _; rfl
      | cons x l ih =>
        intro hl
        simp only [List.flatMap_cons]
        rw [ih (fun y hy => hl y (by simp [hy])), hh x (hl x (by simp))]
    exact this _ hin
  refine ⟨h.op, ?_, h.dst, h.skip, fun hsk => ?_, hrd, fun hsk => ?_⟩
  · show guardV ops (put σ.s a.o.dst a.v) b.o = _
    rw [guard_put hg]; exact h.guard
  · rw [← h.vals hsk]
    exact List.map_congr_left fun y hy => eval_put (ht hsk y hy)
  · rw [← h.hr hsk]
    funext x
    simp only [restrict]
    split
    · rename_i hx; exact hh x (by simpa using hx)
    · rfl

theorem Fits.back {ops : Array Oper} {nt : Nat} {a b : Rec} {σ : St} (h : Fits ops nt b (a.app σ)) (hs : ∀ x, a.o.dst = some x → x ∉ b.slots ops) (hw : ∀ x ∈ a.wrs, x ∉ b.rd) : Fits ops nt b σ := by
  have hg : ∀ x, a.o.dst = some x → x ∉ gslot ops b.o := fun x hx hm => hs x hx (by simp [Rec.slots, hm])
  have ht : b.skip = false → ∀ y ∈ b.o.op.operands.toList, ∀ t, y = .tmp t → a.o.dst ≠ some t := by
    intro hsk y hy t hyt hx
    refine hs t hx ?_
    simp only [Rec.slots, hsk]
    exact List.mem_append_right _ (List.mem_filterMap.2 ⟨y, hy, by rw [hyt]⟩)
  have hh : ∀ x ∈ b.rd, (a.app σ).h x = σ.h x := fun x hx => updAll_other _ _ _ (fun hm => hw x hm hx)
  have hrd : b.skip = false → reach b.site b.vals σ.h = b.rd := by
    intro hsk
    rw [← h.rd hsk]
    have hin : ∀ x ∈ ids1 b.vals, x ∈ b.rd := fun x hx => by rw [← h.rd hsk]; simp [reach, hx]
    unfold reach
    congr 2
    unfold ids2
    have : ∀ (l : List Nat), (∀ x ∈ l, x ∈ b.rd) → (l.flatMap fun b => match σ.h b with
        | some k => if k.cl then [] else k.es.flatMap fun e => e.flatMap ref0
        | none => []) = l.flatMap fun b => match (a.app σ).h b with
        | some k => if k.cl then [] else k.es.flatMap fun e => e.flatMap ref0
        | none => [] := by
      intro l
      induction l with
      | nil => intro _; rfl
      | cons x l ih =>
        intro hl
        simp only [List.flatMap_cons]
        rw [ih (fun y hy => hl y (by simp [hy])), hh x (hl x (by simp))]
    exact this _ hin
  refine ⟨h.op, ?_, h.dst, h.skip, fun hsk => ?_, hrd, fun hsk => ?_⟩
  · rw [← guard_put (s := σ.s) (v := a.v) hg]; exact h.guard
  · rw [← h.vals hsk]
    exact List.map_congr_left fun y hy => (eval_put (ht hsk y hy)).symm
  · rw [← h.hr hsk]
    funext x
    simp only [restrict]
    split
    · rename_i hx; exact (hh x (by simpa using hx)).symm
    · rfl

structure Indep (ops : Array Oper) (a b : Rec) : Prop where
  s1 : ∀ x, a.o.dst = some x → x ∉ b.slots ops
  s2 : ∀ x, a.o.dst = some x → b.o.dst ≠ some x
  s3 : ∀ x, b.o.dst = some x → x ∉ a.slots ops
  w1 : ∀ x ∈ a.wrs, x ∉ b.rd
  w2 : ∀ x ∈ a.wrs, x ∉ b.wrs
  w3 : ∀ x ∈ b.wrs, x ∉ a.rd

theorem indep_spec {ops : Array Oper} {a b : Rec} (h : indep ops a b = true) : Indep ops a b := by
  simp only [indep, Bool.and_eq_true, List.all_eq_true, Bool.not_eq_true', List.contains_eq_mem, decide_eq_false_iff_not] at h
  obtain ⟨⟨⟨h1, h2⟩, h3⟩, h4⟩ := h
  refine ⟨fun x hx => ?_, fun x hx => ?_, fun x hx => ?_, fun x hx => (h3 x hx).1, fun x hx => (h3 x hx).2, h4⟩
  · rw [hx] at h1; simp at h1; exact h1.1
  · rw [hx] at h1; simp at h1; exact h1.2
  · rw [hx] at h2; simp at h2; exact h2

theorem swap {ops : Array Oper} {nt : Nat} {a b : Rec} {σ : St} (I : Indep ops a b) (ha : Fits ops nt a σ) (hb : Fits ops nt b (a.app σ)) : Fits ops nt b σ ∧ Fits ops nt a (b.app σ) ∧ a.app (b.app σ) = b.app (a.app σ) := by
  refine ⟨hb.back I.s1 I.w1, ha.along I.s3 I.w3, ?_⟩
  unfold Rec.app
  simp only
  rw [put_comm (s := σ.s) (d := a.o.dst) (e := b.o.dst) I.s2, updAll_comm σ.h a.ups b.ups I.w2]

/-- The records, one behind the other. -/
inductive Chain (ops : Array Oper) (nt : Nat) : St → List Rec → St → Prop
  | nil (σ : St) : Chain ops nt σ [] σ
  | cons {σ σ' : St} {r : Rec} {l : List Rec} (h : Fits ops nt r σ) (t : Chain ops nt (r.app σ) l σ') : Chain ops nt σ (r :: l) σ'

theorem Chain.front {ops : Array Oper} {nt : Nat} {r : Rec} : ∀ {pre post : List Rec} {σ σ' : St}, (∀ p ∈ pre, Indep ops p r) → Chain ops nt σ (pre ++ r :: post) σ' → Chain ops nt σ (r :: (pre ++ post)) σ'
  | [], post, σ, σ', _, h => h
  | p :: pre, post, σ, σ', hi, h => by
    cases h with
    | cons hp ht =>
      have := Chain.front (fun q hq => hi q (by simp [hq])) ht
      cases this with
      | cons hr ht' =>
        obtain ⟨h1, h2, h3⟩ := swap (hi p (by simp)) hp hr
        exact .cons h1 (.cons h2 (by rw [h3]; exact ht'))
end Go.Ai

namespace Go.Ai
open Go Go.RowKit
variable {P : Program} {ops : Array Oper} {nt : Nat}

/-- The interpreter's state and the machine's. -/
structure Sim (C : Cfg) (E0 : Env) (nt : Nat) (σ : St) (a : Act) (E : Env) : Prop where
  good : Good C E
  h : E.h = σ.h
  s : ∀ t, VR E (σ.s t) (a.tmps.getD t undef)
  n : a.tmps.size = nt
  d : a.defers = []
  x : Ext E0 E
  e : ∀ b, b % 2 = 0 → E0.h b = none

/-- The machine carries the operation out as the record says, from whatever state it fits. -/
def StepOk (P : Program) (S : Sys) (nt : Nat) (ops : Array Oper) (r : Rec) : Prop :=
  ∀ (C : Cfg), C.S = S → ∀ (E0 : Env) (σ : St) (a : Act) (E : Env) (Q : Exit → Act → World → Prop) (K : Act → World → Prop), Sim C E0 nt σ a E → Fits ops nt r σ →
    (∀ a' E', Sim C E0 nt (r.app σ) a' E' → K a' E'.w) → wpOp P ops Q r.i K a E.w

theorem chain_ops {Q : Exit → Act → World → Prop} {S : Sys} {C : Cfg} (hCS : C.S = S) {E0 : Env} {σ' : St} (hq : ∀ a' E', Sim C E0 nt σ' a' E' → Q .normal a' E'.w) : ∀ {recs : List Rec} {σ : St} {a : Act} {E : Env}, Chain ops nt σ recs σ' → (∀ r ∈ recs, StepOk P S nt ops r) → Sim C E0 nt σ a E →
    wpOps P ops Q (recs.map (·.i)) a E.w
  | [], σ, a, E, h, _, hs => by
    cases h
    exact hq a E hs
  | r :: recs, σ, a, E, h, hok, hs => by
    cases h with
    | cons hf ht =>
      rw [List.map_cons, wpOps_cons]
      exact hok r (by simp) C hCS E0 σ a E Q _ hs hf (fun a' E' hs' => chain_ops hCS hq ht (fun q hq => hok q (by simp [hq])) hs')

/-- p must be ahead of i. -/
inductive Dep (ops : Array Oper) : Nat → Nat → Prop
  | one {p i : Nat} {o : Oper} {e : Edge} (ho : ops[i]? = some o) (he : e ∈ o.after) (hb : Region.binds .any e = true) (hp : e.on = p) : Dep ops p i
  | more {p k i : Nat} {o : Oper} {e : Edge} (ho : ops[i]? = some o) (he : e ∈ o.after) (hb : Region.binds .any e = true) (hk : e.on = k) (h : Dep ops p k) : Dep ops p i

/-- All that must be ahead of an operation, as a number's bits. -/
def ancStep (acc : List Nat) (o : Oper) : List Nat := acc ++ [o.after.toList.foldl (fun m e => bif Region.binds .any e then Nat.lor m (Nat.lor (Nat.pow 2 e.on) (acc.getD e.on 0)) else m) 0]
def ancL (ops : Array Oper) : List Nat := ops.toList.foldl ancStep []

theorem anc_bits {acc : List Nat} {p : Nat} : ∀ {l : List Edge} {m : Nat}, (l.foldl (fun m e => bif Region.binds .any e then Nat.lor m (Nat.lor (Nat.pow 2 e.on) (acc.getD e.on 0)) else m) m).testBit p = true →
    m.testBit p = true ∨ ∃ e ∈ l, Region.binds .any e = true ∧ (e.on = p ∨ (acc.getD e.on 0).testBit p = true)
  | [], m, h => .inl h
  | e :: l, m, h => by
    rw [List.foldl_cons] at h
    rcases anc_bits h with h1 | ⟨d, hd, h2⟩
    · cases hb : Region.binds .any e with
      | false => rw [hb] at h1; exact .inl h1
      | true =>
        rw [hb] at h1
        simp only [cond_true] at h1
        have h1 : (m ||| (2 ^ e.on ||| acc.getD e.on 0)).testBit p = true := h1
        rw [Nat.testBit_or, Nat.testBit_or, Nat.testBit_two_pow] at h1
        simp only [Bool.or_eq_true, decide_eq_true_eq] at h1
        rcases h1 with h1 | h1 | h1
        · exact .inl h1
        · exact .inr ⟨e, by simp, hb, .inl h1⟩
        · exact .inr ⟨e, by simp, hb, .inr h1⟩
    · exact .inr ⟨d, by simp [hd], h2⟩

theorem anc_fold : ∀ (l pre : List Oper), (∀ i p, ((pre.foldl ancStep []).getD i 0).testBit p = true → Dep (pre ++ l).toArray p i) → (pre.foldl ancStep []).length = pre.length →
    ∀ i p, (((pre ++ l).foldl ancStep []).getD i 0).testBit p = true → Dep (pre ++ l).toArray p i
  | [], pre, h, _ => by simpa using h
  | o :: l, pre, h, hl => by
    have e : pre ++ o :: l = (pre ++ [o]) ++ l := by simp
    rw [e]
    refine anc_fold l (pre ++ [o]) (fun i p hp => ?_) (by rw [List.foldl_append]; simp [ancStep, hl])
    rw [List.foldl_append] at hp
    simp only [List.foldl_cons, List.foldl_nil, ancStep] at hp
    rw [e] at h
    by_cases hi : i < pre.length
    · rw [List.getD_eq_getElem?_getD, List.getElem?_append_left (by omega), ← List.getD_eq_getElem?_getD] at hp
      exact h i p hp
    · rw [List.getD_eq_getElem?_getD, List.getElem?_append_right (by omega), hl, ← List.getD_eq_getElem?_getD] at hp
      have hi0 : i = pre.length := by
        rcases Nat.lt_or_ge pre.length i with h1 | h1
        · rw [List.getD_eq_getElem?_getD, List.getElem?_eq_none (by simp; omega)] at hp; simp at hp
        · omega
      subst hi0
      simp only [Nat.sub_self, List.getD_cons_zero] at hp
      have ho : ((pre ++ [o] ++ l).toArray)[pre.length]? = some o := by simp
      rcases anc_bits hp with h0 | ⟨ed, he, hb, hpe⟩
      · simp at h0
      · rcases hpe with rfl | hpe
        · exact .one ho (by simpa using he) hb rfl
        · exact .more ho (by simpa using he) hb rfl (h _ _ hpe)

theorem anc_spec {p i : Nat} (h : ((ancL ops).getD i 0).testBit p = true) : Dep ops p i := by
  have := anc_fold ops.toList [] (fun i p hp => by simp at hp) rfl i p (by simpa [ancL] using h)
  simpa using this

/-- No operation waits for a later one. -/
def backB (ops : Array Oper) : Bool := (List.range ops.size).all fun i => (ops[i]?).all fun o => o.after.all fun e => !Region.binds .any e || e.on < i

theorem back_spec (h : backB ops = true) {i : Nat} {o : Oper} {e : Edge} (ho : ops[i]? = some o) (he : e ∈ o.after) (hb : Region.binds .any e = true) : e.on < i := by
  simp only [backB, List.all_eq_true, List.mem_range] at h
  have hi := (Array.getElem?_eq_some_iff.1 ho).1
  have := h i hi
  rw [ho] at this
  simp only [Option.all_some, Array.all_eq_true] at this
  obtain ⟨j, hj, rfl⟩ := Array.getElem_of_mem he
  have := this j hj
  simp [hb] at this
  exact this

/-- The order of the records is free where it may be. -/
def orderB (ops : Array Oper) (anc : List Nat) : List Rec → Bool
  | [] => true
  | r :: l => l.all (fun q => (anc.getD q.i 0).testBit r.i || indep ops r q) && orderB ops anc l

theorem order_spec : ∀ {recs : List Rec}, orderB ops (ancL ops) recs = true → recs.Pairwise fun p r => ((ancL ops).getD r.i 0).testBit p.i = true ∨ Indep ops p r
  | [], _ => .nil
  | r :: l, h => by
    simp only [orderB, Bool.and_eq_true, List.all_eq_true, Bool.or_eq_true] at h
    refine .cons (fun q hq => ?_) (order_spec h.2)
    rcases h.1 q hq with h1 | h1
    · exact .inl h1
    · exact .inr (indep_spec h1)

theorem listed_dep {listed : Array Bool} (hc : ∀ i, listed.getD i true = true → i < ops.size → ∀ k, (∃ o e, ops[i]? = some o ∧ e ∈ o.after ∧ Region.binds .any e = true ∧ e.on = k) → listed.getD k true = true)
    {p i : Nat} (h : Dep ops p i) : listed.getD i true = true → listed.getD p true = true := by
  induction h with
  | one ho he hb hp => exact fun hi => hc _ hi (Array.getElem?_eq_some_iff.1 ho).1 _ ⟨_, _, ho, he, hb, hp⟩
  | more ho he hb hk _ ih => exact fun hi => ih (hc _ hi (Array.getElem?_eq_some_iff.1 ho).1 _ ⟨_, _, ho, he, hb, hk⟩)

theorem listed_tf {l : Array Bool} {k : Nat} (h : l.getD k true = true) (hk : k < l.size) : l.getD k false = true := by
  rw [Array.getD_eq_getD_getElem?, Array.getElem?_eq_getElem hk] at h ⊢
  exact h
theorem listed_ft {l : Array Bool} {k : Nat} (h : l.getD k false = true) : l.getD k true = true := by
  rw [Array.getD_eq_getD_getElem?] at h ⊢
  cases hk : l[k]? with
  | none => rfl
  | some b => rw [hk] at h; exact h

theorem any_ok {Q : Exit → Act → World → Prop} {S : Sys} {C : Cfg} (hCS : C.S = S) {E0 : Env} {σ' : St} (hback : backB ops = true) (hq : ∀ a' E', Sim C E0 nt σ' a' E' → Q .normal a' E'.w) :
    ∀ (fuel : Nat) {recs : List Rec} {listed : Array Bool} {σ : St} {a : Act} {E : Env}, recs.length = fuel → listed.size = ops.size → recs.map (·.i) = (List.range ops.size).filter (fun i => !listed.getD i true) →
    (∀ i, listed.getD i true = true → i < ops.size → ∀ k, (∃ o e, ops[i]? = some o ∧ e ∈ o.after ∧ Region.binds .any e = true ∧ e.on = k) → listed.getD k true = true) →
    Chain ops nt σ recs σ' → (recs.Pairwise fun p r => ((ancL ops).getD r.i 0).testBit p.i = true ∨ Indep ops p r) → (∀ r ∈ recs, StepOk P S nt ops r) → Sim C E0 nt σ a E →
    wpAny P .any ops Q fuel listed a E.w
  | 0, recs, listed, σ, a, E, hf, hls, hm, hcl, hch, hp, hok, hs => by
    have : recs = [] := List.eq_nil_of_length_eq_zero hf
    subst this
    cases hch
    refine ⟨?_, hq a E hs⟩
    unfold Region.ready
    rw [List.map_nil] at hm
    rw [List.filter_eq_nil_iff]
    intro i hi hh
    simp only [Bool.and_eq_true] at hh
    have : i ∈ (List.range ops.size).filter (fun i => !listed.getD i true) := List.mem_filter.2 ⟨hi, hh.1⟩
    rw [← hm] at this
    cases this
  | fuel + 1, recs, listed, σ, a, E, hf, hls, hm, hcl, hch, hp, hok, hs => by
    have hready : ∀ i, i ∈ Region.ready .any ops listed ↔ i < ops.size ∧ listed.getD i true = false ∧ ((ops[i]?).map (·.after.all fun e => !Region.binds .any e || listed.getD e.on false)).getD false = true := by
      intro i
      simp only [Region.ready, List.mem_filter, List.mem_range, Bool.and_eq_true, Bool.not_eq_true']
    refine ⟨fun hnil => ?_, fun i hi => ?_⟩
    · exfalso
      cases recs with
      | nil => simp at hf
      | cons r0 rest =>
        have h0 : r0.i ∈ (List.range ops.size).filter (fun i => !listed.getD i true) := by rw [← hm]; simp
        obtain ⟨h1, h2⟩ := List.mem_filter.1 h0
        rw [List.mem_range] at h1
        have : r0.i ∈ Region.ready .any ops listed := by
          rw [hready]
          refine ⟨h1, by simpa using h2, ?_⟩
          have ho : ops[r0.i]? = some ops[r0.i] := Array.getElem?_eq_getElem h1
          rw [ho]
          simp only [Option.map_some, Option.getD_some, Array.all_eq_true]
          intro j hj
          by_cases hb : Region.binds .any ops[r0.i].after[j] = true
          · have hlt := back_spec hback ho (Array.getElem_mem hj) hb
            by_cases hl : listed.getD ops[r0.i].after[j].on true = true
            · have h5 := listed_tf hl (by omega)
              rw [h5]; simp
            · exfalso
              have hl' : listed.getD ops[r0.i].after[j].on true = false := by simpa using hl
              have hmem : ops[r0.i].after[j].on ∈ (List.range ops.size).filter (fun i => !listed.getD i true) := List.mem_filter.2 ⟨List.mem_range.2 (by omega), by simp [hl']⟩
              have hsorted : ((List.range ops.size).filter (fun i => !listed.getD i true)).Pairwise (· < ·) := List.Pairwise.filter _ List.pairwise_lt_range
              rw [← hm, List.map_cons] at hmem hsorted
              rcases List.mem_cons.1 hmem with h | h
              · omega
              · have := List.rel_of_pairwise_cons hsorted h; omega
          · simp [hb]
        rw [hnil] at this
        cases this
    · obtain ⟨h1, h2, h3⟩ := (hready i).1 hi
      have himem : i ∈ recs.map (·.i) := by rw [hm]; exact List.mem_filter.2 ⟨List.mem_range.2 h1, by simp [h2]⟩
      obtain ⟨r, hr, hri⟩ := List.mem_map.1 himem
      obtain ⟨pre, post, rfl⟩ := List.append_of_mem hr
      subst hri
      have hnd : ((pre ++ r :: post).map (·.i)).Nodup := by rw [hm]; exact List.Nodup.sublist List.filter_sublist List.nodup_range
      have hun : ∀ q ∈ pre ++ r :: post, listed.getD q.i true = false := by
        intro q hq
        have : q.i ∈ (pre ++ r :: post).map (·.i) := List.mem_map_of_mem hq
        rw [hm] at this
        simpa using (List.mem_filter.1 this).2
      have hdeps : ∀ p, Dep ops p r.i → listed.getD p true = true := by
        intro p hd
        have hstep : ∀ o e, ops[r.i]? = some o → e ∈ o.after → Region.binds .any e = true → listed.getD e.on true = true := by
          intro o e ho he hb
          rw [ho] at h3
          simp only [Option.map_some, Option.getD_some, Array.all_eq_true] at h3
          obtain ⟨j, hj, rfl⟩ := Array.getElem_of_mem he
          have := h3 j hj
          simp only [hb, Bool.not_true, Bool.false_or] at this
          exact listed_ft this
        cases hd with
        | one ho he hb hp => rw [← hp]; exact hstep _ _ ho he hb
        | more ho he hb hk hd' => exact listed_dep hcl hd' (by rw [← hk]; exact hstep _ _ ho he hb)
      have hindep : ∀ p ∈ pre, Indep ops p r := by
        intro p hpm
        have hpw := (List.pairwise_append.1 hp).2.2 p hpm r (by simp)
        rcases hpw with h | h
        · have := hdeps _ (anc_spec h)
          rw [hun p (by simp [hpm])] at this
          cases this
        · exact h
      have hfront := hch.front hindep
      cases hfront with
      | cons hfit hrest =>
        refine hok r (by simp) C hCS E0 σ a E Q _ hs hfit (fun a' E' hs' => ?_)
        refine any_ok hCS hback hq fuel (recs := pre ++ post) (by simp at hf ⊢; omega) (by simp [hls]) ?_ ?_ hrest ?_ (fun q hq => hok q (by rcases List.mem_append.1 hq with h | h <;> simp [h])) hs'
        · have hget : ∀ j, j < ops.size → (listed.setIfInBounds r.i true).getD j true = if j = r.i then true else listed.getD j true := by
            intro j hj
            simp only [Array.getD_eq_getD_getElem?, Array.getElem?_setIfInBounds]
            by_cases hjr : r.i = j
            · subst hjr; simp [hls, hj]
            · have hjr' : ¬ j = r.i := fun h => hjr h.symm
              simp [hjr, hjr']
          have hf2 : (List.range ops.size).filter (fun j => !(listed.setIfInBounds r.i true).getD j true) = ((List.range ops.size).filter (fun j => !listed.getD j true)).filter (fun j => j != r.i) := by
            rw [List.filter_filter]
            refine List.filter_congr fun j hj => ?_
            rw [hget j (List.mem_range.1 hj)]
            by_cases hjr : j = r.i
            · simp [hjr]
            · simp [hjr]
          rw [hf2, ← hm]
          simp only [List.map_append, List.map_cons] at hnd ⊢
          rw [List.filter_append, List.filter_cons]
          have hnd' := List.nodup_append.1 hnd
          have hne1 : ∀ x ∈ pre.map (·.i), x ≠ r.i := fun x hx e => (hnd'.2.2 x hx r.i (by simp)) e
          have hne2 : ∀ x ∈ post.map (·.i), x ≠ r.i := fun x hx e => by
            have := (List.nodup_cons.1 hnd'.2.1).1
            exact this (e ▸ hx)
          rw [List.filter_eq_self.2 (fun x hx => by simpa using hne1 x hx), List.filter_eq_self.2 (fun x hx => by simpa using hne2 x hx)]
          simp
        · intro j hj hjl k hk
          have hget : ∀ j, (listed.setIfInBounds r.i true).getD j true = if j = r.i then true else listed.getD j true := by
            intro j
            simp only [Array.getD_eq_getD_getElem?, Array.getElem?_setIfInBounds]
            by_cases hjr : r.i = j
            · subst hjr; simp [hls, h1]
            · have hjr' : ¬ j = r.i := fun h => hjr h.symm
              simp [hjr, hjr']
          rw [hget] at hj ⊢
          by_cases hkr : k = r.i
          · simp [hkr]
          · rw [if_neg hkr]
            by_cases hjr : j = r.i
            · subst hjr
              obtain ⟨o, e, ho, he, hb, hk⟩ := hk
              exact hdeps k (.one ho he hb hk)
            · rw [if_neg hjr] at hj
              exact hcl j hj hjl k hk
        · exact hp.sublist (List.Sublist.append_left (List.sublist_cons_self _ _) _)

/-- A region, whatever its order. -/
theorem region_ok {Q : Exit → Act → World → Prop} {S : Sys} {C : Cfg} (hCS : C.S = S) {E0 : Env} {σ σ' : St} {a : Act} {E : Env} {recs : List Rec} {id : Nat} {draw : Bool} (hmix : P.follows .mixedOrders = true) (hch : Chain ops nt σ recs σ') (hm : recs.map (·.i) = List.range ops.size)
    (hok : ∀ r ∈ recs, StepOk P S nt ops r) (hord : draw = true → backB ops = true ∧ orderB ops (ancL ops) recs = true) (hs : Sim C E0 nt σ a E) (hq : ∀ a' E', Sim C E0 nt σ' a' E' → Q .normal a' E'.w) :
    (Code.region id ops draw).wp P Q a E.w := by
  cases draw with
  | false =>
    refine wp_region ?_
    rw [← hm]
    exact chain_ops hCS hq hch hok hs
  | true =>
    obtain ⟨hb, ho⟩ := hord rfl
    refine wp_region_any hmix ?_
    obtain ⟨g', x'⟩ := hs.good.world { E.w with drawn := E.w.drawn + 1 } rfl rfl rfl rfl
    have hs' : Sim C E0 nt σ a ⟨{ E.w with drawn := E.w.drawn + 1 }, E.I, E.J, E.ρ, E.h⟩ := ⟨g', hs.h, fun t => (hs.s t).mono x', hs.n, hs.d, hs.x.trans x', hs.e⟩
    have hlen : recs.length = ops.size := by have := congrArg List.length hm; simpa using this
    refine any_ok hCS hb hq ops.size hlen (by simp) ?_ ?_ hch (order_spec ho) hok hs'
    · rw [hm, List.filter_eq_self.2]
      intro i hi
      have := List.mem_range.1 hi
      simp [Array.getD, this]
    · intro i hi hil
      simp [Array.getD, hil] at hi
end Go.Ai

namespace Go.Ai
open Go Go.RowKit
variable {C : Cfg} {P : Program} {E : Env}

/-- A cell that names a block of the call's own, as a list that is read. -/
def close0 (hr : Nat → Option Blk) : V → Option (V × List Nat)
  | .sl b ver off len =>
    match live hr b ver with
    | some k => if k.cl ∧ off + len ≤ k.es.length ∧ b % 2 = 0 then some (.isl k.sz ((k.es.drop off).take len), [b]) else none
    | none => none
  | .val v => some (.val v, [])
  | .emp => some (.emp, [])
  | .isl sz es => some (.isl sz es, [])
  | _ => none
def closeL (hr : Nat → Option Blk) : List V → Option (List V × List Nat)
  | [] => some ([], [])
  | c :: cs =>
    match close0 hr c, closeL hr cs with
    | some (c', l), some (cs', m) => some (c' :: cs', l ++ m)
    | _, _ => none
def closeA (hr : Nat → Option Blk) : V → Option (V × List Nat)
  | .agg cs => (closeL hr cs).map fun (cs, l) => (.agg cs, l)
  | v => close0 hr v
def closeC (hr : Nat → Option Blk) (cl : Bool) (e : List V) : Option (List V × List Nat) := if cl then some (e, []) else closeL hr e

/-- What is written as a cell of memory may be anything that is one cell. -/
theorem close0_ok (G : Good C E) {hr : Nat → Option Blk} (hsub : ∀ b k, hr b = some k → E.h b = some k) {c c' : V} {l : List Nat} (hc : close0 hr c = some (c', l)) :
    (∀ x I, VR E c x → (∀ g, E.I g → I g) → (∀ b ∈ l, ∀ g n, E.ρ b = some (g, n) → I g) → CR E.w I c' x) ∧ clo0 c' = true ∧ (cellOk c = true → cellOk c' = true) ∧ ∀ b ∈ l, b % 2 = 0 ∧ hr b ≠ none := by
  unfold close0 at hc
  split at hc
  · rename_i b ver off len
    split at hc
    · rename_i k hk
      split at hc
      · rename_i hcond
        obtain ⟨c1, c2, c3⟩ := hcond
        obtain ⟨rfl, rfl⟩ := Prod.mk.inj (Option.some.inj hc)
        obtain ⟨hk0, hk2⟩ := live_some hk
        have hk1 := hsub b k hk0
        refine ⟨fun x I hv hI hl => ?_, rfl, fun _ => rfl, fun b' hb' => ?_⟩
        · rcases vr_sl hv hk1 hk2 with ⟨_, rfl, rfl, a, rfl⟩ | ⟨g, cc, cap, hρ, rfl, hcap, hlen⟩
          · have e : ((k.es.drop 0).take 0) = [] := by simp
            rw [e]
            exact CR.isl _ [] a 0 (fun _ _ => undef) (Nat.le_refl _) (fun e he => by simp at he) (fun e he => by simp at he) (fun h => absurd rfl h) (fun i j e c he => by simp at he) (fun i j e c he => by simp at he)
          · have hIg : I g := hl b (by simp) g cc hρ
            rcases G.blk b k hk1 with ⟨h0, _⟩ | ⟨g', cap', h1, h2, h3, h4, h5, h6, h7, h8, h9⟩
            · rw [h0] at hρ; cases hρ
            rw [h1] at hρ; obtain ⟨rfl, rfl⟩ := Prod.mk.inj (Option.some.inj hρ)
            have hlen2 : ((k.es.drop off).take len).length = len := by rw [List.length_take, List.length_drop]; omega
            have hmem : ∀ e ∈ (k.es.drop off).take len, e ∈ k.es := fun e he => List.mem_of_mem_drop (List.mem_of_mem_take he)
            let E2 : Env := ⟨E.w, I, E.J, E.ρ, E.h⟩
            have := mk_isl (E := E2) (sz := k.sz) (cap := cap) (es := (k.es.drop off).take len) (a := some ⟨g', off * k.sz, none⟩) (by rw [hlen2]; exact hlen) (fun e he => h5 e (hmem e he))
              (fun e he c hc => by
                obtain ⟨i, hi⟩ := List.getElem?_of_mem (hmem e he)
                obtain ⟨j, hj⟩ := List.getElem?_of_mem hc
                have := (h7 i j e c hi hj).2
                exact ⟨this.1, this.2 c1⟩)
              (fun _ => ⟨g', off * k.sz, rfl, hIg, fun i e he j c hj => by
                rw [List.getElem?_take] at he
                split at he
                · rw [List.getElem?_drop] at he
                  obtain ⟨⟨x, hx1, hx2⟩, hx3⟩ := h7 _ _ _ _ he hj
                  rw [Nat.add_mul] at hx1
                  exact ⟨x, hx1, .clo ((clo0_cr hx2 (hx3.2 c1)).mono hI (fun _ _ _ => rfl))⟩
                · cases he⟩)
            rw [hlen2] at this
            exact this
        · simp at hb'; subst hb'; exact ⟨c3, by rw [hk0]; simp⟩
      · cases hc
    · cases hc
  · obtain ⟨rfl, rfl⟩ := Prod.mk.inj (Option.some.inj hc)
    exact ⟨fun x I hv hI _ => (clo0_cr hv rfl).mono hI (fun _ _ _ => rfl), rfl, fun h => h, fun b hb => by simp at hb⟩
  · obtain ⟨rfl, rfl⟩ := Prod.mk.inj (Option.some.inj hc)
    exact ⟨fun x I hv hI _ => (clo0_cr hv rfl).mono hI (fun _ _ _ => rfl), rfl, fun h => h, fun b hb => by simp at hb⟩
  · obtain ⟨rfl, rfl⟩ := Prod.mk.inj (Option.some.inj hc)
    exact ⟨fun x I hv hI _ => (clo0_cr hv rfl).mono hI (fun _ _ _ => rfl), rfl, fun h => h, fun b hb => by simp at hb⟩
  · cases hc

theorem closeL_ok (G : Good C E) {hr : Nat → Option Blk} (hsub : ∀ b k, hr b = some k → E.h b = some k) : ∀ {cs cs' : List V} {l : List Nat}, closeL hr cs = some (cs', l) →
    cs'.length = cs.length ∧ (∀ (j : Nat) c', cs'[j]? = some c' → ∃ c, cs[j]? = some c ∧ (∀ x I, VR E c x → (∀ g, E.I g → I g) → (∀ b ∈ l, ∀ g n, E.ρ b = some (g, n) → I g) → CR E.w I c' x) ∧ clo0 c' = true ∧ (cellOk c = true → cellOk c' = true)) ∧ ∀ b ∈ l, b % 2 = 0 ∧ hr b ≠ none
  | [], cs', l, h => by
    simp [closeL] at h
    obtain ⟨rfl, rfl⟩ := h
    exact ⟨rfl, fun j c hj => by simp at hj, fun b hb => by simp at hb⟩
  | c :: cs, cs', l, h => by
    simp only [closeL] at h
    split at h
    · rename_i c1 l1 cs1 m h1 h2
      obtain ⟨rfl, rfl⟩ := Prod.mk.inj (Option.some.inj h)
      obtain ⟨a1, a2, a3, a4⟩ := close0_ok G hsub h1
      obtain ⟨b1, b2, b3⟩ := closeL_ok G hsub h2
      refine ⟨by simp [b1], fun j d hj => ?_, fun b hb => ?_⟩
      · cases j with
        | zero =>
          simp at hj; subst hj
          exact ⟨c, rfl, fun x I hv hI hl => a1 x I hv hI (fun b hb => hl b (by simp [hb])), a2, a3⟩
        | succ j =>
          simp at hj
          obtain ⟨d', e1, e2, e3, e4⟩ := b2 j d hj
          exact ⟨d', by simpa using e1, fun x I hv hI hl => e2 x I hv hI (fun b hb => hl b (by simp [hb])), e3, e4⟩
      · rcases List.mem_append.1 hb with hb | hb
        · exact a4 b hb
        · exact b3 b hb
    · cases h

theorem closeA_ok (G : Good C E) {hr : Nat → Option Blk} (hsub : ∀ b k, hr b = some k → E.h b = some k) {v v' : V} {l : List Nat} (h : closeA hr v = some (v', l)) {x : Value} (hv : VR E v x) {I : Nat → Prop} (hI : ∀ g, E.I g → I g)
    (hl : ∀ b ∈ l, ∀ g n, E.ρ b = some (g, n) → I g) : CR E.w I v' x := by
  unfold closeA at h
  split at h
  · rename_i cs
    simp only [Option.map_eq_some_iff] at h
    obtain ⟨⟨cs', l'⟩, h1, h2⟩ := h
    obtain ⟨rfl, rfl⟩ := Prod.mk.inj h2
    obtain ⟨xs, rfl, hs, hx⟩ := vr_agg hv
    obtain ⟨b1, b2, _⟩ := closeL_ok G hsub h1
    refine .agg _ xs (by rw [hs]; exact b1.symm) (fun j c hj => ?_)
    obtain ⟨d, e1, e2, _⟩ := b2 j c hj
    exact e2 _ I (hx j d e1) hI hl
  · exact (close0_ok G hsub h).1 x I hv hI hl
theorem closeA_ids (G : Good C E) {hr : Nat → Option Blk} (hsub : ∀ b k, hr b = some k → E.h b = some k) {v v' : V} {l : List Nat} (h : closeA hr v = some (v', l)) : ∀ b ∈ l, b % 2 = 0 ∧ hr b ≠ none := by
  unfold closeA at h
  split at h
  · simp only [Option.map_eq_some_iff] at h
    obtain ⟨⟨cs', l'⟩, h1, h2⟩ := h
    obtain ⟨rfl, rfl⟩ := Prod.mk.inj h2
    exact (closeL_ok G hsub h1).2.2
  · exact (close0_ok G hsub h).2.2.2

/-- What a function is handed: values, and variables that it may write. -/
structure Prep where
  args : List V
  pts : List (Nat × Nat × List V)
  snaps : List Nat

def prep (hr : Nat → Option Blk) : List V → Nat → Option Prep
  | [], _ => some ⟨[], [], []⟩
  | v :: vs, n =>
    match v with
    | .ptr b ver i off =>
      match live hr b ver with
      | some k =>
        match k.es, i, off with
        | [e], 0, 0 =>
          if k.wr then
            match closeC hr k.cl e, prep hr vs (n + 1) with
            | some (e', l), some p => some ⟨.ptr (2 * n + 1) 0 0 0 :: p.args, (b, k.sz, e') :: p.pts, l ++ p.snaps⟩
            | _, _ => none
          else none
        | _, _, _ => none
      | none => none
    | v =>
      match closeA hr v, prep hr vs n with
      | some (v', l), some p => some ⟨v' :: p.args, p.pts, l ++ p.snaps⟩
      | _, _ => none

/-- The variables that a function is handed, under its own names. -/
def ptBlk (p : Nat × List V) : Blk := { ver := 0, sz := p.1, wr := true, cl := true, es := [p.2] }
def h0 (pts : List (Nat × List V)) : Nat → Option Blk := fun b => if b % 2 = 1 then (pts[b / 2]?).map ptBlk else none
def ρ0 (pb : List (Nat × Nat)) : Nat → Option (Nat × Nat) := fun b => if b % 2 = 1 then pb[b / 2]? else none
/-- What it hands back: the variables as they are then, and blocks that are the caller's from there on. -/
def h1 (pts : List (Nat × List V)) (outs : List Blk) : Nat → Option Blk := fun b => if b % 2 = 1 then (pts[b / 2]?).map ptBlk else outs[b / 2]?

/-- What a function does, in every world. -/
def CallOk (P : Program) (S : Sys) (f : FuncId) (args : List V) (pts : List (Nat × List V)) (res : V) (pts' : List (Nat × List V)) (outs : List Blk) : Prop :=
  ∀ (w : World) (I : Nat → Prop) (cargs : Array Value) (pb : List (Nat × Nat)), pts.length = pb.length → cargs.size = args.length →
    Good ⟨S, w, I, pb.map (·.1)⟩ ⟨w, I, noJ, ρ0 pb, h0 pts⟩ → (∀ (j : Nat) v, args[j]? = some v → VR ⟨w, I, noJ, ρ0 pb, h0 pts⟩ v (cargs.getD j undef)) →
    Calls P f cargs w fun e w' => ∃ y E', e = .returned y ∧ E'.w = w' ∧ Good ⟨S, w, I, pb.map (·.1)⟩ E' ∧ Ext ⟨w, I, noJ, ρ0 pb, h0 pts⟩ E' ∧ VR E' res y ∧ E'.h = h1 pts' outs ∧ (∀ b, b % 2 = 1 → E'.ρ b = ρ0 pb b)

/-- Into the function. -/
theorem prep_ok (G : Good C E) {hr : Nat → Option Blk} (hsub : ∀ b k, hr b = some k → E.h b = some k) : ∀ {vs : List V} {xs : List Value} {n : Nat} {p : Prep}, prep hr vs n = some p → xs.length = vs.length → (∀ (j : Nat) v, vs[j]? = some v → VR E v (xs.getD j undef)) →
    (∀ b ∈ p.snaps, b % 2 = 0 ∧ hr b ≠ none) ∧ p.args.length = vs.length ∧
    (∀ (j : Nat) q, p.pts[j]? = some q → ∃ k e g c, (E.h q.1 = some k ∧ hr q.1 = some k) ∧ k.wr = true ∧ k.es = [e] ∧ q.2.1 = k.sz ∧ E.ρ q.1 = some (g, c) ∧ q.2.2.length = e.length ∧
      ∀ (i : Nat) c', q.2.2[i]? = some c' → ∃ c0, e[i]? = some c0 ∧ (∀ x I, VR E c0 x → (∀ g, E.I g → I g) → (∀ b ∈ p.snaps, ∀ g n, E.ρ b = some (g, n) → I g) → CR E.w I c' x) ∧ clo0 c' = true ∧ (cellOk c0 = true → cellOk c' = true)) ∧
    ∀ (I : Nat → Prop) (pb : List (Nat × Nat)) (pts : List (Nat × List V)), (∀ g, E.I g → I g) → (∀ b ∈ p.snaps, ∀ g n, E.ρ b = some (g, n) → I g) →
      (∀ (j : Nat) q, p.pts[j]? = some q → pts[n + j]? = some q.2 ∧ pb[n + j]? = E.ρ q.1) → ∀ (j : Nat) v, p.args[j]? = some v → VR ⟨E.w, I, noJ, ρ0 pb, h0 pts⟩ v (xs.getD j undef) := by
  intro vs
  induction vs with
  | nil =>
    intro xs n p h hl hv
    simp [prep] at h
    subst h
    exact ⟨fun b hb => by simp at hb, rfl, fun j q hq => by simp at hq, fun I pb pts _ _ _ j v hj => by simp at hj⟩
  | cons v vs ih =>
    intro xs n p h hl hv
    cases xs with
    | nil => simp at hl
    | cons x xs =>
      have hv0 : VR E v x := by simpa using hv 0 v rfl
      have hvs : ∀ (j : Nat) u, vs[j]? = some u → VR E u (xs.getD j undef) := fun j u hj => by simpa using hv (j + 1) u (by simpa using hj)
      have hl' : xs.length = vs.length := by simpa using hl
      by_cases hp : ∃ b ver i off, v = .ptr b ver i off
      · obtain ⟨b, ver, i, off, rfl⟩ := hp
        simp only [prep] at h
        split at h
        · rename_i k hk
          split at h
          · rename_i e hes
            split at h
            · rename_i hwr
              split at h
              · rename_i e' l p' hc hpr
                obtain rfl := Option.some.inj h
                obtain ⟨q1, q2, q3, q4⟩ := ih hpr hl' hvs
                obtain ⟨hk0, hk2⟩ := live_some hk
                have hk1 := hsub _ _ hk0
                obtain ⟨g, c, hρ, hx⟩ := vr_ptr hv0 hk1 hk2
                have hcl : e'.length = e.length ∧ (∀ (i : Nat) c', e'[i]? = some c' → ∃ c0, e[i]? = some c0 ∧ (∀ x I, VR E c0 x → (∀ g, E.I g → I g) → (∀ b ∈ l, ∀ g n, E.ρ b = some (g, n) → I g) → CR E.w I c' x) ∧ clo0 c' = true ∧ (cellOk c0 = true → cellOk c' = true)) ∧ ∀ b ∈ l, b % 2 = 0 ∧ hr b ≠ none := by
                  unfold closeC at hc
                  split at hc
                  · rename_i hcl
                    obtain ⟨rfl, rfl⟩ := Prod.mk.inj (Option.some.inj hc)
                    refine ⟨rfl, fun i c' hi => ⟨c', hi, fun x I hx hI _ => ?_, ?_, fun h => h⟩, fun b hb => by simp at hb⟩
                    · rcases G.blk b k hk1 with ⟨h0, _⟩ | ⟨g', cap', h1, h2, h3, h4, h5, h6, h7, h8, h9⟩
                      · rw [h0] at hρ; cases hρ
                      · exact (clo0_cr hx ((h7 0 i e c' (by rw [hes]; rfl) hi).2.2 hcl)).mono hI (fun _ _ _ => rfl)
                    · rcases G.blk b k hk1 with ⟨h0, _⟩ | ⟨g', cap', h1, h2, h3, h4, h5, h6, h7, h8, h9⟩
                      · rw [h0] at hρ; cases hρ
                      · exact (h7 0 i e c' (by rw [hes]; rfl) hi).2.2 hcl
                  · exact closeL_ok G hsub hc
                obtain ⟨r1, r2, r3⟩ := hcl
                refine ⟨fun b hb => ?_, by simp [q2], fun j q hq => ?_, fun I pb pts hI hsn hpts j u hj => ?_⟩
                · rcases List.mem_append.1 hb with hb | hb
                  · exact r3 b hb
                  · exact q1 b hb
                · cases j with
                  | zero =>
                    simp at hq; subst hq
                    exact ⟨k, e, g, c, ⟨hk1, hk0⟩, hwr, hes, rfl, hρ, r1, fun i c' hi => by
                      obtain ⟨c0, s1, s2, s3, s4⟩ := r2 i c' hi
                      exact ⟨c0, s1, fun x I hx hI hsn => s2 x I hx hI (fun b hb => hsn b (List.mem_append_left _ hb)), s3, s4⟩⟩
                  | succ j =>
                    simp at hq
                    obtain ⟨k', e1, g', c', t1, t2, t3, t4, t5, t6, t7⟩ := q3 j q hq
                    exact ⟨k', e1, g', c', t1, t2, t3, t4, t5, t6, fun i c' hi => by
                      obtain ⟨c0, s1, s2, s3, s4⟩ := t7 i c' hi
                      exact ⟨c0, s1, fun x I hx hI hsn => s2 x I hx hI (fun b hb => hsn b (List.mem_append_right _ hb)), s3, s4⟩⟩
                · cases j with
                  | zero =>
                    simp at hj; subst hj
                    obtain ⟨p1, p2⟩ := hpts 0 _ rfl
                    simp only [Nat.add_zero] at p1 p2
                    have hm : (2 * n + 1) % 2 = 1 := by omega
                    have hd : (2 * n + 1) / 2 = n := by omega
                    refine .ptr _ _ _ _ _ (ptBlk (k.sz, e')) ⟨some ⟨g, 0 * k.sz + 0, none⟩, by simpa [hes] using hx⟩ (by simp [h0, hm, hd, p1]) (Nat.le_refl _) (fun _ => ⟨g, c, ?_, ?_⟩)
                    · simp [ρ0, hm, hd, p2, hρ]
                    · simpa [ptBlk] using hx
                  | succ j =>
                    simp at hj
                    have := q4 I pb pts hI (fun b hb => hsn b (List.mem_append_right _ hb)) (fun j q hq => by
                      have := hpts (j + 1) q (by simpa using hq)
                      rwa [show n + (j + 1) = n + 1 + j by omega] at this) j u hj
                    simpa using this
              · cases h
            · cases h
          · cases h
        · cases h
      · have h : (match closeA hr v, prep hr vs n with
          | some (v', l), some p => some (⟨v' :: p.args, p.pts, l ++ p.snaps⟩ : Prep)
          | _, _ => none) = some p := by
          rw [← h]
          cases v <;> first | rfl | exact absurd ⟨_, _, _, _, rfl⟩ hp
        split at h
        · rename_i v' l p' hc hpr
          obtain rfl := Option.some.inj h
          obtain ⟨q1, q2, q3, q4⟩ := ih hpr hl' hvs
          have r3 := closeA_ids G hsub hc
          refine ⟨fun b hb => ?_, by simp [q2], fun j q hq => ?_, fun I pb pts hI hsn hpts j u hj => ?_⟩
          · rcases List.mem_append.1 hb with hb | hb
            · exact r3 b hb
            · exact q1 b hb
          · obtain ⟨k', e1, g', c', t1, t2, t3, t4, t5, t6, t7⟩ := q3 j q hq
            exact ⟨k', e1, g', c', t1, t2, t3, t4, t5, t6, fun i c' hi => by
              obtain ⟨c0, s1, s2, s3, s4⟩ := t7 i c' hi
              exact ⟨c0, s1, fun x I hx hI hsn => s2 x I hx hI (fun b hb => hsn b (List.mem_append_right _ hb)), s3, s4⟩⟩
          · cases j with
            | zero =>
              simp at hj; subst hj
              exact .clo (closeA_ok G hsub hc (x := x) hv0 hI (fun b hb => hsn b (List.mem_append_left _ hb)))
            | succ j =>
              simp at hj
              have := q4 I pb pts hI (fun b hb => hsn b (List.mem_append_right _ hb)) hpts j u hj
              simpa using this
        · cases h
end Go.Ai

namespace Go.Ai
open Go Go.RowKit
variable {C : Cfg} {P : Program} {E : Env}

theorem updAll_append (h : Nat → Option Blk) : ∀ (l m : List (Nat × Blk)), updAll h (l ++ m) = updAll (updAll h l) m
  | [], m => rfl
  | (b, k) :: l, m => by simp only [List.cons_append, updAll]; exact updAll_append _ l m

theorem updAll_val {b : Nat} {k : Blk} : ∀ {l : List (Nat × Blk)} {h : Nat → Option Blk}, (∀ k', (b, k') ∈ l → k' = k) → (b ∈ l.map (·.1) ∨ h b = some k) → updAll h l b = some k
  | [], h, _, hb => by simpa [updAll] using hb
  | (c, k') :: l, h, hk, hb => by
    simp only [updAll]
    refine updAll_val (fun k2 h2 => hk k2 (by simp [h2])) ?_
    by_cases hc : b = c
    · subst hc
      exact .inr (by simp [upd]; exact hk k' (by simp))
    · rcases hb with hb | hb
      · simp only [List.map_cons, List.mem_cons] at hb
        exact .inl (hb.resolve_left hc)
      · exact .inr (by simp [upd, hc, hb])

def ns0 : V → Bool
  | .val _ | .emp | .any => true
  | _ => false
def ns1 : V → Bool
  | .agg cs => cs.all ns0
  | v => ns0 v
def ns2 : V → Bool
  | .tup vs => vs.all ns1
  | v => ns1 v

theorem ns0_vr {E' : Env} {v : V} {x : Value} (h : ns0 v = true) (hv : VR E v x) : VR E' v x := by
  cases v with
  | val u => rw [val_vr hv]; exact .clo (.val _)
  | emp => cases hv with
    | clo h => cases h with
      | emp a => exact .clo (.emp a)
  | any => exact .any _
  | _ => cases h
theorem ns1_vr {E' : Env} {v : V} {x : Value} (h : ns1 v = true) (hv : VR E v x) : VR E' v x := by
  by_cases ha : ∃ cs, v = .agg cs
  · obtain ⟨cs, rfl⟩ := ha
    obtain ⟨xs, rfl, hs, hx⟩ := vr_agg hv
    simp only [ns1, List.all_eq_true] at h
    exact .agg _ _ hs (fun j c hj => ns0_vr (h c (List.mem_of_getElem? hj)) (hx j c hj))
  · have : ns1 v = ns0 v := by cases v <;> first | rfl | exact absurd ⟨_, rfl⟩ ha
    rw [this] at h; exact ns0_vr h hv
theorem ns2_vr {E' : Env} {v : V} {x : Value} (h : ns2 v = true) (hv : VR E v x) : VR E' v x := by
  by_cases ha : ∃ cs, v = .tup cs
  · obtain ⟨cs, rfl⟩ := ha
    obtain ⟨xs, rfl, hs, hx⟩ := vr_tup hv
    simp only [ns2, List.all_eq_true] at h
    exact .tup _ _ hs (fun j c hj => ns1_vr (h c (List.mem_of_getElem? hj)) (hx j c hj))
  · have : ns2 v = ns1 v := by cases v <;> first | rfl | exact absurd ⟨_, rfl⟩ ha
    rw [this] at h; exact ns1_vr h hv

def clo1 : V → Bool
  | .agg cs => cs.all clo0
  | v => clo0 v
theorem clo1_cr {v : V} {x : Value} (hv : VR E v x) (h : clo1 v = true) : CR E.w E.I v x := by
  by_cases ha : ∃ cs, v = .agg cs
  · obtain ⟨cs, rfl⟩ := ha
    obtain ⟨xs, rfl, hs, hx⟩ := vr_agg hv
    simp only [clo1, List.all_eq_true] at h
    exact .agg _ _ hs (fun j c hj => clo0_cr (hx j c hj) (h c (List.mem_of_getElem? hj)))
  · have : clo1 v = clo0 v := by cases v <;> first | rfl | exact absurd ⟨_, rfl⟩ ha
    rw [this] at h; exact clo0_cr hv h

def resOk0 (n : Nat) (v : V) : Bool := clo1 v || (match v with | .sl b ver _ _ => b % 2 == 0 && decide (b / 2 < n) && ver == 0 | _ => false)
def resOk (n : Nat) : V → Bool
  | .tup vs => vs.all (resOk0 n)
  | v => resOk0 n v
def rn0 (site : Nat) (hr : Nat → Option Blk) : V → V
  | .sl b _ off len => .sl (newId site (b / 2)) (nextVer hr (newId site (b / 2))) off len
  | v => v
def rn (site : Nat) (hr : Nat → Option Blk) : V → V
  | .tup vs => .tup (vs.map (rn0 site hr))
  | v => rn0 site hr v

def isSf (res : V) (pts' : List (Nat × List V)) (outs : List Blk) : Bool := ns2 res && outs.isEmpty && pts'.all fun q => q.2.all ns0
def upsPt (hr : Nat → Option Blk) (p : Prep) (pts' : List (Nat × List V)) : List (Nat × Blk) := (p.pts.zip pts').filterMap fun q => (hr q.1.1).map fun k => (q.1.1, { k with es := [q.2.2], cl := true })
def upsSn (hr : Nat → Option Blk) (p : Prep) : List (Nat × Blk) := p.snaps.filterMap fun b => (hr b).map fun k => (b, { k with wr := false })
def upsOut (site : Nat) (hr : Nat → Option Blk) : List Blk → Nat → List (Nat × Blk)
  | [], _ => []
  | B :: l, j => (newId site j, { B with ver := nextVer hr (newId site j) }) :: upsOut site hr l (j + 1)
def callUps (site : Nat) (hr : Nat → Option Blk) (p : Prep) (res : V) (pts' : List (Nat × List V)) (outs : List Blk) : List (Nat × Blk) :=
  (upsPt hr p pts' ++ (if isSf res pts' outs then [] else upsSn hr p)) ++ upsOut site hr outs 0

/-- What must hold of the names at a call. -/
def prepOk (site : Nat) (p : Prep) : Bool :=
  p.pts.all (fun q => !p.snaps.contains q.1 && !(news site).contains q.1) && decide ((p.pts.map (·.1)).Nodup)

def snapI (E : Env) (p : Prep) : Nat → Prop := fun g => E.I g ∨ ∃ b ∈ p.snaps, ∃ n, E.ρ b = some (g, n)
def pbOf (E : Env) (p : Prep) : List (Nat × Nat) := p.pts.map fun q => (E.ρ q.1).getD (0, 0)
def ptsOf (p : Prep) : List (Nat × List V) := p.pts.map (·.2)

theorem nodup_get {l : List Nat} (h : l.Nodup) {i j : Nat} {x : Nat} (hi : l[i]? = some x) (hj : l[j]? = some x) : i = j := by
  obtain ⟨h1, h2⟩ := List.getElem?_eq_some_iff.1 hi
  obtain ⟨h3, h4⟩ := List.getElem?_eq_some_iff.1 hj
  have hp := List.pairwise_iff_getElem.1 h
  rcases Nat.lt_trichotomy i j with hlt | rfl | hlt
  · exact absurd (h2.trans h4.symm) (hp i j h1 h3 hlt)
  · rfl
  · exact absurd (h4.trans h2.symm) (hp j i h3 h1 hlt)

theorem enter_ok (G : Good C E) {site : Nat} {hr : Nat → Option Blk} (hsub : ∀ b k, hr b = some k → E.h b = some k) {vs : List V} {xs : List Value} {p : Prep} (hp : prep hr vs 0 = some p) (hok : prepOk site p = true) (hl : xs.length = vs.length)
    (hv : ∀ (j : Nat) v, vs[j]? = some v → VR E v (xs.getD j undef)) :
    Good ⟨C.S, E.w, snapI E p, (pbOf E p).map (·.1)⟩ ⟨E.w, snapI E p, noJ, ρ0 (pbOf E p), h0 (ptsOf p)⟩ ∧ ∀ (j : Nat) v, p.args[j]? = some v → VR ⟨E.w, snapI E p, noJ, ρ0 (pbOf E p), h0 (ptsOf p)⟩ v (xs.getD j undef) := by
  obtain ⟨q1, q2, q3, q4⟩ := prep_ok G hsub hp hl hv
  simp only [prepOk, Bool.and_eq_true, List.all_eq_true, Bool.not_eq_true', List.contains_eq_mem, decide_eq_false_iff_not, decide_eq_true_eq] at hok
  obtain ⟨ok1, ok2⟩ := hok
  have hI : ∀ g, E.I g → snapI E p g := fun g h => .inl h
  have hsn : ∀ b ∈ p.snaps, ∀ g n, E.ρ b = some (g, n) → snapI E p g := fun b hb g n h => .inr ⟨b, hb, n, h⟩
  have hpt : ∀ (j : Nat) q, p.pts[j]? = some q → (ptsOf p)[0 + j]? = some q.2 ∧ (pbOf E p)[0 + j]? = E.ρ q.1 := by
    intro j q hq
    obtain ⟨k, e, g, c, t1, t2, t3, t4, t5, t6, t7⟩ := q3 j q hq
    rw [Nat.zero_add]
    simp [ptsOf, pbOf, hq, t5]
  refine ⟨⟨fun b k hk => ?_, fun b b' g c c' h1 h2 => ?_, fun g hg => ?_, fun g hg => .inl hg, fun b g c h => ?_, fun b h => ?_, rfl, rfl, rfl, Nat.le_refl _, fun _ _ _ => rfl, fun b g c h => ?_, Nat.le_trans G.lo0 G.size, G.u, fun _ _ h => h.elim⟩, q4 _ _ _ hI hsn hpt⟩
  · simp only [h0] at hk
    split at hk
    · rename_i hb
      simp only [ptsOf, List.getElem?_map, Option.map_map, Option.map_eq_some_iff] at hk
      obtain ⟨q, hq, rfl⟩ := hk
      obtain ⟨k, e, g, c, t1, t2, t3, t4, t5, t6, t7⟩ := q3 _ q hq
      rcases G.blk _ _ t1.1 with ⟨h0', _⟩ | ⟨g', cap', h1, h2, h3, h4, h5, h6, h7, h8, h9⟩
      · rw [h0'] at t5; cases t5
      rw [h1] at t5; obtain ⟨rfl, rfl⟩ := Prod.mk.inj (Option.some.inj t5)
      have hlen : e.length = k.sz := h5 e (by rw [t3]; simp)
      have hpb := (hpt _ q hq).2
      rw [Nat.zero_add] at hpb
      refine .inr ⟨g', cap', by simp [ρ0, hb, hpb, h1], h2, h3, fun _ => h4 t2, fun e' he' => ?_, ?_, fun i j e' c' he' hj' => ?_, fun _ hg => ?_, fun h => by cases h⟩
      · simp [ptBlk] at he' ⊢; subst he'; omega
      · simp only [ptBlk, Function.comp, List.length_cons, List.length_nil]
        have := h6; rw [t3] at this; simp only [List.length_cons, List.length_nil] at this
        omega
      · cases i with
        | succ i => simp [ptBlk] at he'
        | zero =>
          simp [ptBlk] at he'; subst he'
          obtain ⟨c0, s1, s2, s3, s4⟩ := t7 j c' hj'
          obtain ⟨⟨x, hx1, hx2⟩, hx3, hx4⟩ := h7 0 j e c0 (by rw [t3]; rfl) s1
          simp only [Nat.zero_mul, Nat.zero_add] at hx1
          exact ⟨⟨x, by simpa using hx1, .clo (s2 x _ hx2 hI hsn)⟩, s4 hx3, fun _ => s3⟩
      · rcases hg with hg | ⟨b', hb', n, hr⟩
        · exact h8 t2 hg
        · have := G.inj _ _ _ _ _ h1 hr
          exact (ok1 q (List.mem_of_getElem? hq)).1 (by rw [this]; exact hb')
    · cases hk
  · simp only [ρ0] at h1 h2
    split at h1
    · rename_i hb
      split at h2
      · rename_i hb'
        simp only [pbOf, List.getElem?_map, Option.map_eq_some_iff] at h1 h2
        obtain ⟨q, hq, e1⟩ := h1
        obtain ⟨q', hq', e2⟩ := h2
        obtain ⟨_, _, g1, c1, _, _, _, _, t5, _⟩ := q3 _ q hq
        obtain ⟨_, _, g2, c2, _, _, _, _, t5', _⟩ := q3 _ q' hq'
        rw [t5] at e1; rw [t5'] at e2
        simp only [Option.getD_some, Prod.mk.injEq] at e1 e2
        obtain ⟨rfl, rfl⟩ := e1
        obtain ⟨e2, rfl⟩ := e2
        subst e2
        have hqq := G.inj _ _ _ _ _ t5 t5'
        have := nodup_get ok2 (i := b / 2) (j := b' / 2) (x := q.1) (by simp [hq]) (by simp [hq', hqq])
        omega
      · cases h2
    · cases h1
  · rcases hg with hg | ⟨b, hb, n, hr⟩
    · exact G.iold g hg
    · obtain ⟨k, hk⟩ := Option.ne_none_iff_exists'.1 (q1 b hb).2
      replace hk := hsub _ _ hk
      rcases G.blk b k hk with ⟨h0', _⟩ | ⟨g', cap', h1, h2, _⟩
      · rw [h0'] at hr; cases hr
      · rw [h1] at hr; obtain ⟨rfl, rfl⟩ := Prod.mk.inj (Option.some.inj hr); exact h2
  · simp only [ρ0] at h
    split at h
    · rename_i hb
      exact .inl ⟨b / 2, by omega, by simp [h]⟩
    · cases h
  · simp only [ρ0, h0] at h ⊢
    split at h
    · rename_i hb
      simp only [pbOf, ptsOf, List.getElem?_map] at h ⊢
      cases hq : p.pts[b / 2]? with
      | none => rw [hq] at h; exact absurd rfl h
      | some q => simp [hb]
    · exact absurd rfl h
  · simp only [ρ0] at h
    split at h
    · rename_i hb
      simp only [pbOf, List.getElem?_map, Option.map_eq_some_iff] at h
      obtain ⟨q, hq, e1⟩ := h
      obtain ⟨_, _, g1, c1, _, _, _, _, t5, _⟩ := q3 _ q hq
      rw [t5] at e1
      simp only [Option.getD_some, Prod.mk.injEq] at e1
      rw [← e1.1]
      exact G.lo _ _ _ t5
    · cases h
end Go.Ai
