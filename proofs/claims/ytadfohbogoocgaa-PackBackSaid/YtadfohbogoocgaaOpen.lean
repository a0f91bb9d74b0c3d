import Derived.Test.YtadfohbogoocgaaWWords
import Derived.ChangeArms
import Derived.Deep.Slices
import Derived.SizedLaws
namespace Go.Proofs.YtadfohbogoocgaaOpen
open Go.RowKit Go.Proofs.YtadfohbogoocgaaW.PrintWords
def Opens {α : Type} (P : Program) (t : TypeId) (d : Kd α) (B : α → Prop) : Prop :=
  ∀ (H : Type) (enc : TypeId × Value → H) (w : World) (base : Nat) (spare : Nat → Bool) (held : Bool) (fuel : Nat) (cs : List Value) (x : DataW H × List MemPlace),
    DataW.trod enc P w base spare held fuel t cs = some x → (∀ n ∈ x.1.weights P t, n ≤ reachBytes) → ∃ a : α, d.K w a cs ∧ B a
theorem z5a {P : Program} {t : TypeId} {k : IntKind} (ht : P.underlying t = some (.int k)) : Opens P t (Kd.int k) (fun n => (Lit.int k n).wf = true) := by
  intro H enc w base spare held fuel cs x h _
  obtain ⟨n, rfl, _, hw⟩ := DataW.trod_int ht h
  exact ⟨n, rfl, hw⟩
theorem z7c {P : Program} {t : TypeId} (ht : P.underlying t = some .string) : Opens P t Kd.string (fun s => s.size ≤ 140737488351232) := by
  intro H enc w base spare held fuel cs x h hw
  obtain ⟨s, rfl, rfl, _⟩ := DataW.trod_string ht h
  refine ⟨s, rfl, ?_⟩
  have := hw s.data.toList.length (by simp [DataW.weights])
  rw [Array.length_toList] at this
  exact this
theorem z2a {H : Type} {P : Program} {e : TypeId} {n : Nat} : ∀ {l : List (DataW H)} {d : DataW H}, d ∈ l → n ∈ d.weights P e → n ∈ DataW.weightsAll P e l
  | [], _, h, _ => by simp at h
  | y :: l, d, h, hn => by
    simp only [DataW.weightsAll, List.mem_append]
    rcases List.mem_cons.1 h with rfl | h
    · exact .inl hn
    · exact .inr (z2a h hn)
theorem z0s {α : Type} {P : Program} {t e : TypeId} {d : Kd α} {B : α → Prop} (ht : P.underlying t = some (.slice e)) (hc : P.cellsOf e = d.sz) {nb : Nat} (hb : P.bytesOf e = nb) (ho : Opens P e d B) :
    Opens P t (Kd.slice e d) (fun l => l.length * nb ≤ 140737488351232 ∧ ∀ x ∈ l, B x) := by
  intro H enc w base spare held fuel cs x h hw
  rcases Go.Deep.open_slice ht h with ⟨rfl, _⟩ | ⟨a, len, cap, m, n, D, Pl, rfl, _, hl, hm, hmm, rfl, hx⟩
  · exact ⟨[], ⟨none, 0, rfl, Nat.le_refl _, Kd.z3d d w⟩, by simp, by simp⟩
  · have hlm : len ≤ m := by rw [hmm]; split <;> omega
    simp only [DataW.weights, ht] at hw
    have h0 : (len + (m - len)) * nb ≤ reachBytes := by
      have := hw ((len + (m - len)) * nb) (by simp [hb])
      exact this
    have hlen : len * nb ≤ reachBytes := Nat.le_trans (Nat.mul_le_mul_right _ (by omega)) h0
    have hel : ∀ i, i < len → ∃ y : α, (∃ c, c.length = d.sz ∧ d.K w y c ∧ ∀ j u, c[j]? = some u → w.cell? (a.add (i * d.sz + j)) = some u) ∧ B y := by
      intro i hi
      obtain ⟨cs', h1, h2⟩ := hx i (by omega)
      obtain ⟨y, hK, hB⟩ := ho H enc w base spare held n cs' _ h2 (fun q hq => hw q (List.mem_cons_of_mem _ (List.mem_append_left _ (z2a (d := D i) (List.mem_map.2 ⟨i, List.mem_range.2 hi, rfl⟩) hq))))
      obtain ⟨_, hl2, hcell⟩ := World.cells?_some h1
      refine ⟨y, ⟨cs', by rw [hl2, hc], hK, fun j u hu => ?_⟩, hB⟩
      have hj : j < P.cellsOf e := by rw [← hl2]; exact (List.getElem?_eq_some_iff.1 hu).1
      have := hcell j hj
      rw [hu, hc, Go.Deep.add_add] at this
      exact this
    have : ∃ l : List α, l.length = len ∧ ∀ i (h : i < l.length), (∃ c, c.length = d.sz ∧ d.K w l[i] c ∧ ∀ j u, c[j]? = some u → w.cell? (a.add (i * d.sz + j)) = some u) ∧ B l[i] := by
      clear hx h hw hlm hmm h0 hlen
      have go : ∀ k, k ≤ len → ∃ l : List α, l.length = k ∧ ∀ i (h : i < l.length), (∃ c, c.length = d.sz ∧ d.K w l[i] c ∧ ∀ j u, c[j]? = some u → w.cell? (a.add (i * d.sz + j)) = some u) ∧ B l[i] := by
        intro k
        induction k with
        | zero => exact fun _ => ⟨[], rfl, fun i h => by simp at h⟩
        | succ k ih =>
          intro hk
          obtain ⟨l, hll, hl⟩ := ih (by omega)
          obtain ⟨y, hy⟩ := hel k (by omega)
          refine ⟨l ++ [y], by simp [hll], fun i h => ?_⟩
          rcases Nat.lt_or_ge i l.length with hi | hi
          · have := hl i hi
            simpa [List.getElem_append_left hi] using this
          · have e : i = l.length := by simp at h; omega
            subst e
            simp only [List.getElem_append_right (Nat.le_refl _), Nat.sub_self, List.getElem_cons_zero]
            rw [hll]
            exact hy
      exact go len (Nat.le_refl _)
    obtain ⟨l, hll, hl⟩ := this
    refine ⟨l, ⟨some a, cap, by rw [hll], by omega, rfl, by unfold maxLen at hm; omega, fun _ => ⟨a, rfl, fun j p hj => ?_⟩⟩, by rw [hll]; exact hlen, fun x hx => ?_⟩
    · obtain ⟨hj1, rfl⟩ := List.getElem?_eq_some_iff.1 hj
      exact (hl j hj1).1
    · obtain ⟨i, hi, rfl⟩ := List.getElem_of_mem hx
      exact (hl i hi).2
def OpensFs {α : Type} (P : Program) (fs : List Field) (off : Nat) (d : Kd α) (B : α → Prop) : Prop :=
  ∀ (H : Type) (enc : TypeId × Value → H) (w : World) (base : Nat) (spare : Nat → Bool) (held : Bool) (fuel : Nat) (cs : List Value) (ds : List (DataW H × List MemPlace)),
    cs.length = off + d.sz → ds.length = fs.length →
    (∀ (i : Nat) (f : Field), fs[i]? = some f → DataW.trod enc P w base spare held fuel f.type ((cs.drop f.offset).take (P.cellsOf f.type)) = ds[i]?) →
    (∀ n ∈ DataW.weightsEach P (fs.map (·.type)) (ds.map (·.1)), n ≤ reachBytes) → ∃ a : α, d.K w a (cs.drop off) ∧ B a
theorem z0t {α : Type} {P : Program} {f : Field} {d : Kd α} {B : α → Prop} {off : Nat} (ho : Opens P f.type d B) (h1 : f.offset = off) (h2 : P.cellsOf f.type = d.sz) : OpensFs P [f] off d B := by
  intro H enc w base spare held fuel cs ds hl hd h hw
  obtain ⟨y, rfl⟩ : ∃ y, ds = [y] := by
    match ds, hd with
    | [y], _ => exact ⟨y, rfl⟩
  have := h 0 f rfl
  rw [h1, h2, List.take_of_length_le (by simp; omega)] at this
  exact ho H enc w base spare held fuel _ y this (fun n hn => hw n (by simp [DataW.weightsEach, hn]))
theorem uw {α β : Type} {P : Program} {f : Field} {fs : List Field} {d : Kd α} {g : Kd β} {B : α → Prop} {C : β → Prop} {BC : α × β → Prop} {off off' : Nat} (hbc : ∀ x, B x.1 → C x.2 → BC x) (ho : Opens P f.type d B) (h1 : f.offset = off) (h2 : P.cellsOf f.type = d.sz) (h3 : off' = off + d.sz) (hs : OpensFs P fs off' g C) :
    OpensFs P (f :: fs) off (Kd.pair d g) BC := by
  intro H enc w base spare held fuel cs ds hl hd h hw
  obtain ⟨y, ys, rfl⟩ : ∃ y ys, ds = y :: ys := by
    match ds, hd with
    | y :: ys, _ => exact ⟨y, ys, rfl⟩
  have e0 := h 0 f rfl
  rw [h1, h2] at e0
  obtain ⟨a, hK, hB⟩ := ho H enc w base spare held fuel _ y e0 (fun n hn => hw n (by simp [DataW.weightsEach, hn]))
  have hlp : cs.length = off + (d.sz + g.sz) := hl
  obtain ⟨b, hK2, hC⟩ := hs H enc w base spare held fuel cs ys (by omega) (by simpa using hd) (fun i f' hf => by
    have := h (i + 1) f' hf
    simpa using this) (fun n hn => hw n (by simp only [List.map_cons, DataW.weightsEach, List.mem_append]; exact .inr hn))
  refine ⟨(a, b), ⟨(cs.drop off).take d.sz, cs.drop off', ?_, hK, hK2⟩, hbc (a, b) hB hC⟩
  rw [h3, ← List.drop_drop, List.take_append_drop]
theorem z0l {α β : Type} {P : Program} {t : TypeId} {fs : List Field} {d : Kd α} {B : α → Prop} {C : β → Prop} (f : β → α) (g : α → β) (hbc : ∀ x, B x → C (g x)) (hfg : ∀ x, f (g x) = x) (ht : P.underlying t = some (.struct fs.toArray)) (hc : P.cellsOf t = d.sz) (hs : OpensFs P fs 0 d B) :
    Opens P t (Kd.iso d f) C := by
  intro H enc w base spare held fuel cs x h hw
  obtain ⟨xs, n, _, rfl, hl, hlen, hf⟩ := DataW.trod_struct ht h
  obtain ⟨a, hK, hB⟩ := hs H enc w base spare held n cs xs (by omega) (by simpa using hlen) (fun i f' hi => hf i f' (by simpa using hi)) (fun q hq => hw q (by
    simp only [DataW.weights, ht]
    simpa using hq))
  refine ⟨g a, ?_, ?_⟩
  · show d.K w (f (g a)) cs
    rw [hfg]
    simpa using hK
  · exact hbc a hB
theorem Opens.mono {α : Type} {P : Program} {t : TypeId} {d : Kd α} {B C : α → Prop} (h : Opens P t d B) (hi : ∀ x, B x → C x) : Opens P t d C := by
  intro H enc w base spare held fuel cs x hx hw
  obtain ⟨a, hK, hB⟩ := h H enc w base spare held fuel cs x hx hw
  exact ⟨a, hK, hi a hB⟩
theorem Opens.arg {α : Type} {P : Program} {t : TypeId} {d : Kd α} {B : α → Prop} (h : Opens P t d B) {H : Type} {enc : TypeId × Value → H} {w : World} {base : Nat} {spare : Nat → Bool} {held : Bool} {v : Value} {x : DataW H} {ps : List MemPlace} {ts : List TypeId} {ds : List (DataW H)} {j : Nat}
    (hx : DataW.Trod enc P w base spare held t v x ps) (hsz : (DataW.weightsEach P ts ds).all (· ≤ reachBytes) = true) (ht : ts[j]? = some t) (hd : ds[j]? = some x) : ∃ a : α, d.K w a v.cells.toList ∧ B a := by
  obtain ⟨fuel, hf⟩ := hx
  refine h H enc w base spare held fuel _ _ hf (fun n hn => ?_)
  have := List.all_eq_true.1 hsz n (DataW.weights_mem_each ht hd n hn)
  simpa using this
end Go.Proofs.YtadfohbogoocgaaOpen
