/- Whatever reads as a datum of a type (integers, bools, strings, slices, structs of these) is a value as the interpreter sees it. -/
import Derived.Test.YtadfohbogoocgaaGreatDoorRunN9toAiG
import Derived.Below
import Derived.ChangeArms
import Derived.Deep.Slices
import Derived.SizedLaws
set_option linter.unusedVariables false
set_option linter.unusedSimpArgs false
namespace Go.Ai
open Go Go.RowKit
variable {P : Program} {S : Sys}
theorem good_now {w w' : World} {I : Nat → Prop} (hi : ∀ g, I g → g < w.heap.size) (hlo : S.lo ≤ w.heap.size) (hu : S.U w) (hb : Below w.heap.size w w') : Good ⟨S, w, I, []⟩ ⟨w', I, noJ, ρ0 [], h0 []⟩ := by
  have hr : ∀ b, ρ0 [] b = none := fun b => by unfold ρ0; split <;> simp
  have hh : ∀ b, h0 [] b = none := fun b => by unfold h0; split <;> simp
  refine ⟨fun b k hk => ?_, fun b b' g c c' h1 => ?_, fun g hg => Nat.lt_of_lt_of_le (hi g hg) hb.size, fun g hg => .inl hg, fun b g c h => ?_, fun b h => ?_, hb.os, hb.tape, hb.output, hb.size, fun g hg _ => hb.block g hg, fun b g c h => ?_, hlo, S.st w w' (fun g hg => hb.block g (Nat.lt_of_lt_of_le hg hlo)) hu, fun _ _ h => h.elim⟩
  · have hk : h0 [] b = some k := hk
    rw [hh] at hk; cases hk
  · have h1 : ρ0 [] b = some (g, c) := h1
    rw [hr] at h1; cases h1
  · have h : ρ0 [] b = some (g, c) := h
    rw [hr] at h; cases h
  · exact absurd (hr b) h
  · have h : ρ0 [] b = some (g, c) := h
    rw [hr] at h; cases h
/-- A function that was walked otherwise. -/
theorem callOk_pure {f : FuncId} {args : List V} {res : V} {y : Value} (hres : ∀ E, VR E res y)
    (h : ∀ (w : World) (I : Nat → Prop) (cargs : Array Value), S.U w → (∀ g, I g → g < w.heap.size) → cargs.size = args.length → (∀ (j : Nat) v, args[j]? = some v → VR ⟨w, I, noJ, ρ0 [], h0 []⟩ v (cargs.getD j undef)) → Calls P f cargs w fun e w' => e = .returned y ∧ Below w.heap.size w w') : CallOk P S f args [] res [] [] := by
  intro w I cargs pb hpb hsz G hargs
  obtain rfl : pb = [] := List.eq_nil_of_length_eq_zero hpb.symm
  refine (h w I cargs G.u (fun g hg => G.iold g hg) hsz hargs).mono ?_
  rintro e w' ⟨rfl, hb⟩
  refine ⟨y, ⟨w', I, noJ, ρ0 [], h0 []⟩, rfl, rfl, good_now (fun g hg => G.iold g hg) G.lo0 G.u hb, ⟨fun _ hg => hg, fun g o hg => World.cell?_of_block (hb.block g (G.iold g hg)), fun b k hk => ?_, fun _ _ _ _ _ _ => ⟨fun _ h => h, fun _ _ h => h.elim⟩⟩, hres _, ?_, fun b _ => rfl⟩
  · have hk : h0 [] b = some k := hk
    unfold h0 at hk
    split at hk <;> simp at hk
  · funext b
    show h0 [] b = h1 [] [] b
    unfold h0 h1
    split <;> simp
/-- And back. -/
theorem calls_of_ok {f : FuncId} {args : List V} {res : V} {y : Value} (hf : CallOk P S f args [] res [] []) (hres : ∀ E z, VR E res z → z = y) (w : World) (I : Nat → Prop) (hi : ∀ g, I g → g < w.heap.size) (cargs : Array Value) (hsz : cargs.size = args.length)
    (hargs : ∀ (j : Nat) v, args[j]? = some v → VR ⟨w, I, noJ, ρ0 [], h0 []⟩ v (cargs.getD j undef)) (hlo : S.lo ≤ w.heap.size) (hu : S.U w) : Calls P f cargs w fun e w' => e = .returned y ∧ Below w.heap.size w w' := by
  refine (hf w I cargs [] rfl hsz (good_now hi hlo hu (Below.refl _ _)) hargs).mono ?_
  rintro e w' ⟨z, E', rfl, rfl, G, X, hv, _, _⟩
  rw [hres _ _ hv]
  exact ⟨rfl, ⟨G.os, G.tape, G.output, G.size, fun g hg => G.frame g hg (by simp)⟩⟩
end Go.Ai

namespace Go.Ai
open Go Go.RowKit

def olds (w : World) : Nat → Prop := fun g => g < w.heap.size
/-- Cells that stand for what the interpreter sees. -/
def CRs (w : World) (l : List V) (cs : List Value) : Prop := cs.length = l.length ∧ ∀ (j : Nat) v, l[j]? = some v → CR w (olds w) v (cs.getD j undef)

theorem CRs.append {w : World} {l l' : List V} {cs cs' : List Value} (h : CRs w l cs) (h' : CRs w l' cs') : CRs w (l ++ l') (cs ++ cs') := by
  refine ⟨by simp [h.1, h'.1], fun j v hj => ?_⟩
  rw [List.getD_eq_getElem?_getD]
  rcases Nat.lt_or_ge j l.length with hlt | hge
  · rw [List.getElem?_append_left hlt] at hj
    rw [List.getElem?_append_left (by rw [h.1]; exact hlt), ← List.getD_eq_getElem?_getD]
    exact h.2 j v hj
  · rw [List.getElem?_append_right hge] at hj
    rw [List.getElem?_append_right (by rw [h.1]; exact hge), h.1, ← List.getD_eq_getElem?_getD]
    exact h'.2 _ v hj

/-- Cells cs, read as type t, are what enc tells of some a; B: what is known of it. -/
def Opens {α : Type} (P : Program) (t : TypeId) (enc : α → List V) (B : α → Prop) : Prop :=
  ∀ (H : Type) (en : TypeId × Value → H) (w : World) (base : Nat) (spare : Nat → Bool) (held : Bool) (fuel : Nat) (cs : List Value) (x : DataW H × List MemPlace),
    DataW.trod en P w base spare held fuel t cs = some x → (∀ n ∈ x.1.weights P t, n ≤ reachBytes) → ∃ a : α, CRs w (enc a) cs ∧ B a

theorem crs_val (w : World) (v : Value) : CRs w [.val v] [v] := ⟨rfl, fun j u hj => by
  cases j with
  | zero => simp at hj; subst hj; exact .val _
  | succ j => simp at hj⟩

theorem opens_int {P : Program} {t : TypeId} {k : IntKind} (ht : P.underlying t = some (.int k)) : Opens P t (fun n => [.val (.int k n)]) (fun n => (Lit.int k n).wf = true) := by
  intro H en w base spare held fuel cs x h _
  obtain ⟨n, rfl, _, hw⟩ := DataW.trod_int ht h
  exact ⟨n, crs_val w _, hw⟩
theorem opens_bool {P : Program} {t : TypeId} (ht : P.underlying t = some .bool) : Opens P t (fun b => [.val (.bool b)]) (fun _ => True) := by
  intro H en w base spare held fuel cs x h _
  obtain ⟨n, rfl, _⟩ := DataW.trod_bool ht h
  exact ⟨n, crs_val w _, trivial⟩
theorem opens_string {P : Program} {t : TypeId} (ht : P.underlying t = some .string) : Opens P t (fun s => [.val (.string s)]) (fun s => s.size ≤ 140737488351232) := by
  intro H en w base spare held fuel cs x h hw
  obtain ⟨s, rfl, rfl, _⟩ := DataW.trod_string ht h
  refine ⟨s, crs_val w _, ?_⟩
  have := hw s.data.toList.length (by simp [DataW.weights])
  rw [Array.length_toList] at this
  exact this

theorem weightsAll_mem {H : Type} {P : Program} {e : TypeId} {n : Nat} : ∀ {l : List (DataW H)} {d : DataW H}, d ∈ l → n ∈ d.weights P e → n ∈ DataW.weightsAll P e l
  | [], _, h, _ => by simp at h
  | y :: l, d, h, hn => by
    simp only [DataW.weightsAll, List.mem_append]
    rcases List.mem_cons.1 h with rfl | h
    · exact .inl hn
    · exact .inr (weightsAll_mem h hn)

theorem cell_plain {w : World} {a : Addr} {v : Value} (h : w.cell? a = some v) : a = ⟨a.block, a.off, none⟩ := by
  obtain ⟨b, o, s⟩ := a
  cases s with
  | none => rfl
  | some s =>
    unfold World.cell? at h
    split at h
    · simp at h
    · cases h

theorem opens_slice {α : Type} {P : Program} {t e : TypeId} {enc : α → List V} {B : α → Prop} {sz nb : Nat} (ht : P.underlying t = some (.slice e)) (hc : P.cellsOf e = sz) (hb : P.bytesOf e = nb) (h0 : 0 < sz) (hsz : ∀ a, (enc a).length = sz) (hok : ∀ a, ∀ c ∈ enc a, cellOk c = true ∧ clo0 c = true) (ho : Opens P e enc B) :
    Opens P t (fun l : List α => [.isl sz (l.map enc)]) (fun l => l.length * nb ≤ 140737488351232 ∧ ∀ x ∈ l, B x) := by
  intro H en w base spare held fuel cs x h hw
  rcases Go.Deep.open_slice ht h with ⟨rfl, _⟩ | ⟨a, len, cap, m, n, D, Pl, rfl, _, hl, hm, hmm, rfl, hx⟩
  · refine ⟨[], ⟨rfl, fun j v hj => ?_⟩, by simp, by simp⟩
    cases j with
    | zero =>
      simp at hj; subst hj
      exact .isl sz [] none 0 (fun _ _ => undef) (Nat.le_refl _) (fun e he => by cases he) (fun e he => by cases he) (fun h => absurd rfl h) (fun i j e c he => by simp at he) (fun i j e c he => by simp at he)
    | succ j => simp at hj
  · have hlm : len ≤ m := by rw [hmm]; split <;> omega
    simp only [DataW.weights, ht] at hw
    have hlen : len * nb ≤ reachBytes := by
      have := hw ((len + (m - len)) * nb) (by simp [hb])
      exact Nat.le_trans (Nat.mul_le_mul_right _ (by omega)) this
    have hel : ∀ i, i < len → ∃ y : α, (∃ c, CRs w (enc y) c ∧ ∀ (j : Nat) u, c[j]? = some u → w.cell? (a.add (i * sz + j)) = some u) ∧ B y := by
      intro i hi
      obtain ⟨cs', h1, h2⟩ := hx i (by omega)
      obtain ⟨y, hK, hB⟩ := ho H en w base spare held n cs' _ h2 (fun q hq => hw q (List.mem_cons_of_mem _ (List.mem_append_left _ (weightsAll_mem (d := D i) (List.mem_map.2 ⟨i, List.mem_range.2 hi, rfl⟩) hq))))
      obtain ⟨_, hl2, hcell⟩ := World.cells?_some h1
      refine ⟨y, ⟨cs', hK, fun j u hu => ?_⟩, hB⟩
      have hj : j < P.cellsOf e := by rw [← hl2]; exact (List.getElem?_eq_some_iff.1 hu).1
      have := hcell j hj
      rw [hu, hc, Go.Deep.add_add] at this
      exact this
    have hall : ∃ l : List α, l.length = len ∧ ∀ i (h : i < l.length), (∃ c, CRs w (enc l[i]) c ∧ ∀ (j : Nat) u, c[j]? = some u → w.cell? (a.add (i * sz + j)) = some u) ∧ B l[i] := by
      clear hx h hw hlm hmm hlen
      have go : ∀ k, k ≤ len → ∃ l : List α, l.length = k ∧ ∀ i (h : i < l.length), (∃ c, CRs w (enc l[i]) c ∧ ∀ (j : Nat) u, c[j]? = some u → w.cell? (a.add (i * sz + j)) = some u) ∧ B l[i] := by
        intro k
        induction k with
        | zero => exact fun _ => ⟨[], rfl, fun i h => by simp at h⟩
        | succ k ih =>
          intro hk
          obtain ⟨l, hll, hl⟩ := ih (by omega)
          obtain ⟨y, hy⟩ := hel k (by omega)
          refine ⟨l ++ [y], by simp [hll], fun i h => ?_⟩
          rcases Nat.lt_or_ge i l.length with hi | hi
          · have := hl i hi
            simpa [List.getElem_append_left hi] using this
          · have e : i = l.length := by simp at h; omega
            subst e
            simp only [List.getElem_append_right (Nat.le_refl _), Nat.sub_self, List.getElem_cons_zero]
            rw [hll]
            exact hy
      exact go len (Nat.le_refl _)
    obtain ⟨l, hll, hw2⟩ := hall
    have hcell : ∀ (i j : Nat) (r : List V) (c : V), (l.map enc)[i]? = some r → r[j]? = some c → ∃ u, w.cell? (a.add (i * sz + j)) = some u ∧ CR w (olds w) c u := by
      intro i j r c hr hj
      rw [List.getElem?_map] at hr
      simp only [Option.map_eq_some_iff] at hr
      obtain ⟨y, hy, rfl⟩ := hr
      obtain ⟨hi, rfl⟩ := List.getElem?_eq_some_iff.1 hy
      obtain ⟨⟨cc, h1, h2⟩, _⟩ := hw2 i hi
      have hlt : j < cc.length := by rw [h1.1]; exact (List.getElem?_eq_some_iff.1 hj).1
      have hcc : cc[j]? = some cc[j] := List.getElem?_eq_getElem hlt
      refine ⟨cc[j], h2 j _ hcc, ?_⟩
      have := h1.2 j c hj
      rwa [List.getD_eq_getElem?_getD, hcc] at this
    refine ⟨l, ⟨rfl, fun j v hj => ?_⟩, by rw [hll]; exact hlen, fun x hx => ?_⟩
    · cases j with
      | succ j => simp at hj
      | zero =>
        simp at hj; subst hj
        show CR w (olds w) _ (.slice (some a) len cap)
        rw [show len = (l.map enc).length by rw [List.length_map, hll]]
        refine .isl sz (l.map enc) (some a) cap (fun i j => ((w.cell? (a.add (i * sz + j))).getD undef)) (by rw [List.length_map, hll]; exact hl) (fun r hr => ?_) (fun r hr c hc => ?_) (fun hne => ?_) (fun i j r c hr hj ad had => ?_) (fun i j r c hr hj => ?_)
        · obtain ⟨y, _, rfl⟩ := List.mem_map.1 hr; exact hsz y
        · obtain ⟨y, _, rfl⟩ := List.mem_map.1 hr; exact hok y c hc
        · have : 0 < l.length := by
            rcases Nat.eq_zero_or_pos l.length with h | h
            · exact absurd (List.eq_nil_of_length_eq_zero (by rw [List.length_map]; exact h)) hne
            · exact h
          have hr : (l.map enc)[0]? = some (enc l[0]) := by rw [List.getElem?_map, List.getElem?_eq_getElem this]; rfl
          have hlen0 := hsz l[0]
          have hj : (enc l[0])[0]? = some ((enc l[0])[0]'(by omega)) := List.getElem?_eq_getElem _
          obtain ⟨u, hu, _⟩ := hcell 0 0 _ _ hr hj
          have hu' : w.cell? a = some u := by simpa [Addr.add] using hu
          exact ⟨a.block, a.off, by rw [← cell_plain hu'], World.block_lt_of_cell? w a hu'⟩
        · obtain ⟨u, hu, _⟩ := hcell i j r c hr hj
          obtain rfl := Option.some.inj had
          have hpl : ∃ o, a = ⟨a.block, o, none⟩ := by
            have hlt : 0 < l.length := by
              have := (List.getElem?_eq_some_iff.1 hr).1
              rw [List.length_map] at this; omega
            have hr0 : (l.map enc)[0]? = some (enc l[0]) := by rw [List.getElem?_map, List.getElem?_eq_getElem hlt]; rfl
            have hlen0 := hsz l[0]
            have hj0 : (enc l[0])[0]? = some ((enc l[0])[0]'(by omega)) := List.getElem?_eq_getElem _
            obtain ⟨u0, hu0, _⟩ := hcell 0 0 _ _ hr0 hj0
            have hu0' : w.cell? a = some u0 := by simpa [Addr.add] using hu0
            exact ⟨a.off, cell_plain hu0'⟩
          obtain ⟨o, ho⟩ := hpl
          rw [hu, Option.getD_some]
          rw [ho] at hu ⊢
          rw [cell_add] at hu
          exact hu
        · obtain ⟨u, hu, hcr⟩ := hcell i j r c hr hj
          show CR w (olds w) c ((w.cell? (a.add (i * sz + j))).getD undef)
          rw [hu]; exact hcr
    · obtain ⟨i, hi, rfl⟩ := List.getElem_of_mem hx
      exact (hw2 i hi).2

/-- Fields from an offset on. -/
def OpensFs {α : Type} (P : Program) (fs : List Field) (off sz : Nat) (enc : α → List V) (B : α → Prop) : Prop :=
  ∀ (H : Type) (en : TypeId × Value → H) (w : World) (base : Nat) (spare : Nat → Bool) (held : Bool) (fuel : Nat) (cs : List Value) (ds : List (DataW H × List MemPlace)),
    cs.length = off + sz → ds.length = fs.length →
    (∀ (i : Nat) (f : Field), fs[i]? = some f → DataW.trod en P w base spare held fuel f.type ((cs.drop f.offset).take (P.cellsOf f.type)) = ds[i]?) →
    (∀ n ∈ DataW.weightsEach P (fs.map (·.type)) (ds.map (·.1)), n ≤ reachBytes) → ∃ a : α, CRs w (enc a) (cs.drop off) ∧ B a

theorem opensFs_one {α : Type} {P : Program} {f : Field} {enc : α → List V} {B : α → Prop} {off sz : Nat} (ho : Opens P f.type enc B) (h1 : f.offset = off) (h2 : P.cellsOf f.type = sz) : OpensFs P [f] off sz enc B := by
  intro H en w base spare held fuel cs ds hl hd h hw
  obtain ⟨y, rfl⟩ : ∃ y, ds = [y] := by
    match ds, hd with
    | [y], _ => exact ⟨y, rfl⟩
  have := h 0 f rfl
  rw [h1, h2, List.take_of_length_le (by simp; omega)] at this
  exact ho H en w base spare held fuel _ y this (fun n hn => hw n (by simp [DataW.weightsEach, hn]))

theorem opensFs_cons {α β : Type} {P : Program} {f : Field} {fs : List Field} {enc : α → List V} {enc' : β → List V} {B : α → Prop} {C : β → Prop} {off off' sz sz' : Nat} (ho : Opens P f.type enc B) (h1 : f.offset = off) (h2 : P.cellsOf f.type = sz) (h3 : off' = off + sz) (hs : OpensFs P fs off' sz' enc' C) :
    OpensFs P (f :: fs) off (sz + sz') (fun x : α × β => enc x.1 ++ enc' x.2) (fun x => B x.1 ∧ C x.2) := by
  intro H en w base spare held fuel cs ds hl hd h hw
  obtain ⟨y, ys, rfl⟩ : ∃ y ys, ds = y :: ys := by
    match ds, hd with
    | y :: ys, _ => exact ⟨y, ys, rfl⟩
  have e0 := h 0 f rfl
  rw [h1, h2] at e0
  obtain ⟨a, hK, hB⟩ := ho H en w base spare held fuel _ y e0 (fun n hn => hw n (by simp [DataW.weightsEach, hn]))
  obtain ⟨b, hK2, hC⟩ := hs H en w base spare held fuel cs ys (by omega) (by simpa using hd) (fun i f' hf => by
    have := h (i + 1) f' hf
    simpa using this) (fun n hn => hw n (by simp only [List.map_cons, DataW.weightsEach, List.mem_append]; exact .inr hn))
  refine ⟨(a, b), ?_, hB, hC⟩
  have e : cs.drop off = (cs.drop off).take sz ++ cs.drop off' := by rw [h3, ← List.drop_drop, List.take_append_drop]
  rw [e]
  exact hK.append hK2

theorem opens_struct {α β : Type} {P : Program} {t : TypeId} {fs : List Field} {enc : α → List V} {enc' : β → List V} {B : α → Prop} {C : β → Prop} {sz : Nat} (g : α → β) (hg : ∀ x, enc' (g x) = enc x) (hbc : ∀ x, B x → C (g x)) (ht : P.underlying t = some (.struct fs.toArray)) (hc : P.cellsOf t = sz) (hs : OpensFs P fs 0 sz enc B) :
    Opens P t enc' C := by
  intro H en w base spare held fuel cs x h hw
  obtain ⟨xs, n, _, rfl, hl, hlen, hf⟩ := DataW.trod_struct ht h
  obtain ⟨a, hK, hB⟩ := hs H en w base spare held n cs xs (by omega) (by simpa using hlen) (fun i f' hi => hf i f' (by simpa using hi)) (fun q hq => hw q (by
    simp only [DataW.weights, ht]
    simpa using hq))
  refine ⟨g a, ?_, hbc a hB⟩
  rw [hg]
  simpa using hK

/-- Of an argument: its value's cells. -/
theorem Opens.arg {α : Type} {P : Program} {t : TypeId} {enc : α → List V} {B : α → Prop} (h : Opens P t enc B) {H : Type} {en : TypeId × Value → H} {w : World} {base : Nat} {spare : Nat → Bool} {held : Bool} {v : Value} {x : DataW H} {ps : List MemPlace} {ts : List TypeId} {ds : List (DataW H)} {j : Nat}
    (hx : DataW.Trod en P w base spare held t v x ps) (hsz : (DataW.weightsEach P ts ds).all (· ≤ reachBytes) = true) (ht : ts[j]? = some t) (hd : ds[j]? = some x) : ∃ a : α, CRs w (enc a) v.cells.toList ∧ B a := by
  obtain ⟨fuel, hf⟩ := hx
  refine h H en w base spare held fuel _ _ hf (fun n hn => ?_)
  have := List.all_eq_true.1 hsz n (DataW.weights_mem_each ht hd n hn)
  simpa using this
/-- A law of one struct: its contract at the struct that was read. -/
theorem law_calls {P : Program} {S : Sys} {f : FuncId} {l : List V} {cs : Array Value} {w : World} (hf : CallOk P S f [.agg l] [] (.val (.bool true)) [] []) (hK : CRs w l cs.toList) (hlo : S.lo ≤ w.heap.size) (hu : S.U w) : Calls P f #[.agg cs] w fun e w' => e = .returned (.bool true) ∧ Below w.heap.size w w' := by
  refine calls_of_ok hf (fun E z hz => ?_) w (olds w) (fun g h => h) #[.agg cs] rfl (fun j v hj => ?_) hlo hu
  · cases hz with
    | clo h => cases h; rfl
  · cases j with
    | succ j => simp at hj
    | zero =>
      simp at hj; subst hj
      refine .clo (.agg l cs (by simpa using hK.1) (fun j c hj => ?_))
      have := hK.2 j c hj
      rwa [List.getD_eq_getElem?_getD, Array.getElem?_toList, ← Array.getD_eq_getD_getElem?] at this
end Go.Ai
