/- lectionarylaw0.Elems, lectionarylaw0.Ops write over lists that are new. -/
import Derived.Test.YtadfohbogoocgaaGreatDoorN7
import Derived.Test.YtadfohbogoocgaaGreatDoorAiJ
import Derived.Test.YtadfohbogoocgaaGreatDoorProg
import Derived.KernelRfl
import Derived.ProofKit
import Derived.WalkKit
import Derived.Deep.RegionLaw
import Derived.Lib.SliceRun
import Derived.Deep.LoopGhost
import Derived.Deep.Slices
set_option linter.unusedVariables false
set_option linter.unusedSimpArgs false
namespace Go.Ai
open Go Go.RowKit Go.Proofs Go.Sp
set_option maxRecDepth 100000
set_option maxHeartbeats 4000000
set_option linter.unusedVariables false
set_option linter.unusedSimpArgs false
/-- Blocks of J alone were written; what was there is there. -/
structure Mine (J : Nat → Prop) (w w' : World) : Prop where
  oth : ∀ x, ¬ J x → w'.heap[x]? = w.heap[x]?
  size : w'.heap.size = w.heap.size
  os : w'.os = w.os
  tape : w'.tape = w.tape
  output : w'.output = w.output
  there : ∀ x j, (w'.cell? ⟨x, j, none⟩).isSome = (w.cell? ⟨x, j, none⟩).isSome
  frozen : ∀ x j, w'.frozen? ⟨x, j, none⟩ = w.frozen? ⟨x, j, none⟩
theorem Mine.refl (J : Nat → Prop) (w : World) : Mine J w w := ⟨fun _ _ => rfl, rfl, rfl, rfl, rfl, fun _ _ => rfl, fun _ _ => rfl⟩
theorem Mine.trans {J : Nat → Prop} {w w' w'' : World} (h : Mine J w w') (k : Mine J w' w'') : Mine J w w'' :=
  ⟨fun x hx => (k.oth x hx).trans (h.oth x hx), k.size.trans h.size, k.os.trans h.os, k.tape.trans h.tape, k.output.trans h.output, fun x j => (k.there x j).trans (h.there x j), fun x j => (k.frozen x j).trans (h.frozen x j)⟩
theorem Mine.set {J : Nat → Prop} {w w' : World} (h : Mine J w w') {g : Nat} (hg : J g) (p : Nat) (v : Value) : Mine J w (w'.setCell ⟨g, p, none⟩ v) := by
  obtain ⟨a1, a2, a3, a4, a5⟩ := setCells_other g [v] p w'
  exact ⟨fun x hx => (a1 x (fun e => hx (e ▸ hg))).trans (h.oth x hx), a2.trans h.size, a3.trans h.os, a4.trans h.tape, a5.trans h.output, fun x j => by rw [setCell_isSome, h.there], fun x j => (World.frozen?_setCells g [v] p w' ⟨x, j, none⟩).trans (h.frozen x j)⟩
/-- A whole number of memory. -/
def IsI : Value → Prop
  | .int .i64 _ => True
  | _ => False
/-- Where something is another one, there were whole numbers and are. -/
def Soft (w w' : World) : Prop := ∀ x j, w'.cell? ⟨x, j, none⟩ = w.cell? ⟨x, j, none⟩ ∨ ((∃ u, w.cell? ⟨x, j, none⟩ = some u ∧ IsI u) ∧ ∃ u, w'.cell? ⟨x, j, none⟩ = some u ∧ IsI u)
theorem Soft.refl (w : World) : Soft w w := fun _ _ => .inl rfl
theorem Soft.trans {w w' w'' : World} (h : Soft w w') (k : Soft w' w'') : Soft w w'' := fun x j => by
  rcases h x j with h1 | ⟨h1, h2⟩
  · rcases k x j with k1 | ⟨k1, k2⟩
    · exact .inl (k1.trans h1)
    · rw [h1] at k1; exact .inr ⟨k1, k2⟩
  · rcases k x j with k1 | ⟨k1, k2⟩
    · rw [← k1] at h2; exact .inr ⟨h1, h2⟩
    · exact .inr ⟨h1, k2⟩
theorem Soft.int {w w' : World} (h : Soft w w') {x j : Nat} (hi : ∃ u, w.cell? ⟨x, j, none⟩ = some u ∧ IsI u) : ∃ u, w'.cell? ⟨x, j, none⟩ = some u ∧ IsI u := by
  rcases h x j with h1 | ⟨_, h2⟩
  · rw [h1]; exact hi
  · exact h2
theorem Soft.keep {w w' : World} (h : Soft w w') {x j : Nat} {u : Value} (hu : w.cell? ⟨x, j, none⟩ = some u) (hn : ¬ IsI u) : w'.cell? ⟨x, j, none⟩ = some u := by
  rcases h x j with h1 | ⟨⟨v, h1, h2⟩, _⟩
  · rw [h1]; exact hu
  · rw [hu] at h1; obtain rfl := Option.some.inj h1; exact absurd h2 hn
theorem Soft.set {w w' : World} (h : Soft w w') {g p : Nat} {z : Int} (hp : ∃ u, w'.cell? ⟨g, p, none⟩ = some u ∧ IsI u) : Soft w (w'.setCell ⟨g, p, none⟩ (.int .i64 z)) := by
  refine h.trans (fun x j => ?_)
  by_cases e : (⟨g, p, none⟩ : Addr) = ⟨x, j, none⟩
  · obtain ⟨rfl, rfl⟩ : g = x ∧ p = j := by cases e; exact ⟨rfl, rfl⟩
    obtain ⟨u, hu, hi⟩ := hp
    exact .inr ⟨⟨u, hu, hi⟩, _, World.cell?_setCell_same _ _ _ hu, trivial⟩
  · exact .inl (World.cell?_setCell_other _ _ _ _ e)
theorem elemsCalls (J : Nat → Prop) (a : Option Addr) (n cap : Nat) (w : World) (hcap : n ≤ cap) (hn : n ≤ 1000000)
    (hl : 0 < n → ∃ g o, a = some ⟨g, o, none⟩ ∧ J g ∧ ∀ j, j < n * 3 → (∃ u, w.cell? ⟨g, o + j, none⟩ = some u ∧ IsI u) ∧ w.frozen? ⟨g, o + j, none⟩ = false) :
    Calls Tryz.prog 34 #[.slice a n cap] w fun e w' => e = .returned (.tuple #[]) ∧ Mine J w w' ∧ Soft w w' := by
  have HT : Aside (0 < n → ∃ g o, a = some ⟨g, o, none⟩ ∧ J g ∧ ∀ j, j < n * 3 → (∃ u, w.cell? ⟨g, o + j, none⟩ = some u ∧ IsI u) ∧ w.frozen? ⟨g, o + j, none⟩ = false) := hl
  clear hl
  have hu := Tryz.underlying23
  go_enter Tryz.func34, Tryz.ntmps34
  go_wp2
  go_loopg [2] n (fun gg s2 wr => ∃ (kk : Nat), kk ≤ n ∧ n - kk ≤ gg ∧ s2 = .int .i64 kk ∧ Aside (Mine J w wr ∧ Soft w wr))
  case atStart =>
    refine ⟨0, Nat.zero_le _, by omega, rfl, Mine.refl J w, Soft.refl w⟩
  case round =>
    obtain ⟨kk, hkk, hg, rfl, HO, HS⟩ := hrel
    by_cases hlt : kk < n
    · have hltz : (kk : Int) < (n : Int) := by omega
      obtain ⟨g, o, rfl, hJ, HC⟩ := HT (by omega)
      have hc : ∀ j, j < 3 → ∃ v, wr.cell? ⟨g, o + kk * 3 + j, none⟩ = some v ∧ IsI v ∧ wr.frozen? ⟨g, o + kk * 3 + j, none⟩ = false := by
        intro j hj
        obtain ⟨q1, q2⟩ := HC (kk * 3 + j) (by omega)
        rw [← Nat.add_assoc] at q1 q2
        obtain ⟨v, hv, hi⟩ := HS.int q1
        exact ⟨v, hv, hi, by rw [HO.frozen]; exact q2⟩
      obtain ⟨v0, c0, i0, f0⟩ := hc 0 (by decide)
      obtain ⟨v1, c1, i1, f1⟩ := hc 1 (by decide)
      obtain ⟨v2, c2, i2, f2⟩ := hc 2 (by decide)
      simp only [Nat.add_zero] at c0 f0
      clear hc
      have HC' : Aside (∀ j, j < n * 3 → (∃ u, w.cell? ⟨g, o + j, none⟩ = some u ∧ IsI u) ∧ w.frozen? ⟨g, o + j, none⟩ = false) := HC
      clear HC
      go_wp2
      go_roundg (n - (kk + 1))
      case measure => omega
      case rel =>
        refine ⟨kk + 1, by omega, by omega, rfl, ((HO.set hJ _ _).set hJ _ _).set hJ _ _, ?_⟩
        refine HS.trans (Soft.trans (Soft.trans (Soft.set (Soft.refl _) ⟨_, c0, i0⟩) (Soft.set (Soft.refl _) ?h1)) (Soft.set (Soft.refl _) ?h2))
        case h1 => exact (Soft.set (Soft.refl wr) ⟨_, c0, i0⟩).int ⟨_, c1, i1⟩
        case h2 => exact (Soft.trans (Soft.set (Soft.refl wr) ⟨_, c0, i0⟩) (Soft.set (Soft.refl _) ((Soft.set (Soft.refl wr) ⟨_, c0, i0⟩).int ⟨_, c1, i1⟩))).int ⟨_, c2, i2⟩
    · have hltz : ¬ (kk : Int) < (n : Int) := by omega
      go_wp2
      exact bodyPost_end (results_none rfl _ _ _) rfl ⟨rfl, HO, HS⟩
/-- A list of elements, whole numbers all. -/
def Lst (J : Nat → Prop) (w : World) (x : Value) (n : Nat) : Prop := ∃ a cap, x = .slice a n cap ∧ n ≤ cap ∧ (0 < n → ∃ g o, a = some ⟨g, o, none⟩ ∧ J g ∧ ∀ j, j < n * 3 → ∃ u, w.cell? ⟨g, o + j, none⟩ = some u ∧ IsI u)
/-- The list's cells. -/
theorem elems_cr {w : World} {J : Nat → Prop} {l : List E} {x : Value} (h : CR w J (.isl 3 (l.map eC)) x) : Lst J w x l.length := by
  generalize hv : V.isl 3 (l.map eC) = v at h
  cases h with
  | isl sz es a cap vals hc hl hk ha h1 h2 =>
    obtain ⟨rfl, rfl⟩ : 3 = sz ∧ l.map eC = es := by cases hv; exact ⟨rfl, rfl⟩
    rw [List.length_map] at hc ⊢
    refine ⟨a, cap, rfl, hc, fun hpos => ?_⟩
    obtain ⟨g, o, rfl, hJ⟩ := ha (fun e => by have := congrArg List.length e; simp only [List.length_map, List.length_nil] at this; omega)
    refine ⟨g, o, rfl, hJ, fun j hj => ?_⟩
    have hi : j / 3 < l.length := by omega
    have he : (l.map eC)[j / 3]? = some (eC l[j / 3]) := by rw [List.getElem?_map, List.getElem?_eq_getElem hi]; rfl
    have hm : j % 3 < 3 := by omega
    obtain ⟨c, hc2, z, rfl⟩ : ∃ c, (eC l[j / 3])[j % 3]? = some c ∧ ∃ z, c = vi z := by
      have : j % 3 = 0 ∨ j % 3 = 1 ∨ j % 3 = 2 := by omega
      rcases this with h | h | h <;> rw [h] <;> exact ⟨_, rfl, _, rfl⟩
    have q1 := h1 _ _ _ _ he hc2 _ rfl
    have q2 := h2 _ _ _ _ he hc2
    generalize vals (j / 3) (j % 3) = u at q1 q2
    refine ⟨u, ?_, ?_⟩
    · rw [show o + j = o + (j / 3 * 3 + j % 3) by omega]; exact q1
    · cases q2; exact trivial
  | _ => cases hv
theorem eatElems (l : List E) (hn : l.length ≤ 1000000) : EatNOk Tryz.prog 34 3 (l.map eC) := by
  intro w J x h hJ
  obtain ⟨a, cap, rfl, hc, hl⟩ := elems_cr h
  refine (elemsCalls J a l.length cap w hc hn (fun hpos => ?_)).mono ?_
  · obtain ⟨g, o, rfl, hg, hcl⟩ := hl hpos
    refine ⟨g, o, rfl, hg, fun j hj => ?_⟩
    obtain ⟨u, hu, hi⟩ := hcl j hj
    exact ⟨⟨u, hu, hi⟩, (hJ g hg).2 _ (by rw [hu]; rfl)⟩
  · rintro e w' ⟨rfl, hM, _⟩
    exact ⟨rfl, fun g _ hg => hM.oth g hg, Nat.le_of_eq hM.size.symm, hM.os, hM.tape, hM.output⟩
/-- An op's cells, from one on. -/
def Row (wr : World) (g p : Nat) (x : Value) (c0 : Nat) : Prop := ∀ c, c0 ≤ c → c < 11 → (c = 6 → ∃ s, wr.cell? ⟨g, p + c, none⟩ = some (.string s)) ∧ (c = 7 → wr.cell? ⟨g, p + c, none⟩ = some x) ∧ (c ≠ 6 → c ≠ 7 → ∃ u, wr.cell? ⟨g, p + c, none⟩ = some u ∧ IsI u)
theorem ops_cr {w : World} {J : Nat → Prop} {l : List O} {x : Value} (h : CR w J (.isl 11 (l.map oC)) x) : ∃ a cap, x = .slice a l.length cap ∧ l.length ≤ cap ∧
    (0 < l.length → ∃ (g o : Nat) (y : Nat → Value), a = some ⟨g, o, none⟩ ∧ J g ∧ ∀ (i : Nat) (hi : i < l.length), Row w g (o + i * 11) (y i) 0 ∧ Lst J w (y i) l[i].f5.length) := by
  generalize hv : V.isl 11 (l.map oC) = v at h
  cases h with
  | isl sz es a cap vals hc hl hk ha h1 h2 =>
    obtain ⟨rfl, rfl⟩ : 11 = sz ∧ l.map oC = es := by cases hv; exact ⟨rfl, rfl⟩
    rw [List.length_map] at hc ⊢
    refine ⟨a, cap, rfl, hc, fun hpos => ?_⟩
    obtain ⟨g, o, rfl, hJ⟩ := ha (fun e => by have := congrArg List.length e; simp only [List.length_map, List.length_nil] at this; omega)
    refine ⟨g, o, fun i => vals i 7, rfl, hJ, fun i hi => ?_⟩
    have he : (l.map oC)[i]? = some (oC l[i]) := by rw [List.getElem?_map, List.getElem?_eq_getElem hi]; rfl
    have cell : ∀ (j : Nat) c, (oC l[i])[j]? = some c → w.cell? ⟨g, o + i * 11 + j, none⟩ = some (vals i j) ∧ CR w J c (vals i j) := fun j c hj => by
      have q := h1 i j _ c he hj _ rfl
      rw [← Nat.add_assoc] at q
      exact ⟨q, h2 i j _ c he hj⟩
    refine ⟨fun c _ hc => ⟨?_, ?_, ?_⟩, ?_⟩
    · rintro rfl
      obtain ⟨q1, q2⟩ := cell 6 _ rfl
      generalize vals i 6 = u at q1 q2
      cases q2; exact ⟨_, q1⟩
    · rintro rfl
      exact (cell 7 _ rfl).1
    · intro h6 h7
      obtain ⟨c0, hc0, z, rfl⟩ : ∃ c0, (oC l[i])[c]? = some c0 ∧ ∃ z, c0 = vi z := by
        have : c = 0 ∨ c = 1 ∨ c = 2 ∨ c = 3 ∨ c = 4 ∨ c = 5 ∨ c = 8 ∨ c = 9 ∨ c = 10 := by omega
        rcases this with h | h | h | h | h | h | h | h | h <;> rw [h] <;> exact ⟨_, rfl, _, rfl⟩
      obtain ⟨q1, q2⟩ := cell c _ hc0
      generalize vals i c = u at q1 q2
      cases q2; exact ⟨_, q1, trivial⟩
    · exact elems_cr (cell 7 _ rfl).2
  | _ => cases hv
/-- What stands ahead of each round of Ops. -/
structure OI (J : Nat → Prop) (w : World) (g o n : Nat) (y : Nat → Value) (m : Nat → Nat) (kk : Nat) (wr : World) : Prop where
  mine : Mine J w wr
  lst : ∀ i, i < n → Lst J wr (y i) (m i)
  row : ∀ i, kk ≤ i → i < n → Row wr g (o + i * 11) (y i) 0
theorem Lst.not {J : Nat → Prop} {w : World} {x : Value} {n : Nat} (h : Lst J w x n) : ¬ IsI x := by
  obtain ⟨a, cap, rfl, _⟩ := h; exact id
theorem OI.soft {J : Nat → Prop} {w w1 w2 : World} {g o n : Nat} {y : Nat → Value} {m : Nat → Nat} {kk : Nat} (h : OI J w g o n y m kk w1) (hM : Mine J w1 w2) (hS : Soft w1 w2) : OI J w g o n y m kk w2 := by
  refine ⟨h.mine.trans hM, fun i hi => ?_, fun i hk hi c hc0 hc => ⟨fun e => ?_, fun e => ?_, fun e6 e7 => ?_⟩⟩
  · obtain ⟨a, cap, e, hc, hl⟩ := h.lst i hi
    refine ⟨a, cap, e, hc, fun hp => ?_⟩
    obtain ⟨g', o', e2, hJ, hx⟩ := hl hp
    exact ⟨g', o', e2, hJ, fun j hj => hS.int (hx j hj)⟩
  · obtain ⟨s, hs⟩ := (h.row i hk hi c hc0 hc).1 e
    exact ⟨s, hS.keep hs id⟩
  · exact hS.keep ((h.row i hk hi c hc0 hc).2.1 e) (h.lst i hi).not
  · exact hS.int ((h.row i hk hi c hc0 hc).2.2 e6 e7)
theorem OI.put {J : Nat → Prop} {w wr : World} {g o n : Nat} {y : Nat → Value} {m : Nat → Nat} {kk c p : Nat} (hJ : J g) (hk : kk < n) (hc : c < 11) (h : OI J w g o n y m (kk + 1) wr ∧ Row wr g (o + kk * 11) (y kk) c) (hp : p = o + kk * 11 + c) (v : Value) (hv : c ≠ 6 → c ≠ 7 → IsI v) :
    OI J w g o n y m (kk + 1) (wr.setCell ⟨g, p, none⟩ v) ∧ Row (wr.setCell ⟨g, p, none⟩ v) g (o + kk * 11) (y kk) (c + 1) := by
  subst hp
  obtain ⟨h, r⟩ := h
  have hoth : ∀ q, q ≠ o + kk * 11 + c → (wr.setCell ⟨g, o + kk * 11 + c, none⟩ v).cell? ⟨g, q, none⟩ = wr.cell? ⟨g, q, none⟩ := fun q hq =>
    World.cell?_setCell_other _ _ _ _ (fun e => hq (by cases e; rfl))
  refine ⟨⟨h.mine.set hJ _ v, fun i hi => ?_, fun i hk2 hi c2 hc0 hc2 => ?_⟩, fun c2 hc0 hc2 => ?_⟩
  · obtain ⟨a, cap, e, hc3, hl⟩ := h.lst i hi
    refine ⟨a, cap, e, hc3, fun hp => ?_⟩
    obtain ⟨g', o', e2, hJ2, hx⟩ := hl hp
    refine ⟨g', o', e2, hJ2, fun j hj => ?_⟩
    obtain ⟨u, hu, hi2⟩ := hx j hj
    by_cases ea : (⟨g, o + kk * 11 + c, none⟩ : Addr) = ⟨g', o' + j, none⟩
    · rw [← ea] at hu ⊢
      refine ⟨v, World.cell?_setCell_same _ _ _ hu, hv (fun e6 => ?_) (fun e7 => ?_)⟩
      · obtain ⟨s, hs⟩ := (r c (Nat.le_refl _) hc).1 e6
        rw [hs] at hu; obtain rfl := Option.some.inj hu; exact hi2
      · have hs := (r c (Nat.le_refl _) hc).2.1 e7
        rw [hs] at hu; obtain rfl := Option.some.inj hu; exact (h.lst kk hk).not hi2
    · exact ⟨u, (World.cell?_setCell_other _ _ _ _ ea).trans hu, hi2⟩
  · have hne : o + i * 11 + c2 ≠ o + kk * 11 + c := by
      have : (kk + 1) * 11 ≤ i * 11 := Nat.mul_le_mul_right _ hk2
      omega
    rw [hoth _ hne]
    exact h.row i hk2 hi c2 hc0 hc2
  · rw [hoth _ (by omega)]
    exact r c2 (by omega) hc2
theorem opsCalls (J : Nat → Prop) (a : Option Addr) (n cap : Nat) (w : World) (hcap : n ≤ cap) (hn : n ≤ 1000000) (hF : ∀ g, J g → Free w g) (m : Nat → Nat) (hm : ∀ i, i < n → m i ≤ 1000000)
    (hl : 0 < n → ∃ (g o : Nat) (y : Nat → Value), a = some ⟨g, o, none⟩ ∧ J g ∧ ∀ (i : Nat), i < n → Row w g (o + i * 11) (y i) 0 ∧ Lst J w (y i) (m i)) :
    Calls Tryz.prog 13 #[.slice a n cap] w fun e w' => e = .returned (.tuple #[]) ∧ Mine J w w' := by
  by_cases h0 : n = 0
  · subst h0
    have hu := Tryz.underlying22
    go_enter Tryz.func13, Tryz.ntmps13
    go_wp2
    go_loopg [2] 0 (fun gg s2 wr => s2 = .int .i64 0 ∧ wr = w)
    case atStart => exact ⟨rfl, rfl⟩
    case round =>
      obtain ⟨rfl, rfl⟩ := hrel
      go_wp2
      exact bodyPost_end (results_none rfl _ _ _) rfl ⟨rfl, Mine.refl J _⟩
  obtain ⟨g, o, y, rfl, hJ, hr⟩ := hl (by omega)
  have H0 : Aside (OI J w g o n y m 0 w) := ⟨Mine.refl J w, fun i hi => (hr i hi).2, fun i _ hi => (hr i hi).1⟩
  have HF : Aside (∀ g, J g → Free w g) := hF
  have HM : Aside (∀ i, i < n → m i ≤ 1000000) := hm
  clear hF hm hr hl
  have hu := Tryz.underlying22
  have hs1 := Tryz.underlying73
  go_enter Tryz.func13, Tryz.ntmps13
  go_wp2
  go_loopg [2] n (fun gg s2 wr => ∃ (kk : Nat), kk ≤ n ∧ n - kk ≤ gg ∧ s2 = .int .i64 kk ∧ Aside (OI J w g o n y m kk wr))
  case atStart =>
    exact ⟨0, Nat.zero_le _, by omega, rfl, H0⟩
  case round =>
    obtain ⟨kk, hkk, hg, rfl, HO⟩ := hrel
    by_cases hlt : kk < n
    · have hltz : (kk : Int) < (n : Int) := by omega
      have hrow := HO.row kk (Nat.le_refl _) hlt
      obtain ⟨A, K, hy, hK, hA⟩ := HO.lst kk hlt
      have c7 := (hrow 7 (Nat.zero_le _) (by decide)).2.1 rfl
      rw [hy] at c7
      have hA' : Aside (0 < m kk → ∃ g o, A = some ⟨g, o, none⟩ ∧ J g ∧ ∀ j, j < m kk * 3 → ∃ u, wr.cell? ⟨g, o + j, none⟩ = some u ∧ IsI u) := hA
      clear hA hrow
      have hJ' : Aside (J g) := hJ
      have hN : (m kk : Int) ≤ 1000000 := by have := HM kk hlt; omega
      go_wp2_with (go_at_call 34; refine (elemsCalls J A (m kk) K wr hK (HM kk hlt) (fun hp => by
          obtain ⟨g2, o2, e1, e2, e3⟩ := hA' hp
          refine ⟨g2, o2, e1, e2, fun j hj => ?_⟩
          obtain ⟨u, hu, hi⟩ := e3 j hj
          refine ⟨⟨u, hu, hi⟩, ?_⟩
          rw [HO.mine.frozen]
          exact HF g2 e2 _ (by rw [← HO.mine.there, hu]; rfl))).mono ?_; rintro e w1 ⟨rfl, hM1, hS1⟩; have H1 : Aside (OI J w g o n y m kk w1) := OI.soft HO hM1 hS1; have hc : ∀ j, j < 11 → ∃ v, w1.cell? ⟨g, o + kk * 11 + j, none⟩ = some v ∧ w1.frozen? ⟨g, o + kk * 11 + j, none⟩ = false := (fun j hj => by
          have r := H1.row kk (Nat.le_refl _) hlt j (Nat.zero_le _) hj
          have hs : ∃ v, w1.cell? ⟨g, o + kk * 11 + j, none⟩ = some v := by
            by_cases e6 : j = 6
            · obtain ⟨s, hs⟩ := r.1 e6; exact ⟨_, hs⟩
            · by_cases e7 : j = 7
              · exact ⟨_, r.2.1 e7⟩
              · obtain ⟨u, hu, _⟩ := r.2.2 e6 e7; exact ⟨u, hu⟩
          obtain ⟨v, hv⟩ := hs
          exact ⟨v, hv, by rw [H1.mine.frozen]; exact HF g hJ' _ (by rw [← H1.mine.there, hv]; rfl)⟩); obtain ⟨v0, c0, f0⟩ := hc 0 (by decide); obtain ⟨v1, c1, f1⟩ := hc 1 (by decide); obtain ⟨v2, c2, f2⟩ := hc 2 (by decide); obtain ⟨v3, c3, f3⟩ := hc 3 (by decide); obtain ⟨v4, c4, f4⟩ := hc 4 (by decide); obtain ⟨v5, c5, f5⟩ := hc 5 (by decide); obtain ⟨v6, c6, f6⟩ := hc 6 (by decide); obtain ⟨v7, d7, f7⟩ := hc 7 (by decide); obtain ⟨v8, c8, f8⟩ := hc 8 (by decide); obtain ⟨v9, c9, f9⟩ := hc 9 (by decide); obtain ⟨v10, c10, f10⟩ := hc 10 (by decide); simp only [Nat.add_zero] at c0 f0; clear hc hM1 hS1)
      go_roundg (n - (kk + 1))
      case measure => omega
      case rel =>
        refine ⟨kk + 1, by omega, by omega, rfl, ?_⟩
        have H2 : OI J w g o n y m (kk + 1) w1 ∧ Row w1 g (o + kk * 11) (y kk) 0 := ⟨⟨H1.mine, H1.lst, fun i h1 h2 => H1.row i (by omega) h2⟩, H1.row kk (Nat.le_refl _) hlt⟩
        exact (OI.put hJ' hlt (by decide) (OI.put hJ' hlt (by decide) (OI.put hJ' hlt (by decide) (OI.put hJ' hlt (by decide) (OI.put hJ' hlt (by decide) (OI.put hJ' hlt (by decide) (OI.put hJ' hlt (by decide) (OI.put hJ' hlt (by decide) (OI.put hJ' hlt (by decide) (OI.put hJ' hlt (by decide) (OI.put hJ' hlt (by decide) H2 rfl _ (fun _ _ => by exact trivial)) rfl _ (fun _ _ => by exact trivial)) rfl _ (fun _ _ => by exact trivial)) rfl _ (fun _ _ => by exact trivial)) rfl _ (fun _ _ => by exact trivial)) rfl _ (fun _ _ => by exact trivial)) rfl _ (fun h _ => absurd rfl h)) rfl _ (fun _ h => absurd rfl h)) rfl _ (fun _ _ => by exact trivial)) rfl _ (fun _ _ => by exact trivial)) rfl _ (fun _ _ => by exact trivial)).1
    · have hltz : ¬ (kk : Int) < (n : Int) := by omega
      go_wp2
      exact bodyPost_end (results_none rfl _ _ _) rfl ⟨rfl, HO.mine⟩
theorem eatOps (l : List O) (hn : l.length ≤ 1000000) (hg : ∀ o ∈ l, o.f5.length ≤ 1000000) : EatNOk Tryz.prog 13 11 (l.map oC) := by
  intro w J x h hJ
  obtain ⟨a, cap, rfl, hc, hl⟩ := ops_cr h
  refine (opsCalls J a l.length cap w hc hn (fun g hg => (hJ g hg).2) (fun i => (l[i]?.map fun o => o.f5.length).getD 0) (fun i hi => ?_) (fun hpos => ?_)).mono ?_
  · rw [List.getElem?_eq_getElem hi]
    exact hg _ (List.getElem_mem hi)
  · obtain ⟨g, o, y, rfl, hgJ, hr⟩ := hl hpos
    refine ⟨g, o, y, rfl, hgJ, fun i hi => ?_⟩
    rw [List.getElem?_eq_getElem hi]
    exact hr i hi
  · rintro e w' ⟨rfl, hM⟩
    exact ⟨rfl, fun g _ hg => hM.oth g hg, Nat.le_of_eq hM.size.symm, hM.os, hM.tape, hM.output⟩
end Go.Ai
