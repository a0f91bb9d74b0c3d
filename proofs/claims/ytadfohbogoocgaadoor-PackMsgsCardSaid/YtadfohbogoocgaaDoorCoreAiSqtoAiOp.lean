/- Whatever reads as a datum of a type (integers, bools, strings, slices, structs of these) is a value as the interpreter sees it. -/
import Derived.Test.YtadfohbogoocgaaDoorAiSp
import Derived.Test.YtadfohbogoocgaaDoorRunN19toAiH
import Derived.Test.YtadfohbogoocgaaDoorAiE2
import Derived.Test.YtadfohbogoocgaaDoorAiG
import Derived.Below
import Derived.ChangeArms
import Derived.Deep.Slices
import Derived.SizedLaws
set_option linter.unusedVariables false
set_option linter.unusedSimpArgs false
namespace Go.Sp
open Go Go.RowKit Go.Ai
set_option linter.unusedVariables false
set_option linter.unusedSimpArgs false
def rkOs : Nat → Pt → List O × Pt
  | 0, q => ([], q)
  | n + 1, q => if q.2 = true then ([], q) else ((rkO q).1 :: (rkOs n (rkO q).2).1, (rkOs n (rkO q).2).2)
def fkM (m : M) (q : Pt) : Option M := if q.2 = false ∧ q.1 = [] ∧ mayM m = true then some m else none
def rkM7 (a b c d e f : Int) (n : Int × Pt) : Option M := fkM ⟨a, b, c, d, e, f, (rkOs n.1.toNat n.2).1⟩ (rkOs n.1.toNat n.2).2
def rkM (p : Pt) : Option M :=
  rkM7 (rkN p).1 (rkN (rkN p).2).1 (rkN (rkN (rkN p).2).2).1 (rkN (rkN (rkN (rkN p).2).2).2).1 (rkN (rkN (rkN (rkN (rkN p).2).2).2).2).1 (rkN (rkN (rkN (rkN (rkN (rkN p).2).2).2).2).2).1 (rkN (rkN (rkN (rkN (rkN (rkN (rkN p).2).2).2).2).2).2)
theorem rdT_bad {p : Pt} (h : p.2 = true) : (rdT p).2.2 = true := by
  unfold rdT
  cases pk p.1 with
  | none => rfl
  | some y =>
    simp only
    split
    · rfl
    · exact h
theorem rdE_bad {p : Pt} (h : p.2 = true) : (rdE p).2.2 = true := rdN_bad (rdN_bad (rdN_bad h))
theorem rdO_bad {p : Pt} (h : p.2 = true) : (rdO p).2.2 = true := by
  have h3 := rdE_bad h
  unfold rdO rdO3
  have h4 : (rdN (rdN (rdN p).2).2).2.2 = true := h3
  generalize rdN (rdN (rdN p).2).2 = q at h4 ⊢
  split
  · show ((rdN (rdN (rdN q.2).2).2).2.2 || _) = true
    rw [rdN_bad (rdN_bad (rdN_bad h4))]; rfl
  · show (((rdG (min (rdN (rdT (rdE q.2).2).2).1.toNat 200) (rdN (rdT (rdE q.2).2).2).2).2.2 || _) || _) = true
    rw [rdG_bad _ _ (rdN_bad (rdT_bad (rdE_bad h4)))]; rfl
theorem rdOs_bad : ∀ (n : Nat) (p : Pt), p.2 = true → (rdOs n p).2.2 = true
  | 0, p, h => h
  | n + 1, p, h => rdOs_bad n _ (rdO_bad h)
theorem rkO_few {B : Nat} {q : Pt} (h : Few B q) : Few B (rkO q).2 ∧ (rkO q).1.f4.size ≤ B ∧ (rkO q).1.f5.length ≤ 268435456 := by
  have f3 := (rkN_few (rkN_few (rkN_few h).1).1).1
  unfold rkO rkO3
  generalize rkN (rkN (rkN q).2).2 = r at f3 ⊢
  split
  · exact ⟨(rkN_few (rkN_few (rkN_few f3).1).1).1, Nat.zero_le _, Nat.zero_le _⟩
  · have f4 := rkE_few f3
    have f5 := rkT_few f4
    have f6 := rkN_few f5.1
    have g := rkG_few (rkN (rkT (rkE r.2).2).2).1.toNat _ f6.1
    exact ⟨g.1, f5.2, Nat.le_trans g.2.1 (by have := f6.2.2; omega)⟩
theorem rkOs_few {B : Nat} : ∀ (n : Nat) (q : Pt), Few B q → Few B (rkOs n q).2 ∧ (rkOs n q).1.length ≤ n ∧ ((rkOs n q).2.2 = true ∨ (rkOs n q).1.length = n) ∧ ∀ o ∈ (rkOs n q).1, o.f4.size ≤ B ∧ o.f5.length ≤ 268435456
  | 0, q, h => ⟨h, Nat.le_refl _, .inr rfl, nofun⟩
  | n + 1, q, h => by
    unfold rkOs
    by_cases hb : q.2 = true
    · rw [if_pos hb]
      exact ⟨h, Nat.zero_le _, .inl hb, nofun⟩
    · rw [if_neg hb]
      have f := rkO_few h
      have r := rkOs_few n _ f.1
      refine ⟨r.1, ?_, ?_, ?_⟩
      · show ((rkO q).1 :: (rkOs n (rkO q).2).1).length ≤ n + 1
        rw [List.length_cons]; have := r.2.1; omega
      · rcases r.2.2.1 with h1 | h1
        · exact .inl h1
        · right
          show ((rkO q).1 :: (rkOs n (rkO q).2).1).length = n + 1
          rw [List.length_cons, h1]
      · intro o ho
        rcases List.mem_cons.1 ho with rfl | ho
        · exact f.2
        · exact r.2.2.2 o ho
theorem rkOs_stop {q : Pt} (h : q.2 = true) : ∀ n, rkOs n q = ([], q)
  | 0 => rfl
  | n + 1 => if_pos h
theorem sim_Os {B : Nat} : ∀ (n : Nat) (q p : Pt), Few B q → Sim q p → (rkOs n q).2.2 = (rdOs n p).2.2 ∧ ((rdOs n p).2.2 = false → (rkOs n q).1 = (rdOs n p).1 ∧ (rkOs n q).2.1 = (rdOs n p).2.1)
  | 0, q, p, _, h => ⟨h.1, fun hb => ⟨rfl, h.2.1 hb⟩⟩
  | n + 1, q, p, hf, h => by
    by_cases hb : q.2 = true
    · have hb' : p.2 = true := h.1 ▸ hb
      have := rdOs_bad (n + 1) p hb'
      rw [rkOs_stop hb]
      exact ⟨hb.trans this.symm, fun hf => by rw [this] at hf; cases hf⟩
    · unfold rkOs
      rw [if_neg hb]
      have a := alike_op hf h
      have ff := rkO_few hf
      cases hd : (rdO p).2.2 with
      | true =>
        have hk : (rkO q).2.2 = true := a.1.trans hd
        have hd2 := rdOs_bad n _ hd
        rw [rkOs_stop hk]
        exact ⟨hk.trans hd2.symm, fun hf => by have hf' := hd2.symm.trans hf; cases hf'⟩
      | false =>
        obtain ⟨e1, e2⟩ := a.2 hd
        have s : Sim (rkO q).2 (rdO p).2 := ⟨a.1, fun _ => e2, fun h => by rw [hd] at h; cases h⟩
        have r := sim_Os n _ _ ff.1 s
        refine ⟨r.1, fun hf => ?_⟩
        have r2 := r.2 hf
        refine ⟨?_, r2.2⟩
        show (rkO q).1 :: (rkOs n (rkO q).2).1 = (rdO p).1 :: (rdOs n (rdO p).2).1
        rw [e1, r2.1]
theorem rkM_eq {B : Nat} {l : List Int} (hf : Few B (l, false)) : rkM (l, false) = rdM (l, false) := by
  have s0 : Sim (l, false) (l, false) := ⟨rfl, fun _ => rfl, fun h => by cases h⟩
  have s1 := sim_N s0
  have s2 := sim_N s1.2
  have s3 := sim_N s2.2
  have s4 := sim_N s3.2
  have s5 := sim_N s4.2
  have s6 := sim_N s5.2
  have s7 := sim_N s6.2
  have f6 := rkN_few (rkN_few (rkN_few (rkN_few (rkN_few (rkN_few (rkN_few hf).1).1).1).1).1).1
  unfold rkM rdM
  rw [s1.1, s2.1, s3.1, s4.1, s5.1, s6.1]
  generalize (rdN (l, false)).1 = a
  generalize (rdN (rdN (l, false)).2).1 = b
  generalize (rdN (rdN (rdN (l, false)).2).2).1 = c
  generalize (rdN (rdN (rdN (rdN (l, false)).2).2).2).1 = d
  generalize (rdN (rdN (rdN (rdN (rdN (l, false)).2).2).2).2).1 = e
  generalize (rdN (rdN (rdN (rdN (rdN (rdN (l, false)).2).2).2).2).2).1 = f
  generalize rkN (rkN (rkN (rkN (rkN (rkN (rkN (l, false)).2).2).2).2).2).2 = x at *
  generalize rdN (rdN (rdN (rdN (rdN (rdN (rdN (l, false)).2).2).2).2).2).2 = y at *
  unfold rkM7 rdM7
  rw [s7.1]
  by_cases h4 : y.1 > 4
  · have hg := rkOs_few y.1.toNat x.2 f6.1
    unfold fkM finM
    rw [if_neg, if_neg]
    · rintro ⟨_, h, _⟩; omega
    · rintro ⟨h1, _, h2⟩
      have := (mayM_in h2).l
      rcases hg.2.2.1 with hg | hg
      · rw [hg] at h1; cases h1
      · have this : (rkOs y.1.toNat x.2).1.length ≤ 4 := this
        omega
  · have em : min y.1.toNat 4 = y.1.toNat := by omega
    rw [em]
    have hs := sim_Os y.1.toNat x.2 y.2 f6.1 s7.2
    unfold fkM finM
    cases hb : (rdOs y.1.toNat y.2).2.2 with
    | true =>
      rw [if_neg (by rw [hs.1, hb]; simp), if_neg (by simp)]
    | false =>
      obtain ⟨h1, h2⟩ := hs.2 hb
      rw [hs.1, hb, h1, h2]
      by_cases hc : (rdOs y.1.toNat y.2).2.1 = [] ∧ mayM ⟨a, b, c, d, e, f, (rdOs y.1.toNat y.2).1⟩ = true
      · rw [if_pos ⟨rfl, hc.1, hc.2⟩, if_pos ⟨rfl, by omega, hc.1, hc.2⟩]
      · rw [if_neg (fun h => hc h.2), if_neg (fun h => hc h.2.2)]
end Go.Sp

namespace Go.Ai
open Go Go.RowKit
set_option linter.unusedSimpArgs false
variable {P : Program} {h : Nat → Option Blk} {site : Nat}
theorem byteCells_str {l : List Int} (hl : Bytes l) : byteCells (strOfNums l) = l.map u8 := by
  have h := bytesOf_str hl
  unfold byteCells u8
  conv => rhs; rw [← h]
  unfold bytesOf
  rw [List.map_map]; rfl
/-- []byte(s) -/
theorem ef_bytes {S T Et : TypeId} {x : Operand} (l : List Int) (hl : Bytes l) (hS : P.underlying S = some .string) (hT : P.underlying T = some (.slice Et)) (hE : P.underlying Et = some (.int .u8)) (hs : sizeT P Et = some 1) :
    eff P site (.convert S T x) [.val (.string (strOfNums l))] h = some (.sl (newId site 0) (nextVer h (newId site 0)) 0 l.length, [mk h (newId site 0) 1 true (l.map u8)]) := by
  have e : effConv P site S T (.val (.string (strOfNums l))) h = some (.sl (newId site 0) (nextVer h (newId site 0)) 0 l.length, [mk h (newId site 0) 1 true (l.map u8)]) := by
    simp only [effConv, hS, hT, hE, hs, strOfNums_size, byteCells_str hl]
  rw [← e]; rfl
/-- &l[i] of a block of the call's own, from its begin. -/
theorem ef_ixn {T Et : TypeId} {x ix : Operand} {b ver len : Nat} {k : Blk} {kk : IntKind} {n : Int} (i : Nat) (hk : live h b ver = some k) (hE : elemT P T = some Et) (hs : sizeT P Et = some k.sz) (hn : n = (i : Int)) (hi : i < len) (hl : len ≤ k.es.length) :
    eff P site (.indexAddr T x ix) [.sl b ver 0 len, .val (.int kk n)] h = some (.ptr b ver i 0, []) := by
  subst hn
  have := ef_ixs (P := P) (site := site) (T := T) (x := x) (ix := ix) (kk := kk) (n := (i : Int)) (off := 0) hk hE hs (by omega) (by simpa using hi) (by simpa using hl)
  rw [this]
  simp
/-- a load of a row's element -/
theorem ef_ldn {T : TypeId} {x : Operand} {b ver i : Nat} {k : Blk} {e : List V} {v : V} (hk : live h b ver = some k) (he : k.es[i]? = some e) (hp : partV P T e = some v) : eff P site (.load T x) [.ptr b ver i 0] h = some (v, []) := by
  have : effLoad P T (.ptr b ver i 0) h = some v := by
    simp only [effLoad, hk, he, List.drop_zero, hp]
  show same (effLoad P T (.ptr b ver i 0) h) = _
  rw [this]; rfl
/-- a store of a row's element of one cell -/
theorem ef_stn {T : TypeId} {x y : Operand} {b ver i : Nat} {k : Blk} {e : List V} {v : V} (hk : live h b ver = some k) (he : k.es[i]? = some e) (hs : sizeT P T = some 1) (hc : (k.wr && decide ((vcells v).length = 1) && decide (1 ≤ e.length) && (vcells v).all cellOk) = true) :
    eff P site (.store T x y) [.ptr b ver i 0, v] h = some (.any, [(b, { k with es := k.es.set i (splice e 0 (vcells v)), cl := k.cl && (vcells v).all clo0 })]) := by
  simp only [Bool.and_eq_true, decide_eq_true_eq] at hc
  obtain ⟨⟨⟨c1, c2⟩, c3⟩, c4⟩ := hc
  show effStore P T (.ptr b ver i 0) v h = _
  simp only [effStore, hk, hs, he]
  rw [if_pos ⟨c1, c2, by simpa using c3, c4⟩]
/-- of bytes -/
theorem ef_ld8 {T : TypeId} {x : Operand} {b ver i : Nat} {k : Blk} {l : List Int} {z : Int} (hk : live h b ver = some k) (hes : k.es = l.map u8) (hz : l[i]? = some z) (hu : P.underlying T = some (.int .u8)) (hs : sizeT P T = some 1) : eff P site (.load T x) [.ptr b ver i 0] h = some (.val (.int .u8 z), []) := by
  refine ef_ldn hk (e := u8 z) (by rw [hes, List.getElem?_map, hz]; rfl) ?_
  simp only [partV, hu, hs, isAggD, u8]
  rfl
theorem ef_st8 {T : TypeId} {x y : Operand} {b ver i sz : Nat} {w c : Bool} {l : List Int} {z z' : Int} (hk : live h b ver = some ⟨ver, sz, w, c, l.map u8⟩) (hz : l[i]? = some z) (hs : sizeT P T = some 1) (hw : w = true) :
    eff P site (.store T x y) [.ptr b ver i 0, .val (.int .u8 z')] h = some (.any, [(b, ⟨ver, sz, w, c && true, (l.set i z').map u8⟩)]) := by
  have := ef_stn (P := P) (site := site) (T := T) (x := x) (y := y) (e := u8 z) (v := .val (.int .u8 z')) hk (by show (l.map u8)[i]? = _; rw [List.getElem?_map, hz]; rfl) hs (by subst hw; rfl)
  rw [this]
  congr 3
  rw [List.map_set]; rfl
end Go.Ai

namespace Go.Ai
open Go Go.RowKit
variable {P : Program} {S : Sys}
theorem good_now {w w' : World} {I : Nat → Prop} (hi : ∀ g, I g → g < w.heap.size) (hlo : S.lo ≤ w.heap.size) (hu : S.U w) (hb : Below w.heap.size w w') : Good ⟨S, w, I, []⟩ ⟨w', I, noJ, ρ0 [], h0 []⟩ := by
  have hr : ∀ b, ρ0 [] b = none := fun b => by unfold ρ0; split <;> simp
  have hh : ∀ b, h0 [] b = none := fun b => by unfold h0; split <;> simp
  refine ⟨fun b k hk => ?_, fun b b' g c c' h1 => ?_, fun g hg => Nat.lt_of_lt_of_le (hi g hg) hb.size, fun g hg => .inl hg, fun b g c h => ?_, fun b h => ?_, hb.os, hb.tape, hb.output, hb.size, fun g hg _ => hb.block g hg, fun b g c h => ?_, hlo, S.st w w' (fun g hg => hb.block g (Nat.lt_of_lt_of_le hg hlo)) hu, fun _ _ h => h.elim⟩
  · have hk : h0 [] b = some k := hk
    rw [hh] at hk; cases hk
  · have h1 : ρ0 [] b = some (g, c) := h1
    rw [hr] at h1; cases h1
  · have h : ρ0 [] b = some (g, c) := h
    rw [hr] at h; cases h
  · exact absurd (hr b) h
  · have h : ρ0 [] b = some (g, c) := h
    rw [hr] at h; cases h
/-- A function that was walked otherwise. -/
theorem callOk_pure {f : FuncId} {args : List V} {res : V} {y : Value} (hres : ∀ E, VR E res y)
    (h : ∀ (w : World) (I : Nat → Prop) (cargs : Array Value), S.U w → (∀ g, I g → g < w.heap.size) → cargs.size = args.length → (∀ (j : Nat) v, args[j]? = some v → VR ⟨w, I, noJ, ρ0 [], h0 []⟩ v (cargs.getD j undef)) → Calls P f cargs w fun e w' => e = .returned y ∧ Below w.heap.size w w') : CallOk P S f args [] res [] [] := by
  intro w I cargs pb hpb hsz G hargs
  obtain rfl : pb = [] := List.eq_nil_of_length_eq_zero hpb.symm
  refine (h w I cargs G.u (fun g hg => G.iold g hg) hsz hargs).mono ?_
  rintro e w' ⟨rfl, hb⟩
  refine ⟨y, ⟨w', I, noJ, ρ0 [], h0 []⟩, rfl, rfl, good_now (fun g hg => G.iold g hg) G.lo0 G.u hb, ⟨fun _ hg => hg, fun g o hg => World.cell?_of_block (hb.block g (G.iold g hg)), fun b k hk => ?_, fun _ _ _ _ _ _ => ⟨fun _ h => h, fun _ _ h => h.elim⟩⟩, hres _, ?_, fun b _ => rfl⟩
  · have hk : h0 [] b = some k := hk
    unfold h0 at hk
    split at hk <;> simp at hk
  · funext b
    show h0 [] b = h1 [] [] b
    unfold h0 h1
    split <;> simp
/-- And back. -/
theorem calls_of_ok {f : FuncId} {args : List V} {res : V} {y : Value} (hf : CallOk P S f args [] res [] []) (hres : ∀ E z, VR E res z → z = y) (w : World) (I : Nat → Prop) (hi : ∀ g, I g → g < w.heap.size) (cargs : Array Value) (hsz : cargs.size = args.length)
    (hargs : ∀ (j : Nat) v, args[j]? = some v → VR ⟨w, I, noJ, ρ0 [], h0 []⟩ v (cargs.getD j undef)) (hlo : S.lo ≤ w.heap.size) (hu : S.U w) : Calls P f cargs w fun e w' => e = .returned y ∧ Below w.heap.size w w' := by
  refine (hf w I cargs [] rfl hsz (good_now hi hlo hu (Below.refl _ _)) hargs).mono ?_
  rintro e w' ⟨z, E', rfl, rfl, G, X, hv, _, _⟩
  rw [hres _ _ hv]
  exact ⟨rfl, ⟨G.os, G.tape, G.output, G.size, fun g hg => G.frame g hg (by simp)⟩⟩
end Go.Ai

namespace Go.Ai
open Go Go.RowKit

def olds (w : World) : Nat → Prop := fun g => g < w.heap.size
/-- Cells that stand for what the interpreter sees. -/
def CRs (w : World) (l : List V) (cs : List Value) : Prop := cs.length = l.length ∧ ∀ (j : Nat) v, l[j]? = some v → CR w (olds w) v (cs.getD j undef)

theorem CRs.append {w : World} {l l' : List V} {cs cs' : List Value} (h : CRs w l cs) (h' : CRs w l' cs') : CRs w (l ++ l') (cs ++ cs') := by
  refine ⟨by simp [h.1, h'.1], fun j v hj => ?_⟩
  rw [List.getD_eq_getElem?_getD]
  rcases Nat.lt_or_ge j l.length with hlt | hge
  · rw [List.getElem?_append_left hlt] at hj
    rw [List.getElem?_append_left (by rw [h.1]; exact hlt), ← List.getD_eq_getElem?_getD]
    exact h.2 j v hj
  · rw [List.getElem?_append_right hge] at hj
    rw [List.getElem?_append_right (by rw [h.1]; exact hge), h.1, ← List.getD_eq_getElem?_getD]
    exact h'.2 _ v hj

/-- Cells cs, read as type t, are what enc tells of some a; B: what is known of it. -/
def Opens {α : Type} (P : Program) (t : TypeId) (enc : α → List V) (B : α → Prop) : Prop :=
  ∀ (H : Type) (en : TypeId × Value → H) (w : World) (base : Nat) (spare : Nat → Bool) (held : Bool) (fuel : Nat) (cs : List Value) (x : DataW H × List MemPlace),
    DataW.trod en P w base spare held fuel t cs = some x → (∀ n ∈ x.1.weights P t, n ≤ reachBytes) → ∃ a : α, CRs w (enc a) cs ∧ B a

theorem crs_val (w : World) (v : Value) : CRs w [.val v] [v] := ⟨rfl, fun j u hj => by
  cases j with
  | zero => simp at hj; subst hj; exact .val _
  | succ j => simp at hj⟩

theorem opens_int {P : Program} {t : TypeId} {k : IntKind} (ht : P.underlying t = some (.int k)) : Opens P t (fun n => [.val (.int k n)]) (fun n => (Lit.int k n).wf = true) := by
  intro H en w base spare held fuel cs x h _
  obtain ⟨n, rfl, _, hw⟩ := DataW.trod_int ht h
  exact ⟨n, crs_val w _, hw⟩
theorem opens_bool {P : Program} {t : TypeId} (ht : P.underlying t = some .bool) : Opens P t (fun b => [.val (.bool b)]) (fun _ => True) := by
  intro H en w base spare held fuel cs x h _
  obtain ⟨n, rfl, _⟩ := DataW.trod_bool ht h
  exact ⟨n, crs_val w _, trivial⟩
theorem opens_string {P : Program} {t : TypeId} (ht : P.underlying t = some .string) : Opens P t (fun s => [.val (.string s)]) (fun s => s.size ≤ 140737488351232) := by
  intro H en w base spare held fuel cs x h hw
  obtain ⟨s, rfl, rfl, _⟩ := DataW.trod_string ht h
  refine ⟨s, crs_val w _, ?_⟩
  have := hw s.data.toList.length (by simp [DataW.weights])
  rw [Array.length_toList] at this
  exact this

theorem weightsAll_mem {H : Type} {P : Program} {e : TypeId} {n : Nat} : ∀ {l : List (DataW H)} {d : DataW H}, d ∈ l → n ∈ d.weights P e → n ∈ DataW.weightsAll P e l
  | [], _, h, _ => by simp at h
  | y :: l, d, h, hn => by
    simp only [DataW.weightsAll, List.mem_append]
    rcases List.mem_cons.1 h with rfl | h
    · exact .inl hn
    · exact .inr (weightsAll_mem h hn)

theorem cell_plain {w : World} {a : Addr} {v : Value} (h : w.cell? a = some v) : a = ⟨a.block, a.off, none⟩ := by
  obtain ⟨b, o, s⟩ := a
  cases s with
  | none => rfl
  | some s =>
    unfold World.cell? at h
    split at h
    · simp at h
    · cases h

theorem opens_slice {α : Type} {P : Program} {t e : TypeId} {enc : α → List V} {B : α → Prop} {sz nb : Nat} (ht : P.underlying t = some (.slice e)) (hc : P.cellsOf e = sz) (hb : P.bytesOf e = nb) (h0 : 0 < sz) (hsz : ∀ a, (enc a).length = sz) (hok : ∀ a, ∀ c ∈ enc a, cellOk c = true ∧ clo0 c = true) (ho : Opens P e enc B) :
    Opens P t (fun l : List α => [.isl sz (l.map enc)]) (fun l => l.length * nb ≤ 140737488351232 ∧ ∀ x ∈ l, B x) := by
  intro H en w base spare held fuel cs x h hw
  rcases Go.Deep.open_slice ht h with ⟨rfl, _⟩ | ⟨a, len, cap, m, n, D, Pl, rfl, _, hl, hm, hmm, rfl, hx⟩
  · refine ⟨[], ⟨rfl, fun j v hj => ?_⟩, by simp, by simp⟩
    cases j with
    | zero =>
      simp at hj; subst hj
      exact .isl sz [] none 0 (fun _ _ => undef) (Nat.le_refl _) (fun e he => by cases he) (fun e he => by cases he) (fun h => absurd rfl h) (fun i j e c he => by simp at he) (fun i j e c he => by simp at he)
    | succ j => simp at hj
  · have hlm : len ≤ m := by rw [hmm]; split <;> omega
    simp only [DataW.weights, ht] at hw
    have hlen : len * nb ≤ reachBytes := by
      have := hw ((len + (m - len)) * nb) (by simp [hb])
      exact Nat.le_trans (Nat.mul_le_mul_right _ (by omega)) this
    have hel : ∀ i, i < len → ∃ y : α, (∃ c, CRs w (enc y) c ∧ ∀ (j : Nat) u, c[j]? = some u → w.cell? (a.add (i * sz + j)) = some u) ∧ B y := by
      intro i hi
      obtain ⟨cs', h1, h2⟩ := hx i (by omega)
      obtain ⟨y, hK, hB⟩ := ho H en w base spare held n cs' _ h2 (fun q hq => hw q (List.mem_cons_of_mem _ (List.mem_append_left _ (weightsAll_mem (d := D i) (List.mem_map.2 ⟨i, List.mem_range.2 hi, rfl⟩) hq))))
      obtain ⟨_, hl2, hcell⟩ := World.cells?_some h1
      refine ⟨y, ⟨cs', hK, fun j u hu => ?_⟩, hB⟩
      have hj : j < P.cellsOf e := by rw [← hl2]; exact (List.getElem?_eq_some_iff.1 hu).1
      have := hcell j hj
      rw [hu, hc, Go.Deep.add_add] at this
      exact this
    have hall : ∃ l : List α, l.length = len ∧ ∀ i (h : i < l.length), (∃ c, CRs w (enc l[i]) c ∧ ∀ (j : Nat) u, c[j]? = some u → w.cell? (a.add (i * sz + j)) = some u) ∧ B l[i] := by
      clear hx h hw hlm hmm hlen
      have go : ∀ k, k ≤ len → ∃ l : List α, l.length = k ∧ ∀ i (h : i < l.length), (∃ c, CRs w (enc l[i]) c ∧ ∀ (j : Nat) u, c[j]? = some u → w.cell? (a.add (i * sz + j)) = some u) ∧ B l[i] := by
        intro k
        induction k with
        | zero => exact fun _ => ⟨[], rfl, fun i h => by simp at h⟩
        | succ k ih =>
          intro hk
          obtain ⟨l, hll, hl⟩ := ih (by omega)
          obtain ⟨y, hy⟩ := hel k (by omega)
          refine ⟨l ++ [y], by simp [hll], fun i h => ?_⟩
          rcases Nat.lt_or_ge i l.length with hi | hi
          · have := hl i hi
            simpa [List.getElem_append_left hi] using this
          · have e : i = l.length := by simp at h; omega
            subst e
            simp only [List.getElem_append_right (Nat.le_refl _), Nat.sub_self, List.getElem_cons_zero]
            rw [hll]
            exact hy
      exact go len (Nat.le_refl _)
    obtain ⟨l, hll, hw2⟩ := hall
    have hcell : ∀ (i j : Nat) (r : List V) (c : V), (l.map enc)[i]? = some r → r[j]? = some c → ∃ u, w.cell? (a.add (i * sz + j)) = some u ∧ CR w (olds w) c u := by
      intro i j r c hr hj
      rw [List.getElem?_map] at hr
      simp only [Option.map_eq_some_iff] at hr
      obtain ⟨y, hy, rfl⟩ := hr
      obtain ⟨hi, rfl⟩ := List.getElem?_eq_some_iff.1 hy
      obtain ⟨⟨cc, h1, h2⟩, _⟩ := hw2 i hi
      have hlt : j < cc.length := by rw [h1.1]; exact (List.getElem?_eq_some_iff.1 hj).1
      have hcc : cc[j]? = some cc[j] := List.getElem?_eq_getElem hlt
      refine ⟨cc[j], h2 j _ hcc, ?_⟩
      have := h1.2 j c hj
      rwa [List.getD_eq_getElem?_getD, hcc] at this
    refine ⟨l, ⟨rfl, fun j v hj => ?_⟩, by rw [hll]; exact hlen, fun x hx => ?_⟩
    · cases j with
      | succ j => simp at hj
      | zero =>
        simp at hj; subst hj
        show CR w (olds w) _ (.slice (some a) len cap)
        rw [show len = (l.map enc).length by rw [List.length_map, hll]]
        refine .isl sz (l.map enc) (some a) cap (fun i j => ((w.cell? (a.add (i * sz + j))).getD undef)) (by rw [List.length_map, hll]; exact hl) (fun r hr => ?_) (fun r hr c hc => ?_) (fun hne => ?_) (fun i j r c hr hj ad had => ?_) (fun i j r c hr hj => ?_)
        · obtain ⟨y, _, rfl⟩ := List.mem_map.1 hr; exact hsz y
        · obtain ⟨y, _, rfl⟩ := List.mem_map.1 hr; exact hok y c hc
        · have : 0 < l.length := by
            rcases Nat.eq_zero_or_pos l.length with h | h
            · exact absurd (List.eq_nil_of_length_eq_zero (by rw [List.length_map]; exact h)) hne
            · exact h
          have hr : (l.map enc)[0]? = some (enc l[0]) := by rw [List.getElem?_map, List.getElem?_eq_getElem this]; rfl
          have hlen0 := hsz l[0]
          have hj : (enc l[0])[0]? = some ((enc l[0])[0]'(by omega)) := List.getElem?_eq_getElem _
          obtain ⟨u, hu, _⟩ := hcell 0 0 _ _ hr hj
          have hu' : w.cell? a = some u := by simpa [Addr.add] using hu
          exact ⟨a.block, a.off, by rw [← cell_plain hu'], World.block_lt_of_cell? w a hu'⟩
        · obtain ⟨u, hu, _⟩ := hcell i j r c hr hj
          obtain rfl := Option.some.inj had
          have hpl : ∃ o, a = ⟨a.block, o, none⟩ := by
            have hlt : 0 < l.length := by
              have := (List.getElem?_eq_some_iff.1 hr).1
              rw [List.length_map] at this; omega
            have hr0 : (l.map enc)[0]? = some (enc l[0]) := by rw [List.getElem?_map, List.getElem?_eq_getElem hlt]; rfl
            have hlen0 := hsz l[0]
            have hj0 : (enc l[0])[0]? = some ((enc l[0])[0]'(by omega)) := List.getElem?_eq_getElem _
            obtain ⟨u0, hu0, _⟩ := hcell 0 0 _ _ hr0 hj0
            have hu0' : w.cell? a = some u0 := by simpa [Addr.add] using hu0
            exact ⟨a.off, cell_plain hu0'⟩
          obtain ⟨o, ho⟩ := hpl
          rw [hu, Option.getD_some]
          rw [ho] at hu ⊢
          rw [cell_add] at hu
          exact hu
        · obtain ⟨u, hu, hcr⟩ := hcell i j r c hr hj
          show CR w (olds w) c ((w.cell? (a.add (i * sz + j))).getD undef)
          rw [hu]; exact hcr
    · obtain ⟨i, hi, rfl⟩ := List.getElem_of_mem hx
      exact (hw2 i hi).2

/-- Fields from an offset on. -/
def OpensFs {α : Type} (P : Program) (fs : List Field) (off sz : Nat) (enc : α → List V) (B : α → Prop) : Prop :=
  ∀ (H : Type) (en : TypeId × Value → H) (w : World) (base : Nat) (spare : Nat → Bool) (held : Bool) (fuel : Nat) (cs : List Value) (ds : List (DataW H × List MemPlace)),
    cs.length = off + sz → ds.length = fs.length →
    (∀ (i : Nat) (f : Field), fs[i]? = some f → DataW.trod en P w base spare held fuel f.type ((cs.drop f.offset).take (P.cellsOf f.type)) = ds[i]?) →
    (∀ n ∈ DataW.weightsEach P (fs.map (·.type)) (ds.map (·.1)), n ≤ reachBytes) → ∃ a : α, CRs w (enc a) (cs.drop off) ∧ B a

theorem opensFs_one {α : Type} {P : Program} {f : Field} {enc : α → List V} {B : α → Prop} {off sz : Nat} (ho : Opens P f.type enc B) (h1 : f.offset = off) (h2 : P.cellsOf f.type = sz) : OpensFs P [f] off sz enc B := by
  intro H en w base spare held fuel cs ds hl hd h hw
  obtain ⟨y, rfl⟩ : ∃ y, ds = [y] := by
    match ds, hd with
    | [y], _ => exact ⟨y, rfl⟩
  have := h 0 f rfl
  rw [h1, h2, List.take_of_length_le (by simp; omega)] at this
  exact ho H en w base spare held fuel _ y this (fun n hn => hw n (by simp [DataW.weightsEach, hn]))

theorem opensFs_cons {α β : Type} {P : Program} {f : Field} {fs : List Field} {enc : α → List V} {enc' : β → List V} {B : α → Prop} {C : β → Prop} {off off' sz sz' : Nat} (ho : Opens P f.type enc B) (h1 : f.offset = off) (h2 : P.cellsOf f.type = sz) (h3 : off' = off + sz) (hs : OpensFs P fs off' sz' enc' C) :
    OpensFs P (f :: fs) off (sz + sz') (fun x : α × β => enc x.1 ++ enc' x.2) (fun x => B x.1 ∧ C x.2) := by
  intro H en w base spare held fuel cs ds hl hd h hw
  obtain ⟨y, ys, rfl⟩ : ∃ y ys, ds = y :: ys := by
    match ds, hd with
    | y :: ys, _ => exact ⟨y, ys, rfl⟩
  have e0 := h 0 f rfl
  rw [h1, h2] at e0
  obtain ⟨a, hK, hB⟩ := ho H en w base spare held fuel _ y e0 (fun n hn => hw n (by simp [DataW.weightsEach, hn]))
  obtain ⟨b, hK2, hC⟩ := hs H en w base spare held fuel cs ys (by omega) (by simpa using hd) (fun i f' hf => by
    have := h (i + 1) f' hf
    simpa using this) (fun n hn => hw n (by simp only [List.map_cons, DataW.weightsEach, List.mem_append]; exact .inr hn))
  refine ⟨(a, b), ?_, hB, hC⟩
  have e : cs.drop off = (cs.drop off).take sz ++ cs.drop off' := by rw [h3, ← List.drop_drop, List.take_append_drop]
  rw [e]
  exact hK.append hK2

theorem opens_struct {α β : Type} {P : Program} {t : TypeId} {fs : List Field} {enc : α → List V} {enc' : β → List V} {B : α → Prop} {C : β → Prop} {sz : Nat} (g : α → β) (hg : ∀ x, enc' (g x) = enc x) (hbc : ∀ x, B x → C (g x)) (ht : P.underlying t = some (.struct fs.toArray)) (hc : P.cellsOf t = sz) (hs : OpensFs P fs 0 sz enc B) :
    Opens P t enc' C := by
  intro H en w base spare held fuel cs x h hw
  obtain ⟨xs, n, _, rfl, hl, hlen, hf⟩ := DataW.trod_struct ht h
  obtain ⟨a, hK, hB⟩ := hs H en w base spare held n cs xs (by omega) (by simpa using hlen) (fun i f' hi => hf i f' (by simpa using hi)) (fun q hq => hw q (by
    simp only [DataW.weights, ht]
    simpa using hq))
  refine ⟨g a, ?_, hbc a hB⟩
  rw [hg]
  simpa using hK

/-- Of an argument: its value's cells. -/
theorem Opens.arg {α : Type} {P : Program} {t : TypeId} {enc : α → List V} {B : α → Prop} (h : Opens P t enc B) {H : Type} {en : TypeId × Value → H} {w : World} {base : Nat} {spare : Nat → Bool} {held : Bool} {v : Value} {x : DataW H} {ps : List MemPlace} {ts : List TypeId} {ds : List (DataW H)} {j : Nat}
    (hx : DataW.Trod en P w base spare held t v x ps) (hsz : (DataW.weightsEach P ts ds).all (· ≤ reachBytes) = true) (ht : ts[j]? = some t) (hd : ds[j]? = some x) : ∃ a : α, CRs w (enc a) v.cells.toList ∧ B a := by
  obtain ⟨fuel, hf⟩ := hx
  refine h H en w base spare held fuel _ _ hf (fun n hn => ?_)
  have := List.all_eq_true.1 hsz n (DataW.weights_mem_each ht hd n hn)
  simpa using this
/-- A law of one struct: its contract at the struct that was read. -/
theorem law_calls {P : Program} {S : Sys} {f : FuncId} {l : List V} {cs : Array Value} {w : World} (hf : CallOk P S f [.agg l] [] (.val (.bool true)) [] []) (hK : CRs w l cs.toList) (hlo : S.lo ≤ w.heap.size) (hu : S.U w) : Calls P f #[.agg cs] w fun e w' => e = .returned (.bool true) ∧ Below w.heap.size w w' := by
  refine calls_of_ok hf (fun E z hz => ?_) w (olds w) (fun g h => h) #[.agg cs] rfl (fun j v hj => ?_) hlo hu
  · cases hz with
    | clo h => cases h; rfl
  · cases j with
    | succ j => simp at hj
    | zero =>
      simp at hj; subst hj
      refine .clo (.agg l cs (by simpa using hK.1) (fun j c hj => ?_))
      have := hK.2 j c hj
      rwa [List.getD_eq_getElem?_getD, Array.getElem?_toList, ← Array.getD_eq_getD_getElem?] at this
end Go.Ai
