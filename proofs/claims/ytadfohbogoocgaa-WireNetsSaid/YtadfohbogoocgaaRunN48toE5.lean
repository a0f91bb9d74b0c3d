/- lectionarylaw0.Packets writes over a row of packets. -/
import Derived.Test.YtadfohbogoocgaaN46
import Derived.Test.YtadfohbogoocgaaN47
import Derived.Test.YtadfohbogoocgaaE2
import Derived.Test.YtadfohbogoocgaaRunE3toE4
import Derived.Deep.LoopGhost
import Derived.Deep.Slices
set_option linter.unusedVariables false
set_option linter.unusedSimpArgs false
namespace Go.Ai
open Go Go.RowKit Go.Proofs Go.Sp
set_option maxRecDepth 10000
set_option maxHeartbeats 8000000
set_option linter.unusedVariables false
set_option linter.unusedSimpArgs false
theorem ef_mul {P : Program} {h : Nat → Option Blk} {site : Nat} {x y : Operand} {T yT : TypeId} {k : IntKind} {a b : Int} : eff P site (.binOp .mul T x y yT) [.val (.int k a), .val (.int k b)] h = some (.val (.int k (k.wrap (a * b))), []) := by
  simp [eff, effBin, toVal, eqGuard, binOp, Op.intArith, pr, same, ofValue, ofCell, bind, pure, Sem.bind]
theorem rd_hurt {m : M} (hm : mayM m = true) (h7 : (msgB m).length ≤ 700) {s1 : Int} (hp : pkB ⟨s1, 0, strOfNums (fr (msgB m)), false⟩ = true) (at_ by_ : Int) :
    rdK (hurtK ⟨s1, 0, strOfNums (fr (msgB m)), false⟩ at_ by_) = .tup [.agg mE, vi 7] ∨ rdK (hurtK ⟨s1, 0, strOfNums (fr (msgB m)), false⟩ at_ by_) = .tup [.agg (mC m0), vi 7] ∨
      ∃ m', rdK (hurtK ⟨s1, 0, strOfNums (fr (msgB m)), false⟩ at_ by_) = .tup [.agg (mC m'), vi 0] ∧ m' ≠ m ∧ mayM m' = true := by
  have hB : Bytes (fr (msgB m)) := fr_bytes (msgB_bytes m)
  have hB2 := hurtL_bytes hB at_ by_
  have hne := hurtL_ne hB (fr_pos _) at_ by_
  have hl := hurtL_len (fr (msgB m)) at_ by_
  have hp2 : pkB (hurtK ⟨s1, 0, strOfNums (fr (msgB m)), false⟩ at_ by_) = true := by
    unfold pkB at hp ⊢
    simp only [hurtK, strOfNums_size, bytesOf_str hB, hl] at hp ⊢
    exact hp
  unfold rdK
  rw [if_pos hp2]
  simp only [hurtK]
  rw [bytesOf_str hB, bytesOf_str hB2]
  cases hu : utk (hurtL (fr (msgB m)) at_ by_) with
  | none => exact .inl rfl
  | some q =>
    obtain ⟨t, r⟩ := q
    cases r with
    | cons x r => exact .inl rfl
    | nil =>
      obtain ⟨e1, _, htB, _⟩ := utk_sound hB2 hu
      rw [List.append_nil] at e1
      show tkMV (rdM (t, false)) = _ ∨ tkMV (rdM (t, false)) = _ ∨ ∃ m', tkMV (rdM (t, false)) = _ ∧ _
      cases hr : rdM (t, false) with
      | none => exact .inr (.inl rfl)
      | some m' =>
        obtain ⟨e2, e3⟩ := rdM_snd htB hr
        refine .inr (.inr ⟨m', rfl, fun h => ?_, e3⟩)
        subst h
        rw [e2] at e1
        exact hne e1
theorem mkK_ok {s1 : Int} (h1 : 1 ≤ s1) (h8 : s1 ≤ 8) {m : M} (hm : mayM m = true) (h7 : (msgB m).length ≤ 700) : mkV s1 0 m = .tup [.agg (kC ⟨s1, 0, strOfNums (fr (msgB m)), false⟩), vi 0] ∧ pkB ⟨s1, 0, strOfNums (fr (msgB m)), false⟩ = true := by
  have he : endsB s1 0 = true := by unfold endsB; simp; omega
  constructor
  · unfold mkV mkK
    rw [he, hm, if_pos (show (true && true) = true from rfl), if_neg (by omega)]
  · unfold pkB
    simp only [he, Bool.true_and, decide_eq_true_eq, strOfNums_size, fr_len]
    have := vb_len5 (msgB m).length (by omega)
    omega
theorem mkK_no {s1 : Int} {m : M} (h : ¬ (mayM m = true ∧ (msgB m).length ≤ 700)) : ∃ e : Int, e ≠ 0 ∧ mkV s1 0 m = .tup [.agg (kC k0), vi e] := by
  unfold mkV mkK
  by_cases he : (endsB s1 0 && mayM m) = true
  · rw [if_pos he]
    simp only [Bool.and_eq_true] at he
    rw [if_pos (by have := h; simp only [not_and] at this; have := this he.2; omega)]
    exact ⟨2, by decide, rfl⟩
  · rw [if_neg he]
    exact ⟨1, by decide, rfl⟩
/-- What is known of a message's packet, and of it hurt. -/
structure Pkt (s1 : Int) (m : M) (k : K) : Prop where
  made : mkV s1 0 m = .tup [.agg (kC k), vi 0]
  rd : rdK k = .tup [.agg (mC m), vi 0]
  pos : 0 < k.f2.size
  len : k.f2.size ≤ 709
  may : mayK [k] = true
  hurt : ∀ at_ by_ : Int, ∃ (g0 g1 : Int) (g2 : ByteArray), hurtX [k] 0 k at_ by_ = .tup [.isl 4 ([⟨g0, g1, g2, true⟩].map kC), vi 0] ∧ g2 ≠ k.f2 ∧ mayK [⟨g0, g1, g2, true⟩] = true ∧
    (rdK ⟨g0, g1, g2, true⟩ = .tup [.agg mE, vi 7] ∨ rdK ⟨g0, g1, g2, true⟩ = .tup [.agg (mC m0), vi 7] ∨ ∃ m', rdK ⟨g0, g1, g2, true⟩ = .tup [.agg (mC m'), vi 0] ∧ m' ≠ m ∧ mayM m' = true)
theorem pkt {s1 : Int} (h1 : 1 ≤ s1) (h8 : s1 ≤ 8) {m : M} (hm : mayM m = true) (h7 : (msgB m).length ≤ 700) : ∃ k, Pkt s1 m k := by
  obtain ⟨hmk, hpk⟩ := mkK_ok h1 h8 hm h7
  have hB : Bytes (fr (msgB m)) := fr_bytes (msgB_bytes m)
  have hpos := fr_pos (msgB m)
  refine ⟨_, hmk, rd_fr hpk hm h7 rfl, by show 0 < (strOfNums (fr (msgB m))).size; rw [strOfNums_size]; exact hpos, ?_, by unfold mayK; simp [hpk], fun at_ by_ => ?_⟩
  · have h := hpk
    unfold pkB at h
    simp only [Bool.and_eq_true, decide_eq_true_eq] at h
    exact h.2
  · have hne := hurtL_ne hB hpos at_ by_
    have hl := hurtL_len (fr (msgB m)) at_ by_
    refine ⟨s1, 0, strOfNums (hurtL (fr (msgB m)) at_ by_), ?_, ?_, ?_, ?_⟩
    · unfold hurtX
      rw [if_neg (by rintro (h | h); cases h; have h : (strOfNums (fr (msgB m))).size = 0 := h; rw [strOfNums_size] at h; omega)]
      simp only [hurtK, bytesOf_str hB]
      rfl
    · intro h
      exact hne ((str_inj (hurtL_bytes hB at_ by_) hB).1 h)
    · unfold mayK
      unfold pkB at hpk
      simp only [strOfNums_size] at hpk
      simp [pkB, strOfNums_size, hl, hpk]
    · have := rd_hurt hm h7 hpk at_ by_
      simp only [hurtK, bytesOf_str hB] at this
      exact this
theorem mayM_fit' {m : M} (h : mayM m = true) : m.f6.length ≤ 1000000000000 ∧ ∀ o ∈ m.f6, o.f5.length < 4611686018427387904 := by
  have k := mayM_in h
  refine ⟨by have := k.l; omega, fun o ho => ?_⟩
  have q := may_in (k.o o ho)
  by_cases h2 : o.f2 = 2
  · rw [(q.k h2).2.2.2.2.2]; decide
  · have := (q.e h2).2.2.1; omega
theorem fitM {m : M} (h : GM m) : ∀ o ∈ m.f6, Fit o := fun o ho => by
  have := h.2 o ho
  exact ⟨Nat.lt_of_le_of_lt this.1 (by decide), by have := this.2; omega⟩
end Go.Ai

namespace Go.Ai
open Go Go.RowKit Go.Proofs Go.Sp
set_option maxRecDepth 100000
set_option maxHeartbeats 4000000
set_option linter.unusedVariables false
set_option linter.unusedSimpArgs false
/-- Only one block was written. -/
structure One (g : Nat) (w w' : World) : Prop where
  oth : ∀ x, x ≠ g → w'.heap[x]? = w.heap[x]?
  size : w'.heap.size = w.heap.size
  os : w'.os = w.os
  tape : w'.tape = w.tape
  output : w'.output = w.output
  there : ∀ j, (w.cell? ⟨g, j, none⟩).isSome = true → (w'.cell? ⟨g, j, none⟩).isSome = true
  frozen : ∀ j, w'.frozen? ⟨g, j, none⟩ = w.frozen? ⟨g, j, none⟩
theorem One.refl (g : Nat) (w : World) : One g w w := ⟨fun _ _ => rfl, rfl, rfl, rfl, rfl, fun _ h => h, fun _ => rfl⟩
theorem One.cells {g : Nat} {w w' : World} (h : One g w w') (o : Nat) (vs : List Value) : One g w (w'.setCells g o vs) := by
  obtain ⟨a1, a2, a3, a4, a5⟩ := setCells_other g vs o w'
  exact ⟨fun x hx => by rw [a1 x hx, h.oth x hx], by rw [a2, h.size], by rw [a3, h.os], by rw [a4, h.tape], by rw [a5, h.output], fun j hj => World.isSome_setCells g vs o w' _ (h.there j hj), fun j => by rw [World.frozen?_setCells, h.frozen]⟩
theorem One.set {g : Nat} {w w' : World} (h : One g w w') (o : Nat) (v : Value) : One g w (w'.setCell ⟨g, o, none⟩ v) := h.cells o [v]
theorem packetsCalls (g cap n : Nat) (w : World) (hcap : n ≤ cap) (hn : n ≤ 1000000) (hth : ∀ j, j < cap * 4 → (w.cell? ⟨g, j, none⟩).isSome = true ∧ w.frozen? ⟨g, j, none⟩ = false) :
    Calls Try.prog 29 #[.slice (some ⟨g, 0, none⟩) n cap] w fun e w' => e = .returned (.tuple #[]) ∧ One g w w' := by
  have HT : Aside (∀ j, j < cap * 4 → (w.cell? ⟨g, j, none⟩).isSome = true ∧ w.frozen? ⟨g, j, none⟩ = false) := hth
  clear hth
  have hu := Try.underlying60
  go_enter Try.func29, Try.ntmps29
  go_wp2
  go_loopg [2] n (fun gg s2 wr => ∃ (kk : Nat), kk ≤ n ∧ n - kk ≤ gg ∧ s2 = .int .i64 kk ∧ Aside (One g w wr))
  case atStart =>
    refine ⟨0, Nat.zero_le _, by omega, rfl, One.refl g w⟩
  case round =>
    obtain ⟨kk, hkk, hg, rfl, HO⟩ := hrel
    by_cases hlt : kk < n
    · have hltz : (kk : Int) < (n : Int) := by omega
      have hb : (kk + 1) * 4 ≤ cap * 4 := Nat.mul_le_mul_right 4 (by omega)
      have hc : ∀ j, j < 4 → ∃ v, wr.cell? ⟨g, kk * 4 + j, none⟩ = some v ∧ wr.frozen? ⟨g, kk * 4 + j, none⟩ = false := by
        intro j hj
        obtain ⟨q1, q2⟩ := HT (kk * 4 + j) (by omega)
        obtain ⟨v, hv⟩ := Option.isSome_iff_exists.1 (HO.there _ q1)
        exact ⟨v, hv, by rw [HO.frozen]; exact q2⟩
      obtain ⟨v0, c0, f0⟩ := hc 0 (by decide)
      obtain ⟨v1, c1, f1⟩ := hc 1 (by decide)
      obtain ⟨v2, c2, f2⟩ := hc 2 (by decide)
      obtain ⟨v3, c3, f3⟩ := hc 3 (by decide)
      simp only [Nat.add_zero] at c0 f0
      clear hc
      go_wp2
      go_roundg (n - (kk + 1))
      case measure => omega
      case rel => exact ⟨kk + 1, by omega, by omega, rfl, (((HO.set _ _).set _ _).set _ _).set _ _⟩
    · have hltz : ¬ (kk : Int) < (n : Int) := by omega
      go_wp2
      exact bodyPost_end (results_none rfl _ _ _) rfl ⟨rfl, HO⟩
theorem eatPackets (es : List (List Value)) (n : Nat) (hn : n ≤ 1000000) : EatOk Try.prog 29 4 n es [] none [] := by
  intro w g cap hcap hg hc hth
  refine (packetsCalls g cap n w hcap hn hth).mono ?_
  rintro e w' ⟨rfl, h⟩
  exact ⟨rfl, nofun, fun x _ hx => h.oth x hx, Nat.le_of_eq h.size.symm, h.os, h.tape, h.output, h.there, h.frozen, fun i j e v he => by simp at he⟩
end Go.Ai
