/- A part of the proof: what the program does, step by step, over values without addresses. No conditions of mine. -/
import Derived.Test.YtadfohbogoocgaaGreatDoorN58
import Derived.Test.YtadfohbogoocgaaGreatDoorN44
import Derived.Test.YtadfohbogoocgaaGreatDoorN25
import Derived.Test.YtadfohbogoocgaaGreatDoorAsk13
set_option linter.unusedVariables false
set_option linter.unusedSimpArgs false
namespace Go.Ai
open Go Go.RowKit Go.Proofs Go.Sp
set_option maxRecDepth 10000
set_option maxHeartbeats 8000000
set_option linter.unusedVariables false
set_option linter.unusedSimpArgs false
def anyB : List ByteArray := [⟨#[]⟩, ⟨#[120]⟩, (netK 0).f2 ++ (netK 1).f2, (netK 0).f2 ++ ⟨#[0]⟩, (netK 0).f2.extract 1 (netK 0).f2.size, ⟨#[0, 0, 0, 0, 0]⟩]
def anyP (s : ByteArray) : K := ⟨0, 1, s, false⟩
def errM : List V := mE
/-- Is a packet read as malformed? -/
def badB (k : K) : Bool := pkB k && (match utk (bytesOf k.f2) with | some (t, []) => (rdM (t, false)).isNone | _ => true)
theorem anyB_bad : ∀ s ∈ anyB, badB (anyP s) = true := by
  have h : (anyB.all fun s => badB (anyP s)) = true := by kernel_rfl
  exact List.all_eq_true.1 h
theorem bad_err {k : K} (h : badB k = true) : rdR k = .tup [.agg mE, vi 7] := by
  unfold badB at h
  simp only [Bool.and_eq_true] at h
  obtain ⟨h1, h2⟩ := h
  unfold rdR
  rw [h1, if_pos rfl]
  split
  · rename_i t hu
    rw [hu] at h2
    simp only at h2
    cases hr : rdM (t, false) with
    | none => rfl
    | some m => rw [hr] at h2; cases h2
  · rfl
theorem netL2 : netL 2 = [netK 0, netK 1] := rfl
theorem net_size : (netK 0).f2.size = 12 ∧ (netK 1).f2.size = 12 := ⟨by kernel_rfl, by kernel_rfl⟩
def aN : Nat → Nat
  | 0 => newId (siteOf 2 19) 0
  | _ + 1 => newId (siteOf 6 8) 0
theorem aN_even (k : Nat) : aN k % 2 = 0 := by
  cases k <;> exact newId_even _ _
theorem aev (k : Nat) (b : Bool) : (aN k % 2 == 0 || b) = true := by rw [aN_even]; rfl
theorem hs2' {a b c d e : Bool} {n : Nat} (hn : n % 2 = 0) (h : (a && b && c && d && e) = true) : (a && b && c && d && n % 2 == 0 && e) = true := by
  rw [hn]; simpa using h
theorem mayM_fit' {m : M} (h : mayM m = true) : m.f6.length ≤ 1000000000000 ∧ ∀ o ∈ m.f6, o.f5.length < 4611686018427387904 := by
  have k := mayM_in h
  refine ⟨by have := k.l; omega, fun o ho => ?_⟩
  have q := may_in (k.o o ho)
  by_cases h2 : o.f2 = 2
  · rw [(q.k h2).2.2.2.2.2]; decide
  · have := (q.e h2).2.2.1; omega
/-- One text, read by both. -/
theorem anyRead (s : ByteArray) : ∃ (x y : List V) (e : Int), rdK (anyP s) = .tup [.agg x, vi e] ∧ rdR (anyP s) = .tup [.agg y, vi e] ∧ AF Tryz.prog XX 10 [.agg x, .agg y] (vo true) ∧ (badB (anyP s) = true → e = 7) ∧ ((x = mE ∧ y = mE) ∨ (x = mC m0 ∧ y = mE) ∨ ∃ m, x = mC m ∧ y = mC m) := by
  have hE0 : AF Tryz.prog XX 10 [.agg mE, .agg mE] (vo true) := af_wk (by exact ⟨lv_agg ⟨.refl _, .refl _, .refl _, .refl _, .refl _, .refl _, .nil _, trivial⟩, lv_agg ⟨.refl _, .refl _, .refl _, .refl _, .refl _, .refl _, .nil _, trivial⟩, trivial⟩) (eqMsg (X := XX) m0 m0 (by decide) nofun)
  have hE1 : AF Tryz.prog XX 10 [.agg (mC m0), .agg mE] (vo true) := af_wk (by exact ⟨.refl _, lv_agg ⟨.refl _, .refl _, .refl _, .refl _, .refl _, .refl _, .nil _, trivial⟩, trivial⟩) (eqMsg (X := XX) m0 m0 (by decide) nofun)
  rcases readBoth (anyP s) with ⟨e, h1, h2⟩ | ⟨h1, h2⟩ | ⟨m, h1, h2, hm⟩
  · exact ⟨_, _, e, h1, h2, hE0, fun hb => by have h := (bad_err hb).symm.trans h2; injection h with h; injection h with _ h; injection h with h; injection h with h; injection h with _ h; exact h.symm, .inl ⟨rfl, rfl⟩⟩
  · exact ⟨_, _, 7, h1, h2, hE1, fun _ => rfl, .inr (.inl ⟨rfl, rfl⟩)⟩
  · have hE := eqMsg (X := XX) m m (mayM_fit' hm).1 (mayM_fit' hm).2
    rw [decide_eq_true rfl] at hE
    exact ⟨_, _, 0, h1, h2, hE, fun hb => by have h := (bad_err hb).symm.trans h2; injection h with h; injection h with _ h; injection h with h; injection h with h; injection h with _ h; exact absurd h (by decide), .inr (.inr ⟨m, rfl, rfl⟩)⟩
theorem lawWireAny (p : A13) (hp : G13 p) : AF Tryz.prog XX 4 [.agg (a13C p)] (vo true) := by
  have hW := lawWakes13
  have hN := lawNet 2 (by omega)
  rw [netL2] at hN
  obtain ⟨q0, hq0⟩ : ∃ q, q = netK 0 := ⟨_, rfl⟩
  obtain ⟨q1, hq1⟩ : ∃ q, q = netK 1 := ⟨_, rfl⟩
  have hz0 := net_size.1
  have hz1 := net_size.2
  have hbad := anyB_bad
  unfold anyB at hbad
  rw [← hq0, ← hq1] at hbad
  rw [← hq0, ← hq1] at hN
  rw [← hq0] at hz0
  rw [← hq1] at hz1
  clear hq0 hq1
  obtain ⟨f0, f1, f2, f3⟩ := q0
  obtain ⟨g0, g1, g2, g3⟩ := q1
  dsimp only at hz0 hz1 hbad
  have hSl : (p.M.S.map fun s => [vs s]).length = p.M.S.length := List.length_map ..
  refine ac_mk (by kernel_rfl) Tryz.func4 rfl (lb rfl) rfl rfl ?_
  repeat (first | refine ao_e rfl rfl rfl rfl rfl ?_ | refine ao_eff (v := V.val (Value.bool true)) (ups := []) rfl rfl rfl rfl ?_ | refine ao_eff (v := V.val (Value.bool false)) (ups := []) rfl rfl rfl rfl ?_ | refine aw_seq ?_ | refine aw_region ?_ | refine aw_block ?_ | refine ao_nil ⟨fun h => (Bool.false_ne_true h).elim, ?_⟩ | refine ao_nil ⟨fun _ => ⟨by kernel_rfl, by kernel_rfl⟩, ?_⟩ | refine ao_skip rfl rfl rfl ?_ | refine aw_true rfl ?_ | refine aw_false rfl ?_ | refine aw_skip ?_ | refine aw_exit ?_)
  refine ao_fun rfl rfl rfl rfl rfl rfl hN ?_
  repeat (first | refine ao_e rfl rfl rfl rfl rfl ?_ | refine ao_eff (v := V.val (Value.bool true)) (ups := []) rfl rfl rfl rfl ?_ | refine ao_eff (v := V.val (Value.bool false)) (ups := []) rfl rfl rfl rfl ?_ | refine aw_seq ?_ | refine aw_region ?_ | refine aw_block ?_ | refine ao_nil ⟨fun h => (Bool.false_ne_true h).elim, ?_⟩ | refine ao_nil ⟨fun _ => ⟨by kernel_rfl, by kernel_rfl⟩, ?_⟩ | refine ao_skip rfl rfl rfl ?_ | refine aw_true rfl ?_ | refine aw_false rfl ?_ | refine aw_skip ?_ | refine aw_exit ?_ | refine ao_e rfl rfl rfl rfl rfl ?_)
  refine ao_e rfl rfl rfl rfl (ef_cat (a := f2) (b := g2) (by omega)) ?_
  repeat (first | refine ao_e rfl rfl rfl rfl rfl ?_ | refine ao_eff (v := V.val (Value.bool true)) (ups := []) rfl rfl rfl rfl ?_ | refine ao_eff (v := V.val (Value.bool false)) (ups := []) rfl rfl rfl rfl ?_ | refine aw_seq ?_ | refine aw_region ?_ | refine aw_block ?_ | refine ao_nil ⟨fun h => (Bool.false_ne_true h).elim, ?_⟩ | refine ao_nil ⟨fun _ => ⟨by kernel_rfl, by kernel_rfl⟩, ?_⟩ | refine ao_skip rfl rfl rfl ?_ | refine aw_true rfl ?_ | refine aw_false rfl ?_ | refine aw_skip ?_ | refine aw_exit ?_ | refine ao_e rfl rfl rfl rfl rfl ?_)
  refine ao_e rfl rfl rfl rfl (ef_cat (a := f2) (b := ⟨#[0]⟩) (by show f2.size + 1 ≤ _; omega)) ?_
  repeat (first | refine ao_e rfl rfl rfl rfl rfl ?_ | refine ao_eff (v := V.val (Value.bool true)) (ups := []) rfl rfl rfl rfl ?_ | refine ao_eff (v := V.val (Value.bool false)) (ups := []) rfl rfl rfl rfl ?_ | refine aw_seq ?_ | refine aw_region ?_ | refine aw_block ?_ | refine ao_nil ⟨fun h => (Bool.false_ne_true h).elim, ?_⟩ | refine ao_nil ⟨fun _ => ⟨by kernel_rfl, by kernel_rfl⟩, ?_⟩ | refine ao_skip rfl rfl rfl ?_ | refine aw_true rfl ?_ | refine aw_false rfl ?_ | refine aw_skip ?_ | refine aw_exit ?_ | refine ao_e rfl rfl rfl rfl rfl ?_)
  refine ao_e rfl rfl rfl rfl (ef_str (s := f2) (l := 1) (n := f2.size) (nb_lo rfl) rfl rfl (by omega) (Nat.le_refl _)) ?_
  repeat (first | refine ao_e rfl rfl rfl rfl rfl ?_ | refine ao_eff (v := V.val (Value.bool true)) (ups := []) rfl rfl rfl rfl ?_ | refine ao_eff (v := V.val (Value.bool false)) (ups := []) rfl rfl rfl rfl ?_ | refine aw_seq ?_ | refine aw_region ?_ | refine aw_block ?_ | refine ao_nil ⟨fun h => (Bool.false_ne_true h).elim, ?_⟩ | refine ao_nil ⟨fun _ => ⟨by kernel_rfl, by kernel_rfl⟩, ?_⟩ | refine ao_skip rfl rfl rfl ?_ | refine aw_true rfl ?_ | refine aw_false rfl ?_ | refine aw_skip ?_ | refine aw_exit ?_ | refine ao_e rfl rfl rfl rfl rfl ?_)
  obtain ⟨B0, hB0⟩ : ∃ l : List ByteArray, l = [⟨#[]⟩, ⟨#[120]⟩, f2 ++ g2, f2 ++ ⟨#[0]⟩, f2.extract 1 f2.size, ⟨#[0, 0, 0, 0, 0]⟩] := ⟨_, rfl⟩
  have hBl : B0.length = 6 := by rw [hB0]; rfl
  refine aw_rounds (T := Nat × List ByteArray) (fun t => t.1 ≤ 4 ∧ t.1 ≤ p.M.S.length ∧ t.2 = B0 ++ p.M.S.take t.1) (fun t => [.any, .ptr (newId (siteOf 0 0) 0) 0 0 0, .any, .any, .sl (aN t.1) 0 0 t.2.length, vi t.1]) (fun t => [(newId (siteOf 0 0) 0, ⟨0, 7, true, true, [a13C p]⟩), (aN t.1, ⟨0, 1, true, true, t.2.map fun s => [vs s]⟩)]) (fun t => 4 - t.1) (0, B0) ⟨Nat.zero_le _, Nat.zero_le _, by simp⟩ ?_ ?_ ?_
  · rw [hB0]
    exact ⟨.any _, .ptr _ _ _ _ _ _ _ rfl rfl rfl rfl, .any _, .any _, .sl _ _ _ _ _ _ _ rfl rfl rfl rfl, .same _ rfl, trivial⟩
  · rw [hB0]
    exact ⟨renB_cl rfl rfl rfl rfl rfl rfl, renB_cl rfl rfl rfl rfl (aev _ _) rfl, trivial⟩
  rintro ⟨i, Q⟩ h0 ⟨hi4, hi, hQ⟩
  dsimp only at hi4 hi hQ ⊢
  have hQl : Q.length = 6 + i := by rw [hQ, List.length_append, List.length_take, hBl]; omega
  by_cases hc : i < p.M.S.length ∧ i < 4
  · obtain ⟨hc1, hc2⟩ := hc
    have hei : (p.M.S.map fun s => [vs s])[Int.toNat (i : Int)]? = some [vs p.M.S[i]] := by rw [Int.toNat_natCast, List.getElem?_map, List.getElem?_eq_getElem hc1]; rfl
    have hQ2 : Q ++ [p.M.S[i]] = B0 ++ p.M.S.take (i + 1) := by rw [hQ, List.take_succ_eq_append_getElem hc1, List.append_assoc]
    generalize p.M.S[i] = x at *
    cases i with
    | zero =>
      repeat (first | refine ao_e rfl rfl rfl rfl rfl ?_ | refine ao_eff (v := V.val (Value.bool true)) (ups := []) rfl rfl rfl rfl ?_ | refine ao_eff (v := V.val (Value.bool false)) (ups := []) rfl rfl rfl rfl ?_ | refine aw_seq ?_ | refine aw_region ?_ | refine aw_block ?_ | refine ao_nil ⟨fun h => (Bool.false_ne_true h).elim, ?_⟩ | refine ao_nil ⟨fun _ => ⟨by kernel_rfl, by kernel_rfl⟩, ?_⟩ | refine ao_skip rfl rfl rfl ?_ | refine aw_true rfl ?_ | refine aw_false rfl ?_ | refine aw_skip ?_ | refine aw_exit ?_)
      refine ao_yes rfl rfl rfl rfl (by omega) ?_
      repeat (first | refine ao_e rfl rfl rfl rfl rfl ?_ | refine ao_eff (v := V.val (Value.bool true)) (ups := []) rfl rfl rfl rfl ?_ | refine ao_eff (v := V.val (Value.bool false)) (ups := []) rfl rfl rfl rfl ?_ | refine aw_seq ?_ | refine aw_region ?_ | refine aw_block ?_ | refine ao_nil ⟨fun h => (Bool.false_ne_true h).elim, ?_⟩ | refine ao_nil ⟨fun _ => ⟨by kernel_rfl, by kernel_rfl⟩, ?_⟩ | refine ao_skip rfl rfl rfl ?_ | refine aw_true rfl ?_ | refine aw_false rfl ?_ | refine aw_skip ?_ | refine aw_exit ?_)
      refine ao_e rfl rfl rfl rfl (ef_ix rfl rfl (by omega) hei) ?_
      repeat (first | refine ao_e rfl rfl rfl rfl rfl ?_ | refine ao_eff (v := V.val (Value.bool true)) (ups := []) rfl rfl rfl rfl ?_ | refine ao_eff (v := V.val (Value.bool false)) (ups := []) rfl rfl rfl rfl ?_ | refine aw_seq ?_ | refine aw_region ?_ | refine aw_block ?_ | refine ao_nil ⟨fun h => (Bool.false_ne_true h).elim, ?_⟩ | refine ao_nil ⟨fun _ => ⟨by kernel_rfl, by kernel_rfl⟩, ?_⟩ | refine ao_skip rfl rfl rfl ?_ | refine aw_true rfl ?_ | refine aw_false rfl ?_ | refine aw_skip ?_ | refine aw_exit ?_)
      refine ao_e rfl rfl rfl rfl (ef_push (fun s => [vs s]) Q x 16 rfl rfl rfl rfl rfl rfl rfl rfl rfl (by omega)) ?_
      repeat (first | refine ao_e rfl rfl rfl rfl rfl ?_ | refine ao_eff (v := V.val (Value.bool true)) (ups := []) rfl rfl rfl rfl ?_ | refine ao_eff (v := V.val (Value.bool false)) (ups := []) rfl rfl rfl rfl ?_ | refine aw_seq ?_ | refine aw_region ?_ | refine aw_block ?_ | refine ao_nil ⟨fun h => (Bool.false_ne_true h).elim, ?_⟩ | refine ao_nil ⟨fun _ => ⟨by kernel_rfl, by kernel_rfl⟩, ?_⟩ | refine ao_skip rfl rfl rfl ?_ | refine aw_true rfl ?_ | refine aw_false rfl ?_ | refine aw_skip ?_ | refine aw_exit ?_)
      exact ⟨(0 + 1, Q ++ [x]), ⟨by dsimp only; omega, hc1, hQ2⟩, by dsimp only; omega, ⟨.any _, .ptr _ _ _ _ _ _ _ rfl rfl rfl rfl, .any _, .any _, .sl _ _ _ _ _ _ _ rfl rfl rfl rfl, rsucc 0 (by omega), trivial⟩, ⟨renB_cl rfl rfl rfl rfl rfl rfl, renB_cl rfl rfl rfl rfl (aev _ _) rfl, trivial⟩⟩
    | succ k =>
      repeat (first | refine ao_e rfl rfl rfl rfl rfl ?_ | refine ao_eff (v := V.val (Value.bool true)) (ups := []) rfl rfl rfl rfl ?_ | refine ao_eff (v := V.val (Value.bool false)) (ups := []) rfl rfl rfl rfl ?_ | refine aw_seq ?_ | refine aw_region ?_ | refine aw_block ?_ | refine ao_nil ⟨fun h => (Bool.false_ne_true h).elim, ?_⟩ | refine ao_nil ⟨fun _ => ⟨by kernel_rfl, by kernel_rfl⟩, ?_⟩ | refine ao_skip rfl rfl rfl ?_ | refine aw_true rfl ?_ | refine aw_false rfl ?_ | refine aw_skip ?_ | refine aw_exit ?_)
      refine ao_yes rfl rfl rfl rfl (by omega) ?_
      repeat (first | refine ao_e rfl rfl rfl rfl rfl ?_ | refine ao_eff (v := V.val (Value.bool true)) (ups := []) rfl rfl rfl rfl ?_ | refine ao_eff (v := V.val (Value.bool false)) (ups := []) rfl rfl rfl rfl ?_ | refine aw_seq ?_ | refine aw_region ?_ | refine aw_block ?_ | refine ao_nil ⟨fun h => (Bool.false_ne_true h).elim, ?_⟩ | refine ao_nil ⟨fun _ => ⟨by kernel_rfl, by kernel_rfl⟩, ?_⟩ | refine ao_skip rfl rfl rfl ?_ | refine aw_true rfl ?_ | refine aw_false rfl ?_ | refine aw_skip ?_ | refine aw_exit ?_)
      refine ao_yes rfl rfl rfl rfl (by omega) ?_
      repeat (first | refine ao_e rfl rfl rfl rfl rfl ?_ | refine ao_eff (v := V.val (Value.bool true)) (ups := []) rfl rfl rfl rfl ?_ | refine ao_eff (v := V.val (Value.bool false)) (ups := []) rfl rfl rfl rfl ?_ | refine aw_seq ?_ | refine aw_region ?_ | refine aw_block ?_ | refine ao_nil ⟨fun h => (Bool.false_ne_true h).elim, ?_⟩ | refine ao_nil ⟨fun _ => ⟨by kernel_rfl, by kernel_rfl⟩, ?_⟩ | refine ao_skip rfl rfl rfl ?_ | refine aw_true rfl ?_ | refine aw_false rfl ?_ | refine aw_skip ?_ | refine aw_exit ?_)
      refine ao_e rfl rfl rfl rfl (ef_ix rfl rfl (by omega) hei) ?_
      repeat (first | refine ao_e rfl rfl rfl rfl rfl ?_ | refine ao_eff (v := V.val (Value.bool true)) (ups := []) rfl rfl rfl rfl ?_ | refine ao_eff (v := V.val (Value.bool false)) (ups := []) rfl rfl rfl rfl ?_ | refine aw_seq ?_ | refine aw_region ?_ | refine aw_block ?_ | refine ao_nil ⟨fun h => (Bool.false_ne_true h).elim, ?_⟩ | refine ao_nil ⟨fun _ => ⟨by kernel_rfl, by kernel_rfl⟩, ?_⟩ | refine ao_skip rfl rfl rfl ?_ | refine aw_true rfl ?_ | refine aw_false rfl ?_ | refine aw_skip ?_ | refine aw_exit ?_)
      refine ao_e rfl rfl rfl rfl (ef_push (fun s => [vs s]) Q x 16 rfl rfl rfl rfl rfl (hs2' (aN_even _) rfl) rfl rfl rfl (by omega)) ?_
      repeat (first | refine ao_e rfl rfl rfl rfl rfl ?_ | refine ao_eff (v := V.val (Value.bool true)) (ups := []) rfl rfl rfl rfl ?_ | refine ao_eff (v := V.val (Value.bool false)) (ups := []) rfl rfl rfl rfl ?_ | refine aw_seq ?_ | refine aw_region ?_ | refine aw_block ?_ | refine ao_nil ⟨fun h => (Bool.false_ne_true h).elim, ?_⟩ | refine ao_nil ⟨fun _ => ⟨by kernel_rfl, by kernel_rfl⟩, ?_⟩ | refine ao_skip rfl rfl rfl ?_ | refine aw_true rfl ?_ | refine aw_false rfl ?_ | refine aw_skip ?_ | refine aw_exit ?_)
      exact ⟨((k + 1) + 1, Q ++ [x]), ⟨by dsimp only; omega, hc1, hQ2⟩, by dsimp only; omega, ⟨.any _, .ptr _ _ _ _ _ _ _ rfl rfl rfl rfl, .any _, .any _, .sl _ _ _ _ _ _ _ rfl rfl rfl rfl, rsucc (k + 1) (by omega), trivial⟩, ⟨renB_cl rfl rfl rfl rfl rfl rfl, renB_cl rfl rfl rfl rfl (aev _ _) rfl, trivial⟩⟩
  · have hL : Q.length ≤ 10 := by omega
    have hmem : ∀ j (hj : j < Q.length), j < 6 → badB (anyP Q[j]) = true := fun j hj h6 => hbad _ (by
      have e : Q[j] = B0[j] := by subst hQ; exact List.getElem_append_left (by omega)
      rw [e, ← hB0]; exact List.getElem_mem _)
    have hlq : (Q.map fun s => [vs s]).length = Q.length := List.length_map ..
    clear hQ hB0 hbad
    by_cases hc1 : i < p.M.S.length
    · obtain rfl : i = 4 := by omega
      repeat (first | refine ao_e rfl rfl rfl rfl rfl ?_ | refine ao_eff (v := V.val (Value.bool true)) (ups := []) rfl rfl rfl rfl ?_ | refine ao_eff (v := V.val (Value.bool false)) (ups := []) rfl rfl rfl rfl ?_ | refine aw_seq ?_ | refine aw_region ?_ | refine aw_block ?_ | refine ao_nil ⟨fun h => (Bool.false_ne_true h).elim, ?_⟩ | refine ao_nil ⟨fun _ => ⟨by kernel_rfl, by kernel_rfl⟩, ?_⟩ | refine ao_skip rfl rfl rfl ?_ | refine aw_true rfl ?_ | refine aw_false rfl ?_ | refine aw_skip ?_ | refine aw_exit ?_)
      refine ao_yes rfl rfl rfl rfl (by omega) ?_
      repeat (first | refine ao_e rfl rfl rfl rfl rfl ?_ | refine ao_eff (v := V.val (Value.bool true)) (ups := []) rfl rfl rfl rfl ?_ | refine ao_eff (v := V.val (Value.bool false)) (ups := []) rfl rfl rfl rfl ?_ | refine aw_seq ?_ | refine aw_region ?_ | refine aw_block ?_ | refine ao_nil ⟨fun h => (Bool.false_ne_true h).elim, ?_⟩ | refine ao_nil ⟨fun _ => ⟨by kernel_rfl, by kernel_rfl⟩, ?_⟩ | refine ao_skip rfl rfl rfl ?_ | refine aw_true rfl ?_ | refine aw_false rfl ?_ | refine aw_skip ?_ | refine aw_exit ?_)
      refine aw_rounds (T := Nat) (fun j => j ≤ Q.length) (fun j => [.any, .any, .any, .any, .isl 1 (Q.map fun s => [vs s]), .any, vi j]) (fun _ => []) (fun j => Q.length - j) 0 (Nat.zero_le _) ⟨.any _, .any _, .any _, .any _, ren_frz (fun s => [vs s]) Q rfl (by first | rfl | (rw [aN_even]; rfl)) rfl rfl rfl (by first | rfl | (show odds _ _ = none; unfold odds; rw [aN_even]; rfl)), .any _, .same _ rfl, trivial⟩ trivial ?_
      rintro j h0 hj
      by_cases hjl : j < Q.length
      · obtain ⟨xv, yv, e, hr1, hr2, hE, h7, hsh⟩ := anyRead Q[j]
        have h8 : j < 6 → e = 7 := fun h6 => h7 (hmem j hjl h6)
        have hej : (Q.map fun s => [vs s])[Int.toNat (j : Int)]? = some [vs Q[j]] := by rw [Int.toNat_natCast, List.getElem?_map, List.getElem?_eq_getElem hjl]; rfl
        have hR1 := wireRead (anyP Q[j])
        have hR2 := refRead (anyP Q[j])
        rw [hr1] at hR1
        rw [hr2] at hR2
        clear hr1 hr2 h7 hmem
        generalize Q[j] = x at *
        rcases hsh with ⟨rfl, rfl⟩ | ⟨rfl, rfl⟩ | ⟨m, rfl, rfl⟩
        all_goals
          by_cases h6 : j < 6
          · obtain rfl := h8 h6
            repeat (first | refine ao_e rfl rfl rfl rfl rfl ?_ | refine ao_eff (v := V.val (Value.bool true)) (ups := []) rfl rfl rfl rfl ?_ | refine ao_eff (v := V.val (Value.bool false)) (ups := []) rfl rfl rfl rfl ?_ | refine aw_seq ?_ | refine aw_region ?_ | refine aw_block ?_ | refine ao_nil ⟨fun h => (Bool.false_ne_true h).elim, ?_⟩ | refine ao_nil ⟨fun _ => ⟨by kernel_rfl, by kernel_rfl⟩, ?_⟩ | refine ao_skip rfl rfl rfl ?_ | refine aw_true rfl ?_ | refine aw_false rfl ?_ | refine aw_skip ?_ | refine aw_exit ?_)
            refine ao_yes rfl rfl rfl rfl (by omega) ?_
            repeat (first | refine ao_e rfl rfl rfl rfl rfl ?_ | refine ao_eff (v := V.val (Value.bool true)) (ups := []) rfl rfl rfl rfl ?_ | refine ao_eff (v := V.val (Value.bool false)) (ups := []) rfl rfl rfl rfl ?_ | refine aw_seq ?_ | refine aw_region ?_ | refine aw_block ?_ | refine ao_nil ⟨fun h => (Bool.false_ne_true h).elim, ?_⟩ | refine ao_nil ⟨fun _ => ⟨by kernel_rfl, by kernel_rfl⟩, ?_⟩ | refine ao_skip rfl rfl rfl ?_ | refine aw_true rfl ?_ | refine aw_false rfl ?_ | refine aw_skip ?_ | refine aw_exit ?_ | refine ao_e rfl rfl rfl rfl (ef_ix rfl rfl (by omega) hej) ?_ | refine ao_fun rfl rfl rfl rfl rfl rfl hR1 ?_ | refine ao_fun rfl rfl rfl rfl rfl rfl hR2 ?_ | refine ao_fun rfl rfl rfl rfl rfl rfl (lawNum13 _) ?_ | refine ao_fun rfl rfl rfl rfl rfl rfl hE ?_ | refine ao_yes rfl rfl rfl rfl h6 ?_)
            refine ao_yes rfl rfl rfl rfl (by omega) ?_
            repeat (first | refine ao_e rfl rfl rfl rfl rfl ?_ | refine ao_eff (v := V.val (Value.bool true)) (ups := []) rfl rfl rfl rfl ?_ | refine ao_eff (v := V.val (Value.bool false)) (ups := []) rfl rfl rfl rfl ?_ | refine aw_seq ?_ | refine aw_region ?_ | refine aw_block ?_ | refine ao_nil ⟨fun h => (Bool.false_ne_true h).elim, ?_⟩ | refine ao_nil ⟨fun _ => ⟨by kernel_rfl, by kernel_rfl⟩, ?_⟩ | refine ao_skip rfl rfl rfl ?_ | refine aw_true rfl ?_ | refine aw_false rfl ?_ | refine aw_skip ?_ | refine aw_exit ?_)
            exact ⟨j + 1, hjl, by omega, ⟨.any _, .any _, .any _, .any _, .same _ rfl, .any _, rsucc j (by omega), trivial⟩, trivial⟩
          · repeat (first | refine ao_e rfl rfl rfl rfl rfl ?_ | refine ao_eff (v := V.val (Value.bool true)) (ups := []) rfl rfl rfl rfl ?_ | refine ao_eff (v := V.val (Value.bool false)) (ups := []) rfl rfl rfl rfl ?_ | refine aw_seq ?_ | refine aw_region ?_ | refine aw_block ?_ | refine ao_nil ⟨fun h => (Bool.false_ne_true h).elim, ?_⟩ | refine ao_nil ⟨fun _ => ⟨by kernel_rfl, by kernel_rfl⟩, ?_⟩ | refine ao_skip rfl rfl rfl ?_ | refine aw_true rfl ?_ | refine aw_false rfl ?_ | refine aw_skip ?_ | refine aw_exit ?_)
            refine ao_yes rfl rfl rfl rfl (by omega) ?_
            repeat (first | refine ao_e rfl rfl rfl rfl rfl ?_ | refine ao_eff (v := V.val (Value.bool true)) (ups := []) rfl rfl rfl rfl ?_ | refine ao_eff (v := V.val (Value.bool false)) (ups := []) rfl rfl rfl rfl ?_ | refine aw_seq ?_ | refine aw_region ?_ | refine aw_block ?_ | refine ao_nil ⟨fun h => (Bool.false_ne_true h).elim, ?_⟩ | refine ao_nil ⟨fun _ => ⟨by kernel_rfl, by kernel_rfl⟩, ?_⟩ | refine ao_skip rfl rfl rfl ?_ | refine aw_true rfl ?_ | refine aw_false rfl ?_ | refine aw_skip ?_ | refine aw_exit ?_ | refine ao_e rfl rfl rfl rfl (ef_ix rfl rfl (by omega) hej) ?_ | refine ao_fun rfl rfl rfl rfl rfl rfl hR1 ?_ | refine ao_fun rfl rfl rfl rfl rfl rfl hR2 ?_ | refine ao_fun rfl rfl rfl rfl rfl rfl (lawNum13 _) ?_ | refine ao_fun rfl rfl rfl rfl rfl rfl hE ?_ | refine ao_no rfl rfl rfl rfl (by omega) ?_)
            refine ao_ndec rfl rfl rfl rfl (fun hq => ?_) (fun hq => absurd rfl hq)
            repeat (first | refine ao_e rfl rfl rfl rfl rfl ?_ | refine ao_eff (v := V.val (Value.bool true)) (ups := []) rfl rfl rfl rfl ?_ | refine ao_eff (v := V.val (Value.bool false)) (ups := []) rfl rfl rfl rfl ?_ | refine aw_seq ?_ | refine aw_region ?_ | refine aw_block ?_ | refine ao_nil ⟨fun h => (Bool.false_ne_true h).elim, ?_⟩ | refine ao_nil ⟨fun _ => ⟨by kernel_rfl, by kernel_rfl⟩, ?_⟩ | refine ao_skip rfl rfl rfl ?_ | refine aw_true rfl ?_ | refine aw_false rfl ?_ | refine aw_skip ?_ | refine aw_exit ?_ | refine ao_fun rfl rfl rfl rfl rfl rfl hE ?_)
            refine ao_no rfl rfl rfl rfl (by omega) ?_
            repeat (first | refine ao_e rfl rfl rfl rfl rfl ?_ | refine ao_eff (v := V.val (Value.bool true)) (ups := []) rfl rfl rfl rfl ?_ | refine ao_eff (v := V.val (Value.bool false)) (ups := []) rfl rfl rfl rfl ?_ | refine aw_seq ?_ | refine aw_region ?_ | refine aw_block ?_ | refine ao_nil ⟨fun h => (Bool.false_ne_true h).elim, ?_⟩ | refine ao_nil ⟨fun _ => ⟨by kernel_rfl, by kernel_rfl⟩, ?_⟩ | refine ao_skip rfl rfl rfl ?_ | refine aw_true rfl ?_ | refine aw_false rfl ?_ | refine aw_skip ?_ | refine aw_exit ?_)
            exact ⟨j + 1, hjl, by omega, ⟨.any _, .any _, .any _, .any _, .same _ rfl, .any _, rsucc j (by omega), trivial⟩, trivial⟩
      · repeat (first | refine ao_e rfl rfl rfl rfl rfl ?_ | refine ao_eff (v := V.val (Value.bool true)) (ups := []) rfl rfl rfl rfl ?_ | refine ao_eff (v := V.val (Value.bool false)) (ups := []) rfl rfl rfl rfl ?_ | refine aw_seq ?_ | refine aw_region ?_ | refine aw_block ?_ | refine ao_nil ⟨fun h => (Bool.false_ne_true h).elim, ?_⟩ | refine ao_nil ⟨fun _ => ⟨by kernel_rfl, by kernel_rfl⟩, ?_⟩ | refine ao_skip rfl rfl rfl ?_ | refine aw_true rfl ?_ | refine aw_false rfl ?_ | refine aw_skip ?_ | refine aw_exit ?_)
        refine ao_no rfl rfl rfl rfl (by omega) ?_
        repeat (first | refine ao_e rfl rfl rfl rfl rfl ?_ | refine ao_eff (v := V.val (Value.bool true)) (ups := []) rfl rfl rfl rfl ?_ | refine ao_eff (v := V.val (Value.bool false)) (ups := []) rfl rfl rfl rfl ?_ | refine aw_seq ?_ | refine aw_region ?_ | refine aw_block ?_ | refine ao_nil ⟨fun h => (Bool.false_ne_true h).elim, ?_⟩ | refine ao_nil ⟨fun _ => ⟨by kernel_rfl, by kernel_rfl⟩, ?_⟩ | refine ao_skip rfl rfl rfl ?_ | refine aw_true rfl ?_ | refine aw_false rfl ?_ | refine aw_skip ?_ | refine aw_exit ?_)
        refine ao_fun rfl rfl rfl rfl rfl rfl hW ?_
        repeat (first | refine ao_e rfl rfl rfl rfl rfl ?_ | refine ao_eff (v := V.val (Value.bool true)) (ups := []) rfl rfl rfl rfl ?_ | refine ao_eff (v := V.val (Value.bool false)) (ups := []) rfl rfl rfl rfl ?_ | refine aw_seq ?_ | refine aw_region ?_ | refine aw_block ?_ | refine ao_nil ⟨fun h => (Bool.false_ne_true h).elim, ?_⟩ | refine ao_nil ⟨fun _ => ⟨by kernel_rfl, by kernel_rfl⟩, ?_⟩ | refine ao_skip rfl rfl rfl ?_ | refine aw_true rfl ?_ | refine aw_false rfl ?_ | refine aw_skip ?_ | refine aw_exit ?_)
        exact aw_ret ⟨.inr rfl, _, _, _, _, _, rfl, rfl, rfl, rfl, rfl, rfl⟩
    · cases i
      all_goals
        repeat (first | refine ao_e rfl rfl rfl rfl rfl ?_ | refine ao_eff (v := V.val (Value.bool true)) (ups := []) rfl rfl rfl rfl ?_ | refine ao_eff (v := V.val (Value.bool false)) (ups := []) rfl rfl rfl rfl ?_ | refine aw_seq ?_ | refine aw_region ?_ | refine aw_block ?_ | refine ao_nil ⟨fun h => (Bool.false_ne_true h).elim, ?_⟩ | refine ao_nil ⟨fun _ => ⟨by kernel_rfl, by kernel_rfl⟩, ?_⟩ | refine ao_skip rfl rfl rfl ?_ | refine aw_true rfl ?_ | refine aw_false rfl ?_ | refine aw_skip ?_ | refine aw_exit ?_)
        refine ao_no rfl rfl rfl rfl (by omega) ?_
        repeat (first | refine ao_e rfl rfl rfl rfl rfl ?_ | refine ao_eff (v := V.val (Value.bool true)) (ups := []) rfl rfl rfl rfl ?_ | refine ao_eff (v := V.val (Value.bool false)) (ups := []) rfl rfl rfl rfl ?_ | refine aw_seq ?_ | refine aw_region ?_ | refine aw_block ?_ | refine ao_nil ⟨fun h => (Bool.false_ne_true h).elim, ?_⟩ | refine ao_nil ⟨fun _ => ⟨by kernel_rfl, by kernel_rfl⟩, ?_⟩ | refine ao_skip rfl rfl rfl ?_ | refine aw_true rfl ?_ | refine aw_false rfl ?_ | refine aw_skip ?_ | refine aw_exit ?_)
        refine aw_rounds (T := Nat) (fun j => j ≤ Q.length) (fun j => [.any, .any, .any, .any, .isl 1 (Q.map fun s => [vs s]), .any, vi j]) (fun _ => []) (fun j => Q.length - j) 0 (Nat.zero_le _) ⟨.any _, .any _, .any _, .any _, ren_frz (fun s => [vs s]) Q rfl (by first | rfl | (rw [aN_even]; rfl)) rfl rfl rfl (by first | rfl | (show odds _ _ = none; unfold odds; rw [aN_even]; rfl)), .any _, .same _ rfl, trivial⟩ trivial ?_
        rintro j h0 hj
        by_cases hjl : j < Q.length
        · obtain ⟨xv, yv, e, hr1, hr2, hE, h7, hsh⟩ := anyRead Q[j]
          have h8 : j < 6 → e = 7 := fun h6 => h7 (hmem j hjl h6)
          have hej : (Q.map fun s => [vs s])[Int.toNat (j : Int)]? = some [vs Q[j]] := by rw [Int.toNat_natCast, List.getElem?_map, List.getElem?_eq_getElem hjl]; rfl
          have hR1 := wireRead (anyP Q[j])
          have hR2 := refRead (anyP Q[j])
          rw [hr1] at hR1
          rw [hr2] at hR2
          clear hr1 hr2 h7 hmem
          generalize Q[j] = x at *
          rcases hsh with ⟨rfl, rfl⟩ | ⟨rfl, rfl⟩ | ⟨m, rfl, rfl⟩
          all_goals
            by_cases h6 : j < 6
            · obtain rfl := h8 h6
              repeat (first | refine ao_e rfl rfl rfl rfl rfl ?_ | refine ao_eff (v := V.val (Value.bool true)) (ups := []) rfl rfl rfl rfl ?_ | refine ao_eff (v := V.val (Value.bool false)) (ups := []) rfl rfl rfl rfl ?_ | refine aw_seq ?_ | refine aw_region ?_ | refine aw_block ?_ | refine ao_nil ⟨fun h => (Bool.false_ne_true h).elim, ?_⟩ | refine ao_nil ⟨fun _ => ⟨by kernel_rfl, by kernel_rfl⟩, ?_⟩ | refine ao_skip rfl rfl rfl ?_ | refine aw_true rfl ?_ | refine aw_false rfl ?_ | refine aw_skip ?_ | refine aw_exit ?_)
              refine ao_yes rfl rfl rfl rfl (by omega) ?_
              repeat (first | refine ao_e rfl rfl rfl rfl rfl ?_ | refine ao_eff (v := V.val (Value.bool true)) (ups := []) rfl rfl rfl rfl ?_ | refine ao_eff (v := V.val (Value.bool false)) (ups := []) rfl rfl rfl rfl ?_ | refine aw_seq ?_ | refine aw_region ?_ | refine aw_block ?_ | refine ao_nil ⟨fun h => (Bool.false_ne_true h).elim, ?_⟩ | refine ao_nil ⟨fun _ => ⟨by kernel_rfl, by kernel_rfl⟩, ?_⟩ | refine ao_skip rfl rfl rfl ?_ | refine aw_true rfl ?_ | refine aw_false rfl ?_ | refine aw_skip ?_ | refine aw_exit ?_ | refine ao_e rfl rfl rfl rfl (ef_ix rfl rfl (by omega) hej) ?_ | refine ao_fun rfl rfl rfl rfl rfl rfl hR1 ?_ | refine ao_fun rfl rfl rfl rfl rfl rfl hR2 ?_ | refine ao_fun rfl rfl rfl rfl rfl rfl (lawNum13 _) ?_ | refine ao_fun rfl rfl rfl rfl rfl rfl hE ?_ | refine ao_yes rfl rfl rfl rfl h6 ?_)
              refine ao_yes rfl rfl rfl rfl (by omega) ?_
              repeat (first | refine ao_e rfl rfl rfl rfl rfl ?_ | refine ao_eff (v := V.val (Value.bool true)) (ups := []) rfl rfl rfl rfl ?_ | refine ao_eff (v := V.val (Value.bool false)) (ups := []) rfl rfl rfl rfl ?_ | refine aw_seq ?_ | refine aw_region ?_ | refine aw_block ?_ | refine ao_nil ⟨fun h => (Bool.false_ne_true h).elim, ?_⟩ | refine ao_nil ⟨fun _ => ⟨by kernel_rfl, by kernel_rfl⟩, ?_⟩ | refine ao_skip rfl rfl rfl ?_ | refine aw_true rfl ?_ | refine aw_false rfl ?_ | refine aw_skip ?_ | refine aw_exit ?_)
              exact ⟨j + 1, hjl, by omega, ⟨.any _, .any _, .any _, .any _, .same _ rfl, .any _, rsucc j (by omega), trivial⟩, trivial⟩
            · repeat (first | refine ao_e rfl rfl rfl rfl rfl ?_ | refine ao_eff (v := V.val (Value.bool true)) (ups := []) rfl rfl rfl rfl ?_ | refine ao_eff (v := V.val (Value.bool false)) (ups := []) rfl rfl rfl rfl ?_ | refine aw_seq ?_ | refine aw_region ?_ | refine aw_block ?_ | refine ao_nil ⟨fun h => (Bool.false_ne_true h).elim, ?_⟩ | refine ao_nil ⟨fun _ => ⟨by kernel_rfl, by kernel_rfl⟩, ?_⟩ | refine ao_skip rfl rfl rfl ?_ | refine aw_true rfl ?_ | refine aw_false rfl ?_ | refine aw_skip ?_ | refine aw_exit ?_)
              refine ao_yes rfl rfl rfl rfl (by omega) ?_
              repeat (first | refine ao_e rfl rfl rfl rfl rfl ?_ | refine ao_eff (v := V.val (Value.bool true)) (ups := []) rfl rfl rfl rfl ?_ | refine ao_eff (v := V.val (Value.bool false)) (ups := []) rfl rfl rfl rfl ?_ | refine aw_seq ?_ | refine aw_region ?_ | refine aw_block ?_ | refine ao_nil ⟨fun h => (Bool.false_ne_true h).elim, ?_⟩ | refine ao_nil ⟨fun _ => ⟨by kernel_rfl, by kernel_rfl⟩, ?_⟩ | refine ao_skip rfl rfl rfl ?_ | refine aw_true rfl ?_ | refine aw_false rfl ?_ | refine aw_skip ?_ | refine aw_exit ?_ | refine ao_e rfl rfl rfl rfl (ef_ix rfl rfl (by omega) hej) ?_ | refine ao_fun rfl rfl rfl rfl rfl rfl hR1 ?_ | refine ao_fun rfl rfl rfl rfl rfl rfl hR2 ?_ | refine ao_fun rfl rfl rfl rfl rfl rfl (lawNum13 _) ?_ | refine ao_fun rfl rfl rfl rfl rfl rfl hE ?_ | refine ao_no rfl rfl rfl rfl (by omega) ?_)
              refine ao_ndec rfl rfl rfl rfl (fun hq => ?_) (fun hq => absurd rfl hq)
              repeat (first | refine ao_e rfl rfl rfl rfl rfl ?_ | refine ao_eff (v := V.val (Value.bool true)) (ups := []) rfl rfl rfl rfl ?_ | refine ao_eff (v := V.val (Value.bool false)) (ups := []) rfl rfl rfl rfl ?_ | refine aw_seq ?_ | refine aw_region ?_ | refine aw_block ?_ | refine ao_nil ⟨fun h => (Bool.false_ne_true h).elim, ?_⟩ | refine ao_nil ⟨fun _ => ⟨by kernel_rfl, by kernel_rfl⟩, ?_⟩ | refine ao_skip rfl rfl rfl ?_ | refine aw_true rfl ?_ | refine aw_false rfl ?_ | refine aw_skip ?_ | refine aw_exit ?_ | refine ao_fun rfl rfl rfl rfl rfl rfl hE ?_)
              refine ao_no rfl rfl rfl rfl (by omega) ?_
              repeat (first | refine ao_e rfl rfl rfl rfl rfl ?_ | refine ao_eff (v := V.val (Value.bool true)) (ups := []) rfl rfl rfl rfl ?_ | refine ao_eff (v := V.val (Value.bool false)) (ups := []) rfl rfl rfl rfl ?_ | refine aw_seq ?_ | refine aw_region ?_ | refine aw_block ?_ | refine ao_nil ⟨fun h => (Bool.false_ne_true h).elim, ?_⟩ | refine ao_nil ⟨fun _ => ⟨by kernel_rfl, by kernel_rfl⟩, ?_⟩ | refine ao_skip rfl rfl rfl ?_ | refine aw_true rfl ?_ | refine aw_false rfl ?_ | refine aw_skip ?_ | refine aw_exit ?_)
              exact ⟨j + 1, hjl, by omega, ⟨.any _, .any _, .any _, .any _, .same _ rfl, .any _, rsucc j (by omega), trivial⟩, trivial⟩
        · repeat (first | refine ao_e rfl rfl rfl rfl rfl ?_ | refine ao_eff (v := V.val (Value.bool true)) (ups := []) rfl rfl rfl rfl ?_ | refine ao_eff (v := V.val (Value.bool false)) (ups := []) rfl rfl rfl rfl ?_ | refine aw_seq ?_ | refine aw_region ?_ | refine aw_block ?_ | refine ao_nil ⟨fun h => (Bool.false_ne_true h).elim, ?_⟩ | refine ao_nil ⟨fun _ => ⟨by kernel_rfl, by kernel_rfl⟩, ?_⟩ | refine ao_skip rfl rfl rfl ?_ | refine aw_true rfl ?_ | refine aw_false rfl ?_ | refine aw_skip ?_ | refine aw_exit ?_)
          refine ao_no rfl rfl rfl rfl (by omega) ?_
          repeat (first | refine ao_e rfl rfl rfl rfl rfl ?_ | refine ao_eff (v := V.val (Value.bool true)) (ups := []) rfl rfl rfl rfl ?_ | refine ao_eff (v := V.val (Value.bool false)) (ups := []) rfl rfl rfl rfl ?_ | refine aw_seq ?_ | refine aw_region ?_ | refine aw_block ?_ | refine ao_nil ⟨fun h => (Bool.false_ne_true h).elim, ?_⟩ | refine ao_nil ⟨fun _ => ⟨by kernel_rfl, by kernel_rfl⟩, ?_⟩ | refine ao_skip rfl rfl rfl ?_ | refine aw_true rfl ?_ | refine aw_false rfl ?_ | refine aw_skip ?_ | refine aw_exit ?_)
          refine ao_fun rfl rfl rfl rfl rfl rfl hW ?_
          repeat (first | refine ao_e rfl rfl rfl rfl rfl ?_ | refine ao_eff (v := V.val (Value.bool true)) (ups := []) rfl rfl rfl rfl ?_ | refine ao_eff (v := V.val (Value.bool false)) (ups := []) rfl rfl rfl rfl ?_ | refine aw_seq ?_ | refine aw_region ?_ | refine aw_block ?_ | refine ao_nil ⟨fun h => (Bool.false_ne_true h).elim, ?_⟩ | refine ao_nil ⟨fun _ => ⟨by kernel_rfl, by kernel_rfl⟩, ?_⟩ | refine ao_skip rfl rfl rfl ?_ | refine aw_true rfl ?_ | refine aw_false rfl ?_ | refine aw_skip ?_ | refine aw_exit ?_)
          exact aw_ret ⟨.inr rfl, _, _, _, _, _, rfl, rfl, rfl, rfl, rfl, rfl⟩
end Go.Ai
