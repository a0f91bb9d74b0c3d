/- A part of the proof: what the program does, step by step, over values without addresses. No conditions of mine. -/
import Derived.Test.YtadfohbogoocgaaGreatDoorAsk13
import Derived.Test.YtadfohbogoocgaaGreatDoorN26
set_option linter.unusedVariables false
set_option linter.unusedSimpArgs false
namespace Go.Ai
open Go Go.RowKit Go.Proofs Go.Sp
variable {X : FuncId → List V → List (Nat × List V) → V → List (Nat × List V) → List Blk → Prop}
set_option maxRecDepth 10000
set_option maxHeartbeats 4000000
set_option linter.unusedVariables false
set_option linter.unusedSimpArgs false
def pw (k : K) : Nat := k.f2.size / 16
theorem packetsWeight (l : List K) (hl : l.length ≤ 4000000000000) (ho : ∀ o ∈ l, GK o) : AF Tryz.prog X 16 [.isl 4 (l.map kC)] (vi (gw pw l.length l : Nat)) := by
  have hlm : (l.map kC).length = l.length := List.length_map ..
  refine ac_mk (by kernel_rfl) Tryz.func16 rfl (lb rfl) rfl rfl ?_
  repeat (first | refine ao_e rfl rfl rfl rfl rfl ?_ | refine ao_eff (v := V.val (Value.bool true)) (ups := []) rfl rfl rfl rfl ?_ | refine ao_eff (v := V.val (Value.bool false)) (ups := []) rfl rfl rfl rfl ?_ | refine aw_seq ?_ | refine aw_region ?_ | refine aw_block ?_ | refine ao_nil ⟨fun h => (Bool.false_ne_true h).elim, ?_⟩ | refine ao_nil ⟨fun _ => ⟨by kernel_rfl, by kernel_rfl⟩, ?_⟩ | refine ao_skip rfl rfl rfl ?_ | refine aw_true rfl ?_ | refine aw_false rfl ?_ | refine aw_skip ?_ | refine aw_exit ?_)
  refine aw_rounds (T := Nat × Nat) (fun t => t.1 ≤ l.length ∧ t.2 ≤ 600000000000000 ∧ gw pw t.2 (l.drop t.1) = gw pw l.length l) (fun t => [.isl 4 (l.map kC), .any, .any, vi (t.2 : Nat), vi (t.1 : Nat)]) (fun _ => []) (fun t => l.length - t.1) (0, l.length) ⟨Nat.zero_le _, by dsimp only; omega, rfl⟩ ?_ trivial ?_
  · exact ⟨.same _ rfl, .any _, .any _, ren_eq (congrArg (fun n : Nat => vi n) hlm) rfl, .same _ rfl, trivial⟩
  rintro ⟨i, n⟩ h0 ⟨hi, hn, hI⟩
  dsimp only at hi hn hI ⊢
  by_cases hlt : i < l.length
  · have hei : (l.map kC)[Int.toNat (i : Int)]? = some (kC l[i]) := by rw [Int.toNat_natCast, List.getElem?_map, List.getElem?_eq_getElem hlt]; rfl
    have hd : l.drop i = l[i] :: l.drop (i + 1) := List.drop_eq_getElem_cons hlt
    by_cases hn2 : n < 1048576
    · have hgo := (ho _ (List.getElem_mem hlt)).s
      have hw : pw l[i] ≤ 300000000000000 := by
        unfold pw
        omega
      have hpw : pw l[i] = l[i].f2.size / 16 := rfl
      repeat (first | refine ao_e rfl rfl rfl rfl rfl ?_ | refine ao_eff (v := V.val (Value.bool true)) (ups := []) rfl rfl rfl rfl ?_ | refine ao_eff (v := V.val (Value.bool false)) (ups := []) rfl rfl rfl rfl ?_ | refine aw_seq ?_ | refine aw_region ?_ | refine aw_block ?_ | refine ao_nil ⟨fun h => (Bool.false_ne_true h).elim, ?_⟩ | refine ao_nil ⟨fun _ => ⟨by kernel_rfl, by kernel_rfl⟩, ?_⟩ | refine ao_skip rfl rfl rfl ?_ | refine aw_true rfl ?_ | refine aw_false rfl ?_ | refine aw_skip ?_ | refine aw_exit ?_)
      refine ao_yes rfl rfl rfl rfl (by omega) ?_
      iterate 2 refine ao_e rfl rfl rfl rfl rfl ?_
      refine ao_yes rfl rfl rfl rfl (by omega) ?_
      repeat (first | refine ao_e rfl rfl rfl rfl rfl ?_ | refine ao_eff (v := V.val (Value.bool true)) (ups := []) rfl rfl rfl rfl ?_ | refine ao_eff (v := V.val (Value.bool false)) (ups := []) rfl rfl rfl rfl ?_ | refine aw_seq ?_ | refine aw_region ?_ | refine aw_block ?_ | refine ao_nil ⟨fun h => (Bool.false_ne_true h).elim, ?_⟩ | refine ao_nil ⟨fun _ => ⟨by kernel_rfl, by kernel_rfl⟩, ?_⟩ | refine ao_skip rfl rfl rfl ?_ | refine aw_true rfl ?_ | refine aw_false rfl ?_ | refine aw_skip ?_ | refine aw_exit ?_)
      refine ao_e rfl rfl rfl rfl (ef_ix rfl rfl (by omega) hei) ?_
      iterate 4 refine ao_e rfl rfl rfl rfl rfl ?_
      refine ao_is ((n + pw l[i] : Nat) : Int) rfl rfl rfl rfl (by rw [wr64, wr64, Int.tdiv_eq_ediv_of_nonneg (by omega), w64 (x := (l[i].f2.size : Int) / 16) (by omega) (by omega), w64 (by omega) (by omega)]; omega) ?_
      repeat (first | refine ao_e rfl rfl rfl rfl rfl ?_ | refine ao_eff (v := V.val (Value.bool true)) (ups := []) rfl rfl rfl rfl ?_ | refine ao_eff (v := V.val (Value.bool false)) (ups := []) rfl rfl rfl rfl ?_ | refine aw_seq ?_ | refine aw_region ?_ | refine aw_block ?_ | refine ao_nil ⟨fun h => (Bool.false_ne_true h).elim, ?_⟩ | refine ao_nil ⟨fun _ => ⟨by kernel_rfl, by kernel_rfl⟩, ?_⟩ | refine ao_skip rfl rfl rfl ?_ | refine aw_true rfl ?_ | refine aw_false rfl ?_ | refine aw_skip ?_ | refine aw_exit ?_)
      refine ⟨(i + 1, n + pw l[i]), ⟨hlt, by dsimp only; omega, ?_⟩, by dsimp only; omega, ⟨.same _ rfl, .any _, .any _, .same _ rfl, rsucc i (by omega), trivial⟩, trivial⟩
      rw [← hI, hd]
      simp only [gw]
      rw [if_pos hn2]
    · repeat (first | refine ao_e rfl rfl rfl rfl rfl ?_ | refine ao_eff (v := V.val (Value.bool true)) (ups := []) rfl rfl rfl rfl ?_ | refine ao_eff (v := V.val (Value.bool false)) (ups := []) rfl rfl rfl rfl ?_ | refine aw_seq ?_ | refine aw_region ?_ | refine aw_block ?_ | refine ao_nil ⟨fun h => (Bool.false_ne_true h).elim, ?_⟩ | refine ao_nil ⟨fun _ => ⟨by kernel_rfl, by kernel_rfl⟩, ?_⟩ | refine ao_skip rfl rfl rfl ?_ | refine aw_true rfl ?_ | refine aw_false rfl ?_ | refine aw_skip ?_ | refine aw_exit ?_)
      refine ao_yes rfl rfl rfl rfl (by omega) ?_
      iterate 2 refine ao_e rfl rfl rfl rfl rfl ?_
      refine ao_no rfl rfl rfl rfl (by omega) ?_
      repeat (first | refine ao_e rfl rfl rfl rfl rfl ?_ | refine ao_eff (v := V.val (Value.bool true)) (ups := []) rfl rfl rfl rfl ?_ | refine ao_eff (v := V.val (Value.bool false)) (ups := []) rfl rfl rfl rfl ?_ | refine aw_seq ?_ | refine aw_region ?_ | refine aw_block ?_ | refine ao_nil ⟨fun h => (Bool.false_ne_true h).elim, ?_⟩ | refine ao_nil ⟨fun _ => ⟨by kernel_rfl, by kernel_rfl⟩, ?_⟩ | refine ao_skip rfl rfl rfl ?_ | refine aw_true rfl ?_ | refine aw_false rfl ?_ | refine aw_skip ?_ | refine aw_exit ?_)
      refine aw_ret ⟨.inr rfl, _, _, _, _, _, rfl, rfl, rfl, rfl, ?_, rfl⟩
      rw [← hI, gw_big _ _ hn2]; rfl
  · have hd : l.drop i = [] := List.drop_eq_nil_of_le (by omega)
    repeat (first | refine ao_e rfl rfl rfl rfl rfl ?_ | refine ao_eff (v := V.val (Value.bool true)) (ups := []) rfl rfl rfl rfl ?_ | refine ao_eff (v := V.val (Value.bool false)) (ups := []) rfl rfl rfl rfl ?_ | refine aw_seq ?_ | refine aw_region ?_ | refine aw_block ?_ | refine ao_nil ⟨fun h => (Bool.false_ne_true h).elim, ?_⟩ | refine ao_nil ⟨fun _ => ⟨by kernel_rfl, by kernel_rfl⟩, ?_⟩ | refine ao_skip rfl rfl rfl ?_ | refine aw_true rfl ?_ | refine aw_false rfl ?_ | refine aw_skip ?_ | refine aw_exit ?_)
    refine ao_no rfl rfl rfl rfl (by omega) ?_
    refine ao_e rfl rfl rfl rfl rfl ?_
    iterate 2 refine ao_skip rfl rfl rfl ?_
    repeat (first | refine ao_e rfl rfl rfl rfl rfl ?_ | refine ao_eff (v := V.val (Value.bool true)) (ups := []) rfl rfl rfl rfl ?_ | refine ao_eff (v := V.val (Value.bool false)) (ups := []) rfl rfl rfl rfl ?_ | refine aw_seq ?_ | refine aw_region ?_ | refine aw_block ?_ | refine ao_nil ⟨fun h => (Bool.false_ne_true h).elim, ?_⟩ | refine ao_nil ⟨fun _ => ⟨by kernel_rfl, by kernel_rfl⟩, ?_⟩ | refine ao_skip rfl rfl rfl ?_ | refine aw_true rfl ?_ | refine aw_false rfl ?_ | refine aw_skip ?_ | refine aw_exit ?_)
    refine aw_ret ⟨.inr rfl, _, _, _, _, _, rfl, rfl, rfl, rfl, ?_, rfl⟩
    rw [← hI, hd]; rfl
def nw (l : List K) : Nat := gw pw l.length l
def heavyM (p : A13) : Nat := gw nw (p.L.length + p.N.length) p.L
def heavy13 (p : A13) : Bool := decide (heavyM p > 900) || heavy12 p.M
def nC (l : List K) : List V := [V.isl 4 (l.map kC)]
theorem lawHeavy13 (p : A13) (h : G13 p) : AF Tryz.prog X 5 [.agg (a13C p)] (vo (heavy13 p)) := by
  have h12 := lawHeavy12 (X := X) p.M h.m
  obtain ⟨hl1, hl2⟩ := h.l
  obtain ⟨hn1, hn2⟩ := h.n
  have hL : (p.L.map fun l => [V.isl 4 (l.map kC)]).length = p.L.length := List.length_map ..
  have hN : (p.N.map fun n => [vi n]).length = p.N.length := List.length_map ..
  have hnw : ∀ l ∈ p.L, nw l ≤ 302000000000000 := by
    intro l hl
    obtain ⟨k1, k2⟩ := hl2 l hl
    have := gw_bnd pw 300000000000000 l l.length (fun a ha => by have := (k2 a ha).s; unfold pw; omega)
    unfold nw
    omega
  refine ac_mk (by kernel_rfl) Tryz.func5 rfl (lb rfl) rfl rfl ?_
  unfold heavy13 heavyM
  iterate 13 (first | refine ao_e rfl rfl rfl rfl rfl ?_ | refine ao_eff (v := V.val (Value.bool true)) (ups := []) rfl rfl rfl rfl ?_ | refine ao_eff (v := V.val (Value.bool false)) (ups := []) rfl rfl rfl rfl ?_ | refine aw_seq ?_ | refine aw_region ?_ | refine aw_block ?_ | refine ao_nil ⟨fun h => (Bool.false_ne_true h).elim, ?_⟩ | refine ao_nil ⟨fun _ => ⟨by kernel_rfl, by kernel_rfl⟩, ?_⟩ | refine ao_skip rfl rfl rfl ?_ | refine aw_true rfl ?_ | refine aw_false rfl ?_ | refine aw_skip ?_ | refine aw_exit ?_)
  refine ao_is ((p.L.length + p.N.length : Nat) : Int) rfl rfl rfl rfl (by rw [hL, hN, wr64, w64 (by omega) (by omega)]; omega) ?_
  repeat (first | refine ao_e rfl rfl rfl rfl rfl ?_ | refine ao_eff (v := V.val (Value.bool true)) (ups := []) rfl rfl rfl rfl ?_ | refine ao_eff (v := V.val (Value.bool false)) (ups := []) rfl rfl rfl rfl ?_ | refine aw_seq ?_ | refine aw_region ?_ | refine aw_block ?_ | refine ao_nil ⟨fun h => (Bool.false_ne_true h).elim, ?_⟩ | refine ao_nil ⟨fun _ => ⟨by kernel_rfl, by kernel_rfl⟩, ?_⟩ | refine ao_skip rfl rfl rfl ?_ | refine aw_true rfl ?_ | refine aw_false rfl ?_ | refine aw_skip ?_ | refine aw_exit ?_)
  obtain ⟨g0, hg0⟩ : ∃ g0, p.L.length + p.N.length = g0 := ⟨_, rfl⟩
  have hg0b : g0 ≤ 300000000000000 := by omega
  rw [hg0] at *
  refine aw_rounds (T := Nat × Nat) (fun t => t.1 ≤ p.L.length ∧ t.2 ≤ 600000000000000 ∧ gw nw t.2 (p.L.drop t.1) = gw nw g0 p.L) (fun t => [.any, .ptr (newId (siteOf 0 0) 0) 0 0 0, .any, vi (t.2 : Nat), vi (t.1 : Nat)]) (fun _ => [(newId (siteOf 0 0) 0, ⟨0, 7, true, true, [a13C p]⟩)]) (fun t => p.L.length - t.1) (0, g0) ⟨Nat.zero_le _, by dsimp only; omega, rfl⟩ ?_ ?_ ?_
  · exact ⟨.any _, .ptr _ _ _ _ _ _ _ rfl rfl rfl rfl, .any _, .same _ rfl, .same _ rfl, trivial⟩
  · exact ⟨renB_cl rfl rfl rfl rfl rfl rfl, trivial⟩
  rintro ⟨i, n⟩ h0 ⟨hi, hn, hI⟩
  dsimp only at hi hn hI ⊢
  have fin : ∀ (b : Bool), (i < p.L.length → ¬ n < 1048576) → gw nw g0 p.L = n := by
    intro _ hh
    rw [← hI]
    by_cases hlt : i < p.L.length
    · exact gw_big _ _ (hh hlt)
    · rw [List.drop_eq_nil_of_le (by omega)]; rfl
  by_cases hlt : i < p.L.length
  · have hei : (p.L.map fun l => [V.isl 4 (l.map kC)])[Int.toNat (i : Int)]? = some (nC p.L[i]) := by rw [Int.toNat_natCast, List.getElem?_map, List.getElem?_eq_getElem hlt]; rfl
    have hd : p.L.drop i = p.L[i] :: p.L.drop (i + 1) := List.drop_eq_getElem_cons hlt
    by_cases hn2 : n < 1048576
    · have hgm := hl2 _ (List.getElem_mem hlt)
      have hw := hnw _ (List.getElem_mem hlt)
      have hc := packetsWeight (X := X) p.L[i] (by have := hgm.1; omega) hgm.2
      have e : gw pw p.L[i].length p.L[i] = nw p.L[i] := rfl
      rw [e] at hc
      repeat (first | refine ao_e rfl rfl rfl rfl rfl ?_ | refine ao_eff (v := V.val (Value.bool true)) (ups := []) rfl rfl rfl rfl ?_ | refine ao_eff (v := V.val (Value.bool false)) (ups := []) rfl rfl rfl rfl ?_ | refine aw_seq ?_ | refine aw_region ?_ | refine aw_block ?_ | refine ao_nil ⟨fun h => (Bool.false_ne_true h).elim, ?_⟩ | refine ao_nil ⟨fun _ => ⟨by kernel_rfl, by kernel_rfl⟩, ?_⟩ | refine ao_skip rfl rfl rfl ?_ | refine aw_true rfl ?_ | refine aw_false rfl ?_ | refine aw_skip ?_ | refine aw_exit ?_)
      refine ao_yes rfl rfl rfl rfl (by omega) ?_
      iterate 2 refine ao_e rfl rfl rfl rfl rfl ?_
      refine ao_yes rfl rfl rfl rfl (by omega) ?_
      repeat (first | refine ao_e rfl rfl rfl rfl rfl ?_ | refine ao_eff (v := V.val (Value.bool true)) (ups := []) rfl rfl rfl rfl ?_ | refine ao_eff (v := V.val (Value.bool false)) (ups := []) rfl rfl rfl rfl ?_ | refine aw_seq ?_ | refine aw_region ?_ | refine aw_block ?_ | refine ao_nil ⟨fun h => (Bool.false_ne_true h).elim, ?_⟩ | refine ao_nil ⟨fun _ => ⟨by kernel_rfl, by kernel_rfl⟩, ?_⟩ | refine ao_skip rfl rfl rfl ?_ | refine aw_true rfl ?_ | refine aw_false rfl ?_ | refine aw_skip ?_ | refine aw_exit ?_)
      refine ao_e rfl rfl rfl rfl (ef_ix rfl rfl (by omega) hei) ?_
      repeat (first | refine ao_e rfl rfl rfl rfl rfl ?_ | refine ao_eff (v := V.val (Value.bool true)) (ups := []) rfl rfl rfl rfl ?_ | refine ao_eff (v := V.val (Value.bool false)) (ups := []) rfl rfl rfl rfl ?_ | refine aw_seq ?_ | refine aw_region ?_ | refine aw_block ?_ | refine ao_nil ⟨fun h => (Bool.false_ne_true h).elim, ?_⟩ | refine ao_nil ⟨fun _ => ⟨by kernel_rfl, by kernel_rfl⟩, ?_⟩ | refine ao_skip rfl rfl rfl ?_ | refine aw_true rfl ?_ | refine aw_false rfl ?_ | refine aw_skip ?_ | refine aw_exit ?_)
      refine ao_fun rfl rfl rfl rfl rfl rfl hc ?_
      refine ao_is ((n + nw p.L[i] : Nat) : Int) rfl rfl rfl rfl (by rw [wr64, w64 (by omega) (by omega)]; omega) ?_
      repeat (first | refine ao_e rfl rfl rfl rfl rfl ?_ | refine ao_eff (v := V.val (Value.bool true)) (ups := []) rfl rfl rfl rfl ?_ | refine ao_eff (v := V.val (Value.bool false)) (ups := []) rfl rfl rfl rfl ?_ | refine aw_seq ?_ | refine aw_region ?_ | refine aw_block ?_ | refine ao_nil ⟨fun h => (Bool.false_ne_true h).elim, ?_⟩ | refine ao_nil ⟨fun _ => ⟨by kernel_rfl, by kernel_rfl⟩, ?_⟩ | refine ao_skip rfl rfl rfl ?_ | refine aw_true rfl ?_ | refine aw_false rfl ?_ | refine aw_skip ?_ | refine aw_exit ?_)
      refine ⟨(i + 1, n + nw p.L[i]), ⟨hlt, by dsimp only; omega, ?_⟩, by dsimp only; omega, ⟨.any _, .ptr _ _ _ _ _ _ _ rfl rfl rfl rfl, .any _, .same _ rfl, rsucc i (by omega), trivial⟩, ⟨renB_cl rfl rfl rfl rfl rfl rfl, trivial⟩⟩
      rw [← hI, hd]
      simp only [gw]
      rw [if_pos hn2]
    · have hf := fin true (fun _ => hn2)
      repeat (first | refine ao_e rfl rfl rfl rfl rfl ?_ | refine ao_eff (v := V.val (Value.bool true)) (ups := []) rfl rfl rfl rfl ?_ | refine ao_eff (v := V.val (Value.bool false)) (ups := []) rfl rfl rfl rfl ?_ | refine aw_seq ?_ | refine aw_region ?_ | refine aw_block ?_ | refine ao_nil ⟨fun h => (Bool.false_ne_true h).elim, ?_⟩ | refine ao_nil ⟨fun _ => ⟨by kernel_rfl, by kernel_rfl⟩, ?_⟩ | refine ao_skip rfl rfl rfl ?_ | refine aw_true rfl ?_ | refine aw_false rfl ?_ | refine aw_skip ?_ | refine aw_exit ?_)
      refine ao_yes rfl rfl rfl rfl (by omega) ?_
      iterate 2 refine ao_e rfl rfl rfl rfl rfl ?_
      refine ao_no rfl rfl rfl rfl (by omega) ?_
      repeat (first | refine ao_e rfl rfl rfl rfl rfl ?_ | refine ao_eff (v := V.val (Value.bool true)) (ups := []) rfl rfl rfl rfl ?_ | refine ao_eff (v := V.val (Value.bool false)) (ups := []) rfl rfl rfl rfl ?_ | refine aw_seq ?_ | refine aw_region ?_ | refine aw_block ?_ | refine ao_nil ⟨fun h => (Bool.false_ne_true h).elim, ?_⟩ | refine ao_nil ⟨fun _ => ⟨by kernel_rfl, by kernel_rfl⟩, ?_⟩ | refine ao_skip rfl rfl rfl ?_ | refine aw_true rfl ?_ | refine aw_false rfl ?_ | refine aw_skip ?_ | refine aw_exit ?_)
      refine ao_yes rfl rfl rfl rfl (by omega) ?_
      repeat (first | refine ao_e rfl rfl rfl rfl rfl ?_ | refine ao_eff (v := V.val (Value.bool true)) (ups := []) rfl rfl rfl rfl ?_ | refine ao_eff (v := V.val (Value.bool false)) (ups := []) rfl rfl rfl rfl ?_ | refine aw_seq ?_ | refine aw_region ?_ | refine aw_block ?_ | refine ao_nil ⟨fun h => (Bool.false_ne_true h).elim, ?_⟩ | refine ao_nil ⟨fun _ => ⟨by kernel_rfl, by kernel_rfl⟩, ?_⟩ | refine ao_skip rfl rfl rfl ?_ | refine aw_true rfl ?_ | refine aw_false rfl ?_ | refine aw_skip ?_ | refine aw_exit ?_)
      refine aw_ret ⟨.inr rfl, _, _, _, _, _, rfl, rfl, rfl, rfl, ?_, rfl⟩
      rw [hf, decide_eq_true (by omega)]; rfl
  · have hf := fin true (fun h => absurd h hlt)
    repeat (first | refine ao_e rfl rfl rfl rfl rfl ?_ | refine ao_eff (v := V.val (Value.bool true)) (ups := []) rfl rfl rfl rfl ?_ | refine ao_eff (v := V.val (Value.bool false)) (ups := []) rfl rfl rfl rfl ?_ | refine aw_seq ?_ | refine aw_region ?_ | refine aw_block ?_ | refine ao_nil ⟨fun h => (Bool.false_ne_true h).elim, ?_⟩ | refine ao_nil ⟨fun _ => ⟨by kernel_rfl, by kernel_rfl⟩, ?_⟩ | refine ao_skip rfl rfl rfl ?_ | refine aw_true rfl ?_ | refine aw_false rfl ?_ | refine aw_skip ?_ | refine aw_exit ?_)
    refine ao_no rfl rfl rfl rfl (by omega) ?_
    repeat (first | refine ao_e rfl rfl rfl rfl rfl ?_ | refine ao_eff (v := V.val (Value.bool true)) (ups := []) rfl rfl rfl rfl ?_ | refine ao_eff (v := V.val (Value.bool false)) (ups := []) rfl rfl rfl rfl ?_ | refine aw_seq ?_ | refine aw_region ?_ | refine aw_block ?_ | refine ao_nil ⟨fun h => (Bool.false_ne_true h).elim, ?_⟩ | refine ao_nil ⟨fun _ => ⟨by kernel_rfl, by kernel_rfl⟩, ?_⟩ | refine ao_skip rfl rfl rfl ?_ | refine aw_true rfl ?_ | refine aw_false rfl ?_ | refine aw_skip ?_ | refine aw_exit ?_)
    refine ao_dec rfl rfl rfl rfl (fun hb => ?_) (fun hb => ?_)
    · repeat (first | refine ao_e rfl rfl rfl rfl rfl ?_ | refine ao_eff (v := V.val (Value.bool true)) (ups := []) rfl rfl rfl rfl ?_ | refine ao_eff (v := V.val (Value.bool false)) (ups := []) rfl rfl rfl rfl ?_ | refine aw_seq ?_ | refine aw_region ?_ | refine aw_block ?_ | refine ao_nil ⟨fun h => (Bool.false_ne_true h).elim, ?_⟩ | refine ao_nil ⟨fun _ => ⟨by kernel_rfl, by kernel_rfl⟩, ?_⟩ | refine ao_skip rfl rfl rfl ?_ | refine aw_true rfl ?_ | refine aw_false rfl ?_ | refine aw_skip ?_ | refine aw_exit ?_)
      refine aw_ret ⟨.inr rfl, _, _, _, _, _, rfl, rfl, rfl, rfl, ?_, rfl⟩
      rw [hf, decide_eq_true (by omega)]; rfl
    · repeat (first | refine ao_e rfl rfl rfl rfl rfl ?_ | refine ao_eff (v := V.val (Value.bool true)) (ups := []) rfl rfl rfl rfl ?_ | refine ao_eff (v := V.val (Value.bool false)) (ups := []) rfl rfl rfl rfl ?_ | refine aw_seq ?_ | refine aw_region ?_ | refine aw_block ?_ | refine ao_nil ⟨fun h => (Bool.false_ne_true h).elim, ?_⟩ | refine ao_nil ⟨fun _ => ⟨by kernel_rfl, by kernel_rfl⟩, ?_⟩ | refine ao_skip rfl rfl rfl ?_ | refine aw_true rfl ?_ | refine aw_false rfl ?_ | refine aw_skip ?_ | refine aw_exit ?_)
      refine ao_funs rfl rfl rfl rfl rfl rfl h12 rfl ?_
      repeat (first | refine ao_e rfl rfl rfl rfl rfl ?_ | refine ao_eff (v := V.val (Value.bool true)) (ups := []) rfl rfl rfl rfl ?_ | refine ao_eff (v := V.val (Value.bool false)) (ups := []) rfl rfl rfl rfl ?_ | refine aw_seq ?_ | refine aw_region ?_ | refine aw_block ?_ | refine ao_nil ⟨fun h => (Bool.false_ne_true h).elim, ?_⟩ | refine ao_nil ⟨fun _ => ⟨by kernel_rfl, by kernel_rfl⟩, ?_⟩ | refine ao_skip rfl rfl rfl ?_ | refine aw_true rfl ?_ | refine aw_false rfl ?_ | refine aw_skip ?_ | refine aw_exit ?_)
      refine aw_ret ⟨.inr rfl, _, _, _, _, _, rfl, rfl, rfl, rfl, ?_, rfl⟩
      rw [hf, decide_eq_false (by omega)]; rfl
/-- What is known where it is not more than is played. -/
structure Light13 (p : A13) : Prop where
  m : Light p.M
  l : p.L.length ≤ 900 ∧ ∀ l ∈ p.L, l.length ≤ 900 ∧ ∀ k ∈ l, k.f2.size ≤ 16000
  n : p.N.length ≤ 900
theorem light13 {p : A13} (h : heavy13 p = false) : Light13 p := by
  unfold heavy13 at h
  simp only [Bool.or_eq_false_iff, decide_eq_false_iff_not] at h
  obtain ⟨h1, h2⟩ := h
  unfold heavyM at h1
  obtain ⟨b1, b2⟩ := gw_le nw p.L (p.L.length + p.N.length) (by omega)
  refine ⟨light h2, ⟨by omega, fun l hl => ?_⟩, by omega⟩
  have h3 := b2 l hl
  have h3' : gw pw l.length l ≤ 900 := by
    have : nw l ≤ 900 := by omega
    exact this
  obtain ⟨d1, d2⟩ := gw_le pw l l.length (by omega)
  exact ⟨by omega, fun o ho => by have := d2 o ho; have e : pw o = o.f2.size / 16 := rfl; omega⟩
end Go.Ai
