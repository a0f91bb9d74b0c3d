/- A part of the proof: what the program does, step by step, over values without addresses. No conditions of mine. -/
import Derived.Test.YtadfohbogoocgaaGreatDoorAsk
import Derived.Test.YtadfohbogoocgaaGreatDoorN25
set_option linter.unusedVariables false
set_option linter.unusedSimpArgs false
namespace Go.Ai
open Go Go.RowKit Go.Proofs Go.Sp
variable {X : FuncId → List V → List (Nat × List V) → V → List (Nat × List V) → List Blk → Prop}
set_option maxRecDepth 10000
set_option maxHeartbeats 4000000
set_option linter.unusedVariables false
set_option linter.unusedSimpArgs false
/-- A sum that stops at a million. -/
def gw {α : Type} (f : α → Nat) : Nat → List α → Nat
  | n, [] => n
  | n, a :: l => if n < 1048576 then gw f (n + f a) l else n
theorem gw_le {α : Type} (f : α → Nat) : ∀ (l : List α) (n : Nat), gw f n l < 1048576 → n ≤ gw f n l ∧ ∀ a ∈ l, f a ≤ gw f n l
  | [], n, _ => ⟨Nat.le_refl _, nofun⟩
  | b :: l, n, h => by
    have h' := h
    simp only [gw] at h' ⊢
    by_cases hn : n < 1048576
    · rw [if_pos hn] at h' ⊢
      obtain ⟨h1, h2⟩ := gw_le f l _ h'
      refine ⟨by omega, fun a ha => ?_⟩
      rcases List.mem_cons.1 ha with rfl | ha
      · omega
      · exact h2 a ha
    · rw [if_neg hn] at h'
      omega
theorem gw_big {α : Type} (f : α → Nat) {n : Nat} (l : List α) (h : ¬ n < 1048576) : gw f n l = n := by
  cases l with
  | nil => rfl
  | cons a l => simp only [gw]; rw [if_neg h]
def wt (o : O) : Nat := 2 + o.f4.size / 4 + o.f5.length
theorem opWeight (o : O) (h : GO o) : AF Tryz.prog X 68 [.agg (oC o)] (vi (wt o : Nat)) := by
  have h1 := h.1
  have h2 := h.2
  have hlm : (o.f5.map eC).length = o.f5.length := List.length_map ..
  refine ac_mk (by kernel_rfl) Tryz.func68 rfl (lb rfl) rfl rfl ?_
  repeat (first | refine ao_e rfl rfl rfl rfl rfl ?_ | refine ao_eff (v := V.val (Value.bool true)) (ups := []) rfl rfl rfl rfl ?_ | refine ao_eff (v := V.val (Value.bool false)) (ups := []) rfl rfl rfl rfl ?_ | refine aw_seq ?_ | refine aw_region ?_ | refine aw_block ?_ | refine ao_nil ⟨fun h => (Bool.false_ne_true h).elim, ?_⟩ | refine ao_nil ⟨fun _ => ⟨by kernel_rfl, by kernel_rfl⟩, ?_⟩ | refine ao_skip rfl rfl rfl ?_ | refine aw_true rfl ?_ | refine aw_false rfl ?_ | refine aw_skip ?_ | refine aw_exit ?_)
  refine aw_ret ⟨.inr rfl, _, _, _, _, _, rfl, rfl, rfl, rfl, ?_, rfl⟩
  refine congrArg vi ?_
  rw [wr64, wr64, wr64, hlm, Int.tdiv_eq_ediv_of_nonneg (by omega), w64 (x := (o.f4.size : Int) / 4) (by omega) (by omega), w64 (x := 2 + (o.f4.size : Int) / 4) (by omega) (by omega), w64 (by omega) (by omega)]
  unfold wt
  omega
theorem opsWeight (l : List O) (hl : l.length ≤ 2000000000000) (ho : ∀ o ∈ l, GO o) : AF Tryz.prog X 37 [.isl 11 (l.map oC)] (vi (gw wt l.length l : Nat)) := by
  have hlm : (l.map oC).length = l.length := List.length_map ..
  refine ac_mk (by kernel_rfl) Tryz.func37 rfl (lb rfl) rfl rfl ?_
  repeat (first | refine ao_e rfl rfl rfl rfl rfl ?_ | refine ao_eff (v := V.val (Value.bool true)) (ups := []) rfl rfl rfl rfl ?_ | refine ao_eff (v := V.val (Value.bool false)) (ups := []) rfl rfl rfl rfl ?_ | refine aw_seq ?_ | refine aw_region ?_ | refine aw_block ?_ | refine ao_nil ⟨fun h => (Bool.false_ne_true h).elim, ?_⟩ | refine ao_nil ⟨fun _ => ⟨by kernel_rfl, by kernel_rfl⟩, ?_⟩ | refine ao_skip rfl rfl rfl ?_ | refine aw_true rfl ?_ | refine aw_false rfl ?_ | refine aw_skip ?_ | refine aw_exit ?_)
  refine aw_rounds (T := Nat × Nat) (fun t => t.1 ≤ l.length ∧ t.2 ≤ 600000000000000 ∧ gw wt t.2 (l.drop t.1) = gw wt l.length l) (fun t => [.isl 11 (l.map oC), .any, .any, vi (t.2 : Nat), vi (t.1 : Nat)]) (fun _ => []) (fun t => l.length - t.1) (0, l.length) ⟨Nat.zero_le _, by dsimp only; omega, rfl⟩ ?_ trivial ?_
  · exact ⟨.same _ rfl, .any _, .any _, ren_eq (congrArg (fun n : Nat => vi n) hlm) rfl, .same _ rfl, trivial⟩
  rintro ⟨i, n⟩ h0 ⟨hi, hn, hI⟩
  dsimp only at hi hn hI ⊢
  by_cases hlt : i < l.length
  · have hei : (l.map oC)[Int.toNat (i : Int)]? = some (oC l[i]) := by rw [Int.toNat_natCast, List.getElem?_map, List.getElem?_eq_getElem hlt]; rfl
    have hd : l.drop i = l[i] :: l.drop (i + 1) := List.drop_eq_getElem_cons hlt
    by_cases hn2 : n < 1048576
    · have hgo := ho _ (List.getElem_mem hlt)
      have hw : wt l[i] ≤ 300000000000000 := by
        have h1 := hgo.1
        have h2 := hgo.2
        unfold wt
        omega
      repeat (first | refine ao_e rfl rfl rfl rfl rfl ?_ | refine ao_eff (v := V.val (Value.bool true)) (ups := []) rfl rfl rfl rfl ?_ | refine ao_eff (v := V.val (Value.bool false)) (ups := []) rfl rfl rfl rfl ?_ | refine aw_seq ?_ | refine aw_region ?_ | refine aw_block ?_ | refine ao_nil ⟨fun h => (Bool.false_ne_true h).elim, ?_⟩ | refine ao_nil ⟨fun _ => ⟨by kernel_rfl, by kernel_rfl⟩, ?_⟩ | refine ao_skip rfl rfl rfl ?_ | refine aw_true rfl ?_ | refine aw_false rfl ?_ | refine aw_skip ?_ | refine aw_exit ?_)
      refine ao_yes rfl rfl rfl rfl (by omega) ?_
      iterate 2 refine ao_e rfl rfl rfl rfl rfl ?_
      refine ao_yes rfl rfl rfl rfl (by omega) ?_
      repeat (first | refine ao_e rfl rfl rfl rfl rfl ?_ | refine ao_eff (v := V.val (Value.bool true)) (ups := []) rfl rfl rfl rfl ?_ | refine ao_eff (v := V.val (Value.bool false)) (ups := []) rfl rfl rfl rfl ?_ | refine aw_seq ?_ | refine aw_region ?_ | refine aw_block ?_ | refine ao_nil ⟨fun h => (Bool.false_ne_true h).elim, ?_⟩ | refine ao_nil ⟨fun _ => ⟨by kernel_rfl, by kernel_rfl⟩, ?_⟩ | refine ao_skip rfl rfl rfl ?_ | refine aw_true rfl ?_ | refine aw_false rfl ?_ | refine aw_skip ?_ | refine aw_exit ?_)
      refine ao_e rfl rfl rfl rfl (ef_ix rfl rfl (by omega) hei) ?_
      repeat (first | refine ao_e rfl rfl rfl rfl rfl ?_ | refine ao_eff (v := V.val (Value.bool true)) (ups := []) rfl rfl rfl rfl ?_ | refine ao_eff (v := V.val (Value.bool false)) (ups := []) rfl rfl rfl rfl ?_ | refine aw_seq ?_ | refine aw_region ?_ | refine aw_block ?_ | refine ao_nil ⟨fun h => (Bool.false_ne_true h).elim, ?_⟩ | refine ao_nil ⟨fun _ => ⟨by kernel_rfl, by kernel_rfl⟩, ?_⟩ | refine ao_skip rfl rfl rfl ?_ | refine aw_true rfl ?_ | refine aw_false rfl ?_ | refine aw_skip ?_ | refine aw_exit ?_)
      refine ao_fun rfl rfl rfl rfl rfl rfl (opWeight _ hgo) ?_
      refine ao_is ((n + wt l[i] : Nat) : Int) rfl rfl rfl rfl (by rw [wr64, w64 (by omega) (by omega)]; omega) ?_
      repeat (first | refine ao_e rfl rfl rfl rfl rfl ?_ | refine ao_eff (v := V.val (Value.bool true)) (ups := []) rfl rfl rfl rfl ?_ | refine ao_eff (v := V.val (Value.bool false)) (ups := []) rfl rfl rfl rfl ?_ | refine aw_seq ?_ | refine aw_region ?_ | refine aw_block ?_ | refine ao_nil ⟨fun h => (Bool.false_ne_true h).elim, ?_⟩ | refine ao_nil ⟨fun _ => ⟨by kernel_rfl, by kernel_rfl⟩, ?_⟩ | refine ao_skip rfl rfl rfl ?_ | refine aw_true rfl ?_ | refine aw_false rfl ?_ | refine aw_skip ?_ | refine aw_exit ?_)
      refine ⟨(i + 1, n + wt l[i]), ⟨hlt, by dsimp only; omega, ?_⟩, by dsimp only; omega, ⟨.same _ rfl, .any _, .any _, .same _ rfl, rsucc i (by omega), trivial⟩, trivial⟩
      rw [← hI, hd]
      simp only [gw]
      rw [if_pos hn2]
    · repeat (first | refine ao_e rfl rfl rfl rfl rfl ?_ | refine ao_eff (v := V.val (Value.bool true)) (ups := []) rfl rfl rfl rfl ?_ | refine ao_eff (v := V.val (Value.bool false)) (ups := []) rfl rfl rfl rfl ?_ | refine aw_seq ?_ | refine aw_region ?_ | refine aw_block ?_ | refine ao_nil ⟨fun h => (Bool.false_ne_true h).elim, ?_⟩ | refine ao_nil ⟨fun _ => ⟨by kernel_rfl, by kernel_rfl⟩, ?_⟩ | refine ao_skip rfl rfl rfl ?_ | refine aw_true rfl ?_ | refine aw_false rfl ?_ | refine aw_skip ?_ | refine aw_exit ?_)
      refine ao_yes rfl rfl rfl rfl (by omega) ?_
      iterate 2 refine ao_e rfl rfl rfl rfl rfl ?_
      refine ao_no rfl rfl rfl rfl (by omega) ?_
      repeat (first | refine ao_e rfl rfl rfl rfl rfl ?_ | refine ao_eff (v := V.val (Value.bool true)) (ups := []) rfl rfl rfl rfl ?_ | refine ao_eff (v := V.val (Value.bool false)) (ups := []) rfl rfl rfl rfl ?_ | refine aw_seq ?_ | refine aw_region ?_ | refine aw_block ?_ | refine ao_nil ⟨fun h => (Bool.false_ne_true h).elim, ?_⟩ | refine ao_nil ⟨fun _ => ⟨by kernel_rfl, by kernel_rfl⟩, ?_⟩ | refine ao_skip rfl rfl rfl ?_ | refine aw_true rfl ?_ | refine aw_false rfl ?_ | refine aw_skip ?_ | refine aw_exit ?_)
      refine aw_ret ⟨.inr rfl, _, _, _, _, _, rfl, rfl, rfl, rfl, ?_, rfl⟩
      rw [← hI, gw_big _ _ hn2]; rfl
  · have hd : l.drop i = [] := List.drop_eq_nil_of_le (by omega)
    repeat (first | refine ao_e rfl rfl rfl rfl rfl ?_ | refine ao_eff (v := V.val (Value.bool true)) (ups := []) rfl rfl rfl rfl ?_ | refine ao_eff (v := V.val (Value.bool false)) (ups := []) rfl rfl rfl rfl ?_ | refine aw_seq ?_ | refine aw_region ?_ | refine aw_block ?_ | refine ao_nil ⟨fun h => (Bool.false_ne_true h).elim, ?_⟩ | refine ao_nil ⟨fun _ => ⟨by kernel_rfl, by kernel_rfl⟩, ?_⟩ | refine ao_skip rfl rfl rfl ?_ | refine aw_true rfl ?_ | refine aw_false rfl ?_ | refine aw_skip ?_ | refine aw_exit ?_)
    refine ao_no rfl rfl rfl rfl (by omega) ?_
    refine ao_e rfl rfl rfl rfl rfl ?_
    iterate 2 refine ao_skip rfl rfl rfl ?_
    repeat (first | refine ao_e rfl rfl rfl rfl rfl ?_ | refine ao_eff (v := V.val (Value.bool true)) (ups := []) rfl rfl rfl rfl ?_ | refine ao_eff (v := V.val (Value.bool false)) (ups := []) rfl rfl rfl rfl ?_ | refine aw_seq ?_ | refine aw_region ?_ | refine aw_block ?_ | refine ao_nil ⟨fun h => (Bool.false_ne_true h).elim, ?_⟩ | refine ao_nil ⟨fun _ => ⟨by kernel_rfl, by kernel_rfl⟩, ?_⟩ | refine ao_skip rfl rfl rfl ?_ | refine aw_true rfl ?_ | refine aw_false rfl ?_ | refine aw_skip ?_ | refine aw_exit ?_)
    refine aw_ret ⟨.inr rfl, _, _, _, _, _, rfl, rfl, rfl, rfl, ?_, rfl⟩
    rw [← hI, hd]; rfl
theorem texts (l : List ByteArray) (hl : l.length ≤ 20000000000000) (ho : ∀ o ∈ l, o.size ≤ 140737488351232) : AF Tryz.prog X 36 [.isl 1 (l.map fun s => [vs s])] (vi (gw ByteArray.size l.length l : Nat)) := by
  have hlm : (l.map fun s => [vs s]).length = l.length := List.length_map ..
  refine ac_mk (by kernel_rfl) Tryz.func36 rfl (lb rfl) rfl rfl ?_
  repeat (first | refine ao_e rfl rfl rfl rfl rfl ?_ | refine ao_eff (v := V.val (Value.bool true)) (ups := []) rfl rfl rfl rfl ?_ | refine ao_eff (v := V.val (Value.bool false)) (ups := []) rfl rfl rfl rfl ?_ | refine aw_seq ?_ | refine aw_region ?_ | refine aw_block ?_ | refine ao_nil ⟨fun h => (Bool.false_ne_true h).elim, ?_⟩ | refine ao_nil ⟨fun _ => ⟨by kernel_rfl, by kernel_rfl⟩, ?_⟩ | refine ao_skip rfl rfl rfl ?_ | refine aw_true rfl ?_ | refine aw_false rfl ?_ | refine aw_skip ?_ | refine aw_exit ?_)
  refine aw_rounds (T := Nat × Nat) (fun t => t.1 ≤ l.length ∧ t.2 ≤ 600000000000000 ∧ gw ByteArray.size t.2 (l.drop t.1) = gw ByteArray.size l.length l) (fun t => [.isl 1 (l.map fun s => [vs s]), .any, .any, vi (t.2 : Nat), vi (t.1 : Nat)]) (fun _ => []) (fun t => l.length - t.1) (0, l.length) ⟨Nat.zero_le _, by dsimp only; omega, rfl⟩ ?_ trivial ?_
  · exact ⟨.same _ rfl, .any _, .any _, ren_eq (congrArg (fun n : Nat => vi n) hlm) rfl, .same _ rfl, trivial⟩
  rintro ⟨i, n⟩ h0 ⟨hi, hn, hI⟩
  dsimp only at hi hn hI ⊢
  by_cases hlt : i < l.length
  · have hei : (l.map fun s => [vs s])[Int.toNat (i : Int)]? = some [vs l[i]] := by rw [Int.toNat_natCast, List.getElem?_map, List.getElem?_eq_getElem hlt]; rfl
    have hd : l.drop i = l[i] :: l.drop (i + 1) := List.drop_eq_getElem_cons hlt
    by_cases hn2 : n < 1048576
    · have hw := ho _ (List.getElem_mem hlt)
      repeat (first | refine ao_e rfl rfl rfl rfl rfl ?_ | refine ao_eff (v := V.val (Value.bool true)) (ups := []) rfl rfl rfl rfl ?_ | refine ao_eff (v := V.val (Value.bool false)) (ups := []) rfl rfl rfl rfl ?_ | refine aw_seq ?_ | refine aw_region ?_ | refine aw_block ?_ | refine ao_nil ⟨fun h => (Bool.false_ne_true h).elim, ?_⟩ | refine ao_nil ⟨fun _ => ⟨by kernel_rfl, by kernel_rfl⟩, ?_⟩ | refine ao_skip rfl rfl rfl ?_ | refine aw_true rfl ?_ | refine aw_false rfl ?_ | refine aw_skip ?_ | refine aw_exit ?_)
      refine ao_yes rfl rfl rfl rfl (by omega) ?_
      iterate 2 refine ao_e rfl rfl rfl rfl rfl ?_
      refine ao_yes rfl rfl rfl rfl (by omega) ?_
      repeat (first | refine ao_e rfl rfl rfl rfl rfl ?_ | refine ao_eff (v := V.val (Value.bool true)) (ups := []) rfl rfl rfl rfl ?_ | refine ao_eff (v := V.val (Value.bool false)) (ups := []) rfl rfl rfl rfl ?_ | refine aw_seq ?_ | refine aw_region ?_ | refine aw_block ?_ | refine ao_nil ⟨fun h => (Bool.false_ne_true h).elim, ?_⟩ | refine ao_nil ⟨fun _ => ⟨by kernel_rfl, by kernel_rfl⟩, ?_⟩ | refine ao_skip rfl rfl rfl ?_ | refine aw_true rfl ?_ | refine aw_false rfl ?_ | refine aw_skip ?_ | refine aw_exit ?_)
      refine ao_e rfl rfl rfl rfl (ef_ix rfl rfl (by omega) hei) ?_
      iterate 2 refine ao_e rfl rfl rfl rfl rfl ?_
      refine ao_is ((n + l[i].size : Nat) : Int) rfl rfl rfl rfl (by rw [wr64, w64 (by omega) (by omega)]; omega) ?_
      repeat (first | refine ao_e rfl rfl rfl rfl rfl ?_ | refine ao_eff (v := V.val (Value.bool true)) (ups := []) rfl rfl rfl rfl ?_ | refine ao_eff (v := V.val (Value.bool false)) (ups := []) rfl rfl rfl rfl ?_ | refine aw_seq ?_ | refine aw_region ?_ | refine aw_block ?_ | refine ao_nil ⟨fun h => (Bool.false_ne_true h).elim, ?_⟩ | refine ao_nil ⟨fun _ => ⟨by kernel_rfl, by kernel_rfl⟩, ?_⟩ | refine ao_skip rfl rfl rfl ?_ | refine aw_true rfl ?_ | refine aw_false rfl ?_ | refine aw_skip ?_ | refine aw_exit ?_)
      refine ⟨(i + 1, n + l[i].size), ⟨hlt, by dsimp only; omega, ?_⟩, by dsimp only; omega, ⟨.same _ rfl, .any _, .any _, .same _ rfl, rsucc i (by omega), trivial⟩, trivial⟩
      rw [← hI, hd]
      simp only [gw]
      rw [if_pos hn2]
    · repeat (first | refine ao_e rfl rfl rfl rfl rfl ?_ | refine ao_eff (v := V.val (Value.bool true)) (ups := []) rfl rfl rfl rfl ?_ | refine ao_eff (v := V.val (Value.bool false)) (ups := []) rfl rfl rfl rfl ?_ | refine aw_seq ?_ | refine aw_region ?_ | refine aw_block ?_ | refine ao_nil ⟨fun h => (Bool.false_ne_true h).elim, ?_⟩ | refine ao_nil ⟨fun _ => ⟨by kernel_rfl, by kernel_rfl⟩, ?_⟩ | refine ao_skip rfl rfl rfl ?_ | refine aw_true rfl ?_ | refine aw_false rfl ?_ | refine aw_skip ?_ | refine aw_exit ?_)
      refine ao_yes rfl rfl rfl rfl (by omega) ?_
      iterate 2 refine ao_e rfl rfl rfl rfl rfl ?_
      refine ao_no rfl rfl rfl rfl (by omega) ?_
      repeat (first | refine ao_e rfl rfl rfl rfl rfl ?_ | refine ao_eff (v := V.val (Value.bool true)) (ups := []) rfl rfl rfl rfl ?_ | refine ao_eff (v := V.val (Value.bool false)) (ups := []) rfl rfl rfl rfl ?_ | refine aw_seq ?_ | refine aw_region ?_ | refine aw_block ?_ | refine ao_nil ⟨fun h => (Bool.false_ne_true h).elim, ?_⟩ | refine ao_nil ⟨fun _ => ⟨by kernel_rfl, by kernel_rfl⟩, ?_⟩ | refine ao_skip rfl rfl rfl ?_ | refine aw_true rfl ?_ | refine aw_false rfl ?_ | refine aw_skip ?_ | refine aw_exit ?_)
      refine aw_ret ⟨.inr rfl, _, _, _, _, _, rfl, rfl, rfl, rfl, ?_, rfl⟩
      rw [← hI, gw_big _ _ hn2]; rfl
  · have hd : l.drop i = [] := List.drop_eq_nil_of_le (by omega)
    repeat (first | refine ao_e rfl rfl rfl rfl rfl ?_ | refine ao_eff (v := V.val (Value.bool true)) (ups := []) rfl rfl rfl rfl ?_ | refine ao_eff (v := V.val (Value.bool false)) (ups := []) rfl rfl rfl rfl ?_ | refine aw_seq ?_ | refine aw_region ?_ | refine aw_block ?_ | refine ao_nil ⟨fun h => (Bool.false_ne_true h).elim, ?_⟩ | refine ao_nil ⟨fun _ => ⟨by kernel_rfl, by kernel_rfl⟩, ?_⟩ | refine ao_skip rfl rfl rfl ?_ | refine aw_true rfl ?_ | refine aw_false rfl ?_ | refine aw_skip ?_ | refine aw_exit ?_)
    refine ao_no rfl rfl rfl rfl (by omega) ?_
    refine ao_e rfl rfl rfl rfl rfl ?_
    iterate 2 refine ao_skip rfl rfl rfl ?_
    repeat (first | refine ao_e rfl rfl rfl rfl rfl ?_ | refine ao_eff (v := V.val (Value.bool true)) (ups := []) rfl rfl rfl rfl ?_ | refine ao_eff (v := V.val (Value.bool false)) (ups := []) rfl rfl rfl rfl ?_ | refine aw_seq ?_ | refine aw_region ?_ | refine aw_block ?_ | refine ao_nil ⟨fun h => (Bool.false_ne_true h).elim, ?_⟩ | refine ao_nil ⟨fun _ => ⟨by kernel_rfl, by kernel_rfl⟩, ?_⟩ | refine ao_skip rfl rfl rfl ?_ | refine aw_true rfl ?_ | refine aw_false rfl ?_ | refine aw_skip ?_ | refine aw_exit ?_)
    refine aw_ret ⟨.inr rfl, _, _, _, _, _, rfl, rfl, rfl, rfl, ?_, rfl⟩
    rw [← hI, hd]; rfl
theorem gw_bnd {α : Type} (f : α → Nat) (B : Nat) : ∀ (l : List α) (n : Nat), (∀ a ∈ l, f a ≤ B) → gw f n l ≤ max n (1048576 + B)
  | [], n, _ => Nat.le_max_left _ _
  | a :: l, n, h => by
    simp only [gw]
    by_cases hn : n < 1048576
    · rw [if_pos hn]
      have := gw_bnd f B l (n + f a) (fun b hb => h b (List.mem_cons_of_mem _ hb))
      have := h a (List.mem_cons_self ..)
      omega
    · rw [if_neg hn]; omega
theorem wt_bnd {o : O} (h : GO o) : wt o ≤ 300000000000000 := by
  have h1 := h.1
  have h2 := h.2
  unfold wt
  omega
def heavy4 (p : A4) : Bool := decide (gw wt p.O.length p.O + p.E.length + p.N.length > 900)
theorem lawHeavy4 (p : A4) (h : G4 p) : AF Tryz.prog X 38 [.agg (a4C p)] (vo (heavy4 p)) := by
  obtain ⟨⟨h1, h2⟩, ⟨h3, _⟩, h4, _⟩ := h
  have hE : (p.E.map eC).length = p.E.length := List.length_map ..
  have hN : (p.N.map fun n => [vi n]).length = p.N.length := List.length_map ..
  have hO := opsWeight (X := X) p.O (by omega) h2
  have hb := gw_bnd wt 300000000000000 p.O p.O.length (fun a ha => wt_bnd (h2 a ha))
  refine ac_mk (by kernel_rfl) Tryz.func38 rfl (lb rfl) rfl rfl ?_
  unfold heavy4
  generalize gw wt p.O.length p.O = g at *
  repeat (first | refine ao_e rfl rfl rfl rfl rfl ?_ | refine ao_eff (v := V.val (Value.bool true)) (ups := []) rfl rfl rfl rfl ?_ | refine ao_eff (v := V.val (Value.bool false)) (ups := []) rfl rfl rfl rfl ?_ | refine aw_seq ?_ | refine aw_region ?_ | refine aw_block ?_ | refine ao_nil ⟨fun h => (Bool.false_ne_true h).elim, ?_⟩ | refine ao_nil ⟨fun _ => ⟨by kernel_rfl, by kernel_rfl⟩, ?_⟩ | refine ao_skip rfl rfl rfl ?_ | refine aw_true rfl ?_ | refine aw_false rfl ?_ | refine aw_skip ?_ | refine aw_exit ?_)
  refine ao_fun rfl rfl rfl rfl rfl rfl hO ?_
  iterate 2 refine ao_e rfl rfl rfl rfl rfl ?_
  refine ao_e rfl rfl rfl rfl rfl ?_
  refine ao_is ((g + p.E.length : Nat) : Int) rfl rfl rfl rfl (by rw [hE, wr64, w64 (by omega) (by omega)]; omega) ?_
  iterate 3 refine ao_e rfl rfl rfl rfl rfl ?_
  refine ao_is ((g + p.E.length + p.N.length : Nat) : Int) rfl rfl rfl rfl (by rw [hN, wr64, w64 (by omega) (by omega)]; omega) ?_
  refine ao_dec rfl rfl rfl rfl (fun hb => ?_) (fun hb => ?_)
  · repeat (first | refine ao_e rfl rfl rfl rfl rfl ?_ | refine ao_eff (v := V.val (Value.bool true)) (ups := []) rfl rfl rfl rfl ?_ | refine ao_eff (v := V.val (Value.bool false)) (ups := []) rfl rfl rfl rfl ?_ | refine aw_seq ?_ | refine aw_region ?_ | refine aw_block ?_ | refine ao_nil ⟨fun h => (Bool.false_ne_true h).elim, ?_⟩ | refine ao_nil ⟨fun _ => ⟨by kernel_rfl, by kernel_rfl⟩, ?_⟩ | refine ao_skip rfl rfl rfl ?_ | refine aw_true rfl ?_ | refine aw_false rfl ?_ | refine aw_skip ?_ | refine aw_exit ?_)
    refine aw_ret ⟨.inr rfl, _, _, _, _, _, rfl, rfl, rfl, rfl, ?_, rfl⟩
    refine congrArg vo (decide_eq_true ?_)
    omega
  · repeat (first | refine ao_e rfl rfl rfl rfl rfl ?_ | refine ao_eff (v := V.val (Value.bool true)) (ups := []) rfl rfl rfl rfl ?_ | refine ao_eff (v := V.val (Value.bool false)) (ups := []) rfl rfl rfl rfl ?_ | refine aw_seq ?_ | refine aw_region ?_ | refine aw_block ?_ | refine ao_nil ⟨fun h => (Bool.false_ne_true h).elim, ?_⟩ | refine ao_nil ⟨fun _ => ⟨by kernel_rfl, by kernel_rfl⟩, ?_⟩ | refine ao_skip rfl rfl rfl ?_ | refine aw_true rfl ?_ | refine aw_false rfl ?_ | refine aw_skip ?_ | refine aw_exit ?_)
    refine aw_ret ⟨.inr rfl, _, _, _, _, _, rfl, rfl, rfl, rfl, ?_, rfl⟩
    refine congrArg vo (decide_eq_false ?_)
    omega
def mw (m : M) : Nat := gw wt m.f6.length m.f6
def heavyN (p : A12) : Nat := gw mw (p.M.length + gw ByteArray.size p.S.length p.S / 8) p.M
def heavy12 (p : A12) : Bool := decide (heavyN p > 900) || heavy4 p.O
theorem lawHeavy12 (p : A12) (h : G12 p) : AF Tryz.prog X 17 [.agg (a12C p)] (vo (heavy12 p)) := by
  have h4 := lawHeavy4 (X := X) p.O h.o
  obtain ⟨hm1, hm2⟩ := h.m
  obtain ⟨hs1, hs2⟩ := h.s
  have hM : (p.M.map mC).length = p.M.length := List.length_map ..
  have hT := texts (X := X) p.S (by omega) hs2
  have hTb := gw_bnd ByteArray.size 140737488351232 p.S p.S.length hs2
  have hmw : ∀ m ∈ p.M, mw m ≤ 302000000000000 := by
    intro m hm
    obtain ⟨k1, k2⟩ := hm2 m hm
    have := gw_bnd wt 300000000000000 m.f6 m.f6.length (fun a ha => wt_bnd (k2 a ha))
    unfold mw
    omega
  refine ac_mk (by kernel_rfl) Tryz.func17 rfl (lb rfl) rfl rfl ?_
  unfold heavy12 heavyN
  generalize gw ByteArray.size p.S.length p.S = g at *
  repeat (first | refine ao_e rfl rfl rfl rfl rfl ?_ | refine ao_eff (v := V.val (Value.bool true)) (ups := []) rfl rfl rfl rfl ?_ | refine ao_eff (v := V.val (Value.bool false)) (ups := []) rfl rfl rfl rfl ?_ | refine aw_seq ?_ | refine aw_region ?_ | refine aw_block ?_ | refine ao_nil ⟨fun h => (Bool.false_ne_true h).elim, ?_⟩ | refine ao_nil ⟨fun _ => ⟨by kernel_rfl, by kernel_rfl⟩, ?_⟩ | refine ao_skip rfl rfl rfl ?_ | refine aw_true rfl ?_ | refine aw_false rfl ?_ | refine aw_skip ?_ | refine aw_exit ?_)
  refine ao_fun rfl rfl rfl rfl rfl rfl hT ?_
  refine ao_e rfl rfl rfl rfl rfl ?_
  refine ao_is ((p.M.length + g / 8 : Nat) : Int) rfl rfl rfl rfl (by rw [hM, wr64, wr64, Int.tdiv_eq_ediv_of_nonneg (by omega), w64 (x := (g : Int) / 8) (by omega) (by omega), w64 (by omega) (by omega)]; omega) ?_
  repeat (first | refine ao_e rfl rfl rfl rfl rfl ?_ | refine ao_eff (v := V.val (Value.bool true)) (ups := []) rfl rfl rfl rfl ?_ | refine ao_eff (v := V.val (Value.bool false)) (ups := []) rfl rfl rfl rfl ?_ | refine aw_seq ?_ | refine aw_region ?_ | refine aw_block ?_ | refine ao_nil ⟨fun h => (Bool.false_ne_true h).elim, ?_⟩ | refine ao_nil ⟨fun _ => ⟨by kernel_rfl, by kernel_rfl⟩, ?_⟩ | refine ao_skip rfl rfl rfl ?_ | refine aw_true rfl ?_ | refine aw_false rfl ?_ | refine aw_skip ?_ | refine aw_exit ?_)
  obtain ⟨g0, hg0⟩ : ∃ g0, p.M.length + g / 8 = g0 := ⟨_, rfl⟩
  have hg0b : g0 ≤ 300000000000000 := by omega
  rw [hg0] at *
  refine aw_rounds (T := Nat × Nat) (fun t => t.1 ≤ p.M.length ∧ t.2 ≤ 600000000000000 ∧ gw mw t.2 (p.M.drop t.1) = gw mw g0 p.M) (fun t => [.any, .ptr (newId (siteOf 0 0) 0) 0 0 0, .any, vi (t.2 : Nat), vi (t.1 : Nat)]) (fun _ => [(newId (siteOf 0 0) 0, ⟨0, 5, true, true, [a12C p]⟩)]) (fun t => p.M.length - t.1) (0, g0) ⟨Nat.zero_le _, by dsimp only; omega, rfl⟩ ?_ ?_ ?_
  · exact ⟨.any _, .ptr _ _ _ _ _ _ _ rfl rfl rfl rfl, .any _, .same _ rfl, .same _ rfl, trivial⟩
  · exact ⟨renB_cl rfl rfl rfl rfl rfl rfl, trivial⟩
  rintro ⟨i, n⟩ h0 ⟨hi, hn, hI⟩
  dsimp only at hi hn hI ⊢
  have fin : ∀ (b : Bool), (i < p.M.length → ¬ n < 1048576) → gw mw g0 p.M = n := by
    intro _ hh
    rw [← hI]
    by_cases hlt : i < p.M.length
    · exact gw_big _ _ (hh hlt)
    · rw [List.drop_eq_nil_of_le (by omega)]; rfl
  by_cases hlt : i < p.M.length
  · have hei : (p.M.map mC)[Int.toNat (i : Int)]? = some (mC p.M[i]) := by rw [Int.toNat_natCast, List.getElem?_map, List.getElem?_eq_getElem hlt]; rfl
    have hd : p.M.drop i = p.M[i] :: p.M.drop (i + 1) := List.drop_eq_getElem_cons hlt
    by_cases hn2 : n < 1048576
    · have hgm := hm2 _ (List.getElem_mem hlt)
      have hw := hmw _ (List.getElem_mem hlt)
      have hc := opsWeight (X := X) p.M[i].f6 (by have := hgm.1; omega) hgm.2
      have e : gw wt p.M[i].f6.length p.M[i].f6 = mw p.M[i] := rfl
      rw [e] at hc
      repeat (first | refine ao_e rfl rfl rfl rfl rfl ?_ | refine ao_eff (v := V.val (Value.bool true)) (ups := []) rfl rfl rfl rfl ?_ | refine ao_eff (v := V.val (Value.bool false)) (ups := []) rfl rfl rfl rfl ?_ | refine aw_seq ?_ | refine aw_region ?_ | refine aw_block ?_ | refine ao_nil ⟨fun h => (Bool.false_ne_true h).elim, ?_⟩ | refine ao_nil ⟨fun _ => ⟨by kernel_rfl, by kernel_rfl⟩, ?_⟩ | refine ao_skip rfl rfl rfl ?_ | refine aw_true rfl ?_ | refine aw_false rfl ?_ | refine aw_skip ?_ | refine aw_exit ?_)
      refine ao_yes rfl rfl rfl rfl (by omega) ?_
      iterate 2 refine ao_e rfl rfl rfl rfl rfl ?_
      refine ao_yes rfl rfl rfl rfl (by omega) ?_
      repeat (first | refine ao_e rfl rfl rfl rfl rfl ?_ | refine ao_eff (v := V.val (Value.bool true)) (ups := []) rfl rfl rfl rfl ?_ | refine ao_eff (v := V.val (Value.bool false)) (ups := []) rfl rfl rfl rfl ?_ | refine aw_seq ?_ | refine aw_region ?_ | refine aw_block ?_ | refine ao_nil ⟨fun h => (Bool.false_ne_true h).elim, ?_⟩ | refine ao_nil ⟨fun _ => ⟨by kernel_rfl, by kernel_rfl⟩, ?_⟩ | refine ao_skip rfl rfl rfl ?_ | refine aw_true rfl ?_ | refine aw_false rfl ?_ | refine aw_skip ?_ | refine aw_exit ?_)
      refine ao_e rfl rfl rfl rfl (ef_ix rfl rfl (by omega) hei) ?_
      repeat (first | refine ao_e rfl rfl rfl rfl rfl ?_ | refine ao_eff (v := V.val (Value.bool true)) (ups := []) rfl rfl rfl rfl ?_ | refine ao_eff (v := V.val (Value.bool false)) (ups := []) rfl rfl rfl rfl ?_ | refine aw_seq ?_ | refine aw_region ?_ | refine aw_block ?_ | refine ao_nil ⟨fun h => (Bool.false_ne_true h).elim, ?_⟩ | refine ao_nil ⟨fun _ => ⟨by kernel_rfl, by kernel_rfl⟩, ?_⟩ | refine ao_skip rfl rfl rfl ?_ | refine aw_true rfl ?_ | refine aw_false rfl ?_ | refine aw_skip ?_ | refine aw_exit ?_)
      refine ao_fun rfl rfl rfl rfl rfl rfl hc ?_
      refine ao_is ((n + mw p.M[i] : Nat) : Int) rfl rfl rfl rfl (by rw [wr64, w64 (by omega) (by omega)]; omega) ?_
      repeat (first | refine ao_e rfl rfl rfl rfl rfl ?_ | refine ao_eff (v := V.val (Value.bool true)) (ups := []) rfl rfl rfl rfl ?_ | refine ao_eff (v := V.val (Value.bool false)) (ups := []) rfl rfl rfl rfl ?_ | refine aw_seq ?_ | refine aw_region ?_ | refine aw_block ?_ | refine ao_nil ⟨fun h => (Bool.false_ne_true h).elim, ?_⟩ | refine ao_nil ⟨fun _ => ⟨by kernel_rfl, by kernel_rfl⟩, ?_⟩ | refine ao_skip rfl rfl rfl ?_ | refine aw_true rfl ?_ | refine aw_false rfl ?_ | refine aw_skip ?_ | refine aw_exit ?_)
      refine ⟨(i + 1, n + mw p.M[i]), ⟨hlt, by dsimp only; omega, ?_⟩, by dsimp only; omega, ⟨.any _, .ptr _ _ _ _ _ _ _ rfl rfl rfl rfl, .any _, .same _ rfl, rsucc i (by omega), trivial⟩, ⟨renB_cl rfl rfl rfl rfl rfl rfl, trivial⟩⟩
      rw [← hI, hd]
      simp only [gw]
      rw [if_pos hn2]
    · have hf := fin true (fun _ => hn2)
      repeat (first | refine ao_e rfl rfl rfl rfl rfl ?_ | refine ao_eff (v := V.val (Value.bool true)) (ups := []) rfl rfl rfl rfl ?_ | refine ao_eff (v := V.val (Value.bool false)) (ups := []) rfl rfl rfl rfl ?_ | refine aw_seq ?_ | refine aw_region ?_ | refine aw_block ?_ | refine ao_nil ⟨fun h => (Bool.false_ne_true h).elim, ?_⟩ | refine ao_nil ⟨fun _ => ⟨by kernel_rfl, by kernel_rfl⟩, ?_⟩ | refine ao_skip rfl rfl rfl ?_ | refine aw_true rfl ?_ | refine aw_false rfl ?_ | refine aw_skip ?_ | refine aw_exit ?_)
      refine ao_yes rfl rfl rfl rfl (by omega) ?_
      iterate 2 refine ao_e rfl rfl rfl rfl rfl ?_
      refine ao_no rfl rfl rfl rfl (by omega) ?_
      repeat (first | refine ao_e rfl rfl rfl rfl rfl ?_ | refine ao_eff (v := V.val (Value.bool true)) (ups := []) rfl rfl rfl rfl ?_ | refine ao_eff (v := V.val (Value.bool false)) (ups := []) rfl rfl rfl rfl ?_ | refine aw_seq ?_ | refine aw_region ?_ | refine aw_block ?_ | refine ao_nil ⟨fun h => (Bool.false_ne_true h).elim, ?_⟩ | refine ao_nil ⟨fun _ => ⟨by kernel_rfl, by kernel_rfl⟩, ?_⟩ | refine ao_skip rfl rfl rfl ?_ | refine aw_true rfl ?_ | refine aw_false rfl ?_ | refine aw_skip ?_ | refine aw_exit ?_)
      refine ao_yes rfl rfl rfl rfl (by omega) ?_
      repeat (first | refine ao_e rfl rfl rfl rfl rfl ?_ | refine ao_eff (v := V.val (Value.bool true)) (ups := []) rfl rfl rfl rfl ?_ | refine ao_eff (v := V.val (Value.bool false)) (ups := []) rfl rfl rfl rfl ?_ | refine aw_seq ?_ | refine aw_region ?_ | refine aw_block ?_ | refine ao_nil ⟨fun h => (Bool.false_ne_true h).elim, ?_⟩ | refine ao_nil ⟨fun _ => ⟨by kernel_rfl, by kernel_rfl⟩, ?_⟩ | refine ao_skip rfl rfl rfl ?_ | refine aw_true rfl ?_ | refine aw_false rfl ?_ | refine aw_skip ?_ | refine aw_exit ?_)
      refine aw_ret ⟨.inr rfl, _, _, _, _, _, rfl, rfl, rfl, rfl, ?_, rfl⟩
      rw [hf, decide_eq_true (by omega)]; rfl
  · have hf := fin true (fun h => absurd h hlt)
    repeat (first | refine ao_e rfl rfl rfl rfl rfl ?_ | refine ao_eff (v := V.val (Value.bool true)) (ups := []) rfl rfl rfl rfl ?_ | refine ao_eff (v := V.val (Value.bool false)) (ups := []) rfl rfl rfl rfl ?_ | refine aw_seq ?_ | refine aw_region ?_ | refine aw_block ?_ | refine ao_nil ⟨fun h => (Bool.false_ne_true h).elim, ?_⟩ | refine ao_nil ⟨fun _ => ⟨by kernel_rfl, by kernel_rfl⟩, ?_⟩ | refine ao_skip rfl rfl rfl ?_ | refine aw_true rfl ?_ | refine aw_false rfl ?_ | refine aw_skip ?_ | refine aw_exit ?_)
    refine ao_no rfl rfl rfl rfl (by omega) ?_
    repeat (first | refine ao_e rfl rfl rfl rfl rfl ?_ | refine ao_eff (v := V.val (Value.bool true)) (ups := []) rfl rfl rfl rfl ?_ | refine ao_eff (v := V.val (Value.bool false)) (ups := []) rfl rfl rfl rfl ?_ | refine aw_seq ?_ | refine aw_region ?_ | refine aw_block ?_ | refine ao_nil ⟨fun h => (Bool.false_ne_true h).elim, ?_⟩ | refine ao_nil ⟨fun _ => ⟨by kernel_rfl, by kernel_rfl⟩, ?_⟩ | refine ao_skip rfl rfl rfl ?_ | refine aw_true rfl ?_ | refine aw_false rfl ?_ | refine aw_skip ?_ | refine aw_exit ?_)
    refine ao_dec rfl rfl rfl rfl (fun hb => ?_) (fun hb => ?_)
    · repeat (first | refine ao_e rfl rfl rfl rfl rfl ?_ | refine ao_eff (v := V.val (Value.bool true)) (ups := []) rfl rfl rfl rfl ?_ | refine ao_eff (v := V.val (Value.bool false)) (ups := []) rfl rfl rfl rfl ?_ | refine aw_seq ?_ | refine aw_region ?_ | refine aw_block ?_ | refine ao_nil ⟨fun h => (Bool.false_ne_true h).elim, ?_⟩ | refine ao_nil ⟨fun _ => ⟨by kernel_rfl, by kernel_rfl⟩, ?_⟩ | refine ao_skip rfl rfl rfl ?_ | refine aw_true rfl ?_ | refine aw_false rfl ?_ | refine aw_skip ?_ | refine aw_exit ?_)
      refine aw_ret ⟨.inr rfl, _, _, _, _, _, rfl, rfl, rfl, rfl, ?_, rfl⟩
      rw [hf, decide_eq_true (by omega)]; rfl
    · repeat (first | refine ao_e rfl rfl rfl rfl rfl ?_ | refine ao_eff (v := V.val (Value.bool true)) (ups := []) rfl rfl rfl rfl ?_ | refine ao_eff (v := V.val (Value.bool false)) (ups := []) rfl rfl rfl rfl ?_ | refine aw_seq ?_ | refine aw_region ?_ | refine aw_block ?_ | refine ao_nil ⟨fun h => (Bool.false_ne_true h).elim, ?_⟩ | refine ao_nil ⟨fun _ => ⟨by kernel_rfl, by kernel_rfl⟩, ?_⟩ | refine ao_skip rfl rfl rfl ?_ | refine aw_true rfl ?_ | refine aw_false rfl ?_ | refine aw_skip ?_ | refine aw_exit ?_)
      refine ao_funs rfl rfl rfl rfl rfl rfl h4 rfl ?_
      repeat (first | refine ao_e rfl rfl rfl rfl rfl ?_ | refine ao_eff (v := V.val (Value.bool true)) (ups := []) rfl rfl rfl rfl ?_ | refine ao_eff (v := V.val (Value.bool false)) (ups := []) rfl rfl rfl rfl ?_ | refine aw_seq ?_ | refine aw_region ?_ | refine aw_block ?_ | refine ao_nil ⟨fun h => (Bool.false_ne_true h).elim, ?_⟩ | refine ao_nil ⟨fun _ => ⟨by kernel_rfl, by kernel_rfl⟩, ?_⟩ | refine ao_skip rfl rfl rfl ?_ | refine aw_true rfl ?_ | refine aw_false rfl ?_ | refine aw_skip ?_ | refine aw_exit ?_)
      refine aw_ret ⟨.inr rfl, _, _, _, _, _, rfl, rfl, rfl, rfl, ?_, rfl⟩
      rw [hf, decide_eq_false (by omega)]; rfl
/-- What is known where it is not more than is played. -/
structure Light (p : A12) : Prop where
  o : p.O.O.length ≤ 900 ∧ ∀ o ∈ p.O.O, o.f4.size ≤ 4000 ∧ o.f5.length ≤ 900
  m : p.M.length ≤ 900 ∧ ∀ m ∈ p.M, m.f6.length ≤ 900 ∧ ∀ o ∈ m.f6, o.f4.size ≤ 4000 ∧ o.f5.length ≤ 900
  s : p.S.length ≤ 8000 ∧ ∀ s ∈ p.S, s.size ≤ 8000
theorem wt_in {o : O} (h : wt o ≤ 900) : o.f4.size ≤ 4000 ∧ o.f5.length ≤ 900 := by unfold wt at h; omega
theorem light {p : A12} (h : heavy12 p = false) : Light p := by
  unfold heavy12 at h
  simp only [Bool.or_eq_false_iff, decide_eq_false_iff_not] at h
  obtain ⟨h1, h2⟩ := h
  unfold heavyN at h1
  unfold heavy4 at h2
  simp only [decide_eq_false_iff_not] at h2
  obtain ⟨a1, a2⟩ := gw_le wt p.O.O p.O.O.length (by omega)
  obtain ⟨b1, b2⟩ := gw_le mw p.M (p.M.length + gw ByteArray.size p.S.length p.S / 8) (by omega)
  obtain ⟨c1, c2⟩ := gw_le ByteArray.size p.S p.S.length (by omega)
  refine ⟨⟨by omega, fun o ho => wt_in (by have := a2 o ho; omega)⟩, ⟨by omega, fun m hm => ?_⟩, ⟨by omega, fun s hs => by have := c2 s hs; omega⟩⟩
  have h3 := b2 m hm
  have h3' : gw wt m.f6.length m.f6 ≤ 900 := by
    have : mw m ≤ 900 := by omega
    exact this
  obtain ⟨d1, d2⟩ := gw_le wt m.f6 m.f6.length (by omega)
  exact ⟨by omega, fun o ho => wt_in (by have := d2 o ho; omega)⟩
end Go.Ai
