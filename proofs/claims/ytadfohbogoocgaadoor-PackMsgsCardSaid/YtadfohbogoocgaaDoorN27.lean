/- A part of the proof: what the program does, step by step, over values without addresses. No conditions of mine. -/
import Derived.Test.YtadfohbogoocgaaDoorN20
import Derived.Test.YtadfohbogoocgaaDoorN26
import Derived.Test.YtadfohbogoocgaaDoorN22
import Derived.Test.YtadfohbogoocgaaDoorAiE3
set_option linter.unusedVariables false
set_option linter.unusedSimpArgs false
namespace Go.Ai
open Go Go.RowKit Go.Proofs Go.Sp
variable {X : FuncId → List V → List (Nat × List V) → V → List (Nat × List V) → List Blk → Prop}
set_option maxRecDepth 10000
set_option maxHeartbeats 8000000
set_option linter.unusedVariables false
set_option linter.unusedSimpArgs false
theorem wr64u {x : Int} (h0 : 0 ≤ x) (h1 : x < 18446744073709551616) : IntKind.u64.wrap x = x := by
  unfold IntKind.wrap
  simp [IntKind.bits, IntKind.signed]
  omega
theorem lawWithin (i n : Nat) (hi : i < 4611686018427387904) (hn : n < 4611686018427387904) (h0 : 0 < n) : AF Tryd.prog X 55 [vi (i : Nat), vi (n : Nat)] (vi (i % n : Nat)) := by
  refine ac_mk (by kernel_rfl) Tryd.func55 rfl (lb rfl) rfl rfl ?_
  have hlt : i % n < n := Nat.mod_lt _ h0
  repeat (first | refine ao_e rfl rfl rfl rfl rfl ?_ | refine ao_eff (v := V.val (Value.bool true)) (ups := []) rfl rfl rfl rfl ?_ | refine ao_eff (v := V.val (Value.bool false)) (ups := []) rfl rfl rfl rfl ?_ | refine aw_seq ?_ | refine aw_region ?_ | refine aw_block ?_ | refine ao_nil ⟨fun h => (Bool.false_ne_true h).elim, ?_⟩ | refine ao_nil ⟨fun _ => ⟨by kernel_rfl, by kernel_rfl⟩, ?_⟩ | refine ao_skip rfl rfl rfl ?_ | refine aw_true rfl ?_ | refine aw_false rfl ?_ | refine aw_skip ?_ | refine aw_exit ?_)
  refine ao_e rfl rfl rfl rfl (ef_rem (by rw [wr64u (by omega) (by omega)]; omega)) ?_
  refine ao_is ((i % n : Nat) : Int) rfl rfl rfl rfl (by rw [wr64u (x := (i : Int)) (by omega) (by omega), wr64u (by omega) (by omega), wr64, Int.tmod_eq_emod_of_nonneg (by omega), w64 (by omega) (by omega)]; rfl) ?_
  repeat (first | refine ao_e rfl rfl rfl rfl rfl ?_ | refine ao_eff (v := V.val (Value.bool true)) (ups := []) rfl rfl rfl rfl ?_ | refine ao_eff (v := V.val (Value.bool false)) (ups := []) rfl rfl rfl rfl ?_ | refine aw_seq ?_ | refine aw_region ?_ | refine aw_block ?_ | refine ao_nil ⟨fun h => (Bool.false_ne_true h).elim, ?_⟩ | refine ao_nil ⟨fun _ => ⟨by kernel_rfl, by kernel_rfl⟩, ?_⟩ | refine ao_skip rfl rfl rfl ?_ | refine aw_true rfl ?_ | refine aw_false rfl ?_ | refine aw_skip ?_ | refine aw_exit ?_)
  exact aw_ret ⟨.inr rfl, _, _, _, _, _, rfl, rfl, rfl, rfl, rfl, rfl⟩
/-- Bytes with one changed, and cut off. -/
def chgAt (L : List Int) (k seed : Nat) : Nat := (k * L.length / 14 + seed) % L.length
def chg1 (L : List Int) (seed k : Nat) : List (List Int) := [L.set (chgAt L k seed) ((L.getD (chgAt L k seed) 0 + (1 + k % 4 * 40 : Nat)) % 256), L.take (chgAt L k seed)]
def chgs (L : List Int) (seed : Nat) (n : Nat) : List (List Int) := [L, L ++ [0], []] ++ (List.range n).flatMap (chg1 L seed)
def lC (t : List Int) : List V := [vs (strOfNums t)]
theorem chgs_succ (L : List Int) (seed n : Nat) : chgs L seed (n + 1) = chgs L seed n ++ chg1 L seed n := by
  unfold chgs
  rw [List.range_succ, List.flatMap_append, List.append_assoc]
  simp
theorem chgs_len (L : List Int) (seed n : Nat) : (chgs L seed n).length = 3 + 2 * n := by
  induction n with
  | zero => rfl
  | succ n ih => rw [chgs_succ, List.length_append, ih]; simp [chg1]; omega
theorem chgs_ok {L : List Int} (hL : Bytes L) (seed n : Nat) : ∀ t ∈ chgs L seed n, Bytes t ∧ t.length ≤ L.length + 1 := by
  intro t ht
  unfold chgs at ht
  rcases List.mem_append.1 ht with ht | ht
  · simp only [List.mem_cons, List.not_mem_nil, or_false] at ht
    rcases ht with rfl | rfl | rfl
    · exact ⟨hL, by omega⟩
    · exact ⟨hL.append (Bytes.mk ⟨by omega, by omega⟩ Bytes.nil), by simp⟩
    · exact ⟨Bytes.nil, by simp⟩
  · obtain ⟨k, _, hk⟩ := List.mem_flatMap.1 ht
    simp only [chg1, List.mem_cons, List.not_mem_nil, or_false] at hk
    rcases hk with rfl | rfl
    · refine ⟨fun c hc => ?_, by rw [List.length_set]; omega⟩
      rcases List.mem_or_eq_of_mem_set hc with hc | rfl
      · exact hL c hc
      · exact ⟨by omega, by omega⟩
    · exact ⟨fun c hc => hL c (List.mem_of_mem_take hc), by rw [List.length_take]; omega⟩
def chN : Nat → Nat
  | 0 => newId (siteOf 1 3) 0
  | _ + 1 => newId (siteOf 8 7) 0
theorem chN_even (k : Nat) : chN k % 2 = 0 := by
  cases k with
  | zero => exact newId_even _ _
  | succ k => exact newId_even _ _
theorem hc2 {a b c d e : Bool} {n : Nat} (hn : n % 2 = 0) (h : (a && b && c && d && e) = true) : (a && b && c && d && n % 2 == 0 && e) = true := by
  rw [hn]; simpa using h
theorem hev (k : Nat) (b : Bool) : (chN k % 2 == 0 || b) = true := by rw [chN_even]; rfl
theorem ef_push2 {P : Program} {h : Nat → Option Blk} {site : Nat} {α : Type} (enc : α → List V) (l l2 : List α) {s x : Operand} {S X Et : TypeId} {b ver len : Nat} {xv : V} {k : Blk} {sz : Nat} {z : List V} {cx : Bool} (by_ : Nat) (hk : live h b ver = some k) (hE : elemT P S = some Et) (hsz : sizeT P Et = some sz) (hby : bytesT P Et = some by_) (hz : zeroCs P Et = some z)
    (hc : (k.sz == sz && k.wr && decide (0 < sz) && decide (0 < by_) && b % 2 == 0 && z.length == sz) = true) (hx : srcOf P sz X xv h = some (l2.map enc, cx)) (hes : k.es = l.map enc) (hl : len = l.length) (hsize : (l.length + l2.length) * by_ ≤ 2 ^ 47) :
    eff P site (.call ⟨.builtin .append, #[s, x], #[S, X]⟩) [.sl b ver 0 len, xv] h = some (.sl (newId site 0) (nextVer h (newId site 0)) 0 (l ++ l2).length, [(b, goneB k), mk h (newId site 0) sz (k.cl && cx) ((l ++ l2).map enc)]) := by
  subst hl
  exact ef_append (xs := l2.map enc) hk hE hsz hby hz hc hx (Nat.le_of_eq (by rw [hes, List.length_map])) (by simpa using hsize) (by rw [hes, List.map_append]; congr 1; rw [List.take_of_length_le (by simp)]) (by simp)
theorem lawChanged (L : List Int) (hL : Bytes L) (hl : L.length ≤ 100000) (seed : Nat) (hs : seed ≤ 100000) : AF Tryd.prog X 20 [vs (strOfNums L), vi (seed : Nat)] (.isl 1 ((chgs L seed (if L.length = 0 then 0 else 14)).map lC)) := by
  have hls := strOfNums_size L
  refine ac_mk (by kernel_rfl) Tryd.func20 rfl (lb rfl) rfl rfl ?_
  repeat (first | refine ao_e rfl rfl rfl rfl rfl ?_ | refine ao_eff (v := V.val (Value.bool true)) (ups := []) rfl rfl rfl rfl ?_ | refine ao_eff (v := V.val (Value.bool false)) (ups := []) rfl rfl rfl rfl ?_ | refine aw_seq ?_ | refine aw_region ?_ | refine aw_block ?_ | refine ao_nil ⟨fun h => (Bool.false_ne_true h).elim, ?_⟩ | refine ao_nil ⟨fun _ => ⟨by kernel_rfl, by kernel_rfl⟩, ?_⟩ | refine ao_skip rfl rfl rfl ?_ | refine aw_true rfl ?_ | refine aw_false rfl ?_ | refine aw_skip ?_ | refine aw_exit ?_)
  refine ao_as (vs (strOfNums (L ++ [0]))) rfl rfl rfl (ef_cat (by rw [hls]; show L.length + 1 ≤ _; omega)) (by rw [str_append]; rfl) ?_
  repeat (first | refine ao_e rfl rfl rfl rfl rfl ?_ | refine ao_eff (v := V.val (Value.bool true)) (ups := []) rfl rfl rfl rfl ?_ | refine ao_eff (v := V.val (Value.bool false)) (ups := []) rfl rfl rfl rfl ?_ | refine aw_seq ?_ | refine aw_region ?_ | refine aw_block ?_ | refine ao_nil ⟨fun h => (Bool.false_ne_true h).elim, ?_⟩ | refine ao_nil ⟨fun _ => ⟨by kernel_rfl, by kernel_rfl⟩, ?_⟩ | refine ao_skip rfl rfl rfl ?_ | refine aw_true rfl ?_ | refine aw_false rfl ?_ | refine aw_skip ?_ | refine aw_exit ?_)
  refine aw_rounds (T := Nat × List (List Int)) (fun t => t.1 ≤ 14 ∧ (L.length = 0 → t.1 = 0) ∧ t.2 = chgs L seed t.1) (fun t => [vs (strOfNums L), vi (seed : Nat), .any, .any, .any, .sl (chN t.1) 0 0 t.2.length, vi t.1]) (fun t => [(chN t.1, ⟨0, 1, true, true, t.2.map lC⟩)]) (fun t => 14 - t.1) (0, chgs L seed 0) ⟨Nat.zero_le _, fun _ => rfl, rfl⟩ ?_ ?_ ?_
  · exact ⟨.same _ rfl, .same _ rfl, .any _, .any _, .any _, .sl _ _ _ _ _ _ _ rfl rfl rfl rfl, .same _ rfl, trivial⟩
  · exact ⟨renB_cl rfl rfl rfl rfl (hev _ _) rfl, trivial⟩
  rintro ⟨k, Q⟩ h0 ⟨hk, hk0, hQ⟩
  dsimp only at hk hk0 hQ ⊢
  by_cases hlt : k < 14 ∧ 0 < L.length
  · obtain ⟨hlt, hpos⟩ := hlt
    have hat : chgAt L k seed < L.length := Nat.mod_lt _ hpos
    obtain ⟨z, hz⟩ : ∃ z, L[chgAt L k seed]? = some z := ⟨L[chgAt L k seed], List.getElem?_eq_getElem hat⟩
    have hzd : L.getD (chgAt L k seed) 0 = z := by rw [List.getD_eq_getElem?_getD, hz]; rfl
    have hzb := hL z (List.mem_of_getElem? hz)
    have hmul : k * L.length ≤ 14 * 100000 := Nat.mul_le_mul (by omega) hl
    have hW := lawWithin (X := X) (k * L.length / 14 + seed) L.length (by omega) (by omega) hpos
    have hw2 : (k * L.length / 14 + seed) % L.length = chgAt L k seed := rfl
    rw [hw2] at hW
    obtain ⟨y, hy⟩ : ∃ y : Int, (z + (1 + k % 4 * 40 : Nat)) % 256 = y := ⟨_, rfl⟩
    have hc1 : chg1 L seed k = [L.set (chgAt L k seed) y, L.take (chgAt L k seed)] := by unfold chg1; rw [hzd, hy]
    have hsucc := chgs_succ L seed k
    rw [hc1] at hsucc
    have hcl := chgs_len L seed k
    generalize chgAt L k seed = a at *
    have hll : (L.set a y).length = L.length := List.length_set
    rw [← hQ] at hsucc hcl
    have hext : (strOfNums L).extract 0 a = strOfNums (L.take a) := by rw [prefix_str, bytesOf_str hL]
    cases k with
    | zero =>
      have e1 : IntKind.i64.wrap (IntKind.i64.wrap (Int.tdiv (IntKind.i64.wrap (((0 : Nat) : Int) * (L.length : Nat))) 14) + (seed : Nat)) = ((0 * L.length / 14 + seed : Nat) : Int) := by
        rw [← Int.natCast_mul]
        generalize 0 * L.length = m at *
        rw [wr64, wr64, wr64, w64 (x := (m : Int)) (by omega) (by omega), Int.tdiv_eq_ediv_of_nonneg (by omega), w64 (x := (m : Int) / 14) (by omega) (by omega), w64 (by omega) (by omega)]
        omega
      rw [← e1] at hW
      repeat (first | refine ao_e rfl rfl rfl rfl rfl ?_ | refine ao_eff (v := V.val (Value.bool true)) (ups := []) rfl rfl rfl rfl ?_ | refine ao_eff (v := V.val (Value.bool false)) (ups := []) rfl rfl rfl rfl ?_ | refine aw_seq ?_ | refine aw_region ?_ | refine aw_block ?_ | refine ao_nil ⟨fun h => (Bool.false_ne_true h).elim, ?_⟩ | refine ao_nil ⟨fun _ => ⟨by kernel_rfl, by kernel_rfl⟩, ?_⟩ | refine ao_skip rfl rfl rfl ?_ | refine aw_true rfl ?_ | refine aw_false rfl ?_ | refine aw_skip ?_ | refine aw_exit ?_)
      refine ao_yes rfl rfl rfl rfl (by rw [hls]; omega) ?_
      repeat (first | refine ao_e rfl rfl rfl rfl (ef_bytes L hL rfl rfl rfl rfl) ?_ | refine ao_e rfl rfl rfl rfl rfl ?_ | refine ao_eff (v := V.val (Value.bool true)) (ups := []) rfl rfl rfl rfl ?_ | refine ao_eff (v := V.val (Value.bool false)) (ups := []) rfl rfl rfl rfl ?_ | refine aw_seq ?_ | refine aw_region ?_ | refine aw_block ?_ | refine ao_nil ⟨fun h => (Bool.false_ne_true h).elim, ?_⟩ | refine ao_nil ⟨fun _ => ⟨by kernel_rfl, by kernel_rfl⟩, ?_⟩ | refine ao_skip rfl rfl rfl ?_ | refine aw_true rfl ?_ | refine aw_false rfl ?_ | refine aw_skip ?_ | refine aw_exit ?_)
      refine ao_fun rfl rfl rfl rfl rfl rfl hW ?_
      repeat (first | refine ao_e rfl rfl rfl rfl rfl ?_ | refine ao_eff (v := V.val (Value.bool true)) (ups := []) rfl rfl rfl rfl ?_ | refine ao_eff (v := V.val (Value.bool false)) (ups := []) rfl rfl rfl rfl ?_ | refine aw_seq ?_ | refine aw_region ?_ | refine aw_block ?_ | refine ao_nil ⟨fun h => (Bool.false_ne_true h).elim, ?_⟩ | refine ao_nil ⟨fun _ => ⟨by kernel_rfl, by kernel_rfl⟩, ?_⟩ | refine ao_skip rfl rfl rfl ?_ | refine aw_true rfl ?_ | refine aw_false rfl ?_ | refine aw_skip ?_ | refine aw_exit ?_)
      refine ao_e rfl rfl rfl rfl (ef_ixn a rfl rfl rfl rfl hat (by rw [List.length_map]; omega)) ?_
      refine ao_e rfl rfl rfl rfl (ef_ld8 rfl rfl hz rfl rfl) ?_
      iterate 5 refine ao_e rfl rfl rfl rfl rfl ?_
      refine ao_is y rfl rfl rfl rfl (by rw [← hy, wr8, wr8, wr64, wr64, Int.tmod_eq_emod_of_nonneg (by omega), w64 (x := ((0 : Nat) : Int) % 4 * 40) (by omega) (by omega), w64 (by omega) (by omega)]; omega) ?_
      refine ao_e rfl rfl rfl rfl (ef_ixn a rfl rfl rfl rfl hat (by rw [List.length_map]; omega)) ?_
      refine ao_e rfl rfl rfl rfl (ef_st8 rfl hz rfl rfl) ?_
      repeat (first | refine ao_e rfl rfl rfl rfl rfl ?_ | refine ao_eff (v := V.val (Value.bool true)) (ups := []) rfl rfl rfl rfl ?_ | refine ao_eff (v := V.val (Value.bool false)) (ups := []) rfl rfl rfl rfl ?_ | refine aw_seq ?_ | refine aw_region ?_ | refine aw_block ?_ | refine ao_nil ⟨fun h => (Bool.false_ne_true h).elim, ?_⟩ | refine ao_nil ⟨fun _ => ⟨by kernel_rfl, by kernel_rfl⟩, ?_⟩ | refine ao_skip rfl rfl rfl ?_ | refine aw_true rfl ?_ | refine aw_false rfl ?_ | refine aw_skip ?_ | refine aw_exit ?_)
      refine ao_e rfl rfl rfl rfl (ef_str8 (L.set a y) rfl rfl rfl hll.symm rfl rfl rfl) ?_
      repeat (first | refine ao_e rfl rfl rfl rfl rfl ?_ | refine ao_eff (v := V.val (Value.bool true)) (ups := []) rfl rfl rfl rfl ?_ | refine ao_eff (v := V.val (Value.bool false)) (ups := []) rfl rfl rfl rfl ?_ | refine aw_seq ?_ | refine aw_region ?_ | refine aw_block ?_ | refine ao_nil ⟨fun h => (Bool.false_ne_true h).elim, ?_⟩ | refine ao_nil ⟨fun _ => ⟨by kernel_rfl, by kernel_rfl⟩, ?_⟩ | refine ao_skip rfl rfl rfl ?_ | refine aw_true rfl ?_ | refine aw_false rfl ?_ | refine aw_skip ?_ | refine aw_exit ?_)
      refine ao_as (vs (strOfNums (L.take a))) rfl rfl rfl (ef_str (l := 0) (n := a) (nb_hi rfl) rfl rfl (by omega) (by rw [hls]; omega)) (congrArg vs hext) ?_
      repeat (first | refine ao_e rfl rfl rfl rfl rfl ?_ | refine ao_eff (v := V.val (Value.bool true)) (ups := []) rfl rfl rfl rfl ?_ | refine ao_eff (v := V.val (Value.bool false)) (ups := []) rfl rfl rfl rfl ?_ | refine aw_seq ?_ | refine aw_region ?_ | refine aw_block ?_ | refine ao_nil ⟨fun h => (Bool.false_ne_true h).elim, ?_⟩ | refine ao_nil ⟨fun _ => ⟨by kernel_rfl, by kernel_rfl⟩, ?_⟩ | refine ao_skip rfl rfl rfl ?_ | refine aw_true rfl ?_ | refine aw_false rfl ?_ | refine aw_skip ?_ | refine aw_exit ?_)
      refine ao_e rfl rfl rfl rfl (ef_push2 lC Q [L.set a y, L.take a] 16 rfl rfl rfl rfl rfl rfl rfl rfl rfl (by rw [hcl]; show (_ + 2) * _ ≤ _; omega)) ?_
      repeat (first | refine ao_e rfl rfl rfl rfl rfl ?_ | refine ao_eff (v := V.val (Value.bool true)) (ups := []) rfl rfl rfl rfl ?_ | refine ao_eff (v := V.val (Value.bool false)) (ups := []) rfl rfl rfl rfl ?_ | refine aw_seq ?_ | refine aw_region ?_ | refine aw_block ?_ | refine ao_nil ⟨fun h => (Bool.false_ne_true h).elim, ?_⟩ | refine ao_nil ⟨fun _ => ⟨by kernel_rfl, by kernel_rfl⟩, ?_⟩ | refine ao_skip rfl rfl rfl ?_ | refine aw_true rfl ?_ | refine aw_false rfl ?_ | refine aw_skip ?_ | refine aw_exit ?_)
      exact ⟨(0 + 1, Q ++ [L.set a y, L.take a]), ⟨by dsimp only; omega, fun h => absurd h (by omega), hsucc.symm⟩, by dsimp only; omega, ⟨.same _ rfl, .same _ rfl, .any _, .any _, .any _, .sl _ _ _ _ _ _ _ rfl rfl rfl rfl, rsucc 0 (by omega), trivial⟩, ⟨renB_cl rfl rfl rfl rfl (hev _ _) rfl, trivial⟩⟩
    | succ n =>
      have e1 : IntKind.i64.wrap (IntKind.i64.wrap (Int.tdiv (IntKind.i64.wrap ((((n + 1) : Nat) : Int) * (L.length : Nat))) 14) + (seed : Nat)) = (((n + 1) * L.length / 14 + seed : Nat) : Int) := by
        rw [← Int.natCast_mul]
        generalize (n + 1) * L.length = m at *
        rw [wr64, wr64, wr64, w64 (x := (m : Int)) (by omega) (by omega), Int.tdiv_eq_ediv_of_nonneg (by omega), w64 (x := (m : Int) / 14) (by omega) (by omega), w64 (by omega) (by omega)]
        omega
      rw [← e1] at hW
      repeat (first | refine ao_e rfl rfl rfl rfl rfl ?_ | refine ao_eff (v := V.val (Value.bool true)) (ups := []) rfl rfl rfl rfl ?_ | refine ao_eff (v := V.val (Value.bool false)) (ups := []) rfl rfl rfl rfl ?_ | refine aw_seq ?_ | refine aw_region ?_ | refine aw_block ?_ | refine ao_nil ⟨fun h => (Bool.false_ne_true h).elim, ?_⟩ | refine ao_nil ⟨fun _ => ⟨by kernel_rfl, by kernel_rfl⟩, ?_⟩ | refine ao_skip rfl rfl rfl ?_ | refine aw_true rfl ?_ | refine aw_false rfl ?_ | refine aw_skip ?_ | refine aw_exit ?_)
      refine ao_yes rfl rfl rfl rfl (by omega) ?_
      repeat (first | refine ao_e rfl rfl rfl rfl rfl ?_ | refine ao_eff (v := V.val (Value.bool true)) (ups := []) rfl rfl rfl rfl ?_ | refine ao_eff (v := V.val (Value.bool false)) (ups := []) rfl rfl rfl rfl ?_ | refine aw_seq ?_ | refine aw_region ?_ | refine aw_block ?_ | refine ao_nil ⟨fun h => (Bool.false_ne_true h).elim, ?_⟩ | refine ao_nil ⟨fun _ => ⟨by kernel_rfl, by kernel_rfl⟩, ?_⟩ | refine ao_skip rfl rfl rfl ?_ | refine aw_true rfl ?_ | refine aw_false rfl ?_ | refine aw_skip ?_ | refine aw_exit ?_)
      refine ao_yes rfl rfl rfl rfl (by rw [hls]; omega) ?_
      repeat (first | refine ao_e rfl rfl rfl rfl (ef_bytes L hL rfl rfl rfl rfl) ?_ | refine ao_e rfl rfl rfl rfl rfl ?_ | refine ao_eff (v := V.val (Value.bool true)) (ups := []) rfl rfl rfl rfl ?_ | refine ao_eff (v := V.val (Value.bool false)) (ups := []) rfl rfl rfl rfl ?_ | refine aw_seq ?_ | refine aw_region ?_ | refine aw_block ?_ | refine ao_nil ⟨fun h => (Bool.false_ne_true h).elim, ?_⟩ | refine ao_nil ⟨fun _ => ⟨by kernel_rfl, by kernel_rfl⟩, ?_⟩ | refine ao_skip rfl rfl rfl ?_ | refine aw_true rfl ?_ | refine aw_false rfl ?_ | refine aw_skip ?_ | refine aw_exit ?_)
      refine ao_fun rfl rfl rfl rfl rfl rfl hW ?_
      repeat (first | refine ao_e rfl rfl rfl rfl rfl ?_ | refine ao_eff (v := V.val (Value.bool true)) (ups := []) rfl rfl rfl rfl ?_ | refine ao_eff (v := V.val (Value.bool false)) (ups := []) rfl rfl rfl rfl ?_ | refine aw_seq ?_ | refine aw_region ?_ | refine aw_block ?_ | refine ao_nil ⟨fun h => (Bool.false_ne_true h).elim, ?_⟩ | refine ao_nil ⟨fun _ => ⟨by kernel_rfl, by kernel_rfl⟩, ?_⟩ | refine ao_skip rfl rfl rfl ?_ | refine aw_true rfl ?_ | refine aw_false rfl ?_ | refine aw_skip ?_ | refine aw_exit ?_)
      refine ao_e rfl rfl rfl rfl (ef_ixn a rfl rfl rfl rfl hat (by rw [List.length_map]; omega)) ?_
      refine ao_e rfl rfl rfl rfl (ef_ld8 rfl rfl hz rfl rfl) ?_
      iterate 5 refine ao_e rfl rfl rfl rfl rfl ?_
      refine ao_is y rfl rfl rfl rfl (by rw [← hy, wr8, wr8, wr64, wr64, Int.tmod_eq_emod_of_nonneg (by omega), w64 (x := (((n + 1) : Nat) : Int) % 4 * 40) (by omega) (by omega), w64 (by omega) (by omega)]; omega) ?_
      refine ao_e rfl rfl rfl rfl (ef_ixn a rfl rfl rfl rfl hat (by rw [List.length_map]; omega)) ?_
      refine ao_e rfl rfl rfl rfl (ef_st8 rfl hz rfl rfl) ?_
      repeat (first | refine ao_e rfl rfl rfl rfl rfl ?_ | refine ao_eff (v := V.val (Value.bool true)) (ups := []) rfl rfl rfl rfl ?_ | refine ao_eff (v := V.val (Value.bool false)) (ups := []) rfl rfl rfl rfl ?_ | refine aw_seq ?_ | refine aw_region ?_ | refine aw_block ?_ | refine ao_nil ⟨fun h => (Bool.false_ne_true h).elim, ?_⟩ | refine ao_nil ⟨fun _ => ⟨by kernel_rfl, by kernel_rfl⟩, ?_⟩ | refine ao_skip rfl rfl rfl ?_ | refine aw_true rfl ?_ | refine aw_false rfl ?_ | refine aw_skip ?_ | refine aw_exit ?_)
      refine ao_e rfl rfl rfl rfl (ef_str8 (L.set a y) rfl rfl rfl hll.symm rfl rfl rfl) ?_
      repeat (first | refine ao_e rfl rfl rfl rfl rfl ?_ | refine ao_eff (v := V.val (Value.bool true)) (ups := []) rfl rfl rfl rfl ?_ | refine ao_eff (v := V.val (Value.bool false)) (ups := []) rfl rfl rfl rfl ?_ | refine aw_seq ?_ | refine aw_region ?_ | refine aw_block ?_ | refine ao_nil ⟨fun h => (Bool.false_ne_true h).elim, ?_⟩ | refine ao_nil ⟨fun _ => ⟨by kernel_rfl, by kernel_rfl⟩, ?_⟩ | refine ao_skip rfl rfl rfl ?_ | refine aw_true rfl ?_ | refine aw_false rfl ?_ | refine aw_skip ?_ | refine aw_exit ?_)
      refine ao_as (vs (strOfNums (L.take a))) rfl rfl rfl (ef_str (l := 0) (n := a) (nb_hi rfl) rfl rfl (by omega) (by rw [hls]; omega)) (congrArg vs hext) ?_
      repeat (first | refine ao_e rfl rfl rfl rfl rfl ?_ | refine ao_eff (v := V.val (Value.bool true)) (ups := []) rfl rfl rfl rfl ?_ | refine ao_eff (v := V.val (Value.bool false)) (ups := []) rfl rfl rfl rfl ?_ | refine aw_seq ?_ | refine aw_region ?_ | refine aw_block ?_ | refine ao_nil ⟨fun h => (Bool.false_ne_true h).elim, ?_⟩ | refine ao_nil ⟨fun _ => ⟨by kernel_rfl, by kernel_rfl⟩, ?_⟩ | refine ao_skip rfl rfl rfl ?_ | refine aw_true rfl ?_ | refine aw_false rfl ?_ | refine aw_skip ?_ | refine aw_exit ?_)
      refine ao_e rfl rfl rfl rfl (ef_push2 lC Q [L.set a y, L.take a] 16 rfl rfl rfl rfl rfl (hc2 (chN_even _) rfl) rfl rfl rfl (by rw [hcl]; show (_ + 2) * _ ≤ _; omega)) ?_
      repeat (first | refine ao_e rfl rfl rfl rfl rfl ?_ | refine ao_eff (v := V.val (Value.bool true)) (ups := []) rfl rfl rfl rfl ?_ | refine ao_eff (v := V.val (Value.bool false)) (ups := []) rfl rfl rfl rfl ?_ | refine aw_seq ?_ | refine aw_region ?_ | refine aw_block ?_ | refine ao_nil ⟨fun h => (Bool.false_ne_true h).elim, ?_⟩ | refine ao_nil ⟨fun _ => ⟨by kernel_rfl, by kernel_rfl⟩, ?_⟩ | refine ao_skip rfl rfl rfl ?_ | refine aw_true rfl ?_ | refine aw_false rfl ?_ | refine aw_skip ?_ | refine aw_exit ?_)
      exact ⟨((n + 1) + 1, Q ++ [L.set a y, L.take a]), ⟨by dsimp only; omega, fun h => absurd h (by omega), hsucc.symm⟩, by dsimp only; omega, ⟨.same _ rfl, .same _ rfl, .any _, .any _, .any _, .sl _ _ _ _ _ _ _ rfl rfl rfl rfl, rsucc (n + 1) (by omega), trivial⟩, ⟨renB_cl rfl rfl rfl rfl (hev _ _) rfl, trivial⟩⟩
  · have fin : (if L.length = 0 then 0 else 14) = k := by
      by_cases h : L.length = 0
      · rw [if_pos h, hk0 h]
      · rw [if_neg h]; omega
    rw [fin, ← hQ]
    by_cases h0' : L.length = 0
    · obtain rfl := hk0 h0'
      repeat (first | refine ao_e rfl rfl rfl rfl rfl ?_ | refine ao_eff (v := V.val (Value.bool true)) (ups := []) rfl rfl rfl rfl ?_ | refine ao_eff (v := V.val (Value.bool false)) (ups := []) rfl rfl rfl rfl ?_ | refine aw_seq ?_ | refine aw_region ?_ | refine aw_block ?_ | refine ao_nil ⟨fun h => (Bool.false_ne_true h).elim, ?_⟩ | refine ao_nil ⟨fun _ => ⟨by kernel_rfl, by kernel_rfl⟩, ?_⟩ | refine ao_skip rfl rfl rfl ?_ | refine aw_true rfl ?_ | refine aw_false rfl ?_ | refine aw_skip ?_ | refine aw_exit ?_)
      refine ao_no rfl rfl rfl rfl (by rw [hls]; omega) ?_
      repeat (first | refine ao_e rfl rfl rfl rfl rfl ?_ | refine ao_eff (v := V.val (Value.bool true)) (ups := []) rfl rfl rfl rfl ?_ | refine ao_eff (v := V.val (Value.bool false)) (ups := []) rfl rfl rfl rfl ?_ | refine aw_seq ?_ | refine aw_region ?_ | refine aw_block ?_ | refine ao_nil ⟨fun h => (Bool.false_ne_true h).elim, ?_⟩ | refine ao_nil ⟨fun _ => ⟨by kernel_rfl, by kernel_rfl⟩, ?_⟩ | refine ao_skip rfl rfl rfl ?_ | refine aw_true rfl ?_ | refine aw_false rfl ?_ | refine aw_skip ?_ | refine aw_exit ?_)
      refine aw_canon [.any, .any, .any, .any, .isl 1 (Q.map lC)] [] ⟨.any _, .any _, .any _, .any _, ren_frz lC Q rfl rfl rfl rfl rfl rfl, trivial⟩ trivial (fun h0 => ?_)
      exact aw_ret ⟨.inr rfl, _, _, _, _, _, rfl, rfl, rfl, rfl, rfl, rfl⟩
    · obtain rfl : k = 14 := by omega
      repeat (first | refine ao_e rfl rfl rfl rfl rfl ?_ | refine ao_eff (v := V.val (Value.bool true)) (ups := []) rfl rfl rfl rfl ?_ | refine ao_eff (v := V.val (Value.bool false)) (ups := []) rfl rfl rfl rfl ?_ | refine aw_seq ?_ | refine aw_region ?_ | refine aw_block ?_ | refine ao_nil ⟨fun h => (Bool.false_ne_true h).elim, ?_⟩ | refine ao_nil ⟨fun _ => ⟨by kernel_rfl, by kernel_rfl⟩, ?_⟩ | refine ao_skip rfl rfl rfl ?_ | refine aw_true rfl ?_ | refine aw_false rfl ?_ | refine aw_skip ?_ | refine aw_exit ?_)
      refine aw_canon [.any, .any, .any, .any, .isl 1 (Q.map lC)] [] ⟨.any _, .any _, .any _, .any _, ren_frz lC Q rfl rfl rfl rfl rfl rfl, trivial⟩ trivial (fun h0 => ?_)
      exact aw_ret ⟨.inr rfl, _, _, _, _, _, rfl, rfl, rfl, rfl, rfl, rfl⟩
theorem packCheck (m : M) (hf : ∀ o ∈ m.f6, Fit o) (hl : m.f6.length < 4611686018427387904) : AF Tryd.prog XX 22 [.agg (mC m)] (vi (if mayM m then 0 else 1)) := by
  have h1 := packMayM m hf hl
  refine ac_mk (by kernel_rfl) Tryd.func22 rfl (lb rfl) rfl (by split <;> rfl) ?_
  cases hm : mayM m
  all_goals
    rw [hm] at h1
    repeat' (first | refine ao_e rfl rfl rfl rfl rfl ?_ | refine ao_eff (v := V.val (Value.bool true)) (ups := []) rfl rfl rfl rfl ?_ | refine ao_eff (v := V.val (Value.bool false)) (ups := []) rfl rfl rfl rfl ?_ | refine aw_seq ?_ | refine aw_region ?_ | refine aw_block ?_ | refine ao_nil ⟨fun h => (Bool.false_ne_true h).elim, ?_⟩ | refine ao_nil ⟨fun _ => ⟨by kernel_rfl, by kernel_rfl⟩, ?_⟩ | refine ao_skip rfl rfl rfl ?_ | refine aw_true rfl ?_ | refine aw_false rfl ?_ | refine aw_skip ?_ | refine aw_exit ?_ | refine ao_fun rfl rfl rfl rfl rfl rfl (h1) ?_ | refine ao_funs rfl rfl rfl rfl rfl rfl (h1) rfl ?_ | refine ao_dec rfl rfl rfl (eqE _ _ _ _ _ _).1 (fun hb => ?_) (fun hb => ?_) | refine ao_ndec rfl rfl rfl (eqE _ _ _ _ _ _).2 (fun hb => ?_) (fun hb => ?_) | refine ao_dec rfl rfl rfl rfl (fun hb => ?_) (fun hb => ?_) | refine ao_ndec rfl rfl rfl rfl (fun hb => ?_) (fun hb => ?_) | refine ao_str rfl rfl rfl rfl (fun hb => ?_) (fun hb => ?_) | refine ao_nstr rfl rfl rfl rfl (fun hb => ?_) (fun hb => ?_) | refine ao_bool rfl rfl rfl rfl (fun hb => ?_) (fun hb => ?_) | refine aw_ret ⟨.inr rfl, _, _, _, _, _, rfl, rfl, rfl, rfl, ?_, rfl⟩)
  all_goals rfl
end Go.Ai
