/- A part of the proof: what the program does, step by step, over values without addresses. No conditions of mine. -/
import Derived.Test.YtadfohbogoocgaaGreatDoorN4
set_option linter.unusedVariables false
set_option linter.unusedSimpArgs false
namespace Go.Ai
open Go Go.RowKit Go.Proofs Go.Sp
variable {X : FuncId → List V → List (Nat × List V) → V → List (Nat × List V) → List Blk → Prop}
set_option maxRecDepth 10000
set_option maxHeartbeats 4000000
set_option linter.unusedVariables false
set_option linter.unusedSimpArgs false
theorem refPut (n : Nat) (hn : n < 9223372036854775808) : AF Tryz.prog X 55 [vi n] (vs (strOfNums (vb n))) := by
  refine ac_mk (by kernel_rfl) Tryz.func55 rfl (lb rfl) rfl rfl ?_
  repeat (first | refine ao_e rfl rfl rfl rfl rfl ?_ | refine ao_eff (v := V.val (Value.bool true)) (ups := []) rfl rfl rfl rfl ?_ | refine ao_eff (v := V.val (Value.bool false)) (ups := []) rfl rfl rfl rfl ?_ | refine aw_seq ?_ | refine aw_region ?_ | refine aw_block ?_ | refine ao_nil ⟨fun h => (Bool.false_ne_true h).elim, ?_⟩ | refine ao_nil ⟨fun _ => ⟨by kernel_rfl, by kernel_rfl⟩, ?_⟩ | refine ao_skip rfl rfl rfl ?_ | refine aw_true rfl ?_ | refine aw_false rfl ?_ | refine aw_skip ?_ | refine aw_exit ?_)
  refine aw_virt 3 (newId (siteOf 3 6) 0) 1 rfl ?_
  refine aw_rounds (T := Nat × List Int) (fun t => t.1 < 9223372036854775808 ∧ t.2 ++ vb t.1 = vb n) (fun t => [vi t.1, .any, .any, .sl (newId (siteOf 3 6) 0) 0 0 t.2.length]) (fun t => [(newId (siteOf 3 6) 0, ⟨0, 1, true, true, cellsU8 t.2⟩)]) (fun t => t.1) ⟨n, []⟩ ⟨hn, rfl⟩ ?_ ?_ ?_
  · exact ⟨.same _ rfl, .any _, .any _, .sl _ _ _ _ _ _ _ rfl rfl rfl rfl, trivial⟩
  · exact ⟨renB_cl rfl rfl rfl rfl rfl rfl, trivial⟩
  rintro ⟨m, xs⟩ h0 ⟨hm, hI⟩
  dsimp only at hm hI ⊢
  have hl : xs.length ≤ 8 := by have h1 := congrArg List.length hI; have h2 := vb_len9 n hn; have h3 := vb_ne m; simp only [List.length_append] at h1; omega
  repeat (first | refine ao_e rfl rfl rfl rfl rfl ?_ | refine ao_eff (v := V.val (Value.bool true)) (ups := []) rfl rfl rfl rfl ?_ | refine ao_eff (v := V.val (Value.bool false)) (ups := []) rfl rfl rfl rfl ?_ | refine aw_seq ?_ | refine aw_region ?_ | refine aw_block ?_ | refine ao_nil ⟨fun h => (Bool.false_ne_true h).elim, ?_⟩ | refine ao_nil ⟨fun _ => ⟨by kernel_rfl, by kernel_rfl⟩, ?_⟩ | refine ao_skip rfl rfl rfl ?_ | refine aw_true rfl ?_ | refine aw_false rfl ?_ | refine aw_skip ?_ | refine aw_exit ?_)
  refine ao_dec rfl rfl rfl rfl (fun hb => ?_) (fun hb => ?_)
  · have hb : ¬ m < 128 := by omega
    rw [vb_big hb] at hI
    repeat (first | refine ao_eff (v := V.val (Value.bool true)) (ups := []) rfl rfl rfl rfl ?_ | refine ao_eff (v := V.val (Value.bool false)) (ups := []) rfl rfl rfl rfl ?_ | refine aw_seq ?_ | refine aw_region ?_ | refine aw_block ?_ | refine ao_nil ⟨fun h => (Bool.false_ne_true h).elim, ?_⟩ | refine ao_nil ⟨fun _ => ⟨by kernel_rfl, by kernel_rfl⟩, ?_⟩ | refine aw_true rfl ?_ | refine aw_false rfl ?_ | refine aw_skip ?_ | refine aw_exit ?_)
    iterate 4 refine ao_e rfl rfl rfl rfl rfl ?_
    refine ao_is ((m % 128 + 128 : Nat) : Int) rfl rfl rfl rfl ?_ ?_
    · have := or_128 (n := (m : Int)) (by omega) (by omega)
      rw [wr8]
      refine Eq.trans ?_ (this.trans (by omega))
      rfl
    refine ao_e rfl rfl rfl rfl rfl ?_
    refine ao_eff rfl rfl rfl (ef_push u8 xs ((m % 128 + 128 : Nat) : Int) 1 rfl rfl rfl rfl rfl rfl rfl rfl rfl (by omega)) ?_
    refine ao_e rfl rfl rfl rfl rfl ?_
    repeat (first | refine ao_eff (v := V.val (Value.bool true)) (ups := []) rfl rfl rfl rfl ?_ | refine ao_eff (v := V.val (Value.bool false)) (ups := []) rfl rfl rfl rfl ?_ | refine aw_seq ?_ | refine aw_region ?_ | refine aw_block ?_ | refine ao_nil ⟨fun h => (Bool.false_ne_true h).elim, ?_⟩ | refine ao_nil ⟨fun _ => ⟨by kernel_rfl, by kernel_rfl⟩, ?_⟩ | refine aw_true rfl ?_ | refine aw_false rfl ?_ | refine aw_skip ?_ | refine aw_exit ?_)
    refine ao_e rfl rfl rfl rfl rfl ?_
    refine ao_is ((m / 128 : Nat) : Int) rfl rfl rfl rfl ?_ ?_
    · show Int.fdiv (m : Int) 128 = _
      rw [Int.fdiv_eq_ediv_of_nonneg _ (by decide)]; omega
    repeat (first | refine ao_e rfl rfl rfl rfl rfl ?_ | refine ao_eff (v := V.val (Value.bool true)) (ups := []) rfl rfl rfl rfl ?_ | refine ao_eff (v := V.val (Value.bool false)) (ups := []) rfl rfl rfl rfl ?_ | refine aw_seq ?_ | refine aw_region ?_ | refine aw_block ?_ | refine ao_nil ⟨fun h => (Bool.false_ne_true h).elim, ?_⟩ | refine ao_nil ⟨fun _ => ⟨by kernel_rfl, by kernel_rfl⟩, ?_⟩ | refine ao_skip rfl rfl rfl ?_ | refine aw_true rfl ?_ | refine aw_false rfl ?_ | refine aw_skip ?_ | refine aw_exit ?_)
    exact ⟨(m / 128, xs ++ [((m % 128 + 128 : Nat) : Int)]), ⟨by omega, by simpa using hI⟩, by dsimp only; omega, ⟨.same _ rfl, .any _, .any _, .sl _ _ _ _ _ _ _ rfl rfl rfl rfl, trivial⟩, ⟨renB_cl rfl rfl rfl rfl rfl rfl, trivial⟩⟩
  · have hb : m < 128 := by omega
    rw [vb_small hb] at hI
    repeat (first | refine ao_eff (v := V.val (Value.bool true)) (ups := []) rfl rfl rfl rfl ?_ | refine ao_eff (v := V.val (Value.bool false)) (ups := []) rfl rfl rfl rfl ?_ | refine aw_seq ?_ | refine aw_region ?_ | refine aw_block ?_ | refine ao_nil ⟨fun h => (Bool.false_ne_true h).elim, ?_⟩ | refine ao_nil ⟨fun _ => ⟨by kernel_rfl, by kernel_rfl⟩, ?_⟩ | refine aw_true rfl ?_ | refine aw_false rfl ?_ | refine aw_skip ?_ | refine aw_exit ?_)
    iterate 2 refine ao_e rfl rfl rfl rfl rfl ?_
    refine ao_is (m : Int) rfl rfl rfl rfl ?_ ?_
    · rw [wr8]; omega
    refine ao_e rfl rfl rfl rfl rfl ?_
    refine ao_eff rfl rfl rfl (ef_push u8 xs (m : Int) 1 rfl rfl rfl rfl rfl rfl rfl rfl rfl (by omega)) ?_
    refine ao_eff rfl rfl rfl (ef_str8 (xs ++ [(m : Int)]) rfl rfl rfl rfl rfl rfl rfl) ?_
    repeat (first | refine ao_e rfl rfl rfl rfl rfl ?_ | refine ao_eff (v := V.val (Value.bool true)) (ups := []) rfl rfl rfl rfl ?_ | refine ao_eff (v := V.val (Value.bool false)) (ups := []) rfl rfl rfl rfl ?_ | refine aw_seq ?_ | refine aw_region ?_ | refine aw_block ?_ | refine ao_nil ⟨fun h => (Bool.false_ne_true h).elim, ?_⟩ | refine ao_nil ⟨fun _ => ⟨by kernel_rfl, by kernel_rfl⟩, ?_⟩ | refine ao_skip rfl rfl rfl ?_ | refine aw_true rfl ?_ | refine aw_false rfl ?_ | refine aw_skip ?_ | refine aw_exit ?_)
    refine aw_ret ⟨.inr rfl, _, _, _, _, _, rfl, rfl, rfl, rfl, ?_, rfl⟩
    rw [hI]; rfl
theorem refText (s : ByteArray) (hs : s.size < 9223372036854775) : AF Tryz.prog X 84 [vs s] (vs (strOfNums (txB s))) := by
  have h := refPut (X := X) s.size (by omega)
  refine ac_mk (by kernel_rfl) Tryz.func84 rfl (lb rfl) rfl rfl ?_
  repeat (first | refine ao_e rfl rfl rfl rfl rfl ?_ | refine ao_eff (v := V.val (Value.bool true)) (ups := []) rfl rfl rfl rfl ?_ | refine ao_eff (v := V.val (Value.bool false)) (ups := []) rfl rfl rfl rfl ?_ | refine aw_seq ?_ | refine aw_region ?_ | refine aw_block ?_ | refine ao_nil ⟨fun h => (Bool.false_ne_true h).elim, ?_⟩ | refine ao_nil ⟨fun _ => ⟨by kernel_rfl, by kernel_rfl⟩, ?_⟩ | refine ao_skip rfl rfl rfl ?_ | refine aw_true rfl ?_ | refine aw_false rfl ?_ | refine aw_skip ?_ | refine aw_exit ?_)
  refine ao_fun rfl rfl rfl rfl rfl rfl h ?_
  repeat (first | refine ao_e rfl rfl rfl rfl rfl ?_ | refine ao_eff (v := V.val (Value.bool true)) (ups := []) rfl rfl rfl rfl ?_ | refine ao_eff (v := V.val (Value.bool false)) (ups := []) rfl rfl rfl rfl ?_ | refine aw_seq ?_ | refine aw_region ?_ | refine aw_block ?_ | refine ao_nil ⟨fun h => (Bool.false_ne_true h).elim, ?_⟩ | refine ao_nil ⟨fun _ => ⟨by kernel_rfl, by kernel_rfl⟩, ?_⟩ | refine ao_skip rfl rfl rfl ?_ | refine aw_true rfl ?_ | refine aw_false rfl ?_ | refine aw_skip ?_ | refine aw_exit ?_)
  refine ao_e rfl rfl rfl rfl (ef_cat (by rw [strOfNums_size]; have := vb_len9 s.size (by omega); omega)) ?_
  repeat (first | refine ao_e rfl rfl rfl rfl rfl ?_ | refine ao_eff (v := V.val (Value.bool true)) (ups := []) rfl rfl rfl rfl ?_ | refine ao_eff (v := V.val (Value.bool false)) (ups := []) rfl rfl rfl rfl ?_ | refine aw_seq ?_ | refine aw_region ?_ | refine aw_block ?_ | refine ao_nil ⟨fun h => (Bool.false_ne_true h).elim, ?_⟩ | refine ao_nil ⟨fun _ => ⟨by kernel_rfl, by kernel_rfl⟩, ?_⟩ | refine ao_skip rfl rfl rfl ?_ | refine aw_true rfl ?_ | refine aw_false rfl ?_ | refine aw_skip ?_ | refine aw_exit ?_)
  refine aw_ret ⟨.inr rfl, _, _, _, _, _, rfl, rfl, rfl, rfl, ?_, rfl⟩
  unfold txB
  rw [str_append, str_bytesOf]; rfl
/-- What the document's taking of a number tells. -/
def takeB (o : Option (Int × List Int)) : V := match o with
  | some (m, r) => .tup [vi m, vs (strOfNums r), vo true]
  | none => .tup [vi 0, vs ⟨#[]⟩, vo false]
theorem refTake (s : ByteArray) (hs : s.size < 9223372036854775807) : AF Tryz.prog X 62 [vs s] (takeB (pk (bytesOf s))) := by
  refine ac_mk (by kernel_rfl) Tryz.func62 rfl (lb rfl) rfl ?_ ?_
  · cases pk (bytesOf s) <;> rfl
  repeat (first | refine ao_e rfl rfl rfl rfl rfl ?_ | refine ao_eff (v := V.val (Value.bool true)) (ups := []) rfl rfl rfl rfl ?_ | refine ao_eff (v := V.val (Value.bool false)) (ups := []) rfl rfl rfl rfl ?_ | refine aw_seq ?_ | refine aw_region ?_ | refine aw_block ?_ | refine ao_nil ⟨fun h => (Bool.false_ne_true h).elim, ?_⟩ | refine ao_nil ⟨fun _ => ⟨by kernel_rfl, by kernel_rfl⟩, ?_⟩ | refine ao_skip rfl rfl rfl ?_ | refine aw_true rfl ?_ | refine aw_false rfl ?_ | refine aw_skip ?_ | refine aw_exit ?_)
  refine aw_rounds (T := Nat × Int) (fun t => t.1 ≤ 5 ∧ t.1 ≤ s.size ∧ (∀ c ∈ (bytesOf s).take t.1, 128 ≤ c) ∧ t.2 = pval ((bytesOf s).take t.1) ∧ 0 ≤ t.2 ∧ t.2 < 128 ^ t.1 ∧ tk t.1 t.2 ((bytesOf s).drop t.1) = pk (bytesOf s)) (fun t => [vs s, .any, .any, .any, .any, vi t.2, vi t.1]) (fun _ => []) (fun t => 5 - t.1) ⟨0, 0⟩ ⟨by omega, by omega, by simp, by simp [pval], by omega, by simp, ?_⟩ ?_ ?_ ?_
  · exact tk_pk _ (bytesOf_bytes s)
  · exact ⟨.same _ rfl, .any _, .any _, .any _, .any _, .same _ rfl, .same _ rfl, trivial⟩
  · trivial
  rintro ⟨i, x⟩ h0 ⟨hi, his, hpre, hv, hx, hx1, hI⟩
  dsimp only at hi his hpre hv hx hx1 hI ⊢
  have stop : i = 5 ∨ ¬ i < s.size → pk (bytesOf s) = none := by
    intro h
    rw [← hI]
    cases hd : List.drop i (bytesOf s) with
    | nil => rfl
    | cons c r =>
      have hl : i < s.size := by
        have := congrArg List.length hd
        rw [List.length_drop, bytesOf_length, List.length_cons] at this
        omega
      simp only [tk]; rw [if_pos (by omega)]
  repeat (first | refine ao_e rfl rfl rfl rfl rfl ?_ | refine ao_eff (v := V.val (Value.bool true)) (ups := []) rfl rfl rfl rfl ?_ | refine ao_eff (v := V.val (Value.bool false)) (ups := []) rfl rfl rfl rfl ?_ | refine aw_seq ?_ | refine aw_region ?_ | refine aw_block ?_ | refine ao_nil ⟨fun h => (Bool.false_ne_true h).elim, ?_⟩ | refine ao_nil ⟨fun _ => ⟨by kernel_rfl, by kernel_rfl⟩, ?_⟩ | refine ao_skip rfl rfl rfl ?_ | refine aw_true rfl ?_ | refine aw_false rfl ?_ | refine aw_skip ?_ | refine aw_exit ?_)
  refine ao_dec rfl rfl rfl rfl (fun hb => ?_) (fun hb => ?_)
  · have hi5 := hb
    repeat (first | refine ao_e rfl rfl rfl rfl rfl ?_ | refine ao_eff (v := V.val (Value.bool true)) (ups := []) rfl rfl rfl rfl ?_ | refine ao_eff (v := V.val (Value.bool false)) (ups := []) rfl rfl rfl rfl ?_ | refine aw_seq ?_ | refine aw_region ?_ | refine aw_block ?_ | refine ao_nil ⟨fun h => (Bool.false_ne_true h).elim, ?_⟩ | refine ao_nil ⟨fun _ => ⟨by kernel_rfl, by kernel_rfl⟩, ?_⟩ | refine ao_skip rfl rfl rfl ?_ | refine aw_true rfl ?_ | refine aw_false rfl ?_ | refine aw_skip ?_ | refine aw_exit ?_)
    refine ao_dec rfl rfl rfl rfl (fun hb => ?_) (fun hb => ?_)
    · obtain ⟨b, hd, hb⟩ := bt_get s i (by omega)
      have hbi : s[Int.toNat (i : Int)]? = some b := by rw [Int.toNat_natCast]; exact hb
      have hi5 : i < 5 := by omega
      have hbb : isByte (b.toNat : Int) := by have := b.toNat_lt; exact ⟨by omega, by omega⟩
      have hy := or_shl hx hx1 hi5 hbb
      rw [hd] at hI
      simp only [tk] at hI
      rw [if_neg (by omega)] at hI
      have hw7 : wrap64 (7 * (i : Int)) = 7 * (i : Int) := w64 (by omega) (by omega)
      have hp : (0 : Int) ≤ 128 ^ i := Int.pow_nonneg (by decide)
      have hlen : ((bytesOf s).take i).length = i := by rw [List.length_take, bytesOf_length]; omega
      have htake : (bytesOf s).take (i + 1) = (bytesOf s).take i ++ [(b.toNat : Int)] := by
        have h1 := List.take_append_drop i (bytesOf s)
        conv => lhs; rw [← h1]
        rw [List.take_append, hlen, hd, List.take_of_length_le (by omega)]
        have : i + 1 - i = 1 := by omega
        rw [this]; rfl
      repeat (first | refine ao_e rfl rfl rfl rfl rfl ?_ | refine ao_eff (v := V.val (Value.bool true)) (ups := []) rfl rfl rfl rfl ?_ | refine ao_eff (v := V.val (Value.bool false)) (ups := []) rfl rfl rfl rfl ?_ | refine aw_seq ?_ | refine aw_region ?_ | refine aw_block ?_ | refine ao_nil ⟨fun h => (Bool.false_ne_true h).elim, ?_⟩ | refine ao_nil ⟨fun _ => ⟨by kernel_rfl, by kernel_rfl⟩, ?_⟩ | refine ao_skip rfl rfl rfl ?_ | refine aw_true rfl ?_ | refine aw_false rfl ?_ | refine aw_skip ?_ | refine aw_exit ?_)
      refine ao_e rfl rfl rfl rfl (ef_index rfl (by omega) hbi) ?_
      repeat (first | refine ao_e rfl rfl rfl rfl rfl ?_ | refine ao_eff (v := V.val (Value.bool true)) (ups := []) rfl rfl rfl rfl ?_ | refine ao_eff (v := V.val (Value.bool false)) (ups := []) rfl rfl rfl rfl ?_ | refine aw_seq ?_ | refine aw_region ?_ | refine aw_block ?_ | refine ao_nil ⟨fun h => (Bool.false_ne_true h).elim, ?_⟩ | refine ao_nil ⟨fun _ => ⟨by kernel_rfl, by kernel_rfl⟩, ?_⟩ | refine ao_skip rfl rfl rfl ?_ | refine aw_true rfl ?_ | refine aw_false rfl ?_ | refine aw_skip ?_ | refine aw_exit ?_)
      refine ao_e rfl rfl rfl rfl (ef_shl (by rw [wr64, hw7]; omega)) ?_
      refine ao_is (x + b.toNat % 128 * 128 ^ i) rfl rfl rfl rfl ?_ ?_
      · rw [← hy]; simp only [← wr64]; rfl
      repeat (first | refine ao_e rfl rfl rfl rfl rfl ?_ | refine ao_eff (v := V.val (Value.bool true)) (ups := []) rfl rfl rfl rfl ?_ | refine ao_eff (v := V.val (Value.bool false)) (ups := []) rfl rfl rfl rfl ?_ | refine aw_seq ?_ | refine aw_region ?_ | refine aw_block ?_ | refine ao_nil ⟨fun h => (Bool.false_ne_true h).elim, ?_⟩ | refine ao_nil ⟨fun _ => ⟨by kernel_rfl, by kernel_rfl⟩, ?_⟩ | refine ao_skip rfl rfl rfl ?_ | refine aw_true rfl ?_ | refine aw_false rfl ?_ | refine aw_skip ?_ | refine aw_exit ?_)
      refine ao_e rfl rfl rfl rfl (ef_index rfl (by omega) hbi) ?_
      repeat (first | refine ao_e rfl rfl rfl rfl rfl ?_ | refine ao_eff (v := V.val (Value.bool true)) (ups := []) rfl rfl rfl rfl ?_ | refine ao_eff (v := V.val (Value.bool false)) (ups := []) rfl rfl rfl rfl ?_ | refine aw_seq ?_ | refine aw_region ?_ | refine aw_block ?_ | refine ao_nil ⟨fun h => (Bool.false_ne_true h).elim, ?_⟩ | refine ao_nil ⟨fun _ => ⟨by kernel_rfl, by kernel_rfl⟩, ?_⟩ | refine ao_skip rfl rfl rfl ?_ | refine aw_true rfl ?_ | refine aw_false rfl ?_ | refine aw_skip ?_ | refine aw_exit ?_)
      refine ao_dec rfl rfl rfl rfl (fun hb => ?_) (fun hb => ?_)
      · have h128 : ¬ (b.toNat : Int) ≥ 128 := by omega
        rw [if_neg h128] at hI
        have e : (b.toNat : Int) % 128 = b.toNat := by have := hbb.1; omega
        rw [e]
        have hnn : 0 ≤ (b.toNat : Int) * 128 ^ i := Int.mul_nonneg (by omega) hp
        have hy0 : 0 ≤ x + (b.toNat : Int) * 128 ^ i := by omega
        have hiff := vb_iff ((bytesOf s).take i) b.toNat hpre ((bytesOf_bytes s).take i) hbb.1 (by omega)
        rw [← hv, hlen, ← htake] at hiff
        have hz : (bytesOf s).take i ≠ [] ↔ 0 < i := by
          constructor
          · intro h; rcases Nat.eq_zero_or_pos i with h0 | h0
            · exact absurd (by rw [h0]; rfl) h
            · exact h0
          · intro h h2; rw [h2] at hlen; simp at hlen; omega
        generalize x + (b.toNat : Int) * 128 ^ i = y at *
        repeat (first | refine ao_e rfl rfl rfl rfl rfl ?_ | refine ao_eff (v := V.val (Value.bool true)) (ups := []) rfl rfl rfl rfl ?_ | refine ao_eff (v := V.val (Value.bool false)) (ups := []) rfl rfl rfl rfl ?_ | refine aw_seq ?_ | refine aw_region ?_ | refine aw_block ?_ | refine ao_nil ⟨fun h => (Bool.false_ne_true h).elim, ?_⟩ | refine ao_nil ⟨fun _ => ⟨by kernel_rfl, by kernel_rfl⟩, ?_⟩ | refine ao_skip rfl rfl rfl ?_ | refine aw_true rfl ?_ | refine aw_false rfl ?_ | refine aw_skip ?_ | refine aw_exit ?_)
        refine ao_dec rfl rfl rfl rfl (fun hb => ?_) (fun hb => ?_)
        · repeat (first | refine ao_e rfl rfl rfl rfl rfl ?_ | refine ao_eff (v := V.val (Value.bool true)) (ups := []) rfl rfl rfl rfl ?_ | refine ao_eff (v := V.val (Value.bool false)) (ups := []) rfl rfl rfl rfl ?_ | refine aw_seq ?_ | refine aw_region ?_ | refine aw_block ?_ | refine ao_nil ⟨fun h => (Bool.false_ne_true h).elim, ?_⟩ | refine ao_nil ⟨fun _ => ⟨by kernel_rfl, by kernel_rfl⟩, ?_⟩ | refine ao_skip rfl rfl rfl ?_ | refine aw_true rfl ?_ | refine aw_false rfl ?_ | refine aw_skip ?_ | refine aw_exit ?_)
          refine aw_ret ⟨.inr rfl, _, _, _, _, _, rfl, rfl, rfl, rfl, ?_, rfl⟩
          rw [← hI, if_pos (by omega)]; rfl
        · have hput := refPut (X := X) y.toNat (by omega)
          rw [Int.toNat_of_nonneg hy0] at hput
          repeat (first | refine ao_e rfl rfl rfl rfl rfl ?_ | refine ao_eff (v := V.val (Value.bool true)) (ups := []) rfl rfl rfl rfl ?_ | refine ao_eff (v := V.val (Value.bool false)) (ups := []) rfl rfl rfl rfl ?_ | refine aw_seq ?_ | refine aw_region ?_ | refine aw_block ?_ | refine ao_nil ⟨fun h => (Bool.false_ne_true h).elim, ?_⟩ | refine ao_nil ⟨fun _ => ⟨by kernel_rfl, by kernel_rfl⟩, ?_⟩ | refine ao_skip rfl rfl rfl ?_ | refine aw_true rfl ?_ | refine aw_false rfl ?_ | refine aw_skip ?_ | refine aw_exit ?_)
          refine ao_fun rfl rfl rfl rfl rfl rfl hput ?_
          repeat (first | refine ao_e rfl rfl rfl rfl rfl ?_ | refine ao_eff (v := V.val (Value.bool true)) (ups := []) rfl rfl rfl rfl ?_ | refine ao_eff (v := V.val (Value.bool false)) (ups := []) rfl rfl rfl rfl ?_ | refine aw_seq ?_ | refine aw_region ?_ | refine aw_block ?_ | refine ao_nil ⟨fun h => (Bool.false_ne_true h).elim, ?_⟩ | refine ao_nil ⟨fun _ => ⟨by kernel_rfl, by kernel_rfl⟩, ?_⟩ | refine ao_skip rfl rfl rfl ?_ | refine aw_true rfl ?_ | refine aw_false rfl ?_ | refine aw_skip ?_ | refine aw_exit ?_)
          refine ao_as (vs (strOfNums ((bytesOf s).take (i + 1)))) rfl rfl rfl (ef_str (l := 0) (n := i + 1) (nb_hi (l := i + 1) (by rw [wr64, w64 (by omega) (by omega)]; omega)) rfl rfl (by omega) (by omega)) (by rw [prefix_str]) ?_
          refine ao_nstr rfl rfl rfl rfl (fun hb => ?_) (fun hb => ?_)
          · have hs2 := congrArg bytesOf hb
            rw [bytesOf_str (vb_bytes _), bytesOf_str ((bytesOf_bytes s).take _)] at hs2
            have hz2 := hiff.1 hs2
            repeat (first | refine ao_e rfl rfl rfl rfl rfl ?_ | refine ao_eff (v := V.val (Value.bool true)) (ups := []) rfl rfl rfl rfl ?_ | refine ao_eff (v := V.val (Value.bool false)) (ups := []) rfl rfl rfl rfl ?_ | refine aw_seq ?_ | refine aw_region ?_ | refine aw_block ?_ | refine ao_nil ⟨fun h => (Bool.false_ne_true h).elim, ?_⟩ | refine ao_nil ⟨fun _ => ⟨by kernel_rfl, by kernel_rfl⟩, ?_⟩ | refine ao_skip rfl rfl rfl ?_ | refine aw_true rfl ?_ | refine aw_false rfl ?_ | refine aw_skip ?_ | refine aw_exit ?_)
            refine ao_e rfl rfl rfl rfl (ef_str (l := i + 1) (n := s.size) (nb_lo (l := i + 1) (by rw [wr64, w64 (by omega) (by omega)]; omega)) rfl rfl (by omega) (by omega)) ?_
            repeat (first | refine ao_e rfl rfl rfl rfl rfl ?_ | refine ao_eff (v := V.val (Value.bool true)) (ups := []) rfl rfl rfl rfl ?_ | refine ao_eff (v := V.val (Value.bool false)) (ups := []) rfl rfl rfl rfl ?_ | refine aw_seq ?_ | refine aw_region ?_ | refine aw_block ?_ | refine ao_nil ⟨fun h => (Bool.false_ne_true h).elim, ?_⟩ | refine ao_nil ⟨fun _ => ⟨by kernel_rfl, by kernel_rfl⟩, ?_⟩ | refine ao_skip rfl rfl rfl ?_ | refine aw_true rfl ?_ | refine aw_false rfl ?_ | refine aw_skip ?_ | refine aw_exit ?_)
            refine aw_ret ⟨.inr rfl, _, _, _, _, _, rfl, rfl, rfl, rfl, ?_, rfl⟩
            rw [← hI, if_neg (by rintro (h | h); omega; exact hz2 ⟨hz.2 h.1, h.2⟩), extract_str]; rfl
          · have hs2 := hb
            have hz2 : (bytesOf s).take i ≠ [] ∧ (b.toNat : Int) = 0 := by
              refine Classical.not_not.1 (fun h => hs2 ?_)
              rw [hiff.2 h]
            repeat (first | refine ao_e rfl rfl rfl rfl rfl ?_ | refine ao_eff (v := V.val (Value.bool true)) (ups := []) rfl rfl rfl rfl ?_ | refine ao_eff (v := V.val (Value.bool false)) (ups := []) rfl rfl rfl rfl ?_ | refine aw_seq ?_ | refine aw_region ?_ | refine aw_block ?_ | refine ao_nil ⟨fun h => (Bool.false_ne_true h).elim, ?_⟩ | refine ao_nil ⟨fun _ => ⟨by kernel_rfl, by kernel_rfl⟩, ?_⟩ | refine ao_skip rfl rfl rfl ?_ | refine aw_true rfl ?_ | refine aw_false rfl ?_ | refine aw_skip ?_ | refine aw_exit ?_)
            refine aw_ret ⟨.inr rfl, _, _, _, _, _, rfl, rfl, rfl, rfl, ?_, rfl⟩
            rw [← hI, if_pos (.inr ⟨hz.1 hz2.1, hz2.2⟩)]; rfl
      · have h128 : (b.toNat : Int) ≥ 128 := by omega
        rw [if_pos h128] at hI
        have hs2 := pow_lt_step hx1 ⟨h128, hbb.2⟩
        have e : (b.toNat : Int) % 128 = b.toNat - 128 := by have := hbb.2; omega
        have hnn : 0 ≤ (b.toNat - 128 : Int) * 128 ^ i := Int.mul_nonneg (by omega) hp
        repeat (first | refine ao_e rfl rfl rfl rfl rfl ?_ | refine ao_eff (v := V.val (Value.bool true)) (ups := []) rfl rfl rfl rfl ?_ | refine ao_eff (v := V.val (Value.bool false)) (ups := []) rfl rfl rfl rfl ?_ | refine aw_seq ?_ | refine aw_region ?_ | refine aw_block ?_ | refine ao_nil ⟨fun h => (Bool.false_ne_true h).elim, ?_⟩ | refine ao_nil ⟨fun _ => ⟨by kernel_rfl, by kernel_rfl⟩, ?_⟩ | refine ao_skip rfl rfl rfl ?_ | refine aw_true rfl ?_ | refine aw_false rfl ?_ | refine aw_skip ?_ | refine aw_exit ?_)
        refine ⟨(i + 1, x + (b.toNat - 128) * 128 ^ i), ⟨by omega, by dsimp only; omega, ?_, ?_, by dsimp only; omega, hs2, hI⟩, by dsimp only; omega, ⟨.same _ rfl, .any _, .any _, .any _, .any _, ?_, ?_, trivial⟩, trivial⟩
        · dsimp only; rw [htake]
          intro c hc
          rcases List.mem_append.1 hc with hc | hc
          · exact hpre c hc
          · rw [List.mem_singleton.1 hc]; exact h128
        · dsimp only; rw [htake, pval_snoc, hlen, hv]
        · dsimp only; rw [← e]; exact .same _ rfl
        · dsimp only; rw [show ((i + 1 : Nat) : Int) = wrap64 (i + 1) by rw [w64 (by omega) (by omega)]; rfl]
          rw [← wr64]; exact .same _ rfl
    · repeat (first | refine ao_e rfl rfl rfl rfl rfl ?_ | refine ao_eff (v := V.val (Value.bool true)) (ups := []) rfl rfl rfl rfl ?_ | refine ao_eff (v := V.val (Value.bool false)) (ups := []) rfl rfl rfl rfl ?_ | refine aw_seq ?_ | refine aw_region ?_ | refine aw_block ?_ | refine ao_nil ⟨fun h => (Bool.false_ne_true h).elim, ?_⟩ | refine ao_nil ⟨fun _ => ⟨by kernel_rfl, by kernel_rfl⟩, ?_⟩ | refine ao_skip rfl rfl rfl ?_ | refine aw_true rfl ?_ | refine aw_false rfl ?_ | refine aw_skip ?_ | refine aw_exit ?_)
      refine aw_ret ⟨.inr rfl, _, _, _, _, _, rfl, rfl, rfl, rfl, ?_, rfl⟩
      rw [stop (.inr (by omega))]; rfl
  · repeat (first | refine ao_e rfl rfl rfl rfl rfl ?_ | refine ao_eff (v := V.val (Value.bool true)) (ups := []) rfl rfl rfl rfl ?_ | refine ao_eff (v := V.val (Value.bool false)) (ups := []) rfl rfl rfl rfl ?_ | refine aw_seq ?_ | refine aw_region ?_ | refine aw_block ?_ | refine ao_nil ⟨fun h => (Bool.false_ne_true h).elim, ?_⟩ | refine ao_nil ⟨fun _ => ⟨by kernel_rfl, by kernel_rfl⟩, ?_⟩ | refine ao_skip rfl rfl rfl ?_ | refine aw_true rfl ?_ | refine aw_false rfl ?_ | refine aw_skip ?_ | refine aw_exit ?_)
    refine aw_ret ⟨.inr rfl, _, _, _, _, _, rfl, rfl, rfl, rfl, ?_, rfl⟩
    rw [stop (.inl (by omega))]; rfl
end Go.Ai
