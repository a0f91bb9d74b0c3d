/- What the program's and the reference's number functions answer, by the lists of Vb. -/
import Derived.Test.YtcjedinpiedhcaaPEx
import Derived.Test.YtcjedinpiedhcaaVb
namespace Go.Proofs.YtcjedinpiedhcaaNumE
open Go.RowKit Go.Proofs.YtcjedinpiedhcaaW.PrintWords Go.Proofs.YtcjedinpiedhcaaW.PrintLast Go.Proofs.YtcjedinpiedhcaaW.PrintMore Go.Proofs.YtcjedinpiedhcaaVb Go.Proofs.Ytcjedinpiedhcaa.PE
set_option linter.unusedVariables false

/-- An end that is known, whatever the rounds beyond some. -/
theorem Ev.cong {α : Type} {g : Nat → Option α} {r r' : α} (h : Ev g r) (e : r = r') : Ev g r' := e ▸ h
theorem Ev.some_of {α : Type} {o : Option α} {r : α} (h : o = some r) : Ev (fun _ => o) r := ⟨0, fun _ _ => h⟩
/-- A call, then the rest. -/
theorem Ev.call {α β : Type} {g : Nat → Option α} {f : Nat → α → Option β} {a : α} {r : β} (h : Ev g a) (k : Ev (fun n => f n a) r) : Ev (fun n => (g n).bind (f n)) r := Ev.bind h k

theorem bytes_l0 (n : Nat) : n < 9223372036854775808 → ∀ xs : List Int, xs.length + (vb n).length < 140737488355328 → Ev (fun k => number_Bytes.l0 k (n : Int) xs) (strOfNums (xs ++ vb n)) := by
  induction n using Nat.strongRecOn with
  | _ n ih =>
    intro hn xs hx
    by_cases h : n < 128
    · rw [vb_small h] at hx ⊢
      simp only [List.length_singleton] at hx
      refine Ev.step (f := fun _ => some (strOfNums (xs ++ [(n : Int)]))) (fun k => ?_) (Ev.now _)
      simp only [number_Bytes.l0]
      rw [if_neg (by omega), if_pos (by omega), Int.emod_eq_of_lt (by omega) (by omega)]
    · rw [vb_big h] at hx ⊢
      simp only [List.length_cons] at hx
      have h2 := ih (n / 128) (by omega) (by omega) (xs ++ [((n % 128 + 128 : Nat) : Int)]) (by simp only [List.length_append, List.length_singleton]; omega)
      rw [List.append_assoc, List.singleton_append] at h2
      refine Ev.step (fun k => ?_) h2
      simp only [number_Bytes.l0]
      have e1 : wrap64 (Int.tdiv (n : Int) 128) = ((n / 128 : Nat) : Int) := by
        rw [Int.tdiv_eq_ediv_of_nonneg (by omega), w64 (by omega) (by omega)]; omega
      have e2 : (wrap64 ((Int.tmod (n : Int) 128) + 128)) % 256 = ((n % 128 + 128 : Nat) : Int) := by
        rw [Int.tmod_eq_emod_of_nonneg (by omega), w64 (by omega) (by omega)]; omega
      rw [if_pos (by omega), if_pos (by omega), e1, e2]

theorem bytes_ev (n : Nat) (hn : n < 9223372036854775808) : Ev (fun k => number_Bytes.f k (n : Int)) (strOfNums (vb n)) := by
  have := bytes_l0 n hn [] (by have := vb_len9 n hn; simp only [List.length_nil]; omega)
  exact this

theorem rput_l0 (n : Nat) : n < 9223372036854775808 → ∀ xs : List Int, xs.length + (vb n).length < 140737488355328 → Ev (fun k => lectionaryref1_Put.l0 k (n : Int) xs) (strOfNums (xs ++ vb n)) := by
  induction n using Nat.strongRecOn with
  | _ n ih =>
    intro hn xs hx
    by_cases h : n < 128
    · rw [vb_small h] at hx ⊢
      simp only [List.length_singleton] at hx
      refine Ev.step (f := fun _ => some (strOfNums (xs ++ [(n : Int)]))) (fun k => ?_) (Ev.now _)
      simp only [lectionaryref1_Put.l0]
      rw [if_neg (by omega), if_pos (by omega), Int.emod_eq_of_lt (by omega) (by omega)]
    · rw [vb_big h] at hx ⊢
      simp only [List.length_cons] at hx
      have h2 := ih (n / 128) (by omega) (by omega) (xs ++ [((n % 128 + 128 : Nat) : Int)]) (by simp only [List.length_append, List.length_singleton]; omega)
      rw [List.append_assoc, List.singleton_append] at h2
      refine Ev.step (fun k => ?_) h2
      simp only [lectionaryref1_Put.l0]
      have e1 : (n : Int) / 128 = ((n / 128 : Nat) : Int) := by omega
      have e2 : (Go.bits .or .i64 (Go.bits .and .i64 (n : Int) 127) 128) % 256 = ((n % 128 + 128 : Nat) : Int) := by
        rw [or_128 (by omega) (by omega)]; omega
      rw [if_pos (by omega), if_pos (by omega), e1, e2]

theorem rput_ev (n : Nat) (hn : n < 9223372036854775808) : Ev (fun k => lectionaryref1_Put.f k (n : Int)) (strOfNums (vb n)) := by
  have := rput_l0 n hn [] (by have := vb_len9 n hn; simp only [List.length_nil]; omega)
  exact this

theorem is_some (n : Int) : number_Is.f n = some (decide (0 ≤ n ∧ n ≤ 268435456)) := by
  unfold number_Is.f
  by_cases h : n ≥ 0
  · rw [if_pos h]; congr 1; simp only [decide_eq_decide]; omega
  · rw [if_neg h]; congr 1; symm; rw [decide_eq_false_iff_not]; omega
theorem num_some (n m : Int) : lectionaryref0_Num.f n m = some (decide (0 ≤ n ∧ n ≤ m)) := by
  unfold lectionaryref0_Num.f
  by_cases h : n ≥ 0
  · rw [if_pos h]; congr 1; simp only [decide_eq_decide]; omega
  · rw [if_neg h]; congr 1; symm; rw [decide_eq_false_iff_not]; omega

/-- What Put tells. -/
def putR (n : Int) : ByteArray × Int := if 0 ≤ n ∧ n ≤ 268435456 then (strOfNums (vb n.toNat), 0) else (⟨#[]⟩, 1)
theorem put_ev (n : Int) : Ev (fun k => number_Put.f k n) (putR n) := by
  unfold number_Put.f putR
  rw [is_some]
  simp only [Option.bind_some]
  by_cases h : 0 ≤ n ∧ n ≤ 268435456
  · rw [if_pos h]
    obtain ⟨m, rfl⟩ := Int.eq_ofNat_of_zero_le h.1
    simp only [h, decide_true, and_self, if_true]
    exact Ev.bind (bytes_ev m (by omega)) (Ev.now _)
  · rw [if_neg h]
    simp only [h, decide_false, Bool.false_eq_true, if_false]
    exact Ev.now _

/-- What Take tells. -/
def takeR (l : List Int) : Int × ByteArray × Int := match pk l with
  | some (m, r) => (m, strOfNums r, 0)
  | none => (0, ⟨#[]⟩, 7)
def rtakeR (l : List Int) : Int × ByteArray × Bool := match pk l with
  | some (m, r) => (m, strOfNums r, true)
  | none => (0, ⟨#[]⟩, false)

theorem mn5 (n : Nat) : mn (n : Int) 5 = ((min n 5 : Nat) : Int) := by unfold mn; split <;> omega

theorem pow_lt_step {x b : Int} {i : Nat} (hx1 : x < 128 ^ i) (hb : 128 ≤ b ∧ b ≤ 255) : x + (b - 128) * 128 ^ i < 128 ^ (i + 1) := by
  have h1 : (b - 128) * 128 ^ i ≤ 127 * 128 ^ i := Int.mul_le_mul_of_nonneg_right (by omega) (Int.pow_nonneg (by decide))
  rw [Int.pow_succ]
  omega

set_option maxHeartbeats 1000000 in
theorem take_l0 (s : ByteArray) (hs : s.size < 9223372036854775807) : ∀ (j i : Nat) (x : Int), i + j = 5 → 0 ≤ x → x < 128 ^ i →
    Ev (fun k => number_Take.l0 k s x (mn (s.size : Int) 5) (i : Int)) (match tk i x ((bytesOf s).drop i) with | some (m, r) => (m, strOfNums r, 0) | none => (0, ⟨#[]⟩, 7)) := by
  intro j
  induction j with
  | zero =>
    intro i x hi hx hx1
    obtain rfl : i = 5 := by omega
    refine Ev.step (f := fun _ => some (0, ⟨#[]⟩, 7)) (fun k => ?_) ?_
    · simp only [number_Take.l0]
      rw [if_neg (by rw [mn5]; omega)]
    · refine Ev.cong (Ev.now _) ?_
      cases (bytesOf s).drop 5 with
      | nil => rfl
      | cons b r => simp [tk]
  | succ j ih =>
    intro i x hi hx hx1
    by_cases hl : i < s.size
    · obtain ⟨b, hd, hbt, hb⟩ := bt_get s i hl
      have ⟨hb0, hb1⟩ := hb
      have hy := or_shl hx hx1 (by omega) hb
      rw [hd]
      simp only [tk]
      rw [if_neg (show ¬ 5 ≤ i by omega)]
      have hw : wrap64 ((i : Int) + 1) = ((i + 1 : Nat) : Int) := by rw [w64 (by omega) (by omega)]; rfl
      have hw7 : wrap64 (7 * (i : Int)) = 7 * (i : Int) := w64 (by omega) (by omega)
      have hlt : (i : Int) < mn (s.size : Int) 5 := by rw [mn5]; omega
      have hp : (0 : Int) ≤ 128 ^ i := Int.pow_nonneg (by decide)
      have hnn : 0 ≤ x + b % 128 * 128 ^ i := by
        have : 0 ≤ b % 128 * 128 ^ i := Int.mul_nonneg (by omega) hp
        omega
      by_cases hb128 : b ≥ 128
      · rw [if_pos hb128]
        have e : b % 128 = b - 128 := by omega
        rw [e] at hy
        have h2 := ih (i + 1) (x + (b - 128) * 128 ^ i) (by omega) (by rw [e] at hnn; exact hnn) (pow_lt_step hx1 ⟨hb128, hb1⟩)
        refine Ev.step (fun k => ?_) h2
        simp only [number_Take.l0, hbt]
        rw [if_pos hlt, if_pos (by omega), if_pos (by omega), if_pos (by rw [hw7]; omega), if_pos hb128, hy, hw]
      · rw [if_neg hb128]
        have e : b % 128 = b := by omega
        rw [e] at hy hnn
        refine Ev.step (f := fun _ => some (match (if x + b * 128 ^ i > 268435456 ∨ 0 < i ∧ b = 0 then none else some (x + b * 128 ^ i, (bytesOf s).drop (i + 1)) : Option (Int × List Int)) with | some (m, r) => (m, strOfNums r, 0) | none => (0, ⟨#[]⟩, 7))) (fun k => ?_) (Ev.now _)
        simp only [number_Take.l0, hbt]
        rw [if_pos hlt, if_pos (by omega), if_pos (by omega), if_pos (by rw [hw7]; omega), if_neg hb128, hy, hw, is_some]
        simp only [Option.bind_some]
        have h0 : (0 : Int) ≤ ((i + 1 : Nat) : Int) := by omega
        have h1 : ((i + 1 : Nat) : Int) ≤ (s.size : Int) := by omega
        have hex : s.extract (((i + 1 : Nat) : Int) : Int).toNat s.size = strOfNums ((bytesOf s).drop (i + 1)) := by
          rw [Int.toNat_natCast]; exact extract_str s (i + 1)
        simp only [if_pos h0, if_pos h1, hex]
        by_cases h7 : x + b * 128 ^ i > 268435456
        · rw [if_neg (c := (decide (0 ≤ x + b * 128 ^ i ∧ x + b * 128 ^ i ≤ 268435456) = true)) (by simp; omega), if_pos (.inl h7)]
        · rw [if_pos (c := (decide (0 ≤ x + b * 128 ^ i ∧ x + b * 128 ^ i ≤ 268435456) = true)) (by simp; omega)]
          by_cases hi0 : (i : Int) > 0
          · rw [if_pos hi0]
            by_cases hz : b = 0
            · rw [if_pos hz, if_pos (.inr ⟨by omega, hz⟩)]
            · rw [if_neg hz, if_neg (by rintro (h | h); exact h7 h; exact hz h.2)]
          · rw [if_neg hi0, if_neg (by rintro (h | h); exact h7 h; omega)]
    · have hd : (bytesOf s).drop i = [] := List.drop_eq_nil_of_le (by rw [bytesOf_length]; omega)
      rw [hd]
      refine Ev.step (f := fun _ => some (0, ⟨#[]⟩, 7)) (fun k => ?_) (Ev.now _)
      simp only [number_Take.l0]
      rw [if_neg (by rw [mn5]; omega)]

theorem take_ev (s : ByteArray) (hs : s.size < 9223372036854775807) : Ev (fun k => number_Take.f k s) (takeR (bytesOf s)) := by
  have := take_l0 s hs 5 0 0 (by omega) (by omega) (by simp)
  rw [List.drop_zero, tk_pk _ (bytesOf_bytes s)] at this
  exact this

set_option maxHeartbeats 1000000 in
theorem rtake_l0 (s : ByteArray) (hs : s.size < 9223372036854775807) : ∀ (j i : Nat) (x : Int), i + j = 5 → (hi : i ≤ s.size) → (∀ c ∈ (bytesOf s).take i, 128 ≤ c) → Aside0 (x = val ((bytesOf s).take i)) → 0 ≤ x → x < 128 ^ i →
    Ev (fun k => lectionaryref1_Take.l0 k s x (i : Int)) (match tk i x ((bytesOf s).drop i) with | some (m, r) => (m, strOfNums r, true) | none => (0, ⟨#[]⟩, false)) := by
  intro j
  induction j with
  | zero =>
    intro i x hi _ _ _ hx hx1
    obtain rfl : i = 5 := by omega
    refine Ev.step (f := fun k => lectionaryref1_Take.j1 k s x ((5 : Nat) : Int) false) (fun k => ?_) ?_
    · simp only [lectionaryref1_Take.l0]
      rw [if_neg (by omega)]
    · refine Ev.step (f := fun _ => some (0, ⟨#[]⟩, false)) (fun k => ?_) ?_
      · simp only [lectionaryref1_Take.j1]
        rw [if_neg (by simp)]
      · refine Ev.cong (Ev.now _) ?_
        cases (bytesOf s).drop 5 with
        | nil => rfl
        | cons b r => simp [tk]
  | succ j ih =>
    intro i x hi his hpre hv hx hx1
    refine Ev.step (f := fun k => lectionaryref1_Take.j1 k s x (i : Int) (decide ((i : Int) < (s.size : Int)))) (fun k => by simp only [lectionaryref1_Take.l0]; rw [if_pos (by omega)]) ?_
    by_cases hl : i < s.size
    · obtain ⟨b, hd, hbt, hb⟩ := bt_get s i hl
      have ⟨hb0, hb1⟩ := hb
      have hy := or_shl hx hx1 (by omega) hb
      have htake : (bytesOf s).take (i + 1) = (bytesOf s).take i ++ [b] := by
        have h1 := List.take_append_drop i (bytesOf s)
        have hlen : ((bytesOf s).take i).length = i := by rw [List.length_take, bytesOf_length]; omega
        conv => lhs; rw [← h1]
        rw [List.take_append, hlen, hd, List.take_of_length_le (by omega)]
        have : i + 1 - i = 1 := by omega
        rw [this]; rfl
      have hlen : Aside0 (((bytesOf s).take i).length = i) := ⟨by rw [List.length_take, bytesOf_length]; omega⟩
      rw [hd]
      simp only [tk]
      rw [if_neg (show ¬ 5 ≤ i by omega)]
      have hw : wrap64 ((i : Int) + 1) = ((i + 1 : Nat) : Int) := by rw [w64 (by omega) (by omega)]; rfl
      have hw7 : wrap64 (7 * (i : Int)) = 7 * (i : Int) := w64 (by omega) (by omega)
      have hp : (0 : Int) ≤ 128 ^ i := Int.pow_nonneg (by decide)
      have hnn : 0 ≤ x + b % 128 * 128 ^ i := by
        have : 0 ≤ b % 128 * 128 ^ i := Int.mul_nonneg (by omega) hp
        omega
      by_cases hb128 : b ≥ 128
      · rw [if_pos hb128]
        have e : b % 128 = b - 128 := by omega
        rw [e] at hy
        have h2 := ih (i + 1) (x + (b - 128) * 128 ^ i) (by omega) (by omega) (by
          rw [htake]
          intro c hc
          rcases List.mem_append.1 hc with hc | hc
          · exact hpre c hc
          · rw [List.mem_singleton.1 hc]; exact hb128) ⟨by rw [htake, val_snoc, hlen.out, hv.out]⟩ (by rw [e] at hnn; exact hnn) (pow_lt_step hx1 ⟨hb128, hb1⟩)
        refine Ev.step (fun k => ?_) h2
        simp only [lectionaryref1_Take.j1, hbt]
        rw [if_pos (by simpa using hl), if_pos (by omega), if_pos (by omega), if_pos (by rw [hw7]; omega), if_neg (by omega), hy, hw]
      · rw [if_neg hb128]
        have e : b % 128 = b := by omega
        rw [e] at hy hnn
        have h0 : (0 : Int) ≤ ((i + 1 : Nat) : Int) := by omega
        have h1 : ((i + 1 : Nat) : Int) ≤ (s.size : Int) := by omega
        have hex : s.extract (((i + 1 : Nat) : Int) : Int).toNat s.size = strOfNums ((bytesOf s).drop (i + 1)) := by
          rw [Int.toNat_natCast]; exact extract_str s (i + 1)
        have hpx : s.extract 0 (((i + 1 : Nat) : Int) : Int).toNat = strOfNums ((bytesOf s).take (i + 1)) := by
          rw [Int.toNat_natCast]; exact prefix_str s (i + 1)
        by_cases h7 : x + b * 128 ^ i > 268435456
        · refine Ev.step (f := fun _ => some (0, ⟨#[]⟩, false)) (fun k => ?_) (by rw [if_pos (.inl h7)]; exact Ev.now _)
          simp only [lectionaryref1_Take.j1, hbt]
          rw [if_pos (by simpa using hl), if_pos (by omega), if_pos (by omega), if_pos (by rw [hw7]; omega), if_pos (by omega), hy, if_pos h7]
        · have hn : ((x + b * 128 ^ i).toNat : Int) = x + b * 128 ^ i := Int.toNat_of_nonneg hnn
          have hput := rput_ev (x + b * 128 ^ i).toNat (by omega)
          rw [hn] at hput
          have hiff := vb_iff ((bytesOf s).take i) b hpre ((bytesOf_bytes s).take i) hb0 (by omega)
          rw [← hv.out, hlen.out, ← htake] at hiff
          refine Ev.step (f := fun k => (lectionaryref1_Put.f k (x + b * 128 ^ i)).bind fun t => if t.toList = (strOfNums ((bytesOf s).take (i + 1))).toList then some (x + b * 128 ^ i, strOfNums ((bytesOf s).drop (i + 1)), true) else some (0, ⟨#[]⟩, false)) (fun k => ?_) (Ev.bind hput ?_)
          · simp only [lectionaryref1_Take.j1, hbt]
            rw [if_pos (by simpa using hl), if_pos (by omega), if_pos (by omega), if_pos (by rw [hw7]; omega), if_pos (by omega), hy, if_neg h7, hw]
            simp only [if_pos h0, if_pos h1, hex, hpx]
          · have hs2 : ((strOfNums (vb (x + b * 128 ^ i).toNat)).toList = (strOfNums ((bytesOf s).take (i + 1))).toList) ↔ ¬ (0 < i ∧ b = 0) := by
              rw [toList_iff]
              have hz : (bytesOf s).take i ≠ [] ↔ 0 < i := by
                rw [← List.length_pos_iff, hlen.out]
              rw [← hz, ← hiff]
              constructor
              · intro h
                have := congrArg bytesOf h
                rw [bytesOf_str (vb_bytes _), bytesOf_str ((bytesOf_bytes s).take _)] at this
                exact this
              · intro h; rw [h]
            by_cases hz : 0 < i ∧ b = 0
            · have : ¬ ((strOfNums (vb (x + b * 128 ^ i).toNat)).toList = (strOfNums ((bytesOf s).take (i + 1))).toList) := fun h => hs2.1 h hz
              have hc : x + b * 128 ^ i > 268435456 ∨ 0 < i ∧ b = 0 := .inr hz
              simp only [if_neg this, if_pos hc]
              exact Ev.now _
            · have hc : ¬ (x + b * 128 ^ i > 268435456 ∨ 0 < i ∧ b = 0) := by rintro (h | h); exact h7 h; exact hz h
              simp only [if_pos (hs2.2 hz), if_neg hc]
              exact Ev.now _
    · have hd : (bytesOf s).drop i = [] := List.drop_eq_nil_of_le (by rw [bytesOf_length]; omega)
      rw [hd]
      refine Ev.step (f := fun _ => some (0, ⟨#[]⟩, false)) (fun k => ?_) (Ev.now _)
      simp only [lectionaryref1_Take.j1]
      rw [if_neg (by simpa using hl)]

theorem rtake_ev (s : ByteArray) (hs : s.size < 9223372036854775807) : Ev (fun k => lectionaryref1_Take.f k s) (rtakeR (bytesOf s)) := by
  have := rtake_l0 s hs 5 0 0 (by omega) (by omega) (by simp) ⟨by simp [val]⟩ (by omega) (by simp)
  rw [List.drop_zero, tk_pk _ (bytesOf_bytes s)] at this
  exact this

/-! ### texts -/
theorem text_ev (s : ByteArray) (hs : s.size < 140737488355328) : Ev (fun k => number_Text.f k s) (strOfNums (vb s.size) ++ s) := by
  unfold number_Text.f
  refine Ev.bind (bytes_ev s.size (by omega)) ?_
  refine Ev.some_of ?_
  rw [if_pos (by rw [strOfNums_size]; have := vb_len9 s.size (by omega); omega)]
theorem rtext_ev (s : ByteArray) (hs : s.size < 140737488355328) : Ev (fun k => lectionaryref1_Text.f k s) (strOfNums (vb s.size) ++ s) := by
  unfold lectionaryref1_Text.f
  refine Ev.bind (rput_ev s.size (by omega)) ?_
  refine Ev.some_of ?_
  rw [if_pos (by rw [strOfNums_size]; have := vb_len9 s.size (by omega); omega)]

/-- What TakeText tells. -/
def takeTextR (l : List Int) : ByteArray × ByteArray × Int := match pk l with
  | some (m, r) => if m > r.length then (⟨#[]⟩, ⟨#[]⟩, 7) else (strOfNums (r.take m.toNat), strOfNums (r.drop m.toNat), 0)
  | none => (⟨#[]⟩, ⟨#[]⟩, 7)
def rtakeTextR (l : List Int) : ByteArray × ByteArray × Bool := match pk l with
  | some (m, r) => if m > r.length then (⟨#[]⟩, ⟨#[]⟩, false) else (strOfNums (r.take m.toNat), strOfNums (r.drop m.toNat), true)
  | none => (⟨#[]⟩, ⟨#[]⟩, false)

theorem taketext_ev (s : ByteArray) (hs : s.size < 9223372036854775807) : Ev (fun k => number_TakeText.f k s) (takeTextR (bytesOf s)) := by
  unfold number_TakeText.f
  refine Ev.bind (take_ev s hs) (Ev.some_of ?_)
  unfold takeR takeTextR
  cases hp : pk (bytesOf s) with
  | none => simp
  | some y =>
    obtain ⟨m, r⟩ := y
    obtain ⟨h0, h1, h2, h3⟩ := pk_sound (bytesOf_bytes s) hp
    simp only [if_true, strOfNums_size]
    by_cases h : m > (r.length : Int)
    · rw [if_pos h, if_pos h]
    · rw [if_neg h, if_neg h, if_pos h0, if_pos (by omega)]
      have e1 := prefix_str (strOfNums r) m.toNat
      have e2 := extract_str (strOfNums r) m.toNat
      rw [bytesOf_str h3] at e1 e2
      rw [strOfNums_size] at e2
      rw [e1, e2]
theorem rtaketext_ev (s : ByteArray) (hs : s.size < 9223372036854775807) : Ev (fun k => lectionaryref1_TakeText.f k s) (rtakeTextR (bytesOf s)) := by
  unfold lectionaryref1_TakeText.f
  refine Ev.bind (rtake_ev s hs) (Ev.some_of ?_)
  unfold rtakeR rtakeTextR
  cases hp : pk (bytesOf s) with
  | none => simp
  | some y =>
    obtain ⟨m, r⟩ := y
    obtain ⟨h0, h1, h2, h3⟩ := pk_sound (bytesOf_bytes s) hp
    simp only [if_true, strOfNums_size]
    by_cases h : m > (r.length : Int)
    · rw [if_pos h, if_pos h]
    · rw [if_neg h, if_neg h, if_pos h0, if_pos (by omega)]
      have e1 := prefix_str (strOfNums r) m.toNat
      have e2 := extract_str (strOfNums r) m.toNat
      rw [bytesOf_str h3] at e1 e2
      rw [strOfNums_size] at e2
      rw [e1, e2]

/-- Put, then Take with something behind. -/
theorem take_put (n : Int) (h0 : 0 ≤ n) (h1 : n ≤ 268435456) (t : ByteArray) : takeR (bytesOf (strOfNums (vb n.toNat) ++ t)) = (n, t, 0) := by
  unfold takeR
  rw [bytesOf_append, bytesOf_str (vb_bytes _), pk_vb n.toNat (by omega)]
  simp only [str_bytesOf, Int.toNat_of_nonneg h0]
theorem taketext_text (s : ByteArray) (h1 : s.size ≤ 268435456) (t : ByteArray) : takeTextR (bytesOf (strOfNums (vb s.size) ++ s ++ t)) = (s, t, 0) := by
  unfold takeTextR
  rw [bytesOf_append, bytesOf_append, bytesOf_str (vb_bytes _), List.append_assoc, pk_vb s.size h1]
  simp only [List.length_append, bytesOf_length]
  rw [if_neg (by omega), Int.toNat_natCast]
  have e : s.size = (bytesOf s).length := (bytesOf_length s).symm
  rw [e, List.take_left, List.drop_left, str_bytesOf, str_bytesOf]

theorem vb300 : vb 300 = [172, 2] := by
  rw [vb_big (by omega), show 300 / 128 = 2 from rfl, vb_small (by omega)]
  rfl
theorem num1_some (n : Int) : lectionarylaw1_num.f n = some n := rfl
/-- It wakes. -/
theorem wakes_ev : Ev (fun k => lectionarylaw1_wakes.f k) true := by
  unfold lectionarylaw1_wakes.f
  have hp : putR 300 = (strOfNums [172, 2], 0) := by
    unfold putR
    rw [if_pos (by decide), show (300 : Int).toNat = 300 from rfl, vb300]
  refine Ev.bind (hp ▸ put_ev 300) ?_
  have ht := take_put 300 (by decide) (by decide) (⟨#[120]⟩ : ByteArray)
  rw [show (300 : Int).toNat = 300 from rfl, vb300] at ht
  simp only [strOfNums_size, show ([172, 2] : List Int).length + 1 ≤ 9223372036854775807 from by decide, if_true]
  refine Ev.bind (ht ▸ take_ev _ (by decide)) ?_
  simp only [num1_some, Option.bind_some, if_true]
  refine Ev.some_of ?_
  simp only [ByteArray.toList_eq]
  decide
end Go.Proofs.YtcjedinpiedhcaaNumE
