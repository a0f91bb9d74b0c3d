/- Numbers' and seal's functions: what they answer. -/
import Derived.Test.YtcjedinpiedhcaaPSx
import Derived.Test.YtcjedinpiedhcaaVb
namespace Go.Proofs.YtcjedinpiedhcaaCoreS
open Go.RowKit Go.Proofs.YtcjedinpiedhcaaW.PrintWords Go.Proofs.YtcjedinpiedhcaaW.PrintLast Go.Proofs.YtcjedinpiedhcaaW.PrintMore Go.Proofs.YtcjedinpiedhcaaVb Go.Proofs.Ytcjedinpiedhcaa.PS
set_option linter.unusedVariables false
set_option linter.unusedSimpArgs false

/-- An end that is known, whatever the rounds beyond some. -/
theorem Ev.cong {α : Type} {g : Nat → Option α} {r r' : α} (h : Ev g r) (e : r = r') : Ev g r' := e ▸ h
theorem Ev.some_of {α : Type} {o : Option α} {r : α} (h : o = some r) : Ev (fun _ => o) r := ⟨0, fun _ _ => h⟩
/-- A call, then the rest. -/
theorem Ev.call {α β : Type} {g : Nat → Option α} {f : Nat → α → Option β} {a : α} {r : β} (h : Ev g a) (k : Ev (fun n => f n a) r) : Ev (fun n => (g n).bind (f n)) r := Ev.bind h k

theorem Ev.succ {α : Type} {g : Nat → Option α} {r : α} (h : Ev (fun k => g (k + 1)) r) : Ev g r := Ev.step (fun _ => rfl) h
theorem Ev.ite {α : Type} {c : Prop} [Decidable c] {g f : Nat → Option α} {r : α} (hc : c) (h : Ev g r) : Ev (fun k => if c then g k else f k) r := by simp only [if_pos hc]; exact h
theorem Ev.nite {α : Type} {c : Prop} [Decidable c] {g f : Nat → Option α} {r : α} (hc : ¬ c) (h : Ev f r) : Ev (fun k => if c then g k else f k) r := by simp only [if_neg hc]; exact h

theorem bytes_l0 (n : Nat) : n < 9223372036854775808 → ∀ xs : List Int, xs.length + (vb n).length < 140737488355328 → Ev (fun k => number_Bytes.l0 k (n : Int) xs) (strOfNums (xs ++ vb n)) := by
  induction n using Nat.strongRecOn with
  | _ n ih =>
    intro hn xs hx
    by_cases h : n < 128
    · rw [vb_small h] at hx ⊢
      simp only [List.length_singleton] at hx
      refine Ev.step (f := fun _ => some (strOfNums (xs ++ [(n : Int)]))) (fun k => ?_) (Ev.now _)
      simp only [number_Bytes.l0]
      rw [if_neg (by omega), if_pos (by omega), Int.emod_eq_of_lt (by omega) (by omega)]
    · rw [vb_big h] at hx ⊢
      simp only [List.length_cons] at hx
      have h2 := ih (n / 128) (by omega) (by omega) (xs ++ [((n % 128 + 128 : Nat) : Int)]) (by simp only [List.length_append, List.length_singleton]; omega)
      rw [List.append_assoc, List.singleton_append] at h2
      refine Ev.step (fun k => ?_) h2
      simp only [number_Bytes.l0]
      have e1 : wrap64 (Int.tdiv (n : Int) 128) = ((n / 128 : Nat) : Int) := by
        rw [Int.tdiv_eq_ediv_of_nonneg (by omega), w64 (by omega) (by omega)]; omega
      have e2 : (wrap64 ((Int.tmod (n : Int) 128) + 128)) % 256 = ((n % 128 + 128 : Nat) : Int) := by
        rw [Int.tmod_eq_emod_of_nonneg (by omega), w64 (by omega) (by omega)]; omega
      rw [if_pos (by omega), if_pos (by omega), e1, e2]

theorem bytes_ev (n : Nat) (hn : n < 9223372036854775808) : Ev (fun k => number_Bytes.f k (n : Int)) (strOfNums (vb n)) := by
  have := bytes_l0 n hn [] (by have := vb_len9 n hn; simp only [List.length_nil]; omega)
  exact this

theorem rput_l0 (n : Nat) : n < 9223372036854775808 → ∀ xs : List Int, xs.length + (vb n).length < 140737488355328 → Ev (fun k => lectionaryref1_Put.l0 k (n : Int) xs) (strOfNums (xs ++ vb n)) := by
  induction n using Nat.strongRecOn with
  | _ n ih =>
    intro hn xs hx
    by_cases h : n < 128
    · rw [vb_small h] at hx ⊢
      simp only [List.length_singleton] at hx
      refine Ev.step (f := fun _ => some (strOfNums (xs ++ [(n : Int)]))) (fun k => ?_) (Ev.now _)
      simp only [lectionaryref1_Put.l0]
      rw [if_neg (by omega), if_pos (by omega), Int.emod_eq_of_lt (by omega) (by omega)]
    · rw [vb_big h] at hx ⊢
      simp only [List.length_cons] at hx
      have h2 := ih (n / 128) (by omega) (by omega) (xs ++ [((n % 128 + 128 : Nat) : Int)]) (by simp only [List.length_append, List.length_singleton]; omega)
      rw [List.append_assoc, List.singleton_append] at h2
      refine Ev.step (fun k => ?_) h2
      simp only [lectionaryref1_Put.l0]
      have e1 : (n : Int) / 128 = ((n / 128 : Nat) : Int) := by omega
      have e2 : (Go.bits .or .i64 (Go.bits .and .i64 (n : Int) 127) 128) % 256 = ((n % 128 + 128 : Nat) : Int) := by
        rw [or_128 (by omega) (by omega)]; omega
      rw [if_pos (by omega), if_pos (by omega), e1, e2]

theorem rput_ev (n : Nat) (hn : n < 9223372036854775808) : Ev (fun k => lectionaryref1_Put.f k (n : Int)) (strOfNums (vb n)) := by
  have := rput_l0 n hn [] (by have := vb_len9 n hn; simp only [List.length_nil]; omega)
  exact this

theorem is_some (n : Int) : number_Is.f n = some (decide (0 ≤ n ∧ n ≤ 268435456)) := by
  unfold number_Is.f
  by_cases h : n ≥ 0
  · rw [if_pos h]; congr 1; simp only [decide_eq_decide]; omega
  · rw [if_neg h]; congr 1; symm; rw [decide_eq_false_iff_not]; omega
/-- What Take tells. -/
def takeR (l : List Int) : Int × ByteArray × Int := match pk l with
  | some (m, r) => (m, strOfNums r, 0)
  | none => (0, ⟨#[]⟩, 7)
def rtakeR (l : List Int) : Int × ByteArray × Bool := match pk l with
  | some (m, r) => (m, strOfNums r, true)
  | none => (0, ⟨#[]⟩, false)

theorem mn5 (n : Nat) : mn (n : Int) 5 = ((min n 5 : Nat) : Int) := by unfold mn; split <;> omega

theorem pow_lt_step {x b : Int} {i : Nat} (hx1 : x < 128 ^ i) (hb : 128 ≤ b ∧ b ≤ 255) : x + (b - 128) * 128 ^ i < 128 ^ (i + 1) := by
  have h1 : (b - 128) * 128 ^ i ≤ 127 * 128 ^ i := Int.mul_le_mul_of_nonneg_right (by omega) (Int.pow_nonneg (by decide))
  rw [Int.pow_succ]
  omega

theorem take_l0 (s : ByteArray) (hs : s.size < 9223372036854775807) : ∀ (j i : Nat) (x : Int), i + j = 5 → 0 ≤ x → x < 128 ^ i →
    Ev (fun k => number_Take.l0 k s x (mn (s.size : Int) 5) (i : Int)) (match tk i x ((bytesOf s).drop i) with | some (m, r) => (m, strOfNums r, 0) | none => (0, ⟨#[]⟩, 7)) := by
  intro j
  induction j with
  | zero =>
    intro i x hi hx hx1
    obtain rfl : i = 5 := by omega
    refine Ev.step (f := fun _ => some (0, ⟨#[]⟩, 7)) (fun k => ?_) ?_
    · simp only [number_Take.l0]
      rw [if_neg (by rw [mn5]; omega)]
    · refine Ev.cong (Ev.now _) ?_
      cases (bytesOf s).drop 5 with
      | nil => rfl
      | cons b r => simp [tk]
  | succ j ih =>
    intro i x hi hx hx1
    by_cases hl : i < s.size
    · obtain ⟨b, hd, hbt, hb⟩ := bt_get s i hl
      have ⟨hb0, hb1⟩ := hb
      have hy := or_shl hx hx1 (by omega) hb
      rw [hd]
      simp only [tk]
      rw [if_neg (show ¬ 5 ≤ i by omega)]
      have hw : wrap64 ((i : Int) + 1) = ((i + 1 : Nat) : Int) := by rw [w64 (by omega) (by omega)]; rfl
      have hw7 : wrap64 (7 * (i : Int)) = 7 * (i : Int) := w64 (by omega) (by omega)
      have hlt : (i : Int) < mn (s.size : Int) 5 := by rw [mn5]; omega
      have hp : (0 : Int) ≤ 128 ^ i := Int.pow_nonneg (by decide)
      have hnn : 0 ≤ x + b % 128 * 128 ^ i := by
        have : 0 ≤ b % 128 * 128 ^ i := Int.mul_nonneg (by omega) hp
        omega
      by_cases hb128 : b ≥ 128
      · rw [if_pos hb128]
        have e : b % 128 = b - 128 := by omega
        rw [e] at hy
        have h2 := ih (i + 1) (x + (b - 128) * 128 ^ i) (by omega) (by rw [e] at hnn; exact hnn) (pow_lt_step hx1 ⟨hb128, hb1⟩)
        refine Ev.step (fun k => ?_) h2
        simp only [number_Take.l0, hbt]
        rw [if_pos hlt, if_pos (by omega), if_pos (by omega), if_pos (by rw [hw7]; omega), if_pos hb128, hy, hw]
      · rw [if_neg hb128]
        have e : b % 128 = b := by omega
        rw [e] at hy hnn
        refine Ev.step (f := fun _ => some (match (if x + b * 128 ^ i > 268435456 ∨ 0 < i ∧ b = 0 then none else some (x + b * 128 ^ i, (bytesOf s).drop (i + 1)) : Option (Int × List Int)) with | some (m, r) => (m, strOfNums r, 0) | none => (0, ⟨#[]⟩, 7))) (fun k => ?_) (Ev.now _)
        simp only [number_Take.l0, hbt]
        rw [if_pos hlt, if_pos (by omega), if_pos (by omega), if_pos (by rw [hw7]; omega), if_neg hb128, hy, hw, is_some]
        simp only [Option.bind_some]
        have h0 : (0 : Int) ≤ ((i + 1 : Nat) : Int) := by omega
        have h1 : ((i + 1 : Nat) : Int) ≤ (s.size : Int) := by omega
        have hex : s.extract (((i + 1 : Nat) : Int) : Int).toNat s.size = strOfNums ((bytesOf s).drop (i + 1)) := by
          rw [Int.toNat_natCast]; exact extract_str s (i + 1)
        simp only [if_pos h0, if_pos h1, hex]
        by_cases h7 : x + b * 128 ^ i > 268435456
        · rw [if_neg (c := (decide (0 ≤ x + b * 128 ^ i ∧ x + b * 128 ^ i ≤ 268435456) = true)) (by simp; omega), if_pos (.inl h7)]
        · rw [if_pos (c := (decide (0 ≤ x + b * 128 ^ i ∧ x + b * 128 ^ i ≤ 268435456) = true)) (by simp; omega)]
          by_cases hi0 : (i : Int) > 0
          · rw [if_pos hi0]
            by_cases hz : b = 0
            · rw [if_pos hz, if_pos (.inr ⟨by omega, hz⟩)]
            · rw [if_neg hz, if_neg (by rintro (h | h); exact h7 h; exact hz h.2)]
          · rw [if_neg hi0, if_neg (by rintro (h | h); exact h7 h; omega)]
    · have hd : (bytesOf s).drop i = [] := List.drop_eq_nil_of_le (by rw [bytesOf_length]; omega)
      rw [hd]
      refine Ev.step (f := fun _ => some (0, ⟨#[]⟩, 7)) (fun k => ?_) (Ev.now _)
      simp only [number_Take.l0]
      rw [if_neg (by rw [mn5]; omega)]

theorem take_ev (s : ByteArray) (hs : s.size < 9223372036854775807) : Ev (fun k => number_Take.f k s) (takeR (bytesOf s)) := by
  have := take_l0 s hs 5 0 0 (by omega) (by omega) (by simp)
  rw [List.drop_zero, tk_pk _ (bytesOf_bytes s)] at this
  exact this

theorem rtake_l0 (s : ByteArray) (hs : s.size < 9223372036854775807) : ∀ (j i : Nat) (x : Int), i + j = 5 → (hi : i ≤ s.size) → (∀ c ∈ (bytesOf s).take i, 128 ≤ c) → Aside0 (x = val ((bytesOf s).take i)) → 0 ≤ x → x < 128 ^ i →
    Ev (fun k => lectionaryref1_Take.l0 k s x (i : Int)) (match tk i x ((bytesOf s).drop i) with | some (m, r) => (m, strOfNums r, true) | none => (0, ⟨#[]⟩, false)) := by
  intro j
  induction j with
  | zero =>
    intro i x hi _ _ _ hx hx1
    obtain rfl : i = 5 := by omega
    refine Ev.step (f := fun k => lectionaryref1_Take.j1 k s x ((5 : Nat) : Int) false) (fun k => ?_) ?_
    · simp only [lectionaryref1_Take.l0]
      rw [if_neg (by omega)]
    · refine Ev.step (f := fun _ => some (0, ⟨#[]⟩, false)) (fun k => ?_) ?_
      · simp only [lectionaryref1_Take.j1]
        rw [if_neg (by simp)]
      · refine Ev.cong (Ev.now _) ?_
        cases (bytesOf s).drop 5 with
        | nil => rfl
        | cons b r => simp [tk]
  | succ j ih =>
    intro i x hi his hpre hv hx hx1
    refine Ev.step (f := fun k => lectionaryref1_Take.j1 k s x (i : Int) (decide ((i : Int) < (s.size : Int)))) (fun k => by simp only [lectionaryref1_Take.l0]; rw [if_pos (by omega)]) ?_
    by_cases hl : i < s.size
    · obtain ⟨b, hd, hbt, hb⟩ := bt_get s i hl
      have ⟨hb0, hb1⟩ := hb
      have hy := or_shl hx hx1 (by omega) hb
      have htake : (bytesOf s).take (i + 1) = (bytesOf s).take i ++ [b] := by
        have h1 := List.take_append_drop i (bytesOf s)
        have hlen : ((bytesOf s).take i).length = i := by rw [List.length_take, bytesOf_length]; omega
        conv => lhs; rw [← h1]
        rw [List.take_append, hlen, hd, List.take_of_length_le (by omega)]
        have : i + 1 - i = 1 := by omega
        rw [this]; rfl
      have hlen : Aside0 (((bytesOf s).take i).length = i) := ⟨by rw [List.length_take, bytesOf_length]; omega⟩
      rw [hd]
      simp only [tk]
      rw [if_neg (show ¬ 5 ≤ i by omega)]
      have hw : wrap64 ((i : Int) + 1) = ((i + 1 : Nat) : Int) := by rw [w64 (by omega) (by omega)]; rfl
      have hw7 : wrap64 (7 * (i : Int)) = 7 * (i : Int) := w64 (by omega) (by omega)
      have hp : (0 : Int) ≤ 128 ^ i := Int.pow_nonneg (by decide)
      have hnn : 0 ≤ x + b % 128 * 128 ^ i := by
        have : 0 ≤ b % 128 * 128 ^ i := Int.mul_nonneg (by omega) hp
        omega
      by_cases hb128 : b ≥ 128
      · rw [if_pos hb128]
        have e : b % 128 = b - 128 := by omega
        rw [e] at hy
        have h2 := ih (i + 1) (x + (b - 128) * 128 ^ i) (by omega) (by omega) (by
          rw [htake]
          intro c hc
          rcases List.mem_append.1 hc with hc | hc
          · exact hpre c hc
          · rw [List.mem_singleton.1 hc]; exact hb128) ⟨by rw [htake, val_snoc, hlen.out, hv.out]⟩ (by rw [e] at hnn; exact hnn) (pow_lt_step hx1 ⟨hb128, hb1⟩)
        refine Ev.step (fun k => ?_) h2
        simp only [lectionaryref1_Take.j1, hbt]
        rw [if_pos (by simpa using hl), if_pos (by omega), if_pos (by omega), if_pos (by rw [hw7]; omega), if_neg (by omega), hy, hw]
      · rw [if_neg hb128]
        have e : b % 128 = b := by omega
        rw [e] at hy hnn
        have h0 : (0 : Int) ≤ ((i + 1 : Nat) : Int) := by omega
        have h1 : ((i + 1 : Nat) : Int) ≤ (s.size : Int) := by omega
        have hex : s.extract (((i + 1 : Nat) : Int) : Int).toNat s.size = strOfNums ((bytesOf s).drop (i + 1)) := by
          rw [Int.toNat_natCast]; exact extract_str s (i + 1)
        have hpx : s.extract 0 (((i + 1 : Nat) : Int) : Int).toNat = strOfNums ((bytesOf s).take (i + 1)) := by
          rw [Int.toNat_natCast]; exact prefix_str s (i + 1)
        by_cases h7 : x + b * 128 ^ i > 268435456
        · refine Ev.step (f := fun _ => some (0, ⟨#[]⟩, false)) (fun k => ?_) (by rw [if_pos (.inl h7)]; exact Ev.now _)
          simp only [lectionaryref1_Take.j1, hbt]
          rw [if_pos (by simpa using hl), if_pos (by omega), if_pos (by omega), if_pos (by rw [hw7]; omega), if_pos (by omega), hy, if_pos h7]
        · have hn : ((x + b * 128 ^ i).toNat : Int) = x + b * 128 ^ i := Int.toNat_of_nonneg hnn
          have hput := rput_ev (x + b * 128 ^ i).toNat (by omega)
          rw [hn] at hput
          have hiff := vb_iff ((bytesOf s).take i) b hpre ((bytesOf_bytes s).take i) hb0 (by omega)
          rw [← hv.out, hlen.out, ← htake] at hiff
          refine Ev.step (f := fun k => (lectionaryref1_Put.f k (x + b * 128 ^ i)).bind fun t => if t.toList = (strOfNums ((bytesOf s).take (i + 1))).toList then some (x + b * 128 ^ i, strOfNums ((bytesOf s).drop (i + 1)), true) else some (0, ⟨#[]⟩, false)) (fun k => ?_) (Ev.bind hput ?_)
          · simp only [lectionaryref1_Take.j1, hbt]
            rw [if_pos (by simpa using hl), if_pos (by omega), if_pos (by omega), if_pos (by rw [hw7]; omega), if_pos (by omega), hy, if_neg h7, hw]
            simp only [if_pos h0, if_pos h1, hex, hpx]
          · have hs2 : ((strOfNums (vb (x + b * 128 ^ i).toNat)).toList = (strOfNums ((bytesOf s).take (i + 1))).toList) ↔ ¬ (0 < i ∧ b = 0) := by
              rw [toList_iff]
              have hz : (bytesOf s).take i ≠ [] ↔ 0 < i := by
                rw [← List.length_pos_iff, hlen.out]
              rw [← hz, ← hiff]
              constructor
              · intro h
                have := congrArg bytesOf h
                rw [bytesOf_str (vb_bytes _), bytesOf_str ((bytesOf_bytes s).take _)] at this
                exact this
              · intro h; rw [h]
            by_cases hz : 0 < i ∧ b = 0
            · have : ¬ ((strOfNums (vb (x + b * 128 ^ i).toNat)).toList = (strOfNums ((bytesOf s).take (i + 1))).toList) := fun h => hs2.1 h hz
              have hc : x + b * 128 ^ i > 268435456 ∨ 0 < i ∧ b = 0 := .inr hz
              simp only [if_neg this, if_pos hc]
              exact Ev.now _
            · have hc : ¬ (x + b * 128 ^ i > 268435456 ∨ 0 < i ∧ b = 0) := by rintro (h | h); exact h7 h; exact hz h
              simp only [if_pos (hs2.2 hz), if_neg hc]
              exact Ev.now _
    · have hd : (bytesOf s).drop i = [] := List.drop_eq_nil_of_le (by rw [bytesOf_length]; omega)
      rw [hd]
      refine Ev.step (f := fun _ => some (0, ⟨#[]⟩, false)) (fun k => ?_) (Ev.now _)
      simp only [lectionaryref1_Take.j1]
      rw [if_neg (by simpa using hl)]

theorem rtake_ev (s : ByteArray) (hs : s.size < 9223372036854775807) : Ev (fun k => lectionaryref1_Take.f k s) (rtakeR (bytesOf s)) := by
  have := rtake_l0 s hs 5 0 0 (by omega) (by omega) (by simp) ⟨by simp [val]⟩ (by omega) (by simp)
  rw [List.drop_zero, tk_pk _ (bytesOf_bytes s)] at this
  exact this

theorem parse_cut (n : Nat) : ∀ k, k < (vb n).length → parse ((vb n).take k) = none := by
  induction n using Nat.strongRecOn with
  | _ n ih =>
    intro k hk
    cases k with
    | zero => rfl
    | succ k =>
      by_cases h : n < 128
      · rw [vb_small h] at hk; simp at hk
      · rw [vb_big h] at hk ⊢
        simp only [List.length_cons] at hk
        simp only [List.take_succ_cons, parse]
        rw [if_neg (by omega), ih (n / 128) (by omega) k (by omega)]
        rfl
theorem pk_cut (n k : Nat) (hk : k < (vb n).length) : pk ((vb n).take k) = none := by
  unfold pk
  rw [parse_cut n k hk]
  rfl
theorem rdOf_mem {α : Type} (d : α) (l : List α) (i : Nat) (h : i < l.length) : rdOf d l (i : Int) ∈ l := by
  unfold rdOf
  rw [Int.toNat_natCast, List.getD_eq_getElem?_getD, List.getElem?_eq_getElem h]
  exact List.getElem_mem h
theorem wstep (i n : Nat) (h : i < n) (hn : n < 9223372036854775807) : wrap64 ((i : Int) + 1) = ((i + 1 : Nat) : Int) := by rw [w64 (by omega) (by omega)]; omega
--HEAVY
theorem texts_ev (l : List ByteArray) (hl : l.length * 16 ≤ 140737488351232) (hs : ∀ x ∈ l, x.size ≤ 140737488351232) : ∃ v, Ev (fun k => lectionarylaw0_Texts.f k l) v ∧ (v ≤ 3000 → l.length ≤ 3000 ∧ ∀ x ∈ l, x.size ≤ 3000) := by
  have key : ∀ (d i : Nat) (x : Int), i + d = l.length → 0 ≤ x → x ≤ 281474976710656 → ∃ v, Ev (fun k => lectionarylaw0_Texts.l0 k l x (i : Int)) v ∧ x ≤ v ∧ (v ≤ 3000 → ∀ j : Nat, i ≤ j → j < l.length → (rdOf ByteArray.empty l (j : Int)).size ≤ 3000) := by
    intro d
    induction d with
    | zero =>
      intro i x hi hx hx1
      refine ⟨x, Ev.succ ?_, Int.le_refl _, fun _ j h1 h2 => by omega⟩
      simp only [lectionarylaw0_Texts.l0]
      exact Ev.nite (by omega) (Ev.now _)
    | succ d ih =>
      intro i x hi hx hx1
      by_cases h : x < 1048576
      · have hm := hs _ (rdOf_mem ByteArray.empty l i (by omega))
        obtain ⟨v, hv, hle, hb⟩ := ih (i + 1) (x + ((rdOf ByteArray.empty l (i : Int)).size : Int)) (by omega) (by omega) (by omega)
        refine ⟨v, Ev.succ ?_, by omega, fun h3 j h1 h2 => ?_⟩
        · simp only [lectionarylaw0_Texts.l0]
          refine Ev.ite (by omega) (Ev.ite h (Ev.ite (by omega) ?_))
          rw [wstep i l.length (by omega) (by omega), w64 (by omega) (by omega)]
          exact hv
        · rcases Nat.eq_or_lt_of_le h1 with rfl | h1
          · omega
          · exact hb h3 j h1 h2
      · refine ⟨x, Ev.succ ?_, Int.le_refl _, fun h3 => by omega⟩
        simp only [lectionarylaw0_Texts.l0]
        exact Ev.ite (by omega) (Ev.nite h (Ev.now _))
  obtain ⟨v, hv, hle, hb⟩ := key l.length 0 (l.length : Int) (by omega) (by omega) (by omega)
  refine ⟨v, hv, fun h => ⟨by omega, fun x hx => ?_⟩⟩
  obtain ⟨j, hj, rfl⟩ := List.getElem_of_mem hx
  have := hb h j (by omega) hj
  unfold rdOf at this
  rw [Int.toNat_natCast, List.getD_eq_getElem?_getD, List.getElem?_eq_getElem hj] at this
  exact this
theorem heavy_ev (L0 : List Int) (L1 : List ByteArray) (hl : L1.length * 16 ≤ 140737488351232) (hs : ∀ x ∈ L1, x.size ≤ 140737488351232) :
    Ev (fun k => lectionarylaw1_Heavy.f k L0 L1) true ∨ Ev (fun k => lectionarylaw1_Heavy.f k L0 L1) false ∧ L0.length ≤ 200 ∧ L1.length ≤ 3000 ∧ ∀ x ∈ L1, x.size ≤ 3000 := by
  unfold lectionarylaw1_Heavy.f
  by_cases h : (L0.length : Int) > 200
  · exact .inl (Ev.ite h (Ev.now _))
  · obtain ⟨v, hv, hb⟩ := texts_ev L1 hl hs
    by_cases h2 : v > 3000
    · left
      refine Ev.nite h (Ev.bind hv ?_)
      rw [decide_eq_true h2]
      exact Ev.now _
    · right
      refine ⟨Ev.nite h (Ev.bind hv ?_), by omega, hb (by omega)⟩
      rw [decide_eq_false h2]
      exact Ev.now _

--END
theorem behind_list : (⟨#[98, 101, 104, 105, 110, 100]⟩ : ByteArray).toList = ([98, 101, 104, 105, 110, 100] : List UInt8) := by simp [ByteArray.toList_eq]
theorem behind_size : (⟨#[98, 101, 104, 105, 110, 100]⟩ : ByteArray).size = 6 := rfl

def chkStep (h b : Int) : Int := (h * 263 + b + 7) % 4294967291
/-- The check of bytes. -/
def chk (l : List Int) : Int := l.foldl chkStep 1 % 4294967296
def spelt (c : Int) : List Int := [c / 16777216 % 256, c / 65536 % 256, c / 256 % 256, c % 256]
theorem spelt_bytes (c : Int) : Bytes (spelt c) := by
  intro b hb
  simp only [spelt, List.mem_cons, List.not_mem_nil, or_false] at hb
  rcases hb with rfl | rfl | rfl | rfl <;> (constructor <;> omega)
theorem spelt_len (c : Int) : (spelt c).length = 4 := rfl
/-- A text's frame. -/
def fr (l : List Int) : List Int := vb l.length ++ (spelt (chk (vb l.length ++ l)) ++ l)
theorem fr_bytes {l : List Int} (h : Bytes l) : Bytes (fr l) := (vb_bytes _).append ((spelt_bytes _).append h)
theorem fr_len (l : List Int) : (fr l).length = (vb l.length).length + (4 + l.length) := by simp only [fr, List.length_append, spelt_len]
/-- The text that bytes begin with, and what is behind. -/
def utk (l : List Int) : Option (List Int × List Int) := match pk l with
  | none => none
  | some (n, r) => if n > 700 ∨ (r.length : Int) < 4 + n then none else if r.take 4 = spelt (chk (vb n.toNat ++ (r.drop 4).take n.toNat)) then some ((r.drop 4).take n.toNat, r.drop (4 + n.toNat)) else none

theorem utk_fr (l r : List Int) (h : l.length ≤ 700) : utk (fr l ++ r) = some (l, r) := by
  unfold utk fr
  rw [List.append_assoc, pk_vb l.length (by omega)]
  simp only [List.append_assoc, List.length_append, spelt_len, Int.toNat_natCast]
  rw [if_neg (by omega)]
  have e4 : (spelt (chk (vb l.length ++ l))).length = 4 := rfl
  have h1 : (spelt (chk (vb l.length ++ l)) ++ (l ++ r)).take 4 = spelt (chk (vb l.length ++ l)) := List.take_left' e4
  have h2 : (spelt (chk (vb l.length ++ l)) ++ (l ++ r)).drop 4 = l ++ r := List.drop_left' e4
  have h3 : (spelt (chk (vb l.length ++ l)) ++ (l ++ r)).drop (4 + l.length) = r := by rw [← List.drop_drop, h2, List.drop_left]
  rw [h1, h2, h3, List.take_left, if_pos rfl]

theorem utk_cut (l : List Int) (h : l.length ≤ 700) (k : Nat) (hk : k < (fr l).length) : utk ((fr l).take k) = none := by
  rw [fr_len] at hk
  unfold utk fr
  rw [List.take_append]
  by_cases h1 : k < (vb l.length).length
  · have e : k - (vb l.length).length = 0 := by omega
    rw [e, List.take_zero, List.append_nil, pk_cut _ _ h1]
  · rw [List.take_of_length_le (by omega), pk_vb l.length (by omega)]
    simp only
    rw [if_pos]
    right
    simp only [List.length_take, List.length_append, spelt_len]
    omega

theorem wrap_u64 (n : Int) : IntKind.u64.wrap n = n % 18446744073709551616 := by simp [IntKind.wrap, IntKind.bits, IntKind.signed]
theorem step_eq {x b : Int} (hx : 0 ≤ x) (hx1 : x < 4294967291) (hb : isByte b) : Int.tmod (IntKind.u64.wrap ((IntKind.u64.wrap ((IntKind.u64.wrap (x * 263)) + (IntKind.u64.wrap b))) + 7)) 4294967291 = chkStep x b := by
  have ⟨h0, h1⟩ := hb
  simp only [wrap_u64]
  rw [Int.emod_eq_of_lt (a := x * 263) (by omega) (by omega), Int.emod_eq_of_lt (a := b) (by omega) (by omega), Int.emod_eq_of_lt (a := x * 263 + b) (by omega) (by omega), Int.emod_eq_of_lt (by omega) (by omega), Int.tmod_eq_emod_of_nonneg (by omega)]
  rfl
theorem chkStep_range (x b : Int) : 0 ≤ chkStep x b ∧ chkStep x b < 4294967291 := by unfold chkStep; omega

theorem of_l0 (s : ByteArray) (hs : s.size < 9223372036854775807) : ∀ (d i : Nat) (x : Int), i + d = s.size → 0 ≤ x → x < 4294967291 → Ev (fun k => seal_Of.l0 k s x (s.size : Int) (i : Int)) (((bytesOf s).drop i).foldl chkStep x % 4294967296) := by
  intro d
  induction d with
  | zero =>
    intro i x hi _ _
    have hd : (bytesOf s).drop i = [] := List.drop_eq_nil_of_le (by rw [bytesOf_length]; omega)
    rw [hd]
    refine Ev.succ ?_
    simp only [seal_Of.l0]
    exact Ev.nite (by omega) (Ev.now _)
  | succ d ih =>
    intro i x hi hx hx1
    obtain ⟨b, hd, hbt, hb⟩ := bt_get s i (by omega)
    rw [hd, List.foldl_cons]
    refine Ev.succ ?_
    simp only [seal_Of.l0, hbt]
    refine Ev.ite (by omega) (Ev.ite (by omega) (Ev.ite (by omega) ?_))
    rw [step_eq hx hx1 hb, wstep i s.size (by omega) hs]
    have := chkStep_range x b
    exact ih (i + 1) _ (by omega) this.1 this.2
theorem of_ev (s : ByteArray) (hs : s.size < 9223372036854775807) : Ev (fun k => seal_Of.f k s) (chk (bytesOf s)) := by
  have := of_l0 s hs s.size 0 1 (by omega) (by omega) (by omega)
  rw [List.drop_zero] at this
  exact this
theorem check_l0 (s : ByteArray) (hs : s.size < 9223372036854775807) : ∀ (d i : Nat) (x : Int), i + d = s.size → 0 ≤ x → x < 4294967291 → Ev (fun k => lectionaryref1_Check.l0 k s x (i : Int)) (((bytesOf s).drop i).foldl chkStep x % 4294967296) := by
  intro d
  induction d with
  | zero =>
    intro i x hi _ _
    have hd : (bytesOf s).drop i = [] := List.drop_eq_nil_of_le (by rw [bytesOf_length]; omega)
    rw [hd]
    refine Ev.succ ?_
    simp only [lectionaryref1_Check.l0]
    exact Ev.nite (by omega) (Ev.now _)
  | succ d ih =>
    intro i x hi hx hx1
    obtain ⟨b, hd, hbt, hb⟩ := bt_get s i (by omega)
    rw [hd, List.foldl_cons]
    refine Ev.succ ?_
    simp only [lectionaryref1_Check.l0, hbt]
    refine Ev.ite (by omega) (Ev.ite (by omega) ?_)
    rw [step_eq hx hx1 hb, wstep i s.size (by omega) hs]
    have := chkStep_range x b
    exact ih (i + 1) _ (by omega) this.1 this.2
theorem check_ev (s : ByteArray) (hs : s.size < 9223372036854775807) : Ev (fun k => lectionaryref1_Check.f k s) (chk (bytesOf s)) := by
  have := check_l0 s hs s.size 0 1 (by omega) (by omega) (by omega)
  rw [List.drop_zero] at this
  exact this

/-- What Add tells. -/
def addR (s : ByteArray) : ByteArray := if s.size > 700 then ⟨#[]⟩ else strOfNums (fr (bytesOf s))
theorem addR_ok {s : ByteArray} (h : s.size ≤ 700) : addR s = strOfNums (fr (bytesOf s)) := if_neg (by omega)
theorem str_size (l : List Int) : (strOfNums l).size = l.length := strOfNums_size l
theorem add_eq (s : ByteArray) : (strOfNums (vb s.size) ++ strOfNums (spelt (chk (bytesOf (strOfNums (vb s.size) ++ s))))) ++ s = strOfNums (fr (bytesOf s)) := by
  unfold fr
  rw [bytesOf_length, str_append, str_append, str_bytesOf, bytesOf_append, bytesOf_str (vb_bytes _), ByteArray.append_assoc]
theorem spelt_some (c : Int) : seal_spelt.f c = some (strOfNums (spelt c)) := rfl
theorem add_ev (s : ByteArray) : Ev (fun k => seal_Add.f k s) (addR s) := by
  unfold seal_Add.f addR
  by_cases h : s.size > 700
  · rw [if_pos h]
    exact Ev.ite (by omega) (Ev.now _)
  · rw [if_neg h]
    have hl5 := vb_len5 s.size (by omega)
    refine Ev.nite (by omega) (Ev.bind (bytes_ev s.size (by omega)) (Ev.ite (by rw [str_size]; omega) ?_))
    refine Ev.bind (of_ev _ (by rw [ByteArray.size_append, str_size]; omega)) ?_
    simp only [spelt_some, Option.bind_some]
    refine Ev.ite (by simp only [str_size, spelt_len]; omega) (Ev.ite (by simp only [ByteArray.size_append, str_size, spelt_len]; omega) ?_)
    rw [add_eq]
    exact Ev.now _
theorem frame_ev (s : ByteArray) : Ev (fun k => lectionaryref1_Frame.f k s) (addR s) := by
  unfold lectionaryref1_Frame.f addR
  by_cases h : s.size > 700
  · rw [if_pos h]
    exact Ev.ite (by omega) (Ev.now _)
  · rw [if_neg h]
    have hl5 := vb_len5 s.size (by omega)
    refine Ev.nite (by omega) (Ev.bind (rput_ev s.size (by omega)) (Ev.ite (by rw [str_size]; omega) ?_))
    refine Ev.bind (check_ev _ (by rw [ByteArray.size_append, str_size]; omega)) ?_
    simp only [Option.bind_some]
    have e : ∀ c : Int, [c / 16777216 % 256, c / 65536 % 256, c / 256 % 256, c % 256] = spelt c := fun _ => rfl
    rw [e]
    refine Ev.ite (by simp only [str_size, spelt_len]; omega) (Ev.ite (by simp only [ByteArray.size_append, str_size, spelt_len]; omega) ?_)
    rw [add_eq]
    exact Ev.now _

/-- What Take tells. -/
def utakeR (l : List Int) : ByteArray × ByteArray × Bool := match utk l with
  | some (t, r) => (strOfNums t, strOfNums r, true)
  | none => (⟨#[]⟩, ⟨#[]⟩, false)
theorem str_inj {a b : List Int} (ha : Bytes a) (hb : Bytes b) : strOfNums a = strOfNums b ↔ a = b := by
  constructor
  · intro h
    have := congrArg bytesOf h
    rwa [bytesOf_str ha, bytesOf_str hb] at this
  · rintro rfl; rfl
theorem utake_ev (s : ByteArray) (hs : s.size < 4611686018427387904) : Ev (fun k => seal_Take.f k s) (utakeR (bytesOf s)) := by
  unfold seal_Take.f
  refine Ev.bind (take_ev s (by omega)) ?_
  unfold takeR utakeR utk
  have no : ∀ (r : ByteArray) (n : Int), Ev (fun k => seal_Take.j0 k s r n true) (⟨#[]⟩, ⟨#[]⟩, false) := by
    intro r n
    refine Ev.succ ?_
    simp only [seal_Take.j0]
    exact Ev.ite (by simp) (Ev.now _)
  have hB := bytesOf_bytes s
  cases hp : pk (bytesOf s) with
  | none => exact Ev.nite (by decide) (no _ _)
  | some y =>
    obtain ⟨n, r⟩ := y
    obtain ⟨h0, h1, h2, h3⟩ := pk_sound hB hp
    have hlen : s.size = (vb n.toNat).length + r.length := by rw [← bytesOf_length, h2, List.length_append]
    simp only
    refine Ev.ite (by simp) ?_
    by_cases h7 : n > 700
    · rw [if_pos (.inl h7)]
      exact Ev.ite h7 (no _ _)
    · refine Ev.nite h7 ?_
      have hw : wrap64 ((r.length : Int) - 4) = (r.length : Int) - 4 := w64 (by omega) (by omega)
      rw [str_size, hw]
      by_cases h8 : (r.length : Int) < 4 + n
      · rw [if_pos (.inr h8), decide_eq_true (by omega)]
        exact no _ _
      · rw [if_neg (by rintro (h | h) <;> omega), decide_eq_false (by omega)]
        refine Ev.succ ?_
        simp only [seal_Take.j0, str_size]
        have hw1 : wrap64 ((s.size : Int) - (r.length : Int)) = ((vb n.toNat).length : Int) := by rw [w64 (by omega) (by omega)]; omega
        have hw2 : wrap64 (4 + n) = 4 + n := w64 (by omega) (by omega)
        rw [hw1, hw2, Int.toNat_natCast]
        have hn4 : (4 + n).toNat = 4 + n.toNat := by omega
        rw [hn4]
        have e1 : s.extract 0 (vb n.toNat).length = strOfNums (vb n.toNat) := by rw [prefix_str, h2, List.take_left]
        have e2 : (strOfNums r).extract 4 (4 + n.toNat) = strOfNums ((r.drop 4).take n.toNat) := by
          apply bytesOf_inj
          rw [bytesOf_extract, bytesOf_str h3, bytesOf_str ((h3.drop 4).take _), List.drop_take]
          congr 1
          omega
        have e3 : (strOfNums r).extract 0 4 = strOfNums (r.take 4) := by rw [prefix_str, bytesOf_str h3]
        have e4 : (strOfNums r).extract (4 + n.toNat) r.length = strOfNums (r.drop (4 + n.toNat)) := by
          have := extract_str (strOfNums r) (4 + n.toNat)
          rwa [str_size, bytesOf_str h3] at this
        rw [e1, e2, e3, e4]
        have hsz : (strOfNums (vb n.toNat) ++ strOfNums ((r.drop 4).take n.toNat)).size ≤ s.size := by
          simp only [ByteArray.size_append, str_size, List.length_take, List.length_drop]; omega
        refine Ev.nite (by decide) (Ev.ite (by omega) (Ev.ite (by omega) (Ev.ite (by omega) (Ev.ite (by omega) (Ev.ite (by omega) (Ev.ite (by omega) (Ev.ite ?_ ?_)))))))
        · rw [← ByteArray.size_append]; omega
        · refine Ev.bind (of_ev _ (by omega)) ?_
          rw [bytesOf_append, bytesOf_str (vb_bytes _), bytesOf_str ((h3.drop 4).take _)]
          simp only [spelt_some, Option.bind_some]
          by_cases hc : r.take 4 = spelt (chk (vb n.toNat ++ (r.drop 4).take n.toNat))
          · rw [if_pos hc]
            exact Ev.ite (by rw [hc]) (Ev.ite (by omega) (Ev.now _))
          · rw [if_neg hc]
            exact Ev.nite (by rw [toList_iff, str_inj (h3.take 4) (spelt_bytes _)]; exact hc) (Ev.now _)
theorem unframe_ev (s : ByteArray) (hs : s.size < 4611686018427387904) : Ev (fun k => lectionaryref1_Unframe.f k s) (utakeR (bytesOf s)) := by
  unfold lectionaryref1_Unframe.f
  refine Ev.bind (rtake_ev s (by omega)) ?_
  unfold rtakeR utakeR utk
  have no : ∀ (r : ByteArray) (n : Int), Ev (fun k => lectionaryref1_Unframe.j0 k s n r true) (⟨#[]⟩, ⟨#[]⟩, false) := by
    intro r n
    refine Ev.succ ?_
    simp only [lectionaryref1_Unframe.j0]
    exact Ev.ite (by simp) (Ev.now _)
  have hB := bytesOf_bytes s
  cases hp : pk (bytesOf s) with
  | none => exact Ev.nite (by decide) (no _ _)
  | some y =>
    obtain ⟨n, r⟩ := y
    obtain ⟨h0, h1, h2, h3⟩ := pk_sound hB hp
    have hlen : s.size = (vb n.toNat).length + r.length := by rw [← bytesOf_length, h2, List.length_append]
    simp only
    refine Ev.ite (by simp) ?_
    by_cases h7 : n > 700
    · rw [if_pos (.inl h7)]
      exact Ev.ite h7 (no _ _)
    · refine Ev.nite h7 ?_
      have hw2 : wrap64 (4 + n) = 4 + n := w64 (by omega) (by omega)
      rw [str_size, hw2]
      by_cases h8 : (r.length : Int) < 4 + n
      · rw [if_pos (.inr h8), decide_eq_true (by omega)]
        exact no _ _
      · rw [if_neg (by rintro (h | h) <;> omega), decide_eq_false (by omega)]
        refine Ev.succ ?_
        simp only [lectionaryref1_Unframe.j0, str_size]
        rw [hw2]
        have hn4 : (4 + n).toNat = 4 + n.toNat := by omega
        rw [hn4]
        have e2 : (strOfNums r).extract 4 (4 + n.toNat) = strOfNums ((r.drop 4).take n.toNat) := by
          apply bytesOf_inj
          rw [bytesOf_extract, bytesOf_str h3, bytesOf_str ((h3.drop 4).take _), List.drop_take]
          congr 1
          omega
        have e4 : (strOfNums r).extract (4 + n.toNat) r.length = strOfNums (r.drop (4 + n.toNat)) := by
          have := extract_str (strOfNums r) (4 + n.toNat)
          rwa [str_size, bytesOf_str h3] at this
        rw [e2, e4]
        have hbt := (h3.drop 4).take n.toNat
        have htl : ((r.drop 4).take n.toNat).length = n.toNat := by rw [List.length_take, List.length_drop]; omega
        have hfr : addR (strOfNums ((r.drop 4).take n.toNat)) = strOfNums (fr ((r.drop 4).take n.toNat)) := by rw [addR_ok (by rw [str_size, htl]; omega), bytesOf_str hbt]
        refine Ev.nite (by decide) (Ev.ite (by omega) (Ev.ite (by omega) ?_))
        refine Ev.bind (hfr ▸ frame_ev (strOfNums ((r.drop 4).take n.toNat))) ?_
        have hfl : (fr ((r.drop 4).take n.toNat)).length = (vb n.toNat).length + (4 + n.toNat) := by rw [fr_len, htl]
        simp only [str_size]
        rw [prefix_str, hfl]
        refine Ev.ite (by omega) (Ev.ite (by omega) ?_)
        have hpre : (bytesOf s).take ((vb n.toNat).length + (4 + n.toNat)) = vb n.toNat ++ (r.take 4 ++ (r.drop 4).take n.toNat) := by
          rw [h2, List.take_append, List.take_of_length_le (by omega)]
          congr 1
          rw [show (vb n.toNat).length + (4 + n.toNat) - (vb n.toNat).length = 4 + n.toNat by omega, List.take_add]
        have hiff : (bytesOf s).take ((vb n.toNat).length + (4 + n.toNat)) = fr ((r.drop 4).take n.toNat) ↔ r.take 4 = spelt (chk (vb n.toNat ++ (r.drop 4).take n.toNat)) := by
          rw [hpre]
          unfold fr
          rw [htl]
          constructor
          · intro h
            have h' := List.append_cancel_left h
            exact List.append_cancel_right h'
          · intro h; rw [← h]
        by_cases hc : r.take 4 = spelt (chk (vb n.toNat ++ (r.drop 4).take n.toNat))
        · rw [if_pos hc]
          exact Ev.ite (by rw [hiff.2 hc]) (Ev.ite (by omega) (Ev.now _))
        · rw [if_neg hc]
          exact Ev.nite (by rw [toList_iff, str_inj (hB.take _) (fr_bytes hbt)]; exact fun h => hc (hiff.1 h)) (Ev.now _)
theorem utakeR_fr (l : List Int) (h : l.length ≤ 700) (t : ByteArray) (hl : Bytes l) : utakeR (bytesOf (strOfNums (fr l) ++ t)) = (strOfNums l, t, true) := by
  unfold utakeR
  rw [bytesOf_append, bytesOf_str (fr_bytes hl), utk_fr l _ h]
  simp only [str_bytesOf]
theorem utakeR_cut (l : List Int) (h : l.length ≤ 700) (hl : Bytes l) (k : Nat) (hk : k < (fr l).length) : utakeR (bytesOf ((strOfNums (fr l)).extract 0 k)) = (⟨#[]⟩, ⟨#[]⟩, false) := by
  unfold utakeR
  rw [bytesOf_extract, List.drop_zero, bytesOf_str (fr_bytes hl), utk_cut l h k hk]

theorem vb1 (n : Nat) (h : n < 128) : (vb n).length = 1 := by rw [vb_small h]; rfl
theorem ab_bytes : bytesOf (⟨#[97, 98]⟩ : ByteArray) = [97, 98] := by decide
theorem ab_Bytes : Bytes [97, 98] := by
  intro b hb
  simp only [List.mem_cons, List.not_mem_nil, or_false] at hb
  rcases hb with rfl | rfl <;> (constructor <;> decide)
/-- It wakes. -/
theorem wakes2_ev : Ev (fun k => lectionarylaw2_wakes.f k) true := by
  unfold lectionarylaw2_wakes.f
  have h1 : addR (⟨#[97, 98]⟩ : ByteArray) = strOfNums (fr [97, 98]) := by rw [addR_ok (by decide), ab_bytes]
  refine Ev.bind (h1 ▸ add_ev (⟨#[97, 98]⟩ : ByteArray)) ?_
  have hl : (fr [97, 98]).length = 7 := by rw [fr_len, vb1 _ (by decide)]; rfl
  rw [str_size, hl]
  refine Ev.ite (by decide) ?_
  refine Ev.bind ((utakeR_fr [97, 98] (by decide) (⟨#[99]⟩ : ByteArray) ab_Bytes) ▸ utake_ev (strOfNums (fr [97, 98]) ++ (⟨#[99]⟩ : ByteArray)) (by rw [ByteArray.size_append, str_size, hl]; decide)) ?_
  refine Ev.bind (add_ev (⟨#[]⟩ : ByteArray)) ?_
  have h2 : addR (⟨#[]⟩ : ByteArray) = strOfNums (fr []) := by rw [addR_ok (by decide)]; rfl
  have hl2 : (fr []).length = 5 := by rw [fr_len, vb1 _ (by decide)]; rfl
  rw [h2, str_size, hl2]
  refine Ev.ite (by decide) (Ev.ite (by simp) (Ev.ite (by simp only [ByteArray.toList_eq]; decide) (Ev.ite (by simp only [ByteArray.toList_eq]) ?_)))
  refine Ev.bind (of_ev _ (by decide)) (Ev.bind (of_ev _ (by decide)) (Ev.some_of ?_))
  decide

end Go.Proofs.YtcjedinpiedhcaaCoreS
