/- A part of the proof: what the program does, step by step, over values without addresses. No conditions of mine. -/
import Derived.Test.YtadfohbogoocgaaGreatDoorCoreAiZ7toAiF
import Derived.Laws.BitsLemmas
import Derived.Laws.BytesArg
import Derived.Laws.Strings
set_option linter.unusedVariables false
set_option linter.unusedSimpArgs false
namespace Go.Ai
open Go Go.RowKit
set_option linter.unusedVariables false
set_option linter.unusedSimpArgs false
def bytesOf (s : ByteArray) : List Int := s.data.toList.map fun b => (b.toNat : Int)
theorem bytesOf_length (s : ByteArray) : (bytesOf s).length = s.size := by unfold bytesOf; rw [List.length_map]; rfl
def shl (k : IntKind) (x y : Int) : Int := k.wrap (x * 2 ^ min y.toNat k.bits)
/-- A number's bytes. -/
def vb (n : Nat) : List Int := if n < 128 then [(n : Int)] else ((n % 128 + 128 : Nat) : Int) :: vb (n / 128)
termination_by n

def isByte (b : Int) : Prop := 0 ≤ b ∧ b ≤ 255
def Bytes (l : List Int) : Prop := ∀ b ∈ l, isByte b

theorem Bytes.cons {b : Int} {l : List Int} (h : Bytes (b :: l)) : isByte b ∧ Bytes l := ⟨h b (by simp), fun x hx => h x (by simp [hx])⟩
theorem Bytes.mk {b : Int} {l : List Int} (h : isByte b) (k : Bytes l) : Bytes (b :: l) := by
  intro x hx
  rcases List.mem_cons.1 hx with rfl | hx
  · exact h
  · exact k x hx
theorem Bytes.append {a b : List Int} (h : Bytes a) (k : Bytes b) : Bytes (a ++ b) := by
  intro x hx
  rcases List.mem_append.1 hx with hx | hx
  · exact h x hx
  · exact k x hx
theorem Bytes.left {a b : List Int} (h : Bytes (a ++ b)) : Bytes a := fun x hx => h x (List.mem_append_left _ hx)
theorem Bytes.right {a b : List Int} (h : Bytes (a ++ b)) : Bytes b := fun x hx => h x (List.mem_append_right _ hx)
theorem Bytes.drop {l : List Int} (h : Bytes l) (n : Nat) : Bytes (l.drop n) := fun x hx => h x (List.mem_of_mem_drop hx)
theorem Bytes.take {l : List Int} (h : Bytes l) (n : Nat) : Bytes (l.take n) := fun x hx => h x (List.mem_of_mem_take hx)
theorem Bytes.nil : Bytes [] := fun x hx => by simp at hx

theorem vb_small {n : Nat} (h : n < 128) : vb n = [(n : Int)] := by rw [vb, if_pos h]
theorem vb_big {n : Nat} (h : ¬ n < 128) : vb n = ((n % 128 + 128 : Nat) : Int) :: vb (n / 128) := by rw [vb, if_neg h]

theorem vb_bytes (n : Nat) : Bytes (vb n) := by
  induction n using Nat.strongRecOn with
  | _ n ih =>
    by_cases h : n < 128
    · rw [vb_small h]; exact Bytes.mk ⟨by omega, by omega⟩ Bytes.nil
    · rw [vb_big h]; exact Bytes.mk ⟨by omega, by omega⟩ (ih _ (by omega))

theorem vb_ne (n : Nat) : 0 < (vb n).length := by
  by_cases h : n < 128
  · rw [vb_small h]; simp
  · rw [vb_big h]; simp

theorem vb_len (j n : Nat) (h : n < 128 ^ (j + 1)) : (vb n).length ≤ j + 1 := by
  induction j generalizing n with
  | zero => rw [vb_small (by simpa using h)]; simp
  | succ j ih =>
    by_cases h0 : n < 128
    · rw [vb_small h0]; simp
    · rw [vb_big h0]
      have := ih (n / 128) (by
        have e : (128 : Nat) ^ (j + 1 + 1) = 128 * 128 ^ (j + 1) := by rw [Nat.pow_succ, Nat.mul_comm]
        rw [e] at h
        exact Nat.div_lt_of_lt_mul h)
      simp only [List.length_cons]; omega
theorem vb_len9 (n : Nat) (h : n < 9223372036854775808) : (vb n).length ≤ 9 := vb_len 8 n (by simpa using h)
theorem vb_len5 (n : Nat) (h : n ≤ 268435456) : (vb n).length ≤ 5 := vb_len 4 n (Nat.lt_of_le_of_lt h (by decide))

/-- The number that bytes begin with, and what is behind. -/
def parse : List Int → Option (Int × List Int)
  | [] => none
  | b :: r => if b < 128 then some (b, r) else (parse r).bind fun y => if y.1 = 0 then none else some (b - 128 + 128 * y.1, y.2)

theorem parse_vb (n : Nat) (r : List Int) : parse (vb n ++ r) = some ((n : Int), r) := by
  induction n using Nat.strongRecOn with
  | _ n ih =>
    by_cases h : n < 128
    · rw [vb_small h]; simp only [List.cons_append, List.nil_append, parse]; rw [if_pos (by omega)]
    · rw [vb_big h]; simp only [List.cons_append, parse]
      rw [if_neg (by omega), ih (n / 128) (by omega)]
      simp only [Option.bind_some]
      rw [if_neg (by omega)]
      simp only [Option.some.injEq, Prod.mk.injEq, and_true]
      omega

theorem parse_sound {l : List Int} (hl : Bytes l) {m : Int} {r : List Int} (h : parse l = some (m, r)) : 0 ≤ m ∧ l = vb m.toNat ++ r := by
  induction l generalizing m r with
  | nil => simp [parse] at h
  | cons b q ih =>
    obtain ⟨hb, hq⟩ := hl.cons
    have ⟨hb0, hb1⟩ := hb
    simp only [parse] at h
    by_cases h0 : b < 128
    · rw [if_pos h0] at h
      simp only [Option.some.injEq, Prod.mk.injEq] at h
      obtain ⟨rfl, rfl⟩ := h
      refine ⟨hb0, ?_⟩
      rw [vb_small (by omega)]
      simp [Int.toNat_of_nonneg hb0]
    · rw [if_neg h0] at h
      obtain ⟨⟨m', r'⟩, h1, h2⟩ := Option.bind_eq_some_iff.1 h
      simp only at h2
      by_cases h3 : m' = 0
      · rw [if_pos h3] at h2; cases h2
      · rw [if_neg h3] at h2
        simp only [Option.some.injEq, Prod.mk.injEq] at h2
        obtain ⟨rfl, rfl⟩ := h2
        obtain ⟨k0, k1⟩ := ih hq h1
        refine ⟨by omega, ?_⟩
        rw [vb_big (by omega), k1]
        have e1 : ((b - 128 + 128 * m').toNat % 128 + 128 : Nat) = b.toNat := by omega
        have e2 : (b - 128 + 128 * m').toNat / 128 = m'.toNat := by omega
        rw [e1, e2, Int.toNat_of_nonneg hb0]
        rfl

theorem parse_bytes {l : List Int} (hl : Bytes l) {m : Int} {r : List Int} (h : parse l = some (m, r)) : Bytes r := by
  have := (parse_sound hl h).2
  rw [this] at hl
  exact hl.right

/-- A number that may be. -/
def pk (l : List Int) : Option (Int × List Int) := (parse l).bind fun y => if y.1 > 268435456 then none else some y

theorem pk_vb (n : Nat) (hn : n ≤ 268435456) (r : List Int) : pk (vb n ++ r) = some ((n : Int), r) := by
  unfold pk
  rw [parse_vb]
  simp only [Option.bind_some]
  rw [if_neg (by omega)]
theorem pk_sound {l : List Int} (hl : Bytes l) {m : Int} {r : List Int} (h : pk l = some (m, r)) : 0 ≤ m ∧ m ≤ 268435456 ∧ l = vb m.toNat ++ r ∧ Bytes r := by
  unfold pk at h
  obtain ⟨y, h1, h2⟩ := Option.bind_eq_some_iff.1 h
  by_cases h3 : y.1 > 268435456
  · rw [if_pos h3] at h2; cases h2
  · rw [if_neg h3] at h2
    obtain rfl := Option.some.inj h2
    obtain ⟨k0, k1⟩ := parse_sound hl h1
    exact ⟨k0, by omega, k1, parse_bytes hl h1⟩
theorem pk_len {l : List Int} (hl : Bytes l) {m : Int} {r : List Int} (h : pk l = some (m, r)) : l.length = (vb m.toNat).length + r.length := by
  have := (pk_sound hl h).2.2.1
  rw [this, List.length_append]

/-- The loop that takes it. -/
def tk (i : Nat) (x : Int) : List Int → Option (Int × List Int)
  | [] => none
  | b :: r => if 5 ≤ i then none else if b ≥ 128 then tk (i + 1) (x + (b - 128) * 128 ^ i) r else if x + b * 128 ^ i > 268435456 ∨ (0 < i ∧ b = 0) then none else some (x + b * 128 ^ i, r)

theorem tk_parse : ∀ (q : List Int) (i : Nat) (x : Int), 0 ≤ x → i ≤ 5 → Bytes q → tk i x q = (parse q).bind fun y => if (0 < i ∧ y.1 = 0) ∨ x + 128 ^ i * y.1 > 268435456 then none else some (x + 128 ^ i * y.1, y.2)
  | [], _, _, _, _, _ => rfl
  | b :: r, i, x, hx, hi, hq => by
    obtain ⟨⟨hb0, hb1⟩, hr⟩ := hq.cons
    simp only [tk]
    by_cases h5 : 5 ≤ i
    · rw [if_pos h5]
      obtain rfl : i = 5 := by omega
      cases hp : parse (b :: r) with
      | none => rfl
      | some y =>
        have hy := (parse_sound hq (m := y.1) (r := y.2) (by rw [hp])).1
        simp only [Option.bind_some]
        rw [if_pos]
        by_cases h0 : y.1 = 0
        · exact .inl ⟨by omega, h0⟩
        · right
          have e : (128 : Int) ^ 5 = 34359738368 := by decide
          rw [e]; omega
    · rw [if_neg h5]
      by_cases hb : b ≥ 128
      · rw [if_pos hb, tk_parse r (i + 1) _ (by have : (0 : Int) ≤ 128 ^ i := Int.pow_nonneg (by decide); have h2 : 0 ≤ (b - 128) * 128 ^ i := Int.mul_nonneg (by omega) this; omega) (by omega) hr]
        simp only [parse]
        rw [if_neg (by omega)]
        cases hp : parse r with
        | none => rfl
        | some y =>
          have hy := (parse_sound hr (m := y.1) (r := y.2) (by rw [hp])).1
          simp only [Option.bind_some]
          have e : (128 : Int) ^ (i + 1) * y.1 = 128 ^ i * (128 * y.1) := by rw [Int.pow_succ, Int.mul_assoc]
          have e2 : x + (b - 128) * 128 ^ i + 128 ^ (i + 1) * y.1 = x + 128 ^ i * (b - 128 + 128 * y.1) := by rw [e, Int.mul_add, Int.mul_comm (b - 128)]; omega
          by_cases h0 : y.1 = 0
          · rw [if_pos (.inl ⟨by omega, h0⟩), if_pos h0]; rfl
          · rw [if_neg h0]
            simp only [Option.bind_some]
            rw [e2]
            by_cases h7 : x + 128 ^ i * (b - 128 + 128 * y.1) > 268435456
            · rw [if_pos (.inr h7), if_pos (.inr h7)]
            · rw [if_neg (by rintro (h | h); exact h0 h.2; exact h7 h), if_neg (by rintro (h | h); omega; exact h7 h)]
      · rw [if_neg hb]
        have hpb : parse (b :: r) = some (b, r) := by simp only [parse]; rw [if_pos (by omega)]
        rw [hpb]
        simp only [Option.bind_some]
        rw [Int.mul_comm b]
        by_cases h7 : x + 128 ^ i * b > 268435456 ∨ 0 < i ∧ b = 0
        · rw [if_pos h7, if_pos h7.symm]
        · rw [if_neg h7, if_neg (fun h => h7 h.symm)]

theorem tk_pk (l : List Int) (hl : Bytes l) : tk 0 0 l = pk l := by
  rw [tk_parse l 0 0 (Int.le_refl _) (by omega) hl]
  unfold pk
  congr 1
  funext y
  have e : (0 : Int) + 128 ^ 0 * y.1 = y.1 := by simp
  rw [e]
  by_cases h : y.1 > 268435456
  · rw [if_pos h, if_pos (.inr h)]
  · rw [if_neg h, if_neg (by rintro (h' | h'); omega; exact h h')]

/-- The value of a prefix. -/
def pval : List Int → Int
  | [] => 0
  | b :: r => b - 128 + 128 * pval r

theorem pval_snoc (p : List Int) (b : Int) : pval (p ++ [b]) = pval p + (b - 128) * 128 ^ p.length := by
  induction p with
  | nil => simp [pval]
  | cons c p ih =>
    simp only [List.cons_append, pval, ih, List.length_cons, Int.pow_succ]
    rw [Int.mul_add, ← Int.mul_assoc, Int.mul_comm 128 (b - 128), Int.mul_assoc, Int.mul_comm 128 (128 ^ p.length)]
    omega

theorem parse_prefix : ∀ (p : List Int) (b : Int) (r : List Int), (∀ c ∈ p, 128 ≤ c) → 0 ≤ b → b < 128 → parse (p ++ b :: r) = if p ≠ [] ∧ b = 0 then none else some (pval p + b * 128 ^ p.length, r)
  | [], b, r, _, _, hb => by simp [parse, hb, pval]
  | c :: p, b, r, hp, h0, hb => by
    have hc := hp c (by simp)
    have hp' : ∀ x ∈ p, 128 ≤ x := fun x hx => hp x (by simp [hx])
    have hv : ∀ q : List Int, (∀ x ∈ q, 128 ≤ x) → 0 ≤ pval q := by
      intro q
      induction q with
      | nil => intro _; simp [pval]
      | cons d q ih =>
        intro hq
        have := ih (fun x hx => hq x (by simp [hx]))
        have := hq d (by simp)
        simp only [pval]; omega
    simp only [List.cons_append, parse]
    rw [if_neg (by omega), parse_prefix p b r hp' h0 hb]
    by_cases hz : b = 0
    · subst hz
      rw [if_pos (c := (c :: p ≠ [] ∧ (0 : Int) = 0)) ⟨by simp, rfl⟩]
      cases p with
      | nil => simp [pval]
      | cons d p => simp
    · rw [if_neg (fun h => hz h.2), if_neg (fun h => hz h.2)]
      simp only [Option.bind_some]
      have hpos : 0 < (128 : Int) ^ p.length := Int.pow_pos (by decide)
      have h1 : 0 < b * 128 ^ p.length := Int.mul_pos (by omega) hpos
      have h2 := hv p hp'
      rw [if_neg (by omega)]
      simp only [pval, List.length_cons, Int.pow_succ, Option.some.injEq, Prod.mk.injEq, and_true]
      rw [Int.mul_add, ← Int.mul_assoc b, Int.mul_comm (b * 128 ^ p.length) 128]
      omega

theorem vb_iff (p : List Int) (b : Int) (hp : ∀ c ∈ p, 128 ≤ c) (hB : Bytes p) (h0 : 0 ≤ b) (hb : b < 128) : vb (pval p + b * 128 ^ p.length).toNat = p ++ [b] ↔ ¬ (p ≠ [] ∧ b = 0) := by
  have h := parse_prefix p b [] hp h0 hb
  have hBb : Bytes (p ++ [b]) := hB.append (Bytes.mk ⟨h0, by omega⟩ Bytes.nil)
  constructor
  · intro he hz
    rw [if_pos hz, ← he] at h
    have := parse_vb (pval p + b * 128 ^ p.length).toNat []
    rw [List.append_nil] at this
    rw [this] at h
    cases h
  · intro hz
    rw [if_neg hz] at h
    have := (parse_sound hBb h).2
    rw [List.append_nil] at this
    exact this.symm

/-! ### bytes and strings -/
theorem bytesOf_bytes (s : ByteArray) : Bytes (bytesOf s) := by
  intro b hb
  obtain ⟨u, _, rfl⟩ := List.mem_map.1 hb
  have := u.toNat_lt
  exact ⟨by omega, by omega⟩
theorem str_bytesOf (s : ByteArray) : strOfNums (bytesOf s) = s := by
  apply ByteArray.ext
  apply Array.ext'
  rw [strOfNums_data, bytesOf, List.map_map]
  conv => rhs; rw [← List.map_id s.data.toList]
  apply List.map_congr_left
  intro u _
  simp
theorem bytesOf_str {l : List Int} (h : Bytes l) : bytesOf (strOfNums l) = l := by
  unfold bytesOf
  rw [strOfNums_data, List.map_map]
  conv => rhs; rw [← List.map_id l]
  apply List.map_congr_left
  intro b hb
  have ⟨h0, h1⟩ := h b hb
  have e : UInt8.toNat (UInt8.ofNat b.toNat) = b.toNat := by
    rw [UInt8.toNat_ofNat']
    exact Nat.mod_eq_of_lt (by omega)
  simp only [Function.comp, id]
  rw [e]
  omega
theorem bytesOf_inj {s t : ByteArray} (h : bytesOf s = bytesOf t) : s = t := by rw [← str_bytesOf s, ← str_bytesOf t, h]
theorem bytesOf_append (s t : ByteArray) : bytesOf (s ++ t) = bytesOf s ++ bytesOf t := by
  unfold bytesOf
  rw [← List.map_append]
  congr 1
theorem bytesOf_extract (s : ByteArray) (i j : Nat) : bytesOf (s.extract i j) = ((bytesOf s).take j).drop i := by
  unfold bytesOf
  rw [← List.map_take, ← List.map_drop]
  congr 1
  simp only [ByteArray.data_extract, Array.toList_extract, List.extract_eq_take_drop]
  rw [List.drop_take]
theorem str_append (a b : List Int) : strOfNums (a ++ b) = strOfNums a ++ strOfNums b := by
  apply ByteArray.ext
  apply Array.ext'
  simp [strOfNums]
theorem bytesOf_empty : bytesOf (⟨#[]⟩ : ByteArray) = [] := rfl
theorem str_nil : strOfNums [] = (⟨#[]⟩ : ByteArray) := rfl
theorem bt_get (s : ByteArray) (i : Nat) (h : i < s.size) : ∃ b : UInt8, (bytesOf s).drop i = (b.toNat : Int) :: (bytesOf s).drop (i + 1) ∧ s[i]? = some b := by
  have hl : i < (bytesOf s).length := by rw [bytesOf_length]; exact h
  have hd : i < s.data.toList.length := by simpa using h
  refine ⟨s[i], ?_, by rw [getElem?_pos s i h]⟩
  rw [List.drop_eq_getElem_cons hl]
  congr 1
  show (s.data.toList.map fun b => (b.toNat : Int))[i]'(by simpa using h) = _
  rw [List.getElem_map]
  rfl
theorem wraps_i64 (n : Int) (h₀ : 0 ≤ n) (h₁ : n < 2 ^ 63) : IntKind.i64.wrap n = n := by rw [IntKind.wrap_i64]; omega
theorem extract_str (s : ByteArray) (i : Nat) : s.extract i s.size = strOfNums ((bytesOf s).drop i) := by
  apply bytesOf_inj
  rw [bytesOf_extract, bytesOf_str ((bytesOf_bytes s).drop i), List.take_of_length_le (by rw [bytesOf_length]; omega)]
theorem prefix_str (s : ByteArray) (i : Nat) : s.extract 0 i = strOfNums ((bytesOf s).take i) := by
  apply bytesOf_inj
  rw [bytesOf_extract, bytesOf_str ((bytesOf_bytes s).take i), List.drop_zero]
theorem pow_le {i : Nat} (hi : i < 5) : (128 : Int) ^ i ≤ 268435456 := by
  have h4 : (128 : Int) ^ i ≤ 128 ^ 4 := by exact_mod_cast Nat.pow_le_pow_right (show 0 < 128 by decide) (show i ≤ 4 by omega)
  have e : (128 : Int) ^ 4 = 268435456 := by decide
  omega
/-- The bits of a byte, at their place. -/
theorem or_shl {x b : Int} {i : Nat} (hx : 0 ≤ x) (hx1 : x < 128 ^ i) (hi : i < 5) (hb : isByte b) :
    Go.bits .or .i64 x (shl .i64 (wrap64 (Go.bits .and .u8 b 127)) (wrap64 (7 * (i : Int)))) = x + b % 128 * 128 ^ i := by
  have ⟨hb0, hb1⟩ := hb
  have e1 : Go.bits .and .u8 b 127 = b % 128 := bits_mask .u8 8 (by decide) wraps_u8 7 (by decide) b hb0 (by omega)
  rw [e1, w64 (x := b % 128) (by omega) (by omega), w64 (x := 7 * (i : Int)) (by omega) (by omega)]
  have e2 : shl .i64 (b % 128) (7 * (i : Int)) = b % 128 * 128 ^ i := by
    unfold shl
    have e3 : (7 * (i : Int)).toNat = 7 * i := by omega
    rw [e3, Nat.min_eq_left (by show 7 * i ≤ 64; omega), Int.pow_mul]
    have e4 : ((2 : Int) ^ 7) ^ i = 128 ^ i := rfl
    rw [e4]
    have hle : (128 : Int) ^ i ≤ 268435456 := pow_le hi
    have hlt : b % 128 * 128 ^ i ≤ 127 * 268435456 := Int.mul_le_mul (by omega) hle (Int.pow_nonneg (by decide)) (by decide)
    exact wraps_i64 _ (Int.mul_nonneg (by omega) (Int.pow_nonneg (by decide))) (by omega)
  rw [e2, Int.add_comm]
  have hp : (128 : Int) ^ i = 2 ^ (7 * i) := by rw [Int.pow_mul]; rfl
  have hc : Go.bits .or .i64 x (b % 128 * 128 ^ i) = Go.bits .or .i64 (b % 128 * 128 ^ i) x := by
    simp only [Go.bits, BitVec.or_comm]
  rw [hc]
  have hle : (128 : Int) ^ i ≤ 268435456 := pow_le hi
  have hge : (0 : Int) ≤ 128 ^ i := Int.pow_nonneg (by decide)
  have hlt : b % 128 * 128 ^ i ≤ 127 * 268435456 := Int.mul_le_mul (by omega) hle hge (by decide)
  have hzero : b % 128 * 128 ^ i % 2 ^ (7 * i) = 0 := by rw [hp]; exact Int.mul_emod_left _ _
  have hnn : 0 ≤ b % 128 * 128 ^ i := Int.mul_nonneg (by omega) hge
  rw [hp] at hx1
  generalize b % 128 * 128 ^ i = z at *
  exact bits_join .i64 63 (by decide) wraps_i64 (7 * i) z x hnn hzero (by omega) hx hx1 (by rw [← hp] at hx1; omega)
/-- A byte with the mark that more follow. -/
theorem or_128 {n : Int} (h0 : 0 ≤ n) (h1 : n < 9223372036854775808) : (Go.bits .or .i64 (Go.bits .and .i64 n 127) 128) % 256 = n % 128 + 128 := by
  have e1 : Go.bits .and .i64 n 127 = n % 128 := bits_mask .i64 63 (by decide) wraps_i64 7 (by decide) n h0 (by omega)
  have hc : Go.bits .or .i64 (n % 128) 128 = Go.bits .or .i64 128 (n % 128) := by simp only [Go.bits, BitVec.or_comm]
  rw [e1, hc, bits_join .i64 63 (by decide) wraps_i64 7 128 (n % 128) (by decide) (by decide) (by decide) (by omega) (by omega) (by omega)]
  omega
theorem ef_str8 {P : Program} {h : Nat → Option Blk} {site : Nat} (l : List Int) {S T Et : TypeId} {x : Operand} {b ver len : Nat} {k : Blk} (hk : live h b ver = some k) (hs : k.sz = 1) (hes : k.es = l.map u8) (hl : len = l.length) (hE : elemT P S = some Et) (hT : P.underlying T = some .string) (hU : P.underlying Et = some (.int .u8)) :
    eff P site (.convert S T x) [.sl b ver 0 len] h = some (.val (.string (strOfNums l)), []) := by
  have h1 : seen h 1 (.sl b ver 0 len) = some (l.map u8, k.cl) := by
    rw [← hs]
    exact seen_sl hk (by rw [hes, List.length_map]; omega) (by rw [hes, List.drop_zero, List.take_of_length_le (by simp [hl])])
  exact ef_bstr (fun _ h => by cases h) hE hT hU h1 (cells_bytes l)
end Go.Ai
