import Derived.Test.YtadfohbogoocgaaWWords
import Derived.Test.YtadfohbogoocgaaWMore
import Derived.Laws.BitsLemmas
namespace Go.Proofs.YtadfohbogoocgaaVb
open Go.RowKit Go.Proofs.YtadfohbogoocgaaW.PrintWords Go.Proofs.YtadfohbogoocgaaW.PrintLast Go.Proofs.YtadfohbogoocgaaW.PrintMore
def vb (n : Nat) : List Int := if n < 128 then [(n : Int)] else ((n % 128 + 128 : Nat) : Int) :: vb (n / 128)
termination_by n
def isByte (b : Int) : Prop := 0 ≤ b ∧ b ≤ 255
def Bytes (l : List Int) : Prop := ∀ b ∈ l, isByte b
theorem Bytes.cons {b : Int} {l : List Int} (h : Bytes (b :: l)) : isByte b ∧ Bytes l := ⟨h b (by simp), fun x hx => h x (by simp [hx])⟩
theorem Bytes.mk {b : Int} {l : List Int} (h : isByte b) (k : Bytes l) : Bytes (b :: l) := by
  intro x hx
  rcases List.mem_cons.1 hx with rfl | hx
  · exact h
  · exact k x hx
theorem Bytes.append {a b : List Int} (h : Bytes a) (k : Bytes b) : Bytes (a ++ b) := by
  intro x hx
  rcases List.mem_append.1 hx with hx | hx
  · exact h x hx
  · exact k x hx
theorem Bytes.right {a b : List Int} (h : Bytes (a ++ b)) : Bytes b := fun x hx => h x (List.mem_append_right _ hx)
theorem Bytes.drop {l : List Int} (h : Bytes l) (n : Nat) : Bytes (l.drop n) := fun x hx => h x (List.mem_of_mem_drop hx)
theorem Bytes.take {l : List Int} (h : Bytes l) (n : Nat) : Bytes (l.take n) := fun x hx => h x (List.mem_of_mem_take hx)
theorem Bytes.nil : Bytes [] := fun x hx => by simp at hx
theorem z0a {n : Nat} (h : n < 128) : vb n = [(n : Int)] := by rw [vb, if_pos h]
theorem z3a {n : Nat} (h : ¬ n < 128) : vb n = ((n % 128 + 128 : Nat) : Int) :: vb (n / 128) := by rw [vb, if_neg h]
theorem z6s (n : Nat) : Bytes (vb n) := by
  induction n using Nat.strongRecOn with
  | _ n ih =>
    by_cases h : n < 128
    · rw [z0a h]; exact Bytes.mk ⟨by omega, by omega⟩ Bytes.nil
    · rw [z3a h]; exact Bytes.mk ⟨by omega, by omega⟩ (ih _ (by omega))
theorem z9h (j n : Nat) (h : n < 128 ^ (j + 1)) : (vb n).length ≤ j + 1 := by
  induction j generalizing n with
  | zero => rw [z0a (by simpa using h)]; simp
  | succ j ih =>
    by_cases h0 : n < 128
    · rw [z0a h0]; simp
    · rw [z3a h0]
      have := ih (n / 128) (by
        have e : (128 : Nat) ^ (j + 1 + 1) = 128 * 128 ^ (j + 1) := by rw [Nat.pow_succ, Nat.mul_comm]
        rw [e] at h
        exact Nat.div_lt_of_lt_mul h)
      simp only [List.length_cons]; omega
theorem z7t (n : Nat) (h : n < 9223372036854775808) : (vb n).length ≤ 9 := z9h 8 n (by simpa using h)
theorem z4t (n : Nat) (h : n ≤ 268435456) : (vb n).length ≤ 5 := z9h 4 n (Nat.lt_of_le_of_lt h (by decide))
def parse : List Int → Option (Int × List Int)
  | [] => none
  | b :: r => if b < 128 then some (b, r) else (parse r).bind fun y => if y.1 = 0 then none else some (b - 128 + 128 * y.1, y.2)
theorem za7 (n : Nat) (r : List Int) : parse (vb n ++ r) = some ((n : Int), r) := by
  induction n using Nat.strongRecOn with
  | _ n ih =>
    by_cases h : n < 128
    · rw [z0a h]; simp only [List.cons_append, List.nil_append, parse]; rw [if_pos (by omega)]
    · rw [z3a h]; simp only [List.cons_append, parse]
      rw [if_neg (by omega), ih (n / 128) (by omega)]
      simp only [Option.bind_some]
      rw [if_neg (by omega)]
      simp only [Option.some.injEq, Prod.mk.injEq, and_true]
      omega
theorem z16 {l : List Int} (hl : Bytes l) {m : Int} {r : List Int} (h : parse l = some (m, r)) : 0 ≤ m ∧ l = vb m.toNat ++ r := by
  induction l generalizing m r with
  | nil => simp [parse] at h
  | cons b q ih =>
    obtain ⟨hb, hq⟩ := hl.cons
    have ⟨hb0, hb1⟩ := hb
    simp only [parse] at h
    by_cases h0 : b < 128
    · rw [if_pos h0] at h
      simp only [Option.some.injEq, Prod.mk.injEq] at h
      obtain ⟨rfl, rfl⟩ := h
      refine ⟨hb0, ?_⟩
      rw [z0a (by omega)]
      simp [Int.toNat_of_nonneg hb0]
    · rw [if_neg h0] at h
      obtain ⟨⟨m', r'⟩, h1, h2⟩ := Option.bind_eq_some_iff.1 h
      simp only at h2
      by_cases h3 : m' = 0
      · rw [if_pos h3] at h2; cases h2
      · rw [if_neg h3] at h2
        simp only [Option.some.injEq, Prod.mk.injEq] at h2
        obtain ⟨rfl, rfl⟩ := h2
        obtain ⟨k0, k1⟩ := ih hq h1
        refine ⟨by omega, ?_⟩
        rw [z3a (by omega), k1]
        have e1 : ((b - 128 + 128 * m').toNat % 128 + 128 : Nat) = b.toNat := by omega
        have e2 : (b - 128 + 128 * m').toNat / 128 = m'.toNat := by omega
        rw [e1, e2, Int.toNat_of_nonneg hb0]
        rfl
theorem z7f {l : List Int} (hl : Bytes l) {m : Int} {r : List Int} (h : parse l = some (m, r)) : Bytes r := by
  have := (z16 hl h).2
  rw [this] at hl
  exact hl.right
def pk (l : List Int) : Option (Int × List Int) := (parse l).bind fun y => if y.1 > 268435456 then none else some y
theorem zb2 (n : Nat) (hn : n ≤ 268435456) (r : List Int) : pk (vb n ++ r) = some ((n : Int), r) := by
  unfold pk
  rw [za7]
  simp only [Option.bind_some]
  rw [if_neg (by omega)]
theorem z2d {l : List Int} (hl : Bytes l) {m : Int} {r : List Int} (h : pk l = some (m, r)) : 0 ≤ m ∧ m ≤ 268435456 ∧ l = vb m.toNat ++ r ∧ Bytes r := by
  unfold pk at h
  obtain ⟨y, h1, h2⟩ := Option.bind_eq_some_iff.1 h
  by_cases h3 : y.1 > 268435456
  · rw [if_pos h3] at h2; cases h2
  · rw [if_neg h3] at h2
    obtain rfl := Option.some.inj h2
    obtain ⟨k0, k1⟩ := z16 hl h1
    exact ⟨k0, by omega, k1, z7f hl h1⟩
theorem z9i {l : List Int} (hl : Bytes l) {m : Int} {r : List Int} (h : pk l = some (m, r)) : l.length = (vb m.toNat).length + r.length := by
  have := (z2d hl h).2.2.1
  rw [this, List.length_append]
def tk (i : Nat) (x : Int) : List Int → Option (Int × List Int)
  | [] => none
  | b :: r => if 5 ≤ i then none else if b ≥ 128 then tk (i + 1) (x + (b - 128) * 128 ^ i) r else if x + b * 128 ^ i > 268435456 ∨ (0 < i ∧ b = 0) then none else some (x + b * 128 ^ i, r)
theorem z6t : ∀ (q : List Int) (i : Nat) (x : Int), 0 ≤ x → i ≤ 5 → Bytes q → tk i x q = (parse q).bind fun y => if (0 < i ∧ y.1 = 0) ∨ x + 128 ^ i * y.1 > 268435456 then none else some (x + 128 ^ i * y.1, y.2)
  | [], _, _, _, _, _ => rfl
  | b :: r, i, x, hx, hi, hq => by
    obtain ⟨⟨hb0, hb1⟩, hr⟩ := hq.cons
    simp only [tk]
    by_cases h5 : 5 ≤ i
    · rw [if_pos h5]
      obtain rfl : i = 5 := by omega
      cases hp : parse (b :: r) with
      | none => rfl
      | some y =>
        have hy := (z16 hq (m := y.1) (r := y.2) (by rw [hp])).1
        simp only [Option.bind_some]
        rw [if_pos]
        by_cases h0 : y.1 = 0
        · exact .inl ⟨by omega, h0⟩
        · right
          have e : (128 : Int) ^ 5 = 34359738368 := by decide
          rw [e]; omega
    · rw [if_neg h5]
      by_cases hb : b ≥ 128
      · rw [if_pos hb, z6t r (i + 1) _ (by have : (0 : Int) ≤ 128 ^ i := Int.pow_nonneg (by decide); have h2 : 0 ≤ (b - 128) * 128 ^ i := Int.mul_nonneg (by omega) this; omega) (by omega) hr]
        simp only [parse]
        rw [if_neg (by omega)]
        cases hp : parse r with
        | none => rfl
        | some y =>
          have hy := (z16 hr (m := y.1) (r := y.2) (by rw [hp])).1
          simp only [Option.bind_some]
          have e : (128 : Int) ^ (i + 1) * y.1 = 128 ^ i * (128 * y.1) := by rw [Int.pow_succ, Int.mul_assoc]
          have e2 : x + (b - 128) * 128 ^ i + 128 ^ (i + 1) * y.1 = x + 128 ^ i * (b - 128 + 128 * y.1) := by rw [e, Int.mul_add, Int.mul_comm (b - 128)]; omega
          by_cases h0 : y.1 = 0
          · rw [if_pos (.inl ⟨by omega, h0⟩), if_pos h0]; rfl
          · rw [if_neg h0]
            simp only [Option.bind_some]
            rw [e2]
            by_cases h7 : x + 128 ^ i * (b - 128 + 128 * y.1) > 268435456
            · rw [if_pos (.inr h7), if_pos (.inr h7)]
            · rw [if_neg (by rintro (h | h); exact h0 h.2; exact h7 h), if_neg (by rintro (h | h); omega; exact h7 h)]
      · rw [if_neg hb]
        have hpb : parse (b :: r) = some (b, r) := by simp only [parse]; rw [if_pos (by omega)]
        rw [hpb]
        simp only [Option.bind_some]
        rw [Int.mul_comm b]
        by_cases h7 : x + 128 ^ i * b > 268435456 ∨ 0 < i ∧ b = 0
        · rw [if_pos h7, if_pos h7.symm]
        · rw [if_neg h7, if_neg (fun h => h7 h.symm)]
theorem ze9 (l : List Int) (hl : Bytes l) : tk 0 0 l = pk l := by
  rw [z6t l 0 0 (Int.le_refl _) (by omega) hl]
  unfold pk
  congr 1
  funext y
  have e : (0 : Int) + 128 ^ 0 * y.1 = y.1 := by simp
  rw [e]
  by_cases h : y.1 > 268435456
  · rw [if_pos h, if_pos (.inr h)]
  · rw [if_neg h, if_neg (by rintro (h' | h'); omega; exact h h')]
theorem z08 (s : ByteArray) : Bytes (bytesOf s) := by
  intro b hb
  obtain ⟨u, _, rfl⟩ := List.mem_map.1 hb
  have := u.toNat_lt
  exact ⟨by omega, by omega⟩
theorem z18 (s : ByteArray) : strOfNums (bytesOf s) = s := by
  apply ByteArray.ext
  apply Array.ext'
  rw [strOfNums_data, bytesOf, List.map_map]
  conv => rhs; rw [← List.map_id s.data.toList]
  apply List.map_congr_left
  intro u _
  simp
theorem z0r {l : List Int} (h : Bytes l) : bytesOf (strOfNums l) = l := by
  unfold bytesOf
  rw [strOfNums_data, List.map_map]
  conv => rhs; rw [← List.map_id l]
  apply List.map_congr_left
  intro b hb
  have ⟨h0, h1⟩ := h b hb
  have e : UInt8.toNat (UInt8.ofNat b.toNat) = b.toNat := by
    rw [UInt8.toNat_ofNat']
    exact Nat.mod_eq_of_lt (by omega)
  simp only [Function.comp, id]
  rw [e]
  omega
theorem z0b {s t : ByteArray} (h : bytesOf s = bytesOf t) : s = t := by rw [← z18 s, ← z18 t, h]
theorem z0o (s t : ByteArray) : bytesOf (s ++ t) = bytesOf s ++ bytesOf t := by
  unfold bytesOf
  rw [← List.map_append]
  congr 1
theorem z1r (s : ByteArray) (i j : Nat) : bytesOf (s.extract i j) = ((bytesOf s).take j).drop i := by
  unfold bytesOf
  rw [← List.map_take, ← List.map_drop]
  congr 1
  simp only [ByteArray.data_extract, Array.toList_extract, List.extract_eq_take_drop]
  rw [List.drop_take]
theorem z03 (a b : List Int) : strOfNums (a ++ b) = strOfNums a ++ strOfNums b := by
  apply ByteArray.ext
  apply Array.ext'
  simp [strOfNums]
theorem z0w : bytesOf (⟨#[]⟩ : ByteArray) = [] := rfl
theorem z4u : strOfNums [] = (⟨#[]⟩ : ByteArray) := rfl
theorem zcu (s : ByteArray) (i : Nat) (h : i < s.size) : ∃ b, (bytesOf s).drop i = b :: (bytesOf s).drop (i + 1) ∧ bt s (i : Int) = b ∧ isByte b := by
  have hl : i < (bytesOf s).length := by rw [gu]; exact h
  refine ⟨(bytesOf s)[i], List.drop_eq_getElem_cons hl, ?_, z08 s _ (List.getElem_mem hl)⟩
  rw [← z84]
  unfold rd
  rw [Int.toNat_natCast, List.getD_eq_getElem?_getD, List.getElem?_eq_getElem hl]
  rfl
theorem w64 {n : Int} (h0 : -9223372036854775808 ≤ n) (h1 : n < 9223372036854775808) : wrap64 n = n := by unfold wrap64; omega
theorem z50 (n : Int) (h₀ : 0 ≤ n) (h₁ : n < 2 ^ 63) : IntKind.i64.wrap n = n := by rw [IntKind.wrap_i64]; omega
theorem z3s (s : ByteArray) (i : Nat) : s.extract i s.size = strOfNums ((bytesOf s).drop i) := by
  apply z0b
  rw [z1r, z0r ((z08 s).drop i), List.take_of_length_le (by rw [gu]; omega)]
theorem z8d (s : ByteArray) (i : Nat) : s.extract 0 i = strOfNums ((bytesOf s).take i) := by
  apply z0b
  rw [z1r, z0r ((z08 s).take i), List.drop_zero]
theorem z9j {i : Nat} (hi : i < 5) : (128 : Int) ^ i ≤ 268435456 := by
  have h4 : (128 : Int) ^ i ≤ 128 ^ 4 := by exact_mod_cast Nat.pow_le_pow_right (show 0 < 128 by decide) (show i ≤ 4 by omega)
  have e : (128 : Int) ^ 4 = 268435456 := by decide
  omega
theorem zcv {x b : Int} {i : Nat} (hx : 0 ≤ x) (hx1 : x < 128 ^ i) (hi : i < 5) (hb : isByte b) :
    Go.bits .or .i64 x (shl .i64 (wrap64 (Go.bits .and .u8 b 127)) (wrap64 (7 * (i : Int)))) = x + b % 128 * 128 ^ i := by
  have ⟨hb0, hb1⟩ := hb
  have e1 : Go.bits .and .u8 b 127 = b % 128 := bits_mask .u8 8 (by decide) wraps_u8 7 (by decide) b hb0 (by omega)
  rw [e1, w64 (n := b % 128) (by omega) (by omega), w64 (n := 7 * (i : Int)) (by omega) (by omega)]
  have e2 : shl .i64 (b % 128) (7 * (i : Int)) = b % 128 * 128 ^ i := by
    unfold shl
    have e3 : (7 * (i : Int)).toNat = 7 * i := by omega
    rw [e3, Nat.min_eq_left (by show 7 * i ≤ 64; omega), Int.pow_mul]
    have e4 : ((2 : Int) ^ 7) ^ i = 128 ^ i := rfl
    rw [e4]
    have hle : (128 : Int) ^ i ≤ 268435456 := z9j hi
    have hlt : b % 128 * 128 ^ i ≤ 127 * 268435456 := Int.mul_le_mul (by omega) hle (Int.pow_nonneg (by decide)) (by decide)
    exact z50 _ (Int.mul_nonneg (by omega) (Int.pow_nonneg (by decide))) (by omega)
  rw [e2, Int.add_comm]
  have hp : (128 : Int) ^ i = 2 ^ (7 * i) := by rw [Int.pow_mul]; rfl
  have hc : Go.bits .or .i64 x (b % 128 * 128 ^ i) = Go.bits .or .i64 (b % 128 * 128 ^ i) x := by
    simp only [Go.bits, BitVec.or_comm]
  rw [hc]
  have hle : (128 : Int) ^ i ≤ 268435456 := z9j hi
  have hge : (0 : Int) ≤ 128 ^ i := Int.pow_nonneg (by decide)
  have hlt : b % 128 * 128 ^ i ≤ 127 * 268435456 := Int.mul_le_mul (by omega) hle hge (by decide)
  have hzero : b % 128 * 128 ^ i % 2 ^ (7 * i) = 0 := by rw [hp]; exact Int.mul_emod_left _ _
  have hnn : 0 ≤ b % 128 * 128 ^ i := Int.mul_nonneg (by omega) hge
  rw [hp] at hx1
  generalize b % 128 * 128 ^ i = z at *
  exact bits_join .i64 63 (by decide) z50 (7 * i) z x hnn hzero (by omega) hx hx1 (by rw [← hp] at hx1; omega)
end Go.Proofs.YtadfohbogoocgaaVb
