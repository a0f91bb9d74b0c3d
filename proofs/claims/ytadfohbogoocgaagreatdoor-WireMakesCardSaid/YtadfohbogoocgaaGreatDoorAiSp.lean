/- A part of the proof: what the program does, step by step, over values without addresses. No conditions of mine. -/
import Derived.Test.YtadfohbogoocgaaGreatDoorAiVb
import Derived.Shelf.GgClosure.StringsIndexFunc
import Derived.Lib.RuneCount
set_option linter.unusedVariables false
set_option linter.unusedSimpArgs false
namespace Go.Sp
open Go Go.RowKit Go.Ai
set_option linter.unusedVariables false
set_option linter.unusedSimpArgs false
structure E where
  f0 : Int
  f1 : Int
  f2 : Int
  deriving DecidableEq
structure O where
  f0 : Int
  f1 : Int
  f2 : Int
  f3 : E
  f4 : ByteArray
  f5 : List E
  f6 : Int
  f7 : Int
  f8 : Int
  deriving DecidableEq
structure M where
  f0 : Int
  f1 : Int
  f2 : Int
  f3 : Int
  f4 : Int
  f5 : Int
  f6 : List O
  deriving DecidableEq
def okR (x : Int) : Prop := x = 10 ∨ (32 ≤ x ∧ x ≠ 127 ∧ x ≠ 65533 ∧ x ≤ 1114111 ∧ (x ≤ 55295 ∨ 57344 ≤ x))
instance (x : Int) : Decidable (okR x) := by unfold okR; infer_instance
def badR (x : Int) : Bool := !decide (okR x)
/-- The runes of a string from a byte on. -/
def rn (s : ByteArray) : Nat → Nat → List Int
  | 0, _ => []
  | f + 1, i => if i < s.size then ((Utf8.decode s i).1 : Int) :: rn s f (i + (Utf8.decode s i).2) else []
def runesOf (s : ByteArray) : List Int := rn s s.size 0
def siteB (s : Int) : Bool := decide (1 ≤ s ∧ s ≤ 8)
def nameB (s q : Int) : Bool := siteB s && decide (1 ≤ q ∧ q ≤ 268435456)
def zeroE (e : E) : Bool := decide (e.f0 = 0 ∧ e.f1 = 0 ∧ e.f2 = 0)
def elemB (e : E) : Bool := zeroE e || nameB e.f0 e.f1 && decide (0 ≤ e.f2 ∧ e.f2 < 12)
def lessB (a b : E) : Bool := decide (a.f0 < b.f0 ∨ a.f0 = b.f0 ∧ (a.f1 < b.f1 ∨ a.f1 = b.f1 ∧ a.f2 < b.f2))
def ownB (o : O) (e : E) : Bool := decide (e.f0 = o.f0 ∧ e.f1 = o.f1)
def goneFrom (o : O) : Option E → List E → Bool
  | _, [] => true
  | p, e :: l => !zeroE e && elemB e && !ownB o e && (match p with | none => true | some q => lessB q e) && goneFrom o (some e) l
def goneB (o : O) : Bool := goneFrom o none o.f5 && decide (o.f5.length ≤ 200)
def textB (s : ByteArray) : Bool := !decide (0 ≤ Lib.idxFunc (fun x => badR (x : Int)) true s)
def emptyB (s : ByteArray) : Bool := decide (s.size = 0)
def editB (o : O) : Bool := elemB o.f3 && !ownB o o.f3 && !(emptyB o.f4 && !zeroE o.f3) && !(emptyB o.f4 && decide (o.f5.length = 0)) && textB o.f4 && decide (Lib.runeCount o.f4 ≤ 12) && goneB o && decide (o.f6 = 0 ∧ o.f7 = 0 ∧ o.f8 = 0)
def toggleB (o : O) : Bool := nameB o.f6 o.f7 && !decide (o.f6 = o.f0 ∧ o.f7 = o.f1) && decide (0 ≤ o.f8 ∧ o.f8 ≤ 268435456) && zeroE o.f3 && emptyB o.f4 && decide (o.f5.length = 0)
def mayB (o : O) : Bool := nameB o.f0 o.f1 && (decide (o.f2 = 1) && editB o || decide (o.f2 = 2) && toggleB o)
theorem zero_eq (a b c : Int) : (a == 0 && (b == 0 && (c == 0))) = zeroE ⟨a, b, c⟩ := by
  unfold zeroE
  rw [Bool.eq_iff_iff]
  simp
theorem nzero_eq (a b c : Int) : (!(a == 0) || (!(b == 0) || (!(c == 0)))) = !zeroE ⟨a, b, c⟩ := by
  rw [← zero_eq]
  cases (a == 0) <;> cases (b == 0) <;> cases (c == 0) <;> rfl
def cmpI (a b : Int) : Int := if a < b then -1 else if a > b then 1 else 0
theorem data_length (s : ByteArray) : s.data.toList.length = s.size := rfl
theorem badR_eq (x : Int) : badR x = !decide (okR x) := rfl
theorem empty_iff (s : ByteArray) : s.toList = ([] : List UInt8) ↔ s.size = 0 := by
  rw [ByteArray.toList_eq]
  constructor
  · intro h
    have := congrArg List.length h
    rw [data_length] at this
    simpa using this
  · intro h
    apply List.eq_nil_of_length_eq_zero
    rw [data_length]
    exact h
def numsB (l : List Int) : List Int := l.flatMap fun x => vb x.toNat
def elB (e : E) : List Int := numsB [e.f0, e.f1, e.f2]
def txB (s : ByteArray) : List Int := vb s.size ++ bytesOf s
def spellB (o : O) : List Int := numsB [o.f0, o.f1, o.f2] ++ (if o.f2 = 2 then numsB [o.f6, o.f7, o.f8] else elB o.f3 ++ txB o.f4 ++ numsB [(o.f5.length : Int)] ++ o.f5.flatMap elB)
def inN (x : Int) : Prop := 0 ≤ x ∧ x ≤ 268435456
theorem numsB_bytes (l : List Int) : Bytes (numsB l) := by
  intro b hb
  obtain ⟨x, _, hx⟩ := List.mem_flatMap.1 hb
  exact vb_bytes _ b hx
theorem txB_bytes (s : ByteArray) : Bytes (txB s) := (vb_bytes _).append (bytesOf_bytes s)
theorem els_bytes (l : List E) : Bytes (l.flatMap elB) := by
  intro b hb
  obtain ⟨x, _, hx⟩ := List.mem_flatMap.1 hb
  exact numsB_bytes _ b hx
theorem spellB_bytes (o : O) : Bytes (spellB o) := by
  unfold spellB
  refine (numsB_bytes _).append ?_
  split
  · exact numsB_bytes _
  · exact (((numsB_bytes _).append (txB_bytes _)).append (numsB_bytes _)).append (els_bytes _)
theorem numsB_len (l : List Int) (h : ∀ x ∈ l, inN x) : (numsB l).length ≤ 5 * l.length := by
  induction l with
  | nil => simp [numsB]
  | cons x l ih =>
    have h1 := ih (fun y hy => h y (List.mem_cons_of_mem _ hy))
    have h2 := vb_len5 x.toNat (by have := (h x (List.mem_cons_self ..)); unfold inN at this; omega)
    simp only [numsB, List.flatMap_cons, List.length_append, List.length_cons] at h1 ⊢
    omega
theorem elem_in {e : E} (h : elemB e = true) : inN e.f0 ∧ inN e.f1 ∧ inN e.f2 := by
  simp only [elemB, zeroE, nameB, siteB, Bool.or_eq_true, Bool.and_eq_true, decide_eq_true_eq] at h
  unfold inN
  omega
theorem goneFrom_in (o : O) : ∀ (l : List E) (p : Option E), goneFrom o p l = true → ∀ e ∈ l, inN e.f0 ∧ inN e.f1 ∧ inN e.f2
  | [], _, _, _, he => by simp at he
  | x :: l, p, h, e, he => by
    simp only [goneFrom, Bool.and_eq_true] at h
    rcases List.mem_cons.1 he with rfl | he
    · exact elem_in h.1.1.1.2
    · exact goneFrom_in o l _ h.2 e he
/-- What is known of an op that may be. -/
structure MayO (o : O) : Prop where
  a : inN o.f0 ∧ inN o.f1 ∧ inN o.f2
  k : o.f2 = 2 → inN o.f6 ∧ inN o.f7 ∧ inN o.f8 ∧ o.f3 = ⟨0, 0, 0⟩ ∧ o.f4 = ⟨#[]⟩ ∧ o.f5 = []
  e : o.f2 ≠ 2 → (inN o.f3.f0 ∧ inN o.f3.f1 ∧ inN o.f3.f2) ∧ Lib.runeCount o.f4 ≤ 12 ∧ o.f5.length ≤ 200 ∧ (∀ e ∈ o.f5, inN e.f0 ∧ inN e.f1 ∧ inN e.f2) ∧ o.f6 = 0 ∧ o.f7 = 0 ∧ o.f8 = 0
theorem empty_eq {s : ByteArray} (h : s.size = 0) : s = ⟨#[]⟩ := by
  have h2 : bytesOf s = [] := List.eq_nil_of_length_eq_zero (by rw [bytesOf_length]; exact h)
  exact bytesOf_inj (by rw [h2]; rfl)
theorem may_in {o : O} (h : mayB o = true) : MayO o := by
  simp only [mayB, nameB, siteB, Bool.and_eq_true, Bool.or_eq_true, decide_eq_true_eq] at h
  obtain ⟨⟨h0, h1⟩, h2⟩ := h
  refine ⟨?_, fun e2 => ?_, fun e2 => ?_⟩
  · unfold inN; rcases h2 with h2 | h2 <;> omega
  · rcases h2 with h2 | h2
    · omega
    · have h3 := h2.2
      simp only [toggleB, nameB, siteB, zeroE, emptyB, Bool.and_eq_true, decide_eq_true_eq] at h3
      obtain ⟨⟨⟨⟨⟨⟨h4, h5⟩, _⟩, h6⟩, h7⟩, h8⟩, h9⟩ := h3
      refine ⟨by unfold inN; omega, by unfold inN; omega, h6, ?_, empty_eq h8, List.eq_nil_of_length_eq_zero h9⟩
      obtain ⟨a, b, c⟩ := h7
      show (⟨o.f3.f0, o.f3.f1, o.f3.f2⟩ : E) = _
      rw [a, b, c]
  · rcases h2 with h2 | h2
    · have h3 := h2.2
      simp only [editB, goneB, Bool.and_eq_true, decide_eq_true_eq] at h3
      obtain ⟨⟨⟨⟨⟨⟨⟨h4, _⟩, _⟩, _⟩, _⟩, h5⟩, h6, h7⟩, h8⟩ := h3
      exact ⟨elem_in h4, h5, h7, goneFrom_in o _ _ h6, h8⟩
    · omega
theorem dec_le (s : ByteArray) (i : Nat) : (Utf8.decode s i).2 ≤ 4 := by
  unfold Utf8.decode
  dsimp only
  repeat' split
  all_goals simp
theorem count_from (s : ByteArray) : ∀ (f i : Nat), s.size ≤ i + f → s.size ≤ i + 4 * Lib.runeCountFrom s f i
  | 0, i, h => by unfold Lib.runeCountFrom; omega
  | f + 1, i, h => by
    unfold Lib.runeCountFrom
    split
    · have hd := dec_le s i
      have h0 := Lib.decode_width_pos s i ‹_›
      have := count_from s f (i + (Utf8.decode s i).2) (by omega)
      omega
    · omega
theorem text_size {s : ByteArray} (h : Lib.runeCount s ≤ 12) : s.size ≤ 48 := by
  have := count_from s s.size 0 (by omega)
  unfold Lib.runeCount at h
  omega
theorem els_len (l : List E) (h : ∀ e ∈ l, inN e.f0 ∧ inN e.f1 ∧ inN e.f2) : (l.flatMap elB).length ≤ 15 * l.length := by
  induction l with
  | nil => simp
  | cons x l ih =>
    have h1 := ih (fun y hy => h y (List.mem_cons_of_mem _ hy))
    have h2 := numsB_len [x.f0, x.f1, x.f2] (by have := h x (List.mem_cons_self ..); simpa using this)
    simp only [List.flatMap_cons, List.length_append, List.length_cons, List.length_nil, elB] at h1 h2 ⊢
    omega
theorem spellB_len {o : O} (h : mayB o = true) : (spellB o).length ≤ 4000 := by
  have m := may_in h
  have h1 := numsB_len [o.f0, o.f1, o.f2] (by simpa using m.a)
  unfold spellB
  rw [List.length_append]
  simp only [List.length_cons, List.length_nil] at h1
  split
  · rename_i e2
    have m2 := m.k e2
    have h2 := numsB_len [o.f6, o.f7, o.f8] (by simpa using ⟨m2.1, m2.2.1, m2.2.2.1⟩)
    simp only [List.length_cons, List.length_nil] at h2
    omega
  · rename_i e2
    have m2 := m.e e2
    have h2 := numsB_len [o.f3.f0, o.f3.f1, o.f3.f2] (by simpa using m2.1)
    have h3 := text_size m2.2.1
    have h4 := vb_len5 o.f4.size (by omega)
    have h5 := numsB_len [(o.f5.length : Int)] (by simp only [List.mem_singleton, forall_eq]; unfold inN; omega)
    have h6 := els_len o.f5 m2.2.2.2.1
    simp only [List.length_append, elB, txB, bytesOf_length, List.length_cons, List.length_nil] at h2 h5 ⊢
    have h7 := m2.2.2.1
    omega
abbrev Pt := List Int × Bool
def rdN (p : Pt) : Int × Pt := match pk p.1 with
  | some (m, r) => (m, (r, p.2))
  | none => (0, ([], true))
def rdT (p : Pt) : ByteArray × Pt := match pk p.1 with
  | some (m, r) => if m > r.length then (⟨#[]⟩, ([], true)) else (strOfNums (r.take m.toNat), (r.drop m.toNat, p.2))
  | none => (⟨#[]⟩, ([], true))
def rdE (p : Pt) : E × Pt := (⟨(rdN p).1, (rdN (rdN p).2).1, (rdN (rdN (rdN p).2).2).1⟩, (rdN (rdN (rdN p).2).2).2)
def rdG : Nat → Pt → List E × Pt
  | 0, p => ([], p)
  | n + 1, p => ((rdE p).1 :: (rdG n (rdE p).2).1, (rdG n (rdE p).2).2)
def fin (o : O) (p : Pt) : O × Pt := (o, (p.1, p.2 || !mayB o))
def rdTog (a b : Int) (p : Pt) : O × Pt := fin ⟨a, b, 2, ⟨0, 0, 0⟩, ⟨#[]⟩, [], (rdN p).1, (rdN (rdN p).2).1, (rdN (rdN (rdN p).2).2).1⟩ (rdN (rdN (rdN p).2).2).2
def rdEd4 (a b c : Int) (e : E) (s : ByteArray) (n : Int) (g : List E × Pt) : O × Pt := fin ⟨a, b, c, e, s, g.1, 0, 0, 0⟩ (g.2.1, g.2.2 || decide (n > 200))
def rdEd3 (a b c : Int) (e : E) (s : ByteArray) (n : Int × Pt) : O × Pt := rdEd4 a b c e s n.1 (rdG (min n.1.toNat 200) n.2)
def rdEd2 (a b c : Int) (e : E) (t : ByteArray × Pt) : O × Pt := rdEd3 a b c e t.1 (rdN t.2)
def rdEd (a b c : Int) (e : E × Pt) : O × Pt := rdEd2 a b c e.1 (rdT e.2)
def rdO3 (a b : Int) (c : Int × Pt) : O × Pt := if c.1 = 2 then rdTog a b c.2 else rdEd a b c.1 (rdE c.2)
def rdO (p : Pt) : O × Pt := rdO3 (rdN p).1 (rdN (rdN p).2).1 (rdN (rdN (rdN p).2).2)
/-- What is left is bytes, and not too long. -/
def GoodP (p : Pt) : Prop := Bytes p.1 ∧ p.1.length < 4611686018427387904
theorem rdN_good {p : Pt} (h : GoodP p) : GoodP (rdN p).2 ∧ 0 ≤ (rdN p).1 ∧ (rdN p).1 ≤ 268435456 := by
  unfold rdN
  cases hp : pk p.1 with
  | none => exact ⟨⟨Bytes.nil, by simp⟩, by simp, by simp⟩
  | some y =>
    obtain ⟨m, r⟩ := y
    obtain ⟨h0, h1, h2, h3⟩ := pk_sound h.1 hp
    have := pk_len h.1 hp
    exact ⟨⟨h3, by have := h.2; simp only; omega⟩, h0, h1⟩
theorem rdT_good {p : Pt} (h : GoodP p) : GoodP (rdT p).2 ∧ (rdT p).1.size < 4611686018427387904 := by
  unfold rdT
  cases hp : pk p.1 with
  | none => exact ⟨⟨Bytes.nil, by simp⟩, (show (⟨#[]⟩ : ByteArray).size < 4611686018427387904 by decide)⟩
  | some y =>
    obtain ⟨m, r⟩ := y
    obtain ⟨h0, h1, h2, h3⟩ := pk_sound h.1 hp
    have := pk_len h.1 hp
    simp only
    have := h.2
    split
    · exact ⟨⟨Bytes.nil, by simp⟩, (show (⟨#[]⟩ : ByteArray).size < 4611686018427387904 by decide)⟩
    · exact ⟨⟨h3.drop _, by simp only [List.length_drop]; omega⟩, by rw [strOfNums_size, List.length_take]; omega⟩
theorem rdE_good {p : Pt} (h : GoodP p) : GoodP (rdE p).2 := (rdN_good (rdN_good (rdN_good h).1).1).1
abbrev RO := Int × Int × Int × Int × Int × Int × ByteArray × List E × Int × Int × Int × ByteArray × Bool
def outO (x : O × Pt) : RO := (x.1.f0, x.1.f1, x.1.f2, x.1.f3.f0, x.1.f3.f1, x.1.f3.f2, x.1.f4, x.1.f5, x.1.f6, x.1.f7, x.1.f8, strOfNums x.2.1, x.2.2)
/-- What TakeOp tells. -/
def tkO (x : O × Pt) : Int × Int × Int × Int × Int × Int × ByteArray × List E × Int × Int × Int × ByteArray × Int :=
  if x.2.2 then (0, 0, 0, 0, 0, 0, ⟨#[]⟩, [], 0, 0, 0, ⟨#[]⟩, 7) else (x.1.f0, x.1.f1, x.1.f2, x.1.f3.f0, x.1.f3.f1, x.1.f3.f2, x.1.f4, x.1.f5, x.1.f6, x.1.f7, x.1.f8, strOfNums x.2.1, 0)
theorem rdN_vb {x : Int} (h : inN x) (t : List Int) (b : Bool) : rdN (vb x.toNat ++ t, b) = (x, (t, b)) := by
  unfold rdN
  rw [pk_vb x.toNat (by unfold inN at h; omega)]
  simp only
  rw [Int.toNat_of_nonneg h.1]
theorem rdN_nums {x : Int} {l : List Int} (h : inN x) (t : List Int) (b : Bool) : rdN (numsB (x :: l) ++ t, b) = (x, (numsB l ++ t, b)) := by
  have : numsB (x :: l) ++ t = vb x.toNat ++ (numsB l ++ t) := by simp [numsB]
  rw [this, rdN_vb h]
theorem numsB_nil (t : List Int) : numsB [] ++ t = t := by simp [numsB]
theorem rdE_el {e : E} (h : inN e.f0 ∧ inN e.f1 ∧ inN e.f2) (t : List Int) (b : Bool) : rdE (elB e ++ t, b) = (e, (t, b)) := by
  unfold rdE elB
  rw [rdN_nums h.1]
  dsimp only
  rw [rdN_nums h.2.1]
  dsimp only
  rw [rdN_nums h.2.2]
  dsimp only
  rw [numsB_nil]
theorem rdT_tx {s : ByteArray} (h : s.size ≤ 268435456) (t : List Int) (b : Bool) : rdT (txB s ++ t, b) = (s, (t, b)) := by
  unfold rdT txB
  rw [List.append_assoc, pk_vb s.size h]
  simp only [List.length_append, bytesOf_length]
  rw [if_neg (by omega), Int.toNat_natCast]
  have e : s.size = (bytesOf s).length := (bytesOf_length s).symm
  rw [e, List.take_left, List.drop_left, str_bytesOf]
theorem rdG_els : ∀ (l : List E) (t : List Int) (b : Bool), (∀ e ∈ l, inN e.f0 ∧ inN e.f1 ∧ inN e.f2) → rdG l.length (l.flatMap elB ++ t, b) = (l, (t, b))
  | [], t, b, _ => by simp [rdG]
  | x :: l, t, b, h => by
    simp only [List.length_cons, rdG, List.flatMap_cons, List.append_assoc]
    rw [rdE_el (h x (List.mem_cons_self ..))]
    dsimp only
    rw [rdG_els l t b (fun y hy => h y (List.mem_cons_of_mem _ hy))]
theorem rdO_spell {o : O} (h : mayB o = true) (t : List Int) (b : Bool) : rdO (spellB o ++ t, b) = (o, (t, b)) := by
  have m := may_in h
  unfold rdO spellB
  rw [List.append_assoc, rdN_nums m.a.1]
  dsimp only
  rw [rdN_nums m.a.2.1]
  dsimp only
  rw [rdN_nums m.a.2.2, numsB_nil]
  unfold rdO3
  dsimp only
  by_cases e2 : o.f2 = 2
  · have m2 := m.k e2
    rw [if_pos e2, if_pos e2]
    unfold rdTog
    rw [rdN_nums m2.1]
    dsimp only
    rw [rdN_nums m2.2.1]
    dsimp only
    rw [rdN_nums m2.2.2.1]
    dsimp only
    rw [numsB_nil]
    have e : (⟨o.f0, o.f1, 2, ⟨0, 0, 0⟩, ⟨#[]⟩, [], o.f6, o.f7, o.f8⟩ : O) = o := by
      show _ = (⟨o.f0, o.f1, o.f2, o.f3, o.f4, o.f5, o.f6, o.f7, o.f8⟩ : O)
      rw [e2, m2.2.2.2.1, m2.2.2.2.2.1, m2.2.2.2.2.2]
    rw [e]
    unfold fin
    rw [h]
    simp
  · have m2 := m.e e2
    rw [if_neg e2, if_neg e2]
    unfold rdEd
    simp only [List.append_assoc]
    rw [rdE_el m2.1]
    unfold rdEd2
    dsimp only
    rw [rdT_tx (by have := text_size m2.2.1; omega)]
    dsimp only
    rw [rdN_nums (by unfold inN; have := m2.2.2.1; omega), numsB_nil]
    unfold rdEd3 rdEd4
    dsimp only
    have h200 := m2.2.2.1
    rw [Int.toNat_natCast, Nat.min_eq_left h200, rdG_els _ _ _ m2.2.2.2.1]
    dsimp only
    have e : (⟨o.f0, o.f1, o.f2, o.f3, o.f4, o.f5, 0, 0, 0⟩ : O) = o := by
      show _ = (⟨o.f0, o.f1, o.f2, o.f3, o.f4, o.f5, o.f6, o.f7, o.f8⟩ : O)
      rw [m2.2.2.2.2.1, m2.2.2.2.2.2.1, m2.2.2.2.2.2.2]
    rw [e]
    unfold fin
    rw [h]
    have : decide ((o.f5.length : Int) > 200) = false := decide_eq_false (by omega)
    simp [this]
/-- An op's text and row are not longer than a machine's. -/
def Fit (o : O) : Prop := o.f4.size < 9223372036854775807 ∧ o.f5.length < 4611686018427387904
def caseM (m : M) : Bool :=
  if m.f0 = 1 then decide (1 ≤ m.f2 ∧ m.f2 ≤ 268435456) && decide (m.f6.length = 0) && decide (m.f1 = 0 ∧ m.f3 = 0 ∧ m.f4 = 0 ∧ m.f5 = 0)
  else if m.f0 = 2 then decide (1 ≤ m.f2 ∧ m.f2 ≤ 268435456) && siteB m.f1 && decide (m.f6.length = 0) && decide (m.f3 = 0 ∧ m.f4 = 0 ∧ m.f5 = 0)
  else if m.f0 = 3 then siteB m.f1 && decide (0 ≤ m.f3 ∧ m.f3 ≤ 40) && decide (m.f6.length = 0) && decide (m.f2 = 0 ∧ m.f4 = 0 ∧ m.f5 = 0)
  else if m.f0 = 4 then siteB m.f1 && decide (0 ≤ m.f3 ∧ m.f3 ≤ 40) && decide (m.f6.length = 1) && decide (m.f2 = 0 ∧ m.f4 = 0 ∧ m.f5 = 0)
  else if m.f0 = 5 then decide (0 ≤ m.f3 ∧ m.f3 ≤ 40) && decide (m.f6.length ≤ 4) && decide (m.f1 = 0 ∧ m.f2 = 0 ∧ m.f4 = 0 ∧ m.f5 = 0)
  else if m.f0 = 6 then nameB m.f1 m.f4 && decide (1 ≤ m.f5 ∧ m.f5 ≤ 8) && decide (m.f6.length = 0) && decide (m.f2 = 0 ∧ m.f3 = 0)
  else false
def mayM (m : M) : Bool := m.f6.all mayB && caseM m
def msgB (m : M) : List Int := numsB [m.f0, m.f1, m.f2, m.f3, m.f4, m.f5, (m.f6.length : Int)] ++ m.f6.flatMap spellB
/-- What is known of a message that may be. -/
structure MayM (m : M) : Prop where
  n : inN m.f0 ∧ inN m.f1 ∧ inN m.f2 ∧ inN m.f3 ∧ inN m.f4 ∧ inN m.f5
  l : m.f6.length ≤ 4
  o : ∀ o ∈ m.f6, mayB o = true
theorem mayM_in {m : M} (h : mayM m = true) : MayM m := by
  simp only [mayM, Bool.and_eq_true, List.all_eq_true] at h
  obtain ⟨h1, h2⟩ := h
  refine ⟨?_, ?_, h1⟩
  · simp only [caseM, siteB, nameB] at h2
    unfold inN
    repeat' split at h2
    all_goals simp only [Bool.and_eq_true, decide_eq_true_eq, Bool.false_eq_true] at h2
    all_goals omega
  · simp only [caseM, siteB, nameB] at h2
    repeat' split at h2
    all_goals simp only [Bool.and_eq_true, decide_eq_true_eq, Bool.false_eq_true] at h2
    all_goals omega
theorem ops_len (l : List O) (h : ∀ o ∈ l, mayB o = true) : (l.flatMap spellB).length ≤ 4000 * l.length := by
  induction l with
  | nil => simp
  | cons x l ih =>
    have h1 := ih (fun y hy => h y (List.mem_cons_of_mem _ hy))
    have h2 := spellB_len (h x (List.mem_cons_self ..))
    simp only [List.flatMap_cons, List.length_append, List.length_cons] at h1 h2 ⊢
    omega
theorem msgB_len {m : M} (h : mayM m = true) : (msgB m).length ≤ 20000 := by
  have k := mayM_in h
  have h1 := numsB_len [m.f0, m.f1, m.f2, m.f3, m.f4, m.f5, (m.f6.length : Int)] (by
    obtain ⟨a, b, c, d, e, f⟩ := k.n
    have := k.l
    simpa [a, b, c, d, e, f] using (show inN (m.f6.length : Int) by unfold inN; omega))
  have h2 := ops_len m.f6 k.o
  have h3 := k.l
  unfold msgB
  simp only [List.length_append, List.length_cons, List.length_nil] at h1 ⊢
  omega
theorem rdG_good : ∀ (n : Nat) (p : Pt), GoodP p → GoodP (rdG n p).2 ∧ (rdG n p).1.length = n
  | 0, p, hp => ⟨hp, rfl⟩
  | n + 1, p, hp => ⟨(rdG_good n _ (rdE_good hp)).1, by show ((rdE p).1 :: (rdG n (rdE p).2).1).length = n + 1; rw [List.length_cons, (rdG_good n _ (rdE_good hp)).2]⟩
theorem rdTog_good {p : Pt} (a b : Int) (h : GoodP p) : GoodP (rdTog a b p).2 ∧ Fit (rdTog a b p).1 :=
  ⟨(rdN_good (rdN_good (rdN_good h).1).1).1, (show (⟨#[]⟩ : ByteArray).size < 9223372036854775807 by decide), (show ([] : List E).length < 4611686018427387904 by decide)⟩
theorem rdEd4_good {g : List E × Pt} (a b c : Int) (e : E) (s : ByteArray) (n : Int) (h : GoodP g.2) (hs : s.size < 9223372036854775807) (hg : g.1.length < 4611686018427387904) : GoodP (rdEd4 a b c e s n g).2 ∧ Fit (rdEd4 a b c e s n g).1 := ⟨h, hs, hg⟩
theorem rdEd3_good {n : Int × Pt} (a b c : Int) (e : E) (s : ByteArray) (h : GoodP n.2) (hs : s.size < 9223372036854775807) : GoodP (rdEd3 a b c e s n).2 ∧ Fit (rdEd3 a b c e s n).1 := by
  unfold rdEd3
  have g := rdG_good (min n.1.toNat 200) n.2 h
  exact rdEd4_good a b c e s n.1 g.1 hs (by rw [g.2]; omega)
theorem rdEd_good {e : E × Pt} (a b c : Int) (h : GoodP e.2) : GoodP (rdEd a b c e).2 ∧ Fit (rdEd a b c e).1 := by
  unfold rdEd rdEd2
  have g := rdT_good h
  exact rdEd3_good a b c e.1 _ (rdN_good g.1).1 (by have := g.2; omega)
theorem rdO_good {p : Pt} (h : GoodP p) : GoodP (rdO p).2 ∧ Fit (rdO p).1 := by
  have g3 := (rdN_good (rdN_good (rdN_good h).1).1).1
  unfold rdO rdO3
  generalize rdN (rdN (rdN p).2).2 = q at g3 ⊢
  split
  · exact rdTog_good _ _ g3
  · have g4 := rdE_good g3
    generalize rdE q.2 = r at g4 ⊢
    exact rdEd_good _ _ _ g4
def rdOs : Nat → Pt → List O × Pt
  | 0, p => ([], p)
  | n + 1, p => ((rdO p).1 :: (rdOs n (rdO p).2).1, (rdOs n (rdO p).2).2)
def finM (n : Int) (m : M) (p : Pt) : Option M := if p.2 = false ∧ n ≤ 4 ∧ p.1 = [] ∧ mayM m = true then some m else none
def rdM7 (a b c d e f : Int) (n : Int × Pt) : Option M := finM n.1 ⟨a, b, c, d, e, f, (rdOs (min n.1.toNat 4) n.2).1⟩ (rdOs (min n.1.toNat 4) n.2).2
def rdM (p : Pt) : Option M :=
  rdM7 (rdN p).1 (rdN (rdN p).2).1 (rdN (rdN (rdN p).2).2).1 (rdN (rdN (rdN (rdN p).2).2).2).1 (rdN (rdN (rdN (rdN (rdN p).2).2).2).2).1 (rdN (rdN (rdN (rdN (rdN (rdN p).2).2).2).2).2).1 (rdN (rdN (rdN (rdN (rdN (rdN (rdN p).2).2).2).2).2).2)
abbrev RM := Int × Int × Int × Int × Int × Int × List O × Int
def tkM : Option M → RM
  | some m => (m.f0, m.f1, m.f2, m.f3, m.f4, m.f5, m.f6, 0)
  | none => (0, 0, 0, 0, 0, 0, [], 7)
theorem str_empty_iff (l : List Int) : (strOfNums l).toList = ([] : List UInt8) ↔ l = [] := by
  rw [empty_iff, strOfNums_size]
  constructor
  · exact List.eq_nil_of_length_eq_zero
  · rintro rfl; rfl
theorem rdOs_ops : ∀ (l : List O) (t : List Int) (b : Bool), (∀ o ∈ l, mayB o = true) → rdOs l.length (l.flatMap spellB ++ t, b) = (l, (t, b))
  | [], t, b, _ => by simp [rdOs]
  | x :: l, t, b, h => by
    simp only [List.length_cons, rdOs, List.flatMap_cons, List.append_assoc]
    rw [rdO_spell (h x (List.mem_cons_self ..))]
    dsimp only
    rw [rdOs_ops l t b (fun y hy => h y (List.mem_cons_of_mem _ hy))]
theorem rdM_msg {m : M} (h : mayM m = true) (t : List Int) : rdM (msgB m ++ t, false) = if t = [] then some m else none := by
  have k := mayM_in h
  obtain ⟨a, b, c, d, e, f⟩ := k.n
  have hl := k.l
  unfold rdM msgB
  rw [List.append_assoc, rdN_nums a]
  dsimp only
  rw [rdN_nums b]
  dsimp only
  rw [rdN_nums c]
  dsimp only
  rw [rdN_nums d]
  dsimp only
  rw [rdN_nums e]
  dsimp only
  rw [rdN_nums f]
  dsimp only
  rw [rdN_nums (by unfold inN; omega), numsB_nil]
  unfold rdM7
  dsimp only
  rw [Int.toNat_natCast, Nat.min_eq_left hl, rdOs_ops _ _ _ k.o]
  unfold finM
  dsimp only
  by_cases ht : t = []
  · rw [if_pos ht, if_pos ⟨rfl, by omega, ht, h⟩]
  · rw [if_neg ht, if_neg (fun h => ht h.2.2.1)]
def rtakeR (l : List Int) : Int × ByteArray × Bool := match pk l with
  | some (m, r) => (m, strOfNums r, true)
  | none => (0, ⟨#[]⟩, false)
def rtakeTextR (l : List Int) : ByteArray × ByteArray × Bool := match pk l with
  | some (m, r) => if m > r.length then (⟨#[]⟩, ⟨#[]⟩, false) else (strOfNums (r.take m.toNat), strOfNums (r.drop m.toNat), true)
  | none => (⟨#[]⟩, ⟨#[]⟩, false)
/-- A rune that may be. -/
theorem idx_rn (s : ByteArray) : ∀ (f i : Nat), ¬ 0 ≤ Lib.idxFuncFrom (fun x => badR (x : Int)) true s f i → ∀ x ∈ rn s f i, okR x
  | 0, i, _, x, hx => by simp [rn] at hx
  | f + 1, i, h, x, hx => by
    unfold Lib.idxFuncFrom at h
    unfold rn at hx
    by_cases c : i < s.size
    · rw [if_pos c] at h hx
      by_cases b : badR ((Utf8.decode s i).1 : Int) = true
      · rw [if_pos b] at h
        omega
      · rw [if_neg b] at h
        rcases List.mem_cons.1 hx with rfl | hx
        · rw [badR_eq] at b
          simpa using b
        · exact idx_rn s f _ h x hx
    · rw [if_neg c] at hx
      simp at hx
def May (s : ByteArray) : Prop := ¬ 0 ≤ Lib.idxFunc (fun x => badR (x : Int)) true s
instance (s : ByteArray) : Decidable (May s) := by unfold May; infer_instance
theorem May.ok {s : ByteArray} (h : May s) : ∀ x ∈ runesOf s, okR x := idx_rn s s.size 0 h
theorem width4 (s : ByteArray) (i : Nat) : (Utf8.decode s i).2 ≤ 4 := by
  unfold Utf8.decode
  simp only
  repeat' split
  all_goals simp
theorem idx_all (s : ByteArray) : ∀ (f i : Nat), (∀ x ∈ rn s f i, okR x) → Lib.idxFuncFrom (fun x => badR (x : Int)) true s f i = -1
  | 0, i, _ => rfl
  | f + 1, i, h => by
    unfold Lib.idxFuncFrom
    unfold rn at h
    by_cases c : i < s.size
    · rw [if_pos c] at h ⊢
      have h0 := h _ List.mem_cons_self
      rw [if_neg (by rw [badR_eq]; simp [h0])]
      exact idx_all s f _ (fun x hx => h x (List.mem_cons_of_mem _ hx))
    · rw [if_neg c]
theorem may_iff (s : ByteArray) : May s ↔ ∀ x ∈ runesOf s, okR x := by
  refine ⟨May.ok, fun h => ?_⟩
  unfold May Lib.idxFunc
  rw [idx_all s s.size 0 h]
  omega
instance (l : List Int) : Decidable (∀ x ∈ l, okR x) := by infer_instance
theorem rn_count (s : ByteArray) : ∀ (f i : Nat), (rn s f i).length = Lib.runeCountFrom s f i
  | 0, i => by unfold rn Lib.runeCountFrom; rfl
  | f + 1, i => by
    unfold rn Lib.runeCountFrom
    by_cases c : i < s.size
    · rw [if_pos c, if_pos c, List.length_cons, rn_count s f]; omega
    · rw [if_neg c, if_neg c]; rfl
theorem runesOf_count (s : ByteArray) : (runesOf s).length = Lib.runeCount s := rn_count s s.size 0
theorem count_zero (s : ByteArray) : Lib.runeCount s = 0 ↔ s.size = 0 := by
  rw [← runesOf_count]
  unfold runesOf
  cases hs : s.size with
  | zero => simp [rn]
  | succ n =>
    unfold rn
    rw [if_pos (by omega)]
    simp
theorem textB_may (s : ByteArray) : textB s = decide (May s) := by
  unfold textB May
  by_cases h : 0 ≤ Lib.idxFunc (fun x => badR (x : Int)) true s <;> simp [h]
theorem put_size {x : Int} (h : inN x) : (strOfNums (vb x.toNat)).size ≤ 5 := by
  rw [strOfNums_size]
  exact vb_len5 _ (by have := h.1; have := h.2; omega)
/-- What is left is bytes, at most so many. -/
def Few (B : Nat) (p : Pt) : Prop := Bytes p.1 ∧ p.1.length ≤ B
def rkN (q : Pt) : Int × Pt := if q.2 = true then (0, (q.1, true)) else match pk q.1 with
  | some (m, r) => (m, (r, q.2))
  | none => (0, (q.1, true))
def rkT (q : Pt) : ByteArray × Pt := if q.2 = true then (⟨#[]⟩, (q.1, true)) else match pk q.1 with
  | some (m, r) => if m > r.length then (⟨#[]⟩, (q.1, true)) else (strOfNums (r.take m.toNat), (r.drop m.toNat, q.2))
  | none => (⟨#[]⟩, (q.1, true))
def rkE (q : Pt) : E × Pt := (⟨(rkN q).1, (rkN (rkN q).2).1, (rkN (rkN (rkN q).2).2).1⟩, (rkN (rkN (rkN q).2).2).2)
theorem rkN_few {B : Nat} {q : Pt} (h : Few B q) : Few B (rkN q).2 ∧ 0 ≤ (rkN q).1 ∧ (rkN q).1 ≤ 268435456 := by
  unfold rkN
  split
  · exact ⟨h, by simp, by simp⟩
  · cases hp : pk q.1 with
    | none => exact ⟨h, by simp, by simp⟩
    | some y =>
      obtain ⟨m, r⟩ := y
      obtain ⟨h0, h1, h2, h3⟩ := pk_sound h.1 hp
      have := pk_len h.1 hp
      exact ⟨⟨h3, by have := h.2; simp only; omega⟩, h0, h1⟩
theorem rkT_few {B : Nat} {q : Pt} (h : Few B q) : Few B (rkT q).2 ∧ (rkT q).1.size ≤ B := by
  have e0 : (⟨#[]⟩ : ByteArray).size ≤ B := Nat.zero_le _
  unfold rkT
  split
  · exact ⟨h, e0⟩
  · cases hp : pk q.1 with
    | none => exact ⟨h, e0⟩
    | some y =>
      obtain ⟨m, r⟩ := y
      obtain ⟨h0, h1, h2, h3⟩ := pk_sound h.1 hp
      have := pk_len h.1 hp
      have := h.2
      simp only
      split
      · exact ⟨h, e0⟩
      · exact ⟨⟨h3.drop _, by simp only [List.length_drop]; omega⟩, by rw [strOfNums_size, List.length_take]; omega⟩
theorem rkE_few {B : Nat} {q : Pt} (h : Few B q) : Few B (rkE q).2 := (rkN_few (rkN_few (rkN_few h).1).1).1
def rkG : Nat → Pt → List E × Pt
  | 0, q => ([], q)
  | n + 1, q => if q.2 = true then ([], q) else ((rkE q).1 :: (rkG n (rkE q).2).1, (rkG n (rkE q).2).2)
def rkTog (a b : Int) (p : Pt) : O × Pt := fin ⟨a, b, 2, ⟨0, 0, 0⟩, ⟨#[]⟩, [], (rkN p).1, (rkN (rkN p).2).1, (rkN (rkN (rkN p).2).2).1⟩ (rkN (rkN (rkN p).2).2).2
def rkEd4 (a b c : Int) (e : E) (s : ByteArray) (g : List E × Pt) : O × Pt := fin ⟨a, b, c, e, s, g.1, 0, 0, 0⟩ g.2
def rkEd3 (a b c : Int) (e : E) (s : ByteArray) (n : Int × Pt) : O × Pt := rkEd4 a b c e s (rkG n.1.toNat n.2)
def rkEd2 (a b c : Int) (e : E) (t : ByteArray × Pt) : O × Pt := rkEd3 a b c e t.1 (rkN t.2)
def rkEd (a b c : Int) (e : E × Pt) : O × Pt := rkEd2 a b c e.1 (rkT e.2)
def rkO3 (a b : Int) (c : Int × Pt) : O × Pt := if c.1 = 2 then rkTog a b c.2 else rkEd a b c.1 (rkE c.2)
def rkO (p : Pt) : O × Pt := rkO3 (rkN p).1 (rkN (rkN p).2).1 (rkN (rkN (rkN p).2).2)
theorem rkG_few {B : Nat} : ∀ (n : Nat) (q : Pt), Few B q → Few B (rkG n q).2 ∧ (rkG n q).1.length ≤ n ∧ ((rkG n q).2.2 = true ∨ (rkG n q).1.length = n)
  | 0, q, h => ⟨h, Nat.le_refl _, .inr rfl⟩
  | n + 1, q, h => by
    unfold rkG
    split
    · rename_i hb
      exact ⟨h, Nat.zero_le _, .inl hb⟩
    · have r := rkG_few n _ (rkE_few h)
      refine ⟨r.1, ?_, ?_⟩
      · show ((rkE q).1 :: (rkG n (rkE q).2).1).length ≤ n + 1
        rw [List.length_cons]; omega
      · rcases r.2.2 with r2 | r2
        · exact .inl r2
        · refine .inr ?_
          show ((rkE q).1 :: (rkG n (rkE q).2).1).length = n + 1
          rw [List.length_cons, r2]
def Sim (q p : Pt) : Prop := q.2 = p.2 ∧ (p.2 = false → q.1 = p.1) ∧ (p.2 = true → p.1 = [])
theorem pk_nil : pk [] = none := by rfl
theorem sim_N {q p : Pt} (h : Sim q p) : (rkN q).1 = (rdN p).1 ∧ Sim (rkN q).2 (rdN p).2 := by
  obtain ⟨h0, h1, h2⟩ := h
  unfold rkN rdN
  cases hb : p.2 with
  | true =>
    rw [hb] at h0
    rw [if_pos h0, h2 hb, pk_nil]
    exact ⟨rfl, rfl, fun h => by simp at h, fun _ => rfl⟩
  | false =>
    rw [hb] at h0
    rw [if_neg (by simp [h0]), h1 hb]
    cases pk p.1 with
    | none => exact ⟨rfl, rfl, fun h => by simp at h, fun _ => rfl⟩
    | some y => exact ⟨rfl, h0, fun _ => rfl, fun h => by simp at h⟩
theorem sim_T {q p : Pt} (h : Sim q p) : (rkT q).1 = (rdT p).1 ∧ Sim (rkT q).2 (rdT p).2 := by
  obtain ⟨h0, h1, h2⟩ := h
  unfold rkT rdT
  cases hb : p.2 with
  | true =>
    rw [hb] at h0
    rw [if_pos h0, h2 hb, pk_nil]
    exact ⟨rfl, rfl, fun h => by simp at h, fun _ => rfl⟩
  | false =>
    rw [hb] at h0
    rw [if_neg (by simp [h0]), h1 hb]
    cases pk p.1 with
    | none => exact ⟨rfl, rfl, fun h => by simp at h, fun _ => rfl⟩
    | some y =>
      by_cases hm : y.1 > (y.2.length : Int)
      · simp only [if_pos hm]
        exact ⟨trivial, rfl, fun h => by simp at h, fun _ => rfl⟩
      · simp only [if_neg hm]
        exact ⟨trivial, h0, fun _ => rfl, fun h => by simp at h⟩
theorem sim_E {q p : Pt} (h : Sim q p) : (rkE q).1 = (rdE p).1 ∧ Sim (rkE q).2 (rdE p).2 := by
  have s1 := sim_N h
  have s2 := sim_N s1.2
  have s3 := sim_N s2.2
  refine ⟨?_, s3.2⟩
  unfold rkE rdE
  rw [s1.1, s2.1, s3.1]
theorem rdN_bad {p : Pt} (h : p.2 = true) : (rdN p).2.2 = true := by
  unfold rdN
  cases pk p.1 with
  | none => rfl
  | some y => exact h
theorem rdG_bad : ∀ (n : Nat) (p : Pt), p.2 = true → (rdG n p).2.2 = true
  | 0, p, h => h
  | n + 1, p, h => rdG_bad n _ (rdN_bad (rdN_bad (rdN_bad h)))
theorem sim_G : ∀ (n : Nat) (q p : Pt), Sim q p → (rkG n q).2.2 = (rdG n p).2.2 ∧ ((rdG n p).2.2 = false → (rkG n q).1 = (rdG n p).1 ∧ (rkG n q).2.1 = (rdG n p).2.1)
  | 0, q, p, h => ⟨h.1, fun hb => ⟨rfl, h.2.1 hb⟩⟩
  | n + 1, q, p, h => by
    unfold rkG
    by_cases hb : q.2 = true
    · rw [if_pos hb]
      have hb' : p.2 = true := h.1 ▸ hb
      have := rdG_bad (n + 1) p hb'
      exact ⟨hb.trans this.symm, fun hf => by rw [this] at hf; cases hf⟩
    · rw [if_neg hb]
      have s := sim_E h
      have r := sim_G n _ _ s.2
      refine ⟨r.1, fun hf => ?_⟩
      have r2 := r.2 hf
      refine ⟨?_, r2.2⟩
      show (rkE q).1 :: (rkG n (rkE q).2).1 = (rdE p).1 :: (rdG n (rdE p).2).1
      rw [s.1, r2.1]
/-- Both tell the same: it is none, or the same op with the same behind it. -/
def Alike (a b : O × Pt) : Prop := a.2.2 = b.2.2 ∧ (b.2.2 = false → a.1 = b.1 ∧ a.2.1 = b.2.1)
theorem alike_fin {o : O} {q p : Pt} (h : Sim q p) : Alike (fin o q) (fin o p) := by
  refine ⟨?_, fun hb => ⟨rfl, ?_⟩⟩
  · show (q.2 || !mayB o) = (p.2 || !mayB o)
    rw [h.1]
  · have hb' : (p.2 || !mayB o) = false := hb
    exact h.2.1 (by cases hp : p.2 <;> simp_all)
theorem mayB_len {o : O} (h : o.f5.length > 200) (h2 : o.f2 ≠ 2) : mayB o = false := by
  cases hm : mayB o with
  | false => rfl
  | true => have := ((may_in hm).e h2).2.2.1; omega
theorem alike_ed3 (a b c : Int) (e : E) (s : ByteArray) {n m : Int × Pt} (h : n.1 = m.1) (hs : Sim n.2 m.2) (hc : c ≠ 2) {B : Nat} (hf : Few B n.2) : Alike (rkEd3 a b c e s n) (rdEd3 a b c e s m) := by
  unfold rkEd3 rdEd3 rkEd4 rdEd4
  rw [h]
  by_cases h2 : m.1 > 200
  · have hg := rkG_few m.1.toNat n.2 hf
    have hb : ((rkG m.1.toNat n.2).2.2 || !mayB ⟨a, b, c, e, s, (rkG m.1.toNat n.2).1, 0, 0, 0⟩) = true := by
      rcases hg.2.2 with hg | hg
      · rw [hg]; rfl
      · rw [mayB_len (o := ⟨a, b, c, e, s, (rkG m.1.toNat n.2).1, 0, 0, 0⟩) (by show (rkG m.1.toNat n.2).1.length > 200; omega) hc]
        simp
    have hd : (((rdG (min m.1.toNat 200) m.2).2.2 || decide (m.1 > 200)) || !mayB ⟨a, b, c, e, s, (rdG (min m.1.toNat 200) m.2).1, 0, 0, 0⟩) = true := by
      rw [decide_eq_true h2]; simp
    exact ⟨hb.trans hd.symm, fun hf => by have hf' := hd.symm.trans hf; cases hf'⟩
  · have hm : min m.1.toNat 200 = m.1.toNat := by omega
    rw [hm, decide_eq_false h2]
    have hg := sim_G m.1.toNat n.2 m.2 hs
    cases hb : (rdG m.1.toNat m.2).2.2 with
    | true =>
      have e1 : ((rkG m.1.toNat n.2).2.2 || !mayB ⟨a, b, c, e, s, (rkG m.1.toNat n.2).1, 0, 0, 0⟩) = true := by rw [hg.1, hb]; rfl
      exact ⟨e1.trans (by simp [fin]), fun hf => by simp [fin] at hf⟩
    | false =>
      obtain ⟨g1, g2⟩ := hg.2 hb
      rw [g1]
      refine ⟨?_, fun _ => ⟨rfl, g2⟩⟩
      show ((rkG m.1.toNat n.2).2.2 || !mayB _) = ((false || false) || !mayB _)
      rw [hg.1, hb]
      rfl
theorem alike_op {B : Nat} {q p : Pt} (hf : Few B q) (h : Sim q p) : Alike (rkO q) (rdO p) := by
  have s1 := sim_N h
  have s2 := sim_N s1.2
  have s3 := sim_N s2.2
  have f3 := (rkN_few (rkN_few (rkN_few hf).1).1).1
  unfold rkO rdO rkO3 rdO3
  rw [s1.1, s2.1, s3.1]
  by_cases e2 : (rdN (rdN (rdN p).2).2).1 = 2
  · rw [if_pos e2, if_pos e2]
    have s4 := sim_N s3.2
    have s5 := sim_N s4.2
    have s6 := sim_N s5.2
    unfold rkTog rdTog
    rw [s4.1, s5.1, s6.1]
    exact alike_fin s6.2
  · rw [if_neg e2, if_neg e2]
    have s4 := sim_E s3.2
    have s5 := sim_T s4.2
    have s6 := sim_N s5.2
    unfold rkEd rdEd rkEd2 rdEd2
    rw [s4.1, s5.1]
    exact alike_ed3 _ _ _ _ _ s6.1 s6.2 e2 (rkN_few (rkT_few (rkE_few f3)).1).1
def tkR (x : O × Pt) : Int × Int × Int × Int × Int × Int × ByteArray × List E × Int × Int × Int × ByteArray × Bool :=
  if x.2.2 = true then (0, 0, 0, 0, 0, 0, ⟨#[]⟩, [], 0, 0, 0, ⟨#[]⟩, false) else (x.1.f0, x.1.f1, x.1.f2, x.1.f3.f0, x.1.f3.f1, x.1.f3.f2, x.1.f4, x.1.f5, x.1.f6, x.1.f7, x.1.f8, strOfNums x.2.1, true)
theorem msgB_bytes (m : M) : Bytes (msgB m) := by
  unfold msgB
  refine (numsB_bytes _).append ?_
  intro b hb
  obtain ⟨x, _, hx⟩ := List.mem_flatMap.1 hb
  exact spellB_bytes _ b hx
end Go.Sp
