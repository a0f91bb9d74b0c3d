/- Frames, over lists alone; what the program's and the reference's functions of them answer. -/
import Derived.Test.YtcjedinpiedhcaaNumLaws
namespace Go.Proofs.YtcjedinpiedhcaaSealB
open Go.RowKit Go.Proofs.YtcjedinpiedhcaaW.PrintWords Go.Proofs.YtcjedinpiedhcaaW.PrintLast Go.Proofs.YtcjedinpiedhcaaW.PrintMore Go.Proofs.YtcjedinpiedhcaaVb Go.Proofs.YtcjedinpiedhcaaNumB Go.Proofs.Ytcjedinpiedhcaa.Pure Go.Proofs.Ytcjedinpiedhcaa.PB
set_option linter.unusedVariables false
set_option linter.unusedSimpArgs false

def chkStep (h b : Int) : Int := (h * 263 + b + 7) % 4294967291
/-- The check of bytes. -/
def chk (l : List Int) : Int := l.foldl chkStep 1 % 4294967296
def spelt (c : Int) : List Int := [c / 16777216 % 256, c / 65536 % 256, c / 256 % 256, c % 256]
theorem spelt_bytes (c : Int) : Bytes (spelt c) := by
  intro b hb
  simp only [spelt, List.mem_cons, List.not_mem_nil, or_false] at hb
  rcases hb with rfl | rfl | rfl | rfl <;> (constructor <;> omega)
theorem spelt_len (c : Int) : (spelt c).length = 4 := rfl
/-- A text's frame. -/
def fr (l : List Int) : List Int := vb l.length ++ (spelt (chk (vb l.length ++ l)) ++ l)
theorem fr_bytes {l : List Int} (h : Bytes l) : Bytes (fr l) := (vb_bytes _).append ((spelt_bytes _).append h)
theorem fr_len (l : List Int) : (fr l).length = (vb l.length).length + (4 + l.length) := by simp only [fr, List.length_append, spelt_len]
/-- The text that bytes begin with, and what is behind. -/
def utk (l : List Int) : Option (List Int × List Int) := match pk l with
  | none => none
  | some (n, r) => if n > 700 ∨ (r.length : Int) < 4 + n then none else if r.take 4 = spelt (chk (vb n.toNat ++ (r.drop 4).take n.toNat)) then some ((r.drop 4).take n.toNat, r.drop (4 + n.toNat)) else none

theorem utk_fr (l r : List Int) (h : l.length ≤ 700) : utk (fr l ++ r) = some (l, r) := by
  unfold utk fr
  rw [List.append_assoc, pk_vb l.length (by omega)]
  simp only [List.append_assoc, List.length_append, spelt_len, Int.toNat_natCast]
  rw [if_neg (by omega)]
  have e4 : (spelt (chk (vb l.length ++ l))).length = 4 := rfl
  have h1 : (spelt (chk (vb l.length ++ l)) ++ (l ++ r)).take 4 = spelt (chk (vb l.length ++ l)) := List.take_left' e4
  have h2 : (spelt (chk (vb l.length ++ l)) ++ (l ++ r)).drop 4 = l ++ r := List.drop_left' e4
  have h3 : (spelt (chk (vb l.length ++ l)) ++ (l ++ r)).drop (4 + l.length) = r := by rw [← List.drop_drop, h2, List.drop_left]
  rw [h1, h2, h3, List.take_left, if_pos rfl]

theorem utk_cut (l : List Int) (h : l.length ≤ 700) (k : Nat) (hk : k < (fr l).length) : utk ((fr l).take k) = none := by
  rw [fr_len] at hk
  unfold utk fr
  rw [List.take_append]
  by_cases h1 : k < (vb l.length).length
  · have e : k - (vb l.length).length = 0 := by omega
    rw [e, List.take_zero, List.append_nil, pk_cut _ _ h1]
  · rw [List.take_of_length_le (by omega), pk_vb l.length (by omega)]
    simp only
    rw [if_pos]
    right
    simp only [List.length_take, List.length_append, spelt_len]
    omega

/-! ### the functions -/
theorem wrap_u64 (n : Int) : IntKind.u64.wrap n = n % 18446744073709551616 := by simp [IntKind.wrap, IntKind.bits, IntKind.signed]
theorem step_eq {x b : Int} (hx : 0 ≤ x) (hx1 : x < 4294967291) (hb : isByte b) : Int.tmod (IntKind.u64.wrap ((IntKind.u64.wrap ((IntKind.u64.wrap (x * 263)) + (IntKind.u64.wrap b))) + 7)) 4294967291 = chkStep x b := by
  have ⟨h0, h1⟩ := hb
  simp only [wrap_u64]
  rw [Int.emod_eq_of_lt (a := x * 263) (by omega) (by omega), Int.emod_eq_of_lt (a := b) (by omega) (by omega), Int.emod_eq_of_lt (a := x * 263 + b) (by omega) (by omega), Int.emod_eq_of_lt (by omega) (by omega), Int.tmod_eq_emod_of_nonneg (by omega)]
  rfl
theorem chkStep_range (x b : Int) : 0 ≤ chkStep x b ∧ chkStep x b < 4294967291 := by unfold chkStep; omega

theorem of_l0 (s : ByteArray) (hs : s.size < 9223372036854775807) : ∀ (d i : Nat) (x : Int), i + d = s.size → 0 ≤ x → x < 4294967291 → Ev (fun k => seal_Of.l0 k s x (s.size : Int) (i : Int)) (((bytesOf s).drop i).foldl chkStep x % 4294967296) := by
  intro d
  induction d with
  | zero =>
    intro i x hi _ _
    have hd : (bytesOf s).drop i = [] := List.drop_eq_nil_of_le (by rw [bytesOf_length]; omega)
    rw [hd]
    refine Ev.succ ?_
    simp only [seal_Of.l0]
    exact Ev.nite (by omega) (Ev.now _)
  | succ d ih =>
    intro i x hi hx hx1
    obtain ⟨b, hd, hbt, hb⟩ := bt_get s i (by omega)
    rw [hd, List.foldl_cons]
    refine Ev.succ ?_
    simp only [seal_Of.l0, hbt]
    refine Ev.ite (by omega) (Ev.ite (by omega) (Ev.ite (by omega) ?_))
    rw [step_eq hx hx1 hb, wstep i s.size (by omega) hs]
    have := chkStep_range x b
    exact ih (i + 1) _ (by omega) this.1 this.2
theorem of_ev (s : ByteArray) (hs : s.size < 9223372036854775807) : Ev (fun k => seal_Of.f k s) (chk (bytesOf s)) := by
  have := of_l0 s hs s.size 0 1 (by omega) (by omega) (by omega)
  rw [List.drop_zero] at this
  exact this
theorem check_l0 (s : ByteArray) (hs : s.size < 9223372036854775807) : ∀ (d i : Nat) (x : Int), i + d = s.size → 0 ≤ x → x < 4294967291 → Ev (fun k => lectionaryref1_Check.l0 k s x (i : Int)) (((bytesOf s).drop i).foldl chkStep x % 4294967296) := by
  intro d
  induction d with
  | zero =>
    intro i x hi _ _
    have hd : (bytesOf s).drop i = [] := List.drop_eq_nil_of_le (by rw [bytesOf_length]; omega)
    rw [hd]
    refine Ev.succ ?_
    simp only [lectionaryref1_Check.l0]
    exact Ev.nite (by omega) (Ev.now _)
  | succ d ih =>
    intro i x hi hx hx1
    obtain ⟨b, hd, hbt, hb⟩ := bt_get s i (by omega)
    rw [hd, List.foldl_cons]
    refine Ev.succ ?_
    simp only [lectionaryref1_Check.l0, hbt]
    refine Ev.ite (by omega) (Ev.ite (by omega) ?_)
    rw [step_eq hx hx1 hb, wstep i s.size (by omega) hs]
    have := chkStep_range x b
    exact ih (i + 1) _ (by omega) this.1 this.2
theorem check_ev (s : ByteArray) (hs : s.size < 9223372036854775807) : Ev (fun k => lectionaryref1_Check.f k s) (chk (bytesOf s)) := by
  have := check_l0 s hs s.size 0 1 (by omega) (by omega) (by omega)
  rw [List.drop_zero] at this
  exact this

/-- What Add tells. -/
def addR (s : ByteArray) : ByteArray := if s.size > 700 then ⟨#[]⟩ else strOfNums (fr (bytesOf s))
theorem addR_ok {s : ByteArray} (h : s.size ≤ 700) : addR s = strOfNums (fr (bytesOf s)) := if_neg (by omega)
theorem str_size (l : List Int) : (strOfNums l).size = l.length := strOfNums_size l
theorem add_eq (s : ByteArray) : (strOfNums (vb s.size) ++ strOfNums (spelt (chk (bytesOf (strOfNums (vb s.size) ++ s))))) ++ s = strOfNums (fr (bytesOf s)) := by
  unfold fr
  rw [bytesOf_length, str_append, str_append, str_bytesOf, bytesOf_append, bytesOf_str (vb_bytes _), ByteArray.append_assoc]
theorem spelt_some (c : Int) : seal_spelt.f c = some (strOfNums (spelt c)) := rfl
theorem add_ev (s : ByteArray) : Ev (fun k => seal_Add.f k s) (addR s) := by
  unfold seal_Add.f addR
  by_cases h : s.size > 700
  · rw [if_pos h]
    exact Ev.ite (by omega) (Ev.now _)
  · rw [if_neg h]
    have hl5 := vb_len5 s.size (by omega)
    refine Ev.nite (by omega) (Ev.bind (bytes_ev s.size (by omega)) (Ev.ite (by rw [str_size]; omega) ?_))
    refine Ev.bind (of_ev _ (by rw [ByteArray.size_append, str_size]; omega)) ?_
    simp only [spelt_some, Option.bind_some]
    refine Ev.ite (by simp only [str_size, spelt_len]; omega) (Ev.ite (by simp only [ByteArray.size_append, str_size, spelt_len]; omega) ?_)
    rw [add_eq]
    exact Ev.now _
theorem frame_ev (s : ByteArray) : Ev (fun k => lectionaryref1_Frame.f k s) (addR s) := by
  unfold lectionaryref1_Frame.f addR
  by_cases h : s.size > 700
  · rw [if_pos h]
    exact Ev.ite (by omega) (Ev.now _)
  · rw [if_neg h]
    have hl5 := vb_len5 s.size (by omega)
    refine Ev.nite (by omega) (Ev.bind (rput_ev s.size (by omega)) (Ev.ite (by rw [str_size]; omega) ?_))
    refine Ev.bind (check_ev _ (by rw [ByteArray.size_append, str_size]; omega)) ?_
    simp only [Option.bind_some]
    have e : ∀ c : Int, [c / 16777216 % 256, c / 65536 % 256, c / 256 % 256, c % 256] = spelt c := fun _ => rfl
    rw [e]
    refine Ev.ite (by simp only [str_size, spelt_len]; omega) (Ev.ite (by simp only [ByteArray.size_append, str_size, spelt_len]; omega) ?_)
    rw [add_eq]
    exact Ev.now _

/-- What Take tells. -/
def utakeR (l : List Int) : ByteArray × ByteArray × Bool := match utk l with
  | some (t, r) => (strOfNums t, strOfNums r, true)
  | none => (⟨#[]⟩, ⟨#[]⟩, false)
theorem str_inj {a b : List Int} (ha : Bytes a) (hb : Bytes b) : strOfNums a = strOfNums b ↔ a = b := by
  constructor
  · intro h
    have := congrArg bytesOf h
    rwa [bytesOf_str ha, bytesOf_str hb] at this
  · rintro rfl; rfl
theorem utake_ev (s : ByteArray) (hs : s.size < 4611686018427387904) : Ev (fun k => seal_Take.f k s) (utakeR (bytesOf s)) := by
  unfold seal_Take.f
  refine Ev.bind (take_ev s (by omega)) ?_
  unfold takeR utakeR utk
  have no : ∀ (r : ByteArray) (n : Int), Ev (fun k => seal_Take.j0 k s r n true) (⟨#[]⟩, ⟨#[]⟩, false) := by
    intro r n
    refine Ev.succ ?_
    simp only [seal_Take.j0]
    exact Ev.ite (by simp) (Ev.now _)
  have hB := bytesOf_bytes s
  cases hp : pk (bytesOf s) with
  | none => exact Ev.nite (by decide) (no _ _)
  | some y =>
    obtain ⟨n, r⟩ := y
    obtain ⟨h0, h1, h2, h3⟩ := pk_sound hB hp
    have hlen : s.size = (vb n.toNat).length + r.length := by rw [← bytesOf_length, h2, List.length_append]
    simp only
    refine Ev.ite (by simp) ?_
    by_cases h7 : n > 700
    · rw [if_pos (.inl h7)]
      exact Ev.ite h7 (no _ _)
    · refine Ev.nite h7 ?_
      have hw : wrap64 ((r.length : Int) - 4) = (r.length : Int) - 4 := w64 (by omega) (by omega)
      rw [str_size, hw]
      by_cases h8 : (r.length : Int) < 4 + n
      · rw [if_pos (.inr h8), decide_eq_true (by omega)]
        exact no _ _
      · rw [if_neg (by rintro (h | h) <;> omega), decide_eq_false (by omega)]
        refine Ev.succ ?_
        simp only [seal_Take.j0, str_size]
        have hw1 : wrap64 ((s.size : Int) - (r.length : Int)) = ((vb n.toNat).length : Int) := by rw [w64 (by omega) (by omega)]; omega
        have hw2 : wrap64 (4 + n) = 4 + n := w64 (by omega) (by omega)
        rw [hw1, hw2, Int.toNat_natCast]
        have hn4 : (4 + n).toNat = 4 + n.toNat := by omega
        rw [hn4]
        have e1 : s.extract 0 (vb n.toNat).length = strOfNums (vb n.toNat) := by rw [prefix_str, h2, List.take_left]
        have e2 : (strOfNums r).extract 4 (4 + n.toNat) = strOfNums ((r.drop 4).take n.toNat) := by
          apply bytesOf_inj
          rw [bytesOf_extract, bytesOf_str h3, bytesOf_str ((h3.drop 4).take _), List.drop_take]
          congr 1
          omega
        have e3 : (strOfNums r).extract 0 4 = strOfNums (r.take 4) := by rw [prefix_str, bytesOf_str h3]
        have e4 : (strOfNums r).extract (4 + n.toNat) r.length = strOfNums (r.drop (4 + n.toNat)) := by
          have := extract_str (strOfNums r) (4 + n.toNat)
          rwa [str_size, bytesOf_str h3] at this
        rw [e1, e2, e3, e4]
        have hsz : (strOfNums (vb n.toNat) ++ strOfNums ((r.drop 4).take n.toNat)).size ≤ s.size := by
          simp only [ByteArray.size_append, str_size, List.length_take, List.length_drop]; omega
        refine Ev.nite (by decide) (Ev.ite (by omega) (Ev.ite (by omega) (Ev.ite (by omega) (Ev.ite (by omega) (Ev.ite (by omega) (Ev.ite (by omega) (Ev.ite ?_ ?_)))))))
        · rw [← ByteArray.size_append]; omega
        · refine Ev.bind (of_ev _ (by omega)) ?_
          rw [bytesOf_append, bytesOf_str (vb_bytes _), bytesOf_str ((h3.drop 4).take _)]
          simp only [spelt_some, Option.bind_some]
          by_cases hc : r.take 4 = spelt (chk (vb n.toNat ++ (r.drop 4).take n.toNat))
          · rw [if_pos hc]
            exact Ev.ite (by rw [hc]) (Ev.ite (by omega) (Ev.now _))
          · rw [if_neg hc]
            exact Ev.nite (by rw [toList_iff, str_inj (h3.take 4) (spelt_bytes _)]; exact hc) (Ev.now _)
theorem unframe_ev (s : ByteArray) (hs : s.size < 4611686018427387904) : Ev (fun k => lectionaryref1_Unframe.f k s) (utakeR (bytesOf s)) := by
  unfold lectionaryref1_Unframe.f
  refine Ev.bind (rtake_ev s (by omega)) ?_
  unfold rtakeR utakeR utk
  have no : ∀ (r : ByteArray) (n : Int), Ev (fun k => lectionaryref1_Unframe.j0 k s n r true) (⟨#[]⟩, ⟨#[]⟩, false) := by
    intro r n
    refine Ev.succ ?_
    simp only [lectionaryref1_Unframe.j0]
    exact Ev.ite (by simp) (Ev.now _)
  have hB := bytesOf_bytes s
  cases hp : pk (bytesOf s) with
  | none => exact Ev.nite (by decide) (no _ _)
  | some y =>
    obtain ⟨n, r⟩ := y
    obtain ⟨h0, h1, h2, h3⟩ := pk_sound hB hp
    have hlen : s.size = (vb n.toNat).length + r.length := by rw [← bytesOf_length, h2, List.length_append]
    simp only
    refine Ev.ite (by simp) ?_
    by_cases h7 : n > 700
    · rw [if_pos (.inl h7)]
      exact Ev.ite h7 (no _ _)
    · refine Ev.nite h7 ?_
      have hw2 : wrap64 (4 + n) = 4 + n := w64 (by omega) (by omega)
      rw [str_size, hw2]
      by_cases h8 : (r.length : Int) < 4 + n
      · rw [if_pos (.inr h8), decide_eq_true (by omega)]
        exact no _ _
      · rw [if_neg (by rintro (h | h) <;> omega), decide_eq_false (by omega)]
        refine Ev.succ ?_
        simp only [lectionaryref1_Unframe.j0, str_size]
        rw [hw2]
        have hn4 : (4 + n).toNat = 4 + n.toNat := by omega
        rw [hn4]
        have e2 : (strOfNums r).extract 4 (4 + n.toNat) = strOfNums ((r.drop 4).take n.toNat) := by
          apply bytesOf_inj
          rw [bytesOf_extract, bytesOf_str h3, bytesOf_str ((h3.drop 4).take _), List.drop_take]
          congr 1
          omega
        have e4 : (strOfNums r).extract (4 + n.toNat) r.length = strOfNums (r.drop (4 + n.toNat)) := by
          have := extract_str (strOfNums r) (4 + n.toNat)
          rwa [str_size, bytesOf_str h3] at this
        rw [e2, e4]
        have hbt := (h3.drop 4).take n.toNat
        have htl : ((r.drop 4).take n.toNat).length = n.toNat := by rw [List.length_take, List.length_drop]; omega
        have hfr : addR (strOfNums ((r.drop 4).take n.toNat)) = strOfNums (fr ((r.drop 4).take n.toNat)) := by rw [addR_ok (by rw [str_size, htl]; omega), bytesOf_str hbt]
        refine Ev.nite (by decide) (Ev.ite (by omega) (Ev.ite (by omega) ?_))
        refine Ev.bind (hfr ▸ frame_ev (strOfNums ((r.drop 4).take n.toNat))) ?_
        have hfl : (fr ((r.drop 4).take n.toNat)).length = (vb n.toNat).length + (4 + n.toNat) := by rw [fr_len, htl]
        simp only [str_size]
        rw [prefix_str, hfl]
        refine Ev.ite (by omega) (Ev.ite (by omega) ?_)
        have hpre : (bytesOf s).take ((vb n.toNat).length + (4 + n.toNat)) = vb n.toNat ++ (r.take 4 ++ (r.drop 4).take n.toNat) := by
          rw [h2, List.take_append, List.take_of_length_le (by omega)]
          congr 1
          rw [show (vb n.toNat).length + (4 + n.toNat) - (vb n.toNat).length = 4 + n.toNat by omega, List.take_add]
        have hiff : (bytesOf s).take ((vb n.toNat).length + (4 + n.toNat)) = fr ((r.drop 4).take n.toNat) ↔ r.take 4 = spelt (chk (vb n.toNat ++ (r.drop 4).take n.toNat)) := by
          rw [hpre]
          unfold fr
          rw [htl]
          constructor
          · intro h
            have h' := List.append_cancel_left h
            exact List.append_cancel_right h'
          · intro h; rw [← h]
        by_cases hc : r.take 4 = spelt (chk (vb n.toNat ++ (r.drop 4).take n.toNat))
        · rw [if_pos hc]
          exact Ev.ite (by rw [hiff.2 hc]) (Ev.ite (by omega) (Ev.now _))
        · rw [if_neg hc]
          exact Ev.nite (by rw [toList_iff, str_inj (hB.take _) (fr_bytes hbt)]; exact fun h => hc (hiff.1 h)) (Ev.now _)
theorem utakeR_fr (l : List Int) (h : l.length ≤ 700) (t : ByteArray) (hl : Bytes l) : utakeR (bytesOf (strOfNums (fr l) ++ t)) = (strOfNums l, t, true) := by
  unfold utakeR
  rw [bytesOf_append, bytesOf_str (fr_bytes hl), utk_fr l _ h]
  simp only [str_bytesOf]
theorem utakeR_cut (l : List Int) (h : l.length ≤ 700) (hl : Bytes l) (k : Nat) (hk : k < (fr l).length) : utakeR (bytesOf ((strOfNums (fr l)).extract 0 k)) = (⟨#[]⟩, ⟨#[]⟩, false) := by
  unfold utakeR
  rw [bytesOf_extract, List.drop_zero, bytesOf_str (fr_bytes hl), utk_cut l h k hk]

theorem vb1 (n : Nat) (h : n < 128) : (vb n).length = 1 := by rw [vb_small h]; rfl
theorem ab_bytes : bytesOf (⟨#[97, 98]⟩ : ByteArray) = [97, 98] := by decide
theorem ab_Bytes : Bytes [97, 98] := by
  intro b hb
  simp only [List.mem_cons, List.not_mem_nil, or_false] at hb
  rcases hb with rfl | rfl <;> (constructor <;> decide)
/-- It wakes. -/
theorem wakes2_ev : Ev (fun k => lectionarylaw2_wakes.f k) true := by
  unfold lectionarylaw2_wakes.f
  have h1 : addR (⟨#[97, 98]⟩ : ByteArray) = strOfNums (fr [97, 98]) := by rw [addR_ok (by decide), ab_bytes]
  refine Ev.bind (h1 ▸ add_ev (⟨#[97, 98]⟩ : ByteArray)) ?_
  have hl : (fr [97, 98]).length = 7 := by rw [fr_len, vb1 _ (by decide)]; rfl
  rw [str_size, hl]
  refine Ev.ite (by decide) ?_
  refine Ev.bind ((utakeR_fr [97, 98] (by decide) (⟨#[99]⟩ : ByteArray) ab_Bytes) ▸ utake_ev (strOfNums (fr [97, 98]) ++ (⟨#[99]⟩ : ByteArray)) (by rw [ByteArray.size_append, str_size, hl]; decide)) ?_
  refine Ev.bind (add_ev (⟨#[]⟩ : ByteArray)) ?_
  have h2 : addR (⟨#[]⟩ : ByteArray) = strOfNums (fr []) := by rw [addR_ok (by decide)]; rfl
  have hl2 : (fr []).length = 5 := by rw [fr_len, vb1 _ (by decide)]; rfl
  rw [h2, str_size, hl2]
  refine Ev.ite (by decide) (Ev.ite (by simp) (Ev.ite (by simp only [ByteArray.toList_eq]; decide) (Ev.ite (by simp only [ByteArray.toList_eq]) ?_)))
  refine Ev.bind (of_ev _ (by decide)) (Ev.bind (of_ev _ (by decide)) (Ev.some_of ?_))
  decide

section
open lectionarylaw2_SealEdges
/-- Frames, one behind another. -/
def rowOf : List (List Int) → List Int
  | [] => []
  | t :: ts => fr t ++ rowOf ts
theorem rowOf_snoc (ts : List (List Int)) (t : List Int) : rowOf (ts ++ [t]) = rowOf ts ++ fr t := by
  induction ts with
  | nil => simp [rowOf]
  | cons a ts ih => simp only [List.cons_append, rowOf, ih, List.append_assoc]
theorem rowOf_bytes {ts : List (List Int)} (h : ∀ t ∈ ts, Bytes t) : Bytes (rowOf ts) := by
  induction ts with
  | nil => exact Bytes.nil
  | cons a ts ih => exact (fr_bytes (h a (by simp))).append (ih (fun t ht => h t (by simp [ht])))
theorem sedges_l1 : ∀ (ts : List (List Int)) (m : Nat), m + ts.length = 10 → (∀ t ∈ ts, Bytes t) → (rowOf ts).length < 1000000 → (∀ (j : Nat) (t : List Int), ts[j]? = some t → t.length = 15 * (m + j)) → Ev (fun k => l1 k (strOfNums (rowOf ts)) (m : Int)) true := by
  intro ts
  induction ts with
  | nil =>
    intro m hm _ _ _
    simp only [List.length_nil] at hm
    refine Ev.succ ?_
    simp only [l1]
    refine Ev.nite (by omega) (Ev.ite (by simp only [ByteArray.toList_eq]; rfl) (Ev.bind wakes2_ev (Ev.now _)))
  | cons t ts ih =>
    intro m hm hB hlen hj
    simp only [List.length_cons] at hm
    have ht : t.length = 15 * m := hj 0 t rfl
    have hr : strOfNums (rowOf (t :: ts)) = strOfNums (fr t) ++ strOfNums (rowOf ts) := by simp only [rowOf, str_append]
    have hlen2 : (rowOf (t :: ts)).length = (fr t).length + (rowOf ts).length := by simp only [rowOf, List.length_append]
    have hfl := fr_len t
    refine Ev.succ ?_
    simp only [l1]
    refine Ev.ite (by omega) ?_
    have hs : (strOfNums (rowOf (t :: ts))).size = (rowOf (t :: ts)).length := str_size _
    have htk := utake_ev (strOfNums (rowOf (t :: ts))) (by omega)
    rw [hr, utakeR_fr t (by omega) _ (hB t (by simp)), ← hr] at htk
    refine Ev.bind htk ?_
    simp only [str_size]
    refine Ev.ite (by simp) (Ev.ite (by rw [w64 (by omega) (by omega)]; omega) (Ev.nite (by omega) ?_))
    rw [wstep m 20 (by omega) (by omega)]
    exact ih (m + 1) (by omega) (fun x hx => hB x (by simp [hx])) (by omega) (fun j x hx => by have := hj (j + 1) x (by simpa using hx); omega)

theorem sedges_l0 (L0 : List Int) (L1 : List ByteArray) : ∀ (d n : Nat) (s : ByteArray) (ts : List (List Int)), n + d = 150 → s.size = n → ts.length = (n + 14) / 15 → (∀ t ∈ ts, Bytes t) → (∀ (j : Nat) (t : List Int), ts[j]? = some t → t.length = 15 * j) → (rowOf ts).length ≤ 200 * n →
    Ev (fun k => l0 k s (strOfNums (rowOf ts)) (n : Int) L0 L1) true := by
  intro d
  induction d with
  | zero =>
    intro n s ts hn hs hts hB hj hrow
    refine Ev.succ ?_
    simp only [l0]
    refine Ev.nite (by omega) ?_
    exact sedges_l1 ts 0 (by omega) hB (by omega) (fun j t h => by have := hj j t h; omega)
  | succ d ih =>
    intro n s ts hn hs hts hB hj hrow
    have hl5 := vb_len5 s.size (by omega)
    have hadd : addR s = strOfNums (fr (bytesOf s)) := addR_ok (by omega)
    have hfl : (fr (bytesOf s)).length = (vb s.size).length + (4 + s.size) := by rw [fr_len, bytesOf_length]
    refine Ev.succ ?_
    simp only [l0]
    refine Ev.ite (by omega) (Ev.bind (of_ev s (by omega)) (Ev.bind (check_ev s (by omega)) (Ev.ite (by simp) (Ev.bind (add_ev s) (Ev.bind (frame_ev s) ?_)))))
    rw [bne_self_eq_false]
    refine Ev.succ ?_
    simp only [j1]
    refine Ev.nite (by simp) ?_
    have hmod : Int.tmod (n : Int) 15 = ((n % 15 : Nat) : Int) := by rw [Int.tmod_eq_emod_of_nonneg (by omega)]; omega
    rw [hmod, wstep n 200 (by omega) (by omega)]
    by_cases h15 : n % 15 = 0
    · refine Ev.ite (by omega) (Ev.bind (hadd ▸ add_ev s) ?_)
      simp only [Option.bind_some, str_size]
      refine Ev.ite (by omega) (Ev.ite (by simp only [List.length_singleton]; omega) ?_)
      rw [← str_append, ← rowOf_snoc]
      refine ih (n + 1) _ (ts ++ [bytesOf s]) (by omega) (by rw [ByteArray.size_append, str_size, List.length_singleton]; omega) (by simp only [List.length_append, List.length_singleton]; omega) ?_ ?_ (by rw [rowOf_snoc, List.length_append]; omega)
      · intro t ht
        rcases List.mem_append.1 ht with ht | ht
        · exact hB t ht
        · rw [List.mem_singleton.1 ht]; exact bytesOf_bytes s
      · intro j t hjt
        rcases Nat.lt_or_ge j ts.length with h | h
        · rw [List.getElem?_append_left h] at hjt
          exact hj j t hjt
        · rw [List.getElem?_append_right h] at hjt
          have : j - ts.length = 0 := by
            rcases Nat.eq_zero_or_pos (j - ts.length) with h0 | h0
            · exact h0
            · rw [List.getElem?_eq_none (by simp only [List.length_singleton]; omega)] at hjt; cases hjt
          rw [this] at hjt
          simp only [List.getElem?_cons_zero, Option.some.injEq] at hjt
          rw [← hjt, bytesOf_length]
          omega
    · refine Ev.nite (by omega) ?_
      simp only [Option.bind_some, str_size]
      refine Ev.ite (by simp only [List.length_singleton]; omega) ?_
      exact ih (n + 1) _ ts (by omega) (by rw [ByteArray.size_append, str_size, List.length_singleton]; omega) (by omega) hB hj (by omega)
end
theorem SealEdges : ∀ (l0_0 : List Int) (l0_1 : List ByteArray), (l0_0.length * 8 ≤ 140737488351232 ∧ ∀ x0 ∈ l0_0, (Lit.int .i64 x0).wf = true) → (l0_1.length * 16 ≤ 140737488351232 ∧ ∀ x0 ∈ l0_1, x0.size ≤ 140737488351232) →  ∃ k, lectionarylaw2_SealEdges.f k l0_0 l0_1 = some true := by
  intro L0 L1 _ _
  exact (sedges_l0 L0 L1 150 0 _ [] rfl rfl rfl (fun t ht => by simp at ht) (fun j t h => by simp at h) (Nat.zero_le _)).rounds

section
open lectionarylaw2_SealTorn
variable (L0 : List Int) (L1 : List ByteArray)
theorem torn_l1 (i : Int) (t : List Int) (ht : t.length ≤ 700) (hB : Bytes t) (H : Ev (fun k => l0 k (wrap64 (i + 1)) L0 L1) true) : ∀ (d j : Nat), j + d = (fr t).length → Ev (fun k => l1 k i (strOfNums (fr t)) (j : Int) L0 L1) true := by
  have hfl := fr_len t
  have hl5 := vb_len5 t.length (by omega)
  intro d
  induction d with
  | zero =>
    intro j hj
    refine Ev.succ ?_
    simp only [l1]
    exact Ev.nite (by rw [str_size]; omega) H
  | succ d ih =>
    intro j hj
    refine Ev.succ ?_
    simp only [l1, str_size]
    refine Ev.ite (by omega) (Ev.ite (by omega) (Ev.ite (by omega) ?_))
    rw [Int.toNat_natCast]
    refine Ev.bind ((utakeR_cut t ht hB j (by omega)) ▸ utake_ev ((strOfNums (fr t)).extract 0 j) (by rw [ByteArray.size_extract, str_size]; omega)) (Ev.nite (by decide) ?_)
    rw [wstep j 1000 (by omega) (by omega)]
    exact ih (j + 1) (by omega)
theorem torn_j2 (i : Int) (s : ByteArray) (hs : s.size ≤ 700) (H : Ev (fun k => l0 k (wrap64 (i + 1)) L0 L1) true) : Ev (fun k => j2 k i s L0 L1) true := by
  refine Ev.succ ?_
  simp only [j2]
  refine Ev.bind ((addR_ok hs) ▸ add_ev s) ?_
  exact torn_l1 L0 L1 i (bytesOf s) (by rw [bytesOf_length]; exact hs) (bytesOf_bytes s) H _ 0 (Nat.zero_add _)
theorem ffff : utakeR (bytesOf (⟨#[255, 255, 255, 127]⟩ : ByteArray)) = (⟨#[]⟩, ⟨#[]⟩, false) := by
  have e : bytesOf (⟨#[255, 255, 255, 127]⟩ : ByteArray) = [255, 255, 255, 127] := by decide
  rw [e]
  have hp : pk [255, 255, 255, 127] = some (268435455, []) := by decide
  unfold utakeR utk
  rw [hp]
  rfl
theorem torn_l0 : ∀ (d i : Nat), i + d = 8 → Ev (fun k => l0 k (i : Int) L0 L1) true := by
  have fin : ∀ i : Nat, Ev (fun k => j1 k (i : Int) false L0 L1) true := by
    intro i
    refine Ev.succ ?_
    simp only [j1]
    refine Ev.nite (by simp) (Ev.bind (ffff ▸ utake_ev (⟨#[255, 255, 255, 127]⟩ : ByteArray) (by decide)) (Ev.nite (by decide) (Ev.bind wakes2_ev (Ev.now _))))
  intro d
  induction d with
  | zero =>
    intro i hi
    refine Ev.succ ?_
    simp only [l0]
    by_cases h : (i : Int) < (L1.length : Int)
    · refine Ev.ite h ?_
      rw [decide_eq_false (by omega)]
      exact fin i
    · exact Ev.nite h (fin i)
  | succ d ih =>
    intro i hi
    refine Ev.succ ?_
    simp only [l0]
    by_cases h : (i : Int) < (L1.length : Int)
    · refine Ev.ite h ?_
      rw [decide_eq_true (show (i : Int) < 8 by omega)]
      refine Ev.succ ?_
      simp only [j1]
      refine Ev.ite (by simp) (Ev.ite (by omega) (Ev.ite h ?_))
      generalize rdOf ByteArray.empty L1 (i : Int) = s
      have hrec : Ev (fun k => l0 k (wrap64 ((i : Int) + 1)) L0 L1) true := by rw [wstep i 9 (by omega) (by omega)]; exact ih (i + 1) (by omega)
      by_cases h2 : (s.size : Int) > 200
      · refine Ev.ite h2 (Ev.ite (by decide) (Ev.ite (by omega) ?_))
        exact torn_j2 L0 L1 i _ (by rw [ByteArray.size_extract]; omega) hrec
      · exact Ev.nite h2 (torn_j2 L0 L1 i s (by omega) hrec)
    · exact Ev.nite h (fin i)
end
theorem SealTorn : ∀ (l0_0 : List Int) (l0_1 : List ByteArray), (l0_0.length * 8 ≤ 140737488351232 ∧ ∀ x0 ∈ l0_0, (Lit.int .i64 x0).wf = true) → (l0_1.length * 16 ≤ 140737488351232 ∧ ∀ x0 ∈ l0_1, x0.size ≤ 140737488351232) →  ∃ k, lectionarylaw2_SealTorn.f k l0_0 l0_1 = some true := by
  intro L0 L1 _ _
  exact (torn_l0 L0 L1 8 0 rfl).rounds
end Go.Proofs.YtcjedinpiedhcaaSealB
