/- Texts and runes: what the program's functions of them answer; the law TextBack. -/
import Derived.Test.YtcjedinpiedhcaaDoorPEx
import Derived.Test.YtcjedinpiedhcaaDoorVb
import Derived.Lib.MapLaws
import Derived.Stop.FmtQuoteTie
import Derived.KernelRfl
namespace Go.Proofs.YtcjedinpiedhcaaDoorTextE
open Go.RowKit Go.Proofs.YtcjedinpiedhcaaDoorW.PrintWords Go.Proofs.YtcjedinpiedhcaaDoorW.PrintLast Go.Proofs.YtcjedinpiedhcaaDoorW.PrintMore Go.Proofs.YtcjedinpiedhcaaDoorX Go.Proofs.YtcjedinpiedhcaaDoorVb Go.Proofs.YtcjedinpiedhcaaDoor.PE
set_option linter.unusedVariables false
set_option linter.unusedSimpArgs false

theorem Ev.succ {α : Type} {g : Nat → Option α} {r : α} (h : Ev (fun k => g (k + 1)) r) : Ev g r := Ev.step (fun _ => rfl) h
theorem Ev.ite {α : Type} {c : Prop} [Decidable c] {g f : Nat → Option α} {r : α} (hc : c) (h : Ev g r) : Ev (fun k => if c then g k else f k) r := by simp only [if_pos hc]; exact h
theorem Ev.nite {α : Type} {c : Prop} [Decidable c] {g f : Nat → Option α} {r : α} (hc : ¬ c) (h : Ev f r) : Ev (fun k => if c then g k else f k) r := by simp only [if_neg hc]; exact h

theorem rdOf_mem {α : Type} (d : α) (l : List α) (i : Nat) (h : i < l.length) : rdOf d l (i : Int) ∈ l := by
  unfold rdOf
  rw [Int.toNat_natCast, List.getD_eq_getElem?_getD, List.getElem?_eq_getElem h]
  exact List.getElem_mem h
theorem wstep (i n : Nat) (h : i < n) (hn : n < 9223372036854775807) : wrap64 ((i : Int) + 1) = ((i + 1 : Nat) : Int) := by rw [w64 (by omega) (by omega)]; omega
theorem texts_ev (l : List ByteArray) (hl : l.length * 16 ≤ 140737488351232) (hs : ∀ x ∈ l, x.size ≤ 140737488351232) : ∃ v, Ev (fun k => lectionarylaw0_Texts.f k l) v ∧ (v ≤ 3000 → l.length ≤ 3000 ∧ ∀ x ∈ l, x.size ≤ 3000) := by
  have key : ∀ (d i : Nat) (x : Int), i + d = l.length → 0 ≤ x → x ≤ 281474976710656 → ∃ v, Ev (fun k => lectionarylaw0_Texts.l0 k l x (i : Int)) v ∧ x ≤ v ∧ (v ≤ 3000 → ∀ j : Nat, i ≤ j → j < l.length → (rdOf ByteArray.empty l (j : Int)).size ≤ 3000) := by
    intro d
    induction d with
    | zero =>
      intro i x hi hx hx1
      refine ⟨x, Ev.succ ?_, Int.le_refl _, fun _ j h1 h2 => by omega⟩
      simp only [lectionarylaw0_Texts.l0]
      exact Ev.nite (by omega) (Ev.now _)
    | succ d ih =>
      intro i x hi hx hx1
      by_cases h : x < 1048576
      · have hm := hs _ (rdOf_mem ByteArray.empty l i (by omega))
        obtain ⟨v, hv, hle, hb⟩ := ih (i + 1) (x + ((rdOf ByteArray.empty l (i : Int)).size : Int)) (by omega) (by omega) (by omega)
        refine ⟨v, Ev.succ ?_, by omega, fun h3 j h1 h2 => ?_⟩
        · simp only [lectionarylaw0_Texts.l0]
          refine Ev.ite (by omega) (Ev.ite h (Ev.ite (by omega) ?_))
          rw [wstep i l.length (by omega) (by omega), w64 (by omega) (by omega)]
          exact hv
        · rcases Nat.eq_or_lt_of_le h1 with rfl | h1
          · omega
          · exact hb h3 j h1 h2
      · refine ⟨x, Ev.succ ?_, Int.le_refl _, fun h3 => by omega⟩
        simp only [lectionarylaw0_Texts.l0]
        exact Ev.ite (by omega) (Ev.nite h (Ev.now _))
  obtain ⟨v, hv, hle, hb⟩ := key l.length 0 (l.length : Int) (by omega) (by omega) (by omega)
  refine ⟨v, hv, fun h => ⟨by omega, fun x hx => ?_⟩⟩
  obtain ⟨j, hj, rfl⟩ := List.getElem_of_mem hx
  have := hb h j (by omega) hj
  unfold rdOf at this
  rw [Int.toNat_natCast, List.getD_eq_getElem?_getD, List.getElem?_eq_getElem hj] at this
  exact this
theorem heavy_ev (L0 : List Int) (L1 : List ByteArray) (hl : L1.length * 16 ≤ 140737488351232) (hs : ∀ x ∈ L1, x.size ≤ 140737488351232) :
    Ev (fun k => lectionarylaw1_Heavy.f k L0 L1) true ∨ Ev (fun k => lectionarylaw1_Heavy.f k L0 L1) false ∧ L0.length ≤ 200 ∧ L1.length ≤ 3000 ∧ ∀ x ∈ L1, x.size ≤ 3000 := by
  unfold lectionarylaw1_Heavy.f
  by_cases h : (L0.length : Int) > 200
  · exact .inl (Ev.ite h (Ev.now _))
  · obtain ⟨v, hv, hb⟩ := texts_ev L1 hl hs
    by_cases h2 : v > 3000
    · left
      refine Ev.nite h (Ev.bind hv ?_)
      rw [decide_eq_true h2]
      exact Ev.now _
    · right
      refine ⟨Ev.nite h (Ev.bind hv ?_), by omega, hb (by omega)⟩
      rw [decide_eq_false h2]
      exact Ev.now _


/-- A rune that may be. -/
def okR (x : Int) : Prop := x = 10 ∨ (32 ≤ x ∧ x ≠ 127 ∧ x ≠ 65533 ∧ x ≤ 1114111 ∧ (x ≤ 55295 ∨ 57344 ≤ x))
instance (x : Int) : Decidable (okR x) := by unfold okR; infer_instance
theorem is_eq (x : Int) : text_Is.f x = some (decide (okR x)) := by
  unfold text_Is.f
  repeat' split
  all_goals first
    | exact congrArg some (decide_eq_true (show okR x by unfold okR; omega)).symm
    | exact congrArg some (decide_eq_false (show ¬ okR x by unfold okR; omega)).symm
    | (congr 1; apply decide_eq_decide.2; unfold okR; omega)
theorem badR_eq (x : Int) : badR x = !decide (okR x) := by simp [badR, text_bad.f, is_eq]
theorem okR_valid {x : Int} (h : okR x) : Utf8.valid x = true := by
  unfold okR at h
  unfold Utf8.valid
  rcases (show (0 ≤ x ∧ x < 55296) ∨ (57344 ≤ x ∧ x ≤ 1114111) by omega) with ⟨h1, h2⟩ | ⟨h1, h2⟩
  · rw [decide_eq_true h1, decide_eq_true (show x < 0xD800 from h2)]
    rfl
  · rw [decide_eq_true (show 0xE000 ≤ x from h1), decide_eq_true (show x ≤ 0x10FFFF from h2), Bool.and_self, Bool.or_true]
def enc (x : Int) : List UInt8 := (Utf8.encode x).data.toList
theorem byte_eq (z : Int) (n : Nat) (h : z = (n : Int)) : z.toNat.toUInt8 = UInt8.ofNat n := by subst h; simp
theorem okR_nonneg {x : Int} (h : okR x) : 0 ≤ x := by
  rcases h with rfl | ⟨h, _⟩
  · decide
  · exact Int.le_trans (by decide) h
theorem back_u8 (l : List UInt8) : (Go.Extern.FmtText.nums l).map (fun x => x.toNat.toUInt8) = l := by
  induction l with
  | nil => rfl
  | cons b l ih => simpa [Go.Extern.FmtText.nums] using ih
theorem enc_e1 (n : Nat) : (Go.Extern.FmtText.nums (Utf8.encode (n : Int)).data.toList).map (fun x => x.toNat.toUInt8) = (Lib.encodeRuneZ (n : Int)).map (fun x => x.toNat.toUInt8) := congrArg (List.map (fun x : Int => x.toNat.toUInt8)) (Go.Extern.FmtText.encode_eq n)
theorem enc_e2 (n : Nat) : Lib.encodeRune (n : Int) = (Lib.encodeRuneZ (n : Int)).map (fun x => x.toNat.toUInt8) := rfl
theorem enc_e3 (n : Nat) : (Utf8.encode (n : Int)).data.toList = Lib.encodeRune (n : Int) := by
  rw [enc_e2, ← enc_e1, back_u8]
theorem enc_def (x : Int) : enc x = (Utf8.encode x).data.toList := rfl
theorem enc_nat (n : Nat) : enc (n : Int) = Lib.encodeRune (n : Int) := (enc_def _).trans (enc_e3 n)
theorem enc_eq {x : Int} (h : okR x) : enc x = Lib.encodeRune x := by
  obtain ⟨n, rfl⟩ := Int.eq_ofNat_of_zero_le (okR_nonneg h)
  exact enc_nat n
/-- The bytes of runes. -/
def runeBs (l : List Int) : List UInt8 := l.flatMap enc
theorem foldl_enc : ∀ (l : List Int) (r : ByteArray), (l.foldl (fun r n => r ++ Utf8.encode n) r).data.toList = r.data.toList ++ runeBs l
  | [], r => by simp [runeBs]
  | x :: l, r => by
    rw [List.foldl_cons, foldl_enc l]
    simp [runeBs, enc, ByteArray.data_append]
theorem runesBytes_list (l : List Int) : (runesBytes l).data.toList = runeBs l := by
  unfold runesBytes
  rw [foldl_enc]
  simp
theorem runeBs_append (a b : List Int) : runeBs (a ++ b) = runeBs a ++ runeBs b := by simp [runeBs]
/-- The runes of a text from a byte on, all of which may be, make its bytes. -/
theorem runeBs_rn (s : ByteArray) : ∀ (f i : Nat), s.size - i ≤ f → (∀ x ∈ rn s f i, okR x) → runeBs (rn s f i) = s.data.toList.drop i
  | 0, i, hf, _ => by
    rw [List.drop_of_length_le (by simp only [Array.length_toList]; show s.size ≤ i; omega)]
    simp [rn, runeBs]
  | f + 1, i, hf, hok => by
    unfold rn at hok ⊢
    by_cases h : i < s.size
    · rw [if_pos h] at hok ⊢
      have h0 := hok _ List.mem_cons_self
      have hr := fun x hx => hok x (List.mem_cons_of_mem _ hx)
      have hw := Lib.width_pos s i
      rw [show runeBs (((Utf8.decode s i).1 : Int) :: rn s f (i + (Utf8.decode s i).2)) = enc ((Utf8.decode s i).1 : Int) ++ runeBs (rn s f (i + (Utf8.decode s i).2)) from by simp [runeBs]]
      rw [runeBs_rn s f _ (by omega) hr, enc_eq h0]
      have hd := Lib.decodeL_drop s i
      have hne : s.data.toList.drop i ≠ [] := by
        intro e
        have := congrArg List.length e
        simp only [List.length_drop, Array.length_toList, List.length_nil] at this
        have e2 : s.data.size = s.size := rfl
        omega
      have he := Lib.encode_decode (s.data.toList.drop i) hne (by rw [hd]; intro hc; rw [hc.1] at h0; unfold okR at h0; omega)
      rw [hd] at he
      rw [he, ← List.drop_drop, List.take_append_drop]
    · rw [if_neg h, List.drop_of_length_le (by simp only [Array.length_toList]; show s.size ≤ i; omega)]
      simp [runeBs]
theorem idx_rn (s : ByteArray) : ∀ (f i : Nat), ¬ 0 ≤ Lib.idxFuncFrom (fun x => badR (x : Int)) true s f i → ∀ x ∈ rn s f i, okR x
  | 0, i, _, x, hx => by simp [rn] at hx
  | f + 1, i, h, x, hx => by
    unfold Lib.idxFuncFrom at h
    unfold rn at hx
    by_cases c : i < s.size
    · rw [if_pos c] at h hx
      by_cases b : badR ((Utf8.decode s i).1 : Int) = true
      · rw [if_pos b] at h
        omega
      · rw [if_neg b] at h
        rcases List.mem_cons.1 hx with rfl | hx
        · rw [badR_eq] at b
          simpa using b
        · exact idx_rn s f _ h x hx
    · rw [if_neg c] at hx
      simp at hx
/-- A text that may be: its runes may be, and make it. -/
def May (s : ByteArray) : Prop := ¬ 0 ≤ Lib.idxFunc (fun x => badR (x : Int)) true s
instance (s : ByteArray) : Decidable (May s) := by unfold May; infer_instance
theorem May.ok {s : ByteArray} (h : May s) : ∀ x ∈ runesOf s, okR x := idx_rn s s.size 0 h
theorem May.bytes {s : ByteArray} (h : May s) : runeBs (runesOf s) = s.data.toList := by
  have := runeBs_rn s s.size 0 (by omega) h.ok
  simpa [runesOf] using this
theorem may_f (s : ByteArray) : text_May.f s = some (decide (May s)) := by
  unfold text_May.f
  by_cases h : 0 ≤ Lib.idxFunc (fun x => badR (x : Int)) true s
  · rw [decide_eq_true h, decide_eq_false (show ¬ May s from fun hm => hm h)]
    rfl
  · rw [decide_eq_false h, decide_eq_true (show May s from h)]
    rfl
theorem ext_list {a b : ByteArray} (h : a.data.toList = b.data.toList) : a = b := by
  obtain ⟨⟨a⟩⟩ := a
  obtain ⟨⟨b⟩⟩ := b
  simp only at h
  subst h
  rfl
theorem May.make {s : ByteArray} (h : May s) : runesBytes (runesOf s) = s := ext_list (by rw [runesBytes_list, h.bytes])
theorem runes_f {s : ByteArray} (hs : s.size ≤ 70368744177664) : text_Runes.f s = if May s then some (runesOf s, 0) else some ([], 1) := by
  unfold text_Runes.f
  rw [may_f, Option.bind_some]
  by_cases h : May s
  · rw [if_pos (decide_eq_true h), if_pos hs, if_pos h]
  · rw [if_neg (by simp [h]), if_neg h]
theorem all_f {l : List Int} (h : ∀ x ∈ l, okR x) (hn : l.length ≤ 4611686018427387904) : text_All.f l = some true := by
  unfold text_All.f
  rw [if_pos hn]
  have : l.any badR = false := by
    refine Bool.eq_false_iff.2 fun hc => ?_
    obtain ⟨x, hx, hb⟩ := List.any_eq_true.1 hc
    rw [badR_eq] at hb
    simp [h x hx] at hb
  rw [this]
  rfl
theorem make_f {l : List Int} (h : ∀ x ∈ l, okR x) (hn : l.length ≤ 4611686018427387904) : text_Make.f l = some (runesBytes l, 0) := by
  unfold text_Make.f
  rw [all_f h hn, Option.bind_some, if_pos rfl]
theorem cut_f {s : ByteArray} (hs : s.size ≤ 70368744177664) (h : May s) (a b : Nat) (hab : a ≤ b) (hb : b ≤ (runesOf s).length) :
    text_Cut.f s a b = some (runesBytes (((runesOf s).take b).drop a), 0) := by
  unfold text_Cut.f
  rw [runes_f hs, if_pos h, Option.bind_some]
  simp only
  rw [if_pos trivial, if_neg (by omega), if_neg (by omega), if_neg (by omega), if_pos (by omega), if_pos (by omega), if_pos (by omega)]
  simp only [Int.toNat_natCast]
theorem wakes_ev : lectionarylaw3_wakes.f = some true := by kernel_rfl
end Go.Proofs.YtcjedinpiedhcaaDoorTextE
