/- Texts and runes: the reference's functions. -/
import Derived.Test.YtcjedinpiedhcaaDoorTextE
import Derived.Shelf.Strings.MapAny
namespace Go.Proofs.YtcjedinpiedhcaaDoorTextE
open Go.RowKit Go.Proofs.YtcjedinpiedhcaaDoorW.PrintWords Go.Proofs.YtcjedinpiedhcaaDoorW.PrintLast Go.Proofs.YtcjedinpiedhcaaDoorW.PrintMore Go.Proofs.YtcjedinpiedhcaaDoorX Go.Proofs.YtcjedinpiedhcaaDoorVb Go.Proofs.YtcjedinpiedhcaaDoor.PE
set_option linter.unusedVariables false
set_option linter.unusedSimpArgs false

theorem Ev.cong_ {α : Type} {g : Nat → Option α} {r r' : α} (h : Ev g r) (e : r = r') : Ev g r' := e ▸ h
theorem rune1_f (x : Int) : lectionaryref1_Rune.f x = some (decide (okR x)) := by
  unfold lectionaryref1_Rune.f
  repeat' split
  all_goals first
    | exact congrArg some (decide_eq_true (show okR x by unfold okR; omega)).symm
    | exact congrArg some (decide_eq_false (show ¬ okR x by unfold okR; omega)).symm
    | (by_cases h : x = 65533
       · subst h; rfl
       · rw [show (x != 65533) = true from by simpa using h]
         exact congrArg some (decide_eq_true (show okR x by unfold okR; omega)).symm)
theorem width4 (s : ByteArray) (i : Nat) : (Utf8.decode s i).2 ≤ 4 := by
  unfold Utf8.decode
  simp only
  repeat' split
  all_goals simp
theorem idx_all (s : ByteArray) : ∀ (f i : Nat), (∀ x ∈ rn s f i, okR x) → Lib.idxFuncFrom (fun x => badR (x : Int)) true s f i = -1
  | 0, i, _ => rfl
  | f + 1, i, h => by
    unfold Lib.idxFuncFrom
    unfold rn at h
    by_cases c : i < s.size
    · rw [if_pos c] at h ⊢
      have h0 := h _ List.mem_cons_self
      rw [if_neg (by rw [badR_eq]; simp [h0])]
      exact idx_all s f _ (fun x hx => h x (List.mem_cons_of_mem _ hx))
    · rw [if_neg c]
theorem may_iff (s : ByteArray) : May s ↔ ∀ x ∈ runesOf s, okR x := by
  refine ⟨May.ok, fun h => ?_⟩
  unfold May Lib.idxFunc
  rw [idx_all s s.size 0 h]
  omega
instance (l : List Int) : Decidable (∀ x ∈ l, okR x) := by infer_instance
theorem runes1_l0 (s : ByteArray) (hs : s.size ≤ 100000) : ∀ (f i : Nat) (acc : List Int), s.size - i ≤ f → i ≤ s.size + 4 → acc.length + f < 35184372088832 →
    Ev (fun k => lectionaryref1_Runes.l0 k s acc (i : Int)) (if ∀ x ∈ rn s f i, okR x then (acc ++ rn s f i, true) else ([], false)) := by
  intro f
  induction f with
  | zero =>
    intro i acc hf hi ha
    refine Ev.succ ?_
    simp only [lectionaryref1_Runes.l0, rn, List.append_nil]
    rw [if_pos (by simp)]
    exact Ev.nite (by omega) (Ev.now _)
  | succ f ih =>
    intro i acc hf hi ha
    refine Ev.succ ?_
    simp only [lectionaryref1_Runes.l0]
    unfold rn
    by_cases c : i < s.size
    · rw [if_pos c]
      have hw := Lib.width_pos s i
      have hw4 := width4 s i
      have hd : Lib.decodeGo (s.extract i s.size) = Utf8.decode s i := by first | exact decodeGo_extract s i c | exact Lib.decodeGo_extract s i c | exact Go.Lib.decodeGo_extract s i c
      refine Ev.ite (by omega) (Ev.ite (by omega) (Ev.ite (by omega) ?_))
      simp only [Int.toNat_natCast, utf8_DecodeRuneInString.f, Option.bind_some, hd, rune1_f]
      generalize hdd : Utf8.decode s i = d at hw hw4 ⊢
      by_cases h0 : okR (d.1 : Int)
      · refine Ev.ite (decide_eq_true h0) (Ev.ite (by omega) ?_)
        have hr := ih (i + d.2) (acc ++ [(d.1 : Int)]) (by omega) (by omega) (by rw [List.length_append]; simp only [List.length_cons, List.length_nil]; omega)
        rw [show wrap64 ((i : Int) + (d.2 : Int)) = ((i + d.2 : Nat) : Int) by rw [w64 (by omega) (by omega)]; omega]
        refine Ev.cong_ hr ?_
        by_cases ha : ∀ x ∈ rn s f (i + d.2), okR x
        · rw [if_pos ha, if_pos (by intro x hx; rcases List.mem_cons.1 hx with rfl | hx <;> first | exact h0 | exact ha x hx)]
          simp
        · rw [if_neg ha, if_neg (fun h => ha fun x hx => h x (List.mem_cons_of_mem _ hx))]
      · refine Ev.nite (by simp [h0]) ?_
        rw [if_neg (fun h => h0 (h _ List.mem_cons_self))]
        exact Ev.now _
    · rw [if_neg c, if_pos (by simp)]
      rw [List.append_nil]
      exact Ev.nite (by omega) (Ev.now _)
theorem runes1_ev (s : ByteArray) (hs : s.size ≤ 100000) : Ev (fun k => lectionaryref1_Runes.f k s) (if May s then (runesOf s, true) else ([], false)) := by
  unfold lectionaryref1_Runes.f
  have h := runes1_l0 s hs s.size 0 [] (by omega) (by omega) (by simp only [List.length_nil]; omega)
  refine Ev.cong_ h ?_
  show (if ∀ x ∈ runesOf s, okR x then ([] ++ runesOf s, true) else ([], false)) = _
  by_cases hm : May s
  · rw [if_pos hm, if_pos ((may_iff s).1 hm)]
    rfl
  · rw [if_neg hm, if_neg (fun h => hm ((may_iff s).2 h))]
theorem rd_mem (l : List Int) (i : Nat) (h : i < l.length) : rd l (i : Int) ∈ l := by
  unfold rd
  rw [Int.toNat_natCast, List.getD_eq_getElem?_getD, List.getElem?_eq_getElem h]
  exact List.getElem_mem h
theorem eqrunes_l0 (l : List Int) (hl : l.length ≤ 1000000) : ∀ (d i : Nat), i + d = l.length → Ev (fun k => lectionaryref0_EqRunes.l0 k l l (i : Int)) true := by
  intro d
  induction d with
  | zero =>
    intro i hi
    refine Ev.succ ?_
    simp only [lectionaryref0_EqRunes.l0]
    exact Ev.nite (by omega) (Ev.now _)
  | succ d ih =>
    intro i hi
    refine Ev.succ ?_
    simp only [lectionaryref0_EqRunes.l0]
    refine Ev.ite (by omega) (Ev.ite (by omega) (Ev.ite (by omega) (Ev.ite trivial ?_)))
    rw [wstep i 2000000 (by omega) (by omega)]
    exact ih (i + 1) (by omega)
theorem eqrunes_ev (l : List Int) (hl : l.length ≤ 1000000) : Ev (fun k => lectionaryref0_EqRunes.f k l l) true := by
  unfold lectionaryref0_EqRunes.f
  exact Ev.ite rfl (eqrunes_l0 l hl l.length 0 (by omega))
theorem drop_cons (l : List Int) (i : Nat) (h : i < l.length) : l.drop i = rd l (i : Int) :: l.drop (i + 1) := by
  unfold rd
  rw [Int.toNat_natCast, List.getD_eq_getElem?_getD, List.getElem?_eq_getElem h]
  exact List.drop_eq_getElem_cons h
theorem all1_l0 (l : List Int) (hl : l.length ≤ 1000000) : ∀ (d i : Nat), i + d = l.length → Ev (fun k => lectionaryref1_All.l0 k l (i : Int)) (decide (∀ x ∈ l.drop i, okR x)) := by
  intro d
  induction d with
  | zero =>
    intro i hi
    refine Ev.succ ?_
    simp only [lectionaryref1_All.l0]
    rw [List.drop_of_length_le (by omega), decide_eq_true (by simp)]
    exact Ev.nite (by omega) (Ev.now _)
  | succ d ih =>
    intro i hi
    refine Ev.succ ?_
    simp only [lectionaryref1_All.l0, rune1_f, Option.bind_some]
    have hr := ih (i + 1) (by omega)
    rw [← wstep i 2000000 (by omega) (by omega)] at hr
    rw [drop_cons l i (by omega)]
    refine Ev.ite (by omega) (Ev.ite (by omega) ?_)
    by_cases h : okR (rd l (i : Int))
    · refine Ev.ite (decide_eq_true h) (Ev.cong_ hr ?_)
      apply decide_eq_decide.2
      simp [h]
    · rw [decide_eq_false (show ¬ ∀ x ∈ rd l (i : Int) :: l.drop (i + 1), okR x from fun hc => h (hc _ List.mem_cons_self))]
      exact Ev.nite (by simp [h]) (Ev.now _)
theorem all1_ev (l : List Int) (hl : l.length ≤ 1000000) : Ev (fun k => lectionaryref1_All.f k l) (decide (∀ x ∈ l, okR x)) := all1_l0 l hl l.length 0 (by omega)
theorem make1_l0 (l : List Int) (hl : l.length ≤ 1000000) : ∀ (d i : Nat) (s : ByteArray), i + d = l.length → s.size ≤ 4 * i → Ev (fun k => lectionaryref1_Make.l0 k l s (i : Int)) ((l.drop i).foldl (fun r n => r ++ Utf8.encode n) s) := by
  intro d
  induction d with
  | zero =>
    intro i s hi hs
    refine Ev.succ ?_
    simp only [lectionaryref1_Make.l0]
    rw [List.drop_of_length_le (by omega)]
    exact Ev.nite (by omega) (Ev.now _)
  | succ d ih =>
    intro i s hi hs
    refine Ev.succ ?_
    simp only [lectionaryref1_Make.l0]
    have h4 := encode_size_le (rd l (i : Int))
    refine Ev.ite (by omega) (Ev.ite (by omega) (Ev.ite (by omega) ?_))
    rw [wstep i 2000000 (by omega) (by omega), drop_cons l i (by omega), List.foldl_cons]
    exact ih (i + 1) _ (by omega) (by rw [ByteArray.size_append]; omega)
theorem make1_ev (l : List Int) (hl : l.length ≤ 1000000) : Ev (fun k => lectionaryref1_Make.f k l) (runesBytes l) := make1_l0 l hl l.length 0 ByteArray.empty (by omega) (Nat.le_refl _)
theorem make_no {l : List Int} (h : ¬ ∀ x ∈ l, okR x) (hn : l.length ≤ 4611686018427387904) : text_Make.f l = some (⟨#[]⟩, 1) := by
  have : l.any badR = true := by
    refine List.any_eq_true.2 ?_
    refine Classical.byContradiction fun hc => h fun x hx => Classical.byContradiction fun hb => hc ⟨x, hx, ?_⟩
    rw [badR_eq]
    simp [hb]
  unfold text_Make.f text_All.f
  rw [if_pos hn, this]
  rfl
theorem cut_no {s : ByteArray} (hs : s.size ≤ 70368744177664) (h : ¬ May s) (a b : Int) : text_Cut.f s a b = some (⟨#[]⟩, 1) := by
  unfold text_Cut.f
  rw [runes_f hs, if_neg h]
  rfl
theorem cut_far {s : ByteArray} (hs : s.size ≤ 70368744177664) (h : May s) (a b : Int) (hab : ¬ (0 ≤ a ∧ a ≤ b ∧ b ≤ ((runesOf s).length : Int))) : text_Cut.f s a b = some (⟨#[]⟩, 2) := by
  unfold text_Cut.f
  rw [runes_f hs, if_pos h, Option.bind_some]
  simp only
  rw [if_pos trivial]
  by_cases c1 : a < 0
  · rw [if_pos c1]
  · rw [if_neg c1]
    by_cases c2 : a > b
    · rw [if_pos c2]
    · rw [if_neg c2, if_pos (by omega)]
theorem check_f (s : ByteArray) : text_Check.f s = some (if May s then 0 else 1) := by
  unfold text_Check.f
  rw [may_f, Option.bind_some]
  by_cases h : May s
  · rw [if_pos (decide_eq_true h), if_pos h]
  · rw [if_neg (by simp [h]), if_neg h]
theorem rune_f (x : Int) : text_Rune.f x = some (if okR x then 0 else 1) := by
  unfold text_Rune.f
  rw [is_eq, Option.bind_some]
  by_cases h : okR x
  · rw [if_pos (decide_eq_true h), if_pos h]
  · rw [if_neg (by simp [h]), if_neg h]
theorem len_f {s : ByteArray} (hs : s.size ≤ 70368744177664) : text_Len.f s = some (if May s then (((runesOf s).length : Int), 0) else (0, 1)) := by
  unfold text_Len.f
  rw [runes_f hs]
  by_cases h : May s
  · rw [if_pos h, if_pos h]
    rfl
  · rw [if_neg h, if_neg h]
    rfl
end Go.Proofs.YtcjedinpiedhcaaDoorTextE
