/- Steps through printed loops, and more on the functions of numbers. -/
import Derived.Test.YtcjedinpiedhcaaNumE
namespace Go.Proofs.YtcjedinpiedhcaaNumE
open Go.RowKit Go.Proofs.YtcjedinpiedhcaaW.PrintWords Go.Proofs.YtcjedinpiedhcaaW.PrintLast Go.Proofs.YtcjedinpiedhcaaW.PrintMore Go.Proofs.YtcjedinpiedhcaaVb Go.Proofs.Ytcjedinpiedhcaa.PE
set_option linter.unusedVariables false
set_option linter.unusedSimpArgs false

theorem Ev.succ {α : Type} {g : Nat → Option α} {r : α} (h : Ev (fun k => g (k + 1)) r) : Ev g r := Ev.step (fun _ => rfl) h
theorem Ev.ite {α : Type} {c : Prop} [Decidable c] {g f : Nat → Option α} {r : α} (hc : c) (h : Ev g r) : Ev (fun k => if c then g k else f k) r := by simp only [if_pos hc]; exact h
theorem Ev.nite {α : Type} {c : Prop} [Decidable c] {g f : Nat → Option α} {r : α} (hc : ¬ c) (h : Ev f r) : Ev (fun k => if c then g k else f k) r := by simp only [if_neg hc]; exact h

theorem parse_cut (n : Nat) : ∀ k, k < (vb n).length → parse ((vb n).take k) = none := by
  induction n using Nat.strongRecOn with
  | _ n ih =>
    intro k hk
    cases k with
    | zero => rfl
    | succ k =>
      by_cases h : n < 128
      · rw [vb_small h] at hk; simp at hk
      · rw [vb_big h] at hk ⊢
        simp only [List.length_cons] at hk
        simp only [List.take_succ_cons, parse]
        rw [if_neg (by omega), ih (n / 128) (by omega) k (by omega)]
        rfl
theorem pk_cut (n k : Nat) (hk : k < (vb n).length) : pk ((vb n).take k) = none := by
  unfold pk
  rw [parse_cut n k hk]
  rfl
/-- A text that is cut off is none. -/
theorem taketext_cut (s : ByteArray) (h1 : s.size ≤ 268435456) (k : Nat) (hk : k < (vb s.size).length + s.size) : takeTextR (bytesOf ((strOfNums (vb s.size) ++ s).extract 0 k)) = (⟨#[]⟩, ⟨#[]⟩, 7) := by
  unfold takeTextR
  rw [bytesOf_extract, List.drop_zero, bytesOf_append, bytesOf_str (vb_bytes _), List.take_append]
  by_cases h : k < (vb s.size).length
  · have e : k - (vb s.size).length = 0 := by omega
    rw [e, List.take_zero, List.append_nil, pk_cut _ _ h]
  · rw [List.take_of_length_le (by omega), pk_vb s.size h1]
    simp only
    rw [if_pos]
    rw [List.length_take, bytesOf_length]
    omega

theorem rdOf_mem {α : Type} (d : α) (l : List α) (i : Nat) (h : i < l.length) : rdOf d l (i : Int) ∈ l := by
  unfold rdOf
  rw [Int.toNat_natCast, List.getD_eq_getElem?_getD, List.getElem?_eq_getElem h]
  exact List.getElem_mem h
theorem wstep (i n : Nat) (h : i < n) (hn : n < 9223372036854775807) : wrap64 ((i : Int) + 1) = ((i + 1 : Nat) : Int) := by rw [w64 (by omega) (by omega)]; omega
--HEAVY
theorem texts_ev (l : List ByteArray) (hl : l.length * 16 ≤ 140737488351232) (hs : ∀ x ∈ l, x.size ≤ 140737488351232) : ∃ v, Ev (fun k => lectionarylaw0_Texts.f k l) v ∧ (v ≤ 3000 → l.length ≤ 3000 ∧ ∀ x ∈ l, x.size ≤ 3000) := by
  have key : ∀ (d i : Nat) (x : Int), i + d = l.length → 0 ≤ x → x ≤ 281474976710656 → ∃ v, Ev (fun k => lectionarylaw0_Texts.l0 k l x (i : Int)) v ∧ x ≤ v ∧ (v ≤ 3000 → ∀ j : Nat, i ≤ j → j < l.length → (rdOf ByteArray.empty l (j : Int)).size ≤ 3000) := by
    intro d
    induction d with
    | zero =>
      intro i x hi hx hx1
      refine ⟨x, Ev.succ ?_, Int.le_refl _, fun _ j h1 h2 => by omega⟩
      simp only [lectionarylaw0_Texts.l0]
      exact Ev.nite (by omega) (Ev.now _)
    | succ d ih =>
      intro i x hi hx hx1
      by_cases h : x < 1048576
      · have hm := hs _ (rdOf_mem ByteArray.empty l i (by omega))
        obtain ⟨v, hv, hle, hb⟩ := ih (i + 1) (x + ((rdOf ByteArray.empty l (i : Int)).size : Int)) (by omega) (by omega) (by omega)
        refine ⟨v, Ev.succ ?_, by omega, fun h3 j h1 h2 => ?_⟩
        · simp only [lectionarylaw0_Texts.l0]
          refine Ev.ite (by omega) (Ev.ite h (Ev.ite (by omega) ?_))
          rw [wstep i l.length (by omega) (by omega), w64 (by omega) (by omega)]
          exact hv
        · rcases Nat.eq_or_lt_of_le h1 with rfl | h1
          · omega
          · exact hb h3 j h1 h2
      · refine ⟨x, Ev.succ ?_, Int.le_refl _, fun h3 => by omega⟩
        simp only [lectionarylaw0_Texts.l0]
        exact Ev.ite (by omega) (Ev.nite h (Ev.now _))
  obtain ⟨v, hv, hle, hb⟩ := key l.length 0 (l.length : Int) (by omega) (by omega) (by omega)
  refine ⟨v, hv, fun h => ⟨by omega, fun x hx => ?_⟩⟩
  obtain ⟨j, hj, rfl⟩ := List.getElem_of_mem hx
  have := hb h j (by omega) hj
  unfold rdOf at this
  rw [Int.toNat_natCast, List.getD_eq_getElem?_getD, List.getElem?_eq_getElem hj] at this
  exact this
theorem heavy_ev (L0 : List Int) (L1 : List ByteArray) (hl : L1.length * 16 ≤ 140737488351232) (hs : ∀ x ∈ L1, x.size ≤ 140737488351232) :
    Ev (fun k => lectionarylaw1_Heavy.f k L0 L1) true ∨ Ev (fun k => lectionarylaw1_Heavy.f k L0 L1) false ∧ L0.length ≤ 200 ∧ L1.length ≤ 3000 ∧ ∀ x ∈ L1, x.size ≤ 3000 := by
  unfold lectionarylaw1_Heavy.f
  by_cases h : (L0.length : Int) > 200
  · exact .inl (Ev.ite h (Ev.now _))
  · obtain ⟨v, hv, hb⟩ := texts_ev L1 hl hs
    by_cases h2 : v > 3000
    · left
      refine Ev.nite h (Ev.bind hv ?_)
      rw [decide_eq_true h2]
      exact Ev.now _
    · right
      refine ⟨Ev.nite h (Ev.bind hv ?_), by omega, hb (by omega)⟩
      rw [decide_eq_false h2]
      exact Ev.now _

--END
theorem size_ev (n : Int) : Ev (fun k => number_Size.f k n) (((putR n).1.size : Int), (putR n).2) := by
  unfold number_Size.f
  exact Ev.bind (put_ev n) (Ev.now _)
theorem putR_ok {n : Int} (h : 0 ≤ n ∧ n ≤ 268435456) : putR n = (strOfNums (vb n.toNat), 0) := if_pos h
theorem putR_no {n : Int} (h : ¬ (0 ≤ n ∧ n ≤ 268435456)) : putR n = (⟨#[]⟩, 1) := if_neg h
theorem putR_inj {n m : Int} (h : 0 ≤ n ∧ n ≤ 268435456) (he : (putR m).1.toList = (putR n).1.toList) : m = n := by
  rw [toList_iff, putR_ok h] at he
  by_cases hm : 0 ≤ m ∧ m ≤ 268435456
  · rw [putR_ok hm] at he
    have := congrArg bytesOf he
    rw [bytesOf_str (vb_bytes _), bytesOf_str (vb_bytes _)] at this
    have h1 := parse_vb m.toNat []
    rw [this, parse_vb] at h1
    simp only [Option.some.injEq, Prod.mk.injEq, and_true] at h1
    omega
  · rw [putR_no hm] at he
    have := congrArg ByteArray.size he
    have h0 := vb_ne n.toNat
    simp only [strOfNums_size] at this
    have e : (⟨#[]⟩ : ByteArray).size = 0 := rfl
    rw [e] at this
    omega
theorem behind_list : (⟨#[98, 101, 104, 105, 110, 100]⟩ : ByteArray).toList = ([98, 101, 104, 105, 110, 100] : List UInt8) := by simp [ByteArray.toList_eq]
theorem behind_size : (⟨#[98, 101, 104, 105, 110, 100]⟩ : ByteArray).size = 6 := rfl

theorem takes_same (l : List Int) : (takeR l).1 = (rtakeR l).1 ∧ (takeR l).2.1 = (rtakeR l).2.1 ∧ ((rtakeR l).2.2 != ((takeR l).2.2 == 0)) = false := by
  unfold takeR rtakeR
  cases pk l with
  | none => exact ⟨rfl, rfl, rfl⟩
  | some y => exact ⟨rfl, rfl, rfl⟩
theorem putR_len (n : Int) : (putR n).1.size ≤ 5 := by
  by_cases h : 0 ≤ n ∧ n ≤ 268435456
  · rw [putR_ok h, strOfNums_size]
    exact vb_len5 n.toNat (by omega)
  · rw [putR_no h]
    exact Nat.zero_le _
end Go.Proofs.YtcjedinpiedhcaaNumE
