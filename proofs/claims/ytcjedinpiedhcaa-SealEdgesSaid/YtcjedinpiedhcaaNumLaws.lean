/- The four laws of numbers, as statements over lists alone. -/
import Derived.Test.YtcjedinpiedhcaaNumB
namespace Go.Proofs.Ytcjedinpiedhcaa.Pure
open Go.RowKit Go.Proofs.YtcjedinpiedhcaaW.PrintWords Go.Proofs.YtcjedinpiedhcaaW.PrintLast Go.Proofs.YtcjedinpiedhcaaW.PrintMore Go.Proofs.YtcjedinpiedhcaaVb Go.Proofs.YtcjedinpiedhcaaNumB Go.Proofs.Ytcjedinpiedhcaa.PB
set_option linter.unusedVariables false
set_option linter.unusedSimpArgs false

theorem Ev.succ {α : Type} {g : Nat → Option α} {r : α} (h : Ev (fun k => g (k + 1)) r) : Ev g r := Ev.step (fun _ => rfl) h
theorem Ev.ite {α : Type} {c : Prop} [Decidable c] {g f : Nat → Option α} {r : α} (hc : c) (h : Ev g r) : Ev (fun k => if c then g k else f k) r := by simp only [if_pos hc]; exact h
theorem Ev.nite {α : Type} {c : Prop} [Decidable c] {g f : Nat → Option α} {r : α} (hc : ¬ c) (h : Ev f r) : Ev (fun k => if c then g k else f k) r := by simp only [if_neg hc]; exact h

theorem parse_cut (n : Nat) : ∀ k, k < (vb n).length → parse ((vb n).take k) = none := by
  induction n using Nat.strongRecOn with
  | _ n ih =>
    intro k hk
    cases k with
    | zero => rfl
    | succ k =>
      by_cases h : n < 128
      · rw [vb_small h] at hk; simp at hk
      · rw [vb_big h] at hk ⊢
        simp only [List.length_cons] at hk
        simp only [List.take_succ_cons, parse]
        rw [if_neg (by omega), ih (n / 128) (by omega) k (by omega)]
        rfl
theorem pk_cut (n k : Nat) (hk : k < (vb n).length) : pk ((vb n).take k) = none := by
  unfold pk
  rw [parse_cut n k hk]
  rfl
/-- A text that is cut off is none. -/
theorem taketext_cut (s : ByteArray) (h1 : s.size ≤ 268435456) (k : Nat) (hk : k < (vb s.size).length + s.size) : takeTextR (bytesOf ((strOfNums (vb s.size) ++ s).extract 0 k)) = (⟨#[]⟩, ⟨#[]⟩, 7) := by
  unfold takeTextR
  rw [bytesOf_extract, List.drop_zero, bytesOf_append, bytesOf_str (vb_bytes _), List.take_append]
  by_cases h : k < (vb s.size).length
  · have e : k - (vb s.size).length = 0 := by omega
    rw [e, List.take_zero, List.append_nil, pk_cut _ _ h]
  · rw [List.take_of_length_le (by omega), pk_vb s.size h1]
    simp only
    rw [if_pos]
    rw [List.length_take, bytesOf_length]
    omega

section
open lectionarylaw1_NumberTexts
variable (L0 : List Int) (L1 : List ByteArray)
theorem texts_l1 (s t : ByteArray) (n : Nat) (hn : n < 140) (hs : s.size = n) (ht : t = strOfNums (vb s.size) ++ s) (H : ∀ b : Int, Ev (fun k => l0 k (s ++ strOfNums [b]) ((n + 1 : Nat) : Int) L0 L1) true) :
    ∀ (d j : Nat), t.size - j ≤ d → Ev (fun k => l1 k s (n : Int) t (j : Int) L0 L1) true := by
  have hts : t.size = (vb s.size).length + s.size := by rw [ht, ByteArray.size_append, strOfNums_size]
  have hl5 := vb_len5 s.size (by omega)
  intro d
  have fin : ∀ j : Nat, t.size ≤ j → Ev (fun k => l1 k s (n : Int) t (j : Int) L0 L1) true := by
    intro j hj
    refine Ev.succ ?_
    simp only [l1]
    refine Ev.nite (by omega) ?_
    simp only [Option.bind_some, strOfNums_size]
    refine Ev.ite (by simp only [List.length_singleton]; omega) ?_
    rw [show wrap64 ((n : Int) + 1) = ((n + 1 : Nat) : Int) by rw [w64 (by omega) (by omega)]; omega]
    exact H _
  induction d with
  | zero => intro j hj; exact fin j (by omega)
  | succ d ih =>
    intro j hj
    by_cases h : t.size ≤ j
    · exact fin j h
    · refine Ev.succ ?_
      simp only [l1]
      refine Ev.ite (by omega) (Ev.ite (by omega) (Ev.ite (by omega) ?_))
      rw [Int.toNat_natCast]
      have hc := taketext_cut s (by omega) j (by omega)
      rw [← ht] at hc
      refine Ev.bind (hc ▸ taketext_ev (t.extract 0 j) (by rw [ByteArray.size_extract]; omega)) ?_
      simp only [num1_some, Option.bind_some, if_true]
      have e : wrap64 (wrap64 ((j : Int) + 1) + wrap64 ((t.size : Int) / 7)) = ((j + 1 + t.size / 7 : Nat) : Int) := by
        rw [w64 (n := (j : Int) + 1) (by omega) (by omega), w64 (n := (t.size : Int) / 7) (by omega) (by omega), w64 (by omega) (by omega)]
        omega
      rw [e]
      exact ih (j + 1 + t.size / 7) (by omega)

theorem texts_l0 : ∀ (d n : Nat) (s : ByteArray), n + d = 140 → s.size = n → Ev (fun k => l0 k s (n : Int) L0 L1) true := by
  intro d
  induction d with
  | zero =>
    intro n s hn hs
    refine Ev.succ ?_
    simp only [l0]
    refine Ev.nite (by omega) (Ev.bind wakes_ev (Ev.now _))
  | succ d ih =>
    intro n s hn hs
    have hl5 := vb_len5 s.size (by omega)
    have hne := vb_ne s.size
    refine Ev.succ ?_
    simp only [l0]
    refine Ev.ite (by omega) (Ev.bind (text_ev s (by omega)) ?_)
    have hts : (strOfNums (vb s.size) ++ s).size = (vb s.size).length + s.size := by rw [ByteArray.size_append, strOfNums_size]
    refine Ev.ite (by omega) ?_
    have htt := taketext_text s (by omega) (⟨#[121]⟩ : ByteArray)
    refine Ev.bind (htt ▸ taketext_ev _ (by rw [ByteArray.size_append, hts, show (⟨#[121]⟩ : ByteArray).size = 1 from rfl]; omega)) ?_
    simp only [num1_some, Option.bind_some, if_true]
    refine Ev.ite (by simp [ByteArray.toList_eq]) ?_
    rw [decide_eq_false (by rw [hts, w64 (by omega) (by omega)]; omega)]
    refine Ev.succ ?_
    simp only [j1]
    refine Ev.nite (by simp) ?_
    exact texts_l1 L0 L1 s _ n (by omega) hs rfl (fun b => ih (n + 1) _ (by omega) (by rw [ByteArray.size_append, strOfNums_size]; simp; omega)) _ 0 (Nat.le_refl _)
end

theorem NumberTexts : ∀ (l0_0 : List Int) (l0_1 : List ByteArray), (l0_0.length * 8 ≤ 140737488351232 ∧ ∀ x0 ∈ l0_0, (Lit.int .i64 x0).wf = true) → (l0_1.length * 16 ≤ 140737488351232 ∧ ∀ x0 ∈ l0_1, x0.size ≤ 140737488351232) →  ∃ k, lectionarylaw1_NumberTexts.f k l0_0 l0_1 = some true := by
  intro L0 L1 _ _
  exact (texts_l0 L0 L1 140 0 _ rfl rfl).rounds

/-! ### what is too much -/
theorem rdOf_mem {α : Type} (d : α) (l : List α) (i : Nat) (h : i < l.length) : rdOf d l (i : Int) ∈ l := by
  unfold rdOf
  rw [Int.toNat_natCast, List.getD_eq_getElem?_getD, List.getElem?_eq_getElem h]
  exact List.getElem_mem h
theorem wstep (i n : Nat) (h : i < n) (hn : n < 9223372036854775807) : wrap64 ((i : Int) + 1) = ((i + 1 : Nat) : Int) := by rw [w64 (by omega) (by omega)]; omega
theorem texts_ev (l : List ByteArray) (hl : l.length * 16 ≤ 140737488351232) (hs : ∀ x ∈ l, x.size ≤ 140737488351232) : ∃ v, Ev (fun k => lectionarylaw0_Texts.f k l) v ∧ (v ≤ 3000 → ∀ x ∈ l, x.size ≤ 3000) := by
  have key : ∀ (d i : Nat) (x : Int), i + d = l.length → 0 ≤ x → x ≤ 281474976710656 → ∃ v, Ev (fun k => lectionarylaw0_Texts.l0 k l x (i : Int)) v ∧ x ≤ v ∧ (v ≤ 3000 → ∀ j : Nat, i ≤ j → j < l.length → (rdOf ByteArray.empty l (j : Int)).size ≤ 3000) := by
    intro d
    induction d with
    | zero =>
      intro i x hi hx hx1
      refine ⟨x, Ev.succ ?_, Int.le_refl _, fun _ j h1 h2 => by omega⟩
      simp only [lectionarylaw0_Texts.l0]
      exact Ev.nite (by omega) (Ev.now _)
    | succ d ih =>
      intro i x hi hx hx1
      by_cases h : x < 1048576
      · have hm := hs _ (rdOf_mem ByteArray.empty l i (by omega))
        obtain ⟨v, hv, hle, hb⟩ := ih (i + 1) (x + ((rdOf ByteArray.empty l (i : Int)).size : Int)) (by omega) (by omega) (by omega)
        refine ⟨v, Ev.succ ?_, by omega, fun h3 j h1 h2 => ?_⟩
        · simp only [lectionarylaw0_Texts.l0]
          refine Ev.ite (by omega) (Ev.ite h (Ev.ite (by omega) ?_))
          rw [wstep i l.length (by omega) (by omega), w64 (by omega) (by omega)]
          exact hv
        · rcases Nat.eq_or_lt_of_le h1 with rfl | h1
          · omega
          · exact hb h3 j h1 h2
      · refine ⟨x, Ev.succ ?_, Int.le_refl _, fun h3 => by omega⟩
        simp only [lectionarylaw0_Texts.l0]
        exact Ev.ite (by omega) (Ev.nite h (Ev.now _))
  obtain ⟨v, hv, _, hb⟩ := key l.length 0 (l.length : Int) (by omega) (by omega) (by omega)
  refine ⟨v, hv, fun h x hx => ?_⟩
  obtain ⟨j, hj, rfl⟩ := List.getElem_of_mem hx
  have := hb h j (by omega) hj
  unfold rdOf at this
  rw [Int.toNat_natCast, List.getD_eq_getElem?_getD, List.getElem?_eq_getElem hj] at this
  exact this
theorem heavy_ev (L0 : List Int) (L1 : List ByteArray) (hl : L1.length * 16 ≤ 140737488351232) (hs : ∀ x ∈ L1, x.size ≤ 140737488351232) :
    Ev (fun k => lectionarylaw1_Heavy.f k L0 L1) true ∨ Ev (fun k => lectionarylaw1_Heavy.f k L0 L1) false ∧ L0.length ≤ 200 ∧ ∀ x ∈ L1, x.size ≤ 3000 := by
  unfold lectionarylaw1_Heavy.f
  by_cases h : (L0.length : Int) > 200
  · exact .inl (Ev.ite h (Ev.now _))
  · obtain ⟨v, hv, hb⟩ := texts_ev L1 hl hs
    by_cases h2 : v > 3000
    · left
      refine Ev.nite h (Ev.bind hv ?_)
      rw [decide_eq_true h2]
      exact Ev.now _
    · right
      refine ⟨Ev.nite h (Ev.bind hv ?_), by omega, hb (by omega)⟩
      rw [decide_eq_false h2]
      exact Ev.now _

theorem size_ev (n : Int) : Ev (fun k => number_Size.f k n) (((putR n).1.size : Int), (putR n).2) := by
  unfold number_Size.f
  exact Ev.bind (put_ev n) (Ev.now _)
theorem putR_ok {n : Int} (h : 0 ≤ n ∧ n ≤ 268435456) : putR n = (strOfNums (vb n.toNat), 0) := if_pos h
theorem putR_no {n : Int} (h : ¬ (0 ≤ n ∧ n ≤ 268435456)) : putR n = (⟨#[]⟩, 1) := if_neg h
theorem putR_inj {n m : Int} (h : 0 ≤ n ∧ n ≤ 268435456) (he : (putR m).1.toList = (putR n).1.toList) : m = n := by
  rw [toList_iff, putR_ok h] at he
  by_cases hm : 0 ≤ m ∧ m ≤ 268435456
  · rw [putR_ok hm] at he
    have := congrArg bytesOf he
    rw [bytesOf_str (vb_bytes _), bytesOf_str (vb_bytes _)] at this
    have h1 := parse_vb m.toNat []
    rw [this, parse_vb] at h1
    simp only [Option.some.injEq, Prod.mk.injEq, and_true] at h1
    omega
  · rw [putR_no hm] at he
    have := congrArg ByteArray.size he
    have h0 := vb_ne n.toNat
    simp only [strOfNums_size] at this
    have e : (⟨#[]⟩ : ByteArray).size = 0 := rfl
    rw [e] at this
    omega
theorem behind_list : (⟨#[98, 101, 104, 105, 110, 100]⟩ : ByteArray).toList = ([98, 101, 104, 105, 110, 100] : List UInt8) := by simp [ByteArray.toList_eq]
theorem behind_size : (⟨#[98, 101, 104, 105, 110, 100]⟩ : ByteArray).size = 6 := rfl

section
open lectionarylaw1_NumberBack
variable (L0 : List Int) (L1 : List ByteArray)
theorem back_l2 (hs : ∀ x ∈ L1, x.size ≤ 3000) : ∀ (d i : Nat), i + d = 8 → Ev (fun k => l2 k (i : Int) L0 L1) true := by
  have fin : ∀ i : Nat, Ev (fun k => j5 k (i : Int) false L0 L1) true := by
    intro i
    refine Ev.succ ?_
    simp only [j5]
    exact Ev.nite (by simp) (Ev.bind wakes_ev (Ev.now _))
  intro d
  induction d with
  | zero =>
    intro i hi
    refine Ev.succ ?_
    simp only [l2]
    by_cases h : (i : Int) < (L1.length : Int)
    · refine Ev.ite h ?_
      rw [decide_eq_false (by omega)]
      exact fin i
    · exact Ev.nite h (fin i)
  | succ d ih =>
    intro i hi
    refine Ev.succ ?_
    simp only [l2]
    by_cases h : (i : Int) < (L1.length : Int)
    · refine Ev.ite h ?_
      rw [decide_eq_true (show (i : Int) < 8 by omega)]
      refine Ev.succ ?_
      simp only [j5]
      refine Ev.ite (by simp) (Ev.ite (by omega) (Ev.ite h ?_))
      have hm := hs _ (rdOf_mem ByteArray.empty L1 i (by omega))
      generalize rdOf ByteArray.empty L1 (i : Int) = s at hm ⊢
      have hl5 := vb_len5 s.size (by omega)
      have hts : (strOfNums (vb s.size) ++ s).size = (vb s.size).length + s.size := by rw [ByteArray.size_append, strOfNums_size]
      refine Ev.bind (text_ev s (by omega)) (Ev.ite (by omega) ?_)
      have htt := taketext_text s (by omega) (⟨#[98, 101, 104, 105, 110, 100]⟩ : ByteArray)
      refine Ev.bind (htt ▸ taketext_ev _ (by rw [ByteArray.size_append, hts, behind_size]; omega)) ?_
      simp only [num1_some, Option.bind_some, if_true]
      refine Ev.ite behind_list ?_
      rw [wstep i 9 (by omega) (by omega)]
      exact ih (i + 1) (by omega)
    · exact Ev.nite h (fin i)

theorem back_l1 (i : Nat) (n : Int) (all : List ByteArray) (h8 : i < 8) (hi : i < L0.length) (hn : rd L0 (i : Int) = n) (hok : 0 ≤ n ∧ n ≤ 268435456) (hall : all.length = i + 1) (hal : ∀ j : Nat, j < i → rdOf ByteArray.empty all (j : Int) = (putR (rd L0 (j : Int))).1)
    (H : Ev (fun k => l0 k all ((i + 1 : Nat) : Int) L0 L1) true) : ∀ (d j : Nat), j + d = i → Ev (fun k => l1 k all (i : Int) (putR n).1 (j : Int) L0 L1) true := by
  intro d
  induction d with
  | zero =>
    intro j hj
    refine Ev.succ ?_
    simp only [l1]
    refine Ev.nite (by omega) ?_
    rw [wstep i 9 (by omega) (by omega)]
    exact H
  | succ d ih =>
    intro j hj
    refine Ev.succ ?_
    simp only [l1]
    refine Ev.ite (by omega) (Ev.ite (by omega) (Ev.ite (by omega) ?_))
    rw [wstep j 9 (by omega) (by omega), hal j (by omega), hn]
    by_cases he : (putR (rd L0 (j : Int))).1.toList = (putR n).1.toList
    · refine Ev.ite he (Ev.ite (by omega) (Ev.ite (by omega) (Ev.ite (by omega) (Ev.ite (putR_inj hok he) (ih (j + 1) (by omega))))))
    · exact Ev.nite he (ih (j + 1) (by omega))

theorem back_l0 (hs : ∀ x ∈ L1, x.size ≤ 3000) : ∀ (d i : Nat) (all : List ByteArray), i + d = 8 → all.length = i → (∀ j : Nat, j < i → rdOf ByteArray.empty all (j : Int) = (putR (rd L0 (j : Int))).1) → Ev (fun k => l0 k all (i : Int) L0 L1) true := by
  have fin : ∀ (i : Nat) (all : List ByteArray), Ev (fun k => j1 k all (i : Int) false L0 L1) true := by
    intro i all
    refine Ev.succ ?_
    simp only [j1]
    exact Ev.nite (by simp) (back_l2 L0 L1 hs 8 0 rfl)
  intro d
  induction d with
  | zero =>
    intro i all hi _ _
    refine Ev.succ ?_
    simp only [l0]
    by_cases h : (i : Int) < (L0.length : Int)
    · refine Ev.ite h ?_
      rw [decide_eq_false (by omega)]
      exact fin i all
    · exact Ev.nite h (fin i all)
  | succ d ih =>
    intro i all hi hall hal
    refine Ev.succ ?_
    simp only [l0]
    by_cases h : (i : Int) < (L0.length : Int)
    · refine Ev.ite h ?_
      rw [decide_eq_true (show (i : Int) < 8 by omega)]
      refine Ev.succ ?_
      simp only [j1]
      refine Ev.ite (by simp) (Ev.ite (by omega) (Ev.ite h ?_))
      obtain ⟨n, hn⟩ : ∃ n, rd L0 (i : Int) = n := ⟨_, rfl⟩
      rw [hn]
      refine Ev.bind (put_ev n) (Ev.ite (by omega) ?_)
      simp only [Option.bind_some, num1_some]
      have hnext : ∀ j : Nat, j < i + 1 → rdOf ByteArray.empty (all ++ [(putR n).1]) (j : Int) = (putR (rd L0 (j : Int))).1 := by
        intro j hj
        rcases Nat.lt_or_ge j i with h1 | h1
        · rw [← hal j h1]
          unfold rdOf
          rw [Int.toNat_natCast, List.getD_eq_getElem?_getD, List.getD_eq_getElem?_getD, List.getElem?_append_left (by omega)]
        · obtain rfl : j = i := by omega
          unfold rdOf
          rw [Int.toNat_natCast, List.getD_eq_getElem?_getD, List.getElem?_append_right (by omega), hall, hn]
          simp
      have hlen : (all ++ [(putR n).1]).length = i + 1 := by simp [hall]
      have hrec := ih (i + 1) (all ++ [(putR n).1]) (by omega) hlen hnext
      by_cases hok : 0 ≤ n ∧ n ≤ 268435456
      · have h2 : (putR n).2 = 0 := by rw [putR_ok hok]
        have h1 : (putR n).1 = strOfNums (vb n.toNat) := by rw [putR_ok hok]
        have hl5 := vb_len5 n.toNat (by omega)
        have hsz : (putR n).1.size = (vb n.toNat).length := by rw [h1, strOfNums_size]
        refine Ev.ite h2 (Ev.ite (by omega) ?_)
        have htt := take_put n hok.1 hok.2 (⟨#[98, 101, 104, 105, 110, 100]⟩ : ByteArray)
        rw [← h1] at htt
        refine Ev.bind (htt ▸ take_ev _ (by rw [ByteArray.size_append, behind_size]; omega)) ?_
        refine Ev.bind (size_ev n) ?_
        simp only [num1_some, Option.bind_some, if_true]
        refine Ev.ite h2 (Ev.ite behind_list ?_)
        rw [bne_self_eq_false]
        refine Ev.succ ?_
        simp only [j2]
        refine Ev.nite (by simp) ?_
        exact back_l1 L0 L1 i n _ (by omega) (by omega) hn hok hlen (fun j hj => hnext j (by omega)) hrec i 0 (by omega)
      · have h2 : (putR n).2 = 1 := by rw [putR_no hok]
        refine Ev.nite (by rw [h2]; decide) ?_
        rw [wstep i 9 (by omega) (by omega)]
        exact hrec
    · exact Ev.nite h (fin i all)
end

theorem NumberBack : ∀ (l0_0 : List Int) (l0_1 : List ByteArray), (l0_0.length * 8 ≤ 140737488351232 ∧ ∀ x0 ∈ l0_0, (Lit.int .i64 x0).wf = true) → (l0_1.length * 16 ≤ 140737488351232 ∧ ∀ x0 ∈ l0_1, x0.size ≤ 140737488351232) →  ∃ k, lectionarylaw1_NumberBack.f k l0_0 l0_1 = some true := by
  intro L0 L1 _ h1
  unfold lectionarylaw1_NumberBack.f
  rcases heavy_ev L0 L1 h1.1 h1.2 with h | ⟨h, _, h2⟩
  · refine Ev.rounds (Ev.bind h ?_)
    exact Ev.ite rfl (Ev.now _)
  · refine Ev.rounds (Ev.bind h ?_)
    exact Ev.nite (by simp) (back_l0 L0 L1 h2 8 0 [] rfl rfl (fun j hj => by omega))

section
open lectionarylaw1_NumberEdges
variable (L0 : List Int) (L1 : List ByteArray)
theorem takes_same (l : List Int) : (takeR l).1 = (rtakeR l).1 ∧ (takeR l).2.1 = (rtakeR l).2.1 ∧ ((rtakeR l).2.2 != ((takeR l).2.2 == 0)) = false := by
  unfold takeR rtakeR
  cases pk l with
  | none => exact ⟨rfl, rfl, rfl⟩
  | some y => exact ⟨rfl, rfl, rfl⟩
theorem edges_l2 (a b : Int) (l : List ByteArray) (hl : l.length < 1000) (hs : ∀ x ∈ l, x.size < 1000) (H : Ev (fun k => l1 k a (wrap64 (b + 1)) L0 L1) true) : ∀ (d i : Nat), i + d = l.length → Ev (fun k => l2 k a b l (i : Int) L0 L1) true := by
  intro d
  induction d with
  | zero =>
    intro i hi
    refine Ev.succ ?_
    simp only [l2]
    exact Ev.nite (by omega) H
  | succ d ih =>
    intro i hi
    have hm := hs _ (rdOf_mem ByteArray.empty l i (by omega))
    refine Ev.succ ?_
    simp only [l2]
    refine Ev.ite (by omega) (Ev.ite (by omega) ?_)
    generalize rdOf ByteArray.empty l (i : Int) = s at hm ⊢
    obtain ⟨e1, e2, e3⟩ := takes_same (bytesOf s)
    refine Ev.bind (take_ev s (by omega)) (Ev.bind (rtake_ev s (by omega)) ?_)
    simp only [num1_some, Option.bind_some]
    refine Ev.nite (by rw [e3]; simp) (Ev.ite e1 (Ev.ite (by rw [e2]) ?_))
    rw [wstep i l.length (by omega) (by omega)]
    exact ih (i + 1) (by omega)
theorem putR_len (n : Int) : (putR n).1.size ≤ 5 := by
  by_cases h : 0 ≤ n ∧ n ≤ 268435456
  · rw [putR_ok h, strOfNums_size]
    exact vb_len5 n.toNat (by omega)
  · rw [putR_no h]
    exact Nat.zero_le _
theorem edges_l1 (a : Nat) (H : Ev (fun k => l0 k (wrap64 ((a : Int) + 1)) L0 L1) true) : ∀ (d : Nat) (b : Int), -1 ≤ b → b + d = 2 → Ev (fun k => l1 k (a : Int) b L0 L1) true := by
  intro d
  induction d with
  | zero =>
    intro b hb0 hb
    refine Ev.succ ?_
    simp only [l1]
    exact Ev.nite (by omega) H
  | succ d ih =>
    intro b hb0 hb
    refine Ev.succ ?_
    simp only [l1]
    refine Ev.ite (by omega) (Ev.ite (by omega) ?_)
    generalize wrap64 (shl .i64 1 (a : Int) + b) = n
    refine Ev.bind (put_ev n) ?_
    rw [num_some]
    simp only [num1_some, Option.bind_some]
    have hlast : Ev (fun k => j2 k (a : Int) b (putR n).1 false L0 L1) true := by
      have hsz := putR_len n
      generalize (putR n).1 = s at hsz ⊢
      refine Ev.succ ?_
      simp only [j2]
      refine Ev.nite (by simp) (Ev.ite (by omega) (Ev.ite (by omega) (Ev.ite (by omega) ?_)))
      simp only [Option.bind_some]
      have hx : wrap64 (b + 1) = b + 1 := w64 (by omega) (by omega)
      have hrec : Ev (fun k => l1 k (a : Int) (wrap64 (b + 1)) L0 L1) true := by rw [hx]; exact ih (b + 1) (by omega) (by omega)
      have h1 : (⟨#[128]⟩ : ByteArray).size = 1 := rfl
      have h2 : (⟨#[128, 0]⟩ : ByteArray).size = 2 := rfl
      by_cases h : (s.size : Int) > 0
      · have hw : wrap64 ((s.size : Int) - 1) = (s.size : Int) - 1 := w64 (by omega) (by omega)
        rw [hw]
        refine Ev.ite h (Ev.ite (by omega) (Ev.ite (by omega) (Ev.ite (by simp only [ByteArray.size_extract]; omega) (Ev.ite (by simp) ?_))))
        refine Ev.succ ?_
        simp only [j3]
        refine edges_l2 L0 L1 a b _ (by simp) ?_ hrec 6 0 rfl
        intro x hx
        simp only [List.cons_append, List.nil_append, List.mem_cons, List.not_mem_nil, or_false] at hx
        rcases hx with rfl | rfl | rfl | rfl | rfl | rfl <;> (try simp only [ByteArray.size_append, ByteArray.size_extract, h1, h2]) <;> omega
      · refine Ev.nite h ?_
        refine Ev.succ ?_
        simp only [j3]
        refine edges_l2 L0 L1 a b _ (by simp) ?_ hrec 4 0 rfl
        intro x hx
        simp only [List.mem_cons, List.not_mem_nil, or_false] at hx
        rcases hx with rfl | rfl | rfl | rfl <;> (try simp only [ByteArray.size_append, h1]) <;> omega
    by_cases hok : 0 ≤ n ∧ n ≤ 268435456
    · have h2 : (putR n).2 = 0 := by rw [putR_ok hok]
      have h1 : (putR n).1 = strOfNums (vb n.toNat) := by rw [putR_ok hok]
      rw [h2, decide_eq_true hok]
      refine Ev.nite (by decide) (Ev.ite rfl ?_)
      have hr := rput_ev n.toNat (by omega)
      rw [Int.toNat_of_nonneg hok.1] at hr
      refine Ev.bind hr ?_
      rw [← h1, bne_self_eq_false]
      exact hlast
    · have h2 : (putR n).2 = 1 := by rw [putR_no hok]
      rw [h2, decide_eq_false hok]
      exact Ev.nite (by decide) (Ev.nite (by decide) hlast)
theorem edges_l0 : ∀ (d a : Nat), a + d = 31 → Ev (fun k => l0 k (a : Int) L0 L1) true := by
  intro d
  induction d with
  | zero =>
    intro a ha
    refine Ev.succ ?_
    simp only [l0]
    exact Ev.nite (by omega) (Ev.ite (by omega) (Ev.bind wakes_ev (Ev.now _)))
  | succ d ih =>
    intro a ha
    refine Ev.succ ?_
    simp only [l0]
    refine Ev.ite (by omega) ?_
    exact edges_l1 L0 L1 a (by rw [wstep a 40 (by omega) (by omega)]; exact ih (a + 1) (by omega)) 3 (-1) (by omega) (by omega)
end
theorem NumberEdges : ∀ (l0_0 : List Int) (l0_1 : List ByteArray), (l0_0.length * 8 ≤ 140737488351232 ∧ ∀ x0 ∈ l0_0, (Lit.int .i64 x0).wf = true) → (l0_1.length * 16 ≤ 140737488351232 ∧ ∀ x0 ∈ l0_1, x0.size ≤ 140737488351232) →  ∃ k, lectionarylaw1_NumberEdges.f k l0_0 l0_1 = some true := by
  intro L0 L1 _ _
  exact (edges_l0 L0 L1 31 0 rfl).rounds
end Go.Proofs.Ytcjedinpiedhcaa.Pure
