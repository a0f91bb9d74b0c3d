import Derived.Test.YtadfohbogoocgaaPAx
import Derived.Test.YtadfohbogoocgaaVb
namespace Go.Proofs.YtadfohbogoocgaaNumPA
open Go.RowKit Go.Proofs.YtadfohbogoocgaaW.PrintWords Go.Proofs.YtadfohbogoocgaaW.PrintLast Go.Proofs.YtadfohbogoocgaaW.PrintMore Go.Proofs.YtadfohbogoocgaaVb Go.Proofs.Ytadfohbogoocgaa.PA
set_option linter.unusedVariables false
set_option linter.unusedSimpArgs false
theorem Ev.cong {α : Type} {g : Nat → Option α} {r r' : α} (h : Ev g r) (e : r = r') : Ev g r' := e ▸ h
theorem Ev.some_of {α : Type} {o : Option α} {r : α} (h : o = some r) : Ev (fun _ => o) r := ⟨0, fun _ _ => h⟩
theorem Ev.call {α β : Type} {g : Nat → Option α} {f : Nat → α → Option β} {a : α} {r : β} (h : Ev g a) (k : Ev (fun n => f n a) r) : Ev (fun n => (g n).bind (f n)) r := Ev.bind h k
theorem za8 (n : Nat) : n < 9223372036854775808 → ∀ xs : List Int, xs.length + (vb n).length < 140737488355328 → Ev (fun k => vr.l0 k (n : Int) xs) (strOfNums (xs ++ vb n)) := by
  induction n using Nat.strongRecOn with
  | _ n ih =>
    intro hn xs hx
    by_cases h : n < 128
    · rw [z0a h] at hx ⊢
      simp only [List.length_singleton] at hx
      refine Ev.step (f := fun _ => some (strOfNums (xs ++ [(n : Int)]))) (fun k => ?_) (Ev.now _)
      simp only [vr.l0]
      rw [if_neg (by omega), if_pos (by omega), Int.emod_eq_of_lt (by omega) (by omega)]
    · rw [z3a h] at hx ⊢
      simp only [List.length_cons] at hx
      have h2 := ih (n / 128) (by omega) (by omega) (xs ++ [((n % 128 + 128 : Nat) : Int)]) (by simp only [List.length_append, List.length_singleton]; omega)
      rw [List.append_assoc, List.singleton_append] at h2
      refine Ev.step (fun k => ?_) h2
      simp only [vr.l0]
      have e1 : wrap64 (Int.tdiv (n : Int) 128) = ((n / 128 : Nat) : Int) := by
        rw [Int.tdiv_eq_ediv_of_nonneg (by omega), w64 (by omega) (by omega)]; omega
      have e2 : (wrap64 ((Int.tmod (n : Int) 128) + 128)) % 256 = ((n % 128 + 128 : Nat) : Int) := by
        rw [Int.tmod_eq_emod_of_nonneg (by omega), w64 (by omega) (by omega)]; omega
      rw [if_pos (by omega), if_pos (by omega), e1, e2]
theorem z6u (n : Nat) (hn : n < 9223372036854775808) : Ev (fun k => vr.f k (n : Int)) (strOfNums (vb n)) := by
  have := za8 n hn [] (by have := z7t n hn; simp only [List.length_nil]; omega)
  exact this
theorem zbe (n : Int) : jc.f n = some (decide (0 ≤ n ∧ n ≤ 268435456)) := by
  unfold jc.f
  by_cases h : n ≥ 0
  · rw [if_pos h]; congr 1; simp only [decide_eq_decide]; omega
  · rw [if_neg h]; congr 1; symm; rw [decide_eq_false_iff_not]; omega
def takeR (l : List Int) : Int × ByteArray × Int := match pk l with
  | some (m, r) => (m, strOfNums r, 0)
  | none => (0, ⟨#[]⟩, 7)
theorem mn5 (n : Nat) : mn (n : Int) 5 = ((min n 5 : Nat) : Int) := by unfold mn; split <;> omega
theorem z7g {x b : Int} {i : Nat} (hx1 : x < 128 ^ i) (hb : 128 ≤ b ∧ b ≤ 255) : x + (b - 128) * 128 ^ i < 128 ^ (i + 1) := by
  have h1 : (b - 128) * 128 ^ i ≤ 127 * 128 ^ i := Int.mul_le_mul_of_nonneg_right (by omega) (Int.pow_nonneg (by decide))
  rw [Int.pow_succ]
  omega
set_option maxHeartbeats 1000000 in
theorem zbf (s : ByteArray) (hs : s.size < 9223372036854775807) : ∀ (j i : Nat) (x : Int), i + j = 5 → 0 ≤ x → x < 128 ^ i →
    Ev (fun k => vl.l0 k s x (mn (s.size : Int) 5) (i : Int)) (match tk i x ((bytesOf s).drop i) with | some (m, r) => (m, strOfNums r, 0) | none => (0, ⟨#[]⟩, 7)) := by
  intro j
  induction j with
  | zero =>
    intro i x hi hx hx1
    obtain rfl : i = 5 := by omega
    refine Ev.step (f := fun _ => some (0, ⟨#[]⟩, 7)) (fun k => ?_) ?_
    · simp only [vl.l0]
      rw [if_neg (by rw [mn5]; omega)]
    · refine Ev.cong (Ev.now _) ?_
      cases (bytesOf s).drop 5 with
      | nil => rfl
      | cons b r => simp [tk]
  | succ j ih =>
    intro i x hi hx hx1
    by_cases hl : i < s.size
    · obtain ⟨b, hd, hbt, hb⟩ := zcu s i hl
      have ⟨hb0, hb1⟩ := hb
      have hy := zcv hx hx1 (by omega) hb
      rw [hd]
      simp only [tk]
      rw [if_neg (show ¬ 5 ≤ i by omega)]
      have hw : wrap64 ((i : Int) + 1) = ((i + 1 : Nat) : Int) := by rw [w64 (by omega) (by omega)]; rfl
      have hw7 : wrap64 (7 * (i : Int)) = 7 * (i : Int) := w64 (by omega) (by omega)
      have hlt : (i : Int) < mn (s.size : Int) 5 := by rw [mn5]; omega
      have hp : (0 : Int) ≤ 128 ^ i := Int.pow_nonneg (by decide)
      have hnn : 0 ≤ x + b % 128 * 128 ^ i := by
        have : 0 ≤ b % 128 * 128 ^ i := Int.mul_nonneg (by omega) hp
        omega
      by_cases hb128 : b ≥ 128
      · rw [if_pos hb128]
        have e : b % 128 = b - 128 := by omega
        rw [e] at hy
        have h2 := ih (i + 1) (x + (b - 128) * 128 ^ i) (by omega) (by rw [e] at hnn; exact hnn) (z7g hx1 ⟨hb128, hb1⟩)
        refine Ev.step (fun k => ?_) h2
        simp only [vl.l0, hbt]
        rw [if_pos hlt, if_pos (by omega), if_pos (by omega), if_pos (by rw [hw7]; omega), if_pos hb128, hy, hw]
      · rw [if_neg hb128]
        have e : b % 128 = b := by omega
        rw [e] at hy hnn
        refine Ev.step (f := fun _ => some (match (if x + b * 128 ^ i > 268435456 ∨ 0 < i ∧ b = 0 then none else some (x + b * 128 ^ i, (bytesOf s).drop (i + 1)) : Option (Int × List Int)) with | some (m, r) => (m, strOfNums r, 0) | none => (0, ⟨#[]⟩, 7))) (fun k => ?_) (Ev.now _)
        simp only [vl.l0, hbt]
        rw [if_pos hlt, if_pos (by omega), if_pos (by omega), if_pos (by rw [hw7]; omega), if_neg hb128, hy, hw, zbe]
        simp only [Option.bind_some]
        have h0 : (0 : Int) ≤ ((i + 1 : Nat) : Int) := by omega
        have h1 : ((i + 1 : Nat) : Int) ≤ (s.size : Int) := by omega
        have hex : s.extract (((i + 1 : Nat) : Int) : Int).toNat s.size = strOfNums ((bytesOf s).drop (i + 1)) := by
          rw [Int.toNat_natCast]; exact z3s s (i + 1)
        simp only [if_pos h0, if_pos h1, hex]
        by_cases h7 : x + b * 128 ^ i > 268435456
        · rw [if_neg (c := (decide (0 ≤ x + b * 128 ^ i ∧ x + b * 128 ^ i ≤ 268435456) = true)) (by simp; omega), if_pos (.inl h7)]
        · rw [if_pos (c := (decide (0 ≤ x + b * 128 ^ i ∧ x + b * 128 ^ i ≤ 268435456) = true)) (by simp; omega)]
          by_cases hi0 : (i : Int) > 0
          · rw [if_pos hi0]
            by_cases hz : b = 0
            · rw [if_pos hz, if_pos (.inr ⟨by omega, hz⟩)]
            · rw [if_neg hz, if_neg (by rintro (h | h); exact h7 h; exact hz h.2)]
          · rw [if_neg hi0, if_neg (by rintro (h | h); exact h7 h; omega)]
    · have hd : (bytesOf s).drop i = [] := List.drop_eq_nil_of_le (by rw [gu]; omega)
      rw [hd]
      refine Ev.step (f := fun _ => some (0, ⟨#[]⟩, 7)) (fun k => ?_) (Ev.now _)
      simp only [vl.l0]
      rw [if_neg (by rw [mn5]; omega)]
theorem z7u (s : ByteArray) (hs : s.size < 9223372036854775807) : Ev (fun k => vl.f k s) (takeR (bytesOf s)) := by
  have := zbf s hs 5 0 0 (by omega) (by omega) (by simp)
  rw [List.drop_zero, ze9 _ (z08 s)] at this
  exact this
theorem zbg (s : ByteArray) (hs : s.size < 140737488355328) : Ev (fun k => uz.f k s) (strOfNums (vb s.size) ++ s) := by
  unfold uz.f
  refine Ev.bind (z6u s.size (by omega)) ?_
  refine Ev.some_of ?_
  rw [if_pos (by rw [strOfNums_size]; have := z7t s.size (by omega); omega)]
def takeTextR (l : List Int) : ByteArray × ByteArray × Int := match pk l with
  | some (m, r) => if m > r.length then (⟨#[]⟩, ⟨#[]⟩, 7) else (strOfNums (r.take m.toNat), strOfNums (r.drop m.toNat), 0)
  | none => (⟨#[]⟩, ⟨#[]⟩, 7)
theorem z7h (s : ByteArray) (hs : s.size < 9223372036854775807) : Ev (fun k => j4.f k s) (takeTextR (bytesOf s)) := by
  unfold j4.f
  refine Ev.bind (z7u s hs) (Ev.some_of ?_)
  unfold takeR takeTextR
  cases hp : pk (bytesOf s) with
  | none => simp
  | some y =>
    obtain ⟨m, r⟩ := y
    obtain ⟨h0, h1, h2, h3⟩ := z2d (z08 s) hp
    simp only [if_true, strOfNums_size]
    by_cases h : m > (r.length : Int)
    · rw [if_pos h, if_pos h]
    · rw [if_neg h, if_neg h, if_pos h0, if_pos (by omega)]
      have e1 := z8d (strOfNums r) m.toNat
      have e2 := z3s (strOfNums r) m.toNat
      rw [z0r h3] at e1 e2
      rw [strOfNums_size] at e2
      rw [e1, e2]
theorem Ev.succ {α : Type} {g : Nat → Option α} {r : α} (h : Ev (fun k => g (k + 1)) r) : Ev g r := Ev.step (fun _ => rfl) h
theorem Ev.ite {α : Type} {c : Prop} [Decidable c] {g f : Nat → Option α} {r : α} (hc : c) (h : Ev g r) : Ev (fun k => if c then g k else f k) r := by simp only [if_pos hc]; exact h
theorem Ev.nite {α : Type} {c : Prop} [Decidable c] {g f : Nat → Option α} {r : α} (hc : ¬ c) (h : Ev f r) : Ev (fun k => if c then g k else f k) r := by simp only [if_neg hc]; exact h
theorem za9 {α : Type} (d : α) (l : List α) (i : Nat) (h : i < l.length) : rdOf d l (i : Int) ∈ l := by
  unfold rdOf
  rw [Int.toNat_natCast, List.getD_eq_getElem?_getD, List.getElem?_eq_getElem h]
  exact List.getElem_mem h
theorem wstep (i n : Nat) (h : i < n) (hn : n < 9223372036854775807) : wrap64 ((i : Int) + 1) = ((i + 1 : Nat) : Int) := by rw [w64 (by omega) (by omega)]; omega
theorem zaa (l : List ByteArray) (hl : l.length * 16 ≤ 140737488351232) (hs : ∀ x ∈ l, x.size ≤ 140737488351232) : ∃ v, Ev (fun k => yl.f k l) v ∧ (v ≤ 3000 → l.length ≤ 3000 ∧ ∀ x ∈ l, x.size ≤ 3000) := by
  have key : ∀ (d i : Nat) (x : Int), i + d = l.length → 0 ≤ x → x ≤ 281474976710656 → ∃ v, Ev (fun k => yl.l0 k l x (i : Int)) v ∧ x ≤ v ∧ (v ≤ 3000 → ∀ j : Nat, i ≤ j → j < l.length → (rdOf ByteArray.empty l (j : Int)).size ≤ 3000) := by
    intro d
    induction d with
    | zero =>
      intro i x hi hx hx1
      refine ⟨x, Ev.succ ?_, Int.le_refl _, fun _ j h1 h2 => by omega⟩
      simp only [yl.l0]
      exact Ev.nite (by omega) (Ev.now _)
    | succ d ih =>
      intro i x hi hx hx1
      by_cases h : x < 1048576
      · have hm := hs _ (za9 ByteArray.empty l i (by omega))
        obtain ⟨v, hv, hle, hb⟩ := ih (i + 1) (x + ((rdOf ByteArray.empty l (i : Int)).size : Int)) (by omega) (by omega) (by omega)
        refine ⟨v, Ev.succ ?_, by omega, fun h3 j h1 h2 => ?_⟩
        · simp only [yl.l0]
          refine Ev.ite (by omega) (Ev.ite h (Ev.ite (by omega) ?_))
          rw [wstep i l.length (by omega) (by omega), w64 (by omega) (by omega)]
          exact hv
        · rcases Nat.eq_or_lt_of_le h1 with rfl | h1
          · omega
          · exact hb h3 j h1 h2
      · refine ⟨x, Ev.succ ?_, Int.le_refl _, fun h3 => by omega⟩
        simp only [yl.l0]
        exact Ev.ite (by omega) (Ev.nite h (Ev.now _))
  obtain ⟨v, hv, hle, hb⟩ := key l.length 0 (l.length : Int) (by omega) (by omega) (by omega)
  refine ⟨v, hv, fun h => ⟨by omega, fun x hx => ?_⟩⟩
  obtain ⟨j, hj, rfl⟩ := List.getElem_of_mem hx
  have := hb h j (by omega) hj
  unfold rdOf at this
  rw [Int.toNat_natCast, List.getD_eq_getElem?_getD, List.getElem?_eq_getElem hj] at this
  exact this
end Go.Proofs.YtadfohbogoocgaaNumPA
