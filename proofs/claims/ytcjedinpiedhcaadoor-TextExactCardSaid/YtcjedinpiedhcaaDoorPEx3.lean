-- Written by a program of this proof's author (wip/myprint.py, over the translation): group E.
import Derived.Test.YtcjedinpiedhcaaDoorPEx0
import Derived.Test.YtcjedinpiedhcaaDoorPEx1
import Derived.Test.YtcjedinpiedhcaaDoorPEx2
namespace Go.Proofs.YtcjedinpiedhcaaDoor.PE
open Go.RowKit Go.Proofs.YtcjedinpiedhcaaDoorW.PrintWords Go.Proofs.YtcjedinpiedhcaaDoorW.PrintLast Go.Proofs.YtcjedinpiedhcaaDoorW.PrintMore Go.Proofs.YtcjedinpiedhcaaDoorX Go.Proofs.YtcjedinpiedhcaaDoorPq
attribute [local go_sem] max2_int min2_int max_two min_two max_three min_three max_four min_four   -- for this text's walks alone
set_option linter.unusedVariables false
set_option linter.unusedSimpArgs false

/-! ### lectionarylaw3_TextExact: function 4 -/
mutual
def lectionarylaw3_TextExact.l0 : Nat → List ByteArray → Int → List ByteArray → List Int → List Int → Option (Bool)
  | 0, _, _, _, _, _ => none
  | k + 1, x3, x4, x144000, x144001, x144002 => if x4 < (x3.length : Int) then (lectionarylaw3_TextExact.j1 k x3 x4 (decide (x4 < 16)) x144000 x144001 x144002) else (lectionarylaw3_TextExact.j1 k x3 x4 false x144000 x144001 x144002)
def lectionarylaw3_TextExact.j1 : Nat → List ByteArray → Int → Bool → List ByteArray → List Int → List Int → Option (Bool)
  | 0, _, _, _, _, _, _ => none
  | k + 1, x3, x4, x39, x144000, x144001, x144002 => if x39 = true then (if 0 ≤ x4 then (if x4 < (x3.length : Int) then ((text_Runes.f (rdOf ByteArray.empty x3 x4)).bind fun bt152 => ((text_Len.f (rdOf ByteArray.empty x3 x4)).bind fun bt157 => ((lectionaryref1_Runes.f k (rdOf ByteArray.empty x3 x4)).bind fun bt160 => (if bt160.2 = true then (lectionarylaw3_TextExact.j2 k x3 x4 bt152.1 bt152.2 bt157.1 bt157.2 bt160.1 bt160.2 0 x144000 x144001 x144002) else (lectionarylaw3_TextExact.j2 k x3 x4 bt152.1 bt152.2 bt157.1 bt157.2 ([] : List Int) bt160.2 1 x144000 x144001 x144002))))) else (none)) else (none)) else ((some (([0, 9, 10, 31, 32, 126, 127, 128, 55295, 55296, 57343, 57344, 65532, 65533, 65534, 1114111, 1114112, (-1)] : List Int) : List Int)).bind fun y193 => (if y193.length + x144001.length < 35184372088832 then (lectionarylaw3_TextExact.l3 k (y193 ++ x144001) 0) else (none)))
def lectionarylaw3_TextExact.j2 : Nat → List ByteArray → Int → List Int → Int → Int → Int → List Int → Bool → Int → List ByteArray → List Int → List Int → Option (Bool)
  | 0, _, _, _, _, _, _, _, _, _, _, _, _ => none
  | k + 1, x3, x4, x5, x6, x7, x8, x9, x10, x11, x144000, x144001, x144002 => if 0 ≤ x4 then (if x4 < (x3.length : Int) then ((text_Check.f (rdOf ByteArray.empty x3 x4)).bind fun t165 => ((lectionarylaw3_num.f t165).bind fun t166 => (if t166 = x11 then ((lectionarylaw3_num.f x6).bind fun t167 => (if t167 = x11 then ((lectionaryref0_EqRunes.f k x5 x9).bind fun t168 => (if t168 = true then ((lectionarylaw3_num.f x8).bind fun t169 => (if t169 = x11 then (lectionarylaw3_TextExact.j3 k x3 x4 x9 x10 x11 (x7 != (x9.length : Int)) x144000 x144001 x144002) else (lectionarylaw3_TextExact.j3 k x3 x4 x9 x10 x11 true x144000 x144001 x144002))) else (lectionarylaw3_TextExact.j3 k x3 x4 x9 x10 x11 true x144000 x144001 x144002))) else (lectionarylaw3_TextExact.j3 k x3 x4 x9 x10 x11 true x144000 x144001 x144002))) else (lectionarylaw3_TextExact.j3 k x3 x4 x9 x10 x11 true x144000 x144001 x144002)))) else (none)) else (none)
def lectionarylaw3_TextExact.j3 : Nat → List ByteArray → Int → List Int → Bool → Int → Bool → List ByteArray → List Int → List Int → Option (Bool)
  | 0, _, _, _, _, _, _, _, _, _ => none
  | k + 1, x3, x4, x9, x10, x11, x99, x144000, x144001, x144002 => if x99 = true then (none) else ((some (([0, 1, (x9.length : Int), wrap64 ((x9.length : Int) + 1), (-1)] : List Int) : List Int)).bind fun y170 => (if y170.length + x144002.length < 17592186044416 then (lectionarylaw3_TextExact.l1 k x3 x4 x9 x10 x11 (y170 ++ x144002) 0 x144000 x144001 x144002) else (none)))
def lectionarylaw3_TextExact.l1 : Nat → List ByteArray → Int → List Int → Bool → Int → List Int → Int → List ByteArray → List Int → List Int → Option (Bool)
  | 0, _, _, _, _, _, _, _, _, _, _ => none
  | k + 1, x3, x4, x9, x10, x11, x12, x13, x144000, x144001, x144002 => if x13 < (x12.length : Int) then (lectionarylaw3_TextExact.j5 k x3 x4 x9 x10 x11 x12 x13 (decide (x13 < 8)) x144000 x144001 x144002) else (lectionarylaw3_TextExact.j5 k x3 x4 x9 x10 x11 x12 x13 false x144000 x144001 x144002)
def lectionarylaw3_TextExact.j5 : Nat → List ByteArray → Int → List Int → Bool → Int → List Int → Int → Bool → List ByteArray → List Int → List Int → Option (Bool)
  | 0, _, _, _, _, _, _, _, _, _, _, _ => none
  | k + 1, x3, x4, x9, x10, x11, x12, x13, x116, x144000, x144001, x144002 => if x116 = true then (lectionarylaw3_TextExact.l2 k x3 x4 x9 x10 x11 x12 x13 0 x144000 x144001 x144002) else (lectionarylaw3_TextExact.l0 k x3 (wrap64 (x4 + 1)) x144000 x144001 x144002)
def lectionarylaw3_TextExact.l2 : Nat → List ByteArray → Int → List Int → Bool → Int → List Int → Int → Int → List ByteArray → List Int → List Int → Option (Bool)
  | 0, _, _, _, _, _, _, _, _, _, _, _ => none
  | k + 1, x3, x4, x9, x10, x11, x12, x13, x14, x144000, x144001, x144002 => if x14 < (x12.length : Int) then (lectionarylaw3_TextExact.j7 k x3 x4 x9 x10 x11 x12 x13 x14 (decide (x14 < 8)) x144000 x144001 x144002) else (lectionarylaw3_TextExact.j7 k x3 x4 x9 x10 x11 x12 x13 x14 false x144000 x144001 x144002)
def lectionarylaw3_TextExact.j7 : Nat → List ByteArray → Int → List Int → Bool → Int → List Int → Int → Int → Bool → List ByteArray → List Int → List Int → Option (Bool)
  | 0, _, _, _, _, _, _, _, _, _, _, _, _ => none
  | k + 1, x3, x4, x9, x10, x11, x12, x13, x14, x126, x144000, x144001, x144002 => if x126 = true then (if 0 ≤ x4 then (if x4 < (x3.length : Int) then (if 0 ≤ x13 then (if x13 < (x12.length : Int) then (if 0 ≤ x14 then (if x14 < (x12.length : Int) then ((text_Cut.f (rdOf ByteArray.empty x3 x4) (rd x12 x13) (rd x12 x14)).bind fun bt179 => (if x10 = true then (if (rd x12 x13) ≥ 0 then (if (rd x12 x13) ≤ (rd x12 x14) then (lectionarylaw3_TextExact.j8 k x3 x4 x9 x10 x11 x12 x13 x14 bt179.1 bt179.2 2 (⟨#[]⟩ : ByteArray) (decide ((rd x12 x14) ≤ (x9.length : Int))) x144000 x144001 x144002) else (lectionarylaw3_TextExact.j8 k x3 x4 x9 x10 x11 x12 x13 x14 bt179.1 bt179.2 2 (⟨#[]⟩ : ByteArray) false x144000 x144001 x144002)) else (lectionarylaw3_TextExact.j8 k x3 x4 x9 x10 x11 x12 x13 x14 bt179.1 bt179.2 2 (⟨#[]⟩ : ByteArray) false x144000 x144001 x144002)) else (lectionarylaw3_TextExact.j9 k x3 x4 x9 x10 x11 x12 x13 x14 bt179.1 bt179.2 x11 (⟨#[]⟩ : ByteArray) x144000 x144001 x144002))) else (none)) else (none)) else (none)) else (none)) else (none)) else (none)) else (lectionarylaw3_TextExact.l1 k x3 x4 x9 x10 x11 x12 (wrap64 (x13 + 1)) x144000 x144001 x144002)
def lectionarylaw3_TextExact.j9 : Nat → List ByteArray → Int → List Int → Bool → Int → List Int → Int → Int → ByteArray → Int → Int → ByteArray → List ByteArray → List Int → List Int → Option (Bool)
  | 0, _, _, _, _, _, _, _, _, _, _, _, _, _, _, _ => none
  | k + 1, x3, x4, x9, x10, x11, x12, x13, x14, x15, x16, x17, x18, x144000, x144001, x144002 => (lectionarylaw3_num.f x16).bind fun t192 => (if t192 = x17 then (if x15.toList = x18.toList then (lectionarylaw3_TextExact.l2 k x3 x4 x9 x10 x11 x12 x13 (wrap64 (x14 + 1)) x144000 x144001 x144002) else (none)) else (none))
def lectionarylaw3_TextExact.j8 : Nat → List ByteArray → Int → List Int → Bool → Int → List Int → Int → Int → ByteArray → Int → Int → ByteArray → Bool → List ByteArray → List Int → List Int → Option (Bool)
  | 0, _, _, _, _, _, _, _, _, _, _, _, _, _, _, _, _ => none
  | k + 1, x3, x4, x9, x10, x11, x12, x13, x14, x15, x16, x17, x18, x171, x144000, x144001, x144002 => if x171 = true then (if 0 ≤ x13 then (if x13 < (x12.length : Int) then (if 0 ≤ x14 then (if x14 < (x12.length : Int) then (if 0 ≤ (rd x12 x13) then (if (rd x12 x13) ≤ (rd x12 x14) then (if (rd x12 x14) ≤ (x9.length : Int) then ((lectionaryref1_Make.f k ((x9.take ((rd x12 x14) : Int).toNat).drop ((rd x12 x13) : Int).toNat)).bind fun t191 => (lectionarylaw3_TextExact.j9 k x3 x4 x9 x10 x11 x12 x13 x14 x15 x16 0 t191 x144000 x144001 x144002)) else (none)) else (none)) else (none)) else (none)) else (none)) else (none)) else (none)) else (lectionarylaw3_TextExact.j9 k x3 x4 x9 x10 x11 x12 x13 x14 x15 x16 x17 x18 x144000 x144001 x144002)
def lectionarylaw3_TextExact.l3 : Nat → List Int → Int → Option (Bool)
  | 0, _, _ => none
  | k + 1, x19, x20 => if x20 < (x19.length : Int) then (lectionarylaw3_TextExact.j11 k x19 x20 (decide (x20 < 40))) else (lectionarylaw3_TextExact.j11 k x19 x20 false)
def lectionarylaw3_TextExact.j11 : Nat → List Int → Int → Bool → Option (Bool)
  | 0, _, _, _ => none
  | k + 1, x19, x20, x203 => if x203 = true then (if 0 ≤ x20 then (if x20 < (x19.length : Int) then ((text_Rune.f (rd x19 x20)).bind fun t201 => ((lectionarylaw3_num.f t201).bind fun t202 => ((lectionaryref1_Rune.f (rd x19 x20)).bind fun t204 => (if ((t202 == 0) != t204) = true then (none) else (if (x19.length : Int) = 0 then (none) else (if 0 ≤ (Int.tmod (wrap64 (x20 + 1)) (x19.length : Int)) then (if (Int.tmod (wrap64 (x20 + 1)) (x19.length : Int)) < (x19.length : Int) then ((text_Make.f (([rd x19 x20, 97, rd x19 (Int.tmod (wrap64 (x20 + 1)) (x19.length : Int))] : List Int))).bind fun bt210 => ((some (([rd x19 x20, 97, rd x19 (Int.tmod (wrap64 (x20 + 1)) (x19.length : Int))] : List Int) : List Int)).bind fun y214 => ((lectionaryref1_All.f k y214).bind fun t217 => (if t217 = true then ((lectionaryref1_Make.f k y214).bind fun t218 => (lectionarylaw3_TextExact.j12 k x19 x20 bt210.1 bt210.2 0 t218)) else (lectionarylaw3_TextExact.j12 k x19 x20 bt210.1 bt210.2 1 (⟨#[]⟩ : ByteArray)))))) else (none)) else (none))))))) else (none)) else (none)) else ((lectionarylaw3_wakes.f).bind fun t199 => (some t199))
def lectionarylaw3_TextExact.j12 : Nat → List Int → Int → ByteArray → Int → Int → ByteArray → Option (Bool)
  | 0, _, _, _, _, _, _ => none
  | k + 1, x19, x20, x21, x22, x23, x24 => (lectionarylaw3_num.f x22).bind fun t219 => (if t219 = x23 then (if x21.toList = x24.toList then (lectionarylaw3_TextExact.l3 k x19 (wrap64 (x20 + 1))) else (none)) else (none))
end
def lectionarylaw3_TextExact.f (k : Nat) (l0_0 : List ByteArray) (l0_1 : List Int) (l0_2 : List Int) : Option (Bool) := (lectionarylaw3_Heavy.f k l0_0 l0_1 l0_2).bind fun t144 => (if t144 = true then (some true) else ((some (([(⟨#[]⟩ : ByteArray), (⟨#[97, 10, 98]⟩ : ByteArray), (⟨#[128]⟩ : ByteArray), (⟨#[127]⟩ : ByteArray), (⟨#[239, 191, 189]⟩ : ByteArray), (⟨#[237, 160, 128]⟩ : ByteArray), (⟨#[195, 169, 230, 151, 165, 240, 159, 152, 128]⟩ : ByteArray), (⟨#[97, 0]⟩ : ByteArray)] : List ByteArray) : List ByteArray)).bind fun y145 => (if y145.length + l0_0.length < 8796093022208 then (lectionarylaw3_TextExact.l0 k (y145 ++ l0_0) 0 l0_0 l0_1 l0_2) else (none))))
theorem lectionarylaw3_TextExact.mono_l : ∀ k, (∀ y0 y1 y2 y3 y4, LeO (lectionarylaw3_TextExact.l0 k y0 y1 y2 y3 y4) (lectionarylaw3_TextExact.l0 (k + 1) y0 y1 y2 y3 y4)) ∧ (∀ y0 y1 y2 y3 y4 y5, LeO (lectionarylaw3_TextExact.j1 k y0 y1 y2 y3 y4 y5) (lectionarylaw3_TextExact.j1 (k + 1) y0 y1 y2 y3 y4 y5)) ∧ (∀ y0 y1 y2 y3 y4 y5 y6 y7 y8 y9 y10 y11, LeO (lectionarylaw3_TextExact.j2 k y0 y1 y2 y3 y4 y5 y6 y7 y8 y9 y10 y11) (lectionarylaw3_TextExact.j2 (k + 1) y0 y1 y2 y3 y4 y5 y6 y7 y8 y9 y10 y11)) ∧ (∀ y0 y1 y2 y3 y4 y5 y6 y7 y8, LeO (lectionarylaw3_TextExact.j3 k y0 y1 y2 y3 y4 y5 y6 y7 y8) (lectionarylaw3_TextExact.j3 (k + 1) y0 y1 y2 y3 y4 y5 y6 y7 y8)) ∧ (∀ y0 y1 y2 y3 y4 y5 y6 y7 y8 y9, LeO (lectionarylaw3_TextExact.l1 k y0 y1 y2 y3 y4 y5 y6 y7 y8 y9) (lectionarylaw3_TextExact.l1 (k + 1) y0 y1 y2 y3 y4 y5 y6 y7 y8 y9)) ∧ (∀ y0 y1 y2 y3 y4 y5 y6 y7 y8 y9 y10, LeO (lectionarylaw3_TextExact.j5 k y0 y1 y2 y3 y4 y5 y6 y7 y8 y9 y10) (lectionarylaw3_TextExact.j5 (k + 1) y0 y1 y2 y3 y4 y5 y6 y7 y8 y9 y10)) ∧ (∀ y0 y1 y2 y3 y4 y5 y6 y7 y8 y9 y10, LeO (lectionarylaw3_TextExact.l2 k y0 y1 y2 y3 y4 y5 y6 y7 y8 y9 y10) (lectionarylaw3_TextExact.l2 (k + 1) y0 y1 y2 y3 y4 y5 y6 y7 y8 y9 y10)) ∧ (∀ y0 y1 y2 y3 y4 y5 y6 y7 y8 y9 y10 y11, LeO (lectionarylaw3_TextExact.j7 k y0 y1 y2 y3 y4 y5 y6 y7 y8 y9 y10 y11) (lectionarylaw3_TextExact.j7 (k + 1) y0 y1 y2 y3 y4 y5 y6 y7 y8 y9 y10 y11)) ∧ (∀ y0 y1 y2 y3 y4 y5 y6 y7 y8 y9 y10 y11 y12 y13 y14, LeO (lectionarylaw3_TextExact.j9 k y0 y1 y2 y3 y4 y5 y6 y7 y8 y9 y10 y11 y12 y13 y14) (lectionarylaw3_TextExact.j9 (k + 1) y0 y1 y2 y3 y4 y5 y6 y7 y8 y9 y10 y11 y12 y13 y14)) ∧ (∀ y0 y1 y2 y3 y4 y5 y6 y7 y8 y9 y10 y11 y12 y13 y14 y15, LeO (lectionarylaw3_TextExact.j8 k y0 y1 y2 y3 y4 y5 y6 y7 y8 y9 y10 y11 y12 y13 y14 y15) (lectionarylaw3_TextExact.j8 (k + 1) y0 y1 y2 y3 y4 y5 y6 y7 y8 y9 y10 y11 y12 y13 y14 y15)) ∧ (∀ y0 y1, LeO (lectionarylaw3_TextExact.l3 k y0 y1) (lectionarylaw3_TextExact.l3 (k + 1) y0 y1)) ∧ (∀ y0 y1 y2, LeO (lectionarylaw3_TextExact.j11 k y0 y1 y2) (lectionarylaw3_TextExact.j11 (k + 1) y0 y1 y2)) ∧ (∀ y0 y1 y2 y3 y4 y5, LeO (lectionarylaw3_TextExact.j12 k y0 y1 y2 y3 y4 y5) (lectionarylaw3_TextExact.j12 (k + 1) y0 y1 y2 y3 y4 y5))
  | 0 => ⟨fun _ _ _ _ _ r h => by simp [lectionarylaw3_TextExact.l0] at h, fun _ _ _ _ _ _ r h => by simp [lectionarylaw3_TextExact.j1] at h, fun _ _ _ _ _ _ _ _ _ _ _ _ r h => by simp [lectionarylaw3_TextExact.j2] at h, fun _ _ _ _ _ _ _ _ _ r h => by simp [lectionarylaw3_TextExact.j3] at h, fun _ _ _ _ _ _ _ _ _ _ r h => by simp [lectionarylaw3_TextExact.l1] at h, fun _ _ _ _ _ _ _ _ _ _ _ r h => by simp [lectionarylaw3_TextExact.j5] at h, fun _ _ _ _ _ _ _ _ _ _ _ r h => by simp [lectionarylaw3_TextExact.l2] at h, fun _ _ _ _ _ _ _ _ _ _ _ _ r h => by simp [lectionarylaw3_TextExact.j7] at h, fun _ _ _ _ _ _ _ _ _ _ _ _ _ _ _ r h => by simp [lectionarylaw3_TextExact.j9] at h, fun _ _ _ _ _ _ _ _ _ _ _ _ _ _ _ _ r h => by simp [lectionarylaw3_TextExact.j8] at h, fun _ _ r h => by simp [lectionarylaw3_TextExact.l3] at h, fun _ _ _ r h => by simp [lectionarylaw3_TextExact.j11] at h, fun _ _ _ _ _ _ r h => by simp [lectionarylaw3_TextExact.j12] at h⟩
  | k + 1 => by
    obtain ⟨ih0, ih1, ih2, ih3, ih4, ih5, ih6, ih7, ih8, ih9, ih10, ih11, ih12⟩ := lectionarylaw3_TextExact.mono_l k
    refine ⟨?_, ?_, ?_, ?_, ?_, ?_, ?_, ?_, ?_, ?_, ?_, ?_, ?_⟩
    · intro y0 y1 y2 y3 y4
      unfold lectionarylaw3_TextExact.l0
      repeat' first
      | (with_reducible exact ih0 _ _ _ _ _)
      | (with_reducible exact ih1 _ _ _ _ _ _)
      | (with_reducible exact ih2 _ _ _ _ _ _ _ _ _ _ _ _)
      | (with_reducible exact ih3 _ _ _ _ _ _ _ _ _)
      | (with_reducible exact ih4 _ _ _ _ _ _ _ _ _ _)
      | (with_reducible exact ih5 _ _ _ _ _ _ _ _ _ _ _)
      | (with_reducible exact ih6 _ _ _ _ _ _ _ _ _ _ _)
      | (with_reducible exact ih7 _ _ _ _ _ _ _ _ _ _ _ _)
      | (with_reducible exact ih8 _ _ _ _ _ _ _ _ _ _ _ _ _ _ _)
      | (with_reducible exact ih9 _ _ _ _ _ _ _ _ _ _ _ _ _ _ _ _)
      | (with_reducible exact ih10 _ _)
      | (with_reducible exact ih11 _ _ _)
      | (with_reducible exact ih12 _ _ _ _ _ _)
      | (with_reducible exact lectionarylaw3_Heavy.mono _ _ _ _)
      | (with_reducible exact lectionaryref0_EqRunes.mono _ _ _)
      | (with_reducible exact lectionaryref1_All.mono _ _)
      | (with_reducible exact lectionaryref1_Make.mono _ _)
      | (with_reducible exact lectionaryref1_Runes.mono _ _)
      | (with_reducible exact LeO.refl _)
      | (with_reducible exact LeO.none _)
      | (with_reducible refine LeO.ite ?_ ?_)
      | (with_reducible refine LeO.bind ?_ (fun _ => ?_))
      | exact ih0 _ _ _ _ _
      | exact ih1 _ _ _ _ _ _
      | exact ih2 _ _ _ _ _ _ _ _ _ _ _ _
      | exact ih3 _ _ _ _ _ _ _ _ _
      | exact ih4 _ _ _ _ _ _ _ _ _ _
      | exact ih5 _ _ _ _ _ _ _ _ _ _ _
      | exact ih6 _ _ _ _ _ _ _ _ _ _ _
      | exact ih7 _ _ _ _ _ _ _ _ _ _ _ _
      | exact ih8 _ _ _ _ _ _ _ _ _ _ _ _ _ _ _
      | exact ih9 _ _ _ _ _ _ _ _ _ _ _ _ _ _ _ _
      | exact ih10 _ _
      | exact ih11 _ _ _
      | exact ih12 _ _ _ _ _ _
      | exact lectionarylaw3_Heavy.mono _ _ _ _
      | exact lectionaryref0_EqRunes.mono _ _ _
      | exact lectionaryref1_All.mono _ _
      | exact lectionaryref1_Make.mono _ _
      | exact lectionaryref1_Runes.mono _ _
      | exact LeO.none _
      | refine LeO.ite ?_ ?_
      | refine LeO.bind ?_ (fun _ => ?_)
    · intro y0 y1 y2 y3 y4 y5
      unfold lectionarylaw3_TextExact.j1
      repeat' first
      | (with_reducible exact ih0 _ _ _ _ _)
      | (with_reducible exact ih1 _ _ _ _ _ _)
      | (with_reducible exact ih2 _ _ _ _ _ _ _ _ _ _ _ _)
      | (with_reducible exact ih3 _ _ _ _ _ _ _ _ _)
      | (with_reducible exact ih4 _ _ _ _ _ _ _ _ _ _)
      | (with_reducible exact ih5 _ _ _ _ _ _ _ _ _ _ _)
      | (with_reducible exact ih6 _ _ _ _ _ _ _ _ _ _ _)
      | (with_reducible exact ih7 _ _ _ _ _ _ _ _ _ _ _ _)
      | (with_reducible exact ih8 _ _ _ _ _ _ _ _ _ _ _ _ _ _ _)
      | (with_reducible exact ih9 _ _ _ _ _ _ _ _ _ _ _ _ _ _ _ _)
      | (with_reducible exact ih10 _ _)
      | (with_reducible exact ih11 _ _ _)
      | (with_reducible exact ih12 _ _ _ _ _ _)
      | (with_reducible exact lectionarylaw3_Heavy.mono _ _ _ _)
      | (with_reducible exact lectionaryref0_EqRunes.mono _ _ _)
      | (with_reducible exact lectionaryref1_All.mono _ _)
      | (with_reducible exact lectionaryref1_Make.mono _ _)
      | (with_reducible exact lectionaryref1_Runes.mono _ _)
      | (with_reducible exact LeO.refl _)
      | (with_reducible exact LeO.none _)
      | (with_reducible refine LeO.ite ?_ ?_)
      | (with_reducible refine LeO.bind ?_ (fun _ => ?_))
      | exact ih0 _ _ _ _ _
      | exact ih1 _ _ _ _ _ _
      | exact ih2 _ _ _ _ _ _ _ _ _ _ _ _
      | exact ih3 _ _ _ _ _ _ _ _ _
      | exact ih4 _ _ _ _ _ _ _ _ _ _
      | exact ih5 _ _ _ _ _ _ _ _ _ _ _
      | exact ih6 _ _ _ _ _ _ _ _ _ _ _
      | exact ih7 _ _ _ _ _ _ _ _ _ _ _ _
      | exact ih8 _ _ _ _ _ _ _ _ _ _ _ _ _ _ _
      | exact ih9 _ _ _ _ _ _ _ _ _ _ _ _ _ _ _ _
      | exact ih10 _ _
      | exact ih11 _ _ _
      | exact ih12 _ _ _ _ _ _
      | exact lectionarylaw3_Heavy.mono _ _ _ _
      | exact lectionaryref0_EqRunes.mono _ _ _
      | exact lectionaryref1_All.mono _ _
      | exact lectionaryref1_Make.mono _ _
      | exact lectionaryref1_Runes.mono _ _
      | exact LeO.none _
      | refine LeO.ite ?_ ?_
      | refine LeO.bind ?_ (fun _ => ?_)
    · intro y0 y1 y2 y3 y4 y5 y6 y7 y8 y9 y10 y11
      unfold lectionarylaw3_TextExact.j2
      repeat' first
      | (with_reducible exact ih0 _ _ _ _ _)
      | (with_reducible exact ih1 _ _ _ _ _ _)
      | (with_reducible exact ih2 _ _ _ _ _ _ _ _ _ _ _ _)
      | (with_reducible exact ih3 _ _ _ _ _ _ _ _ _)
      | (with_reducible exact ih4 _ _ _ _ _ _ _ _ _ _)
      | (with_reducible exact ih5 _ _ _ _ _ _ _ _ _ _ _)
      | (with_reducible exact ih6 _ _ _ _ _ _ _ _ _ _ _)
      | (with_reducible exact ih7 _ _ _ _ _ _ _ _ _ _ _ _)
      | (with_reducible exact ih8 _ _ _ _ _ _ _ _ _ _ _ _ _ _ _)
      | (with_reducible exact ih9 _ _ _ _ _ _ _ _ _ _ _ _ _ _ _ _)
      | (with_reducible exact ih10 _ _)
      | (with_reducible exact ih11 _ _ _)
      | (with_reducible exact ih12 _ _ _ _ _ _)
      | (with_reducible exact lectionarylaw3_Heavy.mono _ _ _ _)
      | (with_reducible exact lectionaryref0_EqRunes.mono _ _ _)
      | (with_reducible exact lectionaryref1_All.mono _ _)
      | (with_reducible exact lectionaryref1_Make.mono _ _)
      | (with_reducible exact lectionaryref1_Runes.mono _ _)
      | (with_reducible exact LeO.refl _)
      | (with_reducible exact LeO.none _)
      | (with_reducible refine LeO.ite ?_ ?_)
      | (with_reducible refine LeO.bind ?_ (fun _ => ?_))
      | exact ih0 _ _ _ _ _
      | exact ih1 _ _ _ _ _ _
      | exact ih2 _ _ _ _ _ _ _ _ _ _ _ _
      | exact ih3 _ _ _ _ _ _ _ _ _
      | exact ih4 _ _ _ _ _ _ _ _ _ _
      | exact ih5 _ _ _ _ _ _ _ _ _ _ _
      | exact ih6 _ _ _ _ _ _ _ _ _ _ _
      | exact ih7 _ _ _ _ _ _ _ _ _ _ _ _
      | exact ih8 _ _ _ _ _ _ _ _ _ _ _ _ _ _ _
      | exact ih9 _ _ _ _ _ _ _ _ _ _ _ _ _ _ _ _
      | exact ih10 _ _
      | exact ih11 _ _ _
      | exact ih12 _ _ _ _ _ _
      | exact lectionarylaw3_Heavy.mono _ _ _ _
      | exact lectionaryref0_EqRunes.mono _ _ _
      | exact lectionaryref1_All.mono _ _
      | exact lectionaryref1_Make.mono _ _
      | exact lectionaryref1_Runes.mono _ _
      | exact LeO.none _
      | refine LeO.ite ?_ ?_
      | refine LeO.bind ?_ (fun _ => ?_)
    · intro y0 y1 y2 y3 y4 y5 y6 y7 y8
      unfold lectionarylaw3_TextExact.j3
      repeat' first
      | (with_reducible exact ih0 _ _ _ _ _)
      | (with_reducible exact ih1 _ _ _ _ _ _)
      | (with_reducible exact ih2 _ _ _ _ _ _ _ _ _ _ _ _)
      | (with_reducible exact ih3 _ _ _ _ _ _ _ _ _)
      | (with_reducible exact ih4 _ _ _ _ _ _ _ _ _ _)
      | (with_reducible exact ih5 _ _ _ _ _ _ _ _ _ _ _)
      | (with_reducible exact ih6 _ _ _ _ _ _ _ _ _ _ _)
      | (with_reducible exact ih7 _ _ _ _ _ _ _ _ _ _ _ _)
      | (with_reducible exact ih8 _ _ _ _ _ _ _ _ _ _ _ _ _ _ _)
      | (with_reducible exact ih9 _ _ _ _ _ _ _ _ _ _ _ _ _ _ _ _)
      | (with_reducible exact ih10 _ _)
      | (with_reducible exact ih11 _ _ _)
      | (with_reducible exact ih12 _ _ _ _ _ _)
      | (with_reducible exact lectionarylaw3_Heavy.mono _ _ _ _)
      | (with_reducible exact lectionaryref0_EqRunes.mono _ _ _)
      | (with_reducible exact lectionaryref1_All.mono _ _)
      | (with_reducible exact lectionaryref1_Make.mono _ _)
      | (with_reducible exact lectionaryref1_Runes.mono _ _)
      | (with_reducible exact LeO.refl _)
      | (with_reducible exact LeO.none _)
      | (with_reducible refine LeO.ite ?_ ?_)
      | (with_reducible refine LeO.bind ?_ (fun _ => ?_))
      | exact ih0 _ _ _ _ _
      | exact ih1 _ _ _ _ _ _
      | exact ih2 _ _ _ _ _ _ _ _ _ _ _ _
      | exact ih3 _ _ _ _ _ _ _ _ _
      | exact ih4 _ _ _ _ _ _ _ _ _ _
      | exact ih5 _ _ _ _ _ _ _ _ _ _ _
      | exact ih6 _ _ _ _ _ _ _ _ _ _ _
      | exact ih7 _ _ _ _ _ _ _ _ _ _ _ _
      | exact ih8 _ _ _ _ _ _ _ _ _ _ _ _ _ _ _
      | exact ih9 _ _ _ _ _ _ _ _ _ _ _ _ _ _ _ _
      | exact ih10 _ _
      | exact ih11 _ _ _
      | exact ih12 _ _ _ _ _ _
      | exact lectionarylaw3_Heavy.mono _ _ _ _
      | exact lectionaryref0_EqRunes.mono _ _ _
      | exact lectionaryref1_All.mono _ _
      | exact lectionaryref1_Make.mono _ _
      | exact lectionaryref1_Runes.mono _ _
      | exact LeO.none _
      | refine LeO.ite ?_ ?_
      | refine LeO.bind ?_ (fun _ => ?_)
    · intro y0 y1 y2 y3 y4 y5 y6 y7 y8 y9
      unfold lectionarylaw3_TextExact.l1
      repeat' first
      | (with_reducible exact ih0 _ _ _ _ _)
      | (with_reducible exact ih1 _ _ _ _ _ _)
      | (with_reducible exact ih2 _ _ _ _ _ _ _ _ _ _ _ _)
      | (with_reducible exact ih3 _ _ _ _ _ _ _ _ _)
      | (with_reducible exact ih4 _ _ _ _ _ _ _ _ _ _)
      | (with_reducible exact ih5 _ _ _ _ _ _ _ _ _ _ _)
      | (with_reducible exact ih6 _ _ _ _ _ _ _ _ _ _ _)
      | (with_reducible exact ih7 _ _ _ _ _ _ _ _ _ _ _ _)
      | (with_reducible exact ih8 _ _ _ _ _ _ _ _ _ _ _ _ _ _ _)
      | (with_reducible exact ih9 _ _ _ _ _ _ _ _ _ _ _ _ _ _ _ _)
      | (with_reducible exact ih10 _ _)
      | (with_reducible exact ih11 _ _ _)
      | (with_reducible exact ih12 _ _ _ _ _ _)
      | (with_reducible exact lectionarylaw3_Heavy.mono _ _ _ _)
      | (with_reducible exact lectionaryref0_EqRunes.mono _ _ _)
      | (with_reducible exact lectionaryref1_All.mono _ _)
      | (with_reducible exact lectionaryref1_Make.mono _ _)
      | (with_reducible exact lectionaryref1_Runes.mono _ _)
      | (with_reducible exact LeO.refl _)
      | (with_reducible exact LeO.none _)
      | (with_reducible refine LeO.ite ?_ ?_)
      | (with_reducible refine LeO.bind ?_ (fun _ => ?_))
      | exact ih0 _ _ _ _ _
      | exact ih1 _ _ _ _ _ _
      | exact ih2 _ _ _ _ _ _ _ _ _ _ _ _
      | exact ih3 _ _ _ _ _ _ _ _ _
      | exact ih4 _ _ _ _ _ _ _ _ _ _
      | exact ih5 _ _ _ _ _ _ _ _ _ _ _
      | exact ih6 _ _ _ _ _ _ _ _ _ _ _
      | exact ih7 _ _ _ _ _ _ _ _ _ _ _ _
      | exact ih8 _ _ _ _ _ _ _ _ _ _ _ _ _ _ _
      | exact ih9 _ _ _ _ _ _ _ _ _ _ _ _ _ _ _ _
      | exact ih10 _ _
      | exact ih11 _ _ _
      | exact ih12 _ _ _ _ _ _
      | exact lectionarylaw3_Heavy.mono _ _ _ _
      | exact lectionaryref0_EqRunes.mono _ _ _
      | exact lectionaryref1_All.mono _ _
      | exact lectionaryref1_Make.mono _ _
      | exact lectionaryref1_Runes.mono _ _
      | exact LeO.none _
      | refine LeO.ite ?_ ?_
      | refine LeO.bind ?_ (fun _ => ?_)
    · intro y0 y1 y2 y3 y4 y5 y6 y7 y8 y9 y10
      unfold lectionarylaw3_TextExact.j5
      repeat' first
      | (with_reducible exact ih0 _ _ _ _ _)
      | (with_reducible exact ih1 _ _ _ _ _ _)
      | (with_reducible exact ih2 _ _ _ _ _ _ _ _ _ _ _ _)
      | (with_reducible exact ih3 _ _ _ _ _ _ _ _ _)
      | (with_reducible exact ih4 _ _ _ _ _ _ _ _ _ _)
      | (with_reducible exact ih5 _ _ _ _ _ _ _ _ _ _ _)
      | (with_reducible exact ih6 _ _ _ _ _ _ _ _ _ _ _)
      | (with_reducible exact ih7 _ _ _ _ _ _ _ _ _ _ _ _)
      | (with_reducible exact ih8 _ _ _ _ _ _ _ _ _ _ _ _ _ _ _)
      | (with_reducible exact ih9 _ _ _ _ _ _ _ _ _ _ _ _ _ _ _ _)
      | (with_reducible exact ih10 _ _)
      | (with_reducible exact ih11 _ _ _)
      | (with_reducible exact ih12 _ _ _ _ _ _)
      | (with_reducible exact lectionarylaw3_Heavy.mono _ _ _ _)
      | (with_reducible exact lectionaryref0_EqRunes.mono _ _ _)
      | (with_reducible exact lectionaryref1_All.mono _ _)
      | (with_reducible exact lectionaryref1_Make.mono _ _)
      | (with_reducible exact lectionaryref1_Runes.mono _ _)
      | (with_reducible exact LeO.refl _)
      | (with_reducible exact LeO.none _)
      | (with_reducible refine LeO.ite ?_ ?_)
      | (with_reducible refine LeO.bind ?_ (fun _ => ?_))
      | exact ih0 _ _ _ _ _
      | exact ih1 _ _ _ _ _ _
      | exact ih2 _ _ _ _ _ _ _ _ _ _ _ _
      | exact ih3 _ _ _ _ _ _ _ _ _
      | exact ih4 _ _ _ _ _ _ _ _ _ _
      | exact ih5 _ _ _ _ _ _ _ _ _ _ _
      | exact ih6 _ _ _ _ _ _ _ _ _ _ _
      | exact ih7 _ _ _ _ _ _ _ _ _ _ _ _
      | exact ih8 _ _ _ _ _ _ _ _ _ _ _ _ _ _ _
      | exact ih9 _ _ _ _ _ _ _ _ _ _ _ _ _ _ _ _
      | exact ih10 _ _
      | exact ih11 _ _ _
      | exact ih12 _ _ _ _ _ _
      | exact lectionarylaw3_Heavy.mono _ _ _ _
      | exact lectionaryref0_EqRunes.mono _ _ _
      | exact lectionaryref1_All.mono _ _
      | exact lectionaryref1_Make.mono _ _
      | exact lectionaryref1_Runes.mono _ _
      | exact LeO.none _
      | refine LeO.ite ?_ ?_
      | refine LeO.bind ?_ (fun _ => ?_)
    · intro y0 y1 y2 y3 y4 y5 y6 y7 y8 y9 y10
      unfold lectionarylaw3_TextExact.l2
      repeat' first
      | (with_reducible exact ih0 _ _ _ _ _)
      | (with_reducible exact ih1 _ _ _ _ _ _)
      | (with_reducible exact ih2 _ _ _ _ _ _ _ _ _ _ _ _)
      | (with_reducible exact ih3 _ _ _ _ _ _ _ _ _)
      | (with_reducible exact ih4 _ _ _ _ _ _ _ _ _ _)
      | (with_reducible exact ih5 _ _ _ _ _ _ _ _ _ _ _)
      | (with_reducible exact ih6 _ _ _ _ _ _ _ _ _ _ _)
      | (with_reducible exact ih7 _ _ _ _ _ _ _ _ _ _ _ _)
      | (with_reducible exact ih8 _ _ _ _ _ _ _ _ _ _ _ _ _ _ _)
      | (with_reducible exact ih9 _ _ _ _ _ _ _ _ _ _ _ _ _ _ _ _)
      | (with_reducible exact ih10 _ _)
      | (with_reducible exact ih11 _ _ _)
      | (with_reducible exact ih12 _ _ _ _ _ _)
      | (with_reducible exact lectionarylaw3_Heavy.mono _ _ _ _)
      | (with_reducible exact lectionaryref0_EqRunes.mono _ _ _)
      | (with_reducible exact lectionaryref1_All.mono _ _)
      | (with_reducible exact lectionaryref1_Make.mono _ _)
      | (with_reducible exact lectionaryref1_Runes.mono _ _)
      | (with_reducible exact LeO.refl _)
      | (with_reducible exact LeO.none _)
      | (with_reducible refine LeO.ite ?_ ?_)
      | (with_reducible refine LeO.bind ?_ (fun _ => ?_))
      | exact ih0 _ _ _ _ _
      | exact ih1 _ _ _ _ _ _
      | exact ih2 _ _ _ _ _ _ _ _ _ _ _ _
      | exact ih3 _ _ _ _ _ _ _ _ _
      | exact ih4 _ _ _ _ _ _ _ _ _ _
      | exact ih5 _ _ _ _ _ _ _ _ _ _ _
      | exact ih6 _ _ _ _ _ _ _ _ _ _ _
      | exact ih7 _ _ _ _ _ _ _ _ _ _ _ _
      | exact ih8 _ _ _ _ _ _ _ _ _ _ _ _ _ _ _
      | exact ih9 _ _ _ _ _ _ _ _ _ _ _ _ _ _ _ _
      | exact ih10 _ _
      | exact ih11 _ _ _
      | exact ih12 _ _ _ _ _ _
      | exact lectionarylaw3_Heavy.mono _ _ _ _
      | exact lectionaryref0_EqRunes.mono _ _ _
      | exact lectionaryref1_All.mono _ _
      | exact lectionaryref1_Make.mono _ _
      | exact lectionaryref1_Runes.mono _ _
      | exact LeO.none _
      | refine LeO.ite ?_ ?_
      | refine LeO.bind ?_ (fun _ => ?_)
    · intro y0 y1 y2 y3 y4 y5 y6 y7 y8 y9 y10 y11
      unfold lectionarylaw3_TextExact.j7
      repeat' first
      | (with_reducible exact ih0 _ _ _ _ _)
      | (with_reducible exact ih1 _ _ _ _ _ _)
      | (with_reducible exact ih2 _ _ _ _ _ _ _ _ _ _ _ _)
      | (with_reducible exact ih3 _ _ _ _ _ _ _ _ _)
      | (with_reducible exact ih4 _ _ _ _ _ _ _ _ _ _)
      | (with_reducible exact ih5 _ _ _ _ _ _ _ _ _ _ _)
      | (with_reducible exact ih6 _ _ _ _ _ _ _ _ _ _ _)
      | (with_reducible exact ih7 _ _ _ _ _ _ _ _ _ _ _ _)
      | (with_reducible exact ih8 _ _ _ _ _ _ _ _ _ _ _ _ _ _ _)
      | (with_reducible exact ih9 _ _ _ _ _ _ _ _ _ _ _ _ _ _ _ _)
      | (with_reducible exact ih10 _ _)
      | (with_reducible exact ih11 _ _ _)
      | (with_reducible exact ih12 _ _ _ _ _ _)
      | (with_reducible exact lectionarylaw3_Heavy.mono _ _ _ _)
      | (with_reducible exact lectionaryref0_EqRunes.mono _ _ _)
      | (with_reducible exact lectionaryref1_All.mono _ _)
      | (with_reducible exact lectionaryref1_Make.mono _ _)
      | (with_reducible exact lectionaryref1_Runes.mono _ _)
      | (with_reducible exact LeO.refl _)
      | (with_reducible exact LeO.none _)
      | (with_reducible refine LeO.ite ?_ ?_)
      | (with_reducible refine LeO.bind ?_ (fun _ => ?_))
      | exact ih0 _ _ _ _ _
      | exact ih1 _ _ _ _ _ _
      | exact ih2 _ _ _ _ _ _ _ _ _ _ _ _
      | exact ih3 _ _ _ _ _ _ _ _ _
      | exact ih4 _ _ _ _ _ _ _ _ _ _
      | exact ih5 _ _ _ _ _ _ _ _ _ _ _
      | exact ih6 _ _ _ _ _ _ _ _ _ _ _
      | exact ih7 _ _ _ _ _ _ _ _ _ _ _ _
      | exact ih8 _ _ _ _ _ _ _ _ _ _ _ _ _ _ _
      | exact ih9 _ _ _ _ _ _ _ _ _ _ _ _ _ _ _ _
      | exact ih10 _ _
      | exact ih11 _ _ _
      | exact ih12 _ _ _ _ _ _
      | exact lectionarylaw3_Heavy.mono _ _ _ _
      | exact lectionaryref0_EqRunes.mono _ _ _
      | exact lectionaryref1_All.mono _ _
      | exact lectionaryref1_Make.mono _ _
      | exact lectionaryref1_Runes.mono _ _
      | exact LeO.none _
      | refine LeO.ite ?_ ?_
      | refine LeO.bind ?_ (fun _ => ?_)
    · intro y0 y1 y2 y3 y4 y5 y6 y7 y8 y9 y10 y11 y12 y13 y14
      unfold lectionarylaw3_TextExact.j9
      repeat' first
      | (with_reducible exact ih0 _ _ _ _ _)
      | (with_reducible exact ih1 _ _ _ _ _ _)
      | (with_reducible exact ih2 _ _ _ _ _ _ _ _ _ _ _ _)
      | (with_reducible exact ih3 _ _ _ _ _ _ _ _ _)
      | (with_reducible exact ih4 _ _ _ _ _ _ _ _ _ _)
      | (with_reducible exact ih5 _ _ _ _ _ _ _ _ _ _ _)
      | (with_reducible exact ih6 _ _ _ _ _ _ _ _ _ _ _)
      | (with_reducible exact ih7 _ _ _ _ _ _ _ _ _ _ _ _)
      | (with_reducible exact ih8 _ _ _ _ _ _ _ _ _ _ _ _ _ _ _)
      | (with_reducible exact ih9 _ _ _ _ _ _ _ _ _ _ _ _ _ _ _ _)
      | (with_reducible exact ih10 _ _)
      | (with_reducible exact ih11 _ _ _)
      | (with_reducible exact ih12 _ _ _ _ _ _)
      | (with_reducible exact lectionarylaw3_Heavy.mono _ _ _ _)
      | (with_reducible exact lectionaryref0_EqRunes.mono _ _ _)
      | (with_reducible exact lectionaryref1_All.mono _ _)
      | (with_reducible exact lectionaryref1_Make.mono _ _)
      | (with_reducible exact lectionaryref1_Runes.mono _ _)
      | (with_reducible exact LeO.refl _)
      | (with_reducible exact LeO.none _)
      | (with_reducible refine LeO.ite ?_ ?_)
      | (with_reducible refine LeO.bind ?_ (fun _ => ?_))
      | exact ih0 _ _ _ _ _
      | exact ih1 _ _ _ _ _ _
      | exact ih2 _ _ _ _ _ _ _ _ _ _ _ _
      | exact ih3 _ _ _ _ _ _ _ _ _
      | exact ih4 _ _ _ _ _ _ _ _ _ _
      | exact ih5 _ _ _ _ _ _ _ _ _ _ _
      | exact ih6 _ _ _ _ _ _ _ _ _ _ _
      | exact ih7 _ _ _ _ _ _ _ _ _ _ _ _
      | exact ih8 _ _ _ _ _ _ _ _ _ _ _ _ _ _ _
      | exact ih9 _ _ _ _ _ _ _ _ _ _ _ _ _ _ _ _
      | exact ih10 _ _
      | exact ih11 _ _ _
      | exact ih12 _ _ _ _ _ _
      | exact lectionarylaw3_Heavy.mono _ _ _ _
      | exact lectionaryref0_EqRunes.mono _ _ _
      | exact lectionaryref1_All.mono _ _
      | exact lectionaryref1_Make.mono _ _
      | exact lectionaryref1_Runes.mono _ _
      | exact LeO.none _
      | refine LeO.ite ?_ ?_
      | refine LeO.bind ?_ (fun _ => ?_)
    · intro y0 y1 y2 y3 y4 y5 y6 y7 y8 y9 y10 y11 y12 y13 y14 y15
      unfold lectionarylaw3_TextExact.j8
      repeat' first
      | (with_reducible exact ih0 _ _ _ _ _)
      | (with_reducible exact ih1 _ _ _ _ _ _)
      | (with_reducible exact ih2 _ _ _ _ _ _ _ _ _ _ _ _)
      | (with_reducible exact ih3 _ _ _ _ _ _ _ _ _)
      | (with_reducible exact ih4 _ _ _ _ _ _ _ _ _ _)
      | (with_reducible exact ih5 _ _ _ _ _ _ _ _ _ _ _)
      | (with_reducible exact ih6 _ _ _ _ _ _ _ _ _ _ _)
      | (with_reducible exact ih7 _ _ _ _ _ _ _ _ _ _ _ _)
      | (with_reducible exact ih8 _ _ _ _ _ _ _ _ _ _ _ _ _ _ _)
      | (with_reducible exact ih9 _ _ _ _ _ _ _ _ _ _ _ _ _ _ _ _)
      | (with_reducible exact ih10 _ _)
      | (with_reducible exact ih11 _ _ _)
      | (with_reducible exact ih12 _ _ _ _ _ _)
      | (with_reducible exact lectionarylaw3_Heavy.mono _ _ _ _)
      | (with_reducible exact lectionaryref0_EqRunes.mono _ _ _)
      | (with_reducible exact lectionaryref1_All.mono _ _)
      | (with_reducible exact lectionaryref1_Make.mono _ _)
      | (with_reducible exact lectionaryref1_Runes.mono _ _)
      | (with_reducible exact LeO.refl _)
      | (with_reducible exact LeO.none _)
      | (with_reducible refine LeO.ite ?_ ?_)
      | (with_reducible refine LeO.bind ?_ (fun _ => ?_))
      | exact ih0 _ _ _ _ _
      | exact ih1 _ _ _ _ _ _
      | exact ih2 _ _ _ _ _ _ _ _ _ _ _ _
      | exact ih3 _ _ _ _ _ _ _ _ _
      | exact ih4 _ _ _ _ _ _ _ _ _ _
      | exact ih5 _ _ _ _ _ _ _ _ _ _ _
      | exact ih6 _ _ _ _ _ _ _ _ _ _ _
      | exact ih7 _ _ _ _ _ _ _ _ _ _ _ _
      | exact ih8 _ _ _ _ _ _ _ _ _ _ _ _ _ _ _
      | exact ih9 _ _ _ _ _ _ _ _ _ _ _ _ _ _ _ _
      | exact ih10 _ _
      | exact ih11 _ _ _
      | exact ih12 _ _ _ _ _ _
      | exact lectionarylaw3_Heavy.mono _ _ _ _
      | exact lectionaryref0_EqRunes.mono _ _ _
      | exact lectionaryref1_All.mono _ _
      | exact lectionaryref1_Make.mono _ _
      | exact lectionaryref1_Runes.mono _ _
      | exact LeO.none _
      | refine LeO.ite ?_ ?_
      | refine LeO.bind ?_ (fun _ => ?_)
    · intro y0 y1
      unfold lectionarylaw3_TextExact.l3
      repeat' first
      | (with_reducible exact ih0 _ _ _ _ _)
      | (with_reducible exact ih1 _ _ _ _ _ _)
      | (with_reducible exact ih2 _ _ _ _ _ _ _ _ _ _ _ _)
      | (with_reducible exact ih3 _ _ _ _ _ _ _ _ _)
      | (with_reducible exact ih4 _ _ _ _ _ _ _ _ _ _)
      | (with_reducible exact ih5 _ _ _ _ _ _ _ _ _ _ _)
      | (with_reducible exact ih6 _ _ _ _ _ _ _ _ _ _ _)
      | (with_reducible exact ih7 _ _ _ _ _ _ _ _ _ _ _ _)
      | (with_reducible exact ih8 _ _ _ _ _ _ _ _ _ _ _ _ _ _ _)
      | (with_reducible exact ih9 _ _ _ _ _ _ _ _ _ _ _ _ _ _ _ _)
      | (with_reducible exact ih10 _ _)
      | (with_reducible exact ih11 _ _ _)
      | (with_reducible exact ih12 _ _ _ _ _ _)
      | (with_reducible exact lectionarylaw3_Heavy.mono _ _ _ _)
      | (with_reducible exact lectionaryref0_EqRunes.mono _ _ _)
      | (with_reducible exact lectionaryref1_All.mono _ _)
      | (with_reducible exact lectionaryref1_Make.mono _ _)
      | (with_reducible exact lectionaryref1_Runes.mono _ _)
      | (with_reducible exact LeO.refl _)
      | (with_reducible exact LeO.none _)
      | (with_reducible refine LeO.ite ?_ ?_)
      | (with_reducible refine LeO.bind ?_ (fun _ => ?_))
      | exact ih0 _ _ _ _ _
      | exact ih1 _ _ _ _ _ _
      | exact ih2 _ _ _ _ _ _ _ _ _ _ _ _
      | exact ih3 _ _ _ _ _ _ _ _ _
      | exact ih4 _ _ _ _ _ _ _ _ _ _
      | exact ih5 _ _ _ _ _ _ _ _ _ _ _
      | exact ih6 _ _ _ _ _ _ _ _ _ _ _
      | exact ih7 _ _ _ _ _ _ _ _ _ _ _ _
      | exact ih8 _ _ _ _ _ _ _ _ _ _ _ _ _ _ _
      | exact ih9 _ _ _ _ _ _ _ _ _ _ _ _ _ _ _ _
      | exact ih10 _ _
      | exact ih11 _ _ _
      | exact ih12 _ _ _ _ _ _
      | exact lectionarylaw3_Heavy.mono _ _ _ _
      | exact lectionaryref0_EqRunes.mono _ _ _
      | exact lectionaryref1_All.mono _ _
      | exact lectionaryref1_Make.mono _ _
      | exact lectionaryref1_Runes.mono _ _
      | exact LeO.none _
      | refine LeO.ite ?_ ?_
      | refine LeO.bind ?_ (fun _ => ?_)
    · intro y0 y1 y2
      unfold lectionarylaw3_TextExact.j11
      repeat' first
      | (with_reducible exact ih0 _ _ _ _ _)
      | (with_reducible exact ih1 _ _ _ _ _ _)
      | (with_reducible exact ih2 _ _ _ _ _ _ _ _ _ _ _ _)
      | (with_reducible exact ih3 _ _ _ _ _ _ _ _ _)
      | (with_reducible exact ih4 _ _ _ _ _ _ _ _ _ _)
      | (with_reducible exact ih5 _ _ _ _ _ _ _ _ _ _ _)
      | (with_reducible exact ih6 _ _ _ _ _ _ _ _ _ _ _)
      | (with_reducible exact ih7 _ _ _ _ _ _ _ _ _ _ _ _)
      | (with_reducible exact ih8 _ _ _ _ _ _ _ _ _ _ _ _ _ _ _)
      | (with_reducible exact ih9 _ _ _ _ _ _ _ _ _ _ _ _ _ _ _ _)
      | (with_reducible exact ih10 _ _)
      | (with_reducible exact ih11 _ _ _)
      | (with_reducible exact ih12 _ _ _ _ _ _)
      | (with_reducible exact lectionarylaw3_Heavy.mono _ _ _ _)
      | (with_reducible exact lectionaryref0_EqRunes.mono _ _ _)
      | (with_reducible exact lectionaryref1_All.mono _ _)
      | (with_reducible exact lectionaryref1_Make.mono _ _)
      | (with_reducible exact lectionaryref1_Runes.mono _ _)
      | (with_reducible exact LeO.refl _)
      | (with_reducible exact LeO.none _)
      | (with_reducible refine LeO.ite ?_ ?_)
      | (with_reducible refine LeO.bind ?_ (fun _ => ?_))
      | exact ih0 _ _ _ _ _
      | exact ih1 _ _ _ _ _ _
      | exact ih2 _ _ _ _ _ _ _ _ _ _ _ _
      | exact ih3 _ _ _ _ _ _ _ _ _
      | exact ih4 _ _ _ _ _ _ _ _ _ _
      | exact ih5 _ _ _ _ _ _ _ _ _ _ _
      | exact ih6 _ _ _ _ _ _ _ _ _ _ _
      | exact ih7 _ _ _ _ _ _ _ _ _ _ _ _
      | exact ih8 _ _ _ _ _ _ _ _ _ _ _ _ _ _ _
      | exact ih9 _ _ _ _ _ _ _ _ _ _ _ _ _ _ _ _
      | exact ih10 _ _
      | exact ih11 _ _ _
      | exact ih12 _ _ _ _ _ _
      | exact lectionarylaw3_Heavy.mono _ _ _ _
      | exact lectionaryref0_EqRunes.mono _ _ _
      | exact lectionaryref1_All.mono _ _
      | exact lectionaryref1_Make.mono _ _
      | exact lectionaryref1_Runes.mono _ _
      | exact LeO.none _
      | refine LeO.ite ?_ ?_
      | refine LeO.bind ?_ (fun _ => ?_)
    · intro y0 y1 y2 y3 y4 y5
      unfold lectionarylaw3_TextExact.j12
      repeat' first
      | (with_reducible exact ih0 _ _ _ _ _)
      | (with_reducible exact ih1 _ _ _ _ _ _)
      | (with_reducible exact ih2 _ _ _ _ _ _ _ _ _ _ _ _)
      | (with_reducible exact ih3 _ _ _ _ _ _ _ _ _)
      | (with_reducible exact ih4 _ _ _ _ _ _ _ _ _ _)
      | (with_reducible exact ih5 _ _ _ _ _ _ _ _ _ _ _)
      | (with_reducible exact ih6 _ _ _ _ _ _ _ _ _ _ _)
      | (with_reducible exact ih7 _ _ _ _ _ _ _ _ _ _ _ _)
      | (with_reducible exact ih8 _ _ _ _ _ _ _ _ _ _ _ _ _ _ _)
      | (with_reducible exact ih9 _ _ _ _ _ _ _ _ _ _ _ _ _ _ _ _)
      | (with_reducible exact ih10 _ _)
      | (with_reducible exact ih11 _ _ _)
      | (with_reducible exact ih12 _ _ _ _ _ _)
      | (with_reducible exact lectionarylaw3_Heavy.mono _ _ _ _)
      | (with_reducible exact lectionaryref0_EqRunes.mono _ _ _)
      | (with_reducible exact lectionaryref1_All.mono _ _)
      | (with_reducible exact lectionaryref1_Make.mono _ _)
      | (with_reducible exact lectionaryref1_Runes.mono _ _)
      | (with_reducible exact LeO.refl _)
      | (with_reducible exact LeO.none _)
      | (with_reducible refine LeO.ite ?_ ?_)
      | (with_reducible refine LeO.bind ?_ (fun _ => ?_))
      | exact ih0 _ _ _ _ _
      | exact ih1 _ _ _ _ _ _
      | exact ih2 _ _ _ _ _ _ _ _ _ _ _ _
      | exact ih3 _ _ _ _ _ _ _ _ _
      | exact ih4 _ _ _ _ _ _ _ _ _ _
      | exact ih5 _ _ _ _ _ _ _ _ _ _ _
      | exact ih6 _ _ _ _ _ _ _ _ _ _ _
      | exact ih7 _ _ _ _ _ _ _ _ _ _ _ _
      | exact ih8 _ _ _ _ _ _ _ _ _ _ _ _ _ _ _
      | exact ih9 _ _ _ _ _ _ _ _ _ _ _ _ _ _ _ _
      | exact ih10 _ _
      | exact ih11 _ _ _
      | exact ih12 _ _ _ _ _ _
      | exact lectionarylaw3_Heavy.mono _ _ _ _
      | exact lectionaryref0_EqRunes.mono _ _ _
      | exact lectionaryref1_All.mono _ _
      | exact lectionaryref1_Make.mono _ _
      | exact lectionaryref1_Runes.mono _ _
      | exact LeO.none _
      | refine LeO.ite ?_ ?_
      | refine LeO.bind ?_ (fun _ => ?_)
theorem lectionarylaw3_TextExact.mono : ∀ a0 a1 a2 k, LeO (lectionarylaw3_TextExact.f k a0 a1 a2) (lectionarylaw3_TextExact.f (k + 1) a0 a1 a2) := by
  intro a0 a1 a2 k
  obtain ⟨ih0, ih1, ih2, ih3, ih4, ih5, ih6, ih7, ih8, ih9, ih10, ih11, ih12⟩ := lectionarylaw3_TextExact.mono_l k
  unfold lectionarylaw3_TextExact.f
  repeat' first
      | (with_reducible exact ih0 _ _ _ _ _)
      | (with_reducible exact ih1 _ _ _ _ _ _)
      | (with_reducible exact ih2 _ _ _ _ _ _ _ _ _ _ _ _)
      | (with_reducible exact ih3 _ _ _ _ _ _ _ _ _)
      | (with_reducible exact ih4 _ _ _ _ _ _ _ _ _ _)
      | (with_reducible exact ih5 _ _ _ _ _ _ _ _ _ _ _)
      | (with_reducible exact ih6 _ _ _ _ _ _ _ _ _ _ _)
      | (with_reducible exact ih7 _ _ _ _ _ _ _ _ _ _ _ _)
      | (with_reducible exact ih8 _ _ _ _ _ _ _ _ _ _ _ _ _ _ _)
      | (with_reducible exact ih9 _ _ _ _ _ _ _ _ _ _ _ _ _ _ _ _)
      | (with_reducible exact ih10 _ _)
      | (with_reducible exact ih11 _ _ _)
      | (with_reducible exact ih12 _ _ _ _ _ _)
      | (with_reducible exact lectionarylaw3_Heavy.mono _ _ _ _)
      | (with_reducible exact lectionaryref0_EqRunes.mono _ _ _)
      | (with_reducible exact lectionaryref1_All.mono _ _)
      | (with_reducible exact lectionaryref1_Make.mono _ _)
      | (with_reducible exact lectionaryref1_Runes.mono _ _)
      | (with_reducible exact LeO.refl _)
      | (with_reducible exact LeO.none _)
      | (with_reducible refine LeO.ite ?_ ?_)
      | (with_reducible refine LeO.bind ?_ (fun _ => ?_))
      | exact ih0 _ _ _ _ _
      | exact ih1 _ _ _ _ _ _
      | exact ih2 _ _ _ _ _ _ _ _ _ _ _ _
      | exact ih3 _ _ _ _ _ _ _ _ _
      | exact ih4 _ _ _ _ _ _ _ _ _ _
      | exact ih5 _ _ _ _ _ _ _ _ _ _ _
      | exact ih6 _ _ _ _ _ _ _ _ _ _ _
      | exact ih7 _ _ _ _ _ _ _ _ _ _ _ _
      | exact ih8 _ _ _ _ _ _ _ _ _ _ _ _ _ _ _
      | exact ih9 _ _ _ _ _ _ _ _ _ _ _ _ _ _ _ _
      | exact ih10 _ _
      | exact ih11 _ _ _
      | exact ih12 _ _ _ _ _ _
      | exact lectionarylaw3_Heavy.mono _ _ _ _
      | exact lectionaryref0_EqRunes.mono _ _ _
      | exact lectionaryref1_All.mono _ _
      | exact lectionaryref1_Make.mono _ _
      | exact lectionaryref1_Runes.mono _ _
      | exact LeO.none _
      | refine LeO.ite ?_ ?_
      | refine LeO.bind ?_ (fun _ => ?_)
def lectionarylaw3_TextExact.T22 : Bool × List (List Nat × List Nat) := (true, [([], []), ([], []), ([0, 1], [0, 1]), ([2], [2]), ([], []), ([], []), ([4, 5], [4, 5]), ([6], [6]), ([], []), ([], []), ([8, 9], [8, 9]), ([10], [10]), ([3, 7, 11], [3, 7, 11]), ([12], [12]), ([13], [13]), ([13], [13]), ([14, 12, 0, 1, 2, 3, 4, 5, 6, 7, 8, 9, 10, 11, 12, 13, 14], [14]), ([15, 16, 0, 1, 2, 3, 4, 5, 6, 7, 8, 9, 10, 11, 12, 13, 14, 15, 16], [15])])
def lectionarylaw3_TextExact.B22 : List Nat := [0, 0, 3, 7, 0, 0, 48, 112, 0, 0, 768, 1792, 4095, 8191, 16383, 16383, 32767, 131071]
theorem lectionarylaw3_TextExact.tab22 : rtab .any (opsOf Tryd.f4 22) = lectionarylaw3_TextExact.T22 := by kernel_rfl
theorem lectionarylaw3_TextExact.bits22 : waitsOk lectionarylaw3_TextExact.T22.2 lectionarylaw3_TextExact.B22 = true := by kernel_rfl
def lectionarylaw3_TextExact.T26 : Bool × List (List Nat × List Nat) := (true, [([], []), ([], []), ([0, 1], [0, 1]), ([2], [2]), ([3], [3]), ([4], [4]), ([5], [5]), ([5], [5]), ([6, 7, 5], [5, 6, 7]), ([8, 5], [5, 8]), ([5], [5]), ([5], [5]), ([10, 11, 5], [5, 10, 11]), ([12, 5], [5, 12]), ([9, 13, 5], [5, 9, 13]), ([5, 14], [5, 14]), ([15, 5], [15]), ([16], [16]), ([16], [16]), ([17, 18, 16], [16, 17, 18]), ([19, 16], [16, 19]), ([16], [16]), ([21, 16], [16, 21]), ([20, 22, 16], [16, 20, 22]), ([16, 23], [16, 23])])
def lectionarylaw3_TextExact.B26 : List Nat := [0, 0, 3, 7, 15, 31, 63, 63, 255, 511, 63, 63, 3135, 7231, 16383, 32767, 65535, 131071, 131071, 524287, 1048575, 131071, 2228223, 8388607, 16777215]
theorem lectionarylaw3_TextExact.tab26 : rtab .any (opsOf Tryd.f4 26) = lectionarylaw3_TextExact.T26 := by kernel_rfl
theorem lectionarylaw3_TextExact.bits26 : waitsOk lectionarylaw3_TextExact.T26.2 lectionarylaw3_TextExact.B26 = true := by kernel_rfl
def lectionarylaw3_TextExact.T27 : Bool × List (List Nat × List Nat) := (true, [([], []), ([], []), ([], []), ([1, 2], [1, 2]), ([3], [3]), ([], []), ([], []), ([5, 6], [5, 6]), ([7], [7]), ([0, 4, 8], [0, 4, 8]), ([9], [9]), ([10], []), ([10, 11, 0, 1, 2, 3, 4, 5, 6, 7, 8, 9, 10, 11], [10])])
def lectionarylaw3_TextExact.B27 : List Nat := [0, 0, 0, 6, 14, 0, 0, 96, 224, 511, 1023, 2047, 4095]
theorem lectionarylaw3_TextExact.tab27 : rtab .any (opsOf Tryd.f4 27) = lectionarylaw3_TextExact.T27 := by kernel_rfl
theorem lectionarylaw3_TextExact.bits27 : waitsOk lectionarylaw3_TextExact.T27.2 lectionarylaw3_TextExact.B27 = true := by kernel_rfl
def lectionarylaw3_TextExact.T34 : Bool × List (List Nat × List Nat) := (true, [([], []), ([], []), ([0, 1], [0, 1]), ([2], [2]), ([3], [3]), ([4, 4], [4]), ([5], [5]), ([], []), ([], []), ([7, 8], [7, 8]), ([9], [9]), ([10, 5], [10]), ([6, 11], [6, 11])])
def lectionarylaw3_TextExact.B34 : List Nat := [0, 0, 3, 7, 15, 31, 63, 0, 0, 384, 896, 1983, 4095]
theorem lectionarylaw3_TextExact.tab34 : rtab .any (opsOf Tryd.f4 34) = lectionarylaw3_TextExact.T34 := by kernel_rfl
theorem lectionarylaw3_TextExact.bits34 : waitsOk lectionarylaw3_TextExact.T34.2 lectionarylaw3_TextExact.B34 = true := by kernel_rfl
def lectionarylaw3_TextExact.T36 : Bool × List (List Nat × List Nat) := (true, [([], []), ([], []), ([0, 1], [0, 1]), ([2], [2]), ([], []), ([], []), ([5], [5]), ([], []), ([7], [7]), ([6, 8], [6, 8]), ([4, 9], [4, 9]), ([10], [10]), ([3, 11], [3, 11]), ([12], [12]), ([13], [13]), ([14], [14]), ([14], [14]), ([15, 13, 0, 1, 2, 3, 4, 5, 6, 7, 8, 9, 10, 11, 12, 13, 14, 15], [15]), ([16, 17, 0, 1, 2, 3, 4, 5, 6, 7, 8, 9, 10, 11, 12, 13, 14, 15, 16, 17], [16])])
def lectionarylaw3_TextExact.B36 : List Nat := [0, 0, 3, 7, 0, 0, 32, 0, 128, 480, 1008, 2032, 4095, 8191, 16383, 32767, 32767, 65535, 262143]
theorem lectionarylaw3_TextExact.tab36 : rtab .any (opsOf Tryd.f4 36) = lectionarylaw3_TextExact.T36 := by kernel_rfl
theorem lectionarylaw3_TextExact.bits36 : waitsOk lectionarylaw3_TextExact.T36.2 lectionarylaw3_TextExact.B36 = true := by kernel_rfl
def lectionarylaw3_TextExact.T38 : Bool × List (List Nat × List Nat) := (true, [([], []), ([], []), ([0, 1], [0, 1]), ([2], [2]), ([], []), ([], []), ([5], [5]), ([], []), ([7], [7]), ([6, 8], [6, 8]), ([4, 9], [4, 9]), ([10], [10]), ([3, 11], [3, 11]), ([12, 0, 1, 2, 3, 4, 5, 6, 7, 8, 9, 10, 11, 12], [12])])
def lectionarylaw3_TextExact.B38 : List Nat := [0, 0, 3, 7, 0, 0, 32, 0, 128, 480, 1008, 2032, 4095, 8191]
theorem lectionarylaw3_TextExact.tab38 : rtab .any (opsOf Tryd.f4 38) = lectionarylaw3_TextExact.T38 := by kernel_rfl
theorem lectionarylaw3_TextExact.bits38 : waitsOk lectionarylaw3_TextExact.T38.2 lectionarylaw3_TextExact.B38 = true := by kernel_rfl
set_option maxHeartbeats 8000000 in
set_option maxRecDepth 100000 in
theorem lectionarylaw3_TextExact.calls (k : Nat) (A0_0 : Option Addr) (c0_0 : Nat) (l0_0 : List ByteArray) (A0_1 : Option Addr) (c0_1 : Nat) (l0_1 : List Int) (A0_2 : Option Addr) (c0_2 : Nat) (l0_2 : List Int) (r : Bool) (w : World) (hr0_0 : Kd.C Kd.string w A0_0 l0_0.length l0_0) (hc0_0 : l0_0.length ≤ c0_0) (hr0_1 : Kd.C (Kd.int .i32) w A0_1 l0_1.length l0_1) (hc0_1 : l0_1.length ≤ c0_1) (hr0_2 : Kd.C (Kd.int .i64) w A0_2 l0_2.length l0_2) (hc0_2 : l0_2.length ≤ c0_2) (h : lectionarylaw3_TextExact.f k l0_0 l0_1 l0_2 = some r) (hT : UT w) :
  Calls Tryd.prog 4 #[.agg #[.slice A0_0 l0_0.length c0_0, .slice A0_1 l0_1.length c0_1, .slice A0_2 l0_2.length c0_2]] w fun e w' => e = .returned (.bool r) ∧ Below w.heap.size w w' := by
 have HUT := Aside0.mk hT
 clear hT
 have hu26 := Tryd.underlying26
 have HR0_0 := Aside0.mk hr0_0
 have HC0_0 := Aside0.mk hc0_0
 clear hr0_0 hc0_0
 have HR0_1 := Aside0.mk hr0_1
 have HC0_1 := Aside0.mk hc0_1
 clear hr0_1 hc0_1
 have HR0_2 := Aside0.mk hr0_2
 have HC0_2 := Aside0.mk hc0_2
 clear hr0_2 hc0_2
 have HB := Aside0.mk (Below.refl w.heap.size w)
 have H : ((lectionarylaw3_Heavy.f k l0_0 l0_1 l0_2).bind fun t144 => (if t144 = true then (some true) else ((some (([(⟨#[]⟩ : ByteArray), (⟨#[97, 10, 98]⟩ : ByteArray), (⟨#[128]⟩ : ByteArray), (⟨#[127]⟩ : ByteArray), (⟨#[239, 191, 189]⟩ : ByteArray), (⟨#[237, 160, 128]⟩ : ByteArray), (⟨#[195, 169, 230, 151, 165, 240, 159, 152, 128]⟩ : ByteArray), (⟨#[97, 0]⟩ : ByteArray)] : List ByteArray) : List ByteArray)).bind fun y145 => (if y145.length + l0_0.length < 8796093022208 then (lectionarylaw3_TextExact.l0 k (y145 ++ l0_0) 0 l0_0 l0_1 l0_2) else (none))))) = some r := h
 clear h
 replace H := Option.bind_eq_some_iff.mp H
 obtain ⟨t144, A20, H⟩ := H
 replace H : (if t144 = true then (some true) else ((some (([(⟨#[]⟩ : ByteArray), (⟨#[97, 10, 98]⟩ : ByteArray), (⟨#[128]⟩ : ByteArray), (⟨#[127]⟩ : ByteArray), (⟨#[239, 191, 189]⟩ : ByteArray), (⟨#[237, 160, 128]⟩ : ByteArray), (⟨#[195, 169, 230, 151, 165, 240, 159, 152, 128]⟩ : ByteArray), (⟨#[97, 0]⟩ : ByteArray)] : List ByteArray) : List ByteArray)).bind fun y145 => (if y145.length + l0_0.length < 8796093022208 then (lectionarylaw3_TextExact.l0 k (y145 ++ l0_0) 0 l0_0 l0_1 l0_2) else (none)))) = some r := H
 have A2 := Aside0.mk A20
 clear A20
 by_cases c3 : t144 = true
 ·
  subst c3
  have H1 : (some true) = some r := by rw [if_pos rfl] at H; exact H
  clear H
  have H := H1
  clear H1
  as_aux_lemma =>
   obtain rfl := Option.some.inj H
   go_enter Tryd.func4, Tryd.ntmps4
   go_wp2_with (first | ((with_reducible refine gate_dst (N := 1) rfl ?_); (try (refine gate_guard (by rfl) ?_; dsimp only)); refine box_event ?hg (N := 1) ?hd (cs := #[.slice A0_0 l0_0.length c0_0, .slice A0_1 l0_1.length c0_1, .slice A0_2 l0_2.length c0_2]) (t := 26) ?hr ?_; (case hd => rfl); (case hg => rfl); (case hr => first | (go_simp; done) | (go_simp; rfl)); intro gb143 hg w4 hbox hb; have n0_ := Aside0.mk (below_step (by repeat (first | (with_reducible first | exact HB.out | apply below_alloc | apply pw_below_drewN | apply below_drew1) | exact HB.out)) hb); have n1_ := Aside0.mk (hbox); have n2_ := Aside0.mk ((by rw [hg]; exact (below_size (by repeat (first | (with_reducible first | exact HB.out | apply below_alloc | apply pw_below_drewN | apply below_drew1) | exact HB.out))) : w.heap.size ≤ gb143)); have n3_ := Aside0.mk ((by rw [hg]; exact (below_size (by repeat (first | (with_reducible first | exact HB.out | apply below_alloc | apply pw_below_drewN | apply below_drew1) | exact HB.out))) : w.heap.size ≤ gb143)); clear HB; have HB := n0_; have BK143 := n1_; have GW143 := n2_; have GE143 := n3_; clear n0_ n1_ n2_ n3_; clear hb hbox hg; have hcz5_0 : w4.cell? ⟨gb143, 0, none⟩ = some (.slice A0_0 l0_0.length c0_0) := (blk_cell BK143.out 0).trans rfl; have hcz5_1 : w4.cell? ⟨gb143, 1, none⟩ = some (.slice A0_1 l0_1.length c0_1) := (blk_cell BK143.out 1).trans rfl; have hcz5_2 : w4.cell? ⟨gb143, 2, none⟩ = some (.slice A0_2 l0_2.length c0_2) := (blk_cell BK143.out 2).trans rfl; have hfz5_0 := blk_frozen BK143.out 0; have hfz5_1 := blk_frozen BK143.out 1; have hfz5_2 := blk_frozen BK143.out 2) | ((with_reducible refine gate_callee (f := 10) rfl ?_); refine goesL_ (some 27) rfl rfl Tryd.func10 (by kernel_rfl) rfl #[.agg #[.slice A0_0 l0_0.length c0_0, .slice A0_1 l0_1.length c0_1, .slice A0_2 l0_2.length c0_2]] rfl (by (try simp only [List.map_toArray, List.map_cons, List.map_nil]); first | done | rfl | (simp only [List.length_drop, List.length_take]; rfl)) ?_; (with_reducible refine (lectionarylaw3_Heavy.calls k _ _ l0_0 _ _ l0_1 _ _ l0_2 true _ ?side1 ?side2 ?side3 ?side4 ?side5 ?side6 A2.out).mono ?_); (case side1 => repeat (first | exact (Kd.C_below HR0_0.out HB.out) | (with_reducible refine Kd.C_alloc ?_ _) | (with_reducible refine Kd.C_drewN ?_ _) | (with_reducible refine Kd.C_drew ?_))); (case side2 => exact HC0_0.out); (case side3 => repeat (first | exact (Kd.C_below HR0_1.out HB.out) | (with_reducible refine Kd.C_alloc ?_ _) | (with_reducible refine Kd.C_drewN ?_ _) | (with_reducible refine Kd.C_drew ?_))); (case side4 => exact HC0_1.out); (case side5 => repeat (first | exact (Kd.C_below HR0_2.out HB.out) | (with_reducible refine Kd.C_alloc ?_ _) | (with_reducible refine Kd.C_drewN ?_ _) | (with_reducible refine Kd.C_drew ?_))); (case side6 => exact HC0_2.out); rintro e w6 ⟨rfl, hb⟩; refine ⟨_, rfl, ?_⟩; have n0_ := Aside0.mk (blk_below (g := gb143) (o := .cells #[.slice A0_0 l0_0.length c0_0, .slice A0_1 l0_1.length c0_1, .slice A0_2 l0_2.length c0_2] 26 (0, 0)) (by (with_reducible repeat (first | refine blk_drewN ?_ _ | refine blk_drew ?_ | refine blk_alloc ?_ _)); exact BK143.out) hb); have n1_ := Aside0.mk (below_step (by repeat (first | (with_reducible first | exact HB.out | apply below_alloc | apply pw_below_drewN | apply below_drew1 | refine below_set ?_ GE143.out) | exact HB.out)) hb); clear BK143; clear HB; have BK143 := n0_; have HB := n1_; clear n0_ n1_; (try clear hb); (try clear hb2); (try clear hk); (try clear hi)))
   go_ret
   exact ⟨by first | rfl | (simp [errW_none, errW_some] <;> rfl) | (simp [*, errW_none, errW_some] <;> rfl), by repeat (first | (with_reducible first | exact HB.out | apply below_alloc | apply pw_below_drewN | apply below_drew1 | refine below_set ?_ GE143.out) | exact HB.out)⟩
 replace c3 := Bool.eq_false_iff.mpr c3
 subst c3
 have H1 : ((some (([(⟨#[]⟩ : ByteArray), (⟨#[97, 10, 98]⟩ : ByteArray), (⟨#[128]⟩ : ByteArray), (⟨#[127]⟩ : ByteArray), (⟨#[239, 191, 189]⟩ : ByteArray), (⟨#[237, 160, 128]⟩ : ByteArray), (⟨#[195, 169, 230, 151, 165, 240, 159, 152, 128]⟩ : ByteArray), (⟨#[97, 0]⟩ : ByteArray)] : List ByteArray) : List ByteArray)).bind fun y145 => (if y145.length + l0_0.length < 8796093022208 then (lectionarylaw3_TextExact.l0 k (y145 ++ l0_0) 0 l0_0 l0_1 l0_2) else (none))) = some r := by rw [if_neg (show ¬ (false = true) by decide)] at H; exact H
 clear H
 have H := H1
 clear H1
 obtain ⟨y145, hy145⟩ : ∃ y_ : List ByteArray, y_ = (([(⟨#[]⟩ : ByteArray), (⟨#[97, 10, 98]⟩ : ByteArray), (⟨#[128]⟩ : ByteArray), (⟨#[127]⟩ : ByteArray), (⟨#[239, 191, 189]⟩ : ByteArray), (⟨#[237, 160, 128]⟩ : ByteArray), (⟨#[195, 169, 230, 151, 165, 240, 159, 152, 128]⟩ : ByteArray), (⟨#[97, 0]⟩ : ByteArray)] : List ByteArray)) := ⟨_, rfl⟩
 replace H : (if y145.length + l0_0.length < 8796093022208 then (lectionarylaw3_TextExact.l0 k (y145 ++ l0_0) 0 l0_0 l0_1 l0_2) else (none)) = some r := by first | (rw [hy145]; with_reducible exact H) | (have H2_ := (Option.bind_some _ _).symm.trans H; rw [hy145]; with_reducible exact H2_) | (have H2_ := (Option.bind_some _ _).symm.trans H; with_reducible exact H2_) | with_reducible exact H | (rw [hy145]; exact H) | exact H
 have Ny145 := Aside0.mk hy145
 clear hy145
 by_cases c7 : y145.length + l0_0.length < 8796093022208
 rotate_left
 ·
  rw [if_neg c7] at H
  exact absurd H (by simp)
 rw [if_pos c7] at H
 have LMc7 := Aside0.mk c7
 clear c7
 obtain ⟨y148, hy148⟩ : ∃ y_ : List ByteArray, y_ = (y145 ++ l0_0) := ⟨_, rfl⟩
 replace H : (lectionarylaw3_TextExact.l0 k y148 0 l0_0 l0_1 l0_2) = some r := by first | (rw [hy148]; with_reducible exact H) | (have H2_ := (Option.bind_some _ _).symm.trans H; rw [hy148]; with_reducible exact H2_) | (have H2_ := (Option.bind_some _ _).symm.trans H; with_reducible exact H2_) | with_reducible exact H | (rw [hy148]; exact H) | exact H
 have Ny148 := Aside0.mk hy148
 clear hy148
 have H' := Aside0.mk H
 clear H
 go_enter Tryd.func4, Tryd.ntmps4
 go_wp2_with (first | ((with_reducible refine gate_dst (N := 1) rfl ?_); (try (refine gate_guard (by rfl) ?_; dsimp only)); refine box_event ?hg (N := 1) ?hd (cs := #[.slice A0_0 l0_0.length c0_0, .slice A0_1 l0_1.length c0_1, .slice A0_2 l0_2.length c0_2]) (t := 26) ?hr ?_; (case hd => rfl); (case hg => rfl); (case hr => first | (go_simp; done) | (go_simp; rfl)); intro gb143 hg w8 hbox hb; have n0_ := Aside0.mk (below_step (by repeat (first | (with_reducible first | exact HB.out | apply below_alloc | apply pw_below_drewN | apply below_drew1) | exact HB.out)) hb); have n1_ := Aside0.mk (hbox); have n2_ := Aside0.mk ((by rw [hg]; exact (below_size (by repeat (first | (with_reducible first | exact HB.out | apply below_alloc | apply pw_below_drewN | apply below_drew1) | exact HB.out))) : w.heap.size ≤ gb143)); have n3_ := Aside0.mk ((by rw [hg]; exact (below_size (by repeat (first | (with_reducible first | exact HB.out | apply below_alloc | apply pw_below_drewN | apply below_drew1) | exact HB.out))) : w.heap.size ≤ gb143)); clear HB; have HB := n0_; have BK143 := n1_; have GW143 := n2_; have GE143 := n3_; clear n0_ n1_ n2_ n3_; clear hb hbox hg; have hcz9_0 : w8.cell? ⟨gb143, 0, none⟩ = some (.slice A0_0 l0_0.length c0_0) := (blk_cell BK143.out 0).trans rfl; have hcz9_1 : w8.cell? ⟨gb143, 1, none⟩ = some (.slice A0_1 l0_1.length c0_1) := (blk_cell BK143.out 1).trans rfl; have hcz9_2 : w8.cell? ⟨gb143, 2, none⟩ = some (.slice A0_2 l0_2.length c0_2) := (blk_cell BK143.out 2).trans rfl; have hfz9_0 := blk_frozen BK143.out 0; have hfz9_1 := blk_frozen BK143.out 1; have hfz9_2 := blk_frozen BK143.out 2) | ((with_reducible refine gate_callee (f := 10) rfl ?_); refine goesL_ (some 27) rfl rfl Tryd.func10 (by kernel_rfl) rfl #[.agg #[.slice A0_0 l0_0.length c0_0, .slice A0_1 l0_1.length c0_1, .slice A0_2 l0_2.length c0_2]] rfl (by (try simp only [List.map_toArray, List.map_cons, List.map_nil]); first | done | rfl | (simp only [List.length_drop, List.length_take]; rfl)) ?_; (with_reducible refine (lectionarylaw3_Heavy.calls k _ _ l0_0 _ _ l0_1 _ _ l0_2 false _ ?side1 ?side2 ?side3 ?side4 ?side5 ?side6 A2.out).mono ?_); (case side1 => repeat (first | exact (Kd.C_below HR0_0.out HB.out) | (with_reducible refine Kd.C_alloc ?_ _) | (with_reducible refine Kd.C_drewN ?_ _) | (with_reducible refine Kd.C_drew ?_))); (case side2 => exact HC0_0.out); (case side3 => repeat (first | exact (Kd.C_below HR0_1.out HB.out) | (with_reducible refine Kd.C_alloc ?_ _) | (with_reducible refine Kd.C_drewN ?_ _) | (with_reducible refine Kd.C_drew ?_))); (case side4 => exact HC0_1.out); (case side5 => repeat (first | exact (Kd.C_below HR0_2.out HB.out) | (with_reducible refine Kd.C_alloc ?_ _) | (with_reducible refine Kd.C_drewN ?_ _) | (with_reducible refine Kd.C_drew ?_))); (case side6 => exact HC0_2.out); rintro e w10 ⟨rfl, hb⟩; refine ⟨_, rfl, ?_⟩; have n0_ := Aside0.mk (blk_below (g := gb143) (o := .cells #[.slice A0_0 l0_0.length c0_0, .slice A0_1 l0_1.length c0_1, .slice A0_2 l0_2.length c0_2] 26 (0, 0)) (by (with_reducible repeat (first | refine blk_drewN ?_ _ | refine blk_drew ?_ | refine blk_alloc ?_ _)); exact BK143.out) hb); have n1_ := Aside0.mk (below_step (by repeat (first | (with_reducible first | exact HB.out | apply below_alloc | apply pw_below_drewN | apply below_drew1 | refine below_set ?_ GE143.out) | exact HB.out)) hb); clear BK143; clear HB; have BK143 := n0_; have HB := n1_; clear n0_ n1_; (try clear hb); (try clear hb2); (try clear hk); (try clear hi)) | ((with_reducible refine gate_dst (N := 28) rfl ?_); (try (refine gate_guard (by rfl) ?_; dsimp only)); refine Kd.R_lit Kd.string _ 9 ?hg (N := 28) ?hd (xs := ([(⟨#[]⟩ : ByteArray), (⟨#[97, 10, 98]⟩ : ByteArray), (⟨#[128]⟩ : ByteArray), (⟨#[127]⟩ : ByteArray), (⟨#[239, 191, 189]⟩ : ByteArray), (⟨#[237, 160, 128]⟩ : ByteArray), (⟨#[195, 169, 230, 151, 165, 240, 159, 152, 128]⟩ : ByteArray), (⟨#[97, 0]⟩ : ByteArray)] : List ByteArray)) (inner := [.string (⟨#[]⟩ : ByteArray), .string (⟨#[97, 10, 98]⟩ : ByteArray), .string (⟨#[128]⟩ : ByteArray), .string (⟨#[127]⟩ : ByteArray), .string (⟨#[239, 191, 189]⟩ : ByteArray), .string (⟨#[237, 160, 128]⟩ : ByteArray), .string (⟨#[195, 169, 230, 151, 165, 240, 159, 152, 128]⟩ : ByteArray), .string (⟨#[97, 0]⟩ : ByteArray)]) (ok := fun _ => True) (okp := fun _ => True) ?hr ?hp (fun _ hk => hk) trivial (Below.refl _ _) (Nat.le_refl _) (by simp) ?_; (case hd => rfl); (case hg => rfl); (case hr => first | (go_simp; done) | (go_simp; rfl)); (case hp => exact (Reps.one (show Kd.M Kd.string _ _ _ (⟨#[]⟩ : ByteArray) [.string (⟨#[]⟩ : ByteArray)] from rfl) (Reps.one (show Kd.M Kd.string _ _ _ (⟨#[97, 10, 98]⟩ : ByteArray) [.string (⟨#[97, 10, 98]⟩ : ByteArray)] from rfl) (Reps.one (show Kd.M Kd.string _ _ _ (⟨#[128]⟩ : ByteArray) [.string (⟨#[128]⟩ : ByteArray)] from rfl) (Reps.one (show Kd.M Kd.string _ _ _ (⟨#[127]⟩ : ByteArray) [.string (⟨#[127]⟩ : ByteArray)] from rfl) (Reps.one (show Kd.M Kd.string _ _ _ (⟨#[239, 191, 189]⟩ : ByteArray) [.string (⟨#[239, 191, 189]⟩ : ByteArray)] from rfl) (Reps.one (show Kd.M Kd.string _ _ _ (⟨#[237, 160, 128]⟩ : ByteArray) [.string (⟨#[237, 160, 128]⟩ : ByteArray)] from rfl) (Reps.one (show Kd.M Kd.string _ _ _ (⟨#[195, 169, 230, 151, 165, 240, 159, 152, 128]⟩ : ByteArray) [.string (⟨#[195, 169, 230, 151, 165, 240, 159, 152, 128]⟩ : ByteArray)] from rfl) (Reps.one (show Kd.M Kd.string _ _ _ (⟨#[97, 0]⟩ : ByteArray) [.string (⟨#[97, 0]⟩ : ByteArray)] from rfl) (Reps.none _ _)))))))))); intro v146 w11 ho12 hb hg_ hnew_; clear hg_ hnew_; (first | rw [← Ny145.out] at ho12 | (simp only [Int.reduceToNat] at ho12; rw [← Ny145.out] at ho12)); have n0_ := Aside0.mk (Kd.R_lower ho12 (below_size (by repeat (first | (with_reducible first | exact HB.out | apply below_alloc | apply pw_below_drewN | apply below_drew1 | refine below_set ?_ GE143.out) | exact HB.out)))); have n1_ := Aside0.mk (blk_below (g := gb143) (o := .cells #[.slice A0_0 l0_0.length c0_0, .slice A0_1 l0_1.length c0_1, .slice A0_2 l0_2.length c0_2] 26 (0, 0)) (by (with_reducible repeat (first | refine blk_drewN ?_ _ | refine blk_drew ?_ | refine blk_alloc ?_ _)); exact BK143.out) hb); have n2_ := Aside0.mk (below_step (by repeat (first | (with_reducible first | exact HB.out | apply below_alloc | apply pw_below_drewN | apply below_drew1 | refine below_set ?_ GE143.out) | exact HB.out)) hb); clear BK143; clear HB; have HO147 := n0_; have BK143 := n1_; have HB := n2_; clear n0_ n1_ n2_; clear hb ho12; have hcz13_0 : w11.cell? ⟨gb143, 0, none⟩ = some (.slice A0_0 l0_0.length c0_0) := (blk_cell BK143.out 0).trans rfl; have hcz13_1 : w11.cell? ⟨gb143, 1, none⟩ = some (.slice A0_1 l0_1.length c0_1) := (blk_cell BK143.out 1).trans rfl; have hcz13_2 : w11.cell? ⟨gb143, 2, none⟩ = some (.slice A0_2 l0_2.length c0_2) := (blk_cell BK143.out 2).trans rfl; have hfz13_0 := blk_frozen BK143.out 0; have hfz13_1 := blk_frozen BK143.out 1; have hfz13_2 := blk_frozen BK143.out 2) | ((with_reducible refine gate_builtin (b := .append) (xs := #[.tmp 28, .tmp 30]) rfl ?_); (try (refine gate_guard (by rfl) ?_; dsimp only)); at_builtin; refine Kd.R_append_rows Kd.string (w0 := w) w.heap.size rfl (.tmp 28) (.tmp 30) 22 9 (.string ⟨#[]⟩) 16 rfl Tryd.underlying22 info9 rfl (by decide) (by omega) v146 y145 l0_0 _ _ _ (fun _ => True) (fun _ => False) rfl rfl ?aO ?aR (fun _ _ h => h) (fun _ h => h.elim) ?aF ?aB ?aS ?aL ?_; (case aR => repeat (first | exact (Kd.C_below HR0_0.out HB.out) | (with_reducible refine Kd.C_alloc ?_ _) | (with_reducible refine Kd.C_drewN ?_ _) | (with_reducible refine Kd.C_drew ?_))); (case aB => exact (by repeat (first | (with_reducible first | exact HB.out | apply below_alloc | apply pw_below_drewN | apply below_drew1 | refine below_set ?_ GE143.out) | exact HB.out))); (case aF => exact (fun _ _ => trivial)); (case aO => exact (by (with_reducible repeat (first | apply Kd.R_alloc | apply Kd.R_drewN | apply Kd.R_drew)); exact HO147.out)); (case aS => exact (below_size (by repeat (first | (with_reducible first | exact HB.out | apply below_alloc | apply pw_below_drewN | apply below_drew1 | refine below_set ?_ GE143.out) | exact HB.out)))); (case aL => have := LMc7.out; omega); intro v149 w14 ho hb hg hat; rw [← Ny148.out] at ho; have n0_ := Aside0.mk (blk_grown (g := gb143) (o := .cells #[.slice A0_0 l0_0.length c0_0, .slice A0_1 l0_1.length c0_1, .slice A0_2 l0_2.length c0_2] 26 (0, 0)) (by (with_reducible repeat (first | refine blk_drewN ?_ _ | refine blk_drew ?_ | refine blk_alloc ?_ _)); exact BK143.out) hg (Kd.R_ne HO147.out BK143.out (by decide))); have n1_ := Aside0.mk (hb); have n2_ := Aside0.mk (ho); clear BK143; clear HB; clear HO147; have BK143 := n0_; have HB := n1_; have HO150 := n2_; clear n0_ n1_ n2_; clear ho hb hg hat))
 go_loopg [4] k (fun kq v4 w' => ∃ (x4_1 : Int), v4 = .int .i64 x4_1 ∧ Aside0 (lectionarylaw3_TextExact.l0 kq y148 x4_1 l0_0 l0_1 l0_2 = some r) ∧ Aside0 (kq ≤ k) ∧ Aside0 (Kd.R Kd.string 9 w' w.heap.size (fun _ => True) v149 y148) ∧ Aside0 (w'.heap[gb143]? = some (.cells #[(.slice A0_0 l0_0.length c0_0), (.slice A0_1 l0_1.length c0_1), (.slice A0_2 l0_2.length c0_2)] 26 (0, 0))) ∧ Aside0 (Below w.heap.size w w'))
 case atStart => exact ⟨(0), (by first | rfl | (simp; done) | (simp [*]; done)), H', ⟨Nat.le_refl _⟩, ⟨by (with_reducible repeat (first | apply Kd.R_alloc | apply Kd.R_drewN | apply Kd.R_drew)); exact HO150.out⟩, ⟨by (with_reducible repeat (first | refine blk_drewN ?_ _ | refine blk_drew ?_ | refine blk_alloc ?_ _)); exact BK143.out⟩, ⟨by repeat (first | (with_reducible first | exact HB.out | apply below_alloc | apply pw_below_drewN | apply below_drew1 | refine below_set ?_ GE143.out) | exact HB.out)⟩⟩
 clear H'
 try clear c1
 try clear p2
 try clear c3
 try clear c4
 try clear c7
 try clear c10
 try clear hcz13_0
 try clear hcz13_1
 try clear hcz13_2
 try clear hcz5_0
 try clear hcz5_1
 try clear hcz5_2
 try clear hcz9_0
 try clear hcz9_1
 try clear hcz9_2
 try clear hfz13_0
 try clear hfz13_1
 try clear hfz13_2
 try clear hfz5_0
 try clear hfz5_1
 try clear hfz5_2
 try clear hfz9_0
 try clear hfz9_1
 try clear hfz9_2
 obtain ⟨x4_1, rfl, HA, HK1, HO_3, BK143, HB⟩ := hrel
 cases gk with
 | zero => exact absurd HA.out (by simp [lectionarylaw3_TextExact.l0])
 | succ k1 =>
  have H := HA.out
  clear HA
  simp only [lectionarylaw3_TextExact.l0] at H
  have HC15 := Aside0.mk H
  clear H
  go_upto_region 5 with (fail)
  go_cut [39] (fun v39 wc => ∃ (kq : Nat) (x39_14 : Bool), v39 = .bool x39_14 ∧ Aside0 (lectionarylaw3_TextExact.j1 kq y148 x4_1 x39_14 l0_0 l0_1 l0_2 = some r) ∧ Aside0 (kq ≤ k1) ∧ Aside0 (Kd.R Kd.string 9 wc w.heap.size (fun _ => True) v149 y148) ∧ Aside0 (wc.heap[gb143]? = some (.cells #[(.slice A0_0 l0_0.length c0_0), (.slice A0_1 l0_1.length c0_1), (.slice A0_2 l0_2.length c0_2)] 26 (0, 0))) ∧ Aside0 (Below w.heap.size w wc))
  case first =>
   have H := HC15.out
   clear HC15
   by_cases c16 : x4_1 < (y148.length : Int)
   ·
    rw [if_pos c16] at H
    have c16b0 : decide (x4_1 < (y148.length : Int)) = true := decide_eq_true c16
    clear c16
    (first | rw [c16b0] | (simp only [i64_w, i32_w]; rw [c16b0]) | skip)
    as_aux_lemma =>
     have H' := Aside0.mk H
     clear H
     obtain ⟨Ao17, co17, eo17⟩ := Kd.R_slice HO_3.out
     subst eo17
     go_wp2
     go_meet
     case rel => exact ⟨_, (decide (x4_1 < 16)), (by first | rfl | (simp; done) | (simp [*]; done)), H', ⟨by have := HK1.out; first | omega | exact Nat.le_refl _⟩, ⟨by (with_reducible repeat (first | apply Kd.R_alloc | apply Kd.R_drewN | apply Kd.R_drew)); exact HO_3.out⟩, ⟨by (with_reducible repeat (first | refine blk_drewN ?_ _ | refine blk_drew ?_ | refine blk_alloc ?_ _)); exact BK143.out⟩, ⟨by repeat (first | (with_reducible first | exact HB.out | apply below_alloc | apply pw_below_drewN | apply below_drew1 | refine below_set ?_ GE143.out) | exact HB.out)⟩⟩
   rw [if_neg c16] at H
   have c16b0 : decide (x4_1 < (y148.length : Int)) = false := decide_eq_false c16
   clear c16
   (first | rw [c16b0] | (simp only [i64_w, i32_w]; rw [c16b0]) | skip)
   as_aux_lemma =>
    have H' := Aside0.mk H
    clear H
    obtain ⟨Ao18, co18, eo18⟩ := Kd.R_slice HO_3.out
    subst eo18
    go_wp2
    go_meet
    case rel => exact ⟨_, (false), (by first | rfl | (simp; done) | (simp [*]; done)), H', ⟨by have := HK1.out; first | omega | exact Nat.le_refl _⟩, ⟨by (with_reducible repeat (first | apply Kd.R_alloc | apply Kd.R_drewN | apply Kd.R_drew)); exact HO_3.out⟩, ⟨by (with_reducible repeat (first | refine blk_drewN ?_ _ | refine blk_drew ?_ | refine blk_alloc ?_ _)); exact BK143.out⟩, ⟨by repeat (first | (with_reducible first | exact HB.out | apply below_alloc | apply pw_below_drewN | apply below_drew1 | refine below_set ?_ GE143.out) | exact HB.out)⟩⟩
  case rest =>
   clear HC15
   try clear c1
   try clear p2
   try clear c3
   try clear c4
   try clear c7
   try clear c10
   try clear c16
   try clear c16b0
   try clear hcz13_0
   try clear hcz13_1
   try clear hcz13_2
   try clear hcz5_0
   try clear hcz5_1
   try clear hcz5_2
   try clear hcz9_0
   try clear hcz9_1
   try clear hcz9_2
   try clear hfz13_0
   try clear hfz13_1
   try clear hfz13_2
   try clear hfz5_0
   try clear hfz5_1
   try clear hfz5_2
   try clear hfz9_0
   try clear hfz9_1
   try clear hfz9_2
   try clear p2
   obtain ⟨kq, x39_14, rfl, HA, HJ14, HO_3, BK143, HB⟩ := hcut
   cases kq with
   | zero => exact absurd HA.out (by simp [lectionarylaw3_TextExact.j1])
   | succ kj14 =>
    have H := HA.out
    clear HA
    simp only [lectionarylaw3_TextExact.j1] at H
    by_cases c19 : x39_14 = true
    rotate_left
    ·
     replace c19 := Bool.eq_false_iff.mpr c19
     subst c19
     have H1 : ((some (([0, 9, 10, 31, 32, 126, 127, 128, 55295, 55296, 57343, 57344, 65532, 65533, 65534, 1114111, 1114112, (-1)] : List Int) : List Int)).bind fun y193 => (if y193.length + l0_1.length < 35184372088832 then (lectionarylaw3_TextExact.l3 kj14 (y193 ++ l0_1) 0) else (none))) = some r := by rw [if_neg (show ¬ (false = true) by decide)] at H; exact H
     clear H
     have H := H1
     clear H1
     obtain ⟨y193, hy193⟩ : ∃ y_ : List Int, y_ = (([0, 9, 10, 31, 32, 126, 127, 128, 55295, 55296, 57343, 57344, 65532, 65533, 65534, 1114111, 1114112, (-1)] : List Int)) := ⟨_, rfl⟩
     replace H : (if y193.length + l0_1.length < 35184372088832 then (lectionarylaw3_TextExact.l3 kj14 (y193 ++ l0_1) 0) else (none)) = some r := by first | (rw [hy193]; with_reducible exact H) | (have H2_ := (Option.bind_some _ _).symm.trans H; rw [hy193]; with_reducible exact H2_) | (have H2_ := (Option.bind_some _ _).symm.trans H; with_reducible exact H2_) | with_reducible exact H | (rw [hy193]; exact H) | exact H
     have Ny193 := Aside0.mk hy193
     clear hy193
     by_cases c103 : y193.length + l0_1.length < 35184372088832
     rotate_left
     ·
      rw [if_neg c103] at H
      exact absurd H (by simp)
     rw [if_pos c103] at H
     have LMc103 := Aside0.mk c103
     clear c103
     obtain ⟨y196, hy196⟩ : ∃ y_ : List Int, y_ = (y193 ++ l0_1) := ⟨_, rfl⟩
     replace H : (lectionarylaw3_TextExact.l3 kj14 y196 0) = some r := by first | (rw [hy196]; with_reducible exact H) | (have H2_ := (Option.bind_some _ _).symm.trans H; rw [hy196]; with_reducible exact H2_) | (have H2_ := (Option.bind_some _ _).symm.trans H; with_reducible exact H2_) | with_reducible exact H | (rw [hy196]; exact H) | exact H
     have Ny196 := Aside0.mk hy196
     clear hy196
     have H' := Aside0.mk H
     clear H
     go_wp2_with (first | ((with_reducible refine gate_dst (N := 192) rfl ?_); (try (refine gate_guard (by rfl) ?_; dsimp only)); refine Kd.R_lit (Kd.int .i32) _ 21 ?hg (N := 192) ?hd (xs := ([0, 9, 10, 31, 32, 126, 127, 128, 55295, 55296, 57343, 57344, 65532, 65533, 65534, 1114111, 1114112, (-1)] : List Int)) (inner := [.int .i32 0, .int .i32 9, .int .i32 10, .int .i32 31, .int .i32 32, .int .i32 126, .int .i32 127, .int .i32 128, .int .i32 55295, .int .i32 55296, .int .i32 57343, .int .i32 57344, .int .i32 65532, .int .i32 65533, .int .i32 65534, .int .i32 1114111, .int .i32 1114112, .int .i32 (-1)]) (ok := fun _ => True) (okp := fun _ => True) ?hr ?hp (fun _ hk => hk) trivial (Below.refl _ _) (Nat.le_refl _) (by simp) ?_; (case hd => rfl); (case hg => rfl); (case hr => first | (go_simp; done) | (go_simp; rfl)); (case hp => exact (Reps.one (show Kd.M (Kd.int .i32) _ _ _ 0 [.int .i32 0] from rfl) (Reps.one (show Kd.M (Kd.int .i32) _ _ _ 9 [.int .i32 9] from rfl) (Reps.one (show Kd.M (Kd.int .i32) _ _ _ 10 [.int .i32 10] from rfl) (Reps.one (show Kd.M (Kd.int .i32) _ _ _ 31 [.int .i32 31] from rfl) (Reps.one (show Kd.M (Kd.int .i32) _ _ _ 32 [.int .i32 32] from rfl) (Reps.one (show Kd.M (Kd.int .i32) _ _ _ 126 [.int .i32 126] from rfl) (Reps.one (show Kd.M (Kd.int .i32) _ _ _ 127 [.int .i32 127] from rfl) (Reps.one (show Kd.M (Kd.int .i32) _ _ _ 128 [.int .i32 128] from rfl) (Reps.one (show Kd.M (Kd.int .i32) _ _ _ 55295 [.int .i32 55295] from rfl) (Reps.one (show Kd.M (Kd.int .i32) _ _ _ 55296 [.int .i32 55296] from rfl) (Reps.one (show Kd.M (Kd.int .i32) _ _ _ 57343 [.int .i32 57343] from rfl) (Reps.one (show Kd.M (Kd.int .i32) _ _ _ 57344 [.int .i32 57344] from rfl) (Reps.one (show Kd.M (Kd.int .i32) _ _ _ 65532 [.int .i32 65532] from rfl) (Reps.one (show Kd.M (Kd.int .i32) _ _ _ 65533 [.int .i32 65533] from rfl) (Reps.one (show Kd.M (Kd.int .i32) _ _ _ 65534 [.int .i32 65534] from rfl) (Reps.one (show Kd.M (Kd.int .i32) _ _ _ 1114111 [.int .i32 1114111] from rfl) (Reps.one (show Kd.M (Kd.int .i32) _ _ _ 1114112 [.int .i32 1114112] from rfl) (Reps.one (show Kd.M (Kd.int .i32) _ _ _ (-1) [.int .i32 (-1)] from rfl) (Reps.none _ _)))))))))))))))))))); intro v194 w104 ho105 hb hg_ hnew_; clear hg_ hnew_; (first | rw [← Ny193.out] at ho105 | (simp only [Int.reduceToNat] at ho105; rw [← Ny193.out] at ho105)); have n0_ := Aside0.mk (Kd.R_below (by (with_reducible repeat (first | apply Kd.R_alloc | apply Kd.R_drewN | apply Kd.R_drew)); exact HO_3.out) hb); have n1_ := Aside0.mk (Kd.R_lower ho105 (below_size (by repeat (first | (with_reducible first | exact HB.out | apply below_alloc | apply pw_below_drewN | apply below_drew1 | refine below_set ?_ GE143.out) | exact HB.out)))); have n2_ := Aside0.mk (blk_below (g := gb143) (o := .cells #[.slice A0_0 l0_0.length c0_0, .slice A0_1 l0_1.length c0_1, .slice A0_2 l0_2.length c0_2] 26 (0, 0)) (by (with_reducible repeat (first | refine blk_drewN ?_ _ | refine blk_drew ?_ | refine blk_alloc ?_ _)); exact BK143.out) hb); have n3_ := Aside0.mk (below_step (by repeat (first | (with_reducible first | exact HB.out | apply below_alloc | apply pw_below_drewN | apply below_drew1 | refine below_set ?_ GE143.out) | exact HB.out)) hb); clear HO_3; clear BK143; clear HB; have HO_3 := n0_; have HO195 := n1_; have BK143 := n2_; have HB := n3_; clear n0_ n1_ n2_ n3_; clear hb ho105; have hcz106_0 : w104.cell? ⟨gb143, 0, none⟩ = some (.slice A0_0 l0_0.length c0_0) := (blk_cell BK143.out 0).trans rfl; have hcz106_1 : w104.cell? ⟨gb143, 1, none⟩ = some (.slice A0_1 l0_1.length c0_1) := (blk_cell BK143.out 1).trans rfl; have hcz106_2 : w104.cell? ⟨gb143, 2, none⟩ = some (.slice A0_2 l0_2.length c0_2) := (blk_cell BK143.out 2).trans rfl; have hfz106_0 := blk_frozen BK143.out 0; have hfz106_1 := blk_frozen BK143.out 1; have hfz106_2 := blk_frozen BK143.out 2) | ((with_reducible refine gate_builtin (b := .append) (xs := #[.tmp 192, .tmp 194]) rfl ?_); (try (refine gate_guard (by rfl) ?_; dsimp only)); at_builtin; refine Kd.R_append_rows (Kd.int .i32) (w0 := w) w.heap.size rfl (.tmp 192) (.tmp 194) 23 21 (.int .i32 0) 4 rfl Tryd.underlying23 info21 rfl (by decide) (by omega) v194 y193 l0_1 _ _ _ (fun _ => True) (fun _ => False) rfl rfl ?aO ?aR (fun _ _ h => h) (fun _ h => h.elim) ?aF ?aB ?aS ?aL ?_; (case aR => repeat (first | exact (Kd.C_below HR0_1.out HB.out) | (with_reducible refine Kd.C_alloc ?_ _) | (with_reducible refine Kd.C_drewN ?_ _) | (with_reducible refine Kd.C_drew ?_))); (case aB => exact (by repeat (first | (with_reducible first | exact HB.out | apply below_alloc | apply pw_below_drewN | apply below_drew1 | refine below_set ?_ GE143.out) | exact HB.out))); (case aF => exact (fun _ _ => trivial)); (case aO => exact (by (with_reducible repeat (first | apply Kd.R_alloc | apply Kd.R_drewN | apply Kd.R_drew)); exact HO195.out)); (case aS => exact (below_size (by repeat (first | (with_reducible first | exact HB.out | apply below_alloc | apply pw_below_drewN | apply below_drew1 | refine below_set ?_ GE143.out) | exact HB.out)))); (case aL => have := LMc103.out; omega); intro v197 w107 ho hb hg hat; rw [← Ny196.out] at ho; have n0_ := Aside0.mk (Kd.R_over' (by (with_reducible repeat (first | apply Kd.R_alloc | apply Kd.R_drewN | apply Kd.R_drew)); exact HO_3.out) (Kd.R_typed (by (with_reducible repeat (first | apply Kd.R_alloc | apply Kd.R_drewN | apply Kd.R_drew)); exact HO195.out)) (by decide) hg); have n1_ := Aside0.mk (blk_grown (g := gb143) (o := .cells #[.slice A0_0 l0_0.length c0_0, .slice A0_1 l0_1.length c0_1, .slice A0_2 l0_2.length c0_2] 26 (0, 0)) (by (with_reducible repeat (first | refine blk_drewN ?_ _ | refine blk_drew ?_ | refine blk_alloc ?_ _)); exact BK143.out) hg (Kd.R_ne HO195.out BK143.out (by decide))); have n2_ := Aside0.mk (hb); have n3_ := Aside0.mk (ho); clear HO_3; clear BK143; clear HB; clear HO195; have HO_3 := n0_; have BK143 := n1_; have HB := n2_; have HO198 := n3_; clear n0_ n1_ n2_ n3_; clear ho hb hg hat))
     go_loopg [20] kj14 (fun kq v20 w' => ∃ (x20_3 : Int), v20 = .int .i64 x20_3 ∧ Aside0 (lectionarylaw3_TextExact.l3 kq y196 x20_3 = some r) ∧ Aside0 (kq ≤ kj14) ∧ Aside0 (Kd.R (Kd.int .i32) 21 w' w.heap.size (fun _ => True) v197 y196) ∧ Aside0 (w'.heap[gb143]? = some (.cells #[(.slice A0_0 l0_0.length c0_0), (.slice A0_1 l0_1.length c0_1), (.slice A0_2 l0_2.length c0_2)] 26 (0, 0))) ∧ Aside0 (Below w.heap.size w w'))
     case atStart => exact ⟨(0), (by first | rfl | (simp; done) | (simp [*]; done)), H', ⟨Nat.le_refl _⟩, ⟨by (with_reducible repeat (first | apply Kd.R_alloc | apply Kd.R_drewN | apply Kd.R_drew)); exact HO198.out⟩, ⟨by (with_reducible repeat (first | refine blk_drewN ?_ _ | refine blk_drew ?_ | refine blk_alloc ?_ _)); exact BK143.out⟩, ⟨by repeat (first | (with_reducible first | exact HB.out | apply below_alloc | apply pw_below_drewN | apply below_drew1 | refine below_set ?_ GE143.out) | exact HB.out)⟩⟩
     clear H'
     try clear c1
     try clear p1
     try clear q1
     try clear hx1
     try clear c2
     try clear p2
     try clear c5
     try clear c6
     try clear p6
     try clear c7
     try clear c8
     try clear c9
     try clear q9
     try clear c10
     try clear c14
     try clear p18
     try clear q18
     try clear hx18
     try clear c19
     try clear c20
     try clear c21
     try clear c55
     try clear p64
     try clear c65
     try clear c70
     try clear c71
     try clear c72
     try clear c73
     try clear c74
     try clear c75
     try clear c76
     try clear c82
     try clear c84
     try clear c84b0
     try clear c85
     try clear c85b0
     try clear c89
     try clear c90
     try clear c90b0
     try clear c91
     try clear c91b0
     try clear c92
     try clear c92b0
     try clear c93
     try clear c93b0
     try clear c94
     try clear c94b0
     try clear c94b1
     try clear c95
     try clear c95b0
     try clear c95b1
     try clear c96
     try clear c96b0
     try clear c96b1
     try clear c99
     try clear q99
     try clear c101
     try clear c101b0
     try clear c101b1
     try clear c102
     try clear c102b0
     try clear c102b1
     try clear c103
     try clear hcz106_0
     try clear hcz106_1
     try clear hcz106_2
     try clear hfz106_0
     try clear hfz106_1
     try clear hfz106_2
     try clear hx181_0
     try clear hx182_0
     try clear hx183_0
     try clear hx184_0
     try clear hx185_0
     try clear hx186_0
     try clear p1
     try clear p18
     try clear p181
     try clear p182
     try clear p183
     try clear p185
     try clear p186
     try clear p2
     try clear q099
     try clear q1
     try clear q18
     try clear q181
     try clear q182
     try clear q183
     try clear q184
     try clear q185
     try clear q186
     try clear q9
     try clear q99
     obtain ⟨x20_3, rfl, HA, HK3, HO_19, BK143, HB⟩ := hrel
     cases gk with
     | zero => exact absurd HA.out (by simp [lectionarylaw3_TextExact.l3])
     | succ k3 =>
      have H := HA.out
      clear HA
      simp only [lectionarylaw3_TextExact.l3] at H
      have HC108 := Aside0.mk H
      clear H
      go_upto_region 32 with (fail)
      go_cut [203] (fun v203 wc => ∃ (kq : Nat) (x203_107 : Bool), v203 = .bool x203_107 ∧ Aside0 (lectionarylaw3_TextExact.j11 kq y196 x20_3 x203_107 = some r) ∧ Aside0 (kq ≤ k3) ∧ Aside0 (Kd.R (Kd.int .i32) 21 wc w.heap.size (fun _ => True) v197 y196) ∧ Aside0 (wc.heap[gb143]? = some (.cells #[(.slice A0_0 l0_0.length c0_0), (.slice A0_1 l0_1.length c0_1), (.slice A0_2 l0_2.length c0_2)] 26 (0, 0))) ∧ Aside0 (Below w.heap.size w wc))
      case first =>
       have H := HC108.out
       clear HC108
       by_cases c109 : x20_3 < (y196.length : Int)
       ·
        rw [if_pos c109] at H
        have c109b0 : decide (x20_3 < (y196.length : Int)) = true := decide_eq_true c109
        clear c109
        (first | rw [c109b0] | (simp only [i64_w, i32_w]; rw [c109b0]) | skip)
        as_aux_lemma =>
         have H' := Aside0.mk H
         clear H
         obtain ⟨Ao110, co110, eo110⟩ := Kd.R_slice HO_19.out
         subst eo110
         go_wp2
         go_meet
         case rel => exact ⟨_, (decide (x20_3 < 40)), (by first | rfl | (simp; done) | (simp [*]; done)), H', ⟨by have := HK1.out; have := HJ14.out; have := HK3.out; first | omega | exact Nat.le_refl _⟩, ⟨by (with_reducible repeat (first | apply Kd.R_alloc | apply Kd.R_drewN | apply Kd.R_drew)); exact HO_19.out⟩, ⟨by (with_reducible repeat (first | refine blk_drewN ?_ _ | refine blk_drew ?_ | refine blk_alloc ?_ _)); exact BK143.out⟩, ⟨by repeat (first | (with_reducible first | exact HB.out | apply below_alloc | apply pw_below_drewN | apply below_drew1 | refine below_set ?_ GE143.out) | exact HB.out)⟩⟩
       rw [if_neg c109] at H
       have c109b0 : decide (x20_3 < (y196.length : Int)) = false := decide_eq_false c109
       clear c109
       (first | rw [c109b0] | (simp only [i64_w, i32_w]; rw [c109b0]) | skip)
       as_aux_lemma =>
        have H' := Aside0.mk H
        clear H
        obtain ⟨Ao111, co111, eo111⟩ := Kd.R_slice HO_19.out
        subst eo111
        go_wp2
        go_meet
        case rel => exact ⟨_, (false), (by first | rfl | (simp; done) | (simp [*]; done)), H', ⟨by have := HK1.out; have := HJ14.out; have := HK3.out; first | omega | exact Nat.le_refl _⟩, ⟨by (with_reducible repeat (first | apply Kd.R_alloc | apply Kd.R_drewN | apply Kd.R_drew)); exact HO_19.out⟩, ⟨by (with_reducible repeat (first | refine blk_drewN ?_ _ | refine blk_drew ?_ | refine blk_alloc ?_ _)); exact BK143.out⟩, ⟨by repeat (first | (with_reducible first | exact HB.out | apply below_alloc | apply pw_below_drewN | apply below_drew1 | refine below_set ?_ GE143.out) | exact HB.out)⟩⟩
      case rest =>
       clear HC108
       try clear c1
       try clear p1
       try clear q1
       try clear hx1
       try clear c2
       try clear p2
       try clear c5
       try clear c6
       try clear p6
       try clear c7
       try clear c8
       try clear c9
       try clear q9
       try clear c10
       try clear c14
       try clear p18
       try clear q18
       try clear hx18
       try clear c19
       try clear c20
       try clear c21
       try clear c55
       try clear p64
       try clear c65
       try clear c70
       try clear c71
       try clear c72
       try clear c73
       try clear c74
       try clear c75
       try clear c76
       try clear c82
       try clear c84
       try clear c84b0
       try clear c85
       try clear c85b0
       try clear c89
       try clear c90
       try clear c90b0
       try clear c91
       try clear c91b0
       try clear c92
       try clear c92b0
       try clear c93
       try clear c93b0
       try clear c94
       try clear c94b0
       try clear c94b1
       try clear c95
       try clear c95b0
       try clear c95b1
       try clear c96
       try clear c96b0
       try clear c96b1
       try clear c99
       try clear q99
       try clear c101
       try clear c101b0
       try clear c101b1
       try clear c102
       try clear c102b0
       try clear c102b1
       try clear c103
       try clear c109
       try clear c109b0
       try clear hcz106_0
       try clear hcz106_1
       try clear hcz106_2
       try clear hfz106_0
       try clear hfz106_1
       try clear hfz106_2
       try clear hx181_0
       try clear hx182_0
       try clear hx183_0
       try clear hx184_0
       try clear hx185_0
       try clear hx186_0
       try clear p1
       try clear p18
       try clear p181
       try clear p182
       try clear p183
       try clear p185
       try clear p186
       try clear p2
       try clear p6
       try clear p64
       try clear q099
       try clear q1
       try clear q18
       try clear q181
       try clear q182
       try clear q183
       try clear q184
       try clear q185
       try clear q186
       try clear q9
       try clear q99
       obtain ⟨kq, x203_107, rfl, HA, HJ107, HO_19, BK143, HB⟩ := hcut
       cases kq with
       | zero => exact absurd HA.out (by simp [lectionarylaw3_TextExact.j11])
       | succ kj107 =>
        have H := HA.out
        clear HA
        simp only [lectionarylaw3_TextExact.j11] at H
        by_cases c112 : x203_107 = true
        rotate_left
        ·
         replace c112 := Bool.eq_false_iff.mpr c112
         subst c112
         have H1 : ((lectionarylaw3_wakes.f).bind fun t199 => (some t199)) = some r := by rw [if_neg (show ¬ (false = true) by decide)] at H; exact H
         clear H
         have H := H1
         clear H1
         replace H := Option.bind_eq_some_iff.mp H
         obtain ⟨t199, A1410, H⟩ := H
         replace H : (some t199) = some r := H
         have A141 := Aside0.mk A1410
         clear A1410
         as_aux_lemma =>
          obtain rfl := Option.some.inj H
          go_wp2_with (first | ((with_reducible refine gate_callee (f := 9) rfl ?_); refine goesL_ (some 262) rfl rfl Tryd.func9 (by kernel_rfl) rfl #[] rfl (by (try simp only [List.map_toArray, List.map_cons, List.map_nil]); first | done | rfl | (simp only [List.length_drop, List.length_take]; rfl)) ?_; (with_reducible refine (lectionarylaw3_wakes.calls  t199 _ A141.out).mono ?_); rintro e w142 ⟨rfl, hb⟩; refine ⟨_, rfl, ?_⟩; have n0_ := Aside0.mk (Kd.R_below (by (with_reducible repeat (first | apply Kd.R_alloc | apply Kd.R_drewN | apply Kd.R_drew)); exact HO_19.out) hb); have n1_ := Aside0.mk (blk_below (g := gb143) (o := .cells #[.slice A0_0 l0_0.length c0_0, .slice A0_1 l0_1.length c0_1, .slice A0_2 l0_2.length c0_2] 26 (0, 0)) (by (with_reducible repeat (first | refine blk_drewN ?_ _ | refine blk_drew ?_ | refine blk_alloc ?_ _)); exact BK143.out) hb); have n2_ := Aside0.mk (below_step (by repeat (first | (with_reducible first | exact HB.out | apply below_alloc | apply pw_below_drewN | apply below_drew1 | refine below_set ?_ GE143.out) | exact HB.out)) hb); clear HO_19; clear BK143; clear HB; have HO_19 := n0_; have BK143 := n1_; have HB := n2_; clear n0_ n1_ n2_; (try clear hb); (try clear hb2); (try clear hk); (try clear hi)))
          go_ret
          exact ⟨by first | rfl | (simp [errW_none, errW_some] <;> rfl) | (simp [*, errW_none, errW_some] <;> rfl), by repeat (first | (with_reducible first | exact HB.out | apply below_alloc | apply pw_below_drewN | apply below_drew1 | refine below_set ?_ GE143.out) | exact HB.out)⟩
        subst c112
        have H1 : (if 0 ≤ x20_3 then (if x20_3 < (y196.length : Int) then ((text_Rune.f (rd y196 x20_3)).bind fun t201 => ((lectionarylaw3_num.f t201).bind fun t202 => ((lectionaryref1_Rune.f (rd y196 x20_3)).bind fun t204 => (if ((t202 == 0) != t204) = true then (none) else (if (y196.length : Int) = 0 then (none) else (if 0 ≤ (Int.tmod (wrap64 (x20_3 + 1)) (y196.length : Int)) then (if (Int.tmod (wrap64 (x20_3 + 1)) (y196.length : Int)) < (y196.length : Int) then ((text_Make.f (([rd y196 x20_3, 97, rd y196 (Int.tmod (wrap64 (x20_3 + 1)) (y196.length : Int))] : List Int))).bind fun bt210 => ((some (([rd y196 x20_3, 97, rd y196 (Int.tmod (wrap64 (x20_3 + 1)) (y196.length : Int))] : List Int) : List Int)).bind fun y214 => ((lectionaryref1_All.f kj107 y214).bind fun t217 => (if t217 = true then ((lectionaryref1_Make.f kj107 y214).bind fun t218 => (lectionarylaw3_TextExact.j12 kj107 y196 x20_3 bt210.1 bt210.2 0 t218)) else (lectionarylaw3_TextExact.j12 kj107 y196 x20_3 bt210.1 bt210.2 1 (⟨#[]⟩ : ByteArray)))))) else (none)) else (none))))))) else (none)) else (none)) = some r := by rw [if_pos rfl] at H; exact H
        clear H
        have H := H1
        clear H1
        by_cases c113 : 0 ≤ x20_3
        rotate_left
        ·
         rw [if_neg c113] at H
         exact absurd H (by simp)
        rw [if_pos c113] at H
        have c113b0 : decide (0 ≤ x20_3) = true := decide_eq_true c113
        clear c113
        by_cases c114 : x20_3 < (y196.length : Int)
        rotate_left
        ·
         rw [if_neg c114] at H
         exact absurd H (by simp)
        rw [if_pos c114] at H
        have c114b0 : decide (x20_3 < (y196.length : Int)) = true := decide_eq_true c114
        clear c114
        replace H := Option.bind_eq_some_iff.mp H
        obtain ⟨t201, A1150, H⟩ := H
        replace H : ((lectionarylaw3_num.f t201).bind fun t202 => ((lectionaryref1_Rune.f (rd y196 x20_3)).bind fun t204 => (if ((t202 == 0) != t204) = true then (none) else (if (y196.length : Int) = 0 then (none) else (if 0 ≤ (Int.tmod (wrap64 (x20_3 + 1)) (y196.length : Int)) then (if (Int.tmod (wrap64 (x20_3 + 1)) (y196.length : Int)) < (y196.length : Int) then ((text_Make.f (([rd y196 x20_3, 97, rd y196 (Int.tmod (wrap64 (x20_3 + 1)) (y196.length : Int))] : List Int))).bind fun bt210 => ((some (([rd y196 x20_3, 97, rd y196 (Int.tmod (wrap64 (x20_3 + 1)) (y196.length : Int))] : List Int) : List Int)).bind fun y214 => ((lectionaryref1_All.f kj107 y214).bind fun t217 => (if t217 = true then ((lectionaryref1_Make.f kj107 y214).bind fun t218 => (lectionarylaw3_TextExact.j12 kj107 y196 x20_3 bt210.1 bt210.2 0 t218)) else (lectionarylaw3_TextExact.j12 kj107 y196 x20_3 bt210.1 bt210.2 1 (⟨#[]⟩ : ByteArray)))))) else (none)) else (none)))))) = some r := H
        have A115 := Aside0.mk A1150
        clear A1150
        replace H := Option.bind_eq_some_iff.mp H
        obtain ⟨t202, A1160, H⟩ := H
        replace H : ((lectionaryref1_Rune.f (rd y196 x20_3)).bind fun t204 => (if ((t202 == 0) != t204) = true then (none) else (if (y196.length : Int) = 0 then (none) else (if 0 ≤ (Int.tmod (wrap64 (x20_3 + 1)) (y196.length : Int)) then (if (Int.tmod (wrap64 (x20_3 + 1)) (y196.length : Int)) < (y196.length : Int) then ((text_Make.f (([rd y196 x20_3, 97, rd y196 (Int.tmod (wrap64 (x20_3 + 1)) (y196.length : Int))] : List Int))).bind fun bt210 => ((some (([rd y196 x20_3, 97, rd y196 (Int.tmod (wrap64 (x20_3 + 1)) (y196.length : Int))] : List Int) : List Int)).bind fun y214 => ((lectionaryref1_All.f kj107 y214).bind fun t217 => (if t217 = true then ((lectionaryref1_Make.f kj107 y214).bind fun t218 => (lectionarylaw3_TextExact.j12 kj107 y196 x20_3 bt210.1 bt210.2 0 t218)) else (lectionarylaw3_TextExact.j12 kj107 y196 x20_3 bt210.1 bt210.2 1 (⟨#[]⟩ : ByteArray)))))) else (none)) else (none))))) = some r := H
        have A116 := Aside0.mk A1160
        clear A1160
        replace H := Option.bind_eq_some_iff.mp H
        obtain ⟨t204, A1170, H⟩ := H
        replace H : (if ((t202 == 0) != t204) = true then (none) else (if (y196.length : Int) = 0 then (none) else (if 0 ≤ (Int.tmod (wrap64 (x20_3 + 1)) (y196.length : Int)) then (if (Int.tmod (wrap64 (x20_3 + 1)) (y196.length : Int)) < (y196.length : Int) then ((text_Make.f (([rd y196 x20_3, 97, rd y196 (Int.tmod (wrap64 (x20_3 + 1)) (y196.length : Int))] : List Int))).bind fun bt210 => ((some (([rd y196 x20_3, 97, rd y196 (Int.tmod (wrap64 (x20_3 + 1)) (y196.length : Int))] : List Int) : List Int)).bind fun y214 => ((lectionaryref1_All.f kj107 y214).bind fun t217 => (if t217 = true then ((lectionaryref1_Make.f kj107 y214).bind fun t218 => (lectionarylaw3_TextExact.j12 kj107 y196 x20_3 bt210.1 bt210.2 0 t218)) else (lectionarylaw3_TextExact.j12 kj107 y196 x20_3 bt210.1 bt210.2 1 (⟨#[]⟩ : ByteArray)))))) else (none)) else (none)))) = some r := H
        have A117 := Aside0.mk A1170
        clear A1170
        by_cases c118 : ((t202 == 0) != t204) = true
        ·
         rw [if_pos c118] at H
         exact absurd H (by simp)
        as_aux_lemma =>
         rw [if_neg c118] at H
         have c118b0 : ((t202 == 0) != t204) = false := by simpa using c118
         (try (have c118b1 : decide ((t202 == 0) = t204) = true := by simpa using c118))
         (try (have c118b2 : ((t202 == 0) == t204) = true := by simpa using c118))
         clear c118
         by_cases c119 : (y196.length : Int) = 0
         ·
          rw [if_pos c119] at H
          exact absurd H (by simp)
         as_aux_lemma =>
          rw [if_neg c119] at H
          have c119b0 : ((y196.length : Int) == 0) = false := beq_eq_false_iff_ne.mpr c119
          have c119b1 : ((y196.length : Int) != 0) = true := bne_iff_ne.mpr c119
          have c119b2 : ¬ (y196 = []) := fun h_ => c119 (by rw [h_]; rfl)
          obtain ⟨ji120, hji120⟩ : ∃ j_ : Int, (Int.tmod (wrap64 (x20_3 + 1)) (y196.length : Int)) = j_ := ⟨_, rfl⟩
          replace H : (if 0 ≤ (ji120) then (if (ji120) < (y196.length : Int) then ((text_Make.f (([rd y196 x20_3, 97, rd y196 (ji120)] : List Int))).bind fun bt210 => ((some (([rd y196 x20_3, 97, rd y196 (ji120)] : List Int) : List Int)).bind fun y214 => ((lectionaryref1_All.f kj107 y214).bind fun t217 => (if t217 = true then ((lectionaryref1_Make.f kj107 y214).bind fun t218 => (lectionarylaw3_TextExact.j12 kj107 y196 x20_3 bt210.1 bt210.2 0 t218)) else (lectionarylaw3_TextExact.j12 kj107 y196 x20_3 bt210.1 bt210.2 1 (⟨#[]⟩ : ByteArray)))))) else (none)) else (none)) = some r := by first | (rw [hji120] at H; exact H) | (simp only [hji120] at H ⊢; exact H)
          (try rw [hji120] at A115)
          (try rw [hji120] at A116)
          (try rw [hji120] at A117)
          by_cases c121 : 0 ≤ (ji120)
          rotate_left
          ·
           rw [if_neg c121] at H
           exact absurd H (by simp)
          as_aux_lemma =>
           rw [if_pos c121] at H
           have c121b0 : decide (0 ≤ (ji120)) = true := decide_eq_true c121
           clear c121
           by_cases c122 : (ji120) < (y196.length : Int)
           rotate_left
           ·
            rw [if_neg c122] at H
            exact absurd H (by simp)
           as_aux_lemma =>
            rw [if_pos c122] at H
            have c122b0 : decide ((ji120) < (y196.length : Int)) = true := decide_eq_true c122
            clear c122
            obtain ⟨y207, hy207⟩ : ∃ y_ : List Int, y_ = (([rd y196 x20_3, 97, rd y196 (ji120)] : List Int)) := ⟨_, rfl⟩
            replace H : ((text_Make.f y207).bind fun bt210 => ((some (([rd y196 x20_3, 97, rd y196 (ji120)] : List Int) : List Int)).bind fun y214 => ((lectionaryref1_All.f kj107 y214).bind fun t217 => (if t217 = true then ((lectionaryref1_Make.f kj107 y214).bind fun t218 => (lectionarylaw3_TextExact.j12 kj107 y196 x20_3 bt210.1 bt210.2 0 t218)) else (lectionarylaw3_TextExact.j12 kj107 y196 x20_3 bt210.1 bt210.2 1 (⟨#[]⟩ : ByteArray)))))) = some r := by first | (rw [hy207]; with_reducible exact H) | (have H2_ := (Option.bind_some _ _).symm.trans H; rw [hy207]; with_reducible exact H2_) | (have H2_ := (Option.bind_some _ _).symm.trans H; with_reducible exact H2_) | with_reducible exact H | (rw [hy207]; exact H) | exact H
            have Ny207 := Aside0.mk hy207
            clear hy207
            replace H := Option.bind_eq_some_iff.mp H
            obtain ⟨⟨t210, t211⟩, A1230, H⟩ := H
            replace H : ((some (([rd y196 x20_3, 97, rd y196 (ji120)] : List Int) : List Int)).bind fun y214 => ((lectionaryref1_All.f kj107 y214).bind fun t217 => (if t217 = true then ((lectionaryref1_Make.f kj107 y214).bind fun t218 => (lectionarylaw3_TextExact.j12 kj107 y196 x20_3 t210 t211 0 t218)) else (lectionarylaw3_TextExact.j12 kj107 y196 x20_3 t210 t211 1 (⟨#[]⟩ : ByteArray))))) = some r := H
            have A123 := Aside0.mk A1230
            clear A1230
            obtain ⟨y214, hy214⟩ : ∃ y_ : List Int, y_ = (([rd y196 x20_3, 97, rd y196 (ji120)] : List Int)) := ⟨_, rfl⟩
            replace H : ((lectionaryref1_All.f kj107 y214).bind fun t217 => (if t217 = true then ((lectionaryref1_Make.f kj107 y214).bind fun t218 => (lectionarylaw3_TextExact.j12 kj107 y196 x20_3 t210 t211 0 t218)) else (lectionarylaw3_TextExact.j12 kj107 y196 x20_3 t210 t211 1 (⟨#[]⟩ : ByteArray)))) = some r := by first | (rw [hy214]; with_reducible exact H) | (have H2_ := (Option.bind_some _ _).symm.trans H; rw [hy214]; with_reducible exact H2_) | (have H2_ := (Option.bind_some _ _).symm.trans H; with_reducible exact H2_) | with_reducible exact H | (rw [hy214]; exact H) | exact H
            have Ny214 := Aside0.mk hy214
            clear hy214
            replace H := Option.bind_eq_some_iff.mp H
            obtain ⟨t217, A1240, H⟩ := H
            replace H : (if t217 = true then ((lectionaryref1_Make.f kj107 y214).bind fun t218 => (lectionarylaw3_TextExact.j12 kj107 y196 x20_3 t210 t211 0 t218)) else (lectionarylaw3_TextExact.j12 kj107 y196 x20_3 t210 t211 1 (⟨#[]⟩ : ByteArray))) = some r := H
            have A124 := Aside0.mk A1240
            clear A1240
            have HC125 := Aside0.mk H
            clear H
            try go_wp2
            have n0_ := Aside0.mk (Kd.R_drew HO_19.out)
            have n1_ := Aside0.mk (blk_drew BK143.out)
            have n2_ := Aside0.mk (below_drew1 HB.out)
            clear HO_19
            clear BK143
            clear HB
            have HO_19 := n0_
            have BK143 := n1_
            have HB := n2_
            clear n0_ n1_ n2_
            obtain ⟨Ao127, co127, eo127⟩ := Kd.R_slice HO_19.out
            (first | subst eo127 | (injection eo127 with f1_ f2_ f3_; have f4_ := f1_.symm; have f5_ := f3_.symm; clear f1_ f2_ f3_; subst f4_; subst f5_))
            have p200 : 0 ≤ (x20_3 : Int) := of_decide_eq_true (by first | (with_reducible assumption) | assumption)
            have q200 : x20_3 < (y196.length : Int) := of_decide_eq_true (by first | (with_reducible assumption) | assumption)
            obtain ⟨ad200, e200, hx200_0⟩ := Kd.at_int (Kd.R_reads' HO_19.out).2.2 x20_3 p200 q200
            cases e200
            replace p200 := eq_true p200
            replace q200 := eq_true q200
            have p203 : 0 ≤ (x20_3 : Int) := of_decide_eq_true (by first | (with_reducible assumption) | assumption)
            have q203 : x20_3 < (y196.length : Int) := of_decide_eq_true (by first | (with_reducible assumption) | assumption)
            obtain ⟨ad203, e203, hx203_0⟩ := Kd.at_int (Kd.R_reads' HO_19.out).2.2 x20_3 p203 q203
            obtain rfl : ad200 = ad203 := (by injection e203)
            replace p203 := eq_true p203
            replace q203 := eq_true q203
            refine start_ (n := 13) (S := fun w' => w'.cell? (ad200.add (x20_3).toNat) = some (.int .i32 (rd y196 x20_3)) ∧ w'.cell? (ad200.add (x20_3).toNat) = some (.int .i32 (rd y196 x20_3))) (ds := []) b4_50 (by kernel_rfl) rfl rfl ⟨hx200_0, hx203_0⟩ (fun hHeld => ?_); refine with_tabW lectionarylaw3_TextExact.tab34 lectionarylaw3_TextExact.bits34 (fun HT_ HW_ => ?_)
            generalize wc.drew = w126 at HO_19 BK143 HB hx200_0 hx203_0 hHeld ⊢
            refine pq_ 0 206 b4_51 (any_of HT_.out (by kernel_rfl)) ?_
            refine pq_ 1 207 b4_52 (any_of HT_.out (by kernel_rfl)) ?_
            refine pq_ 2 208 b4_53 (any_of HT_.out (by kernel_rfl)) ?_
            refine pq_ 7 213 b4_64 (any_of HT_.out (by kernel_rfl)) ?_
            refine pq_ 8 214 b4_65 (any_of HT_.out (by kernel_rfl)) ?_
            refine pq_ 9 215 b4_66 (any_of HT_.out (by kernel_rfl)) ?_
            refine take_ (i := 3) (N := some 209) (v := ?_) (a' := ?_) b4_67 rfl rfl (take_ofW HT_.out HW_.out (by kernel_rfl)) (fun _ _ _ h => h) (Or.inl ⟨by rfl, ?_⟩) hHeld ?_ ?_
            rotate_left
            ·
             rintro w' ⟨s0, s1⟩
             go_simp
             with_reducible rfl
            rotate_left
            ·
             simp only [Act.put, List.setIfInBounds_toArray, List.set_cons_zero, List.set_cons_succ, i64_w, i32_w]
             rfl
            refine take_ (i := 10) (N := some 216) (v := ?_) (a' := ?_) b4_68 rfl rfl (take_ofW HT_.out HW_.out (by kernel_rfl)) (fun _ _ _ h => h) (Or.inl ⟨by rfl, ?_⟩) hHeld ?_ ?_
            rotate_left
            ·
             rintro w' ⟨s0, s1⟩
             go_simp
             with_reducible rfl
            rotate_left
            ·
             simp only [Act.put, List.setIfInBounds_toArray, List.set_cons_zero, List.set_cons_succ, i64_w, i32_w]
             rfl
            refine one_ (i := 4) (N := some 210) b4_69 rfl rfl (one_of HT_.out (by kernel_rfl)) (by decide) (fun K hK => ?_)
            refine goes_ Tryd.func15 (by kernel_rfl) rfl #[.int .i32 (rd y196 x20_3)] (by rfl) rfl rfl (by (try simp only [List.map_toArray, List.map_cons, List.map_nil]); first | done | rfl | (simp only [List.length_drop, List.length_take]; rfl)) ?_
            with_reducible refine (text_Rune.calls (rd y196 x20_3) t201 _ A115.out).mono ?_
            rintro e w' ⟨rfl, ⟨nd, rfl⟩⟩
            refine ⟨_, rfl, ?_⟩
            refine hK.out _ _ ⟨hHeld.1, hHeld.2⟩ (fun hHeld => ?_)
            clear hK K
            refine norm_ (a' := ?_) ?_ ?_
            rotate_left
            ·
             show Act.put _ (some 210) _ = _
             simp only [Act.put, List.setIfInBounds_toArray, List.set_cons_zero, List.set_cons_succ, i64_w, i32_w]
             rfl
            refine one_ (i := 5) (N := some 211) b4_70 rfl rfl (one_of HT_.out (by kernel_rfl)) (by decide) (fun K hK => ?_)
            refine goes_ Tryd.func7 (by kernel_rfl) rfl #[.int .i64 t201] (by rfl) rfl rfl (by (try simp only [List.map_toArray, List.map_cons, List.map_nil]); first | done | rfl | (simp only [List.length_drop, List.length_take]; rfl)) ?_
            with_reducible refine (lectionarylaw3_num.calls t201 t202 _ A116.out).mono ?_
            rintro e w' ⟨rfl, ⟨nd, rfl⟩⟩
            refine ⟨_, rfl, ?_⟩
            refine hK.out _ _ ⟨hHeld.1, hHeld.2⟩ (fun hHeld => ?_)
            clear hK K
            refine norm_ (a' := ?_) ?_ ?_
            rotate_left
            ·
             show Act.put _ (some 211) _ = _
             simp only [Act.put, List.setIfInBounds_toArray, List.set_cons_zero, List.set_cons_succ, i64_w, i32_w]
             rfl
            refine pure_ (i := 6) (N := some 212) (v := ?_) (a' := ?_) b4_61 rfl rfl (any_of HT_.out (by kernel_rfl)) (fun _ _ _ h => h) (Or.inl ⟨by rfl, ?_⟩) ?_ ?_
            rotate_left; (focus intro w'; go_simp; (first | with_reducible rfl | (rw [if_neg (by simp only [ByteArray.size_extract, decide_eq_true_eq] at *; omega)]))); rotate_left; (focus simp only [Act.put, List.setIfInBounds_toArray, List.set_cons_zero, List.set_cons_succ, i64_w, i32_w]; rfl)
            refine one_ (i := 11) (N := some 217) b4_62 rfl rfl (one_of HT_.out (by kernel_rfl)) (by decide) (fun K hK => ?_)
            refine goes_ Tryd.func16 (by kernel_rfl) rfl #[.int .i32 (rd y196 x20_3)] (by rfl) rfl rfl (by (try simp only [List.map_toArray, List.map_cons, List.map_nil]); first | done | rfl | (simp only [List.length_drop, List.length_take]; rfl)) ?_
            with_reducible refine (lectionaryref1_Rune.calls (rd y196 x20_3) t204 _ A117.out).mono ?_
            rintro e w' ⟨rfl, ⟨nd, rfl⟩⟩
            refine ⟨_, rfl, ?_⟩
            refine hK.out _ _ ⟨hHeld.1, hHeld.2⟩ (fun hHeld => ?_)
            clear hK K
            refine norm_ (a' := ?_) ?_ ?_
            rotate_left
            ·
             show Act.put _ (some 217) _ = _
             simp only [Act.put, List.setIfInBounds_toArray, List.set_cons_zero, List.set_cons_succ, i64_w, i32_w]
             rfl
            refine pure_ (i := 12) (N := some 218) (v := ?_) (a' := ?_) b4_63 rfl rfl (any_of HT_.out (by kernel_rfl)) (fun _ _ _ h => h) (Or.inl ⟨by rfl, ?_⟩) ?_ ?_
            rotate_left; (focus intro w'; go_simp; (first | with_reducible rfl | (rw [if_neg (by simp only [ByteArray.size_extract, decide_eq_true_eq] at *; omega)]))); rotate_left; (focus simp only [Act.put, List.setIfInBounds_toArray, List.set_cons_zero, List.set_cons_succ, i64_w, i32_w]; rfl)
            refine done_ (done_of HT_.out (by kernel_rfl)) ?_
            try go_wp2
            (try (rw [drewN_self w126]; generalize hq_ : World.drewN w126 _ = w126; have n0_ : Aside0 (Kd.R (Kd.int .i32) 21 w126 w.heap.size (fun _ => True) (.slice (some ad200) y196.length co127) y196) := ⟨by rw [← hq_]; exact (by (with_reducible repeat (first | apply Kd.R_alloc | apply Kd.R_drewN | apply Kd.R_drew)); exact HO_19.out)⟩; have n1_ : Aside0 (w126.heap[gb143]? = some (.cells #[.slice A0_0 l0_0.length c0_0, .slice A0_1 l0_1.length c0_1, .slice A0_2 l0_2.length c0_2] 26 (0, 0))) := ⟨by rw [← hq_]; exact (by (with_reducible repeat (first | refine blk_drewN ?_ _ | refine blk_drew ?_ | refine blk_alloc ?_ _)); exact BK143.out)⟩; have n2_ : Aside0 (Below w.heap.size w w126) := ⟨by rw [← hq_]; exact (by repeat (first | (with_reducible first | exact HB.out | apply below_alloc | apply pw_below_drewN | apply below_drew1 | refine below_set ?_ GE143.out) | exact HB.out))⟩; clear HO_19 BK143 HB hq_; have HO_19 := n0_; have BK143 := n1_; have HB := n2_; clear n0_ n1_ n2_))
            have n0_ := Aside0.mk (Kd.R_drew HO_19.out)
            have n1_ := Aside0.mk (blk_drew BK143.out)
            have n2_ := Aside0.mk (below_drew1 HB.out)
            clear HO_19
            clear BK143
            clear HB
            have HO_19 := n0_
            have BK143 := n1_
            have HB := n2_
            clear n0_ n1_ n2_
            have p205 : 0 ≤ (x20_3 : Int) := of_decide_eq_true (by first | (with_reducible assumption) | assumption)
            have q205 : x20_3 < (y196.length : Int) := of_decide_eq_true (by first | (with_reducible assumption) | assumption)
            obtain ⟨ad205, e205, hx205_0⟩ := Kd.at_int (Kd.R_reads' HO_19.out).2.2 x20_3 p205 q205
            obtain rfl : ad200 = ad205 := (by injection e205)
            replace p205 := eq_true p205
            replace q205 := eq_true q205
            have p206 : 0 ≤ ((ji120) : Int) := of_decide_eq_true (by first | (with_reducible assumption) | assumption)
            have q206 : (ji120) < (y196.length : Int) := of_decide_eq_true (by first | (with_reducible assumption) | assumption)
            obtain ⟨ad206, e206, hx206_0⟩ := Kd.at_int (Kd.R_reads' HO_19.out).2.2 (ji120) p206 q206
            obtain rfl : ad200 = ad206 := (by injection e206)
            replace p206 := eq_true p206
            replace q206 := eq_true q206
            refine start_ (n := 19) (S := fun w' => w'.cell? (ad200.add (x20_3).toNat) = some (.int .i32 (rd y196 x20_3)) ∧ w'.cell? (ad200.add ((ji120)).toNat) = some (.int .i32 (rd y196 (ji120)))) (ds := []) b4_71 (by kernel_rfl) rfl rfl ⟨hx205_0, hx206_0⟩ (fun hHeld => ?_); refine with_tabW lectionarylaw3_TextExact.tab36 lectionarylaw3_TextExact.bits36 (fun HT_ HW_ => ?_)
            generalize w126.drew = w128 at HO_19 BK143 HB hx205_0 hx206_0 hHeld ⊢
            refine pq_ 0 220 b4_72 (any_of HT_.out (by kernel_rfl)) ?_
            refine pq_ 1 221 b4_73 (any_of HT_.out (by kernel_rfl)) ?_
            refine pq_ 2 222 b4_74 (any_of HT_.out (by kernel_rfl)) ?_
            refine pq_ 4 224 b4_75 (any_of HT_.out (by kernel_rfl)) ?_
            refine pq_ 5 225 b4_76 (any_of HT_.out (by kernel_rfl)) ?_
            refine pure_ (i := 6) (N := some 226) (v := ?_) (a' := ?_) b4_77 rfl rfl (any_of HT_.out (by kernel_rfl)) (fun _ _ _ h => h) (Or.inl ⟨by rfl, ?_⟩) ?_ ?_
            rotate_left; (focus intro w'; go_simp; (first | with_reducible rfl | (rw [if_neg (by simp only [ByteArray.size_extract, decide_eq_true_eq] at *; omega)]))); rotate_left; (focus simp only [Act.put, List.setIfInBounds_toArray, List.set_cons_zero, List.set_cons_succ, i64_w, i32_w]; rfl)
            refine pq_ 7 227 b4_78 (any_of HT_.out (by kernel_rfl)) ?_
            refine pq_ 8 228 b4_79 (any_of HT_.out (by kernel_rfl)) ?_
            refine pure_ (i := 9) (N := some 229) (v := ?_) (a' := ?_) b4_80 rfl rfl (any_of HT_.out (by kernel_rfl)) (fun _ _ _ h => h) (Or.inl ⟨by rfl, ?_⟩) ?_ ?_
            rotate_left; (focus intro w'; go_simp; (first | with_reducible rfl | (rw [if_neg (by simp only [ByteArray.size_extract, decide_eq_true_eq] at *; omega)]))); rotate_left; (focus simp only [Act.put, List.setIfInBounds_toArray, List.set_cons_zero, List.set_cons_succ, i64_w, i32_w]; rfl)
            refine pq_ 10 230 b4_81 (any_of HT_.out (by kernel_rfl)) ?_
            refine take_ (i := 3) (N := some 223) (v := ?_) (a' := ?_) b4_82 rfl rfl (take_ofW HT_.out HW_.out (by kernel_rfl)) (fun _ _ _ h => h) (Or.inl ⟨by rfl, ?_⟩) hHeld ?_ ?_
            rotate_left
            ·
             rintro w' ⟨s0, s1⟩
             go_simp
             with_reducible rfl
            rotate_left
            ·
             simp only [Act.put, List.setIfInBounds_toArray, List.set_cons_zero, List.set_cons_succ, i64_w, i32_w]
             rfl
            refine take_ (i := 11) (N := some 231) (v := ?_) (a' := ?_) b4_83 rfl rfl (take_ofW HT_.out HW_.out (by kernel_rfl)) (fun _ _ _ h => h) (Or.inl ⟨by rfl, ?_⟩) hHeld ?_ ?_
            rotate_left
            ·
             rintro w' ⟨s0, s1⟩
             go_simp
             with_reducible rfl
            rotate_left
            ·
             simp only [Act.put, List.setIfInBounds_toArray, List.set_cons_zero, List.set_cons_succ, i64_w, i32_w]
             rfl
            refine one_ (i := 12) (N := some 232) b4_84 rfl rfl (one_of HT_.out (by kernel_rfl)) (by decide) (fun K hK => ?_)
            refine Kd.R_lit_step (Kd.int .i32) _ 21 ?hg (N := 232) ?hd (xs := ([rd y196 x20_3, 97, rd y196 (ji120)] : List Int)) (inner := [.int .i32 (rd y196 x20_3), .int .i32 97, .int .i32 (rd y196 (ji120))]) (ok := fun _ => True) (okp := fun _ => True) ?hr ?hp (fun _ hk => hk) trivial (Below.refl _ _) (Nat.le_refl _) (by simp) ?_; (case hd => rfl); (case hg => rfl); (case hr => first | (go_simp; done) | (go_simp; rfl)); (case hp => exact (Reps.one (show Kd.M (Kd.int .i32) _ _ _ (rd y196 x20_3) [.int .i32 (rd y196 x20_3)] from rfl) (Reps.one (show Kd.M (Kd.int .i32) _ _ _ 97 [.int .i32 97] from rfl) (Reps.one (show Kd.M (Kd.int .i32) _ _ _ (rd y196 (ji120)) [.int .i32 (rd y196 (ji120))] from rfl) (Reps.none _ _)))))
            intro v208 w129 ho130 hb hg_ hnew_
            have HS0_ := (hb.cell (World.block_lt_of_cell? _ _ (hHeld.1))).trans (hHeld.1)
            have HS1_ := (hb.cell (World.block_lt_of_cell? _ _ (hHeld.2))).trans (hHeld.2)
            clear hg_ hnew_
            (first | rw [← Ny207.out] at ho130 | (simp only [Int.reduceToNat] at ho130; rw [← Ny207.out] at ho130))
            have n0_ := Aside0.mk (Kd.R_elder' (by (with_reducible repeat (first | apply Kd.R_alloc | apply Kd.R_drewN | apply Kd.R_drew)); exact HO_19.out) (Kd.R_base ho130) hb)
            have n1_ := Aside0.mk (Kd.R_lower (Kd.R_new' ho130 (Kd.R_lt (by (with_reducible repeat (first | apply Kd.R_alloc | apply Kd.R_drewN | apply Kd.R_drew)); exact HO_19.out))) (below_size (by repeat (first | (with_reducible first | exact HB.out | apply below_alloc | apply pw_below_drewN | apply below_drew1 | refine below_set ?_ GE143.out) | exact HB.out))))
            have n2_ := Aside0.mk (blk_below (g := gb143) (o := .cells #[.slice A0_0 l0_0.length c0_0, .slice A0_1 l0_1.length c0_1, .slice A0_2 l0_2.length c0_2] 26 (0, 0)) (by (with_reducible repeat (first | refine blk_drewN ?_ _ | refine blk_drew ?_ | refine blk_alloc ?_ _)); exact BK143.out) hb)
            have n3_ := Aside0.mk (below_step (by repeat (first | (with_reducible first | exact HB.out | apply below_alloc | apply pw_below_drewN | apply below_drew1 | refine below_set ?_ GE143.out) | exact HB.out)) hb)
            clear HO_19
            clear BK143
            clear HB
            have HO_19 := n0_
            have HO209 := n1_
            have BK143 := n2_
            have HB := n3_
            clear n0_ n1_ n2_ n3_
            clear hb ho130
            obtain ⟨Ao131, co131, eo131⟩ := Kd.R_slice HO209.out
            (first | subst eo131 | (injection eo131 with f1_ f2_ f3_; have f4_ := f1_.symm; have f5_ := f3_.symm; clear f1_ f2_ f3_; subst f4_; subst f5_))
            refine hK.out _ _ ⟨HS0_, HS1_⟩ (fun hHeld => ?_)
            clear hK K
            refine norm_ (a' := ?_) ?_ ?_
            rotate_left
            ·
             show Act.put _ (some 232) _ = _
             simp only [Act.put, List.setIfInBounds_toArray, List.set_cons_zero, List.set_cons_succ, i64_w, i32_w]
             rfl
            refine one_ (i := 13) (N := some 233) b4_85 rfl rfl (one_of HT_.out (by kernel_rfl)) (by decide) (fun K hK => ?_)
            refine goes_ Tryd.func17 (by kernel_rfl) rfl #[.slice Ao131 y207.length co131] (by rfl) rfl rfl (by (try simp only [List.map_toArray, List.map_cons, List.map_nil]); first | done | rfl | (simp only [List.length_drop, List.length_take]; rfl)) ?_
            with_reducible refine (text_Make.calls _ _ y207 t210 t211 _ ?side1 ?side2 A123.out).mono ?_
            (case side1 => repeat (first | exact (Kd.R_reads' HO209.out).2.2 | (with_reducible refine Kd.C_alloc ?_ _) | (with_reducible refine Kd.C_drewN ?_ _) | (with_reducible refine Kd.C_drew ?_)))
            (case side2 => exact (Kd.R_reads' HO209.out).2.1)
            rintro e w' ⟨rfl, ⟨nd, rfl⟩⟩
            refine ⟨_, rfl, ?_⟩
            refine hK.out _ _ ⟨hHeld.1, hHeld.2⟩ (fun hHeld => ?_)
            clear hK K
            refine norm_ (a' := ?_) ?_ ?_
            rotate_left
            ·
             show Act.put _ (some 233) _ = _
             simp only [Act.put, List.setIfInBounds_toArray, List.set_cons_zero, List.set_cons_succ, i64_w, i32_w]
             rfl
            refine pq_ 14 219 b4_86 (any_of HT_.out (by kernel_rfl)) ?_
            refine pq_ 15 234 b4_87 (any_of HT_.out (by kernel_rfl)) ?_
            refine pq_ 16 235 b4_88 (any_of HT_.out (by kernel_rfl)) ?_
            refine pq_ 17 21 b4_89 (any_of HT_.out (by kernel_rfl)) ?_
            refine pq_ 18 22 b4_90 (any_of HT_.out (by kernel_rfl)) ?_
            refine done_ (done_of HT_.out (by kernel_rfl)) ?_
            try go_wp2
            (try (rw [drewN_self w129]; generalize hq_ : World.drewN w129 _ = w129; have n0_ : Aside0 (Kd.R (Kd.int .i32) 21 w129 w.heap.size (fun k_ => some k_ ≠ (.slice (some ad200) y196.length co127 : Value).ownBlock) (.slice Ao131 y207.length co131) y207) := ⟨by rw [← hq_]; exact (by (with_reducible repeat (first | apply Kd.R_alloc | apply Kd.R_drewN | apply Kd.R_drew)); exact Kd.R_mono HO209.out (fun _ hk => hk.2))⟩; have n1_ : Aside0 (Kd.R (Kd.int .i32) 21 w129 w.heap.size (fun k_ => some k_ ≠ (.slice Ao131 y207.length co131 : Value).ownBlock) (.slice (some ad200) y196.length co127) y196) := ⟨by rw [← hq_]; exact (by (with_reducible repeat (first | apply Kd.R_alloc | apply Kd.R_drewN | apply Kd.R_drew)); exact Kd.R_mono HO_19.out (fun _ hk => hk.2))⟩; have n2_ : Aside0 (w129.heap[gb143]? = some (.cells #[.slice A0_0 l0_0.length c0_0, .slice A0_1 l0_1.length c0_1, .slice A0_2 l0_2.length c0_2] 26 (0, 0))) := ⟨by rw [← hq_]; exact (by (with_reducible repeat (first | refine blk_drewN ?_ _ | refine blk_drew ?_ | refine blk_alloc ?_ _)); exact BK143.out)⟩; have n3_ : Aside0 (Below w.heap.size w w129) := ⟨by rw [← hq_]; exact (by repeat (first | (with_reducible first | exact HB.out | apply below_alloc | apply pw_below_drewN | apply below_drew1 | refine below_set ?_ GE143.out) | exact HB.out))⟩; clear HO209 HO_19 BK143 HB hq_; have HO209 := n0_; have HO_19 := n1_; have BK143 := n2_; have HB := n3_; clear n0_ n1_ n2_ n3_))
            have n0_ := Aside0.mk (Kd.R_drew HO_19.out)
            have n1_ := Aside0.mk (Kd.R_drew HO209.out)
            have n2_ := Aside0.mk (blk_drew BK143.out)
            have n3_ := Aside0.mk (below_drew1 HB.out)
            clear HO_19
            clear HO209
            clear BK143
            clear HB
            have HO_19 := n0_
            have HO209 := n1_
            have BK143 := n2_
            have HB := n3_
            clear n0_ n1_ n2_ n3_
            have p212 : 0 ≤ (x20_3 : Int) := of_decide_eq_true (by first | (with_reducible assumption) | assumption)
            have q212 : x20_3 < (y196.length : Int) := of_decide_eq_true (by first | (with_reducible assumption) | assumption)
            obtain ⟨ad212, e212, hx212_0⟩ := Kd.at_int (Kd.R_reads' HO_19.out).2.2 x20_3 p212 q212
            obtain rfl : ad200 = ad212 := (by injection e212)
            replace p212 := eq_true p212
            replace q212 := eq_true q212
            have p213 : 0 ≤ ((ji120) : Int) := of_decide_eq_true (by first | (with_reducible assumption) | assumption)
            have q213 : (ji120) < (y196.length : Int) := of_decide_eq_true (by first | (with_reducible assumption) | assumption)
            obtain ⟨ad213, e213, hx213_0⟩ := Kd.at_int (Kd.R_reads' HO_19.out).2.2 (ji120) p213 q213
            obtain rfl : ad200 = ad213 := (by injection e213)
            replace p213 := eq_true p213
            replace q213 := eq_true q213
            refine start_ (n := 14) (S := fun w' => w'.cell? (ad200.add (x20_3).toNat) = some (.int .i32 (rd y196 x20_3)) ∧ w'.cell? (ad200.add ((ji120)).toNat) = some (.int .i32 (rd y196 (ji120)))) (ds := []) b4_91 (by kernel_rfl) rfl rfl ⟨hx212_0, hx213_0⟩ (fun hHeld => ?_); refine with_tabW lectionarylaw3_TextExact.tab38 lectionarylaw3_TextExact.bits38 (fun HT_ HW_ => ?_)
            generalize w129.drew = w132 at HO_19 HO209 BK143 HB hx212_0 hx213_0 hHeld ⊢
            refine pq_ 0 236 b4_92 (any_of HT_.out (by kernel_rfl)) ?_
            refine pq_ 1 237 b4_93 (any_of HT_.out (by kernel_rfl)) ?_
            refine pq_ 2 238 b4_94 (any_of HT_.out (by kernel_rfl)) ?_
            refine pq_ 4 240 b4_95 (any_of HT_.out (by kernel_rfl)) ?_
            refine pq_ 5 241 b4_96 (any_of HT_.out (by kernel_rfl)) ?_
            refine pure_ (i := 6) (N := some 242) (v := ?_) (a' := ?_) b4_97 rfl rfl (any_of HT_.out (by kernel_rfl)) (fun _ _ _ h => h) (Or.inl ⟨by rfl, ?_⟩) ?_ ?_
            rotate_left; (focus intro w'; go_simp; (first | with_reducible rfl | (rw [if_neg (by simp only [ByteArray.size_extract, decide_eq_true_eq] at *; omega)]))); rotate_left; (focus simp only [Act.put, List.setIfInBounds_toArray, List.set_cons_zero, List.set_cons_succ, i64_w, i32_w]; rfl)
            refine pq_ 7 243 b4_98 (any_of HT_.out (by kernel_rfl)) ?_
            refine pq_ 8 244 b4_99 (any_of HT_.out (by kernel_rfl)) ?_
            refine pure_ (i := 9) (N := some 245) (v := ?_) (a' := ?_) b4_100 rfl rfl (any_of HT_.out (by kernel_rfl)) (fun _ _ _ h => h) (Or.inl ⟨by rfl, ?_⟩) ?_ ?_
            rotate_left; (focus intro w'; go_simp; (first | with_reducible rfl | (rw [if_neg (by simp only [ByteArray.size_extract, decide_eq_true_eq] at *; omega)]))); rotate_left; (focus simp only [Act.put, List.setIfInBounds_toArray, List.set_cons_zero, List.set_cons_succ, i64_w, i32_w]; rfl)
            refine pq_ 10 246 b4_101 (any_of HT_.out (by kernel_rfl)) ?_
            refine take_ (i := 3) (N := some 239) (v := ?_) (a' := ?_) b4_102 rfl rfl (take_ofW HT_.out HW_.out (by kernel_rfl)) (fun _ _ _ h => h) (Or.inl ⟨by rfl, ?_⟩) hHeld ?_ ?_
            rotate_left
            ·
             rintro w' ⟨s0, s1⟩
             go_simp
             with_reducible rfl
            rotate_left
            ·
             simp only [Act.put, List.setIfInBounds_toArray, List.set_cons_zero, List.set_cons_succ, i64_w, i32_w]
             rfl
            refine take_ (i := 11) (N := some 247) (v := ?_) (a' := ?_) b4_103 rfl rfl (take_ofW HT_.out HW_.out (by kernel_rfl)) (fun _ _ _ h => h) (Or.inl ⟨by rfl, ?_⟩) hHeld ?_ ?_
            rotate_left
            ·
             rintro w' ⟨s0, s1⟩
             go_simp
             with_reducible rfl
            rotate_left
            ·
             simp only [Act.put, List.setIfInBounds_toArray, List.set_cons_zero, List.set_cons_succ, i64_w, i32_w]
             rfl
            refine one_ (i := 12) (N := some 248) b4_104 rfl rfl (one_of HT_.out (by kernel_rfl)) (by decide) (fun K hK => ?_)
            refine Kd.R_lit_step (Kd.int .i32) _ 21 ?hg (N := 248) ?hd (xs := ([rd y196 x20_3, 97, rd y196 (ji120)] : List Int)) (inner := [.int .i32 (rd y196 x20_3), .int .i32 97, .int .i32 (rd y196 (ji120))]) (ok := fun _ => True) (okp := fun _ => True) ?hr ?hp (fun _ hk => hk) trivial (Below.refl _ _) (Nat.le_refl _) (by simp) ?_; (case hd => rfl); (case hg => rfl); (case hr => first | (go_simp; done) | (go_simp; rfl)); (case hp => exact (Reps.one (show Kd.M (Kd.int .i32) _ _ _ (rd y196 x20_3) [.int .i32 (rd y196 x20_3)] from rfl) (Reps.one (show Kd.M (Kd.int .i32) _ _ _ 97 [.int .i32 97] from rfl) (Reps.one (show Kd.M (Kd.int .i32) _ _ _ (rd y196 (ji120)) [.int .i32 (rd y196 (ji120))] from rfl) (Reps.none _ _)))))
            intro v215 w133 ho134 hb hg_ hnew_
            have HS0_ := (hb.cell (World.block_lt_of_cell? _ _ (hHeld.1))).trans (hHeld.1)
            have HS1_ := (hb.cell (World.block_lt_of_cell? _ _ (hHeld.2))).trans (hHeld.2)
            clear hg_ hnew_
            (first | rw [← Ny214.out] at ho134 | (simp only [Int.reduceToNat] at ho134; rw [← Ny214.out] at ho134))
            have n0_ := Aside0.mk (Kd.R_elder' (by (with_reducible repeat (first | apply Kd.R_alloc | apply Kd.R_drewN | apply Kd.R_drew)); exact HO_19.out) (Kd.R_base ho134) hb)
            have n1_ := Aside0.mk (Kd.R_elder' (by (with_reducible repeat (first | apply Kd.R_alloc | apply Kd.R_drewN | apply Kd.R_drew)); exact HO209.out) (Kd.R_base ho134) hb)
            have n2_ := Aside0.mk (Kd.R_lower (Kd.R_new' (Kd.R_new' ho134 (Kd.R_lt (by (with_reducible repeat (first | apply Kd.R_alloc | apply Kd.R_drewN | apply Kd.R_drew)); exact HO_19.out))) (Kd.R_lt (by (with_reducible repeat (first | apply Kd.R_alloc | apply Kd.R_drewN | apply Kd.R_drew)); exact HO209.out))) (below_size (by repeat (first | (with_reducible first | exact HB.out | apply below_alloc | apply pw_below_drewN | apply below_drew1 | refine below_set ?_ GE143.out) | exact HB.out))))
            have n3_ := Aside0.mk (blk_below (g := gb143) (o := .cells #[.slice A0_0 l0_0.length c0_0, .slice A0_1 l0_1.length c0_1, .slice A0_2 l0_2.length c0_2] 26 (0, 0)) (by (with_reducible repeat (first | refine blk_drewN ?_ _ | refine blk_drew ?_ | refine blk_alloc ?_ _)); exact BK143.out) hb)
            have n4_ := Aside0.mk (below_step (by repeat (first | (with_reducible first | exact HB.out | apply below_alloc | apply pw_below_drewN | apply below_drew1 | refine below_set ?_ GE143.out) | exact HB.out)) hb)
            clear HO_19
            clear HO209
            clear BK143
            clear HB
            have HO_19 := n0_
            have HO209 := n1_
            have HO216 := n2_
            have BK143 := n3_
            have HB := n4_
            clear n0_ n1_ n2_ n3_ n4_
            clear hb ho134
            refine hK.out _ _ ⟨HS0_, HS1_⟩ (fun hHeld => ?_)
            clear hK K
            refine norm_ (a' := ?_) ?_ ?_
            rotate_left
            ·
             show Act.put _ (some 248) _ = _
             simp only [Act.put, List.setIfInBounds_toArray, List.set_cons_zero, List.set_cons_succ, i64_w, i32_w]
             rfl
            refine pq_ 13 25 b4_105 (any_of HT_.out (by kernel_rfl)) ?_
            refine done_ (done_of HT_.out (by kernel_rfl)) ?_
            obtain ⟨Ao135, co135, eo135⟩ := Kd.R_slice HO216.out
            subst eo135
            go_upto_if 250 with (first | ((with_reducible refine gate_callee (f := 18) rfl ?_); refine goesL_ (some 250) rfl rfl Tryd.func18 (by kernel_rfl) rfl #[.slice Ao135 y214.length co135] rfl (by (try simp only [List.map_toArray, List.map_cons, List.map_nil]); first | done | rfl | (simp only [List.length_drop, List.length_take]; rfl)) ?_; (with_reducible refine (lectionaryref1_All.calls kj107 _ _ y214 t217 _ ?side1 ?side2 A124.out).mono ?_); (case side1 => repeat (first | exact (Kd.R_reads' HO216.out).2.2 | (with_reducible refine Kd.C_alloc ?_ _) | (with_reducible refine Kd.C_drewN ?_ _) | (with_reducible refine Kd.C_drew ?_))); (case side2 => exact (Kd.R_reads' HO216.out).2.1); rintro e w' ⟨rfl, ⟨nd, rfl⟩⟩; refine ⟨_, rfl, ?_⟩))
            (try simp only [Act.put, List.setIfInBounds_toArray, List.set_cons_zero, List.set_cons_succ])
            go_cut [23, 24] (fun v23 v24 wc => ∃ (kq : Nat) (x23_124 : Int) (x24_124 : ByteArray), v23 = .int .i64 x23_124 ∧ v24 = .string x24_124 ∧ Aside0 (lectionarylaw3_TextExact.j12 kq y196 x20_3 t210 t211 x23_124 x24_124 = some r) ∧ Aside0 (kq ≤ kj107) ∧ Aside0 (Kd.R (Kd.int .i32) 21 wc w.heap.size (fun _ => True) (.slice (some ad200) y196.length co127) y196) ∧ Aside0 (wc.heap[gb143]? = some (.cells #[(.slice A0_0 l0_0.length c0_0), (.slice A0_1 l0_1.length c0_1), (.slice A0_2 l0_2.length c0_2)] 26 (0, 0))) ∧ Aside0 (Below w.heap.size w wc))
            case first =>
             have H := HC125.out
             clear HC125
             by_cases c136 : t217 = true
             rotate_left
             ·
              replace c136 := Bool.eq_false_iff.mpr c136
              subst c136
              have H1 : (lectionarylaw3_TextExact.j12 kj107 y196 x20_3 t210 t211 1 (⟨#[]⟩ : ByteArray)) = some r := by rw [if_neg (show ¬ (false = true) by decide)] at H; exact H
              clear H
              have H := H1
              clear H1
              as_aux_lemma =>
               have H' := Aside0.mk H
               clear H
               go_wp2
               go_meet
               case rel => exact ⟨_, (1), ((⟨#[]⟩ : ByteArray)), (by first | rfl | (simp; done) | (simp [*]; done)), (by first | rfl | (simp; done) | (simp [*]; done)), H', ⟨by have := HK1.out; have := HJ14.out; have := HK3.out; have := HJ107.out; first | omega | exact Nat.le_refl _⟩, ⟨by (with_reducible repeat (first | apply Kd.R_alloc | apply Kd.R_drewN | apply Kd.R_drew)); exact Kd.R_mono HO_19.out (fun _ hk => trivial)⟩, ⟨by (with_reducible repeat (first | refine blk_drewN ?_ _ | refine blk_drew ?_ | refine blk_alloc ?_ _)); exact BK143.out⟩, ⟨by repeat (first | (with_reducible first | exact HB.out | apply below_alloc | apply pw_below_drewN | apply below_drew1 | refine below_set ?_ GE143.out) | exact HB.out)⟩⟩
             subst c136
             have H1 : ((lectionaryref1_Make.f kj107 y214).bind fun t218 => (lectionarylaw3_TextExact.j12 kj107 y196 x20_3 t210 t211 0 t218)) = some r := by rw [if_pos rfl] at H; exact H
             clear H
             have H := H1
             clear H1
             replace H := Option.bind_eq_some_iff.mp H
             obtain ⟨t218, A1370, H⟩ := H
             replace H : (lectionarylaw3_TextExact.j12 kj107 y196 x20_3 t210 t211 0 t218) = some r := H
             have A137 := Aside0.mk A1370
             clear A1370
             as_aux_lemma =>
              have H' := Aside0.mk H
              clear H
              go_wp2_with (first | ((with_reducible refine gate_callee (f := 14) rfl ?_); refine goesL_ (some 252) rfl rfl Tryd.func14 (by kernel_rfl) rfl #[.slice Ao135 y214.length co135] rfl (by (try simp only [List.map_toArray, List.map_cons, List.map_nil]); first | done | rfl | (simp only [List.length_drop, List.length_take]; rfl)) ?_; (with_reducible refine (lectionaryref1_Make.calls kj107 _ _ y214 t218 _ ?side1 ?side2 A137.out).mono ?_); (case side1 => repeat (first | exact (Kd.R_reads' HO216.out).2.2 | (with_reducible refine Kd.C_alloc ?_ _) | (with_reducible refine Kd.C_drewN ?_ _) | (with_reducible refine Kd.C_drew ?_))); (case side2 => exact (Kd.R_reads' HO216.out).2.1); rintro e w' ⟨rfl, ⟨nd, rfl⟩⟩; refine ⟨_, rfl, ?_⟩))
              go_meet
              case rel => exact ⟨_, (0), (t218), (by first | rfl | (simp; done) | (simp [*]; done)), (by first | rfl | (simp; done) | (simp [*]; done)), H', ⟨by have := HK1.out; have := HJ14.out; have := HK3.out; have := HJ107.out; first | omega | exact Nat.le_refl _⟩, ⟨by (with_reducible repeat (first | apply Kd.R_alloc | apply Kd.R_drewN | apply Kd.R_drew)); exact Kd.R_mono HO_19.out (fun _ hk => trivial)⟩, ⟨by (with_reducible repeat (first | refine blk_drewN ?_ _ | refine blk_drew ?_ | refine blk_alloc ?_ _)); exact BK143.out⟩, ⟨by repeat (first | (with_reducible first | exact HB.out | apply below_alloc | apply pw_below_drewN | apply below_drew1 | refine below_set ?_ GE143.out) | exact HB.out)⟩⟩
            case rest =>
             clear HC125
             try clear c1
             try clear p2
             try clear q2
             try clear hx2
             try clear p6
             try clear c7
             try clear c11
             try clear c12
             try clear c13
             try clear c14
             try clear c15
             try clear c16
             try clear c17
             try clear c18
             try clear p20
             try clear q20
             try clear hx20
             try clear p21
             try clear q21
             try clear hx21
             try clear p64
             try clear c118
             try clear c118b0
             try clear c118b1
             try clear c118b2
             try clear c119
             try clear c119b0
             try clear c119b1
             try clear c119b2
             try clear c121
             try clear c121b0
             try clear c122
             try clear c122b0
             try clear c136
             try clear hx200_0
             try clear hx203_0
             try clear hx205_0
             try clear hx206_0
             try clear hx212_0
             try clear hx213_0
             try clear p200
             try clear p203
             try clear p205
             try clear p206
             try clear p212
             try clear p213
             try clear q200
             try clear q203
             try clear q205
             try clear q206
             try clear q212
             try clear q213
             obtain ⟨kq, x23_124, x24_124, rfl, rfl, HA, HJ124, HO_19, BK143, HB⟩ := hcut
             cases kq with
             | zero => exact absurd HA.out (by simp [lectionarylaw3_TextExact.j12])
             | succ kj124 =>
              have H := HA.out
              clear HA
              simp only [lectionarylaw3_TextExact.j12] at H
              replace H := Option.bind_eq_some_iff.mp H
              obtain ⟨t219, A1380, H⟩ := H
              replace H : (if t219 = x23_124 then (if t210.toList = x24_124.toList then (lectionarylaw3_TextExact.l3 kj124 y196 (wrap64 (x20_3 + 1))) else (none)) else (none)) = some r := H
              have A138 := Aside0.mk A1380
              clear A1380
              by_cases c139 : t219 = x23_124
              rotate_left
              ·
               rw [if_neg c139] at H
               exact absurd H (by simp)
              rw [if_pos c139] at H
              have c139b0 : (t219 == x23_124) = true := beq_iff_eq.mpr c139
              have c139b1 : (t219 != x23_124) = false := bne_eq_false_iff_eq.mpr c139
              clear c139
              by_cases c140 : t210.toList = x24_124.toList
              rotate_left
              ·
               rw [if_neg c140] at H
               exact absurd H (by simp)
              rw [if_pos c140] at H
              have c140b0 : (t210.toList == x24_124.toList) = true := beq_iff_eq.mpr c140
              have c140b1 : (t210.toList != x24_124.toList) = false := bne_eq_false_iff_eq.mpr c140
              clear c140
              as_aux_lemma =>
               have H' := Aside0.mk H
               clear H
               go_wp2_with (first | ((with_reducible refine gate_callee (f := 7) rfl ?_); refine goesL_ (some 254) rfl rfl Tryd.func7 (by kernel_rfl) rfl #[.int .i64 t211] rfl (by (try simp only [List.map_toArray, List.map_cons, List.map_nil]); first | done | rfl | (simp only [List.length_drop, List.length_take]; rfl)) ?_; (with_reducible refine (lectionarylaw3_num.calls t211 t219 _ A138.out).mono ?_); rintro e w' ⟨rfl, ⟨nd, rfl⟩⟩; refine ⟨_, rfl, ?_⟩))
               go_roundg kj124
               case measure => have := HK1.out; have := HJ14.out; have := HK3.out; have := HJ107.out; have := HJ124.out; omega
               case rel => exact ⟨(wrap64 (x20_3 + 1)), (by first | rfl | (simp; done) | (simp [*]; done)), H', ⟨by have := HK1.out; have := HJ14.out; have := HK3.out; have := HJ107.out; have := HJ124.out; omega⟩, ⟨by (with_reducible repeat (first | apply Kd.R_alloc | apply Kd.R_drewN | apply Kd.R_drew)); exact HO_19.out⟩, ⟨by (with_reducible repeat (first | refine blk_drewN ?_ _ | refine blk_drew ?_ | refine blk_alloc ?_ _)); exact BK143.out⟩, ⟨by repeat (first | (with_reducible first | exact HB.out | apply below_alloc | apply pw_below_drewN | apply below_drew1 | refine below_set ?_ GE143.out) | exact HB.out)⟩⟩
    subst c19
    have H1 : (if 0 ≤ x4_1 then (if x4_1 < (y148.length : Int) then ((text_Runes.f (rdOf ByteArray.empty y148 x4_1)).bind fun bt152 => ((text_Len.f (rdOf ByteArray.empty y148 x4_1)).bind fun bt157 => ((lectionaryref1_Runes.f kj14 (rdOf ByteArray.empty y148 x4_1)).bind fun bt160 => (if bt160.2 = true then (lectionarylaw3_TextExact.j2 kj14 y148 x4_1 bt152.1 bt152.2 bt157.1 bt157.2 bt160.1 bt160.2 0 l0_0 l0_1 l0_2) else (lectionarylaw3_TextExact.j2 kj14 y148 x4_1 bt152.1 bt152.2 bt157.1 bt157.2 ([] : List Int) bt160.2 1 l0_0 l0_1 l0_2))))) else (none)) else (none)) = some r := by rw [if_pos rfl] at H; exact H
    clear H
    have H := H1
    clear H1
    by_cases c20 : 0 ≤ x4_1
    rotate_left
    ·
     rw [if_neg c20] at H
     exact absurd H (by simp)
    rw [if_pos c20] at H
    have c20b0 : decide (0 ≤ x4_1) = true := decide_eq_true c20
    clear c20
    by_cases c21 : x4_1 < (y148.length : Int)
    rotate_left
    ·
     rw [if_neg c21] at H
     exact absurd H (by simp)
    rw [if_pos c21] at H
    have c21b0 : decide (x4_1 < (y148.length : Int)) = true := decide_eq_true c21
    clear c21
    replace H := Option.bind_eq_some_iff.mp H
    obtain ⟨⟨t152, t153⟩, A220, H⟩ := H
    replace H : ((text_Len.f (rdOf ByteArray.empty y148 x4_1)).bind fun bt157 => ((lectionaryref1_Runes.f kj14 (rdOf ByteArray.empty y148 x4_1)).bind fun bt160 => (if bt160.2 = true then (lectionarylaw3_TextExact.j2 kj14 y148 x4_1 t152 t153 bt157.1 bt157.2 bt160.1 bt160.2 0 l0_0 l0_1 l0_2) else (lectionarylaw3_TextExact.j2 kj14 y148 x4_1 t152 t153 bt157.1 bt157.2 ([] : List Int) bt160.2 1 l0_0 l0_1 l0_2)))) = some r := H
    have A22 := Aside0.mk A220
    clear A220
    replace H := Option.bind_eq_some_iff.mp H
    obtain ⟨⟨t157, t158⟩, A230, H⟩ := H
    replace H : ((lectionaryref1_Runes.f kj14 (rdOf ByteArray.empty y148 x4_1)).bind fun bt160 => (if bt160.2 = true then (lectionarylaw3_TextExact.j2 kj14 y148 x4_1 t152 t153 t157 t158 bt160.1 bt160.2 0 l0_0 l0_1 l0_2) else (lectionarylaw3_TextExact.j2 kj14 y148 x4_1 t152 t153 t157 t158 ([] : List Int) bt160.2 1 l0_0 l0_1 l0_2))) = some r := H
    have A23 := Aside0.mk A230
    clear A230
    replace H := Option.bind_eq_some_iff.mp H
    obtain ⟨⟨t160, t161⟩, A240, H⟩ := H
    replace H : (if t161 = true then (lectionarylaw3_TextExact.j2 kj14 y148 x4_1 t152 t153 t157 t158 t160 t161 0 l0_0 l0_1 l0_2) else (lectionarylaw3_TextExact.j2 kj14 y148 x4_1 t152 t153 t157 t158 ([] : List Int) t161 1 l0_0 l0_1 l0_2)) = some r := H
    have A24 := Aside0.mk A240
    clear A240
    have HC25 := Aside0.mk H
    clear H
    obtain ⟨Ao26, co26, eo26⟩ := Kd.R_slice HO_3.out
    subst eo26
    have p151 : 0 ≤ (x4_1 : Int) := of_decide_eq_true (by first | (with_reducible assumption) | assumption)
    have q151 : x4_1 < (y148.length : Int) := of_decide_eq_true (by first | (with_reducible assumption) | assumption)
    obtain ⟨ad151, e151, hx151_0⟩ := Kd.at_string (Kd.R_reads' HO_3.out).2.2 x4_1 p151 q151
    cases e151
    replace p151 := eq_true p151
    replace q151 := eq_true q151
    go_upto_if 67 with (first | ((with_reducible refine gate_callee (f := 5) rfl ?_); refine goesL_ (some 47) rfl rfl Tryd.func5 (by kernel_rfl) rfl #[.string (rdOf ByteArray.empty y148 x4_1)] rfl (by (try simp only [List.map_toArray, List.map_cons, List.map_nil]); first | done | rfl | (simp only [List.length_drop, List.length_take]; rfl)) ?_; (with_reducible refine (text_Runes.calls (rdOf ByteArray.empty y148 x4_1) t152 t153 _ A22.out).mono ?_); rintro e w27 ⟨v154, rfl, ho0, hb⟩; refine ⟨_, rfl, ?_⟩; have n0_ := Aside0.mk (Kd.R_below (by (with_reducible repeat (first | apply Kd.R_alloc | apply Kd.R_drewN | apply Kd.R_drew)); exact HO_3.out) hb); have n1_ := Aside0.mk (Kd.R_lower ho0 (below_size (by repeat (first | (with_reducible first | exact HB.out | apply below_alloc | apply pw_below_drewN | apply below_drew1 | refine below_set ?_ GE143.out) | exact HB.out)))); have n2_ := Aside0.mk (blk_below (g := gb143) (o := .cells #[.slice A0_0 l0_0.length c0_0, .slice A0_1 l0_1.length c0_1, .slice A0_2 l0_2.length c0_2] 26 (0, 0)) (by (with_reducible repeat (first | refine blk_drewN ?_ _ | refine blk_drew ?_ | refine blk_alloc ?_ _)); exact BK143.out) hb); have n3_ := Aside0.mk (below_step (by repeat (first | (with_reducible first | exact HB.out | apply below_alloc | apply pw_below_drewN | apply below_drew1 | refine below_set ?_ GE143.out) | exact HB.out)) hb); clear HO_3; clear BK143; clear HB; have HO_3 := n0_; have HO155 := n1_; have BK143 := n2_; have HB := n3_; clear n0_ n1_ n2_ n3_; (try clear hb); (try clear hb2); (try clear hk); (try clear hi); (try clear ho0); have p156 : 0 ≤ (x4_1 : Int) := of_decide_eq_true (by first | (with_reducible assumption) | assumption); have q156 : x4_1 < (y148.length : Int) := of_decide_eq_true (by first | (with_reducible assumption) | assumption); obtain ⟨ad156, e156, hx156_0⟩ := Kd.at_string (Kd.R_reads' HO_3.out).2.2 x4_1 p156 q156; obtain rfl : ad151 = ad156 := (by injection e156); replace p156 := eq_true p156; replace q156 := eq_true q156) | ((with_reducible refine gate_callee (f := 11) rfl ?_); refine goesL_ (some 55) rfl rfl Tryd.func11 (by kernel_rfl) rfl #[.string (rdOf ByteArray.empty y148 x4_1)] rfl (by (try simp only [List.map_toArray, List.map_cons, List.map_nil]); first | done | rfl | (simp only [List.length_drop, List.length_take]; rfl)) ?_; (with_reducible refine (text_Len.calls (rdOf ByteArray.empty y148 x4_1) t157 t158 _ A23.out).mono ?_); rintro e w28 ⟨rfl, hb⟩; refine ⟨_, rfl, ?_⟩; have n0_ := Aside0.mk (Kd.R_below (by (with_reducible repeat (first | apply Kd.R_alloc | apply Kd.R_drewN | apply Kd.R_drew)); exact HO_3.out) hb); have n1_ := Aside0.mk (Kd.R_below (by (with_reducible repeat (first | apply Kd.R_alloc | apply Kd.R_drewN | apply Kd.R_drew)); exact HO155.out) hb); have n2_ := Aside0.mk (blk_below (g := gb143) (o := .cells #[.slice A0_0 l0_0.length c0_0, .slice A0_1 l0_1.length c0_1, .slice A0_2 l0_2.length c0_2] 26 (0, 0)) (by (with_reducible repeat (first | refine blk_drewN ?_ _ | refine blk_drew ?_ | refine blk_alloc ?_ _)); exact BK143.out) hb); have n3_ := Aside0.mk (below_step (by repeat (first | (with_reducible first | exact HB.out | apply below_alloc | apply pw_below_drewN | apply below_drew1 | refine below_set ?_ GE143.out) | exact HB.out)) hb); clear HO_3; clear HO155; clear BK143; clear HB; have HO_3 := n0_; have HO155 := n1_; have BK143 := n2_; have HB := n3_; clear n0_ n1_ n2_ n3_; (try clear hb); (try clear hb2); (try clear hk); (try clear hi); have p159 : 0 ≤ (x4_1 : Int) := of_decide_eq_true (by first | (with_reducible assumption) | assumption); have q159 : x4_1 < (y148.length : Int) := of_decide_eq_true (by first | (with_reducible assumption) | assumption); obtain ⟨ad159, e159, hx159_0⟩ := Kd.at_string (Kd.R_reads' HO_3.out).2.2 x4_1 p159 q159; obtain rfl : ad151 = ad159 := (by injection e159); replace p159 := eq_true p159; replace q159 := eq_true q159) | ((with_reducible refine gate_callee (f := 6) rfl ?_); refine goesL_ (some 63) rfl rfl Tryd.func6 (by kernel_rfl) rfl #[.string (rdOf ByteArray.empty y148 x4_1)] rfl (by (try simp only [List.map_toArray, List.map_cons, List.map_nil]); first | done | rfl | (simp only [List.length_drop, List.length_take]; rfl)) ?_; (with_reducible refine (lectionaryref1_Runes.calls kj14 (rdOf ByteArray.empty y148 x4_1) t160 t161 _ A24.out (hT := UT.now (w := w) HUT.out (by repeat (first | (with_reducible first | exact HB.out | apply below_alloc | apply pw_below_drewN | apply below_drew1 | refine below_set ?_ GE143.out) | exact HB.out | exact Below.refl _ _)))).mono ?_); rintro e w29 ⟨v162, rfl, ho0, hb⟩; refine ⟨_, rfl, ?_⟩; have n0_ := Aside0.mk (Kd.R_below (by (with_reducible repeat (first | apply Kd.R_alloc | apply Kd.R_drewN | apply Kd.R_drew)); exact HO_3.out) hb); have n1_ := Aside0.mk (Kd.R_elder' (by (with_reducible repeat (first | apply Kd.R_alloc | apply Kd.R_drewN | apply Kd.R_drew)); exact HO155.out) (Kd.R_base ho0) hb); have n2_ := Aside0.mk (Kd.R_lower (Kd.R_new' ho0 (Kd.R_lt (by (with_reducible repeat (first | apply Kd.R_alloc | apply Kd.R_drewN | apply Kd.R_drew)); exact HO155.out))) (below_size (by repeat (first | (with_reducible first | exact HB.out | apply below_alloc | apply pw_below_drewN | apply below_drew1 | refine below_set ?_ GE143.out) | exact HB.out)))); have n3_ := Aside0.mk (blk_below (g := gb143) (o := .cells #[.slice A0_0 l0_0.length c0_0, .slice A0_1 l0_1.length c0_1, .slice A0_2 l0_2.length c0_2] 26 (0, 0)) (by (with_reducible repeat (first | refine blk_drewN ?_ _ | refine blk_drew ?_ | refine blk_alloc ?_ _)); exact BK143.out) hb); have n4_ := Aside0.mk (below_step (by repeat (first | (with_reducible first | exact HB.out | apply below_alloc | apply pw_below_drewN | apply below_drew1 | refine below_set ?_ GE143.out) | exact HB.out)) hb); clear HO_3; clear HO155; clear BK143; clear HB; have HO_3 := n0_; have HO155 := n1_; have HO163 := n2_; have BK143 := n3_; have HB := n4_; clear n0_ n1_ n2_ n3_ n4_; (try clear hb); (try clear hb2); (try clear hk); (try clear hi); (try clear ho0)))
    (try simp only [Act.put, List.setIfInBounds_toArray, List.set_cons_zero, List.set_cons_succ])
    go_cut [9, 11] (fun v9 v11 wc => ∃ (kq : Nat) (x9_24 : List Int) (x11_24 : Int), v11 = .int .i64 x11_24 ∧ Aside0 (lectionarylaw3_TextExact.j2 kq y148 x4_1 t152 t153 t157 t158 x9_24 t161 x11_24 l0_0 l0_1 l0_2 = some r) ∧ Aside0 (kq ≤ kj14) ∧ Aside0 (Kd.R Kd.string 9 wc w.heap.size (fun _ => True) (.slice (some ad151) y148.length co26) y148) ∧ Aside0 (Kd.R (Kd.int .i32) 21 wc w.heap.size (fun k_ => some k_ ≠ (v9 : Value).ownBlock) v154 t152) ∧ Aside0 (Kd.R (Kd.int .i32) 21 wc w.heap.size (fun k_ => some k_ ≠ (v154 : Value).ownBlock) v9 x9_24) ∧ Aside0 (wc.heap[gb143]? = some (.cells #[(.slice A0_0 l0_0.length c0_0), (.slice A0_1 l0_1.length c0_1), (.slice A0_2 l0_2.length c0_2)] 26 (0, 0))) ∧ Aside0 (Below w.heap.size w wc))
    case first =>
     have H := HC25.out
     clear HC25
     by_cases c30 : t161 = true
     ·
      subst c30
      have H1 : (lectionarylaw3_TextExact.j2 kj14 y148 x4_1 t152 t153 t157 t158 t160 true 0 l0_0 l0_1 l0_2) = some r := by rw [if_pos rfl] at H; exact H
      clear H
      have H := H1
      clear H1
      as_aux_lemma =>
       have H' := Aside0.mk H
       clear H
       go_wp2
       go_meet
       case rel => exact ⟨_, (t160), (0), (by first | rfl | (simp; done) | (simp [*]; done)), H', ⟨by have := HK1.out; have := HJ14.out; first | omega | exact Nat.le_refl _⟩, ⟨by (with_reducible repeat (first | apply Kd.R_alloc | apply Kd.R_drewN | apply Kd.R_drew)); exact HO_3.out⟩, ⟨by (with_reducible repeat (first | apply Kd.R_alloc | apply Kd.R_drewN | apply Kd.R_drew)); exact Kd.R_mono HO155.out (fun _ hk => hk.2)⟩, ⟨by (with_reducible repeat (first | apply Kd.R_alloc | apply Kd.R_drewN | apply Kd.R_drew)); exact Kd.R_mono HO163.out (fun _ hk => hk.2)⟩, ⟨by (with_reducible repeat (first | refine blk_drewN ?_ _ | refine blk_drew ?_ | refine blk_alloc ?_ _)); exact BK143.out⟩, ⟨by repeat (first | (with_reducible first | exact HB.out | apply below_alloc | apply pw_below_drewN | apply below_drew1 | refine below_set ?_ GE143.out) | exact HB.out)⟩⟩
     replace c30 := Bool.eq_false_iff.mpr c30
     subst c30
     have H1 : (lectionarylaw3_TextExact.j2 kj14 y148 x4_1 t152 t153 t157 t158 ([] : List Int) false 1 l0_0 l0_1 l0_2) = some r := by rw [if_neg (show ¬ (false = true) by decide)] at H; exact H
     clear H
     have H := H1
     clear H1
     as_aux_lemma =>
      have H' := Aside0.mk H
      clear H
      go_wp2
      go_meet
      case rel => exact ⟨_, (([] : List Int)), (1), (by first | rfl | (simp; done) | (simp [*]; done)), H', ⟨by have := HK1.out; have := HJ14.out; first | omega | exact Nat.le_refl _⟩, ⟨by (with_reducible repeat (first | apply Kd.R_alloc | apply Kd.R_drewN | apply Kd.R_drew)); exact HO_3.out⟩, ⟨by (with_reducible repeat (first | apply Kd.R_alloc | apply Kd.R_drewN | apply Kd.R_drew)); exact Kd.R_mono HO155.out (fun _ hk => (by simp [Value.ownBlock]))⟩, ⟨by first | exact Kd.R_nil _ _ _ _ _ | exact Kd.N_nil _ _ _ _ _ | exact Kd.V_nil _ _ _ _ _ | exact Kd.Q_nil _ _ _ _ _ | exact Kd.S_nil _ _ _ _ _⟩, ⟨by (with_reducible repeat (first | refine blk_drewN ?_ _ | refine blk_drew ?_ | refine blk_alloc ?_ _)); exact BK143.out⟩, ⟨by repeat (first | (with_reducible first | exact HB.out | apply below_alloc | apply pw_below_drewN | apply below_drew1 | refine below_set ?_ GE143.out) | exact HB.out)⟩⟩
    case rest =>
     clear HC25
     try clear c1
     try clear p1
     try clear q1
     try clear hx1
     try clear c2
     try clear p2
     try clear c3
     try clear c4
     try clear c5
     try clear c6
     try clear c7
     try clear c10
     try clear c11
     try clear p15
     try clear q15
     try clear hx15
     try clear c16
     try clear c16b0
     try clear c19
     try clear c20
     try clear c20b0
     try clear c21
     try clear c21b0
     try clear c30
     try clear hcz13_0
     try clear hcz13_1
     try clear hcz13_2
     try clear hcz5_0
     try clear hcz5_1
     try clear hcz5_2
     try clear hcz9_0
     try clear hcz9_1
     try clear hcz9_2
     try clear hfz13_0
     try clear hfz13_1
     try clear hfz13_2
     try clear hfz5_0
     try clear hfz5_1
     try clear hfz5_2
     try clear hfz9_0
     try clear hfz9_1
     try clear hfz9_2
     try clear hx151_0
     try clear hx156_0
     try clear hx159_0
     try clear p151
     try clear p156
     try clear p159
     try clear p2
     try clear q151
     try clear q156
     try clear q159
     obtain ⟨kq, x9_24, x11_24, rfl, HA, HJ24, HO_3, HO_5, HO_9, BK143, HB⟩ := hcut
     cases kq with
     | zero => exact absurd HA.out (by simp [lectionarylaw3_TextExact.j2])
     | succ kj24 =>
      have H := HA.out
      clear HA
      simp only [lectionarylaw3_TextExact.j2] at H
      have HC31 := Aside0.mk H
      clear H
      go_upto_region 13 with (fail)
      go_cut [99] (fun v99 wc => ∃ (kq : Nat) (x99_30 : Bool), v99 = .bool x99_30 ∧ Aside0 (lectionarylaw3_TextExact.j3 kq y148 x4_1 x9_24 t161 x11_24 x99_30 l0_0 l0_1 l0_2 = some r) ∧ Aside0 (kq ≤ kj24) ∧ Aside0 (Kd.R Kd.string 9 wc w.heap.size (fun _ => True) (.slice (some ad151) y148.length co26) y148) ∧ Aside0 (Kd.R (Kd.int .i32) 21 wc w.heap.size (fun _ => True) u9 x9_24) ∧ Aside0 (wc.heap[gb143]? = some (.cells #[(.slice A0_0 l0_0.length c0_0), (.slice A0_1 l0_1.length c0_1), (.slice A0_2 l0_2.length c0_2)] 26 (0, 0))) ∧ Aside0 (Below w.heap.size w wc))
      case first =>
       have H := HC31.out
       clear HC31
       by_cases c32 : 0 ≤ x4_1
       rotate_left
       ·
        rw [if_neg c32] at H
        exact absurd H (by simp)
       rw [if_pos c32] at H
       have c32b0 : decide (0 ≤ x4_1) = true := decide_eq_true c32
       clear c32
       (first | rw [c32b0] | (simp only [i64_w, i32_w]; rw [c32b0]) | skip)
       by_cases c33 : x4_1 < (y148.length : Int)
       rotate_left
       ·
        rw [if_neg c33] at H
        exact absurd H (by simp)
       rw [if_pos c33] at H
       have c33b0 : decide (x4_1 < (y148.length : Int)) = true := decide_eq_true c33
       clear c33
       replace H := Option.bind_eq_some_iff.mp H
       obtain ⟨t165, A340, H⟩ := H
       replace H : ((lectionarylaw3_num.f t165).bind fun t166 => (if t166 = x11_24 then ((lectionarylaw3_num.f t153).bind fun t167 => (if t167 = x11_24 then ((lectionaryref0_EqRunes.f kj24 t152 x9_24).bind fun t168 => (if t168 = true then ((lectionarylaw3_num.f t158).bind fun t169 => (if t169 = x11_24 then (lectionarylaw3_TextExact.j3 kj24 y148 x4_1 x9_24 t161 x11_24 (t157 != (x9_24.length : Int)) l0_0 l0_1 l0_2) else (lectionarylaw3_TextExact.j3 kj24 y148 x4_1 x9_24 t161 x11_24 true l0_0 l0_1 l0_2))) else (lectionarylaw3_TextExact.j3 kj24 y148 x4_1 x9_24 t161 x11_24 true l0_0 l0_1 l0_2))) else (lectionarylaw3_TextExact.j3 kj24 y148 x4_1 x9_24 t161 x11_24 true l0_0 l0_1 l0_2))) else (lectionarylaw3_TextExact.j3 kj24 y148 x4_1 x9_24 t161 x11_24 true l0_0 l0_1 l0_2))) = some r := H
       have A34 := Aside0.mk A340
       clear A340
       replace H := Option.bind_eq_some_iff.mp H
       obtain ⟨t166, A350, H⟩ := H
       replace H : (if t166 = x11_24 then ((lectionarylaw3_num.f t153).bind fun t167 => (if t167 = x11_24 then ((lectionaryref0_EqRunes.f kj24 t152 x9_24).bind fun t168 => (if t168 = true then ((lectionarylaw3_num.f t158).bind fun t169 => (if t169 = x11_24 then (lectionarylaw3_TextExact.j3 kj24 y148 x4_1 x9_24 t161 x11_24 (t157 != (x9_24.length : Int)) l0_0 l0_1 l0_2) else (lectionarylaw3_TextExact.j3 kj24 y148 x4_1 x9_24 t161 x11_24 true l0_0 l0_1 l0_2))) else (lectionarylaw3_TextExact.j3 kj24 y148 x4_1 x9_24 t161 x11_24 true l0_0 l0_1 l0_2))) else (lectionarylaw3_TextExact.j3 kj24 y148 x4_1 x9_24 t161 x11_24 true l0_0 l0_1 l0_2))) else (lectionarylaw3_TextExact.j3 kj24 y148 x4_1 x9_24 t161 x11_24 true l0_0 l0_1 l0_2)) = some r := H
       have A35 := Aside0.mk A350
       clear A350
       by_cases c36 : t166 = x11_24
       rotate_left
       ·
        rw [if_neg c36] at H
        have c36b0 : (t166 == x11_24) = false := beq_eq_false_iff_ne.mpr c36
        have c36b1 : (t166 != x11_24) = true := bne_iff_ne.mpr c36
        as_aux_lemma =>
         have H' := Aside0.mk H
         clear H
         have p164 : 0 ≤ (x4_1 : Int) := of_decide_eq_true (by first | (with_reducible assumption) | assumption)
         have q164 : x4_1 < (y148.length : Int) := of_decide_eq_true (by first | (with_reducible assumption) | assumption)
         obtain ⟨ad164, e164, hx164_0⟩ := Kd.at_string (Kd.R_reads' HO_3.out).2.2 x4_1 p164 q164
         obtain rfl : ad151 = ad164 := (by injection e164)
         replace p164 := eq_true p164
         replace q164 := eq_true q164
         go_wp2_with (first | ((with_reducible refine gate_callee (f := 12) rfl ?_); refine goesL_ (some 72) rfl rfl Tryd.func12 (by kernel_rfl) rfl #[.string (rdOf ByteArray.empty y148 x4_1)] rfl (by (try simp only [List.map_toArray, List.map_cons, List.map_nil]); first | done | rfl | (simp only [List.length_drop, List.length_take]; rfl)) ?_; (with_reducible refine (text_Check.calls (rdOf ByteArray.empty y148 x4_1) t165 _ A34.out).mono ?_); rintro e w53 ⟨rfl, hb⟩; refine ⟨_, rfl, ?_⟩; have n0_ := Aside0.mk (Kd.R_below (by (with_reducible repeat (first | apply Kd.R_alloc | apply Kd.R_drewN | apply Kd.R_drew)); exact HO_3.out) hb); have n1_ := Aside0.mk (Kd.R_below (by (with_reducible repeat (first | apply Kd.R_alloc | apply Kd.R_drewN | apply Kd.R_drew)); exact HO_5.out) hb); have n2_ := Aside0.mk (Kd.R_below (by (with_reducible repeat (first | apply Kd.R_alloc | apply Kd.R_drewN | apply Kd.R_drew)); exact HO_9.out) hb); have n3_ := Aside0.mk (blk_below (g := gb143) (o := .cells #[.slice A0_0 l0_0.length c0_0, .slice A0_1 l0_1.length c0_1, .slice A0_2 l0_2.length c0_2] 26 (0, 0)) (by (with_reducible repeat (first | refine blk_drewN ?_ _ | refine blk_drew ?_ | refine blk_alloc ?_ _)); exact BK143.out) hb); have n4_ := Aside0.mk (below_step (by repeat (first | (with_reducible first | exact HB.out | apply below_alloc | apply pw_below_drewN | apply below_drew1 | refine below_set ?_ GE143.out) | exact HB.out)) hb); clear HO_3; clear HO_5; clear HO_9; clear BK143; clear HB; have HO_3 := n0_; have HO_5 := n1_; have HO_9 := n2_; have BK143 := n3_; have HB := n4_; clear n0_ n1_ n2_ n3_ n4_; (try clear hb); (try clear hb2); (try clear hk); (try clear hi)) | ((with_reducible refine gate_callee (f := 7) rfl ?_); refine goesL_ (some 73) rfl rfl Tryd.func7 (by kernel_rfl) rfl #[.int .i64 t165] rfl (by (try simp only [List.map_toArray, List.map_cons, List.map_nil]); first | done | rfl | (simp only [List.length_drop, List.length_take]; rfl)) ?_; (with_reducible refine (lectionarylaw3_num.calls t165 t166 _ A35.out).mono ?_); rintro e w' ⟨rfl, ⟨nd, rfl⟩⟩; refine ⟨_, rfl, ?_⟩))
         go_meet
         case rel => exact ⟨_, (true), (by first | rfl | (simp; done) | (simp [*]; done)), H', ⟨by have := HK1.out; have := HJ14.out; have := HJ24.out; first | omega | exact Nat.le_refl _⟩, ⟨by (with_reducible repeat (first | apply Kd.R_alloc | apply Kd.R_drewN | apply Kd.R_drew)); exact HO_3.out⟩, ⟨by (with_reducible repeat (first | apply Kd.R_alloc | apply Kd.R_drewN | apply Kd.R_drew)); exact Kd.R_mono HO_9.out (fun _ hk => trivial)⟩, ⟨by (with_reducible repeat (first | refine blk_drewN ?_ _ | refine blk_drew ?_ | refine blk_alloc ?_ _)); exact BK143.out⟩, ⟨by repeat (first | (with_reducible first | exact HB.out | apply below_alloc | apply pw_below_drewN | apply below_drew1 | refine below_set ?_ GE143.out) | exact HB.out)⟩⟩
       rw [if_pos c36] at H
       have c36b0 : (t166 == x11_24) = true := beq_iff_eq.mpr c36
       have c36b1 : (t166 != x11_24) = false := bne_eq_false_iff_eq.mpr c36
       clear c36
       replace H := Option.bind_eq_some_iff.mp H
       obtain ⟨t167, A370, H⟩ := H
       replace H : (if t167 = x11_24 then ((lectionaryref0_EqRunes.f kj24 t152 x9_24).bind fun t168 => (if t168 = true then ((lectionarylaw3_num.f t158).bind fun t169 => (if t169 = x11_24 then (lectionarylaw3_TextExact.j3 kj24 y148 x4_1 x9_24 t161 x11_24 (t157 != (x9_24.length : Int)) l0_0 l0_1 l0_2) else (lectionarylaw3_TextExact.j3 kj24 y148 x4_1 x9_24 t161 x11_24 true l0_0 l0_1 l0_2))) else (lectionarylaw3_TextExact.j3 kj24 y148 x4_1 x9_24 t161 x11_24 true l0_0 l0_1 l0_2))) else (lectionarylaw3_TextExact.j3 kj24 y148 x4_1 x9_24 t161 x11_24 true l0_0 l0_1 l0_2)) = some r := H
       have A37 := Aside0.mk A370
       clear A370
       by_cases c38 : t167 = x11_24
       rotate_left
       ·
        rw [if_neg c38] at H
        have c38b0 : (t167 == x11_24) = false := beq_eq_false_iff_ne.mpr c38
        have c38b1 : (t167 != x11_24) = true := bne_iff_ne.mpr c38
        as_aux_lemma =>
         have H' := Aside0.mk H
         clear H
         have p164 : 0 ≤ (x4_1 : Int) := of_decide_eq_true (by first | (with_reducible assumption) | assumption)
         have q164 : x4_1 < (y148.length : Int) := of_decide_eq_true (by first | (with_reducible assumption) | assumption)
         obtain ⟨ad164, e164, hx164_0⟩ := Kd.at_string (Kd.R_reads' HO_3.out).2.2 x4_1 p164 q164
         obtain rfl : ad151 = ad164 := (by injection e164)
         replace p164 := eq_true p164
         replace q164 := eq_true q164
         go_wp2_with (first | ((with_reducible refine gate_callee (f := 12) rfl ?_); refine goesL_ (some 72) rfl rfl Tryd.func12 (by kernel_rfl) rfl #[.string (rdOf ByteArray.empty y148 x4_1)] rfl (by (try simp only [List.map_toArray, List.map_cons, List.map_nil]); first | done | rfl | (simp only [List.length_drop, List.length_take]; rfl)) ?_; (with_reducible refine (text_Check.calls (rdOf ByteArray.empty y148 x4_1) t165 _ A34.out).mono ?_); rintro e w52 ⟨rfl, hb⟩; refine ⟨_, rfl, ?_⟩; have n0_ := Aside0.mk (Kd.R_below (by (with_reducible repeat (first | apply Kd.R_alloc | apply Kd.R_drewN | apply Kd.R_drew)); exact HO_3.out) hb); have n1_ := Aside0.mk (Kd.R_below (by (with_reducible repeat (first | apply Kd.R_alloc | apply Kd.R_drewN | apply Kd.R_drew)); exact HO_5.out) hb); have n2_ := Aside0.mk (Kd.R_below (by (with_reducible repeat (first | apply Kd.R_alloc | apply Kd.R_drewN | apply Kd.R_drew)); exact HO_9.out) hb); have n3_ := Aside0.mk (blk_below (g := gb143) (o := .cells #[.slice A0_0 l0_0.length c0_0, .slice A0_1 l0_1.length c0_1, .slice A0_2 l0_2.length c0_2] 26 (0, 0)) (by (with_reducible repeat (first | refine blk_drewN ?_ _ | refine blk_drew ?_ | refine blk_alloc ?_ _)); exact BK143.out) hb); have n4_ := Aside0.mk (below_step (by repeat (first | (with_reducible first | exact HB.out | apply below_alloc | apply pw_below_drewN | apply below_drew1 | refine below_set ?_ GE143.out) | exact HB.out)) hb); clear HO_3; clear HO_5; clear HO_9; clear BK143; clear HB; have HO_3 := n0_; have HO_5 := n1_; have HO_9 := n2_; have BK143 := n3_; have HB := n4_; clear n0_ n1_ n2_ n3_ n4_; (try clear hb); (try clear hb2); (try clear hk); (try clear hi)) | ((with_reducible refine gate_callee (f := 7) rfl ?_); refine goesL_ (some 73) rfl rfl Tryd.func7 (by kernel_rfl) rfl #[.int .i64 t165] rfl (by (try simp only [List.map_toArray, List.map_cons, List.map_nil]); first | done | rfl | (simp only [List.length_drop, List.length_take]; rfl)) ?_; (with_reducible refine (lectionarylaw3_num.calls t165 t166 _ A35.out).mono ?_); rintro e w' ⟨rfl, ⟨nd, rfl⟩⟩; refine ⟨_, rfl, ?_⟩) | (go_at_call 7; (with_reducible refine (lectionarylaw3_num.calls t153 t167 _ A37.out).mono ?_); rintro e w' ⟨rfl, ⟨nd, rfl⟩⟩))
         go_meet
         case rel => exact ⟨_, (true), (by first | rfl | (simp; done) | (simp [*]; done)), H', ⟨by have := HK1.out; have := HJ14.out; have := HJ24.out; first | omega | exact Nat.le_refl _⟩, ⟨by (with_reducible repeat (first | apply Kd.R_alloc | apply Kd.R_drewN | apply Kd.R_drew)); exact HO_3.out⟩, ⟨by (with_reducible repeat (first | apply Kd.R_alloc | apply Kd.R_drewN | apply Kd.R_drew)); exact Kd.R_mono HO_9.out (fun _ hk => trivial)⟩, ⟨by (with_reducible repeat (first | refine blk_drewN ?_ _ | refine blk_drew ?_ | refine blk_alloc ?_ _)); exact BK143.out⟩, ⟨by repeat (first | (with_reducible first | exact HB.out | apply below_alloc | apply pw_below_drewN | apply below_drew1 | refine below_set ?_ GE143.out) | exact HB.out)⟩⟩
       rw [if_pos c38] at H
       have c38b0 : (t167 == x11_24) = true := beq_iff_eq.mpr c38
       have c38b1 : (t167 != x11_24) = false := bne_eq_false_iff_eq.mpr c38
       clear c38
       replace H := Option.bind_eq_some_iff.mp H
       obtain ⟨t168, A390, H⟩ := H
       replace H : (if t168 = true then ((lectionarylaw3_num.f t158).bind fun t169 => (if t169 = x11_24 then (lectionarylaw3_TextExact.j3 kj24 y148 x4_1 x9_24 t161 x11_24 (t157 != (x9_24.length : Int)) l0_0 l0_1 l0_2) else (lectionarylaw3_TextExact.j3 kj24 y148 x4_1 x9_24 t161 x11_24 true l0_0 l0_1 l0_2))) else (lectionarylaw3_TextExact.j3 kj24 y148 x4_1 x9_24 t161 x11_24 true l0_0 l0_1 l0_2)) = some r := H
       have A39 := Aside0.mk A390
       clear A390
       by_cases c40 : t168 = true
       rotate_left
       ·
        replace c40 := Bool.eq_false_iff.mpr c40
        subst c40
        have H1 : (lectionarylaw3_TextExact.j3 kj24 y148 x4_1 x9_24 t161 x11_24 true l0_0 l0_1 l0_2) = some r := by rw [if_neg (show ¬ (false = true) by decide)] at H; exact H
        clear H
        have H := H1
        clear H1
        as_aux_lemma =>
         have H' := Aside0.mk H
         clear H
         have p164 : 0 ≤ (x4_1 : Int) := of_decide_eq_true (by first | (with_reducible assumption) | assumption)
         have q164 : x4_1 < (y148.length : Int) := of_decide_eq_true (by first | (with_reducible assumption) | assumption)
         obtain ⟨ad164, e164, hx164_0⟩ := Kd.at_string (Kd.R_reads' HO_3.out).2.2 x4_1 p164 q164
         obtain rfl : ad151 = ad164 := (by injection e164)
         replace p164 := eq_true p164
         replace q164 := eq_true q164
         go_wp2_with (first | ((with_reducible refine gate_callee (f := 12) rfl ?_); refine goesL_ (some 72) rfl rfl Tryd.func12 (by kernel_rfl) rfl #[.string (rdOf ByteArray.empty y148 x4_1)] rfl (by (try simp only [List.map_toArray, List.map_cons, List.map_nil]); first | done | rfl | (simp only [List.length_drop, List.length_take]; rfl)) ?_; (with_reducible refine (text_Check.calls (rdOf ByteArray.empty y148 x4_1) t165 _ A34.out).mono ?_); rintro e w49 ⟨rfl, hb⟩; refine ⟨_, rfl, ?_⟩; have n0_ := Aside0.mk (Kd.R_below (by (with_reducible repeat (first | apply Kd.R_alloc | apply Kd.R_drewN | apply Kd.R_drew)); exact HO_3.out) hb); have n1_ := Aside0.mk (Kd.R_below (by (with_reducible repeat (first | apply Kd.R_alloc | apply Kd.R_drewN | apply Kd.R_drew)); exact HO_5.out) hb); have n2_ := Aside0.mk (Kd.R_below (by (with_reducible repeat (first | apply Kd.R_alloc | apply Kd.R_drewN | apply Kd.R_drew)); exact HO_9.out) hb); have n3_ := Aside0.mk (blk_below (g := gb143) (o := .cells #[.slice A0_0 l0_0.length c0_0, .slice A0_1 l0_1.length c0_1, .slice A0_2 l0_2.length c0_2] 26 (0, 0)) (by (with_reducible repeat (first | refine blk_drewN ?_ _ | refine blk_drew ?_ | refine blk_alloc ?_ _)); exact BK143.out) hb); have n4_ := Aside0.mk (below_step (by repeat (first | (with_reducible first | exact HB.out | apply below_alloc | apply pw_below_drewN | apply below_drew1 | refine below_set ?_ GE143.out) | exact HB.out)) hb); clear HO_3; clear HO_5; clear HO_9; clear BK143; clear HB; have HO_3 := n0_; have HO_5 := n1_; have HO_9 := n2_; have BK143 := n3_; have HB := n4_; clear n0_ n1_ n2_ n3_ n4_; (try clear hb); (try clear hb2); (try clear hk); (try clear hi)) | ((with_reducible refine gate_callee (f := 7) rfl ?_); refine goesL_ (some 73) rfl rfl Tryd.func7 (by kernel_rfl) rfl #[.int .i64 t165] rfl (by (try simp only [List.map_toArray, List.map_cons, List.map_nil]); first | done | rfl | (simp only [List.length_drop, List.length_take]; rfl)) ?_; (with_reducible refine (lectionarylaw3_num.calls t165 t166 _ A35.out).mono ?_); rintro e w' ⟨rfl, ⟨nd, rfl⟩⟩; refine ⟨_, rfl, ?_⟩) | (go_at_call 7; (with_reducible refine (lectionarylaw3_num.calls t153 t167 _ A37.out).mono ?_); rintro e w' ⟨rfl, ⟨nd, rfl⟩⟩; obtain ⟨Ao50, co50, eo50⟩ := Kd.R_slice HO_5.out; subst eo50; obtain ⟨Ao51, co51, eo51⟩ := Kd.R_slice HO_9.out; subst eo51) | (go_at_call 8; (with_reducible refine (lectionaryref0_EqRunes.calls kj24 _ _ t152 _ _ x9_24 false _ ?side1 ?side2 ?side3 ?side4 A39.out).mono ?_); (case side1 => repeat (first | exact (Kd.R_reads' HO_5.out).2.2 | (with_reducible refine Kd.C_alloc ?_ _) | (with_reducible refine Kd.C_drewN ?_ _) | (with_reducible refine Kd.C_drew ?_))); (case side2 => exact (Kd.R_reads' HO_5.out).2.1); (case side3 => repeat (first | exact (Kd.R_reads' HO_9.out).2.2 | (with_reducible refine Kd.C_alloc ?_ _) | (with_reducible refine Kd.C_drewN ?_ _) | (with_reducible refine Kd.C_drew ?_))); (case side4 => exact (Kd.R_reads' HO_9.out).2.1); rintro e w' ⟨rfl, ⟨nd, rfl⟩⟩))
         go_meet
         case rel => exact ⟨_, (true), (by first | rfl | (simp; done) | (simp [*]; done)), H', ⟨by have := HK1.out; have := HJ14.out; have := HJ24.out; first | omega | exact Nat.le_refl _⟩, ⟨by (with_reducible repeat (first | apply Kd.R_alloc | apply Kd.R_drewN | apply Kd.R_drew)); exact HO_3.out⟩, ⟨by (with_reducible repeat (first | apply Kd.R_alloc | apply Kd.R_drewN | apply Kd.R_drew)); exact Kd.R_mono HO_9.out (fun _ hk => trivial)⟩, ⟨by (with_reducible repeat (first | refine blk_drewN ?_ _ | refine blk_drew ?_ | refine blk_alloc ?_ _)); exact BK143.out⟩, ⟨by repeat (first | (with_reducible first | exact HB.out | apply below_alloc | apply pw_below_drewN | apply below_drew1 | refine below_set ?_ GE143.out) | exact HB.out)⟩⟩
       subst c40
       have H1 : ((lectionarylaw3_num.f t158).bind fun t169 => (if t169 = x11_24 then (lectionarylaw3_TextExact.j3 kj24 y148 x4_1 x9_24 t161 x11_24 (t157 != (x9_24.length : Int)) l0_0 l0_1 l0_2) else (lectionarylaw3_TextExact.j3 kj24 y148 x4_1 x9_24 t161 x11_24 true l0_0 l0_1 l0_2))) = some r := by rw [if_pos rfl] at H; exact H
       clear H
       have H := H1
       clear H1
       replace H := Option.bind_eq_some_iff.mp H
       obtain ⟨t169, A410, H⟩ := H
       replace H : (if t169 = x11_24 then (lectionarylaw3_TextExact.j3 kj24 y148 x4_1 x9_24 t161 x11_24 (t157 != (x9_24.length : Int)) l0_0 l0_1 l0_2) else (lectionarylaw3_TextExact.j3 kj24 y148 x4_1 x9_24 t161 x11_24 true l0_0 l0_1 l0_2)) = some r := H
       have A41 := Aside0.mk A410
       clear A410
       by_cases c42 : t169 = x11_24
       rotate_left
       ·
        rw [if_neg c42] at H
        have c42b0 : (t169 == x11_24) = false := beq_eq_false_iff_ne.mpr c42
        have c42b1 : (t169 != x11_24) = true := bne_iff_ne.mpr c42
        as_aux_lemma =>
         have H' := Aside0.mk H
         clear H
         have p164 : 0 ≤ (x4_1 : Int) := of_decide_eq_true (by first | (with_reducible assumption) | assumption)
         have q164 : x4_1 < (y148.length : Int) := of_decide_eq_true (by first | (with_reducible assumption) | assumption)
         obtain ⟨ad164, e164, hx164_0⟩ := Kd.at_string (Kd.R_reads' HO_3.out).2.2 x4_1 p164 q164
         obtain rfl : ad151 = ad164 := (by injection e164)
         replace p164 := eq_true p164
         replace q164 := eq_true q164
         go_wp2_with (first | ((with_reducible refine gate_callee (f := 12) rfl ?_); refine goesL_ (some 72) rfl rfl Tryd.func12 (by kernel_rfl) rfl #[.string (rdOf ByteArray.empty y148 x4_1)] rfl (by (try simp only [List.map_toArray, List.map_cons, List.map_nil]); first | done | rfl | (simp only [List.length_drop, List.length_take]; rfl)) ?_; (with_reducible refine (text_Check.calls (rdOf ByteArray.empty y148 x4_1) t165 _ A34.out).mono ?_); rintro e w46 ⟨rfl, hb⟩; refine ⟨_, rfl, ?_⟩; have n0_ := Aside0.mk (Kd.R_below (by (with_reducible repeat (first | apply Kd.R_alloc | apply Kd.R_drewN | apply Kd.R_drew)); exact HO_3.out) hb); have n1_ := Aside0.mk (Kd.R_below (by (with_reducible repeat (first | apply Kd.R_alloc | apply Kd.R_drewN | apply Kd.R_drew)); exact HO_5.out) hb); have n2_ := Aside0.mk (Kd.R_below (by (with_reducible repeat (first | apply Kd.R_alloc | apply Kd.R_drewN | apply Kd.R_drew)); exact HO_9.out) hb); have n3_ := Aside0.mk (blk_below (g := gb143) (o := .cells #[.slice A0_0 l0_0.length c0_0, .slice A0_1 l0_1.length c0_1, .slice A0_2 l0_2.length c0_2] 26 (0, 0)) (by (with_reducible repeat (first | refine blk_drewN ?_ _ | refine blk_drew ?_ | refine blk_alloc ?_ _)); exact BK143.out) hb); have n4_ := Aside0.mk (below_step (by repeat (first | (with_reducible first | exact HB.out | apply below_alloc | apply pw_below_drewN | apply below_drew1 | refine below_set ?_ GE143.out) | exact HB.out)) hb); clear HO_3; clear HO_5; clear HO_9; clear BK143; clear HB; have HO_3 := n0_; have HO_5 := n1_; have HO_9 := n2_; have BK143 := n3_; have HB := n4_; clear n0_ n1_ n2_ n3_ n4_; (try clear hb); (try clear hb2); (try clear hk); (try clear hi)) | ((with_reducible refine gate_callee (f := 7) rfl ?_); refine goesL_ (some 73) rfl rfl Tryd.func7 (by kernel_rfl) rfl #[.int .i64 t165] rfl (by (try simp only [List.map_toArray, List.map_cons, List.map_nil]); first | done | rfl | (simp only [List.length_drop, List.length_take]; rfl)) ?_; (with_reducible refine (lectionarylaw3_num.calls t165 t166 _ A35.out).mono ?_); rintro e w' ⟨rfl, ⟨nd, rfl⟩⟩; refine ⟨_, rfl, ?_⟩) | (go_at_call 7; (with_reducible refine (lectionarylaw3_num.calls t153 t167 _ A37.out).mono ?_); rintro e w' ⟨rfl, ⟨nd, rfl⟩⟩; obtain ⟨Ao47, co47, eo47⟩ := Kd.R_slice HO_5.out; subst eo47; obtain ⟨Ao48, co48, eo48⟩ := Kd.R_slice HO_9.out; subst eo48) | (go_at_call 8; (with_reducible refine (lectionaryref0_EqRunes.calls kj24 _ _ t152 _ _ x9_24 true _ ?side1 ?side2 ?side3 ?side4 A39.out).mono ?_); (case side1 => repeat (first | exact (Kd.R_reads' HO_5.out).2.2 | (with_reducible refine Kd.C_alloc ?_ _) | (with_reducible refine Kd.C_drewN ?_ _) | (with_reducible refine Kd.C_drew ?_))); (case side2 => exact (Kd.R_reads' HO_5.out).2.1); (case side3 => repeat (first | exact (Kd.R_reads' HO_9.out).2.2 | (with_reducible refine Kd.C_alloc ?_ _) | (with_reducible refine Kd.C_drewN ?_ _) | (with_reducible refine Kd.C_drew ?_))); (case side4 => exact (Kd.R_reads' HO_9.out).2.1); rintro e w' ⟨rfl, ⟨nd, rfl⟩⟩) | (go_at_call 7; (with_reducible refine (lectionarylaw3_num.calls t158 t169 _ A41.out).mono ?_); rintro e w' ⟨rfl, ⟨nd, rfl⟩⟩))
         go_meet
         case rel => exact ⟨_, (true), (by first | rfl | (simp; done) | (simp [*]; done)), H', ⟨by have := HK1.out; have := HJ14.out; have := HJ24.out; first | omega | exact Nat.le_refl _⟩, ⟨by (with_reducible repeat (first | apply Kd.R_alloc | apply Kd.R_drewN | apply Kd.R_drew)); exact HO_3.out⟩, ⟨by (with_reducible repeat (first | apply Kd.R_alloc | apply Kd.R_drewN | apply Kd.R_drew)); exact Kd.R_mono HO_9.out (fun _ hk => trivial)⟩, ⟨by (with_reducible repeat (first | refine blk_drewN ?_ _ | refine blk_drew ?_ | refine blk_alloc ?_ _)); exact BK143.out⟩, ⟨by repeat (first | (with_reducible first | exact HB.out | apply below_alloc | apply pw_below_drewN | apply below_drew1 | refine below_set ?_ GE143.out) | exact HB.out)⟩⟩
       rw [if_pos c42] at H
       have c42b0 : (t169 == x11_24) = true := beq_iff_eq.mpr c42
       have c42b1 : (t169 != x11_24) = false := bne_eq_false_iff_eq.mpr c42
       clear c42
       as_aux_lemma =>
        have H' := Aside0.mk H
        clear H
        have p164 : 0 ≤ (x4_1 : Int) := of_decide_eq_true (by first | (with_reducible assumption) | assumption)
        have q164 : x4_1 < (y148.length : Int) := of_decide_eq_true (by first | (with_reducible assumption) | assumption)
        obtain ⟨ad164, e164, hx164_0⟩ := Kd.at_string (Kd.R_reads' HO_3.out).2.2 x4_1 p164 q164
        obtain rfl : ad151 = ad164 := (by injection e164)
        replace p164 := eq_true p164
        replace q164 := eq_true q164
        go_wp2_with (first | ((with_reducible refine gate_callee (f := 12) rfl ?_); refine goesL_ (some 72) rfl rfl Tryd.func12 (by kernel_rfl) rfl #[.string (rdOf ByteArray.empty y148 x4_1)] rfl (by (try simp only [List.map_toArray, List.map_cons, List.map_nil]); first | done | rfl | (simp only [List.length_drop, List.length_take]; rfl)) ?_; (with_reducible refine (text_Check.calls (rdOf ByteArray.empty y148 x4_1) t165 _ A34.out).mono ?_); rintro e w43 ⟨rfl, hb⟩; refine ⟨_, rfl, ?_⟩; have n0_ := Aside0.mk (Kd.R_below (by (with_reducible repeat (first | apply Kd.R_alloc | apply Kd.R_drewN | apply Kd.R_drew)); exact HO_3.out) hb); have n1_ := Aside0.mk (Kd.R_below (by (with_reducible repeat (first | apply Kd.R_alloc | apply Kd.R_drewN | apply Kd.R_drew)); exact HO_5.out) hb); have n2_ := Aside0.mk (Kd.R_below (by (with_reducible repeat (first | apply Kd.R_alloc | apply Kd.R_drewN | apply Kd.R_drew)); exact HO_9.out) hb); have n3_ := Aside0.mk (blk_below (g := gb143) (o := .cells #[.slice A0_0 l0_0.length c0_0, .slice A0_1 l0_1.length c0_1, .slice A0_2 l0_2.length c0_2] 26 (0, 0)) (by (with_reducible repeat (first | refine blk_drewN ?_ _ | refine blk_drew ?_ | refine blk_alloc ?_ _)); exact BK143.out) hb); have n4_ := Aside0.mk (below_step (by repeat (first | (with_reducible first | exact HB.out | apply below_alloc | apply pw_below_drewN | apply below_drew1 | refine below_set ?_ GE143.out) | exact HB.out)) hb); clear HO_3; clear HO_5; clear HO_9; clear BK143; clear HB; have HO_3 := n0_; have HO_5 := n1_; have HO_9 := n2_; have BK143 := n3_; have HB := n4_; clear n0_ n1_ n2_ n3_ n4_; (try clear hb); (try clear hb2); (try clear hk); (try clear hi)) | ((with_reducible refine gate_callee (f := 7) rfl ?_); refine goesL_ (some 73) rfl rfl Tryd.func7 (by kernel_rfl) rfl #[.int .i64 t165] rfl (by (try simp only [List.map_toArray, List.map_cons, List.map_nil]); first | done | rfl | (simp only [List.length_drop, List.length_take]; rfl)) ?_; (with_reducible refine (lectionarylaw3_num.calls t165 t166 _ A35.out).mono ?_); rintro e w' ⟨rfl, ⟨nd, rfl⟩⟩; refine ⟨_, rfl, ?_⟩) | (go_at_call 7; (with_reducible refine (lectionarylaw3_num.calls t153 t167 _ A37.out).mono ?_); rintro e w' ⟨rfl, ⟨nd, rfl⟩⟩; obtain ⟨Ao44, co44, eo44⟩ := Kd.R_slice HO_5.out; subst eo44; obtain ⟨Ao45, co45, eo45⟩ := Kd.R_slice HO_9.out; subst eo45) | (go_at_call 8; (with_reducible refine (lectionaryref0_EqRunes.calls kj24 _ _ t152 _ _ x9_24 true _ ?side1 ?side2 ?side3 ?side4 A39.out).mono ?_); (case side1 => repeat (first | exact (Kd.R_reads' HO_5.out).2.2 | (with_reducible refine Kd.C_alloc ?_ _) | (with_reducible refine Kd.C_drewN ?_ _) | (with_reducible refine Kd.C_drew ?_))); (case side2 => exact (Kd.R_reads' HO_5.out).2.1); (case side3 => repeat (first | exact (Kd.R_reads' HO_9.out).2.2 | (with_reducible refine Kd.C_alloc ?_ _) | (with_reducible refine Kd.C_drewN ?_ _) | (with_reducible refine Kd.C_drew ?_))); (case side4 => exact (Kd.R_reads' HO_9.out).2.1); rintro e w' ⟨rfl, ⟨nd, rfl⟩⟩) | (go_at_call 7; (with_reducible refine (lectionarylaw3_num.calls t158 t169 _ A41.out).mono ?_); rintro e w' ⟨rfl, ⟨nd, rfl⟩⟩))
        go_meet
        case rel => exact ⟨_, ((t157 != (x9_24.length : Int))), (by first | rfl | (simp; done) | (simp [*]; done)), H', ⟨by have := HK1.out; have := HJ14.out; have := HJ24.out; first | omega | exact Nat.le_refl _⟩, ⟨by (with_reducible repeat (first | apply Kd.R_alloc | apply Kd.R_drewN | apply Kd.R_drew)); exact HO_3.out⟩, ⟨by (with_reducible repeat (first | apply Kd.R_alloc | apply Kd.R_drewN | apply Kd.R_drew)); exact Kd.R_mono HO_9.out (fun _ hk => trivial)⟩, ⟨by (with_reducible repeat (first | refine blk_drewN ?_ _ | refine blk_drew ?_ | refine blk_alloc ?_ _)); exact BK143.out⟩, ⟨by repeat (first | (with_reducible first | exact HB.out | apply below_alloc | apply pw_below_drewN | apply below_drew1 | refine below_set ?_ GE143.out) | exact HB.out)⟩⟩
      case rest =>
       clear HC31
       try clear c1
       try clear p1
       try clear q1
       try clear hx1
       try clear c2
       try clear p2
       try clear c3
       try clear c4
       try clear c5
       try clear c6
       try clear c7
       try clear c10
       try clear c11
       try clear c12
       try clear p15
       try clear q15
       try clear hx15
       try clear c16
       try clear c16b0
       try clear p16
       try clear q16
       try clear hx16
       try clear c19
       try clear c20
       try clear c20b0
       try clear c21
       try clear c21b0
       try clear c30
       try clear c32
       try clear c32b0
       try clear c33
       try clear c33b0
       try clear c36
       try clear c36b0
       try clear c36b1
       try clear c38
       try clear c38b0
       try clear c38b1
       try clear c40
       try clear c42
       try clear c42b0
       try clear c42b1
       try clear hcz13_0
       try clear hcz13_1
       try clear hcz13_2
       try clear hcz5_0
       try clear hcz5_1
       try clear hcz5_2
       try clear hcz9_0
       try clear hcz9_1
       try clear hcz9_2
       try clear hfz13_0
       try clear hfz13_1
       try clear hfz13_2
       try clear hfz5_0
       try clear hfz5_1
       try clear hfz5_2
       try clear hfz9_0
       try clear hfz9_1
       try clear hfz9_2
       try clear hx151_0
       try clear hx156_0
       try clear hx159_0
       try clear hx164_0
       try clear p1
       try clear p15
       try clear p151
       try clear p156
       try clear p159
       try clear p164
       try clear p2
       try clear q1
       try clear q15
       try clear q151
       try clear q156
       try clear q159
       try clear q164
       obtain ⟨kq, x99_30, rfl, HA, HJ30, HO_3, HO_9, BK143, HB⟩ := hcut
       cases kq with
       | zero => exact absurd HA.out (by simp [lectionarylaw3_TextExact.j3])
       | succ kj30 =>
        have H := HA.out
        clear HA
        simp only [lectionarylaw3_TextExact.j3] at H
        by_cases c54 : x99_30 = true
        ·
         subst c54
         have H1 : (none) = some r := by rw [if_pos rfl] at H; exact H
         clear H
         have H := H1
         clear H1
         exact absurd H (by simp)
        replace c54 := Bool.eq_false_iff.mpr c54
        subst c54
        have H1 : ((some (([0, 1, (x9_24.length : Int), wrap64 ((x9_24.length : Int) + 1), (-1)] : List Int) : List Int)).bind fun y170 => (if y170.length + l0_2.length < 17592186044416 then (lectionarylaw3_TextExact.l1 kj30 y148 x4_1 x9_24 t161 x11_24 (y170 ++ l0_2) 0 l0_0 l0_1 l0_2) else (none))) = some r := by rw [if_neg (show ¬ (false = true) by decide)] at H; exact H
        clear H
        have H := H1
        clear H1
        obtain ⟨y170, hy170⟩ : ∃ y_ : List Int, y_ = (([0, 1, (x9_24.length : Int), wrap64 ((x9_24.length : Int) + 1), (-1)] : List Int)) := ⟨_, rfl⟩
        replace H : (if y170.length + l0_2.length < 17592186044416 then (lectionarylaw3_TextExact.l1 kj30 y148 x4_1 x9_24 t161 x11_24 (y170 ++ l0_2) 0 l0_0 l0_1 l0_2) else (none)) = some r := by first | (rw [hy170]; with_reducible exact H) | (have H2_ := (Option.bind_some _ _).symm.trans H; rw [hy170]; with_reducible exact H2_) | (have H2_ := (Option.bind_some _ _).symm.trans H; with_reducible exact H2_) | with_reducible exact H | (rw [hy170]; exact H) | exact H
        have Ny170 := Aside0.mk hy170
        clear hy170
        by_cases c55 : y170.length + l0_2.length < 17592186044416
        rotate_left
        ·
         rw [if_neg c55] at H
         exact absurd H (by simp)
        rw [if_pos c55] at H
        have LMc55 := Aside0.mk c55
        clear c55
        obtain ⟨y173, hy173⟩ : ∃ y_ : List Int, y_ = (y170 ++ l0_2) := ⟨_, rfl⟩
        replace H : (lectionarylaw3_TextExact.l1 kj30 y148 x4_1 x9_24 t161 x11_24 y173 0 l0_0 l0_1 l0_2) = some r := by first | (rw [hy173]; with_reducible exact H) | (have H2_ := (Option.bind_some _ _).symm.trans H; rw [hy173]; with_reducible exact H2_) | (have H2_ := (Option.bind_some _ _).symm.trans H; with_reducible exact H2_) | with_reducible exact H | (rw [hy173]; exact H) | exact H
        have Ny173 := Aside0.mk hy173
        clear hy173
        have H' := Aside0.mk H
        clear H
        obtain ⟨Ao56, co56, eo56⟩ := Kd.R_slice HO_9.out
        subst eo56
        go_wp2_with (first | ((with_reducible refine gate_dst (N := 105) rfl ?_); (try (refine gate_guard (by rfl) ?_; dsimp only)); refine Kd.R_lit (Kd.int .i64) _ 3 ?hg (N := 105) ?hd (xs := ([0, 1, (x9_24.length : Int), wrap64 ((x9_24.length : Int) + 1), (-1)] : List Int)) (inner := [.int .i64 0, .int .i64 1, .int .i64 (x9_24.length : Int), .int .i64 (wrap64 ((x9_24.length : Int) + 1)), .int .i64 (-1)]) (ok := fun _ => True) (okp := fun _ => True) ?hr ?hp (fun _ hk => hk) trivial (Below.refl _ _) (Nat.le_refl _) (by simp) ?_; (case hd => rfl); (case hg => rfl); (case hr => first | (go_simp; done) | (go_simp; rfl)); (case hp => exact (Reps.one (show Kd.M (Kd.int .i64) _ _ _ 0 [.int .i64 0] from rfl) (Reps.one (show Kd.M (Kd.int .i64) _ _ _ 1 [.int .i64 1] from rfl) (Reps.one (show Kd.M (Kd.int .i64) _ _ _ (x9_24.length : Int) [.int .i64 (x9_24.length : Int)] from rfl) (Reps.one (show Kd.M (Kd.int .i64) _ _ _ (wrap64 ((x9_24.length : Int) + 1)) [.int .i64 (wrap64 ((x9_24.length : Int) + 1))] from rfl) (Reps.one (show Kd.M (Kd.int .i64) _ _ _ (-1) [.int .i64 (-1)] from rfl) (Reps.none _ _))))))); intro v171 w57 ho58 hb hg_ hnew_; clear hg_ hnew_; (first | rw [← Ny170.out] at ho58 | (simp only [Int.reduceToNat] at ho58; rw [← Ny170.out] at ho58)); have n0_ := Aside0.mk (Kd.R_below (by (with_reducible repeat (first | apply Kd.R_alloc | apply Kd.R_drewN | apply Kd.R_drew)); exact HO_3.out) hb); have n1_ := Aside0.mk (Kd.R_below (by (with_reducible repeat (first | apply Kd.R_alloc | apply Kd.R_drewN | apply Kd.R_drew)); exact HO_9.out) hb); have n2_ := Aside0.mk (Kd.R_lower ho58 (below_size (by repeat (first | (with_reducible first | exact HB.out | apply below_alloc | apply pw_below_drewN | apply below_drew1 | refine below_set ?_ GE143.out) | exact HB.out)))); have n3_ := Aside0.mk (blk_below (g := gb143) (o := .cells #[.slice A0_0 l0_0.length c0_0, .slice A0_1 l0_1.length c0_1, .slice A0_2 l0_2.length c0_2] 26 (0, 0)) (by (with_reducible repeat (first | refine blk_drewN ?_ _ | refine blk_drew ?_ | refine blk_alloc ?_ _)); exact BK143.out) hb); have n4_ := Aside0.mk (below_step (by repeat (first | (with_reducible first | exact HB.out | apply below_alloc | apply pw_below_drewN | apply below_drew1 | refine below_set ?_ GE143.out) | exact HB.out)) hb); clear HO_3; clear HO_9; clear BK143; clear HB; have HO_3 := n0_; have HO_9 := n1_; have HO172 := n2_; have BK143 := n3_; have HB := n4_; clear n0_ n1_ n2_ n3_ n4_; clear hb ho58; have hcz59_0 : w57.cell? ⟨gb143, 0, none⟩ = some (.slice A0_0 l0_0.length c0_0) := (blk_cell BK143.out 0).trans rfl; have hcz59_1 : w57.cell? ⟨gb143, 1, none⟩ = some (.slice A0_1 l0_1.length c0_1) := (blk_cell BK143.out 1).trans rfl; have hcz59_2 : w57.cell? ⟨gb143, 2, none⟩ = some (.slice A0_2 l0_2.length c0_2) := (blk_cell BK143.out 2).trans rfl; have hfz59_0 := blk_frozen BK143.out 0; have hfz59_1 := blk_frozen BK143.out 1; have hfz59_2 := blk_frozen BK143.out 2) | ((with_reducible refine gate_builtin (b := .append) (xs := #[.tmp 105, .tmp 107]) rfl ?_); (try (refine gate_guard (by rfl) ?_; dsimp only)); at_builtin; refine Kd.R_append_rows (Kd.int .i64) (w0 := w) w.heap.size rfl (.tmp 105) (.tmp 107) 24 3 (.int .i64 0) 8 rfl Tryd.underlying24 info3 rfl (by decide) (by omega) v171 y170 l0_2 _ _ _ (fun _ => True) (fun _ => False) rfl rfl ?aO ?aR (fun _ _ h => h) (fun _ h => h.elim) ?aF ?aB ?aS ?aL ?_; (case aR => repeat (first | exact (Kd.C_below HR0_2.out HB.out) | (with_reducible refine Kd.C_alloc ?_ _) | (with_reducible refine Kd.C_drewN ?_ _) | (with_reducible refine Kd.C_drew ?_))); (case aB => exact (by repeat (first | (with_reducible first | exact HB.out | apply below_alloc | apply pw_below_drewN | apply below_drew1 | refine below_set ?_ GE143.out) | exact HB.out))); (case aF => exact (fun _ _ => trivial)); (case aO => exact (by (with_reducible repeat (first | apply Kd.R_alloc | apply Kd.R_drewN | apply Kd.R_drew)); exact HO172.out)); (case aS => exact (below_size (by repeat (first | (with_reducible first | exact HB.out | apply below_alloc | apply pw_below_drewN | apply below_drew1 | refine below_set ?_ GE143.out) | exact HB.out)))); (case aL => have := LMc55.out; omega); intro v174 w60 ho hb hg hat; rw [← Ny173.out] at ho; have n0_ := Aside0.mk (Kd.R_over' (by (with_reducible repeat (first | apply Kd.R_alloc | apply Kd.R_drewN | apply Kd.R_drew)); exact HO_3.out) (Kd.R_typed (by (with_reducible repeat (first | apply Kd.R_alloc | apply Kd.R_drewN | apply Kd.R_drew)); exact HO172.out)) (by decide) hg); have n1_ := Aside0.mk (Kd.R_over' (by (with_reducible repeat (first | apply Kd.R_alloc | apply Kd.R_drewN | apply Kd.R_drew)); exact HO_9.out) (Kd.R_typed (by (with_reducible repeat (first | apply Kd.R_alloc | apply Kd.R_drewN | apply Kd.R_drew)); exact HO172.out)) (by decide) hg); have n2_ := Aside0.mk (blk_grown (g := gb143) (o := .cells #[.slice A0_0 l0_0.length c0_0, .slice A0_1 l0_1.length c0_1, .slice A0_2 l0_2.length c0_2] 26 (0, 0)) (by (with_reducible repeat (first | refine blk_drewN ?_ _ | refine blk_drew ?_ | refine blk_alloc ?_ _)); exact BK143.out) hg (Kd.R_ne HO172.out BK143.out (by decide))); have n3_ := Aside0.mk (hb); have n4_ := Aside0.mk (ho); clear HO_3; clear HO_9; clear BK143; clear HB; clear HO172; have HO_3 := n0_; have HO_9 := n1_; have BK143 := n2_; have HB := n3_; have HO175 := n4_; clear n0_ n1_ n2_ n3_ n4_; clear ho hb hg hat))
        go_loopg [13] kj30 (fun kq v13 w' => ∃ (x13_5 : Int), v13 = .int .i64 x13_5 ∧ Aside0 (lectionarylaw3_TextExact.l1 kq y148 x4_1 x9_24 t161 x11_24 y173 x13_5 l0_0 l0_1 l0_2 = some r) ∧ Aside0 (kq ≤ kj30) ∧ Aside0 (Kd.R Kd.string 9 w' w.heap.size (fun _ => True) (.slice (some ad151) y148.length co26) y148) ∧ Aside0 (Kd.R (Kd.int .i32) 21 w' w.heap.size (fun _ => True) (.slice Ao56 x9_24.length co56) x9_24) ∧ Aside0 (Kd.R (Kd.int .i64) 3 w' w.heap.size (fun _ => True) v174 y173) ∧ Aside0 (w'.heap[gb143]? = some (.cells #[(.slice A0_0 l0_0.length c0_0), (.slice A0_1 l0_1.length c0_1), (.slice A0_2 l0_2.length c0_2)] 26 (0, 0))) ∧ Aside0 (Below w.heap.size w w'))
        case atStart => exact ⟨(0), (by first | rfl | (simp; done) | (simp [*]; done)), H', ⟨Nat.le_refl _⟩, ⟨by (with_reducible repeat (first | apply Kd.R_alloc | apply Kd.R_drewN | apply Kd.R_drew)); exact HO_3.out⟩, ⟨by (with_reducible repeat (first | apply Kd.R_alloc | apply Kd.R_drewN | apply Kd.R_drew)); exact HO_9.out⟩, ⟨by (with_reducible repeat (first | apply Kd.R_alloc | apply Kd.R_drewN | apply Kd.R_drew)); exact HO175.out⟩, ⟨by (with_reducible repeat (first | refine blk_drewN ?_ _ | refine blk_drew ?_ | refine blk_alloc ?_ _)); exact BK143.out⟩, ⟨by repeat (first | (with_reducible first | exact HB.out | apply below_alloc | apply pw_below_drewN | apply below_drew1 | refine below_set ?_ GE143.out) | exact HB.out)⟩⟩
        clear H'
        try clear c1
        try clear p1
        try clear q1
        try clear hx1
        try clear c2
        try clear p2
        try clear c3
        try clear c4
        try clear c5
        try clear c6
        try clear p6
        try clear c7
        try clear c10
        try clear c11
        try clear c12
        try clear p15
        try clear q15
        try clear hx15
        try clear c16
        try clear c16b0
        try clear p16
        try clear q16
        try clear hx16
        try clear c19
        try clear c20
        try clear c20b0
        try clear c21
        try clear c21b0
        try clear c30
        try clear c32
        try clear c32b0
        try clear c33
        try clear c33b0
        try clear c36
        try clear c36b0
        try clear c36b1
        try clear c38
        try clear c38b0
        try clear c38b1
        try clear c40
        try clear c42
        try clear c42b0
        try clear c42b1
        try clear c54
        try clear c55
        try clear hcz13_0
        try clear hcz13_1
        try clear hcz13_2
        try clear hcz59_0
        try clear hcz59_1
        try clear hcz59_2
        try clear hcz5_0
        try clear hcz5_1
        try clear hcz5_2
        try clear hcz9_0
        try clear hcz9_1
        try clear hcz9_2
        try clear hfz13_0
        try clear hfz13_1
        try clear hfz13_2
        try clear hfz59_0
        try clear hfz59_1
        try clear hfz59_2
        try clear hfz5_0
        try clear hfz5_1
        try clear hfz5_2
        try clear hfz9_0
        try clear hfz9_1
        try clear hfz9_2
        try clear hx151_0
        try clear hx156_0
        try clear hx159_0
        try clear hx164_0
        try clear p1
        try clear p15
        try clear p151
        try clear p156
        try clear p159
        try clear p16
        try clear p164
        try clear p2
        try clear q1
        try clear q15
        try clear q151
        try clear q156
        try clear q159
        try clear q16
        try clear q164
        obtain ⟨x13_5, rfl, HA, HK5, HO_3, HO_9, HO_12, BK143, HB⟩ := hrel
        cases gk with
        | zero => exact absurd HA.out (by simp [lectionarylaw3_TextExact.l1])
        | succ k5 =>
         have H := HA.out
         clear HA
         simp only [lectionarylaw3_TextExact.l1] at H
         have HC61 := Aside0.mk H
         clear H
         go_upto_region 17 with (fail)
         go_cut [116] (fun v116 wc => ∃ (kq : Nat) (x116_60 : Bool), v116 = .bool x116_60 ∧ Aside0 (lectionarylaw3_TextExact.j5 kq y148 x4_1 x9_24 t161 x11_24 y173 x13_5 x116_60 l0_0 l0_1 l0_2 = some r) ∧ Aside0 (kq ≤ k5) ∧ Aside0 (Kd.R Kd.string 9 wc w.heap.size (fun _ => True) (.slice (some ad151) y148.length co26) y148) ∧ Aside0 (Kd.R (Kd.int .i32) 21 wc w.heap.size (fun _ => True) (.slice Ao56 x9_24.length co56) x9_24) ∧ Aside0 (Kd.R (Kd.int .i64) 3 wc w.heap.size (fun _ => True) v174 y173) ∧ Aside0 (wc.heap[gb143]? = some (.cells #[(.slice A0_0 l0_0.length c0_0), (.slice A0_1 l0_1.length c0_1), (.slice A0_2 l0_2.length c0_2)] 26 (0, 0))) ∧ Aside0 (Below w.heap.size w wc))
         case first =>
          have H := HC61.out
          clear HC61
          by_cases c62 : x13_5 < (y173.length : Int)
          ·
           rw [if_pos c62] at H
           have c62b0 : decide (x13_5 < (y173.length : Int)) = true := decide_eq_true c62
           clear c62
           (first | rw [c62b0] | (simp only [i64_w, i32_w]; rw [c62b0]) | skip)
           as_aux_lemma =>
            have H' := Aside0.mk H
            clear H
            obtain ⟨Ao63, co63, eo63⟩ := Kd.R_slice HO_12.out
            subst eo63
            go_wp2
            go_meet
            case rel => exact ⟨_, (decide (x13_5 < 8)), (by first | rfl | (simp; done) | (simp [*]; done)), H', ⟨by have := HK1.out; have := HJ14.out; have := HJ24.out; have := HJ30.out; have := HK5.out; first | omega | exact Nat.le_refl _⟩, ⟨by (with_reducible repeat (first | apply Kd.R_alloc | apply Kd.R_drewN | apply Kd.R_drew)); exact HO_3.out⟩, ⟨by (with_reducible repeat (first | apply Kd.R_alloc | apply Kd.R_drewN | apply Kd.R_drew)); exact HO_9.out⟩, ⟨by (with_reducible repeat (first | apply Kd.R_alloc | apply Kd.R_drewN | apply Kd.R_drew)); exact HO_12.out⟩, ⟨by (with_reducible repeat (first | refine blk_drewN ?_ _ | refine blk_drew ?_ | refine blk_alloc ?_ _)); exact BK143.out⟩, ⟨by repeat (first | (with_reducible first | exact HB.out | apply below_alloc | apply pw_below_drewN | apply below_drew1 | refine below_set ?_ GE143.out) | exact HB.out)⟩⟩
          rw [if_neg c62] at H
          have c62b0 : decide (x13_5 < (y173.length : Int)) = false := decide_eq_false c62
          clear c62
          (first | rw [c62b0] | (simp only [i64_w, i32_w]; rw [c62b0]) | skip)
          as_aux_lemma =>
           have H' := Aside0.mk H
           clear H
           obtain ⟨Ao64, co64, eo64⟩ := Kd.R_slice HO_12.out
           subst eo64
           go_wp2
           go_meet
           case rel => exact ⟨_, (false), (by first | rfl | (simp; done) | (simp [*]; done)), H', ⟨by have := HK1.out; have := HJ14.out; have := HJ24.out; have := HJ30.out; have := HK5.out; first | omega | exact Nat.le_refl _⟩, ⟨by (with_reducible repeat (first | apply Kd.R_alloc | apply Kd.R_drewN | apply Kd.R_drew)); exact HO_3.out⟩, ⟨by (with_reducible repeat (first | apply Kd.R_alloc | apply Kd.R_drewN | apply Kd.R_drew)); exact HO_9.out⟩, ⟨by (with_reducible repeat (first | apply Kd.R_alloc | apply Kd.R_drewN | apply Kd.R_drew)); exact HO_12.out⟩, ⟨by (with_reducible repeat (first | refine blk_drewN ?_ _ | refine blk_drew ?_ | refine blk_alloc ?_ _)); exact BK143.out⟩, ⟨by repeat (first | (with_reducible first | exact HB.out | apply below_alloc | apply pw_below_drewN | apply below_drew1 | refine below_set ?_ GE143.out) | exact HB.out)⟩⟩
         case rest =>
          clear HC61
          try clear c1
          try clear p1
          try clear q1
          try clear hx1
          try clear c2
          try clear p2
          try clear c3
          try clear c4
          try clear c5
          try clear c6
          try clear p6
          try clear c7
          try clear c10
          try clear c11
          try clear c12
          try clear p15
          try clear q15
          try clear hx15
          try clear c16
          try clear c16b0
          try clear p16
          try clear q16
          try clear hx16
          try clear c19
          try clear c20
          try clear c20b0
          try clear c21
          try clear c21b0
          try clear c30
          try clear c32
          try clear c32b0
          try clear c33
          try clear c33b0
          try clear c36
          try clear c36b0
          try clear c36b1
          try clear c38
          try clear c38b0
          try clear c38b1
          try clear c40
          try clear c42
          try clear c42b0
          try clear c42b1
          try clear c54
          try clear c55
          try clear c62
          try clear c62b0
          try clear p64
          try clear hcz13_0
          try clear hcz13_1
          try clear hcz13_2
          try clear hcz59_0
          try clear hcz59_1
          try clear hcz59_2
          try clear hcz5_0
          try clear hcz5_1
          try clear hcz5_2
          try clear hcz9_0
          try clear hcz9_1
          try clear hcz9_2
          try clear hfz13_0
          try clear hfz13_1
          try clear hfz13_2
          try clear hfz59_0
          try clear hfz59_1
          try clear hfz59_2
          try clear hfz5_0
          try clear hfz5_1
          try clear hfz5_2
          try clear hfz9_0
          try clear hfz9_1
          try clear hfz9_2
          try clear hx151_0
          try clear hx156_0
          try clear hx159_0
          try clear hx164_0
          try clear p1
          try clear p15
          try clear p151
          try clear p156
          try clear p159
          try clear p16
          try clear p164
          try clear p2
          try clear p6
          try clear q1
          try clear q15
          try clear q151
          try clear q156
          try clear q159
          try clear q16
          try clear q164
          obtain ⟨kq, x116_60, rfl, HA, HJ60, HO_3, HO_9, HO_12, BK143, HB⟩ := hcut
          cases kq with
          | zero => exact absurd HA.out (by simp [lectionarylaw3_TextExact.j5])
          | succ kj60 =>
           have H := HA.out
           clear HA
           simp only [lectionarylaw3_TextExact.j5] at H
           by_cases c65 : x116_60 = true
           rotate_left
           ·
            replace c65 := Bool.eq_false_iff.mpr c65
            subst c65
            have H1 : (lectionarylaw3_TextExact.l0 kj60 y148 (wrap64 (x4_1 + 1)) l0_0 l0_1 l0_2) = some r := by rw [if_neg (show ¬ (false = true) by decide)] at H; exact H
            clear H
            have H := H1
            clear H1
            as_aux_lemma =>
             have H' := Aside0.mk H
             clear H
             go_wp2
             go_roundg kj60
             case measure => have := HK1.out; have := HJ14.out; have := HJ24.out; have := HJ30.out; have := HK5.out; have := HJ60.out; omega
             case rel => exact ⟨(wrap64 (x4_1 + 1)), (by first | rfl | (simp; done) | (simp [*]; done)), H', ⟨by have := HK1.out; have := HJ14.out; have := HJ24.out; have := HJ30.out; have := HK5.out; have := HJ60.out; omega⟩, ⟨by (with_reducible repeat (first | apply Kd.R_alloc | apply Kd.R_drewN | apply Kd.R_drew)); exact HO_3.out⟩, ⟨by (with_reducible repeat (first | refine blk_drewN ?_ _ | refine blk_drew ?_ | refine blk_alloc ?_ _)); exact BK143.out⟩, ⟨by repeat (first | (with_reducible first | exact HB.out | apply below_alloc | apply pw_below_drewN | apply below_drew1 | refine below_set ?_ GE143.out) | exact HB.out)⟩⟩
           subst c65
           have H1 : (lectionarylaw3_TextExact.l2 kj60 y148 x4_1 x9_24 t161 x11_24 y173 x13_5 0 l0_0 l0_1 l0_2) = some r := by rw [if_pos rfl] at H; exact H
           clear H
           have H := H1
           clear H1
           have H' := Aside0.mk H
           clear H
           go_wp2
           go_loopg [14] kj60 (fun kq v14 w' => ∃ (x14_7 : Int), v14 = .int .i64 x14_7 ∧ Aside0 (lectionarylaw3_TextExact.l2 kq y148 x4_1 x9_24 t161 x11_24 y173 x13_5 x14_7 l0_0 l0_1 l0_2 = some r) ∧ Aside0 (kq ≤ kj60) ∧ Aside0 (Kd.R Kd.string 9 w' w.heap.size (fun _ => True) (.slice (some ad151) y148.length co26) y148) ∧ Aside0 (Kd.R (Kd.int .i32) 21 w' w.heap.size (fun _ => True) (.slice Ao56 x9_24.length co56) x9_24) ∧ Aside0 (Kd.R (Kd.int .i64) 3 w' w.heap.size (fun _ => True) v174 y173) ∧ Aside0 (w'.heap[gb143]? = some (.cells #[(.slice A0_0 l0_0.length c0_0), (.slice A0_1 l0_1.length c0_1), (.slice A0_2 l0_2.length c0_2)] 26 (0, 0))) ∧ Aside0 (Below w.heap.size w w'))
           case atStart => exact ⟨(0), (by first | rfl | (simp; done) | (simp [*]; done)), H', ⟨Nat.le_refl _⟩, ⟨by (with_reducible repeat (first | apply Kd.R_alloc | apply Kd.R_drewN | apply Kd.R_drew)); exact HO_3.out⟩, ⟨by (with_reducible repeat (first | apply Kd.R_alloc | apply Kd.R_drewN | apply Kd.R_drew)); exact HO_9.out⟩, ⟨by (with_reducible repeat (first | apply Kd.R_alloc | apply Kd.R_drewN | apply Kd.R_drew)); exact HO_12.out⟩, ⟨by (with_reducible repeat (first | refine blk_drewN ?_ _ | refine blk_drew ?_ | refine blk_alloc ?_ _)); exact BK143.out⟩, ⟨by repeat (first | (with_reducible first | exact HB.out | apply below_alloc | apply pw_below_drewN | apply below_drew1 | refine below_set ?_ GE143.out) | exact HB.out)⟩⟩
           clear H'
           try clear c1
           try clear p1
           try clear q1
           try clear hx1
           try clear c2
           try clear p2
           try clear c3
           try clear c4
           try clear c5
           try clear c6
           try clear p6
           try clear c7
           try clear c10
           try clear c11
           try clear c12
           try clear p15
           try clear q15
           try clear hx15
           try clear c16
           try clear c16b0
           try clear p16
           try clear q16
           try clear hx16
           try clear c19
           try clear c20
           try clear c20b0
           try clear c21
           try clear c21b0
           try clear c30
           try clear c32
           try clear c32b0
           try clear c33
           try clear c33b0
           try clear c36
           try clear c36b0
           try clear c36b1
           try clear c38
           try clear c38b0
           try clear c38b1
           try clear c40
           try clear c42
           try clear c42b0
           try clear c42b1
           try clear c54
           try clear c55
           try clear c62
           try clear c62b0
           try clear p64
           try clear c65
           try clear hcz13_0
           try clear hcz13_1
           try clear hcz13_2
           try clear hcz59_0
           try clear hcz59_1
           try clear hcz59_2
           try clear hcz5_0
           try clear hcz5_1
           try clear hcz5_2
           try clear hcz9_0
           try clear hcz9_1
           try clear hcz9_2
           try clear hfz13_0
           try clear hfz13_1
           try clear hfz13_2
           try clear hfz59_0
           try clear hfz59_1
           try clear hfz59_2
           try clear hfz5_0
           try clear hfz5_1
           try clear hfz5_2
           try clear hfz9_0
           try clear hfz9_1
           try clear hfz9_2
           try clear hx151_0
           try clear hx156_0
           try clear hx159_0
           try clear hx164_0
           try clear p1
           try clear p15
           try clear p151
           try clear p156
           try clear p159
           try clear p16
           try clear p164
           try clear p2
           try clear p6
           try clear p64
           try clear q1
           try clear q15
           try clear q151
           try clear q156
           try clear q159
           try clear q16
           try clear q164
           obtain ⟨x14_7, rfl, HA, HK7, HO_3, HO_9, HO_12, BK143, HB⟩ := hrel
           cases gk with
           | zero => exact absurd HA.out (by simp [lectionarylaw3_TextExact.l2])
           | succ k7 =>
            have H := HA.out
            clear HA
            simp only [lectionarylaw3_TextExact.l2] at H
            have HC66 := Aside0.mk H
            clear H
            go_upto_region 20 with (fail)
            go_cut [126] (fun v126 wc => ∃ (kq : Nat) (x126_65 : Bool), v126 = .bool x126_65 ∧ Aside0 (lectionarylaw3_TextExact.j7 kq y148 x4_1 x9_24 t161 x11_24 y173 x13_5 x14_7 x126_65 l0_0 l0_1 l0_2 = some r) ∧ Aside0 (kq ≤ k7) ∧ Aside0 (Kd.R Kd.string 9 wc w.heap.size (fun _ => True) (.slice (some ad151) y148.length co26) y148) ∧ Aside0 (Kd.R (Kd.int .i32) 21 wc w.heap.size (fun _ => True) (.slice Ao56 x9_24.length co56) x9_24) ∧ Aside0 (Kd.R (Kd.int .i64) 3 wc w.heap.size (fun _ => True) v174 y173) ∧ Aside0 (wc.heap[gb143]? = some (.cells #[(.slice A0_0 l0_0.length c0_0), (.slice A0_1 l0_1.length c0_1), (.slice A0_2 l0_2.length c0_2)] 26 (0, 0))) ∧ Aside0 (Below w.heap.size w wc))
            case first =>
             have H := HC66.out
             clear HC66
             by_cases c67 : x14_7 < (y173.length : Int)
             ·
              rw [if_pos c67] at H
              have c67b0 : decide (x14_7 < (y173.length : Int)) = true := decide_eq_true c67
              clear c67
              (first | rw [c67b0] | (simp only [i64_w, i32_w]; rw [c67b0]) | skip)
              as_aux_lemma =>
               have H' := Aside0.mk H
               clear H
               obtain ⟨Ao68, co68, eo68⟩ := Kd.R_slice HO_12.out
               subst eo68
               go_wp2
               go_meet
               case rel => exact ⟨_, (decide (x14_7 < 8)), (by first | rfl | (simp; done) | (simp [*]; done)), H', ⟨by have := HK1.out; have := HJ14.out; have := HJ24.out; have := HJ30.out; have := HK5.out; have := HJ60.out; have := HK7.out; first | omega | exact Nat.le_refl _⟩, ⟨by (with_reducible repeat (first | apply Kd.R_alloc | apply Kd.R_drewN | apply Kd.R_drew)); exact HO_3.out⟩, ⟨by (with_reducible repeat (first | apply Kd.R_alloc | apply Kd.R_drewN | apply Kd.R_drew)); exact HO_9.out⟩, ⟨by (with_reducible repeat (first | apply Kd.R_alloc | apply Kd.R_drewN | apply Kd.R_drew)); exact HO_12.out⟩, ⟨by (with_reducible repeat (first | refine blk_drewN ?_ _ | refine blk_drew ?_ | refine blk_alloc ?_ _)); exact BK143.out⟩, ⟨by repeat (first | (with_reducible first | exact HB.out | apply below_alloc | apply pw_below_drewN | apply below_drew1 | refine below_set ?_ GE143.out) | exact HB.out)⟩⟩
             rw [if_neg c67] at H
             have c67b0 : decide (x14_7 < (y173.length : Int)) = false := decide_eq_false c67
             clear c67
             (first | rw [c67b0] | (simp only [i64_w, i32_w]; rw [c67b0]) | skip)
             as_aux_lemma =>
              have H' := Aside0.mk H
              clear H
              obtain ⟨Ao69, co69, eo69⟩ := Kd.R_slice HO_12.out
              subst eo69
              go_wp2
              go_meet
              case rel => exact ⟨_, (false), (by first | rfl | (simp; done) | (simp [*]; done)), H', ⟨by have := HK1.out; have := HJ14.out; have := HJ24.out; have := HJ30.out; have := HK5.out; have := HJ60.out; have := HK7.out; first | omega | exact Nat.le_refl _⟩, ⟨by (with_reducible repeat (first | apply Kd.R_alloc | apply Kd.R_drewN | apply Kd.R_drew)); exact HO_3.out⟩, ⟨by (with_reducible repeat (first | apply Kd.R_alloc | apply Kd.R_drewN | apply Kd.R_drew)); exact HO_9.out⟩, ⟨by (with_reducible repeat (first | apply Kd.R_alloc | apply Kd.R_drewN | apply Kd.R_drew)); exact HO_12.out⟩, ⟨by (with_reducible repeat (first | refine blk_drewN ?_ _ | refine blk_drew ?_ | refine blk_alloc ?_ _)); exact BK143.out⟩, ⟨by repeat (first | (with_reducible first | exact HB.out | apply below_alloc | apply pw_below_drewN | apply below_drew1 | refine below_set ?_ GE143.out) | exact HB.out)⟩⟩
            case rest =>
             clear HC66
             try clear c1
             try clear p1
             try clear q1
             try clear hx1
             try clear c2
             try clear p2
             try clear c3
             try clear c4
             try clear c5
             try clear c6
             try clear p6
             try clear c7
             try clear c10
             try clear c11
             try clear c12
             try clear p15
             try clear q15
             try clear hx15
             try clear c16
             try clear c16b0
             try clear p16
             try clear q16
             try clear hx16
             try clear c19
             try clear c20
             try clear c20b0
             try clear c21
             try clear c21b0
             try clear c30
             try clear c32
             try clear c32b0
             try clear c33
             try clear c33b0
             try clear c36
             try clear c36b0
             try clear c36b1
             try clear c38
             try clear c38b0
             try clear c38b1
             try clear c40
             try clear c42
             try clear c42b0
             try clear c42b1
             try clear c54
             try clear c55
             try clear c62
             try clear c62b0
             try clear p64
             try clear c65
             try clear c67
             try clear c67b0
             try clear hcz13_0
             try clear hcz13_1
             try clear hcz13_2
             try clear hcz59_0
             try clear hcz59_1
             try clear hcz59_2
             try clear hcz5_0
             try clear hcz5_1
             try clear hcz5_2
             try clear hcz9_0
             try clear hcz9_1
             try clear hcz9_2
             try clear hfz13_0
             try clear hfz13_1
             try clear hfz13_2
             try clear hfz59_0
             try clear hfz59_1
             try clear hfz59_2
             try clear hfz5_0
             try clear hfz5_1
             try clear hfz5_2
             try clear hfz9_0
             try clear hfz9_1
             try clear hfz9_2
             try clear hx151_0
             try clear hx156_0
             try clear hx159_0
             try clear hx164_0
             try clear p1
             try clear p15
             try clear p151
             try clear p156
             try clear p159
             try clear p16
             try clear p164
             try clear p2
             try clear p6
             try clear p64
             try clear q1
             try clear q15
             try clear q151
             try clear q156
             try clear q159
             try clear q16
             try clear q164
             obtain ⟨kq, x126_65, rfl, HA, HJ65, HO_3, HO_9, HO_12, BK143, HB⟩ := hcut
             cases kq with
             | zero => exact absurd HA.out (by simp [lectionarylaw3_TextExact.j7])
             | succ kj65 =>
              have H := HA.out
              clear HA
              simp only [lectionarylaw3_TextExact.j7] at H
              by_cases c70 : x126_65 = true
              rotate_left
              ·
               replace c70 := Bool.eq_false_iff.mpr c70
               subst c70
               have H1 : (lectionarylaw3_TextExact.l1 kj65 y148 x4_1 x9_24 t161 x11_24 y173 (wrap64 (x13_5 + 1)) l0_0 l0_1 l0_2) = some r := by rw [if_neg (show ¬ (false = true) by decide)] at H; exact H
               clear H
               have H := H1
               clear H1
               as_aux_lemma =>
                have H' := Aside0.mk H
                clear H
                go_wp2
                go_roundg kj65
                case measure => have := HK1.out; have := HJ14.out; have := HJ24.out; have := HJ30.out; have := HK5.out; have := HJ60.out; have := HK7.out; have := HJ65.out; omega
                case rel => exact ⟨(wrap64 (x13_5 + 1)), (by first | rfl | (simp; done) | (simp [*]; done)), H', ⟨by have := HK1.out; have := HJ14.out; have := HJ24.out; have := HJ30.out; have := HK5.out; have := HJ60.out; have := HK7.out; have := HJ65.out; omega⟩, ⟨by (with_reducible repeat (first | apply Kd.R_alloc | apply Kd.R_drewN | apply Kd.R_drew)); exact HO_3.out⟩, ⟨by (with_reducible repeat (first | apply Kd.R_alloc | apply Kd.R_drewN | apply Kd.R_drew)); exact HO_9.out⟩, ⟨by (with_reducible repeat (first | apply Kd.R_alloc | apply Kd.R_drewN | apply Kd.R_drew)); exact HO_12.out⟩, ⟨by (with_reducible repeat (first | refine blk_drewN ?_ _ | refine blk_drew ?_ | refine blk_alloc ?_ _)); exact BK143.out⟩, ⟨by repeat (first | (with_reducible first | exact HB.out | apply below_alloc | apply pw_below_drewN | apply below_drew1 | refine below_set ?_ GE143.out) | exact HB.out)⟩⟩
              subst c70
              have H1 : (if 0 ≤ x4_1 then (if x4_1 < (y148.length : Int) then (if 0 ≤ x13_5 then (if x13_5 < (y173.length : Int) then (if 0 ≤ x14_7 then (if x14_7 < (y173.length : Int) then ((text_Cut.f (rdOf ByteArray.empty y148 x4_1) (rd y173 x13_5) (rd y173 x14_7)).bind fun bt179 => (if t161 = true then (if (rd y173 x13_5) ≥ 0 then (if (rd y173 x13_5) ≤ (rd y173 x14_7) then (lectionarylaw3_TextExact.j8 kj65 y148 x4_1 x9_24 t161 x11_24 y173 x13_5 x14_7 bt179.1 bt179.2 2 (⟨#[]⟩ : ByteArray) (decide ((rd y173 x14_7) ≤ (x9_24.length : Int))) l0_0 l0_1 l0_2) else (lectionarylaw3_TextExact.j8 kj65 y148 x4_1 x9_24 t161 x11_24 y173 x13_5 x14_7 bt179.1 bt179.2 2 (⟨#[]⟩ : ByteArray) false l0_0 l0_1 l0_2)) else (lectionarylaw3_TextExact.j8 kj65 y148 x4_1 x9_24 t161 x11_24 y173 x13_5 x14_7 bt179.1 bt179.2 2 (⟨#[]⟩ : ByteArray) false l0_0 l0_1 l0_2)) else (lectionarylaw3_TextExact.j9 kj65 y148 x4_1 x9_24 t161 x11_24 y173 x13_5 x14_7 bt179.1 bt179.2 x11_24 (⟨#[]⟩ : ByteArray) l0_0 l0_1 l0_2))) else (none)) else (none)) else (none)) else (none)) else (none)) else (none)) = some r := by rw [if_pos rfl] at H; exact H
              clear H
              have H := H1
              clear H1
              by_cases c71 : 0 ≤ x4_1
              rotate_left
              ·
               rw [if_neg c71] at H
               exact absurd H (by simp)
              rw [if_pos c71] at H
              have c71b0 : decide (0 ≤ x4_1) = true := decide_eq_true c71
              clear c71
              by_cases c72 : x4_1 < (y148.length : Int)
              rotate_left
              ·
               rw [if_neg c72] at H
               exact absurd H (by simp)
              rw [if_pos c72] at H
              have c72b0 : decide (x4_1 < (y148.length : Int)) = true := decide_eq_true c72
              clear c72
              by_cases c73 : 0 ≤ x13_5
              rotate_left
              ·
               rw [if_neg c73] at H
               exact absurd H (by simp)
              rw [if_pos c73] at H
              have c73b0 : decide (0 ≤ x13_5) = true := decide_eq_true c73
              clear c73
              by_cases c74 : x13_5 < (y173.length : Int)
              rotate_left
              ·
               rw [if_neg c74] at H
               exact absurd H (by simp)
              rw [if_pos c74] at H
              have c74b0 : decide (x13_5 < (y173.length : Int)) = true := decide_eq_true c74
              clear c74
              by_cases c75 : 0 ≤ x14_7
              rotate_left
              ·
               rw [if_neg c75] at H
               exact absurd H (by simp)
              rw [if_pos c75] at H
              have c75b0 : decide (0 ≤ x14_7) = true := decide_eq_true c75
              clear c75
              by_cases c76 : x14_7 < (y173.length : Int)
              rotate_left
              ·
               rw [if_neg c76] at H
               exact absurd H (by simp)
              rw [if_pos c76] at H
              have c76b0 : decide (x14_7 < (y173.length : Int)) = true := decide_eq_true c76
              clear c76
              replace H := Option.bind_eq_some_iff.mp H
              obtain ⟨⟨t179, t180⟩, A770, H⟩ := H
              replace H : (if t161 = true then (if (rd y173 x13_5) ≥ 0 then (if (rd y173 x13_5) ≤ (rd y173 x14_7) then (lectionarylaw3_TextExact.j8 kj65 y148 x4_1 x9_24 t161 x11_24 y173 x13_5 x14_7 t179 t180 2 (⟨#[]⟩ : ByteArray) (decide ((rd y173 x14_7) ≤ (x9_24.length : Int))) l0_0 l0_1 l0_2) else (lectionarylaw3_TextExact.j8 kj65 y148 x4_1 x9_24 t161 x11_24 y173 x13_5 x14_7 t179 t180 2 (⟨#[]⟩ : ByteArray) false l0_0 l0_1 l0_2)) else (lectionarylaw3_TextExact.j8 kj65 y148 x4_1 x9_24 t161 x11_24 y173 x13_5 x14_7 t179 t180 2 (⟨#[]⟩ : ByteArray) false l0_0 l0_1 l0_2)) else (lectionarylaw3_TextExact.j9 kj65 y148 x4_1 x9_24 t161 x11_24 y173 x13_5 x14_7 t179 t180 x11_24 (⟨#[]⟩ : ByteArray) l0_0 l0_1 l0_2)) = some r := H
              have A77 := Aside0.mk A770
              clear A770
              have HC78 := Aside0.mk H
              clear H
              try go_wp2
              have n0_ := Aside0.mk (Kd.R_drew HO_3.out)
              have n1_ := Aside0.mk (Kd.R_drew HO_9.out)
              have n2_ := Aside0.mk (Kd.R_drew HO_12.out)
              have n3_ := Aside0.mk (blk_drew BK143.out)
              have n4_ := Aside0.mk (below_drew1 HB.out)
              clear HO_3
              clear HO_9
              clear HO_12
              clear BK143
              clear HB
              have HO_3 := n0_
              have HO_9 := n1_
              have HO_12 := n2_
              have BK143 := n3_
              have HB := n4_
              clear n0_ n1_ n2_ n3_ n4_
              have p176 : 0 ≤ (x4_1 : Int) := of_decide_eq_true (by first | (with_reducible assumption) | assumption)
              have q176 : x4_1 < (y148.length : Int) := of_decide_eq_true (by first | (with_reducible assumption) | assumption)
              obtain ⟨ad176, e176, hx176_0⟩ := Kd.at_string (Kd.R_reads' HO_3.out).2.2 x4_1 p176 q176
              obtain rfl : ad151 = ad176 := (by injection e176)
              replace p176 := eq_true p176
              replace q176 := eq_true q176
              obtain ⟨Ao80, co80, eo80⟩ := Kd.R_slice HO_12.out
              (first | subst eo80 | (injection eo80 with f1_ f2_ f3_; have f4_ := f1_.symm; have f5_ := f3_.symm; clear f1_ f2_ f3_; subst f4_; subst f5_))
              have p177 : 0 ≤ (x13_5 : Int) := of_decide_eq_true (by first | (with_reducible assumption) | assumption)
              have q177 : x13_5 < (y173.length : Int) := of_decide_eq_true (by first | (with_reducible assumption) | assumption)
              obtain ⟨ad177, e177, hx177_0⟩ := Kd.at_int (Kd.R_reads' HO_12.out).2.2 x13_5 p177 q177
              cases e177
              replace p177 := eq_true p177
              replace q177 := eq_true q177
              have p178 : 0 ≤ (x14_7 : Int) := of_decide_eq_true (by first | (with_reducible assumption) | assumption)
              have q178 : x14_7 < (y173.length : Int) := of_decide_eq_true (by first | (with_reducible assumption) | assumption)
              obtain ⟨ad178, e178, hx178_0⟩ := Kd.at_int (Kd.R_reads' HO_12.out).2.2 x14_7 p178 q178
              obtain rfl : ad177 = ad178 := (by injection e178)
              replace p178 := eq_true p178
              replace q178 := eq_true q178
              refine start_ (n := 18) (S := fun w' => w'.cell? (ad151.add (x4_1).toNat) = some (.string (rdOf ByteArray.empty y148 x4_1)) ∧ w'.cell? (ad177.add (x13_5).toNat) = some (.int .i64 (rd y173 x13_5)) ∧ w'.cell? (ad177.add (x14_7).toNat) = some (.int .i64 (rd y173 x14_7))) (ds := []) b4_0 (by kernel_rfl) rfl rfl ⟨hx176_0, hx177_0, hx178_0⟩ (fun hHeld => ?_); refine with_tabW lectionarylaw3_TextExact.tab22 lectionarylaw3_TextExact.bits22 (fun HT_ HW_ => ?_)
              generalize wc.drew = w79 at HO_3 HO_9 HO_12 BK143 HB hx176_0 hx177_0 hx178_0 hHeld ⊢
              refine pq_ 0 130 b4_1 (any_of HT_.out (by kernel_rfl)) ?_
              refine pq_ 1 131 b4_2 (any_of HT_.out (by kernel_rfl)) ?_
              refine pq_ 2 132 b4_3 (any_of HT_.out (by kernel_rfl)) ?_
              refine pq_ 4 134 b4_4 (any_of HT_.out (by kernel_rfl)) ?_
              refine pq_ 5 135 b4_5 (any_of HT_.out (by kernel_rfl)) ?_
              refine pq_ 6 136 b4_6 (any_of HT_.out (by kernel_rfl)) ?_
              refine pq_ 8 138 b4_7 (any_of HT_.out (by kernel_rfl)) ?_
              refine pq_ 9 139 b4_8 (any_of HT_.out (by kernel_rfl)) ?_
              refine pq_ 10 140 b4_9 (any_of HT_.out (by kernel_rfl)) ?_
              refine take_ (i := 3) (N := some 133) (v := ?_) (a' := ?_) b4_10 rfl rfl (take_ofW HT_.out HW_.out (by kernel_rfl)) (fun _ _ _ h => h) (Or.inl ⟨by rfl, ?_⟩) hHeld ?_ ?_
              rotate_left
              ·
               rintro w' ⟨s0, s1, s2⟩
               go_simp
               with_reducible rfl
              rotate_left
              ·
               simp only [Act.put, List.setIfInBounds_toArray, List.set_cons_zero, List.set_cons_succ, i64_w, i32_w]
               rfl
              refine take_ (i := 7) (N := some 137) (v := ?_) (a' := ?_) b4_11 rfl rfl (take_ofW HT_.out HW_.out (by kernel_rfl)) (fun _ _ _ h => h) (Or.inl ⟨by rfl, ?_⟩) hHeld ?_ ?_
              rotate_left
              ·
               rintro w' ⟨s0, s1, s2⟩
               go_simp
               with_reducible rfl
              rotate_left
              ·
               simp only [Act.put, List.setIfInBounds_toArray, List.set_cons_zero, List.set_cons_succ, i64_w, i32_w]
               rfl
              refine take_ (i := 11) (N := some 141) (v := ?_) (a' := ?_) b4_12 rfl rfl (take_ofW HT_.out HW_.out (by kernel_rfl)) (fun _ _ _ h => h) (Or.inl ⟨by rfl, ?_⟩) hHeld ?_ ?_
              rotate_left
              ·
               rintro w' ⟨s0, s1, s2⟩
               go_simp
               with_reducible rfl
              rotate_left
              ·
               simp only [Act.put, List.setIfInBounds_toArray, List.set_cons_zero, List.set_cons_succ, i64_w, i32_w]
               rfl
              refine one_ (i := 12) (N := some 142) b4_13 rfl rfl (one_of HT_.out (by kernel_rfl)) (by decide) (fun K hK => ?_)
              refine goes_ Tryd.func13 (by kernel_rfl) rfl #[.string (rdOf ByteArray.empty y148 x4_1), .int .i64 (rd y173 x13_5), .int .i64 (rd y173 x14_7)] (by rfl) rfl rfl (by (try simp only [List.map_toArray, List.map_cons, List.map_nil]); first | done | rfl | (simp only [List.length_drop, List.length_take]; rfl)) ?_
              with_reducible refine (text_Cut.calls (rdOf ByteArray.empty y148 x4_1) (rd y173 x13_5) (rd y173 x14_7) t179 t180 _ A77.out).mono ?_
              rintro e w81 ⟨rfl, hb⟩
              have HS0_ := (hb.cell (World.block_lt_of_cell? _ _ (hHeld.1))).trans (hHeld.1)
              have HS1_ := (hb.cell (World.block_lt_of_cell? _ _ (hHeld.2.1))).trans (hHeld.2.1)
              have HS2_ := (hb.cell (World.block_lt_of_cell? _ _ (hHeld.2.2))).trans (hHeld.2.2)
              refine ⟨_, rfl, ?_⟩
              have n0_ := Aside0.mk (Kd.R_below (by (with_reducible repeat (first | apply Kd.R_alloc | apply Kd.R_drewN | apply Kd.R_drew)); exact HO_3.out) hb)
              have n1_ := Aside0.mk (Kd.R_below (by (with_reducible repeat (first | apply Kd.R_alloc | apply Kd.R_drewN | apply Kd.R_drew)); exact HO_9.out) hb)
              have n2_ := Aside0.mk (Kd.R_below (by (with_reducible repeat (first | apply Kd.R_alloc | apply Kd.R_drewN | apply Kd.R_drew)); exact HO_12.out) hb)
              have n3_ := Aside0.mk (blk_below (g := gb143) (o := .cells #[.slice A0_0 l0_0.length c0_0, .slice A0_1 l0_1.length c0_1, .slice A0_2 l0_2.length c0_2] 26 (0, 0)) (by (with_reducible repeat (first | refine blk_drewN ?_ _ | refine blk_drew ?_ | refine blk_alloc ?_ _)); exact BK143.out) hb)
              have n4_ := Aside0.mk (below_step (by repeat (first | (with_reducible first | exact HB.out | apply below_alloc | apply pw_below_drewN | apply below_drew1 | refine below_set ?_ GE143.out) | exact HB.out)) hb)
              clear HO_3
              clear HO_9
              clear HO_12
              clear BK143
              clear HB
              have HO_3 := n0_
              have HO_9 := n1_
              have HO_12 := n2_
              have BK143 := n3_
              have HB := n4_
              clear n0_ n1_ n2_ n3_ n4_
              (try clear hb)
              (try clear hb2)
              (try clear hk)
              (try clear hi)
              refine hK.out _ _ ⟨HS0_, HS1_, HS2_⟩ (fun hHeld => ?_)
              clear hK K
              refine norm_ (a' := ?_) ?_ ?_
              rotate_left
              ·
               show Act.put _ (some 142) _ = _
               simp only [Act.put, List.setIfInBounds_toArray, List.set_cons_zero, List.set_cons_succ, i64_w, i32_w]
               rfl
              refine pq_ 13 129 b4_14 (any_of HT_.out (by kernel_rfl)) ?_
              refine pq_ 14 143 b4_15 (any_of HT_.out (by kernel_rfl)) ?_
              refine pq_ 15 144 b4_16 (any_of HT_.out (by kernel_rfl)) ?_
              refine pq_ 16 15 b4_17 (any_of HT_.out (by kernel_rfl)) ?_
              refine pq_ 17 16 b4_18 (any_of HT_.out (by kernel_rfl)) ?_
              refine done_ (done_of HT_.out (by kernel_rfl)) ?_
              go_upto_if 146 with (fail)
              go_cut [17, 18] (fun v17 v18 wc => ∃ (kq : Nat) (x17_77 : Int) (x18_77 : ByteArray), v17 = .int .i64 x17_77 ∧ v18 = .string x18_77 ∧ Aside0 (lectionarylaw3_TextExact.j9 kq y148 x4_1 x9_24 t161 x11_24 y173 x13_5 x14_7 t179 t180 x17_77 x18_77 l0_0 l0_1 l0_2 = some r) ∧ Aside0 (kq ≤ kj65) ∧ Aside0 (Kd.R Kd.string 9 wc w.heap.size (fun _ => True) (.slice (some ad151) y148.length co26) y148) ∧ Aside0 (Kd.R (Kd.int .i32) 21 wc w.heap.size (fun _ => True) (.slice Ao56 x9_24.length co56) x9_24) ∧ Aside0 (Kd.R (Kd.int .i64) 3 wc w.heap.size (fun _ => True) (.slice (some ad177) y173.length co80) y173) ∧ Aside0 (wc.heap[gb143]? = some (.cells #[(.slice A0_0 l0_0.length c0_0), (.slice A0_1 l0_1.length c0_1), (.slice A0_2 l0_2.length c0_2)] 26 (0, 0))) ∧ Aside0 (Below w.heap.size w wc))
              case first =>
               have H := HC78.out
               clear HC78
               by_cases c82 : t161 = true
               rotate_left
               ·
                replace c82 := Bool.eq_false_iff.mpr c82
                subst c82
                have H1 : (lectionarylaw3_TextExact.j9 kj65 y148 x4_1 x9_24 false x11_24 y173 x13_5 x14_7 t179 t180 x11_24 (⟨#[]⟩ : ByteArray) l0_0 l0_1 l0_2) = some r := by rw [if_neg (show ¬ (false = true) by decide)] at H; exact H
                clear H
                have H := H1
                clear H1
                as_aux_lemma =>
                 have H' := Aside0.mk H
                 clear H
                 go_wp2
                 go_meet
                 case rel => exact ⟨_, (x11_24), ((⟨#[]⟩ : ByteArray)), (by first | rfl | (simp; done) | (simp [*]; done)), (by first | rfl | (simp; done) | (simp [*]; done)), H', ⟨by have := HK1.out; have := HJ14.out; have := HJ24.out; have := HJ30.out; have := HK5.out; have := HJ60.out; have := HK7.out; have := HJ65.out; first | omega | exact Nat.le_refl _⟩, ⟨by (with_reducible repeat (first | apply Kd.R_alloc | apply Kd.R_drewN | apply Kd.R_drew)); exact HO_3.out⟩, ⟨by (with_reducible repeat (first | apply Kd.R_alloc | apply Kd.R_drewN | apply Kd.R_drew)); exact HO_9.out⟩, ⟨by (with_reducible repeat (first | apply Kd.R_alloc | apply Kd.R_drewN | apply Kd.R_drew)); exact HO_12.out⟩, ⟨by (with_reducible repeat (first | refine blk_drewN ?_ _ | refine blk_drew ?_ | refine blk_alloc ?_ _)); exact BK143.out⟩, ⟨by repeat (first | (with_reducible first | exact HB.out | apply below_alloc | apply pw_below_drewN | apply below_drew1 | refine below_set ?_ GE143.out) | exact HB.out)⟩⟩
               subst c82
               have H1 : (if (rd y173 x13_5) ≥ 0 then (if (rd y173 x13_5) ≤ (rd y173 x14_7) then (lectionarylaw3_TextExact.j8 kj65 y148 x4_1 x9_24 true x11_24 y173 x13_5 x14_7 t179 t180 2 (⟨#[]⟩ : ByteArray) (decide ((rd y173 x14_7) ≤ (x9_24.length : Int))) l0_0 l0_1 l0_2) else (lectionarylaw3_TextExact.j8 kj65 y148 x4_1 x9_24 true x11_24 y173 x13_5 x14_7 t179 t180 2 (⟨#[]⟩ : ByteArray) false l0_0 l0_1 l0_2)) else (lectionarylaw3_TextExact.j8 kj65 y148 x4_1 x9_24 true x11_24 y173 x13_5 x14_7 t179 t180 2 (⟨#[]⟩ : ByteArray) false l0_0 l0_1 l0_2)) = some r := by rw [if_pos rfl] at H; exact H
               clear H
               have H := H1
               clear H1
               have HC83 := Aside0.mk H
               clear H
               go_upto_region 26 with (fail)
               go_cut [171] (fun v171 wc => ∃ (kq : Nat) (x171_82 : Bool), v171 = .bool x171_82 ∧ Aside0 (lectionarylaw3_TextExact.j8 kq y148 x4_1 x9_24 true x11_24 y173 x13_5 x14_7 t179 t180 2 (⟨#[]⟩ : ByteArray) x171_82 l0_0 l0_1 l0_2 = some r) ∧ Aside0 (kq ≤ kj65) ∧ Aside0 (Kd.R Kd.string 9 wc w.heap.size (fun _ => True) (.slice (some ad151) y148.length co26) y148) ∧ Aside0 (Kd.R (Kd.int .i32) 21 wc w.heap.size (fun _ => True) (.slice Ao56 x9_24.length co56) x9_24) ∧ Aside0 (Kd.R (Kd.int .i64) 3 wc w.heap.size (fun _ => True) (.slice (some ad177) y173.length co80) y173) ∧ Aside0 (wc.heap[gb143]? = some (.cells #[(.slice A0_0 l0_0.length c0_0), (.slice A0_1 l0_1.length c0_1), (.slice A0_2 l0_2.length c0_2)] 26 (0, 0))) ∧ Aside0 (Below w.heap.size w wc))
               case first =>
                have H := HC83.out
                clear HC83
                by_cases c84 : (rd y173 x13_5) ≥ 0
                rotate_left
                ·
                 rw [if_neg c84] at H
                 have c84b0 : decide (0 ≤ (rd y173 x13_5)) = false := decide_eq_false c84
                 clear c84
                 (first | rw [c84b0] | (simp only [i64_w, i32_w]; rw [c84b0]) | skip)
                 as_aux_lemma =>
                  have H' := Aside0.mk H
                  clear H
                  try go_wp2
                  have n0_ := Aside0.mk (Kd.R_drew HO_3.out)
                  have n1_ := Aside0.mk (Kd.R_drew HO_9.out)
                  have n2_ := Aside0.mk (Kd.R_drew HO_12.out)
                  have n3_ := Aside0.mk (blk_drew BK143.out)
                  have n4_ := Aside0.mk (below_drew1 HB.out)
                  clear HO_3
                  clear HO_9
                  clear HO_12
                  clear BK143
                  clear HB
                  have HO_3 := n0_
                  have HO_9 := n1_
                  have HO_12 := n2_
                  have BK143 := n3_
                  have HB := n4_
                  clear n0_ n1_ n2_ n3_ n4_
                  have p181 : 0 ≤ (x13_5 : Int) := of_decide_eq_true (by first | (with_reducible assumption) | assumption)
                  have q181 : x13_5 < (y173.length : Int) := of_decide_eq_true (by first | (with_reducible assumption) | assumption)
                  obtain ⟨ad181, e181, hx181_0⟩ := Kd.at_int (Kd.R_reads' HO_12.out).2.2 x13_5 p181 q181
                  obtain rfl : ad177 = ad181 := (by injection e181)
                  replace p181 := eq_true p181
                  replace q181 := eq_true q181
                  refine start_ (n := 25) (S := fun w' => w'.cell? (ad177.add (x13_5).toNat) = some (.int .i64 (rd y173 x13_5))) (ds := []) b4_19 (by kernel_rfl) rfl rfl (hx181_0) (fun hHeld => ?_); refine with_tabW lectionarylaw3_TextExact.tab26 lectionarylaw3_TextExact.bits26 (fun HT_ HW_ => ?_)
                  generalize w81.drew = w88 at HO_3 HO_9 HO_12 BK143 HB hx181_0 hHeld ⊢
                  refine pq_ 0 147 b4_20 (any_of HT_.out (by kernel_rfl)) ?_
                  refine pq_ 1 148 b4_21 (any_of HT_.out (by kernel_rfl)) ?_
                  refine pq_ 2 149 b4_22 (any_of HT_.out (by kernel_rfl)) ?_
                  refine take_ (i := 3) (N := some 150) (v := ?_) (a' := ?_) b4_23 rfl rfl (take_ofW HT_.out HW_.out (by kernel_rfl)) (fun _ _ _ h => h) (Or.inl ⟨by rfl, ?_⟩) hHeld ?_ ?_
                  rotate_left
                  ·
                   intro w' s0
                   go_simp
                   with_reducible rfl
                  rotate_left
                  ·
                   simp only [Act.put, List.setIfInBounds_toArray, List.set_cons_zero, List.set_cons_succ, i64_w, i32_w]
                   rfl
                  refine pure_ (i := 4) (N := some 151) (v := ?_) (a' := ?_) b4_24 rfl rfl (any_of HT_.out (by kernel_rfl)) (fun _ _ _ h => h) (Or.inl ⟨by rfl, ?_⟩) ?_ ?_
                  rotate_left; (focus intro w'; go_simp; (first | with_reducible rfl | (rw [if_neg (by simp only [ByteArray.size_extract, decide_eq_true_eq] at *; omega)]))); rotate_left; (focus simp only [Act.put, List.setIfInBounds_toArray, List.set_cons_zero, List.set_cons_succ, i64_w, i32_w]; rfl)
                  refine pq_ 5 152 b4_25 (any_of HT_.out (by kernel_rfl)) ?_
                  refine pure_ (i := 6) (N := some 153) (v := undef) (a' := ?_) b4_26 rfl rfl (any_of HT_.out (by kernel_rfl)) (fun _ _ _ h => h) (Or.inr ⟨by rfl, rfl⟩) ?_ ?_
                  rotate_left
                  ·
                   simp only [Act.put, List.setIfInBounds_toArray, List.set_cons_zero, List.set_cons_succ, i64_w, i32_w]
                   rfl
                  refine pure_ (i := 7) (N := some 154) (v := undef) (a' := ?_) b4_27 rfl rfl (any_of HT_.out (by kernel_rfl)) (fun _ _ _ h => h) (Or.inr ⟨by rfl, rfl⟩) ?_ ?_
                  rotate_left
                  ·
                   simp only [Act.put, List.setIfInBounds_toArray, List.set_cons_zero, List.set_cons_succ, i64_w, i32_w]
                   rfl
                  refine pure_ (i := 8) (N := some 155) (v := undef) (a' := ?_) b4_28 rfl rfl (any_of HT_.out (by kernel_rfl)) (fun _ _ _ h => h) (Or.inr ⟨by rfl, rfl⟩) ?_ ?_
                  rotate_left
                  ·
                   simp only [Act.put, List.setIfInBounds_toArray, List.set_cons_zero, List.set_cons_succ, i64_w, i32_w]
                   rfl
                  refine pure_ (i := 9) (N := some 156) (v := undef) (a' := ?_) b4_47 rfl rfl (any_of HT_.out (by kernel_rfl)) (fun _ _ _ h => h) (Or.inr ⟨by rfl, rfl⟩) ?_ ?_
                  rotate_left
                  ·
                   simp only [Act.put, List.setIfInBounds_toArray, List.set_cons_zero, List.set_cons_succ, i64_w, i32_w]
                   rfl
                  refine pure_ (i := 10) (N := some 157) (v := undef) (a' := ?_) b4_48 rfl rfl (any_of HT_.out (by kernel_rfl)) (fun _ _ _ h => h) (Or.inr ⟨by rfl, rfl⟩) ?_ ?_
                  rotate_left
                  ·
                   simp only [Act.put, List.setIfInBounds_toArray, List.set_cons_zero, List.set_cons_succ, i64_w, i32_w]
                   rfl
                  refine pure_ (i := 11) (N := some 158) (v := undef) (a' := ?_) b4_49 rfl rfl (any_of HT_.out (by kernel_rfl)) (fun _ _ _ h => h) (Or.inr ⟨by rfl, rfl⟩) ?_ ?_
                  rotate_left
                  ·
                   simp only [Act.put, List.setIfInBounds_toArray, List.set_cons_zero, List.set_cons_succ, i64_w, i32_w]
                   rfl
                  refine pure_ (i := 12) (N := some 159) (v := undef) (a' := ?_) b4_32 rfl rfl (any_of HT_.out (by kernel_rfl)) (fun _ _ _ h => h) (Or.inr ⟨by rfl, rfl⟩) ?_ ?_
                  rotate_left
                  ·
                   simp only [Act.put, List.setIfInBounds_toArray, List.set_cons_zero, List.set_cons_succ, i64_w, i32_w]
                   rfl
                  refine pure_ (i := 13) (N := some 160) (v := undef) (a' := ?_) b4_33 rfl rfl (any_of HT_.out (by kernel_rfl)) (fun _ _ _ h => h) (Or.inr ⟨by rfl, rfl⟩) ?_ ?_
                  rotate_left
                  ·
                   simp only [Act.put, List.setIfInBounds_toArray, List.set_cons_zero, List.set_cons_succ, i64_w, i32_w]
                   rfl
                  refine pure_ (i := 14) (N := some 161) (v := undef) (a' := ?_) b4_34 rfl rfl (any_of HT_.out (by kernel_rfl)) (fun _ _ _ h => h) (Or.inr ⟨by rfl, rfl⟩) ?_ ?_
                  rotate_left
                  ·
                   simp only [Act.put, List.setIfInBounds_toArray, List.set_cons_zero, List.set_cons_succ, i64_w, i32_w]
                   rfl
                  refine pq_ 15 162 b4_35 (any_of HT_.out (by kernel_rfl)) ?_
                  refine pq_ 16 163 b4_36 (any_of HT_.out (by kernel_rfl)) ?_
                  refine pure_ (i := 17) (N := some 164) (v := undef) (a' := ?_) b4_37 rfl rfl (any_of HT_.out (by kernel_rfl)) (fun _ _ _ h => h) (Or.inr ⟨by rfl, rfl⟩) ?_ ?_
                  rotate_left
                  ·
                   simp only [Act.put, List.setIfInBounds_toArray, List.set_cons_zero, List.set_cons_succ, i64_w, i32_w]
                   rfl
                  refine pure_ (i := 18) (N := some 165) (v := undef) (a' := ?_) b4_38 rfl rfl (any_of HT_.out (by kernel_rfl)) (fun _ _ _ h => h) (Or.inr ⟨by rfl, rfl⟩) ?_ ?_
                  rotate_left
                  ·
                   simp only [Act.put, List.setIfInBounds_toArray, List.set_cons_zero, List.set_cons_succ, i64_w, i32_w]
                   rfl
                  refine pure_ (i := 19) (N := some 166) (v := undef) (a' := ?_) b4_39 rfl rfl (any_of HT_.out (by kernel_rfl)) (fun _ _ _ h => h) (Or.inr ⟨by rfl, rfl⟩) ?_ ?_
                  rotate_left
                  ·
                   simp only [Act.put, List.setIfInBounds_toArray, List.set_cons_zero, List.set_cons_succ, i64_w, i32_w]
                   rfl
                  refine pure_ (i := 20) (N := some 167) (v := undef) (a' := ?_) b4_45 rfl rfl (any_of HT_.out (by kernel_rfl)) (fun _ _ _ h => h) (Or.inr ⟨by rfl, rfl⟩) ?_ ?_
                  rotate_left
                  ·
                   simp only [Act.put, List.setIfInBounds_toArray, List.set_cons_zero, List.set_cons_succ, i64_w, i32_w]
                   rfl
                  refine pure_ (i := 21) (N := some 168) (v := undef) (a' := ?_) b4_46 rfl rfl (any_of HT_.out (by kernel_rfl)) (fun _ _ _ h => h) (Or.inr ⟨by rfl, rfl⟩) ?_ ?_
                  rotate_left
                  ·
                   simp only [Act.put, List.setIfInBounds_toArray, List.set_cons_zero, List.set_cons_succ, i64_w, i32_w]
                   rfl
                  refine pure_ (i := 22) (N := some 169) (v := undef) (a' := ?_) b4_42 rfl rfl (any_of HT_.out (by kernel_rfl)) (fun _ _ _ h => h) (Or.inr ⟨by rfl, rfl⟩) ?_ ?_
                  rotate_left
                  ·
                   simp only [Act.put, List.setIfInBounds_toArray, List.set_cons_zero, List.set_cons_succ, i64_w, i32_w]
                   rfl
                  refine pure_ (i := 23) (N := some 170) (v := undef) (a' := ?_) b4_43 rfl rfl (any_of HT_.out (by kernel_rfl)) (fun _ _ _ h => h) (Or.inr ⟨by rfl, rfl⟩) ?_ ?_
                  rotate_left
                  ·
                   simp only [Act.put, List.setIfInBounds_toArray, List.set_cons_zero, List.set_cons_succ, i64_w, i32_w]
                   rfl
                  refine pq_ 24 171 b4_44 (any_of HT_.out (by kernel_rfl)) ?_
                  refine done_ (done_of HT_.out (by kernel_rfl)) ?_
                  try go_wp2
                  go_meet
                  case rel => exact ⟨_, (false), (by first | rfl | (simp; done) | (simp [*]; done)), H', ⟨by have := HK1.out; have := HJ14.out; have := HJ24.out; have := HJ30.out; have := HK5.out; have := HJ60.out; have := HK7.out; have := HJ65.out; first | omega | exact Nat.le_refl _⟩, ⟨by (with_reducible repeat (first | apply Kd.R_alloc | apply Kd.R_drewN | apply Kd.R_drew)); exact HO_3.out⟩, ⟨by (with_reducible repeat (first | apply Kd.R_alloc | apply Kd.R_drewN | apply Kd.R_drew)); exact HO_9.out⟩, ⟨by (with_reducible repeat (first | apply Kd.R_alloc | apply Kd.R_drewN | apply Kd.R_drew)); exact HO_12.out⟩, ⟨by (with_reducible repeat (first | refine blk_drewN ?_ _ | refine blk_drew ?_ | refine blk_alloc ?_ _)); exact BK143.out⟩, ⟨by repeat (first | (with_reducible first | exact HB.out | apply below_alloc | apply pw_below_drewN | apply below_drew1 | refine below_set ?_ GE143.out) | exact HB.out)⟩⟩
                rw [if_pos c84] at H
                have c84b0 : decide (0 ≤ (rd y173 x13_5)) = true := decide_eq_true c84
                clear c84
                (first | rw [c84b0] | (simp only [i64_w, i32_w]; rw [c84b0]) | skip)
                by_cases c85 : (rd y173 x13_5) ≤ (rd y173 x14_7)
                ·
                 rw [if_pos c85] at H
                 have c85b0 : decide ((rd y173 x13_5) ≤ (rd y173 x14_7)) = true := decide_eq_true c85
                 clear c85
                 as_aux_lemma =>
                  have H' := Aside0.mk H
                  clear H
                  try go_wp2
                  have n0_ := Aside0.mk (Kd.R_drew HO_3.out)
                  have n1_ := Aside0.mk (Kd.R_drew HO_9.out)
                  have n2_ := Aside0.mk (Kd.R_drew HO_12.out)
                  have n3_ := Aside0.mk (blk_drew BK143.out)
                  have n4_ := Aside0.mk (below_drew1 HB.out)
                  clear HO_3
                  clear HO_9
                  clear HO_12
                  clear BK143
                  clear HB
                  have HO_3 := n0_
                  have HO_9 := n1_
                  have HO_12 := n2_
                  have BK143 := n3_
                  have HB := n4_
                  clear n0_ n1_ n2_ n3_ n4_
                  have p181 : 0 ≤ (x13_5 : Int) := of_decide_eq_true (by first | (with_reducible assumption) | assumption)
                  have q181 : x13_5 < (y173.length : Int) := of_decide_eq_true (by first | (with_reducible assumption) | assumption)
                  obtain ⟨ad181, e181, hx181_0⟩ := Kd.at_int (Kd.R_reads' HO_12.out).2.2 x13_5 p181 q181
                  obtain rfl : ad177 = ad181 := (by injection e181)
                  replace p181 := eq_true p181
                  replace q181 := eq_true q181
                  have p182 : 0 ≤ (x13_5 : Int) := of_decide_eq_true (by first | (with_reducible assumption) | assumption)
                  have q182 : x13_5 < (y173.length : Int) := of_decide_eq_true (by first | (with_reducible assumption) | assumption)
                  obtain ⟨ad182, e182, hx182_0⟩ := Kd.at_int (Kd.R_reads' HO_12.out).2.2 x13_5 p182 q182
                  obtain rfl : ad177 = ad182 := (by injection e182)
                  replace p182 := eq_true p182
                  replace q182 := eq_true q182
                  have p183 : 0 ≤ (x14_7 : Int) := of_decide_eq_true (by first | (with_reducible assumption) | assumption)
                  have q183 : x14_7 < (y173.length : Int) := of_decide_eq_true (by first | (with_reducible assumption) | assumption)
                  obtain ⟨ad183, e183, hx183_0⟩ := Kd.at_int (Kd.R_reads' HO_12.out).2.2 x14_7 p183 q183
                  obtain rfl : ad177 = ad183 := (by injection e183)
                  replace p183 := eq_true p183
                  replace q183 := eq_true q183
                  have p184 : 0 ≤ (x14_7 : Int) := of_decide_eq_true (by first | (with_reducible assumption) | assumption)
                  have q184 : x14_7 < (y173.length : Int) := of_decide_eq_true (by first | (with_reducible assumption) | assumption)
                  obtain ⟨ad184, e184, hx184_0⟩ := Kd.at_int (Kd.R_reads' HO_12.out).2.2 x14_7 p184 q184
                  obtain rfl : ad177 = ad184 := (by injection e184)
                  replace p184 := eq_true p184
                  replace q184 := eq_true q184
                  refine start_ (n := 25) (S := fun w' => w'.cell? (ad177.add (x13_5).toNat) = some (.int .i64 (rd y173 x13_5)) ∧ w'.cell? (ad177.add (x13_5).toNat) = some (.int .i64 (rd y173 x13_5)) ∧ w'.cell? (ad177.add (x14_7).toNat) = some (.int .i64 (rd y173 x14_7)) ∧ w'.cell? (ad177.add (x14_7).toNat) = some (.int .i64 (rd y173 x14_7))) (ds := []) b4_19 (by kernel_rfl) rfl rfl ⟨hx181_0, hx182_0, hx183_0, hx184_0⟩ (fun hHeld => ?_); refine with_tabW lectionarylaw3_TextExact.tab26 lectionarylaw3_TextExact.bits26 (fun HT_ HW_ => ?_)
                  generalize w81.drew = w86 at HO_3 HO_9 HO_12 BK143 HB hx181_0 hx182_0 hx183_0 hx184_0 hHeld ⊢
                  refine pq_ 0 147 b4_20 (any_of HT_.out (by kernel_rfl)) ?_
                  refine pq_ 1 148 b4_21 (any_of HT_.out (by kernel_rfl)) ?_
                  refine pq_ 2 149 b4_22 (any_of HT_.out (by kernel_rfl)) ?_
                  refine take_ (i := 3) (N := some 150) (v := ?_) (a' := ?_) b4_23 rfl rfl (take_ofW HT_.out HW_.out (by kernel_rfl)) (fun _ _ _ h => h) (Or.inl ⟨by rfl, ?_⟩) hHeld ?_ ?_
                  rotate_left
                  ·
                   rintro w' ⟨s0, s1, s2, s3⟩
                   go_simp
                   with_reducible rfl
                  rotate_left
                  ·
                   simp only [Act.put, List.setIfInBounds_toArray, List.set_cons_zero, List.set_cons_succ, i64_w, i32_w]
                   rfl
                  refine pure_ (i := 4) (N := some 151) (v := ?_) (a' := ?_) b4_24 rfl rfl (any_of HT_.out (by kernel_rfl)) (fun _ _ _ h => h) (Or.inl ⟨by rfl, ?_⟩) ?_ ?_
                  rotate_left; (focus intro w'; go_simp; (first | with_reducible rfl | (rw [if_neg (by simp only [ByteArray.size_extract, decide_eq_true_eq] at *; omega)]))); rotate_left; (focus simp only [Act.put, List.setIfInBounds_toArray, List.set_cons_zero, List.set_cons_succ, i64_w, i32_w]; rfl)
                  refine pq_ 5 152 b4_25 (any_of HT_.out (by kernel_rfl)) ?_
                  refine pq_ 6 153 b4_26 (any_of HT_.out (by kernel_rfl)) ?_
                  refine pq_ 7 154 b4_27 (any_of HT_.out (by kernel_rfl)) ?_
                  refine pq_ 8 155 b4_28 (any_of HT_.out (by kernel_rfl)) ?_
                  refine pq_ 10 157 b4_29 (any_of HT_.out (by kernel_rfl)) ?_
                  refine pq_ 11 158 b4_30 (any_of HT_.out (by kernel_rfl)) ?_
                  refine pq_ 12 159 b4_31 (any_of HT_.out (by kernel_rfl)) ?_
                  refine take_ (i := 9) (N := some 156) (v := ?_) (a' := ?_) b4_32 rfl rfl (take_ofW HT_.out HW_.out (by kernel_rfl)) (fun _ _ _ h => h) (Or.inl ⟨by rfl, ?_⟩) hHeld ?_ ?_
                  rotate_left
                  ·
                   rintro w' ⟨s0, s1, s2, s3⟩
                   go_simp
                   with_reducible rfl
                  rotate_left
                  ·
                   simp only [Act.put, List.setIfInBounds_toArray, List.set_cons_zero, List.set_cons_succ, i64_w, i32_w]
                   rfl
                  refine take_ (i := 13) (N := some 160) (v := ?_) (a' := ?_) b4_33 rfl rfl (take_ofW HT_.out HW_.out (by kernel_rfl)) (fun _ _ _ h => h) (Or.inl ⟨by rfl, ?_⟩) hHeld ?_ ?_
                  rotate_left
                  ·
                   rintro w' ⟨s0, s1, s2, s3⟩
                   go_simp
                   with_reducible rfl
                  rotate_left
                  ·
                   simp only [Act.put, List.setIfInBounds_toArray, List.set_cons_zero, List.set_cons_succ, i64_w, i32_w]
                   rfl
                  refine pure_ (i := 14) (N := some 161) (v := ?_) (a' := ?_) b4_34 rfl rfl (any_of HT_.out (by kernel_rfl)) (fun _ _ _ h => h) (Or.inl ⟨by rfl, ?_⟩) ?_ ?_
                  rotate_left; (focus intro w'; go_simp; (first | with_reducible rfl | (rw [if_neg (by simp only [ByteArray.size_extract, decide_eq_true_eq] at *; omega)]))); rotate_left; (focus simp only [Act.put, List.setIfInBounds_toArray, List.set_cons_zero, List.set_cons_succ, i64_w, i32_w]; rfl)
                  refine pq_ 15 162 b4_35 (any_of HT_.out (by kernel_rfl)) ?_
                  refine pq_ 16 163 b4_36 (any_of HT_.out (by kernel_rfl)) ?_
                  refine pq_ 17 164 b4_37 (any_of HT_.out (by kernel_rfl)) ?_
                  refine pq_ 18 165 b4_38 (any_of HT_.out (by kernel_rfl)) ?_
                  refine pq_ 19 166 b4_39 (any_of HT_.out (by kernel_rfl)) ?_
                  refine pq_ 21 168 b4_40 (any_of HT_.out (by kernel_rfl)) ?_
                  refine pq_ 22 169 b4_41 (any_of HT_.out (by kernel_rfl)) ?_
                  refine take_ (i := 20) (N := some 167) (v := ?_) (a' := ?_) b4_42 rfl rfl (take_ofW HT_.out HW_.out (by kernel_rfl)) (fun _ _ _ h => h) (Or.inl ⟨by rfl, ?_⟩) hHeld ?_ ?_
                  rotate_left
                  ·
                   rintro w' ⟨s0, s1, s2, s3⟩
                   go_simp
                   with_reducible rfl
                  rotate_left
                  ·
                   simp only [Act.put, List.setIfInBounds_toArray, List.set_cons_zero, List.set_cons_succ, i64_w, i32_w]
                   rfl
                  refine pure_ (i := 23) (N := some 170) (v := ?_) (a' := ?_) b4_43 rfl rfl (any_of HT_.out (by kernel_rfl)) (fun _ _ _ h => h) (Or.inl ⟨by rfl, ?_⟩) ?_ ?_
                  rotate_left; (focus intro w'; go_simp; (first | with_reducible rfl | (rw [if_neg (by simp only [ByteArray.size_extract, decide_eq_true_eq] at *; omega)]))); rotate_left; (focus simp only [Act.put, List.setIfInBounds_toArray, List.set_cons_zero, List.set_cons_succ, i64_w, i32_w]; rfl)
                  refine pq_ 24 171 b4_44 (any_of HT_.out (by kernel_rfl)) ?_
                  refine done_ (done_of HT_.out (by kernel_rfl)) ?_
                  try go_wp2
                  go_meet
                  case rel => exact ⟨_, (decide ((rd y173 x14_7) ≤ (x9_24.length : Int))), (by first | rfl | (simp; done) | (simp [*]; done)), H', ⟨by have := HK1.out; have := HJ14.out; have := HJ24.out; have := HJ30.out; have := HK5.out; have := HJ60.out; have := HK7.out; have := HJ65.out; first | omega | exact Nat.le_refl _⟩, ⟨by (with_reducible repeat (first | apply Kd.R_alloc | apply Kd.R_drewN | apply Kd.R_drew)); exact HO_3.out⟩, ⟨by (with_reducible repeat (first | apply Kd.R_alloc | apply Kd.R_drewN | apply Kd.R_drew)); exact HO_9.out⟩, ⟨by (with_reducible repeat (first | apply Kd.R_alloc | apply Kd.R_drewN | apply Kd.R_drew)); exact HO_12.out⟩, ⟨by (with_reducible repeat (first | refine blk_drewN ?_ _ | refine blk_drew ?_ | refine blk_alloc ?_ _)); exact BK143.out⟩, ⟨by repeat (first | (with_reducible first | exact HB.out | apply below_alloc | apply pw_below_drewN | apply below_drew1 | refine below_set ?_ GE143.out) | exact HB.out)⟩⟩
                rw [if_neg c85] at H
                have c85b0 : decide ((rd y173 x13_5) ≤ (rd y173 x14_7)) = false := decide_eq_false c85
                clear c85
                as_aux_lemma =>
                 have H' := Aside0.mk H
                 clear H
                 try go_wp2
                 have n0_ := Aside0.mk (Kd.R_drew HO_3.out)
                 have n1_ := Aside0.mk (Kd.R_drew HO_9.out)
                 have n2_ := Aside0.mk (Kd.R_drew HO_12.out)
                 have n3_ := Aside0.mk (blk_drew BK143.out)
                 have n4_ := Aside0.mk (below_drew1 HB.out)
                 clear HO_3
                 clear HO_9
                 clear HO_12
                 clear BK143
                 clear HB
                 have HO_3 := n0_
                 have HO_9 := n1_
                 have HO_12 := n2_
                 have BK143 := n3_
                 have HB := n4_
                 clear n0_ n1_ n2_ n3_ n4_
                 have p181 : 0 ≤ (x13_5 : Int) := of_decide_eq_true (by first | (with_reducible assumption) | assumption)
                 have q181 : x13_5 < (y173.length : Int) := of_decide_eq_true (by first | (with_reducible assumption) | assumption)
                 obtain ⟨ad181, e181, hx181_0⟩ := Kd.at_int (Kd.R_reads' HO_12.out).2.2 x13_5 p181 q181
                 obtain rfl : ad177 = ad181 := (by injection e181)
                 replace p181 := eq_true p181
                 replace q181 := eq_true q181
                 have p182 : 0 ≤ (x13_5 : Int) := of_decide_eq_true (by first | (with_reducible assumption) | assumption)
                 have q182 : x13_5 < (y173.length : Int) := of_decide_eq_true (by first | (with_reducible assumption) | assumption)
                 obtain ⟨ad182, e182, hx182_0⟩ := Kd.at_int (Kd.R_reads' HO_12.out).2.2 x13_5 p182 q182
                 obtain rfl : ad177 = ad182 := (by injection e182)
                 replace p182 := eq_true p182
                 replace q182 := eq_true q182
                 have p183 : 0 ≤ (x14_7 : Int) := of_decide_eq_true (by first | (with_reducible assumption) | assumption)
                 have q183 : x14_7 < (y173.length : Int) := of_decide_eq_true (by first | (with_reducible assumption) | assumption)
                 obtain ⟨ad183, e183, hx183_0⟩ := Kd.at_int (Kd.R_reads' HO_12.out).2.2 x14_7 p183 q183
                 obtain rfl : ad177 = ad183 := (by injection e183)
                 replace p183 := eq_true p183
                 replace q183 := eq_true q183
                 refine start_ (n := 25) (S := fun w' => w'.cell? (ad177.add (x13_5).toNat) = some (.int .i64 (rd y173 x13_5)) ∧ w'.cell? (ad177.add (x13_5).toNat) = some (.int .i64 (rd y173 x13_5)) ∧ w'.cell? (ad177.add (x14_7).toNat) = some (.int .i64 (rd y173 x14_7))) (ds := []) b4_19 (by kernel_rfl) rfl rfl ⟨hx181_0, hx182_0, hx183_0⟩ (fun hHeld => ?_); refine with_tabW lectionarylaw3_TextExact.tab26 lectionarylaw3_TextExact.bits26 (fun HT_ HW_ => ?_)
                 generalize w81.drew = w87 at HO_3 HO_9 HO_12 BK143 HB hx181_0 hx182_0 hx183_0 hHeld ⊢
                 refine pq_ 0 147 b4_20 (any_of HT_.out (by kernel_rfl)) ?_
                 refine pq_ 1 148 b4_21 (any_of HT_.out (by kernel_rfl)) ?_
                 refine pq_ 2 149 b4_22 (any_of HT_.out (by kernel_rfl)) ?_
                 refine take_ (i := 3) (N := some 150) (v := ?_) (a' := ?_) b4_23 rfl rfl (take_ofW HT_.out HW_.out (by kernel_rfl)) (fun _ _ _ h => h) (Or.inl ⟨by rfl, ?_⟩) hHeld ?_ ?_
                 rotate_left
                 ·
                  rintro w' ⟨s0, s1, s2⟩
                  go_simp
                  with_reducible rfl
                 rotate_left
                 ·
                  simp only [Act.put, List.setIfInBounds_toArray, List.set_cons_zero, List.set_cons_succ, i64_w, i32_w]
                  rfl
                 refine pure_ (i := 4) (N := some 151) (v := ?_) (a' := ?_) b4_24 rfl rfl (any_of HT_.out (by kernel_rfl)) (fun _ _ _ h => h) (Or.inl ⟨by rfl, ?_⟩) ?_ ?_
                 rotate_left; (focus intro w'; go_simp; (first | with_reducible rfl | (rw [if_neg (by simp only [ByteArray.size_extract, decide_eq_true_eq] at *; omega)]))); rotate_left; (focus simp only [Act.put, List.setIfInBounds_toArray, List.set_cons_zero, List.set_cons_succ, i64_w, i32_w]; rfl)
                 refine pq_ 5 152 b4_25 (any_of HT_.out (by kernel_rfl)) ?_
                 refine pq_ 6 153 b4_26 (any_of HT_.out (by kernel_rfl)) ?_
                 refine pq_ 7 154 b4_27 (any_of HT_.out (by kernel_rfl)) ?_
                 refine pq_ 8 155 b4_28 (any_of HT_.out (by kernel_rfl)) ?_
                 refine pq_ 10 157 b4_29 (any_of HT_.out (by kernel_rfl)) ?_
                 refine pq_ 11 158 b4_30 (any_of HT_.out (by kernel_rfl)) ?_
                 refine pq_ 12 159 b4_31 (any_of HT_.out (by kernel_rfl)) ?_
                 refine take_ (i := 9) (N := some 156) (v := ?_) (a' := ?_) b4_32 rfl rfl (take_ofW HT_.out HW_.out (by kernel_rfl)) (fun _ _ _ h => h) (Or.inl ⟨by rfl, ?_⟩) hHeld ?_ ?_
                 rotate_left
                 ·
                  rintro w' ⟨s0, s1, s2⟩
                  go_simp
                  with_reducible rfl
                 rotate_left
                 ·
                  simp only [Act.put, List.setIfInBounds_toArray, List.set_cons_zero, List.set_cons_succ, i64_w, i32_w]
                  rfl
                 refine take_ (i := 13) (N := some 160) (v := ?_) (a' := ?_) b4_33 rfl rfl (take_ofW HT_.out HW_.out (by kernel_rfl)) (fun _ _ _ h => h) (Or.inl ⟨by rfl, ?_⟩) hHeld ?_ ?_
                 rotate_left
                 ·
                  rintro w' ⟨s0, s1, s2⟩
                  go_simp
                  with_reducible rfl
                 rotate_left
                 ·
                  simp only [Act.put, List.setIfInBounds_toArray, List.set_cons_zero, List.set_cons_succ, i64_w, i32_w]
                  rfl
                 refine pure_ (i := 14) (N := some 161) (v := ?_) (a' := ?_) b4_34 rfl rfl (any_of HT_.out (by kernel_rfl)) (fun _ _ _ h => h) (Or.inl ⟨by rfl, ?_⟩) ?_ ?_
                 rotate_left; (focus intro w'; go_simp; (first | with_reducible rfl | (rw [if_neg (by simp only [ByteArray.size_extract, decide_eq_true_eq] at *; omega)]))); rotate_left; (focus simp only [Act.put, List.setIfInBounds_toArray, List.set_cons_zero, List.set_cons_succ, i64_w, i32_w]; rfl)
                 refine pq_ 15 162 b4_35 (any_of HT_.out (by kernel_rfl)) ?_
                 refine pq_ 16 163 b4_36 (any_of HT_.out (by kernel_rfl)) ?_
                 refine pure_ (i := 17) (N := some 164) (v := undef) (a' := ?_) b4_37 rfl rfl (any_of HT_.out (by kernel_rfl)) (fun _ _ _ h => h) (Or.inr ⟨by rfl, rfl⟩) ?_ ?_
                 rotate_left
                 ·
                  simp only [Act.put, List.setIfInBounds_toArray, List.set_cons_zero, List.set_cons_succ, i64_w, i32_w]
                  rfl
                 refine pure_ (i := 18) (N := some 165) (v := undef) (a' := ?_) b4_38 rfl rfl (any_of HT_.out (by kernel_rfl)) (fun _ _ _ h => h) (Or.inr ⟨by rfl, rfl⟩) ?_ ?_
                 rotate_left
                 ·
                  simp only [Act.put, List.setIfInBounds_toArray, List.set_cons_zero, List.set_cons_succ, i64_w, i32_w]
                  rfl
                 refine pure_ (i := 19) (N := some 166) (v := undef) (a' := ?_) b4_39 rfl rfl (any_of HT_.out (by kernel_rfl)) (fun _ _ _ h => h) (Or.inr ⟨by rfl, rfl⟩) ?_ ?_
                 rotate_left
                 ·
                  simp only [Act.put, List.setIfInBounds_toArray, List.set_cons_zero, List.set_cons_succ, i64_w, i32_w]
                  rfl
                 refine pure_ (i := 20) (N := some 167) (v := undef) (a' := ?_) b4_45 rfl rfl (any_of HT_.out (by kernel_rfl)) (fun _ _ _ h => h) (Or.inr ⟨by rfl, rfl⟩) ?_ ?_
                 rotate_left
                 ·
                  simp only [Act.put, List.setIfInBounds_toArray, List.set_cons_zero, List.set_cons_succ, i64_w, i32_w]
                  rfl
                 refine pure_ (i := 21) (N := some 168) (v := undef) (a' := ?_) b4_46 rfl rfl (any_of HT_.out (by kernel_rfl)) (fun _ _ _ h => h) (Or.inr ⟨by rfl, rfl⟩) ?_ ?_
                 rotate_left
                 ·
                  simp only [Act.put, List.setIfInBounds_toArray, List.set_cons_zero, List.set_cons_succ, i64_w, i32_w]
                  rfl
                 refine pure_ (i := 22) (N := some 169) (v := undef) (a' := ?_) b4_42 rfl rfl (any_of HT_.out (by kernel_rfl)) (fun _ _ _ h => h) (Or.inr ⟨by rfl, rfl⟩) ?_ ?_
                 rotate_left
                 ·
                  simp only [Act.put, List.setIfInBounds_toArray, List.set_cons_zero, List.set_cons_succ, i64_w, i32_w]
                  rfl
                 refine pure_ (i := 23) (N := some 170) (v := undef) (a' := ?_) b4_43 rfl rfl (any_of HT_.out (by kernel_rfl)) (fun _ _ _ h => h) (Or.inr ⟨by rfl, rfl⟩) ?_ ?_
                 rotate_left
                 ·
                  simp only [Act.put, List.setIfInBounds_toArray, List.set_cons_zero, List.set_cons_succ, i64_w, i32_w]
                  rfl
                 refine pq_ 24 171 b4_44 (any_of HT_.out (by kernel_rfl)) ?_
                 refine done_ (done_of HT_.out (by kernel_rfl)) ?_
                 try go_wp2
                 go_meet
                 case rel => exact ⟨_, (false), (by first | rfl | (simp; done) | (simp [*]; done)), H', ⟨by have := HK1.out; have := HJ14.out; have := HJ24.out; have := HJ30.out; have := HK5.out; have := HJ60.out; have := HK7.out; have := HJ65.out; first | omega | exact Nat.le_refl _⟩, ⟨by (with_reducible repeat (first | apply Kd.R_alloc | apply Kd.R_drewN | apply Kd.R_drew)); exact HO_3.out⟩, ⟨by (with_reducible repeat (first | apply Kd.R_alloc | apply Kd.R_drewN | apply Kd.R_drew)); exact HO_9.out⟩, ⟨by (with_reducible repeat (first | apply Kd.R_alloc | apply Kd.R_drewN | apply Kd.R_drew)); exact HO_12.out⟩, ⟨by (with_reducible repeat (first | refine blk_drewN ?_ _ | refine blk_drew ?_ | refine blk_alloc ?_ _)); exact BK143.out⟩, ⟨by repeat (first | (with_reducible first | exact HB.out | apply below_alloc | apply pw_below_drewN | apply below_drew1 | refine below_set ?_ GE143.out) | exact HB.out)⟩⟩
               case rest =>
                clear HC83
                try clear p1
                try clear q1
                try clear hx1
                try clear p2
                try clear c8
                try clear p18
                try clear q18
                try clear hx18
                try clear c84
                try clear c84b0
                try clear c85
                try clear c85b0
                try clear hx181_0
                try clear hx182_0
                try clear hx183_0
                try clear hx184_0
                try clear p181
                try clear p182
                try clear p183
                try clear q181
                try clear q182
                try clear q183
                try clear q184
                obtain ⟨kq, x171_82, rfl, HA, HJ82, HO_3, HO_9, HO_12, BK143, HB⟩ := hcut
                cases kq with
                | zero => exact absurd HA.out (by simp [lectionarylaw3_TextExact.j8])
                | succ kj82 =>
                 have H := HA.out
                 clear HA
                 simp only [lectionarylaw3_TextExact.j8] at H
                 by_cases c89 : x171_82 = true
                 rotate_left
                 ·
                  replace c89 := Bool.eq_false_iff.mpr c89
                  subst c89
                  have H1 : (lectionarylaw3_TextExact.j9 kj82 y148 x4_1 x9_24 true x11_24 y173 x13_5 x14_7 t179 t180 2 (⟨#[]⟩ : ByteArray) l0_0 l0_1 l0_2) = some r := by rw [if_neg (show ¬ (false = true) by decide)] at H; exact H
                  clear H
                  have H := H1
                  clear H1
                  as_aux_lemma =>
                   have H' := Aside0.mk H
                   clear H
                   go_wp2
                   go_meet
                   case rel => exact ⟨_, (2), ((⟨#[]⟩ : ByteArray)), (by first | rfl | (simp; done) | (simp [*]; done)), (by first | rfl | (simp; done) | (simp [*]; done)), H', ⟨by have := HK1.out; have := HJ14.out; have := HJ24.out; have := HJ30.out; have := HK5.out; have := HJ60.out; have := HK7.out; have := HJ65.out; have := HJ82.out; first | omega | exact Nat.le_refl _⟩, ⟨by (with_reducible repeat (first | apply Kd.R_alloc | apply Kd.R_drewN | apply Kd.R_drew)); exact HO_3.out⟩, ⟨by (with_reducible repeat (first | apply Kd.R_alloc | apply Kd.R_drewN | apply Kd.R_drew)); exact HO_9.out⟩, ⟨by (with_reducible repeat (first | apply Kd.R_alloc | apply Kd.R_drewN | apply Kd.R_drew)); exact HO_12.out⟩, ⟨by (with_reducible repeat (first | refine blk_drewN ?_ _ | refine blk_drew ?_ | refine blk_alloc ?_ _)); exact BK143.out⟩, ⟨by repeat (first | (with_reducible first | exact HB.out | apply below_alloc | apply pw_below_drewN | apply below_drew1 | refine below_set ?_ GE143.out) | exact HB.out)⟩⟩
                 subst c89
                 have H1 : (if 0 ≤ x13_5 then (if x13_5 < (y173.length : Int) then (if 0 ≤ x14_7 then (if x14_7 < (y173.length : Int) then (if 0 ≤ (rd y173 x13_5) then (if (rd y173 x13_5) ≤ (rd y173 x14_7) then (if (rd y173 x14_7) ≤ (x9_24.length : Int) then ((lectionaryref1_Make.f kj82 ((x9_24.take ((rd y173 x14_7) : Int).toNat).drop ((rd y173 x13_5) : Int).toNat)).bind fun t191 => (lectionarylaw3_TextExact.j9 kj82 y148 x4_1 x9_24 true x11_24 y173 x13_5 x14_7 t179 t180 0 t191 l0_0 l0_1 l0_2)) else (none)) else (none)) else (none)) else (none)) else (none)) else (none)) else (none)) = some r := by rw [if_pos rfl] at H; exact H
                 clear H
                 have H := H1
                 clear H1
                 by_cases c90 : 0 ≤ x13_5
                 rotate_left
                 ·
                  rw [if_neg c90] at H
                  exact absurd H (by simp)
                 rw [if_pos c90] at H
                 have c90b0 : decide (0 ≤ x13_5) = true := decide_eq_true c90
                 clear c90
                 by_cases c91 : x13_5 < (y173.length : Int)
                 rotate_left
                 ·
                  rw [if_neg c91] at H
                  exact absurd H (by simp)
                 rw [if_pos c91] at H
                 have c91b0 : decide (x13_5 < (y173.length : Int)) = true := decide_eq_true c91
                 clear c91
                 by_cases c92 : 0 ≤ x14_7
                 rotate_left
                 ·
                  rw [if_neg c92] at H
                  exact absurd H (by simp)
                 rw [if_pos c92] at H
                 have c92b0 : decide (0 ≤ x14_7) = true := decide_eq_true c92
                 clear c92
                 by_cases c93 : x14_7 < (y173.length : Int)
                 rotate_left
                 ·
                  rw [if_neg c93] at H
                  exact absurd H (by simp)
                 rw [if_pos c93] at H
                 have c93b0 : decide (x14_7 < (y173.length : Int)) = true := decide_eq_true c93
                 clear c93
                 by_cases c94 : 0 ≤ (rd y173 x13_5)
                 rotate_left
                 ·
                  rw [if_neg c94] at H
                  exact absurd H (by simp)
                 rw [if_pos c94] at H
                 have c94b0 := eq_true c94
                 have c94b1 : decide (0 ≤ (rd y173 x13_5)) = true := decide_eq_true c94
                 clear c94
                 by_cases c95 : (rd y173 x13_5) ≤ (rd y173 x14_7)
                 rotate_left
                 ·
                  rw [if_neg c95] at H
                  exact absurd H (by simp)
                 rw [if_pos c95] at H
                 have c95b0 := eq_true c95
                 have c95b1 : decide ((rd y173 x13_5) ≤ (rd y173 x14_7)) = true := decide_eq_true c95
                 clear c95
                 by_cases c96 : (rd y173 x14_7) ≤ (x9_24.length : Int)
                 rotate_left
                 ·
                  rw [if_neg c96] at H
                  exact absurd H (by simp)
                 rw [if_pos c96] at H
                 have c96b0 := eq_true c96
                 have c96b1 : decide ((rd y173 x14_7) ≤ (x9_24.length : Int)) = true := decide_eq_true c96
                 clear c96
                 obtain ⟨y187, hy187⟩ : ∃ y_ : List Int, y_ = ((x9_24.take ((rd y173 x14_7) : Int).toNat).drop ((rd y173 x13_5) : Int).toNat) := ⟨_, rfl⟩
                 replace H : ((lectionaryref1_Make.f kj82 y187).bind fun t191 => (lectionarylaw3_TextExact.j9 kj82 y148 x4_1 x9_24 true x11_24 y173 x13_5 x14_7 t179 t180 0 t191 l0_0 l0_1 l0_2)) = some r := by first | (rw [hy187]; with_reducible exact H) | (have H2_ := (Option.bind_some _ _).symm.trans H; rw [hy187]; with_reducible exact H2_) | (have H2_ := (Option.bind_some _ _).symm.trans H; with_reducible exact H2_) | with_reducible exact H | (rw [hy187]; exact H) | exact H
                 have Ny187 := Aside0.mk hy187
                 clear hy187
                 replace H := Option.bind_eq_some_iff.mp H
                 obtain ⟨t191, A970, H⟩ := H
                 replace H : (lectionarylaw3_TextExact.j9 kj82 y148 x4_1 x9_24 true x11_24 y173 x13_5 x14_7 t179 t180 0 t191 l0_0 l0_1 l0_2) = some r := H
                 have A97 := Aside0.mk A970
                 clear A970
                 as_aux_lemma =>
                  have H' := Aside0.mk H
                  clear H
                  try go_wp2
                  have n0_ := Aside0.mk (Kd.R_drew HO_3.out)
                  have n1_ := Aside0.mk (Kd.R_drew HO_9.out)
                  have n2_ := Aside0.mk (Kd.R_drew HO_12.out)
                  have n3_ := Aside0.mk (blk_drew BK143.out)
                  have n4_ := Aside0.mk (below_drew1 HB.out)
                  clear HO_3
                  clear HO_9
                  clear HO_12
                  clear BK143
                  clear HB
                  have HO_3 := n0_
                  have HO_9 := n1_
                  have HO_12 := n2_
                  have BK143 := n3_
                  have HB := n4_
                  clear n0_ n1_ n2_ n3_ n4_
                  have p185 : 0 ≤ (x13_5 : Int) := of_decide_eq_true (by first | (with_reducible assumption) | assumption)
                  have q185 : x13_5 < (y173.length : Int) := of_decide_eq_true (by first | (with_reducible assumption) | assumption)
                  obtain ⟨ad185, e185, hx185_0⟩ := Kd.at_int (Kd.R_reads' HO_12.out).2.2 x13_5 p185 q185
                  obtain rfl : ad177 = ad185 := (by injection e185)
                  replace p185 := eq_true p185
                  replace q185 := eq_true q185
                  have p186 : 0 ≤ (x14_7 : Int) := of_decide_eq_true (by first | (with_reducible assumption) | assumption)
                  have q186 : x14_7 < (y173.length : Int) := of_decide_eq_true (by first | (with_reducible assumption) | assumption)
                  obtain ⟨ad186, e186, hx186_0⟩ := Kd.at_int (Kd.R_reads' HO_12.out).2.2 x14_7 p186 q186
                  obtain rfl : ad177 = ad186 := (by injection e186)
                  replace p186 := eq_true p186
                  replace q186 := eq_true q186
                  have q99 : ((rd y173 x14_7) : Int) ≤ ((x9_24.length : Int) : Int) := of_decide_eq_true (by first | (with_reducible assumption) | assumption)
                  obtain ⟨i099, hi099, _, hsz99, _⟩ := info_parts info21
                  have hroom99 : x9_24.length ≤ co56 := (Kd.R_reads' HO_9.out).2.1
                  have hC99 : Kd.C (Kd.int .i32) _ Ao56 x9_24.length x9_24 := (Kd.R_reads' HO_9.out).2.2
                  have ql99 : ((rd y173 x13_5) : Int) ≤ ((rd y173 x14_7) : Int) := of_decide_eq_true (by first | (with_reducible assumption) | assumption)
                  have q099 : (0 : Int) ≤ ((rd y173 x13_5) : Int) := of_decide_eq_true (by first | (with_reducible assumption) | assumption)
                  have hcut99 := cut_mid (P := Tryd.prog) 23 21 .i64 .i64 Tryd.underlying23 hi099 1 hsz99 Ao56 x9_24.length co56 (rd y173 x13_5) (rd y173 x14_7) q099 ql99 q99 hroom99
                  have hr99 := Kd.C_mid (lo := ((rd y173 x13_5) : Int).toNat) (hi := ((rd y173 x14_7) : Int).toNat) (c := co56) hC99 (by omega) (by omega) hroom99
                  obtain ⟨A99, hA99⟩ : ∃ A1, A1 = (if co56 = ((rd y173 x13_5) : Int).toNat then Ao56 else (Ao56 : Option Addr).map (·.add (((rd y173 x13_5) : Int).toNat * 1))) := ⟨_, rfl⟩
                  obtain ⟨c99, hc99⟩ : ∃ c1, c1 = co56 - ((rd y173 x13_5) : Int).toNat := ⟨_, rfl⟩
                  have hy99 : y187.length = ((rd y173 x14_7) : Int).toNat - ((rd y173 x13_5) : Int).toNat := (by rw [Ny187.out, List.length_drop, List.length_take] <;> omega)
                  rw [show ((x9_24).take ((rd y173 x14_7) : Int).toNat).drop ((rd y173 x13_5) : Int).toNat = y187 from Ny187.out.symm] at hr99
                  replace hr99 : Kd.C (Kd.int .i32) _ A99 y187.length y187 := (by rw [hA99]; exact hr99)
                  rw [← hy99, ← hA99, ← hc99] at hcut99
                  have HR190 := Aside0.mk hr99
                  have HC190 := Aside0.mk (show y187.length ≤ c99 from by rw [hy99, hc99]; exact Nat.sub_le_sub_right (Nat.le_trans (by omega) hroom99) _)
                  clear hr99 hC99 hroom99 hi099 hsz99 hc99
                  have KY99 := Aside0.mk hy99
                  have KA99 := Aside0.mk hA99
                  clear hy99 hA99
                  have KL99 := Aside0.mk (show ((rd y173 x14_7) : Int).toNat ≤ x9_24.length from by omega)
                  have KM99 := Aside0.mk (show ((rd y173 x13_5) : Int).toNat ≤ ((rd y173 x14_7) : Int).toNat from by omega)
                  replace q99 := eq_true q99
                  refine start_ (n := 13) (S := fun w' => w'.cell? (ad177.add (x13_5).toNat) = some (.int .i64 (rd y173 x13_5)) ∧ w'.cell? (ad177.add (x14_7).toNat) = some (.int .i64 (rd y173 x14_7))) (ds := []) b4_50 (by kernel_rfl) rfl rfl ⟨hx185_0, hx186_0⟩ (fun hHeld => ?_); refine with_tabW lectionarylaw3_TextExact.tab27 lectionarylaw3_TextExact.bits27 (fun HT_ HW_ => ?_)
                  generalize wc.drew = w98 at HO_3 HO_9 HO_12 BK143 HB HR190 hx185_0 hx186_0 hHeld ⊢
                  refine pq_ 0 172 b4_51 (any_of HT_.out (by kernel_rfl)) ?_
                  refine pq_ 1 173 b4_52 (any_of HT_.out (by kernel_rfl)) ?_
                  refine pq_ 2 174 b4_53 (any_of HT_.out (by kernel_rfl)) ?_
                  refine pq_ 3 175 b4_54 (any_of HT_.out (by kernel_rfl)) ?_
                  refine pq_ 5 177 b4_55 (any_of HT_.out (by kernel_rfl)) ?_
                  refine pq_ 6 178 b4_56 (any_of HT_.out (by kernel_rfl)) ?_
                  refine pq_ 7 179 b4_57 (any_of HT_.out (by kernel_rfl)) ?_
                  refine take_ (i := 4) (N := some 176) (v := ?_) (a' := ?_) b4_58 rfl rfl (take_ofW HT_.out HW_.out (by kernel_rfl)) (fun _ _ _ h => h) (Or.inl ⟨by rfl, ?_⟩) hHeld ?_ ?_
                  rotate_left
                  ·
                   rintro w' ⟨s0, s1⟩
                   go_simp
                   with_reducible rfl
                  rotate_left
                  ·
                   simp only [Act.put, List.setIfInBounds_toArray, List.set_cons_zero, List.set_cons_succ, i64_w, i32_w]
                   rfl
                  refine take_ (i := 8) (N := some 180) (v := ?_) (a' := ?_) b4_59 rfl rfl (take_ofW HT_.out HW_.out (by kernel_rfl)) (fun _ _ _ h => h) (Or.inl ⟨by rfl, ?_⟩) hHeld ?_ ?_
                  rotate_left
                  ·
                   rintro w' ⟨s0, s1⟩
                   go_simp
                   with_reducible rfl
                  rotate_left
                  ·
                   simp only [Act.put, List.setIfInBounds_toArray, List.set_cons_zero, List.set_cons_succ, i64_w, i32_w]
                   rfl
                  refine pq_ 9 181 b4_60 (any_of HT_.out (by kernel_rfl)) ?_
                  refine one_ (i := 10) (N := some 182) b4_61 rfl rfl (one_of HT_.out (by kernel_rfl)) (by decide) (fun K hK => ?_)
                  refine goes_ Tryd.func14 (by kernel_rfl) rfl #[.slice A99 y187.length c99] (by rfl) rfl rfl (by (try simp only [List.map_toArray, List.map_cons, List.map_nil]); first | done | rfl | (simp only [List.length_drop, List.length_take]; rfl)) ?_
                  with_reducible refine (lectionaryref1_Make.calls kj82 _ _ y187 t191 _ ?side1 ?side2 A97.out).mono ?_
                  (case side1 => repeat (first | exact (by repeat (first | (with_reducible exact HR190.out) | (with_reducible refine Kd.C_alloc ?_ _) | (with_reducible refine Kd.C_drewN ?_ _) | (with_reducible refine Kd.C_drew ?_) | exact HR190.out)) | (with_reducible refine Kd.C_alloc ?_ _) | (with_reducible refine Kd.C_drewN ?_ _) | (with_reducible refine Kd.C_drew ?_)))
                  (case side2 => exact HC190.out)
                  rintro e w' ⟨rfl, ⟨nd, rfl⟩⟩
                  refine ⟨_, rfl, ?_⟩
                  refine hK.out _ _ ⟨hHeld.1, hHeld.2⟩ (fun hHeld => ?_)
                  clear hK K
                  refine norm_ (a' := ?_) ?_ ?_
                  rotate_left
                  ·
                   show Act.put _ (some 182) _ = _
                   simp only [Act.put, List.setIfInBounds_toArray, List.set_cons_zero, List.set_cons_succ, i64_w, i32_w]
                   rfl
                  refine pq_ 11 17 b4_62 (any_of HT_.out (by kernel_rfl)) ?_
                  refine pq_ 12 18 b4_63 (any_of HT_.out (by kernel_rfl)) ?_
                  refine done_ (done_of HT_.out (by kernel_rfl)) ?_
                  try go_wp2
                  go_meet
                  case rel => exact ⟨_, (0), (t191), (by first | rfl | (simp; done) | (simp [*]; done)), (by first | rfl | (simp; done) | (simp [*]; done)), H', ⟨by have := HK1.out; have := HJ14.out; have := HJ24.out; have := HJ30.out; have := HK5.out; have := HJ60.out; have := HK7.out; have := HJ65.out; have := HJ82.out; first | omega | exact Nat.le_refl _⟩, ⟨by (with_reducible repeat (first | apply Kd.R_alloc | apply Kd.R_drewN | apply Kd.R_drew)); exact HO_3.out⟩, ⟨by (with_reducible repeat (first | apply Kd.R_alloc | apply Kd.R_drewN | apply Kd.R_drew)); exact HO_9.out⟩, ⟨by (with_reducible repeat (first | apply Kd.R_alloc | apply Kd.R_drewN | apply Kd.R_drew)); exact HO_12.out⟩, ⟨by (with_reducible repeat (first | refine blk_drewN ?_ _ | refine blk_drew ?_ | refine blk_alloc ?_ _)); exact BK143.out⟩, ⟨by repeat (first | (with_reducible first | exact HB.out | apply below_alloc | apply pw_below_drewN | apply below_drew1 | refine below_set ?_ GE143.out) | exact HB.out)⟩⟩
              case rest =>
               clear HC78
               try clear c1
               try clear p1
               try clear q1
               try clear hx1
               try clear p2
               try clear c8
               try clear c9
               try clear q9
               try clear c14
               try clear p18
               try clear q18
               try clear hx18
               try clear c82
               try clear c84
               try clear c84b0
               try clear c85
               try clear c85b0
               try clear c89
               try clear c90
               try clear c90b0
               try clear c91
               try clear c91b0
               try clear c92
               try clear c92b0
               try clear c93
               try clear c93b0
               try clear c94
               try clear c94b0
               try clear c94b1
               try clear c95
               try clear c95b0
               try clear c95b1
               try clear c96
               try clear c96b0
               try clear c96b1
               try clear c99
               try clear q99
               try clear hx181_0
               try clear hx182_0
               try clear hx183_0
               try clear hx184_0
               try clear hx185_0
               try clear hx186_0
               try clear p1
               try clear p18
               try clear p181
               try clear p182
               try clear p183
               try clear p185
               try clear p186
               try clear p2
               try clear q099
               try clear q1
               try clear q18
               try clear q181
               try clear q182
               try clear q183
               try clear q184
               try clear q185
               try clear q186
               try clear q99
               obtain ⟨kq, x17_77, x18_77, rfl, rfl, HA, HJ77, HO_3, HO_9, HO_12, BK143, HB⟩ := hcut
               cases kq with
               | zero => exact absurd HA.out (by simp [lectionarylaw3_TextExact.j9])
               | succ kj77 =>
                have H := HA.out
                clear HA
                simp only [lectionarylaw3_TextExact.j9] at H
                replace H := Option.bind_eq_some_iff.mp H
                obtain ⟨t192, A1000, H⟩ := H
                replace H : (if t192 = x17_77 then (if t179.toList = x18_77.toList then (lectionarylaw3_TextExact.l2 kj77 y148 x4_1 x9_24 t161 x11_24 y173 x13_5 (wrap64 (x14_7 + 1)) l0_0 l0_1 l0_2) else (none)) else (none)) = some r := H
                have A100 := Aside0.mk A1000
                clear A1000
                by_cases c101 : t192 = x17_77
                rotate_left
                ·
                 rw [if_neg c101] at H
                 exact absurd H (by simp)
                rw [if_pos c101] at H
                have c101b0 : (t192 == x17_77) = true := beq_iff_eq.mpr c101
                have c101b1 : (t192 != x17_77) = false := bne_eq_false_iff_eq.mpr c101
                clear c101
                by_cases c102 : t179.toList = x18_77.toList
                rotate_left
                ·
                 rw [if_neg c102] at H
                 exact absurd H (by simp)
                rw [if_pos c102] at H
                have c102b0 : (t179.toList == x18_77.toList) = true := beq_iff_eq.mpr c102
                have c102b1 : (t179.toList != x18_77.toList) = false := bne_eq_false_iff_eq.mpr c102
                clear c102
                as_aux_lemma =>
                 have H' := Aside0.mk H
                 clear H
                 go_wp2_with (first | ((with_reducible refine gate_callee (f := 7) rfl ?_); refine goesL_ (some 184) rfl rfl Tryd.func7 (by kernel_rfl) rfl #[.int .i64 t180] rfl (by (try simp only [List.map_toArray, List.map_cons, List.map_nil]); first | done | rfl | (simp only [List.length_drop, List.length_take]; rfl)) ?_; (with_reducible refine (lectionarylaw3_num.calls t180 t192 _ A100.out).mono ?_); rintro e w' ⟨rfl, ⟨nd, rfl⟩⟩; refine ⟨_, rfl, ?_⟩))
                 go_roundg kj77
                 case measure => have := HK1.out; have := HJ14.out; have := HJ24.out; have := HJ30.out; have := HK5.out; have := HJ60.out; have := HK7.out; have := HJ65.out; have := HJ77.out; omega
                 case rel => exact ⟨(wrap64 (x14_7 + 1)), (by first | rfl | (simp; done) | (simp [*]; done)), H', ⟨by have := HK1.out; have := HJ14.out; have := HJ24.out; have := HJ30.out; have := HK5.out; have := HJ60.out; have := HK7.out; have := HJ65.out; have := HJ77.out; omega⟩, ⟨by (with_reducible repeat (first | apply Kd.R_alloc | apply Kd.R_drewN | apply Kd.R_drew)); exact HO_3.out⟩, ⟨by (with_reducible repeat (first | apply Kd.R_alloc | apply Kd.R_drewN | apply Kd.R_drew)); exact HO_9.out⟩, ⟨by (with_reducible repeat (first | apply Kd.R_alloc | apply Kd.R_drewN | apply Kd.R_drew)); exact HO_12.out⟩, ⟨by (with_reducible repeat (first | refine blk_drewN ?_ _ | refine blk_drew ?_ | refine blk_alloc ?_ _)); exact BK143.out⟩, ⟨by repeat (first | (with_reducible first | exact HB.out | apply below_alloc | apply pw_below_drewN | apply below_drew1 | refine below_set ?_ GE143.out) | exact HB.out)⟩⟩

end Go.Proofs.YtcjedinpiedhcaaDoor.PE
