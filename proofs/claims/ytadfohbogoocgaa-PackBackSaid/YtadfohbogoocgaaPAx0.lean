import Derived.Test.YtadfohbogoocgaaProg
import Derived.Below
import Derived.Deep.Draws
import Derived.Deep.AppendLies
import Derived.Maps.AppendAt
import Derived.OwnWalk
import Derived.Laws.BytesArg
import Derived.Laws.MakeOwn
import Derived.Laws.OwnMore
import Derived.Deep.OwnRows
import Derived.Tactics
import Derived.Lib.ConvBytes
import Derived.Laws.Slices
import Derived.WalkKit
import Derived.KernelRfl
import Derived.RowKit3
import Derived.Deep.LoopGhost
import Derived.Deep.QuietTactic
import Derived.BigQuiet
import Derived.WideLaws
import Derived.Deep.DeepCutAuto
import Derived.Deep.CutBlock
import Derived.Deep.RegionHeld3
import Derived.Laws.Rows
import Derived.Lib.AppendStr
import Derived.ArgAppend
import Derived.Laws.IdiomCopy
import Derived.OrdersHeld
import Derived.Laws.BitsLemmas
import Derived.RowKit
import Derived.Test.YtadfohbogoocgaaX
import Derived.Test.YtadfohbogoocgaaB
import Derived.Test.YtadfohbogoocgaaPq
import Derived.Test.YtadfohbogoocgaaShelf
import Derived.Lib.SliceRun
import Derived.Test.YtadfohbogoocgaaWWords
import Derived.Test.YtadfohbogoocgaaWLast
import Derived.Test.YtadfohbogoocgaaWTab
import Derived.Test.YtadfohbogoocgaaWFour
import Derived.Test.YtadfohbogoocgaaWQPut
import Derived.Test.YtadfohbogoocgaaWApart
import Derived.Test.YtadfohbogoocgaaWArr
import Derived.Test.YtadfohbogoocgaaWZeros
import Derived.Test.YtadfohbogoocgaaWFoot
import Derived.Test.YtadfohbogoocgaaWKept
import Derived.Test.YtadfohbogoocgaaWShare
import Derived.Test.YtadfohbogoocgaaWN
import Derived.Test.YtadfohbogoocgaaWFootNe
import Derived.Test.YtadfohbogoocgaaWAt
import Derived.Test.YtadfohbogoocgaaWEqStruct
import Derived.Test.YtadfohbogoocgaaWRepsOne
import Derived.Test.YtadfohbogoocgaaWInv
import Derived.Test.YtadfohbogoocgaaWInvWords
import Derived.Test.YtadfohbogoocgaaWGuard
import Derived.Test.YtadfohbogoocgaaWNEv
import Derived.Test.YtadfohbogoocgaaWMore
namespace Go.Proofs.Ytadfohbogoocgaa.PA
open Go.RowKit Go.Proofs.YtadfohbogoocgaaW.PrintWords Go.Proofs.YtadfohbogoocgaaW.PrintLast Go.Proofs.YtadfohbogoocgaaW.PrintMore Go.Proofs.YtadfohbogoocgaaX Go.Proofs.YtadfohbogoocgaaB Go.Proofs.YtadfohbogoocgaaPq
attribute [local go_sem] gi gj gx gy jr js gm gn
set_option linter.unusedVariables false
set_option linter.unusedSimpArgs false
def errW : Option Int → Value
  | none => .nilIface
  | some c => .iface 0 (.int .i64 c)
theorem zm : errW none = .nilIface := rfl
theorem zn (c : Int) : errW (some c) = .iface 0 (.int .i64 c) := rfl
theorem info5 : (Try.prog.info? 5).map (fun i => (i.zero, i.size, i.bytes)) = some (some (.int .u8 0), 1, 1) := by kernel_rfl
theorem info36 : (Try.prog.info? 36).map (fun i => (i.zero, i.size, i.bytes)) = some (some (.agg #[(.int .i64 0), (.int .i64 0), (.int .i64 0)]), 3, 24) := by kernel_rfl
theorem info38 : (Try.prog.info? 38).map (fun i => (i.zero, i.size, i.bytes)) = some (some (.agg #[(.int .i64 0), (.int .i64 0), (.int .i64 0), (.int .i64 0), (.int .i64 0), (.int .i64 0), (.string ⟨#[]⟩), (.slice none 0 0), (.int .i64 0), (.int .i64 0), (.int .i64 0)]), 11, 112) := by kernel_rfl
structure S36 where
  f0 : Int
  f1 : Int
  f2 : Int
def z36 : S36 := ⟨(0 : Int), (0 : Int), (0 : Int)⟩
def k36 : Kd S36 := Kd.iso (Kd.pair (Kd.int .i64) (Kd.pair (Kd.int .i64) (Kd.int .i64))) (fun x : S36 => (x.f0, x.f1, x.f2))
theorem z5u {w : World} {x : S36} {cs : List Value} (h : k36.K w x cs) : cs = [.int .i64 x.f0, .int .i64 x.f1, .int .i64 x.f2] := by
  obtain ⟨_, _, rfl, rfl, ⟨_, _, rfl, rfl, rfl⟩⟩ := h
  exact rfl
theorem z7s (w : World) (base : Nat) (ok : Nat → Prop) (x : S36)  : k36.M w base ok x [.int .i64 x.f0, .int .i64 x.f1, .int .i64 x.f2] := ⟨[.int .i64 x.f0], [.int .i64 x.f1, .int .i64 x.f2], rfl, rfl, ⟨[.int .i64 x.f1], [.int .i64 x.f2], rfl, rfl, rfl⟩⟩
def zr (xs : List S36) (i : Int) : S36 := xs.getD i.toNat z36
theorem z1j {w : World} {A : Option Addr} {n : Nat} {xs : List S36} (h : Kd.C k36 w A n xs) (i : Int) (h0 : 0 ≤ i) (h1 : i < n) : ∃ ad , A = some ad ∧ w.cell? (ad.add (i.toNat * 3)) = some (.int .i64 (zr xs i).f0) ∧ w.cell? ⟨(ad.add (i.toNat * 3)).block, (ad.add (i.toNat * 3)).off + 1, none⟩ = some (.int .i64 (zr xs i).f1) ∧ w.cell? ⟨(ad.add (i.toNat * 3)).block, (ad.add (i.toNat * 3)).off + 2, none⟩ = some (.int .i64 (zr xs i).f2) := by
  obtain ⟨ad, c, e, _, hK, hc0⟩ := Kd.z89 h z36 i h0 h1
  have hc : ∀ j u, c[j]? = some u → w.cell? (ad.add (i.toNat * 3 + j)) = some u := hc0
  obtain rfl := z5u hK
  exact ⟨ad, e, hc 0 _ rfl, by rw [← jf _ _ 1 (by omega)]; exact hc 1 _ rfl, by rw [← jf _ _ 2 (by omega)]; exact hc 2 _ rfl⟩
structure S38 where
  f0 : Int
  f1 : Int
  f2 : Int
  f3 : S36
  f4 : ByteArray
  f5 : (List S36)
  f6 : Int
  f7 : Int
  f8 : Int
def z38 : S38 := ⟨(0 : Int), (0 : Int), (0 : Int), z36, (⟨#[]⟩ : ByteArray), ([] : List S36), (0 : Int), (0 : Int), (0 : Int)⟩
def k38 : Kd S38 := Kd.iso (Kd.pair (Kd.int .i64) (Kd.pair (Kd.int .i64) (Kd.pair (Kd.int .i64) (Kd.pair k36 (Kd.pair Kd.string (Kd.pair (Kd.slice 36 k36) (Kd.pair (Kd.int .i64) (Kd.pair (Kd.int .i64) (Kd.int .i64))))))))) (fun x : S38 => (x.f0, x.f1, x.f2, x.f3, x.f4, x.f5, x.f6, x.f7, x.f8))
theorem za5 {w : World} {x : S38} {cs : List Value} (h : k38.K w x cs) : ∃ A7 c7, cs = [.int .i64 x.f0, .int .i64 x.f1, .int .i64 x.f2, .int .i64 x.f3.f0, .int .i64 x.f3.f1, .int .i64 x.f3.f2, .string x.f4, .slice A7 x.f5.length c7, .int .i64 x.f6, .int .i64 x.f7, .int .i64 x.f8] ∧ x.f5.length ≤ c7 ∧ k36.C w A7 x.f5.length x.f5 := by
  obtain ⟨_, _, rfl, rfl, ⟨_, _, rfl, rfl, ⟨_, _, rfl, rfl, ⟨_, _, rfl, s3, ⟨_, _, rfl, rfl, ⟨_, _, rfl, ⟨A7, c7, rfl, l7, g7⟩, ⟨_, _, rfl, rfl, ⟨_, _, rfl, rfl, rfl⟩⟩⟩⟩⟩⟩⟩⟩ := h
  obtain rfl := z5u s3
  exact ⟨A7, c7, rfl, l7, g7⟩
theorem zbd (w : World) (base : Nat) (ok : Nat → Prop) (x : S38) {v7 : Value} (g7 : k36.R 36 w base ok v7 x.f5) : k38.M w base ok x [.int .i64 x.f0, .int .i64 x.f1, .int .i64 x.f2, .int .i64 x.f3.f0, .int .i64 x.f3.f1, .int .i64 x.f3.f2, .string x.f4, v7, .int .i64 x.f6, .int .i64 x.f7, .int .i64 x.f8] := ⟨[.int .i64 x.f0], [.int .i64 x.f1, .int .i64 x.f2, .int .i64 x.f3.f0, .int .i64 x.f3.f1, .int .i64 x.f3.f2, .string x.f4, v7, .int .i64 x.f6, .int .i64 x.f7, .int .i64 x.f8], rfl, rfl, ⟨[.int .i64 x.f1], [.int .i64 x.f2, .int .i64 x.f3.f0, .int .i64 x.f3.f1, .int .i64 x.f3.f2, .string x.f4, v7, .int .i64 x.f6, .int .i64 x.f7, .int .i64 x.f8], rfl, rfl, ⟨[.int .i64 x.f2], [.int .i64 x.f3.f0, .int .i64 x.f3.f1, .int .i64 x.f3.f2, .string x.f4, v7, .int .i64 x.f6, .int .i64 x.f7, .int .i64 x.f8], rfl, rfl, ⟨[.int .i64 x.f3.f0, .int .i64 x.f3.f1, .int .i64 x.f3.f2], [.string x.f4, v7, .int .i64 x.f6, .int .i64 x.f7, .int .i64 x.f8], rfl, (z7s w base ok x.f3 ), ⟨[.string x.f4], [v7, .int .i64 x.f6, .int .i64 x.f7, .int .i64 x.f8], rfl, rfl, ⟨[v7], [.int .i64 x.f6, .int .i64 x.f7, .int .i64 x.f8], rfl, ⟨v7, rfl, g7⟩, ⟨[.int .i64 x.f6], [.int .i64 x.f7, .int .i64 x.f8], rfl, rfl, ⟨[.int .i64 x.f7], [.int .i64 x.f8], rfl, rfl, rfl⟩⟩⟩⟩⟩⟩⟩⟩
def zg (xs : List S38) (i : Int) : S38 := xs.getD i.toNat z38
theorem z0q {w : World} {A : Option Addr} {n : Nat} {xs : List S38} (h : Kd.C k38 w A n xs) (i : Int) (h0 : 0 ≤ i) (h1 : i < n) : ∃ ad A7 c7, A = some ad ∧ w.cell? (ad.add (i.toNat * 11)) = some (.int .i64 (zg xs i).f0) ∧ w.cell? ⟨(ad.add (i.toNat * 11)).block, (ad.add (i.toNat * 11)).off + 1, none⟩ = some (.int .i64 (zg xs i).f1) ∧ w.cell? ⟨(ad.add (i.toNat * 11)).block, (ad.add (i.toNat * 11)).off + 2, none⟩ = some (.int .i64 (zg xs i).f2) ∧ w.cell? ⟨(ad.add (i.toNat * 11)).block, (ad.add (i.toNat * 11)).off + 3, none⟩ = some (.int .i64 (zg xs i).f3.f0) ∧ w.cell? ⟨(ad.add (i.toNat * 11)).block, (ad.add (i.toNat * 11)).off + 4, none⟩ = some (.int .i64 (zg xs i).f3.f1) ∧ w.cell? ⟨(ad.add (i.toNat * 11)).block, (ad.add (i.toNat * 11)).off + 5, none⟩ = some (.int .i64 (zg xs i).f3.f2) ∧ w.cell? ⟨(ad.add (i.toNat * 11)).block, (ad.add (i.toNat * 11)).off + 6, none⟩ = some (.string (zg xs i).f4) ∧ w.cell? ⟨(ad.add (i.toNat * 11)).block, (ad.add (i.toNat * 11)).off + 7, none⟩ = some (.slice A7 (zg xs i).f5.length c7) ∧ w.cell? ⟨(ad.add (i.toNat * 11)).block, (ad.add (i.toNat * 11)).off + 8, none⟩ = some (.int .i64 (zg xs i).f6) ∧ w.cell? ⟨(ad.add (i.toNat * 11)).block, (ad.add (i.toNat * 11)).off + 9, none⟩ = some (.int .i64 (zg xs i).f7) ∧ w.cell? ⟨(ad.add (i.toNat * 11)).block, (ad.add (i.toNat * 11)).off + 10, none⟩ = some (.int .i64 (zg xs i).f8) ∧ (zg xs i).f5.length ≤ c7 ∧ k36.C w A7 (zg xs i).f5.length (zg xs i).f5 := by
  obtain ⟨ad, c, e, _, hK, hc0⟩ := Kd.z89 h z38 i h0 h1
  have hc : ∀ j u, c[j]? = some u → w.cell? (ad.add (i.toNat * 11 + j)) = some u := hc0
  obtain ⟨A7, c7, rfl, l7, g7⟩ := za5 hK
  exact ⟨ad, A7, c7, e, hc 0 _ rfl, by rw [← jf _ _ 1 (by omega)]; exact hc 1 _ rfl, by rw [← jf _ _ 2 (by omega)]; exact hc 2 _ rfl, by rw [← jf _ _ 3 (by omega)]; exact hc 3 _ rfl, by rw [← jf _ _ 4 (by omega)]; exact hc 4 _ rfl, by rw [← jf _ _ 5 (by omega)]; exact hc 5 _ rfl, by rw [← jf _ _ 6 (by omega)]; exact hc 6 _ rfl, by rw [← jf _ _ 7 (by omega)]; exact hc 7 _ rfl, by rw [← jf _ _ 8 (by omega)]; exact hc 8 _ rfl, by rw [← jf _ _ 9 (by omega)]; exact hc 9 _ rfl, by rw [← jf _ _ 10 (by omega)]; exact hc 10 _ rfl, l7, g7⟩
structure S45 where
  f0 : Int
  f1 : Int
  f2 : Int
  f3 : Int
  f4 : Int
  f5 : Int
  f6 : (List S38)
def z45 : S45 := ⟨(0 : Int), (0 : Int), (0 : Int), (0 : Int), (0 : Int), (0 : Int), ([] : List S38)⟩
def k45 : Kd S45 := Kd.iso (Kd.pair (Kd.int .i64) (Kd.pair (Kd.int .i64) (Kd.pair (Kd.int .i64) (Kd.pair (Kd.int .i64) (Kd.pair (Kd.int .i64) (Kd.pair (Kd.int .i64) (Kd.slice 38 k38))))))) (fun x : S45 => (x.f0, x.f1, x.f2, x.f3, x.f4, x.f5, x.f6))
theorem za6 {w : World} {x : S45} {cs : List Value} (h : k45.K w x cs) : ∃ A6 c6, cs = [.int .i64 x.f0, .int .i64 x.f1, .int .i64 x.f2, .int .i64 x.f3, .int .i64 x.f4, .int .i64 x.f5, .slice A6 x.f6.length c6] ∧ x.f6.length ≤ c6 ∧ k38.C w A6 x.f6.length x.f6 := by
  obtain ⟨_, _, rfl, rfl, ⟨_, _, rfl, rfl, ⟨_, _, rfl, rfl, ⟨_, _, rfl, rfl, ⟨_, _, rfl, rfl, ⟨_, _, rfl, rfl, ⟨A6, c6, rfl, l6, g6⟩⟩⟩⟩⟩⟩⟩ := h
  exact ⟨A6, c6, rfl, l6, g6⟩
def yg (xs : List S45) (i : Int) : S45 := xs.getD i.toNat z45
theorem z48 {w : World} {A : Option Addr} {n : Nat} {xs : List S45} (h : Kd.C k45 w A n xs) (i : Int) (h0 : 0 ≤ i) (h1 : i < n) : ∃ ad A6 c6, A = some ad ∧ w.cell? (ad.add (i.toNat * 7)) = some (.int .i64 (yg xs i).f0) ∧ w.cell? ⟨(ad.add (i.toNat * 7)).block, (ad.add (i.toNat * 7)).off + 1, none⟩ = some (.int .i64 (yg xs i).f1) ∧ w.cell? ⟨(ad.add (i.toNat * 7)).block, (ad.add (i.toNat * 7)).off + 2, none⟩ = some (.int .i64 (yg xs i).f2) ∧ w.cell? ⟨(ad.add (i.toNat * 7)).block, (ad.add (i.toNat * 7)).off + 3, none⟩ = some (.int .i64 (yg xs i).f3) ∧ w.cell? ⟨(ad.add (i.toNat * 7)).block, (ad.add (i.toNat * 7)).off + 4, none⟩ = some (.int .i64 (yg xs i).f4) ∧ w.cell? ⟨(ad.add (i.toNat * 7)).block, (ad.add (i.toNat * 7)).off + 5, none⟩ = some (.int .i64 (yg xs i).f5) ∧ w.cell? ⟨(ad.add (i.toNat * 7)).block, (ad.add (i.toNat * 7)).off + 6, none⟩ = some (.slice A6 (yg xs i).f6.length c6) ∧ (yg xs i).f6.length ≤ c6 ∧ k38.C w A6 (yg xs i).f6.length (yg xs i).f6 := by
  obtain ⟨ad, c, e, _, hK, hc0⟩ := Kd.z89 h z45 i h0 h1
  have hc : ∀ j u, c[j]? = some u → w.cell? (ad.add (i.toNat * 7 + j)) = some u := hc0
  obtain ⟨A6, c6, rfl, l6, g6⟩ := za6 hK
  exact ⟨ad, A6, c6, e, hc 0 _ rfl, by rw [← jf _ _ 1 (by omega)]; exact hc 1 _ rfl, by rw [← jf _ _ 2 (by omega)]; exact hc 2 _ rfl, by rw [← jf _ _ 3 (by omega)]; exact hc 3 _ rfl, by rw [← jf _ _ 4 (by omega)]; exact hc 4 _ rfl, by rw [← jf _ _ 5 (by omega)]; exact hc 5 _ rfl, by rw [← jf _ _ 6 (by omega)]; exact hc 6 _ rfl, l6, g6⟩
def zd6 : Array Bool := #[false, false, false, false, false, false, false, false, false, false, false, false, false]
def zd7 : Array Bool := #[true, false, false, false, false, false, false, false, false, false, false, false, false]
def zd8 : Array Bool := #[true, false, false, true, false, false, false, false, false, false, false, false, false]
def zd9 : Array Bool := #[true, false, false, true, false, false, false, true, false, false, false, false, false]
def zda : Array Bool := #[true, true, false, true, false, false, false, true, false, false, false, false, false]
def zdb : Array Bool := #[true, true, false, true, true, false, false, true, false, false, false, false, false]
def zdc : Array Bool := #[true, true, false, true, true, true, false, true, false, false, false, false, false]
def zdd : Array Bool := #[true, true, false, true, true, true, false, true, true, false, false, false, false]
def zde : Array Bool := #[true, true, false, true, true, true, false, true, true, true, false, false, false]
def zdf : Array Bool := #[true, true, true, true, true, true, false, true, true, true, false, false, false]
def zc1 : Array Bool := #[true, true, true, true, true, true, true, true, true, true, false, false, false]
def zc2 : Array Bool := #[true, true, true, true, true, true, true, true, true, true, true, false, false]
def zc3 : Array Bool := #[true, true, true, true, true, true, true, true, true, true, true, true, false]
def zc4 : Array Bool := #[true, true, true, true, true, true, true, true, true, true, true, true, true]
def zdg : Array Bool := #[false, false, false, false, false, false, false, false, false, false, false, false, false, false, false, false, false, false]
def zdh : Array Bool := #[true, false, false, false, false, false, false, false, false, false, false, false, false, false, false, false, false, false]
def zdi : Array Bool := #[true, false, true, false, false, false, false, false, false, false, false, false, false, false, false, false, false, false]
def zdj : Array Bool := #[true, false, true, false, false, true, false, false, false, false, false, false, false, false, false, false, false, false]
def zdk : Array Bool := #[true, false, true, false, false, true, false, true, false, false, false, false, false, false, false, false, false, false]
def zdl : Array Bool := #[true, false, true, false, false, true, false, true, false, false, true, false, false, false, false, false, false, false]
def zdm : Array Bool := #[true, false, true, false, false, true, false, true, false, false, true, false, true, false, false, false, false, false]
def zdn : Array Bool := #[true, true, true, false, false, true, false, true, false, false, true, false, true, false, false, false, false, false]
def zdo : Array Bool := #[true, true, true, true, false, true, false, true, false, false, true, false, true, false, false, false, false, false]
def zdp : Array Bool := #[true, true, true, true, false, true, true, true, false, false, true, false, true, false, false, false, false, false]
def zc5 : Array Bool := #[true, true, true, true, false, true, true, true, true, false, true, false, true, false, false, false, false, false]
def zc6 : Array Bool := #[true, true, true, true, false, true, true, true, true, false, true, true, true, false, false, false, false, false]
def zc7 : Array Bool := #[true, true, true, true, false, true, true, true, true, false, true, true, true, true, false, false, false, false]
def zc8 : Array Bool := #[true, true, true, true, true, true, true, true, true, false, true, true, true, true, false, false, false, false]
def zc9 : Array Bool := #[true, true, true, true, true, true, true, true, true, true, true, true, true, true, false, false, false, false]
def zca : Array Bool := #[true, true, true, true, true, true, true, true, true, true, true, true, true, true, true, false, false, false]
def zcb : Array Bool := #[true, true, true, true, true, true, true, true, true, true, true, true, true, true, true, true, false, false]
def zcc : Array Bool := #[true, true, true, true, true, true, true, true, true, true, true, true, true, true, true, true, true, false]
def zcd : Array Bool := #[true, true, true, true, true, true, true, true, true, true, true, true, true, true, true, true, true, true]
def z4a : Array Bool := #[false, false, false, false, false, false, false, false, false, false, false, false, false, false, false, false, false, false, false, false, false, false, false, false, false, false, false, false]
def z4b : Array Bool := #[false, true, false, false, false, false, false, false, false, false, false, false, false, false, false, false, false, false, false, false, false, false, false, false, false, false, false, false]
def z4c : Array Bool := #[true, true, false, false, false, false, false, false, false, false, false, false, false, false, false, false, false, false, false, false, false, false, false, false, false, false, false, false]
def z4d : Array Bool := #[true, true, true, false, false, false, false, false, false, false, false, false, false, false, false, false, false, false, false, false, false, false, false, false, false, false, false, false]
def z4e : Array Bool := #[true, true, true, true, false, false, false, false, false, false, false, false, false, false, false, false, false, false, false, false, false, false, false, false, false, false, false, false]
def z4f : Array Bool := #[true, true, true, true, true, false, false, false, false, false, false, false, false, false, false, false, false, false, false, false, false, false, false, false, false, false, false, false]
def z4g : Array Bool := #[true, true, true, true, true, true, false, false, false, false, false, false, false, false, false, false, false, false, false, false, false, false, false, false, false, false, false, false]
def z4h : Array Bool := #[true, true, true, true, true, true, true, false, false, false, false, false, false, false, false, false, false, false, false, false, false, false, false, false, false, false, false, false]
def z4i : Array Bool := #[true, true, true, true, true, true, true, true, false, false, false, false, false, false, false, false, false, false, false, false, false, false, false, false, false, false, false, false]
def z4j : Array Bool := #[true, true, true, true, true, true, true, true, true, false, false, false, false, false, false, false, false, false, false, false, false, false, false, false, false, false, false, false]
def z2m : Array Bool := #[true, true, true, true, true, true, true, true, true, true, false, false, false, false, false, false, false, false, false, false, false, false, false, false, false, false, false, false]
def z2n : Array Bool := #[true, true, true, true, true, true, true, true, true, true, true, false, false, false, false, false, false, false, false, false, false, false, false, false, false, false, false, false]
def z2o : Array Bool := #[true, true, true, true, true, true, true, true, true, true, true, true, false, false, false, false, false, false, false, false, false, false, false, false, false, false, false, false]
def z2p : Array Bool := #[true, true, true, true, true, true, true, true, true, true, true, true, true, false, false, false, false, false, false, false, false, false, false, false, false, false, false, false]
def z2q : Array Bool := #[true, true, true, true, true, true, true, true, true, true, true, true, true, true, false, false, false, false, false, false, false, false, false, false, false, false, false, false]
def z2r : Array Bool := #[true, true, true, true, true, true, true, true, true, true, true, true, true, true, true, false, false, false, false, false, false, false, false, false, false, false, false, false]
def z2s : Array Bool := #[true, true, true, true, true, true, true, true, true, true, true, true, true, true, true, true, false, false, false, false, false, false, false, false, false, false, false, false]
def z2t : Array Bool := #[true, true, true, true, true, true, true, true, true, true, true, true, true, true, true, true, true, false, false, false, false, false, false, false, false, false, false, false]
def z2u : Array Bool := #[true, true, true, true, true, true, true, true, true, true, true, true, true, true, true, true, true, true, false, false, false, false, false, false, false, false, false, false]
def z4k : Array Bool := #[true, true, true, true, true, true, true, true, true, true, true, true, true, true, true, true, true, true, true, false, false, false, false, false, false, false, false, false]
def z4l : Array Bool := #[true, true, true, true, true, true, true, true, true, true, true, true, true, true, true, true, true, true, true, true, false, false, false, false, false, false, false, false]
def z2v : Array Bool := #[true, true, true, true, true, true, true, true, true, true, true, true, true, true, true, true, true, true, true, true, true, false, false, false, false, false, false, false]
def z2w : Array Bool := #[true, true, true, true, true, true, true, true, true, true, true, true, true, true, true, true, true, true, true, true, true, true, false, false, false, false, false, false]
def z2x : Array Bool := #[true, true, true, true, true, true, true, true, true, true, true, true, true, true, true, true, true, true, true, true, true, true, true, false, false, false, false, false]
def z2y : Array Bool := #[true, true, true, true, true, true, true, true, true, true, true, true, true, true, true, true, true, true, true, true, true, true, true, true, false, false, false, false]
def z2z : Array Bool := #[true, true, true, true, true, true, true, true, true, true, true, true, true, true, true, true, true, true, true, true, true, true, true, true, true, false, false, false]
def z30 : Array Bool := #[true, true, true, true, true, true, true, true, true, true, true, true, true, true, true, true, true, true, true, true, true, true, true, true, true, true, false, false]
def z34 : Array Bool := #[true, true, true, true, true, true, true, true, true, true, true, true, true, true, true, true, true, true, true, true, true, true, true, true, true, true, true, false]
def z39 : Array Bool := #[true, true, true, true, true, true, true, true, true, true, true, true, true, true, true, true, true, true, true, true, true, true, true, true, true, true, true, true]
def zce : Array Bool := #[true, true, true, true, true, true, true, true, true, true, true, true, true, true, true, true, true, true, false, true, false, false, false, false, false, false, false, false]
def zcf : Array Bool := #[true, true, true, true, true, true, true, true, true, true, true, true, true, true, true, true, true, true, false, true, true, false, false, false, false, false, false, false]
def zdq : Array Bool := #[false, false, false, false, false, false, false, false, false, false, false, false, false, false, false, false]
def zdr : Array Bool := #[true, false, false, false, false, false, false, false, false, false, false, false, false, false, false, false]
def zds : Array Bool := #[true, true, false, false, false, false, false, false, false, false, false, false, false, false, false, false]
def zdt : Array Bool := #[true, true, false, false, true, false, false, false, false, false, false, false, false, false, false, false]
def zdu : Array Bool := #[true, true, false, false, true, false, false, false, true, false, false, false, false, false, false, false]
def zdv : Array Bool := #[true, true, true, false, true, false, false, false, true, false, false, false, false, false, false, false]
def zdw : Array Bool := #[true, true, true, false, true, true, false, false, true, false, false, false, false, false, false, false]
def zdx : Array Bool := #[true, true, true, false, true, true, false, false, true, true, false, false, false, false, false, false]
def zdy : Array Bool := #[true, true, true, false, true, true, false, false, true, true, true, false, false, false, false, false]
def z5h : Array Bool := #[true, true, true, true, true, true, true, true, true, true, true, true, false, false, false, false]
def zcg : Array Bool := #[true, true, true, true, true, true, false, false, true, true, true, false, false, false, false, false]
def zch : Array Bool := #[true, true, true, false, true, true, false, false, true, true, true, true, false, false, false, false]
def zci : Array Bool := #[true, true, true, true, true, true, true, false, true, true, true, false, false, false, false, false]
def z8x : Array Bool := #[true, true, true, true, true, true, false, false, true, true, true, true, false, false, false, false]
def zcj : Array Bool := #[true, true, true, true, true, true, true, true, true, true, true, false, false, false, false, false]
def z8y : Array Bool := #[true, true, true, true, true, true, true, false, true, true, true, true, false, false, false, false]
def zck : Array Bool := #[true, true, true, true, true, true, true, true, true, true, true, true, true, false, false, false]
def zcl : Array Bool := #[true, true, true, true, true, true, true, true, true, true, true, true, true, true, false, false]
def zcm : Array Bool := #[true, true, true, true, true, true, true, true, true, true, true, true, true, true, true, false]
def zcn : Array Bool := #[true, true, true, true, true, true, true, true, true, true, true, true, true, true, true, true]
def z3f : Array Bool := #[false, false, false, false, false, false, false, false, false, false, false, false, false, false, false, false, false]
def z3g : Array Bool := #[true, false, false, false, false, false, false, false, false, false, false, false, false, false, false, false, false]
def z3h : Array Bool := #[true, false, true, false, false, false, false, false, false, false, false, false, false, false, false, false, false]
def z3i : Array Bool := #[true, false, true, false, true, false, false, false, false, false, false, false, false, false, false, false, false]
def z3j : Array Bool := #[true, true, true, false, true, false, false, false, false, false, false, false, false, false, false, false, false]
def z3k : Array Bool := #[true, true, true, false, true, false, false, false, false, false, false, false, true, false, false, false, false]
def z3l : Array Bool := #[true, true, true, true, true, false, false, false, false, false, false, false, true, false, false, false, false]
def z3m : Array Bool := #[true, true, true, true, true, true, false, false, false, false, false, false, true, false, false, false, false]
def z3n : Array Bool := #[true, true, true, true, true, true, true, false, false, false, false, false, true, false, false, false, false]
def z3o : Array Bool := #[true, true, true, true, true, true, true, true, false, false, false, false, true, false, false, false, false]
def z1w : Array Bool := #[true, true, true, true, true, true, true, true, true, false, false, false, true, false, false, false, false]
def z1x : Array Bool := #[true, true, true, true, true, true, true, true, true, true, false, false, true, false, false, false, false]
def z1y : Array Bool := #[true, true, true, true, true, true, true, true, true, true, true, false, true, false, false, false, false]
def z1z : Array Bool := #[true, true, true, true, true, true, true, true, true, true, true, true, true, false, false, false, false]
def z22 : Array Bool := #[true, true, true, true, true, true, true, true, true, true, true, true, true, true, false, false, false]
def z25 : Array Bool := #[true, true, true, true, true, true, true, true, true, true, true, true, true, true, true, false, false]
def z27 : Array Bool := #[true, true, true, true, true, true, true, true, true, true, true, true, true, true, true, true, false]
def z29 : Array Bool := #[true, true, true, true, true, true, true, true, true, true, true, true, true, true, true, true, true]
def z8z : Array Bool := #[false, false, false, false, false, false, false, false, false, false, false, false, false, false]
def z90 : Array Bool := #[true, false, false, false, false, false, false, false, false, false, false, false, false, false]
def z92 : Array Bool := #[true, false, true, false, false, false, false, false, false, false, false, false, false, false]
def z94 : Array Bool := #[true, true, true, false, false, false, false, false, false, false, false, false, false, false]
def z95 : Array Bool := #[true, true, true, false, false, false, false, false, false, false, false, true, false, false]
def z96 : Array Bool := #[true, true, true, true, false, false, false, false, false, false, false, true, false, false]
def z97 : Array Bool := #[true, true, true, true, true, false, false, false, false, false, false, true, false, false]
def z98 : Array Bool := #[true, true, true, true, true, true, false, false, false, false, false, true, false, false]
def z99 : Array Bool := #[true, true, true, true, true, true, true, false, false, false, false, true, false, false]
def z9a : Array Bool := #[true, true, true, true, true, true, true, true, false, false, false, true, false, false]
def z9b : Array Bool := #[true, true, true, true, true, true, true, true, true, false, false, true, false, false]
def z9c : Array Bool := #[true, true, true, true, true, true, true, true, true, true, false, true, false, false]
def z9d : Array Bool := #[true, true, true, true, true, true, true, true, true, true, true, true, false, false]
def z9e : Array Bool := #[true, true, true, true, true, true, true, true, true, true, true, true, true, false]
def z9f : Array Bool := #[true, true, true, true, true, true, true, true, true, true, true, true, true, true]
def z5v : Array Bool := #[false, false, false, false, false, false, false, false, false, false, false, false, false, false, false, false, false, false, false, false, false, false, false, false, false, false, false, false]
def z5w : Array Bool := #[true, false, false, false, false, false, false, false, false, false, false, false, false, false, false, false, false, false, false, false, false, false, false, false, false, false, false, false]
def z5x : Array Bool := #[true, false, true, false, false, false, false, false, false, false, false, false, false, false, false, false, false, false, false, false, false, false, false, false, false, false, false, false]
def z5y : Array Bool := #[true, false, true, false, true, false, false, false, false, false, false, false, false, false, false, false, false, false, false, false, false, false, false, false, false, false, false, false]
def z5z : Array Bool := #[true, false, true, false, true, false, true, false, false, false, false, false, false, false, false, false, false, false, false, false, false, false, false, false, false, false, false, false]
def z61 : Array Bool := #[true, false, true, false, true, false, true, false, true, false, false, false, false, false, false, false, false, false, false, false, false, false, false, false, false, false, false, false]
def z62 : Array Bool := #[true, true, true, false, true, false, true, false, true, false, false, false, false, false, false, false, false, false, false, false, false, false, false, false, false, false, false, false]
def z63 : Array Bool := #[true, true, true, false, true, false, true, false, true, false, false, false, false, false, false, false, false, false, false, false, false, true, false, false, false, false, false, false]
def z65 : Array Bool := #[true, true, true, true, true, false, true, false, true, false, false, false, false, false, false, false, false, false, false, false, false, true, false, false, false, false, false, false]
def z68 : Array Bool := #[true, true, true, true, true, true, true, false, true, false, false, false, false, false, false, false, false, false, false, false, false, true, false, false, false, false, false, false]
def z69 : Array Bool := #[true, true, true, true, true, true, true, true, true, false, false, false, false, false, false, false, false, false, false, false, false, true, false, false, false, false, false, false]
def z6a : Array Bool := #[true, true, true, true, true, true, true, true, true, true, false, false, false, false, false, false, false, false, false, false, false, true, false, false, false, false, false, false]
def z6b : Array Bool := #[true, true, true, true, true, true, true, true, true, true, true, false, false, false, false, false, false, false, false, false, false, true, false, false, false, false, false, false]
def z6c : Array Bool := #[true, true, true, true, true, true, true, true, true, true, true, true, false, false, false, false, false, false, false, false, false, true, false, false, false, false, false, false]
def z6d : Array Bool := #[true, true, true, true, true, true, true, true, true, true, true, true, true, false, false, false, false, false, false, false, false, true, false, false, false, false, false, false]
def z6e : Array Bool := #[true, true, true, true, true, true, true, true, true, true, true, true, true, true, false, false, false, false, false, false, false, true, false, false, false, false, false, false]
def z6f : Array Bool := #[true, true, true, true, true, true, true, true, true, true, true, true, true, true, true, false, false, false, false, false, false, true, false, false, false, false, false, false]
def z6g : Array Bool := #[true, true, true, true, true, true, true, true, true, true, true, true, true, true, true, true, false, false, false, false, false, true, false, false, false, false, false, false]
def z6h : Array Bool := #[true, true, true, true, true, true, true, true, true, true, true, true, true, true, true, true, true, false, false, false, false, true, false, false, false, false, false, false]
def z6i : Array Bool := #[true, true, true, true, true, true, true, true, true, true, true, true, true, true, true, true, true, true, false, false, false, true, false, false, false, false, false, false]
def z6j : Array Bool := #[true, true, true, true, true, true, true, true, true, true, true, true, true, true, true, true, true, true, true, false, false, true, false, false, false, false, false, false]
def z6k : Array Bool := #[true, true, true, true, true, true, true, true, true, true, true, true, true, true, true, true, true, true, true, true, false, true, false, false, false, false, false, false]
def z6l : Array Bool := #[true, true, true, true, true, true, true, true, true, true, true, true, true, true, true, true, true, true, true, true, true, true, false, false, false, false, false, false]
def z6m : Array Bool := #[true, true, true, true, true, true, true, true, true, true, true, true, true, true, true, true, true, true, true, true, true, true, true, false, false, false, false, false]
def z6n : Array Bool := #[true, true, true, true, true, true, true, true, true, true, true, true, true, true, true, true, true, true, true, true, true, true, true, true, false, false, false, false]
def z6o : Array Bool := #[true, true, true, true, true, true, true, true, true, true, true, true, true, true, true, true, true, true, true, true, true, true, true, true, true, false, false, false]
def z6p : Array Bool := #[true, true, true, true, true, true, true, true, true, true, true, true, true, true, true, true, true, true, true, true, true, true, true, true, true, true, false, false]
def z6q : Array Bool := #[true, true, true, true, true, true, true, true, true, true, true, true, true, true, true, true, true, true, true, true, true, true, true, true, true, true, true, false]
def z6r : Array Bool := #[true, true, true, true, true, true, true, true, true, true, true, true, true, true, true, true, true, true, true, true, true, true, true, true, true, true, true, true]
def zam : Array Bool := #[false, false, false, false, false, false, false, false, false, false]
def zan : Array Bool := #[true, false, false, false, false, false, false, false, false, false]
def zao : Array Bool := #[true, true, false, false, false, false, false, false, false, false]
def zap : Array Bool := #[true, true, true, false, false, false, false, false, false, false]
def zaq : Array Bool := #[true, true, true, false, true, false, false, false, false, false]
def zar : Array Bool := #[true, true, true, false, true, true, false, false, false, false]
def zas : Array Bool := #[true, true, true, false, true, true, true, false, false, false]
def zat : Array Bool := #[true, true, true, true, true, true, true, false, false, false]
def zau : Array Bool := #[true, true, true, true, true, true, true, true, false, false]
def zav : Array Bool := #[true, true, true, true, true, true, true, true, true, false]
def z9g : Array Bool := #[true, true, true, true, true, true, true, true, true, true]
def zco : Array Bool := #[false, false, false, false, false, false, false, false, false, false, false, false, false, false, false, false, false, false]
def zcp : Array Bool := #[true, false, false, false, false, false, false, false, false, false, false, false, false, false, false, false, false, false]
def zcq : Array Bool := #[true, true, false, false, false, false, false, false, false, false, false, false, false, false, false, false, false, false]
def zcr : Array Bool := #[true, true, true, false, false, false, false, false, false, false, false, false, false, false, false, false, false, false]
def zcs : Array Bool := #[true, true, true, true, false, false, false, false, false, false, false, false, false, false, false, false, false, false]
def zeg : Array Bool := #[true, true, true, true, false, true, false, false, false, false, false, false, false, false, false, false, false, false]
def zeh : Array Bool := #[true, true, true, true, false, true, true, false, false, false, false, false, false, false, false, false, false, false]
def zei : Array Bool := #[true, true, true, true, false, true, true, false, true, false, false, false, false, false, false, false, false, false]
def zej : Array Bool := #[true, true, true, true, true, true, true, false, true, false, false, false, false, false, false, false, false, false]
def zct : Array Bool := #[true, true, true, true, true, true, true, true, true, false, false, false, false, false, false, false, false, false]
def zdz : Array Bool := #[true, true, true, true, true, true, true, true, true, true, false, false, false, false, false, false, false, false]
def ze0 : Array Bool := #[true, true, true, true, true, true, true, true, true, true, true, false, false, false, false, false, false, false]
def ze1 : Array Bool := #[true, true, true, true, true, true, true, true, true, true, true, true, false, false, false, false, false, false]
def zaw : Array Bool := #[true, true, true, true, true, true, true, true, true, true, true, true, true, false, false, false, false, false]
def zax : Array Bool := #[true, true, true, true, true, true, true, true, true, true, true, true, true, true, false, false, false, false]
def zay : Array Bool := #[true, true, true, true, true, true, true, true, true, true, true, true, true, true, true, false, false, false]
def zaz : Array Bool := #[true, true, true, true, true, true, true, true, true, true, true, true, true, true, true, true, false, false]
def zb0 : Array Bool := #[true, true, true, true, true, true, true, true, true, true, true, true, true, true, true, true, true, false]
def zb1 : Array Bool := #[true, true, true, true, true, true, true, true, true, true, true, true, true, true, true, true, true, true]
def ze2 : Array Bool := #[true, true, true, true, true, false, false, false, false, false, false, false, false, false, false, false, false, false]
def ze3 : Array Bool := #[true, true, true, true, true, true, false, false, false, false, false, false, false, false, false, false, false, false]
def ze4 : Array Bool := #[true, true, true, true, true, true, true, false, false, false, false, false, false, false, false, false, false, false]
def ze5 : Array Bool := #[true, true, true, true, true, true, true, true, false, false, false, false, false, false, false, false, false, false]
def ze6 : Array Bool := #[true, true, true, true, true, true, true, true, true, false, true, false, false, false, false, false, false, false]
def ze7 : Array Bool := #[true, true, true, true, true, true, true, true, true, false, true, false, true, false, false, false, false, false]
def ze8 : Array Bool := #[true, true, true, true, true, true, true, true, true, true, true, false, true, false, false, false, false, false]
end Go.Proofs.Ytadfohbogoocgaa.PA
