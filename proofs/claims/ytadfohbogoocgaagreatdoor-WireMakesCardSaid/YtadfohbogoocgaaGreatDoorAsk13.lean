/- A part of the proof: what the program does, step by step, over values without addresses. No conditions of mine. -/
import Derived.Test.YtadfohbogoocgaaGreatDoorAsk
import Derived.Test.YtadfohbogoocgaaGreatDoorN40
set_option linter.unusedVariables false
set_option linter.unusedSimpArgs false
namespace Go.Ai
open Go Go.RowKit Go.Proofs Go.Sp
set_option maxRecDepth 10000
set_option maxHeartbeats 4000000
set_option linter.unusedVariables false
theorem openBool : Opens Tryz.prog 4 (fun b => [vo b]) (fun _ => True) := opens_bool Tryz.underlying4
theorem kC_ok (k : K) : ∀ c ∈ kC k, cellOk c = true ∧ clo0 c = true := by
  intro c hc; simp only [kC, List.mem_cons, List.not_mem_nil, or_false] at hc; rcases hc with rfl | rfl | rfl | rfl <;> exact ⟨rfl, rfl⟩
/-- Bounds of what is read. -/
structure GK (k : K) : Prop where
  a : (Lit.int .i64 k.f0).wf = true
  b : (Lit.int .i64 k.f1).wf = true
  s : k.f2.size ≤ 140737488351232
theorem openK : Opens Tryz.prog 40 kC GK := opens_struct (enc := fun x : Int × Int × ByteArray × Bool => [vi x.1] ++ ([vi x.2.1] ++ ([vs x.2.2.1] ++ ([vo x.2.2.2])))) (B := fun x : Int × Int × ByteArray × Bool => (Lit.int .i64 x.1).wf = true ∧ ((Lit.int .i64 x.2.1).wf = true ∧ (x.2.2.1.size ≤ 140737488351232 ∧ (True)))) (fun x : Int × Int × ByteArray × Bool => ⟨x.1, x.2.1, x.2.2.1, x.2.2.2⟩) (fun _ => rfl) (fun x h => ⟨h.1, h.2.1, h.2.2.1⟩) Tryz.underlying40 (by kernel_rfl) (opensFs_cons (sz := 1) (enc := fun x : Int => [vi x]) (enc' := fun x : Int × ByteArray × Bool => [vi x.1] ++ ([vs x.2.1] ++ ([vo x.2.2]))) (B := fun x : Int => (Lit.int .i64 x).wf = true) (C := fun x : Int × ByteArray × Bool => (Lit.int .i64 x.1).wf = true ∧ (x.2.1.size ≤ 140737488351232 ∧ (True))) openInt rfl (by kernel_rfl) (off' := 1) rfl (opensFs_cons (sz := 1) (enc := fun x : Int => [vi x]) (enc' := fun x : ByteArray × Bool => [vs x.1] ++ ([vo x.2])) (B := fun x : Int => (Lit.int .i64 x).wf = true) (C := fun x : ByteArray × Bool => x.1.size ≤ 140737488351232 ∧ (True)) openInt rfl (by kernel_rfl) (off' := 2) rfl (opensFs_cons (sz := 1) (enc := fun x : ByteArray => [vs x]) (enc' := fun x : Bool => [vo x]) (B := fun x : ByteArray => x.size ≤ 140737488351232) (C := fun x : Bool => True) openStr rfl (by kernel_rfl) (off' := 3) rfl (opensFs_one (sz := 1) openBool rfl (by kernel_rfl)))))
theorem openKs : Opens Tryz.prog 51 (fun l : List K => [.isl 4 (l.map kC)]) (fun l => l.length * 40 ≤ 140737488351232 ∧ ∀ x ∈ l, GK x) := opens_slice Tryz.underlying51 (by kernel_rfl) (by kernel_rfl) (by decide) (fun _ => rfl) kC_ok openK
theorem openNets : Opens Tryz.prog 31 (fun l : List (List K) => [.isl 1 (l.map fun l => [V.isl 4 (l.map kC)])]) (fun l => l.length * 24 ≤ 140737488351232 ∧ ∀ x ∈ l, (x.length * 40 ≤ 140737488351232 ∧ ∀ y ∈ x, GK y)) := opens_slice Tryz.underlying31 (by kernel_rfl) (by kernel_rfl) (by decide) (fun _ => rfl) (fun l => cell1_ok (.isl 4 (l.map kC)) ⟨rfl, rfl⟩) openKs
/-- The laws' parameter. -/
structure A13 where
  M : A12
  L : List (List K)
  N : List Int
def a13C (p : A13) : List V := [.isl 11 (p.M.O.O.map oC), .isl 3 (p.M.O.E.map eC), .isl 1 (p.M.O.N.map fun n => [vi n]), .isl 7 (p.M.M.map mC), .isl 1 (p.M.S.map fun s => [vs s]), .isl 1 (p.L.map fun l => [V.isl 4 (l.map kC)]), .isl 1 (p.N.map fun n => [vi n])]
structure G13 (p : A13) : Prop where
  m : G12 p.M
  l : p.L.length * 24 ≤ 140737488351232 ∧ ∀ l ∈ p.L, (l.length * 40 ≤ 140737488351232 ∧ ∀ x ∈ l, GK x)
  n : p.N.length * 8 ≤ 140737488351232 ∧ ∀ x ∈ p.N, (Lit.int .i64 x).wf = true
theorem openA13 : Opens Tryz.prog 33 a13C G13 := opens_struct (enc := fun x : A12 × List (List K) × List Int => a12C x.1 ++ ([V.isl 1 (List.map (fun l => [V.isl 4 (List.map kC l)]) x.2.1)] ++ ([V.isl 1 (List.map (fun n => [vi n]) x.2.2)]))) (B := fun x : A12 × List (List K) × List Int => G12 x.1 ∧ ((x.2.1.length * 24 ≤ 140737488351232 ∧ ∀ l ∈ x.2.1, (l.length * 40 ≤ 140737488351232 ∧ ∀ x ∈ l, GK x)) ∧ ((x.2.2.length * 8 ≤ 140737488351232 ∧ ∀ y ∈ x.2.2, (Lit.int .i64 y).wf = true)))) (fun x : A12 × List (List K) × List Int => ⟨x.1, x.2.1, x.2.2⟩) (fun _ => rfl) (fun x h => ⟨h.1, h.2.1, h.2.2⟩) Tryz.underlying33 (by kernel_rfl) (opensFs_cons (sz := 5) (enc := fun x : A12 => a12C x) (enc' := fun x : List (List K) × List Int => [V.isl 1 (List.map (fun l => [V.isl 4 (List.map kC l)]) x.1)] ++ ([V.isl 1 (List.map (fun n => [vi n]) x.2)])) (B := fun x : A12 => G12 x) (C := fun x : List (List K) × List Int => (x.1.length * 24 ≤ 140737488351232 ∧ ∀ l ∈ x.1, (l.length * 40 ≤ 140737488351232 ∧ ∀ x ∈ l, GK x)) ∧ ((x.2.length * 8 ≤ 140737488351232 ∧ ∀ y ∈ x.2, (Lit.int .i64 y).wf = true))) openA12 rfl (by kernel_rfl) (off' := 5) rfl (opensFs_cons (sz := 1) (enc := fun x : List (List K) => [V.isl 1 (List.map (fun l => [V.isl 4 (List.map kC l)]) x)]) (enc' := fun x : List Int => [V.isl 1 (List.map (fun n => [vi n]) x)]) (B := fun x : List (List K) => (x.length * 24 ≤ 140737488351232 ∧ ∀ l ∈ x, (l.length * 40 ≤ 140737488351232 ∧ ∀ x ∈ l, GK x))) (C := fun x : List Int => (x.length * 8 ≤ 140737488351232 ∧ ∀ y ∈ x, (Lit.int .i64 y).wf = true)) openNets rfl (by kernel_rfl) (off' := 6) rfl (opensFs_one (sz := 1) openInts rfl (by kernel_rfl))))
end Go.Ai
