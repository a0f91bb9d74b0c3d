/- The law lectionary/lectionarylaw3.TextExact of the given program returns true for every input that can be read; the input reads behind the call as before. No conditions of mine. -/
import Derived.Test.YtcjedinpiedhcaaDoorRows
import Derived.Test.YtcjedinpiedhcaaDoorPEx
import Derived.Test.YtcjedinpiedhcaaDoorTextExact
import Derived.Test.YtcjedinpiedhcaaDoorOpen
import Derived.Test.YtcjedinpiedhcaaDoorDoorLaidE
import Derived.Handed
import Derived.WalkKit
import Derived.ProofKit
import Derived.OpenShut
import Derived.ShutString
import Derived.ChangeOld
import Derived.Below
import Derived.SizedLaws
namespace Go.Proofs.YtcjedinpiedhcaaDoor.textExact
open Go.ChangeShapes Go.WideShapes Go.ChangeAt Go.RowKit
open Go.ChangeMaps (open_string shut_string)
open Go.Proofs.YtcjedinpiedhcaaDoorW.PrintWords Go.Proofs.YtcjedinpiedhcaaDoorOpen Go.Proofs.YtcjedinpiedhcaaDoor.PE
set_option linter.unusedVariables false
theorem own : ownKnob Tryd.prog.godebug = none := by kernel_rfl
theorem laidOut : laidOutB Tryd.prog = true := by kernel_rfl
theorem open9 : Opens Tryd.prog 9 Kd.string (fun x => x.size ≤ 140737488351232) := opens_string Tryd.underlying9
theorem open22 : Opens Tryd.prog 22 (Kd.slice 9 Kd.string) (fun x => (x.length * 16 ≤ 140737488351232 ∧ ∀ x0 ∈ x, x0.size ≤ 140737488351232)) := opens_slice Tryd.underlying22 (by kernel_rfl) (by kernel_rfl) open9
theorem open21 : Opens Tryd.prog 21 (Kd.int .i32) (fun x => (Lit.int .i32 x).wf = true) := opens_int Tryd.underlying21
theorem open23 : Opens Tryd.prog 23 (Kd.slice 21 (Kd.int .i32)) (fun x => (x.length * 4 ≤ 140737488351232 ∧ ∀ x0 ∈ x, (Lit.int .i32 x0).wf = true)) := opens_slice Tryd.underlying23 (by kernel_rfl) (by kernel_rfl) open21
theorem open3 : Opens Tryd.prog 3 (Kd.int .i64) (fun x => (Lit.int .i64 x).wf = true) := opens_int Tryd.underlying3
theorem open24 : Opens Tryd.prog 24 (Kd.slice 3 (Kd.int .i64)) (fun x => (x.length * 8 ≤ 140737488351232 ∧ ∀ x0 ∈ x, (Lit.int .i64 x0).wf = true)) := opens_slice Tryd.underlying24 (by kernel_rfl) (by kernel_rfl) open3
theorem open26 : Opens Tryd.prog 26 (Kd.iso (Kd.pair (Kd.slice 9 Kd.string) (Kd.pair (Kd.slice 21 (Kd.int .i32)) (Kd.slice 3 (Kd.int .i64)))) id) (fun x => ((x.1.length * 16 ≤ 140737488351232 ∧ ∀ x1 ∈ x.1, x1.size ≤ 140737488351232) ∧ ((x.2.1.length * 4 ≤ 140737488351232 ∧ ∀ x2 ∈ x.2.1, (Lit.int .i32 x2).wf = true) ∧ (x.2.2.length * 8 ≤ 140737488351232 ∧ ∀ x2 ∈ x.2.2, (Lit.int .i64 x2).wf = true)))) := opens_struct (d := (Kd.pair (Kd.slice 9 Kd.string) (Kd.pair (Kd.slice 21 (Kd.int .i32)) (Kd.slice 3 (Kd.int .i64))))) (B := fun x => ((x.1.length * 16 ≤ 140737488351232 ∧ ∀ x1 ∈ x.1, x1.size ≤ 140737488351232) ∧ ((x.2.1.length * 4 ≤ 140737488351232 ∧ ∀ x2 ∈ x.2.1, (Lit.int .i32 x2).wf = true) ∧ (x.2.2.length * 8 ≤ 140737488351232 ∧ ∀ x2 ∈ x.2.2, (Lit.int .i64 x2).wf = true)))) id id (fun _ h_ => h_) (fun _ => rfl) Tryd.underlying26 (by kernel_rfl) (opensFs_cons (C := fun x => ((x.1.length * 4 ≤ 140737488351232 ∧ ∀ x1 ∈ x.1, (Lit.int .i32 x1).wf = true) ∧ (x.2.length * 8 ≤ 140737488351232 ∧ ∀ x1 ∈ x.2, (Lit.int .i64 x1).wf = true))) (fun _ h1_ h2_ => ⟨h1_, h2_⟩) open22 rfl (by kernel_rfl) (off' := 1) rfl (opensFs_cons (C := fun x => (x.length * 8 ≤ 140737488351232 ∧ ∀ x0 ∈ x, (Lit.int .i64 x0).wf = true)) (fun _ h1_ h2_ => ⟨h1_, h2_⟩) open23 rfl (by kernel_rfl) (off' := 2) rfl (opensFs_one open24 rfl (by kernel_rfl))))
set_option maxRecDepth 100000 in
theorem lifted (os : Os) (started : os.Started) (H : Type) (enc : TypeId × Value → H) :
    ReturnsInHanded {} Tryd.checked os 4 .any (fun w args => (Rows.textExactSpec.pre enc Tryd.prog Tryd.f4 [] false w args ∧ laidMetH Tryd.prog DoorLaidE.lst w) ∧ sizedMet enc Tryd.prog Tryd.f4 (OpenSpec.ofChange Rows.textExactSpec) false w args) (Rows.textExactSpec.post enc Tryd.prog Tryd.f4 false true false false) := by
  refine returnsInHanded_of_change_and (C := Tryd.checked) (X := fun w _ => laidMetH Tryd.prog DoorLaidE.lst w) (fun _ _ _ hh h => h.of_heap hh) own started (by kernel_rfl) Tryd.func4
    (ChangeSpec.witness_shaped (enc := enc) (C := Tryd.checked) (os := os) (X := fun w _ => laidMetH Tryd.prog DoorLaidE.lst w) false (DoorLaidE.laidW os) #[.agg #[.slice none 0 0, .slice none 0 0, .slice none 0 0]] 8 rfl (DoorLaidE.shaped os _) (by kernel_rfl) (by kernel_rfl) (by kernel_rfl) (DoorLaidE.met os _)) ?_
  intro W base args ds gs before hval0 hW hcnd hsz0 hL _
  have hsz : (DataW.weightsEach Tryd.prog (Tryd.f4.params.toList ++ Rows.textExactSpec.plain.varTypes Tryd.prog) (ds ++ gs)).all (· ≤ reachBytes) = true := hsz0
  have hval : ∀ (j : Nat) t v, Tryd.f4.params[j]? = some t → args[j]? = some v → Value.okWide Tryd.prog W .any base t v := hval0
  have hW' := hW
  obtain ⟨p, q, hA0, hV, rfl, hfz, hnd⟩ := hW
  have hA : DataW.TrodAll enc Tryd.prog W 0 (fun _ => true) true Tryd.f4.params.toList args.toList ds p := hA0
  rw [Tryd.params4] at hA hval hsz
  obtain ⟨v0, vs0, d0, ds0, p0, q0, hargs, rfl, rfl, h0, r0⟩ := trodAll_cons hA
  obtain ⟨rfl, rfl, rfl⟩ := trodAll_nil r0
  obtain rfl : args = #[v0] := by cases args; simp_all
  obtain ⟨rfl, rfl⟩ := trodVars_none hV
  have k0 := h0
  have lt0 : ∀ x ∈ p0, x.block < W.heap.size := by obtain ⟨m, hm⟩ := k0; exact DataW.trod_lt m _ _ _ hm
  obtain ⟨cs0, rfl, hcs0⟩ := okWide_struct Tryd.underlying26 (hval 0 26 v0 rfl rfl)
  obtain ⟨x0, hK, hB⟩ := open26.arg h0 hsz (j := 0) (t := 26) rfl rfl
  obtain ⟨l0_0, l0_1, l0_2⟩ := x0
  have hk : ∃ A0_0 c0_0 A0_1 c0_1 A0_2 c0_2, cs0.toList = [.slice A0_0 (l0_0).length c0_0, .slice A0_1 (l0_1).length c0_1, .slice A0_2 (l0_2).length c0_2] ∧ (l0_0).length ≤ c0_0 ∧ Kd.C Kd.string W A0_0 (l0_0).length (l0_0) ∧ (l0_1).length ≤ c0_1 ∧ Kd.C (Kd.int .i32) W A0_1 (l0_1).length (l0_1) ∧ (l0_2).length ≤ c0_2 ∧ Kd.C (Kd.int .i64) W A0_2 (l0_2).length (l0_2) := by
    generalize hcs : (Value.agg cs0).cells.toList = cs at hK
    have hcs' : cs0.toList = cs := hcs
    clear hcs
    obtain ⟨_, _, rfl, g0_0, m0_0⟩ := hK
    obtain ⟨A0_0, c0_0, rfl, hl0_0, hr0_0⟩ := g0_0
    obtain ⟨_, _, rfl, g0_1, m0_1⟩ := m0_0
    obtain ⟨A0_1, c0_1, rfl, hl0_1, hr0_1⟩ := g0_1
    obtain ⟨A0_2, c0_2, rfl, hl0_2, hr0_2⟩ := m0_1
    exact ⟨A0_0, c0_0, A0_1, c0_1, A0_2, c0_2, hcs', hl0_0, hr0_0, hl0_1, hr0_1, hl0_2, hr0_2⟩
  obtain ⟨A0_0, c0_0, A0_1, c0_1, A0_2, c0_2, hcs, hl0_0, hr0_0, hl0_1, hr0_1, hl0_2, hr0_2⟩ := hk
  obtain rfl : cs0 = #[.slice A0_0 (l0_0).length c0_0, .slice A0_1 (l0_1).length c0_1, .slice A0_2 (l0_2).length c0_2] := by cases cs0; simpa using hcs
  obtain ⟨k, hpure⟩ := Pure.TextExact (l0_0) (l0_1) (l0_2) hB.1 hB.2.1 hB.2.2
  clear hA0 hval0 hsz0 hsz
  refine (lectionarylaw3_TextExact.calls k A0_0 c0_0 (l0_0) A0_1 c0_1 (l0_1) A0_2 c0_2 (l0_2) true W hr0_0 hl0_0 hr0_1 hl0_1 hr0_2 hl0_2 hpure (hT := DoorLaidE.ut hL)).mono fun e W' hq => ?_
  obtain ⟨rfl, hq⟩ := hq
  have bel : Below W.heap.size W W' := hq
  exact ⟨_, rfl, _, _, _, [], _, [], hW', trodAll_mk1 (shut_bool Tryd.underlying4 _), (trodAll_cons_mk (Below.trod laidOut (by kernel_rfl) (of_decide_eq_true (by kernel_rfl)) k0 bel lt0) trodAll_mk0), rfl, bel.frame _, fun h => by cases h⟩
theorem over : Rows.textExactRow.holds Tryd.pinned (OpenSpec.ofChange Rows.textExactSpec) :=
  OpenClaim.holds_of_wide 4 Tryd.f4 rfl rfl rfl rfl rfl rfl rfl ⟨rfl, rfl, rfl, rfl, rfl⟩ rfl rfl rfl rfl rfl (by kernel_rfl) Tryd.func4 (by kernel_rfl)
    (of_decide_eq_true (by kernel_rfl)) (by unfold Func.isWrapper; first | (rw [if_pos (by decide +kernel)]; kernel_rfl) | (rw [if_neg (by decide +kernel)]; exact ⟨rfl, rfl⟩))
    (fun os started H enc _ => lifted os started H enc)
theorem proved : Rows.TextExactSaid := over
#print axioms proved
end Go.Proofs.YtcjedinpiedhcaaDoor.textExact
namespace Go.Proofs.YtcjedinpiedhcaaDoor
/-- The row, under a short name, for the claim. -/
theorem textExact_holds : Rows.TextExactSaid := textExact.proved
end Go.Proofs.YtcjedinpiedhcaaDoor
