/- The law lectionary/lectionarylaw2.SealBack of the given program returns true for every input that can be read; the input reads behind the call as before. No conditions of mine. -/
import Derived.Test.YtcjedinpiedhcaaRows
import Derived.Test.YtcjedinpiedhcaaPSx
import Derived.Test.YtcjedinpiedhcaaSealBack
import Derived.Test.YtcjedinpiedhcaaOpen
import Derived.WalkKit
import Derived.ProofKit
import Derived.OpenShut
import Derived.ShutString
import Derived.ChangeOld
import Derived.Below
import Derived.SizedLaws
namespace Go.Proofs.Ytcjedinpiedhcaa.sealBack
open Go.ChangeShapes Go.WideShapes Go.ChangeAt Go.RowKit
open Go.ChangeMaps (open_string shut_string)
open Go.Proofs.YtcjedinpiedhcaaW.PrintWords Go.Proofs.YtcjedinpiedhcaaOpen Go.Proofs.Ytcjedinpiedhcaa.PS
set_option linter.unusedVariables false
theorem own : ownKnob Try.prog.godebug = none := by kernel_rfl
theorem laidOut : laidOutB Try.prog = true := by kernel_rfl
theorem open3 : Opens Try.prog 3 (Kd.int .i64) (fun x => (Lit.int .i64 x).wf = true) := opens_int Try.underlying3
theorem open22 : Opens Try.prog 22 (Kd.slice 3 (Kd.int .i64)) (fun x => (x.length * 8 ≤ 140737488351232 ∧ ∀ x0 ∈ x, (Lit.int .i64 x0).wf = true)) := opens_slice Try.underlying22 (by kernel_rfl) (by kernel_rfl) open3
theorem open9 : Opens Try.prog 9 Kd.string (fun x => x.size ≤ 140737488351232) := opens_string Try.underlying9
theorem open23 : Opens Try.prog 23 (Kd.slice 9 Kd.string) (fun x => (x.length * 16 ≤ 140737488351232 ∧ ∀ x0 ∈ x, x0.size ≤ 140737488351232)) := opens_slice Try.underlying23 (by kernel_rfl) (by kernel_rfl) open9
theorem open25 : Opens Try.prog 25 (Kd.iso (Kd.pair (Kd.slice 3 (Kd.int .i64)) (Kd.slice 9 Kd.string)) id) (fun x => ((x.1.length * 8 ≤ 140737488351232 ∧ ∀ x1 ∈ x.1, (Lit.int .i64 x1).wf = true) ∧ (x.2.length * 16 ≤ 140737488351232 ∧ ∀ x1 ∈ x.2, x1.size ≤ 140737488351232))) := opens_struct (d := (Kd.pair (Kd.slice 3 (Kd.int .i64)) (Kd.slice 9 Kd.string))) (B := fun x => ((x.1.length * 8 ≤ 140737488351232 ∧ ∀ x1 ∈ x.1, (Lit.int .i64 x1).wf = true) ∧ (x.2.length * 16 ≤ 140737488351232 ∧ ∀ x1 ∈ x.2, x1.size ≤ 140737488351232))) id id (fun _ h_ => h_) (fun _ => rfl) Try.underlying25 (by kernel_rfl) (opensFs_cons (C := fun x => (x.length * 16 ≤ 140737488351232 ∧ ∀ x0 ∈ x, x0.size ≤ 140737488351232)) (fun _ h1_ h2_ => ⟨h1_, h2_⟩) open22 rfl (by kernel_rfl) (off' := 1) rfl (opensFs_one open23 rfl (by kernel_rfl)))
set_option maxRecDepth 100000 in
theorem lifted (os : Os) (started : os.Started) (H : Type) (enc : TypeId × Value → H) :
    ReturnsInHanded {} Try.checked os 9 .any (Rows.sealBackSpec.pre6 enc Try.prog Try.f9 Rows.sealBackRow.domain false) (Rows.sealBackSpec.post enc Try.prog Try.f9 false true false false) := by
  refine returnsInHanded_of_change_sized (C := Try.checked) own started (by kernel_rfl) Try.func9
    (ChangeSpec.witness6 (enc := enc) (C := Try.checked) false ⟨#[], #[.agg #[.slice none 0 0, .slice none 0 0]], []⟩ 8 (by kernel_rfl) (by kernel_rfl) (by kernel_rfl) (by kernel_rfl)) ?_
  intro W base args ds gs before hval0 hW hcnd hsz0 _
  have hsz : (DataW.weightsEach Try.prog (Try.f9.params.toList ++ Rows.sealBackSpec.plain.varTypes Try.prog) (ds ++ gs)).all (· ≤ reachBytes) = true := hsz0
  have hval : ∀ (j : Nat) t v, Try.f9.params[j]? = some t → args[j]? = some v → Value.okWide Try.prog W .any base t v := hval0
  have hW' := hW
  obtain ⟨p, q, hA0, hV, rfl, hfz, hnd⟩ := hW
  have hA : DataW.TrodAll enc Try.prog W 0 (fun _ => true) true Try.f9.params.toList args.toList ds p := hA0
  rw [Try.params9] at hA hval hsz
  obtain ⟨v0, vs0, d0, ds0, p0, q0, hargs, rfl, rfl, h0, r0⟩ := trodAll_cons hA
  obtain ⟨rfl, rfl, rfl⟩ := trodAll_nil r0
  obtain rfl : args = #[v0] := by cases args; simp_all
  obtain ⟨rfl, rfl⟩ := trodVars_none hV
  have k0 := h0
  have lt0 : ∀ x ∈ p0, x.block < W.heap.size := by obtain ⟨m, hm⟩ := k0; exact DataW.trod_lt m _ _ _ hm
  obtain ⟨cs0, rfl, hcs0⟩ := okWide_struct Try.underlying25 (hval 0 25 v0 rfl rfl)
  obtain ⟨x0, hK, hB⟩ := open25.arg h0 hsz (j := 0) (t := 25) rfl rfl
  obtain ⟨l0_0, l0_1⟩ := x0
  have hk : ∃ A0_0 c0_0 A0_1 c0_1, cs0.toList = [.slice A0_0 (l0_0).length c0_0, .slice A0_1 (l0_1).length c0_1] ∧ (l0_0).length ≤ c0_0 ∧ Kd.C (Kd.int .i64) W A0_0 (l0_0).length (l0_0) ∧ (l0_1).length ≤ c0_1 ∧ Kd.C Kd.string W A0_1 (l0_1).length (l0_1) := by
    generalize hcs : (Value.agg cs0).cells.toList = cs at hK
    have hcs' : cs0.toList = cs := hcs
    clear hcs
    obtain ⟨_, _, rfl, g0_0, m0_0⟩ := hK
    obtain ⟨A0_0, c0_0, rfl, hl0_0, hr0_0⟩ := g0_0
    obtain ⟨A0_1, c0_1, rfl, hl0_1, hr0_1⟩ := m0_0
    exact ⟨A0_0, c0_0, A0_1, c0_1, hcs', hl0_0, hr0_0, hl0_1, hr0_1⟩
  obtain ⟨A0_0, c0_0, A0_1, c0_1, hcs, hl0_0, hr0_0, hl0_1, hr0_1⟩ := hk
  obtain rfl : cs0 = #[.slice A0_0 (l0_0).length c0_0, .slice A0_1 (l0_1).length c0_1] := by cases cs0; simpa using hcs
  obtain ⟨k, hpure⟩ := Pure.SealBack (l0_0) (l0_1) hB.1 hB.2
  clear hA0 hval0 hsz0 hsz
  refine (lectionarylaw2_SealBack.calls k A0_0 c0_0 (l0_0) A0_1 c0_1 (l0_1) true W hr0_0 hl0_0 hr0_1 hl0_1 hpure).mono fun e W' hq => ?_
  obtain ⟨rfl, hq⟩ := hq
  have bel : Below W.heap.size W W' := hq
  exact ⟨_, rfl, _, _, _, [], _, [], hW', trodAll_mk1 (shut_bool Try.underlying4 _), (trodAll_cons_mk (Below.trod laidOut (by kernel_rfl) (of_decide_eq_true (by kernel_rfl)) k0 bel lt0) trodAll_mk0), rfl, bel.frame _, fun h => by cases h⟩
theorem over : Rows.sealBackRow.holds Try.pinned (OpenSpec.ofChange Rows.sealBackSpec) :=
  OpenClaim.holds_of_wide 9 Try.f9 rfl rfl rfl rfl rfl rfl rfl ⟨rfl, rfl, rfl, rfl, rfl⟩ rfl rfl rfl rfl rfl (by kernel_rfl) Try.func9 (by kernel_rfl)
    (of_decide_eq_true (by kernel_rfl)) (by unfold Func.isWrapper; first | (rw [if_pos (by decide +kernel)]; kernel_rfl) | (rw [if_neg (by decide +kernel)]; exact ⟨rfl, rfl⟩))
    (fun os started H enc _ => lifted os started H enc)
theorem proved : Rows.SealBackSaid := over
#print axioms proved
end Go.Proofs.Ytcjedinpiedhcaa.sealBack
namespace Go.Proofs.Ytcjedinpiedhcaa
/-- The row, under a short name, for the claim. -/
theorem sealBack_holds : Rows.SealBackSaid := sealBack.proved
end Go.Proofs.Ytcjedinpiedhcaa
