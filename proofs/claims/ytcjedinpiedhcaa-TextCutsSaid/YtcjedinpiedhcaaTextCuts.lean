/- TextCuts: of texts made here alone: by computing. -/
import Derived.Test.YtcjedinpiedhcaaPTx
import Derived.KernelRfl
namespace Go.Proofs.Ytcjedinpiedhcaa.Pure
open Go.RowKit Go.Proofs.YtcjedinpiedhcaaW.PrintWords Go.Proofs.Ytcjedinpiedhcaa.PT
theorem TextCuts : ∀ (l0_0 : List ByteArray) (l0_1 : List Int) (l0_2 : List Int), (l0_0.length * 16 ≤ 140737488351232 ∧ ∀ x0 ∈ l0_0, x0.size ≤ 140737488351232) → (l0_1.length * 4 ≤ 140737488351232 ∧ ∀ x0 ∈ l0_1, (Lit.int .i32 x0).wf = true) → (l0_2.length * 8 ≤ 140737488351232 ∧ ∀ x0 ∈ l0_2, (Lit.int .i64 x0).wf = true) →  ∃ k, lectionarylaw3_TextCuts.f k l0_0 l0_1 l0_2 = some true :=
  fun l0_0 l0_1 l0_2 _ _ _ => ⟨200, by kernel_rfl⟩
end Go.Proofs.Ytcjedinpiedhcaa.Pure
