/- TextBytes: of texts made here alone: by computing. -/
import Derived.Test.YtcjedinpiedhcaaDoorPTx
import Derived.KernelRfl
namespace Go.Proofs.YtcjedinpiedhcaaDoor.Pure
open Go.RowKit Go.Proofs.YtcjedinpiedhcaaDoorW.PrintWords Go.Proofs.YtcjedinpiedhcaaDoor.PT
set_option maxRecDepth 1000000
theorem TextBytes : ∀ (l0_0 : List ByteArray) (l0_1 : List Int) (l0_2 : List Int), (l0_0.length * 16 ≤ 140737488351232 ∧ ∀ x0 ∈ l0_0, x0.size ≤ 140737488351232) → (l0_1.length * 4 ≤ 140737488351232 ∧ ∀ x0 ∈ l0_1, (Lit.int .i32 x0).wf = true) → (l0_2.length * 8 ≤ 140737488351232 ∧ ∀ x0 ∈ l0_2, (Lit.int .i64 x0).wf = true) →  ∃ k, lectionarylaw3_TextBytes.f k l0_0 l0_1 l0_2 = some true :=
  fun l0_0 l0_1 l0_2 _ _ _ => ⟨3000, by kernel_rfl⟩
end Go.Proofs.YtcjedinpiedhcaaDoor.Pure
