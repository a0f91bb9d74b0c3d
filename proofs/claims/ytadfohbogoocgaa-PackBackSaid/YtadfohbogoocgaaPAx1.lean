import Derived.Test.YtadfohbogoocgaaPAx0
namespace Go.Proofs.Ytadfohbogoocgaa.PA
open Go.RowKit Go.Proofs.YtadfohbogoocgaaW.PrintWords Go.Proofs.YtadfohbogoocgaaW.PrintLast Go.Proofs.YtadfohbogoocgaaW.PrintMore Go.Proofs.YtadfohbogoocgaaX Go.Proofs.YtadfohbogoocgaaB Go.Proofs.YtadfohbogoocgaaPq
attribute [local go_sem] gi gj gx gy jr js gm gn
set_option linter.unusedVariables false
set_option linter.unusedSimpArgs false
theorem eqA36 (d : Nat) (w : World) (x0 y0 : Int) (x1 y1 : Int) (x2 y2 : Int) :
    (Op.equalIn (d + 2) 36 (.agg #[.int .i64 x0, .int .i64 x1, .int .i64 x2]) (.agg #[.int .i64 y0, .int .i64 y1, .int .i64 y2])).run Try.prog w = .ok (x0 == y0 && (x1 == y1 && (x2 == y2))) w := by
  refine zc0 Try.underlying36 (by kernel_rfl) ?_
  refine z5t (by rfl) (by go_simp; rfl) (by go_simp; rfl) (by go_simp) ?_
  refine z5t (by rfl) (by go_simp; rfl) (by go_simp; rfl) (by go_simp) ?_
  exact za4 (by rfl) (by go_simp; rfl) (by go_simp; rfl) (by go_simp)
end Go.Proofs.Ytadfohbogoocgaa.PA
