-- Printed by a program of this session (drive.py, by way of the kit's print). Not trusted: Lean checks it.
import Derived.Test.YtjojdplkgekagaaG0
namespace Go.Proofs.Ytjojdplkgekagaa.G
open Go.RowKit Go.Proofs.YtjojdplkgekagaaW.PrintWords Go.Proofs.YtjojdplkgekagaaW.PrintLast Go.Proofs.YtjojdplkgekagaaW.PrintMore
attribute [local go_sem] um un uu uv ud ue uo uq   -- for this text's walks alone
set_option linter.unusedVariables false
set_option linter.unusedSimpArgs false

theorem eqA38 (d : Nat) (w : World) (x0 y0 : Int) (x1 y1 : Int) :
    (Op.equalIn (d + 2) 38 (.agg #[.int .i64 x0, .int .i64 x1]) (.agg #[.int .i64 y0, .int .i64 y1])).run Try.prog w = .ok (x0 == y0 && (x1 == y1)) w := by
  refine a0l Try.underlying38 (by kernel_rfl) ?_
  refine M3 (by rfl) (by go_simp; rfl) (by go_simp; rfl) (by go_simp) ?_
  exact YI (by rfl) (by go_simp; rfl) (by go_simp; rfl) (by go_simp)
end Go.Proofs.Ytjojdplkgekagaa.G
