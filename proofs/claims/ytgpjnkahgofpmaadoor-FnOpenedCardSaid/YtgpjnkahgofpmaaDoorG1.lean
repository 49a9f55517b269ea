-- Printed by a program of this session (drive.py, by way of the kit's print). Not trusted: Lean checks it.
import Derived.Test.YtgpjnkahgofpmaaDoorG0
namespace Go.Proofs.YtgpjnkahgofpmaaDoor.G
open Go.RowKit Go.Proofs.YtgpjnkahgofpmaaDoorW.PrintWords Go.Proofs.YtgpjnkahgofpmaaDoorW.PrintLast Go.Proofs.YtgpjnkahgofpmaaDoorW.PrintMore
attribute [local go_sem] uM uN uS uT u9 uA uO uP   -- for this text's walks alone
set_option linter.unusedVariables false
set_option linter.unusedSimpArgs false

theorem Kw (d : Nat) (w : World) (x0 y0 : Int) (x1 y1 : Int) (x2 y2 : ByteArray) (x3 y3 : Int) :
    (Op.equalIn (d + 2) 36 (.agg #[.int .i64 x0, .int .i64 x1, .string x2, .int .i64 x3]) (.agg #[.int .i64 y0, .int .i64 y1, .string y2, .int .i64 y3])).run Tryd.prog w = .ok (x0 == y0 && (x1 == y1 && (x2.toList == y2.toList && (x3 == y3)))) w := by
  refine a1f Tryd.underlying36 (by kernel_rfl) ?_
  refine J3 (by rfl) (by go_simp; rfl) (by go_simp; rfl) (by go_simp) ?_
  refine J3 (by rfl) (by go_simp; rfl) (by go_simp; rfl) (by go_simp) ?_
  refine J3 (by rfl) (by go_simp; rfl) (by go_simp; rfl) (by go_simp) ?_
  exact Y1 (by rfl) (by go_simp; rfl) (by go_simp; rfl) (by go_simp)
end Go.Proofs.YtgpjnkahgofpmaaDoor.G
