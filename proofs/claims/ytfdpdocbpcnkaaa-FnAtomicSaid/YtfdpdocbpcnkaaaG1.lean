-- Printed by a program of this session (drive.py, by way of the kit's print). Not trusted: Lean checks it.
import Derived.Test.YtfdpdocbpcnkaaaG0
namespace Go.Proofs.Ytfdpdocbpcnkaaa.G
open Go.RowKit Go.Proofs.YtfdpdocbpcnkaaaW.PrintWords Go.Proofs.YtfdpdocbpcnkaaaW.PrintLast Go.Proofs.YtfdpdocbpcnkaaaW.PrintMore
attribute [local go_sem] tM tN tQ tR tA tB tO tP   -- for this text's walks alone
set_option linter.unusedVariables false
set_option linter.unusedSimpArgs false

theorem NP (d : Nat) (w : World) (x0 y0 : Int) (x1 y1 : ByteArray) :
    (Op.equalIn (d + 2) 64 (.agg #[.int .i64 x0, .string x1]) (.agg #[.int .i64 y0, .string y1])).run Try.prog w = .ok (x0 == y0 && (x1.toList == y1.toList)) w := by
  refine a2L Try.underlying64 (by kernel_rfl) ?_
  refine a0j (by rfl) (by go_simp; rfl) (by go_simp; rfl) (by go_simp) ?_
  exact a0i (by rfl) (by go_simp; rfl) (by go_simp; rfl) (by go_simp)
end Go.Proofs.Ytfdpdocbpcnkaaa.G
