-- Printed by a program of this session (drive.py, by way of the kit's print). Not trusted: Lean checks it.
import Derived.Test.YtfeokehfhaimkaaOpens
import Derived.Test.YtfeokehfhaimkaaG0
namespace Go.Proofs.Ytfeokehfhaimkaa.G
open Go.RowKit Go.Proofs.YtfeokehfhaimkaaW.PrintWords Go.Proofs.Ytfeokehfhaimkaa.pw Go.ChangeShapes Go.WideShapes
set_option linter.unusedVariables false
set_option linter.unusedSimpArgs false
theorem opens54 : pw Try.prog 54 yo ok54 := by
  refine opens_iso (opens_struct (d := (Kd.pair (Kd.int .i64) (Kd.int .i64))) Try.underlying54 (by kernel_rfl) (QQ _ rfl rfl (by kernel_rfl) (Jh Try.underlying3) (opens_last _ rfl rfl (by kernel_rfl) (Jh Try.underlying3)))) (fun x => ⟨x.1, x.2⟩) (fun x => rfl) ?_
  exact fun x h => h
theorem opens56 : pw Try.prog 56 rj ok56 := by
  refine opens_iso (opens_struct (d := (Kd.pair (Kd.int .i64) (Kd.pair yo (Kd.pair (Kd.int .i64) (Kd.int .i64))))) Try.underlying56 (by kernel_rfl) (QQ _ rfl rfl (by kernel_rfl) (Jh Try.underlying3) (QQ _ rfl rfl (by kernel_rfl) opens54 (QQ _ rfl rfl (by kernel_rfl) (Jh Try.underlying3) (opens_last _ rfl rfl (by kernel_rfl) (Jh Try.underlying3)))))) (fun x => ⟨x.1, x.2.1, x.2.2.1, x.2.2.2⟩) (fun x => rfl) ?_
  exact fun x h => h
end Go.Proofs.Ytfeokehfhaimkaa.G
