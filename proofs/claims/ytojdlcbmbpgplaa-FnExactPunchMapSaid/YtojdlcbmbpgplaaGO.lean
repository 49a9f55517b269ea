-- Printed by a program of this session (drive.py, by way of the kit's print). Not trusted: Lean checks it.
import Derived.Test.YtojdlcbmbpgplaaOpens
import Derived.Test.YtojdlcbmbpgplaaG0
namespace Go.Proofs.Ytojdlcbmbpgplaa.G
open Go.RowKit Go.Proofs.YtojdlcbmbpgplaaW.PrintWords Go.Proofs.Ytojdlcbmbpgplaa.Opens Go.ChangeShapes Go.WideShapes
set_option linter.unusedVariables false
set_option linter.unusedSimpArgs false
theorem opens45 : Opens Try.prog 45 k45 ok45 := by
  refine opens_iso (opens_struct (d := (Kd.pair (Kd.int .i64) (Kd.pair (Kd.int .i64) (Kd.pair (Kd.int .i64) Kd.bool)))) Try.underlying45 (by kernel_rfl) (opens_cons _ rfl rfl (by kernel_rfl) (opens_int Try.underlying3) (opens_cons _ rfl rfl (by kernel_rfl) (opens_int Try.underlying3) (opens_cons _ rfl rfl (by kernel_rfl) (opens_int Try.underlying3) (opens_last _ rfl rfl (by kernel_rfl) (opens_bool Try.underlying4)))))) (fun x => ⟨x.1, x.2.1, x.2.2.1, x.2.2.2⟩) (fun x => rfl) ?_
  exact fun x h => h
theorem opens24 : Opens Try.prog 24 k24 ok24 := by
  refine opens_iso (opens_struct (d := (Kd.slice 45 k45)) Try.underlying24 (by kernel_rfl) (opens_last _ rfl rfl (by kernel_rfl) (opens_slice Try.underlying22 (by kernel_rfl) opens45))) (fun x => ⟨x⟩) (fun x => rfl) ?_
  exact fun x h => h
end Go.Proofs.Ytojdlcbmbpgplaa.G
