-- Printed by a program of this session (drive.py, by way of the kit's print). Not trusted: Lean checks it.
import Derived.Test.YtcdkgenfggdpaaaOpens
import Derived.Test.YtcdkgenfggdpaaaG0
namespace Go.Proofs.Ytcdkgenfggdpaaa.G
open Go.RowKit Go.Proofs.YtcdkgenfggdpaaaW.PrintWords Go.Proofs.Ytcdkgenfggdpaaa.Opens Go.ChangeShapes Go.WideShapes
set_option linter.unusedVariables false
set_option linter.unusedSimpArgs false
theorem opens76 : Opens Try.prog 76 k76 ok76 := by
  refine opens_iso (opens_struct (d := (Kd.pair (Kd.int .i64) Kd.string)) Try.underlying76 (by kernel_rfl) (opens_cons _ rfl rfl (by kernel_rfl) (opens_int Try.underlying3) (opens_last _ rfl rfl (by kernel_rfl) (opens_string Try.underlying9)))) (fun x => ⟨x.1, x.2⟩) (fun x => rfl) ?_
  exact fun x h => h
theorem opens36 : Opens Try.prog 36 k36 ok36 := by
  refine opens_iso (opens_struct (d := (Kd.pair (Kd.slice 9 Kd.string) (Kd.slice 76 k76))) Try.underlying36 (by kernel_rfl) (opens_cons _ rfl rfl (by kernel_rfl) (opens_slice Try.underlying34 (by kernel_rfl) (opens_string Try.underlying9)) (opens_last _ rfl rfl (by kernel_rfl) (opens_slice Try.underlying22 (by kernel_rfl) opens76)))) (fun x => ⟨x.1, x.2⟩) (fun x => rfl) ?_
  exact fun x h => h
theorem opens38 : Opens Try.prog 38 k38 ok38 := by
  refine opens_iso (opens_struct (d := (Kd.pair k36 (Kd.pair (Kd.slice 9 Kd.string) (Kd.int .i64)))) Try.underlying38 (by kernel_rfl) (opens_cons _ rfl rfl (by kernel_rfl) opens36 (opens_cons _ rfl rfl (by kernel_rfl) (opens_slice Try.underlying34 (by kernel_rfl) (opens_string Try.underlying9)) (opens_last _ rfl rfl (by kernel_rfl) (opens_int Try.underlying3))))) (fun x => ⟨x.1, x.2.1, x.2.2⟩) (fun x => rfl) ?_
  exact fun x h => h
end Go.Proofs.Ytcdkgenfggdpaaa.G
