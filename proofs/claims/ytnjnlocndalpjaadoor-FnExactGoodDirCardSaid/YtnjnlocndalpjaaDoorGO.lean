-- Printed by a program of this session (drive.py, by way of the kit's print). Not trusted: Lean checks it.
import Derived.Test.YtnjnlocndalpjaaDoorOpens
import Derived.Test.YtnjnlocndalpjaaDoorG0
namespace Go.Proofs.YtnjnlocndalpjaaDoor.G
open Go.RowKit Go.Proofs.YtnjnlocndalpjaaDoorW.PrintWords Go.Proofs.YtnjnlocndalpjaaDoor.Opens Go.ChangeShapes Go.WideShapes
set_option linter.unusedVariables false
set_option linter.unusedSimpArgs false
theorem opens80 : Opens Tryd.prog 80 k80 ok80 := by
  refine opens_iso (opens_struct (d := (Kd.pair Kd.string (Kd.int .i64))) Tryd.underlying80 (by kernel_rfl) (opens_cons _ rfl rfl (by kernel_rfl) (opens_string Tryd.underlying9) (opens_last _ rfl rfl (by kernel_rfl) (opens_int Tryd.underlying3)))) (fun x => ⟨x.1, x.2⟩) (fun x => rfl) ?_
  exact fun x h => h
theorem opens62 : Opens Tryd.prog 62 k62 ok62 := by
  refine opens_iso (opens_struct (d := (Kd.pair (Kd.int .i64) (Kd.slice 80 k80))) Tryd.underlying62 (by kernel_rfl) (opens_cons _ rfl rfl (by kernel_rfl) (opens_int Tryd.underlying3) (opens_last _ rfl rfl (by kernel_rfl) (opens_slice Tryd.underlying60 (by kernel_rfl) opens80)))) (fun x => ⟨x.1, x.2⟩) (fun x => rfl) ?_
  exact fun x h => h
theorem opens25 : Opens Tryd.prog 25 k25 ok25 := by
  refine opens_iso (opens_struct (d := (Kd.pair (Kd.int .i64) (Kd.pair (Kd.slice 3 (Kd.int .i64)) (Kd.slice 62 k62)))) Tryd.underlying25 (by kernel_rfl) (opens_cons _ rfl rfl (by kernel_rfl) (opens_int Tryd.underlying3) (opens_cons _ rfl rfl (by kernel_rfl) (opens_slice Tryd.underlying22 (by kernel_rfl) (opens_int Tryd.underlying3)) (opens_last _ rfl rfl (by kernel_rfl) (opens_slice Tryd.underlying23 (by kernel_rfl) opens62))))) (fun x => ⟨x.1, x.2.1, x.2.2⟩) (fun x => rfl) ?_
  exact fun x h => h
end Go.Proofs.YtnjnlocndalpjaaDoor.G
