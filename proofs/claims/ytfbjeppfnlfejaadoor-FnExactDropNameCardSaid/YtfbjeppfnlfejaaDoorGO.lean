-- Printed by a program of this session (drive.py, by way of the kit's print). Not trusted: Lean checks it.
import Derived.Test.YtfbjeppfnlfejaaDoorOpens
import Derived.Test.YtfbjeppfnlfejaaDoorG0
namespace Go.Proofs.YtfbjeppfnlfejaaDoor.G
open Go.RowKit Go.Proofs.YtfbjeppfnlfejaaDoorW.PrintWords Go.Proofs.YtfbjeppfnlfejaaDoor.Opens Go.ChangeShapes Go.WideShapes
set_option linter.unusedVariables false
set_option linter.unusedSimpArgs false
theorem opens87 : Opens Tryd.prog 87 k87 ok87 := by
  refine opens_iso (opens_struct (d := (Kd.pair Kd.string (Kd.int .i64))) Tryd.underlying87 (by kernel_rfl) (opens_cons _ rfl rfl (by kernel_rfl) (opens_string Tryd.underlying9) (opens_last _ rfl rfl (by kernel_rfl) (opens_int Tryd.underlying3)))) (fun x => ⟨x.1, x.2⟩) (fun x => rfl) ?_
  exact fun x h => h
theorem opens60 : Opens Tryd.prog 60 k60 ok60 := by
  refine opens_iso (opens_struct (d := (Kd.pair (Kd.int .i64) (Kd.slice 87 k87))) Tryd.underlying60 (by kernel_rfl) (opens_cons _ rfl rfl (by kernel_rfl) (opens_int Tryd.underlying3) (opens_last _ rfl rfl (by kernel_rfl) (opens_slice Tryd.underlying58 (by kernel_rfl) opens87)))) (fun x => ⟨x.1, x.2⟩) (fun x => rfl) ?_
  exact fun x h => h
theorem opens25 : Opens Tryd.prog 25 k25 ok25 := by
  refine opens_iso (opens_struct (d := (Kd.pair (Kd.int .i64) (Kd.pair (Kd.slice 3 (Kd.int .i64)) (Kd.slice 60 k60)))) Tryd.underlying25 (by kernel_rfl) (opens_cons _ rfl rfl (by kernel_rfl) (opens_int Tryd.underlying3) (opens_cons _ rfl rfl (by kernel_rfl) (opens_slice Tryd.underlying22 (by kernel_rfl) (opens_int Tryd.underlying3)) (opens_last _ rfl rfl (by kernel_rfl) (opens_slice Tryd.underlying23 (by kernel_rfl) opens60))))) (fun x => ⟨x.1, x.2.1, x.2.2⟩) (fun x => rfl) ?_
  exact fun x h => h
end Go.Proofs.YtfbjeppfnlfejaaDoor.G
