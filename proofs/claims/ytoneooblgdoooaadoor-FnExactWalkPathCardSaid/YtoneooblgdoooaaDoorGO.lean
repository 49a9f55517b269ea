-- Printed by a program of this session (drive.py, by way of the kit's print). Not trusted: Lean checks it.
import Derived.Test.YtoneooblgdoooaaDoorOpens
import Derived.Test.YtoneooblgdoooaaDoorG0
namespace Go.Proofs.YtoneooblgdoooaaDoor.G
open Go.RowKit Go.Proofs.YtoneooblgdoooaaDoorW.PrintWords Go.Proofs.YtoneooblgdoooaaDoor.Opens Go.ChangeShapes Go.WideShapes
set_option linter.unusedVariables false
set_option linter.unusedSimpArgs false
theorem opens80 : Opens Tryd.prog 80 k80 ok80 := by
  refine opens_iso (opens_struct (d := (Kd.pair Kd.string (Kd.int .i64))) Tryd.underlying80 (by kernel_rfl) (opens_cons _ rfl rfl (by kernel_rfl) (opens_string Tryd.underlying9) (opens_last _ rfl rfl (by kernel_rfl) (opens_int Tryd.underlying3)))) (fun x => ⟨x.1, x.2⟩) (fun x => rfl) ?_
  exact fun x h => h
theorem opens59 : Opens Tryd.prog 59 k59 ok59 := by
  refine opens_iso (opens_struct (d := (Kd.pair Kd.bool (Kd.pair (Kd.int .i64) (Kd.slice 80 k80)))) Tryd.underlying59 (by kernel_rfl) (opens_cons _ rfl rfl (by kernel_rfl) (opens_bool Tryd.underlying4) (opens_cons _ rfl rfl (by kernel_rfl) (opens_int Tryd.underlying3) (opens_last _ rfl rfl (by kernel_rfl) (opens_slice Tryd.underlying57 (by kernel_rfl) opens80))))) (fun x => ⟨x.1, x.2.1, x.2.2⟩) (fun x => rfl) ?_
  exact fun x h => h
theorem opens24 : Opens Tryd.prog 24 k24 ok24 := by
  refine opens_iso (opens_struct (d := (Kd.slice 59 k59)) Tryd.underlying24 (by kernel_rfl) (opens_last _ rfl rfl (by kernel_rfl) (opens_slice Tryd.underlying22 (by kernel_rfl) opens59))) (fun x => ⟨x⟩) (fun x => rfl) ?_
  exact fun x h => h
end Go.Proofs.YtoneooblgdoooaaDoor.G
