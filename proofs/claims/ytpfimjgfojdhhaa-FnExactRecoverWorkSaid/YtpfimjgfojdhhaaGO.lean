-- Printed by a program of this session (drive.py, by way of the kit's print). Not trusted: Lean checks it.
import Derived.Test.YtpfimjgfojdhhaaOpens
import Derived.Test.YtpfimjgfojdhhaaG0
namespace Go.Proofs.Ytpfimjgfojdhhaa.G
open Go.RowKit Go.Proofs.YtpfimjgfojdhhaaW.PrintWords Go.Proofs.Ytpfimjgfojdhhaa.Opens Go.ChangeShapes Go.WideShapes
set_option linter.unusedVariables false
set_option linter.unusedSimpArgs false
theorem opens29 : Opens Try.prog 29 k29 ok29 := by
  refine opens_iso (opens_struct (d := (Kd.pair (Kd.int .i64) (Kd.int .i64))) Try.underlying29 (by kernel_rfl) (opens_cons _ rfl rfl (by kernel_rfl) (opens_int Try.underlying3) (opens_last _ rfl rfl (by kernel_rfl) (opens_int Try.underlying3)))) (fun x => ⟨x.1, x.2⟩) (fun x => rfl) ?_
  exact fun x h => h
theorem opens24 : Opens Try.prog 24 k24 ok24 := by
  refine opens_iso (opens_struct (d := (Kd.pair (Kd.int .i64) (Kd.pair (Kd.slice 29 k29) (Kd.slice 29 k29)))) Try.underlying24 (by kernel_rfl) (opens_cons _ rfl rfl (by kernel_rfl) (opens_int Try.underlying3) (opens_cons _ rfl rfl (by kernel_rfl) (opens_slice Try.underlying22 (by kernel_rfl) opens29) (opens_last _ rfl rfl (by kernel_rfl) (opens_slice Try.underlying22 (by kernel_rfl) opens29))))) (fun x => ⟨x.1, x.2.1, x.2.2⟩) (fun x => rfl) ?_
  exact fun x h => h
theorem opens68 : Opens Try.prog 68 k68 ok68 := by
  refine opens_iso (opens_struct (d := (Kd.pair (Kd.int .i64) (Kd.pair (Kd.int .i64) (Kd.pair k29 (Kd.int .i64))))) Try.underlying68 (by kernel_rfl) (opens_cons _ rfl rfl (by kernel_rfl) (opens_int Try.underlying3) (opens_cons _ rfl rfl (by kernel_rfl) (opens_int Try.underlying3) (opens_cons _ rfl rfl (by kernel_rfl) opens29 (opens_last _ rfl rfl (by kernel_rfl) (opens_int Try.underlying3)))))) (fun x => ⟨x.1, x.2.1, x.2.2.1, x.2.2.2⟩) (fun x => rfl) ?_
  exact fun x h => h
theorem opens27 : Opens Try.prog 27 k27 ok27 := by
  refine opens_iso (opens_struct (d := (Kd.pair k24 (Kd.pair (Kd.int .i64) (Kd.slice 68 k68)))) Try.underlying27 (by kernel_rfl) (opens_cons _ rfl rfl (by kernel_rfl) opens24 (opens_cons _ rfl rfl (by kernel_rfl) (opens_int Try.underlying3) (opens_last _ rfl rfl (by kernel_rfl) (opens_slice Try.underlying25 (by kernel_rfl) opens68))))) (fun x => ⟨x.1, x.2.1, x.2.2⟩) (fun x => rfl) ?_
  exact fun x h => h
end Go.Proofs.Ytpfimjgfojdhhaa.G
