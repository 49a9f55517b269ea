-- Printed by a program of this session (drive.py, by way of the kit's print). Not trusted: Lean checks it.
import Derived.Test.YtakgjdckolllaaaOpens
import Derived.Test.YtakgjdckolllaaaG0
namespace Go.Proofs.Ytakgjdckolllaaa.G
open Go.RowKit Go.Proofs.YtakgjdckolllaaaW.PrintWords Go.Proofs.Ytakgjdckolllaaa.Opens Go.ChangeShapes Go.WideShapes
set_option linter.unusedVariables false
set_option linter.unusedSimpArgs false
theorem opens50 : Opens Try.prog 50 k50 ok50 := by
  refine opens_iso (opens_struct (d := (Kd.pair (Kd.int .i64) (Kd.int .i64))) Try.underlying50 (by kernel_rfl) (opens_cons _ rfl rfl (by kernel_rfl) (opens_int Try.underlying3) (opens_last _ rfl rfl (by kernel_rfl) (opens_int Try.underlying3)))) (fun x => ⟨x.1, x.2⟩) (fun x => rfl) ?_
  exact fun x h => h
theorem opens35 : Opens Try.prog 35 k35 ok35 := by
  refine opens_iso (opens_struct (d := (Kd.pair (Kd.int .i64) (Kd.pair (Kd.slice 50 k50) (Kd.slice 50 k50)))) Try.underlying35 (by kernel_rfl) (opens_cons _ rfl rfl (by kernel_rfl) (opens_int Try.underlying3) (opens_cons _ rfl rfl (by kernel_rfl) (opens_slice Try.underlying33 (by kernel_rfl) opens50) (opens_last _ rfl rfl (by kernel_rfl) (opens_slice Try.underlying33 (by kernel_rfl) opens50))))) (fun x => ⟨x.1, x.2.1, x.2.2⟩) (fun x => rfl) ?_
  exact fun x h => h
theorem opens88 : Opens Try.prog 88 k88 ok88 := by
  refine opens_iso (opens_struct (d := (Kd.pair (Kd.int .i64) (Kd.pair (Kd.int .i64) (Kd.pair k50 (Kd.int .i64))))) Try.underlying88 (by kernel_rfl) (opens_cons _ rfl rfl (by kernel_rfl) (opens_int Try.underlying3) (opens_cons _ rfl rfl (by kernel_rfl) (opens_int Try.underlying3) (opens_cons _ rfl rfl (by kernel_rfl) opens50 (opens_last _ rfl rfl (by kernel_rfl) (opens_int Try.underlying3)))))) (fun x => ⟨x.1, x.2.1, x.2.2.1, x.2.2.2⟩) (fun x => rfl) ?_
  exact fun x h => h
theorem opens38 : Opens Try.prog 38 k38 ok38 := by
  refine opens_iso (opens_struct (d := (Kd.pair k35 (Kd.pair (Kd.int .i64) (Kd.slice 88 k88)))) Try.underlying38 (by kernel_rfl) (opens_cons _ rfl rfl (by kernel_rfl) opens35 (opens_cons _ rfl rfl (by kernel_rfl) (opens_int Try.underlying3) (opens_last _ rfl rfl (by kernel_rfl) (opens_slice Try.underlying36 (by kernel_rfl) opens88))))) (fun x => ⟨x.1, x.2.1, x.2.2⟩) (fun x => rfl) ?_
  exact fun x h => h
end Go.Proofs.Ytakgjdckolllaaa.G
