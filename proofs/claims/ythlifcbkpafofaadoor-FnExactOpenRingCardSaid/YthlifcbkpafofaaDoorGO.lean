-- Printed by a program of this session (drive.py, by way of the kit's print). Not trusted: Lean checks it.
import Derived.Test.YthlifcbkpafofaaDoorOpens
import Derived.Test.YthlifcbkpafofaaDoorG0
namespace Go.Proofs.YthlifcbkpafofaaDoor.G
open Go.RowKit Go.Proofs.YthlifcbkpafofaaDoorW.PrintWords Go.Proofs.YthlifcbkpafofaaDoor.Opens Go.ChangeShapes Go.WideShapes
set_option linter.unusedVariables false
set_option linter.unusedSimpArgs false
theorem opens23 : Opens Tryd.prog 23 k23 ok23 := by
  refine opens_iso (opens_struct (d := (Kd.pair (Kd.int .i64) (Kd.pair (Kd.int .i64) (Kd.pair Kd.string (Kd.int .i64))))) Tryd.underlying23 (by kernel_rfl) (opens_cons _ rfl rfl (by kernel_rfl) (opens_int Tryd.underlying3) (opens_cons _ rfl rfl (by kernel_rfl) (opens_int Tryd.underlying3) (opens_cons _ rfl rfl (by kernel_rfl) (opens_string Tryd.underlying9) (opens_last _ rfl rfl (by kernel_rfl) (opens_int Tryd.underlying3)))))) (fun x => ⟨x.1, x.2.1, x.2.2.1, x.2.2.2⟩) (fun x => rfl) ?_
  exact fun x h => h
end Go.Proofs.YthlifcbkpafofaaDoor.G
