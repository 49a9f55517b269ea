-- Printed by a program of this session (drive.py, by way of the kit's print). Not trusted: Lean checks it.
import Derived.Test.YtgpjnkahgofpmaaDoorOpens
import Derived.Test.YtgpjnkahgofpmaaDoorG0
namespace Go.Proofs.YtgpjnkahgofpmaaDoor.G
open Go.RowKit Go.Proofs.YtgpjnkahgofpmaaDoorW.PrintWords Go.Proofs.YtgpjnkahgofpmaaDoor.lg Go.ChangeShapes Go.WideShapes
set_option linter.unusedVariables false
set_option linter.unusedSimpArgs false
end Go.Proofs.YtgpjnkahgofpmaaDoor.G
