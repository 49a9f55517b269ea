-- Printed by a program of this session (drive.py, by way of the kit's print). Not trusted: Lean checks it.
import Derived.Test.YtjojdplkgekagaaOpens
import Derived.Test.YtjojdplkgekagaaG0
namespace Go.Proofs.Ytjojdplkgekagaa.G
open Go.RowKit Go.Proofs.YtjojdplkgekagaaW.PrintWords Go.Proofs.Ytjojdplkgekagaa.oF Go.ChangeShapes Go.WideShapes
set_option linter.unusedVariables false
set_option linter.unusedSimpArgs false
end Go.Proofs.Ytjojdplkgekagaa.G
