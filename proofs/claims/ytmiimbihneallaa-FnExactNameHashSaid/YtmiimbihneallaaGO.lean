-- Printed by a program of this session (drive.py, by way of the kit's print). Not trusted: Lean checks it.
import Derived.Test.YtmiimbihneallaaOpens
import Derived.Test.YtmiimbihneallaaG0
namespace Go.Proofs.Ytmiimbihneallaa.G
open Go.RowKit Go.Proofs.YtmiimbihneallaaW.PrintWords Go.Proofs.Ytmiimbihneallaa.Opens Go.ChangeShapes Go.WideShapes
set_option linter.unusedVariables false
set_option linter.unusedSimpArgs false
end Go.Proofs.Ytmiimbihneallaa.G
