-- Printed by a program of this session (drive.py, by way of the kit's print). Not trusted: Lean checks it.
import Derived.Test.YtmbjmacpigojjaaOpens
import Derived.Test.YtmbjmacpigojjaaG0
namespace Go.Proofs.Ytmbjmacpigojjaa.G
open Go.RowKit Go.Proofs.YtmbjmacpigojjaaW.PrintWords Go.Proofs.Ytmbjmacpigojjaa.oQ Go.ChangeShapes Go.WideShapes
set_option linter.unusedVariables false
set_option linter.unusedSimpArgs false
end Go.Proofs.Ytmbjmacpigojjaa.G
