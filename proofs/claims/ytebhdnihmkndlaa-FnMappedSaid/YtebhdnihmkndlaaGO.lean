-- Printed by a program of this session (drive.py, by way of the kit's print). Not trusted: Lean checks it.
import Derived.Test.YtebhdnihmkndlaaOpens
import Derived.Test.YtebhdnihmkndlaaG0
namespace Go.Proofs.Ytebhdnihmkndlaa.G
open Go.RowKit Go.Proofs.YtebhdnihmkndlaaW.PrintWords Go.Proofs.Ytebhdnihmkndlaa.Opens Go.ChangeShapes Go.WideShapes
set_option linter.unusedVariables false
set_option linter.unusedSimpArgs false
end Go.Proofs.Ytebhdnihmkndlaa.G
