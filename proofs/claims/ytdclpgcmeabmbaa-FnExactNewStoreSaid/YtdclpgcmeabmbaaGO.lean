-- Printed by a program of this session (drive.py, by way of the kit's print). Not trusted: Lean checks it.
import Derived.Test.YtdclpgcmeabmbaaOpens
import Derived.Test.YtdclpgcmeabmbaaG0
namespace Go.Proofs.Ytdclpgcmeabmbaa.G
open Go.RowKit Go.Proofs.YtdclpgcmeabmbaaW.PrintWords Go.Proofs.Ytdclpgcmeabmbaa.Opens Go.ChangeShapes Go.WideShapes
set_option linter.unusedVariables false
set_option linter.unusedSimpArgs false
end Go.Proofs.Ytdclpgcmeabmbaa.G
