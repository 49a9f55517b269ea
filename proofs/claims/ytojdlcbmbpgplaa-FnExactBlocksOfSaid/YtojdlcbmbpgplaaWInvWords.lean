-- Pruned by a program of this session (prune.py) out of the kit's print: what is not used is left out. Not trusted: Lean checks it.
import Derived.Test.YtojdlcbmbpgplaaWInv
import Derived.Test.YtojdlcbmbpgplaaWFootNe
namespace Go.Proofs.YtojdlcbmbpgplaaW.PrintWords
open Go.RowKit
end Go.Proofs.YtojdlcbmbpgplaaW.PrintWords
namespace Go.Proofs.YtojdlcbmbpgplaaW.PrintLast
section
variable {ops : Array Oper} {a : Act} {o og : Oper} {g : Nat} {t : Tmp} {u : Bool}
end
end Go.Proofs.YtojdlcbmbpgplaaW.PrintLast
