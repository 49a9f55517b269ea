-- Pruned by a program of this session (prune.py) out of the kit's print: what is not used is left out. Not trusted: Lean checks it.
import Derived.Test.YtojdlcbmbpgplaaWWords
/-! ### 58. A guarded operation whose guard is known to want it: the same goal without the guard -/
namespace Go.Proofs.YtojdlcbmbpgplaaW.PrintWords
open Go.RowKit
section
variable {P : Program} {ops : Array Oper} {rest : List Oper} {o : Oper} {a : Act} {Q : Exit → Act → World → Prop} {W : World}
end
end Go.Proofs.YtojdlcbmbpgplaaW.PrintWords
