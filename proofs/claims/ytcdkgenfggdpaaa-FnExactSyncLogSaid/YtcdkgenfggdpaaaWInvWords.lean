-- Pruned by a program of this session (prune.py) out of the kit's print: what is not used is left out. Not trusted: Lean checks it.
import Derived.Test.YtcdkgenfggdpaaaWInv
import Derived.Test.YtcdkgenfggdpaaaWFootNe
namespace Go.Proofs.YtcdkgenfggdpaaaW.PrintWords
open Go.RowKit
end Go.Proofs.YtcdkgenfggdpaaaW.PrintWords
namespace Go.Proofs.YtcdkgenfggdpaaaW.PrintLast
section
variable {ops : Array Oper} {a : Act} {o og : Oper} {g : Nat} {t : Tmp} {u : Bool}
end
end Go.Proofs.YtcdkgenfggdpaaaW.PrintLast
