-- Pruned by a program of this session (prune.py) out of the kit's print: what is not used is left out. Not trusted: Lean checks it.
import Derived.Test.YtcdkgenfggdpaaaWTab
/-! ### 56. Four, five, six operations that may come up next, in any order -/
namespace Go.Proofs.YtcdkgenfggdpaaaW.PrintLast
section
variable {P : Program} {ops : Array Oper} {Q : Exit → Act → World → Prop} {md : Region.Mode} {S : World → Prop} {ds : List Nat} {T : Bool × List (List Nat × List Nat)}
end
end Go.Proofs.YtcdkgenfggdpaaaW.PrintLast
