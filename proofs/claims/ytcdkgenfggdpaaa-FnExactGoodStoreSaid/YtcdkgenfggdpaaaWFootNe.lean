-- Pruned by a program of this session (prune.py) out of the kit's print: what is not used is left out. Not trusted: Lean checks it.
import Derived.Test.YtcdkgenfggdpaaaWN
/-! ### 52. A row that stays read whatever happens to a block (a set of blocks) doesn't lie there -/
namespace Go.Proofs.YtcdkgenfggdpaaaW.PrintWords
open Go.RowKit
namespace Kd
section
variable {α : Type} {d : Kd α} {W : World} {g n : Nat} {S ok : Nat → Prop} {A : Option Addr} {ad : Addr} {xs : List α}
end
end Kd
end Go.Proofs.YtcdkgenfggdpaaaW.PrintWords
