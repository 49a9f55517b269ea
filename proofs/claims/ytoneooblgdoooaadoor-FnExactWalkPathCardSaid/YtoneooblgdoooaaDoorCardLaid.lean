/- The two tables that every row of this seat lists (none is read by the walk): the witness' world. -/
import Derived.Test.YtoneooblgdoooaaDoorRows
import Derived.Deep.DeepHandedRow
import Derived.Lib.LaidTab
import Derived.Shelf.LaysM
import Derived.Stop.LaidErr
import Derived.MakeChecks
import Derived.ProofKit
import Derived.Test.YtoneooblgdoooaaDoorProg
namespace Go.Proofs.YtoneooblgdoooaaDoor.Laid
open Go.RowKit
def leafOf : DataW Unit → Value
  | .lit (.int k z) => .int k z
  | _ => .int .u8 0
def valOf : DataW Unit → List Value
  | .agg l => l.map leafOf
  | d => [leafOf d]
def tabOf : DataW Unit → List Value
  | .agg l => l.flatMap valOf
  | _ => []
def put (l : List Value) : Obj → Obj
  | .cells _ t frozen => .cells l.toArray t frozen
  | o => o
/-- The settled world, the two tables as their initialisers lay them: the witness. -/
noncomputable def laidWorld (os : Os) : World :=
  { World.holding Tryd.prog os ⟨#[], #[], []⟩ with heap := ((World.holding Tryd.prog os ⟨#[], #[], []⟩).heap.modify 2 (put (tabOf Rows.laid_unicode_utf8_acceptRanges))).modify 1 (put (tabOf Rows.laid_unicode_utf8_first)) }
theorem laid_met (os : Os) (args : Array Value) : laidMet Tryd.prog Rows.fnExactWalkPathRow.laid ((laidWorld os).forCall (fun _ _ => 0) ⟨#[], args, []⟩).memory :=
  laidMet_of_run' 8 (by kernel_rfl) (by kernel_rfl)
end Go.Proofs.YtoneooblgdoooaaDoor.Laid
