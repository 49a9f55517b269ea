/- The tables that every row of this seat lists: what their cards want besides. Templates: DeepNtProofs, ToyasCard. -/
import Derived.Test.YthlifcbkpafofaaDoorRows
import Derived.Test.YthlifcbkpafofaaDoorTabItoa
import Derived.Deep.DeepHandedRow
import Derived.Lib.LaidTab
import Derived.Shelf.LaysM
import Derived.Stop.LaidErr
import Derived.MakeChecks
import Derived.ProofKit
namespace Go.Proofs.YthlifcbkpafofaaDoor.Laid
open Go.RowKit
theorem g3 : Tryd.prog.globalNamed "internal/strconv.uint64pow10" = some 0 := by kernel_rfl
theorem row_tab {W : World} (h : laidMetH Tryd.prog Rows.fnExactSlotSumRow.laid W) : Ito.TabW W := by
  rw [Go.MakeChecks.laidMetH_plain _ _ _ (by kernel_rfl)] at h
  exact Lib.tabIs_of_head (t := 102) (e := 78) (n := 20) g3 (by kernel_rfl) (by kernel_rfl) (by kernel_rfl) (by kernel_rfl) (by kernel_rfl) (laidMet.tail (laidMet.tail h))
def tabOf : DataW Unit → List Value
  | .agg l => l.map fun | .lit (.int k z) => .int k z | _ => .int .u8 0
  | _ => []
def put (l : List Value) : Obj → Obj
  | .cells _ t frozen => .cells l.toArray t frozen
  | o => o
/-- The settled world, the three tables as their initialisers lay them: the witness. -/
noncomputable def laidWorld (os : Os) : World :=
  { World.holding Tryd.prog os ⟨#[], #[], []⟩ with heap := (((World.holding Tryd.prog os ⟨#[], #[], []⟩).heap.modify 0 (put (tabOf Rows.laid_internal_strconv_uint64pow10))).modify 1 (put (tabOf Rows.laid_math_bits_deBruijn32tab))).modify 2 (put (tabOf Rows.laid_math_bits_deBruijn64tab)) }
theorem laid_met (os : Os) (args : Array Value) : laidMet Tryd.prog Rows.fnExactSlotSumRow.laid ((laidWorld os).forCall (fun _ _ => 0) ⟨#[], args, []⟩).memory :=
  laidMet_of_run' 8 (by kernel_rfl) (by kernel_rfl)
end Go.Proofs.YthlifcbkpafofaaDoor.Laid
