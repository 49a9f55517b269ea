/- The tables that every row of this seat lists: what their cards want besides. Templates: DeepNtProofs, ToyasCard. -/
import Derived.Test.YtgpjnkahgofpmaaDoorRows
import Derived.Test.YtgpjnkahgofpmaaDoorTabItoa
import Derived.Deep.DeepHandedRow
import Derived.Lib.LaidTab
import Derived.Shelf.LaysM
import Derived.Stop.LaidErr
import Derived.MakeChecks
import Derived.ProofKit
namespace Go.Proofs.YtgpjnkahgofpmaaDoor.Laid
open Go.RowKit
theorem g3:Tryd.prog.globalNamed "internal/strconv.uint64pow10" =some 0:=by kernel_rfl
theorem YW {W:World}(h:laidMetH Tryd.prog Rows.fnOpenedRow.laid W):Ito.lz W:=by
 rw[Go.MakeChecks.laidMetH_plain _ _ _ (by kernel_rfl)]at h;exact Lib.tabIs_of_head (t:=78) (e:=46) (n:=20) g3 (by kernel_rfl) (by kernel_rfl) (by kernel_rfl) (by kernel_rfl) (by kernel_rfl) (laidMet.tail (laidMet.tail h))
def KX:DataW Unit→List Value
 | .agg l=>l.map fun| .lit (.int k z)=> .int k z|_=> .int .u8 0
 |_=>[]
def put(l:List Value):Obj→Obj
 | .cells _ t frozen=> .cells l.toArray t frozen
 |o=>o
noncomputable def Fs(os:Os):World:=
 {World.holding Tryd.prog os ⟨#[],#[],[]⟩with heap:=(((World.holding Tryd.prog os ⟨#[],#[],[]⟩).heap.modify 0 (put (KX Rows.laid_internal_strconv_uint64pow10))).modify 1 (put (KX Rows.laid_math_bits_deBruijn32tab))).modify 2 (put (KX Rows.laid_math_bits_deBruijn64tab))}
theorem Xs(os:Os)(args:Array Value):laidMet Tryd.prog Rows.fnOpenedRow.laid ((Fs os).forCall (fun _ _=>0) ⟨#[],args,[]⟩).memory:=
 laidMet_of_run' 8 (by kernel_rfl) (by kernel_rfl)
end Go.Proofs.YtgpjnkahgofpmaaDoor.Laid
