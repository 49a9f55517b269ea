/- math/bits.Mul at this program's own numbers, laid by the shelf's tool. No statement. -/
import Derived.Shelf.LaysM
import Derived.Shelf.Bits.Mul64
import Derived.Ground.NamesProg
import Derived.Test.YtgpjnkahgofpmaaDoorProg
namespace Go.Proofs.YtgpjnkahgofpmaaDoor.Rp
open Go.Shelf Go.Proofs
def XO:Go.Shelf.Ren:=⟨fun|212=>44|263=>46|264=>47|n=>n,fun|46=>63|51=>67|146=>68|53=>46|148=>70|n=>n,fun|n=>n⟩
theorem a2u:Go.Proofs.LaysM.n212 Tryd.prog XO:= {
 mixed:=by kernel_rfl
 f212:=Tryd.func44.trans (congrArg some (by kernel_rfl))
 f263:=Tryd.func46.trans (congrArg some (by kernel_rfl))
 f264:=Tryd.func47.trans (congrArg some (by kernel_rfl))
 t46:=Tryd.underlying63
 a46:=Tryd.isAgg63
 z46:=Tryd.sizeOf63
 v46:=Tryd.zeroValue63
 t51:=Tryd.underlying67
 a51:=Tryd.isAgg67
 z51:=Tryd.sizeOf67
 v51:=Tryd.zeroValue67
 t53:=Tryd.underlying46
 a53:=Tryd.isAgg46
 z53:=Tryd.sizeOf46
 v53:=Tryd.zeroValue46
 t146:=Tryd.underlying68
 a146:=Tryd.isAgg68
 z146:=Tryd.sizeOf68
 v146:=Tryd.zeroValue68
 t148:=Tryd.underlying70
 a148:=Tryd.isAgg70
 z148:=Tryd.sizeOf70
 v148:=Tryd.zeroValue70
 i46:=by kernel_rfl
 i51:=by kernel_rfl
 i53:=by kernel_rfl
 i146:=by kernel_rfl
 i148:=by kernel_rfl}
end Go.Proofs.YtgpjnkahgofpmaaDoor.Rp
