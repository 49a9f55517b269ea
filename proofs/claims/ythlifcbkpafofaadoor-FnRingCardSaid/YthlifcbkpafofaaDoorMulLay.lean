/- math/bits.Mul at this program's own numbers, laid by the shelf's tool. No statement. -/
import Derived.Shelf.LaysM
import Derived.Shelf.Bits.Mul64
import Derived.Ground.NamesProg
import Derived.Test.YthlifcbkpafofaaDoorProg
namespace Go.Proofs.YthlifcbkpafofaaDoor.Rp
open Go.Shelf Go.Proofs
def mulEx_ren : Go.Shelf.Ren := ⟨fun | 212 => 73 | 263 => 77 | 264 => 78 | n => n, fun | 46 => 85 | 51 => 91 | 146 => 92 | 53 => 78 | 148 => 94 | n => n, fun | n => n⟩
theorem mulEx : Go.Proofs.LaysM.n212 Tryd.prog mulEx_ren := {
  mixed := by kernel_rfl
  f212 := Tryd.func73.trans (congrArg some (by kernel_rfl))
  f263 := Tryd.func77.trans (congrArg some (by kernel_rfl))
  f264 := Tryd.func78.trans (congrArg some (by kernel_rfl))
  t46 := Tryd.underlying85
  a46 := Tryd.isAgg85
  z46 := Tryd.sizeOf85
  v46 := Tryd.zeroValue85
  t51 := Tryd.underlying91
  a51 := Tryd.isAgg91
  z51 := Tryd.sizeOf91
  v51 := Tryd.zeroValue91
  t53 := Tryd.underlying78
  a53 := Tryd.isAgg78
  z53 := Tryd.sizeOf78
  v53 := Tryd.zeroValue78
  t146 := Tryd.underlying92
  a146 := Tryd.isAgg92
  z146 := Tryd.sizeOf92
  v146 := Tryd.zeroValue92
  t148 := Tryd.underlying94
  a148 := Tryd.isAgg94
  z148 := Tryd.sizeOf94
  v148 := Tryd.zeroValue94
  i46 := by kernel_rfl
  i51 := by kernel_rfl
  i53 := by kernel_rfl
  i146 := by kernel_rfl
  i148 := by kernel_rfl }
end Go.Proofs.YthlifcbkpafofaaDoor.Rp
