/- math/bits.Mul at this program's own numbers, laid by the shelf's tool. No statement. -/
import Derived.Shelf.LaysM
import Derived.Shelf.Bits.Mul64
import Derived.Ground.NamesProg
import Derived.Test.YtdclpgcmeabmbaaProg
namespace Go.Proofs.Ytdclpgcmeabmbaa.Rp
open Go.Shelf Go.Proofs
def mulEx_ren : Go.Shelf.Ren := ⟨fun | 212 => 51 | 263 => 59 | 264 => 60 | n => n, fun | 46 => 74 | 51 => 94 | 146 => 95 | 53 => 97 | 148 => 98 | n => n, fun | n => n⟩
theorem mulEx : Go.Proofs.LaysM.n212 Try.prog mulEx_ren := {
  mixed := by kernel_rfl
  f212 := Try.func51.trans (congrArg some (by kernel_rfl))
  f263 := Try.func59.trans (congrArg some (by kernel_rfl))
  f264 := Try.func60.trans (congrArg some (by kernel_rfl))
  t46 := Try.underlying74
  a46 := Try.isAgg74
  z46 := Try.sizeOf74
  v46 := Try.zeroValue74
  t51 := Try.underlying94
  a51 := Try.isAgg94
  z51 := Try.sizeOf94
  v51 := Try.zeroValue94
  t53 := Try.underlying97
  a53 := Try.isAgg97
  z53 := Try.sizeOf97
  v53 := Try.zeroValue97
  t146 := Try.underlying95
  a146 := Try.isAgg95
  z146 := Try.sizeOf95
  v146 := Try.zeroValue95
  t148 := Try.underlying98
  a148 := Try.isAgg98
  z148 := Try.sizeOf98
  v148 := Try.zeroValue98
  i46 := by kernel_rfl
  i51 := by kernel_rfl
  i53 := by kernel_rfl
  i146 := by kernel_rfl
  i148 := by kernel_rfl }
end Go.Proofs.Ytdclpgcmeabmbaa.Rp
