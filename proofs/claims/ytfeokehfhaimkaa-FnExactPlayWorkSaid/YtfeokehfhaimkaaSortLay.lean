/- The library's sort at this program's own numbers, laid by the shelf's tool. No statement. -/
import Derived.Shelf.SlGeneric
import Derived.Shelf.SlSortCmp.NoneTotal
import Derived.Ground.SlsfProg
import Derived.Test.YtfeokehfhaimkaaProg
namespace Go.Proofs.Ytfeokehfhaimkaa.Srt
open Go.Shelf Go.Proofs
def sortEx_ren:Go.Shelf.Ren:=⟨fun|6=>58|15=>73|14=>72|28=>90|29=>91|20=>82|21=>83|22=>84|23=>85|24=>86|25=>87|26=>88|27=>89|46=>93|47=>94|48=>95|49=>96|50=>97|57=>98|n=>n,fun|22=>24|24=>45|25=>86|3=>3|39=>95|0=>0|53=>111|55=>113|4=>4|46=>105|45=>104|50=>68|5=>5|9=>9|66=>115|70=>119|76=>121|77=>122|n=>n,fun|n=>n⟩
theorem sortEx:Go.Proofs.SlLaysF0.n6 Try.prog sortEx_ren:= {
 mixed:=by kernel_rfl
 f6:=⟨Try.f58.name,by decide,Try.func58.trans (congrArg some (by kernel_rfl))⟩
 f14:=⟨Try.f72.name,by decide,Try.func72.trans (congrArg some (by kernel_rfl))⟩
 f15:=Try.func73.trans (congrArg some (by kernel_rfl))
 f20:=⟨Try.f82.name,by decide,Try.func82.trans (congrArg some (by kernel_rfl))⟩
 f21:=⟨Try.f83.name,by decide,Try.func83.trans (congrArg some (by kernel_rfl))⟩
 f22:=⟨Try.f84.name,by decide,Try.func84.trans (congrArg some (by kernel_rfl))⟩
 f23:=⟨Try.f85.name,by decide,Try.func85.trans (congrArg some (by kernel_rfl))⟩
 f24:=⟨Try.f86.name,by decide,Try.func86.trans (congrArg some (by kernel_rfl))⟩
 f25:=⟨Try.f87.name,by decide,Try.func87.trans (congrArg some (by kernel_rfl))⟩
 f26:=⟨Try.f88.name,by decide,Try.func88.trans (congrArg some (by kernel_rfl))⟩
 f27:=⟨Try.f89.name,by decide,Try.func89.trans (congrArg some (by kernel_rfl))⟩
 f28:=Try.func90.trans (congrArg some (by kernel_rfl))
 f29:=Try.func91.trans (congrArg some (by kernel_rfl))
 f46:=⟨Try.f93.name,by decide,Try.func93.trans (congrArg some (by kernel_rfl))⟩
 f47:=Try.func94.trans (congrArg some (by kernel_rfl))
 f48:=Try.func95.trans (congrArg some (by kernel_rfl))
 f49:=⟨Try.f96.name,by decide,Try.func96.trans (congrArg some (by kernel_rfl))⟩
 f50:=⟨Try.f97.name,by decide,Try.func97.trans (congrArg some (by kernel_rfl))⟩
 f57:=⟨Try.f98.name,by decide,Try.func98.trans (congrArg some (by kernel_rfl))⟩
 t0:=Try.underlying0
 a0:=Try.isAgg0
 z0:=Try.sizeOf0
 v0:=Try.zeroValue0
 t3:=Try.underlying3
 a3:=Try.isAgg3
 z3:=Try.sizeOf3
 v3:=Try.zeroValue3
 t4:=Try.underlying4
 a4:=Try.isAgg4
 z4:=Try.sizeOf4
 v4:=Try.zeroValue4
 t5:=Try.underlying5
 a5:=Try.isAgg5
 z5:=Try.sizeOf5
 v5:=Try.zeroValue5
 t9:=Try.underlying9
 a9:=Try.isAgg9
 z9:=Try.sizeOf9
 v9:=Try.zeroValue9
 t22:=Try.underlying24
 a22:=Try.isAgg24
 z22:=Try.sizeOf24
 v22:=Try.zeroValue24
 t25:=Try.underlying86
 a25:=Try.isAgg86
 z25:=Try.sizeOf86
 v25:=Try.zeroValue86
 t39:=Try.underlying95
 a39:=Try.isAgg95
 z39:=Try.sizeOf95
 v39:=Try.zeroValue95
 t45:=Try.underlying104
 a45:=Try.isAgg104
 z45:=Try.sizeOf104
 v45:=Try.zeroValue104
 t46:=Try.underlying105
 a46:=Try.isAgg105
 z46:=Try.sizeOf105
 v46:=Try.zeroValue105
 t50:=Try.underlying68
 a50:=Try.isAgg68
 z50:=Try.sizeOf68
 v50:=Try.zeroValue68
 t53:=Try.underlying111
 a53:=Try.isAgg111
 z53:=Try.sizeOf111
 v53:=Try.zeroValue111
 t55:=Try.underlying113
 a55:=Try.isAgg113
 z55:=Try.sizeOf113
 v55:=Try.zeroValue113
 t66:=Try.underlying115
 a66:=Try.isAgg115
 z66:=Try.sizeOf115
 v66:=Try.zeroValue115
 t70:=Try.underlying119
 a70:=Try.isAgg119
 z70:=Try.sizeOf119
 v70:=Try.zeroValue119
 t76:=Try.underlying121
 a76:=Try.isAgg121
 z76:=Try.sizeOf121
 v76:=Try.zeroValue121
 t77:=Try.underlying122
 a77:=Try.isAgg122
 z77:=Try.sizeOf122
 v77:=Try.zeroValue122}
end Go.Proofs.Ytfeokehfhaimkaa.Srt
