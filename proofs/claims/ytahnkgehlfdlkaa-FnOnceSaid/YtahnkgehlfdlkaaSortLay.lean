/- The library's sort at this program's own numbers, laid by the shelf's tool. No statement. -/
import Derived.Shelf.SlGeneric
import Derived.Shelf.SlSortCmp.NoneTotal
import Derived.Ground.SlsfProg
import Derived.Test.YtahnkgehlfdlkaaProg
namespace Go.Proofs.Ytahnkgehlfdlkaa.Srt
open Go.Shelf Go.Proofs
def sortEx_ren:Go.Shelf.Ren:=⟨fun|6=>57|15=>61|14=>60|28=>72|29=>73|20=>64|21=>65|22=>66|23=>67|24=>68|25=>69|26=>70|27=>71|46=>75|47=>76|48=>77|49=>78|50=>79|57=>80|n=>n,fun|22=>23|24=>38|25=>93|3=>3|39=>88|0=>0|53=>107|55=>45|4=>4|46=>101|45=>100|50=>56|5=>5|9=>9|66=>109|70=>113|76=>115|77=>116|n=>n,fun|n=>n⟩
theorem sortEx:Go.Proofs.SlLaysF0.n6 Try.prog sortEx_ren:= {
 mixed:=by kernel_rfl
 f6:=⟨Try.f57.name,by decide,Try.func57.trans (congrArg some (by kernel_rfl))⟩
 f14:=⟨Try.f60.name,by decide,Try.func60.trans (congrArg some (by kernel_rfl))⟩
 f15:=Try.func61.trans (congrArg some (by kernel_rfl))
 f20:=⟨Try.f64.name,by decide,Try.func64.trans (congrArg some (by kernel_rfl))⟩
 f21:=⟨Try.f65.name,by decide,Try.func65.trans (congrArg some (by kernel_rfl))⟩
 f22:=⟨Try.f66.name,by decide,Try.func66.trans (congrArg some (by kernel_rfl))⟩
 f23:=⟨Try.f67.name,by decide,Try.func67.trans (congrArg some (by kernel_rfl))⟩
 f24:=⟨Try.f68.name,by decide,Try.func68.trans (congrArg some (by kernel_rfl))⟩
 f25:=⟨Try.f69.name,by decide,Try.func69.trans (congrArg some (by kernel_rfl))⟩
 f26:=⟨Try.f70.name,by decide,Try.func70.trans (congrArg some (by kernel_rfl))⟩
 f27:=⟨Try.f71.name,by decide,Try.func71.trans (congrArg some (by kernel_rfl))⟩
 f28:=Try.func72.trans (congrArg some (by kernel_rfl))
 f29:=Try.func73.trans (congrArg some (by kernel_rfl))
 f46:=⟨Try.f75.name,by decide,Try.func75.trans (congrArg some (by kernel_rfl))⟩
 f47:=Try.func76.trans (congrArg some (by kernel_rfl))
 f48:=Try.func77.trans (congrArg some (by kernel_rfl))
 f49:=⟨Try.f78.name,by decide,Try.func78.trans (congrArg some (by kernel_rfl))⟩
 f50:=⟨Try.f79.name,by decide,Try.func79.trans (congrArg some (by kernel_rfl))⟩
 f57:=⟨Try.f80.name,by decide,Try.func80.trans (congrArg some (by kernel_rfl))⟩
 t0:=Try.underlying0
 a0:=Try.isAgg0
 z0:=Try.sizeOf0
 v0:=Try.zeroValue0
 t3:=Try.underlying3
 a3:=Try.isAgg3
 z3:=Try.sizeOf3
 v3:=Try.zeroValue3
 t4:=Try.underlying4
 a4:=Try.isAgg4
 z4:=Try.sizeOf4
 v4:=Try.zeroValue4
 t5:=Try.underlying5
 a5:=Try.isAgg5
 z5:=Try.sizeOf5
 v5:=Try.zeroValue5
 t9:=Try.underlying9
 a9:=Try.isAgg9
 z9:=Try.sizeOf9
 v9:=Try.zeroValue9
 t22:=Try.underlying23
 a22:=Try.isAgg23
 z22:=Try.sizeOf23
 v22:=Try.zeroValue23
 t25:=Try.underlying93
 a25:=Try.isAgg93
 z25:=Try.sizeOf93
 v25:=Try.zeroValue93
 t39:=Try.underlying88
 a39:=Try.isAgg88
 z39:=Try.sizeOf88
 v39:=Try.zeroValue88
 t45:=Try.underlying100
 a45:=Try.isAgg100
 z45:=Try.sizeOf100
 v45:=Try.zeroValue100
 t46:=Try.underlying101
 a46:=Try.isAgg101
 z46:=Try.sizeOf101
 v46:=Try.zeroValue101
 t50:=Try.underlying56
 a50:=Try.isAgg56
 z50:=Try.sizeOf56
 v50:=Try.zeroValue56
 t53:=Try.underlying107
 a53:=Try.isAgg107
 z53:=Try.sizeOf107
 v53:=Try.zeroValue107
 t55:=Try.underlying45
 a55:=Try.isAgg45
 z55:=Try.sizeOf45
 v55:=Try.zeroValue45
 t66:=Try.underlying109
 a66:=Try.isAgg109
 z66:=Try.sizeOf109
 v66:=Try.zeroValue109
 t70:=Try.underlying113
 a70:=Try.isAgg113
 z70:=Try.sizeOf113
 v70:=Try.zeroValue113
 t76:=Try.underlying115
 a76:=Try.isAgg115
 z76:=Try.sizeOf115
 v76:=Try.zeroValue115
 t77:=Try.underlying116
 a77:=Try.isAgg116
 z77:=Try.sizeOf116
 v77:=Try.zeroValue116}
end Go.Proofs.Ytahnkgehlfdlkaa.Srt
