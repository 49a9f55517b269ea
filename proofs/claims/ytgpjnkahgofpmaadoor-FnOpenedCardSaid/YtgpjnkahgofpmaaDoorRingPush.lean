/- PushTail of the reference and of the program: the same ring. -/
import Derived.Test.YtgpjnkahgofpmaaDoorRingGood
import Derived.Test.YtgpjnkahgofpmaaDoorG2
import Derived.Test.YtgpjnkahgofpmaaDoorG4
namespace Go.Proofs.YtgpjnkahgofpmaaDoor.Q
open Go.RowKit Go.Proofs.YtgpjnkahgofpmaaDoorW.PrintWords Go.Proofs.YtgpjnkahgofpmaaDoor.G
set_option linter.unusedVariables false
theorem Ld(l:List aK)(h c t:Int)(hl:l.length≤1048576):rq.f l h c t=some (l,h,c,t):=by
 unfold rq.f;simp only[Option.bind_some,List.length_nil,Nat.zero_add,List.nil_append];rw[if_pos (by omega)]
theorem TW(l:List aK)(h c t:Int)(hl:l.length≤1048576):zE.f l h c t=some (l,h,c,t):=by
 unfold zE.f
 first|unfold wg.f|unfold impl_Slot.f
 rw[if_pos (by omega)]
 rfl
end Go.Proofs.YtgpjnkahgofpmaaDoor.Q
