import Derived.Test.YtmbjmacpigojjaaStoreDone
import Derived.Test.YtmbjmacpigojjaaG7
namespace Go.Proofs.Ytmbjmacpigojjaa.Q
open Go.RowKit Go.Proofs.YtmbjmacpigojjaaW.PrintWords Go.Proofs.Ytmbjmacpigojjaa.G
set_option linter.unusedVariables false
set_option linter.unusedSimpArgs false
theorem Lu(S:List ByteArray)(P:List Wr)(hS:S.length≤1048576)(hP:P.length≤1000000000)(h:wB S.length P):Ev (fun k=>gb.f k S P) (dq S P):=by
 unfold gb.f;refine Ev.eB S (by unfold mR.f;exact if_pos (by omega)) ?_;refine TN (L:=fun k i=>gb.l0 k (dq S (P.take i)) P (P.length:Int) (i:Int)) (n:=P.length) ?_ ?_
 ·refine Ev.step (fun k=>by rw[gb.l0]) ?_
  exact Ev.neg (by omega) (Ev.now' (by rw[List.take_length]))
 ·intro i hi next
  have hw:=h i hi;refine Ev.step (fun k=>by rw[gb.l0]) ?_;rw[kG,eD (x:=(i:Int)+1) (by omega) (by omega)];rw[Lw S P i hi]at next;exact Ev.pos (by omega) (Ev.pos (by omega) (Ev.pos (by omega) (Ev.eB true rfl (Ev.pos rfl (Ev.pos hw.1 (Ev.pos (by rw[mS];exact hw.2) next))))))
theorem SX(S:List ByteArray)(P:List Wr)(hS:S.length≤1048576)(hP:P.length≤1000000000)(h:wB S.length P):Ev (fun k=>ms.f k S P) (dq S P):=by
 unfold ms.f;exact Ev.bind' _ (Lu S P hS hP h) (Ev.now _)
end Go.Proofs.Ytmbjmacpigojjaa.Q
