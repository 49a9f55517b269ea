import Derived.Test.YtfdpdocbpcnkaaaStoreDone
import Derived.Test.YtfdpdocbpcnkaaaG7
namespace Go.Proofs.Ytfdpdocbpcnkaaa.Q
open Go.RowKit Go.Proofs.YtfdpdocbpcnkaaaW.PrintWords Go.Proofs.Ytfdpdocbpcnkaaa.G
set_option linter.unusedVariables false
set_option linter.unusedSimpArgs false
theorem RS(S:List ByteArray)(P:List Wr)(hS:S.length≤1048576)(hP:P.length≤1000000000)(h:qT S.length P):Ev (fun k=>gE.f k S P) (d4 S P):=by
 unfold gE.f;refine Ev.cn S (by unfold nx.f;exact if_pos (by omega)) ?_;refine IP (L:=fun k i=>gE.l0 k (d4 S (P.take i)) P (P.length:Int) (i:Int)) (n:=P.length) ?_ ?_
 ·refine Ev.step (fun k=>by rw[gE.l0]) ?_
  exact Ev.neg (by omega) (Ev.now' (by rw[List.take_length]))
 ·intro i hi next
  have hw:=h i hi;refine Ev.step (fun k=>by rw[gE.l0]) ?_;rw[jV,dO (x:=(i:Int)+1) (by omega) (by omega)];rw[Ra S P i hi]at next;exact Ev.pos (by omega) (Ev.pos (by omega) (Ev.pos (by omega) (Ev.cn true rfl (Ev.pos rfl (Ev.pos hw.1 (Ev.pos (by rw[ku];exact hw.2) next))))))
theorem Z3(S:List ByteArray)(P:List Wr)(hS:S.length≤1048576)(hP:P.length≤1000000000)(h:qT S.length P):Ev (fun k=>py.f k S P) (d4 S P):=by
 unfold py.f;exact Ev.bind' _ (RS S P hS hP h) (Ev.now _)
end Go.Proofs.Ytfdpdocbpcnkaaa.Q
