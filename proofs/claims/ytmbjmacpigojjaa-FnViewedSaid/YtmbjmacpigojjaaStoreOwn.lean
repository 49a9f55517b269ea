import Derived.Test.YtmbjmacpigojjaaTxnBase
import Derived.Test.YtmbjmacpigojjaaG2
import Derived.Test.YtmbjmacpigojjaaG6
namespace Go.Proofs.Ytmbjmacpigojjaa.Q
open Go.RowKit Go.Proofs.YtmbjmacpigojjaaW.PrintWords Go.Proofs.Ytmbjmacpigojjaa.G
set_option linter.unusedVariables false
set_option linter.unusedSimpArgs false
theorem My(S:List ByteArray)(P:List Wr)(L:List ByteArray)(n:Int)(hS:S.length≤1048576)(hP:P.length≤1048576)(hL:L.length≤1048576):rG.f S P L n=some (S,P,L,n):=by
 unfold rG.f sI.f;simp only[Option.bind_some,List.nil_append,List.length_nil,Nat.zero_add];rw[if_pos (by omega),if_pos (by omega)];simp only[Option.bind_some];rw[if_pos (by omega)]
theorem Mz(S:List ByteArray)(P:List Wr)(L:List ByteArray)(n:Int)(hS:S.length≤1048576)(hP:P.length≤1048576)(hL:L.length≤1048576):kw.f S P L n=some (S,P,L,n):=by
 unfold kw.f mR.f ya.f;rw[if_pos (by omega),if_pos (by omega),if_pos (by omega)]
 rfl
end Go.Proofs.Ytmbjmacpigojjaa.Q
