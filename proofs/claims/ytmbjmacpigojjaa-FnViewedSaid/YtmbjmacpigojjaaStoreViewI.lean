import Derived.Test.YtmbjmacpigojjaaStoreSeen
import Derived.Test.YtmbjmacpigojjaaStorePerf
import Derived.Test.YtmbjmacpigojjaaG7
namespace Go.Proofs.Ytmbjmacpigojjaa.Q
open Go.RowKit Go.Proofs.YtmbjmacpigojjaaW.PrintWords Go.Proofs.Ytmbjmacpigojjaa.G
set_option linter.unusedVariables false
set_option linter.unusedSimpArgs false
theorem Dx(S:List ByteArray)(P:List Wr)(L:List ByteArray)(n:Int)(hS:S.length≤1048576)(hP:P.length≤1048576)(hL:L.length≤1048576)(sL:jY L):Ev (fun k=>gM.f k S P L n) (Ei S P L n):=by
 have h1:=Dv S P L n hS hP hL sL;unfold gM.f
 by_cases c1:fd S P L n
 ·rw[By c1]
  obtain⟨a,b,c,d⟩:=Sj c1;exact Ev.bind' _ h1 (Ev.pos (jl.2 c1) (Ev.bind' _ (Lu S P a.1 a.2 c) (Ev.bind' _ (IS L hL sL) (Ev.bind' _ (SX _ _ b.1 b.2 d) (Ev.now _)))))
 ·rw[viewRes_no c1]
  exact Ev.bind' _ h1 (Ev.neg (fun e=>c1 (jl.1 e)) (Ev.now _))
end Go.Proofs.Ytmbjmacpigojjaa.Q
