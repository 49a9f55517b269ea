import Derived.Test.YtmbjmacpigojjaaStoreGood
import Derived.Test.YtmbjmacpigojjaaStoreOwn
import Derived.Test.YtmbjmacpigojjaaG3
import Derived.Test.YtmbjmacpigojjaaG7
namespace Go.Proofs.Ytmbjmacpigojjaa.Q
open Go.RowKit Go.Proofs.YtmbjmacpigojjaaW.PrintWords Go.Proofs.Ytmbjmacpigojjaa.G
set_option linter.unusedVariables false
set_option linter.unusedSimpArgs false
noncomputable def rY(S:List ByteArray)(P:List Wr)(L:List ByteArray)(n:Int):List ByteArray×List Wr×List ByteArray×Int×Bool:=by
 classical
 exact if fd S P L n then(S,P,L,(L.length:Int),true)else([],[],[],0,false)
theorem IX {S:List ByteArray}{P:List Wr}{L:List ByteArray}{n:Int}(h:fd S P L n):rY S P L n=(S,P,L,(L.length:Int),true):=by
 classical
 unfold rY;exact if_pos h
theorem Me {S:List ByteArray}{P:List Wr}{L:List ByteArray}{n:Int}(h:¬fd S P L n):rY S P L n=([],[],[],0,false):=by
 classical
 unfold rY;exact if_neg h
theorem Mv(S:List ByteArray)(P:List Wr)(L:List ByteArray)(n:Int)(hS:S.length≤1048576)(hP:P.length≤1048576)(hL:L.length≤1048576)(sL:jY L):Ev (fun k=>oC.f k S P L n) (rY S P L n)∧Ev (fun k=>pR.f k S P L n) (rY S P L n):=by
 have h1:=IM S P L n hS hP hL sL;have h2:=Dv S P L n hS hP hL sL;unfold oC.f pR.f
 by_cases c1:fd S P L n
 ·rw[IX c1]
  exact⟨Ev.bind' _ h1 (Ev.pos (jl.2 c1) (Ev.eB _ (My S P L n hS hP hL) (Ev.now _))),Ev.bind' _ h2 (Ev.pos (jl.2 c1) (Ev.eB _ (Mz S P L n hS hP hL) (Ev.now _)))⟩
 ·rw[Me c1]
  exact⟨Ev.bind' _ h1 (Ev.neg (fun e=>c1 (jl.1 e)) (Ev.now _)),Ev.bind' _ h2 (Ev.neg (fun e=>c1 (jl.1 e)) (Ev.now _))⟩
theorem syncLog_both(S:List ByteArray)(P:List Wr)(L:List ByteArray)(n:Int)(hS:S.length≤1048576)(hP:P.length≤1048576)(hL:L.length≤1048576)(sS:∀i,i<S.length→(S.getD i ByteArray.empty).size≤1048576)(sL:∀i,i<L.length→(L.getD i ByteArray.empty).size≤1048576):∃r,Ev (fun k=>oC.f k S P L n) r∧Ev (fun k=>pR.f k S P L n) r∧r.1.length≤2000000∧r.2.1.length≤2000000∧r.2.2.1.length≤2000000:=by
 obtain⟨h1,h2⟩:=Mv S P L n hS hP hL sL;refine⟨_,h1,h2, ?_⟩
 by_cases c1:fd S P L n
 ·rw[IX c1]
  dsimp only
  omega
 ·rw[Me c1]
  simp
end Go.Proofs.Ytmbjmacpigojjaa.Q
