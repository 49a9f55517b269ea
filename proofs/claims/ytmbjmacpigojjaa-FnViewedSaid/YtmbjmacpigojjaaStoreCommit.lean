import Derived.Test.YtmbjmacpigojjaaStoreGood
import Derived.Test.YtmbjmacpigojjaaStoreOwn
import Derived.Test.YtmbjmacpigojjaaG2
import Derived.Test.YtmbjmacpigojjaaG7
namespace Go.Proofs.Ytmbjmacpigojjaa.Q
open Go.RowKit Go.Proofs.YtmbjmacpigojjaaW.PrintWords Go.Proofs.Ytmbjmacpigojjaa.G
set_option linter.unusedVariables false
set_option linter.unusedSimpArgs false
noncomputable def kb(S:List ByteArray)(P:List Wr)(L:List ByteArray)(n:Int)(l:List Wr):List ByteArray×List Wr×List ByteArray×Int×Bool:=by
 classical
 exact if fd S P L n∧hZ (S.length:Int) l∧L.length≠40 then(S,P,L++[strOfNums (eg l)],n,true)else([],[],[],0,false)
theorem Ly(S:List ByteArray)(P:List Wr)(L:List ByteArray)(n:Int)(l:List Wr)(hS:S.length≤1048576)(hP:P.length≤1048576)(hL:L.length≤1048576)(hl:l.length≤1048576)(sL:jY L):Ev (fun k=>fR.f k S P L n l) (kb S P L n l)∧Ev (fun k=>gD.f k S P L n l) (kb S P L n l):=by
 classical
 have h1:=IM S P L n hS hP hL sL;have h2:=Dv S P L n hS hP hL sL;have h3:=yp l (by omega) (S.length:Int);have h4:=yr l (by omega) (S.length:Int)
 have no:¬(fd S P L n∧hZ (S.length:Int) l∧L.length≠40)→Ev (fun k=>fR.j0 k l true S P L n) (kb S P L n l)∧Ev (fun k=>gD.j0 k l true S P L n) (kb S P L n l):=fun h=>by
  unfold kb;rw[if_neg h];exact⟨Ev.step (fun k=>by rw[fR.j0]) (Ev.pos rfl (Ev.now _)),Ev.step (fun k=>by rw[gD.j0]) (Ev.pos rfl (Ev.now _))⟩
 unfold fR.f gD.f
 by_cases c1:fd S P L n
 ·by_cases c2:hZ (S.length:Int) l
  ·have e:((L.length:Int)==40)=decide (L.length=40):=by
    rw[Bool.eq_iff_iff,beq_iff_eq,decide_eq_true_iff];omega
   rw[e]
   by_cases c3:L.length=40
   ·rw[decide_eq_true c3]
    obtain⟨n1,n2⟩:=no (fun h=>h.2.2 c3);exact⟨Ev.bind' _ h1 (Ev.pos (jl.2 c1) (Ev.bind' _ h3 (Ev.pos (ki.2 c2) n1))),Ev.bind' _ h2 (Ev.pos (jl.2 c1) (Ev.bind' _ h4 (Ev.pos (ki.2 c2) n2)))⟩
   ·rw[decide_eq_false c3]
    have e2:kb S P L n l=(S,P,L++[strOfNums (eg l)],n,true):=by
     unfold kb;exact if_pos ⟨c1,c2,c3⟩
    rw[e2];have IF:=c1.1.2.1;refine⟨Ev.bind' _ h1 (Ev.pos (jl.2 c1) (Ev.bind' _ h3 (Ev.pos (ki.2 c2) ?_))),Ev.bind' _ h2 (Ev.pos (jl.2 c1) (Ev.bind' _ h4 (Ev.pos (ki.2 c2) ?_)))⟩
    ·refine Ev.step (fun k=>by rw[fR.j0]) (Ev.neg (by simp) (Ev.eB _ (My S P L n hS hP hL) (Ev.bind' _ (IW _ l c2) (Ev.pos (show L.length<8796093022208 by omega) (Ev.now _)))))
    ·refine Ev.step (fun k=>by rw[gD.j0]) (Ev.neg (by simp) (Ev.eB _ (Mz S P L n hS hP hL) (Ev.bind' _ (IV _ l c2) (Ev.pos (show L.length<8796093022208 by omega) (Ev.now _)))))
  ·obtain⟨n1,n2⟩:=no (fun h=>c2 h.2.1)
   exact⟨Ev.bind' _ h1 (Ev.pos (jl.2 c1) (Ev.bind' _ h3 (Ev.neg (fun e=>c2 (ki.1 e)) n1))),Ev.bind' _ h2 (Ev.pos (jl.2 c1) (Ev.bind' _ h4 (Ev.neg (fun e=>c2 (ki.1 e)) n2)))⟩
 ·obtain⟨n1,n2⟩:=no (fun h=>c1 h.1)
  exact⟨Ev.bind' _ h1 (Ev.neg (fun e=>c1 (jl.1 e)) n1),Ev.bind' _ h2 (Ev.neg (fun e=>c1 (jl.1 e)) n2)⟩
theorem commitOf_len(S:List ByteArray)(P:List Wr)(L:List ByteArray)(n:Int)(l:List Wr)(hS:S.length≤1048576)(hP:P.length≤1048576)(hL:L.length≤1048576):(kb S P L n l).1.length≤2000000∧(kb S P L n l).2.1.length≤2000000∧(kb S P L n l).2.2.1.length≤2000000:=by
 classical
 unfold kb
 by_cases h:fd S P L n∧hZ (S.length:Int) l∧L.length≠40
 ·rw[if_pos h]
  simp only[List.length_append,List.length_singleton]
  omega
 ·rw[if_neg h]
  simp
theorem commit_both(S:List ByteArray)(P:List Wr)(L:List ByteArray)(n:Int)(l:List Wr)(hS:S.length≤1048576)(hP:P.length≤1048576)(hL:L.length≤1048576)(hl:l.length≤1048576)(sS:∀i,i<S.length→(S.getD i ByteArray.empty).size≤1048576)(sL:∀i,i<L.length→(L.getD i ByteArray.empty).size≤1048576):∃r,Ev (fun k=>fR.f k S P L n l) r∧Ev (fun k=>gD.f k S P L n l) r∧r.1.length≤2000000∧r.2.1.length≤2000000∧r.2.2.1.length≤2000000:=by
 obtain⟨h1,h2⟩:=Ly S P L n l hS hP hL hl sL;exact⟨_,h1,h2,commitOf_len S P L n l hS hP hL⟩
end Go.Proofs.Ytmbjmacpigojjaa.Q
