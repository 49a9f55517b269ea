import Derived.Test.YtmbjmacpigojjaaStoreGood
import Derived.Test.YtmbjmacpigojjaaStoreDone
namespace Go.Proofs.Ytmbjmacpigojjaa.Q
open Go.RowKit Go.Proofs.YtmbjmacpigojjaaW.PrintWords Go.Proofs.Ytmbjmacpigojjaa.G
set_option linter.unusedVariables false
set_option linter.unusedSimpArgs false
theorem JX {S:List ByteArray}{P:List Wr}{L:List ByteArray}{n:Int}(h:fd S P L n):(1≤S.length∧S.length≤32)∧P.length≤60∧wB S.length P:=
 ⟨h.1.1.2.1,h.1.1.2.2,Vk h.1.1.2.1 h.1.1.1.2⟩
noncomputable def k6(S:List ByteArray)(P:List Wr)(L:List ByteArray):List ByteArray:=dq (dq S P) (dw L)
theorem Sg(S:List ByteArray)(P:List Wr)(L:List ByteArray):(k6 S P L).length=S.length:=by
 unfold k6;rw[mS,mS]
noncomputable def Ei(S:List ByteArray)(P:List Wr)(L:List ByteArray)(n:Int):List ByteArray×Bool:=by
 classical
 exact if fd S P L n then(k6 S P L,true)else([],false)
theorem By {S:List ByteArray}{P:List Wr}{L:List ByteArray}{n:Int}(h:fd S P L n):Ei S P L n=(k6 S P L,true):=by
 classical
 unfold Ei;exact if_pos h
theorem viewRes_no {S:List ByteArray}{P:List Wr}{L:List ByteArray}{n:Int}(h:¬fd S P L n):Ei S P L n=([],false):=by
 classical
 unfold Ei;exact if_neg h
theorem Sj {S:List ByteArray}{P:List Wr}{L:List ByteArray}{n:Int}(h:fd S P L n):(S.length≤1048576∧P.length≤1000000000)∧((dq S P).length≤1048576∧(dw L).length≤1000000000)∧wB S.length P∧wB (dq S P).length (dw L):=by
 obtain⟨h1,h2,h3⟩:=JX h;have h4:=h.1.2.1;have h5:=zO L;rw[mS];exact⟨⟨by omega,by omega⟩,⟨by omega,by omega⟩,h3,TP h1 h.2.1⟩
end Go.Proofs.Ytmbjmacpigojjaa.Q
