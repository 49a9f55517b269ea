import Derived.Test.YtfdpdocbpcnkaaaStoreGood
import Derived.Test.YtfdpdocbpcnkaaaStoreDone
namespace Go.Proofs.Ytfdpdocbpcnkaaa.Q
open Go.RowKit Go.Proofs.YtfdpdocbpcnkaaaW.PrintWords Go.Proofs.Ytfdpdocbpcnkaaa.G
set_option linter.unusedVariables false
set_option linter.unusedSimpArgs false
theorem UK {S:List ByteArray}{P:List Wr}{L:List ByteArray}{n:Int}(h:ep S P L n):(1≤S.length∧S.length≤32)∧P.length≤60∧qT S.length P:=
 ⟨h.1.1.2.1,h.1.1.2.2,SN h.1.1.2.1 h.1.1.1.2⟩
noncomputable def lJ(S:List ByteArray)(P:List Wr)(L:List ByteArray):List ByteArray:=d4 (d4 S P) (eH L)
theorem D9(S:List ByteArray)(P:List Wr)(L:List ByteArray):(lJ S P L).length=S.length:=by
 unfold lJ;rw[ku,ku]
noncomputable def tc(S:List ByteArray)(P:List Wr)(L:List ByteArray)(n:Int):List ByteArray×Bool:=by
 classical
 exact if ep S P L n then(lJ S P L,true)else([],false)
theorem uc {S:List ByteArray}{P:List Wr}{L:List ByteArray}{n:Int}(h:ep S P L n):tc S P L n=(lJ S P L,true):=by
 classical
 unfold tc;exact if_pos h
theorem Al {S:List ByteArray}{P:List Wr}{L:List ByteArray}{n:Int}(h:¬ep S P L n):tc S P L n=([],false):=by
 classical
 unfold tc;exact if_neg h
theorem IA {S:List ByteArray}{P:List Wr}{L:List ByteArray}{n:Int}(h:ep S P L n):(S.length≤1048576∧P.length≤1000000000)∧((d4 S P).length≤1048576∧(eH L).length≤1000000000)∧qT S.length P∧qT (d4 S P).length (eH L):=by
 obtain⟨h1,h2,h3⟩:=UK h;have h4:=h.1.2.1;have h5:=xu L;rw[ku];exact⟨⟨by omega,by omega⟩,⟨by omega,by omega⟩,h3,S5 h1 h.2.1⟩
end Go.Proofs.Ytfdpdocbpcnkaaa.Q
