import Derived.Test.YtfdpdocbpcnkaaaStoreBase
import Derived.Test.YtfdpdocbpcnkaaaG2
import Derived.Test.YtfdpdocbpcnkaaaG6
open ByteArray renaming empty→bA
open List renaming length_take→bx,take_length→aa7
namespace Go.Proofs.Ytfdpdocbpcnkaaa.Q
open Go.RowKit Go.Proofs.YtfdpdocbpcnkaaaW.PrintWords Go.Proofs.Ytfdpdocbpcnkaaa.G
set_option linter.unusedVariables false
set_option linter.unusedSimpArgs false
def pe(n:Int)(t:ByteArray):Prop:=(mT t).2=true∧lF n (mT t).1
noncomputable def eH(L:List ByteArray):List Wr:=L.flatMap (fun t=>(mT t).1)
theorem xu(L:List ByteArray):(eH L).length≤255*L.length:=by
 induction L with
 |nil=>simp[eH]
 |cons t L ih=>
  have:=Ao t;unfold eH at ih⊢;rw[List.flatMap_cons,List.length_append,List.length_cons]
  omega
theorem SO(L:List ByteArray)(i:Nat)(h:i<L.length):eH (L.take (i+1))=eH (L.take i)++(mT (L.getD i ByteArray.empty)).1:=by
 unfold eH;rw[I5 L i bA h,List.flatMap_append]
 simp
def ja(L:List ByteArray):Prop:=∀i,i<L.length→(L.getD i bA).size≤1048576
theorem D3(L:List ByteArray)(hL:L.length≤1048576)(hs:ja L)(n:Int):
 ((∀i,i<L.length→pe n (L.getD i bA))→Ev (fun k=>dk.f k L n) (eH L,true))∧
 ((¬ ∀i,i<L.length→pe n (L.getD i bA))→Ev (fun k=>dk.f k L n) ([],false)):=by
 have wl:∀i,i≤L.length→(eH (L.take i)).length≤255*1048576:=fun i hi=>by
  have:=xu (L.take i);rw[bx]at this
  omega
 have step:∀i,i<L.length→pe n (L.getD i ByteArray.empty)→∀r,Ev (fun k=>dk.l0 k n (eH (L.take (i+1))) L (L.length:Int) ((i+1:Nat):Int)) r→Ev (fun k=>dk.l0 k n (eH (L.take i)) L (L.length:Int) (i:Int)) r:=by
  intro i hi hg r next;have h1:=wl i (by omega);have h2:=Ao (L.getD i bA);refine Ev.step (fun k=>by rw[dk.l0]) ?_;rw[nH,dO (x:=(i:Int)+1) (by omega) (by omega)];refine Ev.pos (by omega) (Ev.pos (by omega) (Ev.pos (by omega) (Ev.bind' _ (RZ _ (hs i hi)) (Ev.pos hg.1 (Ev.bind' _ (IN _ (by omega) n) (Ev.pos (qJ.2 hg.2) (Ev.pos (by omega) ?_)))))));rw[SO L i hi]at next;exact next
 constructor
 ·intro hg
  unfold dk.f;refine uX (L:=fun k i=>dk.l0 k n (eH (L.take i)) L (L.length:Int) (i:Int)) (n:=L.length) (p:=fun _=>True) ?_ ?_ ?_
  ·intro _
   refine Ev.step (fun k=>by rw[dk.l0]) ?_;exact Ev.neg (by omega) (Ev.now' (by rw[aa7]))
  ·intro i hi _ _ next
   exact step i hi (hg i hi) _ next
  ·intro i hi _ h
   exact absurd trivial h
 ·intro hg
  unfold dk.f;refine uX (L:=fun k i=>dk.l0 k n (eH (L.take i)) L (L.length:Int) (i:Int)) (n:=L.length) (p:=fun i=>pe n (L.getD i bA)) ?_ ?_ ?_
  ·intro h
   exact absurd h hg
  ·intro i hi _ h next
   exact step i hi h _ next
  ·intro i hi _ h
   have h2:=Ao (L.getD i bA);refine Ev.step (fun k=>by rw[dk.l0]) ?_;rw[nH];refine Ev.pos (by omega) (Ev.pos (by omega) (Ev.pos (by omega) (Ev.bind' _ (RZ _ (hs i hi)) ?_)))
   by_cases h3:(mT (L.getD i bA)).2=true
   ·refine Ev.pos h3 (Ev.bind' _ (IN _ (by omega) n) (Ev.neg ?_ (Ev.now _)))
    intro e;exact h ⟨h3,qJ.1 e⟩
   ·exact Ev.neg h3 (Ev.now _)
theorem RY(L:List ByteArray)(hL:L.length≤1048576)(hs:ja L):Ev (fun k=>g7.f k L) (eH L):=by
 have wl:∀i,i≤L.length→(eH (L.take i)).length≤255*1048576:=fun i hi=>by
  have:=xu (L.take i);rw[bx]at this
  omega
 unfold g7.f;refine uX (L:=fun k i=>g7.l0 k (eH (L.take i)) L (L.length:Int) (i:Int)) (n:=L.length) (p:=fun _=>True) ?_ ?_ ?_
 ·intro _
  refine Ev.step (fun k=>by rw[g7.l0]) ?_;exact Ev.neg (by omega) (Ev.now' (by rw[aa7]))
 ·intro i hi _ _ next
  have h1:=wl i (by omega);have h2:=Ao (L.getD i bA);refine Ev.step (fun k=>by rw[g7.l0]) ?_;rw[nH,dO (x:=(i:Int)+1) (by omega) (by omega)];refine Ev.pos (by omega) (Ev.pos (by omega) (Ev.pos (by omega) (Ev.bind' _ (LH _ (hs i hi)) (Ev.pos (by omega) ?_))));rw[SO L i hi]at next;exact next
 ·intro i hi _ h
  exact absurd trivial h
theorem Am {L:List ByteArray}(h:ja L)(n:Nat):ja (L.take n):=by
 intro i hi;rw[bx]at hi
 have e:(L.take n).getD i bA=L.getD i bA:=by simp[List.getD_eq_getElem?_getD,show i<n by omega]
 rw[e];exact h i (by omega)
end Go.Proofs.Ytfdpdocbpcnkaaa.Q
