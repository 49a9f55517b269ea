import Derived.Test.YtmbjmacpigojjaaStoreBase
import Derived.Test.YtmbjmacpigojjaaG2
import Derived.Test.YtmbjmacpigojjaaG6
open ByteArray renaming empty→JZ
open List renaming length_take→fu,take_length→aaP
namespace Go.Proofs.Ytmbjmacpigojjaa.Q
open Go.RowKit Go.Proofs.YtmbjmacpigojjaaW.PrintWords Go.Proofs.Ytmbjmacpigojjaa.G
set_option linter.unusedVariables false
set_option linter.unusedSimpArgs false
def rl(n:Int)(t:ByteArray):Prop:=(mA t).2=true∧hZ n (mA t).1
noncomputable def dw(L:List ByteArray):List Wr:=L.flatMap (fun t=>(mA t).1)
theorem zO(L:List ByteArray):(dw L).length≤255*L.length:=by
 induction L with
 |nil=>simp[dw]
 |cons t L ih=>
  have:=C2 t;unfold dw at ih⊢;rw[List.flatMap_cons,List.length_append,List.length_cons]
  omega
theorem Vi(L:List ByteArray)(i:Nat)(h:i<L.length):dw (L.take (i+1))=dw (L.take i)++(mA (L.getD i ByteArray.empty)).1:=by
 unfold dw;rw[IK L i JZ h,List.flatMap_append]
 simp
def jY(L:List ByteArray):Prop:=∀i,i<L.length→(L.getD i JZ).size≤1048576
theorem IN(L:List ByteArray)(hL:L.length≤1048576)(hs:jY L)(n:Int):
 ((∀i,i<L.length→rl n (L.getD i JZ))→Ev (fun k=>fN.f k L n) (dw L,true))∧
 ((¬ ∀i,i<L.length→rl n (L.getD i JZ))→Ev (fun k=>fN.f k L n) ([],false)):=by
 have wl:∀i,i≤L.length→(dw (L.take i)).length≤255*1048576:=fun i hi=>by
  have:=zO (L.take i);rw[fu]at this
  omega
 have step:∀i,i<L.length→rl n (L.getD i ByteArray.empty)→∀r,Ev (fun k=>fN.l0 k n (dw (L.take (i+1))) L (L.length:Int) ((i+1:Nat):Int)) r→Ev (fun k=>fN.l0 k n (dw (L.take i)) L (L.length:Int) (i:Int)) r:=by
  intro i hi hg r next;have h1:=wl i (by omega);have h2:=C2 (L.getD i JZ);refine Ev.step (fun k=>by rw[fN.l0]) ?_;rw[m9,eD (x:=(i:Int)+1) (by omega) (by omega)];refine Ev.pos (by omega) (Ev.pos (by omega) (Ev.pos (by omega) (Ev.bind' _ (Sd _ (hs i hi)) (Ev.pos hg.1 (Ev.bind' _ (yp _ (by omega) n) (Ev.pos (ki.2 hg.2) (Ev.pos (by omega) ?_)))))));rw[Vi L i hi]at next;exact next
 constructor
 ·intro hg
  unfold fN.f;refine uG (L:=fun k i=>fN.l0 k n (dw (L.take i)) L (L.length:Int) (i:Int)) (n:=L.length) (p:=fun _=>True) ?_ ?_ ?_
  ·intro _
   refine Ev.step (fun k=>by rw[fN.l0]) ?_;exact Ev.neg (by omega) (Ev.now' (by rw[aaP]))
  ·intro i hi _ _ next
   exact step i hi (hg i hi) _ next
  ·intro i hi _ h
   exact absurd trivial h
 ·intro hg
  unfold fN.f;refine uG (L:=fun k i=>fN.l0 k n (dw (L.take i)) L (L.length:Int) (i:Int)) (n:=L.length) (p:=fun i=>rl n (L.getD i JZ)) ?_ ?_ ?_
  ·intro h
   exact absurd h hg
  ·intro i hi _ h next
   exact step i hi h _ next
  ·intro i hi _ h
   have h2:=C2 (L.getD i JZ);refine Ev.step (fun k=>by rw[fN.l0]) ?_;rw[m9];refine Ev.pos (by omega) (Ev.pos (by omega) (Ev.pos (by omega) (Ev.bind' _ (Sd _ (hs i hi)) ?_)))
   by_cases h3:(mA (L.getD i JZ)).2=true
   ·refine Ev.pos h3 (Ev.bind' _ (yp _ (by omega) n) (Ev.neg ?_ (Ev.now _)))
    intro e;exact h ⟨h3,ki.1 e⟩
   ·exact Ev.neg h3 (Ev.now _)
theorem IS(L:List ByteArray)(hL:L.length≤1048576)(hs:jY L):Ev (fun k=>fy.f k L) (dw L):=by
 have wl:∀i,i≤L.length→(dw (L.take i)).length≤255*1048576:=fun i hi=>by
  have:=zO (L.take i);rw[fu]at this
  omega
 unfold fy.f;refine uG (L:=fun k i=>fy.l0 k (dw (L.take i)) L (L.length:Int) (i:Int)) (n:=L.length) (p:=fun _=>True) ?_ ?_ ?_
 ·intro _
  refine Ev.step (fun k=>by rw[fy.l0]) ?_;exact Ev.neg (by omega) (Ev.now' (by rw[aaP]))
 ·intro i hi _ _ next
  have h1:=wl i (by omega);have h2:=C2 (L.getD i JZ);refine Ev.step (fun k=>by rw[fy.l0]) ?_;rw[m9,eD (x:=(i:Int)+1) (by omega) (by omega)];refine Ev.pos (by omega) (Ev.pos (by omega) (Ev.pos (by omega) (Ev.bind' _ (IR _ (hs i hi)) (Ev.pos (by omega) ?_))));rw[Vi L i hi]at next;exact next
 ·intro i hi _ h
  exact absurd trivial h
theorem C1 {L:List ByteArray}(h:jY L)(n:Nat):jY (L.take n):=by
 intro i hi;rw[fu]at hi
 have e:(L.take n).getD i JZ=L.getD i JZ:=by simp[List.getD_eq_getElem?_getD,show i<n by omega]
 rw[e];exact h i (by omega)
end Go.Proofs.Ytmbjmacpigojjaa.Q
