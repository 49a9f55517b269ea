import Derived.Test.YtmbjmacpigojjaaStoreLog
import Derived.Test.YtmbjmacpigojjaaG4
open ByteArray renaming empty→JZ
namespace Go.Proofs.Ytmbjmacpigojjaa.Q
open Go.RowKit Go.Proofs.YtmbjmacpigojjaaW.PrintWords Go.Proofs.Ytmbjmacpigojjaa.G
set_option linter.unusedVariables false
set_option linter.unusedSimpArgs false
theorem TN {β:Type}{L:Nat→Nat→Option β}{n:Nat}{r:β}(h1:Ev (fun k=>L k n) r)(h2:∀i,i<n→Ev (fun k=>L k (i+1)) r→Ev (fun k=>L k i) r):Ev (fun k=>L k 0) r:=by
 have key:∀d i,n-i=d→i≤n→Ev (fun k=>L k i) r:=by
  intro d
  induction d with
  |zero=>
   intro i hd hi
   have:i=n:=by omega
   subst this;exact h1
  |succ d ih=>
   intro i hd hi;exact h2 i (by omega) (ih (i+1) (by omega) (by omega))
 exact key n 0 rfl (by omega)
def dq(S:List ByteArray)(P:List Wr):List ByteArray:=P.foldl (fun S w=>S.set w.f0.toNat w.f1) S
theorem mS(S:List ByteArray)(P:List Wr):(dq S P).length=S.length:=by
 unfold dq
 induction P generalizing S with
 |nil=>rfl
 |cons w P ih=>rw[List.foldl_cons,ih,List.length_set]
theorem Lw(S:List ByteArray)(P:List Wr)(i:Nat)(h:i<P.length):dq S (P.take (i+1))=(dq S (P.take i)).set (P.getD i dl).f0.toNat (P.getD i dl).f1:=by
 unfold dq;rw[IK P i dl h,List.foldl_append]
 rfl
def wB(n:Nat)(P:List Wr):Prop:=∀i,i<P.length→0≤(P.getD i dl).f0∧(P.getD i dl).f0<(n:Int)
theorem TO(S:List ByteArray)(P:List Wr)(hS:S.length≤1048576)(hP:P.length≤1000000000)(h:wB S.length P):Ev (fun k=>gx.f k S P) (dq S P):=by
 unfold gx.f;refine Ev.eB _ rfl (Ev.pos (by simp only[List.length_nil];omega) ?_);refine TN (L:=fun k i=>gx.l0 k (dq S (P.take i)) P (P.length:Int) (i:Int)) (n:=P.length) ?_ ?_
 ·refine Ev.step (fun k=>by rw[gx.l0]) ?_
  exact Ev.neg (by omega) (Ev.now' (by rw[List.take_length]))
 ·intro i hi next
  have hw:=h i hi;refine Ev.step (fun k=>by rw[gx.l0]) ?_;rw[kG,eD (x:=(i:Int)+1) (by omega) (by omega)];rw[Lw S P i hi]at next;exact Ev.pos (by omega) (Ev.pos (by omega) (Ev.pos (by omega) (Ev.pos hw.1 (Ev.pos (by rw[mS];exact hw.2) next))))
theorem Vk {n:Nat}(hn:1≤n∧n≤32){P:List Wr}(h:∀i,i<P.length→o6 (n:Int) (P.getD i dl)):wB n P:=by
 intro i hi;have h1:=(h i hi).1;rw[eD (x:=(n:Int)-1) (by omega) (by omega)]at h1
 omega
theorem OO {n:Int}{L:List ByteArray}(h:∀i,i<L.length→rl n (L.getD i ByteArray.empty)):∀w,w∈dw L→o6 n w:=by
 intro w hw;unfold dw at hw;obtain⟨t,ht,hw⟩:=List.mem_flatMap.1 hw;obtain⟨i,hi,e⟩:=List.mem_iff_getElem.1 ht;have hg:=h i hi;rw[xL L i _ hi,e]at hg;obtain⟨j,hj,e2⟩:=List.mem_iff_getElem.1 hw;have:=(hg.2.1 j hj).1;rw[xL _ j _ hj,e2]at this;exact this
theorem getD_take {α:Type}{L:List α}{i n:Nat}{z:α}(h:i<n):(L.take n).getD i z=L.getD i z:=by simp[List.getD_eq_getElem?_getD,h]
theorem Ib {n:Int}{L:List ByteArray}(m:Nat)(h:∀i,i<L.length→rl n (L.getD i ByteArray.empty)):∀i,i<(L.take m).length→rl n ((L.take m).getD i ByteArray.empty):=by
 intro i hi;rw[List.length_take]at hi;rw[getD_take (by omega)];exact h i (by omega)
theorem TP {n:Nat}(hn:1≤n∧n≤32){L:List ByteArray}(h:∀i,i<L.length→rl (n:Int) (L.getD i JZ)):wB n (dw L):=
 Vk hn fun i hi=>OO h _ (yt _ _ _ hi)
end Go.Proofs.Ytmbjmacpigojjaa.Q
