import Derived.Test.YtfdpdocbpcnkaaaStoreLog
import Derived.Test.YtfdpdocbpcnkaaaG2
open ByteArray renaming empty→bA
namespace Go.Proofs.Ytfdpdocbpcnkaaa.Q
open Go.RowKit Go.Proofs.YtfdpdocbpcnkaaaW.PrintWords Go.Proofs.Ytfdpdocbpcnkaaa.G
set_option linter.unusedVariables false
set_option linter.unusedSimpArgs false
theorem IP {β:Type}{L:Nat→Nat→Option β}{n:Nat}{r:β}(h1:Ev (fun k=>L k n) r)(h2:∀i,i<n→Ev (fun k=>L k (i+1)) r→Ev (fun k=>L k i) r):Ev (fun k=>L k 0) r:=by
 have key:∀d i,n-i=d→i≤n→Ev (fun k=>L k i) r:=by
  intro d
  induction d with
  |zero=>
   intro i hd hi
   have:i=n:=by omega
   subst this;exact h1
  |succ d ih=>
   intro i hd hi;exact h2 i (by omega) (ih (i+1) (by omega) (by omega))
 exact key n 0 rfl (by omega)
def d4(S:List ByteArray)(P:List Wr):List ByteArray:=P.foldl (fun S w=>S.set w.f0.toNat w.f1) S
theorem ku(S:List ByteArray)(P:List Wr):(d4 S P).length=S.length:=by
 unfold d4
 induction P generalizing S with
 |nil=>rfl
 |cons w P ih=>rw[List.foldl_cons,ih,List.length_set]
theorem Ra(S:List ByteArray)(P:List Wr)(i:Nat)(h:i<P.length):d4 S (P.take (i+1))=(d4 S (P.take i)).set (P.getD i dB).f0.toNat (P.getD i dB).f1:=by
 unfold d4;rw[I5 P i dB h,List.foldl_append]
 rfl
def qT(n:Nat)(P:List Wr):Prop:=∀i,i<P.length→0≤(P.getD i dB).f0∧(P.getD i dB).f0<(n:Int)
theorem Dc(S:List ByteArray)(P:List Wr)(hS:S.length≤1048576)(hP:P.length≤1000000000)(h:qT S.length P):Ev (fun k=>eQ.f k S P) (d4 S P):=by
 unfold eQ.f;refine Ev.cn _ rfl (Ev.pos (by simp only[List.length_nil];omega) ?_);refine IP (L:=fun k i=>eQ.l0 k (d4 S (P.take i)) P (P.length:Int) (i:Int)) (n:=P.length) ?_ ?_
 ·refine Ev.step (fun k=>by rw[eQ.l0]) ?_
  exact Ev.neg (by omega) (Ev.now' (by rw[List.take_length]))
 ·intro i hi next
  have hw:=h i hi;refine Ev.step (fun k=>by rw[eQ.l0]) ?_;rw[jV,dO (x:=(i:Int)+1) (by omega) (by omega)];rw[Ra S P i hi]at next;exact Ev.pos (by omega) (Ev.pos (by omega) (Ev.pos (by omega) (Ev.pos hw.1 (Ev.pos (by rw[ku];exact hw.2) next))))
theorem SN {n:Nat}(hn:1≤n∧n≤32){P:List Wr}(h:∀i,i<P.length→nw (n:Int) (P.getD i dB)):qT n P:=by
 intro i hi;have h1:=(h i hi).1;rw[dO (x:=(n:Int)-1) (by omega) (by omega)]at h1
 omega
theorem NJ {n:Int}{L:List ByteArray}(h:∀i,i<L.length→pe n (L.getD i ByteArray.empty)):∀w,w∈eH L→nw n w:=by
 intro w hw;unfold eH at hw;obtain⟨t,ht,hw⟩:=List.mem_flatMap.1 hw;obtain⟨i,hi,e⟩:=List.mem_iff_getElem.1 ht;have hg:=h i hi;rw[vC L i _ hi,e]at hg;obtain⟨j,hj,e2⟩:=List.mem_iff_getElem.1 hw;have:=(hg.2.1 j hj).1;rw[vC _ j _ hj,e2]at this;exact this
theorem Zz {α:Type}{L:List α}{i n:Nat}{z:α}(h:i<n):(L.take n).getD i z=L.getD i z:=by simp[List.getD_eq_getElem?_getD,h]
theorem An {n:Int}{L:List ByteArray}(m:Nat)(h:∀i,i<L.length→pe n (L.getD i ByteArray.empty)):∀i,i<(L.take m).length→pe n ((L.take m).getD i ByteArray.empty):=by
 intro i hi;rw[List.length_take]at hi;rw[Zz (by omega)];exact h i (by omega)
theorem S5 {n:Nat}(hn:1≤n∧n≤32){L:List ByteArray}(h:∀i,i<L.length→pe (n:Int) (L.getD i bA)):qT n (eH L):=
 SN hn fun i hi=>NJ h _ (ul _ _ _ hi)
end Go.Proofs.Ytfdpdocbpcnkaaa.Q
