import Derived.Test.YtfdpdocbpcnkaaaStoreSeen
import Derived.Test.YtfdpdocbpcnkaaaG7
open List renaming length_take→bx,length_nil→aaS
namespace Go.Proofs.Ytfdpdocbpcnkaaa.Q
open Go.RowKit Go.Proofs.YtfdpdocbpcnkaaaW.PrintWords Go.Proofs.Ytfdpdocbpcnkaaa.G
set_option linter.unusedVariables false
set_option linter.unusedSimpArgs false
def jN(P:List Wr)(K:List Bool)(n:Nat):List Wr:=(List.range n).flatMap (fun i=>if K.getD i false=true then [P.getD i dB]else [])
theorem LI(P:List Wr)(K:List Bool)(n:Nat):jN P K (n+1)=jN P K n++(if K.getD n false=true then [P.getD n dB]else []):=by
 unfold jN;rw[List.range_succ,List.flatMap_append]
 simp
theorem Rm(P:List Wr)(K:List Bool)(n:Nat):(jN P K n).length≤n:=by
 induction n with
 |zero=>simp[jN]
 |succ n ih=>
  rw[LI,List.length_append]
  split
  ·simp only[List.length_singleton];omega
  ·simp only[aaS];omega
theorem LN {P:List Wr}{K:List Bool}{n:Nat}{w:Wr}(h:w∈jN P K n):∃i,i<n∧P.getD i dB=w:=by
 unfold jN at h;obtain⟨i,hi,h⟩:=List.mem_flatMap.1 h;rw[List.mem_range]at hi
 by_cases e:K.getD i false=true
 ·rw[if_pos e,List.mem_singleton]at h
  exact⟨i,hi,h.symm⟩
 ·rw[if_neg e]at h
  cases h
theorem a0a(P:List Wr)(K:List Bool)(hl:K.length=P.length)(hP:P.length≤1000000000):Ev (fun k=>gW.f k P K) (jN P K P.length):=by
 unfold gW.f;refine IP (L:=fun k i=>gW.l0 k K (jN P K i) P (P.length:Int) (i:Int)) (n:=P.length) ?_ ?_
 ·refine Ev.step (fun k=>by rw[gW.l0]) ?_
  exact Ev.neg (by omega) (Ev.now _)
 ·intro i hi next
  have hk:=Rm P K i;refine Ev.step (fun k=>by rw[gW.l0]) ?_;rw[jV,nH,dO (x:=(i:Int)+1) (by omega) (by omega)];rw[LI]at next;refine Ev.pos (by omega) (Ev.pos (by omega) (Ev.pos (by omega) (Ev.pos (by omega) ?_)))
  by_cases e:K.getD i false=true
  ·rw[if_pos e]at next
   exact Ev.pos e (Ev.pos (by omega) next)
  ·rw[if_neg e,List.append_nil]at next
   exact Ev.neg e next
theorem Yx(S:List ByteArray)(P Q:List Wr):d4 S (P++Q)=d4 (d4 S P) Q:=by
 unfold d4;rw[List.foldl_append]
theorem ZQ(S:List ByteArray)(P:List Wr)(K:List Bool)(hl:K.length=P.length)(hS:S.length≤1048576)(hP:P.length≤1000000000)(h:qT S.length P):Ev (fun k=>gq.f k S P K) (d4 S (jN P K P.length)):=by
 unfold gq.f;refine Ev.cn S (by unfold nx.f;exact if_pos (by omega)) ?_;refine IP (L:=fun k i=>gq.l0 k (d4 S (jN P K i)) P (P.length:Int) (i:Int) K) (n:=P.length) ?_ ?_
 ·refine Ev.step (fun k=>by rw[gq.l0]) ?_
  exact Ev.neg (by omega) (Ev.now _)
 ·intro i hi next
  have hw:=h i hi;refine Ev.step (fun k=>by rw[gq.l0]) ?_;rw[jV,dO (x:=(i:Int)+1) (by omega) (by omega)];rw[LI,Yx]at next;refine Ev.pos (by omega) (Ev.pos (by omega) (Ev.pos (by omega) (Ev.cn (K.getD i false) ?_ ?_)))
  ·unfold Ad.f
   rw[if_pos (by omega),if_pos (by omega),nH]
  ·by_cases e:K.getD i false=true
   ·rw[if_pos e]at next
    exact Ev.pos e (Ev.pos hw.1 (Ev.pos (by rw[ku];exact hw.2) next))
   ·rw[if_neg e]at next
    exact Ev.neg e next
theorem ZR {n:Nat}{P:List Wr}{K:List Bool}{m:Nat}(hm:m≤P.length)(h:qT n P):qT n (jN P K m):=by
 intro i hi;obtain⟨j,hj,e⟩:=LN (ul _ i dB hi);rw[←e];exact h j (by omega)
def uW(S:List ByteArray)(P:List Wr)(L:List ByteArray)(n:Int)(K:List Bool)(g:Int):Prop:=ep S P L n∧(n≤g∧g≤(L.length:Int))∧K.length=P.length
noncomputable def mS(S:List ByteArray)(P:List Wr)(L:List ByteArray)(n:Int)(K:List Bool)(g:Int):List ByteArray×List Wr×List ByteArray×Int×Bool:=by
 classical
 exact if uW S P L n K g then(d4 S (jN P K P.length),[],L.take g.toNat,g,true)else([],[],[],0,false)
theorem D6 {S:List ByteArray}{P:List Wr}{L:List ByteArray}{n:Int}{K:List Bool}{g:Int}(h:uW S P L n K g):mS S P L n K g=(d4 S (jN P K P.length),[],L.take g.toNat,g,true):=by
 classical
 unfold mS;exact if_pos h
theorem Ak {S:List ByteArray}{P:List Wr}{L:List ByteArray}{n:Int}{K:List Bool}{g:Int}(h:¬uW S P L n K g):mS S P L n K g=([],[],[],0,false):=by
 classical
 unfold mS;exact if_neg h
theorem Ry(S:List ByteArray)(P:List Wr)(L:List ByteArray)(n:Int)(K:List Bool)(g:Int)(hS:S.length≤1048576)(hP:P.length≤1048576)(hL:L.length≤1048576)(hK:K.length≤1048576)(sL:ja L):Ev (fun k=>f8.f k S P L n K g) (mS S P L n K g)∧Ev (fun k=>ez.f k S P L n K g) (mS S P L n K g):=by
 have h1:=Ai S P L n hS hP hL sL;have h2:=LE S P L n hS hP hL sL
 have no:¬uW S P L n K g→Ev (fun k=>f8.j0 k K g true S P L n) (mS S P L n K g)∧Ev (fun k=>ez.j0 k K g true S P L n) (mS S P L n K g):=fun h=>by
  rw[Ak h];exact⟨Ev.step (fun k=>by rw[f8.j0]) (Ev.pos rfl (Ev.now _)),Ev.step (fun k=>by rw[ez.j0]) (Ev.pos rfl (Ev.now _))⟩
 unfold f8.f ez.f
 by_cases c1:ep S P L n
 ·by_cases c2:n≤g∧g≤(L.length:Int)
  ·have hn:=c1.1.2.2
   have Hz:=c1.1.2.1;obtain⟨a,b,c,d⟩:=IA c1;have d1:=D0 S P (by omega) (by omega);have d2:=RQ S P (by omega) (by omega);refine⟨Ev.bind' _ h1 (Ev.pos (k8.2 c1) (Ev.cn _ (Aw _ _ _) ?_)),Ev.bind' _ h2 (Ev.pos (k8.2 c1) (Ev.cn _ (xC _ _ _) ?_))⟩
   all_goals rw[IS c2]
   all_goals by_cases c3:K.length=P.length
   ·refine Ev.step (fun k=>by rw[f8.j0]) (Ev.neg (by simp) ?_)
    rw[D6 ⟨c1,c2,c3⟩];refine Ev.bind' (d4 S (jN P K P.length),[],true) ?_ (Ev.pos rfl (Ev.cn _ rfl (Ev.pos (by omega) (Ev.pos c2.2 (Ev.pos ?_ (Ev.now _))))))
    ·unfold fd.f
     have e:((K.length:Int) !=(P.length:Int))=false:=by rw[bne_eq_false_iff_eq];omega
     rw[e];refine Ev.bind' _ d1 (Ev.pos (pE.2 c1.1.1) ?_);refine Ev.step (fun k=>by rw[fd.j0]) (Ev.neg (by simp) ?_);have hk:=Rm P K P.length;exact Ev.bind' _ (a0a P K c3 (by omega)) (Ev.bind' _ (Dc S _ hS (by omega) (ZR (Nat.le_refl _) c)) (Ev.now _))
    ·rw[bx]
     simp only[aaS]
     omega
   ·refine Ev.step (fun k=>by rw[f8.j0]) (Ev.neg (by simp) ?_)
    rw[Ak (fun h=>c3 h.2.2)];refine Ev.bind' ([],[],false) ?_ (Ev.neg (by simp) (Ev.now _));unfold fd.f
    have e:((K.length:Int) !=(P.length:Int))=true:=by rw[bne_iff_ne];omega
    rw[e];refine Ev.bind' _ d1 (Ev.pos (pE.2 c1.1.1) ?_);exact Ev.step (fun k=>by rw[fd.j0]) (Ev.pos rfl (Ev.now _))
   ·refine Ev.step (fun k=>by rw[ez.j0]) (Ev.neg (by simp) ?_)
    rw[D6 ⟨c1,c2,c3⟩];refine Ev.bind' (d4 S (jN P K P.length),[],true) ?_ (Ev.pos rfl (Ev.pos (by omega) (Ev.pos c2.2 (Ev.cn (L.take g.toNat) ?_ (Ev.now _)))))
    ·unfold oo.f
     exact Ev.bind' _ d2 (Ev.pos (pE.2 c1.1.1) (Ev.pos (by omega) (Ev.bind' _ (ZQ S P K c3 hS (by omega) c) (Ev.now _))))
    ·unfold nx.f
     exact if_pos (by rw[bx];omega)
   ·refine Ev.step (fun k=>by rw[ez.j0]) (Ev.neg (by simp) ?_)
    rw[Ak (fun h=>c3 h.2.2)];refine Ev.bind' ([],[],false) ?_ (Ev.neg (by simp) (Ev.now _));unfold oo.f;exact Ev.bind' _ d2 (Ev.pos (pE.2 c1.1.1) (Ev.neg (by omega) (Ev.now _)))
  ·obtain⟨n1,n2⟩:=no (fun h=>c2 h.2.1)
   refine⟨Ev.bind' _ h1 (Ev.pos (k8.2 c1) (Ev.cn _ (Aw _ _ _) ?_)),Ev.bind' _ h2 (Ev.pos (k8.2 c1) (Ev.cn _ (xC _ _ _) ?_))⟩
   ·rw[Db c2];exact n1
   ·rw[Db c2];exact n2
 ·obtain⟨n1,n2⟩:=no (fun h=>c1 h.1)
  exact⟨Ev.bind' _ h1 (Ev.neg (fun e=>c1 (k8.1 e)) n1),Ev.bind' _ h2 (Ev.neg (fun e=>c1 (k8.1 e)) n2)⟩
theorem crashStore_both(S:List ByteArray)(P:List Wr)(L:List ByteArray)(n:Int)(K:List Bool)(g:Int)(hS:S.length≤1048576)(hP:P.length≤1048576)(hL:L.length≤1048576)(hK:K.length≤1048576)(sS:∀i,i<S.length→(S.getD i ByteArray.empty).size≤1048576)(sL:∀i,i<L.length→(L.getD i ByteArray.empty).size≤1048576):∃r,Ev (fun k=>f8.f k S P L n K g) r∧Ev (fun k=>ez.f k S P L n K g) r∧r.1.length≤2000000∧r.2.1.length≤2000000∧r.2.2.1.length≤2000000:=by
 obtain⟨h1,h2⟩:=Ry S P L n K g hS hP hL hK sL;refine⟨_,h1,h2, ?_⟩
 by_cases c1:uW S P L n K g
 ·rw[D6 c1]
  dsimp only;rw[ku,bx];refine⟨by omega,by simp,by omega⟩
 ·rw[Ak c1]
  simp
end Go.Proofs.Ytfdpdocbpcnkaaa.Q
