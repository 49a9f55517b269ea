/- A good ring, its records, one record more, the tail pushed: the program's answers as plain values. -/
import Derived.Test.YtgpjnkahgofpmaaDoorRingScan
import Derived.Test.YtgpjnkahgofpmaaDoorRingGood
import Derived.Test.YtgpjnkahgofpmaaDoorG5
open Int renaming tmod→GW,tdiv→aQ,tmod_nonneg→aat,tmod_lt_of_pos→aaw,tdiv_nonneg→aaU,le_refl→abc,mul_le_mul_of_nonneg_left→abk,mul_tdiv_add_tmod→abp
namespace Go.Proofs.YtgpjnkahgofpmaaDoor.Q
open Go.RowKit Go.Proofs.YtgpjnkahgofpmaaDoorW.PrintWords Go.Proofs.YtgpjnkahgofpmaaDoor.G
set_option linter.unusedVariables false
set_option linter.unusedSimpArgs false
noncomputable def oY(l:List Sl)(h c t:Int):Bool:=
 decide (2≤(l.length:Int)∧(l.length:Int)≤24∧0≤h∧h≤10000000∧0≤t∧t≤h∧h-t≤(l.length:Int)∧c=aQ h (l.length:Int)+1)&&gH l (l.length:Int) t l.length 0 (h-(l.length:Int))
theorem K6(l:List Sl)(h c t:Int):Ev (fun k=>ao.f k l h c t) (oY l h c t):=by
 have n2:Ev (fun k=>ao.j0 k (l.length:Int) true l h c t) false:=Ev.step (fun k=>by rw[ao.j0]) (Ev.pos rfl (Ev.now _))
 have no:∀p:Prop,[Decidable p]→¬p→∀b:Bool,(decide p&&b)=false:=fun p _ hp b=>by rw[decide_eq_false hp,Bool.false_and]
 unfold ao.f oY
 by_cases c1:2≤(l.length:Int)∧(l.length:Int)≤24
 ·by_cases c2:0≤h∧h≤10000000
  ·have e1:wrap64 (h-(l.length:Int))=h-(l.length:Int):=dc (by omega) (by omega)
   have em:mx 0 (h-(l.length:Int))=if 0<h-(l.length:Int)then h-(l.length:Int)else 0:=rfl
   rw[e1,em]
   by_cases c3:(if 0<h-(l.length:Int)then h-(l.length:Int)else 0)≤t∧t≤h
   ·have hb:0≤t∧t≤h∧h-t≤(l.length:Int):=by
     split at c3<;>omega
    have a1:0≤aQ h (l.length:Int):=aaU (by omega) (by omega);have a2:aQ h (l.length:Int)≤h:=Int.tdiv_le_self _ (by omega)
    have ed:wrap64 ((wrap64 (aQ h (l.length:Int)))+1)=aQ h (l.length:Int)+1:=by
     rw[dc (x:=aQ h (l.length:Int)) (by omega) (by omega)];exact dc (by omega) (by omega)
    rw[ed];refine Ev.bh _ (gu _ _ _) (Ev.pos (by simpa using c1) (Ev.bh _ (gu _ _ _) (Ev.pos (by simpa using c2) (Ev.bh _ (gu _ _ _) (Ev.pos (by simpa using c3) (Ev.neg (by omega) ?_))))))
    by_cases c4:c=aQ h (l.length:Int)+1
    ·rw[decide_eq_true ⟨c1.1,c1.2,c2.1,c2.2,hb.1,hb.2.1,hb.2.2,c4⟩,Bool.true_and,←c4]
     refine Ev.step (fun k=>by rw[ao.j0]) (Ev.neg (by simp) ?_);rw[e1];exact a03 l h c t (l.length:Int) rfl c1.1 c1.2 c2.1 c2.2 l.length 0 (h-(l.length:Int)) (by omega) (abc _) (by omega)
    ·have eb:(c !=(aQ h (l.length:Int)+1))=true:=by simpa using c4
     rw[eb];exact Ev.eq n2 (no _ (fun q=>c4 q.2.2.2.2.2.2.2) _).symm
   ·refine Ev.eq (Ev.bh _ (gu _ _ _) (Ev.pos (by simpa using c1) (Ev.bh _ (gu _ _ _) (Ev.pos (by simpa using c2) (Ev.bh _ (gu _ _ _) (Ev.neg (by simpa using c3) n2)))))) (no _ (fun q=>c3 ?_) _).symm
    split<;>omega
  ·exact Ev.eq (Ev.bh _ (gu _ _ _) (Ev.pos (by simpa using c1) (Ev.bh _ (gu _ _ _) (Ev.neg (by simpa using c2) n2)))) (no _ (fun q=>c2 ⟨q.2.2.1,q.2.2.2.1⟩) _).symm
 ·exact Ev.eq (Ev.bh _ (gu _ _ _) (Ev.neg (by simpa using c1) n2)) (no _ (fun q=>c1 ⟨q.1,q.2.1⟩) _).symm
structure Good(l:List Sl)(h c t:Int):Prop where
 n1:2≤(l.length:Int)
 n2:(l.length:Int)≤24
 h0:0≤h
 h1:h≤10000000
 t0:0≤t
 t1:t≤h
 ht:h-t≤(l.length:Int)
 cy:c=aQ h (l.length:Int)+1
 sc:gH l (l.length:Int) t l.length 0 (h-(l.length:Int))=true
theorem Bk {l:List Sl}{h c t:Int}:oY l h c t=true↔Good l h c t:=by
 unfold oY;rw[Bool.and_eq_true,decide_eq_true_iff];exact⟨fun⟨⟨a,b,c,d,e,f,g,i⟩,s⟩=>⟨a,b,c,d,e,f,g,i,s⟩,fun⟨a,b,c,d,e,f,g,i,s⟩=>⟨⟨a,b,c,d,e,f,g,i⟩,s⟩⟩
def ff(l:List Sl)(n:Int):Nat→Int→List ByteArray
 |0,_=>[]
 |m+1,j=>(at_ l (GW j n)).f2::ff l n m (j+1)
theorem Fl(l:List Sl)(n:Int):∀m j,(ff l n m j).length=m
 |0,_=>rfl
 |m+1,j=>by rw[ff,List.length_cons,Fl l n m]
theorem Iy(l:List Sl)(n:Int):∀ (q m:Nat) (j:Int),q≤m→(ff l n m j).drop q=ff l n (m-q) (j+(q:Int))
 |0,m,j,_=>by simp
 |q+1,0,j,h=>absurd h (by omega)
 |q+1,m+1,j,h=>by
  rw[ff,List.drop_succ_cons,Iy l n q m (j+1) (by omega),show m+1-(q+1)=m-q by omega,show j+1+(q:Int)=j+((q+1:Nat):Int) by omega]
theorem Xi(l:List Sl)(h c t:Int)(h1:2≤(l.length:Int))(h2:(l.length:Int)≤24)(h3:0≤h)(h4:h≤10000000):∀ (m:Nat) (x:Int) (acc:List ByteArray),0≤x→(h-x).toNat=m→acc.length+m≤1000000→
 Ev (fun k=>eH.l0 k acc x l h c t) (acc++ff l (l.length:Int) m x,true):=by
 intro m
 induction m with
 |zero=>
  intro x acc hx hm ha;refine Ev.step (fun k=>by rw[eH.l0]) (Ev.neg ?_ (Ev.now' (show(acc,true)=(acc++ff l (l.length:Int) 0 x,true) by rw[ff,List.append_nil])))
  omega
 |succ m ih=>
  intro x acc hx hm ha;have hw:wrap64 (x+1)=x+1:=dc (by omega) (by omega);have e:=ih (x+1) (acc++[(at_ l (GW x (l.length:Int))).f2]) (by omega) (by omega) (by simp;omega);rw[List.append_assoc,List.singleton_append]at e;have t0:0≤GW x (l.length:Int):=aat _ hx;have t1:GW x (l.length:Int)<(l.length:Int):=aaw _ (by omega);refine Ev.step (fun k=>by rw[eH.l0]) (Ev.pos (by omega) (Ev.neg (by omega) (Ev.pos t0 (Ev.pos t1 (Ev.pos (by omega) ?_)))));rw[hw,yE l _ t0];exact e
theorem K5 {l:List Sl}{h c t:Int}(G:Good l h c t):Ev (fun k=>eH.f k l h c t) (ff l (l.length:Int) (h-t).toNat t,true):=by
 unfold eH.f;have e:=K6 l h c t;rw[Bk.2 G]at e;have ht:=G.ht;have n2:=G.n2;exact Ev.bind' _ e (Ev.pos rfl (Xi l h c t G.n1 G.n2 G.h0 G.h1 (h-t).toNat t [] G.t0 rfl (by simp;omega)))
theorem AG(l:List Sl)(j i:Int)(x:Sl)(h0:0≤j)(h1:j<(l.length:Int))(i0:0≤i):at_ (l.set j.toNat x) i=if i=j then x else at_ l i:=by
 unfold at_
 by_cases e:i=j
 ·subst e
  rw[if_pos rfl,Wi _ _ _ _ (by omega)]
 ·rw[if_neg e,getD_set_ne _ _ _ _ _ (by omega)]
theorem X7 {l:List Sl}{n t:Int}{m:Nat}{k:Int}(h:gH l n t (m+1) 0 k=true)(h0:∀j:Int,0≤j→jI (at_ l j)=true→0≤(at_ l j).f1)(hn:0<n):gH l n t m 0 (k+1)=true:=by
 rw[gH]at h
 by_cases c1:k<0
 ·rw[if_pos c1]at h
  by_cases z:gM (at_ l (k+n))=true
  ·rw[if_pos z]at h
   exact h
  ·rw[if_neg z]at h
   cases h
 ·rw[if_neg c1]at h
  by_cases z:k<t∧gM (at_ l (GW k n))=true
  ·rw[if_pos z]at h
   exact h
  ·rw[if_neg z]at h
   by_cases o:jI (at_ l (GW k n))=true∧rb (at_ l (GW k n)) n t k 0
   ·rw[if_pos o]at h
    exact G6 l n t m _ 0 (k+1) (h0 _ (aat _ (by omega)) o.1) h
   ·rw[if_neg o]at h
    cases h
theorem Nq {x:Sl}(h:jI x=true):0≤x.f1:=by
 unfold jI at h;rw[Bool.and_eq_true,decide_eq_true_iff]at h;exact h.1.2.1.1
theorem YO {l:List Sl}{h c t:Int}(G:Good l h c t)(s:ByteArray)(hs:s.size≤12)(hroom:h-t<(l.length:Int))(hmax:h<10000000)(hc:c≤1000000):
 Good (l.set (GW h (l.length:Int)).toNat ⟨c,t,s,fw c t s⟩) (h+1) (aQ (h+1) (l.length:Int)+1) t:=by
 have n1:=G.n1;have n2:=G.n2;have h0:=G.h0;have t0:=G.t0;have t1:=G.t1;have h1:=G.h1;have m0:0≤GW h (l.length:Int):=aat _ h0;have m1:GW h (l.length:Int)<(l.length:Int):=aaw _ (by omega);have d0:0≤aQ h (l.length:Int):=aaU (by omega) (by omega)
 have hlen:((l.set (GW h (l.length:Int)).toNat (⟨c,t,s,fw c t s⟩:Sl)).length:Int)=(l.length:Int):=by rw[List.length_set]
 have okc:kd c t s:=by
  have e:=G.cy;unfold kd;exact⟨⟨by omega,hc⟩,⟨t0,by omega⟩,hs⟩
 refine⟨by rw[hlen];exact n1,by rw[hlen];exact n2,by omega,by omega,t0,by omega,by rw[hlen];omega,by rw[hlen], ?_⟩;rw[hlen,List.length_set];have sc:=G.sc;obtain⟨m,hm⟩:∃m,l.length=m+1:=⟨l.length-1,by omega⟩
 have peel:gH l (l.length:Int) t m 0 (h+1-(l.length:Int))=true:=by
  have e1:∀q:Nat,q=m+1→gH l (l.length:Int) t q 0 (h-(l.length:Int))=true→gH l (l.length:Int) t m 0 (h-(l.length:Int)+1)=true:=fun q hq hh=>by
   subst hq;exact X7 hh (fun j _=>Nq) (by omega)
  have e2:=e1 l.length hm sc;rw[show h+1-(l.length:Int)=h-(l.length:Int)+1 by omega];exact e2
 have hat:∀i:Int,0≤i→at_ (l.set (GW h (l.length:Int)).toNat (⟨c,t,s,fw c t s⟩:Sl)) i=if i=GW h (l.length:Int)then(⟨c,t,s,fw c t s⟩:Sl)else at_ l i:=fun i hi=>AG l _ i _ m0 m1 hi
 have fin:=Xj l (l.set (GW h (l.length:Int)).toNat (⟨c,t,s,fw c t s⟩:Sl)) (l.length:Int) t h n1 t0 t1 (fun j j0 _ jn=>by rw[hat j j0,if_neg jn])
  (by
    rw[hat _ m0,if_pos rfl];refine⟨?_,G.cy,rfl⟩;unfold jI;rw[decide_eq_true okc,Bool.true_and]
    exact beq_self_eq_true _) h0 m 0 (h+1-(l.length:Int)) (by omega) (abc _) t0 peel
 have e3:∀q:Nat,q=m+1→gH (l.set (GW h (l.length:Int)).toNat (⟨c,t,s,fw c t s⟩:Sl)) (l.length:Int) t q 0 (h+1-(l.length:Int))=true:=fun q hq=>by
  subst hq;exact fin
 exact e3 l.length hm
theorem Ix(l l':List Sl)(n:Int)(hn:0<n)(f:Int):∀ (m:Nat) (j:Int),0≤j→(∀i:Int,0≤i→i<n→i≠f→at_ l' i=at_ l i)→(∀q:Int,j≤q→q<j+(m:Int)→GW q n≠f)→ff l' n m j=ff l n m j
 |0,_,_,_,_=>rfl
 |m+1,j,h0,h,hq=>by
  rw[ff,ff,h _ (aat _ h0) (aaw _ hn) (hq j (abc _) (by omega)),Ix l l' n hn f m (j+1) (by omega) h (fun q a b=>hq q (by omega) (by omega))]
theorem O9(l:List Sl)(n:Int):∀ (m:Nat) (j:Int),ff l n (m+1) j=ff l n m j++[(at_ l (GW (j+(m:Int)) n)).f2]
 |0,j=>by simp[ff]
 |m+1,j=>by
  rw[ff,O9 l n m (j+1),ff,List.cons_append,show j+1+(m:Int)=j+((m+1:Nat):Int) by omega]
theorem zy {h k n:Int}(hn:2≤n)(h0:0≤k)(h1:k<h)(h2:h-k<n):Int.tmod k n≠Int.tmod h n:=by
 intro e;have d1:=abp k n;have d2:=abp h n
 have e3:n*(aQ h n-aQ k n)=h-k:=by rw[Int.mul_sub];omega
 rcases(show 0<aQ h n-aQ k n∨aQ h n-aQ k n≤0 by omega)with q|q
 ·have:n*1≤n*(aQ h n-aQ k n):=abk (by omega) (by omega)
  omega
 ·have:n*(aQ h n-aQ k n)≤n*0:=abk (by omega) (by omega)
  omega
theorem put_recs {l:List Sl}{h c t:Int}(G:Good l h c t)(s:ByteArray)(hroom:h-t<(l.length:Int)):
 ff (l.set (GW h (l.length:Int)).toNat ⟨c,t,s,fw c t s⟩) (l.length:Int) (h+1-t).toNat t=ff l (l.length:Int) (h-t).toNat t++[s]:=by
 have n1:=G.n1;have h0:=G.h0;have t0:=G.t0;have t1:=G.t1;have m0:0≤GW h (l.length:Int):=aat _ h0;have m1:GW h (l.length:Int)<(l.length:Int):=aaw _ (by omega)
 have hat:∀i:Int,0≤i→at_ (l.set (GW h (l.length:Int)).toNat (⟨c,t,s,fw c t s⟩:Sl)) i=if i=GW h (l.length:Int)then(⟨c,t,s,fw c t s⟩:Sl)else at_ l i:=fun i hi=>AG l _ i _ m0 m1 hi
 rw[show(h+1-t).toNat=(h-t).toNat+1 by omega,O9,show t+((h-t).toNat:Int)=h by omega,hat _ m0,if_pos rfl];rw[Ix l _ (l.length:Int) (by omega) (GW h (l.length:Int)) (h-t).toNat t t0 (fun i i0 _ ine=>by rw[hat i i0,if_neg ine]) (fun q a b=>zy n1 (by omega) (by omega) (by omega))]
theorem push_good {l:List Sl}{h c t m:Int}(G:Good l h c t)(h0:0≤m)(h1:m≤h-t):Good l h c (t+m):=by
 have a1:=G.t0;have a2:=G.t1;have a3:=G.ht;exact⟨G.n1,G.n2,G.h0,G.h1,by omega,by omega,by omega,G.cy,Fr l _ t (t+m) (by omega) l.length 0 _ G.sc⟩
theorem push_recs {l:List Sl}{h c t m:Int}(G:Good l h c t)(h0:0≤m)(h1:m≤h-t):
 ff l (l.length:Int) (h-(t+m)).toNat (t+m)=(ff l (l.length:Int) (h-t).toNat t).drop m.toNat:=by
 rw[Iy l _ m.toNat (h-t).toNat t (by omega),show(h-t).toNat-m.toNat=(h-(t+m)).toNat by omega,show t+(m.toNat:Int)=t+m by omega]
end Go.Proofs.YtgpjnkahgofpmaaDoor.Q
