/- What is left of a map that is written: both sides alike, by cells. No statement. -/
import Derived.Test.YtjojdplkgekagaaMapPutG
import Derived.Test.YtjojdplkgekagaaMapStretch
import Derived.Test.YtjojdplkgekagaaG4
import Derived.Test.YtjojdplkgekagaaG7
open Classical renaming byContradiction→aba
open List renaming mem_singleton→aap,mem_append→aat,mem_append_left→aaE,take_length→aaQ,map_congr_left→abe
namespace Go.Proofs.Ytjojdplkgekagaa.Q
open Go.RowKit Go.Proofs.YtjojdplkgekagaaW.PrintWords Go.Proofs.Ytjojdplkgekagaa.G
set_option linter.unusedVariables false
set_option linter.unusedSimpArgs false
def kr(l:List Pc):Int:=(l.map (fun p:Pc=>p.f1)).foldl (· + ·) 0
theorem QN(l:List Pc)(i:Nat)(h:i<l.length):kr (l.take (i+1))=kr (l.take i)+(l.getD i pz).f1:=by
 unfold kr;rw[lu l i pz h,List.map_append,List.foldl_append]
 rfl
theorem Yp(q:List Pc)(h:gi q)(fr:Int)(h0:0≤fr)(hi:∀p,p∈q→fr≤p.f0):∀i,i≤q.length→∀e:Int,(e=if i=0 then fr else(q.getD (i-1) pz).f0+(q.getD (i-1) pz).f1)→(fr≤e∧kr (q.take i)≤e-fr∧0≤kr (q.take i))∧(kr (q.take i)=e-fr↔ ∀n:Nat,fr≤(n:Int)→(n:Int)<e→∃p,p∈q.take i∧ce p n):=by
 intro i
 induction i with
 |zero=>
  intro _ e he;rw[if_pos rfl]at he;subst he
  have hz:kr (q.take 0)=0:=by simp[kr]
  rw[hz];exact⟨⟨by omega,by omega,by omega⟩,⟨fun _ n h1 h2=>by omega,fun _=>by omega⟩⟩
 |succ i ih=>
  intro hi' e he
  have hil:i<q.length:=by omega
  obtain⟨⟨a1,a2,a3⟩,a4⟩:=ih (by omega) _ rfl;rw[if_neg (by omega),Nat.add_sub_cancel]at he;have hp:=h.1 i hil;unfold eM at hp;have hge:=hi _ (jB q i pz hil)
  have hprev:(if i=0 then fr else(q.getD (i-1) pz).f0+(q.getD (i-1) pz).f1)≤(q.getD i pz).f0:=by
   by_cases e0:i=0
   ·rw[if_pos e0];exact hge
   ·rw[if_neg e0];exact mT h (i-1) i (by omega) hil
  have hle:∀j,j<i→(q.getD j pz).f0+(q.getD j pz).f1≤(if i=0 then fr else(q.getD (i-1) pz).f0+(q.getD (i-1) pz).f1):=fun j hj=>by
   rw[if_neg (by omega)]
   by_cases e0:j=i-1
   ·rw[e0];omega
   ·have h1:=mT h j (i-1) (by omega) (by omega)
    have h2:=h.1 (i-1) (by omega);unfold eM at h2
    omega
  generalize (if i=0 then fr else(q.getD (i-1) pz).f0+(q.getD (i-1) pz).f1)=e' at a1 a2 a4 hprev hle
  rw[QN q i hil];refine⟨⟨by omega,by omega,by omega⟩, ?_⟩
  constructor
  ·intro hs n hn1 hn2
   have hsum:kr (q.take i)=e'-fr:=by omega
   have hst:e'=(q.getD i pz).f0:=by omega
   by_cases hn:(n:Int)<e'
   ·obtain⟨p,b1,b2⟩:=(a4.1 hsum) n hn1 hn
    exact⟨p,by rw[lu q i pz hil];exact aaE _ b1,b2⟩
   ·refine⟨q.getD i pz,by rw[lu q i pz hil];exact List.mem_append_right _ (List.mem_singleton_self _), ?_⟩
    unfold ce
    omega
  ·intro hall
   have hback:∀n:Nat,fr≤(n:Int)→(n:Int)<(q.getD i pz).f0→∃p,p∈q.take i∧ce p n:=fun n hn1 hn2=>by
    obtain⟨p,b1,b2⟩:=hall n hn1 (by omega);rw[lu q i pz hil]at b1
    rcases aat.1 b1 with b1|b1
    ·exact⟨p,b1,b2⟩
    ·rw[aap.1 b1]at b2
     unfold ce at b2
     omega
   have hst:e'=(q.getD i pz).f0:=by
    refine aba fun hne=> ?_
    obtain⟨p,b1,b2⟩:=hback e'.toNat (by omega) (by omega);obtain⟨j,hj,hjl,rfl⟩:=GK pz b1;unfold ce at b2;have hj2:=hle j hj
    omega
   have:=a4.2 (fun n hn1 hn2=>hback n hn1 (by omega))
   omega
theorem sum_all(q:List Pc)(h:gi q)(fr lg:Int)(h0:0≤fr)(h1:0≤lg)(hi:∀p,p∈q→fr≤p.f0∧p.f0+p.f1≤fr+lg):kr q=lg↔ ∀n:Nat,fr≤(n:Int)→(n:Int)<fr+lg→∃p,p∈q∧ce p n:=by
 obtain⟨⟨a1,a2,a3⟩,a4⟩:=Yp q h fr h0 (fun p hp=>(hi p hp).1) q.length (Nat.le_refl _) _ rfl;rw[aaQ]at a2 a3 a4
 have he:(if q.length=0 then fr else(q.getD (q.length-1) pz).f0+(q.getD (q.length-1) pz).f1)≤fr+lg:=by
  by_cases e:q.length=0
  ·rw[if_pos e];omega
  ·rw[if_neg e];exact(hi _ (jB q _ pz (by omega))).2
 have hup:∀p,p∈q→p.f0+p.f1≤(if q.length=0 then fr else(q.getD (q.length-1) pz).f0+(q.getD (q.length-1) pz).f1):=fun p hp=>by
  obtain⟨j,hj,rfl⟩:=pD pz hp;rw[if_neg (by omega)]
  by_cases e0:j=q.length-1
  ·rw[e0];omega
  ·have h1:=mT h j (q.length-1) (by omega) (by omega)
   have h2:=h.1 (q.length-1) (by omega);unfold eM at h2
   omega
 generalize (if q.length=0 then fr else(q.getD (q.length-1) pz).f0+(q.getD (q.length-1) pz).f1)=e at a1 a2 a4 he hup
 constructor
 ·intro hs n hn1 hn2
  exact a4.1 (by omega) n hn1 (by omega)
 ·intro hall
  have hs:=a4.2 (fun n hn1 hn2=>hall n hn1 (by omega))
  by_cases e0:lg=0
  ·omega
  ·obtain⟨p,hp,hpn⟩:=hall (fr+lg-1).toNat (by omega) (by omega)
   have:=hup p hp;unfold ce at hpn
   omega
def nV(l:List Pc)(a:Int)(x:Nat):List mI:=(List.range 200).map (fun n:Nat=>if a≤(n:Int)∧(n:Int)<a+(x:Int)then(⟨(bD l n).f0,(bD l n).f1,false⟩:mI)else bD l n)
theorem vp(l:List Pc)(a:Int)(x:Nat):(nV l a x).length=200:=by simp[nV]
theorem Ld(l:List Pc)(a:Int)(x n:Nat)(h:n<200):(nV l a x).getD n dO=if a≤(n:Int)∧(n:Int)<a+(x:Int)then(⟨(bD l n).f0,(bD l n).f1,false⟩:mI)else bD l n:=by
 rw[wg _ _ _ (by rw[vp];exact h)]
 simp[nV]
theorem wrCells_zero(l:List Pc)(a:Int):nV l a 0=cellsOf l:=by
 unfold nV cellsOf
 refine abe fun n _=> ?_
 rw[if_neg (by omega)]
theorem wrCells_set(l:List Pc)(a:Int)(x m:Nat)(hm:(m:Int)=a+(x:Int))(h:m<200):(nV l a x).set m ⟨(bD l m).f0,(bD l m).f1,false⟩=nV l a (x+1):=by
 unfold nV;rw[Pm _ _ _ _ h]
 refine abe fun n _=> ?_
 by_cases e:n=m
 ·subst e
  rw[if_pos rfl,if_pos (by omega)]
 ·rw[if_neg e]
  by_cases e2:a≤(n:Int)∧(n:Int)<a+(x:Int)
  ·rw[if_pos e2,if_pos (by omega)]
  ·rw[if_neg e2,if_neg (by omega)]
theorem cellAt_nil'(n:Nat):(bD ([]:List Pc) n).f0=false:=rfl
theorem putAll_ev(o q:List Pc)(ho:gi o)(hq:gi q)(hd:∀n:Nat,(bD q n).f0=true→bD o n=dO)(b:Int)(hb:0≤b∧b≤200)(hS:∀i,i≤q.length→0≤kr (q.take i)∧kr (q.take i)≤200)(r:List Pc×Bool)
 (fin:∀m:List Pc,gi m→(∀n,bD m n=if(bD q n).f0=true then⟨true,(bD q n).f1,false⟩else bD o n)→Ev (fun k=>(dK.f k m).bind fun t=>(if kr q=b then((br.f k t).bind fun t2=>(if t2=true then(some (t,true))else(some (([]:List Pc),false))))else(some (([]:List Pc),false)))) r):
 Ev (fun k=>eY.l0 k b o 0 q (q.length:Int) 0) r:=by
 have hql:=oz hq
 have key:∀d i,q.length-i=d→i≤q.length→∀m:List Pc,gi m→(∀n,bD m n=if(bD (q.take i) n).f0=true then⟨true,(bD (q.take i) n).f1,false⟩else bD o n)→Ev (fun k=>eY.l0 k b m (kr (q.take i)) q (q.length:Int) (i:Int)) r:=by
  intro d
  induction d with
  |zero=>
   intro i hdd hi m hm hcell
   have:i=q.length:=by omega
   subst this;rw[aaQ]at hcell⊢;refine Ev.step (fun k=>by rw[eY.l0]) ?_;exact Ev.neg (by omega) (fin m hm hcell)
  |succ d ih=>
   intro i hdd hi m hm hcell
   have hil:i<q.length:=by omega
   have hp:=hq.1 i hil;have hp':=hp;unfold eM at hp';have s1:=hS i hi;have s2:=hS (i+1) (by omega);rw[QN q i hil]at s2;have hmlen:=oz hm
   have hpre:∀n:Nat,ce (q.getD i pz) n→(bD (q.take i) n).f0=false:=fun n hn=>by
    cases e:(bD (q.take i) n).f0 with
    |false=>rfl
    |true=>
     obtain⟨p,hpm,hpn⟩:=(EG (wG hq i) n).1 e;obtain⟨j,hj,hjl,rfl⟩:=GK pz hpm;have:=mT hq j i hj hil;unfold ce at hn hpn
     omega
   have hap:∀u∈m,u.f0+u.f1≤(q.getD i pz).f0∨(q.getD i pz).f0+(q.getD i pz).f1≤u.f0:=fun u hu=>by
    refine aba fun hne=> ?_
    have hui:=z3 hm hu;unfold eM at hui
    obtain⟨n,h1,h2⟩:∃n:Nat,ce u n∧ce (q.getD i pz) n:=by
     by_cases e:u.f0≤(q.getD i pz).f0
     ·exact⟨(q.getD i pz).f0.toNat,by unfold ce;omega,by unfold ce;omega⟩
     ·exact⟨u.f0.toNat,by unfold ce;omega,by unfold ce;omega⟩
    have c1:=kv hm hu h1;have c2:(bD q n).f0=true:=(EG hq n).2 ⟨_,jB q i pz hil,h2⟩;rw[hcell n,hpre n h2,if_neg (by simp),hd n c2]at c1;have:=congrArg eW.f0 c1
    simp[dO]at this
   obtain⟨k0,hk1,hk2,hk3,hput⟩:=a0z m ⟨(q.getD i pz).f0,(q.getD i pz).f1,(q.getD i pz).f2,false⟩ (by omega);have hpr:eM ⟨(q.getD i pz).f0,(q.getD i pz).f1,(q.getD i pz).f2,false⟩:=hp;have hpo:=a0h hm hpr hk1 hk2 hk3 hap
   have next:=ih (i+1) (by omega) (by omega) _ hpo (fun n=>by
    rw[Yo hm hpo n]
    have hts:bD (q.take (i+1)) n=if ce (q.getD i pz) n then⟨true,(q.getD i pz).f2+((n:Int)-(q.getD i pz).f0),(q.getD i pz).f3⟩else bD (q.take i) n:=by
     have hmem:q.getD i pz∈q.take (i+1):=by rw[lu q i pz hil];simp
     by_cases hh:ce (q.getD i pz) n
     ·rw[if_pos hh];exact kv (wG hq _) hmem hh
     ·rw[if_neg hh]
      rcases o3 (wG hq i) n with⟨u,hu,hun,e⟩|⟨hno,e⟩
      ·rw[e]
       exact kv (wG hq _) (by rw[lu q i pz hil];exact aaE _ hu) hun
      ·rw[e]
       refine st fun u hu=> ?_
       rw[lu q i pz hil]at hu
       rcases aat.1 hu with hu|hu
       ·exact hno u hu
       ·rw[aap.1 hu];exact hh
    rw[hts]
    by_cases hh:ce (q.getD i pz) n
    ·have AR:ce ⟨(q.getD i pz).f0,(q.getD i pz).f1,(q.getD i pz).f2,false⟩ n:=hh
     rw[if_pos hh,if_pos AR,if_pos rfl]
    ·have AR:¬ce ⟨(q.getD i pz).f0,(q.getD i pz).f1,(q.getD i pz).f2,false⟩ n:=hh
     rw[if_neg hh,if_neg AR,hcell n])
   refine Ev.step (fun k=>by rw[eY.l0]) ?_;rw[kj,bg (x:=(i:Int)+1) (by omega) (by omega),bg (x:=kr (q.take i)+(q.getD i pz).f1) (by omega) (by omega),←QN q i hil];refine Ev.pos (by omega) ?_;refine Ev.pos (by omega) ?_;refine Ev.pos (by omega) ?_;refine Ev.bind' _ hput ?_;exact next
 have:=key q.length 0 rfl (by omega) o ho (fun n=>by rw[List.take_zero,cellAt_nil',if_neg (by simp)])
 have hz:kr (q.take 0)=0:=by simp[kr]
 rw[hz]at this;exact this
def WrOk(l:List Pc)(a b:Int)(r:List Pc×Bool):Prop:=dh l∧o1 a b∧dh r.1∧(∀n:Nat,a≤(n:Int)→(n:Int)<a+b→(bD l n).f0=true)∧∀n:Nat,n<200→bD r.1 n=if a≤(n:Int)∧(n:Int)<a+b then⟨(bD l n).f0,(bD l n).f1,false⟩else bD l n
theorem X6(l:List Pc)(a b:Int)(hl:l.length≤1048576):∃r,Ev (fun k=>eY.f k l a b) r∧Ev (fun k=>gz.f k l a b) r∧r.1.length≤2000000∧(r.2=true→WrOk l a b r):=by
 have n1:Ev (fun k=>eY.j0 k a b true l) ([],false):=Ev.step (fun k=>by rw[eY.j0]) (Ev.pos rfl (Ev.now _));have g1:=vo l hl;obtain⟨x,hx1,hx2⟩:=XP a b;obtain⟨y,hy1,hy2⟩:=XQ l hl a b;unfold eY.f gz.f
 by_cases hg:dh l
 ·by_cases hs:o1 a b
  ·obtain rfl:x=true:=hx2.2 hs
   obtain rfl:y=true:=hy2.2 ⟨hg,hs⟩;have hc:=rn hg.2;have hs':=hs;unfold o1 at hs';obtain⟨o,q,hcut,inv⟩:=SB l hc a b (by omega) (by omega) (by omega);have hfull:=sum_all q inv.oq a b (by omega) (by omega) inv.iq
   have hcov:∀n:Nat,a≤(n:Int)→(n:Int)<a+b→((∃p,p∈q∧ce p n)↔ (bD l n).f0=true):=fun n h1 h2=>by
    rw[←EG inv.oq n,Hv hc inv n,if_pos ⟨h1,h2⟩]
   have fin:∀m:List Pc,gi m→(∀n,bD m n=if(bD q n).f0=true then⟨true,(bD q n).f1,false⟩else bD o n)→∃out,Ev (fun k=>dK.f k m) out∧ja out∧(∀n,bD out n=bD m n)∧∀p∈out,p.f0+p.f1≤200:=fun m hm _=>by
    obtain⟨out,e1,e2,e3,e4⟩:=Y8 m hm;exact⟨out,e1,e2,e3,e4 200 (fun p hp=>by have:=z3 hm hp;unfold eM at this;omega)⟩
   have hd:∀n:Nat,(bD q n).f0=true→bD o n=dO:=fun n e=>by
    rw[Hv hc inv n]at e
    by_cases e2:a≤(n:Int)∧(n:Int)<a+b
    ·rw[Ec hc inv n,if_pos e2]
    ·rw[if_neg e2]at e
     simp[dO]at e
   have hS:∀i,i≤q.length→0≤kr (q.take i)∧kr (q.take i)≤200:=fun i hi=>by
    obtain⟨⟨a1,a2,a3⟩,_⟩:=Yp q inv.oq a (by omega) (fun p hp=>(inv.iq p hp).1) i hi _ rfl
    have:(if i=0 then a else(q.getD (i-1) pz).f0+(q.getD (i-1) pz).f1)≤a+b:=by
     by_cases e:i=0
     ·rw[if_pos e];omega
     ·rw[if_neg e];exact(inv.iq _ (jB q _ pz (by omega))).2
    omega
   have specEv:∀r,(∀m:List Pc,gi m→(∀n,bD m n=if(bD q n).f0=true then⟨true,(bD q n).f1,false⟩else bD o n)→Ev (fun k=>(dK.f k m).bind fun t=>(if kr q=b then((br.f k t).bind fun t2=>(if t2=true then(some (t,true))else(some (([]:List Pc),false))))else(some (([]:List Pc),false)))) r)→Ev (fun k=>(br.f k l).bind fun t=>(if t=true then((sr.f a b).bind fun t2=>(eY.j0 k a b (!t2) l))else(eY.j0 k a b true l))) r:=fun r h=>by
    refine Ev.bind' _ g1 (Ev.pos (by simpa using hg) (Ev.cW _ hx1 ?_));refine Ev.step (fun k=>by rw[eY.j0]) (Ev.neg (by simp) (Ev.bind' _ hcut ?_));exact putAll_ev o q inv.co.1 inv.oq hd b (by omega) hS r h
   have implEv:∀r,((∀x:Nat,(x:Int)<b→(bD l (a+(x:Int)).toNat).f0=true)→Ev (fun k=>dP.f k (nV l a b.toNat)) r)→((∃x:Nat,(x:Int)<b∧(bD l (a+(x:Int)).toNat).f0≠true)→r=([],false))→Ev (fun k=>(ku.f k l a b).bind fun t=>(if t=true then((dJ.f k l).bind fun t2=>(gz.l0 k a b t2 a))else(some (([]:List Pc),false)))) r:=fun r h1 h2=>by
    refine Ev.bind' _ hy1 (Ev.pos rfl (Ev.bind' _ (EF l hg.2 hl) ?_));rw[←wrCells_zero l a]
    have loop:=a3y (L:=fun k x=>gz.l0 k a b (nV l a x) (a+(x:Int))) (n:=b.toNat) (p:=fun x=>(bD l (a+(x:Int)).toNat).f0=true) (r:=r) (fun h=>by
     refine Ev.step (fun k=>by rw[gz.l0]) ?_;rw[bg (x:=a+b) (by omega) (by omega)]
     refine Ev.neg (by omega) (Ev.bind' _ (h1 fun x hx=>h x (by omega)) (Ev.now _))) (fun x hx _ hb next=>by
     have hget:=Ld l a x (a+(x:Int)).toNat (by omega);rw[if_neg (by omega)]at hget;have er:am (nV l a x) (a+(x:Int))=bD l (a+(x:Int)).toNat:=hget;have hset:=wrCells_set l a x (a+(x:Int)).toNat (by omega) (by omega);refine Ev.step (fun k=>by rw[gz.l0]) ?_;rw[bg (x:=a+b) (by omega) (by omega),bg (x:=a+(x:Int)+1) (by omega) (by omega),vp,er,hset,show a+(x:Int)+1=a+((x+1:Nat):Int) by omega]
     exact Ev.pos (by omega) (Ev.pos (by omega) (Ev.pos (by omega) (Ev.pos hb next)))) (fun x hx _ hb=>by
     have hget:=Ld l a x (a+(x:Int)).toNat (by omega);rw[if_neg (by omega)]at hget;have er:am (nV l a x) (a+(x:Int))=bD l (a+(x:Int)).toNat:=hget;refine Ev.step (fun k=>by rw[gz.l0]) ?_;rw[bg (x:=a+b) (by omega) (by omega),vp,er,h2 ⟨x,by omega,hb⟩]
     exact Ev.pos (by omega) (Ev.pos (by omega) (Ev.pos (by omega) (Ev.neg hb (Ev.now _)))))
    have e0:a+((0:Nat):Int)=a:=by omega
    simp only[e0]at loop;exact loop
   by_cases hall:∀n:Nat,a≤(n:Int)→(n:Int)<a+b→(bD l n).f0=true
   ·have hsum:kr q=b:=hfull.2 fun n h1 h2=>(hcov n h1 h2).2 (hall n h1 h2)
    obtain⟨m0,hm0,hc0⟩:∃m:List Pc,gi m∧∀n,bD m n=if(bD q n).f0=true then⟨true,(bD q n).f1,false⟩else bD o n:=by
     refine aba fun hno=> ?_
     have h1:=specEv ([],true) (fun m hm hcell=>absurd ⟨m,hm,hcell⟩ hno);have h2:=specEv ([],false) (fun m hm hcell=>absurd ⟨m,hm,hcell⟩ hno);obtain⟨k1,e1⟩:=h1;obtain⟨k2,e2⟩:=h2;have e3:=e1 (max k1 k2) (Nat.le_max_left _ _);have e4:=e2 (max k1 k2) (Nat.le_max_right _ _);rw[e3]at e4;have:=Option.some.inj e4
     simp at this
    obtain⟨out,hj,hcan,hcell,hend⟩:=fin m0 hm0 hc0
    have hcells:∀n,n<200→(nV l a b.toNat).getD n dO=bD out n:=fun n hn=>by
     rw[Ld _ _ _ _ hn,hcell n,hc0 n,Hv hc inv n,Ec hc inv n,show((b.toNat:Nat):Int)=b by omega]
     by_cases e:a≤(n:Int)∧(n:Int)<a+b
     ·rw[if_pos e,if_pos e,if_pos (hall n e.1 e.2),hall n e.1 e.2]
     ·rw[if_neg e,if_neg e,if_neg (by simp[dO]),if_neg e]
    have hm:=M8 (nV l a b.toNat) out hcan (by rw[vp];omega) (fun i hi=>by rw[vp];exact hend _ (jB out i pz hi)) (fun n hn=>hcells n (by rw[vp]at hn;exact hn));have holen:=oz hcan.1;refine⟨if dh out then(out,true)else([],false),specEv _ (fun m hm' hcell'=> ?_),implEv _ (fun _=>hm) (fun⟨x,hx,e⟩=>absurd (hall _ (by omega) (by omega)) e), ?_, ?_⟩
    ·obtain⟨out',hj',hcan',hcell'',hend'⟩:=fin m hm' hcell'
     have hm2:=M8 (nV l a b.toNat) out' hcan' (by rw[vp];omega) (fun i hi=>by rw[vp];exact hend' _ (jB out' i pz hi)) (fun n hn=>by
      rw[vp]at hn
      rw[hcells n hn,hcell n,hc0 n,hcell'' n,hcell' n])
     have holen':=oz hcan'.1
     have same:(if dh out' then(out',true)else([],false))=(if dh out then(out,true)else(([]:List Pc),false)):=by
      obtain⟨k1,e1⟩:=hm2;obtain⟨k2,e2⟩:=hm;have e3:=e1 (max k1 k2) (Nat.le_max_left _ _);have e4:=e2 (max k1 k2) (Nat.le_max_right _ _);rw[e3]at e4;exact Option.some.inj e4
     rw[←same];refine Ev.bind' _ hj' (Ev.pos hsum (Ev.bind' _ (vo out' (by omega)) ?_))
     by_cases hgo:dh out'
     ·rw[if_pos hgo];exact Ev.pos (by simpa using hgo) (Ev.now _)
     ·rw[if_neg hgo];exact Ev.neg (by simpa using hgo) (Ev.now _)
    ·by_cases hgo:dh out
     ·rw[if_pos hgo]
      show out.length≤2000000
      omega
     ·rw[if_neg hgo];simp
    ·by_cases hgo:dh out
     ·rw[if_pos hgo]
      refine fun _=>⟨hg,hs,hgo,hall,fun n hn=> ?_⟩
      rw[←hcells n hn,Ld _ _ _ _ hn,show((b.toNat:Nat):Int)=b by omega]
     ·rw[if_neg hgo];exact fun h=>by cases h
   ·have hsum:kr q≠b:=fun e=>hall fun n h1 h2=>(hcov n h1 h2).1 (hfull.1 e n h1 h2)
    refine⟨([],false),specEv _ (fun m hm hcell=> ?_),implEv _ (fun h=> ?_) (fun _=>rfl),by simp,fun h=>by cases h⟩
    ·obtain⟨out,hj,_⟩:=fin m hm hcell
     exact Ev.bind' _ hj (Ev.neg hsum (Ev.now _))
    ·exfalso
     refine hall fun n h1 h2=> ?_
     have:=h ((n:Int)-a).toNat (by omega)
     rwa [show(a+((((n:Int)-a).toNat:Nat):Int)).toNat=n by omega]at this
  ·obtain rfl:x=false:=by
    cases x with
    |false=>rfl
    |true=>exact absurd (hx2.1 rfl) hs
   obtain rfl:y=false:=by
    cases y with
    |false=>rfl
    |true=>exact absurd (hy2.1 rfl).2 hs
   exact⟨([],false),Ev.bind' _ g1 (Ev.pos (by simpa using hg) (Ev.cW _ hx1 n1)),Ev.bind' _ hy1 (Ev.neg (by simp) (Ev.now _)),by simp,fun h=>by cases h⟩
 ·obtain rfl:y=false:=by
   cases y with
   |false=>rfl
   |true=>exact absurd (hy2.1 rfl).1 hg
  exact⟨([],false),Ev.bind' _ g1 (Ev.neg (by simpa using hg) n1),Ev.bind' _ hy1 (Ev.neg (by simp) (Ev.now _)),by simp,fun h=>by cases h⟩
theorem written_ok(l:List Pc)(hg:dh l)(a b:Int):∃r,Ev (fun k=>eY.f k l a b) r∧(r.2=true→dh r.1):=by
 obtain⟨r,h,_,_,hk⟩:=X6 l a b (by have:=hg.1;omega);exact⟨r,h,fun e=>(hk e).2.2.1⟩
end Go.Proofs.Ytjojdplkgekagaa.Q
