/- OpenRing of the program on slots whose last records are whole: what it gives back. -/
import Derived.Test.YtgpjnkahgofpmaaDoorRingRecs
import Derived.Test.YtgpjnkahgofpmaaDoorG5
open Go.RowKit renaming wrap64→F5
open Int renaming tmod→GW,tdiv→aQ,tmod_nonneg→aat,tmod_lt_of_pos→aaw,tdiv_nonneg→aaU,le_refl→abc,tdiv_le_self→abe
open List renaming length_set→aar,replicate→aaA
namespace Go.Proofs.YtgpjnkahgofpmaaDoor.Q
open Go.RowKit Go.Proofs.YtgpjnkahgofpmaaDoorW.PrintWords Go.Proofs.YtgpjnkahgofpmaaDoor.G
set_option linter.unusedVariables false
set_option linter.unusedSimpArgs false
noncomputable def qv:Sl:=⟨0,0,⟨#[]⟩,B0⟩
theorem O8:gM qv=true:=by unfold gM qv;simp
def eW(l:List Sl)(k:Int):Sl:=at_ l (GW k (l.length:Int))
def jp(l:List Sl)(k:Int):Prop:=jI (eW l k)=true∧(eW l k).f0=aQ k (l.length:Int)+1
def px(x:Sl):Prop:=¬(jI x=true∧x.f0>0)
theorem Bl {l:List Sl}{k:Int}(hk:0≤k)(hd:px (eW l k)):¬jp l k:=fun h=>hd ⟨h.1,by
 rw[h.2];have:0≤aQ k (l.length:Int):=aaU hk (by omega)
 omega⟩
structure BH(l:List Sl)(H T:Int):Prop where
 n1:2≤(l.length:Int)
 n2:(l.length:Int)≤24
 h1:H≤10000000
 t0:0≤T
 t1:T<H
 ht:H-T≤(l.length:Int)
 rc:∀k,0≤k→H-(l.length:Int)≤k→k<H→px (eW l k)∨(jp l k∧(eW l k).f1≤k)
 un:∀j,H≤j→j<(l.length:Int)→px (at_ l j)
 al:∀k,T≤k→k<H→jp l k
 mon:∀i j,0≤i→H-(l.length:Int)≤i→i<j→j<H→jp l i→jp l j→(eW l i).f1≤(eW l j).f1
 last:(eW l (H-1)).f1≤T
theorem YQ(H n j:Int)(hn:2≤n)(hH:0<H)(j0:0≤j)(j1:j<n):(∃k,0≤k∧H-n≤k∧k<H∧Int.tmod k n=j)∨H≤j:=by
 have e0:0≤(H-1-j) %n:=Int.emod_nonneg _ (by omega);have e1:(H-1-j) %n<n:=Int.emod_lt_of_pos _ (by omega);have e2:=Int.mul_ediv_add_emod (H-1-j) n
 by_cases c:0≤H-1-(H-1-j) %n
 ·refine .inl ⟨H-1-(H-1-j) %n,c,by omega,by omega, ?_⟩
  rw[Int.tmod_eq_emod_of_nonneg c]
  have:H-1-(H-1-j) %n=j+n*((H-1-j)/n):=by omega
  rw[this,Int.add_mul_emod_self_left,Int.emod_eq_of_lt j0 j1]
 ·refine .inr ?_
  have k1:n*((H-1-j)/n)<0-j:=by omega
  have k2:(H-1-j)/n<0:=by
   by_cases q:0≤(H-1-j)/n
   ·have:=Int.mul_nonneg (show 0≤n by omega) q
    omega
   ·omega
  have k3:H-1-j<0:=by
   by_cases q:0≤H-1-j
   ·have:=Int.ediv_nonneg q (show 0≤n by omega)
    omega
   ·omega
  omega
section
variable {l : List Sl} {H T : Int}
theorem a02(k n:Int)(hk:0≤k)(hn:2≤n)(hk2:k≤10000000)(f:Int)(hf:f=Int.tdiv k n+1):wrap64 ((wrap64 ((wrap64 (f-1))*n))+Int.tmod k n)=k:=by
 have d:=Int.mul_tdiv_add_tmod k n;have m0:0≤GW k n:=aat _ hk;have t0:0≤aQ k n:=aaU hk (by omega);have t1:aQ k n≤k:=abe _ hk;have e:aQ k n*n=n*aQ k n:=Int.mul_comm _ _;rw[dc (x:=f-1) (by omega) (by omega),hf,show aQ k n+1-1=aQ k n by omega,e];have e0:0≤n*aQ k n:=Int.mul_nonneg (by omega) t0;rw[dc (x:=n*aQ k n) (by omega) (by omega),dc (by omega) (by omega)];exact d
structure Out(l:List Sl)(H k:Int)(o:List Sl):Prop where
 len:o.length=l.length
 r:∀q,0≤q→H-(l.length:Int)≤q→q<H→eW o q=if k<q then eW l q else qv
 u:∀j,H≤j→j<(l.length:Int)→at_ o j=qv
theorem Qc(o:List Sl)(n t' a H:Int)(ho:(o.length:Int)=n)(hn:2≤n)(ha:a≤t')(ha0:0≤a)
 (z1:∀j,H≤j→j<n→gM (at_ o j)=true)(z2:∀q,0≤q→H-n≤q→q<a→gM (eW o q)=true)
 (al:∀q,a≤q→q<H→jp o q∧(eW o q).f1≤q∧(eW o q).f1≤t')
 (mon:∀i j,a≤i→i<j→j<H→(eW o i).f1≤(eW o j).f1):
 ∀ (m:Nat) (last k:Int),k+(m:Int)=H→H-n≤k→(last≤0∨∃i,a≤i∧i<k∧last=(eW o i).f1)→gH o n t' m last k=true
 |0,_,_,_,_,_=>rfl
 |m+1,last,k,hk,hk2,hl=>by
  have nx:=fun last' h=>Qc o n t' a H ho hn ha ha0 z1 z2 al mon m last' (k+1) (by omega) (by omega) h
  have keep:last≤0∨∃i,a≤i∧i<k+1∧last=(eW o i).f1:=by
   rcases hl with h|⟨i,h1,h2,h3⟩
   ·exact .inl h
   ·exact .inr ⟨i,h1,by omega,h3⟩
  rw[gH]
  by_cases c1:k<0
  ·rw[if_pos c1,if_pos (z1 (k+n) (by omega) (by omega))]
   exact nx last keep
  rw[if_neg c1]
  have er:at_ o (GW k n)=eW o k:=by unfold eW;rw[ho]
  rw[er]
  by_cases c2:k<a
  ·rw[if_pos ⟨by omega,z2 k (by omega) hk2 c2⟩]
   exact nx last keep
  obtain⟨A,f1,f2⟩:=al k (by omega) (by omega);have f0:=A.2;rw[ho]at f0
  have nz:¬(k<t'∧gM (eW o k)=true):=fun q=>by
   have z:=q.2;unfold gM at z;rw[Bool.and_eq_true,beq_iff_eq]at z;have:0≤aQ k n:=aaU (by omega) (by omega)
   omega
  have h4:¬(eW o k).f1<last:=by
   have p:=Nq A.1
   rcases hl with h|⟨i,h1,h2,h3⟩
   ·omega
   ·have:=mon i k h1 h2 (by omega)
    omega
  rw[if_neg nz,if_pos ⟨A.1,f0,by omega,by omega,h4⟩];exact nx _ (.inr ⟨k,by omega,by omega,rfl⟩)
theorem Nu(l l':List Sl)(n:Int):∀ (m:Nat) (j:Int),(∀q,j≤q→q<j+(m:Int)→at_ l' (GW q n)=at_ l (GW q n))→ff l' n m j=ff l n m j
 |0,_,_=>rfl
 |m+1,j,h=>by rw[ff,ff,h j (abc _) (by omega),Nu l l' n m (j+1) (fun q a b=>h q (by omega) (by omega))]
def Fd(l:List Sl)(H T:Int)(r:List Sl×Int×Int×Int×Bool):Prop:=
 r.2.2.2.2=true∧r.2.1=H∧Good r.1 r.2.1 r.2.2.1 r.2.2.2.1∧r.2.2.2.1≤T∧r.1.length=l.length∧ff r.1 (l.length:Int) (H-T).toNat T=ff l (l.length:Int) (H-T).toNat T
theorem J6(O:BH l H T)(o:List Sl)(k:Int)(hk0: -1≤k)(hk:k≤H-2)(hkn:H-(l.length:Int)-1≤k)(X:Out l H k o)(A:∀q,k<q→q<H→jp l q)(kT:k<T):
 ∃r,Ev (fun q=>if 0≤(GW (H-1) (l.length:Int))then(if(GW (H-1) (l.length:Int))<(l.length:Int)then((ao.f q o (F5 ((H-1)+1)) (F5 ((F5 (aQ (F5 ((H-1)+1)) (l.length:Int)))+1)) (mx ((J l (GW (H-1) (l.length:Int))).f1) (k+1))).bind fun t=>(if t=true then(some (o,F5 ((H-1)+1),F5 ((F5 (aQ (F5 ((H-1)+1)) (l.length:Int)))+1),mx ((J l (GW (H-1) (l.length:Int))).f1) (k+1),true))else(some (([]:List Sl),0,0,0,false))))else(none))else(none)) r∧Fd l H T r:=by
 have n1:=O.n1;have n2:=O.n2;have h1:=O.h1;have t0:=O.t0;have t1:=O.t1;have ht:=O.ht;have m0:0≤GW (H-1) (l.length:Int):=aat _ (by omega);have m1:GW (H-1) (l.length:Int)<(l.length:Int):=aaw _ (by omega);have d0:0≤aQ H (l.length:Int):=aaU (by omega) (by omega);have d1:aQ H (l.length:Int)≤H:=abe _ (by omega)
 have eh:F5 ((H-1)+1)=H:=by rw[dc (by omega) (by omega)];omega
 rw[eh,dc (x:=aQ H (l.length:Int)) (by omega) (by omega),dc (x:=aQ H (l.length:Int)+1) (by omega) (by omega),yE l _ m0];obtain⟨f,ef⟩:∃f,f=(eW l (H-1)).f1:=⟨_,rfl⟩;have ef2:(at_ l (GW (H-1) (l.length:Int))).f1=f:=ef.symm;rw[ef2];have lf:=O.last;rw[←ef]at lf
 have fH:f≤H-1:=by
  rcases O.rc (H-1) (by omega) (by omega) (by omega)with d|a
  ·exact absurd (O.al (H-1) (by omega) (by omega)) (Bl (by omega) d)
  ·rw[ef];exact a.2
 obtain⟨t',et⟩:∃t',t'=mx f (k+1):=⟨_,rfl⟩
 have ht':f≤t'∧k+1≤t'∧t'≤T:=by
  rw[et];unfold mx
  split<;>omega
 rw[←et];clear eh
 have lo:(o.length:Int)=(l.length:Int):=by rw[X.len]
 have ra:∀q,k<q→q<H→eW o q=eW l q:=fun q a b=>by rw[X.r q (by omega) (by omega) b,if_pos a]
 have G:Good o H (aQ H (l.length:Int)+1) t':=by
  refine⟨by omega,by omega,by omega,h1,by omega,by omega,by omega,by rw[lo], ?_⟩;rw[lo];refine Qc o (l.length:Int) t' (k+1) H lo n1 ht'.2.1 (by omega) (fun j a b=>by rw[X.u j a b];exact O8) (fun q a b c=>by rw[X.r q a b (by omega),if_neg (by omega)];exact O8) (fun q a b=> ?_) (fun i j a b c=> ?_) o.length 0 (H-(l.length:Int)) (by omega) (abc _) (.inl (abc _))
  ·have A1:=A q (by omega) b
   have e:=ra q (by omega) b;unfold jp at A1⊢;rw[e,lo];refine⟨A1, ?_, ?_⟩
   ·rcases O.rc q (by omega) (by omega) b with d|a1
    ·exact absurd A1 (Bl (by omega) d)
    ·exact a1.2
   ·by_cases c:q=H-1
    ·subst c;rw[←ef];exact ht'.1
    ·have:=O.mon q (H-1) (by omega) (by omega) (by omega) (by omega) (A q (by omega) b) (A (H-1) (by omega) (by omega))
     rw[←ef]at this
     omega
  ·rw[ra i (by omega) (by omega),ra j (by omega) c]
   exact O.mon i j (by omega) (by omega) b c (A i (by omega) (by omega)) (A j (by omega) c)
 have ge:=K6 o H (aQ H (l.length:Int)+1) t';rw[Bk.2 G]at ge;refine⟨(o,H,aQ H (l.length:Int)+1,t',true),Ev.pos m0 (Ev.pos m1 (Ev.bind' _ ge (Ev.pos rfl (Ev.now _)))),rfl,rfl,G,ht'.2.2,X.len, ?_⟩;refine Nu l o _ _ _ (fun q a b=> ?_);have:=ra q (by omega) (by omega);unfold eW at this;rw[lo]at this;exact this
theorem Xh(O:BH l H T)(h c t:Int):∀ (d:Nat) (k least:Int) (o:List Sl),(k+1).toNat=d→ -1≤k→k≤H-1→H-(l.length:Int)-1≤k→(k<H-1→least=k+1)→Out l H k o→(∀q,k<q→q<H→jp l q)→
 ∃r,Ev (fun q=>bX.l1 q l (l.length:Int) (H-1) least k o h c t) r∧Fd l H T r:=by
 have n1:=O.n1;have n2:=O.n2;have h1:=O.h1;have t0:=O.t0;have t1:=O.t1;have ht:=O.ht;intro d
 induction d with
 |zero=>
  intro k least o hd hk0 hk hkn hle X A
  have e:k= -1:=by omega
  subst e
  by_cases c1:(-1:Int)<H-1
  ·have el:=hle c1
   subst el;obtain⟨r,er,ha⟩:=J6 O o (-1) (by omega) (by omega) hkn X A (by omega);exact⟨r,Ev.step (fun q=>by rw[bX.l1]) (Ev.neg (by omega) (Ev.step (fun q=>by rw[bX.j2]) (Ev.neg Bool.false_ne_true (Ev.neg (by omega) er)))),ha⟩
  ·omega
 |succ d ih=>
  intro k least o hd hk0 hk hkn hle X A
  have k0:0≤k:=by omega
  have m0:0≤GW k (l.length:Int):=aat _ k0;have m1:GW k (l.length:Int)<(l.length:Int):=aaw _ (by omega);have d0:0≤aQ k (l.length:Int):=aaU k0 (by omega);have d1:aQ k (l.length:Int)≤k:=abe _ k0;have ww:F5 ((H-1)-(l.length:Int))=H-1-(l.length:Int):=dc (by omega) (by omega)
  have stop:¬(k>H-1-(l.length:Int)∧jp l k)→k<T∧k≤H-2∧least=k+1:=fun q=>by
   have kt:k<T:=by
    by_cases c:k<T
    ·exact c
    ·exact absurd ⟨by omega,O.al k (by omega) (by omega)⟩ q
   exact⟨kt,by omega,hle (by omega)⟩
  by_cases c1:k>H-1-(l.length:Int)
  rotate_left
  ·obtain⟨kT,k2,el⟩:=stop (fun q=>c1 q.1)
   subst el;obtain⟨r,er,ha⟩:=J6 O o k hk0 k2 hkn X A kT;refine⟨r,Ev.step (fun q=>by rw[bX.l1]) (Ev.pos (by omega) ?_),ha⟩;rw[ww,decide_eq_false c1];exact Ev.step (fun q=>by rw[bX.j2]) (Ev.neg Bool.false_ne_true (Ev.neg (by omega) er))
  have ei:=Iz (at_ l (GW k (l.length:Int)))
  have enter:∀r,Ev (fun q=>(ey.f q (at_ l (GW k (l.length:Int))).f0 (at_ l (GW k (l.length:Int))).f1 (at_ l (GW k (l.length:Int))).f2 (at_ l (GW k (l.length:Int))).f3).bind fun a62=>(if a62=true then(if(at_ l (GW k (l.length:Int))).f0=aQ k (l.length:Int)+1 then(if(GW k (l.length:Int))<(o.length:Int)then(bX.l1 q l (l.length:Int) (H-1) k (F5 (k-1)) (o.set (GW k (l.length:Int)).toNat (at_ l (GW k (l.length:Int)))) h c t)else none)else(if 0≤(GW (H-1) (l.length:Int))then(if(GW (H-1) (l.length:Int))<(l.length:Int)then((ao.f q o (F5 ((H-1)+1)) (F5 ((F5 (aQ (F5 ((H-1)+1)) (l.length:Int)))+1)) (mx ((J l (GW (H-1) (l.length:Int))).f1) least)).bind fun t=>(if t=true then(some (o,F5 ((H-1)+1),F5 ((F5 (aQ (F5 ((H-1)+1)) (l.length:Int)))+1),mx ((J l (GW (H-1) (l.length:Int))).f1) least,true))else(some (([]:List Sl),0,0,0,false))))else(none))else(none)))
   else(if 0≤(GW (H-1) (l.length:Int))then(if(GW (H-1) (l.length:Int))<(l.length:Int)then((ao.f q o (F5 ((H-1)+1)) (F5 ((F5 (aQ (F5 ((H-1)+1)) (l.length:Int)))+1)) (mx ((J l (GW (H-1) (l.length:Int))).f1) least)).bind fun t=>(if t=true then(some (o,F5 ((H-1)+1),F5 ((F5 (aQ (F5 ((H-1)+1)) (l.length:Int)))+1),mx ((J l (GW (H-1) (l.length:Int))).f1) least,true))else(some (([]:List Sl),0,0,0,false))))else(none))else(none)))) r→
   Ev (fun q=>bX.l1 q l (l.length:Int) (H-1) least k o h c t) r:=fun r e=>by
   refine Ev.step (fun q=>by rw[bX.l1]) (Ev.pos (by omega) ?_);rw[ww,decide_eq_true c1];refine Ev.step (fun q=>by rw[bX.j2]) (Ev.pos rfl (Ev.neg (by omega) (Ev.pos m0 (Ev.pos m1 ?_))));rw[yE l _ m0,dc (x:=aQ k (l.length:Int)) (by omega) (by omega),dc (x:=aQ k (l.length:Int)+1) (by omega) (by omega)];exact e
  have u5:at_ l (GW k (l.length:Int))=eW l k:=rfl
  by_cases c2:jp l k
  rotate_left
  ·obtain⟨kT,k2,el⟩:=stop (fun q=>c2 q.2)
   subst el;obtain⟨r,er,ha⟩:=J6 O o k hk0 k2 hkn X A kT;refine⟨r,enter r (Ev.bind' _ ei ?_),ha⟩;rw[u5]
   by_cases c3:jI (eW l k)=true
   ·exact Ev.pos c3 (Ev.neg (fun q=>c2 ⟨c3,q⟩) er)
   ·exact Ev.neg c3 er
  have lo:=X.len
  have at2:∀i,0≤i→at_ (o.set (GW k (l.length:Int)).toNat (eW l k)) i=if i=GW k (l.length:Int)then eW l k else at_ o i:=fun i hi=>AG o _ i _ m0 (by omega) hi
  have X2:Out l H (k-1) (o.set (GW k (l.length:Int)).toNat (eW l k)):=by
   refine⟨by rw[aar];exact lo,fun q a b e=> ?_,fun j a b=> ?_⟩
   ·have NC:=X.r q a b e
    unfold eW at NC⊢;rw[aar,lo]at *;have z:=at2 (GW q (l.length:Int)) (aat _ a);unfold eW at z;rw[z]
    by_cases g:q=k
    ·subst g;rw[if_pos rfl,if_pos (by omega)]
    ·have ne:GW q (l.length:Int)≠GW k (l.length:Int):=by
      rcases Int.lt_or_gt_of_ne g with g1|g1
      ·exact zy n1 a g1 (by omega)
      ·exact fun e=>zy n1 k0 g1 (by omega) e.symm
     rw[if_neg ne,NC]
     by_cases g2:k<q
     ·rw[if_pos g2,if_pos (by omega)]
     ·rw[if_neg g2,if_neg (by omega)]
   ·rw[at2 j (by omega)]
    have ne:j≠GW k (l.length:Int):=by
     rw[Int.tmod_eq_of_lt k0 (by omega)]
     omega
    rw[if_neg ne];exact X.u j a b
  obtain⟨r,er,ha⟩:=ih (k-1) k (o.set (GW k (l.length:Int)).toNat (eW l k)) (by omega) (by omega) (by omega) (by omega) (fun _=>by omega) X2 (fun q a b=>by
   by_cases g:q=k
   ·subst g;exact c2
   ·exact A q (by omega) b)
  refine⟨r,enter r (Ev.bind' _ ei ?_),ha⟩;rw[u5];refine Ev.pos c2.1 (Ev.pos c2.2 (Ev.pos (by omega) ?_));rw[dc (x:=k-1) (by omega) (by omega)];exact er
theorem YR(O:BH l H T)(o:List Sl)(h c t:Int)(X:Out l H (H-1) o):∀ (d i:Nat) (top:Int),l.length-i=d→i≤l.length→ -1≤top→top≤H-1→(GW (H-1) (l.length:Int)<(i:Int)→top=H-1)→
 ∃r,Ev (fun q=>bX.l0 q l (l.length:Int) top l (l.length:Int) (i:Int) o h c t) r∧Fd l H T r:=by
 have n1:=O.n1;have n2:=O.n2;have h1:=O.h1;have t0:=O.t0;have t1:=O.t1;have ht:=O.ht;have m0:0≤GW (H-1) (l.length:Int):=aat _ (by omega);have m1:GW (H-1) (l.length:Int)<(l.length:Int):=aaw _ (by omega);intro d
 induction d with
 |zero=>
  intro i top hd hi ht0 ht1 htop
  have e:i=l.length:=by omega
  subst e;have et:=htop m1;subst et;obtain⟨r,er,ha⟩:=Xh O h c t _ (H-1) (H-1) o rfl (by omega) (by omega) (by omega) (fun q=>absurd q (by omega)) X (fun q a b=>absurd a (by omega));exact⟨r,Ev.step (fun q=>by rw[bX.l0]) (Ev.neg (by omega) (Ev.neg (by omega) er)),ha⟩
 |succ d ih=>
  intro i top hd hi ht0 ht1 htop
  have hil:i<l.length:=by omega
  have eat:J l (i:Int)=at_ l (i:Int):=yE l _ (by omega)
  have ei:=Iz (at_ l (i:Int));have wi:Z (F5 ((i:Int)+1)=((i+1:Nat):Int)):=⟨by rw[dc (by omega) (by omega)];omega⟩
  have nx:=fun top' a b c=>ih (i+1) top' (by omega) (by omega) a b c
  have key:px (at_ l (i:Int))∨∃k,0≤k∧H-(l.length:Int)≤k∧k<H∧Int.tmod k (l.length:Int)=(i:Int)∧jp l k:=by
   rcases YQ H (l.length:Int) (i:Int) n1 (by omega) (by omega) (by omega)with⟨k,a,b,c,e⟩|g
   ·rcases O.rc k a b c with d|q
    ·unfold eW at d
     rw[e]at d;exact .inl d
    ·exact .inr ⟨k,a,b,c,e,q.1⟩
   ·exact .inl (O.un _ g (by omega))
  have mine:GW (H-1) (l.length:Int)=(i:Int)→¬px (at_ l (i:Int)):=fun e q=>by
   have A:=O.al (H-1) (by omega) (by omega);refine Bl (l:=l) (k:=H-1) (by omega) ?_ A;unfold eW;rw[e];exact q
  rcases key with hd1|⟨k,a,bl,b,e,A⟩
  ·have tk:GW (H-1) (l.length:Int)<((i+1:Nat):Int)→top=H-1:=fun q=>by
    by_cases g:GW (H-1) (l.length:Int)=(i:Int)
    ·exact absurd hd1 (mine g)
    ·exact htop (by omega)
   obtain⟨r,er,ha⟩:=nx top ht0 ht1 tk;refine⟨r,Ev.step (fun q=>by rw[bX.l0]) (Ev.pos (by omega) (Ev.pos (by omega) (Ev.pos (by omega) ?_))),ha⟩;rw[eat,wi.out];refine Ev.bind' _ ei ?_
   by_cases c3:jI (at_ l (i:Int))=true
   ·exact Ev.pos c3 (Ev.neg (fun q=>hd1 ⟨c3,q⟩) er)
   ·exact Ev.neg c3 er
  ·have eA:eW l k=at_ l (i:Int):=by unfold eW;rw[e]
   have A1:=A.1;have A2:=A.2;rw[eA]at A1 A2;have d0:0≤aQ k (l.length:Int):=aaU a (by omega);have cd:=Z.mk (a02 k (l.length:Int) a n1 (by omega) _ A2)
   have mk:mx top k≤H-1∧ -1≤mx top k∧(k=H-1→mx top k=H-1)∧(top=H-1→mx top k=H-1):=by
    unfold mx
    split<;>omega
   have tk:GW (H-1) (l.length:Int)<((i+1:Nat):Int)→mx top k=H-1:=fun q=>by
    by_cases g:GW (H-1) (l.length:Int)=(i:Int)
    ·refine mk.2.2.1 ?_
     by_cases g2:k=H-1
     ·exact g2
     ·exact absurd (e.trans g.symm) (zy n1 a (by omega) (by omega))
    ·exact mk.2.2.2 (htop (by omega))
   obtain⟨r,er,ha⟩:=nx (mx top k) mk.2.1 mk.1 tk;refine⟨r,Ev.step (fun q=>by rw[bX.l0]) (Ev.pos (by omega) (Ev.pos (by omega) (Ev.pos (by omega) ?_))),ha⟩;have WP:=cd.out;rw[e]at WP;rw[eat,wi.out,WP];exact Ev.bind' _ ei (Ev.pos A1 (Ev.pos (by omega) er))
theorem X6(n:Int)(h:2≤n∧n≤24):Ev (fun k=>kW.f k n) (List.replicate n.toNat qv,0,1,0,true):=by
 unfold kW.f;refine Ev.bh _ (gu _ _ _) (Ev.pos (by simpa using h) (Ev.bind' _ J7 (Ev.bh (aaA n.toNat qv) ?_ (Ev.now _))))
 first|unfold rp.f|unfold impl_Slot.f
 rw[if_pos (by refine⟨rfl,by omega,by omega,by omega⟩)]
 rfl
theorem QY(O:BH l H T):∃r,Ev (fun q=>bX.f q l) r∧Fd l H T r:=by
 have n1:=O.n1;have n2:=O.n2;have t0:=O.t0;have t1:=O.t1
 have lr:(aaA (l.length:Int).toNat qv).length=l.length:=by rw[List.length_replicate];omega
 have WQ:∀j,0≤j→j<(l.length:Int)→at_ (aaA (l.length:Int).toNat qv) j=qv:=fun j a b=>by
  unfold at_
  rw[List.getD_eq_getElem?_getD,List.getElem?_replicate,if_pos (by omega)]
  rfl
 obtain⟨r,er,ha⟩:=YR O (aaA (l.length:Int).toNat qv) 0 1 0 ⟨lr,fun q a b c=>by
  unfold eW;rw[lr,if_neg (by omega)]
  exact WQ _ (aat _ a) (aaw _ (by omega)),fun j a b=>WQ j (by omega) b⟩ l.length 0 (-1) (by omega) (by omega) (by omega) (by omega) (fun q=>absurd q (by have:=aat (l.length:Int) (show 0≤H-1 by omega);omega))
 refine⟨r, ?_,ha⟩;unfold bX.f;exact Ev.bind' _ (X6 _ ⟨n1,n2⟩) (Ev.pos rfl er)
end
end Go.Proofs.YtgpjnkahgofpmaaDoor.Q
