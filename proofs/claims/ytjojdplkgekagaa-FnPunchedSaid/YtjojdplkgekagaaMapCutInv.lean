import Derived.Test.YtjojdplkgekagaaMapTheory
open List renaming length_append→lK,length_singleton→aaf,mem_singleton→aap,mem_append→aat,mem_append_left→aaE,mem_singleton_self→aa5,mem_append_right→abb,append_nil→abl
namespace Go.Proofs.Ytjojdplkgekagaa.Q
open Go.RowKit Go.Proofs.YtjojdplkgekagaaW.PrintWords Go.Proofs.Ytjojdplkgekagaa.G
set_option linter.unusedVariables false
set_option linter.unusedSimpArgs false
def Part(p q:Pc):Prop:=q.f0≤p.f0∧1≤p.f1∧p.f0+p.f1≤q.f0+q.f1∧p.f2-p.f0=q.f2-q.f0∧p.f3=q.f3
structure sG(l:List Pc)(fr en:Int)(i:Nat)(o q:List Pc):Prop where
 co:ja o
 oq:gi q
 iq:∀p,p∈q→fr≤p.f0∧p.f0+p.f1≤en
 io:∀p,p∈o→p.f0+p.f1≤fr∨en≤p.f0∨en≤fr
 so:∀p,p∈o→∃j,j<i∧Part p (l.getD j pz)
 sq:∀p,p∈q→∃j,j<i∧Part p (l.getD j pz)
 ho:∀j,j<i→∀n:Nat,ce (l.getD j pz) n→¬(fr≤(n:Int)∧(n:Int)<en)→∃p,p∈o∧ce p n
 lo:(∀j,j<l.length→(l.getD j pz).f0+(l.getD j pz).f1≤en)→o.length≤i
 hq:∀j,j<i→∀n:Nat,ce (l.getD j pz) n→(fr≤(n:Int)∧(n:Int)<en)→∃p,p∈q∧ce p n
theorem Ql {p q:Pc}(h:Part p q)(hq:eM q):eM p:=by
 unfold Part at h;unfold eM at hq⊢
 omega
theorem Qm {l:List Pc}(h:0<l.length):l.getD (l.length-1) pz∈l:=jB l _ pz (by omega)
theorem XS {l o:List Pc}{i:Nat}{r:Pc}(hc:ja l)(hi:i<l.length)(co:ja o)(so:∀p,p∈o→∃j,j<i∧Part p (l.getD j pz))(hr:Part r (l.getD i pz)):ja (o++[r]):=by
 refine Li co (Ql hr (hc.1.1 i hi)) fun h0=> ?_
 obtain⟨j,hj,hp⟩:=so _ (Qm h0)
 generalize o.getD (o.length-1) pz=p at hp⊢
 have h1:=mT hc.1 j i hj hi;have hr':=hr;have hp':=hp;unfold Part at hr' hp';refine⟨by omega,fun hg=> ?_⟩;unfold lE at hg;have hq:=hc.1.1 i hi;unfold eM at hq
 by_cases e:j+1=i
 ·subst e
  refine hc.2 j hi ⟨by omega,by omega, ?_⟩;rw[←hp'.2.2.2.2,hg.2.2,hr'.2.2.2.2]
 ·have h2:=mT hc.1 j (i-1) (by omega) (by omega)
  have h3:=mT hc.1 (i-1) i (by omega) hi;have h4:=hc.1.1 (i-1) (by omega);unfold eM at h4
  omega
theorem ord_part {l o:List Pc}{i:Nat}{r:Pc}(hc:gi l)(hi:i<l.length)(co:gi o)(so:∀p,p∈o→∃j,j<i∧Part p (l.getD j pz))(hr:Part r (l.getD i pz)):gi (o++[r]):=by
 refine Qk co (Ql hr (hc.1 i hi)) fun h0=> ?_
 obtain⟨j,hj,hp⟩:=so _ (Qm h0)
 generalize o.getD (o.length-1) pz=p at hp⊢
 have h1:=mT hc j i hj hi;unfold Part at hr hp
 omega
theorem inv_out {l:List Pc}{fr en:Int}{i:Nat}{o q:List Pc}(hc:ja l)(hi:i<l.length)(h:sG l fr en i o q)(hx:(l.getD i pz).f0+(l.getD i pz).f1≤fr∨en≤(l.getD i pz).f0∨en≤fr)(hfe:fr≤en):sG l fr en (i+1) (o++[l.getD i pz]) q:=by
 have hq:=hc.1.1 i hi
 have hpp:Part (l.getD i pz) (l.getD i pz):=by
  unfold eM at hq;unfold Part;exact⟨by omega,by omega,by omega,by omega,rfl⟩
 refine⟨XS hc hi h.co h.so hpp,h.oq,h.iq,fun p hp=> ?_,fun p hp=> ?_,fun p hp=> ?_,fun j hj n hn hr=> ?_,fun ha=> ?_,fun j hj n hn hr=> ?_⟩
 ·rcases aat.1 hp with hp|hp
  ·exact h.io p hp
  ·rw[aap.1 hp];exact hx
 ·rcases aat.1 hp with hp|hp
  ·obtain⟨j,h1,h2⟩:=h.so p hp
   exact⟨j,by omega,h2⟩
  ·rw[aap.1 hp];exact⟨i,by omega,hpp⟩
 ·obtain⟨j,h1,h2⟩:=h.sq p hp
  exact⟨j,by omega,h2⟩
 ·by_cases e:j=i
  ·subst e
   exact⟨_,abb _ (aa5 _),hn⟩
  ·obtain⟨p,h1,h2⟩:=h.ho j (by omega) n hn hr
   exact⟨p,aaE _ h1,h2⟩
 ·have:=h.lo ha
  rw[lK,aaf]
  omega
 ·by_cases e:j=i
  ·subst e
   unfold ce at hn
   omega
  ·exact h.hq j (by omega) n hn hr
theorem inv_mid {l:List Pc}{fr en:Int}{i:Nat}{o q:List Pc}(hc:ja l)(hi:i<l.length)(h:sG l fr en i o q)(lo hi':Int)(h1:lo=fr∧(l.getD i pz).f0<fr∨lo=(l.getD i pz).f0∧fr≤(l.getD i pz).f0)(h2:hi'=en∧en<(l.getD i pz).f0+(l.getD i pz).f1∨hi'=(l.getD i pz).f0+(l.getD i pz).f1∧(l.getD i pz).f0+(l.getD i pz).f1≤en)(hlt:lo<hi')(L R:List Pc)
 (hL:(L=[⟨(l.getD i pz).f0,lo-(l.getD i pz).f0,(l.getD i pz).f2,(l.getD i pz).f3⟩]∧(l.getD i pz).f0<lo)∨(L=[]∧lo=(l.getD i pz).f0))
 (hR:(R=[⟨hi',(l.getD i pz).f0+(l.getD i pz).f1-hi',(l.getD i pz).f2+hi'-(l.getD i pz).f0,(l.getD i pz).f3⟩]∧hi'<(l.getD i pz).f0+(l.getD i pz).f1)∨(R=[]∧hi'=(l.getD i pz).f0+(l.getD i pz).f1)):
 sG l fr en (i+1) (o++L++R) (q++[⟨lo,hi'-lo,(l.getD i pz).f2+lo-(l.getD i pz).f0,(l.getD i pz).f3⟩]):=by
 have hq:=hc.1.1 i hi;have hq':=hq;unfold eM at hq'
 have pM:Part ⟨lo,hi'-lo,(l.getD i pz).f2+lo-(l.getD i pz).f0,(l.getD i pz).f3⟩ (l.getD i pz):=by
  unfold Part;exact⟨by first|(simp only;done)|(simp only;omega)|omega,by first|(simp only;done)|(simp only;omega)|omega,by first|(simp only;done)|(simp only;omega)|omega,by first|(simp only;done)|(simp only;omega)|omega,rfl⟩
 have pL:∀p,p∈L→Part p (l.getD i pz)∧p.f0+p.f1=fr∧p.f0=(l.getD i pz).f0∧p.f0+p.f1=lo:=fun p hp=>by
  rcases hL with⟨rfl,e⟩|⟨rfl,_⟩
  ·rw[aap.1 hp]
   unfold Part;exact⟨⟨by first|(simp only;done)|(simp only;omega)|omega,by first|(simp only;done)|(simp only;omega)|omega,by first|(simp only;done)|(simp only;omega)|omega,by first|(simp only;done)|(simp only;omega)|omega,rfl⟩,by first|(simp only;done)|(simp only;omega)|omega,rfl,by first|(simp only;done)|(simp only;omega)|omega⟩
  ·cases hp
 have pR:∀p,p∈R→Part p (l.getD i pz)∧p.f0=en∧p.f0=hi'∧p.f0+p.f1=(l.getD i pz).f0+(l.getD i pz).f1:=fun p hp=>by
  rcases hR with⟨rfl,e⟩|⟨rfl,_⟩
  ·rw[aap.1 hp]
   unfold Part;exact⟨⟨by first|(simp only;done)|(simp only;omega)|omega,by first|(simp only;done)|(simp only;omega)|omega,by first|(simp only;done)|(simp only;omega)|omega,by first|(simp only;done)|(simp only;omega)|omega,rfl⟩,by first|(simp only;done)|(simp only;omega)|omega,rfl,by first|(simp only;done)|(simp only;omega)|omega⟩
  ·cases hp
 have cL:ja (o++L):=by
  rcases hL with⟨rfl,e⟩|⟨rfl,_⟩
  ·exact XS hc hi h.co h.so (pL _ (aa5 _)).1
  ·rw[abl];exact h.co
 have cR:ja (o++L++R):=by
  rcases hR with⟨rfl,e⟩|⟨rfl,_⟩
  ·have pr:=pR _ (aa5 _)
   refine Li cL (Ql pr.1 hq) fun h0=> ?_
   have hm:=Qm h0
   generalize (o++L).getD ((o++L).length-1) pz=p at hm⊢
   have hlast:p.f0+p.f1<hi':=by
    rcases aat.1 hm with hm|hm
    ·obtain⟨j,hj,hp⟩:=h.so p hm
     have:=mT hc.1 j i hj hi;unfold Part at hp
     omega
    ·have:=pL p hm
     omega
   refine⟨by first|(simp only;done)|(simp only;omega)|omega,fun hg=> ?_⟩;unfold lE at hg;simp only at hg
   omega
  ·rw[abl];exact cL
 refine⟨cR,ord_part hc.1 hi h.oq h.sq pM,fun p hp=> ?_,fun p hp=> ?_,fun p hp=> ?_,fun p hp=> ?_,fun j hj n hn hr=> ?_,fun ha=> ?_,fun j hj n hn hr=> ?_⟩
 ·rcases aat.1 hp with hp|hp
  ·exact h.iq p hp
  ·rw[aap.1 hp];exact⟨by first|(simp only;done)|(simp only;omega)|omega,by first|(simp only;done)|(simp only;omega)|omega⟩
 ·rcases aat.1 hp with hp|hp
  ·rcases aat.1 hp with hp|hp
   ·exact h.io p hp
   ·have:=pL p hp;omega
  ·have:=pR p hp;omega
 ·rcases aat.1 hp with hp|hp
  ·rcases aat.1 hp with hp|hp
   ·obtain⟨j,a,b⟩:=h.so p hp
    exact⟨j,by omega,b⟩
   ·exact⟨i,by omega,(pL p hp).1⟩
  ·exact⟨i,by omega,(pR p hp).1⟩
 ·rcases aat.1 hp with hp|hp
  ·obtain⟨j,a,b⟩:=h.sq p hp
   exact⟨j,by omega,b⟩
  ·rw[aap.1 hp];exact⟨i,by omega,pM⟩
 ·by_cases e:j=i
  ·subst e
   unfold ce at hn
   by_cases e2:(n:Int)<lo
   ·rcases hL with⟨rfl,e3⟩|⟨rfl,e3⟩
    ·refine⟨_,aaE _ (abb _ (aa5 _)), ?_⟩
     unfold ce;simp only
     omega
    ·omega
   ·rcases hR with⟨rfl,e3⟩|⟨rfl,e3⟩
    ·refine⟨_,abb _ (aa5 _), ?_⟩
     unfold ce;simp only
     omega
    ·omega
  ·obtain⟨p,a,b⟩:=h.ho j (by omega) n hn hr
   exact⟨p,aaE _ (aaE _ a),b⟩
 ·have:=h.lo ha
  have hai:=ha i hi;rw[lK,lK]
  rcases hR with⟨_,e⟩|⟨rfl,_⟩
  ·omega
  ·rcases hL with⟨rfl,_⟩|⟨rfl,_⟩
   ·simp only[aaf,List.length_nil];omega
   ·simp only[List.length_nil];omega
 ·by_cases e:j=i
  ·subst e
   unfold ce at hn;refine⟨_,abb _ (aa5 _), ?_⟩;unfold ce;simp only
   omega
  ·obtain⟨p,a,b⟩:=h.hq j (by omega) n hn hr
   exact⟨p,aaE _ a,b⟩
theorem Ec {l o q:List Pc}{fr en:Int}(hc:ja l)(h:sG l fr en l.length o q)(n:Nat):bD o n=if fr≤(n:Int)∧(n:Int)<en then dO else bD l n:=by
 by_cases e:fr≤(n:Int)∧(n:Int)<en
 ·rw[if_pos e]
  refine st fun p hp hn=> ?_
  have:=h.io p hp;unfold ce at hn
  omega
 ·rw[if_neg e]
  rcases o3 hc.1 n with⟨p,hp,hpn,e1⟩|⟨hno,e1⟩
  ·obtain⟨j,hj,rfl⟩:=pD pz hp
   obtain⟨r,hr,hrn⟩:=h.ho j hj n hpn e;obtain⟨m,hm,hpart⟩:=h.so r hr;rw[kv h.co.1 hr hrn];unfold Part at hpart;have e2:=yQ hc.1 m hm n (by unfold ce at hrn⊢;omega);rw[e2,hpart.2.2.2.2]
   congr 1
   omega
  ·rw[e1]
   refine st fun p hp hn=> ?_
   obtain⟨m,hm,hpart⟩:=h.so p hp;refine hno _ (jB l m pz hm) ?_;unfold Part at hpart;unfold ce at hn⊢
   omega
theorem Hv {l o q:List Pc}{fr en:Int}(hc:ja l)(h:sG l fr en l.length o q)(n:Nat):bD q n=if fr≤(n:Int)∧(n:Int)<en then bD l n else dO:=by
 by_cases e:fr≤(n:Int)∧(n:Int)<en
 ·rw[if_pos e]
  rcases o3 hc.1 n with⟨p,hp,hpn,e1⟩|⟨hno,e1⟩
  ·obtain⟨j,hj,rfl⟩:=pD pz hp
   obtain⟨r,hr,hrn⟩:=h.hq j hj n hpn e;obtain⟨m,hm,hpart⟩:=h.sq r hr;rw[kv h.oq hr hrn];unfold Part at hpart;have e2:=yQ hc.1 m hm n (by unfold ce at hrn⊢;omega);rw[e2,hpart.2.2.2.2]
   congr 1
   omega
  ·rw[e1]
   refine st fun p hp hn=> ?_
   obtain⟨m,hm,hpart⟩:=h.sq p hp;refine hno _ (jB l m pz hm) ?_;unfold Part at hpart;unfold ce at hn⊢
   omega
 ·rw[if_neg e]
  refine st fun p hp hn=> ?_
  have:=h.iq p hp;unfold ce at hn
  omega
end Go.Proofs.Ytjojdplkgekagaa.Q
