import Derived.Test.YtjojdplkgekagaaMapCanon
import Derived.Test.YtjojdplkgekagaaMapCut
import Derived.Test.YtjojdplkgekagaaMapBlocks
namespace Go.Proofs.Ytjojdplkgekagaa.Q
open Go.RowKit Go.Proofs.YtjojdplkgekagaaW.PrintWords Go.Proofs.Ytjojdplkgekagaa.G
set_option linter.unusedVariables false
set_option linter.unusedSimpArgs false
theorem XL {l m:List Pc}(hg:dh l)(hm:gi m)(hs:∀p,p∈m→∃j,j<l.length∧Part p (l.getD j pz)):∀i j,i<j→j<m.length→n8 (m.getD i pz) (m.getD j pz):=by
 intro i j hij hj;obtain⟨u,hu,pu⟩:=hs _ (jB m i pz (by omega));obtain⟨v,hv,pv⟩:=hs _ (jB m j pz hj);have h1:=mT hm i j hij hj;unfold Part at pu pv;unfold n8
 rcases Nat.lt_trichotomy u v with h|h|h
 ·have:=(hg.2 v hv).2.2 u h
  unfold n8 at this
  omega
 ·subst h;omega
 ·have:=(hg.2 u hu).2.2 v h
  unfold n8 at this
  omega
theorem parts_good {l m:List Pc}(hg:dh l)(hm:ja m)(hs:∀p,p∈m→∃j,j<l.length∧Part p (l.getD j pz))(hn:m.length≤40):dh m:=by
 refine⟨hn,fun i hi=>⟨hm.1.1 i hi,fun h0=> ?_,fun j hj=>XL hg hm.1 hs j i hj hi⟩⟩;have a:=hm.1.2 (i-1) (by omega);have b:=hm.2 (i-1) (by omega);rw[show i-1+1=i by omega]at a b;exact⟨a,b⟩
theorem XK {l o q:List Pc}{fr en:Int}(hg:dh l)(h0:0≤fr)(h2:en≤200)(inv:sG l fr en l.length o q):∃E,Ev (fun k=>bl.f k q) E∧jO 400 E∧∀b:Nat,gm E b↔ ∃n:Nat,(fr≤(n:Int)∧(n:Int)<en)∧(bD l n).f0=true∧(bD l n).f1=(b:Int):=by
 have hc:=rn hg.2;have hql:=oz inv.oq;obtain⟨E,h1,h2',h3⟩:=XR q (fun p hp=>z3 inv.oq hp) (XL hg inv.oq inv.sq) (by omega);refine⟨E,h1,h2',fun b=> ?_⟩;rw[h3 b]
 constructor
 ·rintro⟨p,hp,hpb⟩
  have hi:=z3 inv.oq hp;have hr:=inv.iq p hp;unfold eM at hi;unfold wl at hpb
  have hn:ce p (p.f0+((b:Int)-p.f2)).toNat:=by unfold ce;omega
  have hin:fr≤(((p.f0+((b:Int)-p.f2)).toNat:Nat):Int)∧(((p.f0+((b:Int)-p.f2)).toNat:Nat):Int)<en:=by omega
  have e:=Hv hc inv (p.f0+((b:Int)-p.f2)).toNat;rw[if_pos hin,kv inv.oq hp hn]at e;refine⟨_,hin, ?_, ?_⟩
  ·rw[←e]
  ·rw[←e]
   simp only
   omega
 ·rintro⟨n,hin,hf,e⟩
  have e1:=Hv hc inv n;rw[if_pos hin]at e1;rw[←e1]at hf e
  rcases o3 inv.oq n with⟨p,hp,hpn,e2⟩|⟨_,e2⟩
  ·rw[e2]at e
   refine⟨p,hp, ?_⟩;unfold ce at hpn;unfold wl;simp only at e
   omega
  ·rw[e2]at hf
   cases hf
theorem Lg {l:List Pc}(h:gi l)(n:Nat)(hf:(bD l n).f0=true):0≤(bD l n).f1∧(bD l n).f1<400:=by
 rcases o3 h n with⟨p,hp,hpn,e⟩|⟨_,e⟩
 ·rw[e]
  have:=z3 h hp;unfold eM at this;unfold ce at hpn;simp only
  omega
 ·rw[e]at hf
  cases hf
theorem LY(l:List Pc)(a n:Nat)(h:a+n<200):((cellsOf l).drop a).getD n dO=bD l (a+n):=by
 rw[←uc l (a+n) h]
 simp[List.getD_eq_getElem?_getD]
theorem cellsOf_take(l:List Pc)(a n:Nat)(h:n<a)(h2:n<200):((cellsOf l).take a).getD n dO=bD l n:=by
 rw[←uc l n h2]
 simp[List.getD_eq_getElem?_getD,h]
end Go.Proofs.Ytjojdplkgekagaa.Q
