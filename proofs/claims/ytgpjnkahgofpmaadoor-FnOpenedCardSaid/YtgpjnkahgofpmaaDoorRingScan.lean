/- GoodRing of the program as a plain scan, and what a record more, or a tail pushed, does to it. -/
import Derived.Test.YtgpjnkahgofpmaaDoorRingSum
import Derived.Test.YtgpjnkahgofpmaaDoorG4
open Int renaming tmod→GW,tdiv→aQ,tmod_nonneg→aat,tmod_lt_of_pos→aaw,tdiv_nonneg→aaU,tdiv_le_self→abe,mul_le_mul_of_nonneg_left→abk,mul_tdiv_add_tmod→abp
namespace Go.Proofs.YtgpjnkahgofpmaaDoor.Q
open Go.RowKit Go.Proofs.YtgpjnkahgofpmaaDoorW.PrintWords Go.Proofs.YtgpjnkahgofpmaaDoor.G
set_option linter.unusedVariables false
set_option linter.unusedSimpArgs false
abbrev Sl:=aK
noncomputable def B0:Int:=fw 0 0 ⟨#[]⟩
noncomputable def gM(x:Sl):Bool:=(x.f0==0&& (x.f1==0&& (x.f2.toList==(⟨#[]⟩:ByteArray).toList&&x.f3==B0)))
noncomputable def jI(x:Sl):Bool:=decide (kd x.f0 x.f1 x.f2)&&x.f3==fw x.f0 x.f1 x.f2
theorem Iz(x:Sl):Ev (fun k=>ey.f k x.f0 x.f1 x.f2 x.f3) (jI x):=by
 unfold ey.f jI
 by_cases h:kd x.f0 x.f1 x.f2
 ·rw[decide_eq_true h,Bool.true_and]
  exact Ev.bh _ (wh _ _ _ _) (Ev.pos (by simpa using h) (Ev.bind' _ (rt x.f0 x.f1 x.f2 x.f3).2 (Ev.now _)))
 ·rw[decide_eq_false h,Bool.false_and]
  exact Ev.bh _ (wh _ _ _ _) (Ev.neg (by simpa using h) (Ev.now _))
theorem J7:Ev (fun k=>ia.f k) (0,0,(⟨#[]⟩:ByteArray),B0):=by
 unfold ia.f;exact Ev.bind' _ (rt 0 0 ⟨#[]⟩ 0).2 (Ev.now _)
def at_(l:List Sl)(j:Int):Sl:=l.getD j.toNat gr
theorem yE(l:List Sl)(j:Int)(h:0≤j):J l j=at_ l j:=by simp[J,at_]
def rb(x:Sl)(n t k last:Int):Prop:=x.f0=aQ k n+1∧¬x.f1>k∧¬x.f1>t∧¬x.f1<last
instance(x:Sl)(n t k last:Int):Decidable (rb x n t k last):=by unfold rb;infer_instance
noncomputable def gH(l:List Sl)(n t:Int):Nat→Int→Int→Bool
 |0,_,_=>true
 |m+1,last,k=>
  if k<0 then(if gM (at_ l (k+n))=true then gH l n t m last (k+1)else false)
  else if k<t∧gM (at_ l (GW k n))=true then gH l n t m last (k+1)
  else if jI (at_ l (GW k n))=true∧rb (at_ l (GW k n)) n t k last then gH l n t m (at_ l (GW k n)).f1 (k+1)else false
theorem YS(x:Sl):(!(x.f0==0)||(!(x.f1==0)||(!((x.f2).toList==(⟨#[]⟩:ByteArray).toList)||(!(x.f3==B0)))))= !(gM x):=by
 unfold gM;simp only[Bool.not_and]
theorem a03(l:List Sl)(h c t:Int)(n:Int)(hn:(l.length:Int)=n)(h1:2≤n)(h2:n≤24)(h3:0≤h)(h4:h≤10000000):∀ (m:Nat) (last k:Int),(h-k).toNat=m→h-n≤k→k≤h→
 Ev (fun q=>ao.l0 q n last k l h c t) (gH l n t m last k):=by
 intro m
 induction m with
 |zero=>
  intro last k hm hk1 hk2;refine Ev.step (fun q=>by rw[ao.l0]) (Ev.neg ?_ (Ev.now' (show true=gH l n t 0 last k from rfl)))
  omega
 |succ m ih=>
  intro last k hm hk1 hk2;have hw:wrap64 (k+1)=k+1:=dc (by omega) (by omega)
  have nx:∀last',Ev (fun q=>ao.l0 q n last' (wrap64 (k+1)) l h c t) (gH l n t m last' (k+1)):=fun last'=>by
   rw[hw];exact ih last' (k+1) (by omega) (by omega) (by omega)
  rw[gH];refine Ev.step (fun q=>by rw[ao.l0]) (Ev.pos (by omega) ?_)
  by_cases c1:k<0
  ·rw[if_pos c1]
   refine Ev.pos c1 ?_;have hkn:wrap64 (k+n)=k+n:=dc (by omega) (by omega);rw[hkn];refine Ev.pos (by omega) (Ev.pos (by omega) (Ev.bind' _ J7 ?_));rw[yE l _ (by omega)];have e:=YS (at_ l (k+n))
   by_cases z:gM (at_ l (k+n))=true
   ·rw[if_pos z]
    refine Ev.neg ?_ (nx last)
    show¬((!((at_ l (k+n)).f0==0)||(!((at_ l (k+n)).f1==0)||(!(((at_ l (k+n)).f2).toList==(⟨#[]⟩:ByteArray).toList)||(!((at_ l (k+n)).f3==B0)))))=true)
    rw[e,z]
    decide
   ·rw[if_neg z]
    refine Ev.pos ?_ (Ev.now _)
    show(!((at_ l (k+n)).f0==0)||(!((at_ l (k+n)).f1==0)||(!(((at_ l (k+n)).f2).toList==(⟨#[]⟩:ByteArray).toList)||(!((at_ l (k+n)).f3==B0)))))=true
    rw[e,Bool.eq_false_iff.mpr z]
    rfl
  ·rw[if_neg c1]
   have t0:0≤GW k n:=aat _ (by omega);have t1:GW k n<n:=aaw _ (by omega);refine Ev.neg c1 (Ev.neg (by omega) (Ev.pos t0 (Ev.pos (by omega) ?_)));rw[yE l _ t0]
   obtain⟨x,hx⟩:∃x,x=at_ l (GW k n):=⟨_,rfl⟩
   rw[←hx]
   have hd:wrap64 (aQ k n)=aQ k n:=by
    have a1:0≤aQ k n:=aaU (by omega) (by omega);have a2:aQ k n≤k:=abe _ (by omega);exact dc (by omega) (by omega)
   have hd2:wrap64 (wrap64 (aQ k n)+1)=aQ k n+1:=by
    have a1:0≤aQ k n:=aaU (by omega) (by omega);have a2:aQ k n≤k:=abe _ (by omega);rw[hd];exact dc (by omega) (by omega)
   have tail:∀ (b:Bool),b=false→Ev (fun q=>ao.j2 q n last k b l h c t x.f0 x.f1 x.f2 x.f3) (if jI x=true∧rb x n t k last then gH l n t m x.f1 (k+1)else false):=by
    intro b hb;subst hb;refine Ev.step (fun q=>by rw[ao.j2]) (Ev.neg Bool.false_ne_true (Ev.bind' _ (Iz x) ?_))
    by_cases i1:jI x=true
    ·refine Ev.pos i1 (Ev.neg (by omega) ?_)
     rw[hd2];unfold rb
     by_cases o1:x.f0=aQ k n+1
     ·refine Ev.pos o1 ?_
      by_cases o2:x.f1>k
      ·exact Ev.pos o2 (Ev.now' (by rw[if_neg (fun q=>q.2.2.1 o2)]))
      refine Ev.neg o2 ?_
      by_cases o3:x.f1>t
      ·exact Ev.pos o3 (Ev.now' (by rw[if_neg (fun q=>q.2.2.2.1 o3)]))
      refine Ev.neg o3 ?_
      by_cases o4:x.f1<last
      ·exact Ev.pos o4 (Ev.now' (by rw[if_neg (fun q=>q.2.2.2.2 o4)]))
      refine Ev.neg o4 ?_;rw[if_pos ⟨i1,o1,o2,o3,o4⟩];exact nx x.f1
     ·exact Ev.neg o1 (Ev.now' (by rw[if_neg (fun q=>o1 q.2.1)]))
    ·exact Ev.neg i1 (Ev.now' (by rw[if_neg (fun q=>i1 q.1)]))
   by_cases c2:k<t
   ·refine Ev.pos c2 (Ev.bind' _ J7 ?_)
    show Ev (fun q=>ao.j2 q n last k (gM x) l h c t x.f0 x.f1 x.f2 x.f3) _
    by_cases z:gM x=true
    ·rw[if_pos ⟨c2,z⟩,z]
     exact Ev.step (fun q=>by rw[ao.j2]) (Ev.pos rfl (nx last))
    ·rw[if_neg (fun q=>z q.2)]
     exact tail _ (Bool.eq_false_iff.mpr z)
   ·rw[if_neg (fun q=>c2 q.1)]
    exact Ev.neg c2 (tail false rfl)
theorem G6(l:List Sl)(n t:Int):∀ (m:Nat) (last last' k:Int),last'≤last→gH l n t m last k=true→gH l n t m last' k=true
 |0,_,_,_,_,_=>rfl
 |m+1,last,last',k,hl,h=>by
  rw[gH]at h⊢
  by_cases c1:k<0
  ·rw[if_pos c1]at h⊢
   by_cases z:gM (at_ l (k+n))=true
   ·rw[if_pos z]at h⊢
    exact G6 l n t m last last' (k+1) hl h
   ·rw[if_neg z]at h
    cases h
  ·rw[if_neg c1]at h⊢
   by_cases z:k<t∧gM (at_ l (GW k n))=true
   ·rw[if_pos z]at h⊢
    exact G6 l n t m last last' (k+1) hl h
   ·rw[if_neg z]at h⊢
    by_cases o:jI (at_ l (GW k n))=true∧rb (at_ l (GW k n)) n t k last
    ·rw[if_pos o]at h
     rw[if_pos ⟨o.1,o.2.1,o.2.2.1,o.2.2.2.1,fun q=>o.2.2.2.2 (by omega)⟩];exact h
    ·rw[if_neg o]at h
     cases h
theorem Fr(l:List Sl)(n t t':Int)(ht:t≤t'):∀ (m:Nat) (last k:Int),gH l n t m last k=true→gH l n t' m last k=true
 |0,_,_,_=>rfl
 |m+1,last,k,h=>by
  rw[gH]at h⊢
  by_cases c1:k<0
  ·rw[if_pos c1]at h⊢
   by_cases z:gM (at_ l (k+n))=true
   ·rw[if_pos z]at h⊢
    exact Fr l n t t' ht m last (k+1) h
   ·rw[if_neg z]at h
    cases h
  ·rw[if_neg c1]at h⊢
   by_cases z:k<t∧gM (at_ l (GW k n))=true
   ·rw[if_pos z]at h
    rw[if_pos ⟨by omega,z.2⟩];exact Fr l n t t' ht m last (k+1) h
   ·rw[if_neg z]at h
    by_cases o:jI (at_ l (GW k n))=true∧rb (at_ l (GW k n)) n t k last
    ·rw[if_pos o]at h
     have r:=Fr l n t t' ht m _ (k+1) h;obtain⟨o1,o2,o3,o4,o5⟩:=o
     by_cases z':k<t'∧gM (at_ l (GW k n))=true
     ·rw[if_pos z']
      exact G6 l n t' m _ last (k+1) (by omega) r
     ·rw[if_neg z',if_pos ⟨o1,o2,o3,by omega,o5⟩]
      exact r
    ·rw[if_neg o]at h
     cases h
theorem Xj(l l':List Sl)(n t h:Int)(hn:2≤n)(ht0:0≤t)(hth:t≤h)(hsame:∀j:Int,0≤j→j<n→j≠GW h n→at_ l' j=at_ l j)
 (hnew:jI (at_ l' (GW h n))=true∧(at_ l' (GW h n)).f0=aQ h n+1∧(at_ l' (GW h n)).f1=t)(hh:0≤h):
 ∀ (m:Nat) (last k:Int),k+(m:Int)=h→h+1-n≤k→last≤t→gH l n t m last k=true→gH l' n t (m+1) last k=true:=by
 intro m
 induction m with
 |zero=>
  intro last k hk hk2 hlt _
  have e:k=h:=by omega
  subst e;rw[gH,if_neg (by omega),if_neg (by omega),if_pos ⟨hnew.1,hnew.2.1,by omega,by omega,by omega⟩,gH]
 |succ m ih=>
  intro last k hk hk2 hlt h0
  have hne:k<0→k+n≠GW h n:=by
   intro c1 e;have e2:GW h n=h:=Int.tmod_eq_of_lt hh (by omega)
   omega
  have hne2:0≤k→GW k n≠GW h n:=by
   intro c1 e;have d1:=abp k n;have d2:=abp h n
   have hlt':h-k<n:=by omega
   have hgt:0<h-k:=by omega
   have e3:n*(aQ h n-aQ k n)=h-k:=by rw[Int.mul_sub];omega
   rcases(show 0<aQ h n-aQ k n∨aQ h n-aQ k n≤0 by omega)with q|q
   ·have:n*1≤n*(aQ h n-aQ k n):=abk (by omega) (by omega)
    omega
   ·have:n*(aQ h n-aQ k n)≤n*0:=abk (by omega) (by omega)
    omega
  rw[gH]at h0⊢
  by_cases c1:k<0
  ·rw[if_pos c1]at h0⊢
   rw[hsame (k+n) (by omega) (by omega) (hne c1)]
   by_cases z:gM (at_ l (k+n))=true
   ·rw[if_pos z]at h0⊢
    exact ih last (k+1) (by omega) (by omega) hlt h0
   ·rw[if_neg z]at h0
    cases h0
  ·rw[if_neg c1]at h0⊢
   rw[hsame (GW k n) (aat _ (by omega)) (aaw _ (by omega)) (hne2 (by omega))]
   by_cases z:k<t∧gM (at_ l (GW k n))=true
   ·rw[if_pos z]at h0⊢
    exact ih last (k+1) (by omega) (by omega) hlt h0
   ·rw[if_neg z]at h0⊢
    by_cases o:jI (at_ l (GW k n))=true∧rb (at_ l (GW k n)) n t k last
    ·rw[if_pos o]at h0⊢
     exact ih _ (k+1) (by omega) (by omega) (by have:=o.2.2.2.1;omega) h0
    ·rw[if_neg o]at h0
     cases h0
end Go.Proofs.YtgpjnkahgofpmaaDoor.Q
