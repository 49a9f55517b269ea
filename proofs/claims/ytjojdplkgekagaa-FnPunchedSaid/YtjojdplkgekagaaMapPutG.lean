/- A piece put into a map, by the reference: where it lies. No statement. -/
import Derived.Test.YtjojdplkgekagaaMapCanon
import Derived.Test.YtjojdplkgekagaaMapJoin
import Derived.Test.YtjojdplkgekagaaG4
namespace Go.Proofs.Ytjojdplkgekagaa.Q
open Go.RowKit Go.Proofs.YtjojdplkgekagaaW.PrintWords Go.Proofs.Ytjojdplkgekagaa.G
set_option linter.unusedVariables false
set_option linter.unusedSimpArgs false
theorem a3y {β:Type}{L:Nat→Nat→Option β}{n:Nat}{p:Nat→Prop}{r:β}(h1:(∀i,i<n→p i)→Ev (fun k=>L k n) r)(h2:∀i,i<n→(∀j,j<i→p j)→p i→Ev (fun k=>L k (i+1)) r→Ev (fun k=>L k i) r)(h3:∀i,i<n→(∀j,j<i→p j)→¬p i→Ev (fun k=>L k i) r):Ev (fun k=>L k 0) r:=by
 have key:∀d i,n-i=d→i≤n→(∀j,j<i→p j)→Ev (fun k=>L k i) r:=by
  intro d
  induction d with
  |zero=>
   intro i hd hi hp
   have:i=n:=by omega
   subst this;exact h1 hp
  |succ d ih=>
   intro i hd hi hp
   by_cases e:p i
   ·refine h2 i (by omega) hp e (ih (i+1) (by omega) (by omega) fun j hj=> ?_)
    by_cases e2:j=i
    ·subst e2;exact e
    ·exact hp j (by omega)
   ·exact h3 i (by omega) hp e
 exact key n 0 rfl (by omega) (fun j h=>by omega)
def FO(q p:Pc):Prop:=q.f0<p.f0+p.f1∧p.f0<q.f0+q.f1
def DO(q p:Pc):Prop:=q.f2<p.f2+p.f1∧p.f2<q.f2+q.f1
instance(q p:Pc):Decidable (FO q p):=by unfold FO;infer_instance
instance(q p:Pc):Decidable (DO q p):=by unfold DO;infer_instance
theorem good_inj {l:List Pc}(h:dh l){n m:Nat}{b:Int}{f g:Bool}(hn:bD l n=⟨true,b,f⟩)(hm:bD l m=⟨true,b,g⟩):n=m:=by
 have ho:=(rn h.2).1
 have notz:∀ (b:Int) (f:Bool),(dO:mI)≠⟨true,b,f⟩:=fun b f e=>by
  have:=congrArg eW.f0 e
  simp[dO]at this
 rcases o3 ho n with⟨p,hp,hpn,e⟩|⟨_,e⟩
 ·rcases o3 ho m with⟨q,hq,hqm,e2⟩|⟨_,e2⟩
  ·rw[e]at hn
   rw[e2]at hm;have e3:=congrArg eW.f1 hn;have e4:=congrArg eW.f1 hm;simp only at e3 e4;obtain⟨i,hi,rfl⟩:=pD pz hp;obtain⟨j,hj,rfl⟩:=pD pz hq;unfold ce at hpn hqm
   rcases Nat.lt_trichotomy i j with hij|hij|hij
   ·have:=(h.2 j hj).2.2 i hij
    unfold n8 at this
    omega
   ·subst hij;omega
   ·have:=(h.2 i hi).2.2 j hij
    unfold n8 at this
    omega
  ·rw[e2]at hm
   exact absurd hm (notz _ _)
 ·rw[e]at hn
  exact absurd hn (notz _ _)
theorem EG {l:List Pc}(h:gi l)(n:Nat):(bD l n).f0=true↔ ∃q∈l,ce q n:=by
 rcases o3 h n with⟨q,hq,hqn,e⟩|⟨hno,e⟩
 ·rw[e]
  exact⟨fun _=>⟨q,hq,hqn⟩,fun _=>rfl⟩
 ·rw[e]
  refine⟨fun h=>by simp[dO]at h,fun⟨q,hq,hqn⟩=>absurd hqn (hno q hq)⟩
theorem rdcell_cast(l:List mI)(i:Nat):am l (i:Int)=l.getD i dO:=by simp[am]
def za(l:List Pc)(p:Pc)(r:List Pc×Bool):Prop:=(r.2=true→dh l∧iF p∧(∀n:Nat,ce p n→(bD l n).f0≠true)∧dh r.1∧∀n:Nat,bD r.1 n=if ce p n then⟨true,p.f2+((n:Int)-p.f0),p.f3⟩else bD l n)∧(r.2=false→r.1=[])
theorem za.zero(l:List Pc)(p:Pc):za l p ([],false):=⟨fun h=>(by cases h),fun _=>rfl⟩
theorem XD(l:List Pc)(hl:l.length≤1048576)(p:Pc):∃r,Ev (fun k=>eR.f k l p.f0 p.f1 p.f2 p.f3) r∧True∧za l p r:=by
 have n1:Ev (fun k=>eR.j0 k true l p.f0 p.f1 p.f2 p.f3) ([],false):=Ev.step (fun k=>by rw[eR.j0]) (Ev.pos rfl (Ev.now _));unfold eR.f
 by_cases hg:dh l
 ·by_cases hp:iF p
  ·have hc:=rn hg.2
   have hlen:=oz hc.1;have hp':=hp;unfold iF at hp';obtain⟨k0,hk1,hk2,hk3,hput⟩:=a0z l p (by omega)
   have spec:∀r,((∀i,i<l.length→¬(FO (l.getD i pz) p∨DO (l.getD i pz) p))→Ev (fun k=>(gW.f k l p.f0 p.f1 p.f2 p.f3).bind fun t=>((dK.f k t).bind fun t2=>((br.f k t2).bind fun t3=>(if t3=true then(some (t2,true))else(some (([]:List Pc),false)))))) r)→((∃i,i<l.length∧(FO (l.getD i pz) p∨DO (l.getD i pz) p))→r=([],false))→Ev (fun k=>eR.j0 k false l p.f0 p.f1 p.f2 p.f3) r:=by
    intro r h1 h2;refine Ev.step (fun k=>by rw[eR.j0]) (Ev.neg (by simp) ?_);refine a3y (L:=fun k i=>eR.l0 k l (l.length:Int) (i:Int) l p.f0 p.f1 p.f2 p.f3) (n:=l.length) (p:=fun i=>¬(FO (l.getD i pz) p∨DO (l.getD i pz) p)) ?_ ?_ ?_
    ·intro h
     refine Ev.step (fun k=>by rw[eR.l0]) ?_;exact Ev.neg (by omega) (h1 h)
    ·intro i hi _ hb next
     have hq:=hc.1.1 i hi;unfold eM at hq;unfold FO DO at hb;refine Ev.step (fun k=>by rw[eR.l0]) ?_;rw[kj,bg (x:=(i:Int)+1) (by omega) (by omega),bg (x:=p.f0+p.f1) (by omega) (by omega),bg (x:=p.f2+p.f1) (by omega) (by omega),bg (x:=(l.getD i pz).f0+(l.getD i pz).f1) (by omega) (by omega),bg (x:=(l.getD i pz).f2+(l.getD i pz).f1) (by omega) (by omega)];refine Ev.pos (by omega) (Ev.pos (by omega) (Ev.pos (by omega) (Ev.ite (fun a=>Ev.neg (by omega) (Ev.ite (fun b=>Ev.neg (by omega) next) (fun _=>next))) (fun a=>Ev.ite (fun b=>Ev.neg (by omega) next) (fun _=>next)))))
    ·intro i hi _ hb
     have hr:r=([],false):=h2 ⟨i,hi,Classical.byContradiction fun e=>hb e⟩
     have hb:FO (l.getD i pz) p∨DO (l.getD i pz) p:=Classical.byContradiction fun e=>hb e
     have hq:=hc.1.1 i hi;unfold eM at hq;unfold FO DO at hb;refine Ev.step (fun k=>by rw[eR.l0]) ?_;rw[kj,bg (x:=(i:Int)+1) (by omega) (by omega),bg (x:=p.f0+p.f1) (by omega) (by omega),bg (x:=p.f2+p.f1) (by omega) (by omega),bg (x:=(l.getD i pz).f0+(l.getD i pz).f1) (by omega) (by omega),bg (x:=(l.getD i pz).f2+(l.getD i pz).f1) (by omega) (by omega),hr];refine Ev.pos (by omega) (Ev.pos (by omega) (Ev.pos (by omega) (Ev.ite (fun a=>Ev.ite (fun _=>Ev.now _) (fun b=>Ev.pos (by omega) (Ev.pos (by omega) (Ev.now _)))) (fun a=>Ev.pos (by omega) (Ev.pos (by omega) (Ev.now _))))))
   have s0:∀r,Ev (fun k=>eR.j0 k false l p.f0 p.f1 p.f2 p.f3) r→Ev (fun k=>(br.f k l).bind fun t=>(if t=true then((oy.f p.f0 p.f1 p.f2 p.f3).bind fun t2=>(eR.j0 k (!t2) l p.f0 p.f1 p.f2 p.f3))else(eR.j0 k true l p.f0 p.f1 p.f2 p.f3))) r:=fun r h=>by
    refine Ev.bind' _ (vo l hl) (Ev.pos (by simpa using hg) (Ev.cW _ (Lh p) ?_));rw[decide_eq_true hp];exact h
   by_cases hf:∃i,i<l.length∧FO (l.getD i pz) p
   ·obtain⟨i,hi,hfo⟩:=hf
    refine⟨([],false),s0 _ (spec _ (fun h=>absurd (.inl hfo) (h i hi)) (fun _=>rfl)),trivial,za.zero _ _⟩
   ·have hf':∀i,i<l.length→¬FO (l.getD i pz) p:=fun i hi h=>hf ⟨i,hi,h⟩
    have hap:∀q∈l,q.f0+q.f1≤p.f0∨p.f0+p.f1≤q.f0:=fun q hq=>by
     obtain⟨i,hi,rfl⟩:=pD pz hq;have:=hf' i hi;unfold FO at this
     omega
    have hpo:=a0h hc.1 hp hk1 hk2 hk3 hap;obtain⟨out,hj,hcan,hcell,hend⟩:=Y8 _ hpo
    have hend':=hend 200 (fun q hq=>by
     rcases Mm.1 hq with rfl|hq
     ·omega
     ·have:=z3 hc.1 hq
      unfold eM at this
      omega)
    have hfree:∀x:Nat,(x:Int)<p.f1→(bD l (p.f0+(x:Int)).toNat).f0≠true:=fun x hx e=>by
     obtain⟨q,hq,hqn⟩:=(EG hc.1 _).1 e;have:=hap q hq;unfold ce at hqn
     omega
    have holen:=oz hcan.1
    by_cases hd:∃i,i<l.length∧DO (l.getD i pz) p
    ·obtain⟨i,hi,hdo⟩:=hd
     exact⟨([],false),s0 _ (spec _ (fun h=>absurd (.inr hdo) (h i hi)) (fun _=>rfl)),trivial,za.zero _ _⟩
    ·refine⟨if dh out then(out,true)else([],false),s0 _ (spec _ (fun _=> ?_) (fun⟨i,hi,h⟩=> ?_)),trivial, ?_⟩
     ·refine Ev.bind' _ hput (Ev.bind' _ hj (Ev.bind' _ (vo out (by omega)) ?_))
      by_cases ho:dh out
      ·rw[if_pos ho]
       exact Ev.pos (by simpa using ho) (Ev.now _)
      ·rw[if_neg ho]
       exact Ev.neg (by simpa using ho) (Ev.now _)
     ·rcases h with h|h
      ·exact absurd h (hf' i hi)
      ·exact absurd ⟨i,hi,h⟩ hd
     ·by_cases ho:dh out
      ·rw[if_pos ho]
       refine⟨fun _=>⟨hg,hp,fun n hn=> ?_,ho,fun n=>by rw[hcell n,Yo hc.1 hpo n]⟩,fun h=>by cases h⟩;have hn':=hn;unfold ce at hn';have h5:=hfree ((n:Int)-p.f0).toNat (by omega);rw[show(p.f0+(((n:Int)-p.f0).toNat:Int)).toNat=n by omega]at h5;exact h5
      ·rw[if_neg ho];exact za.zero _ _
  ·refine⟨([],false),Ev.bind' _ (vo l hl) (Ev.pos (by simpa using hg) (Ev.cW _ (Lh p) ?_)),trivial,za.zero _ _⟩
   ·rw[decide_eq_false hp]
    exact n1
 ·exact⟨([],false),Ev.bind' _ (vo l hl) (Ev.neg (by simpa using hg) n1),trivial,za.zero _ _⟩
end Go.Proofs.Ytjojdplkgekagaa.Q
