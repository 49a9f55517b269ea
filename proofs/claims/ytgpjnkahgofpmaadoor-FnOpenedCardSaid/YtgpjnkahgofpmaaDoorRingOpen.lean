/- OpenRing of the reference and of the program: the same ring. -/
import Derived.Test.YtgpjnkahgofpmaaDoorRingNew
import Derived.Test.YtgpjnkahgofpmaaDoorG6
import Derived.Test.YtgpjnkahgofpmaaDoorG5
open Bool renaming false_ne_true→aae
open Go.RowKit renaming wrap64→F5
open Int renaming tmod→GW,tdiv→aQ,tmod_nonneg→aat,tmod_lt_of_pos→aaw
namespace Go.Proofs.YtgpjnkahgofpmaaDoor.Q
open Go.RowKit Go.Proofs.YtgpjnkahgofpmaaDoorW.PrintWords Go.Proofs.YtgpjnkahgofpmaaDoor.G
set_option linter.unusedVariables false
set_option linter.unusedSimpArgs false
abbrev S_:=aK
theorem Oa(x0 l:List S_)(n top least a b c:Int)(hn:2≤n)(hn2:n≤24)(hx:(x0.length:Int)=n)(hl:(l.length:Int)=n)(h0:0≤top):
 ∃r,Ev (fun k=>bg.j3 k x0 n top least l (F5 (top+1)) (F5 ((F5 (aQ (F5 (top+1)) n))+1)) a) r∧
  Ev (fun k=>if 0≤(GW top n)then(if(GW top n)<(x0.length:Int)then((ao.f k l (F5 (top+1)) (F5 ((F5 (aQ (F5 (top+1)) n))+1)) (mx ((J x0 (GW top n)).f1) least)).bind fun a63=>(if a63=true then(some (l,F5 (top+1),F5 ((F5 (aQ (F5 (top+1)) n))+1),mx ((J x0 (GW top n)).f1) least,true))else(some (([]:List (S_)),0,0,0,false))))else(none))else(none)) r∧r.1.length≤2000000:=by
 have t0:0≤GW top n:=aat _ h0
 have t1:GW top n<(x0.length:Int):=by rw[hx];exact aaw _ (by omega)
 have em:mx ((J x0 (GW top n)).f1) least=if(J x0 (GW top n)).f1<least then least else(J x0 (GW top n)).f1:=rfl
 rw[em]
 have key:∀t,∃r,Ev (fun k=>(aw.f k l (F5 (top+1)) (F5 ((F5 (aQ (F5 (top+1)) n))+1)) t).bind fun NB=>(if NB=true then(some (l,F5 (top+1),F5 ((F5 (aQ (F5 (top+1)) n))+1),t,true))else(some (([]:List (S_)),0,0,0,false)))) r∧
  Ev (fun k=>(ao.f k l (F5 (top+1)) (F5 ((F5 (aQ (F5 (top+1)) n))+1)) t).bind fun NB=>(if NB=true then(some (l,F5 (top+1),F5 ((F5 (aQ (F5 (top+1)) n))+1),t,true))else(some (([]:List (S_)),0,0,0,false)))) r∧r.1.length≤2000000:=by
  intro t;obtain⟨g,e1,e2⟩:=Nf l (F5 (top+1)) (F5 ((F5 (aQ (F5 (top+1)) n))+1)) t (by omega)
  cases g with
  |true=>exact⟨_,Ev.bind' _ e1 (Ev.pos rfl (Ev.now _)),Ev.bind' _ e2 (Ev.pos rfl (Ev.now _)),by dsimp only;omega⟩
  |false=>exact⟨_,Ev.bind' _ e1 (Ev.neg aae (Ev.now _)),Ev.bind' _ e2 (Ev.neg aae (Ev.now _)),by simp⟩
 by_cases c1:(J x0 (GW top n)).f1<least
 ·rw[if_pos c1]
  obtain⟨r,p,q,hr⟩:=key least;exact⟨r,Ev.step (fun k=>by rw[bg.j3]) (Ev.neg (by omega) (Ev.pos t0 (Ev.pos t1 (Ev.pos c1 p)))),Ev.pos t0 (Ev.pos t1 q),hr⟩
 ·rw[if_neg c1]
  obtain⟨r,p,q,hr⟩:=key ((J x0 (GW top n)).f1);exact⟨r,Ev.step (fun k=>by rw[bg.j3]) (Ev.neg (by omega) (Ev.pos t0 (Ev.pos t1 (Ev.neg c1 p)))),Ev.pos t0 (Ev.pos t1 q),hr⟩
theorem Xq(x0:List S_)(n top a h c t:Int)(hn:2≤n)(hn2:n≤24)(hx:(x0.length:Int)=n)(h0:0≤top)(h1:top≤9223372036854775807):∀ (m:Nat) (x least:Int) (l:List S_),(l.length:Int)=n→x≤top→(x-(top-n)).toNat≤m→
 ∃r,Ev (fun k=>bg.l1 k x0 n top least x l (F5 (top+1)) (F5 ((F5 (aQ (F5 (top+1)) n))+1)) a) r∧Ev (fun k=>bX.l1 k x0 n top least x l h c t) r∧r.1.length≤2000000:=by
 have hw0:F5 (top-n)=top-n:=dc (by omega) (by omega)
 have stop:∀ (x least:Int) (l:List S_),(l.length:Int)=n→∃r,Ev (fun k=>bg.j2 k x0 n top least x false l (wrap64 (top+1)) (wrap64 ((wrap64 (Int.tdiv (wrap64 (top+1)) n))+1)) a) r∧Ev (fun k=>bX.j2 k x0 n top least x false l h c t) r∧r.1.length≤2000000:=by
  intro x least l hl;obtain⟨r,p,q,hr⟩:=Oa x0 l n top least a 0 0 hn hn2 hx hl h0;exact⟨r,Ev.step (fun k=>by rw[bg.j2]) (Ev.neg aae p),Ev.step (fun k=>by rw[bX.j2]) (Ev.neg aae (Ev.neg (by omega) q)),hr⟩
 intro m
 induction m with
 |zero=>
  intro x least l hl hxt hm;obtain⟨r,p,q,hr⟩:=stop x least l hl
  by_cases c1:x≥0
  ·have ed:decide (x>F5 (top-n))=false:=by rw[hw0];exact decide_eq_false (by omega)
   exact⟨r,Ev.step (fun k=>by rw[bg.l1]) (Ev.pos c1 (by rw[ed];exact p)),Ev.step (fun k=>by rw[bX.l1]) (Ev.pos c1 (by rw[ed];exact q)),hr⟩
  ·exact⟨r,Ev.step (fun k=>by rw[bg.l1]) (Ev.neg c1 p),Ev.step (fun k=>by rw[bX.l1]) (Ev.neg c1 q),hr⟩
 |succ m ih=>
  intro x least l hl hxt hm
  by_cases c1:x≥0
  ·by_cases c2:x>F5 (top-n)
   ·have ed:decide (x>F5 (top-n))=true:=decide_eq_true c2
    rw[hw0]at c2;have t0:0≤GW x n:=aat _ c1;have t1:GW x n<n:=aaw _ (by omega);have hw1:F5 (x-1)=x-1:=dc (by omega) (by omega);obtain⟨w,w1,w2⟩:=J0 ((J x0 (GW x n)).f0) ((J x0 (GW x n)).f1) ((J x0 (GW x n)).f2) ((J x0 (GW x n)).f3);obtain⟨r0,p0,q0,hr0⟩:=Oa x0 l n top least a 0 0 hn hn2 hx hl h0
    cases w with
    |false=>
     exact⟨r0,Ev.step (fun k=>by rw[bg.l1]) (Ev.pos c1 (by rw[ed];exact Ev.step (fun k=>by rw[bg.j2]) (Ev.pos rfl (Ev.neg (by omega) (Ev.pos t0 (Ev.pos (by omega) (Ev.bind' _ w1 (Ev.neg aae p0)))))))),
      Ev.step (fun k=>by rw[bX.l1]) (Ev.pos c1 (by rw[ed];exact Ev.step (fun k=>by rw[bX.j2]) (Ev.pos rfl (Ev.neg (by omega) (Ev.pos t0 (Ev.pos (by omega) (Ev.bind' _ w2 (Ev.neg aae q0)))))))),hr0⟩
    |true=>
     by_cases c3:(J x0 (GW x n)).f0=(F5 ((F5 (aQ x n))+1))
     ·obtain⟨r,p,q,hr⟩:=ih (x-1) x (l.set ((GW x n):Int).toNat (⟨(J x0 (GW x n)).f0,(J x0 (GW x n)).f1,(J x0 (GW x n)).f2,(J x0 (GW x n)).f3⟩:S_)) (by rw[List.length_set];exact hl) (by omega) (by omega)
      rw[←hw1]at p q
      exact⟨r,Ev.step (fun k=>by rw[bg.l1]) (Ev.pos c1 (by rw[ed];exact Ev.step (fun k=>by rw[bg.j2]) (Ev.pos rfl (Ev.neg (by omega) (Ev.pos t0 (Ev.pos (by omega) (Ev.bind' _ w1 (Ev.pos rfl (Ev.pos c3 (Ev.pos (show GW x n<(l.length:Int) by omega) p)))))))))),
       Ev.step (fun k=>by rw[bX.l1]) (Ev.pos c1 (by rw[ed];exact Ev.step (fun k=>by rw[bX.j2]) (Ev.pos rfl (Ev.neg (by omega) (Ev.pos t0 (Ev.pos (by omega) (Ev.bind' _ w2 (Ev.pos rfl (Ev.pos c3 (Ev.pos (show GW x n<(l.length:Int) by omega) q)))))))))),hr⟩
     ·exact⟨r0,Ev.step (fun k=>by rw[bg.l1]) (Ev.pos c1 (by rw[ed];exact Ev.step (fun k=>by rw[bg.j2]) (Ev.pos rfl (Ev.neg (by omega) (Ev.pos t0 (Ev.pos (by omega) (Ev.bind' _ w1 (Ev.pos rfl (Ev.neg c3 p0))))))))),
       Ev.step (fun k=>by rw[bX.l1]) (Ev.pos c1 (by rw[ed];exact Ev.step (fun k=>by rw[bX.j2]) (Ev.pos rfl (Ev.neg (by omega) (Ev.pos t0 (Ev.pos (by omega) (Ev.bind' _ w2 (Ev.pos rfl (Ev.neg c3 q0))))))))),hr0⟩
   ·have ed:decide (x>F5 (top-n))=false:=decide_eq_false c2
    obtain⟨r,p,q,hr⟩:=stop x least l hl;exact⟨r,Ev.step (fun k=>by rw[bg.l1]) (Ev.pos c1 (by rw[ed];exact p)),Ev.step (fun k=>by rw[bX.l1]) (Ev.pos c1 (by rw[ed];exact q)),hr⟩
  ·obtain⟨r,p,q,hr⟩:=stop x least l hl
   exact⟨r,Ev.step (fun k=>by rw[bg.l1]) (Ev.neg c1 p),Ev.step (fun k=>by rw[bX.l1]) (Ev.neg c1 q),hr⟩
theorem Xr(x0:List S_)(n:Int)(hn:2≤n)(hn2:n≤24)(hx:(x0.length:Int)=n)(r0:List S_×Int×Int×Int×Bool)(e1:Ev (fun k=>f4.f k n) r0)(hr1:(r0.1.length:Int)=n)(hr2:r0.2=(0,1,0,true)):
 ∀ (m:Nat) (x top:Int),0≤x→x≤n→(n-x).toNat=m→top≤9223372036854775807→
 ∃r,Ev (fun k=>bg.l0 k x0 n top x0 n x) r∧Ev (fun k=>bX.l0 k x0 n top x0 n x r0.1 r0.2.1 r0.2.2.1 r0.2.2.2.1) r∧r.1.length≤2000000:=by
 intro m
 induction m with
 |zero=>
  intro x top h0 h1 hm ht
  by_cases c1:top<0
  ·exact⟨(r0.1,r0.2.1,r0.2.2.1,r0.2.2.2.1,true),Ev.step (fun k=>by rw[bg.l0]) (Ev.neg (by omega) (Ev.bind' _ e1 (Ev.pos c1 (Ev.now _)))),Ev.step (fun k=>by rw[bX.l0]) (Ev.neg (by omega) (Ev.pos c1 (Ev.now _))),by dsimp only;omega⟩
  ·obtain⟨r,p,q,hr⟩:=Xq x0 n top r0.2.2.2.1 r0.2.1 r0.2.2.1 r0.2.2.2.1 hn hn2 hx (by omega) ht (top-(top-n)).toNat top top r0.1 hr1 (Int.le_refl _) (Nat.le_refl _)
   exact⟨r,Ev.step (fun k=>by rw[bg.l0]) (Ev.neg (by omega) (Ev.bind' _ e1 (Ev.neg c1 (Ev.neg (show¬n=0 by omega) p)))),Ev.step (fun k=>by rw[bX.l0]) (Ev.neg (by omega) (Ev.neg c1 q)),hr⟩
 |succ m ih=>
  intro x top h0 h1 hm ht;have hw:F5 (x+1)=x+1:=dc (by omega) (by omega);obtain⟨w,w1,w2⟩:=J0 ((J x0 x).f0) ((J x0 x).f1) ((J x0 x).f2) ((J x0 x).f3)
  cases w with
  |false=>
   obtain⟨r,p,q,hr⟩:=ih (x+1) top (by omega) (by omega) (by omega) ht;rw[←hw]at p q;exact⟨r,Ev.step (fun k=>by rw[bg.l0]) (Ev.pos (by omega) (Ev.pos h0 (Ev.pos (by omega) (Ev.bind' _ w1 (Ev.neg aae p))))),Ev.step (fun k=>by rw[bX.l0]) (Ev.pos (by omega) (Ev.pos h0 (Ev.pos (by omega) (Ev.bind' _ w2 (Ev.neg aae q))))),hr⟩
  |true=>
   by_cases c1:(J x0 x).f0>0
   ·obtain⟨v,hv⟩:∃v,v=F5 ((F5 ((F5 (((J x0 x).f0)-1))*n))+x):=⟨_,rfl⟩
    have hvm:v≤9223372036854775807:=by
     rw[hv]
     generalize ((F5 ((F5 (((J x0 x).f0)-1))*n))+x)=z
     unfold F5
     omega
    have em:mx top v=if top<v then v else top:=rfl
    by_cases c2:v>top
    ·obtain⟨r,p,q,hr⟩:=ih (x+1) v (by omega) (by omega) (by omega) hvm
     have IP:mx top v=v:=by rw[em,if_pos (by omega)]
     rw[←hw]at p q;rw[←IP,hv]at q;rw[hv]at p c2;exact⟨r,Ev.step (fun k=>by rw[bg.l0]) (Ev.pos (by omega) (Ev.pos h0 (Ev.pos (by omega) (Ev.bind' _ w1 (Ev.pos rfl (Ev.pos c1 (Ev.pos c2 p))))))),Ev.step (fun k=>by rw[bX.l0]) (Ev.pos (by omega) (Ev.pos h0 (Ev.pos (by omega) (Ev.bind' _ w2 (Ev.pos rfl (Ev.pos c1 q)))))),hr⟩
    ·obtain⟨r,p,q,hr⟩:=ih (x+1) top (by omega) (by omega) (by omega) ht
     have IP:mx top v=top:=by rw[em,if_neg (by omega)]
     rw[hv]at IP c2;rw[←hw]at p q;refine⟨r,Ev.step (fun k=>by rw[bg.l0]) (Ev.pos (by omega) (Ev.pos h0 (Ev.pos (by omega) (Ev.bind' _ w1 (Ev.pos rfl (Ev.pos c1 (Ev.neg c2 p))))))),Ev.step (fun k=>by rw[bX.l0]) (Ev.pos (by omega) (Ev.pos h0 (Ev.pos (by omega) (Ev.bind' _ w2 (Ev.pos rfl (Ev.pos c1 ?_)))))),hr⟩;rw[IP];exact q
   ·obtain⟨r,p,q,hr⟩:=ih (x+1) top (by omega) (by omega) (by omega) ht
    rw[←hw]at p q;exact⟨r,Ev.step (fun k=>by rw[bg.l0]) (Ev.pos (by omega) (Ev.pos h0 (Ev.pos (by omega) (Ev.bind' _ w1 (Ev.pos rfl (Ev.neg c1 p)))))),Ev.step (fun k=>by rw[bX.l0]) (Ev.pos (by omega) (Ev.pos h0 (Ev.pos (by omega) (Ev.bind' _ w2 (Ev.pos rfl (Ev.neg c1 q)))))),hr⟩
theorem Wh(l:List S_)(hl:l.length≤1048576):∃r,Ev (fun k=>bg.f k l) r∧Ev (fun k=>bX.f k l) r∧r.1.length≤2000000:=by
 obtain⟨r0,a1,a2,_,hy,hno⟩:=Nl (l.length:Int);unfold bg.f bX.f
 by_cases c1:2≤(l.length:Int)∧(l.length:Int)≤24
 ·obtain⟨hr1,hr2⟩:=hy c1
  obtain⟨r,p,q,hr⟩:=Xr l (l.length:Int) c1.1 c1.2 rfl r0 a1 hr1 hr2 ((l.length:Int)-0).toNat 0 (-1) (Int.le_refl _) (by omega) rfl (by omega);exact⟨r,Ev.bh _ (ii _ _ _) (Ev.pos (by simpa using c1) p),Ev.bind' _ a2 (Ev.pos (by rw[hr2]) q),hr⟩
 ·have e:=hno c1
  subst e;exact⟨([],0,0,0,false),Ev.bh _ (ii _ _ _) (Ev.neg (by simpa using c1) (Ev.now _)),Ev.bind' _ a2 (Ev.neg aae (Ev.now _)),by simp⟩
end Go.Proofs.YtgpjnkahgofpmaaDoor.Q
