/- What FnOnce's cursor draws: some state and some items within bounds. No statement. -/
import Derived.Test.YtahnkgehlfdlkaaCurPick
import Derived.Test.YtahnkgehlfdlkaaIntTotal
import Derived.Test.YtahnkgehlfdlkaaG6
import Derived.Test.YtahnkgehlfdlkaaG3
open Bool renaming false_ne_true→eI
open Go.RowKit renaming wrap64→Ee
open List renaming length_take→aN,length_append→oB,length_singleton→aan,length_nil→aar,nil_append→aaH
namespace Go.Proofs.Ytahnkgehlfdlkaa.Q
open Go.RowKit Go.Proofs.YtahnkgehlfdlkaaW.PrintWords Go.Proofs.Ytahnkgehlfdlkaa.G
set_option linter.unusedVariables false
set_option linter.unusedSimpArgs false
theorem among_ok(l:List Int)(hl:xR l)(p q:Int)(L:List Int)(h0:0≤p)(h1:p<4000000000000000000)(hL:0<L.length∧L.length≤1000):
 ∃v p' q',wv.f l p q L=some (v,p',q')∧p≤p'∧p'≤p+2:=by
 obtain⟨v,p1,q1,e,a,b,c,d,f⟩:=oM l hl p q (L.length:Int) h0 h1 (by omega)
 have hv:v<(L.length:Int):=by
  by_cases x:1<(L.length:Int)
  ·exact d x
  ·have:=f (by omega);omega
 refine⟨rd L v,p1,q1, ?_,a,b⟩;unfold wv.f;rw[e,Option.bind_some];exact(if_pos c).trans (if_pos hv)
theorem below_ok(l:List Int)(hl:xR l)(p q a:Int)(h0:0≤p)(h1:p<4000000000000000000)(ha:a≤1000000):
 ∃v p' q',Cc.f l p q a=some (v,p',q')∧p≤p'∧p'≤p+2:=by
 unfold Cc.f
 by_cases c:a<1
 ·exact⟨0,p,q,if_pos c,by omega,by omega⟩
 ·obtain⟨v,p1,q1,e,x,y,_⟩:=oM l hl p q a h0 h1 ha
  exact⟨v,p1,q1,by rw[if_neg c,e];rfl,x,y⟩
theorem Nz(l:List Int)(hl:xR l)(n:Int)(hn:n≤1000000):∀ (d:Nat) (x6:Int) (L:List St) (p q:Int),x6.toNat=d→x6≤1000→L.length+d≤1000→0≤p→p+30*(d:Int)<2000000000000000000→
 ∃r p' q',Ev (fun k=>eS.l0 k n L x6 l p q) (r,p',q')∧r.length≤1000∧p≤p'∧p'≤p+30*(d:Int)
 |0,x6,L,p,q,hd,_,hL,_,_=>⟨L,p,q,Ev.step (fun k=>by rw[eS.l0]) (Ev.neg (by omega) (Ev.now _)),by omega,by omega,by omega⟩
 |d+1,x6,L,p,q,hd,hx,hL,h0,h1=>by
  have hw:Ee (x6-1)=x6-1:=dO (by omega) (by omega);obtain⟨v1,p1,q1,e1,a1,b1⟩:=among_ok l hl p q [1,1,2,2,2] h0 (by omega) (by decide);obtain⟨v2,p2,q2,e2,a2,b2⟩:=below_ok l hl p1 q1 n (by omega) (by omega) hn;obtain⟨v3,p3,q3,e3,a3,b3,_⟩:=oM l hl p2 q2 5 (by omega) (by omega) (by omega);obtain⟨v4,p4,q4,e4,a4,b4,_⟩:=oM l hl p3 q3 5 (by omega) (by omega) (by omega);obtain⟨v5,p5,q5,e5,a5,b5,_⟩:=oM l hl p4 q4 3 (by omega) (by omega) (by omega);obtain⟨v6,p6,q6,e6,a6,b6⟩:=Jd l hl p5 q5 12 (by omega) (by omega) (by omega)
  have hlt:L.length<3518437208883:=by omega
  have j2:∀a b c e f:Int,∃r p' q',Ev (fun k=>eS.j2 k n L x6 l p6 q6 a b c e f) (r,p',q')∧r.length≤1000∧p≤p'∧p'≤p+30*((d+1:Nat):Int):=fun a b c e f=>by
   obtain⟨v7,p7,q7,e7,a7,b7⟩:=Jd l hl p6 q6 40 (by omega) (by omega) (by omega)
   have hs:∀s:St,(L++[s]).length+d≤1000:=fun s=>by rw[oB,aan];omega
   cases v7 with
   |true=>
    obtain⟨v8,p8,q8,e8,a8,b8,_⟩:=oM l hl p7 q7 5 (by omega) (by omega) (by omega);obtain⟨v9,p9,q9,e9,a9,b9⟩:=among_ok l hl p8 q8 [(-1),n] (by omega) (by omega) ⟨by simp,by simp⟩;obtain⟨r,p',q',ee,hr,ha,hb⟩:=Nz l hl n hn d (x6-1) (L++[(⟨v8,(⟨v9,c⟩:X_),e,f⟩:St)]) p9 q9 (by omega) (by omega) (hs _) (by omega) (by omega);refine⟨r,p',q', ?_,hr,by omega,by omega⟩;refine Ev.step (fun k=>by rw[eS.j2]) ?_;refine Ev.ct _ e7 (Ev.pos rfl (Ev.ct _ e8 (Ev.ct _ e9 (Ev.pos hlt ?_))));rw[hw];exact ee
   |false=>
    obtain⟨r,p',q',ee,hr,ha,hb⟩:=Nz l hl n hn d (x6-1) (L++[(⟨a,(⟨b,c⟩:X_),e,f⟩:St)]) p7 q7 (by omega) (by omega) (hs _) (by omega) (by omega);refine⟨r,p',q', ?_,hr,by omega,by omega⟩;refine Ev.step (fun k=>by rw[eS.j2]) ?_;refine Ev.ct _ e7 (Ev.neg eI (Ev.pos hlt ?_));rw[hw];exact ee
  cases v6 with
  |true=>
   obtain⟨r,p',q',ee,hr⟩:=j2 3 v2 (Ee (1+v3)) (Ee (1+v4)) (Ee (1+v5));refine⟨r,p',q', ?_,hr⟩;refine Ev.step (fun k=>by rw[eS.l0]) ?_;exact Ev.pos (by omega) (Ev.ct _ e1 (Ev.ct _ e2 (Ev.ct _ e3 (Ev.ct _ e4 (Ev.ct _ e5 (Ev.ct _ e6 (Ev.pos rfl ee)))))))
  |false=>
   obtain⟨r,p',q',ee,hr⟩:=j2 v1 v2 (Ee (1+v3)) (Ee (1+v4)) (Ee (1+v5));refine⟨r,p',q', ?_,hr⟩;refine Ev.step (fun k=>by rw[eS.l0]) ?_;exact Ev.pos (by omega) (Ev.ct _ e1 (Ev.ct _ e2 (Ev.ct _ e3 (Ev.ct _ e4 (Ev.ct _ e5 (Ev.ct _ e6 (Ev.neg eI ee)))))))
theorem steps_ok(l:List Int)(hl:xR l)(p q n:Int)(h0:0≤p)(h1:p≤1000)(hn:n≤1000000):
 ∃r p' q',Ev (fun k=>eS.f k l p q n) (r,p',q')∧r.length≤1000∧0≤p'∧p'≤100000:=by
 obtain⟨v1,p1,q1,e1,a1,b1,c1,d1,_⟩:=oM l hl p q 24 h0 (by omega) (by omega);obtain⟨v2,p2,q2,e2,a2,b2⟩:=Jd l hl p1 q1 12 (by omega) (by omega) (by omega);have d1':=d1 (by omega);unfold eS.f
 cases v2 with
 |true=>
  obtain⟨v3,p3,q3,e3,a3,b3,c3,d3,_⟩:=oM l hl p2 q2 22 (by omega) (by omega) (by omega);have d3':=d3 (by omega);have hw:Ee (100+v3)=100+v3:=dO (by omega) (by omega);obtain⟨r,p',q',ee,hr,ha,hb⟩:=Nz l hl n hn (100+v3).toNat (100+v3) [] p3 q3 rfl (by omega) (by simp only[aar];omega) (by omega) (by omega);refine⟨r,p',q', ?_,hr,by omega,by omega⟩;refine Ev.ct _ e1 (Ev.ct _ e2 (Ev.pos rfl (Ev.ct _ e3 ?_)));simp only[hw];refine Ev.step (fun k=>by rw[eS.j0]) ?_;exact ee
 |false=>
  obtain⟨r,p',q',ee,hr,ha,hb⟩:=Nz l hl n hn v1.toNat v1 [] p2 q2 rfl (by omega) (by simp only[aar];omega) (by omega) (by omega);refine⟨r,p',q', ?_,hr,by omega,by omega⟩;refine Ev.ct _ e1 (Ev.ct _ e2 (Ev.neg eI ?_));refine Ev.step (fun k=>by rw[eS.j0]) ?_;exact ee
abbrev DW:=Int×List X_×List X_×Int×List It×Int×Int
theorem work_ok(l:List Int)(hl:xR l):∃r:DW,Ev (fun k=>fi.f k l 0 0) r∧r.2.1.length≤60∧r.2.2.1.length≤60∧r.2.2.2.2.1.length≤31∧0≤r.2.2.2.2.2.1∧r.2.2.2.2.2.1≤200000:=by
 obtain⟨v1,p1,q1,e1,a1,b1,c1,d1,_⟩:=oM l hl 0 0 60 (by omega) (by omega) (by omega);have d1':=d1 (by omega);have hw:Ee (5+v1)=5+v1:=dO (by omega) (by omega);obtain⟨L,p2,q2,e2,hL,a2,b2⟩:=steps_ok l hl p1 q1 (5+v1) (by omega) (by omega) (by omega)
 have j0:∀M:List St,M.length≤1000→∃r:DW,Ev (fun k=>fi.j0 k (5+v1) M l p2 q2) r∧r.2.1.length≤60∧r.2.2.1.length≤60∧r.2.2.2.2.1.length≤31∧0≤r.2.2.2.2.2.1∧r.2.2.2.2.2.1≤200000:=fun M hM=>by
  obtain⟨⟨n,fp,m,nx,it,did,ok⟩,ep,k1,k2,k3⟩:=play_s (5+v1) M hM;simp only at k1 k2 k3;obtain⟨v3,p3,q3,e3,a3,b3,_⟩:=oM l hl p2 q2 40 (by omega) (by omega) (by omega)
  by_cases c0:v3=0
  ·obtain⟨v4,p4,q4,e4,a4,b4,_⟩:=oM l hl p3 q3 3 (by omega) (by omega) (by omega)
   refine⟨(n,fp,m,Ee (nx+Ee (v4-1)),it,p4,q4), ?_,k1,k2,by show it.length≤31;omega,by show 0≤p4;omega,by show p4≤200000;omega⟩;refine Ev.step (fun k=>by rw[fi.j0]) ?_;refine Ev.bind' _ ep (Ev.ct _ e3 (Ev.pos c0 (Ev.ct _ e4 ?_)));exact Ev.now _
  by_cases c1:v3=1
  ·obtain⟨v4,p4,q4,e4,a4,b4,_⟩:=oM l hl p3 q3 4 (by omega) (by omega) (by omega)
   obtain⟨v5,p5,q5,e5,a5,b5,_⟩:=oM l hl p4 q4 4 (by omega) (by omega) (by omega);obtain⟨v6,p6,q6,e6,a6,b6,_⟩:=oM l hl p5 q5 3 (by omega) (by omega) (by omega);refine⟨(n,fp,m,nx,it++[(⟨v4,v5,(⟨0,0⟩:X_),v6⟩:It)],p6,q6), ?_,k1,k2,by show(it++[(⟨v4,v5,(⟨0,0⟩:X_),v6⟩:It)]).length≤31;rw[oB,aan];omega,by show 0≤p6;omega,by show p6≤200000;omega⟩;refine Ev.step (fun k=>by rw[fi.j0]) ?_;refine Ev.bind' _ ep (Ev.ct _ e3 (Ev.neg c0 (Ev.pos c1 (Ev.ct _ e4 (Ev.ct _ e5 (Ev.ct _ e6 (Ev.pos (show it.length<3518437208883 by omega) ?_)))))));exact Ev.now _
  ·refine⟨(n,fp,m,nx,it,p3,q3), ?_,k1,k2,by show it.length≤31;omega,by show 0≤p3;omega,by show p3≤200000;omega⟩
   refine Ev.step (fun k=>by rw[fi.j0]) ?_;refine Ev.bind' _ ep (Ev.ct _ e3 (Ev.neg c0 (Ev.neg c1 ?_)));exact Ev.now _
 unfold fi.f
 by_cases c:(L.length:Int)>120
 ·obtain⟨r,e,hr⟩:=j0 (L.take (60:Int).toNat) (by rw[aN];omega)
  refine⟨r, ?_,hr⟩;refine Ev.ct _ e1 ?_;simp only[hw];exact Ev.bind' _ e2 (Ev.pos c (Ev.pos (by show(60:Int)≤(L.length:Int);omega) e))
 ·obtain⟨r,e,hr⟩:=j0 L hL
  refine⟨r, ?_,hr⟩;refine Ev.ct _ e1 ?_;simp only[hw];exact Ev.bind' _ e2 (Ev.neg c e)
abbrev DR:=Int×List X_×List X_×Int×List It×List It
theorem drawRec_ok(l:List Int)(hl:xR l):∃r:DR,Ev (fun k=>ie.f k l) r∧r.2.1.length≤60∧r.2.2.1.length≤60∧r.2.2.2.2.1.length≤31∧r.2.2.2.2.2.length≤40:=by
 obtain⟨⟨n,fp,m,nx,it,p,q⟩,ew,k1,k2,k3,k4,k5⟩:=work_ok l hl;simp only at k1 k2 k3 k4 k5;obtain⟨v1,p1,q1,e1,a1,b1⟩:=Jd l hl p q 3 k4 (by omega) (by omega)
 have j0:∀ (M:List It) (p' q':Int),M.length≤31→0≤p'→p'≤300000→∃r:DR,Ev (fun k=>ie.j0 k M l p' q' n fp m nx it) r∧r.2.1.length≤60∧r.2.2.1.length≤60∧r.2.2.2.2.1.length≤31∧r.2.2.2.2.2.length≤40:=fun M p' q' hM hp0 hp1=>by
  obtain⟨v2,p2,q2,e2,a2,b2⟩:=Jd l hl p' q' 12 hp0 (by omega) (by omega)
  cases v2 with
  |true=>
   obtain⟨v4,p4,q4,e4,a4,b4,_⟩:=oM l hl p2 q2 2 (by omega) (by omega) (by omega);obtain⟨v5,p5,q5,e5,a5,b5,_⟩:=oM l hl p4 q4 5 (by omega) (by omega) (by omega);obtain⟨v6,p6,q6,e6,a6,b6,_⟩:=oM l hl p5 q5 3 (by omega) (by omega) (by omega);refine⟨(n,fp,m,nx,it,M++[(⟨Ee (1+v4),v5,(⟨0,0⟩:X_),v6⟩:It)]), ?_,k1,k2,k3,by show(M++[(⟨Ee (1+v4),v5,(⟨0,0⟩:X_),v6⟩:It)]).length≤40;rw[oB,aan];omega⟩;refine Ev.step (fun k=>by rw[ie.j0]) ?_;refine Ev.ct _ e2 (Ev.pos rfl (Ev.ct _ e4 (Ev.ct _ e5 (Ev.ct _ e6 (Ev.pos (show M.length<3518437208883 by omega) ?_)))));exact Ev.now _
  |false=>
   refine⟨(n,fp,m,nx,it,M), ?_,k1,k2,k3,by show M.length≤40;omega⟩;refine Ev.step (fun k=>by rw[ie.j0]) ?_;refine Ev.ct _ e2 (Ev.neg eI ?_);exact Ev.now _
 unfold ie.f
 cases v1 with
 |true=>
  obtain⟨v2,p2,q2,e2,a2,b2,c2,d2,f2⟩:=oM l hl p1 q1 (Ee ((it.length:Int)+1)) (by omega) (by omega) (by rw[dO (by omega) (by omega)];omega);have hw:Ee ((it.length:Int)+1)=(it.length:Int)+1:=dO (by omega) (by omega);rw[hw]at d2 f2
  have hv:v2≤(it.length:Int):=by
   by_cases x:1<(it.length:Int)+1
   ·have:=d2 x;omega
   ·have:=f2 (by omega);omega
  obtain⟨r,e,hr⟩:=j0 (it.take v2.toNat) p2 q2 (by rw[aN];omega) (by omega) (by omega);refine⟨r, ?_,hr⟩;refine Ev.bind' _ ew (Ev.ct [] rfl (Ev.pos (by simp only[aar];omega) (Ev.ct it (by rw[aaH]) (Ev.ct _ e1 (Ev.pos rfl (Ev.ct _ e2 (Ev.pos c2 (Ev.pos hv ?_))))))));exact e
 |false=>
  obtain⟨r,e,hr⟩:=j0 it p1 q1 k3 (by omega) (by omega);refine⟨r, ?_,hr⟩;refine Ev.bind' _ ew (Ev.ct [] rfl (Ev.pos (by simp only[aar];omega) (Ev.ct it (by rw[aaH]) (Ev.ct _ e1 (Ev.neg eI ?_)))));exact e
end Go.Proofs.Ytahnkgehlfdlkaa.Q
