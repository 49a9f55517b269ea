/- PutRecord and PushTail of both as plain values. -/
import Derived.Test.YtgpjnkahgofpmaaDoorRingRecs
import Derived.Test.YtgpjnkahgofpmaaDoorRingPut
import Derived.Test.YtgpjnkahgofpmaaDoorG3
open Bool renaming false_ne_true→aae
open Int renaming tmod→GW,tdiv→aQ
namespace Go.Proofs.YtgpjnkahgofpmaaDoor.Q
open Go.RowKit Go.Proofs.YtgpjnkahgofpmaaDoorW.PrintWords Go.Proofs.YtgpjnkahgofpmaaDoor.G
set_option linter.unusedVariables false
set_option linter.unusedSimpArgs false
theorem Nw(l:List Sl)(h c t:Int)(hl:l.length≤1048576):Ev (fun k=>aw.f k l h c t) (oY l h c t)∧Ev (fun k=>ao.f k l h c t) (oY l h c t):=by
 obtain⟨r,a,b⟩:=Nf l h c t hl;have e:=K6 l h c t
 have:r=oY l h c t:=by
  obtain⟨K1,h1⟩:=b;obtain⟨K2,h2⟩:=e;have x1:=h1 (max K1 K2) (Nat.le_max_left _ _);have x2:=h2 (max K1 K2) (Nat.le_max_right _ _);rw[x1]at x2;exact Option.some.inj x2
 subst this;exact⟨a,b⟩
def vO:List Sl×Int×Int×Int×Bool:=([],0,0,0,false)
noncomputable def kp(l:List Sl)(h c t:Int)(s:ByteArray):List Sl×Int×Int×Int×Bool:=
 if oY l h c t=true∧s.size≤12∧h-t<(l.length:Int)∧h≠10000000 then
  (l.set (GW h (l.length:Int)).toNat (⟨c,t,s,fw c t s⟩:Sl),h+1,aQ (h+1) (l.length:Int)+1,t,true)else vO
theorem QZ(l:List Sl)(h c t:Int)(s:ByteArray)(hl:l.length≤1048576):Ev (fun k=>dj.f k l h c t s) (kp l h c t s)∧Ev (fun k=>dx.f k l h c t s) (kp l h c t s):=by
 obtain⟨e1,e2⟩:=Nw l h c t hl;have n1:Ev (fun k=>dj.j0 k s (l.length:Int) true l h c t) vO:=Ev.step (fun k=>by rw[dj.j0]) (Ev.pos rfl (Ev.now' (show([],0,0,0,false)=vO from rfl)));have n2:Ev (fun k=>dx.j0 k s (l.length:Int) true l h c t) vO:=Ev.step (fun k=>by rw[dx.j0]) (Ev.pos rfl (Ev.now' (show([],0,0,0,false)=vO from rfl)));unfold dj.f dx.f kp
 cases hg:oY l h c t with
 |false=>
  rw[hg]at e1 e2;rw[if_neg (fun q=>aae q.1)];exact⟨Ev.bind' _ e1 (Ev.neg aae n1),Ev.bind' _ e2 (Ev.neg aae n2)⟩
 |true=>
  rw[hg]at e1 e2;have G:=Bk.1 hg;have g1:=G.n1;have g2:=G.n2;have g3:=G.h0;have g4:=G.h1;have g5:=G.t0;have g6:=G.t1;have g7:=G.ht
  by_cases c1:(s.size:Int)>12
  ·rw[if_neg (fun q=>by omega)]
   exact⟨Ev.bind' _ e1 (Ev.pos rfl (Ev.pos c1 n1)),Ev.bind' _ e2 (Ev.pos rfl (Ev.pos c1 n2))⟩
  have hw:wrap64 (h-t)=h-t:=dc (by omega) (by omega)
  by_cases c2:h-t=(l.length:Int)
  ·rw[if_neg (fun q=>by omega)]
   exact⟨Ev.bind' _ e1 (Ev.pos rfl (Ev.neg c1 (Ev.pos (by rw[hw];exact c2) n1))),Ev.bind' _ e2 (Ev.pos rfl (Ev.neg c1 (Ev.pos (by rw[hw];exact c2) n2)))⟩
  have c2':¬wrap64 (h-t)=(l.length:Int):=by rw[hw];exact c2
  by_cases c3:h=10000000
  ·rw[if_neg (fun q=>q.2.2.2 c3)]
   have eb:(h==10000000)=true:=by simpa using c3
   exact⟨Ev.bind' _ e1 (Ev.pos rfl (Ev.neg c1 (Ev.neg c2' (by rw[eb];exact n1)))),Ev.bind' _ e2 (Ev.pos rfl (Ev.neg c1 (Ev.neg c2' (by rw[eb];exact n2))))⟩
  ·rw[if_pos ⟨rfl,by omega,by omega,c3⟩]
   have eb:(h==10000000)=false:=by simpa using c3
   obtain⟨s1,s2⟩:=rt c t s 0;have t0:0≤GW h (l.length:Int):=Int.tmod_nonneg _ g3;have t1:GW h (l.length:Int)<(l.length:Int):=Int.tmod_lt_of_pos _ (by omega)
   have hne:¬((l.length:Int)=0):=by omega
   have a1:0≤aQ (h+1) (l.length:Int):=Int.tdiv_nonneg (by omega) (by omega);have a2:aQ (h+1) (l.length:Int)≤h+1:=Int.tdiv_le_self _ (by omega);have hw1:wrap64 (h+1)=h+1:=dc (by omega) (by omega)
   have hw2:wrap64 ((wrap64 (aQ (wrap64 (h+1)) (l.length:Int)))+1)=aQ (h+1) (l.length:Int)+1:=by
    rw[hw1,dc (x:=aQ (h+1) (l.length:Int)) (by omega) (by omega)];exact dc (by omega) (by omega)
   rw[eb]
   constructor
   ·refine Ev.bind' _ e1 (Ev.pos rfl (Ev.neg c1 (Ev.neg c2' (Ev.step (fun k=>by rw[dj.j0]) (Ev.neg aae (Ev.bh _ (Ld l h c t hl) (Ev.bind' _ s1 (Ev.neg hne (Ev.pos t0 (Ev.pos t1 (Ev.now' ?_)))))))))))
    rw[hw2,hw1]
   ·refine Ev.bind' _ e2 (Ev.pos rfl (Ev.neg c1 (Ev.neg c2' (Ev.step (fun k=>by rw[dx.j0]) (Ev.neg aae (Ev.bh _ (TW l h c t hl) (Ev.bind' _ s2 (Ev.neg hne (Ev.pos t0 (Ev.pos t1 (Ev.now' ?_)))))))))))
    rw[hw2,hw1]
noncomputable def oC(l:List Sl)(h c t m:Int):List Sl×Int×Int×Int×Bool:=
 if oY l h c t=true∧0≤m∧m≤h-t then(l,h,c,t+m,true)else vO
theorem YT(l:List Sl)(h c t m:Int)(hl:l.length≤1048576):Ev (fun k=>mb.f k l h c t m) (oC l h c t m):=by
 obtain⟨e1,e2⟩:=Nw l h c t hl;unfold mb.f oC
 cases hg:oY l h c t with
 |false=>
  rw[hg]at e1 e2;rw[if_neg (fun q=>aae q.1)];exact Ev.bind' _ e1 (Ev.neg aae (Ev.now' (show([],0,0,0,false)=vO from rfl)))
 |true=>
  rw[hg]at e1 e2;have G:=Bk.1 hg;have g3:=G.h0;have g4:=G.h1;have g5:=G.t0;have g6:=G.t1
  by_cases c1:0≤m∧m≤h-t
  ·rw[if_pos ⟨rfl,c1.1,c1.2⟩]
   refine Ev.bind' _ e1 (Ev.pos rfl (Ev.bh _ (ii _ _ _) (Ev.pos (by rw[dc (x:=h-t) (by omega) (by omega)];simpa using c1) (Ev.bh _ (Ld l h c t hl) (Ev.now' ?_)))));rw[dc (x:=t+m) (by omega) (by omega)]
  ·rw[if_neg (fun q=>c1 ⟨q.2.1,q.2.2⟩)]
   exact Ev.bind' _ e1 (Ev.pos rfl (Ev.bh _ (ii _ _ _) (Ev.neg (by rw[dc (x:=h-t) (by omega) (by omega)];simpa using c1) (Ev.now' (show([],0,0,0,false)=vO from rfl)))))
end Go.Proofs.YtgpjnkahgofpmaaDoor.Q
