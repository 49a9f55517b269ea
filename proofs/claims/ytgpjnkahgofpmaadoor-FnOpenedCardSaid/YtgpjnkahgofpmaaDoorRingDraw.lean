/- What is drawn: a ring of two to seven slots with a small head; PutRecord's and PushTail's arguments. -/
import Derived.Test.YtgpjnkahgofpmaaDoorCurDraw
import Derived.Test.YtgpjnkahgofpmaaDoorRingVal
import Derived.Test.YtgpjnkahgofpmaaDoorG3
open Go.RowKit renaming wrap64→F5
namespace Go.Proofs.YtgpjnkahgofpmaaDoor.Q
open Go.RowKit Go.Proofs.YtgpjnkahgofpmaaDoorW.PrintWords Go.Proofs.YtgpjnkahgofpmaaDoor.G
set_option linter.unusedVariables false
set_option linter.unusedSimpArgs false
theorem Xl(z:Int)(hz:Ev (fun k=>ib.f k) (0,0,(⟨#[]⟩:ByteArray),z))(n a b c:Int)(hn:n≤24):∀ (m:Nat) (x:Int) (acc:List aK),(n-x).toNat=m→0≤x→acc.length≤x.toNat→x≤n→
 Ev (fun k=>f4.l0 k n x acc a b c) (acc++List.replicate m (⟨0,0,⟨#[]⟩,z⟩:aK),a,b,c,true):=by
 intro m
 induction m with
 |zero=>
  intro x acc hm hx ha hxn;rw[List.replicate_zero,List.append_nil];exact Ev.step (fun k=>by rw[f4.l0]) (Ev.neg (by omega) (Ev.now _))
 |succ m ih=>
  intro x acc hm hx ha hxn;have hw:F5 (x+1)=x+1:=dc (by omega) (by omega);have h:=ih (x+1) (acc++[(⟨0,0,⟨#[]⟩,z⟩:aK)]) (by omega) (by omega) (by rw[List.length_append,List.length_singleton];omega) (by omega);rw[List.append_assoc,List.singleton_append,←List.replicate_succ]at h;refine Ev.step (fun k=>by rw[f4.l0]) (Ev.pos (by omega) (Ev.bind' _ hz (Ev.pos (show acc.length<3518437208883 by omega) ?_)));rw[hw];exact h
theorem Xm(n:Int)(c1:2≤n∧n≤24):∃r,Ev (fun k=>f4.f k n) r∧(r.1.length:Int)=n∧r.2=(0,1,0,true):=by
 unfold f4.f;obtain⟨z,h1,h2⟩:=J8;have hl:=Xl z h1 n 0 1 0 c1.2 n.toNat 0 [] (by omega) (Int.le_refl _) (by simp) (by omega);rw[List.nil_append]at hl;exact⟨_,Ev.bh _ (ii _ _ _) (Ev.pos (by simpa using c1) hl),by rw[List.length_replicate];omega,rfl⟩
def Drawn(r:List Sl×Int×Int×Int):Prop:=2≤(r.1.length:Int)∧(r.1.length:Int)≤7∧r.2.1≤1000
theorem Xn(l:List Sl)(h c t:Int)(s:ByteArray):(kp l h c t s).2.2.2.2=true→(kp l h c t s).1.length=l.length∧(kp l h c t s).2.1=h+1:=by
 unfold kp
 split
 ·intro _
  exact⟨List.length_set,rfl⟩
 ·intro e
  cases e
theorem XB(l:List Sl)(h c t m:Int):(oC l h c t m).2.2.2.2=true→(oC l h c t m).1.length=l.length∧(oC l h c t m).2.1=h:=by
 unfold oC
 split
 ·intro _
  exact⟨rfl,rfl⟩
 ·intro e
  cases e
theorem a04(l:List Int)(hl:lL l)(k:Nat)(x5:Int)(h5:¬x5>0)(L:List Sl)(h c t p q:Int)(n1:2≤(L.length:Int))(n2:(L.length:Int)≤7)(h9:0≤h)(hh:h≤900)(p0:0≤p)(p1:p≤100000):
 ∃r,Ev (fun k=>cP.l0 k x5 l p q L h c t) r∧2≤(r.1.length:Int)∧(r.1.length:Int)≤7∧r.2.1≤1000∧0≤r.2.2.2.2.1∧r.2.2.2.2.1≤100100:=by
 obtain⟨v,p2,q2,e2,a1,a2,a3,a4,_⟩:=kb l hl p q 40 p0 (by omega) (by omega)
 by_cases c0:v=0
 ·obtain⟨u,p3,q3,e3,b1,b2,b3,b4,_⟩:=kb l hl p2 q2 3 (by omega) (by omega) (by omega)
  refine⟨(L,F5 (h+F5 (u-1)),c,t,p3,q3),Ev.step (fun k=>by rw[cP.l0]) (Ev.neg h5 (Ev.bh _ e2 ?_)),n1,n2, ?_, ?_, ?_⟩
  ·dsimp only
   refine Ev.pos c0 ?_;exact Ev.const (by rw[e3];rfl)
  ·show F5 (h+F5 (u-1))≤1000
   have:=b4 (by omega);rw[dc (x:=u-1) (by omega) (by omega)];unfold F5
   omega
  ·show 0≤p3
   omega
  ·show p3≤100100
   omega
 by_cases c1:v=1
 ·obtain⟨u,p3,q3,e3,b1,b2,b3,b4,_⟩:=kb l hl p2 q2 (L.length:Int) (by omega) (by omega) (by omega)
  have b5:=b4 (by omega);refine⟨_,Ev.step (fun k=>by rw[cP.l0]) (Ev.neg h5 (Ev.bh _ e2 (Ev.neg c0 (Ev.pos c1 (Ev.bh _ e3 (Ev.pos b3 (Ev.pos b5 (Ev.now _)))))))), ?_, ?_, ?_, ?_, ?_⟩
  ·show 2≤((L.set _ _).length:Int)
   rw[List.length_set];exact n1
  ·show((L.set _ _).length:Int)≤7
   rw[List.length_set];exact n2
  ·show h≤1000
   omega
  ·show 0≤p3
   omega
  ·show p3≤100100
   omega
 by_cases c2:v=2
 ·obtain⟨u,p3,q3,e3,b1,b2,b3,b4,_⟩:=kb l hl p2 q2 3 (by omega) (by omega) (by omega)
  refine⟨(L,h,c,F5 (t+F5 (u-1)),p3,q3),Ev.step (fun k=>by rw[cP.l0]) (Ev.neg h5 (Ev.bh _ e2 ?_)),n1,n2, ?_, ?_, ?_⟩
  ·dsimp only
   refine Ev.neg c0 (Ev.neg c1 (Ev.pos c2 ?_));exact Ev.const (by rw[e3];rfl)
  ·show h≤1000
   omega
  ·show 0≤p3
   omega
  ·show p3≤100100
   omega
 ·refine⟨_,Ev.step (fun k=>by rw[cP.l0]) (Ev.neg h5 (Ev.bh _ e2 (Ev.neg c0 (Ev.neg c1 (Ev.neg c2 (Ev.now _)))))),by exact n1,by exact n2, ?_, ?_, ?_⟩
  ·show h≤1000
   omega
  ·show 0≤p2
   omega
  ·show p2≤100100
   omega
theorem Xo(l:List Int)(hl:lL l):∀ (m:Nat) (x5:Int) (L:List Sl) (h c t p q:Int),x5.toNat=m→0≤x5→x5≤30→2≤(L.length:Int)→(L.length:Int)≤7→0≤h→h≤100-x5→0≤p→p≤10000-100*x5→
 ∃r,Ev (fun k=>cP.l0 k x5 l p q L h c t) r∧2≤(r.1.length:Int)∧(r.1.length:Int)≤7∧r.2.1≤1000∧0≤r.2.2.2.2.1∧r.2.2.2.2.1≤100100:=by
 intro m
 induction m with
 |zero=>
  intro x5 L h c t p q hm hx9 hx n1 n2 h9 hh p0 p1
  by_cases c0:x5>0
  ·omega
  ·exact a04 l hl 0 x5 c0 L h c t p q n1 n2 h9 (by omega) p0 (by omega)
 |succ m ih=>
  intro x5 L h c t p q hm hx9 hx n1 n2 h9 hh p0 p1
  have hx0:x5>0:=by omega
  have hw:F5 (x5-1)=x5-1:=dc (by omega) (by omega);obtain⟨v,p2,q2,e2,a1,a2,a3,a4,_⟩:=kb l hl p q 3 p0 (by omega) (by omega)
  have e1:iZ.f l p q 3=some (v==0,p2,q2):=by
   unfold iZ.f;rw[e2]
   rfl
  by_cases c0:(v==0)=true
  ·obtain⟨u,p3,q3,e3,b1,b2,b3,b4,_⟩:=kb l hl p2 q2 3 (by omega) (by omega) (by omega)
   have ep:=YT L h c t u (by omega)
   cases hb:(oC L h c t u).2.2.2.2 with
   |true=>
    obtain⟨k1,k2⟩:=XB L h c t u hb;obtain⟨r,er,f⟩:=ih (x5-1) (oC L h c t u).1 (oC L h c t u).2.1 (oC L h c t u).2.2.1 (oC L h c t u).2.2.2.1 p3 q3 (by omega) (by omega) (by omega) (by rw[k1];exact n1) (by rw[k1];exact n2) (by rw[k2];omega) (by rw[k2];omega) (by omega) (by omega);refine⟨r,Ev.step (fun k=>by rw[cP.l0]) (Ev.pos hx0 (Ev.bh _ e1 (Ev.pos c0 (Ev.bh _ e3 (Ev.bind' _ ep (Ev.pos hb ?_)))))),f⟩;rw[hw];exact er
   |false=>
    have hb':¬(oC L h c t u).2.2.2.2=true:=fun q=>Bool.false_ne_true (hb.symm.trans q)
    obtain⟨r,er,f⟩:=ih (x5-1) L h c t p3 q3 (by omega) (by omega) (by omega) n1 n2 h9 (by omega) (by omega) (by omega);refine⟨r,Ev.step (fun k=>by rw[cP.l0]) (Ev.pos hx0 (Ev.bh _ e1 (Ev.pos c0 (Ev.bh _ e3 (Ev.bind' _ ep (Ev.neg hb' ?_)))))),f⟩;rw[hw];exact er
  ·obtain⟨u,p3,q3,e3,b1,b2,b3,b4,_⟩:=kb l hl p2 q2 5 (by omega) (by omega) (by omega)
   have b5:=b4 (by omega);obtain⟨s,p4,q4,e4,es,d1,d2⟩:=K4 l hl p3 q3 u (by omega) (by omega) b3 (by omega);have ep:=(QZ L h c t s (by omega)).1
   cases hb:(kp L h c t s).2.2.2.2 with
   |true=>
    obtain⟨k1,k2⟩:=Xn L h c t s hb;obtain⟨r,er,f⟩:=ih (x5-1) (kp L h c t s).1 (kp L h c t s).2.1 (kp L h c t s).2.2.1 (kp L h c t s).2.2.2.1 p4 q4 (by omega) (by omega) (by omega) (by rw[k1];exact n1) (by rw[k1];exact n2) (by rw[k2];omega) (by rw[k2];omega) (by omega) (by omega);refine⟨r,Ev.step (fun k=>by rw[cP.l0]) (Ev.pos hx0 (Ev.bh _ e1 (Ev.neg c0 (Ev.bh _ e3 (Ev.bind' _ e4 (Ev.bind' _ ep (Ev.pos hb ?_))))))),f⟩;rw[hw];exact er
   |false=>
    have hb':¬(kp L h c t s).2.2.2.2=true:=fun q=>Bool.false_ne_true (hb.symm.trans q)
    obtain⟨r,er,f⟩:=ih (x5-1) L h c t p4 q4 (by omega) (by omega) (by omega) n1 n2 h9 (by omega) (by omega) (by omega);refine⟨r,Ev.step (fun k=>by rw[cP.l0]) (Ev.pos hx0 (Ev.bh _ e1 (Ev.neg c0 (Ev.bh _ e3 (Ev.bind' _ e4 (Ev.bind' _ ep (Ev.neg hb' ?_))))))),f⟩;rw[hw];exact er
theorem QX(l:List Int)(hl:lL l):∃r,Ev (fun k=>cP.f k l 0 0) r∧2≤(r.1.length:Int)∧(r.1.length:Int)≤7∧r.2.1≤1000∧0≤r.2.2.2.2.1∧r.2.2.2.2.1≤100100:=by
 obtain⟨v,p1,q1,e1,a1,a2,a3,a4,_⟩:=kb l hl 0 0 6 (by omega) (by omega) (by omega);have a5:=a4 (by omega);have hw:F5 (2+v)=2+v:=dc (by omega) (by omega);obtain⟨R,er,f1,f2⟩:=Xm (2+v) ⟨by omega,by omega⟩;obtain⟨u,p2,q2,e2,b1,b2,b3,b4,_⟩:=kb l hl p1 q1 24 (by omega) (by omega) (by omega);have b5:=b4 (by omega)
 have g1:R.2.1=0:=by rw[f2]
 obtain⟨r,e3,g⟩:=Xo l hl u.toNat u R.1 R.2.1 R.2.2.1 R.2.2.2.1 p2 q2 rfl (by omega) (by omega) (by omega) (by omega) (by omega) (by omega) (by omega) (by omega);refine⟨r, ?_,g⟩;unfold cP.f;refine Ev.bh _ e1 ?_;dsimp only;rw[hw];exact Ev.bind' _ er (Ev.bh _ e2 e3)
theorem X5(l:List Int)(hl:lL l):∃L h c t s,Ev (fun k=>lc.f k l) (L,h,c,t,s)∧2≤(L.length:Int)∧(L.length:Int)≤7∧h≤1000:=by
 obtain⟨r,e,n1,n2,hh,p0,p1⟩:=QX l hl;obtain⟨u,p3,q3,e3,b1,b2,b3,b4,_⟩:=kb l hl r.2.2.2.2.1 r.2.2.2.2.2 14 (by omega) (by omega) (by omega);have b5:=b4 (by omega);obtain⟨s,p4,q4,e4,es,d1,d2⟩:=K4 l hl p3 q3 u (by omega) (by omega) b3 (by omega);refine⟨r.1,r.2.1,r.2.2.1,r.2.2.2.1,s, ?_,n1,n2,hh⟩;unfold lc.f;exact Ev.bind' _ e (Ev.bh _ e3 (Ev.bind' _ e4 (Ev.now _)))
end Go.Proofs.YtgpjnkahgofpmaaDoor.Q
