/- The plain law of FnOpened: reopening recovers all valid records, but for a last one that is torn. No condition. -/
import Derived.Test.YtgpjnkahgofpmaaDoorRingTorn
import Derived.Test.YtgpjnkahgofpmaaDoorRingOpen
import Derived.Test.YtgpjnkahgofpmaaDoorG7
import Derived.Test.YtgpjnkahgofpmaaDoorG6
import Derived.Test.YtgpjnkahgofpmaaDoorG5
open Bool renaming false_ne_true→aae
open Int renaming tmod→GW,tmod_nonneg→aat,tmod_lt_of_pos→aaw
open List renaming length_take→ca,length_drop→fF,length_set→aar
namespace Go.Proofs.YtgpjnkahgofpmaaDoor.Q
open Go.RowKit Go.Proofs.YtgpjnkahgofpmaaDoorW.PrintWords Go.Proofs.YtgpjnkahgofpmaaDoor.G
set_option linter.unusedVariables false
set_option linter.unusedSimpArgs false
theorem X1(l:List Sl)(h c t:Int)(hl:l.length≤2000000):∀ (m:Nat) (x:Int),((l.length:Int)-x).toNat=m→0≤x→x≤(l.length:Int)→Ev (fun k=>ec.l0 k (l.length:Int) x l h c t l h c t) true:=by
 intro m
 induction m with
 |zero=>
  intro x hm h0 h1;exact Ev.step (fun k=>by rw[ec.l0]) (Ev.neg (by omega) (Ev.now _))
 |succ m ih=>
  intro x hm h0 h1;have hw:wrap64 (x+1)=x+1:=dc (by omega) (by omega)
  have hx:x<(l.length:Int):=by omega
  have e:=ih (x+1) (by omega) (by omega) (by omega);refine Ev.step (fun k=>by rw[ec.l0]) (Ev.pos hx (Ev.pos h0 (Ev.pos hx (Ev.pos hx (Ev.neg ?_ ?_)))))
  ·simp
  ·rw[hw]
   exact e
theorem a4T(l:List Sl)(h c t:Int)(hl:l.length≤2000000):Ev (fun k=>ec.f k l h c t l h c t) true:=by
 unfold ec.f;refine Ev.pos rfl (Ev.pos rfl (Ev.pos rfl (Ev.step (fun k=>by rw[ec.j0]) (Ev.neg ?_ ?_))))
 ·simp
 ·exact X1 l h c t hl l.length 0 (by omega) (Int.le_refl _) (by omega)
theorem X3(l:List ByteArray)(hl:l.length≤2000000):∀ (m:Nat) (x:Int),((l.length:Int)-x).toNat=m→0≤x→x≤(l.length:Int)→Ev (fun k=>fU.l0 k l l (l.length:Int) x) true:=by
 intro m
 induction m with
 |zero=>
  intro x hm h0 h1;exact Ev.step (fun k=>by rw[fU.l0]) (Ev.neg (by omega) (Ev.now _))
 |succ m ih=>
  intro x hm h0 h1;have hw:wrap64 (x+1)=x+1:=dc (by omega) (by omega)
  have hx:x<(l.length:Int):=by omega
  have e:=ih (x+1) (by omega) (by omega) (by omega);refine Ev.step (fun k=>by rw[fU.l0]) (Ev.pos hx (Ev.pos h0 (Ev.pos hx (Ev.pos hx (Ev.pos rfl ?_)))));rw[hw];exact e
theorem TT(a b:List ByteArray)(e:a=b)(hl:a.length≤2000000):Ev (fun k=>fU.f k a b) true:=by
 subst e;unfold fU.f;exact Ev.pos rfl (X3 a hl a.length 0 (by omega) (Int.le_refl _) (by omega))
theorem putV_len(L:List Sl)(h c t:Int)(s:ByteArray)(hl:L.length≤7):(kp L h c t s).1.length≤7:=by
 unfold kp
 split
 ·rw[aar];exact hl
 ·exact Nat.zero_le _
theorem a00(b:Bool):(b !=b)=false:=by cases b<;>rfl
theorem KW(l:List Int)(hl:lL l)(p q a:Int)(h0:0≤p)(h1:p<4000000000000000000)(ha:a≤1000000):
 ∃v p' q',iZ.f l p q a=some (v,p',q')∧p≤p'∧p'≤p+2:=by
 obtain⟨v,p',q',e,b1,b2,_⟩:=kb l hl p q a h0 h1 ha;refine⟨(v==0),p',q', ?_,b1,b2⟩;unfold iZ.f;rw[e]
 rfl
theorem Wq(l:List Int)(hl:lL l):∃L,Ev (fun k=>iL.f k l) L∧L.length≤7:=by
 obtain⟨r,e,n1,n2,hh,p0,p1⟩:=QX l hl;obtain⟨v,p3,q3,e3,b1,b2⟩:=KW l hl r.2.2.2.2.1 r.2.2.2.2.2 3 (by omega) (by omega) (by omega);unfold iL.f
 cases v with
 |true=>
  obtain⟨u,p4,q4,e4,b3,b4,b5,b6,_⟩:=kb l hl p3 q3 (r.1.length:Int) (by omega) (by omega) (by omega);have u1:=b6 (by omega);obtain⟨m,p5,q5,e5,b7,b8,_⟩:=kb l hl p4 q4 4 (by omega) (by omega) (by omega);obtain⟨x,ex⟩:=YM ((J r.1 u).f0) ((J r.1 u).f1) ((J r.1 u).f2) ((J r.1 u).f3) m;obtain⟨g,p6,q6,e6,_⟩:=KW l hl p5 q5 20 (by omega) (by omega) (by omega)
  cases g with
  |true=>exact⟨_,Ev.bind' _ e (Ev.bh _ e3 (Ev.pos rfl (Ev.bh _ e4 (Ev.pos b5 (Ev.pos u1 (Ev.bh _ e5 (Ev.bind' _ ex (Ev.bh _ rfl (Ev.bh _ e6 (Ev.pos rfl (Ev.pos (by omega) (Ev.now _)))))))))))),by rw[ca,aar];omega⟩
  |false=>exact⟨_,Ev.bind' _ e (Ev.bh _ e3 (Ev.pos rfl (Ev.bh _ e4 (Ev.pos b5 (Ev.pos u1 (Ev.bh _ e5 (Ev.bind' _ ex (Ev.bh _ rfl (Ev.bh _ e6 (Ev.neg aae (Ev.now _))))))))))),by rw[aar];omega⟩
 |false=>
  obtain⟨g,p6,q6,e6,_⟩:=KW l hl p3 q3 20 (by omega) (by omega) (by omega)
  cases g with
  |true=>exact⟨_,Ev.bind' _ e (Ev.bh _ e3 (Ev.neg aae (Ev.bh _ e6 (Ev.pos rfl (Ev.pos (by omega) (Ev.now _)))))),by rw[ca];omega⟩
  |false=>exact⟨_,Ev.bind' _ e (Ev.bh _ e3 (Ev.neg aae (Ev.bh _ e6 (Ev.neg aae (Ev.now _))))),by omega⟩
theorem X4(l:List Int)(hl:lL l):∃r,Ev (fun k=>mH.f k l) r:=by
 obtain⟨v1,p1,q1,e1,a1,c1,_⟩:=kb l hl 0 0 20 (by omega) (by omega) (by omega);obtain⟨v2,p2,q2,e2,a2,c2,_⟩:=kb l hl p1 q1 99 (by omega) (by omega) (by omega);obtain⟨v3,p3,q3,e3,a3,c3,d3,f3,_⟩:=kb l hl p2 q2 6 (by omega) (by omega) (by omega);have g3:=f3 (by omega);obtain⟨s,p4,q4,e4,es,a4,c4⟩:=K4 l hl p3 q3 v3 (by omega) (by omega) d3 (by omega);obtain⟨v5,p5,q5,e5,_⟩:=kb l hl p4 q4 3 (by omega) (by omega) (by omega);unfold mH.f;exact⟨_,Ev.bh _ e1 (Ev.bh _ e2 (Ev.bh _ e3 (Ev.bind' _ e4 (Ev.bh _ e5 (Ev.now _)))))⟩
theorem TU(l1:List Int)(h1:lL l1):Ev (fun k=>bi.j2 k l1) true:=by
 obtain⟨L,eL,hL⟩:=Wq l1 h1;obtain⟨r,rs,ri,rl⟩:=Wh L (by omega);obtain⟨x,ex⟩:=X4 l1 h1;obtain⟨ss,si⟩:=rt x.1 x.2.1 x.2.2.1 x.2.2.2;have e4:=a4T r.1 r.2.1 r.2.2.1 r.2.2.2.1 (by omega);refine Ev.step (fun k=>by rw[bi.j2]) (Ev.bind' _ eL (Ev.bind' _ ri (Ev.bind' _ rs (Ev.bind' _ ex (Ev.pos (beq_self_eq_true _) (Ev.bind' _ e4 (Ev.pos rfl (Ev.bind' _ si (Ev.bind' _ ss ?_)))))))));exact Ev.now' (beq_self_eq_true _)
theorem TV(l1:List Int)(h1:lL l1){L:List Sl}{h c t:Int}(G:Good L h c t)(hroom:h-t<(L.length:Int))(x:Sl)(b:Bool)(hb:b=true→px x∧t<h):
 Ev (fun k=>bi.j1 k l1 (L.set (GW h (L.length:Int)).toNat x) b L h c t) true:=by
 have ej:=TU l1 h1;refine Ev.step (fun k=>by rw[bi.j1]) ?_
 cases b with
 |false=>exact Ev.neg aae ej
 |true=>
  obtain⟨hd,ht⟩:=hb rfl;have n2:=G.n2;have t0:=G.t0;have g1:=G.h1;obtain⟨r,er,A⟩:=QY (YN G ht hroom x hd);have u5:=K5 G;obtain⟨bs,eb,lb,db⟩:=OT ht A;obtain⟨a1,a2,a3,a4,a5,a6⟩:=A;have r0:=a3.t0;have r1:=a3.t1;rw[a2]at r1
  have lr:((ff L (L.length:Int) (h-t).toNat t).length:Int)=h-t:=by rw[Fl];omega
  have len:(L.set (GW h (L.length:Int)).toNat x).length=L.length:=aar ..;rw[len,Xf G hroom x]at db
  have ew:wrap64 ((bs.length:Int)-((ff L (L.length:Int) (h-t).toNat t).length:Int))=t-r.2.2.2.1:=by rw[lb,lr,dc (by omega) (by omega)];omega
  have es:=TT (bs.drop (t-r.2.2.2.1).toNat) (ff L (L.length:Int) (h-t).toNat t) db (by rw[fF];omega);refine Ev.pos rfl (Ev.bind' _ er (Ev.bind' _ eb (Ev.bind' _ u5 (Ev.pos a1 (Ev.pos rfl (Ev.pos rfl (Ev.pos a2 (Ev.neg (by rw[lb,lr];omega) ?_))))))));dsimp only;rw[ew];exact Ev.pos (by omega) (Ev.pos (by omega) (Ev.bind' _ es (Ev.pos rfl ej)))
theorem a4U(l1:List Int)(h1:lL l1)(z1:l1.length≤9223372036854775807){L:List Sl}{h c t:Int}(G:Good L h c t)(s:ByteArray)(hs:s.size≤12)(hroom:h-t<(L.length:Int))(hmax:h<10000000)(hc:c≤1000000)(c':Int):
 Ev (fun k=>bi.j0 k l1 false L h c t (L.set (GW h (L.length:Int)).toNat ⟨c,t,s,fw c t s⟩) (h+1) c' t) true:=by
 have n1:=G.n1;have n2:=G.n2;have h0:=G.h0;have t0:=G.t0;have t1:=G.t1;have m0:0≤GW h (L.length:Int):=aat _ h0;have m1:GW h (L.length:Int)<(L.length:Int):=aaw _ (by omega);have d0:0≤Int.tdiv h (L.length:Int):=Int.tdiv_nonneg h0 (by omega);have cy:=G.cy;obtain⟨n,en,nn⟩:=Xg l1 z1 h1;have k0:0≤GW n 13:=aat _ nn;have k1:GW n 13<13:=aaw _ (by omega);have okc:kd c t s:=⟨⟨by omega,hc⟩,⟨t0,by omega⟩,hs⟩;have len:(L.set (GW h (L.length:Int)).toNat (⟨c,t,s,fw c t s⟩:Sl)).length=L.length:=aar ..
 have er:J (L.set (GW h (L.length:Int)).toNat (⟨c,t,s,fw c t s⟩:Sl)) (GW h (L.length:Int))=(⟨c,t,s,fw c t s⟩:Sl):=by
  rw[yE _ _ m0,AG L _ _ _ m0 m1 m0,if_pos rfl]
 have et:=a01 c t s (fw c t s) (GW n 13) okc k0 (by omega);obtain⟨s',es'⟩:∃s',s'=s.extract 0 (mn (GW n 13) (s.size:Int)).toNat:=⟨_,rfl⟩;rw[←es']at et;have e1:=(rt c t s' (fw c t s)).1
 have ss:∀x:Sl,(L.set (GW h (L.length:Int)).toNat (⟨c,t,s,fw c t s⟩:Sl)).set (GW h (L.length:Int)).toNat x=L.set (GW h (L.length:Int)).toNat x:=fun x=>List.set_set ..
 refine Ev.step (fun k=>by rw[bi.j0]) ?_;refine Ev.neg aae (Ev.bh ([]:List Sl) rfl ?_);refine Ev.pos (show([]:List Sl).length+(L.set (GW h (L.length:Int)).toNat (⟨c,t,s,fw c t s⟩:Sl)).length<3518437208883 by rw[len,List.length_nil];omega) (Ev.bh (L.set (GW h (L.length:Int)).toNat (⟨c,t,s,fw c t s⟩:Sl)) rfl ?_);rw[len,er];refine Ev.neg (by omega) (Ev.pos m0 (Ev.pos m1 (Ev.bind' _ en (Ev.bh _ et (Ev.bh (L.set (GW h (L.length:Int)).toNat (⟨c,t,s',fw c t s⟩:Sl)) (congrArg some (ss _)) (Ev.pos rfl (Ev.bind' _ e1 ?_)))))))
 by_cases c1:fw c t s'=fw c t s
 ·exact Ev.pos c1 (TV l1 h1 G hroom _ false (fun q=>absurd q aae))
 ·refine Ev.neg c1 (TV l1 h1 G hroom _ _ (fun q=>⟨fun d=> ?_,of_decide_eq_true q⟩))
  have i:=d.1;unfold jI at i;rw[Bool.and_eq_true,beq_iff_eq]at i;exact c1 i.2.symm
theorem FnOpened:bi.Pure:=by
 intro l0 l1 w0 w1;have b0:=OU w0.2;have b1:=OU w1.2;have ej:=TU l1 b1
 suffices e:Ev (fun k=>bi.f k l0 l1) true by
  obtain⟨K,h⟩:=e;exact⟨K,h K (Nat.le_refl _)⟩
 unfold bi.f
 by_cases c0:(wrap64 ((l0.length:Int)+(l1.length:Int)))>1048576
 ·exact Ev.pos c0 (Ev.now _)
 have z1:l1.length≤9223372036854775807:=by have b:=w1.1;unfold maxLen at b;omega
 obtain⟨L,h,c,t,s,e,n1,n2,hh⟩:=X5 l0 b0;obtain⟨es,ei⟩:=QZ L h c t s (by omega)
 have ne:¬((kp L h c t s).2.2.2.2 !=(kp L h c t s).2.2.2.2)=true:=by rw[a00];decide
 refine Ev.neg c0 (Ev.bind' _ e (Ev.bind' _ ei (Ev.bind' _ es (Ev.neg ne ?_))));clear es ei ne c0;unfold kp
 by_cases c1:oY L h c t=true∧s.size≤12∧h-t<(L.length:Int)∧h≠10000000
 rotate_left
 ·rw[if_neg c1]
  exact Ev.neg aae ej
 rw[if_pos c1];have G:=Bk.1 c1.1;have g0:=G.h0;have t1:=G.t1;have t0:=G.t0;have a2:Int.tdiv h (L.length:Int)≤h:=Int.tdiv_le_self _ g0;have cy:=G.cy;have G2:=YO G s c1.2.1 c1.2.2.1 (by omega) (by omega);obtain⟨r,er,A⟩:=QY (YP G2 (by omega));have u5:=K5 G2;have len:(L.set (GW h (L.length:Int)).toNat (⟨c,t,s,fw c t s⟩:Sl)).length=L.length:=aar ..;obtain⟨bs,eb,lb,db⟩:=OT (by omega) A;obtain⟨a1,a2',a3,a4,a5,a6⟩:=A;have r0:=a3.t0;have r1:=a3.t1;rw[a2']at r1;rw[len]at u5 db
 have lr:((ff (L.set (GW h (L.length:Int)).toNat (⟨c,t,s,fw c t s⟩:Sl)) (L.length:Int) (h+1-t).toNat t).length:Int)=h+1-t:=by rw[Fl];omega
 have ew:wrap64 ((bs.length:Int)-((ff (L.set (GW h (L.length:Int)).toNat (⟨c,t,s,fw c t s⟩:Sl)) (L.length:Int) (h+1-t).toNat t).length:Int))=t-r.2.2.2.1:=by rw[lb,lr,dc (by omega) (by omega)];omega
 have es:=TT (bs.drop (t-r.2.2.2.1).toNat) _ db (by rw[fF];omega);dsimp only;refine Ev.pos rfl (Ev.bind' _ er (Ev.bind' _ u5 (Ev.bind' _ eb (Ev.pos a1 (Ev.pos rfl (Ev.pos rfl (Ev.pos a2' (Ev.neg (by rw[lb,lr];omega) ?_))))))));dsimp only;rw[ew];exact Ev.pos (by omega) (Ev.pos (by omega) (Ev.bind' _ es (a4U l1 b1 z1 G s c1.2.1 c1.2.2.1 (by omega) (by omega) _)))
end Go.Proofs.YtgpjnkahgofpmaaDoor.Q
