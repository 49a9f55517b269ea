/- What a cursor draws for a store: some store within bounds. No statement. -/
import Derived.Test.YtmbjmacpigojjaaCurDraw
import Derived.Test.YtmbjmacpigojjaaStoreOps
import Derived.Test.YtmbjmacpigojjaaG5
open Bool renaming false_ne_true→aaO
open List renaming getD_eq_getElem?_getD→kU,length_drop→qC,length_append→uS,length_singleton→aak
namespace Go.Proofs.Ytmbjmacpigojjaa.Q
open Go.RowKit Go.Proofs.YtmbjmacpigojjaaW.PrintWords Go.Proofs.Ytmbjmacpigojjaa.G
set_option linter.unusedVariables false
set_option linter.unusedSimpArgs false
theorem Jo(l:List Int)(hl:qO l)(p q a:Int)(h0:0≤p)(h1:p<4000000000000000000)(ha:a≤1000000):
 ∃v p' q',kV.f l p q a=some (v,p',q')∧p≤p'∧p'≤p+2:=by
 obtain⟨v,p',q',e,h2,h3,_⟩:=ta l hl p q a h0 h1 ha;exact⟨_,p',q',by unfold kV.f;rw[e];rfl,h2,h3⟩
theorem write_ok(l:List Int)(hl:qO l)(p q n:Int)(h0:0≤p)(h1:p<2000000000000000000)(hn:n≤1000000):
 ∃a s p' q',Ev (fun k=>pP.f k l p q n) (a,s,p',q')∧p≤p'∧p'≤p+30:=by
 obtain⟨v1,p1,q1,e1,a1,b1,_⟩:=ta l hl p q n h0 (by omega) hn;obtain⟨s,p2,q2,e2,_,a2,b2⟩:=XH l hl p1 q1 8 (by omega) (by omega) (by omega) (by omega);obtain⟨v3,p3,q3,e3,a3,b3⟩:=Jo l hl p2 q2 60 (by omega) (by omega) (by omega);unfold pP.f
 cases v3 with
 |false=>
  obtain⟨v4,p4,q4,e4,a4,b4⟩:=Jo l hl p3 q3 60 (by omega) (by omega) (by omega)
  cases v4 with
  |false=>exact⟨v1,s,p4,q4,Ev.eB _ e1 (Ev.bind' _ e2 (Ev.eB _ e3 (Ev.neg aaO (Ev.eB _ e4 (Ev.neg aaO (Ev.now _)))))),by omega,by omega⟩
  |true=>exact⟨v1,_,p4,q4,Ev.eB _ e1 (Ev.bind' _ e2 (Ev.eB _ e3 (Ev.neg aaO (Ev.eB _ e4 (Ev.pos rfl (Ev.now _)))))),by omega,by omega⟩
 |true=>
  obtain⟨v6,p6,q6,e6,a6,b6,c6,d6,_⟩:=ta l hl p3 q3 2 (by omega) (by omega) (by omega);have d6':=d6 (by omega)
  have ea:uT.f l p3 q3 [(-1),32]=some (rd [(-1),32] v6,p6,q6):=by
   unfold uT.f
   show(gG.f l p3 q3 2).bind _=_
   rw[e6,Option.bind_some];exact(if_pos c6).trans (if_pos d6')
  obtain⟨v4,p4,q4,e4,a4,b4⟩:=Jo l hl p6 q6 60 (by omega) (by omega) (by omega)
  cases v4 with
  |false=>exact⟨_,s,p4,q4,Ev.eB _ e1 (Ev.bind' _ e2 (Ev.eB _ e3 (Ev.pos rfl (Ev.eB _ ea (Ev.eB _ e4 (Ev.neg aaO (Ev.now _))))))),by omega,by omega⟩
  |true=>exact⟨_,_,p4,q4,Ev.eB _ e1 (Ev.bind' _ e2 (Ev.eB _ e3 (Ev.pos rfl (Ev.eB _ ea (Ev.eB _ e4 (Ev.pos rfl (Ev.now _))))))),by omega,by omega⟩
theorem has_ok(l:List Int)(hl:l.length≤1000000)(a:Int):∃b,Ev (fun k=>iK.f k l a) b:=by
 have key:∀d i,l.length-i=d→i≤l.length→∃b,Ev (fun k=>iK.l0 k a l (l.length:Int) (i:Int)) b:=by
  intro d
  induction d with
  |zero=>
   intro i hd hi;exact⟨_,Ev.step (fun k=>by rw[iK.l0]) (Ev.neg (by omega) (Ev.now _))⟩
  |succ d ih=>
   intro i hd hi
   by_cases c:rd l (i:Int)=a
   ·exact⟨_,Ev.step (fun k=>by rw[iK.l0]) (Ev.pos (by omega) (Ev.pos (by omega) (Ev.pos (by omega) (Ev.pos c (Ev.now _)))))⟩
   ·obtain⟨b,h⟩:=ih (i+1) (by omega) (by omega)
    refine⟨b,Ev.step (fun k=>by rw[iK.l0]) (Ev.pos (by omega) (Ev.pos (by omega) (Ev.pos (by omega) (Ev.neg c ?_))))⟩;rw[show wrap64 ((i:Int)+1)=((i+1:Nat):Int) by rw[eD (by omega) (by omega)];rfl];exact h
 unfold iK.f;exact key l.length 0 rfl (Nat.zero_le _)
theorem Is(l:List Int)(hl:qO l)(n:Int)(hn:n≤1000000):∀ (d:Nat) (x7:Int) (ws:List Wr) (us:List Int) (p q:Int),x7.toNat=d→x7≤1000→ws.length+d≤1000→us.length+d≤1000→0≤p→p+32*(d:Int)<2000000000000000000→
 ∃r p' q',Ev (fun k=>fx.l0 k n ws us x7 l p q) (r,p',q')∧r.length≤1000∧p≤p'∧p'≤p+32*(d:Int)
 |0,x7,ws,us,p,q,hd,_,h1,_,_,_=>⟨ws,p,q,Ev.step (fun k=>by rw[fx.l0]) (Ev.neg (by omega) (Ev.now _)),by omega,by omega,by omega⟩
 |d+1,x7,ws,us,p,q,hd,hx,h1,h2,h3,h4=>by
  obtain⟨a,s,p1,q1,e1,a1,b1⟩:=write_ok l hl p q n h3 (by omega) hn;obtain⟨b,e2⟩:=has_ok us (by omega) a;have hw:wrap64 (x7-1)=x7-1:=eD (by omega) (by omega)
  cases b with
  |false=>
   obtain⟨r,p',q',e,hr,ha,hb⟩:=Is l hl n hn d (x7-1) (ws++[⟨a,s⟩]) (us++[a]) p1 q1 (by omega) (by omega) (by rw[uS,aak];omega) (by rw[uS,aak];omega) (by omega) (by omega);refine⟨r,p',q',Ev.step (fun k=>by rw[fx.l0]) (Ev.pos (by omega) (Ev.bind' _ e1 (Ev.bind' _ e2 (Ev.neg aaO (Ev.pos (show us.length<17592186044416 by omega) (Ev.pos (show ws.length<5864062014805 by omega) ?_)))))),hr,by omega,by omega⟩;rw[hw];exact e
  |true=>
   obtain⟨v,p2,q2,e3,a3,b3⟩:=Jo l hl p1 q1 12 (by omega) (by omega) (by omega)
   cases v with
   |true=>
    obtain⟨r,p',q',e,hr,ha,hb⟩:=Is l hl n hn d (x7-1) (ws++[⟨a,s⟩]) (us++[a]) p2 q2 (by omega) (by omega) (by rw[uS,aak];omega) (by rw[uS,aak];omega) (by omega) (by omega);refine⟨r,p',q',Ev.step (fun k=>by rw[fx.l0]) (Ev.pos (by omega) (Ev.bind' _ e1 (Ev.bind' _ e2 (Ev.pos rfl (Ev.eB _ e3 (Ev.pos rfl (Ev.pos (show us.length<17592186044416 by omega) (Ev.pos (show ws.length<5864062014805 by omega) ?_)))))))),hr,by omega,by omega⟩;rw[hw];exact e
   |false=>
    obtain⟨r,p',q',e,hr,ha,hb⟩:=Is l hl n hn d (x7-1) ws us p2 q2 (by omega) (by omega) (by omega) (by omega) (by omega) (by omega);refine⟨r,p',q',Ev.step (fun k=>by rw[fx.l0]) (Ev.pos (by omega) (Ev.bind' _ e1 (Ev.bind' _ e2 (Ev.pos rfl (Ev.eB _ e3 (Ev.neg aaO ?_)))))),hr,by omega,by omega⟩;rw[hw];exact e
theorem OM(l:List Int)(hl:qO l)(p q n:Int)(h0:0≤p)(h1:p<1000000000000000000)(hn:n≤1000000):
 ∃r p' q',Ev (fun k=>fx.f k l p q n) (r,p',q')∧r.length≤1000∧p≤p'∧p'≤p+100:=by
 obtain⟨v,p1,q1,e1,a1,b1,c1,d1,_⟩:=ta l hl p q 3 h0 (by omega) (by omega);have d1':=d1 (by omega);have hw:wrap64 (1+v)=1+v:=eD (by omega) (by omega);obtain⟨r,p',q',e,hr,ha,hb⟩:=Is l hl n hn (1+v).toNat (1+v) [] [] p1 q1 rfl (by omega) (by simp only[List.length_nil];omega) (by simp only[List.length_nil];omega) (by omega) (by omega);refine⟨r,p',q', ?_,hr,by omega,by omega⟩;unfold fx.f;refine Ev.eB _ e1 ?_;simp only[hw];exact e
def Bd(S:List ByteArray)(P:List Wr)(L:List ByteArray):Prop:=S.length≤100∧P.length≤60∧L.length≤40∧jY L
theorem short_drop {L:List ByteArray}(h:jY L)(n:Nat):jY (L.drop n):=fun i hi=>by
 rw[qC]at hi;have:=h (n+i) (by omega)
 simpa[kU]using this
theorem Lz {L:List ByteArray}(h:jY L)(s:ByteArray)(hs:s.size≤1048576):jY (L++[s]):=fun i hi=>by
 rw[uS,aak]at hi
 by_cases c:i<L.length
 ·have:=h i c
  rw[kU,List.getElem?_append_left c,←kU];exact this
 ·have e:i=L.length:=by omega
  subst e
  simpa[kU]using hs
theorem sync_bd {S:List ByteArray}{P:List Wr}{L:List ByteArray}{n:Int}(h:Bd S P L):(rY S P L n).2.2.2.2=true→Bd (rY S P L n).1 (rY S P L n).2.1 (rY S P L n).2.2.1:=by
 by_cases c:fd S P L n
 ·rw[IX c];exact fun _=>h
 ·rw[Me c];exact fun e=>by cases e
theorem back_bd {S:List ByteArray}{P:List Wr}{L:List ByteArray}{n:Int}(h:Bd S P L):(rZ S P L n).2.2.2.2=true→Bd (rZ S P L n).1 (rZ S P L n).2.1 (rZ S P L n).2.2.1:=by
 by_cases c:fd S P L n
 ·rw[IY c]
  by_cases d:P.length+(dw (L.take n.toNat)).length≤60
  ·rw[if_pos d]
   exact fun _=>⟨h.1,by show(P++dw (L.take n.toNat)).length≤60;rw[uS];exact d,h.2.2⟩
  ·rw[if_neg d];exact fun e=>by cases e
 ·rw[Mf c];exact fun e=>by cases e
theorem chk_bd {S:List ByteArray}{P:List Wr}{L:List ByteArray}{n:Int}(h:Bd S P L):(rk S P L n).2.2.2.2=true→Bd (rk S P L n).1 (rk S P L n).2.1 (rk S P L n).2.2.1:=by
 by_cases c:fd S P L n∧dq (dq S P) (dw (L.take n.toNat))=dq S P
 ·rw[Im c.1 c.2]
  refine fun _=>⟨?_,Nat.zero_le _, ?_,short_drop h.2.2.2 _⟩
  ·show(dq S P).length≤100
   rw[mS];exact h.1
  ·show(L.drop n.toNat).length≤40
   have:=h.2.2.1;rw[qC];omega
 ·rw[It c];exact fun e=>by cases e
theorem commit_bd {S:List ByteArray}{P:List Wr}{L:List ByteArray}{n:Int}{l:List Wr}(h:Bd S P L):(kb S P L n l).2.2.2.2=true→Bd (kb S P L n l).1 (kb S P L n l).2.1 (kb S P L n l).2.2.1:=by
 classical
 unfold kb
 by_cases c:fd S P L n∧hZ (S.length:Int) l∧L.length≠40
 ·rw[if_pos c]
  refine fun _=>⟨h.1,h.2.1, ?_,Lz h.2.2.2 _ ?_⟩
  ·show(L++[strOfNums (eg l)]).length≤40
   have:=h.2.2.1;have:=c.2.2;rw[uS,aak];omega
  ·have:=wb _ l c.2.1
   have:=c.2.1.2.2;rw[SR];omega
 ·rw[if_neg c];exact fun e=>by cases e
abbrev TS:=List ByteArray×List Wr×List ByteArray×Int×Int×Int
theorem ts_end(l:List Int)(hl:qO l)(x3 x6:Int)(h6:¬x6>0)(p q:Int)(S:List ByteArray)(P:List Wr)(L:List ByteArray)(n:Int)(h:Bd S P L)(h0:0≤p)(h1:p≤1000000):
 ∃r:TS,Ev (fun k=>dp.l0 k x3 x6 l p q S P L n) r∧r.1.length≤100∧r.2.1.length≤61∧r.2.2.1.length≤41∧jY r.2.2.1∧0≤r.2.2.2.2.1∧r.2.2.2.2.1≤1000100:=by
 obtain⟨v,p1,q1,e1,a1,b1,_⟩:=ta l hl p q 40 h0 (by omega) (by omega);obtain⟨k1,k2,k3,k4⟩:=h
 by_cases c0:v=0
 ·obtain⟨v2,p2,q2,e2,a2,b2,_⟩:=ta l hl p1 q1 3 (by omega) (by omega) (by omega)
  refine⟨(S,P,L,wrap64 (n+wrap64 (v2-1)),p2,q2),Ev.step (fun k=>by rw[dp.l0]) (Ev.neg h6 (Ev.eB _ e1 (Ev.pos c0 ?_))),k1,by show P.length≤61;omega,by show L.length≤41;omega,k4,by show 0≤p2;omega,by show p2≤1000100;omega⟩;refine Ev.eB _ e2 ?_;exact Ev.now _
 by_cases c1:v=1
 ·exact⟨(S,P,L++[(⟨#[120]⟩:ByteArray)],n,p1,q1),Ev.step (fun k=>by rw[dp.l0]) (Ev.neg h6 (Ev.eB _ e1 (Ev.neg c0 (Ev.pos c1 (Ev.pos (show L.length<8796093022208 by omega) (Ev.now _)))))),k1,by show P.length≤61;omega,by show(L++[(⟨#[120]⟩:ByteArray)]).length≤41;rw[uS,aak];omega,Lz k4 _ (by decide),by show 0≤p1;omega,by show p1≤1000100;omega⟩
 by_cases c2:v=2
 ·obtain⟨s,p2,q2,e2,_,a2,b2⟩:=XH l hl p1 q1 8 (by omega) (by omega) (by omega) (by omega)
  exact⟨(S,P++[⟨0,s⟩],L,n,p2,q2),Ev.step (fun k=>by rw[dp.l0]) (Ev.neg h6 (Ev.eB _ e1 (Ev.neg c0 (Ev.neg c1 (Ev.pos c2 (Ev.bind' _ e2 (Ev.pos (show P.length<5864062014805 by omega) (Ev.now _)))))))),k1,by show(P++[(⟨0,s⟩:Wr)]).length≤61;rw[uS,aak];omega,by show L.length≤41;omega,k4,by show 0≤p2;omega,by show p2≤1000100;omega⟩
 ·exact⟨(S,P,L,n,p1,q1),Ev.step (fun k=>by rw[dp.l0]) (Ev.neg h6 (Ev.eB _ e1 (Ev.neg c0 (Ev.neg c1 (Ev.neg c2 (Ev.now _)))))),k1,by show P.length≤61;omega,by show L.length≤41;omega,k4,by show 0≤p1;omega,by show p1≤1000100;omega⟩
theorem O8(l:List Int)(hl:qO l)(x3:Int)(h3:x3≤100):∀ (d:Nat) (x6 p q:Int) (S:List ByteArray) (P:List Wr) (L:List ByteArray) (n:Int),x6.toNat=d→x6≤1000→Bd S P L→0≤p→p+200*(d:Int)≤1000000→
 ∃r:TS,Ev (fun k=>dp.l0 k x3 x6 l p q S P L n) r∧r.1.length≤100∧r.2.1.length≤61∧r.2.2.1.length≤41∧jY r.2.2.1∧0≤r.2.2.2.2.1∧r.2.2.2.2.1≤1000100
 |0,x6,p,q,S,P,L,n,hd,_,h,h0,h1=>ts_end l hl x3 x6 (by omega) p q S P L n h h0 (by omega)
 |d+1,x6,p,q,S,P,L,n,hd,hx,h,h0,h1=>by
  obtain⟨v,p1,q1,e1,a1,b1,_⟩:=ta l hl p q 6 h0 (by omega) (by omega);have hw:wrap64 (x6-1)=x6-1:=eD (by omega) (by omega);have k:=h;obtain⟨k1,k2,k3,k4⟩:=k
  have go:∀ (r:List ByteArray×List Wr×List ByteArray×Int×Bool) (p' q':Int),(r.2.2.2.2=true→Bd r.1 r.2.1 r.2.2.1)→p≤p'→p'≤p+150→
   ∃t:TS,Ev (fun k=>if r.2.2.2.2=true then(dp.l0 k x3 (wrap64 (x6-1)) l p' q' r.1 r.2.1 r.2.2.1 r.2.2.2.1)else(dp.l0 k x3 (wrap64 (x6-1)) l p' q' S P L n)) t∧t.1.length≤100∧t.2.1.length≤61∧t.2.2.1.length≤41∧jY t.2.2.1∧0≤t.2.2.2.2.1∧t.2.2.2.2.1≤1000100:=fun r p' q' hr ha hb=>by
   rw[hw]
   by_cases c:r.2.2.2.2=true
   ·obtain⟨t,e,ht⟩:=O8 l hl x3 h3 d (x6-1) p' q' r.1 r.2.1 r.2.2.1 r.2.2.2.1 (by omega) (by omega) (hr c) (by omega) (by omega)
    exact⟨t,Ev.pos c e,ht⟩
   ·obtain⟨t,e,ht⟩:=O8 l hl x3 h3 d (x6-1) p' q' S P L n (by omega) (by omega) h (by omega) (by omega)
    exact⟨t,Ev.neg c e,ht⟩
  by_cases c0:v=0
  ·obtain⟨t,e,ht⟩:=go (rY S P L n) p1 q1 (sync_bd h) (by omega) (by omega)
   exact⟨t,Ev.step (fun k=>by rw[dp.l0]) (Ev.pos (by omega) (Ev.eB _ e1 (Ev.pos c0 (Ev.bind' _ (sync_s S P L n (by omega) (by omega) (by omega) k4) e)))),ht⟩
  by_cases c1:v=1
  ·obtain⟨t,e,ht⟩:=go (rZ S P L n) p1 q1 (back_bd h) (by omega) (by omega)
   exact⟨t,Ev.step (fun k=>by rw[dp.l0]) (Ev.pos (by omega) (Ev.eB _ e1 (Ev.neg c0 (Ev.pos c1 (Ev.bind' _ (back_s S P L n (by omega) (by omega) (by omega) k4) e))))),ht⟩
  by_cases c2:v=2
  ·obtain⟨t,e,ht⟩:=go (rk S P L n) p1 q1 (chk_bd h) (by omega) (by omega)
   exact⟨t,Ev.step (fun k=>by rw[dp.l0]) (Ev.pos (by omega) (Ev.eB _ e1 (Ev.neg c0 (Ev.neg c1 (Ev.pos c2 (Ev.bind' _ (chk_s S P L n (by omega) (by omega) (by omega) k4) e)))))),ht⟩
  ·obtain⟨ws,p2,q2,e2,hws,a2,b2⟩:=OM l hl p1 q1 x3 (by omega) (by omega) (by omega)
   obtain⟨t,e,ht⟩:=go (kb S P L n ws) p2 q2 (commit_bd h) (by omega) (by omega);exact⟨t,Ev.step (fun k=>by rw[dp.l0]) (Ev.pos (by omega) (Ev.eB _ e1 (Ev.neg c0 (Ev.neg c1 (Ev.neg c2 (Ev.bind' _ e2 (Ev.bind' _ (commit_s S P L n ws (by omega) (by omega) (by omega) (by omega) k4) e))))))),ht⟩
theorem txnStore_ok(l:List Int)(hl:qO l):
 ∃r:TS,Ev (fun k=>dp.f k l 0 0) r∧r.1.length≤100∧r.2.1.length≤61∧r.2.2.1.length≤41∧jY r.2.2.1∧0≤r.2.2.2.2.1∧r.2.2.2.2.1≤1000100:=by
 obtain⟨v,p1,q1,e1,a1,b1,c1,d1,_⟩:=ta l hl 0 0 5 (by omega) (by omega) (by omega);obtain⟨u,p2,q2,e2,a2,b2,c2,d2,_⟩:=ta l hl p1 q1 12 (by omega) (by omega) (by omega);have d1':=d1 (by omega);have d2':=d2 (by omega);have hw:wrap64 (1+v)=1+v:=eD (by omega) (by omega);obtain⟨t,e,ht⟩:=O8 l hl (1+v) (by omega) u.toNat u p2 q2 (List.replicate (1+v).toNat CO) [] [] 0 rfl (by omega) ⟨by rw[List.length_replicate];omega,Nat.zero_le _,Nat.zero_le _,fun i hi=>absurd hi (Nat.not_lt_zero _)⟩ (by omega) (by omega);refine⟨t, ?_,ht⟩;unfold dp.f;refine Ev.eB _ e1 ?_;simp only[hw];exact Ev.bind' _ (newStore_s (1+v) (by omega)) (Ev.eB _ e2 e)
end Go.Proofs.Ytmbjmacpigojjaa.Q
