-- Printed by a program of this session (drive.py, by way of the kit's print). Not trusted: Lean checks it.
import Derived.Test.YtahnkgehlfdlkaaG0
import Derived.Test.YtahnkgehlfdlkaaG1
import Derived.Test.YtahnkgehlfdlkaaG6
open Bool renaming eq_false_iff→Q3
open Eq renaming trans→aa4
open Go.Proofs.Try renaming prog→sX,underlying28→aab,underlying25→aah,underlying38→aap,underlying23→aau,underlying40→aaR,func25→abo
open Go.RowKit renaming wrap64→Ee
open Go.RowKit.Below renaming refl→gR
open Go.World renaming drewN_drewN→aaa,drewN→aaC
open Int renaming reduceToNat→aaU
open List renaming length_take→aN,length_drop→fM,map_toArray→ib,map_cons→aac,map_nil→aai,replicate→aa1
open Nat renaming le_refl→eH,le_of_eq→aaq,add_assoc→aaB,add_zero→aaE,mul_one→aaI
open Option renaming bind_eq_some_iff→Hc,bind_some→N6
open Option.some renaming inj→Ok,injEq→SY
open Prod.mk renaming injEq→cM
namespace Go.Proofs.Ytahnkgehlfdlkaa.G
open Go.RowKit Go.Proofs.YtahnkgehlfdlkaaW.PrintWords Go.Proofs.YtahnkgehlfdlkaaW.PrintLast Go.Proofs.YtahnkgehlfdlkaaW.PrintMore
attribute [local go_sem] xN xO xT xU xA xB xP xQ
set_option maxHeartbeats 8000000
set_option maxRecDepth 100000
set_option linter.unusedVariables false
set_option linter.unusedSimpArgs false
attribute [local go_sem high] QZ
def wx.f(aA:Int)(dI:Int)(av:Int)(bB:Int):Option (Bool):=if aA<(Ee (av+bB))then(some (decide (av<(Ee (aA+dI)))))else(some false)
theorem wx.calls(aA:Int)(dI:Int)(av:Int)(bB:Int)(r:Bool)(w:World)(h:wx.f aA dI av bB=some r):
 Calls sX 31 #[.agg #[.int .i64 aA,.int .i64 dI],.agg #[.int .i64 av,.int .i64 bB]] w fun e w'=>e= .returned (.bool r)∧Below w.heap.size w w':=by
 have lM:=aap;have HB:=Ah (gR w.heap.size w);have H:(if aA<(Ee (av+bB))then(some (decide (av<(Ee (aA+dI)))))else(some false))=some r:=h;clear h
 by_cases c3:aA<(Ee (av+bB))
 ·
  rw[if_pos c3]at H;have iZ:=bS c3;clear c3;obtain rfl:=Ok H
  go_enter Try.func31,Try.ntmps31
  go_wp2_with (first|((with_reducible refine am (N:=2) rfl ?_);refine ar 2 38 #[.int .i64 aA,.int .i64 dI] ?_;intro gb607 hg w4 tE hb;have GW607:=gw hg (bs HB);have zf:=gw hg (bs HB);replace HB:=Ah (aK (bs HB) hb);clear hb hg)|((with_reducible refine am (N:=3) rfl ?_);refine ar 3 38 #[.int .i64 av,.int .i64 bB] ?_;intro gb608 hg w5 LI hb;have GW608:=gw hg (aQ HB zf);have XT:=gw hg (aQ HB zf);replace HB:=Ah (aK (aQ HB zf) hb);have TN:=nn tE hg;have TO:=nm tE hg;replace tE:=nb tE hb;clear hb hg;have Xs:=TN.out;have Xt:=TO.out;obtain⟨pD,pE⟩:=da tE;obtain⟨pF,pG⟩:=db tE;obtain⟨sv,sw⟩:=da LI;obtain⟨u7,sx⟩:=db LI))
  go_ret
  exact⟨er,aa HB zf XT⟩
 rw[if_neg c3]at H;have iZ:=f7 c3;clear c3;obtain rfl:=Ok H
 go_enter Try.func31,Try.ntmps31
 go_wp2_with (first|((with_reducible refine am (N:=2) rfl ?_);refine ar 2 38 #[.int .i64 aA,.int .i64 dI] ?_;intro gb607 hg w9 tE hb;have GW607:=gw hg (bs HB);have zf:=gw hg (bs HB);replace HB:=Ah (aK (bs HB) hb);clear hb hg)|((with_reducible refine am (N:=3) rfl ?_);refine ar 3 38 #[.int .i64 av,.int .i64 bB] ?_;intro gb608 hg oq LI hb;have GW608:=gw hg (aQ HB zf);have XT:=gw hg (aQ HB zf);replace HB:=Ah (aK (aQ HB zf) hb);have TN:=nn tE hg;have TO:=nm tE hg;replace tE:=nb tE hb;clear hb hg;have Qa:=TN.out;have Qb:=TO.out;obtain⟨Ac,Ad⟩:=da tE;obtain⟨Ae,Af⟩:=db tE;obtain⟨pX,pY⟩:=da LI;obtain⟨pZ,pa⟩:=db LI))
 go_ret
 exact⟨er,aa HB zf XT⟩
def Cd.f(aA:Int)(dI:Int)(CB:Int)(bl:Int)(S6:Int)(av:Int)(bB:Int)(eM:Int)(eN:Int)(fQ:Int):Option (Bool):=(wx.f eM eN CB bl).bind fun wV=>(some wV)
theorem Cd.calls(aA:Int)(dI:Int)(CB:Int)(bl:Int)(S6:Int)(co:Nat)(av:Int)(bB:Int)(eM:Int)(eN:Int)(fQ:Int)(r:Bool)(w:World)(lv:w.heap[co]?=some (.cells #[.int .i64 av,.int .i64 bB,.int .i64 eM,.int .i64 eN,.int .i64 fQ] 40 (0,0)))(h:Cd.f aA dI CB bl S6 av bB eM eN fQ=some r):
 Calls sX 30 #[.agg #[.int .i64 aA,.int .i64 dI,.int .i64 CB,.int .i64 bl,.int .i64 S6],.pointer (some ⟨co,0,none⟩)] w fun e w'=>e= .returned (.bool r)∧Below w.heap.size w w':=by
 have vt:=aaR;have lM:=aap;have bU:=Ah lv;clear lv;have HB:=Ah (gR w.heap.size w);have H:((wx.f eM eN CB bl).bind fun wV=>(some wV))=some r:=h;clear h;replace H:=Hc.mp H;obtain⟨wV,dz,H⟩:=H
 try dsimp only at H
 have A3:=Ah dz;clear dz;obtain rfl:=Ok H
 go_enter Try.func30,Try.ntmps30
 go_wp2_with (first|((with_reducible refine am (N:=2) rfl ?_);refine ar 2 40 #[.int .i64 aA,.int .i64 dI,.int .i64 CB,.int .i64 bl,.int .i64 S6] ?_;intro LJ hg w4 zg hb;have GW610:=gw hg (bs HB);have LK:=gw hg (bs HB);replace HB:=Ah (aK (bs HB) hb);have TP:=Ah ((by rw[hg];exact Nat.ne_of_lt (gr (g:=co) (o:= .cells #[.int .i64 av,.int .i64 bB,.int .i64 eM,.int .i64 eN,.int .i64 fQ] 40 (0,0)) (bk bU)):co≠LJ));have TQ:=Ah ((by rw[hg];exact Nat.ne_of_gt (gr (g:=co) (o:= .cells #[.int .i64 av,.int .i64 bB,.int .i64 eM,.int .i64 eN,.int .i64 fQ] 40 (0,0)) (bk bU)):LJ≠co));replace bU:=Ah (bJ (g:=co) (o:= .cells #[.int .i64 av,.int .i64 bB,.int .i64 eM,.int .i64 eN,.int .i64 fQ] 40 (0,0)) (bk bU) hb);clear hb hg;have hnb5:=TP.out;have hnc5:=TQ.out;have B4:w4.cell? ⟨co,0,none⟩=some (.int .i64 av):=(aI bU.out 0).trans rfl;have B5:w4.cell? ⟨co,1,none⟩=some (.int .i64 bB):=(aI bU.out 1).trans rfl;have G4:w4.cell? ⟨co,2,none⟩=some (.int .i64 eM):=(aI bU.out 2).trans rfl;have hcz6_3:w4.cell? ⟨co,3,none⟩=some (.int .i64 eN):=(aI bU.out 3).trans rfl;have hcz6_4:w4.cell? ⟨co,4,none⟩=some (.int .i64 fQ):=(aI bU.out 4).trans rfl;obtain⟨D7,B7,G5,hfz6_3,hfz6_4⟩:=af bU;obtain⟨pD,pE,uA,QH,QI⟩:=ah zg;obtain⟨pF,pG,uB,QJ,QK⟩:=af zg)|((with_reducible refine bN (f:=31) rfl ?_);refine gL (some 8) rfl rfl Try.func31 (by kernel_rfl) rfl #[.agg #[.int .i64 eM,.int .i64 eN],.agg #[.int .i64 CB,.int .i64 bl]] rfl ?_;(with_reducible refine(wx.calls eM eN CB bl wV _ A3.out).mono ?_);rintro e w8 ⟨rfl,hb⟩;refine⟨_,rfl, ?_⟩;replace bU:=Ah (bJ (g:=co) (o:= .cells #[.int .i64 av,.int .i64 bB,.int .i64 eM,.int .i64 eN,.int .i64 fQ] 40 (0,0)) (bk bU) hb);replace zg:=nb zg hb;replace HB:=Ah (aK (aQ HB LK) hb);(try clear hb)))
 go_ret
 exact⟨er,aQ HB LK⟩
def kd.l0:Nat→List (aV)→Int→Int→Int→Int→Int→Int→Int→Option (Int)
 |0,_,_,_,_,_,_,_,_=>none
 |k+1,x0,x7,x8,JE,JF,JG,JH,JI=>if x8<x7 then(if 0≤x8 then(if x8<(x0.length:Int)then((Cd.f ((J x0 x8).f0) ((J x0 x8).f1) ((J x0 x8).f2.f0) ((J x0 x8).f2.f1) ((J x0 x8).f3) JE JF JG JH JI).bind fun ER=>(if ER=true then(some x8)else(kd.l0 k x0 x7 (Ee (x8+1)) JE JF JG JH JI)))else(none))else(none))else(some (-1))
def kd.f(k:Nat)(l0:List (aV))(av:Int)(bB:Int)(eM:Int)(eN:Int)(fQ:Int):Option (Int):=kd.l0 k l0 (l0.length:Int) 0 av bB eM eN fQ
theorem kd.dh:∀k,(∀y0 y1 y2 y3 y4 y5 y6 y7,aG (kd.l0 k y0 y1 y2 y3 y4 y5 y6 y7) (kd.l0 (k+1) y0 y1 y2 y3 y4 y5 y6 y7))
 |0=>fun _ _ _ _ _ _ _ _ r h=>by simp[kd.l0]at h
 |k+1=>by
  have bz:=kd.dh k
  ·
   intro y0 y1 y2 y3 y4 y5 y6 y7;unfold kd.l0
   repeat' with_reducible first|exact bz _ _ _ _ _ _ _ _|exact aG.refl _|exact aG.none _|refine aG.ite ?_ ?_|refine aG.bind ?_ (fun _=> ?_)
theorem kd.mono:∀a0 a1 a2 a3 a4 a5 k,aG (kd.f k a0 a1 a2 a3 a4 a5) (kd.f (k+1) a0 a1 a2 a3 a4 a5):=by
 intro a0 a1 a2 a3 a4 a5 k;have bz:=kd.dh k;unfold kd.f
 repeat' with_reducible first|exact bz _ _ _ _ _ _ _ _|exact aG.refl _|exact aG.none _|refine aG.ite ?_ ?_|refine aG.bind ?_ (fun _=> ?_)
theorem kd.calls(k:Nat)(A0:Option Addr)(c0:Nat)(l0:List (aV))(co:Nat)(av:Int)(bB:Int)(eM:Int)(eN:Int)(fQ:Int)(r:Int)(w:World)(hr0:Kd.C cV w A0 l0.length l0)(hc0:l0.length≤c0)(lv:w.heap[co]?=some (.cells #[.int .i64 av,.int .i64 bB,.int .i64 eM,.int .i64 eN,.int .i64 fQ] 40 (0,0)))(h:kd.f k l0 av bB eM eN fQ=some r):
 Calls sX 52 #[.slice A0 l0.length c0,.func (.func 30) #[] #[.pointer (some ⟨co,0,none⟩)]] w fun e w'=>e= .returned (.int .i64 r)∧Below w.heap.size w w':=by
 have vt:=aaR;have fg:=Ah hr0;have rU:=Ah hc0;clear hr0 hc0;have oR:=Ah lv;clear lv;have HB:=Ah (gR w.heap.size w);have H:(kd.l0 k l0 (l0.length:Int) 0 av bB eM eN fQ)=some r:=h;clear h;have H':=Ah H;clear H
 go_enter Try.func52,Try.ntmps52
 go_wp2
 go_loopg [8] k (fun kq v8 w'=>∃ (dx:Int),v8= .int .i64 dx∧Y (kd.l0 kq l0 (l0.length:Int) dx av bB eM eN fQ=some r)∧Y (kq≤k)∧Y (w'.heap[co]?=some (.cells #[.int .i64 av,.int .i64 bB,.int .i64 eM,.int .i64 eN,.int .i64 fQ] 40 (0,0)))∧Y (Below w.heap.size w w'))
 case atStart=>exact⟨(0),e3,H',⟨eH _⟩,⟨bk oR⟩,⟨bs HB⟩⟩
 case round=>
  clear H'
  try clear hx1
  try clear p2
  try clear lv
  obtain⟨dx,rfl,HA,dC,oR,HB⟩:=hrel
  cases gk with
  |zero=>exact absurd HA.out (by simp[kd.l0])
  |succ k1=>
   have H:=HA.out;clear HA;simp only[kd.l0]at H
   by_cases c3:dx<(l0.length:Int)
   rotate_left
   ·
    rw[if_neg c3]at H;have iZ:=f7 c3;clear c3;obtain rfl:=Ok H
    go_wp2
    go_ret
    exact⟨er,bs HB⟩
   rw[if_pos c3]at H;have iZ:=bS c3;clear c3
   by_cases c4:0≤dx
   rotate_left
   ·
    rw[if_neg c4]at H;exact absurd H (by simp)
   rw[if_pos c4]at H;have ky:=bS c4;clear c4
   by_cases c5:dx<(l0.length:Int)
   rotate_left
   ·
    rw[if_neg c5]at H;exact absurd H (by simp)
   rw[if_pos c5]at H;have o9:=bS c5;clear c5;replace H:=Hc.mp H;obtain⟨ER,sW,H⟩:=H
   try dsimp only at H
   have A6:=Ah sW;clear sW
   by_cases c7:ER=true
   ·
    subst c7;rw[if_pos rfl]at H;obtain rfl:=Ok H;have rO:0≤(dx:Int):=od;have rP:dx<(l0.length:Int):=od;obtain⟨XU,ES,vH,vI,JJ,JK,JL⟩:=jQ fg.out dx rO rP
    cases ES
    replace vH:=hq HB vH;replace vI:=hq HB vI;replace JJ:=hq HB JJ;replace JK:=hq HB JK;replace JL:=hq HB JL;replace rO:=eq_true rO;replace rP:=eq_true rP
    go_wp2_with (first|((with_reducible refine Ny (t:=11) rfl ?_);refine QG (some 16) rfl rfl Try.func30 (by kernel_rfl) rfl #[.agg #[.int .i64 ((J l0 dx).f0),.int .i64 ((J l0 dx).f1),.int .i64 ((J l0 dx).f2.f0),.int .i64 ((J l0 dx).f2.f1),.int .i64 ((J l0 dx).f3)],.pointer (some ⟨co,0,none⟩)] rfl rfl (by(try simp only[ib,aac,aai]);first|done|rfl|(simp only[fM,aN];rfl)) ?_;(with_reducible refine(Cd.calls ((J l0 dx).f0) ((J l0 dx).f1) ((J l0 dx).f2.f0) ((J l0 dx).f2.f1) ((J l0 dx).f3) co av bB eM eN fQ true _ ?aJ A6.out).mono ?_);(case aJ=>exact bk oR);rintro e w8 ⟨rfl,hb⟩;refine⟨_,rfl, ?_⟩;replace oR:=Ah (bJ (g:=co) (o:= .cells #[.int .i64 av,.int .i64 bB,.int .i64 eM,.int .i64 eN,.int .i64 fQ] 40 (0,0)) (bk oR) hb);replace HB:=Ah (aK (bs HB) hb);(try clear hb)))
    go_ret
    exact⟨er,bs HB⟩
   replace c7:=Q3.mpr c7;subst c7;rw[if_neg dc]at H;have H':=Ah H;clear H;have rO:0≤(dx:Int):=od;have rP:dx<(l0.length:Int):=od;obtain⟨XU,ES,vH,vI,JJ,JK,JL⟩:=jQ fg.out dx rO rP
   cases ES
   replace vH:=hq HB vH;replace vI:=hq HB vI;replace JJ:=hq HB JJ;replace JK:=hq HB JK;replace JL:=hq HB JL;replace rO:=eq_true rO;replace rP:=eq_true rP
   go_wp2_with (first|((with_reducible refine Ny (t:=11) rfl ?_);refine QG (some 16) rfl rfl Try.func30 (by kernel_rfl) rfl #[.agg #[.int .i64 ((J l0 dx).f0),.int .i64 ((J l0 dx).f1),.int .i64 ((J l0 dx).f2.f0),.int .i64 ((J l0 dx).f2.f1),.int .i64 ((J l0 dx).f3)],.pointer (some ⟨co,0,none⟩)] rfl rfl (by(try simp only[ib,aac,aai]);first|done|rfl|(simp only[fM,aN];rfl)) ?_;(with_reducible refine(Cd.calls ((J l0 dx).f0) ((J l0 dx).f1) ((J l0 dx).f2.f0) ((J l0 dx).f2.f1) ((J l0 dx).f3) co av bB eM eN fQ false _ ?aJ A6.out).mono ?_);(case aJ=>exact bk oR);rintro e w9 ⟨rfl,hb⟩;refine⟨_,rfl, ?_⟩;replace oR:=Ah (bJ (g:=co) (o:= .cells #[.int .i64 av,.int .i64 bB,.int .i64 eM,.int .i64 eN,.int .i64 fQ] 40 (0,0)) (bk oR) hb);replace HB:=Ah (aK (bs HB) hb);(try clear hb)))
   go_roundg k1
   case measure=>have:=dC.out;omega
   case rel=>exact⟨(Ee (dx+1)),e3,H',⟨by have:=dC.out;omega⟩,⟨bk oR⟩,⟨bs HB⟩⟩
def qb.f(k:Nat)(l0:List (aV))(av:Int)(bB:Int)(eM:Int)(eN:Int)(fQ:Int):Option (Bool):=(kd.f k l0 av bB eM eN fQ).bind fun rQ=>(some (decide (rQ≥0)))
theorem qb.mono:∀a0 a1 a2 a3 a4 a5 k,aG (qb.f k a0 a1 a2 a3 a4 a5) (qb.f (k+1) a0 a1 a2 a3 a4 a5):=by
 intro a0 a1 a2 a3 a4 a5 k;unfold qb.f
 repeat' with_reducible first|exact kd.mono _ _ _ _ _ _ _|exact aG.refl _|exact aG.none _|refine aG.ite ?_ ?_|refine aG.bind ?_ (fun _=> ?_)
theorem qb.calls(k:Nat)(A0:Option Addr)(c0:Nat)(l0:List (aV))(co:Nat)(av:Int)(bB:Int)(eM:Int)(eN:Int)(fQ:Int)(r:Bool)(w:World)(hr0:Kd.C cV w A0 l0.length l0)(hc0:l0.length≤c0)(lv:w.heap[co]?=some (.cells #[.int .i64 av,.int .i64 bB,.int .i64 eM,.int .i64 eN,.int .i64 fQ] 40 (0,0)))(h:qb.f k l0 av bB eM eN fQ=some r):
 Calls sX 34 #[.slice A0 l0.length c0,.func (.func 30) #[] #[.pointer (some ⟨co,0,none⟩)]] w fun e w'=>e= .returned (.bool r)∧Below w.heap.size w w':=by
 have fg:=Ah hr0;have rU:=Ah hc0;clear hr0 hc0;have bX:=Ah lv;clear lv;have HB:=Ah (gR w.heap.size w);have H:((kd.f k l0 av bB eM eN fQ).bind fun rQ=>(some (decide (rQ≥0))))=some r:=h;clear h;replace H:=Hc.mp H;obtain⟨rQ,dz,H⟩:=H
 try dsimp only at H
 have A3:=Ah dz;clear dz;obtain rfl:=Ok H
 go_enter Try.func34,Try.ntmps34
 go_wp2_with (first|((with_reducible refine bN (f:=52) rfl ?_);refine gL (some 7) rfl rfl Try.func52 (by kernel_rfl) rfl #[.slice A0 l0.length c0,.func (.func 30) #[] #[.pointer (some ⟨co,0,none⟩)]] rfl ?_;(with_reducible refine(kd.calls k _ _ l0 co av bB eM eN fQ rQ _ ?aJ ?aM ?ac A3.out).mono ?_);(case aJ=>repeat(first|exact fg.out|(with_reducible refine Kd.qB ?_ _)|(with_reducible refine Kd.qC ?_ _)|(with_reducible refine Kd.qE ?_)));(case aM=>exact rU.out);(case ac=>exact bk bX);rintro e w4 ⟨rfl,hb⟩;refine⟨_,rfl, ?_⟩;replace bX:=Ah (bJ (g:=co) (o:= .cells #[.int .i64 av,.int .i64 bB,.int .i64 eM,.int .i64 eN,.int .i64 fQ] 40 (0,0)) (bk bX) hb);replace HB:=Ah (aK (bs HB) hb);(try clear hb)))
 go_ret
 exact⟨er,bs HB⟩
def Ce.f(aA:Int)(dI:Int)(av:Int)(bB:Int)(eM:Int)(eN:Int)(fQ:Int):Option (Bool):=(wx.f eM eN aA dI).bind fun wV=>(some wV)
theorem Ce.calls(aA:Int)(dI:Int)(co:Nat)(av:Int)(bB:Int)(eM:Int)(eN:Int)(fQ:Int)(r:Bool)(w:World)(lv:w.heap[co]?=some (.cells #[.int .i64 av,.int .i64 bB,.int .i64 eM,.int .i64 eN,.int .i64 fQ] 40 (0,0)))(h:Ce.f aA dI av bB eM eN fQ=some r):
 Calls sX 32 #[.agg #[.int .i64 aA,.int .i64 dI],.pointer (some ⟨co,0,none⟩)] w fun e w'=>e= .returned (.bool r)∧Below w.heap.size w w':=by
 have lM:=aap;have bU:=Ah lv;clear lv;have HB:=Ah (gR w.heap.size w);have H:((wx.f eM eN aA dI).bind fun wV=>(some wV))=some r:=h;clear h;replace H:=Hc.mp H;obtain⟨wV,dz,H⟩:=H
 try dsimp only at H
 have A3:=Ah dz;clear dz;obtain rfl:=Ok H
 go_enter Try.func32,Try.ntmps32
 go_wp2_with (first|((with_reducible refine am (N:=2) rfl ?_);refine ar 2 38 #[.int .i64 aA,.int .i64 dI] ?_;intro LJ hg w4 zg hb;have GW610:=gw hg (bs HB);have LK:=gw hg (bs HB);replace HB:=Ah (aK (bs HB) hb);have TP:=Ah ((by rw[hg];exact Nat.ne_of_lt (gr (g:=co) (o:= .cells #[.int .i64 av,.int .i64 bB,.int .i64 eM,.int .i64 eN,.int .i64 fQ] 40 (0,0)) (bk bU)):co≠LJ));have TQ:=Ah ((by rw[hg];exact Nat.ne_of_gt (gr (g:=co) (o:= .cells #[.int .i64 av,.int .i64 bB,.int .i64 eM,.int .i64 eN,.int .i64 fQ] 40 (0,0)) (bk bU)):LJ≠co));replace bU:=Ah (bJ (g:=co) (o:= .cells #[.int .i64 av,.int .i64 bB,.int .i64 eM,.int .i64 eN,.int .i64 fQ] 40 (0,0)) (bk bU) hb);clear hb hg;have hnb5:=TP.out;have hnc5:=TQ.out;have B4:w4.cell? ⟨co,0,none⟩=some (.int .i64 av):=(aI bU.out 0).trans rfl;have B5:w4.cell? ⟨co,1,none⟩=some (.int .i64 bB):=(aI bU.out 1).trans rfl;have G4:w4.cell? ⟨co,2,none⟩=some (.int .i64 eM):=(aI bU.out 2).trans rfl;have hcz6_3:w4.cell? ⟨co,3,none⟩=some (.int .i64 eN):=(aI bU.out 3).trans rfl;have hcz6_4:w4.cell? ⟨co,4,none⟩=some (.int .i64 fQ):=(aI bU.out 4).trans rfl;obtain⟨D7,B7,G5,hfz6_3,hfz6_4⟩:=af bU;obtain⟨pD,pE⟩:=da zg;obtain⟨pF,pG⟩:=db zg)|((with_reducible refine bN (f:=31) rfl ?_);refine gL (some 7) rfl rfl Try.func31 (by kernel_rfl) rfl #[.agg #[.int .i64 eM,.int .i64 eN],.agg #[.int .i64 aA,.int .i64 dI]] rfl ?_;(with_reducible refine(wx.calls eM eN aA dI wV _ A3.out).mono ?_);rintro e w8 ⟨rfl,hb⟩;refine⟨_,rfl, ?_⟩;replace bU:=Ah (bJ (g:=co) (o:= .cells #[.int .i64 av,.int .i64 bB,.int .i64 eM,.int .i64 eN,.int .i64 fQ] 40 (0,0)) (bk bU) hb);replace zg:=nb zg hb;replace HB:=Ah (aK (aQ HB LK) hb);(try clear hb)))
 go_ret
 exact⟨er,aQ HB LK⟩
def kc.l0:Nat→List (X)→Int→Int→Int→Int→Int→Int→Int→Option (Int)
 |0,_,_,_,_,_,_,_,_=>none
 |k+1,x0,x7,x8,JE,JF,JG,JH,JI=>if x8<x7 then(if 0≤x8 then(if x8<(x0.length:Int)then((Ce.f ((aC x0 x8).f0) ((aC x0 x8).f1) JE JF JG JH JI).bind fun ER=>(if ER=true then(some x8)else(kc.l0 k x0 x7 (Ee (x8+1)) JE JF JG JH JI)))else(none))else(none))else(some (-1))
def kc.f(k:Nat)(l0:List (X))(av:Int)(bB:Int)(eM:Int)(eN:Int)(fQ:Int):Option (Int):=kc.l0 k l0 (l0.length:Int) 0 av bB eM eN fQ
theorem kc.dh:∀k,(∀y0 y1 y2 y3 y4 y5 y6 y7,aG (kc.l0 k y0 y1 y2 y3 y4 y5 y6 y7) (kc.l0 (k+1) y0 y1 y2 y3 y4 y5 y6 y7))
 |0=>fun _ _ _ _ _ _ _ _ r h=>by simp[kc.l0]at h
 |k+1=>by
  have bz:=kc.dh k
  ·
   intro y0 y1 y2 y3 y4 y5 y6 y7;unfold kc.l0
   repeat' with_reducible first|exact bz _ _ _ _ _ _ _ _|exact aG.refl _|exact aG.none _|refine aG.ite ?_ ?_|refine aG.bind ?_ (fun _=> ?_)
theorem kc.mono:∀a0 a1 a2 a3 a4 a5 k,aG (kc.f k a0 a1 a2 a3 a4 a5) (kc.f (k+1) a0 a1 a2 a3 a4 a5):=by
 intro a0 a1 a2 a3 a4 a5 k;have bz:=kc.dh k;unfold kc.f
 repeat' with_reducible first|exact bz _ _ _ _ _ _ _ _|exact aG.refl _|exact aG.none _|refine aG.ite ?_ ?_|refine aG.bind ?_ (fun _=> ?_)
theorem kc.calls(k:Nat)(A0:Option Addr)(c0:Nat)(l0:List (X))(co:Nat)(av:Int)(bB:Int)(eM:Int)(eN:Int)(fQ:Int)(r:Int)(w:World)(hr0:Kd.C ag w A0 l0.length l0)(hc0:l0.length≤c0)(lv:w.heap[co]?=some (.cells #[.int .i64 av,.int .i64 bB,.int .i64 eM,.int .i64 eN,.int .i64 fQ] 40 (0,0)))(h:kc.f k l0 av bB eM eN fQ=some r):
 Calls sX 53 #[.slice A0 l0.length c0,.func (.func 32) #[] #[.pointer (some ⟨co,0,none⟩)]] w fun e w'=>e= .returned (.int .i64 r)∧Below w.heap.size w w':=by
 have lM:=aap;have fg:=Ah hr0;have rU:=Ah hc0;clear hr0 hc0;have oR:=Ah lv;clear lv;have HB:=Ah (gR w.heap.size w);have H:(kc.l0 k l0 (l0.length:Int) 0 av bB eM eN fQ)=some r:=h;clear h;have H':=Ah H;clear H
 go_enter Try.func53,Try.ntmps53
 go_wp2
 go_loopg [8] k (fun kq v8 w'=>∃ (dx:Int),v8= .int .i64 dx∧Y (kc.l0 kq l0 (l0.length:Int) dx av bB eM eN fQ=some r)∧Y (kq≤k)∧Y (w'.heap[co]?=some (.cells #[.int .i64 av,.int .i64 bB,.int .i64 eM,.int .i64 eN,.int .i64 fQ] 40 (0,0)))∧Y (Below w.heap.size w w'))
 case atStart=>exact⟨(0),e3,H',⟨eH _⟩,⟨bk oR⟩,⟨bs HB⟩⟩
 case round=>
  clear H'
  try clear hx1
  try clear p2
  try clear lv
  obtain⟨dx,rfl,HA,dC,oR,HB⟩:=hrel
  cases gk with
  |zero=>exact absurd HA.out (by simp[kc.l0])
  |succ k1=>
   have H:=HA.out;clear HA;simp only[kc.l0]at H
   by_cases c3:dx<(l0.length:Int)
   rotate_left
   ·
    rw[if_neg c3]at H;have iZ:=f7 c3;clear c3;obtain rfl:=Ok H
    go_wp2
    go_ret
    exact⟨er,bs HB⟩
   rw[if_pos c3]at H;have iZ:=bS c3;clear c3
   by_cases c4:0≤dx
   rotate_left
   ·
    rw[if_neg c4]at H;exact absurd H (by simp)
   rw[if_pos c4]at H;have ky:=bS c4;clear c4
   by_cases c5:dx<(l0.length:Int)
   rotate_left
   ·
    rw[if_neg c5]at H;exact absurd H (by simp)
   rw[if_pos c5]at H;have o9:=bS c5;clear c5;replace H:=Hc.mp H;obtain⟨ER,sW,H⟩:=H
   try dsimp only at H
   have A6:=Ah sW;clear sW
   by_cases c7:ER=true
   ·
    subst c7;rw[if_pos rfl]at H;obtain rfl:=Ok H;have rO:0≤(dx:Int):=od;have rP:dx<(l0.length:Int):=od;obtain⟨XU,ES,vH,vI⟩:=eA fg.out dx rO rP
    cases ES
    replace vH:=hq HB vH;replace vI:=hq HB vI;replace rO:=eq_true rO;replace rP:=eq_true rP
    go_wp2_with (first|((with_reducible refine Ny (t:=11) rfl ?_);refine QG (some 16) rfl rfl Try.func32 (by kernel_rfl) rfl #[.agg #[.int .i64 ((aC l0 dx).f0),.int .i64 ((aC l0 dx).f1)],.pointer (some ⟨co,0,none⟩)] rfl rfl (by(try simp only[ib,aac,aai]);first|done|rfl|(simp only[fM,aN];rfl)) ?_;(with_reducible refine(Ce.calls ((aC l0 dx).f0) ((aC l0 dx).f1) co av bB eM eN fQ true _ ?aJ A6.out).mono ?_);(case aJ=>exact bk oR);rintro e w8 ⟨rfl,hb⟩;refine⟨_,rfl, ?_⟩;replace oR:=Ah (bJ (g:=co) (o:= .cells #[.int .i64 av,.int .i64 bB,.int .i64 eM,.int .i64 eN,.int .i64 fQ] 40 (0,0)) (bk oR) hb);replace HB:=Ah (aK (bs HB) hb);(try clear hb)))
    go_ret
    exact⟨er,bs HB⟩
   replace c7:=Q3.mpr c7;subst c7;rw[if_neg dc]at H;have H':=Ah H;clear H;have rO:0≤(dx:Int):=od;have rP:dx<(l0.length:Int):=od;obtain⟨XU,ES,vH,vI⟩:=eA fg.out dx rO rP
   cases ES
   replace vH:=hq HB vH;replace vI:=hq HB vI;replace rO:=eq_true rO;replace rP:=eq_true rP
   go_wp2_with (first|((with_reducible refine Ny (t:=11) rfl ?_);refine QG (some 16) rfl rfl Try.func32 (by kernel_rfl) rfl #[.agg #[.int .i64 ((aC l0 dx).f0),.int .i64 ((aC l0 dx).f1)],.pointer (some ⟨co,0,none⟩)] rfl rfl (by(try simp only[ib,aac,aai]);first|done|rfl|(simp only[fM,aN];rfl)) ?_;(with_reducible refine(Ce.calls ((aC l0 dx).f0) ((aC l0 dx).f1) co av bB eM eN fQ false _ ?aJ A6.out).mono ?_);(case aJ=>exact bk oR);rintro e w9 ⟨rfl,hb⟩;refine⟨_,rfl, ?_⟩;replace oR:=Ah (bJ (g:=co) (o:= .cells #[.int .i64 av,.int .i64 bB,.int .i64 eM,.int .i64 eN,.int .i64 fQ] 40 (0,0)) (bk oR) hb);replace HB:=Ah (aK (bs HB) hb);(try clear hb)))
   go_roundg k1
   case measure=>have:=dC.out;omega
   case rel=>exact⟨(Ee (dx+1)),e3,H',⟨by have:=dC.out;omega⟩,⟨bk oR⟩,⟨bs HB⟩⟩
def rX.f(k:Nat)(l0:List (X))(av:Int)(bB:Int)(eM:Int)(eN:Int)(fQ:Int):Option (Bool):=(kc.f k l0 av bB eM eN fQ).bind fun rQ=>(some (decide (rQ≥0)))
theorem rX.mono:∀a0 a1 a2 a3 a4 a5 k,aG (rX.f k a0 a1 a2 a3 a4 a5) (rX.f (k+1) a0 a1 a2 a3 a4 a5):=by
 intro a0 a1 a2 a3 a4 a5 k;unfold rX.f
 repeat' with_reducible first|exact kc.mono _ _ _ _ _ _ _|exact aG.refl _|exact aG.none _|refine aG.ite ?_ ?_|refine aG.bind ?_ (fun _=> ?_)
theorem rX.calls(k:Nat)(A0:Option Addr)(c0:Nat)(l0:List (X))(co:Nat)(av:Int)(bB:Int)(eM:Int)(eN:Int)(fQ:Int)(r:Bool)(w:World)(hr0:Kd.C ag w A0 l0.length l0)(hc0:l0.length≤c0)(lv:w.heap[co]?=some (.cells #[.int .i64 av,.int .i64 bB,.int .i64 eM,.int .i64 eN,.int .i64 fQ] 40 (0,0)))(h:rX.f k l0 av bB eM eN fQ=some r):
 Calls sX 35 #[.slice A0 l0.length c0,.func (.func 32) #[] #[.pointer (some ⟨co,0,none⟩)]] w fun e w'=>e= .returned (.bool r)∧Below w.heap.size w w':=by
 have fg:=Ah hr0;have rU:=Ah hc0;clear hr0 hc0;have bX:=Ah lv;clear lv;have HB:=Ah (gR w.heap.size w);have H:((kc.f k l0 av bB eM eN fQ).bind fun rQ=>(some (decide (rQ≥0))))=some r:=h;clear h;replace H:=Hc.mp H;obtain⟨rQ,dz,H⟩:=H
 try dsimp only at H
 have A3:=Ah dz;clear dz;obtain rfl:=Ok H
 go_enter Try.func35,Try.ntmps35
 go_wp2_with (first|((with_reducible refine bN (f:=53) rfl ?_);refine gL (some 7) rfl rfl Try.func53 (by kernel_rfl) rfl #[.slice A0 l0.length c0,.func (.func 32) #[] #[.pointer (some ⟨co,0,none⟩)]] rfl ?_;(with_reducible refine(kc.calls k _ _ l0 co av bB eM eN fQ rQ _ ?aJ ?aM ?ac A3.out).mono ?_);(case aJ=>repeat(first|exact fg.out|(with_reducible refine Kd.qB ?_ _)|(with_reducible refine Kd.qC ?_ _)|(with_reducible refine Kd.qE ?_)));(case aM=>exact rU.out);(case ac=>exact bk bX);rintro e w4 ⟨rfl,hb⟩;refine⟨_,rfl, ?_⟩;replace bX:=Ah (bJ (g:=co) (o:= .cells #[.int .i64 av,.int .i64 bB,.int .i64 eM,.int .i64 eN,.int .i64 fQ] 40 (0,0)) (bk bX) hb);replace HB:=Ah (aK (bs HB) hb);(try clear hb)))
 go_ret
 exact⟨er,bs HB⟩
mutual
def dH.j0:Nat→List (aV)→Bool→Int→List (X)→List (X)→Option ((List (aV))×Bool)
 |0,_,_,_,_,_=>none
 |k+1,x1,i4,JM,JN,Q8=>if i4=true then(some (([]:List (aV)),false))else(dH.l0 k (([]:List (aV))) x1 (x1.length:Int) 0 JM JN Q8)
def dH.l0:Nat→List (aV)→List (aV)→Int→Int→Int→List (X)→List (X)→Option ((List (aV))×Bool)
 |0,_,_,_,_,_,_,_=>none
 |k+1,x6,x20,Zy,iL,JM,JN,Q8=>if iL<Zy then(if 0≤iL then(if iL<(x20.length:Int)then(if((J x20 iL).f0)=2 then((lS.f ((J x20 iL).f1) 1 (x6.length:Int)).bind fun rQ=>(if rQ=true then(if(!(((J x20 iL).f2.f0)==0)||(!(((J x20 iL).f2.f1)==0)))=true then(some (([]:List (aV)),false))else(if 0≤(Ee (((J x20 iL).f1)-1))then(if(Ee (((J x20 iL).f1)-1))<(x6.length:Int)then((lS.f ((J x20 iL).f3) (Ee (((J x6 (Ee (((J x20 iL).f1)-1))).f3)+1)) ((J x6 (Ee (((J x20 iL).f1)-1))).f2.f1)).bind fun Mm=>(if Mm=true then(dH.l0 k (x6.set ((Ee (((J x20 iL).f1)-1)):Int).toNat (⟨(J x6 (Ee (((J x20 iL).f1)-1))).f0,(J x6 (Ee (((J x20 iL).f1)-1))).f1,(⟨(J x6 (Ee (((J x20 iL).f1)-1))).f2.f0,(J x6 (Ee (((J x20 iL).f1)-1))).f2.f1⟩:X),(J x20 iL).f3⟩:aV)) x20 Zy (Ee (iL+1)) JM JN Q8)else(some (([]:List (aV)),false))))else(none))else(none)))else(some (([]:List (aV)),false))))else(if((J x20 iL).f0)=1 then(if((J x20 iL).f1)=(Ee ((x6.length:Int)+1))then(if((J x20 iL).f3)=0 then((nJ.f ((J x20 iL).f2.f0) ((J x20 iL).f2.f1) JM).bind fun Z9=>(if Z9=true then((qb.f k x6 ((J x20 iL).f0) ((J x20 iL).f1) ((J x20 iL).f2.f0) ((J x20 iL).f2.f1) ((J x20 iL).f3)).bind fun ZA=>(if ZA=true then(some (([]:List (aV)),false))else((rX.f k JN ((J x20 iL).f0) ((J x20 iL).f1) ((J x20 iL).f2.f0) ((J x20 iL).f2.f1) ((J x20 iL).f3)).bind fun ZB=>(if ZB=true then(some (([]:List (aV)),false))else(if x6.length<3518437208883 then(dH.l0 k (x6++[(⟨(J x20 iL).f0,(J x20 iL).f1,(⟨(J x20 iL).f2.f0,(J x20 iL).f2.f1⟩:X),(J x20 iL).f3⟩:aV)]) x20 Zy (Ee (iL+1)) JM JN Q8)else(none))))))else(some (([]:List (aV)),false))))else(some (([]:List (aV)),false)))else(some (([]:List (aV)),false)))else(some (([]:List (aV)),false))))else(none))else(none))else(some (x6,true))
end
def dH.f(k:Nat)(aA:Int)(U:List (X))(aH:List (X))(l1:List (aV)):Option ((List (aV))×Bool):=(cH.f k aA U aH).bind fun Mn=>(if Mn=true then(dH.j0 k l1 (decide ((l1.length:Int)>30)) aA U aH)else(dH.j0 k l1 true aA U aH))
theorem dH.dh:∀k,(∀y0 y1 y2 y3 y4,aG (dH.j0 k y0 y1 y2 y3 y4) (dH.j0 (k+1) y0 y1 y2 y3 y4))∧(∀y0 y1 y2 y3 y4 y5 y6,aG (dH.l0 k y0 y1 y2 y3 y4 y5 y6) (dH.l0 (k+1) y0 y1 y2 y3 y4 y5 y6))
 |0=>⟨fun _ _ _ _ _ r h=>by simp[dH.j0]at h,fun _ _ _ _ _ _ _ r h=>by simp[dH.l0]at h⟩
 |k+1=>by
  obtain⟨bz,ih1⟩:=dH.dh k
  refine⟨?_, ?_⟩<;>intros<;>first|unfold dH.j0|unfold dH.l0
  all_goals repeat' first
   |(with_reducible exact bz _ _ _ _ _)
   |(with_reducible exact ih1 _ _ _ _ _ _ _)
   |(with_reducible exact cH.mono _ _ _ _)
   |(with_reducible exact rX.mono _ _ _ _ _ _ _)
   |(with_reducible exact qb.mono _ _ _ _ _ _ _)
   |(with_reducible exact aG.refl _)
   |(with_reducible exact aG.none _)
   |(with_reducible refine aG.ite ?_ ?_)
   |(with_reducible refine aG.bind ?_ (fun _=> ?_))
   |exact bz _ _ _ _ _
   |exact ih1 _ _ _ _ _ _ _
   |exact cH.mono _ _ _ _
   |exact rX.mono _ _ _ _ _ _ _
   |exact qb.mono _ _ _ _ _ _ _
   |exact aG.none _
   |refine aG.ite ?_ ?_
   |refine aG.bind ?_ (fun _=> ?_)
theorem dH.mono:∀a0 a1 a2 a3 k,aG (dH.f k a0 a1 a2 a3) (dH.f (k+1) a0 a1 a2 a3):=by
 intro a0 a1 a2 a3 k;obtain⟨bz,ih1⟩:=dH.dh k;unfold dH.f
 repeat' with_reducible first|exact bz _ _ _ _ _|exact ih1 _ _ _ _ _ _ _|exact cH.mono _ _ _ _|exact rX.mono _ _ _ _ _ _ _|exact qb.mono _ _ _ _ _ _ _|exact aG.refl _|exact aG.none _|refine aG.ite ?_ ?_|refine aG.bind ?_ (fun _=> ?_)
def dH.T8:Bool×List (List Nat×List Nat):=(true,[([],[]),([0],[0]),([],[]),([2],[2]),([1,3],[1,3]),([4],[4]),([5,4],[5]),([6],[6]),([7,6],[6,7]),([6],[6]),([8,9,6],[6,8,9]),([6,10],[6,10]),([11,6],[11]),([12],[12]),([13,12],[12,13]),([12],[12]),([12],[12]),([16,12],[12,16]),([17,12],[12,17]),([15,18,12],[12,15,18]),([19,12],[12,19]),([20,12],[12,20]),([21,12],[12,21]),([12],[12]),([12],[12]),([24,12],[12,24]),([25,12],[12,25]),([23,26,12],[12,23,26]),([27,12],[12,27]),([28,12],[12,28]),([29,12],[12,29]),([14,22,30,12,12],[12,14,22,30]),([31,12],[12,31]),([12,32],[12,32])])
def dH.B8:List Nat:=[0,1,0,4,15,31,63,127,255,127,1023,2047,4095,8191,16383,8191,8191,73727,204799,499711,1023999,2072575,4169727,8191,8191,16785407,50339839,125837311,260055039,528490495,1065361407,2147483647,4294967295,8589934591]
theorem dH.MM:j7 .any (vO Try.f15 8)=dH.T8:=by kernel_rfl
theorem dH.Ki:qD dH.T8.2 dH.B8=true:=by kernel_rfl
theorem dH.calls(k:Nat)(aA:Int)(bH:Option Addr)(ay:Nat)(U:List (X))(bC:Option Addr)(bD:Nat)(aH:List (X))(A1:Option Addr)(c1:Nat)(l1:List (aV))(r1:List (aV))(r2:Bool)(w:World)(fC:Kd.C ag w bH U.length U)(fD:U.length≤ay)(fE:Kd.C ag w bC aH.length aH)(fF:aH.length≤bD)(hr1:Kd.C cV w A1 l1.length l1)(hc1:l1.length≤c1)(h:dH.f k aA U aH l1=some (r1,r2)):
 Calls sX 15 #[.agg #[.int .i64 aA,.slice bH U.length ay,.slice bC aH.length bD],.slice A1 l1.length c1] w fun e w'=>∃n3:Value,e= .returned (.tuple #[n3,.bool r2])∧Kd.R cV 40 w' w.heap.size (fun _=>True) n3 r1∧Below w.heap.size w w':=by
 have o8:=aah;have vt:=aaR;have lM:=aap;have cx:=Ah fC;have dv:=Ah fD;clear fC fD;have eV:=Ah fE;have eW:=Ah fF;clear fE fF;have HR1:=Ah hr1;have rV:=Ah hc1;clear hr1 hc1;have HB:=Ah (gR w.heap.size w);have H:((cH.f k aA U aH).bind fun Mn=>(if Mn=true then(dH.j0 k l1 (decide ((l1.length:Int)>30)) aA U aH)else(dH.j0 k l1 true aA U aH)))=some (r1,r2):=h;clear h;have El:=Ah H;clear H
 go_enter Try.func15,Try.ntmps15
 go_upto_region 1 with(first|((with_reducible refine am (N:=2) rfl ?_);(try(refine dl (by rfl) ?_;dsimp only));refine ar 2 25 #[.int .i64 aA,.slice bH U.length ay,.slice bC aH.length bD] ?_;intro LL hg w4 bU hb;have GW609:=gw hg (bs HB);have eQ:=gw hg (bs HB);replace HB:=Ah (aK (bs HB) hb);clear hb hg))
 (try simp only[Act.put,List.setIfInBounds_toArray,List.set_cons_zero,List.set_cons_succ])
 go_cut [18] (fun v18 wc=>∃ (kq:Nat) (cf:Bool),v18= .bool cf∧Y (dH.j0 kq l1 cf aA U aH=some (r1,r2))∧Y (kq≤k)∧Y (wc.heap[LL]?=some (.cells #[.int .i64 aA,(.slice bH U.length ay),(.slice bC aH.length bD)] 25 (0,0)))∧Y (Below w.heap.size w wc))
 case first=>
  have H:=El.out;clear El;replace H:=Hc.mp H;obtain⟨Mn,lD,H⟩:=H
  try dsimp only at H
  have A5:=Ah lD;clear lD
  by_cases c6:Mn=true
  ·
   subst c6;rw[if_pos rfl]at H;have H':=Ah H;clear H;obtain⟨pD,pE,uA⟩:=di bU;obtain⟨pF,pG,uB⟩:=dj bU
   go_wp2_with (first|((with_reducible refine bN (f:=24) rfl ?_);refine gL (some 12) rfl rfl Try.func24 (by kernel_rfl) rfl #[.agg #[.int .i64 aA,.slice bH U.length ay,.slice bC aH.length bD]] rfl ?_;(with_reducible refine(cH.calls k aA _ _ U _ _ aH true _ ?aJ ?aM ?ac ?au A5.out).mono ?_);(case aJ=>exact cb cx HB);(case aM=>exact dv.out);(case ac=>exact cb eV HB);(case au=>exact eW.out);rintro e w8 ⟨rfl,hb⟩;refine⟨_,rfl, ?_⟩;replace bU:=nb bU hb;replace HB:=Ah (aK (aQ HB eQ) hb);(try clear hb)))
   go_meet
   case rel=>exact⟨_,(decide ((l1.length:Int)>30)),e3,H',⟨by first|omega|exact eH _⟩,⟨bk bU⟩,⟨aQ HB eQ⟩⟩
  replace c6:=Q3.mpr c6;subst c6;rw[if_neg dc]at H;have H':=Ah H;clear H;obtain⟨qp,qq,st⟩:=di bU;obtain⟨sA,qr,su⟩:=dj bU
  go_wp2_with (first|((with_reducible refine bN (f:=24) rfl ?_);refine gL (some 12) rfl rfl Try.func24 (by kernel_rfl) rfl #[.agg #[.int .i64 aA,.slice bH U.length ay,.slice bC aH.length bD]] rfl ?_;(with_reducible refine(cH.calls k aA _ _ U _ _ aH false _ ?aJ ?aM ?ac ?au A5.out).mono ?_);(case aJ=>exact cb cx HB);(case aM=>exact dv.out);(case ac=>exact cb eV HB);(case au=>exact eW.out);rintro e oq ⟨rfl,hb⟩;refine⟨_,rfl, ?_⟩;replace bU:=nb bU hb;replace HB:=Ah (aK (aQ HB eQ) hb);(try clear hb)))
  go_meet
  case rel=>exact⟨_,(true),e3,H',⟨by first|omega|exact eH _⟩,⟨bk bU⟩,⟨aQ HB eQ⟩⟩
 case rest=>
  clear El
  try clear c1
  try clear c2
  try clear p2
  try clear c6
  try clear pD pE uA
  try clear qp qq st
  try clear pF pG uB
  try clear sA qr su
  obtain⟨kq,cf,rfl,HA,HJ2,bU,HB⟩:=hcut
  cases kq with
  |zero=>exact absurd HA.out (by simp[dH.j0])
  |succ Hi=>
   have H:=HA.out;clear HA;simp only[dH.j0]at H
   by_cases c11:cf=true
   ·
    subst c11;rw[if_pos rfl]at H;simp only[SY,cM]at H;obtain⟨rfl,rfl⟩:=H
    go_wp2
    go_ret2
    exact⟨_,er,by first|exact Kd.dG _ _ _ _ _|exact Kd.dY _ _ _ _ _|exact Kd.dZ _ _ _ _ _|exact Kd.dW _ _ _ _ _|exact Kd.dX _ _ _ _ _,aQ HB eQ⟩
   replace c11:=Q3.mpr c11;subst c11;rw[if_neg dc]at H;obtain⟨y611,LM⟩:∃y_:List (aV),y_=(([]:List (aV))):=⟨_,rfl⟩
   replace H:(dH.l0 Hi y611 l1 (l1.length:Int) 0 aA U aH)=some (r1,r2):=by first|(rw[LM];with_reducible exact H)|(have ai:=(N6 _ _).symm.trans H;rw[LM];with_reducible exact ai)|(have ai:=(N6 _ _).symm.trans H;with_reducible exact ai)|with_reducible exact H|(rw[LM];exact H)|exact H
   have Ny611:=Ah LM;clear LM;have H':=Ah H;clear H
   go_wp2_with (first|((with_reducible refine am (N:=19) rfl ?_);(try(refine dl (by rfl) ?_;dsimp only));refine Kd.vN cV _ 40 ?hg (N:=19) ?hd (xs:=([]:List (aV))) (inner:=[]) (ok:=fun _=>True) (okp:=fun _=>True) ?hr ?hp (fun _ hk=>hk) trivial (gR _ _) (eH _) (by simp) ?_;(case hd=>rfl);(case hg=>rfl);(case hr=>first|(go_simp;done)|(go_simp;rfl));(case hp=>exact(cX.none _ _));intro v612 yX wL hb mL m9;clear mL m9;(first|rw[←Ny611.out]at wL|(simp only[aaU]at wL;rw[←Ny611.out]at wL));have HO613:=Ah (Kd.bq wL (bR (aQ HB eQ)));replace bU:=nb bU hb;replace HB:=Ah (aK (aQ HB eQ) hb);clear hb wL))
   go_loopg [6,22] Hi (fun kq v6 v22 w'=>∃ (an:List (aV)) (aT:Int),v22= .int .i64 aT∧Y (dH.l0 kq an l1 (l1.length:Int) aT aA U aH=some (r1,r2))∧Y (kq≤Hi)∧Y (Kd.R cV 40 w' w.heap.size (fun _=>True) v6 an)∧Y (w'.heap[LL]?=some (.cells #[.int .i64 aA,(.slice bH U.length ay),(.slice bC aH.length bD)] 25 (0,0)))∧Y (Below w.heap.size w w'))
   case atStart=>exact⟨(y611),(0),e3,H',⟨eH _⟩,⟨rr HO613.out⟩,⟨bk bU⟩,⟨aQ HB eQ⟩⟩
   case round=>
    clear H'
    try clear c1
    try clear c2
    try clear p2
    try clear c6
    try clear c11
    try clear pD pE uA
    try clear qp qq st
    try clear pF pG uB
    try clear sA qr su
    try clear p2
    obtain⟨an,aT,rfl,HA,dF,az,bU,HB⟩:=hrel
    cases gk with
    |zero=>exact absurd HA.out (by simp[dH.l0])
    |succ k2=>
     have H:=HA.out;clear HA;simp only[dH.l0]at H
     by_cases c14:aT<(l1.length:Int)
     rotate_left
     ·
      rw[if_neg c14]at H;have Qn:=f7 c14;clear c14;simp only[SY,cM]at H;obtain⟨rfl,rfl⟩:=H
      go_wp2
      go_ret2
      exact⟨_,er,by(with_reducible repeat(first|apply Kd.al|apply Kd.ak|apply Kd.aY));exact az.out,aQ HB eQ⟩
     rw[if_pos c14]at H;have Qn:=bS c14;clear c14
     by_cases c15:0≤aT
     rotate_left
     ·
      rw[if_neg c15]at H;exact absurd H (by simp)
     rw[if_pos c15]at H;have DE:=bS c15;clear c15
     by_cases c16:aT<(l1.length:Int)
     rotate_left
     ·
      rw[if_neg c16]at H;exact absurd H (by simp)
     rw[if_pos c16]at H;have c16b0:=bS c16;clear c16
     by_cases c17:((J l1 aT).f0)=2
     rotate_left
     ·
      rw[if_neg c17]at H;have Kv:=jI c17;have c17b1:=jJ c17
      by_cases tX:((J l1 aT).f0)=1
      rotate_left
      ·
       rw[if_neg tX]at H;have WM:=jI tX;have c54b1:=jJ tX;simp only[SY,cM]at H;obtain⟨rfl,rfl⟩:=H;have iP:0≤(aT:Int):=od;have iQ:aT<(l1.length:Int):=od;obtain⟨zh,oh,kf,kg,ki,kj,kk⟩:=jQ HR1.out aT iP iQ
       cases oh
       replace kf:=hq HB kf;replace kg:=hq HB kg;replace ki:=hq HB ki;replace kj:=hq HB kj;replace kk:=hq HB kk;replace iP:=eq_true iP;replace iQ:=eq_true iQ
       go_wp2_with (first|((with_reducible refine am (N:=8) rfl ?_);(try(refine dl (by rfl) ?_;dsimp only));refine ar 8 40 #[.int .i64 0,.int .i64 0,.int .i64 0,.int .i64 0,.int .i64 0] ?_;intro bI hg w105 bX hb;replace az:=Ah (Kd.bW (Kd.iq (rr az.out) bI (aaq hg.symm)) hb);have zi:=gw hg (aQ HB eQ);have jR:=gw hg (aQ HB eQ);replace HB:=Ah (aK (aQ HB eQ) hb);have lq:=nn bU hg;have oI:=nm bU hg;replace bU:=nb bU hb;clear hb hg;have Vm:=oI.out;have Vn:=lq.out;obtain⟨hcz107_0,hcz107_1,hcz107_2,hcz107_3,hcz107_4⟩:=ah bX;obtain⟨hfz107_0,hfz107_1,hfz107_2,hfz107_3,hfz107_4⟩:=af bX))
       go_ret2
       exact⟨_,er,by first|exact Kd.dG _ _ _ _ _|exact Kd.dY _ _ _ _ _|exact Kd.dZ _ _ _ _ _|exact Kd.dW _ _ _ _ _|exact Kd.dX _ _ _ _ _,aa HB eQ jR⟩
      rw[if_pos tX]at H;have WM:=jm tX;have c54b1:=jn tX;clear tX
      by_cases ot:((J l1 aT).f1)=(Ee ((an.length:Int)+1))
      rotate_left
      ·
       rw[if_neg ot]at H;have WN:=jI ot;have c55b1:=jJ ot;simp only[SY,cM]at H;obtain⟨rfl,rfl⟩:=H;have iP:0≤(aT:Int):=od;have iQ:aT<(l1.length:Int):=od;obtain⟨zh,oh,kf,kg,ki,kj,kk⟩:=jQ HR1.out aT iP iQ
       cases oh
       replace kf:=hq HB kf;replace kg:=hq HB kg;replace ki:=hq HB ki;replace kj:=hq HB kj;replace kk:=hq HB kk;replace iP:=eq_true iP;replace iQ:=eq_true iQ
       go_wp2_with (first|((with_reducible refine am (N:=8) rfl ?_);(try(refine dl (by rfl) ?_;dsimp only));refine ar 8 40 #[.int .i64 0,.int .i64 0,.int .i64 0,.int .i64 0,.int .i64 0] ?_;intro bI hg w101 bX hb;replace az:=Ah (Kd.bW (Kd.iq (rr az.out) bI (aaq hg.symm)) hb);have zi:=gw hg (aQ HB eQ);have jR:=gw hg (aQ HB eQ);replace HB:=Ah (aK (aQ HB eQ) hb);have lq:=nn bU hg;have oI:=nm bU hg;replace bU:=nb bU hb;clear hb hg;have hnb102:=oI.out;have hnc102:=lq.out;obtain⟨hcz103_0,hcz103_1,hcz103_2,hcz103_3,hcz103_4⟩:=ah bX;obtain⟨hfz103_0,hfz103_1,hfz103_2,hfz103_3,hfz103_4⟩:=af bX;obtain⟨Ao104,co104,eo104⟩:=Kd.ax az.out;subst eo104))
       go_ret2
       exact⟨_,er,by first|exact Kd.dG _ _ _ _ _|exact Kd.dY _ _ _ _ _|exact Kd.dZ _ _ _ _ _|exact Kd.dW _ _ _ _ _|exact Kd.dX _ _ _ _ _,aa HB eQ jR⟩
      rw[if_pos ot]at H;have WN:=jm ot;have c55b1:=jn ot;clear ot
      by_cases nX:((J l1 aT).f3)=0
      rotate_left
      ·
       rw[if_neg nX]at H;have QV:=jI nX;have c56b1:=jJ nX;simp only[SY,cM]at H;obtain⟨rfl,rfl⟩:=H;have iP:0≤(aT:Int):=od;have iQ:aT<(l1.length:Int):=od;obtain⟨zh,oh,kf,kg,ki,kj,kk⟩:=jQ HR1.out aT iP iQ
       cases oh
       replace kf:=hq HB kf;replace kg:=hq HB kg;replace ki:=hq HB ki;replace kj:=hq HB kj;replace kk:=hq HB kk;replace iP:=eq_true iP;replace iQ:=eq_true iQ
       go_wp2_with (first|((with_reducible refine am (N:=8) rfl ?_);(try(refine dl (by rfl) ?_;dsimp only));refine ar 8 40 #[.int .i64 0,.int .i64 0,.int .i64 0,.int .i64 0,.int .i64 0] ?_;intro bI hg w97 bX hb;replace az:=Ah (Kd.bW (Kd.iq (rr az.out) bI (aaq hg.symm)) hb);have zi:=gw hg (aQ HB eQ);have jR:=gw hg (aQ HB eQ);replace HB:=Ah (aK (aQ HB eQ) hb);have lq:=nn bU hg;have oI:=nm bU hg;replace bU:=nb bU hb;clear hb hg;have hnb98:=oI.out;have hnc98:=lq.out;obtain⟨hcz99_0,hcz99_1,hcz99_2,hcz99_3,hcz99_4⟩:=ah bX;obtain⟨hfz99_0,hfz99_1,hfz99_2,hfz99_3,hfz99_4⟩:=af bX;obtain⟨Ao100,co100,eo100⟩:=Kd.ax az.out;subst eo100))
       go_ret2
       exact⟨_,er,by first|exact Kd.dG _ _ _ _ _|exact Kd.dY _ _ _ _ _|exact Kd.dZ _ _ _ _ _|exact Kd.dW _ _ _ _ _|exact Kd.dX _ _ _ _ _,aa HB eQ jR⟩
      rw[if_pos nX]at H;have QV:=jm nX;have c56b1:=jn nX;clear nX;replace H:=Hc.mp H;obtain⟨Z9,A570,H⟩:=H
      try dsimp only at H
      have Sc:=Ah A570;clear A570
      by_cases we:Z9=true
      rotate_left
      ·
       replace we:=Q3.mpr we;subst we;rw[if_neg dc]at H;simp only[SY,cM]at H;obtain⟨rfl,rfl⟩:=H;have iP:0≤(aT:Int):=od;have iQ:aT<(l1.length:Int):=od;obtain⟨zh,oh,kf,kg,ki,kj,kk⟩:=jQ HR1.out aT iP iQ
       cases oh
       replace kf:=hq HB kf;replace kg:=hq HB kg;replace ki:=hq HB ki;replace kj:=hq HB kj;replace kk:=hq HB kk;replace iP:=eq_true iP;replace iQ:=eq_true iQ
       go_wp2_with (first|((with_reducible refine am (N:=8) rfl ?_);(try(refine dl (by rfl) ?_;dsimp only));refine ar 8 40 #[.int .i64 0,.int .i64 0,.int .i64 0,.int .i64 0,.int .i64 0] ?_;intro bI hg w91 bX hb;replace az:=Ah (Kd.bW (Kd.iq (rr az.out) bI (aaq hg.symm)) hb);have zi:=gw hg (aQ HB eQ);have jR:=gw hg (aQ HB eQ);replace HB:=Ah (aK (aQ HB eQ) hb);have lq:=nn bU hg;have oI:=nm bU hg;replace bU:=nb bU hb;clear hb hg;have Qd:=oI.out;have Qe:=lq.out;obtain⟨Ub,Uc,hcz93_2,hcz93_3,hcz93_4⟩:=ah bX;obtain⟨Ud,Ue,hfz93_2,hfz93_3,hfz93_4⟩:=af bX;obtain⟨kZ,ka,Z1⟩:=Kd.ax az.out;subst Z1;obtain⟨Ia,Ib,Ic⟩:=di bU;obtain⟨Id,Ie,If⟩:=dj bU)|(go_at_call 33;(with_reducible refine(nJ.calls ((J l1 aT).f2.f0) ((J l1 aT).f2.f1) aA false _ Sc.out).mono ?_);rintro e w96 ⟨rfl,hb⟩;replace az:=Ah (Kd.bW (by(with_reducible repeat(first|apply Kd.al|apply Kd.ak|apply Kd.aY));exact(Kd.aE (Kd.I (p:=⟨bI,4,none⟩) (Kd.I (p:=⟨bI,3,none⟩) (Kd.I (p:=⟨bI,2,none⟩) (Kd.I (p:=⟨bI,1,none⟩) (Kd.I (p:=⟨bI,0,none⟩) (Kd.aE az.out (fun k_ hk=>(⟨hk,hk.2⟩:_∧k_≠bI))) (fun _ hk=>hk.2) (.int .i64 ((J l1 aT).f0))) (fun _ hk=>hk.2) (.int .i64 ((J l1 aT).f1))) (fun _ hk=>hk.2) (.int .i64 ((J l1 aT).f2.f0))) (fun _ hk=>hk.2) (.int .i64 ((J l1 aT).f2.f1))) (fun _ hk=>hk.2) (.int .i64 ((J l1 aT).f3))) (fun _ h_=>h_.1))) hb);replace bU:=Ah (bJ (bf bU lq) hb);replace bX:=Ah (bJ (g:=bI) (o:= .cells #[.int .i64 ((J l1 aT).f0),.int .i64 ((J l1 aT).f1),.int .i64 ((J l1 aT).f2.f0),.int .i64 ((J l1 aT).f2.f1),.int .i64 ((J l1 aT).f3)] 40 (0,0)) (pb bX) hb);replace HB:=Ah (aK (aa HB eQ jR) hb);(try clear hb hk)))
       go_ret2
       exact⟨_,er,by first|exact Kd.dG _ _ _ _ _|exact Kd.dY _ _ _ _ _|exact Kd.dZ _ _ _ _ _|exact Kd.dW _ _ _ _ _|exact Kd.dX _ _ _ _ _,aa HB eQ jR⟩
      subst we;rw[if_pos rfl]at H;replace H:=Hc.mp H;obtain⟨ZA,A590,H⟩:=H
      try dsimp only at H
      have Zz:=Ah A590;clear A590
      by_cases uY:ZA=true
      ·
       subst uY;rw[if_pos rfl]at H;simp only[SY,cM]at H;obtain⟨rfl,rfl⟩:=H;have iP:0≤(aT:Int):=od;have iQ:aT<(l1.length:Int):=od;obtain⟨zh,oh,kf,kg,ki,kj,kk⟩:=jQ HR1.out aT iP iQ
       cases oh
       replace kf:=hq HB kf;replace kg:=hq HB kg;replace ki:=hq HB ki;replace kj:=hq HB kj;replace kk:=hq HB kk;replace iP:=eq_true iP;replace iQ:=eq_true iQ
       go_wp2_with (first|((with_reducible refine am (N:=8) rfl ?_);(try(refine dl (by rfl) ?_;dsimp only));refine ar 8 40 #[.int .i64 0,.int .i64 0,.int .i64 0,.int .i64 0,.int .i64 0] ?_;intro bI hg w61 bX hb;replace az:=Ah (Kd.bW (Kd.iq (rr az.out) bI (aaq hg.symm)) hb);have zi:=gw hg (aQ HB eQ);have jR:=gw hg (aQ HB eQ);replace HB:=Ah (aK (aQ HB eQ) hb);have lq:=nn bU hg;have oI:=nm bU hg;replace bU:=nb bU hb;clear hb hg;have GC:=oI.out;have GD:=lq.out;obtain⟨PH,PI,PJ,PK,PL⟩:=ah bX;obtain⟨Pe,Pf,Pg,Ph,Pi⟩:=af bX;obtain⟨H3,H4,Yg⟩:=Kd.ax az.out;subst Yg;obtain⟨On,Oo,Oq⟩:=di bU;obtain⟨Ot,Ou,Ov⟩:=dj bU)|(go_at_call 33;(with_reducible refine(nJ.calls ((J l1 aT).f2.f0) ((J l1 aT).f2.f1) aA true _ Sc.out).mono ?_);rintro e w66 ⟨rfl,hb⟩;replace az:=Ah (Kd.bW (by(with_reducible repeat(first|apply Kd.al|apply Kd.ak|apply Kd.aY));exact(Kd.aE (Kd.I (p:=⟨bI,4,none⟩) (Kd.I (p:=⟨bI,3,none⟩) (Kd.I (p:=⟨bI,2,none⟩) (Kd.I (p:=⟨bI,1,none⟩) (Kd.I (p:=⟨bI,0,none⟩) (Kd.aE az.out (fun k_ hk=>(⟨hk,hk.2⟩:_∧k_≠bI))) (fun _ hk=>hk.2) (.int .i64 ((J l1 aT).f0))) (fun _ hk=>hk.2) (.int .i64 ((J l1 aT).f1))) (fun _ hk=>hk.2) (.int .i64 ((J l1 aT).f2.f0))) (fun _ hk=>hk.2) (.int .i64 ((J l1 aT).f2.f1))) (fun _ hk=>hk.2) (.int .i64 ((J l1 aT).f3))) (fun _ h_=>h_.1))) hb);replace bU:=Ah (bJ (bf bU lq) hb);replace bX:=Ah (bJ (g:=bI) (o:= .cells #[.int .i64 ((J l1 aT).f0),.int .i64 ((J l1 aT).f1),.int .i64 ((J l1 aT).f2.f0),.int .i64 ((J l1 aT).f2.f1),.int .i64 ((J l1 aT).f3)] 40 (0,0)) (pb bX) hb);replace HB:=Ah (aK (aa HB eQ jR) hb);(try clear hb hk))|(go_at_call 34;(with_reducible refine(qb.calls k2 _ _ an bI ((J l1 aT).f0) ((J l1 aT).f1) ((J l1 aT).f2.f0) ((J l1 aT).f2.f1) ((J l1 aT).f3) true _ ?aJ ?aM ?ac Zz.out).mono ?_);(case aJ=>exact df az);(case aM=>exact(Kd.ab az.out).2.1);(case ac=>exact bk bX);rintro e w67 ⟨rfl,hb⟩;replace az:=nr az hb;replace bU:=nb bU hb;replace bX:=nb bX hb;replace HB:=Ah (aK (aa HB eQ jR) hb);(try clear hb)))
       go_ret2
       exact⟨_,er,by first|exact Kd.dG _ _ _ _ _|exact Kd.dY _ _ _ _ _|exact Kd.dZ _ _ _ _ _|exact Kd.dW _ _ _ _ _|exact Kd.dX _ _ _ _ _,aa HB eQ jR⟩
      replace uY:=Q3.mpr uY;subst uY;rw[if_neg dc]at H;replace H:=Hc.mp H;obtain⟨ZB,Bo,H⟩:=H
      try dsimp only at H
      have wg:=Ah Bo;clear Bo
      by_cases yU:ZB=true
      ·
       subst yU;rw[if_pos rfl]at H;simp only[SY,cM]at H;obtain⟨rfl,rfl⟩:=H;have iP:0≤(aT:Int):=od;have iQ:aT<(l1.length:Int):=od;obtain⟨zh,oh,kf,kg,ki,kj,kk⟩:=jQ HR1.out aT iP iQ
       cases oh
       replace kf:=hq HB kf;replace kg:=hq HB kg;replace ki:=hq HB ki;replace kj:=hq HB kj;replace kk:=hq HB kk;replace iP:=eq_true iP;replace iQ:=eq_true iQ
       go_wp2_with (first|((with_reducible refine am (N:=8) rfl ?_);(try(refine dl (by rfl) ?_;dsimp only));refine ar 8 40 #[.int .i64 0,.int .i64 0,.int .i64 0,.int .i64 0,.int .i64 0] ?_;intro bI hg w70 bX hb;replace az:=Ah (Kd.bW (Kd.iq (rr az.out) bI (aaq hg.symm)) hb);have zi:=gw hg (aQ HB eQ);have jR:=gw hg (aQ HB eQ);replace HB:=Ah (aK (aQ HB eQ) hb);have lq:=nn bU hg;have oI:=nm bU hg;replace bU:=nb bU hb;clear hb hg;have Wp:=oI.out;have Wq:=lq.out;obtain⟨hcz72_0,hcz72_1,hcz72_2,hcz72_3,hcz72_4⟩:=ah bX;obtain⟨hfz72_0,hfz72_1,hfz72_2,hfz72_3,hfz72_4⟩:=af bX;obtain⟨Ao73,co73,eo73⟩:=Kd.ax az.out;subst eo73;obtain⟨hcz74_0,hcz74_1,hcz74_2⟩:=di bU;obtain⟨hfz74_0,hfz74_1,hfz74_2⟩:=dj bU)|(go_at_call 33;(with_reducible refine(nJ.calls ((J l1 aT).f2.f0) ((J l1 aT).f2.f1) aA true _ Sc.out).mono ?_);rintro e w75 ⟨rfl,hb⟩;replace az:=Ah (Kd.bW (by(with_reducible repeat(first|apply Kd.al|apply Kd.ak|apply Kd.aY));exact(Kd.aE (Kd.I (p:=⟨bI,4,none⟩) (Kd.I (p:=⟨bI,3,none⟩) (Kd.I (p:=⟨bI,2,none⟩) (Kd.I (p:=⟨bI,1,none⟩) (Kd.I (p:=⟨bI,0,none⟩) (Kd.aE az.out (fun k_ hk=>(⟨hk,hk.2⟩:_∧k_≠bI))) (fun _ hk=>hk.2) (.int .i64 ((J l1 aT).f0))) (fun _ hk=>hk.2) (.int .i64 ((J l1 aT).f1))) (fun _ hk=>hk.2) (.int .i64 ((J l1 aT).f2.f0))) (fun _ hk=>hk.2) (.int .i64 ((J l1 aT).f2.f1))) (fun _ hk=>hk.2) (.int .i64 ((J l1 aT).f3))) (fun _ h_=>h_.1))) hb);replace bU:=Ah (bJ (bf bU lq) hb);replace bX:=Ah (bJ (g:=bI) (o:= .cells #[.int .i64 ((J l1 aT).f0),.int .i64 ((J l1 aT).f1),.int .i64 ((J l1 aT).f2.f0),.int .i64 ((J l1 aT).f2.f1),.int .i64 ((J l1 aT).f3)] 40 (0,0)) (pb bX) hb);replace HB:=Ah (aK (aa HB eQ jR) hb);(try clear hb hk))|(go_at_call 34;(with_reducible refine(qb.calls k2 _ _ an bI ((J l1 aT).f0) ((J l1 aT).f1) ((J l1 aT).f2.f0) ((J l1 aT).f2.f1) ((J l1 aT).f3) false _ ?aJ ?aM ?ac Zz.out).mono ?_);(case aJ=>exact df az);(case aM=>exact(Kd.ab az.out).2.1);(case ac=>exact bk bX);rintro e w76 ⟨rfl,hb⟩;replace az:=nr az hb;replace bU:=nb bU hb;replace bX:=nb bX hb;replace HB:=Ah (aK (aa HB eQ jR) hb);(try clear hb);obtain⟨Uo,Up,Uq⟩:=di bU;obtain⟨Ur,Us,Ut⟩:=dj bU)|(go_at_call 35;(with_reducible refine(rX.calls k2 _ _ U bI ((J l1 aT).f0) ((J l1 aT).f1) ((J l1 aT).f2.f0) ((J l1 aT).f2.f1) ((J l1 aT).f3) true _ ?aJ ?aM ?ac wg.out).mono ?_);(case aJ=>exact cb cx HB);(case aM=>exact dv.out);(case ac=>exact bk bX);rintro e w78 ⟨rfl,hb⟩;replace az:=nr az hb;replace bU:=nb bU hb;replace bX:=nb bX hb;replace HB:=Ah (aK (aa HB eQ jR) hb);(try clear hb)))
       go_ret2
       exact⟨_,er,by first|exact Kd.dG _ _ _ _ _|exact Kd.dY _ _ _ _ _|exact Kd.dZ _ _ _ _ _|exact Kd.dW _ _ _ _ _|exact Kd.dX _ _ _ _ _,aa HB eQ jR⟩
      replace yU:=Q3.mpr yU;subst yU;rw[if_neg dc]at H
      by_cases NZ:an.length<3518437208883
      rotate_left
      ·
       rw[if_neg NZ]at H;exact absurd H (by simp)
      rw[if_pos NZ]at H;have LMc79:=Ah NZ;clear NZ;obtain⟨y624,LN⟩:∃y_:List (aV),y_=(an++[(⟨(J l1 aT).f0,(J l1 aT).f1,(⟨(J l1 aT).f2.f0,(J l1 aT).f2.f1⟩:X),(J l1 aT).f3⟩:aV)]):=⟨_,rfl⟩
      replace H:(dH.l0 k2 y624 l1 (l1.length:Int) (Ee (aT+1)) aA U aH)=some (r1,r2):=by first|(rw[LN];with_reducible exact H)|(have ai:=(N6 _ _).symm.trans H;rw[LN];with_reducible exact ai)|(have ai:=(N6 _ _).symm.trans H;with_reducible exact ai)|with_reducible exact H|(rw[LN];exact H)|exact H
      have Ny624:=Ah LN;clear LN;have H':=Ah H;clear H;have iP:0≤(aT:Int):=od;have iQ:aT<(l1.length:Int):=od;obtain⟨zh,oh,kf,kg,ki,kj,kk⟩:=jQ HR1.out aT iP iQ
      cases oh
      replace kf:=hq HB kf;replace kg:=hq HB kg;replace ki:=hq HB ki;replace kj:=hq HB kj;replace kk:=hq HB kk;replace iP:=eq_true iP;replace iQ:=eq_true iQ
      go_wp2_with (first|((with_reducible refine am (N:=8) rfl ?_);(try(refine dl (by rfl) ?_;dsimp only));refine ar 8 40 #[.int .i64 0,.int .i64 0,.int .i64 0,.int .i64 0,.int .i64 0] ?_;intro bI hg w80 bX hb;replace az:=Ah (Kd.bW (Kd.iq (rr az.out) bI (aaq hg.symm)) hb);have zi:=gw hg (aQ HB eQ);have jR:=gw hg (aQ HB eQ);replace HB:=Ah (aK (aQ HB eQ) hb);have lq:=nn bU hg;have oI:=nm bU hg;replace bU:=nb bU hb;clear hb hg;have WF:=oI.out;have WG:=lq.out;obtain⟨UD,UE,hcz82_2,hcz82_3,hcz82_4⟩:=ah bX;obtain⟨UF,UG,hfz82_2,hfz82_3,hfz82_4⟩:=af bX;obtain⟨Ao83,co83,eo83⟩:=Kd.ax az.out;subst eo83;obtain⟨hcz84_0,hcz84_1,hcz84_2⟩:=di bU;obtain⟨hfz84_0,hfz84_1,hfz84_2⟩:=dj bU)|(go_at_call 33;(with_reducible refine(nJ.calls ((J l1 aT).f2.f0) ((J l1 aT).f2.f1) aA true _ Sc.out).mono ?_);rintro e w85 ⟨rfl,hb⟩;replace az:=Ah (Kd.bW (by(with_reducible repeat(first|apply Kd.al|apply Kd.ak|apply Kd.aY));exact(Kd.aE (Kd.I (p:=⟨bI,4,none⟩) (Kd.I (p:=⟨bI,3,none⟩) (Kd.I (p:=⟨bI,2,none⟩) (Kd.I (p:=⟨bI,1,none⟩) (Kd.I (p:=⟨bI,0,none⟩) (Kd.aE az.out (fun k_ hk=>(⟨hk,hk.2⟩:_∧k_≠bI))) (fun _ hk=>hk.2) (.int .i64 ((J l1 aT).f0))) (fun _ hk=>hk.2) (.int .i64 ((J l1 aT).f1))) (fun _ hk=>hk.2) (.int .i64 ((J l1 aT).f2.f0))) (fun _ hk=>hk.2) (.int .i64 ((J l1 aT).f2.f1))) (fun _ hk=>hk.2) (.int .i64 ((J l1 aT).f3))) (fun _ h_=>h_.1))) hb);replace bU:=Ah (bJ (bf bU lq) hb);replace bX:=Ah (bJ (g:=bI) (o:= .cells #[.int .i64 ((J l1 aT).f0),.int .i64 ((J l1 aT).f1),.int .i64 ((J l1 aT).f2.f0),.int .i64 ((J l1 aT).f2.f1),.int .i64 ((J l1 aT).f3)] 40 (0,0)) (pb bX) hb);replace HB:=Ah (aK (aa HB eQ jR) hb);(try clear hb hk))|(go_at_call 34;(with_reducible refine(qb.calls k2 _ _ an bI ((J l1 aT).f0) ((J l1 aT).f1) ((J l1 aT).f2.f0) ((J l1 aT).f2.f1) ((J l1 aT).f3) false _ ?aJ ?aM ?ac Zz.out).mono ?_);(case aJ=>exact df az);(case aM=>exact(Kd.ab az.out).2.1);(case ac=>exact bk bX);rintro e Zq ⟨rfl,hb⟩;replace az:=nr az hb;replace bU:=nb bU hb;replace bX:=nb bX hb;replace HB:=Ah (aK (aa HB eQ jR) hb);(try clear hb);obtain⟨hcz87_0,hcz87_1,hcz87_2⟩:=di bU;obtain⟨hfz87_0,hfz87_1,hfz87_2⟩:=dj bU)|(go_at_call 35;(with_reducible refine(rX.calls k2 _ _ U bI ((J l1 aT).f0) ((J l1 aT).f1) ((J l1 aT).f2.f0) ((J l1 aT).f2.f1) ((J l1 aT).f3) false _ ?aJ ?aM ?ac wg.out).mono ?_);(case aJ=>exact cb cx HB);(case aM=>exact dv.out);(case ac=>exact bk bX);rintro e w88 ⟨rfl,hb⟩;replace az:=nr az hb;replace bU:=nb bU hb;replace bX:=nb bX hb;replace HB:=Ah (aK (aa HB eQ jR) hb);(try clear hb);obtain⟨Ui,Uj,Uk,hcz89_3,hcz89_4⟩:=ah bX;obtain⟨Ul,Um,Un,hfz89_3,hfz89_4⟩:=af bX)|((with_reducible refine iG (b:= .append) (xs:= #[.tmp 108,.tmp 110]) rfl ?_);(try(refine dl (by rfl) ?_;dsimp only));at_builtin;refine Kd.jp cV (w0:=w) w.heap.size rfl (.tmp 108) (.tmp 110) 26 40 (.agg #[(.int .i64 0),(.int .i64 0),(.int .i64 0),(.int .i64 0),(.int .i64 0)]) 40 rfl Try.underlying26 qF rfl (by decide) (by omega) (.slice Ao83 an.length co83) an (⟨(J l1 aT).f0,(J l1 aT).f1,(⟨(J l1 aT).f2.f0,(J l1 aT).f2.f1⟩:X),(J l1 aT).f3⟩:aV) [.int .i64 ((J l1 aT).f0),.int .i64 ((J l1 aT).f1),.int .i64 ((J l1 aT).f2.f0),.int .i64 ((J l1 aT).f2.f1),.int .i64 ((J l1 aT).f3)] (fun k_=>k_≠bI) (fun _=>False) rfl rfl ?aP (fun _ hk=>hk.elim) ?aF ?aO ?aB ?aS ?aL ?_;(case aP=>exact sj _ _ _ (⟨(J l1 aT).f0,(J l1 aT).f1,(⟨(J l1 aT).f2.f0,(J l1 aT).f2.f1⟩:X),(J l1 aT).f3⟩:aV));(case aB=>exact(aa HB eQ jR));(case aF=>exact(fun k_ hk=>Kd.jr (bk bX) k_ hk));(case aO=>exact(by(with_reducible repeat(first|apply Kd.al|apply Kd.ak|apply Kd.aY));exact Kd.aE az.out (fun _ hk=>hk.2)));(case aS=>exact(bR (aa HB eQ jR)));(case aL=>have:=LMc79.out;omega);intro v625 Zs ho hb hg hat;rw[←Ny624.out]at ho;replace bU:=Ah (cC (bk bU) hg (Kd.cY az.out bU.out (by decide)));replace bX:=Ah (cC (bk bX) hg (Kd.jq az.out (fun _ hk=>hk.2)));replace HB:=Ah (hb);have HO626:=Ah (ho);clear az;clear ho hb hg hat))
      go_roundg k2
      case measure=>have:=HJ2.out;have:=dF.out;omega
      case rel=>exact⟨(y624),(Ee (aT+1)),e3,H',⟨by have:=HJ2.out;have:=dF.out;omega⟩,rm HO626 (fun _ hk=>trivial),⟨bk bU⟩,⟨aa HB eQ jR⟩⟩
     rw[if_pos c17]at H;have Kv:=jm c17;have c17b1:=jn c17;clear c17;replace H:=Hc.mp H;obtain⟨rQ,Mo,H⟩:=H
     try dsimp only at H
     have Hm:=Ah Mo;clear Mo
     by_cases c19:rQ=true
     rotate_left
     ·
      replace c19:=Q3.mpr c19;subst c19;rw[if_neg dc]at H;simp only[SY,cM]at H;obtain⟨rfl,rfl⟩:=H;have iP:0≤(aT:Int):=od;have iQ:aT<(l1.length:Int):=od;obtain⟨zh,oh,kf,kg,ki,kj,kk⟩:=jQ HR1.out aT iP iQ
      cases oh
      replace kf:=hq HB kf;replace kg:=hq HB kg;replace ki:=hq HB ki;replace kj:=hq HB kj;replace kk:=hq HB kk;replace iP:=eq_true iP;replace iQ:=eq_true iQ
      try go_wp2_with (first|((with_reducible refine am (N:=8) rfl ?_);(try(refine dl (by rfl) ?_;dsimp only));refine ar 8 40 #[.int .i64 0,.int .i64 0,.int .i64 0,.int .i64 0,.int .i64 0] ?_;intro bI hg AJ bX hb;replace az:=Ah (Kd.bW (Kd.iq (rr az.out) bI (aaq hg.symm)) hb);have zi:=gw hg (aQ HB eQ);have jR:=gw hg (aQ HB eQ);replace HB:=Ah (aK (aQ HB eQ) hb);have lq:=nn bU hg;have oI:=nm bU hg;replace bU:=nb bU hb;clear hb hg;have GA:=oI.out;have GB:=lq.out;obtain⟨FO,FP,PB,PC,PD⟩:=ah bX;obtain⟨FX,FY,PY,PZ,Pa⟩:=af bX))
      have gR:Y (Kd.R cV 40 (((((AJ.setCell ⟨bI,0,none⟩ (.int .i64 ((J l1 aT).f0))).setCell ⟨bI,1,none⟩ (.int .i64 ((J l1 aT).f1))).setCell ⟨bI,2,none⟩ (.int .i64 ((J l1 aT).f2.f0))).setCell ⟨bI,3,none⟩ (.int .i64 ((J l1 aT).f2.f1))).setCell ⟨bI,4,none⟩ (.int .i64 ((J l1 aT).f3))) w.heap.size (fun k_=>k_≠bI) u6 an):=⟨by(with_reducible repeat(first|apply Kd.al|apply Kd.ak|apply Kd.aY));exact Kd.aE (Kd.I (p:=⟨bI,4,none⟩) (Kd.I (p:=⟨bI,3,none⟩) (Kd.I (p:=⟨bI,2,none⟩) (Kd.I (p:=⟨bI,1,none⟩) (Kd.I (p:=⟨bI,0,none⟩) (Kd.aE az.out (fun k_ hk=>(⟨hk,hk.2⟩:_∧k_≠bI))) (fun _ hk=>hk.2) (.int .i64 ((J l1 aT).f0))) (fun _ hk=>hk.2) (.int .i64 ((J l1 aT).f1))) (fun _ hk=>hk.2) (.int .i64 ((J l1 aT).f2.f0))) (fun _ hk=>hk.2) (.int .i64 ((J l1 aT).f2.f1))) (fun _ hk=>hk.2) (.int .i64 ((J l1 aT).f3))) (fun _ hk=>hk.1.2)⟩;have g7:Y ((((((AJ.setCell ⟨bI,0,none⟩ (.int .i64 ((J l1 aT).f0))).setCell ⟨bI,1,none⟩ (.int .i64 ((J l1 aT).f1))).setCell ⟨bI,2,none⟩ (.int .i64 ((J l1 aT).f2.f0))).setCell ⟨bI,3,none⟩ (.int .i64 ((J l1 aT).f2.f1))).setCell ⟨bI,4,none⟩ (.int .i64 ((J l1 aT).f3))).heap[LL]?=some (.cells #[.int .i64 aA,.slice bH U.length ay,.slice bC aH.length bD] 25 (0,0))):=⟨bf bU lq⟩;have ib:Y ((((((AJ.setCell ⟨bI,0,none⟩ (.int .i64 ((J l1 aT).f0))).setCell ⟨bI,1,none⟩ (.int .i64 ((J l1 aT).f1))).setCell ⟨bI,2,none⟩ (.int .i64 ((J l1 aT).f2.f0))).setCell ⟨bI,3,none⟩ (.int .i64 ((J l1 aT).f2.f1))).setCell ⟨bI,4,none⟩ (.int .i64 ((J l1 aT).f3))).heap[bI]?=some (.cells #[.int .i64 ((J l1 aT).f0),.int .i64 ((J l1 aT).f1),.int .i64 ((J l1 aT).f2.f0),.int .i64 ((J l1 aT).f2.f1),.int .i64 ((J l1 aT).f3)] 40 (0,0))):=⟨by exact pb bX⟩;have oo:Y (Below w.heap.size w (((((AJ.setCell ⟨bI,0,none⟩ (.int .i64 ((J l1 aT).f0))).setCell ⟨bI,1,none⟩ (.int .i64 ((J l1 aT).f1))).setCell ⟨bI,2,none⟩ (.int .i64 ((J l1 aT).f2.f0))).setCell ⟨bI,3,none⟩ (.int .i64 ((J l1 aT).f2.f1))).setCell ⟨bI,4,none⟩ (.int .i64 ((J l1 aT).f3)))):=⟨aa HB eQ jR⟩;(try clear az);(try clear bU);(try clear bX);(try clear HB)
      generalize (((((AJ.setCell ⟨bI,0,none⟩ (.int .i64 ((J l1 aT).f0))).setCell ⟨bI,1,none⟩ (.int .i64 ((J l1 aT).f1))).setCell ⟨bI,2,none⟩ (.int .i64 ((J l1 aT).f2.f0))).setCell ⟨bI,3,none⟩ (.int .i64 ((J l1 aT).f2.f1))).setCell ⟨bI,4,none⟩ (.int .i64 ((J l1 aT).f3)))=Nf at gR g7 ib oo⊢
      have az:=gR;have bU:=g7;have bX:=ib;have HB:=oo;clear gR g7 ib oo;replace az:=Ah (Kd.aY az.out);replace bU:=Ah (bL bU.out);replace bX:=Ah (bL bX.out);replace HB:=Ah (ln HB.out);obtain⟨Mp,Mq,Mr⟩:=Kd.ax az.out;(first|subst Mr|(injection Mr with fd jK fe;have jL:=fd.symm;have jM:=fe.symm;clear fd jK fe;subst jL;subst jM));refine nB (n:=34) (S:=fun w'=>w'.cell? ⟨bI,0,none⟩=some (.int .i64 ((J l1 aT).f0))∧w'.cell? ⟨bI,1,none⟩=some (.int .i64 ((J l1 aT).f1))∧w'.cell? ⟨bI,2,none⟩=some (.int .i64 ((J l1 aT).f2.f0))∧w'.cell? ⟨bI,3,none⟩=some (.int .i64 ((J l1 aT).f2.f1))∧w'.cell? ⟨bI,4,none⟩=some (.int .i64 ((J l1 aT).f3))) (ds:=[]) #[false,false,false,false,false,false,false,false,false,false,false,false,false,false,false,false,false,false,false,false,false,false,false,false,false,false,false,false,false,false,false,false,false,false] (by kernel_rfl) rfl rfl ⟨(aI bX.out 0).trans rfl,(aI bX.out 1).trans rfl,(aI bX.out 2).trans rfl,(aI bX.out 3).trans rfl,(aI bX.out 4).trans rfl⟩ (fun hHeld=> ?_);refine nK dH.MM dH.Ki (fun aD dL=> ?_)
      generalize Nf.drew=SL at az bU bX HB hHeld⊢
      refine ap 0 29 aD.out ?_;refine ap 2 31 aD.out ?_;refine ap 3 32 aD.out ?_;refine f4 1 30 aD.out dL.out hHeld (hr:=by rintro w' ⟨s0,s1,s2,s3,s4⟩;go_simp;with_reducible rfl) (h:= ?_);refine i3 (i:=4) (N:=some 33) #[true,true,true,true,true,false,false,false,false,false,false,false,false,false,false,false,false,false,false,false,false,false,false,false,false,false,false,false,false,false,false,false,false,false] rfl rfl (hG aD.out (by kernel_rfl)) (by decide) (fun K hK=> ?_);refine ir abo (by kernel_rfl) rfl #[.int .i64 ((J l1 aT).f1),.int .i64 1,.int .i64 (an.length:Int)] (by rfl) rfl rfl (by(try simp only[ib,aac,aai]);first|done|rfl|(simp only[fM,aN];rfl)) ?_
      with_reducible refine(lS.calls ((J l1 aT).f1) 1 (an.length:Int) false _ Hm.out).mono ?_
      rintro e w' ⟨rfl,⟨nd,rfl⟩⟩;refine⟨_,rfl, ?_⟩;refine hK.out _ _ ⟨(aI bX.out 0).trans rfl,(aI bX.out 1).trans rfl,(aI bX.out 2).trans rfl,(aI bX.out 3).trans rfl,(aI bX.out 4).trans rfl⟩ (fun hHeld=> ?_);clear hK K;refine nq 33 ?_;refine ap 5 34 aD.out ?_;refine ap 6 35 aD.out ?_;refine bx 7 36 aD.out ?_;refine bx 8 37 aD.out ?_;refine bx 9 38 aD.out ?_;refine bx 10 39 aD.out ?_;refine ap 11 40 aD.out ?_;refine ap 12 41 aD.out ?_;refine bx 13 42 aD.out ?_;refine bx 14 43 aD.out ?_;refine bx 15 44 aD.out ?_;refine bx 16 45 aD.out ?_;refine bx 17 46 aD.out ?_;refine bx 18 47 aD.out ?_;refine bx 19 48 aD.out ?_;refine bx 20 49 aD.out ?_;refine bx 21 50 aD.out ?_;refine bx 22 51 aD.out ?_;refine bx 23 52 aD.out ?_;refine bx 24 53 aD.out ?_;refine bx 25 54 aD.out ?_;refine bx 26 55 aD.out ?_;refine bx 27 56 aD.out ?_;refine bx 28 57 aD.out ?_;refine bx 29 58 aD.out ?_;refine bx 30 59 aD.out ?_;refine bx 31 60 aD.out ?_;refine bx 32 61 aD.out ?_;refine ap 33 62 aD.out ?_;refine m5 (mO aD.out (by kernel_rfl)) ?_
      try go_wp2
      go_ret2
      exact⟨_,er,by first|exact Kd.dG _ _ _ _ _|exact Kd.dY _ _ _ _ _|exact Kd.dZ _ _ _ _ _|exact Kd.dW _ _ _ _ _|exact Kd.dX _ _ _ _ _,aa HB eQ jR⟩
     subst c19;rw[if_pos rfl]at H
     by_cases c20:(!(((J l1 aT).f2.f0)==0)||(!(((J l1 aT).f2.f1)==0)))=true
     ·
      rw[if_pos c20]at H;have BJ:(!(((J l1 aT).f2.f0)==0)||(!(((J l1 aT).f2.f1)==0)))=true:=c20;clear c20;simp only[SY,cM]at H;obtain⟨rfl,rfl⟩:=H;have iP:0≤(aT:Int):=od;have iQ:aT<(l1.length:Int):=od;obtain⟨zh,oh,kf,kg,ki,kj,kk⟩:=jQ HR1.out aT iP iQ
      cases oh
      replace kf:=hq HB kf;replace kg:=hq HB kg;replace ki:=hq HB ki;replace kj:=hq HB kj;replace kk:=hq HB kk;replace iP:=eq_true iP;replace iQ:=eq_true iQ
      try go_wp2_with (first|((with_reducible refine am (N:=8) rfl ?_);(try(refine dl (by rfl) ?_;dsimp only));refine ar 8 40 #[.int .i64 0,.int .i64 0,.int .i64 0,.int .i64 0,.int .i64 0] ?_;intro bI hg AH bX hb;replace az:=Ah (Kd.bW (Kd.iq (rr az.out) bI (aaq hg.symm)) hb);have zi:=gw hg (aQ HB eQ);have jR:=gw hg (aQ HB eQ);replace HB:=Ah (aK (aQ HB eQ) hb);have lq:=nn bU hg;have oI:=nm bU hg;replace bU:=nb bU hb;clear hb hg;have hnb22:=oI.out;have hnc22:=lq.out;obtain⟨hcz23_0,hcz23_1,hcz23_2,hcz23_3,hcz23_4⟩:=ah bX;obtain⟨hfz23_0,hfz23_1,hfz23_2,hfz23_3,hfz23_4⟩:=af bX))
      have gR:Y (Kd.R cV 40 (((((AH.setCell ⟨bI,0,none⟩ (.int .i64 ((J l1 aT).f0))).setCell ⟨bI,1,none⟩ (.int .i64 ((J l1 aT).f1))).setCell ⟨bI,2,none⟩ (.int .i64 ((J l1 aT).f2.f0))).setCell ⟨bI,3,none⟩ (.int .i64 ((J l1 aT).f2.f1))).setCell ⟨bI,4,none⟩ (.int .i64 ((J l1 aT).f3))) w.heap.size (fun k_=>k_≠bI) u6 an):=⟨by(with_reducible repeat(first|apply Kd.al|apply Kd.ak|apply Kd.aY));exact Kd.aE (Kd.I (p:=⟨bI,4,none⟩) (Kd.I (p:=⟨bI,3,none⟩) (Kd.I (p:=⟨bI,2,none⟩) (Kd.I (p:=⟨bI,1,none⟩) (Kd.I (p:=⟨bI,0,none⟩) (Kd.aE az.out (fun k_ hk=>(⟨hk,hk.2⟩:_∧k_≠bI))) (fun _ hk=>hk.2) (.int .i64 ((J l1 aT).f0))) (fun _ hk=>hk.2) (.int .i64 ((J l1 aT).f1))) (fun _ hk=>hk.2) (.int .i64 ((J l1 aT).f2.f0))) (fun _ hk=>hk.2) (.int .i64 ((J l1 aT).f2.f1))) (fun _ hk=>hk.2) (.int .i64 ((J l1 aT).f3))) (fun _ hk=>hk.1.2)⟩;have g7:Y ((((((AH.setCell ⟨bI,0,none⟩ (.int .i64 ((J l1 aT).f0))).setCell ⟨bI,1,none⟩ (.int .i64 ((J l1 aT).f1))).setCell ⟨bI,2,none⟩ (.int .i64 ((J l1 aT).f2.f0))).setCell ⟨bI,3,none⟩ (.int .i64 ((J l1 aT).f2.f1))).setCell ⟨bI,4,none⟩ (.int .i64 ((J l1 aT).f3))).heap[LL]?=some (.cells #[.int .i64 aA,.slice bH U.length ay,.slice bC aH.length bD] 25 (0,0))):=⟨bf bU lq⟩;have ib:Y ((((((AH.setCell ⟨bI,0,none⟩ (.int .i64 ((J l1 aT).f0))).setCell ⟨bI,1,none⟩ (.int .i64 ((J l1 aT).f1))).setCell ⟨bI,2,none⟩ (.int .i64 ((J l1 aT).f2.f0))).setCell ⟨bI,3,none⟩ (.int .i64 ((J l1 aT).f2.f1))).setCell ⟨bI,4,none⟩ (.int .i64 ((J l1 aT).f3))).heap[bI]?=some (.cells #[.int .i64 ((J l1 aT).f0),.int .i64 ((J l1 aT).f1),.int .i64 ((J l1 aT).f2.f0),.int .i64 ((J l1 aT).f2.f1),.int .i64 ((J l1 aT).f3)] 40 (0,0))):=⟨by exact pb bX⟩;have oo:Y (Below w.heap.size w (((((AH.setCell ⟨bI,0,none⟩ (.int .i64 ((J l1 aT).f0))).setCell ⟨bI,1,none⟩ (.int .i64 ((J l1 aT).f1))).setCell ⟨bI,2,none⟩ (.int .i64 ((J l1 aT).f2.f0))).setCell ⟨bI,3,none⟩ (.int .i64 ((J l1 aT).f2.f1))).setCell ⟨bI,4,none⟩ (.int .i64 ((J l1 aT).f3)))):=⟨aa HB eQ jR⟩;(try clear az);(try clear bU);(try clear bX);(try clear HB)
      generalize (((((AH.setCell ⟨bI,0,none⟩ (.int .i64 ((J l1 aT).f0))).setCell ⟨bI,1,none⟩ (.int .i64 ((J l1 aT).f1))).setCell ⟨bI,2,none⟩ (.int .i64 ((J l1 aT).f2.f0))).setCell ⟨bI,3,none⟩ (.int .i64 ((J l1 aT).f2.f1))).setCell ⟨bI,4,none⟩ (.int .i64 ((J l1 aT).f3)))=Nb at gR g7 ib oo⊢
      have az:=gR;have bU:=g7;have bX:=ib;have HB:=oo;clear gR g7 ib oo;replace az:=Ah (Kd.aY az.out);replace bU:=Ah (bL bU.out);replace bX:=Ah (bL bX.out);replace HB:=Ah (ln HB.out);obtain⟨jx,jy,HN⟩:=Kd.ax az.out;(first|subst HN|(injection HN with fd jK fe;have jL:=fd.symm;have jM:=fe.symm;clear fd jK fe;subst jL;subst jM));refine nB (n:=34) (S:=fun w'=>w'.cell? ⟨bI,0,none⟩=some (.int .i64 ((J l1 aT).f0))∧w'.cell? ⟨bI,1,none⟩=some (.int .i64 ((J l1 aT).f1))∧w'.cell? ⟨bI,2,none⟩=some (.int .i64 ((J l1 aT).f2.f0))∧w'.cell? ⟨bI,3,none⟩=some (.int .i64 ((J l1 aT).f2.f1))∧w'.cell? ⟨bI,4,none⟩=some (.int .i64 ((J l1 aT).f3))) (ds:=[]) #[false,false,false,false,false,false,false,false,false,false,false,false,false,false,false,false,false,false,false,false,false,false,false,false,false,false,false,false,false,false,false,false,false,false] (by kernel_rfl) rfl rfl ⟨(aI bX.out 0).trans rfl,(aI bX.out 1).trans rfl,(aI bX.out 2).trans rfl,(aI bX.out 3).trans rfl,(aI bX.out 4).trans rfl⟩ (fun hHeld=> ?_);refine nK dH.MM dH.Ki (fun aD dL=> ?_)
      generalize Nb.drew=n4 at az bU bX HB hHeld⊢
      refine ap 0 29 aD.out ?_;refine ap 2 31 aD.out ?_;refine ap 3 32 aD.out ?_;refine f4 1 30 aD.out dL.out hHeld (hr:=by rintro w' ⟨s0,s1,s2,s3,s4⟩;go_simp;with_reducible rfl) (h:= ?_);refine i3 (i:=4) (N:=some 33) #[true,true,true,true,true,false,false,false,false,false,false,false,false,false,false,false,false,false,false,false,false,false,false,false,false,false,false,false,false,false,false,false,false,false] rfl rfl (hG aD.out (by kernel_rfl)) (by decide) (fun K hK=> ?_);refine ir abo (by kernel_rfl) rfl #[.int .i64 ((J l1 aT).f1),.int .i64 1,.int .i64 (an.length:Int)] (by rfl) rfl rfl (by(try simp only[ib,aac,aai]);first|done|rfl|(simp only[fM,aN];rfl)) ?_
      with_reducible refine(lS.calls ((J l1 aT).f1) 1 (an.length:Int) true _ Hm.out).mono ?_
      rintro e w' ⟨rfl,⟨nd,rfl⟩⟩;refine⟨_,rfl, ?_⟩;refine hK.out _ _ ⟨(aI bX.out 0).trans rfl,(aI bX.out 1).trans rfl,(aI bX.out 2).trans rfl,(aI bX.out 3).trans rfl,(aI bX.out 4).trans rfl⟩ (fun hHeld=> ?_);clear hK K;refine nq 33 ?_;refine ap 5 34 aD.out ?_;refine ap 6 35 aD.out ?_;refine ap 7 36 aD.out ?_;refine ap 9 38 aD.out ?_;refine f4 8 37 aD.out dL.out hHeld (hr:=by rintro w' ⟨s0,s1,s2,s3,s4⟩;go_simp;with_reducible rfl) (h:= ?_);refine ap 10 39 aD.out ?_;refine ap 11 40 aD.out ?_;refine ap 12 41 aD.out ?_;refine bx 13 42 aD.out ?_;refine bx 14 43 aD.out ?_;refine bx 15 44 aD.out ?_;refine bx 16 45 aD.out ?_;refine bx 17 46 aD.out ?_;refine bx 18 47 aD.out ?_;refine bx 19 48 aD.out ?_;refine bx 20 49 aD.out ?_;refine bx 21 50 aD.out ?_;refine bx 22 51 aD.out ?_;refine bx 23 52 aD.out ?_;refine bx 24 53 aD.out ?_;refine bx 25 54 aD.out ?_;refine bx 26 55 aD.out ?_;refine bx 27 56 aD.out ?_;refine bx 28 57 aD.out ?_;refine bx 29 58 aD.out ?_;refine bx 30 59 aD.out ?_;refine bx 31 60 aD.out ?_;refine bx 32 61 aD.out ?_;refine ap 33 62 aD.out ?_;refine m5 (mO aD.out (by kernel_rfl)) ?_
      try go_wp2
      go_ret2
      exact⟨_,er,by first|exact Kd.dG _ _ _ _ _|exact Kd.dY _ _ _ _ _|exact Kd.dZ _ _ _ _ _|exact Kd.dW _ _ _ _ _|exact Kd.dX _ _ _ _ _,aa HB eQ jR⟩
     rw[if_neg c20]at H
     have BJ:(!(((J l1 aT).f2.f0)==0)||(!(((J l1 aT).f2.f1)==0)))=false:=by simpa using c20
     clear c20;obtain⟨cL,GV⟩:∃j_:Int,(Ee (((J l1 aT).f1)-1))=j_:=⟨_,rfl⟩
     replace H:(if 0≤(cL)then(if(cL)<(an.length:Int)then((lS.f ((J l1 aT).f3) (Ee (((J an (cL)).f3)+1)) ((J an (cL)).f2.f1)).bind fun Mm=>(if Mm=true then(dH.l0 k2 (an.set ((cL):Int).toNat (⟨(J an (cL)).f0,(J an (cL)).f1,(⟨(J an (cL)).f2.f0,(J an (cL)).f2.f1⟩:X),(J l1 aT).f3⟩:aV)) l1 (l1.length:Int) (Ee (aT+1)) aA U aH)else(some (([]:List (aV)),false))))else(none))else(none))=some (r1,r2):=by first|(rw[GV]at H;exact H)|(simp only[GV]at H⊢;exact H)
     (try rw[GV]at Hm);have hji27w:(IntKind.i64.wrap (((J l1 aT).f1)-1))=cL:=(lr _).trans GV
     by_cases c28:0≤(cL)
     rotate_left
     ·
      rw[if_neg c28]at H;exact absurd H (by simp)
     rw[if_pos c28]at H;have WL:=bS c28;clear c28
     by_cases kQ:(cL)<(an.length:Int)
     rotate_left
     ·
      rw[if_neg kQ]at H;exact absurd H (by simp)
     rw[if_pos kQ]at H;have BG:=bS kQ;clear kQ;replace H:=Hc.mp H;obtain⟨Mm,MW,H⟩:=H
     try dsimp only at H
     have dz:=Ah MW;clear MW;have H_:=Ah H;clear H;have iP:0≤(aT:Int):=od;have iQ:aT<(l1.length:Int):=od;obtain⟨zh,oh,kf,kg,ki,kj,kk⟩:=jQ HR1.out aT iP iQ
     cases oh
     replace kf:=hq HB kf;replace kg:=hq HB kg;replace ki:=hq HB ki;replace kj:=hq HB kj;replace kk:=hq HB kk;replace iP:=eq_true iP;replace iQ:=eq_true iQ
     try go_wp2_with (first|((with_reducible refine am (N:=8) rfl ?_);(try(refine dl (by rfl) ?_;dsimp only));refine ar 8 40 #[.int .i64 0,.int .i64 0,.int .i64 0,.int .i64 0,.int .i64 0] ?_;intro bI hg He bX hb;replace az:=Ah (Kd.bW (Kd.iq (rr az.out) bI (aaq hg.symm)) hb);have zi:=gw hg (aQ HB eQ);have jR:=gw hg (aQ HB eQ);replace HB:=Ah (aK (aQ HB eQ) hb);have lq:=nn bU hg;have oI:=nm bU hg;replace bU:=nb bU hb;clear hb hg;have hnb34:=oI.out;have hnc34:=lq.out;obtain⟨hcz35_0,hcz35_1,hcz35_2,hcz35_3,hcz35_4⟩:=ah bX;obtain⟨hfz35_0,hfz35_1,hfz35_2,hfz35_3,hfz35_4⟩:=af bX))
     have gR:Y (Kd.R cV 40 (((((He.setCell ⟨bI,0,none⟩ (.int .i64 ((J l1 aT).f0))).setCell ⟨bI,1,none⟩ (.int .i64 ((J l1 aT).f1))).setCell ⟨bI,2,none⟩ (.int .i64 ((J l1 aT).f2.f0))).setCell ⟨bI,3,none⟩ (.int .i64 ((J l1 aT).f2.f1))).setCell ⟨bI,4,none⟩ (.int .i64 ((J l1 aT).f3))) w.heap.size (fun k_=>k_≠bI) u6 an):=⟨by(with_reducible repeat(first|apply Kd.al|apply Kd.ak|apply Kd.aY));exact Kd.aE (Kd.I (p:=⟨bI,4,none⟩) (Kd.I (p:=⟨bI,3,none⟩) (Kd.I (p:=⟨bI,2,none⟩) (Kd.I (p:=⟨bI,1,none⟩) (Kd.I (p:=⟨bI,0,none⟩) (Kd.aE az.out (fun k_ hk=>(⟨hk,hk.2⟩:_∧k_≠bI))) (fun _ hk=>hk.2) (.int .i64 ((J l1 aT).f0))) (fun _ hk=>hk.2) (.int .i64 ((J l1 aT).f1))) (fun _ hk=>hk.2) (.int .i64 ((J l1 aT).f2.f0))) (fun _ hk=>hk.2) (.int .i64 ((J l1 aT).f2.f1))) (fun _ hk=>hk.2) (.int .i64 ((J l1 aT).f3))) (fun _ hk=>hk.1.2)⟩;have g7:Y ((((((He.setCell ⟨bI,0,none⟩ (.int .i64 ((J l1 aT).f0))).setCell ⟨bI,1,none⟩ (.int .i64 ((J l1 aT).f1))).setCell ⟨bI,2,none⟩ (.int .i64 ((J l1 aT).f2.f0))).setCell ⟨bI,3,none⟩ (.int .i64 ((J l1 aT).f2.f1))).setCell ⟨bI,4,none⟩ (.int .i64 ((J l1 aT).f3))).heap[LL]?=some (.cells #[.int .i64 aA,.slice bH U.length ay,.slice bC aH.length bD] 25 (0,0))):=⟨bf bU lq⟩;have ib:Y ((((((He.setCell ⟨bI,0,none⟩ (.int .i64 ((J l1 aT).f0))).setCell ⟨bI,1,none⟩ (.int .i64 ((J l1 aT).f1))).setCell ⟨bI,2,none⟩ (.int .i64 ((J l1 aT).f2.f0))).setCell ⟨bI,3,none⟩ (.int .i64 ((J l1 aT).f2.f1))).setCell ⟨bI,4,none⟩ (.int .i64 ((J l1 aT).f3))).heap[bI]?=some (.cells #[.int .i64 ((J l1 aT).f0),.int .i64 ((J l1 aT).f1),.int .i64 ((J l1 aT).f2.f0),.int .i64 ((J l1 aT).f2.f1),.int .i64 ((J l1 aT).f3)] 40 (0,0))):=⟨by exact pb bX⟩;have oo:Y (Below w.heap.size w (((((He.setCell ⟨bI,0,none⟩ (.int .i64 ((J l1 aT).f0))).setCell ⟨bI,1,none⟩ (.int .i64 ((J l1 aT).f1))).setCell ⟨bI,2,none⟩ (.int .i64 ((J l1 aT).f2.f0))).setCell ⟨bI,3,none⟩ (.int .i64 ((J l1 aT).f2.f1))).setCell ⟨bI,4,none⟩ (.int .i64 ((J l1 aT).f3)))):=⟨aa HB eQ jR⟩;(try clear az);(try clear bU);(try clear bX);(try clear HB)
     generalize (((((He.setCell ⟨bI,0,none⟩ (.int .i64 ((J l1 aT).f0))).setCell ⟨bI,1,none⟩ (.int .i64 ((J l1 aT).f1))).setCell ⟨bI,2,none⟩ (.int .i64 ((J l1 aT).f2.f0))).setCell ⟨bI,3,none⟩ (.int .i64 ((J l1 aT).f2.f1))).setCell ⟨bI,4,none⟩ (.int .i64 ((J l1 aT).f3)))=SZ at gR g7 ib oo⊢
     have az:=gR;have bU:=g7;have bX:=ib;have HB:=oo;clear gR g7 ib oo;replace az:=Ah (Kd.aY az.out);replace bU:=Ah (bL bU.out);replace bX:=Ah (bL bX.out);replace HB:=Ah (ln HB.out);obtain⟨oA,mT,Do⟩:=Kd.ax az.out;(first|subst Do|(injection Do with fd jK fe;have jL:=fd.symm;have jM:=fe.symm;clear fd jK fe;subst jL;subst jM));have ZC:0≤((cL):Int):=od;have ZD:(cL)<(an.length:Int):=od;obtain⟨oS,e617,VP,VQ,VR,VS,VT⟩:=jQ (Kd.ab az.out).2.2 (cL) ZC ZD
     cases e617
     replace ZC:=eq_true ZC;replace ZD:=eq_true ZD;have ZE:0≤((cL):Int):=od;have ZF:(cL)<(an.length:Int):=od;obtain⟨ad618,e618,VU,VV,VW,VX,VY⟩:=jQ (Kd.ab az.out).2.2 (cL) ZE ZF;obtain rfl:oS=ad618:=(by injection e618);replace ZE:=eq_true ZE;replace ZF:=eq_true ZF;refine nB (n:=34) (S:=fun w'=>w'.cell? ⟨bI,0,none⟩=some (.int .i64 ((J l1 aT).f0))∧w'.cell? ⟨bI,1,none⟩=some (.int .i64 ((J l1 aT).f1))∧w'.cell? ⟨bI,2,none⟩=some (.int .i64 ((J l1 aT).f2.f0))∧w'.cell? ⟨bI,3,none⟩=some (.int .i64 ((J l1 aT).f2.f1))∧w'.cell? ⟨bI,4,none⟩=some (.int .i64 ((J l1 aT).f3))∧w'.cell? (oS.add (((cL)).toNat*5))=some (.int .i64 ((J an (cL)).f0))∧w'.cell? ⟨(oS.add (((cL)).toNat*5)).block,(oS.add (((cL)).toNat*5)).off+1,none⟩=some (.int .i64 ((J an (cL)).f1))∧w'.cell? ⟨(oS.add (((cL)).toNat*5)).block,(oS.add (((cL)).toNat*5)).off+2,none⟩=some (.int .i64 ((J an (cL)).f2.f0))∧w'.cell? ⟨(oS.add (((cL)).toNat*5)).block,(oS.add (((cL)).toNat*5)).off+3,none⟩=some (.int .i64 ((J an (cL)).f2.f1))∧w'.cell? ⟨(oS.add (((cL)).toNat*5)).block,(oS.add (((cL)).toNat*5)).off+4,none⟩=some (.int .i64 ((J an (cL)).f3))∧w'.cell? (oS.add (((cL)).toNat*5))=some (.int .i64 ((J an (cL)).f0))∧w'.cell? ⟨(oS.add (((cL)).toNat*5)).block,(oS.add (((cL)).toNat*5)).off+1,none⟩=some (.int .i64 ((J an (cL)).f1))∧w'.cell? ⟨(oS.add (((cL)).toNat*5)).block,(oS.add (((cL)).toNat*5)).off+2,none⟩=some (.int .i64 ((J an (cL)).f2.f0))∧w'.cell? ⟨(oS.add (((cL)).toNat*5)).block,(oS.add (((cL)).toNat*5)).off+3,none⟩=some (.int .i64 ((J an (cL)).f2.f1))∧w'.cell? ⟨(oS.add (((cL)).toNat*5)).block,(oS.add (((cL)).toNat*5)).off+4,none⟩=some (.int .i64 ((J an (cL)).f3))) (ds:=[]) #[false,false,false,false,false,false,false,false,false,false,false,false,false,false,false,false,false,false,false,false,false,false,false,false,false,false,false,false,false,false,false,false,false,false] (by kernel_rfl) rfl rfl ⟨(aI bX.out 0).trans rfl,(aI bX.out 1).trans rfl,(aI bX.out 2).trans rfl,(aI bX.out 3).trans rfl,(aI bX.out 4).trans rfl,VP,VQ,VR,VS,VT,VU,VV,VW,VX,VY⟩ (fun hHeld=> ?_);refine nK dH.MM dH.Ki (fun aD dL=> ?_)
     generalize SZ.drew=mK at az bU bX HB VP VQ VR VS VT VU VV VW VX VY hHeld⊢
     refine ap 0 29 aD.out ?_;refine ap 2 31 aD.out ?_;refine ap 3 32 aD.out ?_;refine f4 1 30 aD.out dL.out hHeld (hr:=by rintro w' ⟨s0,s1,s2,s3,s4,s5,s6,s7,s8,s9,s10,s11,s12,s13,yS⟩;go_simp;with_reducible rfl) (h:= ?_);refine i3 (i:=4) (N:=some 33) #[true,true,true,true,true,false,false,false,false,false,false,false,false,false,false,false,false,false,false,false,false,false,false,false,false,false,false,false,false,false,false,false,false,false] rfl rfl (hG aD.out (by kernel_rfl)) (by decide) (fun K hK=> ?_);refine ir abo (by kernel_rfl) rfl #[.int .i64 ((J l1 aT).f1),.int .i64 1,.int .i64 (an.length:Int)] (by rfl) rfl rfl (by(try simp only[ib,aac,aai]);first|done|rfl|(simp only[fM,aN];rfl)) ?_
     with_reducible refine(lS.calls ((J l1 aT).f1) 1 (an.length:Int) true _ Hm.out).mono ?_
     rintro e w' ⟨rfl,⟨nd,rfl⟩⟩;refine⟨_,rfl, ?_⟩;refine hK.out _ _ ⟨(aI bX.out 0).trans rfl,(aI bX.out 1).trans rfl,(aI bX.out 2).trans rfl,(aI bX.out 3).trans rfl,(aI bX.out 4).trans rfl,hHeld.2.2.2.2.2.1,hHeld.2.2.2.2.2.2.1,hHeld.2.2.2.2.2.2.2.1,hHeld.2.2.2.2.2.2.2.2.1,hHeld.2.2.2.2.2.2.2.2.2.1,hHeld.2.2.2.2.2.2.2.2.2.2.1,hHeld.2.2.2.2.2.2.2.2.2.2.2.1,hHeld.2.2.2.2.2.2.2.2.2.2.2.2.1,hHeld.2.2.2.2.2.2.2.2.2.2.2.2.2.1,hHeld.2.2.2.2.2.2.2.2.2.2.2.2.2.2⟩ (fun hHeld=> ?_);clear hK K;refine nq 33 ?_;refine ap 5 34 aD.out ?_;refine ap 6 35 aD.out ?_;refine ap 7 36 aD.out ?_;refine ap 9 38 aD.out ?_;refine f4 8 37 aD.out dL.out hHeld (hr:=by rintro w' ⟨s0,s1,s2,s3,s4,s5,s6,s7,s8,s9,s10,s11,s12,s13,yS⟩;go_simp;with_reducible rfl) (h:= ?_);refine ap 10 39 aD.out ?_;refine ap 11 40 aD.out ?_;refine ap 12 41 aD.out ?_;refine ap 13 42 aD.out ?_;refine ap 15 44 aD.out ?_;refine ap 16 45 aD.out ?_;refine ap 23 52 aD.out ?_;refine ap 24 53 aD.out ?_;refine f4 14 43 aD.out dL.out hHeld (hr:=by rintro w' ⟨s0,s1,s2,s3,s4,s5,s6,s7,s8,s9,s10,s11,s12,s13,yS⟩;go_simp;with_reducible rfl) (h:= ?_);refine f4 17 46 aD.out dL.out hHeld (hr:=by rintro w' ⟨s0,s1,s2,s3,s4,s5,s6,s7,s8,s9,s10,s11,s12,s13,yS⟩;go_simp;with_reducible rfl) (h:= ?_);refine ap 18 47 aD.out ?_;refine ap 19 48 aD.out ?_;refine ap 20 49 aD.out ?_;refine f4 21 50 aD.out dL.out hHeld (hr:=by rintro w' ⟨s0,s1,s2,s3,s4,s5,s6,s7,s8,s9,s10,s11,s12,s13,yS⟩;go_simp;with_reducible rfl) (h:= ?_);refine ap 22 51 aD.out ?_;refine f4 25 54 aD.out dL.out hHeld (hr:=by rintro w' ⟨s0,s1,s2,s3,s4,s5,s6,s7,s8,s9,s10,s11,s12,s13,yS⟩;go_simp;with_reducible rfl) (h:= ?_);refine ap 26 55 aD.out ?_;refine ap 27 56 aD.out ?_;refine ap 28 57 aD.out ?_;refine ap 29 58 aD.out ?_;refine f4 30 59 aD.out dL.out hHeld (hr:=by rintro w' ⟨s0,s1,s2,s3,s4,s5,s6,s7,s8,s9,s10,s11,s12,s13,yS⟩;go_simp;with_reducible rfl) (h:= ?_);refine i3 (i:=31) (N:=some 60) #[true,true,true,true,true,true,true,true,true,true,true,true,true,true,true,true,true,true,true,true,true,true,true,true,true,true,true,true,true,true,true,true,false,false] rfl rfl (hG aD.out (by kernel_rfl)) (by decide) (fun K hK=> ?_);refine ir Try.func25 (by kernel_rfl) rfl #[.int .i64 ((J l1 aT).f3),.int .i64 (wrap64 (((J an (cL)).f3)+1)),.int .i64 ((J an (cL)).f2.f1)] (by rfl) rfl rfl (by(try simp only[List.map_toArray,List.map_cons,List.map_nil]);first|done|(simp only[GV];rfl)|rfl|(simp only[List.length_drop,List.length_take];rfl)) ?_;have H:=H_.out;clear H_
     by_cases c31:Mm=true
     rotate_left
     ·
      replace c31:=Q3.mpr c31;subst c31;rw[if_neg dc]at H;simp only[SY,cM]at H;obtain⟨rfl,rfl⟩:=H
      with_reducible refine(lS.calls ((J l1 aT).f3) (Ee (((J an (cL)).f3)+1)) ((J an (cL)).f2.f1) false _ dz.out).mono ?_
      rintro e w' ⟨rfl,⟨nd,rfl⟩⟩;refine⟨_,rfl, ?_⟩;refine hK.out _ _ ⟨(aI bX.out 0).trans rfl,(aI bX.out 1).trans rfl,(aI bX.out 2).trans rfl,(aI bX.out 3).trans rfl,(aI bX.out 4).trans rfl,hHeld.2.2.2.2.2.1,hHeld.2.2.2.2.2.2.1,hHeld.2.2.2.2.2.2.2.1,hHeld.2.2.2.2.2.2.2.2.1,hHeld.2.2.2.2.2.2.2.2.2.1,hHeld.2.2.2.2.2.2.2.2.2.2.1,hHeld.2.2.2.2.2.2.2.2.2.2.2.1,hHeld.2.2.2.2.2.2.2.2.2.2.2.2.1,hHeld.2.2.2.2.2.2.2.2.2.2.2.2.2.1,hHeld.2.2.2.2.2.2.2.2.2.2.2.2.2.2⟩ (fun hHeld=> ?_);clear hK K;refine nq 60 ?_;refine ap 32 61 aD.out ?_;refine ap 33 62 aD.out ?_;refine m5 (mO aD.out (by kernel_rfl)) ?_
      try go_wp2
      go_ret2
      exact⟨_,by first|rfl|(simp[rZ,ra]<;>rfl)|(simp only[←GV];first|rfl|(simp[rZ,ra]<;>rfl))|(simp[*,rZ,ra]<;>rfl),by first|exact Kd.dG _ _ _ _ _|exact Kd.dY _ _ _ _ _|exact Kd.dZ _ _ _ _ _|exact Kd.dW _ _ _ _ _|exact Kd.dX _ _ _ _ _,aa HB eQ jR⟩
     subst c31;rw[if_pos rfl]at H;obtain⟨ZG,LO⟩:∃y_:List (aV),y_=(an.set ((cL):Int).toNat (⟨(J an (cL)).f0,(J an (cL)).f1,(⟨(J an (cL)).f2.f0,(J an (cL)).f2.f1⟩:X),(J l1 aT).f3⟩:aV)):=⟨_,rfl⟩
     replace H:(dH.l0 k2 ZG l1 (l1.length:Int) (Ee (aT+1)) aA U aH)=some (r1,r2):=by first|(rw[LO];with_reducible exact H)|(have ai:=(N6 _ _).symm.trans H;rw[LO];with_reducible exact ai)|(have ai:=(N6 _ _).symm.trans H;with_reducible exact ai)|with_reducible exact H|(rw[LO];exact H)|exact H
     have Ny620:=Ah LO;clear LO;have H':=Ah H;clear H
     with_reducible refine(lS.calls ((J l1 aT).f3) (Ee (((J an (cL)).f3)+1)) ((J an (cL)).f2.f1) true _ dz.out).mono ?_
     rintro e w' ⟨rfl,⟨nd,rfl⟩⟩;refine⟨_,rfl, ?_⟩;refine hK.out _ _ ⟨(aI bX.out 0).trans rfl,(aI bX.out 1).trans rfl,(aI bX.out 2).trans rfl,(aI bX.out 3).trans rfl,(aI bX.out 4).trans rfl,hHeld.2.2.2.2.2.1,hHeld.2.2.2.2.2.2.1,hHeld.2.2.2.2.2.2.2.1,hHeld.2.2.2.2.2.2.2.2.1,hHeld.2.2.2.2.2.2.2.2.2.1,hHeld.2.2.2.2.2.2.2.2.2.2.1,hHeld.2.2.2.2.2.2.2.2.2.2.2.1,hHeld.2.2.2.2.2.2.2.2.2.2.2.2.1,hHeld.2.2.2.2.2.2.2.2.2.2.2.2.2.1,hHeld.2.2.2.2.2.2.2.2.2.2.2.2.2.2⟩ (fun hHeld=> ?_);clear hK K;refine nq 60 ?_;refine ap 32 61 aD.out ?_;refine ap 33 62 aD.out ?_;refine m5 (mO aD.out (by kernel_rfl)) ?_;obtain⟨VK,hcz39_1,hcz39_2,hcz39_3,hcz39_4⟩:=ah bX;obtain⟨VL,hfz39_1,hfz39_2,hfz39_3,hfz39_4⟩:=af bX;have p32:0≤((cL):Int):=od;have q32:((cL):Int)<((an.length:Int):Int):=od;obtain⟨rR,co32,S7,gb32,gl32,cl32,HG32⟩:=Kd.Ft az.out (by omega);(first|cases S7|(injection S7 with lE wo wq;(first|subst lE|(injection lE with lE;subst lE));subst wq;clear wo));have GB32:=Ah gb32;have GG32:=Ah HG32;clear gb32 gl32 HG32;(first|simp only[k8]at VP|skip);(first|simp only[k8]at VQ|skip);(first|simp only[k8]at VR|skip);(first|simp only[k8]at VS|skip);(first|simp only[k8]at VT|skip);(first|simp only[k8]at VU|skip);(first|simp only[k8]at VV|skip);(first|simp only[k8]at VW|skip);(first|simp only[k8]at VX|skip);(first|simp only[k8]at VY|skip);obtain⟨ce32,hcl32,hM32,GW,GX⟩:=Kd.u0 az.out cr ((cL):Int) p32 q32;obtain rfl:=T4 hM32;have hx32_0:mK.cell? ⟨rR,((cL):Int).toNat*5,none⟩=some (.int .i64 ((J an (cL)).f0)):=GW 0 _ rfl;have hx32_1:mK.cell? ⟨rR,((cL):Int).toNat*5+1,none⟩=some (.int .i64 ((J an (cL)).f1)):=GW 1 _ rfl;have hx32_2:mK.cell? ⟨rR,((cL):Int).toNat*5+2,none⟩=some (.int .i64 ((J an (cL)).f2.f0)):=GW 2 _ rfl;have hx32_3:mK.cell? ⟨rR,((cL):Int).toNat*5+3,none⟩=some (.int .i64 ((J an (cL)).f2.f1)):=GW 3 _ rfl;have hx32_4:mK.cell? ⟨rR,((cL):Int).toNat*5+4,none⟩=some (.int .i64 ((J an (cL)).f3)):=GW 4 _ rfl;have hf32_0:mK.frozen? ⟨rR,((cL):Int).toNat*5,none⟩=false:=GX 0;have hf32_1:mK.frozen? ⟨rR,((cL):Int).toNat*5+1,none⟩=false:=GX 1;have hf32_2:mK.frozen? ⟨rR,((cL):Int).toNat*5+2,none⟩=false:=GX 2;have hf32_3:mK.frozen? ⟨rR,((cL):Int).toNat*5+3,none⟩=false:=GX 3;have hf32_4:mK.frozen? ⟨rR,((cL):Int).toNat*5+4,none⟩=false:=GX 4;clear hcl32 GW GX hM32;replace p32:=eq_true p32;replace q32:=eq_true q32;have Ms:=Ah (show Kd.R cV 40 mK w.heap.size (fun k_=>k_≠bI) (.slice (some ⟨rR,0,none⟩) an.length mT) an from(rr az.out));obtain⟨ce40,LP,Mt,Da,LQ⟩:=Kd.u0 Ms.out cr ((cL):Int) (od) (by have h_:((cL):Int)<((an.length:Int):Int):=od;first|exact h_|(have e_:=(Kd.ab az.out).1;omega)|simpa using h_);obtain rfl:=T4 Mt;have S8:=Kd.BA Ms.out ((cL):Int) (od) (by have h_:((cL):Int)<((an.length:Int):Int):=od;first|exact h_|(have e_:=(Kd.ab az.out).1;omega)|simpa using h_) (seg:=[.int .i64 ((J l1 aT).f3)]) (j:=4) LP Da (show 5≤5 from by decide) (x':=(⟨(J an (cL)).f0,(J an (cL)).f1,(⟨(J an (cL)).f2.f0,(J an (cL)).f2.f1⟩:X),(J l1 aT).f3⟩:aV)) (sj _ _ _ (⟨(J an (cL)).f0,(J an (cL)).f1,(⟨(J an (cL)).f2.f0,(J an (cL)).f2.f1⟩:X),(J l1 aT).f3⟩:aV)) (fun _ hk=>hk);have Vo:=Da 4 _ rfl;(try simp only[show(cV).sz=5 from rfl,aaI,aaE]at Vo);have Vp:=LQ 4;(try simp only[show(cV).sz=5 from rfl,aaI,aaE]at Vp);clear LP Da LQ Mt
     try go_wp2_with (first|((with_reducible refine Ck (t:=3) (p:=70) rfl ?_);(try(rw[Et mK];generalize lR:aaC mK _=mK;replace az:=Ah (Kd.RL lR az.out);replace bU:=Ah (JV lR bU.out);replace bX:=Ah (JV lR bX.out);replace HB:=Ah (OQ lR HB.out);clear lR;(try(have Ms:=Ah (show Kd.R cV 40 mK w.heap.size (fun k_=>k_≠bI) (.slice (some ⟨rR,0,none⟩) an.length mT) an from(rr az.out))));(try(obtain⟨ce40,LP,Mt,Da,LQ⟩:=Kd.u0 Ms.out cr ((cL):Int) (od) (by have h_:((cL):Int)<((an.length:Int):Int):=od;first|exact h_|(have e_:=(Kd.ab az.out).1;omega)|simpa using h_)));(try(obtain rfl:=T4 Mt));(try(have S8:=Kd.BA Ms.out ((cL):Int) (od) (by have h_:((cL):Int)<((an.length:Int):Int):=od;first|exact h_|(have e_:=(Kd.ab az.out).1;omega)|simpa using h_) (seg:=[.int .i64 ((J l1 aT).f3)]) (j:=4) LP Da (show 5≤5 from by decide) (x':=(⟨(J an (cL)).f0,(J an (cL)).f1,(⟨(J an (cL)).f2.f0,(J an (cL)).f2.f1⟩:X),(J l1 aT).f3⟩:aV)) (sj _ _ _ (⟨(J an (cL)).f0,(J an (cL)).f1,(⟨(J an (cL)).f2.f0,(J an (cL)).f2.f1⟩:X),(J l1 aT).f3⟩:aV)) (fun _ hk=>hk)));(try(have Vo:=Da 4 _ rfl));(try(try simp only[show(cV).sz=5 from rfl,aaI,aaE]at Vo));(try(have Vp:=LQ 4));(try(try simp only[show(cV).sz=5 from rfl,aaI,aaE]at Vp));(try(clear LP Da LQ Mt))));refine Ci (t:=3) (p:=70) (v:= ?vo_w41) (w1:=(mK.setCell ⟨rR,((cL):Int).toNat*5+4,none⟩ (.int .i64 ((J l1 aT).f3)))) ?hg ?ho ?hn ?hr ?_;(case ho=>rfl);(case hg=>rfl);(case hn=>rfl);(case hr=>first|(go_simp;done)|(go_simp;rfl));intro HZ hw;have hg:mK.grownBy HZ (some rR):=(by rw[hw];exact S8.2);have pu:Kd.R cV 40 HZ w.heap.size (fun k_=>k_≠bI) (.slice (some ⟨rR,0,none⟩) an.length mT) ZG:=(by rw[hw,Ny620.out];exact S8.1);clear S8;replace bU:=Ah (cC (bk bU) hg (Kd.cY az.out bU.out (by decide)));replace bX:=Ah (cC (bk bX) hg (Kd.jq az.out (fun _ hk=>hk)));replace az:=Ah (pu);replace HB:=Ah ((by rw[hw];exact ue (HB.out) GB32.out:Below w.heap.size w HZ));clear hg hw pu))
     go_roundg k2
     case measure=>have:=HJ2.out;have:=dF.out;omega
     case rel=>exact⟨(ZG),(Ee (aT+1)),e3,H',⟨by have:=HJ2.out;have:=dF.out;omega⟩,rm az (fun _ hk=>trivial),⟨bk bU⟩,⟨aa HB eQ jR⟩⟩
def tc.f(k:Nat)(aA:Int)(U:List (X))(aH:List (X))(bl:Int)(bO:List (aV)):Option ((List (aV))×Bool):=(dH.f k aA U aH bO).bind fun Db=>(if Db.2=true then(if bl=(Ee ((Db.1.length:Int)+1))then(some (Db.1,true))else(some (([]:List (aV)),false)))else(some (([]:List (aV)),false)))
theorem tc.mono:∀a0 a1 a2 a3 a4 k,aG (tc.f k a0 a1 a2 a3 a4) (tc.f (k+1) a0 a1 a2 a3 a4):=by
 intro a0 a1 a2 a3 a4 k;unfold tc.f
 repeat' with_reducible first|exact dH.mono _ _ _ _ _|exact aG.refl _|exact aG.none _|refine aG.ite ?_ ?_|refine aG.bind ?_ (fun _=> ?_)
theorem tc.calls(k:Nat)(aA:Int)(bH:Option Addr)(ay:Nat)(U:List (X))(bC:Option Addr)(bD:Nat)(aH:List (X))(bl:Int)(em:Option Addr)(en:Nat)(bO:List (aV))(r1:List (aV))(r2:Bool)(w:World)(fC:Kd.C ag w bH U.length U)(fD:U.length≤ay)(fE:Kd.C ag w bC aH.length aH)(fF:aH.length≤bD)(mh:Kd.C cV w em bO.length bO)(mi:bO.length≤en)(h:tc.f k aA U aH bl bO=some (r1,r2)):
 Calls sX 22 #[.agg #[.int .i64 aA,.slice bH U.length ay,.slice bC aH.length bD,.int .i64 bl,.slice em bO.length en]] w fun e w'=>∃n3:Value,e= .returned (.tuple #[n3,.bool r2])∧Kd.R cV 40 w' w.heap.size (fun _=>True) n3 r1∧Below w.heap.size w w':=by
 have uP:=aab;have o8:=aah;have cx:=Ah fC;have dv:=Ah fD;clear fC fD;have eV:=Ah fE;have eW:=Ah fF;clear fE fF;have ls:=Ah mh;have m8:=Ah mi;clear mh mi;have HB:=Ah (gR w.heap.size w);have H:((dH.f k aA U aH bO).bind fun Db=>(if Db.2=true then(if bl=(Ee ((Db.1.length:Int)+1))then(some (Db.1,true))else(some (([]:List (aV)),false)))else(some (([]:List (aV)),false))))=some (r1,r2):=h;clear h;replace H:=Hc.mp H;obtain⟨⟨S9,t631⟩,kR,H⟩:=H
 try dsimp only at H
 have A2:=Ah kR;clear kR
 by_cases c3:t631=true
 rotate_left
 ·
  replace c3:=Q3.mpr c3;subst c3;rw[if_neg dc]at H;simp only[SY,cM]at H;obtain⟨rfl,rfl⟩:=H
  go_enter Try.func22,Try.ntmps22
  go_wp2_with (first|((with_reducible refine am (N:=1) rfl ?_);(try(refine dl (by rfl) ?_;dsimp only));refine ar 1 28 #[.int .i64 aA,.slice bH U.length ay,.slice bC aH.length bD,.int .i64 bl,.slice em bO.length en] ?_;intro gb627 hg NL pK hb;have GW627:=gw hg (bs HB);have vk:=gw hg (bs HB);replace HB:=Ah (aK (bs HB) hb);clear hb hg;obtain⟨ql,qm,ro,Ag,Ai⟩:=ah pK;obtain⟨qn,qo,rt,Aj,Ak⟩:=af pK)|((with_reducible refine bN (f:=15) rfl ?_);refine gL (some 11) rfl rfl Try.func15 (by kernel_rfl) rfl #[.agg #[.int .i64 aA,.slice bH U.length ay,.slice bC aH.length bD],.slice em bO.length en] rfl ?_;(with_reducible refine(dH.calls k aA _ _ U _ _ aH _ _ bO S9 false _ ?aJ ?aM ?ac ?au ?cI ?cW A2.out).mono ?_);(case aJ=>exact cb cx HB);(case aM=>exact dv.out);(case ac=>exact cb eV HB);(case au=>exact eW.out);(case cI=>exact cb ls HB);(case cW=>exact m8.out);rintro e Ek ⟨v629,rfl,ho0,hb⟩;refine⟨_,rfl, ?_⟩;have LR:=Ah (Kd.bq ho0 (bR (aQ HB vk)));replace pK:=nb pK hb;replace HB:=Ah (aK (aQ HB vk) hb);(try clear hb ho0)))
  go_ret2
  exact⟨_,er,by first|exact Kd.dG _ _ _ _ _|exact Kd.dY _ _ _ _ _|exact Kd.dZ _ _ _ _ _|exact Kd.dW _ _ _ _ _|exact Kd.dX _ _ _ _ _,aQ HB vk⟩
 subst c3;rw[if_pos rfl]at H
 by_cases c4:bl=(Ee ((S9.length:Int)+1))
 ·
  rw[if_pos c4]at H;have ky:=jm c4;have c4b1:=jn c4;clear c4;simp only[SY,cM]at H;obtain⟨rfl,rfl⟩:=H
  go_enter Try.func22,Try.ntmps22
  go_wp2_with (first|((with_reducible refine am (N:=1) rfl ?_);(try(refine dl (by rfl) ?_;dsimp only));refine ar 1 28 #[.int .i64 aA,.slice bH U.length ay,.slice bC aH.length bD,.int .i64 bl,.slice em bO.length en] ?_;intro gb627 hg w5 pK hb;have GW627:=gw hg (bs HB);have vk:=gw hg (bs HB);replace HB:=Ah (aK (bs HB) hb);clear hb hg;obtain⟨B4,B5,G4,hcz6_3,hcz6_4⟩:=ah pK;obtain⟨D7,B7,G5,hfz6_3,hfz6_4⟩:=af pK)|((with_reducible refine bN (f:=15) rfl ?_);refine gL (some 11) rfl rfl Try.func15 (by kernel_rfl) rfl #[.agg #[.int .i64 aA,.slice bH U.length ay,.slice bC aH.length bD],.slice em bO.length en] rfl ?_;(with_reducible refine(dH.calls k aA _ _ U _ _ aH _ _ bO S9 true _ ?aJ ?aM ?ac ?au ?cI ?cW A2.out).mono ?_);(case aJ=>exact cb cx HB);(case aM=>exact dv.out);(case ac=>exact cb eV HB);(case au=>exact eW.out);(case cI=>exact cb ls HB);(case cW=>exact m8.out);rintro e w7 ⟨v629,rfl,ho0,hb⟩;refine⟨_,rfl, ?_⟩;have LR:=Ah (Kd.bq ho0 (bR (aQ HB vk)));replace pK:=nb pK hb;replace HB:=Ah (aK (aQ HB vk) hb);(try clear hb ho0);obtain⟨sv,sw,D8,Vq,Vr⟩:=ah pK;obtain⟨u7,sx,D9,Vs,Vt⟩:=af pK;obtain⟨Sd,Se,Sf⟩:=Kd.ax LR.out;subst Sf))
  go_ret2
  exact⟨_,er,by(with_reducible repeat(first|apply Kd.al|apply Kd.ak|apply Kd.aY));exact LR.out,aQ HB vk⟩
 rw[if_neg c4]at H;have ky:=jI c4;have c4b1:=jJ c4;simp only[SY,cM]at H;obtain⟨rfl,rfl⟩:=H
 go_enter Try.func22,Try.ntmps22
 go_wp2_with (first|((with_reducible refine am (N:=1) rfl ?_);(try(refine dl (by rfl) ?_;dsimp only));refine ar 1 28 #[.int .i64 aA,.slice bH U.length ay,.slice bC aH.length bD,.int .i64 bl,.slice em bO.length en] ?_;intro gb627 hg oq pK hb;have GW627:=gw hg (bs HB);have vk:=gw hg (bs HB);replace HB:=Ah (aK (bs HB) hb);clear hb hg;obtain⟨qh,qi,us,yp,yq⟩:=ah pK;obtain⟨qj,qk,uv,yu,yv⟩:=af pK)|((with_reducible refine bN (f:=15) rfl ?_);refine gL (some 11) rfl rfl Try.func15 (by kernel_rfl) rfl #[.agg #[.int .i64 aA,.slice bH U.length ay,.slice bC aH.length bD],.slice em bO.length en] rfl ?_;(with_reducible refine(dH.calls k aA _ _ U _ _ aH _ _ bO S9 true _ ?aJ ?aM ?ac ?au ?cI ?cW A2.out).mono ?_);(case aJ=>exact cb cx HB);(case aM=>exact dv.out);(case ac=>exact cb eV HB);(case au=>exact eW.out);(case cI=>exact cb ls HB);(case cW=>exact m8.out);rintro e yX ⟨v629,rfl,ho0,hb⟩;refine⟨_,rfl, ?_⟩;have LR:=Ah (Kd.bq ho0 (bR (aQ HB vk)));replace pK:=nb pK hb;replace HB:=Ah (aK (aQ HB vk) hb);(try clear hb ho0);obtain⟨pX,pY,rx,tq,tr⟩:=ah pK;obtain⟨pZ,pa,ry,tt,tu⟩:=af pK;obtain⟨m0,j8,zy⟩:=Kd.ax LR.out;subst zy))
 go_ret2
 exact⟨_,er,by first|exact Kd.dG _ _ _ _ _|exact Kd.dY _ _ _ _ _|exact Kd.dZ _ _ _ _ _|exact Kd.dW _ _ _ _ _|exact Kd.dX _ _ _ _ _,aQ HB vk⟩
def mN.f(k:Nat)(aA:Int)(U:List (X))(aH:List (X))(bl:Int)(bO:List (aV)):Option (Bool):=(tc.f k aA U aH bl bO).bind fun XV=>(some XV.2)
theorem mN.mono:∀a0 a1 a2 a3 a4 k,aG (mN.f k a0 a1 a2 a3 a4) (mN.f (k+1) a0 a1 a2 a3 a4):=by
 intro a0 a1 a2 a3 a4 k;unfold mN.f
 repeat' with_reducible first|exact tc.mono _ _ _ _ _ _|exact aG.refl _|exact aG.none _|refine aG.ite ?_ ?_|refine aG.bind ?_ (fun _=> ?_)
theorem mN.calls(k:Nat)(aA:Int)(bH:Option Addr)(ay:Nat)(U:List (X))(bC:Option Addr)(bD:Nat)(aH:List (X))(bl:Int)(em:Option Addr)(en:Nat)(bO:List (aV))(r:Bool)(w:World)(fC:Kd.C ag w bH U.length U)(fD:U.length≤ay)(fE:Kd.C ag w bC aH.length aH)(fF:aH.length≤bD)(mh:Kd.C cV w em bO.length bO)(mi:bO.length≤en)(h:mN.f k aA U aH bl bO=some r):
 Calls sX 8 #[.agg #[.int .i64 aA,.slice bH U.length ay,.slice bC aH.length bD,.int .i64 bl,.slice em bO.length en]] w fun e w'=>e= .returned (.bool r)∧Below w.heap.size w w':=by
 have uP:=aab;have cx:=Ah fC;have dv:=Ah fD;clear fC fD;have eV:=Ah fE;have eW:=Ah fF;clear fE fF;have ls:=Ah mh;have m8:=Ah mi;clear mh mi;have HB:=Ah (gR w.heap.size w);have H:((tc.f k aA U aH bl bO).bind fun XV=>(some XV.2))=some r:=h;clear h;replace H:=Hc.mp H;obtain⟨⟨t633,t636⟩,kR,H⟩:=H
 try dsimp only at H
 have A2:=Ah kR;clear kR;obtain rfl:=Ok H
 go_enter Try.func8,Try.ntmps8
 go_wp2_with (first|((with_reducible refine am (N:=1) rfl ?_);refine ar 1 28 #[.int .i64 aA,.slice bH U.length ay,.slice bC aH.length bD,.int .i64 bl,.slice em bO.length en] ?_;intro gb632 hg w3 R8 hb;have GW632:=gw hg (bs HB);have XW:=gw hg (bs HB);replace HB:=Ah (aK (bs HB) hb);clear hb hg;obtain⟨hcz4_0,hcz4_1,hcz4_2,hcz4_3,hcz4_4⟩:=ah R8;obtain⟨hfz4_0,hfz4_1,hfz4_2,hfz4_3,hfz4_4⟩:=af R8)|((with_reducible refine bN (f:=22) rfl ?_);refine gL (some 7) rfl rfl Try.func22 (by kernel_rfl) rfl #[.agg #[.int .i64 aA,.slice bH U.length ay,.slice bC aH.length bD,.int .i64 bl,.slice em bO.length en]] rfl ?_;(with_reducible refine(tc.calls k aA _ _ U _ _ aH bl _ _ bO t633 t636 _ ?aJ ?aM ?ac ?au ?cI ?cW A2.out).mono ?_);(case aJ=>exact cb cx HB);(case aM=>exact dv.out);(case ac=>exact cb eV HB);(case au=>exact eW.out);(case cI=>exact cb ls HB);(case cW=>exact m8.out);rintro e w5 ⟨v634,rfl,ho0,hb⟩;refine⟨_,rfl, ?_⟩;have HO635:=Ah (Kd.bq ho0 (bR (aQ HB XW)));replace R8:=nb R8 hb;replace HB:=Ah (aK (aQ HB XW) hb);(try clear hb ho0)))
 go_ret
 exact⟨er,aQ HB XW⟩
def pT.f(aA:Int)(U:List (X))(aH:List (X)):Option (Int×(List (X))×(List (X))):=(oE.f U).bind fun CC=>((oE.f aH).bind fun CD=>(some (aA,CC,CD)))
def pT.T1:Bool×List (List Nat×List Nat):=(true,[([],[]),([0],[0]),([],[]),([2],[2]),([3],[3]),([],[]),([5],[5]),([6,4],[6]),([1,4,7],[1,4,7]),([8,7,0,1,2,3,4,5,6,7,8],[8])])
def pT.B1:List Nat:=[0,1,0,4,12,0,32,124,255,511]
theorem pT.Gq:j7 .any (vO Try.f16 1)=pT.T1:=by kernel_rfl
theorem pT.GH:qD pT.T1.2 pT.B1=true:=by kernel_rfl
theorem pT.calls(aA:Int)(bH:Option Addr)(ay:Nat)(U:List (X))(bC:Option Addr)(bD:Nat)(aH:List (X))(r1:Int)(r2:List (X))(r3:List (X))(w:World)(fC:Kd.C ag w bH U.length U)(fD:U.length≤ay)(fE:Kd.C ag w bC aH.length aH)(fF:aH.length≤bD)(h:pT.f aA U aH=some (r1,r2,r3)):
 Calls Try.prog 16 #[.agg #[.int .i64 aA,.slice bH U.length ay,.slice bC aH.length bD]] w fun e w'=>∃et eZ:Value,e= .returned (.agg #[.int .i64 r1,et,eZ])∧Kd.R ag 38 w' w.heap.size (fun k_=>some k_≠(eZ:Value).ownBlock) et r2∧Kd.R ag 38 w' w.heap.size (fun k_=>some k_≠(et:Value).ownBlock) eZ r3∧Below w.heap.size w w':=by
 have o8:=aah;have cx:=Ah fC;have dv:=Ah fD;clear fC fD;have eV:=Ah fE;have eW:=Ah fF;clear fE fF;have HB:=Ah (gR w.heap.size w);have H:((oE.f U).bind fun CC=>((oE.f aH).bind fun CD=>(some (aA,CC,CD))))=some (r1,r2,r3):=h;clear h;replace H:=Hc.mp H;obtain⟨CC,kR,H⟩:=H
 try dsimp only at H
 have A2:=Ah kR;clear kR;replace H:=Hc.mp H;obtain⟨CD,dz,H⟩:=H
 try dsimp only at H
 have A3:=Ah dz;clear dz;simp only[SY,cM]at H;obtain⟨rfl,rfl,rfl⟩:=H
 go_enter Try.func16,Try.ntmps16
 try go_wp2_with (first|((with_reducible refine am (N:=1) rfl ?_);refine ar 1 25 #[.int .i64 aA,.slice bH U.length ay,.slice bC aH.length bD] ?_;intro XX hg w4 o0 hb;have GW637:=gw hg (bs HB);have Bj:=gw hg (bs HB);replace HB:=Ah (aK (bs HB) hb);clear hb hg)|((with_reducible refine am (N:=2) rfl ?_);refine ar 2 25 #[.int .i64 0,.slice none 0 0,.slice none 0 0] ?_;intro oT hg w5 qO hb;have GW638:=gw hg (aQ HB Bj);have LS:=gw hg (aQ HB Bj);replace HB:=Ah (aK (aQ HB Bj) hb);have ti:=nn o0 hg;have TR:=nm o0 hg;replace o0:=nb o0 hb;clear hb hg))
 replace o0:=Ah (bL o0.out);replace qO:=Ah (bL qO.out);replace HB:=Ah (ln HB.out);refine nB (n:=10) (S:=fun w'=>w'.cell? ⟨XX,0,none⟩=some (.int .i64 aA)∧w'.cell? ⟨XX,1,none⟩=some (.slice bH U.length ay)∧w'.cell? ⟨XX,2,none⟩=some (.slice bC aH.length bD)) (ds:=[]) #[false,false,false,false,false,false,false,false,false,false] (by kernel_rfl) rfl rfl ⟨(aI o0.out 0).trans rfl,(aI o0.out 1).trans rfl,(aI o0.out 2).trans rfl⟩ (fun hHeld=> ?_);refine nK pT.Gq pT.GH (fun aD dL=> ?_)
 generalize w5.drew=w6 at o0 qO HB hHeld⊢
 refine ap 0 3 aD.out ?_;refine ap 2 5 aD.out ?_;refine ap 5 8 aD.out ?_;refine f4 1 4 aD.out dL.out hHeld (hr:=by rintro w' ⟨s0,s1,s2⟩;go_simp;with_reducible rfl) (h:= ?_);refine f4 3 6 aD.out dL.out hHeld (hr:=by rintro w' ⟨s0,s1,s2⟩;go_simp;with_reducible rfl) (h:= ?_);refine f4 6 9 aD.out dL.out hHeld (hr:=by rintro w' ⟨s0,s1,s2⟩;go_simp;with_reducible rfl) (h:= ?_);refine i3 (i:=4) (N:=some 7) #[true,true,true,true,true,true,true,false,false,false] rfl rfl (hG aD.out (by kernel_rfl)) (by decide) (fun K hK=> ?_);refine ir Try.func36 (by kernel_rfl) rfl #[.slice bH U.length ay] (by rfl) rfl rfl (by(try simp only[List.map_toArray,List.map_cons,List.map_nil]);first|done|rfl|(simp only[List.length_drop,List.length_take];rfl)) ?_
 with_reducible refine(oE.calls _ _ U CC _ ?aJ ?aM A2.out).mono ?_
 (case aJ=>exact cb cx HB);(case aM=>exact dv.out);rintro e w7 ⟨v640,rfl,ho0,hb⟩;refine⟨_,rfl, ?_⟩;have LT:=Ah (Kd.bq ho0 (bR (aa HB Bj LS)));replace o0:=Ah (bb o0 hb);replace qO:=Ah (bb qO hb);replace HB:=Ah (aK (aa HB Bj LS) hb);(try clear hb);(try clear hb2);(try clear hk);(try clear hi);(try clear ho0);refine hK.out _ _ ⟨(aI o0.out 0).trans rfl,(aI o0.out 1).trans rfl,(aI o0.out 2).trans rfl⟩ (fun hHeld=> ?_);clear hK K;refine nq 7 ?_;refine i3 (i:=7) (N:=some 10) #[true,true,true,true,true,true,true,true,false,false] rfl rfl (hG aD.out (by kernel_rfl)) (by decide) (fun K hK=> ?_);refine ir Try.func36 (by kernel_rfl) rfl #[.slice bC aH.length bD] (by rfl) rfl rfl (by(try simp only[ib,aac,aai]);first|done|rfl|(simp only[fM,aN];rfl)) ?_
 with_reducible refine(oE.calls _ _ aH CD _ ?aJ ?aM A3.out).mono ?_
 (case aJ=>exact cb eV HB);(case aM=>exact eW.out);rintro e w8 ⟨v643,rfl,ho0,hb⟩;refine⟨_,rfl, ?_⟩;have HO644:=Ah (Kd.bq (Kd.bv ho0 (Kd.bZ (rr LT.out))) (bR (aa HB Bj LS)));replace LT:=Ah (Kd.lJ (rr LT.out) (Kd.br ho0) hb);replace o0:=Ah (bb o0 hb);replace qO:=Ah (bb qO hb);replace HB:=Ah (aK (aa HB Bj LS) hb);(try clear hb);(try clear hb2);(try clear hk);(try clear hi);(try clear ho0);obtain⟨Sd,Se,Sf⟩:=Kd.ax HO644.out;(first|subst Sf|(injection Sf with fd jK fe;have jL:=fd.symm;have jM:=fe.symm;clear fd jK fe;subst jL;subst jM));obtain⟨dd,de,tH⟩:=Kd.ax LT.out;(first|subst tH|(injection tH with fd jK fe;have jL:=fd.symm;have jM:=fe.symm;clear fd jK fe;subst jL;subst jM));refine hK.out _ _ ⟨(aI o0.out 0).trans rfl,(aI o0.out 1).trans rfl,(aI o0.out 2).trans rfl⟩ (fun hHeld=> ?_);clear hK K;refine nq 10 ?_;refine ap 8 11 aD.out ?_;refine i3 (i:=9) (N:=none) #[true,true,true,true,true,true,true,true,true,true] rfl rfl (hG aD.out (by kernel_rfl)) (by decide) (fun K hK=> ?_);have hs11:w8.cell? ⟨oT,0,none⟩=some (.int .i64 0):=(aI qO.out 0).trans rfl;have hfs11:=gT qO.out 0;have hns11_0:=ti.out;have hms11_0:=TR.out;have hs12:w8.cell? ⟨oT,1,none⟩=some (.slice none 0 0):=(aI qO.out 1).trans rfl;have hfs12:=gT qO.out 1;have hns12_0:=ti.out;have hms12_0:=TR.out;have hs13:w8.cell? ⟨oT,2,none⟩=some (.slice none 0 0):=(aI qO.out 2).trans rfl;have hfs13:=gT qO.out 2;have hns13_0:=ti.out;have hms13_0:=TR.out;refine G8 (w1:= ?_) (by rfl) rfl ?_ ?_;rotate_left
 ·
  go_simp
  rfl
 refine hK.out _ _ ⟨((cJ (p:=⟨oT,_,none⟩) ti.out _).trans (((cJ (p:=⟨oT,_,none⟩) ti.out _).trans (((cJ (p:=⟨oT,_,none⟩) ti.out _).trans (hHeld.1)))))),((cJ (p:=⟨oT,_,none⟩) ti.out _).trans (((cJ (p:=⟨oT,_,none⟩) ti.out _).trans (((cJ (p:=⟨oT,_,none⟩) ti.out _).trans (hHeld.2.1)))))),((cJ (p:=⟨oT,_,none⟩) ti.out _).trans (((cJ (p:=⟨oT,_,none⟩) ti.out _).trans (((cJ (p:=⟨oT,_,none⟩) ti.out _).trans (hHeld.2.2))))))⟩ (fun hHeld=> ?_);clear hK K;refine m5 (mO aD.out (by kernel_rfl)) ?_
 try go_wp2
 refine bodyPost_ret (results_cell_row rfl _ _ oT 25 #[.int .i64 aA,.slice dd CC.length de,.slice Sd CD.length Se] (0,0) _ rfl (pb qO) aah rfl (by kernel_rfl)) rfl ?_;exact⟨_,_,er,by(with_reducible repeat(first|apply Kd.al|apply Kd.ak|apply Kd.aY));exact Kd.aE (Kd.I (p:=⟨oT,2,none⟩) (Kd.I (p:=⟨oT,1,none⟩) (Kd.I (p:=⟨oT,0,none⟩) (Kd.ao LT.out qO.out (by decide)) (fun _ hk=>hk.2) (.int .i64 aA)) (fun _ hk=>hk.2) (.slice dd CC.length de)) (fun _ hk=>hk.2) (.slice Sd CD.length Se)) (fun _ hk=>hk.1.2),by(with_reducible repeat(first|apply Kd.al|apply Kd.ak|apply Kd.aY));exact Kd.aE (Kd.I (p:=⟨oT,2,none⟩) (Kd.I (p:=⟨oT,1,none⟩) (Kd.I (p:=⟨oT,0,none⟩) (Kd.ao HO644.out qO.out (by decide)) (fun _ hk=>hk.2) (.int .i64 aA)) (fun _ hk=>hk.2) (.slice dd CC.length de)) (fun _ hk=>hk.2) (.slice Sd CD.length Se)) (fun _ hk=>hk.1.2),aa HB Bj LS⟩
mutual
def fZ.l0:Nat→List Bool→List (X)→Int→Int→Option (List Bool)
 |0,_,_,_,_=>none
 |k+1,x3,rT,nW,gD=>if gD<nW then(if 0≤gD then(if gD<(rT.length:Int)then(fZ.l1 k x3 rT nW gD ((aC rT gD).f1) 0 ((aC rT gD).f0) ((aC rT gD).f1))else(none))else(none))else(some x3)
def fZ.l1:Nat→List Bool→List (X)→Int→Int→Int→Int→Int→Int→Option (List Bool)
 |0,_,_,_,_,_,_,_,_=>none
 |k+1,x3,rT,nW,gD,i4,dy,Q9,x651001=>if dy<i4 then(if 0≤(Ee (Q9+dy))then(if(Ee (Q9+dy))<(x3.length:Int)then(fZ.l1 k (x3.set ((Ee (Q9+dy)):Int).toNat true) rT nW gD i4 (Ee (dy+1)) Q9 x651001)else(none))else(none))else(fZ.l0 k x3 rT nW (Ee (gD+1)))
end
def fZ.f(k:Nat)(aA:Int)(U:List (X))(aH:List (X)):Option (List Bool):=if 0≤aA then(if(aA:Int).toNat≤281474976710656 then(fZ.l0 k (aa1 (aA:Int).toNat false) U (U.length:Int) 0)else(none))else(none)
theorem fZ.dh:∀k,(∀y0 y1 y2 y3,aG (fZ.l0 k y0 y1 y2 y3) (fZ.l0 (k+1) y0 y1 y2 y3))∧(∀y0 y1 y2 y3 y4 y5 y6 y7,aG (fZ.l1 k y0 y1 y2 y3 y4 y5 y6 y7) (fZ.l1 (k+1) y0 y1 y2 y3 y4 y5 y6 y7))
 |0=>⟨fun _ _ _ _ r h=>by simp[fZ.l0]at h,fun _ _ _ _ _ _ _ _ r h=>by simp[fZ.l1]at h⟩
 |k+1=>by
  obtain⟨bz,ih1⟩:=fZ.dh k
  refine⟨?_, ?_⟩<;>intros<;>first|unfold fZ.l0|unfold fZ.l1
  all_goals repeat' first
   |(with_reducible exact bz _ _ _ _)
   |(with_reducible exact ih1 _ _ _ _ _ _ _ _)
   |(with_reducible exact aG.refl _)
   |(with_reducible exact aG.none _)
   |(with_reducible refine aG.ite ?_ ?_)
   |(with_reducible refine aG.bind ?_ (fun _=> ?_))
   |exact bz _ _ _ _
   |exact ih1 _ _ _ _ _ _ _ _
   |exact aG.none _
   |refine aG.ite ?_ ?_
   |refine aG.bind ?_ (fun _=> ?_)
theorem fZ.mono:∀a0 a1 a2 k,aG (fZ.f k a0 a1 a2) (fZ.f (k+1) a0 a1 a2):=by
 intro a0 a1 a2 k;obtain⟨bz,ih1⟩:=fZ.dh k;unfold fZ.f
 repeat' with_reducible first|exact bz _ _ _ _|exact ih1 _ _ _ _ _ _ _ _|exact aG.refl _|exact aG.none _|refine aG.ite ?_ ?_|refine aG.bind ?_ (fun _=> ?_)
theorem fZ.calls(k:Nat)(aA:Int)(bH:Option Addr)(ay:Nat)(U:List (X))(bC:Option Addr)(bD:Nat)(aH:List (X))(r:List Bool)(w:World)(fC:Kd.C ag w bH U.length U)(fD:U.length≤ay)(fE:Kd.C ag w bC aH.length aH)(fF:aH.length≤bD)(h:fZ.f k aA U aH=some r):
 Calls sX 26 #[.agg #[.int .i64 aA,.slice bH U.length ay,.slice bC aH.length bD]] w fun e w'=>∃n3:Value,e= .returned (n3)∧Kd.R Kd.bool 4 w' w.heap.size (fun _=>True) n3 r∧Below w.heap.size w w':=by
 have o8:=aah;have lM:=aap;have cx:=Ah fC;have dv:=Ah fD;clear fC fD;have eV:=Ah fE;have eW:=Ah fF;clear fE fF;have HB:=Ah (gR w.heap.size w);have H:(if 0≤aA then(if(aA:Int).toNat≤281474976710656 then(fZ.l0 k (aa1 (aA:Int).toNat false) U (U.length:Int) 0)else(none))else(none))=some r:=h;clear h
 by_cases c2:0≤aA
 rotate_left
 ·
  rw[if_neg c2]at H;exact absurd H (by simp)
 rw[if_pos c2]at H;have sG:=eq_true c2;have RN:=bS c2;clear c2
 by_cases c3:(aA:Int).toNat≤281474976710656
 rotate_left
 ·
  rw[if_neg c3]at H;exact absurd H (by simp)
 rw[if_pos c3]at H;have iZ:=eq_true c3;have tM:=bS c3;clear c3;obtain⟨y646,LU⟩:∃y_:List Bool,y_=(aa1 (aA:Int).toNat false):=⟨_,rfl⟩
 replace H:(fZ.l0 k y646 U (U.length:Int) 0)=some r:=by first|(rw[LU];with_reducible exact H)|(have ai:=(N6 _ _).symm.trans H;rw[LU];with_reducible exact ai)|(have ai:=(N6 _ _).symm.trans H;with_reducible exact ai)|with_reducible exact H|(rw[LU];exact H)|exact H
 have Ny646:=Ah LU;clear LU;have H':=Ah H;clear H
 go_enter Try.func26,Try.ntmps26
 go_wp2_with (first|((with_reducible refine am (N:=1) rfl ?_);refine ar 1 25 #[.int .i64 aA,.slice bH U.length ay,.slice bC aH.length bD] ?_;intro gb645 hg w4 oU hb;have GW645:=gw hg (bs HB);have yE:=gw hg (bs HB);replace HB:=Ah (aK (bs HB) hb);clear hb hg;obtain⟨G3,JX,JY⟩:=di oU;obtain⟨Jb,JZ,Ja⟩:=dj oU)|((with_reducible refine am (N:=9) rfl ?_);refine Kd.R_make Kd.bool _ 4 rfl (N:=9) rfl 63 _ _ rfl aA rfl rfl Try.underlying63 (.bool false) 1 BB rfl (by decide) (by omega) false (ok:=fun _=>True) (okp:=fun _=>True) rfl (fun _ hk=>hk) trivial (od) (Nat.le_trans (Nat.mul_le_mul_right _ (od:aA.toNat≤281474976710656)) (by omega)) (gR _ _) (eH _) ?_;intro v647 w6 wj hb mL m9;clear mL m9;(first|rw[←Ny646.out]at wj|(simp only[aaU]at wj;rw[←Ny646.out]at wj));have HO648:=Ah (Kd.bq wj (bR (aQ HB yE)));replace oU:=nb oU hb;replace HB:=Ah (aK (aQ HB yE) hb);clear hb wj;obtain⟨sv,sw,D8⟩:=di oU;obtain⟨u7,sx,D9⟩:=dj oU))
 go_loopg [13] k (fun kq v13 w'=>∃ (d9:List Bool) (bY:Int),v13= .int .i64 bY∧Y (fZ.l0 kq d9 U (U.length:Int) bY=some r)∧Y (kq≤k)∧Y (Kd.R Kd.bool 4 w' w.heap.size (fun _=>True) v647 d9)∧Y (w'.heap[gb645]?=some (.cells #[.int .i64 aA,(.slice bH U.length ay),(.slice bC aH.length bD)] 25 (0,0)))∧Y (Below w.heap.size w w'))
 case atStart=>exact⟨(y646),(0),e3,H',⟨eH _⟩,⟨rr HO648.out⟩,⟨bk oU⟩,⟨aQ HB yE⟩⟩
 case round=>
  clear H'
  try clear c2
  try clear sG
  try clear RN
  try clear p2
  try clear c3
  try clear iZ
  try clear tM
  try clear G3 JX JY
  try clear sv sw D8
  try clear Jb JZ Ja
  try clear u7 sx D9
  obtain⟨d9,bY,rfl,HA,dC,ck,oU,HB⟩:=hrel
  cases gk with
  |zero=>exact absurd HA.out (by simp[fZ.l0])
  |succ k1=>
   have H:=HA.out;clear HA;simp only[fZ.l0]at H
   by_cases c9:bY<(U.length:Int)
   rotate_left
   ·
    rw[if_neg c9]at H;have pO:=f7 c9;clear c9;obtain rfl:=Ok H
    go_wp2
    go_ret
    exact⟨_,er,by(with_reducible repeat(first|apply Kd.al|apply Kd.ak|apply Kd.aY));exact ck.out,aQ HB yE⟩
   rw[if_pos c9]at H;have pO:=bS c9;clear c9
   by_cases c10:0≤bY
   rotate_left
   ·
    rw[if_neg c10]at H;exact absurd H (by simp)
   rw[if_pos c10]at H;have zV:=bS c10;clear c10
   by_cases c11:bY<(U.length:Int)
   rotate_left
   ·
    rw[if_neg c11]at H;exact absurd H (by simp)
   rw[if_pos c11]at H;have BS:=bS c11;clear c11;have H':=Ah H;clear H;have SA:0≤(bY:Int):=od;have SB:bY<(U.length:Int):=od;obtain⟨ad649,e649,VZ,Va⟩:=eA cx.out bY SA SB
   cases e649
   replace VZ:=hq HB VZ;replace Va:=hq HB Va;replace SA:=eq_true SA;replace SB:=eq_true SB
   go_wp2_with (first|((with_reducible refine am (N:=5) rfl ?_);refine ar 5 38 #[.int .i64 0,.int .i64 0] ?_;intro XY hg yX vl hb;replace ck:=nr ck hb;have GW650:=gw hg (aQ HB yE);have XZ:=gw hg (aQ HB yE);replace HB:=Ah (aK (aQ HB yE) hb);have TS:=nn oU hg;have NB650_645:=nm oU hg;replace oU:=nb oU hb;clear hb hg;have XO:=NB650_645.out;have XP:=TS.out;obtain⟨yy,yz⟩:=da vl;obtain⟨z6,z7⟩:=db vl))
   go_loopg [19] k1 (fun kq v19 w'=>∃ (yR:List Bool) (im:Int),v19= .int .i64 im∧Y (fZ.l1 kq yR U (U.length:Int) bY ((aC U bY).f1) im ((aC U bY).f0) ((aC U bY).f1)=some r)∧Y (kq≤k1)∧Y (Kd.R Kd.bool 4 w' w.heap.size (fun _=>True) v647 yR)∧Y (w'.heap[gb645]?=some (.cells #[.int .i64 aA,(.slice (some ad649) U.length ay),(.slice bC aH.length bD)] 25 (0,0)))∧Y (w'.heap[XY]?=some (.cells #[.int .i64 ((aC U bY).f0),.int .i64 ((aC U bY).f1)] 38 (0,0)))∧Y (Below w.heap.size w w'))
   case atStart=>exact⟨(d9),(0),e3,H',⟨eH _⟩,⟨by(with_reducible repeat(first|apply Kd.al|apply Kd.ak|apply Kd.aY));exact Kd.aE (Kd.I (p:=⟨XY,1,none⟩) (Kd.I (p:=⟨XY,0,none⟩) (Kd.ao ck.out vl.out (by decide)) (fun _ hk=>hk.2) (.int .i64 ((aC U bY).f0))) (fun _ hk=>hk.2) (.int .i64 ((aC U bY).f1))) (fun _ hk=>trivial)⟩,⟨bf oU TS⟩,⟨by exact pb vl⟩,⟨aa HB yE XZ⟩⟩
   case round=>
    clear H'
    try clear c1
    try clear c2
    try clear sG
    try clear RN
    try clear p2
    try clear c3
    try clear iZ
    try clear tM
    try clear p6
    try clear q6
    try clear hx6
    try clear c9
    try clear pO
    try clear c10
    try clear zV
    try clear c11
    try clear BS
    try clear c13
    try clear yy yz
    try clear G3 JX JY
    try clear sv sw D8
    try clear z6 z7
    try clear Jb JZ Ja
    try clear u7 sx D9
    try clear VZ
    try clear Va
    try clear p2
    try clear SA
    try clear SB
    obtain⟨yR,im,rfl,HA,dF,ck,oU,vl,HB⟩:=hrel
    cases gk with
    |zero=>exact absurd HA.out (by simp[fZ.l1])
    |succ k2=>
     have H:=HA.out;clear HA;simp only[fZ.l1]at H
     by_cases c15:im<((aC U bY).f1)
     rotate_left
     ·
      rw[if_neg c15]at H;have DE:=f7 c15;clear c15;have H':=Ah H;clear H
      go_wp2
      go_roundg k2
      case measure=>have:=dC.out;have:=dF.out;omega
      case rel=>exact⟨(yR),(Ee (bY+1)),e3,H',⟨by have:=dC.out;have:=dF.out;omega⟩,⟨rr ck.out⟩,⟨bk oU⟩,⟨aa HB yE XZ⟩⟩
     rw[if_pos c15]at H;have DE:=bS c15;clear c15;obtain⟨fX,ze⟩:∃j_:Int,(Ee (((aC U bY).f0)+im))=j_:=⟨_,rfl⟩
     replace H:(if 0≤(fX)then(if(fX)<(yR.length:Int)then(fZ.l1 k2 (yR.set ((fX):Int).toNat true) U (U.length:Int) bY ((aC U bY).f1) (Ee (im+1)) ((aC U bY).f0) ((aC U bY).f1))else(none))else(none))=some r:=by first|(rw[ze]at H;exact H)|(simp only[ze]at H⊢;exact H)
     have hji16w:(IntKind.i64.wrap (((aC U bY).f0)+im))=fX:=(lr _).trans ze
     by_cases c17:0≤(fX)
     rotate_left
     ·
      rw[if_neg c17]at H;exact absurd H (by simp)
     rw[if_pos c17]at H;have Kv:=bS c17;clear c17
     by_cases c18:(fX)<(yR.length:Int)
     rotate_left
     ·
      rw[if_neg c18]at H;exact absurd H (by simp)
     rw[if_pos c18]at H;have KE:=bS c18;clear c18;obtain⟨ZH,LV⟩:∃y_:List Bool,y_=(yR.set ((fX):Int).toNat true):=⟨_,rfl⟩
     replace H:(fZ.l1 k2 ZH U (U.length:Int) bY ((aC U bY).f1) (Ee (im+1)) ((aC U bY).f0) ((aC U bY).f1))=some r:=by first|(rw[LV];with_reducible exact H)|(have ai:=(N6 _ _).symm.trans H;rw[LV];with_reducible exact ai)|(have ai:=(N6 _ _).symm.trans H;with_reducible exact ai)|with_reducible exact H|(rw[LV];exact H)|exact H
     have Ny651:=Ah LV;clear LV;have H':=Ah H;clear H;have hnb20:=NB650_645.out;have hnc20:=TS.out;obtain⟨OY,OZ⟩:=da vl;obtain⟨Oa,Ob⟩:=db vl;have ST:0≤((fX):Int):=od;have SU:((fX):Int)<((yR.length:Int):Int):=od;obtain⟨ZI,ex,Gi,gb19,gl19,cl19,HG19⟩:=Kd.Ft ck.out (by omega);(first|cases Gi|(injection Gi with lE wo wq;(first|subst lE|(injection lE with lE;subst lE));subst wq;clear wo));have GB19:=Ah gb19;have GG19:=Ah HG19;clear gb19 gl19 HG19;obtain⟨hx19_0,hf19_0⟩:=Kd.R_celln false ck.out ((fX):Int) ST SU;replace ST:=eq_true ST;replace SU:=eq_true SU;have ZJ:=Kd.R_putg ck.out ((fX):Int) true
     go_wp2_with (first|((with_reducible refine Ck (t:=4) (p:=27) rfl ?_);refine Ci (t:=4) (p:=27) (v:= ?vo_w23) (w1:=(wr.setCell ⟨ZI,((fX):Int).toNat,none⟩ (.bool true))) ?hg ?ho ?hn ?hr ?_;(case ho=>rfl);(case hg=>rfl);(case hn=>rfl);(case hr=>first|(go_simp;done)|(go_simp;rfl));intro fV hw;have hg:wr.grownBy fV (some ZI):=(by rw[hw];exact ZJ.2);have pu:Kd.R Kd.bool 4 fV w.heap.size (fun _=>True) (.slice (some ⟨ZI,0,none⟩) yR.length ex) ZH:=(by rw[hw,Ny651.out];exact ZJ.1);clear ZJ;replace oU:=Ah (cC (bk oU) hg (Kd.cY ck.out oU.out (by decide)));replace vl:=Ah (cC (bk vl) hg (Kd.cY ck.out vl.out (by decide)));replace ck:=Ah (pu);replace HB:=Ah ((by rw[hw];exact ue (HB.out) GB19.out:Below w.heap.size w fV));clear hg hw pu))
     go_roundg k2
     case measure=>have:=dC.out;have:=dF.out;omega
     case rel=>exact⟨(ZH),(Ee (im+1)),e3,H',⟨by have:=dC.out;have:=dF.out;omega⟩,⟨rr ck.out⟩,⟨bk oU⟩,⟨bk vl⟩,⟨aa HB yE XZ⟩⟩
def pS.f(a0:Int)(fY:List Bool):Option (Bool):=if 0≤a0 then(if a0<(fY.length:Int)then(some (mq false fY a0))else(none))else(none)
theorem pS.calls(a0:Int)(co:Nat)(kM:Option Addr)(kN:Nat)(fY:List Bool)(r:Bool)(w:World)(LW:Kd.C Kd.bool w kM fY.length fY)(LX:fY.length≤kN)(lv:w.heap[co]?=some (.cells #[.slice kM fY.length kN] 63 (0,0)))(h:pS.f a0 fY=some r):
 Calls sX 55 #[.int .i64 a0,.pointer (some ⟨co,0,none⟩)] w fun e w'=>e= .returned (.bool r)∧dD w w':=by
 have sF:=Ah LW;have tF:=Ah LX;clear LW LX;have cO:=Ah lv;clear lv;have H:(if 0≤a0 then(if a0<(fY.length:Int)then(some (mq false fY a0))else(none))else(none))=some r:=h;clear h
 by_cases c3:0≤a0
 rotate_left
 ·
  rw[if_neg c3]at H;exact absurd H (by simp)
 rw[if_pos c3]at H;have iZ:=bS c3;clear c3
 by_cases c4:a0<(fY.length:Int)
 rotate_left
 ·
  rw[if_neg c4]at H;exact absurd H (by simp)
 rw[if_pos c4]at H;have ky:=bS c4;clear c4;obtain rfl:=Ok H;have G3:w.cell? ⟨co,0,none⟩=some (.slice kM fY.length kN):=(aI cO.out 0).trans rfl;have Jb:=SG cO;have ZK:0≤(a0:Int):=od;have ZL:a0<(fY.length:Int):=od;obtain⟨ad653,e653,hx653_0⟩:=Kd.OT sF.out a0 ZK ZL
 cases e653
 replace ZK:=eq_true ZK;replace ZL:=eq_true ZL
 go_enter Try.func55,Try.ntmps55
 go_wp2
 go_ret
 exact⟨e3,by repeat(first|exact dD.refl _|apply dD.step)⟩
def hU.l0:Nat→List (X)→Int→Int→List Bool→Option ((List (X)))
 |0,_,_,_,_=>none
 |k+1,x5,x9,i5,JO=>if i5<x9 then((pS.f i5 JO).bind fun ZM=>(if ZM=true then(if(Ee ((x5.length:Int)-1))≥0 then(if 0≤(Ee ((x5.length:Int)-1))then(if(Ee ((x5.length:Int)-1))<(x5.length:Int)then(if(Ee (((aC x5 (Ee ((x5.length:Int)-1))).f0)+((aC x5 (Ee ((x5.length:Int)-1))).f1)))=i5 then(hU.l0 k (x5.set ((Ee ((x5.length:Int)-1)):Int).toNat (⟨(aC x5 (Ee ((x5.length:Int)-1))).f0,Ee (((aC x5 (Ee ((x5.length:Int)-1))).f1)+1)⟩:X)) x9 (Ee (i5+1)) JO)else(if x5.length<8796093022208 then(hU.l0 k (x5++[(⟨i5,1⟩:X)]) x9 (Ee (i5+1)) JO)else(none)))else(none))else(none))else(if x5.length<8796093022208 then(hU.l0 k (x5++[(⟨i5,1⟩:X)]) x9 (Ee (i5+1)) JO)else(none)))else(hU.l0 k x5 x9 (Ee (i5+1)) JO)))else(some x5)
def hU.f(k:Nat)(a0:Int)(fY:List Bool):Option ((List (X))):=hU.l0 k (([]:List (X))) a0 0 fY
theorem hU.dh:∀k,(∀y0 y1 y2 y3,aG (hU.l0 k y0 y1 y2 y3) (hU.l0 (k+1) y0 y1 y2 y3))
 |0=>fun _ _ _ _ r h=>by simp[hU.l0]at h
 |k+1=>by
  have bz:=hU.dh k
  ·
   intro y0 y1 y2 y3;unfold hU.l0
   repeat' with_reducible first|exact bz _ _ _ _|exact aG.refl _|exact aG.none _|refine aG.ite ?_ ?_|refine aG.bind ?_ (fun _=> ?_)
theorem hU.mono:∀a0 a1 k,aG (hU.f k a0 a1) (hU.f (k+1) a0 a1):=by
 intro a0 a1 k;have bz:=hU.dh k;unfold hU.f
 repeat' with_reducible first|exact bz _ _ _ _|exact aG.refl _|exact aG.none _|refine aG.ite ?_ ?_|refine aG.bind ?_ (fun _=> ?_)
theorem hU.calls(k:Nat)(a0:Int)(co:Nat)(kM:Option Addr)(kN:Nat)(fY:List Bool)(r:List (X))(w:World)(LW:Kd.C Kd.bool w kM fY.length fY)(LX:fY.length≤kN)(lv:w.heap[co]?=some (.cells #[.slice kM fY.length kN] 63 (0,0)))(h:hU.f k a0 fY=some r):
 Calls sX 54 #[.int .i64 a0,.func (.func 55) #[] #[.pointer (some ⟨co,0,none⟩)]] w fun e w'=>∃n3:Value,e= .returned (n3)∧Kd.R ag 38 w' w.heap.size (fun _=>True) n3 r∧Below w.heap.size w w':=by
 have lM:=aap
 have eg55:=fun(args:Array Value) (w:World)=>OV (P:=sX) Try.func55 (by kernel_rfl) rfl args w
 have sF:=Ah LW;have tF:=Ah LX;clear LW LX;have bu:=Ah lv;clear lv;have HB:=Ah (gR w.heap.size w);have H:(hU.l0 k (([]:List (X))) a0 0 fY)=some r:=h;clear h;obtain⟨y655,LY⟩:∃y_:List (X),y_=(([]:List (X))):=⟨_,rfl⟩
 replace H:(hU.l0 k y655 a0 0 fY)=some r:=by first|(rw[LY];with_reducible exact H)|(have ai:=(N6 _ _).symm.trans H;rw[LY];with_reducible exact ai)|(have ai:=(N6 _ _).symm.trans H;with_reducible exact ai)|with_reducible exact H|(rw[LY];exact H)|exact H
 have GY:=Ah LY;clear LY;have H':=Ah H;clear H
 go_enter Try.func54,Try.ntmps54
 go_wp2_with (first|((with_reducible refine am (N:=8) rfl ?_);refine Kd.vN ag _ 38 ?hg (N:=8) ?hd (xs:=([]:List (X))) (inner:=[]) (ok:=fun _=>True) (okp:=fun _=>True) ?hr ?hp (fun _ hk=>hk) trivial (gR _ _) (eH _) (by simp) ?_;(case hd=>rfl);(case hg=>rfl);(case hr=>first|(go_simp;done)|(go_simp;rfl));(case hp=>exact(cX.none _ _));intro ZN w3 pv hb mL m9;clear mL m9;(first|rw[←GY.out]at pv|(simp only[aaU]at pv;rw[←GY.out]at pv));have Bk:=Ah (Kd.bq pv (bR (bs HB)));replace bu:=Ah (bJ (g:=co) (o:= .cells #[.slice kM fY.length kN] 63 (0,0)) (bk bu) hb);replace HB:=Ah (aK (bs HB) hb);clear hb pv))
 repeat(go_quiet (first|((with_reducible refine am (N:=8) rfl ?_);refine Kd.vN ag _ 38 ?hg (N:=8) ?hd (xs:=([]:List (X))) (inner:=[]) (ok:=fun _=>True) (okp:=fun _=>True) ?hr ?hp (fun _ hk=>hk) trivial (gR _ _) (eH _) (by simp) ?_;(case hd=>rfl);(case hg=>rfl);(case hr=>first|(go_simp;done)|(go_simp;rfl));(case hp=>exact(cX.none _ _));intro ZN w3 pv hb mL m9;clear mL m9;(first|rw[←GY.out]at pv|(simp only[aaU]at pv;rw[←GY.out]at pv));have Bk:=Ah (Kd.bq pv (bR (bs HB)));replace bu:=Ah (bJ (g:=co) (o:= .cells #[.slice kM fY.length kN] 63 (0,0)) (bk bu) hb);replace HB:=Ah (aK (bs HB) hb);clear hb pv));try go_wp2_with (first|((with_reducible refine am (N:=8) rfl ?_);refine Kd.vN ag _ 38 ?hg (N:=8) ?hd (xs:=([]:List (X))) (inner:=[]) (ok:=fun _=>True) (okp:=fun _=>True) ?hr ?hp (fun _ hk=>hk) trivial (gR _ _) (eH _) (by simp) ?_;(case hd=>rfl);(case hg=>rfl);(case hr=>first|(go_simp;done)|(go_simp;rfl));(case hp=>exact(cX.none _ _));intro ZN w3 pv hb mL m9;clear mL m9;(first|rw[←GY.out]at pv|(simp only[aaU]at pv;rw[←GY.out]at pv));have Bk:=Ah (Kd.bq pv (bR (bs HB)));replace bu:=Ah (bJ (g:=co) (o:= .cells #[.slice kM fY.length kN] 63 (0,0)) (bk bu) hb);replace HB:=Ah (aK (bs HB) hb);clear hb pv)))
 go_loopg [5,10] k (fun kq v5 v10 w'=>∃ (bd:List (X)) (bG:Int),v10= .int .i64 bG∧Y (hU.l0 kq bd a0 bG fY=some r)∧Y (kq≤k)∧Y (Kd.R ag 38 w' w.heap.size (fun _=>True) v5 bd)∧Y (w'.heap[co]?=some (.cells #[(.slice kM fY.length kN)] 63 (0,0)))∧Y (Below w.heap.size w w'))
 case atStart=>exact⟨(y655),(0),e3,H',⟨eH _⟩,⟨rr Bk.out⟩,⟨bk bu⟩,⟨bs HB⟩⟩
 case round=>
  clear H'
  try clear c1
  try clear hx1
  try clear p2
  try clear lv
  obtain⟨bd,bG,rfl,HA,dC,bg,bu,HB⟩:=hrel
  cases gk with
  |zero=>exact absurd HA.out (by simp[hU.l0])
  |succ k1=>
   have H:=HA.out;clear HA;simp only[hU.l0]at H
   by_cases c5:bG<a0
   rotate_left
   ·
    rw[if_neg c5]at H;have o9:=f7 c5;clear c5;obtain rfl:=Ok H
    go_wp2
    repeat(go_quiet (fail);try go_wp2)
    go_ret
    exact⟨_,er,by(with_reducible repeat(first|apply Kd.al|apply Kd.ak|apply Kd.aY));exact bg.out,bs HB⟩
   rw[if_pos c5]at H;have o9:=bS c5;clear c5;replace H:=Hc.mp H;obtain⟨ZM,sW,H⟩:=H
   try dsimp only at H
   have A6:=Ah sW;clear sW
   by_cases c7:ZM=true
   rotate_left
   ·
    replace c7:=Q3.mpr c7;subst c7;rw[if_neg dc]at H;have H':=Ah H;clear H
    go_wp2_with (first|(go_at_call 55;(with_reducible refine(pS.calls bG co kM kN fY false _ ?aJ ?aM ?ac A6.out).mono ?_);(case aJ=>exact cb sF HB);(case aM=>exact tF.out);(case ac=>exact bk bu);rintro e w' ⟨rfl,⟨nd,rfl⟩⟩;(try first|exact⟨rfl,_,aaa _ _ _⟩|exact⟨rfl,_,aa4 (aaa _ _ _) (congrArg (aaC _) (aaB _ _ _))⟩)))
    repeat(go_quiet (first|(go_at_call 55;(with_reducible refine(pS.calls bG co kM kN fY false _ ?aJ ?aM ?ac A6.out).mono ?_);(case aJ=>exact cb sF HB);(case aM=>exact tF.out);(case ac=>exact bk bu);rintro e w' ⟨rfl,⟨nd,rfl⟩⟩;(try first|exact⟨rfl,_,aaa _ _ _⟩|exact⟨rfl,_,aa4 (aaa _ _ _) (congrArg (aaC _) (aaB _ _ _))⟩)));try go_wp2_with (first|(go_at_call 55;(with_reducible refine(pS.calls bG co kM kN fY false _ ?aJ ?aM ?ac A6.out).mono ?_);(case aJ=>exact cb sF HB);(case aM=>exact tF.out);(case ac=>exact bk bu);rintro e w' ⟨rfl,⟨nd,rfl⟩⟩;(try first|exact⟨rfl,_,aaa _ _ _⟩|exact⟨rfl,_,aa4 (aaa _ _ _) (congrArg (aaC _) (aaB _ _ _))⟩))))
    go_roundg k1
    case measure=>have:=dC.out;omega
    case rel=>exact⟨(bd),(Ee (bG+1)),e3,H',⟨by have:=dC.out;omega⟩,⟨rr bg.out⟩,⟨bk bu⟩,⟨bs HB⟩⟩
   subst c7;rw[if_pos rfl]at H
   by_cases c8:(Ee ((bd.length:Int)-1))≥0
   rotate_left
   ·
    rw[if_neg c8]at H;have qW:=f7 c8;clear c8
    by_cases c20:bd.length<8796093022208
    rotate_left
    ·
     rw[if_neg c20]at H;exact absurd H (by simp)
    rw[if_pos c20]at H;have KG:=Ah c20;clear c20;obtain⟨y666,LZ⟩:∃y_:List (X),y_=(bd++[(⟨bG,1⟩:X)]):=⟨_,rfl⟩
    replace H:(hU.l0 k1 y666 a0 (Ee (bG+1)) fY)=some r:=by first|(rw[LZ];with_reducible exact H)|(have ai:=(N6 _ _).symm.trans H;rw[LZ];with_reducible exact ai)|(have ai:=(N6 _ _).symm.trans H;with_reducible exact ai)|with_reducible exact H|(rw[LZ];exact H)|exact H
    have Xa:=Ah LZ;clear LZ;have H':=Ah H;clear H
    go_wp2_with (first|(go_at_call 55;(with_reducible refine(pS.calls bG co kM kN fY true _ ?aJ ?aM ?ac A6.out).mono ?_);(case aJ=>exact cb sF HB);(case aM=>exact tF.out);(case ac=>exact bk bu);rintro e w' ⟨rfl,⟨nd,rfl⟩⟩;(try first|exact⟨rfl,_,aaa _ _ _⟩|exact⟨rfl,_,aa4 (aaa _ _ _) (congrArg (aaC _) (aaB _ _ _))⟩);obtain⟨rC,rD,wF⟩:=Kd.ax bg.out;subst wF)|((with_reducible refine iG (b:= .append) (xs:= #[.tmp 45,.tmp 48]) rfl ?_);at_builtin;refine Kd.jp ag (w0:=w) w.heap.size rfl (.tmp 45) (.tmp 48) 23 38 (.agg #[(.int .i64 0),(.int .i64 0)]) 16 rfl aau mb rfl (by decide) (by omega) (.slice rC bd.length rD) bd (⟨bG,1⟩:X) [.int .i64 bG,.int .i64 1] (fun _=>True) (fun _=>False) rfl rfl ?aP (fun _ hk=>hk.elim) ?aF ?aO ?aB ?aS ?aL ?_;(case aP=>exact nA _ _ _ (⟨bG,1⟩:X));(case aB=>exact(bs HB));(case aF=>exact(fun _ _=>trivial));(case aO=>exact(rr bg.out));(case aS=>exact(bR (bs HB)));(case aL=>have:=KG.out;omega);intro v667 HY ho hb hg hat;rw[←Xa.out]at ho;replace bu:=Ah (cC (g:=co) (o:= .cells #[.slice kM fY.length kN] 63 (0,0)) (bk bu) hg (Kd.cY bg.out bu.out (by decide)));replace HB:=Ah (hb);have Xb:=Ah (ho);clear bg;clear ho hb hg hat))
    repeat(go_quiet (first|(go_at_call 55;(with_reducible refine(pS.calls bG co kM kN fY true _ ?aJ ?aM ?ac A6.out).mono ?_);(case aJ=>exact cb sF HB);(case aM=>exact tF.out);(case ac=>exact bk bu);rintro e w' ⟨rfl,⟨nd,rfl⟩⟩;(try first|exact⟨rfl,_,aaa _ _ _⟩|exact⟨rfl,_,aa4 (aaa _ _ _) (congrArg (aaC _) (aaB _ _ _))⟩);obtain⟨rC,rD,wF⟩:=Kd.ax bg.out;subst wF)|((with_reducible refine iG (b:= .append) (xs:= #[.tmp 45,.tmp 48]) rfl ?_);at_builtin;refine Kd.jp ag (w0:=w) w.heap.size rfl (.tmp 45) (.tmp 48) 23 38 (.agg #[(.int .i64 0),(.int .i64 0)]) 16 rfl aau mb rfl (by decide) (by omega) (.slice rC bd.length rD) bd (⟨bG,1⟩:X) [.int .i64 bG,.int .i64 1] (fun _=>True) (fun _=>False) rfl rfl ?aP (fun _ hk=>hk.elim) ?aF ?aO ?aB ?aS ?aL ?_;(case aP=>exact nA _ _ _ (⟨bG,1⟩:X));(case aB=>exact(bs HB));(case aF=>exact(fun _ _=>trivial));(case aO=>exact(rr bg.out));(case aS=>exact(bR (bs HB)));(case aL=>have:=KG.out;omega);intro v667 HY ho hb hg hat;rw[←Xa.out]at ho;replace bu:=Ah (cC (g:=co) (o:= .cells #[.slice kM fY.length kN] 63 (0,0)) (bk bu) hg (Kd.cY bg.out bu.out (by decide)));replace HB:=Ah (hb);have Xb:=Ah (ho);clear bg;clear ho hb hg hat));try go_wp2_with (first|(go_at_call 55;(with_reducible refine(pS.calls bG co kM kN fY true _ ?aJ ?aM ?ac A6.out).mono ?_);(case aJ=>exact cb sF HB);(case aM=>exact tF.out);(case ac=>exact bk bu);rintro e w' ⟨rfl,⟨nd,rfl⟩⟩;(try first|exact⟨rfl,_,aaa _ _ _⟩|exact⟨rfl,_,aa4 (aaa _ _ _) (congrArg (aaC _) (aaB _ _ _))⟩);obtain⟨rC,rD,wF⟩:=Kd.ax bg.out;subst wF)|((with_reducible refine iG (b:= .append) (xs:= #[.tmp 45,.tmp 48]) rfl ?_);at_builtin;refine Kd.jp ag (w0:=w) w.heap.size rfl (.tmp 45) (.tmp 48) 23 38 (.agg #[(.int .i64 0),(.int .i64 0)]) 16 rfl aau mb rfl (by decide) (by omega) (.slice rC bd.length rD) bd (⟨bG,1⟩:X) [.int .i64 bG,.int .i64 1] (fun _=>True) (fun _=>False) rfl rfl ?aP (fun _ hk=>hk.elim) ?aF ?aO ?aB ?aS ?aL ?_;(case aP=>exact nA _ _ _ (⟨bG,1⟩:X));(case aB=>exact(bs HB));(case aF=>exact(fun _ _=>trivial));(case aO=>exact(rr bg.out));(case aS=>exact(bR (bs HB)));(case aL=>have:=KG.out;omega);intro v667 HY ho hb hg hat;rw[←Xa.out]at ho;replace bu:=Ah (cC (g:=co) (o:= .cells #[.slice kM fY.length kN] 63 (0,0)) (bk bu) hg (Kd.cY bg.out bu.out (by decide)));replace HB:=Ah (hb);have Xb:=Ah (ho);clear bg;clear ho hb hg hat)))
    go_roundg k1
    case measure=>have:=dC.out;omega
    case rel=>exact⟨(y666),(Ee (bG+1)),e3,H',⟨by have:=dC.out;omega⟩,⟨rr Xb.out⟩,⟨bk bu⟩,⟨bs HB⟩⟩
   rw[if_pos c8]at H;have qW:=bS c8;clear c8;obtain⟨bP,Mu⟩:∃j_:Int,(Ee ((bd.length:Int)-1))=j_:=⟨_,rfl⟩
   replace H:(if 0≤(bP)then(if(bP)<(bd.length:Int)then(if(Ee (((aC bd (bP)).f0)+((aC bd (bP)).f1)))=bG then(hU.l0 k1 (bd.set ((bP):Int).toNat (⟨(aC bd (bP)).f0,Ee (((aC bd (bP)).f1)+1)⟩:X)) a0 (Ee (bG+1)) fY)else(if bd.length<8796093022208 then(hU.l0 k1 (bd++[(⟨bG,1⟩:X)]) a0 (Ee (bG+1)) fY)else(none)))else(none))else(none))=some r:=by first|(rw[Mu]at H;exact H)|(simp only[Mu]at H⊢;exact H)
   (try rw[Mu]at qW);(try rw[Mu]at A6);have hji9w:(IntKind.i64.wrap ((bd.length:Int)-1))=bP:=(lr _).trans Mu
   by_cases c10:0≤(bP)
   rotate_left
   ·
    rw[if_neg c10]at H;exact absurd H (by simp)
   rw[if_pos c10]at H;have zV:=bS c10;clear c10
   by_cases c11:(bP)<(bd.length:Int)
   rotate_left
   ·
    rw[if_neg c11]at H;exact absurd H (by simp)
   rw[if_pos c11]at H;have BS:=bS c11;clear c11
   by_cases c12:(Ee (((aC bd (bP)).f0)+((aC bd (bP)).f1)))=bG
   rotate_left
   ·
    rw[if_neg c12]at H;have sB:=jI c12;have DB:=jJ c12
    by_cases c17:bd.length<8796093022208
    rotate_left
    ·
     rw[if_neg c17]at H;exact absurd H (by simp)
    rw[if_pos c17]at H;have KC:=Ah c17;clear c17;obtain⟨y663,La⟩:∃y_:List (X),y_=(bd++[(⟨bG,1⟩:X)]):=⟨_,rfl⟩
    replace H:(hU.l0 k1 y663 a0 (Ee (bG+1)) fY)=some r:=by first|(rw[La];with_reducible exact H)|(have ai:=(N6 _ _).symm.trans H;rw[La];with_reducible exact ai)|(have ai:=(N6 _ _).symm.trans H;with_reducible exact ai)|with_reducible exact H|(rw[La];exact H)|exact H
    have Xc:=Ah La;clear La;have H':=Ah H;clear H
    go_wp2_with (first|(go_at_call 55;(with_reducible refine(pS.calls bG co kM kN fY true _ ?aJ ?aM ?ac A6.out).mono ?_);(case aJ=>exact cb sF HB);(case aM=>exact tF.out);(case ac=>exact bk bu);rintro e w' ⟨rfl,⟨nd,rfl⟩⟩;(try first|exact⟨rfl,_,aaa _ _ _⟩|exact⟨rfl,_,aa4 (aaa _ _ _) (congrArg (aaC _) (aaB _ _ _))⟩);obtain⟨fx,fb,Dh⟩:=Kd.ax bg.out;subst Dh;have kO:0≤((bP):Int):=od;have kP:(bP)<(bd.length:Int):=od;obtain⟨oV,rS,vJ,B0⟩:=eA (Kd.ab bg.out).2.2 (bP) kO kP;cases rS;replace kO:=eq_true kO;replace kP:=eq_true kP;have my:0≤((bP):Int):=od;have mz:(bP)<(bd.length:Int):=od;obtain⟨vm,wW,B2,B3⟩:=eA (Kd.ab bg.out).2.2 (bP) my mz;obtain rfl:oV=vm:=(by injection wW);replace my:=eq_true my;replace mz:=eq_true mz)|((with_reducible refine iG (b:= .append) (xs:= #[.tmp 45,.tmp 48]) rfl ?_);at_builtin;refine Kd.jp ag (w0:=w) w.heap.size rfl (.tmp 45) (.tmp 48) 23 38 (.agg #[(.int .i64 0),(.int .i64 0)]) 16 rfl aau mb rfl (by decide) (by omega) (.slice (some oV) bd.length fb) bd (⟨bG,1⟩:X) [.int .i64 bG,.int .i64 1] (fun _=>True) (fun _=>False) rfl rfl ?aP (fun _ hk=>hk.elim) ?aF ?aO ?aB ?aS ?aL ?_;(case aP=>exact nA _ _ _ (⟨bG,1⟩:X));(case aB=>exact(bs HB));(case aF=>exact(fun _ _=>trivial));(case aO=>exact(rr bg.out));(case aS=>exact(bR (bs HB)));(case aL=>have:=KC.out;omega);intro v664 NW ho hb hg hat;rw[←Xc.out]at ho;replace bu:=Ah (cC (g:=co) (o:= .cells #[.slice kM fY.length kN] 63 (0,0)) (bk bu) hg (Kd.cY bg.out bu.out (by decide)));replace HB:=Ah (hb);have Xd:=Ah (ho);clear bg;clear ho hb hg hat))
    repeat(go_quiet (first|(go_at_call 55;(with_reducible refine(pS.calls bG co kM kN fY true _ ?aJ ?aM ?ac A6.out).mono ?_);(case aJ=>exact cb sF HB);(case aM=>exact tF.out);(case ac=>exact bk bu);rintro e w' ⟨rfl,⟨nd,rfl⟩⟩;(try first|exact⟨rfl,_,aaa _ _ _⟩|exact⟨rfl,_,aa4 (aaa _ _ _) (congrArg (aaC _) (aaB _ _ _))⟩);obtain⟨fx,fb,Dh⟩:=Kd.ax bg.out;subst Dh;have kO:0≤((bP):Int):=od;have kP:(bP)<(bd.length:Int):=od;obtain⟨oV,rS,vJ,B0⟩:=eA (Kd.ab bg.out).2.2 (bP) kO kP;cases rS;replace kO:=eq_true kO;replace kP:=eq_true kP;have my:0≤((bP):Int):=od;have mz:(bP)<(bd.length:Int):=od;obtain⟨vm,wW,B2,B3⟩:=eA (Kd.ab bg.out).2.2 (bP) my mz;obtain rfl:oV=vm:=(by injection wW);replace my:=eq_true my;replace mz:=eq_true mz)|((with_reducible refine iG (b:= .append) (xs:= #[.tmp 45,.tmp 48]) rfl ?_);at_builtin;refine Kd.jp ag (w0:=w) w.heap.size rfl (.tmp 45) (.tmp 48) 23 38 (.agg #[(.int .i64 0),(.int .i64 0)]) 16 rfl aau mb rfl (by decide) (by omega) (.slice (some oV) bd.length fb) bd (⟨bG,1⟩:X) [.int .i64 bG,.int .i64 1] (fun _=>True) (fun _=>False) rfl rfl ?aP (fun _ hk=>hk.elim) ?aF ?aO ?aB ?aS ?aL ?_;(case aP=>exact nA _ _ _ (⟨bG,1⟩:X));(case aB=>exact(bs HB));(case aF=>exact(fun _ _=>trivial));(case aO=>exact(rr bg.out));(case aS=>exact(bR (bs HB)));(case aL=>have:=KC.out;omega);intro v664 NW ho hb hg hat;rw[←Xc.out]at ho;replace bu:=Ah (cC (g:=co) (o:= .cells #[.slice kM fY.length kN] 63 (0,0)) (bk bu) hg (Kd.cY bg.out bu.out (by decide)));replace HB:=Ah (hb);have Xd:=Ah (ho);clear bg;clear ho hb hg hat));try go_wp2_with (first|(go_at_call 55;(with_reducible refine(pS.calls bG co kM kN fY true _ ?aJ ?aM ?ac A6.out).mono ?_);(case aJ=>exact cb sF HB);(case aM=>exact tF.out);(case ac=>exact bk bu);rintro e w' ⟨rfl,⟨nd,rfl⟩⟩;(try first|exact⟨rfl,_,aaa _ _ _⟩|exact⟨rfl,_,aa4 (aaa _ _ _) (congrArg (aaC _) (aaB _ _ _))⟩);obtain⟨fx,fb,Dh⟩:=Kd.ax bg.out;subst Dh;have kO:0≤((bP):Int):=od;have kP:(bP)<(bd.length:Int):=od;obtain⟨oV,rS,vJ,B0⟩:=eA (Kd.ab bg.out).2.2 (bP) kO kP;cases rS;replace kO:=eq_true kO;replace kP:=eq_true kP;have my:0≤((bP):Int):=od;have mz:(bP)<(bd.length:Int):=od;obtain⟨vm,wW,B2,B3⟩:=eA (Kd.ab bg.out).2.2 (bP) my mz;obtain rfl:oV=vm:=(by injection wW);replace my:=eq_true my;replace mz:=eq_true mz)|((with_reducible refine iG (b:= .append) (xs:= #[.tmp 45,.tmp 48]) rfl ?_);at_builtin;refine Kd.jp ag (w0:=w) w.heap.size rfl (.tmp 45) (.tmp 48) 23 38 (.agg #[(.int .i64 0),(.int .i64 0)]) 16 rfl aau mb rfl (by decide) (by omega) (.slice (some oV) bd.length fb) bd (⟨bG,1⟩:X) [.int .i64 bG,.int .i64 1] (fun _=>True) (fun _=>False) rfl rfl ?aP (fun _ hk=>hk.elim) ?aF ?aO ?aB ?aS ?aL ?_;(case aP=>exact nA _ _ _ (⟨bG,1⟩:X));(case aB=>exact(bs HB));(case aF=>exact(fun _ _=>trivial));(case aO=>exact(rr bg.out));(case aS=>exact(bR (bs HB)));(case aL=>have:=KC.out;omega);intro v664 NW ho hb hg hat;rw[←Xc.out]at ho;replace bu:=Ah (cC (g:=co) (o:= .cells #[.slice kM fY.length kN] 63 (0,0)) (bk bu) hg (Kd.cY bg.out bu.out (by decide)));replace HB:=Ah (hb);have Xd:=Ah (ho);clear bg;clear ho hb hg hat)))
    go_roundg k1
    case measure=>have:=dC.out;omega
    case rel=>exact⟨(y663),(Ee (bG+1)),e3,H',⟨by have:=dC.out;omega⟩,⟨rr Xd.out⟩,⟨bk bu⟩,⟨bs HB⟩⟩
   rw[if_pos c12]at H;have sB:=jm c12;have DB:=jn c12;clear c12;obtain⟨Mv,Lb⟩:∃y_:List (X),y_=(bd.set ((bP):Int).toNat (⟨(aC bd (bP)).f0,Ee (((aC bd (bP)).f1)+1)⟩:X)):=⟨_,rfl⟩
   replace H:(hU.l0 k1 Mv a0 (Ee (bG+1)) fY)=some r:=by first|(rw[Lb];with_reducible exact H)|(have ai:=(N6 _ _).symm.trans H;rw[Lb];with_reducible exact ai)|(have ai:=(N6 _ _).symm.trans H;with_reducible exact ai)|with_reducible exact H|(rw[Lb];exact H)|exact H
   have Xe:=Ah Lb;clear Lb;have H':=Ah H;clear H
   go_wp2_with (first|(go_at_call 55;(with_reducible refine(pS.calls bG co kM kN fY true _ ?aJ ?aM ?ac A6.out).mono ?_);(case aJ=>exact cb sF HB);(case aM=>exact tF.out);(case ac=>exact bk bu);rintro e w' ⟨rfl,⟨nd,rfl⟩⟩;(try first|exact⟨rfl,_,aaa _ _ _⟩|exact⟨rfl,_,aa4 (aaa _ _ _) (congrArg (aaC _) (aaB _ _ _))⟩);obtain⟨m0,j8,zy⟩:=Kd.ax bg.out;subst zy;have kO:0≤((bP):Int):=od;have kP:(bP)<(bd.length:Int):=od;obtain⟨oV,rS,vJ,B0⟩:=eA (Kd.ab bg.out).2.2 (bP) kO kP;cases rS;replace kO:=eq_true kO;replace kP:=eq_true kP;have my:0≤((bP):Int):=od;have mz:(bP)<(bd.length:Int):=od;obtain⟨vm,wW,B2,B3⟩:=eA (Kd.ab bg.out).2.2 (bP) my mz;obtain rfl:oV=vm:=(by injection wW);replace my:=eq_true my;replace mz:=eq_true mz;have wX:0≤((bP):Int):=od;have wY:(bP)<(bd.length:Int):=od;obtain⟨Lc,Mw,JP,JQ⟩:=eA (Kd.ab bg.out).2.2 (bP) wX wY;obtain rfl:oV=Lc:=(by injection Mw);replace wX:=eq_true wX;replace wY:=eq_true wY;have ws:0≤((bP):Int):=od;have wt:((bP):Int)<((bd.length:Int):Int):=od;obtain⟨l9,fP,sH,CE,Mx,cl13,CG⟩:=Kd.Ft bg.out (by omega);(first|cases sH|(injection sH with lE wo wq;(first|subst lE|(injection lE with lE;subst lE));subst wq;clear wo));have My:=Ah CE;have GG13:=Ah CG;clear CE Mx CG;(first|simp only[k8]at vJ|skip);(first|simp only[k8]at B0|skip);(first|simp only[k8]at B2|skip);(first|simp only[k8]at B3|skip);(first|simp only[k8]at JP|skip);(first|simp only[k8]at JQ|skip);obtain⟨ce13,Ld,CH,vn,vo⟩:=Kd.u0 bg.out ey ((bP):Int) ws wt;obtain rfl:=te CH;have hx13_0:wr.cell? ⟨l9,((bP):Int).toNat*2,none⟩=some (.int .i64 ((aC bd (bP)).f0)):=vn 0 _ rfl;have hx13_1:wr.cell? ⟨l9,((bP):Int).toNat*2+1,none⟩=some (.int .i64 ((aC bd (bP)).f1)):=vn 1 _ rfl;have hf13_0:wr.frozen? ⟨l9,((bP):Int).toNat*2,none⟩=false:=vo 0;have hf13_1:wr.frozen? ⟨l9,((bP):Int).toNat*2+1,none⟩=false:=vo 1;clear Ld vn vo CH;replace ws:=eq_true ws;replace wt:=eq_true wt;have po:=Ah (show Kd.R ag 38 wr w.heap.size (fun _=>True) (.slice (some ⟨l9,0,none⟩) bd.length j8) bd from(rr bg.out));obtain⟨Mz,pk,pp,mo,pl⟩:=Kd.u0 po.out ey ((bP):Int) (od) (by have h_:((bP):Int)<((bd.length:Int):Int):=od;first|exact h_|(have e_:=(Kd.ab bg.out).1;omega)|simpa using h_);obtain rfl:=te pp;have sN:=Kd.BA po.out ((bP):Int) (od) (by have h_:((bP):Int)<((bd.length:Int):Int):=od;first|exact h_|(have e_:=(Kd.ab bg.out).1;omega)|simpa using h_) (seg:=[.int .i64 (Ee (((aC bd (bP)).f1)+1))]) (j:=1) pk mo (show 2≤2 from by decide) (x':=(⟨(aC bd (bP)).f0,Ee (((aC bd (bP)).f1)+1)⟩:X)) (nA _ _ _ (⟨(aC bd (bP)).f0,Ee (((aC bd (bP)).f1)+1)⟩:X)) (fun _ hk=>hk);have vL:=mo 1 _ rfl;(try simp only[show(ag).sz=2 from rfl,aaI,aaE]at vL);have vM:=pl 1;(try simp only[show(ag).sz=2 from rfl,aaI,aaE]at vM);clear pk mo pl pp)|((with_reducible refine Ck (t:=3) (p:=44) rfl ?_);(try(rw[Et wr];generalize lR:aaC wr _=wr;replace bg:=Ah (Kd.RL lR bg.out);replace bu:=Ah (JV lR bu.out);replace HB:=Ah (OQ lR HB.out);clear lR;(try(have po:=Ah (show Kd.R ag 38 wr w.heap.size (fun _=>True) (.slice (some ⟨l9,0,none⟩) bd.length j8) bd from(rr bg.out))));(try(obtain⟨Mz,pk,pp,mo,pl⟩:=Kd.u0 po.out ey ((bP):Int) (od) (by have h_:((bP):Int)<((bd.length:Int):Int):=od;first|exact h_|(have e_:=(Kd.ab bg.out).1;omega)|simpa using h_)));(try(obtain rfl:=te pp));(try(have sN:=Kd.BA po.out ((bP):Int) (od) (by have h_:((bP):Int)<((bd.length:Int):Int):=od;first|exact h_|(have e_:=(Kd.ab bg.out).1;omega)|simpa using h_) (seg:=[.int .i64 (Ee (((aC bd (bP)).f1)+1))]) (j:=1) pk mo (show 2≤2 from by decide) (x':=(⟨(aC bd (bP)).f0,Ee (((aC bd (bP)).f1)+1)⟩:X)) (nA _ _ _ (⟨(aC bd (bP)).f0,Ee (((aC bd (bP)).f1)+1)⟩:X)) (fun _ hk=>hk)));(try(have vL:=mo 1 _ rfl));(try(try simp only[show(ag).sz=2 from rfl,aaI,aaE]at vL));(try(have vM:=pl 1));(try(try simp only[show(ag).sz=2 from rfl,aaI,aaE]at vM));(try(clear pk mo pl pp))));refine Ci (t:=3) (p:=44) (v:= ?vo_w16) (w1:=(wr.setCell ⟨l9,((bP):Int).toNat*2+1,none⟩ (.int .i64 (Ee (((aC bd (bP)).f1)+1))))) ?hg ?ho ?hn ?hr ?_;(case ho=>rfl);(case hg=>rfl);(case hn=>rfl);(case hr=>first|(go_simp;done)|(go_simp;rfl));intro w16 hw;have hg:wr.grownBy w16 (some l9):=(by rw[hw];exact sN.2);have pu:Kd.R ag 38 w16 w.heap.size (fun _=>True) (.slice (some ⟨l9,0,none⟩) bd.length j8) Mv:=(by rw[hw,Xe.out];exact sN.1);clear sN;replace bu:=Ah (cC (g:=co) (o:= .cells #[.slice kM fY.length kN] 63 (0,0)) (bk bu) hg (Kd.cY bg.out bu.out (by decide)));replace bg:=Ah (pu);replace HB:=Ah ((by rw[hw];exact ue (HB.out) My.out:Below w.heap.size w w16));clear hg hw pu))
   repeat(go_quiet (first|(go_at_call 55;(with_reducible refine(pS.calls bG co kM kN fY true _ ?aJ ?aM ?ac A6.out).mono ?_);(case aJ=>exact cb sF HB);(case aM=>exact tF.out);(case ac=>exact bk bu);rintro e w' ⟨rfl,⟨nd,rfl⟩⟩;(try first|exact⟨rfl,_,aaa _ _ _⟩|exact⟨rfl,_,aa4 (aaa _ _ _) (congrArg (aaC _) (aaB _ _ _))⟩);obtain⟨m0,j8,zy⟩:=Kd.ax bg.out;subst zy;have kO:0≤((bP):Int):=od;have kP:(bP)<(bd.length:Int):=od;obtain⟨oV,rS,vJ,B0⟩:=eA (Kd.ab bg.out).2.2 (bP) kO kP;cases rS;replace kO:=eq_true kO;replace kP:=eq_true kP;have my:0≤((bP):Int):=od;have mz:(bP)<(bd.length:Int):=od;obtain⟨vm,wW,B2,B3⟩:=eA (Kd.ab bg.out).2.2 (bP) my mz;obtain rfl:oV=vm:=(by injection wW);replace my:=eq_true my;replace mz:=eq_true mz;have wX:0≤((bP):Int):=od;have wY:(bP)<(bd.length:Int):=od;obtain⟨Lc,Mw,JP,JQ⟩:=eA (Kd.ab bg.out).2.2 (bP) wX wY;obtain rfl:oV=Lc:=(by injection Mw);replace wX:=eq_true wX;replace wY:=eq_true wY;have ws:0≤((bP):Int):=od;have wt:((bP):Int)<((bd.length:Int):Int):=od;obtain⟨l9,fP,sH,CE,Mx,cl13,CG⟩:=Kd.Ft bg.out (by omega);(first|cases sH|(injection sH with lE wo wq;(first|subst lE|(injection lE with lE;subst lE));subst wq;clear wo));have My:=Ah CE;have GG13:=Ah CG;clear CE Mx CG;(first|simp only[k8]at vJ|skip);(first|simp only[k8]at B0|skip);(first|simp only[k8]at B2|skip);(first|simp only[k8]at B3|skip);(first|simp only[k8]at JP|skip);(first|simp only[k8]at JQ|skip);obtain⟨ce13,Ld,CH,vn,vo⟩:=Kd.u0 bg.out ey ((bP):Int) ws wt;obtain rfl:=te CH;have hx13_0:wr.cell? ⟨l9,((bP):Int).toNat*2,none⟩=some (.int .i64 ((aC bd (bP)).f0)):=vn 0 _ rfl;have hx13_1:wr.cell? ⟨l9,((bP):Int).toNat*2+1,none⟩=some (.int .i64 ((aC bd (bP)).f1)):=vn 1 _ rfl;have hf13_0:wr.frozen? ⟨l9,((bP):Int).toNat*2,none⟩=false:=vo 0;have hf13_1:wr.frozen? ⟨l9,((bP):Int).toNat*2+1,none⟩=false:=vo 1;clear Ld vn vo CH;replace ws:=eq_true ws;replace wt:=eq_true wt;have po:=Ah (show Kd.R ag 38 wr w.heap.size (fun _=>True) (.slice (some ⟨l9,0,none⟩) bd.length j8) bd from(rr bg.out));obtain⟨Mz,pk,pp,mo,pl⟩:=Kd.u0 po.out ey ((bP):Int) (od) (by have h_:((bP):Int)<((bd.length:Int):Int):=od;first|exact h_|(have e_:=(Kd.ab bg.out).1;omega)|simpa using h_);obtain rfl:=te pp;have sN:=Kd.BA po.out ((bP):Int) (od) (by have h_:((bP):Int)<((bd.length:Int):Int):=od;first|exact h_|(have e_:=(Kd.ab bg.out).1;omega)|simpa using h_) (seg:=[.int .i64 (Ee (((aC bd (bP)).f1)+1))]) (j:=1) pk mo (show 2≤2 from by decide) (x':=(⟨(aC bd (bP)).f0,Ee (((aC bd (bP)).f1)+1)⟩:X)) (nA _ _ _ (⟨(aC bd (bP)).f0,Ee (((aC bd (bP)).f1)+1)⟩:X)) (fun _ hk=>hk);have vL:=mo 1 _ rfl;(try simp only[show(ag).sz=2 from rfl,aaI,aaE]at vL);have vM:=pl 1;(try simp only[show(ag).sz=2 from rfl,aaI,aaE]at vM);clear pk mo pl pp)|((with_reducible refine Ck (t:=3) (p:=44) rfl ?_);(try(rw[Et wr];generalize lR:aaC wr _=wr;replace bg:=Ah (Kd.RL lR bg.out);replace bu:=Ah (JV lR bu.out);replace HB:=Ah (OQ lR HB.out);clear lR;(try(have po:=Ah (show Kd.R ag 38 wr w.heap.size (fun _=>True) (.slice (some ⟨l9,0,none⟩) bd.length j8) bd from(rr bg.out))));(try(obtain⟨Mz,pk,pp,mo,pl⟩:=Kd.u0 po.out ey ((bP):Int) (od) (by have h_:((bP):Int)<((bd.length:Int):Int):=od;first|exact h_|(have e_:=(Kd.ab bg.out).1;omega)|simpa using h_)));(try(obtain rfl:=te pp));(try(have sN:=Kd.BA po.out ((bP):Int) (od) (by have h_:((bP):Int)<((bd.length:Int):Int):=od;first|exact h_|(have e_:=(Kd.ab bg.out).1;omega)|simpa using h_) (seg:=[.int .i64 (Ee (((aC bd (bP)).f1)+1))]) (j:=1) pk mo (show 2≤2 from by decide) (x':=(⟨(aC bd (bP)).f0,Ee (((aC bd (bP)).f1)+1)⟩:X)) (nA _ _ _ (⟨(aC bd (bP)).f0,Ee (((aC bd (bP)).f1)+1)⟩:X)) (fun _ hk=>hk)));(try(have vL:=mo 1 _ rfl));(try(try simp only[show(ag).sz=2 from rfl,aaI,aaE]at vL));(try(have vM:=pl 1));(try(try simp only[show(ag).sz=2 from rfl,aaI,aaE]at vM));(try(clear pk mo pl pp))));refine Ci (t:=3) (p:=44) (v:= ?vo_w16) (w1:=(wr.setCell ⟨l9,((bP):Int).toNat*2+1,none⟩ (.int .i64 (Ee (((aC bd (bP)).f1)+1))))) ?hg ?ho ?hn ?hr ?_;(case ho=>rfl);(case hg=>rfl);(case hn=>rfl);(case hr=>first|(go_simp;done)|(go_simp;rfl));intro w16 hw;have hg:wr.grownBy w16 (some l9):=(by rw[hw];exact sN.2);have pu:Kd.R ag 38 w16 w.heap.size (fun _=>True) (.slice (some ⟨l9,0,none⟩) bd.length j8) Mv:=(by rw[hw,Xe.out];exact sN.1);clear sN;replace bu:=Ah (cC (g:=co) (o:= .cells #[.slice kM fY.length kN] 63 (0,0)) (bk bu) hg (Kd.cY bg.out bu.out (by decide)));replace bg:=Ah (pu);replace HB:=Ah ((by rw[hw];exact ue (HB.out) My.out:Below w.heap.size w w16));clear hg hw pu));try go_wp2_with (first|(go_at_call 55;(with_reducible refine(pS.calls bG co kM kN fY true _ ?aJ ?aM ?ac A6.out).mono ?_);(case aJ=>exact cb sF HB);(case aM=>exact tF.out);(case ac=>exact bk bu);rintro e w' ⟨rfl,⟨nd,rfl⟩⟩;(try first|exact⟨rfl,_,aaa _ _ _⟩|exact⟨rfl,_,aa4 (aaa _ _ _) (congrArg (aaC _) (aaB _ _ _))⟩);obtain⟨m0,j8,zy⟩:=Kd.ax bg.out;subst zy;have kO:0≤((bP):Int):=od;have kP:(bP)<(bd.length:Int):=od;obtain⟨oV,rS,vJ,B0⟩:=eA (Kd.ab bg.out).2.2 (bP) kO kP;cases rS;replace kO:=eq_true kO;replace kP:=eq_true kP;have my:0≤((bP):Int):=od;have mz:(bP)<(bd.length:Int):=od;obtain⟨vm,wW,B2,B3⟩:=eA (Kd.ab bg.out).2.2 (bP) my mz;obtain rfl:oV=vm:=(by injection wW);replace my:=eq_true my;replace mz:=eq_true mz;have wX:0≤((bP):Int):=od;have wY:(bP)<(bd.length:Int):=od;obtain⟨Lc,Mw,JP,JQ⟩:=eA (Kd.ab bg.out).2.2 (bP) wX wY;obtain rfl:oV=Lc:=(by injection Mw);replace wX:=eq_true wX;replace wY:=eq_true wY;have ws:0≤((bP):Int):=od;have wt:((bP):Int)<((bd.length:Int):Int):=od;obtain⟨l9,fP,sH,CE,Mx,cl13,CG⟩:=Kd.Ft bg.out (by omega);(first|cases sH|(injection sH with lE wo wq;(first|subst lE|(injection lE with lE;subst lE));subst wq;clear wo));have My:=Ah CE;have GG13:=Ah CG;clear CE Mx CG;(first|simp only[k8]at vJ|skip);(first|simp only[k8]at B0|skip);(first|simp only[k8]at B2|skip);(first|simp only[k8]at B3|skip);(first|simp only[k8]at JP|skip);(first|simp only[k8]at JQ|skip);obtain⟨ce13,Ld,CH,vn,vo⟩:=Kd.u0 bg.out ey ((bP):Int) ws wt;obtain rfl:=te CH;have hx13_0:wr.cell? ⟨l9,((bP):Int).toNat*2,none⟩=some (.int .i64 ((aC bd (bP)).f0)):=vn 0 _ rfl;have hx13_1:wr.cell? ⟨l9,((bP):Int).toNat*2+1,none⟩=some (.int .i64 ((aC bd (bP)).f1)):=vn 1 _ rfl;have hf13_0:wr.frozen? ⟨l9,((bP):Int).toNat*2,none⟩=false:=vo 0;have hf13_1:wr.frozen? ⟨l9,((bP):Int).toNat*2+1,none⟩=false:=vo 1;clear Ld vn vo CH;replace ws:=eq_true ws;replace wt:=eq_true wt;have po:=Ah (show Kd.R ag 38 wr w.heap.size (fun _=>True) (.slice (some ⟨l9,0,none⟩) bd.length j8) bd from(rr bg.out));obtain⟨Mz,pk,pp,mo,pl⟩:=Kd.u0 po.out ey ((bP):Int) (od) (by have h_:((bP):Int)<((bd.length:Int):Int):=od;first|exact h_|(have e_:=(Kd.ab bg.out).1;omega)|simpa using h_);obtain rfl:=te pp;have sN:=Kd.BA po.out ((bP):Int) (od) (by have h_:((bP):Int)<((bd.length:Int):Int):=od;first|exact h_|(have e_:=(Kd.ab bg.out).1;omega)|simpa using h_) (seg:=[.int .i64 (Ee (((aC bd (bP)).f1)+1))]) (j:=1) pk mo (show 2≤2 from by decide) (x':=(⟨(aC bd (bP)).f0,Ee (((aC bd (bP)).f1)+1)⟩:X)) (nA _ _ _ (⟨(aC bd (bP)).f0,Ee (((aC bd (bP)).f1)+1)⟩:X)) (fun _ hk=>hk);have vL:=mo 1 _ rfl;(try simp only[show(ag).sz=2 from rfl,aaI,aaE]at vL);have vM:=pl 1;(try simp only[show(ag).sz=2 from rfl,aaI,aaE]at vM);clear pk mo pl pp)|((with_reducible refine Ck (t:=3) (p:=44) rfl ?_);(try(rw[Et wr];generalize lR:aaC wr _=wr;replace bg:=Ah (Kd.RL lR bg.out);replace bu:=Ah (JV lR bu.out);replace HB:=Ah (OQ lR HB.out);clear lR;(try(have po:=Ah (show Kd.R ag 38 wr w.heap.size (fun _=>True) (.slice (some ⟨l9,0,none⟩) bd.length j8) bd from(rr bg.out))));(try(obtain⟨Mz,pk,pp,mo,pl⟩:=Kd.u0 po.out ey ((bP):Int) (od) (by have h_:((bP):Int)<((bd.length:Int):Int):=od;first|exact h_|(have e_:=(Kd.ab bg.out).1;omega)|simpa using h_)));(try(obtain rfl:=te pp));(try(have sN:=Kd.BA po.out ((bP):Int) (od) (by have h_:((bP):Int)<((bd.length:Int):Int):=od;first|exact h_|(have e_:=(Kd.ab bg.out).1;omega)|simpa using h_) (seg:=[.int .i64 (Ee (((aC bd (bP)).f1)+1))]) (j:=1) pk mo (show 2≤2 from by decide) (x':=(⟨(aC bd (bP)).f0,Ee (((aC bd (bP)).f1)+1)⟩:X)) (nA _ _ _ (⟨(aC bd (bP)).f0,Ee (((aC bd (bP)).f1)+1)⟩:X)) (fun _ hk=>hk)));(try(have vL:=mo 1 _ rfl));(try(try simp only[show(ag).sz=2 from rfl,aaI,aaE]at vL));(try(have vM:=pl 1));(try(try simp only[show(ag).sz=2 from rfl,aaI,aaE]at vM));(try(clear pk mo pl pp))));refine Ci (t:=3) (p:=44) (v:= ?vo_w16) (w1:=(wr.setCell ⟨l9,((bP):Int).toNat*2+1,none⟩ (.int .i64 (Ee (((aC bd (bP)).f1)+1))))) ?hg ?ho ?hn ?hr ?_;(case ho=>rfl);(case hg=>rfl);(case hn=>rfl);(case hr=>first|(go_simp;done)|(go_simp;rfl));intro w16 hw;have hg:wr.grownBy w16 (some l9):=(by rw[hw];exact sN.2);have pu:Kd.R ag 38 w16 w.heap.size (fun _=>True) (.slice (some ⟨l9,0,none⟩) bd.length j8) Mv:=(by rw[hw,Xe.out];exact sN.1);clear sN;replace bu:=Ah (cC (g:=co) (o:= .cells #[.slice kM fY.length kN] 63 (0,0)) (bk bu) hg (Kd.cY bg.out bu.out (by decide)));replace bg:=Ah (pu);replace HB:=Ah ((by rw[hw];exact ue (HB.out) My.out:Below w.heap.size w w16));clear hg hw pu)))
   go_roundg k1
   case measure=>have:=dC.out;omega
   case rel=>exact⟨(Mv),(Ee (bG+1)),e3,H',⟨by have:=dC.out;omega⟩,⟨rr bg.out⟩,⟨bk bu⟩,⟨bs HB⟩⟩
def Er.f(a0:Int)(l1:List (X)):Option (Int×(List (X))×(List (X))):=(oE.f l1).bind fun tR=>((ub.f tR).bind fun N0=>(some (a0,l1,N0)))
theorem Er.calls(a0:Int)(pQ:Nat→Prop)(DA:Value)(l1:List (X))(r1:Int)(r2:List (X))(r3:List (X))(w0 w:World)(hB:Below w0.heap.size w0 w)(ho1:Kd.R ag 38 w w0.heap.size pQ DA l1)(h:Er.f a0 l1=some (r1,r2,r3)):
 Calls Try.prog 45 #[.int .i64 a0,DA] w fun e w'=>∃et eZ:Value,e= .returned (.agg #[.int .i64 r1,et,eZ])∧Kd.R ag 38 w' w0.heap.size (fun k_=>(pQ k_∨w.heap.size≤k_)∧some k_≠(eZ:Value).ownBlock) et r2∧Kd.R ag 38 w' w0.heap.size (fun k_=>(pQ k_∨w.heap.size≤k_)∧some k_≠(et:Value).ownBlock) eZ r3∧Below w0.heap.size w0 w'∧dU w w' (fun k_=>pQ k_):=by
 have o8:=aah;have nY:=Ah (show Kd.R ag 38 w w0.heap.size (fun k_=>(pQ k_∨w.heap.size≤k_)) DA l1 from Kd.aE ho1 (fun k_ hk=>(.inl hk)));have HK:=Ah (dU.refl w (fun k_=>pQ k_));have HW0:=Ah hB.size;have HB:=Ah hB;clear hB;have H:((oE.f l1).bind fun tR=>((ub.f tR).bind fun N0=>(some (a0,l1,N0))))=some (r1,r2,r3):=h;clear h;replace H:=Hc.mp H;obtain⟨tR,dz,H⟩:=H
 try dsimp only at H
 have A3:=Ah dz;clear dz;replace H:=Hc.mp H;obtain⟨N0,fc,H⟩:=H
 try dsimp only at H
 have A4:=Ah fc;clear fc;simp only[SY,cM]at H;obtain⟨rfl,rfl,rfl⟩:=H
 go_enter Try.func45,Try.ntmps45
 go_wp2_with (first|((with_reducible refine am (N:=4) rfl ?_);refine ar 4 25 #[.int .i64 0,.slice none 0 0,.slice none 0 0] ?_;intro lw hg w5 cO hb;replace nY:=nr nY hb;have Le:=Ah ((by rw[hg];exact(by first|exact HK.out.1|exact(show dU w _ (fun k_=>pQ k_)from by repeat(first|(with_reducible first|exact HK.out|apply dU.alloc|apply dU.drewN|apply dU.drew)|exact HK.out)).1):w.heap.size≤lw));replace HK:=Ah (dU.below (S:=(fun k_=>pQ k_)) (by repeat(first|(with_reducible first|exact HK.out|apply dU.alloc|apply dU.drewN|apply dU.drew)|exact HK.out)) hb);have i2:=Ah ((by rw[hg];exact(bR (bs HB)):w0.heap.size≤lw));replace HB:=Ah (aK (bs HB) hb);clear hb hg;obtain⟨Sg,Sh,eo6⟩:=Kd.ax nY.out;subst eo6)|((with_reducible refine bN (f:=36) rfl ?_);refine gL (some 7) rfl rfl Try.func36 (by kernel_rfl) rfl #[.slice Sg l1.length Sh] rfl ?_;(with_reducible refine(oE.calls _ _ l1 tR _ ?aJ ?aM A3.out).mono ?_);(case aJ=>exact df nY);(case aM=>exact(Kd.ab nY.out).2.1);rintro e w7 ⟨v654,rfl,ho0,hb⟩;refine⟨_,rfl, ?_⟩;have Dc:=Ah (Kd.bq (Kd.bv (Kd.R_newM (M:=fun k_=>(pQ k_∨w.heap.size≤k_)) ho0 (by first|exact HK.out.1|exact(show dU w _ (fun k_=>pQ k_)from by repeat(first|(with_reducible first|exact HK.out|apply dU.alloc|apply dU.drewN|apply dU.drew|refine dU.setCell ?_ (.inr Le.out) _)|exact HK.out)).1) (fun k_ h_=> .inr h_)) (Kd.bZ (rr nY.out))) (bR (aQ HB i2)));replace nY:=Ah (Kd.lJ (rr nY.out) (Kd.br ho0) hb);replace cO:=nb cO hb;replace HK:=Ah (dU.below (S:=(fun k_=>pQ k_)) (by repeat(first|(with_reducible first|exact HK.out|apply dU.alloc|apply dU.drewN|apply dU.drew|refine dU.setCell ?_ (.inr Le.out) _)|exact HK.out)) hb);replace HB:=Ah (aK (aQ HB i2) hb);(try clear hb ho0);obtain⟨tY,tZ,Nd⟩:=Kd.ax Dc.out;subst Nd)|((with_reducible refine bN (f:=57) rfl ?_);refine gL (some 9) rfl rfl Try.func57 (by kernel_rfl) rfl #[.slice tY tR.length tZ,.func (.func 58) #[] #[]] rfl ?_;(with_reducible refine(ub.calls (fun k_=>some k_=(.slice tY tR.length tZ:Value).ownBlock) (.slice tY tR.length tZ) tR N0 w0 _ ?aJ ?aM A4.out).mono ?_);(case aJ=>exact aQ HB i2);(case aM=>exact Kd.FA rfl Dc.out);rintro e w9 ⟨rfl,hy0,hb,hkp⟩;refine⟨_,rfl, ?_⟩;replace nY:=Ah (Kd.aE (ok':=fun k_=>(pQ k_∨w.heap.size≤k_)∧some k_≠(.slice tY tR.length tZ:Value).ownBlock) (Kd.OX (nY.out) hkp (fun k_ iF hs_=>(iF.2) hs_)) (fun k_ iF=>⟨iF.1.1,iF.1.2⟩));replace cO:=Ah (pW (bk cO) hkp (fun hs_=>(fun e_=>(Kd.cY Dc.out cO.out (by decide)) e_) hs_));replace HK:=Ah (dU.Ji (S:=(fun k_=>pQ k_)) (by repeat(first|(with_reducible first|exact HK.out|apply dU.alloc|apply dU.drewN|apply dU.drew|refine dU.setCell ?_ (.inr Le.out) _)|exact HK.out)) hkp (fun k_ hs_=>(fun e_=>(Dc.out.1 k_ e_.symm).1.1) hs_));replace Dc:=Ah (Kd.R_reok rfl hy0 (fun k_ e_=>Dc.out.1 k_ e_));replace HB:=Ah (hb);(try clear hb hkp hy0);obtain⟨zJ,zK,zL⟩:=di cO;obtain⟨zM,zN,zO⟩:=dj cO))
 refine bodyPost_ret (results_cell_row rfl _ _ lw 25 #[.int .i64 a0,.slice Sg l1.length Sh,.slice tY tR.length tZ] (0,0) _ rfl (pb cO) aah rfl (by kernel_rfl)) rfl ?_;exact⟨_,_,er,by(with_reducible repeat(first|apply Kd.al|apply Kd.ak|apply Kd.aY));exact Kd.aE (Kd.I (p:=⟨lw,2,none⟩) (Kd.I (p:=⟨lw,1,none⟩) (Kd.I (p:=⟨lw,0,none⟩) (Kd.ao nY.out cO.out (by decide)) (fun _ hk=>hk.2) (.int .i64 a0)) (fun _ hk=>hk.2) (.slice Sg l1.length Sh)) (fun _ hk=>hk.2) (.slice tY tR.length tZ)) (fun _ hk=>⟨hk.1.1,hk.1.2⟩),by(with_reducible repeat(first|apply Kd.al|apply Kd.ak|apply Kd.aY));exact Kd.aE (Kd.I (p:=⟨lw,2,none⟩) (Kd.I (p:=⟨lw,1,none⟩) (Kd.I (p:=⟨lw,0,none⟩) (Kd.ao Dc.out cO.out (by decide)) (fun _ hk=>hk.2) (.int .i64 a0)) (fun _ hk=>hk.2) (.slice Sg l1.length Sh)) (fun _ hk=>hk.2) (.slice tY tR.length tZ)) (fun _ hk=>⟨hk.1.1.1,hk.1.2⟩),aQ HB i2,by repeat(first|(with_reducible first|exact HK.out|apply dU.alloc|apply dU.drewN|apply dU.drew|refine dU.setCell ?_ (.inr Le.out) _)|exact HK.out)⟩
end Go.Proofs.Ytahnkgehlfdlkaa.G
