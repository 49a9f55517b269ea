-- Printed by a program of this session (drive.py, by way of the kit's print). Not trusted: Lean checks it.
import Derived.Test.YtfeokehfhaimkaaG0
import Derived.Test.YtfeokehfhaimkaaG2
open Bool renaming eq_false_iff→PT,not_true→abi,not_false→abo
open Go.Act renaming put→aaj
open Go.Proofs.Try renaming prog→Uf,underlying29→cp,underlying45→fk,underlying26→ig,underlying24→aad,underlying27→aax,underlying66→aay,func35→aaK,func54→abs
open Go.RowKit renaming wrap64→Gj
open Go.RowKit.Below renaming refl→Ud
open List renaming length_take→Ja,setIfInBounds_toArray→Ok,length_drop→SI,set_cons_zero→bD,set_cons_succ→ck,map_toArray→dl,map_cons→dV,map_nil→lK
open Nat renaming le_refl→QQ,le_of_eq→aaf
open Option renaming bind_eq_some_iff→Gl,bind_some→Gm
open Option.some renaming inj→Gn,injEq→Jh
open Prod.mk renaming injEq→Ue
namespace Go.Proofs.Ytfeokehfhaimkaa.G
open Go.RowKit Go.Proofs.YtfeokehfhaimkaaW.PrintWords Go.Proofs.YtfeokehfhaimkaaW.PrintLast Go.Proofs.YtfeokehfhaimkaaW.PrintMore
attribute [local go_sem] zO zP zX zY zE zG zQ zR
set_option maxHeartbeats 8000000
set_option maxRecDepth 100000
set_option linter.unusedVariables false
set_option linter.unusedSimpArgs false
def fc.f(k:Nat)(aA:Int)(X:List (Y))(aC:List (Y)):Option (Bool):=(gI.f k X aA).bind fun t208=>(if t208=true then((dA.f k X).bind fun Fh=>((iT.f k Fh aC).bind fun t212=>(some t212)))else(some false))
theorem fc.mono:∀a0 a1 a2 k,aG (fc.f k a0 a1 a2) (fc.f (k+1) a0 a1 a2):=by
 intro a0 a1 a2 k;unfold fc.f
 repeat' with_reducible first|exact dA.mono _ _|exact gI.mono _ _ _|exact iT.mono _ _ _|exact aG.refl _|exact aG.none _|refine aG.ite ?_ ?_|refine aG.bind ?_ (fun _=> ?_)
def fc.T1:Bool×List (List Nat×List Nat):=(true,[([],[]),([0],[0]),([],[]),([2],[2]),([1,3],[1,3]),([4,4],[4]),([5],[5]),([6,5],[5,6]),([7,5,5],[5,7]),([5],[5]),([9,5],[5,9]),([8,10,8,5],[5,8,10]),([5,11],[5,11]),([12,11,0,1,2,3,4,5,6,7,8,9,10,11,12],[12])])
def fc.B1:List Nat:=[0,1,0,4,15,31,63,127,255,63,575,2047,4095,8191]
theorem fc.D2:i5 .any (uw Try.f54 1)=fc.T1:=by kernel_rfl
theorem fc.Ck:pm fc.T1.2 fc.B1=true:=by kernel_rfl
theorem fc.calls(k:Nat)(aA:Int)(af:Option Addr)(aa:Nat)(X:List (Y))(ab:Option Addr)(ac:Nat)(aC:List (Y))(r:Bool)(w:World)(dO:Kd.C aT w af X.length X)(dP:X.length≤aa)(dQ:Kd.C aT w ab aC.length aC)(dR:aC.length≤ac)(h:fc.f k aA X aC=some r):
 Calls Uf 54 #[.agg #[.int .i64 aA,.slice af X.length aa,.slice ab aC.length ac]] w fun e w'=>e= .returned (.bool r)∧Below w.heap.size w w':=by
 have mL:=ig;have bo:=Ah dO;have cU:=Ah dP;clear dO dP;have cn:=Ah dQ;have co:=Ah dR;clear dQ dR;have HB:=Ah (Ud w.heap.size w);have H:((gI.f k X aA).bind fun t208=>(if t208=true then((dA.f k X).bind fun Fh=>((iT.f k Fh aC).bind fun t212=>(some t212)))else(some false)))=some r:=h;clear h;replace H:=Gl.mp H;obtain⟨t208,lq,H⟩:=H
 try dsimp only at H
 have A2:=Ah lq;clear lq;have H_:=Ah H;clear H
 go_enter abs,Try.ntmps54
 try go_wp2_with (first|((with_reducible refine ag (N:=1) rfl ?_);refine an 1 26 #[.int .i64 aA,.slice af X.length aa,.slice ab aC.length ac] ?_;intro Yv hg w6 lv hb;have GW207:=gw hg (bs HB);have Id:=gw hg (bs HB);replace HB:=Ah (aH (bs HB) hb);clear hb hg))
 replace lv:=Ah (cY lv.out);replace HB:=Ah (j7 HB.out);refine mt (n:=14) (S:=fun w'=>w'.cell? ⟨Yv,0,none⟩=some (.int .i64 aA)∧w'.cell? ⟨Yv,1,none⟩=some (.slice af X.length aa)∧w'.cell? ⟨Yv,2,none⟩=some (.slice ab aC.length ac)) (ds:=[]) #[false,false,false,false,false,false,false,false,false,false,false,false,false,false] (by kernel_rfl) rfl rfl ⟨(aE lv.out 0).trans rfl,(aE lv.out 1).trans rfl,(aE lv.out 2).trans rfl⟩ (fun hHeld=> ?_);refine na fc.D2 fc.Ck (fun aI cz=> ?_)
 generalize w6.drew=w7 at lv HB hHeld⊢
 refine b6 0 3 aI.out ?_;refine b6 2 5 aI.out ?_;refine dv 1 4 aI.out cz.out hHeld (hr:=by rintro w' ⟨s0,s1,s2⟩;go_simp;with_reducible rfl) (h:= ?_);refine dv 3 6 aI.out cz.out hHeld (hr:=by rintro w' ⟨s0,s1,s2⟩;go_simp;with_reducible rfl) (h:= ?_);refine fv (i:=4) (N:=some 7) #[true,true,true,true,true,false,false,false,false,false,false,false,false,false] rfl rfl (gJ aI.out (by kernel_rfl)) (by decide) (fun K hK=> ?_);refine gZ Try.func70 (by kernel_rfl) rfl #[.slice af X.length aa,.int .i64 aA] (by rfl) rfl rfl (by(try simp only[List.map_toArray,List.map_cons,List.map_nil]);first|done|rfl|(simp only[List.length_drop,List.length_take];rfl)) ?_;have H:=H_.out;clear H_
 by_cases c3:t208=true
 rotate_left
 ·
  replace c3:=PT.mpr c3;subst c3;rw[if_neg dr]at H;obtain rfl:=Gn H
  with_reducible refine(gI.calls k _ _ X aA false _ ?aZ ?ae A2.out).mono ?_
  (case aZ=>exact cb bo HB);(case ae=>exact cU.out);rintro e pd ⟨rfl,hb⟩;refine⟨_,rfl, ?_⟩;replace lv:=Ah (bb lv hb);replace HB:=Ah (aH (aM HB Id) hb);(try clear hb);(try clear hb2);(try clear hk);(try clear hi);refine hK.out _ _ ⟨(aE lv.out 0).trans rfl,(aE lv.out 1).trans rfl,(aE lv.out 2).trans rfl⟩ (fun hHeld=> ?_);clear hK K;refine nq 7 ?_;refine b6 5 8 aI.out ?_;refine cK 6 9 aI.out ?_;refine cK 7 10 aI.out ?_;refine cK 8 11 aI.out ?_;refine cK 9 12 aI.out ?_;refine cK 10 13 aI.out ?_;refine cK 11 14 aI.out ?_;refine b6 12 15 aI.out ?_;refine b6 13 2 aI.out ?_;refine jn (kO aI.out (by kernel_rfl)) ?_
  try go_wp2
  go_ret
  exact⟨er,aM HB Id⟩
 subst c3;rw[if_pos rfl]at H;replace H:=Gl.mp H;obtain⟨Fh,eJ,H⟩:=H
 try dsimp only at H
 have A4:=Ah eJ;clear eJ;replace H:=Gl.mp H;obtain⟨t212,kI,H⟩:=H
 try dsimp only at H
 have A5:=Ah kI;clear kI;obtain rfl:=Gn H
 with_reducible refine(gI.calls k _ _ X aA true _ ?aZ ?ae A2.out).mono ?_
 (case aZ=>exact cb bo HB);(case ae=>exact cU.out);rintro e w8 ⟨rfl,hb⟩;refine⟨_,rfl, ?_⟩;replace lv:=Ah (bb lv hb);replace HB:=Ah (aH (aM HB Id) hb);(try clear hb);(try clear hb2);(try clear hk);(try clear hi);refine hK.out _ _ ⟨(aE lv.out 0).trans rfl,(aE lv.out 1).trans rfl,(aE lv.out 2).trans rfl⟩ (fun hHeld=> ?_);clear hK K;refine nq 7 ?_;refine b6 5 8 aI.out ?_;refine b6 6 9 aI.out ?_;refine b6 9 12 aI.out ?_;refine dv 7 10 aI.out cz.out hHeld (hr:=by rintro w' ⟨s0,s1,s2⟩;go_simp;with_reducible rfl) (h:= ?_);refine dv 10 13 aI.out cz.out hHeld (hr:=by rintro w' ⟨s0,s1,s2⟩;go_simp;with_reducible rfl) (h:= ?_);refine fv (i:=8) (N:=some 11) #[true,true,true,true,true,true,true,true,true,true,true,false,false,false] rfl rfl (gJ aI.out (by kernel_rfl)) (by decide) (fun K hK=> ?_);refine gZ Try.func53 (by kernel_rfl) rfl #[.slice af X.length aa] (by rfl) rfl rfl (by(try simp only[List.map_toArray,List.map_cons,List.map_nil]);first|done|rfl|(simp only[List.length_drop,List.length_take];rfl)) ?_
 with_reducible refine(dA.calls k _ _ X Fh _ ?aZ ?ae A4.out).mono ?_
 (case aZ=>exact cb bo HB);(case ae=>exact cU.out);rintro e w9 ⟨v210,rfl,ho0,hb⟩;refine⟨_,rfl, ?_⟩;have Yw:=Ah (Kd.bR ho0 (bE (aM HB Id)));replace lv:=Ah (bb lv hb);replace HB:=Ah (aH (aM HB Id) hb);(try clear hb);(try clear hb2);(try clear hk);(try clear hi);(try clear ho0);obtain⟨qF,gP,qk⟩:=Kd.az Yw.out;(first|subst qk|(injection qk with cR dw cS;have dx:=cR.symm;have dy:=cS.symm;clear cR dw cS;subst dx;subst dy));refine hK.out _ _ ⟨(aE lv.out 0).trans rfl,(aE lv.out 1).trans rfl,(aE lv.out 2).trans rfl⟩ (fun hHeld=> ?_);clear hK K;refine nq 11 ?_;refine fv (i:=11) (N:=some 14) #[true,true,true,true,true,true,true,true,true,true,true,true,false,false] rfl rfl (gJ aI.out (by kernel_rfl)) (by decide) (fun K hK=> ?_);refine gZ Try.func71 (by kernel_rfl) rfl #[.slice qF Fh.length gP,.slice ab aC.length ac] (by rfl) rfl rfl (by(try simp only[dl,dV,lK]);first|done|rfl|(simp only[SI,Ja];rfl)) ?_
 with_reducible refine(iT.calls k _ _ Fh _ _ aC t212 _ ?aZ ?ae ?ay ?bI A5.out).mono ?_
 (case aZ=>exact jF Yw);(case ae=>exact(Kd.aY Yw.out).2.1);(case ay=>exact cb cn HB);(case bI=>exact co.out);rintro e w' ⟨rfl,⟨nd,rfl⟩⟩;refine⟨_,rfl, ?_⟩;refine hK.out _ _ ⟨(aE lv.out 0).trans rfl,(aE lv.out 1).trans rfl,(aE lv.out 2).trans rfl⟩ (fun hHeld=> ?_);clear hK K;refine nq 14 ?_;refine b6 12 15 aI.out ?_;refine b6 13 2 aI.out ?_;refine jn (kO aI.out (by kernel_rfl)) ?_
 try go_wp2
 go_ret
 exact⟨er,aM HB Id⟩
def eM.f(k:Nat)(aA:Int)(X:List (Y))(aC:List (Y))(aV:Int)(aU:List (aJ)):Option (Bool):=(fc.f k aA X aC).bind fun OM=>(if OM=true then((br.f k aA X aC aU).bind fun Mh=>(if Mh.2=true then(some (Mh.1==aV))else(some false)))else(some false))
theorem eM.mono:∀a0 a1 a2 a3 a4 k,aG (eM.f k a0 a1 a2 a3 a4) (eM.f (k+1) a0 a1 a2 a3 a4):=by
 intro a0 a1 a2 a3 a4 k;unfold eM.f
 repeat' with_reducible first|exact fc.mono _ _ _ _|exact br.mono _ _ _ _ _|exact aG.refl _|exact aG.none _|refine aG.ite ?_ ?_|refine aG.bind ?_ (fun _=> ?_)
theorem eM.calls(k:Nat)(aA:Int)(af:Option Addr)(aa:Nat)(X:List (Y))(ab:Option Addr)(ac:Nat)(aC:List (Y))(aV:Int)(bG:Option Addr)(bH:Nat)(aU:List (aJ))(r:Bool)(w:World)(dO:Kd.C aT w af X.length X)(dP:X.length≤aa)(dQ:Kd.C aT w ab aC.length aC)(dR:aC.length≤ac)(gu:Kd.C b8 w bG aU.length aU)(gy:aU.length≤bH)(h:eM.f k aA X aC aV aU=some r):
 Calls Uf 35 #[.agg #[.int .i64 aA,.slice af X.length aa,.slice ab aC.length ac,.int .i64 aV,.slice bG aU.length bH]] w fun e w'=>e= .returned (.bool r)∧Below w.heap.size w w':=by
 have sn:=cp;have mL:=ig;have bo:=Ah dO;have cU:=Ah dP;clear dO dP;have cn:=Ah dQ;have co:=Ah dR;clear dQ dR;have fF:=Ah gu;have fL:=Ah gy;clear gu gy;have HB:=Ah (Ud w.heap.size w);have H:((fc.f k aA X aC).bind fun OM=>(if OM=true then((br.f k aA X aC aU).bind fun Mh=>(if Mh.2=true then(some (Mh.1==aV))else(some false)))else(some false)))=some r:=h;clear h;replace H:=Gl.mp H;obtain⟨OM,lq,H⟩:=H
 try dsimp only at H
 have A2:=Ah lq;clear lq
 by_cases c3:OM=true
 rotate_left
 ·
  replace c3:=PT.mpr c3;subst c3;rw[if_neg dr]at H;obtain rfl:=Gn H
  go_enter aaK,Try.ntmps35
  go_wp2_with (first|((with_reducible refine ag (N:=1) rfl ?_);refine an 1 29 #[.int .i64 aA,.slice af X.length aa,.slice ab aC.length ac,.int .i64 aV,.slice bG aU.length bH] ?_;intro gb213 hg de lw hb;have GW213:=gw hg (bs HB);have yd:=gw hg (bs HB);replace HB:=Ah (aH (bs HB) hb);clear hb hg;obtain⟨vv,vw,zc,zd,ze⟩:=aj lw;obtain⟨vx,vy,zf,zg,zh⟩:=ai lw)|((with_reducible refine bY (f:=54) rfl ?_);refine gL (some 7) rfl rfl abs (by kernel_rfl) rfl #[.agg #[.int .i64 aA,.slice af X.length aa,.slice ab aC.length ac]] rfl ?_;(with_reducible refine(fc.calls k aA _ _ X _ _ aC false _ ?aZ ?ae ?ay ?bI A2.out).mono ?_);(case aZ=>exact cb bo HB);(case ae=>exact cU.out);(case ay=>exact cb cn HB);(case bI=>exact co.out);rintro e fC ⟨rfl,hb⟩;refine⟨_,rfl, ?_⟩;replace lw:=nb lw hb;replace HB:=Ah (aH (aM HB yd) hb);(try clear hb)))
  go_ret
  exact⟨er,aM HB yd⟩
 subst c3;rw[if_pos rfl]at H;replace H:=Gl.mp H;obtain⟨⟨t215,t216⟩,eJ,H⟩:=H
 try dsimp only at H
 have A4:=Ah eJ;clear eJ
 by_cases c5:t216=true
 rotate_left
 ·
  replace c5:=PT.mpr c5;subst c5;rw[if_neg dr]at H;obtain rfl:=Gn H
  go_enter aaK,Try.ntmps35
  go_wp2_with (first|((with_reducible refine ag (N:=1) rfl ?_);refine an 1 29 #[.int .i64 aA,.slice af X.length aa,.slice ab aC.length ac,.int .i64 aV,.slice bG aU.length bH] ?_;intro gb213 hg ef lw hb;have GW213:=gw hg (bs HB);have yd:=gw hg (bs HB);replace HB:=Ah (aH (bs HB) hb);clear hb hg;obtain⟨oK,oL,qz,sS,sT⟩:=aj lw;obtain⟨oM,oN,r8,sU,sV⟩:=ai lw)|((with_reducible refine bY (f:=54) rfl ?_);refine gL (some 7) rfl rfl abs (by kernel_rfl) rfl #[.agg #[.int .i64 aA,.slice af X.length aa,.slice ab aC.length ac]] rfl ?_;(with_reducible refine(fc.calls k aA _ _ X _ _ aC true _ ?aZ ?ae ?ay ?bI A2.out).mono ?_);(case aZ=>exact cb bo HB);(case ae=>exact cU.out);(case ay=>exact cb cn HB);(case bI=>exact co.out);rintro e eL ⟨rfl,hb⟩;refine⟨_,rfl, ?_⟩;replace lw:=nb lw hb;replace HB:=Ah (aH (aM HB yd) hb);(try clear hb);obtain⟨um,un,CI,EK,EL⟩:=aj lw;obtain⟨uo,uq,CJ,EM,EN⟩:=ai lw)|((with_reducible refine bY (f:=37) rfl ?_);refine gL (some 14) rfl rfl Try.func37 (by kernel_rfl) rfl #[.agg #[.int .i64 aA,.slice af X.length aa,.slice ab aC.length ac],.slice bG aU.length bH] rfl ?_;(with_reducible refine(br.calls k aA _ _ X _ _ aC _ _ aU t215 false _ ?aZ ?ae ?ay ?bI ?cq ?d7 A4.out).mono ?_);(case aZ=>exact cb bo HB);(case ae=>exact cU.out);(case ay=>exact cb cn HB);(case bI=>exact co.out);(case cq=>exact cb fF HB);(case d7=>exact fL.out);rintro e w16 ⟨rfl,hb⟩;refine⟨_,rfl, ?_⟩;replace lw:=nb lw hb;replace HB:=Ah (aH (aM HB yd) hb);(try clear hb)))
  go_ret
  exact⟨er,aM HB yd⟩
 subst c5;rw[if_pos rfl]at H;obtain rfl:=Gn H
 go_enter aaK,Try.ntmps35
 go_wp2_with (first|((with_reducible refine ag (N:=1) rfl ?_);refine an 1 29 #[.int .i64 aA,.slice af X.length aa,.slice ab aC.length ac,.int .i64 aV,.slice bG aU.length bH] ?_;intro gb213 hg w6 lw hb;have GW213:=gw hg (bs HB);have yd:=gw hg (bs HB);replace HB:=Ah (aH (bs HB) hb);clear hb hg;obtain⟨pr,pt,yU,SP,SQ⟩:=aj lw;obtain⟨pu,pv,yV,SR,SS⟩:=ai lw)|((with_reducible refine bY (f:=54) rfl ?_);refine gL (some 7) rfl rfl abs (by kernel_rfl) rfl #[.agg #[.int .i64 aA,.slice af X.length aa,.slice ab aC.length ac]] rfl ?_;(with_reducible refine(fc.calls k aA _ _ X _ _ aC true _ ?aZ ?ae ?ay ?bI A2.out).mono ?_);(case aZ=>exact cb bo HB);(case ae=>exact cU.out);(case ay=>exact cb cn HB);(case bI=>exact co.out);rintro e w8 ⟨rfl,hb⟩;refine⟨_,rfl, ?_⟩;replace lw:=nb lw hb;replace HB:=Ah (aH (aM HB yd) hb);(try clear hb);obtain⟨rD,rE,wN,LW,LX⟩:=aj lw;obtain⟨rF,rG,wO,LY,LZ⟩:=ai lw)|((with_reducible refine bY (f:=37) rfl ?_);refine gL (some 14) rfl rfl Try.func37 (by kernel_rfl) rfl #[.agg #[.int .i64 aA,.slice af X.length aa,.slice ab aC.length ac],.slice bG aU.length bH] rfl ?_;(with_reducible refine(br.calls k aA _ _ X _ _ aC _ _ aU t215 true _ ?aZ ?ae ?ay ?bI ?cq ?d7 A4.out).mono ?_);(case aZ=>exact cb bo HB);(case ae=>exact cU.out);(case ay=>exact cb cn HB);(case bI=>exact co.out);(case cq=>exact cb fF HB);(case d7=>exact fL.out);rintro e lp ⟨rfl,hb⟩;refine⟨_,rfl, ?_⟩;replace lw:=nb lw hb;replace HB:=Ah (aH (aM HB yd) hb);(try clear hb);obtain⟨oO,oP,qx,sK,sL⟩:=aj lw;obtain⟨oQ,oR,qy,sM,sN⟩:=ai lw))
 go_ret
 exact⟨er,aM HB yd⟩
def vU.f(k:Nat)(aA:Int)(X:List (Y))(aC:List (Y))(aV:Int)(aU:List (aJ))(aN:Int)(aQ:Int):Option (Int×(List (Y))×(List (Y))×Int×(List (aJ))×Int×Bool):=(eM.f k aA X aC aV aU).bind fun ON=>(if ON=true then((nZ.f k aA X aC aV aU).bind fun lP=>(if lP.2.2.2.2.length<3518437208883 then((some (lP.2.2.2.2++[(⟨1,lP.2.2.2.1,(⟨aN,aQ⟩:Y),0⟩:aJ)]:List (aJ))).bind fun nI=>((eM.f k lP.1 lP.2.1 lP.2.2.1 (Gj (lP.2.2.2.1+1)) nI).bind fun Fi=>(if Fi=true then(some (lP.1,lP.2.1,lP.2.2.1,Gj (lP.2.2.2.1+1),nI,Gj ((Gj (lP.2.2.2.1+1))-1),true))else(some (0,([]:List (Y)),([]:List (Y)),0,([]:List (aJ)),0,false)))))else(none)))else(some (0,([]:List (Y)),([]:List (Y)),0,([]:List (aJ)),0,false)))
theorem vU.mono:∀a0 a1 a2 a3 a4 a5 a6 k,aG (vU.f k a0 a1 a2 a3 a4 a5 a6) (vU.f (k+1) a0 a1 a2 a3 a4 a5 a6):=by
 intro a0 a1 a2 a3 a4 a5 a6 k;unfold vU.f
 repeat' with_reducible first|exact eM.mono _ _ _ _ _ _|exact nZ.mono _ _ _ _ _ _|exact aG.refl _|exact aG.none _|refine aG.ite ?_ ?_|refine aG.bind ?_ (fun _=> ?_)
theorem vU.calls(k:Nat)(aA:Int)(af:Option Addr)(aa:Nat)(X:List (Y))(ab:Option Addr)(ac:Nat)(aC:List (Y))(aV:Int)(bG:Option Addr)(bH:Nat)(aU:List (aJ))(aN:Int)(aQ:Int)(r1:Int)(r2:List (Y))(r3:List (Y))(r4:Int)(r5:List (aJ))(r6:Int)(r7:Bool)(w:World)(dO:Kd.C aT w af X.length X)(dP:X.length≤aa)(dQ:Kd.C aT w ab aC.length aC)(dR:aC.length≤ac)(gu:Kd.C b8 w bG aU.length aU)(gy:aU.length≤bH)(h:vU.f k aA X aC aV aU aN aQ=some (r1,r2,r3,r4,r5,r6,r7)):
 Calls Try.prog 17 #[.agg #[.int .i64 aA,.slice af X.length aa,.slice ab aC.length ac,.int .i64 aV,.slice bG aU.length bH],.agg #[.int .i64 aN,.int .i64 aQ]] w fun e w'=>∃df da kH:Value,e= .returned (.tuple #[.agg #[.int .i64 r1,df,da,.int .i64 r4,kH],.int .i64 r6,.bool r7])∧Kd.R aT 45 w' w.heap.size (fun k_=>some k_≠(da:Value).ownBlock) df r2∧Kd.R aT 45 w' w.heap.size (fun k_=>some k_≠(df:Value).ownBlock) da r3∧Kd.R b8 66 w' w.heap.size (fun _=>True) kH r5∧Below w.heap.size w w':=by
 have sn:=cp;have jT:=fk;have u7:=aay;have bo:=Ah dO;have cU:=Ah dP;clear dO dP;have cn:=Ah dQ;have co:=Ah dR;clear dQ dR;have fF:=Ah gu;have fL:=Ah gy;clear gu gy;have HB:=Ah (Ud w.heap.size w);have H:((eM.f k aA X aC aV aU).bind fun ON=>(if ON=true then((nZ.f k aA X aC aV aU).bind fun lP=>(if lP.2.2.2.2.length<3518437208883 then((some (lP.2.2.2.2++[(⟨1,lP.2.2.2.1,(⟨aN,aQ⟩:Y),0⟩:aJ)]:List (aJ))).bind fun nI=>((eM.f k lP.1 lP.2.1 lP.2.2.1 (Gj (lP.2.2.2.1+1)) nI).bind fun Fi=>(if Fi=true then(some (lP.1,lP.2.1,lP.2.2.1,Gj (lP.2.2.2.1+1),nI,Gj ((Gj (lP.2.2.2.1+1))-1),true))else(some (0,([]:List (Y)),([]:List (Y)),0,([]:List (aJ)),0,false)))))else(none)))else(some (0,([]:List (Y)),([]:List (Y)),0,([]:List (aJ)),0,false))))=some (r1,r2,r3,r4,r5,r6,r7):=h;clear h;replace H:=Gl.mp H;obtain⟨ON,dj,H⟩:=H
 try dsimp only at H
 have A3:=Ah dj;clear dj
 by_cases c4:ON=true
 rotate_left
 ·
  replace c4:=PT.mpr c4;subst c4;rw[if_neg dr]at H;simp only[Jh,Ue]at H;obtain⟨rfl,rfl,rfl,rfl,rfl,rfl,rfl⟩:=H
  go_enter Try.func17,Try.ntmps17
  go_wp2_with (first|((with_reducible refine ag (N:=2) rfl ?_);refine an 2 29 #[.int .i64 aA,.slice af X.length aa,.slice ab aC.length ac,.int .i64 aV,.slice bG aU.length bH] ?_;intro nF hg w54 cN hb;have GW217:=gw hg (bs HB);have gK:=gw hg (bs HB);replace HB:=Ah (aH (bs HB) hb);clear hb hg)|((with_reducible refine ag (N:=3) rfl ?_);refine an 3 45 #[.int .i64 aN,.int .i64 aQ] ?_;intro ye hg w55 fM hb;have GW218:=gw hg (aM HB gK);have jN:=gw hg (aM HB gK);replace HB:=Ah (aH (aM HB gK) hb);have Ju:=nn cN hg;have zH:=nm cN hg;replace cN:=nb cN hb;clear hb hg)|((with_reducible refine ag (N:=4) rfl ?_);refine an 4 29 #[.int .i64 0,.slice none 0 0,.slice none 0 0,.int .i64 0,.slice none 0 0] ?_;intro eR hg qo fN hb;have GW219:=gw hg (am HB gK jN);have mw:=gw hg (am HB gK jN);replace HB:=Ah (aH (am HB gK jN) hb);have iK:=nn cN hg;have sB:=nm cN hg;replace cN:=nb cN hb;have yB:=nn fM hg;have yC:=nm fM hg;replace fM:=nb fM hb;clear hb hg;have hnb57:=Ju.out;have hnc57:=zH.out;have hnb58:=iK.out;have hnc58:=sB.out;obtain⟨hcz59_0,hcz59_1,hcz59_2,hcz59_3,hcz59_4⟩:=aj cN;obtain⟨hfz59_0,hfz59_1,hfz59_2,hfz59_3,hfz59_4⟩:=ai cN)|((with_reducible refine bY (f:=35) rfl ?_);refine gL (some 8) rfl rfl aaK (by kernel_rfl) rfl #[.agg #[.int .i64 aA,.slice af X.length aa,.slice ab aC.length ac,.int .i64 aV,.slice bG aU.length bH]] rfl ?_;(with_reducible refine(eM.calls k aA _ _ X _ _ aC aV _ _ aU false _ ?aZ ?ae ?ay ?bI ?cq ?d7 A3.out).mono ?_);(case aZ=>exact cb bo HB);(case ae=>exact cU.out);(case ay=>exact cb cn HB);(case bI=>exact co.out);(case cq=>exact cb fF HB);(case d7=>exact fL.out);rintro e w60 ⟨rfl,hb⟩;refine⟨_,rfl, ?_⟩;replace cN:=nb cN hb;replace fM:=nb fM hb;replace fN:=nb fN hb;replace HB:=Ah (aH (aw HB gK jN mw) hb);(try clear hb);have hnb61:=yC.out;have hnc61:=yB.out;obtain⟨hcz62_0,hcz62_1,hcz62_2,hcz62_3,hcz62_4⟩:=aj fN;obtain⟨hfz62_0,hfz62_1,hfz62_2,hfz62_3,hfz62_4⟩:=ai fN))
  refine bodyPost_ret (vW rfl _ _ eR 29 #[.int .i64 0,.slice none 0 0,.slice none 0 0,.int .i64 0,.slice none 0 0] (0,0) _ rfl (pb fN) cp rfl (by kernel_rfl)) rfl ?_;exact⟨_,_,_,er,by first|exact Kd.be _ _ _ _ _|exact Kd.ce _ _ _ _ _|exact Kd.cf _ _ _ _ _|exact Kd.cZ _ _ _ _ _|exact Kd.ca _ _ _ _ _,by first|exact Kd.be _ _ _ _ _|exact Kd.ce _ _ _ _ _|exact Kd.cf _ _ _ _ _|exact Kd.cZ _ _ _ _ _|exact Kd.ca _ _ _ _ _,by first|exact Kd.be _ _ _ _ _|exact Kd.ce _ _ _ _ _|exact Kd.cf _ _ _ _ _|exact Kd.cZ _ _ _ _ _|exact Kd.ca _ _ _ _ _,aw HB gK jN mw⟩
 subst c4;rw[if_pos rfl]at H;replace H:=Gl.mp H;obtain⟨⟨oy,t222,mQ,t228,t229⟩,kI,H⟩:=H
 try dsimp only at H
 have A5:=Ah kI;clear kI
 by_cases c6:t229.length<3518437208883
 rotate_left
 ·
  rw[if_neg c6]at H;exact absurd H (by simp)
 rw[if_pos c6]at H;have OO:=Ah c6;clear c6;obtain⟨nI,Mi⟩:∃y_:List (aJ),y_=(t229++[(⟨1,t228,(⟨aN,aQ⟩:Y),0⟩:aJ)]):=⟨_,rfl⟩
 replace H:((eM.f k oy t222 mQ (Gj (t228+1)) nI).bind fun Fi=>(if Fi=true then(some (oy,t222,mQ,Gj (t228+1),nI,Gj ((Gj (t228+1))-1),true))else(some (0,([]:List (Y)),([]:List (Y)),0,([]:List (aJ)),0,false))))=some (r1,r2,r3,r4,r5,r6,r7):=by first|(rw[Mi];with_reducible exact H)|(have aq:=(Gm _ _).symm.trans H;rw[Mi];with_reducible exact aq)|(have aq:=(Gm _ _).symm.trans H;with_reducible exact aq)|with_reducible exact H|(rw[Mi];exact H)|exact H
 have Ny232:=Ah Mi;clear Mi;replace H:=Gl.mp H;obtain⟨Fi,kJ,H⟩:=H
 try dsimp only at H
 have A7:=Ah kJ;clear kJ
 by_cases c8:Fi=true
 rotate_left
 ·
  replace c8:=PT.mpr c8;subst c8;rw[if_neg dr]at H;simp only[Jh,Ue]at H;obtain⟨rfl,rfl,rfl,rfl,rfl,rfl,rfl⟩:=H
  go_enter Try.func17,Try.ntmps17
  go_wp2_with (first|((with_reducible refine ag (N:=2) rfl ?_);refine an 2 29 #[.int .i64 aA,.slice af X.length aa,.slice ab aC.length ac,.int .i64 aV,.slice bG aU.length bH] ?_;intro nF hg w34 cN hb;have GW217:=gw hg (bs HB);have gK:=gw hg (bs HB);replace HB:=Ah (aH (bs HB) hb);clear hb hg)|((with_reducible refine ag (N:=3) rfl ?_);refine an 3 45 #[.int .i64 aN,.int .i64 aQ] ?_;intro ye hg Pw fM hb;have GW218:=gw hg (aM HB gK);have jN:=gw hg (aM HB gK);replace HB:=Ah (aH (aM HB gK) hb);have Ju:=nn cN hg;have zH:=nm cN hg;replace cN:=nb cN hb;clear hb hg)|((with_reducible refine ag (N:=4) rfl ?_);refine an 4 29 #[.int .i64 0,.slice none 0 0,.slice none 0 0,.int .i64 0,.slice none 0 0] ?_;intro eR hg UY fN hb;have GW219:=gw hg (am HB gK jN);have mw:=gw hg (am HB gK jN);replace HB:=Ah (aH (am HB gK jN) hb);have iK:=nn cN hg;have sB:=nm cN hg;replace cN:=nb cN hb;have yB:=nn fM hg;have yC:=nm fM hg;replace fM:=nb fM hb;clear hb hg;have MH:=Ju.out;have MI:=zH.out;have hnb38:=iK.out;have hnc38:=sB.out;obtain⟨X1,hcz39_1,hcz39_2,hcz39_3,hcz39_4⟩:=aj cN;obtain⟨X2,hfz39_1,hfz39_2,hfz39_3,hfz39_4⟩:=ai cN)|((with_reducible refine bY (f:=35) rfl ?_);refine gL (some 8) rfl rfl aaK (by kernel_rfl) rfl #[.agg #[.int .i64 aA,.slice af X.length aa,.slice ab aC.length ac,.int .i64 aV,.slice bG aU.length bH]] rfl ?_;(with_reducible refine(eM.calls k aA _ _ X _ _ aC aV _ _ aU true _ ?aZ ?ae ?ay ?bI ?cq ?d7 A3.out).mono ?_);(case aZ=>exact cb bo HB);(case ae=>exact cU.out);(case ay=>exact cb cn HB);(case bI=>exact co.out);(case cq=>exact cb fF HB);(case d7=>exact fL.out);rintro e UP ⟨rfl,hb⟩;refine⟨_,rfl, ?_⟩;replace cN:=nb cN hb;replace fM:=nb fM hb;replace fN:=nb fN hb;replace HB:=Ah (aH (aw HB gK jN mw) hb);(try clear hb);obtain⟨H5,H6,X3,hcz41_3,hcz41_4⟩:=aj cN;obtain⟨H7,H8,X4,hfz41_3,hfz41_4⟩:=ai cN)|((with_reducible refine bY (f:=20) rfl ?_);refine gL (some 12) rfl rfl Try.func20 (by kernel_rfl) rfl #[.agg #[.int .i64 aA,.slice af X.length aa,.slice ab aC.length ac,.int .i64 aV,.slice bG aU.length bH]] rfl ?_;(with_reducible refine(nZ.calls k aA _ _ X _ _ aC aV _ _ aU oy t222 mQ t228 t229 _ ?aZ ?ae ?ay ?bI ?cq ?d7 A5.out).mono ?_);(case aZ=>exact cb bo HB);(case ae=>exact cU.out);(case ay=>exact cb cn HB);(case bI=>exact co.out);(case cq=>exact cb fF HB);(case d7=>exact fL.out);rintro e Pm ⟨v223,v226,v230,rfl,ho0,ho1,ho2,hb⟩;refine⟨_,rfl, ?_⟩;have oU:=Ah (Kd.bR (Kd.kd ho0 (g:=ye) (o:= .cells #[.int .i64 aN,.int .i64 aQ] 45 (0,0)) (bk fM)) (bE (aw HB gK jN mw)));have oV:=Ah (Kd.bR (Kd.kd ho1 (g:=ye) (o:= .cells #[.int .i64 aN,.int .i64 aQ] 45 (0,0)) (bk fM)) (bE (aw HB gK jN mw)));have qB:=Ah (Kd.bR ho2 (bE (aw HB gK jN mw)));replace cN:=nb cN hb;replace fM:=nb fM hb;replace fN:=nb fN hb;replace HB:=Ah (aH (aw HB gK jN mw) hb);(try clear hb ho0 ho1 ho2);obtain⟨Qz,R5,R6,R7,R8⟩:=aj cN;obtain⟨RC,RD,RE,RF,RG⟩:=ai cN;obtain⟨J0,Fj,a0F⟩:=Kd.az oU.out;subst a0F;obtain⟨J3,Fk,a0G⟩:=Kd.az oV.out;subst a0G;obtain⟨rP,rQ,OB⟩:=Kd.az qB.out;subst OB;have hnb47:=yB.out;have hnc47:=yC.out;obtain⟨hcz48_0,hcz48_1⟩:=cg fM;obtain⟨hfz48_0,hfz48_1⟩:=ch fM)|((with_reducible refine ik (b:= .append) (xs:= #[.tmp 14,.tmp 19]) rfl ?_);at_builtin;refine Kd.lM b8 (w0:=w) w.heap.size rfl (.tmp 14) (.tmp 19) 27 66 (.agg #[(.int .i64 0),(.int .i64 0),(.int .i64 0),(.int .i64 0),(.int .i64 0)]) 40 rfl aax sY rfl (by decide) (by omega) (.slice rP t229.length rQ) t229 (⟨1,t228,(⟨aN,aQ⟩:Y),0⟩:aJ) [.int .i64 1,.int .i64 t228,.int .i64 aN,.int .i64 aQ,.int .i64 0] (fun _=>True) (fun _=>False) rfl (by first|(go_simp;done)|(go_simp;rfl)) ?aP (fun _ hk=>hk.elim) ?aF ?aO ?aB ?aS ?aL ?_;(case aP=>exact nB _ _ _ (⟨1,t228,(⟨aN,aQ⟩:Y),0⟩:aJ));(case aB=>exact(aw HB gK jN mw));(case aF=>exact(fun _ _=>trivial));(case aO=>exact(by(with_reducible repeat(first|apply Kd.bd|apply Kd.bZ|apply Kd.bQ));exact Kd.ax (Kd.aK (p:=⟨nF,4,none⟩) (Kd.aK (p:=⟨nF,3,none⟩) (Kd.aK (p:=⟨nF,2,none⟩) (Kd.aK (p:=⟨nF,1,none⟩) (Kd.aK (p:=⟨nF,0,none⟩) (Kd.dU qB.out cN.out (by decide)) (fun _ hk=>hk.2) (.int .i64 oy)) (fun _ hk=>hk.2) (.slice J0 t222.length Fj)) (fun _ hk=>hk.2) (.slice J3 mQ.length Fk)) (fun _ hk=>hk.2) (.int .i64 t228)) (fun _ hk=>hk.2) (.slice rP t229.length rQ)) (fun _ hk=>trivial)));(case aS=>exact(bE (aw HB gK jN mw)));(case aL=>have:=OO.out;omega);intro v233 w49 ho hb hg hat;rw[←Ny232.out]at ho;replace fM:=Ah (dJ (bf fM zH) hg (Kd.dX qB.out fM.out (by decide)));replace fN:=Ah (dJ (bf fN sB) hg (Kd.dX qB.out fN.out (by decide)));replace oU:=Ah (Kd.pK (rf oU cN) (Kd.lN (rf qB cN)) (by decide) hg);replace oV:=Ah (Kd.pK (rf oV cN) (Kd.lN (rf qB cN)) (by decide) hg);replace cN:=Ah (dJ (g:=nF) (o:= .cells #[.int .i64 oy,.slice J0 t222.length Fj,.slice J3 mQ.length Fk,.int .i64 t228,.slice rP t229.length rQ] 29 (0,0)) (pb cN) hg (Kd.dX qB.out cN.out (by decide)));replace HB:=Ah (hb);have rJ:=Ah (ho);clear qB;clear ho hb hg hat;obtain⟨Am,ym,a0H⟩:=Kd.az rJ.out;subst a0H;obtain⟨hcz51_0,hcz51_1,hcz51_2,hcz51_3,hcz51_4⟩:=aj cN;obtain⟨hfz51_0,hfz51_1,hfz51_2,hfz51_3,hfz51_4⟩:=ai cN)|((with_reducible refine bY (f:=35) rfl ?_);refine gL (some 27) rfl rfl aaK (by kernel_rfl) rfl #[.agg #[.int .i64 oy,.slice J0 t222.length Fj,.slice J3 mQ.length Fk,.int .i64 (Gj (t228+1)),.slice Am nI.length ym]] rfl ?_;(with_reducible refine(eM.calls k oy _ _ t222 _ _ mQ (Gj (t228+1)) _ _ nI false _ ?aZ ?ae ?ay ?bI ?cq ?d7 A7.out).mono ?_);(case aZ=>refine(Kd.aY (e:=45) (base:=w.heap.size) (ok:=fun k_=>(some k_≠(.slice J3 mQ.length Fk:Value).ownBlock∧k_≠ye)) (n:=t222.length) (c:=Fj) ?_).2.2;exact(rf oU cN));(case ae=>exact(Kd.aY oU.out).2.1);(case ay=>refine(Kd.aY (e:=45) (base:=w.heap.size) (ok:=fun k_=>(some k_≠(.slice J0 t222.length Fj:Value).ownBlock∧k_≠ye)) (n:=mQ.length) (c:=Fk) ?_).2.2;exact(rf oV cN));(case bI=>exact(Kd.aY oV.out).2.1);(case cq=>refine(Kd.aY (e:=66) (base:=w.heap.size) (ok:=fun k_=>True) (n:=nI.length) (c:=ym) ?_).2.2;exact(rf rJ cN));(case d7=>exact(Kd.aY rJ.out).2.1);rintro e w52 ⟨rfl,hb⟩;refine⟨_,rfl, ?_⟩;replace oU:=Ah (Kd.b9 (rf oU cN) hb);replace oV:=Ah (Kd.b9 (rf oV cN) hb);replace rJ:=Ah (Kd.b9 (rf rJ cN) hb);replace cN:=Ah (bT (g:=nF) (o:= .cells #[.int .i64 oy,.slice J0 t222.length Fj,.slice J3 mQ.length Fk,.int .i64 (Gj (t228+1)),.slice Am nI.length ym] 29 (0,0)) (pb cN) hb);replace fM:=Ah (bT (bf fM zH) hb);replace fN:=Ah (bT (bf fN sB) hb);replace HB:=Ah (aH (aw HB gK jN mw) hb);(try clear hb hk);obtain⟨RK,RL,hcz53_2,hcz53_3,hcz53_4⟩:=aj fN;obtain⟨RM,RN,hfz53_2,hfz53_3,hfz53_4⟩:=ai fN))
  refine bodyPost_ret (vW rfl _ _ eR 29 #[.int .i64 0,.slice none 0 0,.slice none 0 0,.int .i64 0,.slice none 0 0] (0,0) _ rfl (pb fN) cp rfl (by kernel_rfl)) rfl ?_;exact⟨_,_,_,er,by first|exact Kd.be _ _ _ _ _|exact Kd.ce _ _ _ _ _|exact Kd.cf _ _ _ _ _|exact Kd.cZ _ _ _ _ _|exact Kd.ca _ _ _ _ _,by first|exact Kd.be _ _ _ _ _|exact Kd.ce _ _ _ _ _|exact Kd.cf _ _ _ _ _|exact Kd.cZ _ _ _ _ _|exact Kd.ca _ _ _ _ _,by first|exact Kd.be _ _ _ _ _|exact Kd.ce _ _ _ _ _|exact Kd.cf _ _ _ _ _|exact Kd.cZ _ _ _ _ _|exact Kd.ca _ _ _ _ _,aw HB gK jN mw⟩
 subst c8;rw[if_pos rfl]at H;simp only[Jh,Ue]at H;obtain⟨rfl,rfl,rfl,rfl,rfl,rfl,rfl⟩:=H
 go_enter Try.func17,Try.ntmps17
 try go_wp2_with (first|((with_reducible refine ag (N:=2) rfl ?_);refine an 2 29 #[.int .i64 aA,.slice af X.length aa,.slice ab aC.length ac,.int .i64 aV,.slice bG aU.length bH] ?_;intro nF hg w9 cN hb;have GW217:=gw hg (bs HB);have gK:=gw hg (bs HB);replace HB:=Ah (aH (bs HB) hb);clear hb hg)|((with_reducible refine ag (N:=3) rfl ?_);refine an 3 45 #[.int .i64 aN,.int .i64 aQ] ?_;intro ye hg lp fM hb;have GW218:=gw hg (aM HB gK);have jN:=gw hg (aM HB gK);replace HB:=Ah (aH (aM HB gK) hb);have Ju:=nn cN hg;have zH:=nm cN hg;replace cN:=nb cN hb;clear hb hg)|((with_reducible refine ag (N:=4) rfl ?_);refine an 4 29 #[.int .i64 0,.slice none 0 0,.slice none 0 0,.int .i64 0,.slice none 0 0] ?_;intro eR hg kF fN hb;have GW219:=gw hg (am HB gK jN);have mw:=gw hg (am HB gK jN);replace HB:=Ah (aH (am HB gK jN) hb);have iK:=nn cN hg;have sB:=nm cN hg;replace cN:=nb cN hb;have yB:=nn fM hg;have yC:=nm fM hg;replace fM:=nb fM hb;clear hb hg;have Lg:=Ju.out;have Lh:=zH.out;have hnb13:=iK.out;have hnc13:=sB.out;obtain⟨sG,sH,E6,H9,HG⟩:=aj cN;obtain⟨sI,sJ,E7,HH,HI⟩:=ai cN)|((with_reducible refine bY (f:=35) rfl ?_);refine gL (some 8) rfl rfl aaK (by kernel_rfl) rfl #[.agg #[.int .i64 aA,.slice af X.length aa,.slice ab aC.length ac,.int .i64 aV,.slice bG aU.length bH]] rfl ?_;(with_reducible refine(eM.calls k aA _ _ X _ _ aC aV _ _ aU true _ ?aZ ?ae ?ay ?bI ?cq ?d7 A3.out).mono ?_);(case aZ=>exact cb bo HB);(case ae=>exact cU.out);(case ay=>exact cb cn HB);(case bI=>exact co.out);(case cq=>exact cb fF HB);(case d7=>exact fL.out);rintro e yp ⟨rfl,hb⟩;refine⟨_,rfl, ?_⟩;replace cN:=nb cN hb;replace fM:=nb fM hb;replace fN:=nb fN hb;replace HB:=Ah (aH (aw HB gK jN mw) hb);(try clear hb);obtain⟨ug,uh,vz,E8,E9⟩:=aj cN;obtain⟨uj,uk,wC,EE,EF⟩:=ai cN)|((with_reducible refine bY (f:=20) rfl ?_);refine gL (some 12) rfl rfl Try.func20 (by kernel_rfl) rfl #[.agg #[.int .i64 aA,.slice af X.length aa,.slice ab aC.length ac,.int .i64 aV,.slice bG aU.length bH]] rfl ?_;(with_reducible refine(nZ.calls k aA _ _ X _ _ aC aV _ _ aU oy t222 mQ t228 t229 _ ?aZ ?ae ?ay ?bI ?cq ?d7 A5.out).mono ?_);(case aZ=>exact cb bo HB);(case ae=>exact cU.out);(case ay=>exact cb cn HB);(case bI=>exact co.out);(case cq=>exact cb fF HB);(case d7=>exact fL.out);rintro e de ⟨v223,v226,v230,rfl,ho0,ho1,ho2,hb⟩;refine⟨_,rfl, ?_⟩;have oU:=Ah (Kd.bR (Kd.kd ho0 (g:=ye) (o:= .cells #[.int .i64 aN,.int .i64 aQ] 45 (0,0)) (bk fM)) (bE (aw HB gK jN mw)));have oV:=Ah (Kd.bR (Kd.kd ho1 (g:=ye) (o:= .cells #[.int .i64 aN,.int .i64 aQ] 45 (0,0)) (bk fM)) (bE (aw HB gK jN mw)));have qB:=Ah (Kd.bR ho2 (bE (aw HB gK jN mw)));replace cN:=nb cN hb;replace fM:=nb fM hb;replace fN:=nb fN hb;replace HB:=Ah (aH (aw HB gK jN mw) hb);(try clear hb ho0 ho1 ho2);obtain⟨vv,vw,zc,zd,ze⟩:=aj cN;obtain⟨vx,vy,zf,zg,zh⟩:=ai cN;obtain⟨jU,ic,J5⟩:=Kd.az oU.out;subst J5;obtain⟨jV,jB,a0I⟩:=Kd.az oV.out;subst a0I;obtain⟨gQ,gR,o7⟩:=Kd.az qB.out;subst o7;have hnb22:=yB.out;have hnc22:=yC.out;obtain⟨Kz,L0⟩:=cg fM;obtain⟨L1,L2⟩:=ch fM)|((with_reducible refine ik (b:= .append) (xs:= #[.tmp 14,.tmp 19]) rfl ?_);at_builtin;refine Kd.lM b8 (w0:=w) w.heap.size rfl (.tmp 14) (.tmp 19) 27 66 (.agg #[(.int .i64 0),(.int .i64 0),(.int .i64 0),(.int .i64 0),(.int .i64 0)]) 40 rfl aax sY rfl (by decide) (by omega) (.slice gQ t229.length gR) t229 (⟨1,t228,(⟨aN,aQ⟩:Y),0⟩:aJ) [.int .i64 1,.int .i64 t228,.int .i64 aN,.int .i64 aQ,.int .i64 0] (fun _=>True) (fun _=>False) rfl (by first|(go_simp;done)|(go_simp;rfl)) ?aP (fun _ hk=>hk.elim) ?aF ?aO ?aB ?aS ?aL ?_;(case aP=>exact nB _ _ _ (⟨1,t228,(⟨aN,aQ⟩:Y),0⟩:aJ));(case aB=>exact(aw HB gK jN mw));(case aF=>exact(fun _ _=>trivial));(case aO=>exact(by(with_reducible repeat(first|apply Kd.bd|apply Kd.bZ|apply Kd.bQ));exact Kd.ax (Kd.aK (p:=⟨nF,4,none⟩) (Kd.aK (p:=⟨nF,3,none⟩) (Kd.aK (p:=⟨nF,2,none⟩) (Kd.aK (p:=⟨nF,1,none⟩) (Kd.aK (p:=⟨nF,0,none⟩) (Kd.dU qB.out cN.out (by decide)) (fun _ hk=>hk.2) (.int .i64 oy)) (fun _ hk=>hk.2) (.slice jU t222.length ic)) (fun _ hk=>hk.2) (.slice jV mQ.length jB)) (fun _ hk=>hk.2) (.int .i64 t228)) (fun _ hk=>hk.2) (.slice gQ t229.length gR)) (fun _ hk=>trivial)));(case aS=>exact(bE (aw HB gK jN mw)));(case aL=>have:=OO.out;omega);intro v233 mA ho hb hg hat;rw[←Ny232.out]at ho;replace fM:=Ah (dJ (bf fM zH) hg (Kd.dX qB.out fM.out (by decide)));replace fN:=Ah (dJ (bf fN sB) hg (Kd.dX qB.out fN.out (by decide)));replace oU:=Ah (Kd.pK (rf oU cN) (Kd.lN (rf qB cN)) (by decide) hg);replace oV:=Ah (Kd.pK (rf oV cN) (Kd.lN (rf qB cN)) (by decide) hg);replace cN:=Ah (dJ (g:=nF) (o:= .cells #[.int .i64 oy,.slice jU t222.length ic,.slice jV mQ.length jB,.int .i64 t228,.slice gQ t229.length gR] 29 (0,0)) (pb cN) hg (Kd.dX qB.out cN.out (by decide)));replace HB:=Ah (hb);have rJ:=Ah (ho);clear qB;clear ho hb hg hat;obtain⟨hG,ge,An⟩:=Kd.az rJ.out;subst An;obtain⟨KY,KZ,hcz26_2,hcz26_3,hcz26_4⟩:=aj cN;obtain⟨Ka,Kb,hfz26_2,hfz26_3,hfz26_4⟩:=ai cN)|((with_reducible refine bY (f:=35) rfl ?_);refine gL (some 27) rfl rfl aaK (by kernel_rfl) rfl #[.agg #[.int .i64 oy,.slice jU t222.length ic,.slice jV mQ.length jB,.int .i64 (Gj (t228+1)),.slice hG nI.length ge]] rfl ?_;(with_reducible refine(eM.calls k oy _ _ t222 _ _ mQ (Gj (t228+1)) _ _ nI true _ ?aZ ?ae ?ay ?bI ?cq ?d7 A7.out).mono ?_);(case aZ=>refine(Kd.aY (e:=45) (base:=w.heap.size) (ok:=fun k_=>(some k_≠(.slice jV mQ.length jB:Value).ownBlock∧k_≠ye)) (n:=t222.length) (c:=ic) ?_).2.2;exact(rf oU cN));(case ae=>exact(Kd.aY oU.out).2.1);(case ay=>refine(Kd.aY (e:=45) (base:=w.heap.size) (ok:=fun k_=>(some k_≠(.slice jU t222.length ic:Value).ownBlock∧k_≠ye)) (n:=mQ.length) (c:=jB) ?_).2.2;exact(rf oV cN));(case bI=>exact(Kd.aY oV.out).2.1);(case cq=>refine(Kd.aY (e:=66) (base:=w.heap.size) (ok:=fun k_=>True) (n:=nI.length) (c:=ge) ?_).2.2;exact(rf rJ cN));(case d7=>exact(Kd.aY rJ.out).2.1);rintro e BK ⟨rfl,hb⟩;refine⟨_,rfl, ?_⟩;replace oU:=Ah (Kd.b9 (rf oU cN) hb);replace oV:=Ah (Kd.b9 (rf oV cN) hb);replace rJ:=Ah (Kd.b9 (rf rJ cN) hb);replace cN:=Ah (bT (g:=nF) (o:= .cells #[.int .i64 oy,.slice jU t222.length ic,.slice jV mQ.length jB,.int .i64 (Gj (t228+1)),.slice hG nI.length ge] 29 (0,0)) (pb cN) hb);replace fM:=Ah (bT (bf fM zH) hb);replace fN:=Ah (bT (bf fN sB) hb);replace HB:=Ah (aH (aw HB gK jN mw) hb);(try clear hb hk)))
 replace oU:=Ah (Kd.bQ oU.out);replace oV:=Ah (Kd.bQ oV.out);replace rJ:=Ah (Kd.bQ rJ.out);replace cN:=Ah (cY cN.out);replace fM:=Ah (cY fM.out);replace fN:=Ah (cY fN.out);replace HB:=Ah (j7 HB.out);refine mt (n:=7) (S:=fun w'=>w'.cell? ⟨nF,0,none⟩=some (.int .i64 oy)∧w'.cell? ⟨nF,1,none⟩=some (.slice jU t222.length ic)∧w'.cell? ⟨nF,2,none⟩=some (.slice jV mQ.length jB)∧w'.cell? ⟨nF,3,none⟩=some (.int .i64 (Gj (t228+1)))∧w'.cell? ⟨nF,4,none⟩=some (.slice hG nI.length ge)) (ds:=[]) #[false,false,false,false,false,false,false] (by kernel_rfl) rfl rfl ⟨(aE cN.out 0).trans rfl,(aE cN.out 1).trans rfl,(aE cN.out 2).trans rfl,(aE cN.out 3).trans rfl,(aE cN.out 4).trans rfl⟩ (fun hHeld=> ?_)
 generalize BK.drew=Ga at oU oV rJ cN fM fN HB hHeld⊢
 refine AK (i:=1) (N:=some 31) (v:= ?_) (a':= ?_) #[false,true,false,false,false,false,false] rfl rfl (by kernel_rfl) (fun _ _ _ h=>h) (Or.inl ⟨by rfl, ?_⟩) ?_ ?_;rotate_left
 ·
  intro w'
  go_simp
  with_reducible rfl
 rotate_left
 ·
  simp only[aaj,Ok,bD,ck,kP,nE]
  rfl
 refine Ec (i:=0) (N:=some 30) (v:= ?_) (a':= ?_) #[true,true,false,false,false,false,false] rfl rfl (by kernel_rfl) (fun _ _ _ h=>h) (Or.inl ⟨by rfl, ?_⟩) hHeld ?_ ?_;rotate_left
 ·
  rintro w' ⟨s0,s1,s2,s3,s4⟩
  go_simp
  with_reducible rfl
 rotate_left
 ·
  simp only[aaj,Ok,bD,ck,kP,nE]
  rfl
 refine Ec (i:=2) (N:=some 32) (v:= ?_) (a':= ?_) #[true,true,true,false,false,false,false] rfl rfl (by kernel_rfl) (fun _ _ _ h=>h) (Or.inl ⟨by rfl, ?_⟩) hHeld ?_ ?_;rotate_left
 ·
  rintro w' ⟨s0,s1,s2,s3,s4⟩
  go_simp
  with_reducible rfl
 rotate_left
 ·
  simp only[aaj,Ok,bD,ck,kP,nE]
  rfl
 refine AK (i:=3) (N:=some 33) (v:= ?_) (a':= ?_) #[true,true,true,true,false,false,false] rfl rfl (by kernel_rfl) (fun _ _ _ h=>h) (Or.inl ⟨by rfl, ?_⟩) ?_ ?_;rotate_left
 ·
  intro w'
  go_simp
  with_reducible rfl
 rotate_left
 ·
  simp only[aaj,Ok,bD,ck,kP,nE]
  rfl
 refine fv (i:=4) (N:=none) #[true,true,true,true,true,false,false] rfl rfl (by kernel_rfl) (by decide) (fun K hK=> ?_);have hs29:Ga.cell? ⟨eR,0,none⟩=some (.int .i64 0):=(aE fN.out 0).trans rfl;have hfs29:=fE fN.out 0;have hns29_0:=iK.out;have hns29_1:=yB.out;have hms29_0:=sB.out;have hms29_1:=yC.out;have hs30:Ga.cell? ⟨eR,1,none⟩=some (.slice none 0 0):=(aE fN.out 1).trans rfl;have hfs30:=fE fN.out 1;have hns30_0:=iK.out;have hns30_1:=yB.out;have hms30_0:=sB.out;have hms30_1:=yC.out;have hs31:Ga.cell? ⟨eR,2,none⟩=some (.slice none 0 0):=(aE fN.out 2).trans rfl;have hfs31:=fE fN.out 2;have hns31_0:=iK.out;have hns31_1:=yB.out;have hms31_0:=sB.out;have hms31_1:=yC.out;have hs32:Ga.cell? ⟨eR,3,none⟩=some (.int .i64 0):=(aE fN.out 3).trans rfl;have hfs32:=fE fN.out 3;have hns32_0:=iK.out;have hns32_1:=yB.out;have hms32_0:=sB.out;have hms32_1:=yC.out;have hs33:Ga.cell? ⟨eR,4,none⟩=some (.slice none 0 0):=(aE fN.out 4).trans rfl;have hfs33:=fE fN.out 4;have hns33_0:=iK.out;have hns33_1:=yB.out;have hms33_0:=sB.out;have hms33_1:=yC.out;refine CY (w1:= ?_) (by rfl) rfl ?_ ?_;rotate_left
 ·
  go_simp
  rfl
 refine hK.out _ _ ⟨((aW (p:=⟨eR,_,none⟩) iK.out _).trans (((aW (p:=⟨eR,_,none⟩) iK.out _).trans (((aW (p:=⟨eR,_,none⟩) iK.out _).trans (((aW (p:=⟨eR,_,none⟩) iK.out _).trans (((aW (p:=⟨eR,_,none⟩) iK.out _).trans (hHeld.1)))))))))),((aW (p:=⟨eR,_,none⟩) iK.out _).trans (((aW (p:=⟨eR,_,none⟩) iK.out _).trans (((aW (p:=⟨eR,_,none⟩) iK.out _).trans (((aW (p:=⟨eR,_,none⟩) iK.out _).trans (((aW (p:=⟨eR,_,none⟩) iK.out _).trans (hHeld.2.1)))))))))),((aW (p:=⟨eR,_,none⟩) iK.out _).trans (((aW (p:=⟨eR,_,none⟩) iK.out _).trans (((aW (p:=⟨eR,_,none⟩) iK.out _).trans (((aW (p:=⟨eR,_,none⟩) iK.out _).trans (((aW (p:=⟨eR,_,none⟩) iK.out _).trans (hHeld.2.2.1)))))))))),((aW (p:=⟨eR,_,none⟩) iK.out _).trans (((aW (p:=⟨eR,_,none⟩) iK.out _).trans (((aW (p:=⟨eR,_,none⟩) iK.out _).trans (((aW (p:=⟨eR,_,none⟩) iK.out _).trans (((aW (p:=⟨eR,_,none⟩) iK.out _).trans (hHeld.2.2.2.1)))))))))),((aW (p:=⟨eR,_,none⟩) iK.out _).trans (((aW (p:=⟨eR,_,none⟩) iK.out _).trans (((aW (p:=⟨eR,_,none⟩) iK.out _).trans (((aW (p:=⟨eR,_,none⟩) iK.out _).trans (((aW (p:=⟨eR,_,none⟩) iK.out _).trans (hHeld.2.2.2.2))))))))))⟩ (fun hHeld=> ?_);clear hK K;refine AK (i:=5) (N:=some 5) (v:= ?_) (a':= ?_) #[true,true,true,true,true,true,false] rfl rfl (by kernel_rfl) (fun _ _ _ h=>h) (Or.inl ⟨by rfl, ?_⟩) ?_ ?_;rotate_left
 ·
  intro w'
  go_simp
  with_reducible rfl
 rotate_left
 ·
  simp only[aaj,Ok,bD,ck,kP,nE]
  rfl
 refine AK (i:=6) (N:=some 6) (v:= ?_) (a':= ?_) #[true,true,true,true,true,true,true] rfl rfl (by kernel_rfl) (fun _ _ _ h=>h) (Or.inl ⟨by rfl, ?_⟩) ?_ ?_;rotate_left
 ·
  intro w'
  go_simp
  with_reducible rfl
 rotate_left
 ·
  simp only[aaj,Ok,bD,ck,kP,nE]
  rfl
 refine jn (by kernel_rfl) ?_
 try go_wp2
 refine bodyPost_ret (vW rfl _ _ eR 29 #[.int .i64 oy,.slice jU t222.length ic,.slice jV mQ.length jB,.int .i64 (Gj (t228+1)),.slice hG nI.length ge] (0,0) _ rfl (pb fN) cp rfl (by kernel_rfl)) rfl ?_;exact⟨_,_,_,er,by(with_reducible repeat(first|apply Kd.bd|apply Kd.bZ|apply Kd.bQ));exact Kd.ax (Kd.aK (p:=⟨eR,4,none⟩) (Kd.aK (p:=⟨eR,3,none⟩) (Kd.aK (p:=⟨eR,2,none⟩) (Kd.aK (p:=⟨eR,1,none⟩) (Kd.aK (p:=⟨eR,0,none⟩) (Kd.dU oU.out fN.out (by decide)) (fun _ hk=>hk.2) (.int .i64 oy)) (fun _ hk=>hk.2) (.slice jU t222.length ic)) (fun _ hk=>hk.2) (.slice jV mQ.length jB)) (fun _ hk=>hk.2) (.int .i64 (Gj (t228+1)))) (fun _ hk=>hk.2) (.slice hG nI.length ge)) (fun _ hk=>hk.1.1),by(with_reducible repeat(first|apply Kd.bd|apply Kd.bZ|apply Kd.bQ));exact Kd.ax (Kd.aK (p:=⟨eR,4,none⟩) (Kd.aK (p:=⟨eR,3,none⟩) (Kd.aK (p:=⟨eR,2,none⟩) (Kd.aK (p:=⟨eR,1,none⟩) (Kd.aK (p:=⟨eR,0,none⟩) (Kd.dU oV.out fN.out (by decide)) (fun _ hk=>hk.2) (.int .i64 oy)) (fun _ hk=>hk.2) (.slice jU t222.length ic)) (fun _ hk=>hk.2) (.slice jV mQ.length jB)) (fun _ hk=>hk.2) (.int .i64 (Gj (t228+1)))) (fun _ hk=>hk.2) (.slice hG nI.length ge)) (fun _ hk=>hk.1.1),by(with_reducible repeat(first|apply Kd.bd|apply Kd.bZ|apply Kd.bQ));exact Kd.ax (Kd.aK (p:=⟨eR,4,none⟩) (Kd.aK (p:=⟨eR,3,none⟩) (Kd.aK (p:=⟨eR,2,none⟩) (Kd.aK (p:=⟨eR,1,none⟩) (Kd.aK (p:=⟨eR,0,none⟩) (Kd.dU rJ.out fN.out (by decide)) (fun _ hk=>hk.2) (.int .i64 oy)) (fun _ hk=>hk.2) (.slice jU t222.length ic)) (fun _ hk=>hk.2) (.slice jV mQ.length jB)) (fun _ hk=>hk.2) (.int .i64 (Gj (t228+1)))) (fun _ hk=>hk.2) (.slice hG nI.length ge)) (fun _ hk=>trivial),aw HB gK jN mw⟩
mutual
def eW.l0:Nat→List (aJ)→List (aJ)→List (aJ)→Int→Int→Option ((List (aJ)))
 |0,_,_,_,_,_=>none
 |k+1,x0,x3,x8,x9,fy=>if fy<x9 then(if 0≤fy then(if fy<(x8.length:Int)then(if((U x8 fy).f0)=1 then(eW.l1 k x0 x3 x8 x9 fy x0 (x0.length:Int) 0 ((U x8 fy).f0) ((U x8 fy).f1) ((U x8 fy).f2.f0) ((U x8 fy).f2.f1) ((U x8 fy).f3))else(eW.l0 k x0 x3 x8 x9 (Gj (fy+1))))else(none))else(none))else(some x3)
def eW.l1:Nat→List (aJ)→List (aJ)→List (aJ)→Int→Int→List (aJ)→Int→Int→Int→Int→Int→Int→Int→Option ((List (aJ)))
 |0,_,_,_,_,_,_,_,_,_,_,_,_,_=>none
 |k+1,x0,x3,x8,x9,fy,eD,fz,di,X5,RS,X6,RT,X7=>if di<fz then(if 0≤di then(if di<(eD.length:Int)then(if((U eD di).f1)=RS then(eW.l1 k x0 x3 x8 x9 fy eD fz (Gj (di+1)) X5 RS X6 RT ((U eD di).f3))else(eW.l1 k x0 x3 x8 x9 fy eD fz (Gj (di+1)) X5 RS X6 RT X7))else(none))else(none))else(if X7<RT then(if x3.length<3518437208883 then(eW.l0 k x0 (x3++[(⟨X5,RS,(⟨X6,RT⟩:Y),X7⟩:aJ)]) x8 x9 (Gj (fy+1)))else(none))else(eW.l0 k x0 x3 x8 x9 (Gj (fy+1))))
end
def eW.f(k:Nat)(l0:List (aJ)):Option ((List (aJ))):=eW.l0 k l0 ([]:List (aJ)) l0 (l0.length:Int) 0
theorem eW.cQ:∀k,(∀y0 y1 y2 y3 y4,aG (eW.l0 k y0 y1 y2 y3 y4) (eW.l0 (k+1) y0 y1 y2 y3 y4))∧(∀y0 y1 y2 y3 y4 y5 y6 y7 y8 y9 qP qQ tA,aG (eW.l1 k y0 y1 y2 y3 y4 y5 y6 y7 y8 y9 qP qQ tA) (eW.l1 (k+1) y0 y1 y2 y3 y4 y5 y6 y7 y8 y9 qP qQ tA))
 |0=>⟨fun _ _ _ _ _ r h=>by simp[eW.l0]at h,fun _ _ _ _ _ _ _ _ _ _ _ _ _ r h=>by simp[eW.l1]at h⟩
 |k+1=>by
  obtain⟨bS,ih1⟩:=eW.cQ k
  refine⟨?_, ?_⟩<;>intros<;>first|unfold eW.l0|unfold eW.l1
  all_goals repeat' first
   |(with_reducible exact bS _ _ _ _ _)
   |(with_reducible exact ih1 _ _ _ _ _ _ _ _ _ _ _ _ _)
   |(with_reducible exact aG.refl _)
   |(with_reducible exact aG.none _)
   |(with_reducible refine aG.ite ?_ ?_)
   |(with_reducible refine aG.bind ?_ (fun _=> ?_))
   |exact bS _ _ _ _ _
   |exact ih1 _ _ _ _ _ _ _ _ _ _ _ _ _
   |exact aG.none _
   |refine aG.ite ?_ ?_
   |refine aG.bind ?_ (fun _=> ?_)
theorem eW.mono:∀a0 k,aG (eW.f k a0) (eW.f (k+1) a0):=by
 intro a0 k;obtain⟨bS,ih1⟩:=eW.cQ k;unfold eW.f
 repeat' with_reducible first|exact bS _ _ _ _ _|exact ih1 _ _ _ _ _ _ _ _ _ _ _ _ _|exact aG.refl _|exact aG.none _|refine aG.ite ?_ ?_|refine aG.bind ?_ (fun _=> ?_)
theorem eW.calls(k:Nat)(A0:Option Addr)(c0:Nat)(l0:List (aJ))(r:List (aJ))(w:World)(hr0:Kd.C b8 w A0 l0.length l0)(hc0:l0.length≤c0)(h:eW.f k l0=some r):
 Calls Uf 36 #[.slice A0 l0.length c0] w fun e w'=>∃lI:Value,e= .returned (lI)∧Kd.R b8 66 w' w.heap.size (fun _=>True) lI r∧Below w.heap.size w w':=by
 have u7:=aay;have cX:=Ah hr0;have oE:=Ah hc0;clear hr0 hc0;have HB:=Ah (Ud w.heap.size w);have H:(eW.l0 k l0 ([]:List (aJ)) l0 (l0.length:Int) 0)=some r:=h;clear h;have H':=Ah H;clear H
 go_enter Try.func36,Try.ntmps36
 go_wp2
 go_loopg [3,10] k (fun kq v3 v10 w'=>∃ (bx:List (aJ)) (bA:Int),v10= .int .i64 bA∧Z (eW.l0 kq l0 bx l0 (l0.length:Int) bA=some r)∧Z (kq≤k)∧Z (Kd.R b8 66 w' w.heap.size (fun _=>True) v3 bx)∧Z (Below w.heap.size w w'))
 case atStart=>exact⟨(([]:List (aJ))),(0),e3,H',⟨QQ _⟩,⟨by first|exact Kd.be _ _ _ _ _|exact Kd.ce _ _ _ _ _|exact Kd.cf _ _ _ _ _|exact Kd.cZ _ _ _ _ _|exact Kd.ca _ _ _ _ _⟩,⟨bs HB⟩⟩
 case round=>
  clear H';obtain⟨bx,bA,rfl,HA,bi,bu,HB⟩:=hrel
  cases gk with
  |zero=>exact absurd HA.out (by simp[eW.l0])
  |succ k1=>
   have H:=HA.out;clear HA;simp only[eW.l0]at H
   by_cases c2:bA<(l0.length:Int)
   rotate_left
   ·
    rw[if_neg c2]at H;have vJ:=dn c2;clear c2;obtain rfl:=Gn H
    go_wp2
    go_ret
    exact⟨_,er,by(with_reducible repeat(first|apply Kd.bd|apply Kd.bZ|apply Kd.bQ));exact bu.out,bs HB⟩
   rw[if_pos c2]at H;have vJ:=bJ c2;clear c2
   by_cases c3:0≤bA
   rotate_left
   ·
    rw[if_neg c3]at H;exact absurd H (by simp)
   rw[if_pos c3]at H;have dc:=bJ c3;clear c3
   by_cases c4:bA<(l0.length:Int)
   rotate_left
   ·
    rw[if_neg c4]at H;exact absurd H (by simp)
   rw[if_pos c4]at H;have fB:=bJ c4;clear c4
   by_cases c5:((U l0 bA).f0)=1
   rotate_left
   ·
    rw[if_neg c5]at H;have kV:=fS c5;have vL:=fT c5;have H':=Ah H;clear H;have D4:0≤(bA:Int):=od;have D5:bA<(l0.length:Int):=od;obtain⟨Yx,a0J,Ho,Hp,Hq,Hr,Hs⟩:=eC cX.out bA D4 D5
    cases a0J
    replace Ho:=hq HB Ho;replace Hp:=hq HB Hp;replace Hq:=hq HB Hq;replace Hr:=hq HB Hr;replace Hs:=hq HB Hs;replace D4:=eq_true D4;replace D5:=eq_true D5
    go_wp2_with (first|((with_reducible refine ag (N:=5) rfl ?_);refine an 5 66 #[.int .i64 0,.int .i64 0,.int .i64 0,.int .i64 0,.int .i64 0] ?_;intro nv hg ek kQ hb;replace bu:=Ah (Kd.b9 (Kd.kN (rr bu.out) nv (aaf hg.symm)) hb);have GW237:=gw hg (bs HB);have rK:=gw hg (bs HB);replace HB:=Ah (aH (bs HB) hb);clear hb hg;obtain⟨KY,KZ,hcz26_2,hcz26_3,hcz26_4⟩:=aj kQ;obtain⟨Ka,Kb,hfz26_2,hfz26_3,hfz26_4⟩:=ai kQ))
    go_roundg k1
    case measure=>have:=bi.out;omega
    case rel=>exact⟨(bx),(Gj (bA+1)),e3,H',⟨by have:=bi.out;omega⟩,⟨by(with_reducible repeat(first|apply Kd.bd|apply Kd.bZ|apply Kd.bQ));exact Kd.ax (Kd.aK (p:=⟨nv,4,none⟩) (Kd.aK (p:=⟨nv,3,none⟩) (Kd.aK (p:=⟨nv,2,none⟩) (Kd.aK (p:=⟨nv,1,none⟩) (Kd.aK (p:=⟨nv,0,none⟩) (Kd.ax bu.out (fun k_ hk=>(⟨hk,hk.2⟩:_∧k_≠nv))) (fun _ hk=>hk.2) (.int .i64 ((U l0 bA).f0))) (fun _ hk=>hk.2) (.int .i64 ((U l0 bA).f1))) (fun _ hk=>hk.2) (.int .i64 ((U l0 bA).f2.f0))) (fun _ hk=>hk.2) (.int .i64 ((U l0 bA).f2.f1))) (fun _ hk=>hk.2) (.int .i64 ((U l0 bA).f3))) (fun _ hk=>trivial)⟩,⟨aM HB rK⟩⟩
   rw[if_pos c5]at H;have kV:=fU c5;have vL:=fV c5;clear c5;have H':=Ah H;clear H;have D4:0≤(bA:Int):=od;have D5:bA<(l0.length:Int):=od;obtain⟨Yx,a0J,Ho,Hp,Hq,Hr,Hs⟩:=eC cX.out bA D4 D5
   cases a0J
   replace Ho:=hq HB Ho;replace Hp:=hq HB Hp;replace Hq:=hq HB Hq;replace Hr:=hq HB Hr;replace Hs:=hq HB Hs;replace D4:=eq_true D4;replace D5:=eq_true D5
   go_wp2_with (first|((with_reducible refine ag (N:=5) rfl ?_);refine an 5 66 #[.int .i64 0,.int .i64 0,.int .i64 0,.int .i64 0,.int .i64 0] ?_;intro nv hg w6 kQ hb;replace bu:=Ah (Kd.b9 (Kd.kN (rr bu.out) nv (aaf hg.symm)) hb);have GW237:=gw hg (bs HB);have rK:=gw hg (bs HB);replace HB:=Ah (aH (bs HB) hb);clear hb hg;obtain⟨pr,pt,yU,SP,SQ⟩:=aj kQ;obtain⟨pu,pv,yV,SR,SS⟩:=ai kQ))
   go_loopg [19] k1 (fun kq v19 w'=>∃ (hY:Int) (yD:Int),v19= .int .i64 hY∧Z (eW.l1 kq l0 bx l0 (l0.length:Int) bA l0 (l0.length:Int) hY ((U l0 bA).f0) ((U l0 bA).f1) ((U l0 bA).f2.f0) ((U l0 bA).f2.f1) yD=some r)∧Z (kq≤k1)∧Z (Kd.R b8 66 w' w.heap.size (fun k_=>k_≠nv) u3 bx)∧Z (w'.heap[nv]?=some (.cells #[.int .i64 ((U l0 bA).f0),.int .i64 ((U l0 bA).f1),.int .i64 ((U l0 bA).f2.f0),.int .i64 ((U l0 bA).f2.f1),.int .i64 yD] 66 (0,0)))∧Z (Below w.heap.size w w'))
   case atStart=>exact⟨(0),((U l0 bA).f3),e3,H',⟨QQ _⟩,⟨by(with_reducible repeat(first|apply Kd.bd|apply Kd.bZ|apply Kd.bQ));exact Kd.ax (Kd.aK (p:=⟨nv,4,none⟩) (Kd.aK (p:=⟨nv,3,none⟩) (Kd.aK (p:=⟨nv,2,none⟩) (Kd.aK (p:=⟨nv,1,none⟩) (Kd.aK (p:=⟨nv,0,none⟩) (Kd.ax bu.out (fun k_ hk=>(⟨hk,hk.2⟩:_∧k_≠nv))) (fun _ hk=>hk.2) (.int .i64 ((U l0 bA).f0))) (fun _ hk=>hk.2) (.int .i64 ((U l0 bA).f1))) (fun _ hk=>hk.2) (.int .i64 ((U l0 bA).f2.f0))) (fun _ hk=>hk.2) (.int .i64 ((U l0 bA).f2.f1))) (fun _ hk=>hk.2) (.int .i64 ((U l0 bA).f3))) (fun _ hk=>hk.1.2)⟩,⟨by exact pb kQ⟩,⟨aM HB rK⟩⟩
   case round=>
    clear H'
    try clear c2
    try clear vJ
    try clear p2
    try clear q2
    try clear hx2
    try clear c3
    try clear dc
    try clear c4
    try clear fB
    try clear c5
    try clear kV
    try clear vL
    try clear pr pt yU SP SQ
    try clear pu pv yV SR SS
    try clear Ho
    try clear Hp
    try clear Hq
    try clear Hr
    try clear Hs
    try clear D4
    try clear D5
    obtain⟨hY,yD,rfl,HA,eE,bu,kQ,HB⟩:=hrel
    cases gk with
    |zero=>exact absurd HA.out (by simp[eW.l1])
    |succ k2=>
     have H:=HA.out;clear HA;simp only[eW.l1]at H
     by_cases c8:hY<(l0.length:Int)
     rotate_left
     ·
      rw[if_neg c8]at H;have rO:=dn c8;clear c8
      by_cases c20:yD<((U l0 bA).f2.f1)
      rotate_left
      ·
       rw[if_neg c20]at H;have Cg:=dn c20;clear c20;have H':=Ah H;clear H;obtain⟨zt,zu,Ht,L3,L4⟩:=aj kQ;obtain⟨zv,zw,Hu,L5,L6⟩:=ai kQ
       go_wp2
       go_roundg k2
       case measure=>have:=bi.out;have:=eE.out;omega
       case rel=>exact⟨(bx),(Gj (bA+1)),e3,H',⟨by have:=bi.out;have:=eE.out;omega⟩,rm bu (fun _ hk=>trivial),⟨aM HB rK⟩⟩
      rw[if_pos c20]at H;have Cg:=bJ c20;clear c20
      by_cases c21:bx.length<3518437208883
      rotate_left
      ·
       rw[if_neg c21]at H;exact absurd H (by simp)
      rw[if_pos c21]at H;have LMc21:=Ah c21;clear c21;obtain⟨y240,Mj⟩:∃y_:List (aJ),y_=(bx++[(⟨((U l0 bA).f0),((U l0 bA).f1),(⟨((U l0 bA).f2.f0),((U l0 bA).f2.f1)⟩:Y),yD⟩:aJ)]):=⟨_,rfl⟩
      replace H:(eW.l0 k2 l0 y240 l0 (l0.length:Int) (Gj (bA+1)))=some r:=by first|(rw[Mj];with_reducible exact H)|(have aq:=(Gm _ _).symm.trans H;rw[Mj];with_reducible exact aq)|(have aq:=(Gm _ _).symm.trans H;with_reducible exact aq)|with_reducible exact H|(rw[Mj];exact H)|exact H
      have Ny240:=Ah Mj;clear Mj;have H':=Ah H;clear H;obtain⟨tU,tV,ui,wA,wB⟩:=aj kQ;obtain⟨tW,tX,ul,wD,wE⟩:=ai kQ
      go_wp2_with (first|((with_reducible refine ik (b:= .append) (xs:= #[.tmp 38,.tmp 40]) rfl ?_);at_builtin;refine Kd.lM b8 (w0:=w) w.heap.size rfl (.tmp 38) (.tmp 40) 27 66 (.agg #[(.int .i64 0),(.int .i64 0),(.int .i64 0),(.int .i64 0),(.int .i64 0)]) 40 rfl aax sY rfl (by decide) (by omega) u3 bx (⟨((U l0 bA).f0),((U l0 bA).f1),(⟨((U l0 bA).f2.f0),((U l0 bA).f2.f1)⟩:Y),yD⟩:aJ) [.int .i64 ((U l0 bA).f0),.int .i64 ((U l0 bA).f1),.int .i64 ((U l0 bA).f2.f0),.int .i64 ((U l0 bA).f2.f1),.int .i64 yD] (fun k_=>k_≠nv) (fun _=>False) rfl rfl ?aP (fun _ hk=>hk.elim) ?aF ?aO ?aB ?aS ?aL ?_;(case aP=>exact nB _ _ _ (⟨((U l0 bA).f0),((U l0 bA).f1),(⟨((U l0 bA).f2.f0),((U l0 bA).f2.f1)⟩:Y),yD⟩:aJ));(case aB=>exact(aM HB rK));(case aF=>exact(fun k_ hk=>Kd.jm (bk kQ) k_ hk));(case aO=>exact(rr bu.out));(case aS=>exact(bE (aM HB rK)));(case aL=>have:=LMc21.out;omega);intro v241 kG ho hb hg hat;rw[←Ny240.out]at ho;replace kQ:=Ah (dJ (bk kQ) hg (Kd.jL bu.out (fun _ hk=>hk)));replace HB:=Ah (hb);have HO242:=Ah (ho);clear bu;clear ho hb hg hat))
      go_roundg k2
      case measure=>have:=bi.out;have:=eE.out;omega
      case rel=>exact⟨(y240),(Gj (bA+1)),e3,H',⟨by have:=bi.out;have:=eE.out;omega⟩,rm HO242 (fun _ hk=>trivial),⟨aM HB rK⟩⟩
     rw[if_pos c8]at H;have rO:=bJ c8;clear c8
     by_cases c9:0≤hY
     rotate_left
     ·
      rw[if_neg c9]at H;exact absurd H (by simp)
     rw[if_pos c9]at H;have sk:=bJ c9;clear c9
     by_cases c10:hY<(l0.length:Int)
     rotate_left
     ·
      rw[if_neg c10]at H;exact absurd H (by simp)
     rw[if_pos c10]at H;have Ma:=bJ c10;clear c10
     by_cases c11:((U l0 hY).f1)=((U l0 bA).f1)
     rotate_left
     ·
      rw[if_neg c11]at H;have Mb:=fS c11;have c11b1:=fT c11;have H':=Ah H;clear H;have Fl:0≤(hY:Int):=od;have Fm:hY<(l0.length:Int):=od;obtain⟨Yy,e238,L7,L8,L9,LA,LB⟩:=eC cX.out hY Fl Fm;obtain rfl:Yx=Yy:=(by injection e238);replace L7:=hq HB L7;replace L8:=hq HB L8;replace L9:=hq HB L9;replace LA:=hq HB LA;replace LB:=hq HB LB;replace Fl:=eq_true Fl;replace Fm:=eq_true Fm
      go_wp2_with (first|((with_reducible refine ag (N:=7) rfl ?_);refine an 7 66 #[.int .i64 0,.int .i64 0,.int .i64 0,.int .i64 0,.int .i64 0] ?_;intro rL hg w16 Mk hb;replace bu:=Ah (Kd.b9 (Kd.kN (rr bu.out) rL (aaf hg.symm)) hb);have GW239:=gw hg (aM HB rK);have Yz:=gw hg (aM HB rK);replace HB:=Ah (aH (aM HB rK) hb);have zI:=nn kQ hg;have VF:=nm kQ hg;replace kQ:=nb kQ hb;clear hb hg;have Sg:=VF.out;have Sh:=zI.out;obtain⟨vv,vw,zc,zd,ze⟩:=aj Mk;obtain⟨vx,vy,zf,zg,zh⟩:=ai Mk;obtain⟨E2,E3,X8,hcz19_3,hcz19_4⟩:=aj kQ;obtain⟨E4,E5,X9,hfz19_3,hfz19_4⟩:=ai kQ))
      go_roundg k2
      case measure=>have:=bi.out;have:=eE.out;omega
      case rel=>exact⟨(Gj (hY+1)),(yD),e3,H',⟨by have:=bi.out;have:=eE.out;omega⟩,⟨by(with_reducible repeat(first|apply Kd.bd|apply Kd.bZ|apply Kd.bQ));exact Kd.ax (Kd.aK (p:=⟨rL,4,none⟩) (Kd.aK (p:=⟨rL,3,none⟩) (Kd.aK (p:=⟨rL,2,none⟩) (Kd.aK (p:=⟨rL,1,none⟩) (Kd.aK (p:=⟨rL,0,none⟩) (Kd.ax bu.out (fun k_ hk=>(⟨hk,hk.2⟩:_∧k_≠rL))) (fun _ hk=>hk.2) (.int .i64 ((U l0 hY).f0))) (fun _ hk=>hk.2) (.int .i64 ((U l0 hY).f1))) (fun _ hk=>hk.2) (.int .i64 ((U l0 hY).f2.f0))) (fun _ hk=>hk.2) (.int .i64 ((U l0 hY).f2.f1))) (fun _ hk=>hk.2) (.int .i64 ((U l0 hY).f3))) (fun _ hk=>hk.1.1)⟩,⟨bf kQ zI⟩,⟨am HB rK Yz⟩⟩
     rw[if_pos c11]at H;have Mb:=fU c11;have c11b1:=fV c11;clear c11;have H':=Ah H;clear H;have Fl:0≤(hY:Int):=od;have Fm:hY<(l0.length:Int):=od;obtain⟨Yy,e238,L7,L8,L9,LA,LB⟩:=eC cX.out hY Fl Fm;obtain rfl:Yx=Yy:=(by injection e238);replace L7:=hq HB L7;replace L8:=hq HB L8;replace L9:=hq HB L9;replace LA:=hq HB LA;replace LB:=hq HB LB;replace Fl:=eq_true Fl;replace Fm:=eq_true Fm
     go_wp2_with (first|((with_reducible refine ag (N:=7) rfl ?_);refine an 7 66 #[.int .i64 0,.int .i64 0,.int .i64 0,.int .i64 0,.int .i64 0] ?_;intro rL hg ef Mk hb;replace bu:=Ah (Kd.b9 (Kd.kN (rr bu.out) rL (aaf hg.symm)) hb);have GW239:=gw hg (aM HB rK);have Yz:=gw hg (aM HB rK);replace HB:=Ah (aH (aM HB rK) hb);have zI:=nn kQ hg;have VF:=nm kQ hg;replace kQ:=nb kQ hb;clear hb hg;have hnb13:=VF.out;have hnc13:=zI.out;obtain⟨sG,sH,E6,H9,HG⟩:=aj Mk;obtain⟨sI,sJ,E7,HH,HI⟩:=ai Mk;obtain⟨um,un,CI,EK,EL⟩:=aj kQ;obtain⟨uo,uq,CJ,EM,EN⟩:=ai kQ))
     go_roundg k2
     case measure=>have:=bi.out;have:=eE.out;omega
     case rel=>exact⟨(Gj (hY+1)),((U l0 hY).f3),e3,H',⟨by have:=bi.out;have:=eE.out;omega⟩,⟨by(with_reducible repeat(first|apply Kd.bd|apply Kd.bZ|apply Kd.bQ));exact Kd.ax (Kd.aK (p:=⟨nv,4,none⟩) (Kd.aK (p:=⟨rL,4,none⟩) (Kd.aK (p:=⟨rL,3,none⟩) (Kd.aK (p:=⟨rL,2,none⟩) (Kd.aK (p:=⟨rL,1,none⟩) (Kd.aK (p:=⟨rL,0,none⟩) (Kd.ax (Kd.ax bu.out (fun k_ hk=>(⟨hk,hk.2⟩:_∧k_≠rL))) (fun k_ hk=>(⟨hk,hk.1.1⟩:_∧k_≠nv))) (fun _ hk=>hk.1.2) (.int .i64 ((U l0 hY).f0))) (fun _ hk=>hk.1.2) (.int .i64 ((U l0 hY).f1))) (fun _ hk=>hk.1.2) (.int .i64 ((U l0 hY).f2.f0))) (fun _ hk=>hk.1.2) (.int .i64 ((U l0 hY).f2.f1))) (fun _ hk=>hk.1.2) (.int .i64 ((U l0 hY).f3))) (fun _ hk=>hk.2) (.int .i64 ((U l0 hY).f3))) (fun _ hk=>hk.1.1.1)⟩,⟨by(with_reducible repeat(first|refine ex ?_ _|refine cY ?_|refine ew ?_ _));refine zV (cs:= #[.int .i64 ((U l0 bA).f0),.int .i64 ((U l0 bA).f1),.int .i64 ((U l0 bA).f2.f0),.int .i64 ((U l0 bA).f2.f1),.int .i64 yD]) ?_ 4 _ rfl;(with_reducible repeat(first|refine ex ?_ _|refine cY ?_|refine ew ?_ _));refine gY ?_ zI.out _;(with_reducible repeat(first|refine ex ?_ _|refine cY ?_|refine ew ?_ _));refine gY ?_ zI.out _;(with_reducible repeat(first|refine ex ?_ _|refine cY ?_|refine ew ?_ _));refine gY ?_ zI.out _;(with_reducible repeat(first|refine ex ?_ _|refine cY ?_|refine ew ?_ _));refine gY ?_ zI.out _;(with_reducible repeat(first|refine ex ?_ _|refine cY ?_|refine ew ?_ _));refine gY ?_ zI.out _;exact bk kQ⟩,⟨am HB rK Yz⟩⟩
mutual
def dI.j0:Nat→Int→Int→Bool→Int→List (Y)→List (Y)→Int→List (aJ)→Option (Int×(List (Y))×(List (Y))×Int×(List (aJ))×Bool)
 |0,_,_,_,_,_,_,_,_=>none
 |k+1,x1,x2,eD,tc,td,te,tf,tg=>if eD=true then(some (0,([]:List (Y)),([]:List (Y)),0,([]:List (aJ)),false))else(dI.j1 k x1 x2 tc td te tf tg)
def dI.j1:Nat→Int→Int→Int→List (Y)→List (Y)→Int→List (aJ)→Option (Int×(List (Y))×(List (Y))×Int×(List (aJ))×Bool)
 |0,_,_,_,_,_,_,_=>none
 |k+1,x1,x2,tc,td,te,tf,tg=>(nZ.f k tc td te tf tg).bind fun Ie=>((eW.f k Ie.2.2.2.2).bind fun d8=>(dI.l0 k x1 x2 d8 (d8.length:Int) 0 Ie.1 Ie.2.1 Ie.2.2.1 Ie.2.2.2.1 Ie.2.2.2.2))
def dI.l0:Nat→Int→Int→List (aJ)→Int→Int→Int→List (Y)→List (Y)→Int→List (aJ)→Option (Int×(List (Y))×(List (Y))×Int×(List (aJ))×Bool)
 |0,_,_,_,_,_,_,_,_,_,_=>none
 |k+1,x1,x2,jG,x24,x25,tc,td,te,tf,tg=>if x25<x24 then(dI.j3 k x1 x2 jG x24 x25 tc td te tf tg)else(some (0,([]:List (Y)),([]:List (Y)),0,([]:List (aJ)),false))
def dI.j3:Nat→Int→Int→List (aJ)→Int→Int→Int→List (Y)→List (Y)→Int→List (aJ)→Option (Int×(List (Y))×(List (Y))×Int×(List (aJ))×Bool)
 |0,_,_,_,_,_,_,_,_,_,_=>none
 |k+1,x1,x2,jG,x24,x25,tc,td,te,tf,tg=>if 0≤x25 then(if x25<(jG.length:Int)then(if((U jG x25).f1)=x1 then(dI.j4 k x1 x2 tc td te tf tg ((U jG x25).f0) ((U jG x25).f1) ((U jG x25).f2.f0) ((U jG x25).f2.f1) ((U jG x25).f3))else(dI.l0 k x1 x2 jG x24 (Gj (x25+1)) tc td te tf tg))else(none))else(none)
def dI.j4:Nat→Int→Int→Int→List (Y)→List (Y)→Int→List (aJ)→Int→Int→Int→Int→Int→Option (Int×(List (Y))×(List (Y))×Int×(List (aJ))×Bool)
 |0,_,_,_,_,_,_,_,_,_,_,_,_=>none
 |k+1,x1,x2,tc,td,te,tf,tg,x262000,x262001,x262002,x262003,x262004=>if x2<(Gj (x262003-x262004))then(if tg.length<3518437208883 then((some (tg++[(⟨2,x1,(⟨0,0⟩:Y),Gj (x262004+x2)⟩:aJ)]:List (aJ))).bind fun rZ=>((eM.f k tc td te tf rZ).bind fun OP=>(if OP=true then(some (tc,td,te,tf,rZ,true))else(some (0,([]:List (Y)),([]:List (Y)),0,([]:List (aJ)),false)))))else(none))else(if tg.length<3518437208883 then((some (tg++[(⟨2,x1,(⟨0,0⟩:Y),x262003⟩:aJ)]:List (aJ))).bind fun ra=>((eM.f k tc td te tf ra).bind fun OQ=>(if OQ=true then(some (tc,td,te,tf,ra,true))else(some (0,([]:List (Y)),([]:List (Y)),0,([]:List (aJ)),false)))))else(none))
end
def dI.f(k:Nat)(aA:Int)(X:List (Y))(aC:List (Y))(aV:Int)(aU:List (aJ))(a1:Int)(a2:Int):Option (Int×(List (Y))×(List (Y))×Int×(List (aJ))×Bool):=(eM.f k aA X aC aV aU).bind fun OR=>(if OR=true then(dI.j0 k a1 a2 (decide (a2<1)) aA X aC aV aU)else(dI.j0 k a1 a2 true aA X aC aV aU))
theorem dI.cQ:∀k,(∀y0 y1 y2 y3 y4 y5 y6 y7,aG (dI.j0 k y0 y1 y2 y3 y4 y5 y6 y7) (dI.j0 (k+1) y0 y1 y2 y3 y4 y5 y6 y7))∧(∀y0 y1 y2 y3 y4 y5 y6,aG (dI.j1 k y0 y1 y2 y3 y4 y5 y6) (dI.j1 (k+1) y0 y1 y2 y3 y4 y5 y6))∧(∀y0 y1 y2 y3 y4 y5 y6 y7 y8 y9,aG (dI.l0 k y0 y1 y2 y3 y4 y5 y6 y7 y8 y9) (dI.l0 (k+1) y0 y1 y2 y3 y4 y5 y6 y7 y8 y9))∧(∀y0 y1 y2 y3 y4 y5 y6 y7 y8 y9,aG (dI.j3 k y0 y1 y2 y3 y4 y5 y6 y7 y8 y9) (dI.j3 (k+1) y0 y1 y2 y3 y4 y5 y6 y7 y8 y9))∧(∀y0 y1 y2 y3 y4 y5 y6 y7 y8 y9 qP qQ,aG (dI.j4 k y0 y1 y2 y3 y4 y5 y6 y7 y8 y9 qP qQ) (dI.j4 (k+1) y0 y1 y2 y3 y4 y5 y6 y7 y8 y9 qP qQ))
 |0=>⟨fun _ _ _ _ _ _ _ _ r h=>by simp[dI.j0]at h,fun _ _ _ _ _ _ _ r h=>by simp[dI.j1]at h,fun _ _ _ _ _ _ _ _ _ _ r h=>by simp[dI.l0]at h,fun _ _ _ _ _ _ _ _ _ _ r h=>by simp[dI.j3]at h,fun _ _ _ _ _ _ _ _ _ _ _ _ r h=>by simp[dI.j4]at h⟩
 |k+1=>by
  obtain⟨bS,ih1,ih2,ih3,BO⟩:=dI.cQ k
  refine⟨?_, ?_, ?_, ?_, ?_⟩<;>intros<;>first|unfold dI.j0|unfold dI.j1|unfold dI.l0|unfold dI.j3|unfold dI.j4
  all_goals repeat' first
   |(with_reducible exact bS _ _ _ _ _ _ _ _)
   |(with_reducible exact ih1 _ _ _ _ _ _ _)
   |(with_reducible exact ih2 _ _ _ _ _ _ _ _ _ _)
   |(with_reducible exact ih3 _ _ _ _ _ _ _ _ _ _)
   |(with_reducible exact BO _ _ _ _ _ _ _ _ _ _ _ _)
   |(with_reducible exact eM.mono _ _ _ _ _ _)
   |(with_reducible exact eW.mono _ _)
   |(with_reducible exact nZ.mono _ _ _ _ _ _)
   |(with_reducible exact aG.refl _)
   |(with_reducible exact aG.none _)
   |(with_reducible refine aG.ite ?_ ?_)
   |(with_reducible refine aG.bind ?_ (fun _=> ?_))
   |exact bS _ _ _ _ _ _ _ _
   |exact ih1 _ _ _ _ _ _ _
   |exact ih2 _ _ _ _ _ _ _ _ _ _
   |exact ih3 _ _ _ _ _ _ _ _ _ _
   |exact BO _ _ _ _ _ _ _ _ _ _ _ _
   |exact eM.mono _ _ _ _ _ _
   |exact eW.mono _ _
   |exact nZ.mono _ _ _ _ _ _
   |exact aG.none _
   |refine aG.ite ?_ ?_
   |refine aG.bind ?_ (fun _=> ?_)
theorem dI.mono:∀a0 a1 a2 a3 a4 a5 a6 k,aG (dI.f k a0 a1 a2 a3 a4 a5 a6) (dI.f (k+1) a0 a1 a2 a3 a4 a5 a6):=by
 intro a0 a1 a2 a3 a4 a5 a6 k;obtain⟨bS,ih1,ih2,ih3,BO⟩:=dI.cQ k;unfold dI.f
 repeat' with_reducible first|exact bS _ _ _ _ _ _ _ _|exact ih1 _ _ _ _ _ _ _|exact ih2 _ _ _ _ _ _ _ _ _ _|exact ih3 _ _ _ _ _ _ _ _ _ _|exact BO _ _ _ _ _ _ _ _ _ _ _ _|exact eM.mono _ _ _ _ _ _|exact eW.mono _ _|exact nZ.mono _ _ _ _ _ _|exact aG.refl _|exact aG.none _|refine aG.ite ?_ ?_|refine aG.bind ?_ (fun _=> ?_)
theorem dI.calls(k:Nat)(aA:Int)(af:Option Addr)(aa:Nat)(X:List (Y))(ab:Option Addr)(ac:Nat)(aC:List (Y))(aV:Int)(bG:Option Addr)(bH:Nat)(aU:List (aJ))(a1:Int)(a2:Int)(r1:Int)(r2:List (Y))(r3:List (Y))(r4:Int)(r5:List (aJ))(r6:Bool)(w:World)(dO:Kd.C aT w af X.length X)(dP:X.length≤aa)(dQ:Kd.C aT w ab aC.length aC)(dR:aC.length≤ac)(gu:Kd.C b8 w bG aU.length aU)(gy:aU.length≤bH)(h:dI.f k aA X aC aV aU a1 a2=some (r1,r2,r3,r4,r5,r6)):
 Calls Try.prog 18 #[.agg #[.int .i64 aA,.slice af X.length aa,.slice ab aC.length ac,.int .i64 aV,.slice bG aU.length bH],.int .i64 a1,.int .i64 a2] w fun e w'=>∃df da kH:Value,e= .returned (.tuple #[.agg #[.int .i64 r1,df,da,.int .i64 r4,kH],.bool r6])∧Kd.R aT 45 w' w.heap.size (fun k_=>some k_≠(da:Value).ownBlock) df r2∧Kd.R aT 45 w' w.heap.size (fun k_=>some k_≠(df:Value).ownBlock) da r3∧Kd.R b8 66 w' w.heap.size (fun _=>True) kH r5∧Below w.heap.size w w':=by
 have sn:=cp;have u7:=aay;have bo:=Ah dO;have cU:=Ah dP;clear dO dP;have cn:=Ah dQ;have co:=Ah dR;clear dQ dR;have fF:=Ah gu;have fL:=Ah gy;clear gu gy;have HB:=Ah (Ud w.heap.size w);have H:((eM.f k aA X aC aV aU).bind fun OR=>(if OR=true then(dI.j0 k a1 a2 (decide (a2<1)) aA X aC aV aU)else(dI.j0 k a1 a2 true aA X aC aV aU)))=some (r1,r2,r3,r4,r5,r6):=h;clear h;have Gb:=Ah H;clear H
 go_enter Try.func18,Try.ntmps18
 go_upto_region 1 with(first|((with_reducible refine ag (N:=3) rfl ?_);refine an 3 29 #[.int .i64 aA,.slice af X.length aa,.slice ab aC.length ac,.int .i64 aV,.slice bG aU.length bH] ?_;intro yf hg w5 cE hb;have GW243:=gw hg (bs HB);have gb:=gw hg (bs HB);replace HB:=Ah (aH (bs HB) hb);clear hb hg)|((with_reducible refine ag (N:=6) rfl ?_);refine an 6 29 #[.int .i64 0,.slice none 0 0,.slice none 0 0,.int .i64 0,.slice none 0 0] ?_;intro g6 hg w6 dW hb;have GW244:=gw hg (aM HB gb);have iD:=gw hg (aM HB gb);replace HB:=Ah (aH (aM HB gb) hb);have Gs:=nn cE hg;have vZ:=nm cE hg;replace cE:=nb cE hb;clear hb hg))
 (try simp only[aaj,Ok,bD,ck])
 go_cut [17] (fun v17 wc=>∃ (kq:Nat) (TB:Bool),v17= .bool TB∧Z (dI.j0 kq a1 a2 TB aA X aC aV aU=some (r1,r2,r3,r4,r5,r6))∧Z (kq≤k)∧Z (wc.heap[yf]?=some (.cells #[.int .i64 aA,(.slice af X.length aa),(.slice ab aC.length ac),.int .i64 aV,(.slice bG aU.length bH)] 29 (0,0)))∧Z (wc.heap[g6]?=some (.cells #[.int .i64 0,(.slice none 0 0),(.slice none 0 0),.int .i64 0,(.slice none 0 0)] 29 (0,0)))∧Z (Below w.heap.size w wc))
 case first=>
  have H:=Gb.out;clear Gb;replace H:=Gl.mp H;obtain⟨OR,kJ,H⟩:=H
  try dsimp only at H
  have A7:=Ah kJ;clear kJ
  by_cases c8:OR=true
  ·
   subst c8;rw[if_pos rfl]at H;have H':=Ah H;clear H;have a0p:=Gs.out;have a0q:=vZ.out;obtain⟨tY,tZ,ur,ES,ET⟩:=aj cE;obtain⟨ta,tb,us,EU,EV⟩:=ai cE
   go_wp2_with (first|((with_reducible refine bY (f:=35) rfl ?_);refine gL (some 12) rfl rfl aaK (by kernel_rfl) rfl #[.agg #[.int .i64 aA,.slice af X.length aa,.slice ab aC.length ac,.int .i64 aV,.slice bG aU.length bH]] rfl ?_;(with_reducible refine(eM.calls k aA _ _ X _ _ aC aV _ _ aU true _ ?aZ ?ae ?ay ?bI ?cq ?d7 A7.out).mono ?_);(case aZ=>exact cb bo HB);(case ae=>exact cU.out);(case ay=>exact cb cn HB);(case bI=>exact co.out);(case cq=>exact cb fF HB);(case d7=>exact fL.out);rintro e kF ⟨rfl,hb⟩;refine⟨_,rfl, ?_⟩;replace cE:=nb cE hb;replace dW:=nb dW hb;replace HB:=Ah (aH (am HB gb iD) hb);(try clear hb)))
   go_meet
   case rel=>exact⟨_,(decide (a2<1)),e3,H',⟨by first|omega|exact QQ _⟩,⟨bk cE⟩,⟨bk dW⟩,⟨am HB gb iD⟩⟩
  replace c8:=PT.mpr c8;subst c8;rw[if_neg dr]at H;have H':=Ah H;clear H;have Lg:=Gs.out;have Lh:=vZ.out;obtain⟨oK,oL,qz,sS,sT⟩:=aj cE;obtain⟨oM,oN,r8,sU,sV⟩:=ai cE
  go_wp2_with (first|((with_reducible refine bY (f:=35) rfl ?_);refine gL (some 12) rfl rfl aaK (by kernel_rfl) rfl #[.agg #[.int .i64 aA,.slice af X.length aa,.slice ab aC.length ac,.int .i64 aV,.slice bG aU.length bH]] rfl ?_;(with_reducible refine(eM.calls k aA _ _ X _ _ aC aV _ _ aU false _ ?aZ ?ae ?ay ?bI ?cq ?d7 A7.out).mono ?_);(case aZ=>exact cb bo HB);(case ae=>exact cU.out);(case ay=>exact cb cn HB);(case bI=>exact co.out);(case cq=>exact cb fF HB);(case d7=>exact fL.out);rintro e eL ⟨rfl,hb⟩;refine⟨_,rfl, ?_⟩;replace cE:=nb cE hb;replace dW:=nb dW hb;replace HB:=Ah (aH (am HB gb iD) hb);(try clear hb)))
  go_meet
  case rel=>exact⟨_,(true),e3,H',⟨by first|omega|exact QQ _⟩,⟨bk cE⟩,⟨bk dW⟩,⟨am HB gb iD⟩⟩
 case rest=>
  clear Gb
  try clear c1
  try clear p2
  try clear c3
  try clear c8
  try clear c9
  try clear c12
  try clear tY tZ ur ES ET
  try clear oK oL qz sS sT
  try clear ta tb us EU EV
  try clear oM oN r8 sU sV
  obtain⟨kq,TB,rfl,HA,DV,cE,dW,HB⟩:=hcut
  cases kq with
  |zero=>exact absurd HA.out (by simp[dI.j0])
  |succ UZ=>
   have H:=HA.out;clear HA;simp only[dI.j0]at H;have a0K:=Ah H;clear H
   go_upto_if 17 with(fail)
   go_cut [] (fun wc=>∃ (kq:Nat) (Uq:Int) (Ur:Int),Z (dI.j1 kq a1 a2 aA X aC aV aU=some (r1,r2,r3,r4,r5,r6))∧Z (kq≤UZ)∧Z (wc.heap[yf]?=some (.cells #[.int .i64 aA,(.slice af X.length aa),(.slice ab aC.length ac),.int .i64 aV,(.slice bG aU.length bH)] 29 (0,0)))∧Z (wc.heap[g6]?=some (.cells #[.int .i64 Uq,(.slice none 0 0),(.slice none 0 0),.int .i64 Ur,(.slice none 0 0)] 29 (0,0)))∧Z (Below w.heap.size w wc))
   case first=>
    have H:=a0K.out;clear a0K
    by_cases c16:TB=true
    rotate_left
    ·
     replace c16:=PT.mpr c16;subst c16;rw[if_neg dr]at H;have H':=Ah H;clear H
     go_wp2
     go_meet
     case rel=>exact⟨_,(0),(0),H',⟨by have:=DV.out;first|omega|exact QQ _⟩,⟨bk cE⟩,⟨bk dW⟩,⟨am HB gb iD⟩⟩
    subst c16;rw[if_pos rfl]at H;simp only[Jh,Ue]at H;obtain⟨rfl,rfl,rfl,rfl,rfl,rfl⟩:=H;have Sg:=vZ.out;have Sh:=Gs.out;obtain⟨vv,vw,zc,zd,ze⟩:=aj dW;obtain⟨vx,vy,zf,zg,zh⟩:=ai dW
    go_wp2
    refine bodyPost_ret (iU rfl _ _ g6 29 #[.int .i64 0,.slice none 0 0,.slice none 0 0,.int .i64 0,.slice none 0 0] (0,0) _ rfl (pb dW) cp rfl (by kernel_rfl)) rfl ?_;exact⟨_,_,_,er,by first|exact Kd.be _ _ _ _ _|exact Kd.ce _ _ _ _ _|exact Kd.cf _ _ _ _ _|exact Kd.cZ _ _ _ _ _|exact Kd.ca _ _ _ _ _,by first|exact Kd.be _ _ _ _ _|exact Kd.ce _ _ _ _ _|exact Kd.cf _ _ _ _ _|exact Kd.cZ _ _ _ _ _|exact Kd.ca _ _ _ _ _,by first|exact Kd.be _ _ _ _ _|exact Kd.ce _ _ _ _ _|exact Kd.cf _ _ _ _ _|exact Kd.cZ _ _ _ _ _|exact Kd.ca _ _ _ _ _,am HB gb iD⟩
   case rest=>
    clear a0K
    try clear c1
    try clear p2
    try clear c3
    try clear c8
    try clear c9
    try clear c12
    try clear c16
    try clear c17
    try clear c18
    try clear tY tZ ur ES ET
    try clear oK oL qz sS sT
    try clear vv vw zc zd ze
    try clear ta tb us EU EV
    try clear oM oN r8 sU sV
    try clear vx vy zf zg zh
    try clear p2
    obtain⟨kq,Uq,Ur,HA,U1,cE,dW,HB⟩:=hcut
    cases kq with
    |zero=>exact absurd HA.out (by simp[dI.j1])
    |succ U2=>
     have H:=HA.out;clear HA;simp only[dI.j1]at H;replace H:=Gl.mp H;obtain⟨⟨jC,g9,gA,jD,J6⟩,A190,H⟩:=H
     try dsimp only at H
     have A19:=Ah A190;clear A190;replace H:=Gl.mp H;obtain⟨d8,A200,H⟩:=H
     try dsimp only at H
     have lq:=Ah A200;clear A200;have H':=Ah H;clear H;have hnb21:=Gs.out;have hnc21:=vZ.out;obtain⟨tU,tV,ui,wA,wB⟩:=aj cE;obtain⟨tW,tX,ul,wD,wE⟩:=ai cE
     go_wp2_with (first|((with_reducible refine bY (f:=20) rfl ?_);refine gL (some 20) rfl rfl Try.func20 (by kernel_rfl) rfl #[.agg #[.int .i64 aA,.slice af X.length aa,.slice ab aC.length ac,.int .i64 aV,.slice bG aU.length bH]] rfl ?_;(with_reducible refine(nZ.calls U2 aA _ _ X _ _ aC aV _ _ aU jC g9 gA jD J6 _ ?aZ ?ae ?ay ?bI ?cq ?d7 A19.out).mono ?_);(case aZ=>exact cb bo HB);(case ae=>exact cU.out);(case ay=>exact cb cn HB);(case bI=>exact co.out);(case cq=>exact cb fF HB);(case d7=>exact fL.out);rintro e kG ⟨v248,v251,v255,rfl,ho0,ho1,ho2,hb⟩;refine⟨_,rfl, ?_⟩;have TC:=Ah (Kd.bR ho0 (bE (am HB gb iD)));have TD:=Ah (Kd.bR ho1 (bE (am HB gb iD)));have Eu:=Ah (Kd.bR ho2 (bE (am HB gb iD)));replace cE:=nb cE hb;replace dW:=nb dW hb;replace HB:=Ah (aH (am HB gb iD) hb);(try clear hb ho0 ho1 ho2);obtain⟨zt,zu,Ht,L3,L4⟩:=aj cE;obtain⟨zv,zw,Hu,L5,L6⟩:=ai cE;obtain⟨hG,ge,An⟩:=Kd.az TC.out;subst An;obtain⟨fw,fx,vM⟩:=Kd.az TD.out;subst vM;obtain⟨pa,pc,Ao⟩:=Kd.az Eu.out;subst Ao)|((with_reducible refine bY (f:=36) rfl ?_);refine gL (some 23) rfl rfl Try.func36 (by kernel_rfl) rfl #[.slice pa J6.length pc] rfl ?_;(with_reducible refine(eW.calls U2 _ _ J6 d8 _ ?aZ ?ae lq.out).mono ?_);(case aZ=>exact rc Eu cE);(case ae=>exact(Kd.aY Eu.out).2.1);rintro e Ga ⟨v258,rfl,ho0,hb⟩;refine⟨_,rfl, ?_⟩;replace TC:=nf TC cE hb;replace TD:=nf TD cE hb;have HO259:=Ah (Kd.bR (Kd.k9 ho0 (Kd.i4 (rf Eu cE))) (bE (am HB gb iD)));replace Eu:=Ah (Kd.zN (rf Eu cE) (Kd.jK ho0) hb);replace cE:=Ah (bT (g:=yf) (o:= .cells #[.int .i64 jC,.slice hG g9.length ge,.slice fw gA.length fx,.int .i64 jD,.slice pa J6.length pc] 29 (0,0)) (pb cE) hb);replace dW:=Ah (bT (bf dW vZ) hb);replace HB:=Ah (aH (am HB gb iD) hb);(try clear hb ho0);obtain⟨OS,OT,a0L⟩:=Kd.az HO259.out;subst a0L))
     go_loopg [25] U2 (fun kq v25 w'=>∃ (dL:Int) (qU:List (aJ)) (Jv:Int) (Jw:Int) (sW:Value),v25= .int .i64 dL∧Z (dI.l0 kq a1 a2 d8 (d8.length:Int) dL jC g9 gA jD qU=some (r1,r2,r3,r4,r5,r6))∧Z (kq≤U2)∧Z (Kd.R b8 66 w' w.heap.size (fun k_=>some k_≠(sW:Value).ownBlock) (.slice OS d8.length OT) d8)∧Z (Kd.R aT 45 w' w.heap.size (fun k_=>some k_≠((.slice fw gA.length fx):Value).ownBlock) (.slice hG g9.length ge) g9)∧Z (Kd.R aT 45 w' w.heap.size (fun k_=>some k_≠((.slice hG g9.length ge):Value).ownBlock) (.slice fw gA.length fx) gA)∧Z (Kd.R b8 66 w' w.heap.size (fun k_=>some k_≠((.slice OS d8.length OT):Value).ownBlock) sW qU)∧Z (w'.heap[yf]?=some (.cells #[.int .i64 jC,(.slice hG g9.length ge),(.slice fw gA.length fx),.int .i64 jD,sW] 29 (0,0)))∧Z (w'.heap[g6]?=some (.cells #[.int .i64 Jv,(.slice none 0 0),(.slice none 0 0),.int .i64 Jw,(.slice none 0 0)] 29 (0,0)))∧Z (Below w.heap.size w w'))
     case atStart=>exact⟨(0),(J6),(Uq),(Ur),(.slice pa J6.length pc),e3,H',⟨QQ _⟩,rm HO259 (fun _ hk=>hk.2),⟨rr TC.out⟩,⟨rr TD.out⟩,rm Eu (fun _ hk=>hk.2),⟨bk cE⟩,⟨bk dW⟩,⟨am HB gb iD⟩⟩
     case round=>
      clear H'
      try clear c1
      try clear c2
      try clear p2
      try clear c3
      try clear c8
      try clear c9
      try clear c12
      try clear c16
      try clear c17
      try clear c18
      try clear c20
      try clear c21
      try clear tY tZ ur ES ET
      try clear oK oL qz sS sT
      try clear vv vw zc zd ze
      try clear tU tV ui wA wB
      try clear zt zu Ht L3 L4
      try clear ta tb us EU EV
      try clear oM oN r8 sU sV
      try clear vx vy zf zg zh
      try clear tW tX ul wD wE
      try clear zv zw Hu L5 L6
      try clear p2
      obtain⟨dL,qU,Jv,Jw,sW,rfl,HA,uR,If,im,io,iL,cE,dW,HB⟩:=hrel
      cases gk with
      |zero=>exact absurd HA.out (by simp[dI.l0])
      |succ k3=>
       have H:=HA.out;clear HA;simp only[dI.l0]at H;have a0M:=Ah H;clear H
       go_upto_if 26 with(fail)
       go_cut [] (fun wc=>∃ (kq:Nat),Z (dI.j3 kq a1 a2 d8 (d8.length:Int) dL jC g9 gA jD qU=some (r1,r2,r3,r4,r5,r6))∧Z (kq≤k3)∧Z (Kd.R b8 66 wc w.heap.size (fun k_=>some k_≠(sW:Value).ownBlock) (.slice OS d8.length OT) d8)∧Z (Kd.R aT 45 wc w.heap.size (fun k_=>some k_≠((.slice fw gA.length fx):Value).ownBlock) (.slice hG g9.length ge) g9)∧Z (Kd.R aT 45 wc w.heap.size (fun k_=>some k_≠((.slice hG g9.length ge):Value).ownBlock) (.slice fw gA.length fx) gA)∧Z (Kd.R b8 66 wc w.heap.size (fun k_=>some k_≠((.slice OS d8.length OT):Value).ownBlock) sW qU)∧Z (wc.heap[yf]?=some (.cells #[.int .i64 jC,(.slice hG g9.length ge),(.slice fw gA.length fx),.int .i64 jD,sW] 29 (0,0)))∧Z (wc.heap[g6]?=some (.cells #[.int .i64 Jv,(.slice none 0 0),(.slice none 0 0),.int .i64 Jw,(.slice none 0 0)] 29 (0,0)))∧Z (Below w.heap.size w wc))
       case first=>
        have H:=a0M.out;clear a0M
        by_cases c31:dL<(d8.length:Int)
        ·
         rw[if_pos c31]at H;have wT:=bJ c31;clear c31;(first|rw[wT]|(simp only[kP,nE];rw[wT])|(simp only[c31b2,abo,abi])|skip);have H':=Ah H;clear H
         go_wp2
         go_meet
         case rel=>exact⟨_,H',⟨by have:=DV.out;have:=U1.out;have:=uR.out;first|omega|exact QQ _⟩,⟨rr If.out⟩,⟨rr im.out⟩,⟨rr io.out⟩,⟨rr iL.out⟩,⟨bk cE⟩,⟨bk dW⟩,⟨am HB gb iD⟩⟩
        rw[if_neg c31]at H;have wT:=dn c31;clear c31;(first|rw[wT]|(simp only[kP,nE];rw[wT])|(simp only[c31b2,abo,abi])|skip);simp only[Jh,Ue]at H;obtain⟨rfl,rfl,rfl,rfl,rfl,rfl⟩:=H;have MO:=vZ.out;have MP:=Gs.out;obtain⟨EO,EP,Hh,Hi,Hj⟩:=aj dW;obtain⟨EQ,ER,Hk,Hl,Hm⟩:=ai dW
        go_wp2
        refine bodyPost_ret (iU rfl _ _ g6 29 #[.int .i64 0,.slice none 0 0,.slice none 0 0,.int .i64 0,.slice none 0 0] (0,0) _ rfl (pb dW) cp rfl (by kernel_rfl)) rfl ?_;exact⟨_,_,_,er,by first|exact Kd.be _ _ _ _ _|exact Kd.ce _ _ _ _ _|exact Kd.cf _ _ _ _ _|exact Kd.cZ _ _ _ _ _|exact Kd.ca _ _ _ _ _,by first|exact Kd.be _ _ _ _ _|exact Kd.ce _ _ _ _ _|exact Kd.cf _ _ _ _ _|exact Kd.cZ _ _ _ _ _|exact Kd.ca _ _ _ _ _,by first|exact Kd.be _ _ _ _ _|exact Kd.ce _ _ _ _ _|exact Kd.cf _ _ _ _ _|exact Kd.cZ _ _ _ _ _|exact Kd.ca _ _ _ _ _,am HB gb iD⟩
       case rest=>
        clear a0M
        try clear c1
        try clear c2
        try clear p2
        try clear c3
        try clear c8
        try clear c9
        try clear c12
        try clear c16
        try clear c17
        try clear c18
        try clear c20
        try clear c21
        try clear c31
        try clear wT
        try clear c32
        try clear tY tZ ur ES ET
        try clear oK oL qz sS sT
        try clear vv vw zc zd ze
        try clear tU tV ui wA wB
        try clear zt zu Ht L3 L4
        try clear EO EP Hh Hi Hj
        try clear ta tb us EU EV
        try clear oM oN r8 sU sV
        try clear vx vy zf zg zh
        try clear tW tX ul wD wE
        try clear zv zw Hu L5 L6
        try clear EQ ER Hk Hl Hm
        try clear p2
        obtain⟨kq,HA,a0N,If,im,io,iL,cE,dW,HB⟩:=hcut
        cases kq with
        |zero=>exact absurd HA.out (by simp[dI.j3])
        |succ kj29=>
         have H:=HA.out;clear HA;simp only[dI.j3]at H
         by_cases c34:0≤dL
         rotate_left
         ·
          rw[if_neg c34]at H;exact absurd H (by simp)
         rw[if_pos c34]at H;have c34b0:=bJ c34;clear c34
         by_cases DM:dL<(d8.length:Int)
         rotate_left
         ·
          rw[if_neg DM]at H;exact absurd H (by simp)
         rw[if_pos DM]at H;have c35b0:=bJ DM;clear DM;have a0O:=Ah H;clear H;have U3:0≤(dL:Int):=od;have U4:dL<(d8.length:Int):=od;obtain⟨ad260,e260,hx260_0,hx260_1,hx260_2,hx260_3,hx260_4⟩:=eC (Kd.aY If.out).2.2 dL U3 U4
         cases e260
         replace U3:=eq_true U3;replace U4:=eq_true U4
         go_upto_if 32 with(first|((with_reducible refine ag (N:=9) rfl ?_);refine an 9 66 #[.int .i64 0,.int .i64 0,.int .i64 0,.int .i64 0,.int .i64 0] ?_;intro fH hg mc jp hb;replace If:=Ah (Kd.b9 (Kd.kN (rr If.out) fH (aaf hg.symm)) hb);replace im:=nr im hb;replace io:=nr io hb;replace iL:=Ah (Kd.b9 (Kd.kN (rr iL.out) fH (aaf hg.symm)) hb);have GW261:=gw hg (am HB gb iD);have pS:=gw hg (am HB gb iD);replace HB:=Ah (aH (am HB gb iD) hb);have Qa:=nn cE hg;have Gt:=nm cE hg;replace cE:=nb cE hb;have Qb:=nn dW hg;have NB261_244:=nm dW hg;replace dW:=nb dW hb;clear hb hg;have hnb38:=Gt.out;have hnc38:=Qa.out;have Mc:=NB261_244.out;have Md:=Qb.out;obtain⟨hcz40_0,hcz40_1,hcz40_2,hcz40_3,hcz40_4⟩:=aj jp;obtain⟨hfz40_0,hfz40_1,hfz40_2,hfz40_3,hfz40_4⟩:=ai jp))
         (try simp only[aaj,Ok,bD,ck])
         go_cut [] (fun wc=>∃ (kq:Nat),Z (dI.j4 kq a1 a2 jC g9 gA jD qU ((U d8 dL).f0) ((U d8 dL).f1) ((U d8 dL).f2.f0) ((U d8 dL).f2.f1) ((U d8 dL).f3)=some (r1,r2,r3,r4,r5,r6))∧Z (kq≤kj29)∧Z (Kd.R aT 45 wc w.heap.size (fun k_=>some k_≠((.slice fw gA.length fx):Value).ownBlock) (.slice hG g9.length ge) g9)∧Z (Kd.R aT 45 wc w.heap.size (fun k_=>some k_≠((.slice hG g9.length ge):Value).ownBlock) (.slice fw gA.length fx) gA)∧Z (Kd.R b8 66 wc w.heap.size (fun k_=>k_≠fH) sW qU)∧Z (wc.heap[yf]?=some (.cells #[.int .i64 jC,(.slice hG g9.length ge),(.slice fw gA.length fx),.int .i64 jD,sW] 29 (0,0)))∧Z (wc.heap[g6]?=some (.cells #[.int .i64 Jv,(.slice none 0 0),(.slice none 0 0),.int .i64 Jw,(.slice none 0 0)] 29 (0,0)))∧Z (wc.heap[fH]?=some (.cells #[.int .i64 ((U d8 dL).f0),.int .i64 ((U d8 dL).f1),.int .i64 ((U d8 dL).f2.f0),.int .i64 ((U d8 dL).f2.f1),.int .i64 ((U d8 dL).f3)] 66 (0,0)))∧Z (Below w.heap.size w wc))
         case first=>
          have H:=a0O.out;clear a0O
          by_cases yt:((U d8 dL).f1)=a1
          rotate_left
          ·
           rw[if_neg yt]at H;have Ig:=fS yt;have c41b1:=fT yt;(first|rw[Ig]|(simp only[kP,nE];rw[Ig])|(simp only[c41b2,abo,abi])|skip);have H':=Ah H;clear H
           go_wp2
           go_roundg kj29
           case measure=>have:=DV.out;have:=U1.out;have:=uR.out;have:=a0N.out;omega
           case rel=>exact⟨(Gj (dL+1)),(qU),(Jv),(Jw),(sW),e3,H',⟨by have:=DV.out;have:=U1.out;have:=uR.out;have:=a0N.out;omega⟩,⟨by(with_reducible repeat(first|apply Kd.bd|apply Kd.bZ|apply Kd.bQ));exact Kd.ax (Kd.aK (p:=⟨fH,4,none⟩) (Kd.aK (p:=⟨fH,3,none⟩) (Kd.aK (p:=⟨fH,2,none⟩) (Kd.aK (p:=⟨fH,1,none⟩) (Kd.aK (p:=⟨fH,0,none⟩) (Kd.ax If.out (fun k_ hk=>(⟨hk,hk.2⟩:_∧k_≠fH))) (fun _ hk=>hk.2) (.int .i64 ((U d8 dL).f0))) (fun _ hk=>hk.2) (.int .i64 ((U d8 dL).f1))) (fun _ hk=>hk.2) (.int .i64 ((U d8 dL).f2.f0))) (fun _ hk=>hk.2) (.int .i64 ((U d8 dL).f2.f1))) (fun _ hk=>hk.2) (.int .i64 ((U d8 dL).f3))) (fun _ hk=>hk.1.1)⟩,⟨by(with_reducible repeat(first|apply Kd.bd|apply Kd.bZ|apply Kd.bQ));exact Kd.ax (Kd.aK (p:=⟨fH,4,none⟩) (Kd.aK (p:=⟨fH,3,none⟩) (Kd.aK (p:=⟨fH,2,none⟩) (Kd.aK (p:=⟨fH,1,none⟩) (Kd.aK (p:=⟨fH,0,none⟩) (Kd.dU im.out jp.out (by decide)) (fun _ hk=>hk.2) (.int .i64 ((U d8 dL).f0))) (fun _ hk=>hk.2) (.int .i64 ((U d8 dL).f1))) (fun _ hk=>hk.2) (.int .i64 ((U d8 dL).f2.f0))) (fun _ hk=>hk.2) (.int .i64 ((U d8 dL).f2.f1))) (fun _ hk=>hk.2) (.int .i64 ((U d8 dL).f3))) (fun _ hk=>hk.1)⟩,⟨by(with_reducible repeat(first|apply Kd.bd|apply Kd.bZ|apply Kd.bQ));exact Kd.ax (Kd.aK (p:=⟨fH,4,none⟩) (Kd.aK (p:=⟨fH,3,none⟩) (Kd.aK (p:=⟨fH,2,none⟩) (Kd.aK (p:=⟨fH,1,none⟩) (Kd.aK (p:=⟨fH,0,none⟩) (Kd.dU io.out jp.out (by decide)) (fun _ hk=>hk.2) (.int .i64 ((U d8 dL).f0))) (fun _ hk=>hk.2) (.int .i64 ((U d8 dL).f1))) (fun _ hk=>hk.2) (.int .i64 ((U d8 dL).f2.f0))) (fun _ hk=>hk.2) (.int .i64 ((U d8 dL).f2.f1))) (fun _ hk=>hk.2) (.int .i64 ((U d8 dL).f3))) (fun _ hk=>hk.1)⟩,⟨by(with_reducible repeat(first|apply Kd.bd|apply Kd.bZ|apply Kd.bQ));exact Kd.ax (Kd.aK (p:=⟨fH,4,none⟩) (Kd.aK (p:=⟨fH,3,none⟩) (Kd.aK (p:=⟨fH,2,none⟩) (Kd.aK (p:=⟨fH,1,none⟩) (Kd.aK (p:=⟨fH,0,none⟩) (Kd.ax iL.out (fun k_ hk=>(⟨hk,hk.2⟩:_∧k_≠fH))) (fun _ hk=>hk.2) (.int .i64 ((U d8 dL).f0))) (fun _ hk=>hk.2) (.int .i64 ((U d8 dL).f1))) (fun _ hk=>hk.2) (.int .i64 ((U d8 dL).f2.f0))) (fun _ hk=>hk.2) (.int .i64 ((U d8 dL).f2.f1))) (fun _ hk=>hk.2) (.int .i64 ((U d8 dL).f3))) (fun _ hk=>hk.1.1)⟩,⟨bf cE Qa⟩,⟨bf dW Qb⟩,⟨aw HB gb iD pS⟩⟩
          rw[if_pos yt]at H;have Ig:=fU yt;have c41b1:=fV yt;clear yt;(first|rw[Ig]|(simp only[kP,nE];rw[Ig])|(simp only[c41b2,abo,abi])|skip);have H':=Ah H;clear H
          go_wp2
          go_meet
          case rel=>exact⟨_,H',⟨by have:=DV.out;have:=U1.out;have:=uR.out;have:=a0N.out;first|omega|exact QQ _⟩,⟨by(with_reducible repeat(first|apply Kd.bd|apply Kd.bZ|apply Kd.bQ));exact Kd.ax (Kd.aK (p:=⟨fH,4,none⟩) (Kd.aK (p:=⟨fH,3,none⟩) (Kd.aK (p:=⟨fH,2,none⟩) (Kd.aK (p:=⟨fH,1,none⟩) (Kd.aK (p:=⟨fH,0,none⟩) (Kd.dU im.out jp.out (by decide)) (fun _ hk=>hk.2) (.int .i64 ((U d8 dL).f0))) (fun _ hk=>hk.2) (.int .i64 ((U d8 dL).f1))) (fun _ hk=>hk.2) (.int .i64 ((U d8 dL).f2.f0))) (fun _ hk=>hk.2) (.int .i64 ((U d8 dL).f2.f1))) (fun _ hk=>hk.2) (.int .i64 ((U d8 dL).f3))) (fun _ hk=>hk.1)⟩,⟨by(with_reducible repeat(first|apply Kd.bd|apply Kd.bZ|apply Kd.bQ));exact Kd.ax (Kd.aK (p:=⟨fH,4,none⟩) (Kd.aK (p:=⟨fH,3,none⟩) (Kd.aK (p:=⟨fH,2,none⟩) (Kd.aK (p:=⟨fH,1,none⟩) (Kd.aK (p:=⟨fH,0,none⟩) (Kd.dU io.out jp.out (by decide)) (fun _ hk=>hk.2) (.int .i64 ((U d8 dL).f0))) (fun _ hk=>hk.2) (.int .i64 ((U d8 dL).f1))) (fun _ hk=>hk.2) (.int .i64 ((U d8 dL).f2.f0))) (fun _ hk=>hk.2) (.int .i64 ((U d8 dL).f2.f1))) (fun _ hk=>hk.2) (.int .i64 ((U d8 dL).f3))) (fun _ hk=>hk.1)⟩,⟨by(with_reducible repeat(first|apply Kd.bd|apply Kd.bZ|apply Kd.bQ));exact Kd.ax (Kd.aK (p:=⟨fH,4,none⟩) (Kd.aK (p:=⟨fH,3,none⟩) (Kd.aK (p:=⟨fH,2,none⟩) (Kd.aK (p:=⟨fH,1,none⟩) (Kd.aK (p:=⟨fH,0,none⟩) (Kd.ax iL.out (fun k_ hk=>(⟨hk,hk.2⟩:_∧k_≠fH))) (fun _ hk=>hk.2) (.int .i64 ((U d8 dL).f0))) (fun _ hk=>hk.2) (.int .i64 ((U d8 dL).f1))) (fun _ hk=>hk.2) (.int .i64 ((U d8 dL).f2.f0))) (fun _ hk=>hk.2) (.int .i64 ((U d8 dL).f2.f1))) (fun _ hk=>hk.2) (.int .i64 ((U d8 dL).f3))) (fun _ hk=>hk.1.2)⟩,⟨bf cE Qa⟩,⟨bf dW Qb⟩,⟨by exact pb jp⟩,⟨aw HB gb iD pS⟩⟩
         case rest=>
          clear a0O
          try clear c1
          try clear c2
          try clear p2
          try clear q2
          try clear hx2
          try clear c3
          try clear c4
          try clear p6
          try clear c8
          try clear c9
          try clear c12
          try clear c16
          try clear c17
          try clear c18
          try clear c20
          try clear c21
          try clear p26
          try clear yq
          try clear hx26
          try clear c31
          try clear wT
          try clear c32
          try clear c34
          try clear c34b0
          try clear DM
          try clear c35b0
          try clear JM
          try clear c38
          try clear c39
          try clear yt
          try clear Ig
          try clear c41b1
          try clear tY tZ ur ES ET
          try clear oK oL qz sS sT
          try clear vv vw zc zd ze
          try clear tU tV ui wA wB
          try clear zt zu Ht L3 L4
          try clear EO EP Hh Hi Hj
          try clear hcz40_0 hcz40_1 hcz40_2 hcz40_3 hcz40_4
          try clear ta tb us EU EV
          try clear oM oN r8 sU sV
          try clear vx vy zf zg zh
          try clear tW tX ul wD wE
          try clear zv zw Hu L5 L6
          try clear EQ ER Hk Hl Hm
          try clear hfz40_0 hfz40_1 hfz40_2 hfz40_3 hfz40_4
          try clear hx260_0
          try clear hx260_1
          try clear hx260_2
          try clear hx260_3
          try clear hx260_4
          try clear p2
          try clear U3
          try clear U4
          obtain⟨kq,HA,HJ35,im,io,iL,cE,dW,jp,HB⟩:=hcut
          cases kq with
          |zero=>exact absurd HA.out (by simp[dI.j4])
          |succ J7=>
           have H:=HA.out;clear HA;simp only[dI.j4]at H;have H_:=Ah H;clear H;have hnb46:=Gt.out;have hnc46:=Qa.out;have hnb47:=NB261_244.out;have hnc47:=Qb.out;obtain⟨hcz48_0,hcz48_1,hcz48_2,hcz48_3,hcz48_4⟩:=aj jp;obtain⟨hfz48_0,hfz48_1,hfz48_2,hfz48_3,hfz48_4⟩:=ai jp;have Su:=Gs.out;have Sv:=vZ.out;obtain⟨HW,HX,R9,RA,RB⟩:=aj cE;obtain⟨Hd,He,RH,RI,RJ⟩:=ai cE;have H:=H_.out;clear H_
           by_cases DN:a2<(Gj (((U d8 dL).f2.f1)-((U d8 dL).f3)))
           rotate_left
           ·
            rw[if_neg DN]at H;have c42b0:=dn DN;clear DN
            by_cases Pp:qU.length<3518437208883
            rotate_left
            ·
             rw[if_neg Pp]at H;exact absurd H (by simp)
            rw[if_pos Pp]at H;have LMc67:=Ah Pp;clear Pp;obtain⟨ra,Ml⟩:∃y_:List (aJ),y_=(qU++[(⟨2,a1,(⟨0,0⟩:Y),((U d8 dL).f2.f1)⟩:aJ)]):=⟨_,rfl⟩
            replace H:((eM.f J7 jC g9 gA jD ra).bind fun OQ=>(if OQ=true then(some (jC,g9,gA,jD,ra,true))else(some (0,([]:List (Y)),([]:List (Y)),0,([]:List (aJ)),false))))=some (r1,r2,r3,r4,r5,r6):=by first|(rw[Ml];with_reducible exact H)|(have aq:=(Gm _ _).symm.trans H;rw[Ml];with_reducible exact aq)|(have aq:=(Gm _ _).symm.trans H;with_reducible exact aq)|with_reducible exact H|(rw[Ml];exact H)|exact H
            have Ny266:=Ah Ml;clear Ml;replace H:=Gl.mp H;obtain⟨OQ,OU,H⟩:=H
            try dsimp only at H
            have Py:=Ah OU;clear OU
            by_cases yu:OQ=true
            rotate_left
            ·
             replace yu:=PT.mpr yu;subst yu;rw[if_neg dr]at H;simp only[Jh,Ue]at H;obtain⟨rfl,rfl,rfl,rfl,rfl,rfl⟩:=H
             go_wp2_with (first|((with_reducible refine ik (b:= .append) (xs:= #[.tmp 49,.tmp 53]) rfl ?_);at_builtin;refine Kd.lM b8 (w0:=w) w.heap.size rfl (.tmp 49) (.tmp 53) 27 66 (.agg #[(.int .i64 0),(.int .i64 0),(.int .i64 0),(.int .i64 0),(.int .i64 0)]) 40 rfl aax sY rfl (by decide) (by omega) sW qU (⟨2,a1,(⟨0,0⟩:Y),((U d8 dL).f2.f1)⟩:aJ) [.int .i64 2,.int .i64 a1,.int .i64 0,.int .i64 0,.int .i64 ((U d8 dL).f2.f1)] (fun k_=>k_≠fH) (fun _=>False) rfl rfl ?aP (fun _ hk=>hk.elim) ?aF ?aO ?aB ?aS ?aL ?_;(case aP=>exact nB _ _ _ (⟨2,a1,(⟨0,0⟩:Y),((U d8 dL).f2.f1)⟩:aJ));(case aB=>exact(aw HB gb iD pS));(case aF=>exact(fun k_ hk=>Kd.jm (bk jp) k_ hk));(case aO=>exact(rr iL.out));(case aS=>exact(bE (aw HB gb iD pS)));(case aL=>have:=LMc67.out;omega);intro v267 w86 ho hb hg hat;rw[←Ny266.out]at ho;replace im:=Ah (Kd.pK (rr im.out) (Kd.lN (rr iL.out)) (by decide) hg);replace io:=Ah (Kd.pK (rr io.out) (Kd.lN (rr iL.out)) (by decide) hg);replace cE:=Ah (dJ (bk cE) hg (Kd.dX iL.out cE.out (by decide)));replace dW:=Ah (dJ (bk dW) hg (Kd.dX iL.out dW.out (by decide)));replace jp:=Ah (dJ (bk jp) hg (Kd.jL iL.out (fun _ hk=>hk)));replace HB:=Ah (hb);have vA:=Ah (ho);clear iL;clear ho hb hg hat;obtain⟨Ao87,co87,eo87⟩:=Kd.az vA.out;subst eo87;obtain⟨hcz88_0,hcz88_1,hcz88_2,hcz88_3,hcz88_4⟩:=aj cE;obtain⟨hfz88_0,hfz88_1,hfz88_2,hfz88_3,hfz88_4⟩:=ai cE)|((with_reducible refine bY (f:=35) rfl ?_);refine gL (some 57) rfl rfl aaK (by kernel_rfl) rfl #[.agg #[.int .i64 jC,.slice hG g9.length ge,.slice fw gA.length fx,.int .i64 jD,.slice Ao87 ra.length co87]] rfl ?_;(with_reducible refine(eM.calls J7 jC _ _ g9 _ _ gA jD _ _ ra false _ ?aZ ?ae ?ay ?bI ?cq ?d7 Py.out).mono ?_);(case aZ=>exact rc im cE);(case ae=>exact(Kd.aY im.out).2.1);(case ay=>exact rc io cE);(case bI=>exact(Kd.aY io.out).2.1);(case cq=>exact rc vA cE);(case d7=>exact(Kd.aY vA.out).2.1);rintro e w89 ⟨rfl,hb⟩;refine⟨_,rfl, ?_⟩;replace im:=nf im cE hb;replace io:=nf io cE hb;replace vA:=nf vA cE hb;replace cE:=Ah (bT (g:=yf) (o:= .cells #[.int .i64 jC,.slice hG g9.length ge,.slice fw gA.length fx,.int .i64 jD,.slice Ao87 ra.length co87] 29 (0,0)) (pb cE) hb);replace dW:=Ah (bT (bf dW vZ) hb);replace jp:=Ah (bT (bf jp Gt) hb);replace HB:=Ah (aH (aw HB gb iD pS) hb);(try clear hb);obtain⟨Wg,Wh,hcz90_2,hcz90_3,hcz90_4⟩:=aj dW;obtain⟨Wi,Wj,hfz90_2,hfz90_3,hfz90_4⟩:=ai dW))
             refine bodyPost_ret (iU rfl _ _ g6 29 #[.int .i64 0,.slice none 0 0,.slice none 0 0,.int .i64 0,.slice none 0 0] (0,0) _ rfl (pb dW) cp rfl (by kernel_rfl)) rfl ?_;exact⟨_,_,_,er,by first|exact Kd.be _ _ _ _ _|exact Kd.ce _ _ _ _ _|exact Kd.cf _ _ _ _ _|exact Kd.cZ _ _ _ _ _|exact Kd.ca _ _ _ _ _,by first|exact Kd.be _ _ _ _ _|exact Kd.ce _ _ _ _ _|exact Kd.cf _ _ _ _ _|exact Kd.cZ _ _ _ _ _|exact Kd.ca _ _ _ _ _,by first|exact Kd.be _ _ _ _ _|exact Kd.ce _ _ _ _ _|exact Kd.cf _ _ _ _ _|exact Kd.cZ _ _ _ _ _|exact Kd.ca _ _ _ _ _,aw HB gb iD pS⟩
            subst yu;rw[if_pos rfl]at H;simp only[Jh,Ue]at H;obtain⟨rfl,rfl,rfl,rfl,rfl,rfl⟩:=H
            go_wp2_with (first|((with_reducible refine ik (b:= .append) (xs:= #[.tmp 49,.tmp 53]) rfl ?_);at_builtin;refine Kd.lM b8 (w0:=w) w.heap.size rfl (.tmp 49) (.tmp 53) 27 66 (.agg #[(.int .i64 0),(.int .i64 0),(.int .i64 0),(.int .i64 0),(.int .i64 0)]) 40 rfl aax sY rfl (by decide) (by omega) sW qU (⟨2,a1,(⟨0,0⟩:Y),((U d8 dL).f2.f1)⟩:aJ) [.int .i64 2,.int .i64 a1,.int .i64 0,.int .i64 0,.int .i64 ((U d8 dL).f2.f1)] (fun k_=>k_≠fH) (fun _=>False) rfl rfl ?aP (fun _ hk=>hk.elim) ?aF ?aO ?aB ?aS ?aL ?_;(case aP=>exact nB _ _ _ (⟨2,a1,(⟨0,0⟩:Y),((U d8 dL).f2.f1)⟩:aJ));(case aB=>exact(aw HB gb iD pS));(case aF=>exact(fun k_ hk=>Kd.jm (bk jp) k_ hk));(case aO=>exact(rr iL.out));(case aS=>exact(bE (aw HB gb iD pS)));(case aL=>have:=LMc67.out;omega);intro v267 w75 ho hb hg hat;rw[←Ny266.out]at ho;replace im:=Ah (Kd.pK (rr im.out) (Kd.lN (rr iL.out)) (by decide) hg);replace io:=Ah (Kd.pK (rr io.out) (Kd.lN (rr iL.out)) (by decide) hg);replace cE:=Ah (dJ (bk cE) hg (Kd.dX iL.out cE.out (by decide)));replace dW:=Ah (dJ (bk dW) hg (Kd.dX iL.out dW.out (by decide)));replace jp:=Ah (dJ (bk jp) hg (Kd.jL iL.out (fun _ hk=>hk)));replace HB:=Ah (hb);have vA:=Ah (ho);clear iL;clear ho hb hg hat;obtain⟨J8,J9,eo76⟩:=Kd.az vA.out;subst eo76;obtain⟨hcz77_0,hcz77_1,hcz77_2,hcz77_3,hcz77_4⟩:=aj cE;obtain⟨hfz77_0,hfz77_1,hfz77_2,hfz77_3,hfz77_4⟩:=ai cE)|((with_reducible refine bY (f:=35) rfl ?_);refine gL (some 57) rfl rfl aaK (by kernel_rfl) rfl #[.agg #[.int .i64 jC,.slice hG g9.length ge,.slice fw gA.length fx,.int .i64 jD,.slice J8 ra.length J9]] rfl ?_;(with_reducible refine(eM.calls J7 jC _ _ g9 _ _ gA jD _ _ ra true _ ?aZ ?ae ?ay ?bI ?cq ?d7 Py.out).mono ?_);(case aZ=>exact rc im cE);(case ae=>exact(Kd.aY im.out).2.1);(case ay=>exact rc io cE);(case bI=>exact(Kd.aY io.out).2.1);(case cq=>exact rc vA cE);(case d7=>exact(Kd.aY vA.out).2.1);rintro e w78 ⟨rfl,hb⟩;refine⟨_,rfl, ?_⟩;replace im:=nf im cE hb;replace io:=nf io cE hb;replace vA:=nf vA cE hb;replace cE:=Ah (bT (g:=yf) (o:= .cells #[.int .i64 jC,.slice hG g9.length ge,.slice fw gA.length fx,.int .i64 jD,.slice J8 ra.length J9] 29 (0,0)) (pb cE) hb);replace dW:=Ah (bT (bf dW vZ) hb);replace jp:=Ah (bT (bf jp Gt) hb);replace HB:=Ah (aH (aw HB gb iD pS) hb);(try clear hb);obtain⟨hcz79_0,hcz79_1,hcz79_2,hcz79_3,hcz79_4⟩:=aj cE;obtain⟨hfz79_0,hfz79_1,hfz79_2,hfz79_3,hfz79_4⟩:=ai cE;obtain⟨hcz80_0,hcz80_1,hcz80_2,hcz80_3,hcz80_4⟩:=aj dW;obtain⟨hfz80_0,hfz80_1,hfz80_2,hfz80_3,hfz80_4⟩:=ai dW))
            refine bodyPost_ret (iU rfl _ _ g6 29 #[.int .i64 jC,.slice hG g9.length ge,.slice fw gA.length fx,.int .i64 jD,.slice J8 ra.length J9] (0,0) _ rfl (pb dW) cp rfl (by kernel_rfl)) rfl ?_;exact⟨_,_,_,er,by(with_reducible repeat(first|apply Kd.bd|apply Kd.bZ|apply Kd.bQ));exact Kd.ax (Kd.aK (p:=⟨g6,4,none⟩) (Kd.aK (p:=⟨g6,3,none⟩) (Kd.aK (p:=⟨g6,2,none⟩) (Kd.aK (p:=⟨g6,1,none⟩) (Kd.aK (p:=⟨g6,0,none⟩) (Kd.dU im.out dW.out (by decide)) (fun _ hk=>hk.2) (.int .i64 jC)) (fun _ hk=>hk.2) (.slice hG g9.length ge)) (fun _ hk=>hk.2) (.slice fw gA.length fx)) (fun _ hk=>hk.2) (.int .i64 jD)) (fun _ hk=>hk.2) (.slice J8 ra.length J9)) (fun _ hk=>hk.1),by(with_reducible repeat(first|apply Kd.bd|apply Kd.bZ|apply Kd.bQ));exact Kd.ax (Kd.aK (p:=⟨g6,4,none⟩) (Kd.aK (p:=⟨g6,3,none⟩) (Kd.aK (p:=⟨g6,2,none⟩) (Kd.aK (p:=⟨g6,1,none⟩) (Kd.aK (p:=⟨g6,0,none⟩) (Kd.dU io.out dW.out (by decide)) (fun _ hk=>hk.2) (.int .i64 jC)) (fun _ hk=>hk.2) (.slice hG g9.length ge)) (fun _ hk=>hk.2) (.slice fw gA.length fx)) (fun _ hk=>hk.2) (.int .i64 jD)) (fun _ hk=>hk.2) (.slice J8 ra.length J9)) (fun _ hk=>hk.1),by(with_reducible repeat(first|apply Kd.bd|apply Kd.bZ|apply Kd.bQ));exact Kd.ax (Kd.aK (p:=⟨g6,4,none⟩) (Kd.aK (p:=⟨g6,3,none⟩) (Kd.aK (p:=⟨g6,2,none⟩) (Kd.aK (p:=⟨g6,1,none⟩) (Kd.aK (p:=⟨g6,0,none⟩) (Kd.dU vA.out dW.out (by decide)) (fun _ hk=>hk.2) (.int .i64 jC)) (fun _ hk=>hk.2) (.slice hG g9.length ge)) (fun _ hk=>hk.2) (.slice fw gA.length fx)) (fun _ hk=>hk.2) (.int .i64 jD)) (fun _ hk=>hk.2) (.slice J8 ra.length J9)) (fun _ hk=>trivial),aw HB gb iD pS⟩
           rw[if_pos DN]at H;have c42b0:=bJ DN;clear DN
           by_cases t8:qU.length<3518437208883
           rotate_left
           ·
            rw[if_neg t8]at H;exact absurd H (by simp)
           rw[if_pos t8]at H;have LMc43:=Ah t8;clear t8;obtain⟨rZ,Mm⟩:∃y_:List (aJ),y_=(qU++[(⟨2,a1,(⟨0,0⟩:Y),Gj (((U d8 dL).f3)+a2)⟩:aJ)]):=⟨_,rfl⟩
           replace H:((eM.f J7 jC g9 gA jD rZ).bind fun OP=>(if OP=true then(some (jC,g9,gA,jD,rZ,true))else(some (0,([]:List (Y)),([]:List (Y)),0,([]:List (aJ)),false))))=some (r1,r2,r3,r4,r5,r6):=by first|(rw[Mm];with_reducible exact H)|(have aq:=(Gm _ _).symm.trans H;rw[Mm];with_reducible exact aq)|(have aq:=(Gm _ _).symm.trans H;with_reducible exact aq)|with_reducible exact H|(rw[Mm];exact H)|exact H
           have Ny262:=Ah Mm;clear Mm;replace H:=Gl.mp H;obtain⟨OP,OL,H⟩:=H
           try dsimp only at H
           have UX:=Ah OL;clear OL
           by_cases yv:OP=true
           rotate_left
           ·
            replace yv:=PT.mpr yv;subst yv;rw[if_neg dr]at H;simp only[Jh,Ue]at H;obtain⟨rfl,rfl,rfl,rfl,rfl,rfl⟩:=H
            go_wp2_with (first|((with_reducible refine ik (b:= .append) (xs:= #[.tmp 49,.tmp 53]) rfl ?_);at_builtin;refine Kd.lM b8 (w0:=w) w.heap.size rfl (.tmp 49) (.tmp 53) 27 66 (.agg #[(.int .i64 0),(.int .i64 0),(.int .i64 0),(.int .i64 0),(.int .i64 0)]) 40 rfl aax sY rfl (by decide) (by omega) sW qU (⟨2,a1,(⟨0,0⟩:Y),Gj (((U d8 dL).f3)+a2)⟩:aJ) [.int .i64 2,.int .i64 a1,.int .i64 0,.int .i64 0,.int .i64 (Gj (((U d8 dL).f3)+a2))] (fun k_=>k_≠fH) (fun _=>False) rfl rfl ?aP (fun _ hk=>hk.elim) ?aF ?aO ?aB ?aS ?aL ?_;(case aP=>exact nB _ _ _ (⟨2,a1,(⟨0,0⟩:Y),Gj (((U d8 dL).f3)+a2)⟩:aJ));(case aB=>exact(aw HB gb iD pS));(case aF=>exact(fun k_ hk=>Kd.jm (bk jp) k_ hk));(case aO=>exact(rr iL.out));(case aS=>exact(bE (aw HB gb iD pS)));(case aL=>have:=LMc43.out;omega);intro v263 w62 ho hb hg hat;rw[←Ny262.out]at ho;replace im:=Ah (Kd.pK (rr im.out) (Kd.lN (rr iL.out)) (by decide) hg);replace io:=Ah (Kd.pK (rr io.out) (Kd.lN (rr iL.out)) (by decide) hg);replace cE:=Ah (dJ (bk cE) hg (Kd.dX iL.out cE.out (by decide)));replace dW:=Ah (dJ (bk dW) hg (Kd.dX iL.out dW.out (by decide)));replace jp:=Ah (dJ (bk jp) hg (Kd.jL iL.out (fun _ hk=>hk)));replace HB:=Ah (hb);have vB:=Ah (ho);clear iL;clear ho hb hg hat;obtain⟨Ao63,co63,eo63⟩:=Kd.az vB.out;subst eo63;obtain⟨hcz64_0,hcz64_1,hcz64_2,hcz64_3,hcz64_4⟩:=aj cE;obtain⟨hfz64_0,hfz64_1,hfz64_2,hfz64_3,hfz64_4⟩:=ai cE)|((with_reducible refine bY (f:=35) rfl ?_);refine gL (some 57) rfl rfl aaK (by kernel_rfl) rfl #[.agg #[.int .i64 jC,.slice hG g9.length ge,.slice fw gA.length fx,.int .i64 jD,.slice Ao63 rZ.length co63]] rfl ?_;(with_reducible refine(eM.calls J7 jC _ _ g9 _ _ gA jD _ _ rZ false _ ?aZ ?ae ?ay ?bI ?cq ?d7 UX.out).mono ?_);(case aZ=>exact rc im cE);(case ae=>exact(Kd.aY im.out).2.1);(case ay=>exact rc io cE);(case bI=>exact(Kd.aY io.out).2.1);(case cq=>exact rc vB cE);(case d7=>exact(Kd.aY vB.out).2.1);rintro e w65 ⟨rfl,hb⟩;refine⟨_,rfl, ?_⟩;replace im:=nf im cE hb;replace io:=nf io cE hb;replace vB:=nf vB cE hb;replace cE:=Ah (bT (g:=yf) (o:= .cells #[.int .i64 jC,.slice hG g9.length ge,.slice fw gA.length fx,.int .i64 jD,.slice Ao63 rZ.length co63] 29 (0,0)) (pb cE) hb);replace dW:=Ah (bT (bf dW vZ) hb);replace jp:=Ah (bT (bf jp Gt) hb);replace HB:=Ah (aH (aw HB gb iD pS) hb);(try clear hb);obtain⟨RU,RV,hcz66_2,hcz66_3,hcz66_4⟩:=aj dW;obtain⟨RW,RX,hfz66_2,hfz66_3,hfz66_4⟩:=ai dW))
            refine bodyPost_ret (iU rfl _ _ g6 29 #[.int .i64 0,.slice none 0 0,.slice none 0 0,.int .i64 0,.slice none 0 0] (0,0) _ rfl (pb dW) cp rfl (by kernel_rfl)) rfl ?_;exact⟨_,_,_,er,by first|exact Kd.be _ _ _ _ _|exact Kd.ce _ _ _ _ _|exact Kd.cf _ _ _ _ _|exact Kd.cZ _ _ _ _ _|exact Kd.ca _ _ _ _ _,by first|exact Kd.be _ _ _ _ _|exact Kd.ce _ _ _ _ _|exact Kd.cf _ _ _ _ _|exact Kd.cZ _ _ _ _ _|exact Kd.ca _ _ _ _ _,by first|exact Kd.be _ _ _ _ _|exact Kd.ce _ _ _ _ _|exact Kd.cf _ _ _ _ _|exact Kd.cZ _ _ _ _ _|exact Kd.ca _ _ _ _ _,aw HB gb iD pS⟩
           subst yv;rw[if_pos rfl]at H;simp only[Jh,Ue]at H;obtain⟨rfl,rfl,rfl,rfl,rfl,rfl⟩:=H
           go_wp2_with (first|((with_reducible refine ik (b:= .append) (xs:= #[.tmp 49,.tmp 53]) rfl ?_);at_builtin;refine Kd.lM b8 (w0:=w) w.heap.size rfl (.tmp 49) (.tmp 53) 27 66 (.agg #[(.int .i64 0),(.int .i64 0),(.int .i64 0),(.int .i64 0),(.int .i64 0)]) 40 rfl aax sY rfl (by decide) (by omega) sW qU (⟨2,a1,(⟨0,0⟩:Y),Gj (((U d8 dL).f3)+a2)⟩:aJ) [.int .i64 2,.int .i64 a1,.int .i64 0,.int .i64 0,.int .i64 (Gj (((U d8 dL).f3)+a2))] (fun k_=>k_≠fH) (fun _=>False) rfl rfl ?aP (fun _ hk=>hk.elim) ?aF ?aO ?aB ?aS ?aL ?_;(case aP=>exact nB _ _ _ (⟨2,a1,(⟨0,0⟩:Y),Gj (((U d8 dL).f3)+a2)⟩:aJ));(case aB=>exact(aw HB gb iD pS));(case aF=>exact(fun k_ hk=>Kd.jm (bk jp) k_ hk));(case aO=>exact(rr iL.out));(case aS=>exact(bE (aw HB gb iD pS)));(case aL=>have:=LMc43.out;omega);intro v263 w51 ho hb hg hat;rw[←Ny262.out]at ho;replace im:=Ah (Kd.pK (rr im.out) (Kd.lN (rr iL.out)) (by decide) hg);replace io:=Ah (Kd.pK (rr io.out) (Kd.lN (rr iL.out)) (by decide) hg);replace cE:=Ah (dJ (bk cE) hg (Kd.dX iL.out cE.out (by decide)));replace dW:=Ah (dJ (bk dW) hg (Kd.dX iL.out dW.out (by decide)));replace jp:=Ah (dJ (bk jp) hg (Kd.jL iL.out (fun _ hk=>hk)));replace HB:=Ah (hb);have vB:=Ah (ho);clear iL;clear ho hb hg hat;obtain⟨JA,JB,eo52⟩:=Kd.az vB.out;subst eo52;obtain⟨RK,RL,hcz53_2,hcz53_3,hcz53_4⟩:=aj cE;obtain⟨RM,RN,hfz53_2,hfz53_3,hfz53_4⟩:=ai cE)|((with_reducible refine bY (f:=35) rfl ?_);refine gL (some 57) rfl rfl aaK (by kernel_rfl) rfl #[.agg #[.int .i64 jC,.slice hG g9.length ge,.slice fw gA.length fx,.int .i64 jD,.slice JA rZ.length JB]] rfl ?_;(with_reducible refine(eM.calls J7 jC _ _ g9 _ _ gA jD _ _ rZ true _ ?aZ ?ae ?ay ?bI ?cq ?d7 UX.out).mono ?_);(case aZ=>exact rc im cE);(case ae=>exact(Kd.aY im.out).2.1);(case ay=>exact rc io cE);(case bI=>exact(Kd.aY io.out).2.1);(case cq=>exact rc vB cE);(case d7=>exact(Kd.aY vB.out).2.1);rintro e w54 ⟨rfl,hb⟩;refine⟨_,rfl, ?_⟩;replace im:=nf im cE hb;replace io:=nf io cE hb;replace vB:=nf vB cE hb;replace cE:=Ah (bT (g:=yf) (o:= .cells #[.int .i64 jC,.slice hG g9.length ge,.slice fw gA.length fx,.int .i64 jD,.slice JA rZ.length JB] 29 (0,0)) (pb cE) hb);replace dW:=Ah (bT (bf dW vZ) hb);replace jp:=Ah (bT (bf jp Gt) hb);replace HB:=Ah (aH (aw HB gb iD pS) hb);(try clear hb);obtain⟨hcz55_0,hcz55_1,hcz55_2,hcz55_3,hcz55_4⟩:=aj cE;obtain⟨hfz55_0,hfz55_1,hfz55_2,hfz55_3,hfz55_4⟩:=ai cE;obtain⟨hcz56_0,hcz56_1,hcz56_2,hcz56_3,hcz56_4⟩:=aj dW;obtain⟨hfz56_0,hfz56_1,hfz56_2,hfz56_3,hfz56_4⟩:=ai dW))
           refine bodyPost_ret (iU rfl _ _ g6 29 #[.int .i64 jC,.slice hG g9.length ge,.slice fw gA.length fx,.int .i64 jD,.slice JA rZ.length JB] (0,0) _ rfl (pb dW) cp rfl (by kernel_rfl)) rfl ?_;exact⟨_,_,_,er,by(with_reducible repeat(first|apply Kd.bd|apply Kd.bZ|apply Kd.bQ));exact Kd.ax (Kd.aK (p:=⟨g6,4,none⟩) (Kd.aK (p:=⟨g6,3,none⟩) (Kd.aK (p:=⟨g6,2,none⟩) (Kd.aK (p:=⟨g6,1,none⟩) (Kd.aK (p:=⟨g6,0,none⟩) (Kd.dU im.out dW.out (by decide)) (fun _ hk=>hk.2) (.int .i64 jC)) (fun _ hk=>hk.2) (.slice hG g9.length ge)) (fun _ hk=>hk.2) (.slice fw gA.length fx)) (fun _ hk=>hk.2) (.int .i64 jD)) (fun _ hk=>hk.2) (.slice JA rZ.length JB)) (fun _ hk=>hk.1),by(with_reducible repeat(first|apply Kd.bd|apply Kd.bZ|apply Kd.bQ));exact Kd.ax (Kd.aK (p:=⟨g6,4,none⟩) (Kd.aK (p:=⟨g6,3,none⟩) (Kd.aK (p:=⟨g6,2,none⟩) (Kd.aK (p:=⟨g6,1,none⟩) (Kd.aK (p:=⟨g6,0,none⟩) (Kd.dU io.out dW.out (by decide)) (fun _ hk=>hk.2) (.int .i64 jC)) (fun _ hk=>hk.2) (.slice hG g9.length ge)) (fun _ hk=>hk.2) (.slice fw gA.length fx)) (fun _ hk=>hk.2) (.int .i64 jD)) (fun _ hk=>hk.2) (.slice JA rZ.length JB)) (fun _ hk=>hk.1),by(with_reducible repeat(first|apply Kd.bd|apply Kd.bZ|apply Kd.bQ));exact Kd.ax (Kd.aK (p:=⟨g6,4,none⟩) (Kd.aK (p:=⟨g6,3,none⟩) (Kd.aK (p:=⟨g6,2,none⟩) (Kd.aK (p:=⟨g6,1,none⟩) (Kd.aK (p:=⟨g6,0,none⟩) (Kd.dU vB.out dW.out (by decide)) (fun _ hk=>hk.2) (.int .i64 jC)) (fun _ hk=>hk.2) (.slice hG g9.length ge)) (fun _ hk=>hk.2) (.slice fw gA.length fx)) (fun _ hk=>hk.2) (.int .i64 jD)) (fun _ hk=>hk.2) (.slice JA rZ.length JB)) (fun _ hk=>trivial),aw HB gb iD pS⟩
mutual
def dC.j0:Nat→Bool→Int→List (Y)→List (Y)→Int→Int→Option (Int×(List (Y))×(List (Y))×Bool)
 |0,_,_,_,_,_,_=>none
 |k+1,x20,wJ,ut,yS,uu,wK=>if x20=true then(some (0,([]:List (Y)),([]:List (Y)),false))else(dC.l0 k ([]:List (Y)) false ut (ut.length:Int) 0 wJ ut yS uu wK)
def dC.l0:Nat→List (Y)→Bool→List (Y)→Int→Int→Int→List (Y)→List (Y)→Int→Int→Option (Int×(List (Y))×(List (Y))×Bool)
 |0,_,_,_,_,_,_,_,_,_,_=>none
 |k+1,x6,x7,jG,x24,x25,wJ,ut,yS,uu,wK=>if x25<x24 then(if 0≤x25 then(if x25<(jG.length:Int)then(if(Gj (((aD jG x25).f0)+((aD jG x25).f1)))<uu then(if x6.length<8796093022208 then(dC.l0 k (x6++[(⟨(aD jG x25).f0,(aD jG x25).f1⟩:Y)]) x7 jG x24 (Gj (x25+1)) wJ ut yS uu wK)else(none))else(if((aD jG x25).f0)>(Gj (uu+wK))then(if x7=true then(if x6.length<8796093022208 then(dC.l0 k (x6++[(⟨(aD jG x25).f0,(aD jG x25).f1⟩:Y)]) x7 jG x24 (Gj (x25+1)) wJ ut yS uu wK)else(none))else(if x6.length<8796093022208 then((some (x6++[(⟨uu,wK⟩:Y)]:List (Y))).bind fun D6=>(if D6.length<8796093022208 then(dC.l0 k (D6++[(⟨(aD jG x25).f0,(aD jG x25).f1⟩:Y)]) true jG x24 (Gj (x25+1)) wJ ut yS uu wK)else(none)))else(none)))else(if(Gj (((aD jG x25).f0)+((aD jG x25).f1)))=uu then(dC.l0 k x6 x7 jG x24 (Gj (x25+1)) wJ ut yS ((aD jG x25).f0) (Gj (((aD jG x25).f1)+wK)))else(if((aD jG x25).f0)=(Gj (uu+wK))then(dC.l0 k x6 x7 jG x24 (Gj (x25+1)) wJ ut yS uu (Gj (wK+((aD jG x25).f1))))else(some (0,([]:List (Y)),([]:List (Y)),false))))))else(none))else(none))else(if x7=true then(dC.j2 k x6 wJ ut yS)else(if x6.length<8796093022208 then(dC.j2 k (x6++[(⟨uu,wK⟩:Y)]) wJ ut yS)else(none)))
def dC.j2:Nat→List (Y)→Int→List (Y)→List (Y)→Option (Int×(List (Y))×(List (Y))×Bool)
 |0,_,_,_,_=>none
 |k+1,x6,wJ,ut,yS=>(j8.f k wJ x6).bind fun Ih=>((fc.f k Ih.1 Ih.2.1 Ih.2.2).bind fun OV=>(if OV=true then(some (Ih.1,Ih.2.1,Ih.2.2,true))else(some (0,([]:List (Y)),([]:List (Y)),false))))
end
def dC.f(k:Nat)(aA:Int)(X:List (Y))(aC:List (Y))(aN:Int)(aQ:Int):Option (Int×(List (Y))×(List (Y))×Bool):=(fc.f k aA X aC).bind fun OW=>(if OW=true then((xz.f aN aQ aA).bind fun JC=>(dC.j0 k (!JC) aA X aC aN aQ))else(dC.j0 k true aA X aC aN aQ))
theorem dC.cQ:∀k,(∀y0 y1 y2 y3 y4 y5,aG (dC.j0 k y0 y1 y2 y3 y4 y5) (dC.j0 (k+1) y0 y1 y2 y3 y4 y5))∧(∀y0 y1 y2 y3 y4 y5 y6 y7 y8 y9,aG (dC.l0 k y0 y1 y2 y3 y4 y5 y6 y7 y8 y9) (dC.l0 (k+1) y0 y1 y2 y3 y4 y5 y6 y7 y8 y9))∧(∀y0 y1 y2 y3,aG (dC.j2 k y0 y1 y2 y3) (dC.j2 (k+1) y0 y1 y2 y3))
 |0=>⟨fun _ _ _ _ _ _ r h=>by simp[dC.j0]at h,fun _ _ _ _ _ _ _ _ _ _ r h=>by simp[dC.l0]at h,fun _ _ _ _ r h=>by simp[dC.j2]at h⟩
 |k+1=>by
  obtain⟨bS,ih1,ih2⟩:=dC.cQ k
  refine⟨?_, ?_, ?_⟩<;>intros<;>first|unfold dC.j0|unfold dC.l0|unfold dC.j2
  all_goals repeat' first
   |(with_reducible exact bS _ _ _ _ _ _)
   |(with_reducible exact ih1 _ _ _ _ _ _ _ _ _ _)
   |(with_reducible exact ih2 _ _ _ _)
   |(with_reducible exact fc.mono _ _ _ _)
   |(with_reducible exact j8.mono _ _ _)
   |(with_reducible exact aG.refl _)
   |(with_reducible exact aG.none _)
   |(with_reducible refine aG.ite ?_ ?_)
   |(with_reducible refine aG.bind ?_ (fun _=> ?_))
   |exact bS _ _ _ _ _ _
   |exact ih1 _ _ _ _ _ _ _ _ _ _
   |exact ih2 _ _ _ _
   |exact fc.mono _ _ _ _
   |exact j8.mono _ _ _
   |exact aG.none _
   |refine aG.ite ?_ ?_
   |refine aG.bind ?_ (fun _=> ?_)
theorem dC.mono:∀a0 a1 a2 a3 a4 k,aG (dC.f k a0 a1 a2 a3 a4) (dC.f (k+1) a0 a1 a2 a3 a4):=by
 intro a0 a1 a2 a3 a4 k;obtain⟨bS,ih1,ih2⟩:=dC.cQ k;unfold dC.f
 repeat' with_reducible first|exact bS _ _ _ _ _ _|exact ih1 _ _ _ _ _ _ _ _ _ _|exact ih2 _ _ _ _|exact fc.mono _ _ _ _|exact j8.mono _ _ _|exact aG.refl _|exact aG.none _|refine aG.ite ?_ ?_|refine aG.bind ?_ (fun _=> ?_)
theorem dC.calls(k:Nat)(aA:Int)(af:Option Addr)(aa:Nat)(X:List (Y))(ab:Option Addr)(ac:Nat)(aC:List (Y))(aN:Int)(aQ:Int)(r1:Int)(r2:List (Y))(r3:List (Y))(r4:Bool)(w:World)(dO:Kd.C aT w af X.length X)(dP:X.length≤aa)(dQ:Kd.C aT w ab aC.length aC)(dR:aC.length≤ac)(h:dC.f k aA X aC aN aQ=some (r1,r2,r3,r4)):
 Calls Try.prog 38 #[.agg #[.int .i64 aA,.slice af X.length aa,.slice ab aC.length ac],.agg #[.int .i64 aN,.int .i64 aQ]] w fun e w'=>∃df da:Value,e= .returned (.tuple #[.agg #[.int .i64 r1,df,da],.bool r4])∧Kd.R aT 45 w' w.heap.size (fun k_=>some k_≠(da:Value).ownBlock) df r2∧Kd.R aT 45 w' w.heap.size (fun k_=>some k_≠(df:Value).ownBlock) da r3∧Below w.heap.size w w':=by
 have mL:=ig;have jT:=fk;have bo:=Ah dO;have cU:=Ah dP;clear dO dP;have cn:=Ah dQ;have co:=Ah dR;clear dQ dR;have HB:=Ah (Ud w.heap.size w);have H:((fc.f k aA X aC).bind fun OW=>(if OW=true then((xz.f aN aQ aA).bind fun JC=>(dC.j0 k (!JC) aA X aC aN aQ))else(dC.j0 k true aA X aC aN aQ)))=some (r1,r2,r3,r4):=h;clear h;have Gc:=Ah H;clear H
 go_enter Try.func38,Try.ntmps38
 go_upto_region 1 with(first|((with_reducible refine ag (N:=2) rfl ?_);refine an 2 26 #[.int .i64 aA,.slice af X.length aa,.slice ab aC.length ac] ?_;intro Z0 hg w4 cO hb;have GW270:=gw hg (bs HB);have dh:=gw hg (bs HB);replace HB:=Ah (aH (bs HB) hb);clear hb hg)|((with_reducible refine ag (N:=3) rfl ?_);refine an 3 45 #[.int .i64 aN,.int .i64 aQ] ?_;intro oW hg w5 cI hb;have GW271:=gw hg (aM HB dh);have du:=gw hg (aM HB dh);replace HB:=Ah (aH (aM HB dh) hb);have qw:=nn cO hg;have uY:=nm cO hg;replace cO:=nb cO hb;clear hb hg)|((with_reducible refine ag (N:=4) rfl ?_);refine an 4 26 #[.int .i64 0,.slice none 0 0,.slice none 0 0] ?_;intro tp hg w6 cW hb;have GW272:=gw hg (am HB dh du);have eA:=gw hg (am HB dh du);replace HB:=Ah (aH (am HB dh du) hb);have Ds:=nn cO hg;have Dt:=nm cO hg;replace cO:=nb cO hb;have vk:=nn cI hg;have sC:=nm cI hg;replace cI:=nb cI hb;clear hb hg))
 (try simp only[aaj,Ok,bD,ck])
 go_cut [20] (fun v20 wc=>∃ (kq:Nat) (TE:Bool),v20= .bool TE∧Z (dC.j0 kq TE aA X aC aN aQ=some (r1,r2,r3,r4))∧Z (kq≤k)∧Z (wc.heap[Z0]?=some (.cells #[.int .i64 aA,(.slice af X.length aa),(.slice ab aC.length ac)] 26 (0,0)))∧Z (wc.heap[oW]?=some (.cells #[.int .i64 aN,.int .i64 aQ] 45 (0,0)))∧Z (wc.heap[tp]?=some (.cells #[.int .i64 0,(.slice none 0 0),(.slice none 0 0)] 26 (0,0)))∧Z (Below w.heap.size w wc))
 case first=>
  have H:=Gc.out;clear Gc;replace H:=Gl.mp H;obtain⟨OW,kJ,H⟩:=H
  try dsimp only at H
  have A7:=Ah kJ;clear kJ
  by_cases c8:OW=true
  rotate_left
  ·
   replace c8:=PT.mpr c8;subst c8;rw[if_neg dr]at H;have H':=Ah H;clear H;have T0:=qw.out;have T2:=uY.out;have MB:=Ds.out;have MC:=Dt.out;obtain⟨pn,po,qY⟩:=dE cO;obtain⟨pp,pq,qZ⟩:=dF cO
   go_wp2_with (first|((with_reducible refine bY (f:=54) rfl ?_);refine gL (some 12) rfl rfl abs (by kernel_rfl) rfl #[.agg #[.int .i64 aA,.slice af X.length aa,.slice ab aC.length ac]] rfl ?_;(with_reducible refine(fc.calls k aA _ _ X _ _ aC false _ ?aZ ?ae ?ay ?bI A7.out).mono ?_);(case aZ=>exact cb bo HB);(case ae=>exact cU.out);(case ay=>exact cb cn HB);(case bI=>exact co.out);rintro e vS ⟨rfl,hb⟩;refine⟨_,rfl, ?_⟩;replace cO:=nb cO hb;replace cI:=nb cI hb;replace cW:=nb cW hb;replace HB:=Ah (aH (aw HB dh du eA) hb);(try clear hb)))
   go_meet
   case rel=>exact⟨_,(true),e3,H',⟨by first|omega|exact QQ _⟩,⟨bk cO⟩,⟨bk cI⟩,⟨bk cW⟩,⟨aw HB dh du eA⟩⟩
  subst c8;rw[if_pos rfl]at H;replace H:=Gl.mp H;obtain⟨JC,DI,H⟩:=H
  try dsimp only at H
  have A9:=Ah DI;clear DI;have H':=Ah H;clear H;have IW:=qw.out;have IX:=uY.out;have Sk:=Ds.out;have Sl:=Dt.out;obtain⟨tQ,tR,yJ⟩:=dE cO;obtain⟨tS,tT,yK⟩:=dF cO
  go_wp2_with (first|((with_reducible refine bY (f:=54) rfl ?_);refine gL (some 12) rfl rfl abs (by kernel_rfl) rfl #[.agg #[.int .i64 aA,.slice af X.length aa,.slice ab aC.length ac]] rfl ?_;(with_reducible refine(fc.calls k aA _ _ X _ _ aC true _ ?aZ ?ae ?ay ?bI A7.out).mono ?_);(case aZ=>exact cb bo HB);(case ae=>exact cU.out);(case ay=>exact cb cn HB);(case bI=>exact co.out);rintro e pd ⟨rfl,hb⟩;refine⟨_,rfl, ?_⟩;replace cO:=nb cO hb;replace cI:=nb cI hb;replace cW:=nb cW hb;replace HB:=Ah (aH (aw HB dh du eA) hb);(try clear hb);have hnb14:=vk.out;have hnc14:=sC.out;obtain⟨um,un⟩:=cg cI;obtain⟨uo,uq⟩:=ch cI;obtain⟨ug,uh,vz⟩:=dE cO;obtain⟨uj,uk,wC⟩:=dF cO)|(go_at_call 55;(with_reducible refine(xz.calls aN aQ aA JC _ A9.out).mono ?_);rintro e de ⟨rfl,hb⟩;replace cO:=nb cO hb;replace cI:=nb cI hb;replace cW:=nb cW hb;replace HB:=Ah (aH (aw HB dh du eA) hb);(try clear hb)))
  go_meet
  case rel=>exact⟨_,(!JC),e3,H',⟨by first|omega|exact QQ _⟩,⟨bk cO⟩,⟨bk cI⟩,⟨bk cW⟩,⟨aw HB dh du eA⟩⟩
 case rest=>
  clear Gc
  try clear c1
  try clear p2
  try clear c3
  try clear c5
  try clear c8
  try clear c10
  try clear c11
  try clear c14
  try clear c18
  try clear c19
  try clear tQ tR yJ
  try clear um un
  try clear ug uh vz
  try clear pn po qY
  try clear tS tT yK
  try clear uo uq
  try clear uj uk wC
  try clear pp pq qZ
  obtain⟨kq,TE,rfl,HA,HJ2,cO,cI,cW,HB⟩:=hcut
  cases kq with
  |zero=>exact absurd HA.out (by simp[dC.j0])
  |succ JU=>
   have H:=HA.out;clear HA;simp only[dC.j0]at H
   by_cases pe:TE=true
   ·
    subst pe;rw[if_pos rfl]at H;simp only[Jh,Ue]at H;obtain⟨rfl,rfl,rfl,rfl⟩:=H;have hnb23:=Dt.out;have hnc23:=Ds.out;have hnb24:=sC.out;have hnc24:=vk.out;obtain⟨LC,LD,LE⟩:=dE cW;obtain⟨LF,LG,LH⟩:=dF cW
    go_wp2
    refine bodyPost_ret (iU rfl _ _ tp 26 #[.int .i64 0,.slice none 0 0,.slice none 0 0] (0,0) _ rfl (pb cW) ig rfl (by kernel_rfl)) rfl ?_;exact⟨_,_,er,by first|exact Kd.be _ _ _ _ _|exact Kd.ce _ _ _ _ _|exact Kd.cf _ _ _ _ _|exact Kd.cZ _ _ _ _ _|exact Kd.ca _ _ _ _ _,by first|exact Kd.be _ _ _ _ _|exact Kd.ce _ _ _ _ _|exact Kd.cf _ _ _ _ _|exact Kd.cZ _ _ _ _ _|exact Kd.ca _ _ _ _ _,aw HB dh du eA⟩
   replace pe:=PT.mpr pe;subst pe;rw[if_neg dr]at H;have H':=Ah H;clear H;have TF:=qw.out;have TG:=uY.out;have hnb27:=Ds.out;have hnc27:=Dt.out;obtain⟨zr,CG,RY⟩:=dE cO;obtain⟨zs,CH,RZ⟩:=dF cO
   go_wp2
   go_loopg [6,7,25] JU (fun kq v6 v7 v25 w'=>∃ (b5:List (Y)) (Ap:Bool) (cP:Int) (jl:Int) (j9:Int) (C4:Int),v7= .bool Ap∧v25= .int .i64 cP∧Z (dC.l0 kq b5 Ap X (X.length:Int) cP aA X aC jl j9=some (r1,r2,r3,r4))∧Z (kq≤JU)∧Z (Kd.R aT 45 w' w.heap.size (fun k_=>k_≠oW) v6 b5)∧Z (w'.heap[Z0]?=some (.cells #[.int .i64 aA,(.slice af X.length aa),(.slice ab aC.length ac)] 26 (0,0)))∧Z (w'.heap[oW]?=some (.cells #[.int .i64 jl,.int .i64 j9] 45 (0,0)))∧Z (w'.heap[tp]?=some (.cells #[.int .i64 C4,(.slice none 0 0),(.slice none 0 0)] 26 (0,0)))∧Z (Below w.heap.size w w'))
   case atStart=>exact⟨(([]:List (Y))),(false),(0),(aN),(aQ),(0),e3,e3,H',⟨QQ _⟩,⟨by first|exact Kd.be _ _ _ _ _|exact Kd.ce _ _ _ _ _|exact Kd.cf _ _ _ _ _|exact Kd.cZ _ _ _ _ _|exact Kd.ca _ _ _ _ _⟩,⟨bk cO⟩,⟨bk cI⟩,⟨bk cW⟩,⟨aw HB dh du eA⟩⟩
   case round=>
    clear H'
    try clear c1
    try clear c2
    try clear p2
    try clear c3
    try clear c5
    try clear c8
    try clear c10
    try clear c11
    try clear c14
    try clear c18
    try clear c19
    try clear pe
    try clear c23
    try clear c24
    try clear BP
    try clear yr
    try clear tQ tR yJ
    try clear um un
    try clear ug uh vz
    try clear pn po qY
    try clear LC LD LE
    try clear zr CG RY
    try clear tS tT yK
    try clear uo uq
    try clear uj uk wC
    try clear pp pq qZ
    try clear LF LG LH
    try clear zs CH RZ
    try clear p2
    obtain⟨b5,Ap,cP,jl,j9,C4,rfl,rfl,HA,eE,bF,cO,cI,cW,HB⟩:=hrel
    cases gk with
    |zero=>exact absurd HA.out (by simp[dC.l0])
    |succ k2=>
     have H:=HA.out;clear HA;simp only[dC.l0]at H
     by_cases lJ:cP<(X.length:Int)
     rotate_left
     ·
      rw[if_neg lJ]at H;have Ce:=dn lJ;clear lJ;have a0P:=Ah H;clear H
      go_upto_if 96 with(fail)
      go_cut [6] (fun v6 wc=>∃ (kq:Nat) (Ew:List (Y)),Z (dC.j2 kq Ew aA X aC=some (r1,r2,r3,r4))∧Z (kq≤k2)∧Z (Kd.R aT 45 wc w.heap.size (fun k_=>k_≠oW) v6 Ew)∧Z (wc.heap[Z0]?=some (.cells #[.int .i64 aA,(.slice af X.length aa),(.slice ab aC.length ac)] 26 (0,0)))∧Z (wc.heap[oW]?=some (.cells #[.int .i64 jl,.int .i64 j9] 45 (0,0)))∧Z (wc.heap[tp]?=some (.cells #[.int .i64 C4,(.slice none 0 0),(.slice none 0 0)] 26 (0,0)))∧Z (Below w.heap.size w wc))
      case first=>
       have H:=a0P.out;clear a0P
       by_cases Pz:Ap=true
       ·
        subst Pz;rw[if_pos rfl]at H;have H':=Ah H;clear H
        go_wp2
        go_meet
        case rel=>exact⟨_,(b5),H',⟨by have:=HJ2.out;have:=eE.out;first|omega|exact QQ _⟩,⟨rr bF.out⟩,⟨bk cO⟩,⟨bk cI⟩,⟨bk cW⟩,⟨aw HB dh du eA⟩⟩
       replace Pz:=PT.mpr Pz;subst Pz;rw[if_neg dr]at H
       by_cases Q5:b5.length<8796093022208
       rotate_left
       ·
        rw[if_neg Q5]at H;exact absurd H (by simp)
       rw[if_pos Q5]at H;have LMc98:=Ah Q5;clear Q5;obtain⟨y289,Mn⟩:∃y_:List (Y),y_=(b5++[(⟨jl,j9⟩:Y)]):=⟨_,rfl⟩
       replace H:(dC.j2 k2 y289 aA X aC)=some (r1,r2,r3,r4):=by first|(rw[Mn];with_reducible exact H)|(have aq:=(Gm _ _).symm.trans H;rw[Mn];with_reducible exact aq)|(have aq:=(Gm _ _).symm.trans H;with_reducible exact aq)|with_reducible exact H|(rw[Mn];exact H)|exact H
       have Ny289:=Ah Mn;clear Mn;have H':=Ah H;clear H;have hnb99:=uY.out;have hnc99:=qw.out;have hnb100:=vk.out;have hnc100:=sC.out;obtain⟨hcz101_0,hcz101_1⟩:=cg cI;obtain⟨hfz101_0,hfz101_1⟩:=ch cI
       go_wp2_with (first|((with_reducible refine ik (b:= .append) (xs:= #[.tmp 97,.tmp 99]) rfl ?_);at_builtin;refine Kd.lM aT (w0:=w) w.heap.size rfl (.tmp 97) (.tmp 99) 24 45 (.agg #[(.int .i64 0),(.int .i64 0)]) 16 rfl aad mG rfl (by decide) (by omega) u6 b5 (⟨jl,j9⟩:Y) [.int .i64 jl,.int .i64 j9] (fun k_=>k_≠oW) (fun _=>False) rfl rfl ?aP (fun _ hk=>hk.elim) ?aF ?aO ?aB ?aS ?aL ?_;(case aP=>exact ls _ _ _ (⟨jl,j9⟩:Y));(case aB=>exact(aw HB dh du eA));(case aF=>exact(fun k_ hk=>Kd.jm (bk cI) k_ hk));(case aO=>exact(rr bF.out));(case aS=>exact(bE (aw HB dh du eA)));(case aL=>have:=LMc98.out;omega);intro v290 w102 ho hb hg hat;rw[←Ny289.out]at ho;replace cO:=Ah (dJ (bk cO) hg (Kd.dX bF.out cO.out (by decide)));replace cI:=Ah (dJ (bk cI) hg (Kd.jL bF.out (fun _ hk=>hk)));replace cW:=Ah (dJ (bk cW) hg (Kd.dX bF.out cW.out (by decide)));replace HB:=Ah (hb);have HO291:=Ah (ho);clear bF;clear ho hb hg hat))
       go_meet
       case rel=>exact⟨_,(y289),H',⟨by have:=HJ2.out;have:=eE.out;first|omega|exact QQ _⟩,⟨rr HO291.out⟩,⟨bk cO⟩,⟨bk cI⟩,⟨bk cW⟩,⟨aw HB dh du eA⟩⟩
      case rest=>
       clear a0P
       try clear c1
       try clear c2
       try clear p2
       try clear q2
       try clear hx2
       try clear c3
       try clear c4
       try clear c5
       try clear c6
       try clear p6
       try clear c7
       try clear c8
       try clear c9
       try clear c10
       try clear c11
       try clear c14
       try clear c18
       try clear c19
       try clear pe
       try clear c23
       try clear c24
       try clear BP
       try clear yr
       try clear p27
       try clear q27
       try clear hx27
       try clear lJ
       try clear Ce
       try clear jg
       try clear Ed
       try clear c31
       try clear wT
       try clear c32
       try clear c32b0
       try clear rl
       try clear DM
       try clear JM
       try clear c37
       try clear c38
       try clear c39
       try clear c40
       try clear t8
       try clear c43b0
       try clear GY
       try clear yv
       try clear c47
       try clear c48
       try clear c49
       try clear c51
       try clear c52
       try clear tC
       try clear pD
       try clear tD
       try clear Q6
       try clear c59
       try clear JR
       try clear c62
       try clear c63
       try clear p64
       try clear DW
       try clear c68b0
       try clear c68b1
       try clear c70
       try clear c71
       try clear c72
       try clear c74
       try clear c75
       try clear DX
       try clear c77b0
       try clear c77b1
       try clear Q7
       try clear c80
       try clear Pq
       try clear DO
       try clear DP
       try clear c87
       try clear c88
       try clear c89
       try clear c91
       try clear c92
       try clear c94
       try clear Pz
       try clear Q5
       try clear c99
       try clear c100
       try clear hcz101_0 hcz101_1
       try clear tQ tR yJ
       try clear um un
       try clear ug uh vz
       try clear pn po qY
       try clear LC LD LE
       try clear zr CG RY
       try clear EC ED
       try clear H5 H6
       try clear HW HX
       try clear RK RL
       try clear WI WJ
       try clear hcz64_0 hcz64_1
       try clear RU RV
       try clear hcz73_0 hcz73_1
       try clear Qv Qw
       try clear hcz82_0 hcz82_1
       try clear hcz85_0 hcz85_1
       try clear Wg Wh
       try clear Wn Wo
       try clear Wr Ws Wt
       try clear hfz101_0 hfz101_1
       try clear tS tT yK
       try clear uo uq
       try clear uj uk wC
       try clear pp pq qZ
       try clear LF LG LH
       try clear zs CH RZ
       try clear EI EJ
       try clear H7 H8
       try clear Hd He
       try clear RM RN
       try clear WZ Wa
       try clear hfz64_0 hfz64_1
       try clear RW RX
       try clear hfz73_0 hfz73_1
       try clear Qx Qy
       try clear hfz82_0 hfz82_1
       try clear hfz85_0 hfz85_1
       try clear Wi Wj
       try clear Wp Wq
       try clear Wu Wv Ww
       try clear pM
       try clear pN
       try clear p2
       try clear m7
       try clear m8
       obtain⟨kq,Ew,HA,HJ95,bF,cO,cI,cW,HB⟩:=hcut
       cases kq with
       |zero=>exact absurd HA.out (by simp[dC.j2])
       |succ U5=>
        have H:=HA.out;clear HA;simp only[dC.j2]at H;replace H:=Gl.mp H;obtain⟨⟨xF,xG,xH⟩,A1030,H⟩:=H
        try dsimp only at H
        have A103:=Ah A1030;clear A1030;replace H:=Gl.mp H;obtain⟨OV,A1040,H⟩:=H
        try dsimp only at H
        have A104:=Ah A1040;clear A1040
        by_cases c105:OV=true
        rotate_left
        ·
         replace c105:=PT.mpr c105;subst c105;rw[if_neg dr]at H;simp only[Jh,Ue]at H;obtain⟨rfl,rfl,rfl,rfl⟩:=H;have hnb122:=qw.out;have hnc122:=uY.out;have hnb123:=Ds.out;have hnc123:=Dt.out;obtain⟨hcz124_0,hcz124_1,hcz124_2⟩:=dE cO;obtain⟨hfz124_0,hfz124_1,hfz124_2⟩:=dF cO;obtain⟨Ao125,co125,eo125⟩:=Kd.az bF.out;subst eo125
         go_wp2_with (first|((with_reducible refine bY (f:=34) rfl ?_);refine gL (some 104) rfl rfl Try.func34 (by kernel_rfl) rfl #[.int .i64 aA,.slice Ao125 Ew.length co125] rfl ?_;(with_reducible refine(j8.calls U5 aA _ _ Ew xF xG xH _ ?aZ ?ae A103.out).mono ?_);(case aZ=>exact jF bF);(case ae=>exact(Kd.aY bF.out).2.1);rintro e w126 ⟨v294,v297,rfl,ho0,ho1,hb⟩;refine⟨_,rfl, ?_⟩;have qb:=Ah (Kd.bR (Kd.kd (Kd.k9 ho0 (Kd.i4 (rr bF.out))) (g:=oW) (o:= .cells #[.int .i64 jl,.int .i64 j9] 45 (0,0)) (bk cI)) (bE (aw HB dh du eA)));have qc:=Ah (Kd.bR (Kd.kd (Kd.k9 ho1 (Kd.i4 (rr bF.out))) (g:=oW) (o:= .cells #[.int .i64 jl,.int .i64 j9] 45 (0,0)) (bk cI)) (bE (aw HB dh du eA)));replace bF:=Ah (Kd.ax (Kd.nl (Kd.nl (Kd.yY (rr bF.out) hb) (Kd.jK ho0)) (Kd.jK ho1)) (fun _ h_=>h_.1));replace cO:=nb cO hb;replace cI:=nb cI hb;replace cW:=nb cW hb;replace HB:=Ah (aH (aw HB dh du eA) hb);(try clear hb ho0 ho1))|((with_reducible refine ag (N:=10) rfl ?_);refine an 10 26 #[.int .i64 0,.slice none 0 0,.slice none 0 0] ?_;intro Z1 hg w127 nG hb;replace bF:=nr bF hb;replace qb:=nr qb hb;replace qc:=nr qc hb;have GW299:=gw hg (aw HB dh du eA);have Mo:=gw hg (aw HB dh du eA);replace HB:=Ah (aH (aw HB dh du eA) hb);have Jx:=nn cO hg;have VG:=nm cO hg;replace cO:=nb cO hb;have Jy:=nn cI hg;have VH:=nm cI hg;replace cI:=nb cI hb;have Jz:=nn cW hg;have VI:=nm cW hg;replace cW:=nb cW hb;clear hb hg;have hnb128:=VG.out;have hnc128:=Jx.out;have hnb129:=VH.out;have hnc129:=Jy.out;have hnb130:=VI.out;have hnc130:=Jz.out;obtain⟨hcz131_0,hcz131_1,hcz131_2⟩:=dE nG;obtain⟨hfz131_0,hfz131_1,hfz131_2⟩:=dF nG;obtain⟨Ao132,co132,eo132⟩:=Kd.az qb.out;subst eo132;obtain⟨Ao133,co133,eo133⟩:=Kd.az qc.out;subst eo133)|((with_reducible refine bY (f:=54) rfl ?_);refine gL (some 106) rfl rfl abs (by kernel_rfl) rfl #[.agg #[.int .i64 xF,.slice Ao132 xG.length co132,.slice Ao133 xH.length co133]] rfl ?_;(with_reducible refine(fc.calls U5 xF _ _ xG _ _ xH false _ ?aZ ?ae ?ay ?bI A104.out).mono ?_);(case aZ=>exact rc qb nG);(case ae=>exact(Kd.aY qb.out).2.1);(case ay=>exact rc qc nG);(case bI=>exact(Kd.aY qc.out).2.1);rintro e w134 ⟨rfl,hb⟩;refine⟨_,rfl, ?_⟩;replace bF:=nf bF nG hb;replace qb:=nf qb nG hb;replace qc:=nf qc nG hb;replace cO:=Ah (bT (bf cO Jx) hb);replace cI:=Ah (bT (bf cI Jy) hb);replace cW:=Ah (bT (bf cW Jz) hb);replace nG:=Ah (bT (g:=Z1) (o:= .cells #[.int .i64 xF,.slice Ao132 xG.length co132,.slice Ao133 xH.length co133] 26 (0,0)) (pb nG) hb);replace HB:=Ah (aH (bq HB dh du eA Mo) hb);(try clear hb);have hnb135:=sC.out;have hnc135:=vk.out;obtain⟨hcz136_0,hcz136_1,hcz136_2⟩:=dE cW;obtain⟨hfz136_0,hfz136_1,hfz136_2⟩:=dF cW))
         refine bodyPost_ret (iU rfl _ _ tp 26 #[.int .i64 0,.slice none 0 0,.slice none 0 0] (0,0) _ rfl (pb cW) ig rfl (by kernel_rfl)) rfl ?_;exact⟨_,_,er,by first|exact Kd.be _ _ _ _ _|exact Kd.ce _ _ _ _ _|exact Kd.cf _ _ _ _ _|exact Kd.cZ _ _ _ _ _|exact Kd.ca _ _ _ _ _,by first|exact Kd.be _ _ _ _ _|exact Kd.ce _ _ _ _ _|exact Kd.cf _ _ _ _ _|exact Kd.cZ _ _ _ _ _|exact Kd.ca _ _ _ _ _,bq HB dh du eA Mo⟩
        subst c105;rw[if_pos rfl]at H;simp only[Jh,Ue]at H;obtain⟨rfl,rfl,rfl,rfl⟩:=H;have hnb106:=qw.out;have hnc106:=uY.out;have hnb107:=Ds.out;have hnc107:=Dt.out;obtain⟨hcz108_0,hcz108_1,hcz108_2⟩:=dE cO;obtain⟨hfz108_0,hfz108_1,hfz108_2⟩:=dF cO;obtain⟨Ao109,co109,eo109⟩:=Kd.az bF.out;subst eo109
        go_wp2_with (first|((with_reducible refine bY (f:=34) rfl ?_);refine gL (some 104) rfl rfl Try.func34 (by kernel_rfl) rfl #[.int .i64 aA,.slice Ao109 Ew.length co109] rfl ?_;(with_reducible refine(j8.calls U5 aA _ _ Ew xF xG xH _ ?aZ ?ae A103.out).mono ?_);(case aZ=>exact jF bF);(case ae=>exact(Kd.aY bF.out).2.1);rintro e w110 ⟨v294,v297,rfl,ho0,ho1,hb⟩;refine⟨_,rfl, ?_⟩;have qb:=Ah (Kd.bR (Kd.kd (Kd.k9 ho0 (Kd.i4 (rr bF.out))) (g:=oW) (o:= .cells #[.int .i64 jl,.int .i64 j9] 45 (0,0)) (bk cI)) (bE (aw HB dh du eA)));have qc:=Ah (Kd.bR (Kd.kd (Kd.k9 ho1 (Kd.i4 (rr bF.out))) (g:=oW) (o:= .cells #[.int .i64 jl,.int .i64 j9] 45 (0,0)) (bk cI)) (bE (aw HB dh du eA)));replace bF:=Ah (Kd.ax (Kd.nl (Kd.nl (Kd.yY (rr bF.out) hb) (Kd.jK ho0)) (Kd.jK ho1)) (fun _ h_=>h_.1));replace cO:=nb cO hb;replace cI:=nb cI hb;replace cW:=nb cW hb;replace HB:=Ah (aH (aw HB dh du eA) hb);(try clear hb ho0 ho1))|((with_reducible refine ag (N:=10) rfl ?_);refine an 10 26 #[.int .i64 0,.slice none 0 0,.slice none 0 0] ?_;intro Z1 hg w111 nG hb;replace bF:=nr bF hb;replace qb:=nr qb hb;replace qc:=nr qc hb;have GW299:=gw hg (aw HB dh du eA);have Mo:=gw hg (aw HB dh du eA);replace HB:=Ah (aH (aw HB dh du eA) hb);have Jx:=nn cO hg;have VG:=nm cO hg;replace cO:=nb cO hb;have Jy:=nn cI hg;have VH:=nm cI hg;replace cI:=nb cI hb;have Jz:=nn cW hg;have VI:=nm cW hg;replace cW:=nb cW hb;clear hb hg;have hnb112:=VG.out;have hnc112:=Jx.out;have hnb113:=VH.out;have hnc113:=Jy.out;have hnb114:=VI.out;have hnc114:=Jz.out;obtain⟨hcz115_0,hcz115_1,hcz115_2⟩:=dE nG;obtain⟨hfz115_0,hfz115_1,hfz115_2⟩:=dF nG;obtain⟨Mp,Mq,eo116⟩:=Kd.az qb.out;subst eo116;obtain⟨Mr,Ms,eo117⟩:=Kd.az qc.out;subst eo117)|((with_reducible refine bY (f:=54) rfl ?_);refine gL (some 106) rfl rfl abs (by kernel_rfl) rfl #[.agg #[.int .i64 xF,.slice Mp xG.length Mq,.slice Mr xH.length Ms]] rfl ?_;(with_reducible refine(fc.calls U5 xF _ _ xG _ _ xH true _ ?aZ ?ae ?ay ?bI A104.out).mono ?_);(case aZ=>exact rc qb nG);(case ae=>exact(Kd.aY qb.out).2.1);(case ay=>exact rc qc nG);(case bI=>exact(Kd.aY qc.out).2.1);rintro e w118 ⟨rfl,hb⟩;refine⟨_,rfl, ?_⟩;replace bF:=nf bF nG hb;replace qb:=nf qb nG hb;replace qc:=nf qc nG hb;replace cO:=Ah (bT (bf cO Jx) hb);replace cI:=Ah (bT (bf cI Jy) hb);replace cW:=Ah (bT (bf cW Jz) hb);replace nG:=Ah (bT (g:=Z1) (o:= .cells #[.int .i64 xF,.slice Mp xG.length Mq,.slice Mr xH.length Ms] 26 (0,0)) (pb nG) hb);replace HB:=Ah (aH (bq HB dh du eA Mo) hb);(try clear hb);obtain⟨hcz119_0,hcz119_1,hcz119_2⟩:=dE nG;obtain⟨hfz119_0,hfz119_1,hfz119_2⟩:=dF nG;have hnb120:=sC.out;have hnc120:=vk.out;obtain⟨hcz121_0,hcz121_1,hcz121_2⟩:=dE cW;obtain⟨hfz121_0,hfz121_1,hfz121_2⟩:=dF cW))
        refine bodyPost_ret (iU rfl _ _ tp 26 #[.int .i64 xF,.slice Mp xG.length Mq,.slice Mr xH.length Ms] (0,0) _ rfl (pb cW) ig rfl (by kernel_rfl)) rfl ?_;exact⟨_,_,er,by(with_reducible repeat(first|apply Kd.bd|apply Kd.bZ|apply Kd.bQ));exact Kd.ax (Kd.aK (p:=⟨tp,2,none⟩) (Kd.aK (p:=⟨tp,1,none⟩) (Kd.aK (p:=⟨tp,0,none⟩) (Kd.dU qb.out cW.out (by decide)) (fun _ hk=>hk.2) (.int .i64 xF)) (fun _ hk=>hk.2) (.slice Mp xG.length Mq)) (fun _ hk=>hk.2) (.slice Mr xH.length Ms)) (fun _ hk=>hk.1.1.1),by(with_reducible repeat(first|apply Kd.bd|apply Kd.bZ|apply Kd.bQ));exact Kd.ax (Kd.aK (p:=⟨tp,2,none⟩) (Kd.aK (p:=⟨tp,1,none⟩) (Kd.aK (p:=⟨tp,0,none⟩) (Kd.dU qc.out cW.out (by decide)) (fun _ hk=>hk.2) (.int .i64 xF)) (fun _ hk=>hk.2) (.slice Mp xG.length Mq)) (fun _ hk=>hk.2) (.slice Mr xH.length Ms)) (fun _ hk=>hk.1.1.1),bq HB dh du eA Mo⟩
     rw[if_pos lJ]at H;have Ce:=bJ lJ;clear lJ
     by_cases jg:0≤cP
     rotate_left
     ·
      rw[if_neg jg]at H;exact absurd H (by simp)
     rw[if_pos jg]at H;have Ed:=bJ jg;clear jg
     by_cases c31:cP<(X.length:Int)
     rotate_left
     ·
      rw[if_neg c31]at H;exact absurd H (by simp)
     rw[if_pos c31]at H;have wT:=bJ c31;clear c31
     by_cases c32:(Gj (((aD X cP).f0)+((aD X cP).f1)))<jl
     ·
      rw[if_pos c32]at H;have c32b0:=bJ c32;clear c32
      by_cases rl:b5.length<8796093022208
      rotate_left
      ·
       rw[if_neg rl]at H;exact absurd H (by simp)
      rw[if_pos rl]at H;have YI:=Ah rl;clear rl;obtain⟨y277,Mt⟩:∃y_:List (Y),y_=(b5++[(⟨(aD X cP).f0,(aD X cP).f1⟩:Y)]):=⟨_,rfl⟩
      replace H:(dC.l0 k2 y277 Ap X (X.length:Int) (Gj (cP+1)) aA X aC jl j9)=some (r1,r2,r3,r4):=by first|(rw[Mt];with_reducible exact H)|(have aq:=(Gm _ _).symm.trans H;rw[Mt];with_reducible exact aq)|(have aq:=(Gm _ _).symm.trans H;with_reducible exact aq)|with_reducible exact H|(rw[Mt];exact H)|exact H
      have Ny277:=Ah Mt;clear Mt;have H':=Ah H;clear H;have m7:0≤(cP:Int):=od;have m8:cP<(X.length:Int):=od;obtain⟨Mu,e275,pM,pN⟩:=dN bo.out cP m7 m8
      cases e275
      replace pM:=hq HB pM;replace pN:=hq HB pN;replace m7:=eq_true m7;replace m8:=eq_true m8
      go_wp2_with (first|((with_reducible refine ag (N:=9) rfl ?_);refine an 9 45 #[.int .i64 0,.int .i64 0] ?_;intro iE hg w34 jO hb;replace bF:=Ah (Kd.b9 (Kd.kN (rr bF.out) iE (aaf hg.symm)) hb);have Mv:=gw hg (aw HB dh du eA);have oX:=gw hg (aw HB dh du eA);replace HB:=Ah (aH (aw HB dh du eA) hb);have pH:=nn cO hg;have vl:=nm cO hg;replace cO:=nb cO hb;have nA:=nn cI hg;have vm:=nm cI hg;replace cI:=nb cI hb;have oG:=nn cW hg;have vn:=nm cW hg;replace cW:=nb cW hb;clear hb hg;have MF:=vl.out;have MG:=pH.out;have TH:=vm.out;have TI:=nA.out;have MH:=vn.out;have MI:=oG.out;obtain⟨EC,ED⟩:=cg jO;obtain⟨EI,EJ⟩:=ch jO;have Mc:=uY.out;have Md:=qw.out;have Ey:=vk.out;have Ez:=sC.out;obtain⟨H5,H6⟩:=cg cI;obtain⟨H7,H8⟩:=ch cI)|((with_reducible refine ik (b:= .append) (xs:= #[.tmp 39,.tmp 41]) rfl ?_);at_builtin;refine Kd.lM aT (w0:=w) w.heap.size rfl (.tmp 39) (.tmp 41) 24 45 (.agg #[(.int .i64 0),(.int .i64 0)]) 16 rfl aad mG rfl (by decide) (by omega) u6 b5 (⟨(aD X cP).f0,(aD X cP).f1⟩:Y) [.int .i64 ((aD X cP).f0),.int .i64 ((aD X cP).f1)] (fun k_=>k_≠oW∧k_≠iE) (fun _=>False) rfl (by first|(go_simp;done)|(go_simp;rfl)) ?aP (fun _ hk=>hk.elim) ?aF ?aO ?aB ?aS ?aL ?_;(case aP=>exact ls _ _ _ (⟨(aD X cP).f0,(aD X cP).f1⟩:Y));(case aB=>exact(bq HB dh du eA oX));(case aF=>exact(fun k_ hk=>⟨Kd.jm (bf cI nA) k_ hk,Kd.jm (g:=iE) (o:= .cells #[.int .i64 ((aD X cP).f0),.int .i64 ((aD X cP).f1)] 45 (0,0)) (pb jO) k_ hk⟩));(case aO=>exact(by(with_reducible repeat(first|apply Kd.bd|apply Kd.bZ|apply Kd.bQ));exact Kd.ax (Kd.aK (p:=⟨iE,1,none⟩) (Kd.aK (p:=⟨iE,0,none⟩) (Kd.ax bF.out (fun k_ hk=>(⟨hk,hk.2⟩:_∧k_≠iE))) (fun _ hk=>hk.2) (.int .i64 ((aD X cP).f0))) (fun _ hk=>hk.2) (.int .i64 ((aD X cP).f1))) (fun _ hk=>⟨hk.1.1,hk.1.2⟩)));(case aS=>exact(bE (bq HB dh du eA oX)));(case aL=>have:=YI.out;omega);intro v278 Pm ho hb hg hat;rw[←Ny277.out]at ho;replace cO:=Ah (dJ (bf cO pH) hg (Kd.dX bF.out cO.out (by decide)));replace cI:=Ah (dJ (bf cI nA) hg (Kd.jL bF.out (fun _ hk=>hk.1)));replace cW:=Ah (dJ (bf cW oG) hg (Kd.dX bF.out cW.out (by decide)));replace jO:=Ah (dJ (g:=iE) (o:= .cells #[.int .i64 ((aD X cP).f0),.int .i64 ((aD X cP).f1)] 45 (0,0)) (pb jO) hg (Kd.jL bF.out (fun _ hk=>hk.2)));replace HB:=Ah (hb);have HO279:=Ah (ho);clear bF;clear ho hb hg hat))
      go_roundg k2
      case measure=>have:=HJ2.out;have:=eE.out;omega
      case rel=>exact⟨(y277),(Ap),(Gj (cP+1)),(jl),(j9),(C4),e3,e3,H',⟨by have:=HJ2.out;have:=eE.out;omega⟩,rm HO279 (fun _ hk=>hk.1),⟨bk cO⟩,⟨bk cI⟩,⟨bk cW⟩,⟨bq HB dh du eA oX⟩⟩
     rw[if_neg c32]at H;have c32b0:=dn c32;clear c32
     by_cases t8:((aD X cP).f0)>(Gj (jl+j9))
     ·
      rw[if_pos t8]at H;have c43b0:=bJ t8;clear t8
      by_cases GY:Ap=true
      ·
       subst GY;rw[if_pos rfl]at H
       by_cases yv:b5.length<8796093022208
       rotate_left
       ·
        rw[if_neg yv]at H;exact absurd H (by simp)
       rw[if_pos yv]at H;have LMc45:=Ah yv;clear yv;obtain⟨y280,Mw⟩:∃y_:List (Y),y_=(b5++[(⟨(aD X cP).f0,(aD X cP).f1⟩:Y)]):=⟨_,rfl⟩
       replace H:(dC.l0 k2 y280 true X (X.length:Int) (Gj (cP+1)) aA X aC jl j9)=some (r1,r2,r3,r4):=by first|(rw[Mw];with_reducible exact H)|(have aq:=(Gm _ _).symm.trans H;rw[Mw];with_reducible exact aq)|(have aq:=(Gm _ _).symm.trans H;with_reducible exact aq)|with_reducible exact H|(rw[Mw];exact H)|exact H
       have Ny280:=Ah Mw;clear Mw;have H':=Ah H;clear H;have m7:0≤(cP:Int):=od;have m8:cP<(X.length:Int):=od;obtain⟨Mu,e275,pM,pN⟩:=dN bo.out cP m7 m8
       cases e275
       replace pM:=hq HB pM;replace pN:=hq HB pN;replace m7:=eq_true m7;replace m8:=eq_true m8
       go_wp2_with (first|((with_reducible refine ag (N:=9) rfl ?_);refine an 9 45 #[.int .i64 0,.int .i64 0] ?_;intro iE hg w46 jO hb;replace bF:=Ah (Kd.b9 (Kd.kN (rr bF.out) iE (aaf hg.symm)) hb);have Mv:=gw hg (aw HB dh du eA);have oX:=gw hg (aw HB dh du eA);replace HB:=Ah (aH (aw HB dh du eA) hb);have pH:=nn cO hg;have vl:=nm cO hg;replace cO:=nb cO hb;have nA:=nn cI hg;have vm:=nm cI hg;replace cI:=nb cI hb;have oG:=nn cW hg;have vn:=nm cW hg;replace cW:=nb cW hb;clear hb hg;have hnb47:=vl.out;have hnc47:=pH.out;have hnb48:=vm.out;have hnc48:=nA.out;have Su:=vn.out;have Sv:=oG.out;obtain⟨HW,HX⟩:=cg jO;obtain⟨Hd,He⟩:=ch jO;have Ye:=uY.out;have Yf:=qw.out;have hnb52:=vk.out;have hnc52:=sC.out;obtain⟨RK,RL⟩:=cg cI;obtain⟨RM,RN⟩:=ch cI)|((with_reducible refine ik (b:= .append) (xs:= #[.tmp 58,.tmp 60]) rfl ?_);at_builtin;refine Kd.lM aT (w0:=w) w.heap.size rfl (.tmp 58) (.tmp 60) 24 45 (.agg #[(.int .i64 0),(.int .i64 0)]) 16 rfl aad mG rfl (by decide) (by omega) u6 b5 (⟨(aD X cP).f0,(aD X cP).f1⟩:Y) [.int .i64 ((aD X cP).f0),.int .i64 ((aD X cP).f1)] (fun k_=>k_≠oW∧k_≠iE) (fun _=>False) rfl (by first|(go_simp;done)|(go_simp;rfl)) ?aP (fun _ hk=>hk.elim) ?aF ?aO ?aB ?aS ?aL ?_;(case aP=>exact ls _ _ _ (⟨(aD X cP).f0,(aD X cP).f1⟩:Y));(case aB=>exact(bq HB dh du eA oX));(case aF=>exact(fun k_ hk=>⟨Kd.jm (bf cI nA) k_ hk,Kd.jm (g:=iE) (o:= .cells #[.int .i64 ((aD X cP).f0),.int .i64 ((aD X cP).f1)] 45 (0,0)) (pb jO) k_ hk⟩));(case aO=>exact(by(with_reducible repeat(first|apply Kd.bd|apply Kd.bZ|apply Kd.bQ));exact Kd.ax (Kd.aK (p:=⟨iE,1,none⟩) (Kd.aK (p:=⟨iE,0,none⟩) (Kd.ax bF.out (fun k_ hk=>(⟨hk,hk.2⟩:_∧k_≠iE))) (fun _ hk=>hk.2) (.int .i64 ((aD X cP).f0))) (fun _ hk=>hk.2) (.int .i64 ((aD X cP).f1))) (fun _ hk=>⟨hk.1.1,hk.1.2⟩)));(case aS=>exact(bE (bq HB dh du eA oX)));(case aL=>have:=LMc45.out;omega);intro v281 w54 ho hb hg hat;rw[←Ny280.out]at ho;replace cO:=Ah (dJ (bf cO pH) hg (Kd.dX bF.out cO.out (by decide)));replace cI:=Ah (dJ (bf cI nA) hg (Kd.jL bF.out (fun _ hk=>hk.1)));replace cW:=Ah (dJ (bf cW oG) hg (Kd.dX bF.out cW.out (by decide)));replace jO:=Ah (dJ (g:=iE) (o:= .cells #[.int .i64 ((aD X cP).f0),.int .i64 ((aD X cP).f1)] 45 (0,0)) (pb jO) hg (Kd.jL bF.out (fun _ hk=>hk.2)));replace HB:=Ah (hb);have HO282:=Ah (ho);clear bF;clear ho hb hg hat))
       go_roundg k2
       case measure=>have:=HJ2.out;have:=eE.out;omega
       case rel=>exact⟨(y280),(true),(Gj (cP+1)),(jl),(j9),(C4),e3,e3,H',⟨by have:=HJ2.out;have:=eE.out;omega⟩,rm HO282 (fun _ hk=>hk.1),⟨bk cO⟩,⟨bk cI⟩,⟨bk cW⟩,⟨bq HB dh du eA oX⟩⟩
      replace GY:=PT.mpr GY;subst GY;rw[if_neg dr]at H
      by_cases pD:b5.length<8796093022208
      rotate_left
      ·
       rw[if_neg pD]at H;exact absurd H (by simp)
      rw[if_pos pD]at H;have LMc55:=Ah pD;clear pD;obtain⟨D6,Mx⟩:∃y_:List (Y),y_=(b5++[(⟨jl,j9⟩:Y)]):=⟨_,rfl⟩
      replace H:(if D6.length<8796093022208 then(dC.l0 k2 (D6++[(⟨(aD X cP).f0,(aD X cP).f1⟩:Y)]) true X (X.length:Int) (Gj (cP+1)) aA X aC jl j9)else(none))=some (r1,r2,r3,r4):=by first|(rw[Mx];with_reducible exact H)|(have aq:=(Gm _ _).symm.trans H;rw[Mx];with_reducible exact aq)|(have aq:=(Gm _ _).symm.trans H;with_reducible exact aq)|with_reducible exact H|(rw[Mx];exact H)|exact H
      have Ny283:=Ah Mx;clear Mx
      by_cases tD:D6.length<8796093022208
      rotate_left
      ·
       rw[if_neg tD]at H;exact absurd H (by simp)
      rw[if_pos tD]at H;have LMc56:=Ah tD;clear tD;obtain⟨y286,My⟩:∃y_:List (Y),y_=(D6++[(⟨(aD X cP).f0,(aD X cP).f1⟩:Y)]):=⟨_,rfl⟩
      replace H:(dC.l0 k2 y286 true X (X.length:Int) (Gj (cP+1)) aA X aC jl j9)=some (r1,r2,r3,r4):=by first|(rw[My];with_reducible exact H)|(have aq:=(Gm _ _).symm.trans H;rw[My];with_reducible exact aq)|(have aq:=(Gm _ _).symm.trans H;with_reducible exact aq)|with_reducible exact H|(rw[My];exact H)|exact H
      have Ny286:=Ah My;clear My;have H':=Ah H;clear H;have m7:0≤(cP:Int):=od;have m8:cP<(X.length:Int):=od;obtain⟨Mu,e275,pM,pN⟩:=dN bo.out cP m7 m8
      cases e275
      replace pM:=hq HB pM;replace pN:=hq HB pN;replace m7:=eq_true m7;replace m8:=eq_true m8
      go_wp2_with (first|((with_reducible refine ag (N:=9) rfl ?_);refine an 9 45 #[.int .i64 0,.int .i64 0] ?_;intro iE hg w57 jO hb;replace bF:=Ah (Kd.b9 (Kd.kN (rr bF.out) iE (aaf hg.symm)) hb);have Mv:=gw hg (aw HB dh du eA);have oX:=gw hg (aw HB dh du eA);replace HB:=Ah (aH (aw HB dh du eA) hb);have pH:=nn cO hg;have vl:=nm cO hg;replace cO:=nb cO hb;have nA:=nn cI hg;have vm:=nm cI hg;replace cI:=nb cI hb;have oG:=nn cW hg;have vn:=nm cW hg;replace cW:=nb cW hb;clear hb hg;have hnb58:=vl.out;have hnc58:=pH.out;have hnb59:=vm.out;have hnc59:=nA.out;have hnb60:=vn.out;have hnc60:=oG.out;obtain⟨WI,WJ⟩:=cg jO;obtain⟨WZ,Wa⟩:=ch jO;have MM:=uY.out;have MN:=qw.out;have hnb63:=vk.out;have hnc63:=sC.out;obtain⟨hcz64_0,hcz64_1⟩:=cg cI;obtain⟨hfz64_0,hfz64_1⟩:=ch cI)|((with_reducible refine ik (b:= .append) (xs:= #[.tmp 54,.tmp 56]) rfl ?_);at_builtin;refine Kd.lM aT (w0:=w) w.heap.size rfl (.tmp 54) (.tmp 56) 24 45 (.agg #[(.int .i64 0),(.int .i64 0)]) 16 rfl aad mG rfl (by decide) (by omega) u6 b5 (⟨jl,j9⟩:Y) [.int .i64 jl,.int .i64 j9] (fun k_=>k_≠oW∧k_≠iE) (fun _=>False) rfl (by first|(go_simp;done)|(go_simp;rfl)) ?aP (fun _ hk=>hk.elim) ?aF ?aO ?aB ?aS ?aL ?_;(case aP=>exact ls _ _ _ (⟨jl,j9⟩:Y));(case aB=>exact(bq HB dh du eA oX));(case aF=>exact(fun k_ hk=>⟨Kd.jm (bf cI nA) k_ hk,Kd.jm (g:=iE) (o:= .cells #[.int .i64 ((aD X cP).f0),.int .i64 ((aD X cP).f1)] 45 (0,0)) (pb jO) k_ hk⟩));(case aO=>exact(by(with_reducible repeat(first|apply Kd.bd|apply Kd.bZ|apply Kd.bQ));exact Kd.ax (Kd.aK (p:=⟨iE,1,none⟩) (Kd.aK (p:=⟨iE,0,none⟩) (Kd.ax bF.out (fun k_ hk=>(⟨hk,hk.2⟩:_∧k_≠iE))) (fun _ hk=>hk.2) (.int .i64 ((aD X cP).f0))) (fun _ hk=>hk.2) (.int .i64 ((aD X cP).f1))) (fun _ hk=>⟨hk.1.1,hk.1.2⟩)));(case aS=>exact(bE (bq HB dh du eA oX)));(case aL=>have:=LMc55.out;omega);intro v284 w65 ho hb hg hat;rw[←Ny283.out]at ho;replace cO:=Ah (dJ (bf cO pH) hg (Kd.dX bF.out cO.out (by decide)));replace cI:=Ah (dJ (bf cI nA) hg (Kd.jL bF.out (fun _ hk=>hk.1)));replace cW:=Ah (dJ (bf cW oG) hg (Kd.dX bF.out cW.out (by decide)));replace jO:=Ah (dJ (g:=iE) (o:= .cells #[.int .i64 ((aD X cP).f0),.int .i64 ((aD X cP).f1)] 45 (0,0)) (pb jO) hg (Kd.jL bF.out (fun _ hk=>hk.2)));replace HB:=Ah (hb);have Ii:=Ah (ho);clear bF;clear ho hb hg hat;obtain⟨RU,RV⟩:=cg jO;obtain⟨RW,RX⟩:=ch jO)|((with_reducible refine ik (b:= .append) (xs:= #[.tmp 58,.tmp 60]) rfl ?_);at_builtin;refine Kd.lM aT (w0:=w) w.heap.size rfl (.tmp 58) (.tmp 60) 24 45 (.agg #[(.int .i64 0),(.int .i64 0)]) 16 rfl aad mG rfl (by decide) (by omega) v284 D6 (⟨(aD X cP).f0,(aD X cP).f1⟩:Y) [.int .i64 ((aD X cP).f0),.int .i64 ((aD X cP).f1)] (fun k_=>k_≠oW∧k_≠iE) (fun _=>False) rfl rfl ?aP (fun _ hk=>hk.elim) ?aF ?aO ?aB ?aS ?aL ?_;(case aP=>exact ls _ _ _ (⟨(aD X cP).f0,(aD X cP).f1⟩:Y));(case aB=>exact(bq HB dh du eA oX));(case aF=>exact(fun k_ hk=>⟨Kd.jm (bk cI) k_ hk,Kd.jm (bk jO) k_ hk⟩));(case aO=>exact(rr Ii.out));(case aS=>exact(bE (bq HB dh du eA oX)));(case aL=>have:=LMc56.out;omega);intro v287 w67 ho hb hg hat;rw[←Ny286.out]at ho;replace cO:=Ah (dJ (bk cO) hg (Kd.dX Ii.out cO.out (by decide)));replace cI:=Ah (dJ (bk cI) hg (Kd.jL Ii.out (fun _ hk=>hk.1)));replace cW:=Ah (dJ (bk cW) hg (Kd.dX Ii.out cW.out (by decide)));replace jO:=Ah (dJ (bk jO) hg (Kd.jL Ii.out (fun _ hk=>hk.2)));replace HB:=Ah (hb);have HO288:=Ah (ho);clear Ii;clear ho hb hg hat))
      go_roundg k2
      case measure=>have:=HJ2.out;have:=eE.out;omega
      case rel=>exact⟨(y286),(true),(Gj (cP+1)),(jl),(j9),(C4),e3,e3,H',⟨by have:=HJ2.out;have:=eE.out;omega⟩,rm HO288 (fun _ hk=>hk.1),⟨bk cO⟩,⟨bk cI⟩,⟨bk cW⟩,⟨bq HB dh du eA oX⟩⟩
     rw[if_neg t8]at H;have c43b0:=dn t8;clear t8
     by_cases DW:(Gj (((aD X cP).f0)+((aD X cP).f1)))=jl
     ·
      rw[if_pos DW]at H;have c68b0:=fU DW;have c68b1:=fV DW;clear DW;have H':=Ah H;clear H;have m7:0≤(cP:Int):=od;have m8:cP<(X.length:Int):=od;obtain⟨Mu,e275,pM,pN⟩:=dN bo.out cP m7 m8
      cases e275
      replace pM:=hq HB pM;replace pN:=hq HB pN;replace m7:=eq_true m7;replace m8:=eq_true m8
      go_wp2_with (first|((with_reducible refine ag (N:=9) rfl ?_);refine an 9 45 #[.int .i64 0,.int .i64 0] ?_;intro iE hg w69 jO hb;replace bF:=Ah (Kd.b9 (Kd.kN (rr bF.out) iE (aaf hg.symm)) hb);have Mv:=gw hg (aw HB dh du eA);have oX:=gw hg (aw HB dh du eA);replace HB:=Ah (aH (aw HB dh du eA) hb);have pH:=nn cO hg;have vl:=nm cO hg;replace cO:=nb cO hb;have nA:=nn cI hg;have vm:=nm cI hg;replace cI:=nb cI hb;have oG:=nn cW hg;have vn:=nm cW hg;replace cW:=nb cW hb;clear hb hg;have hnb70:=vl.out;have hnc70:=pH.out;have T3:=vm.out;have T4:=nA.out;have hnb72:=vn.out;have hnc72:=oG.out;obtain⟨hcz73_0,hcz73_1⟩:=cg jO;obtain⟨hfz73_0,hfz73_1⟩:=ch jO;have hnb74:=uY.out;have hnc74:=qw.out;have YU:=vk.out;have YV:=sC.out;obtain⟨Qv,Qw⟩:=cg cI;obtain⟨Qx,Qy⟩:=ch cI))
      go_roundg k2
      case measure=>have:=HJ2.out;have:=eE.out;omega
      case rel=>exact⟨(b5),(Ap),(Gj (cP+1)),((aD X cP).f0),(Gj (((aD X cP).f1)+j9)),(C4),e3,e3,H',⟨by have:=HJ2.out;have:=eE.out;omega⟩,⟨by(with_reducible repeat(first|apply Kd.bd|apply Kd.bZ|apply Kd.bQ));exact Kd.ax (Kd.aK (p:=⟨oW,1,none⟩) (Kd.aK (p:=⟨oW,0,none⟩) (Kd.aK (p:=⟨iE,1,none⟩) (Kd.aK (p:=⟨iE,0,none⟩) (Kd.ax (Kd.ax bF.out (fun k_ hk=>(⟨hk,hk.2⟩:_∧k_≠iE))) (fun k_ hk=>(⟨hk,hk.1.1⟩:_∧k_≠oW))) (fun _ hk=>hk.1.2) (.int .i64 ((aD X cP).f0))) (fun _ hk=>hk.1.2) (.int .i64 ((aD X cP).f1))) (fun _ hk=>hk.2) (.int .i64 ((aD X cP).f0))) (fun _ hk=>hk.2) (.int .i64 (Gj (((aD X cP).f1)+j9)))) (fun _ hk=>hk.1.1.1)⟩,⟨by(with_reducible repeat(first|refine ex ?_ _|refine cY ?_|refine ew ?_ _));refine gY ?_ qw.out _;(with_reducible repeat(first|refine ex ?_ _|refine cY ?_|refine ew ?_ _));refine gY ?_ qw.out _;(with_reducible repeat(first|refine ex ?_ _|refine cY ?_|refine ew ?_ _));refine gY ?_ pH.out _;(with_reducible repeat(first|refine ex ?_ _|refine cY ?_|refine ew ?_ _));refine gY ?_ pH.out _;exact bk cO⟩,⟨by(with_reducible repeat(first|refine ex ?_ _|refine cY ?_|refine ew ?_ _));refine zV (cs:= #[.int .i64 ((aD X cP).f0),.int .i64 j9]) ?_ 1 _ rfl;(with_reducible repeat(first|refine ex ?_ _|refine cY ?_|refine ew ?_ _));refine zV (cs:= #[.int .i64 jl,.int .i64 j9]) ?_ 0 _ rfl;(with_reducible repeat(first|refine ex ?_ _|refine cY ?_|refine ew ?_ _));refine gY ?_ nA.out _;(with_reducible repeat(first|refine ex ?_ _|refine cY ?_|refine ew ?_ _));refine gY ?_ nA.out _;exact bk cI⟩,⟨by(with_reducible repeat(first|refine ex ?_ _|refine cY ?_|refine ew ?_ _));refine gY ?_ sC.out _;(with_reducible repeat(first|refine ex ?_ _|refine cY ?_|refine ew ?_ _));refine gY ?_ sC.out _;(with_reducible repeat(first|refine ex ?_ _|refine cY ?_|refine ew ?_ _));refine gY ?_ oG.out _;(with_reducible repeat(first|refine ex ?_ _|refine cY ?_|refine ew ?_ _));refine gY ?_ oG.out _;exact bk cW⟩,⟨bq HB dh du eA oX⟩⟩
     rw[if_neg DW]at H;have c68b0:=fS DW;have c68b1:=fT DW
     by_cases DX:((aD X cP).f0)=(Gj (jl+j9))
     rotate_left
     ·
      rw[if_neg DX]at H;have c77b0:=fS DX;have c77b1:=fT DX;simp only[Jh,Ue]at H;obtain⟨rfl,rfl,rfl,rfl⟩:=H;have m7:0≤(cP:Int):=od;have m8:cP<(X.length:Int):=od;obtain⟨Mu,e275,pM,pN⟩:=dN bo.out cP m7 m8
      cases e275
      replace pM:=hq HB pM;replace pN:=hq HB pN;replace m7:=eq_true m7;replace m8:=eq_true m8
      go_wp2_with (first|((with_reducible refine ag (N:=9) rfl ?_);refine an 9 45 #[.int .i64 0,.int .i64 0] ?_;intro iE hg w86 jO hb;replace bF:=Ah (Kd.b9 (Kd.kN (rr bF.out) iE (aaf hg.symm)) hb);have Mv:=gw hg (aw HB dh du eA);have oX:=gw hg (aw HB dh du eA);replace HB:=Ah (aH (aw HB dh du eA) hb);have pH:=nn cO hg;have vl:=nm cO hg;replace cO:=nb cO hb;have nA:=nn cI hg;have vm:=nm cI hg;replace cI:=nb cI hb;have oG:=nn cW hg;have vn:=nm cW hg;replace cW:=nb cW hb;clear hb hg;have hnb87:=vl.out;have hnc87:=pH.out;have hnb88:=vm.out;have hnc88:=nA.out;have hnb89:=vn.out;have hnc89:=oG.out;obtain⟨Wg,Wh⟩:=cg jO;obtain⟨Wi,Wj⟩:=ch jO;have hnb91:=uY.out;have hnc91:=qw.out;have Sn:=vk.out;have So:=sC.out;obtain⟨Wn,Wo⟩:=cg cI;obtain⟨Wp,Wq⟩:=ch cI;have hnb94:=Dt.out;have hnc94:=Ds.out;obtain⟨Wr,Ws,Wt⟩:=dE cW;obtain⟨Wu,Wv,Ww⟩:=dF cW))
      refine bodyPost_ret (iU rfl _ _ tp 26 #[.int .i64 0,.slice none 0 0,.slice none 0 0] (0,0) _ rfl (B4 cW oG) ig rfl (by kernel_rfl)) rfl ?_;exact⟨_,_,er,by first|exact Kd.be _ _ _ _ _|exact Kd.ce _ _ _ _ _|exact Kd.cf _ _ _ _ _|exact Kd.cZ _ _ _ _ _|exact Kd.ca _ _ _ _ _,by first|exact Kd.be _ _ _ _ _|exact Kd.ce _ _ _ _ _|exact Kd.cf _ _ _ _ _|exact Kd.cZ _ _ _ _ _|exact Kd.ca _ _ _ _ _,bq HB dh du eA oX⟩
     rw[if_pos DX]at H;have c77b0:=fU DX;have c77b1:=fV DX;clear DX;have H':=Ah H;clear H;have m7:0≤(cP:Int):=od;have m8:cP<(X.length:Int):=od;obtain⟨Mu,e275,pM,pN⟩:=dN bo.out cP m7 m8
     cases e275
     replace pM:=hq HB pM;replace pN:=hq HB pN;replace m7:=eq_true m7;replace m8:=eq_true m8
     go_wp2_with (first|((with_reducible refine ag (N:=9) rfl ?_);refine an 9 45 #[.int .i64 0,.int .i64 0] ?_;intro iE hg w78 jO hb;replace bF:=Ah (Kd.b9 (Kd.kN (rr bF.out) iE (aaf hg.symm)) hb);have Mv:=gw hg (aw HB dh du eA);have oX:=gw hg (aw HB dh du eA);replace HB:=Ah (aH (aw HB dh du eA) hb);have pH:=nn cO hg;have vl:=nm cO hg;replace cO:=nb cO hb;have nA:=nn cI hg;have vm:=nm cI hg;replace cI:=nb cI hb;have oG:=nn cW hg;have vn:=nm cW hg;replace cW:=nb cW hb;clear hb hg;have hnb79:=vl.out;have hnc79:=pH.out;have hnb80:=vm.out;have hnc80:=nA.out;have hnb81:=vn.out;have hnc81:=oG.out;obtain⟨hcz82_0,hcz82_1⟩:=cg jO;obtain⟨hfz82_0,hfz82_1⟩:=ch jO;have hnb83:=uY.out;have hnc83:=qw.out;have hnb84:=vk.out;have hnc84:=sC.out;obtain⟨hcz85_0,hcz85_1⟩:=cg cI;obtain⟨hfz85_0,hfz85_1⟩:=ch cI))
     go_roundg k2
     case measure=>have:=HJ2.out;have:=eE.out;omega
     case rel=>exact⟨(b5),(Ap),(Gj (cP+1)),(jl),(Gj (j9+((aD X cP).f1))),(C4),e3,e3,H',⟨by have:=HJ2.out;have:=eE.out;omega⟩,⟨by(with_reducible repeat(first|apply Kd.bd|apply Kd.bZ|apply Kd.bQ));exact Kd.ax (Kd.aK (p:=⟨oW,1,none⟩) (Kd.aK (p:=⟨iE,1,none⟩) (Kd.aK (p:=⟨iE,0,none⟩) (Kd.ax (Kd.ax bF.out (fun k_ hk=>(⟨hk,hk.2⟩:_∧k_≠iE))) (fun k_ hk=>(⟨hk,hk.1.1⟩:_∧k_≠oW))) (fun _ hk=>hk.1.2) (.int .i64 ((aD X cP).f0))) (fun _ hk=>hk.1.2) (.int .i64 ((aD X cP).f1))) (fun _ hk=>hk.2) (.int .i64 (Gj (j9+((aD X cP).f1))))) (fun _ hk=>hk.1.1.1)⟩,⟨by(with_reducible repeat(first|refine ex ?_ _|refine cY ?_|refine ew ?_ _));refine gY ?_ qw.out _;(with_reducible repeat(first|refine ex ?_ _|refine cY ?_|refine ew ?_ _));refine gY ?_ pH.out _;(with_reducible repeat(first|refine ex ?_ _|refine cY ?_|refine ew ?_ _));refine gY ?_ pH.out _;exact bk cO⟩,⟨by(with_reducible repeat(first|refine ex ?_ _|refine cY ?_|refine ew ?_ _));refine zV (cs:= #[.int .i64 jl,.int .i64 j9]) ?_ 1 _ rfl;(with_reducible repeat(first|refine ex ?_ _|refine cY ?_|refine ew ?_ _));refine gY ?_ nA.out _;(with_reducible repeat(first|refine ex ?_ _|refine cY ?_|refine ew ?_ _));refine gY ?_ nA.out _;exact bk cI⟩,⟨by(with_reducible repeat(first|refine ex ?_ _|refine cY ?_|refine ew ?_ _));refine gY ?_ sC.out _;(with_reducible repeat(first|refine ex ?_ _|refine cY ?_|refine ew ?_ _));refine gY ?_ oG.out _;(with_reducible repeat(first|refine ex ?_ _|refine cY ?_|refine ew ?_ _));refine gY ?_ oG.out _;exact bk cW⟩,⟨bq HB dh du eA oX⟩⟩
end Go.Proofs.Ytfeokehfhaimkaa.G
