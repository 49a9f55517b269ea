-- Printed by a program of this session (drive.py, by way of the kit's print). Not trusted: Lean checks it.
import Derived.Test.YtmbjmacpigojjaaG0
import Derived.Test.YtmbjmacpigojjaaG2
import Derived.Test.YtmbjmacpigojjaaG5
import Derived.Test.YtmbjmacpigojjaaG6
import Derived.Test.YtmbjmacpigojjaaG7
open Bool renaming eq_false_iff→i1,not_true→aaW,not_false→aaX
open ByteArray renaming empty→JZ
open Go.Proofs.Try renaming func8→aaK,func12→abe
open Go.RowKit renaming wrap64→IH
open List renaming setIfInBounds_toArray→Ok,set_cons_zero→mr,set_cons_succ→mQ
open Nat renaming le_refl→lQ,le_of_eq→aau
open Option renaming bind_eq_some_iff→Hz
open Option.some renaming inj→ec
namespace Go.Proofs.Ytmbjmacpigojjaa.G
open Go.RowKit Go.Proofs.YtmbjmacpigojjaaW.PrintWords Go.Proofs.YtmbjmacpigojjaaW.PrintLast Go.Proofs.YtmbjmacpigojjaaW.PrintMore
attribute [local go_sem] uf ug uk ul uV uW uh ui
set_option linter.unusedVariables false
set_option linter.unusedSimpArgs false
mutual
def cK.j0:Nat→List Int→List (aQ)→Bool→Bool→List ByteArray→List (aQ)→List ByteArray→Int→List ByteArray→List (aQ)→List ByteArray→Int→Option (Bool)
 |0,_,_,_,_,_,_,_,_,_,_,_,_=>none
 |k+1,x1,x6,x8,x69,x746000,x746001,x746002,x746003,rI,rJ,rK,rL=>if x69=true then(some false)else(if x8=true then((gM.f k x746000 x746001 x746002 x746003).bind fun OS=>((gM.f k rI rJ rK rL).bind fun OT=>(if OS.2=true then(cK.j1 k x1 x6 OS.1 OT.1 (!OT.2) rI rJ rK rL)else(cK.j1 k x1 x6 OS.1 OT.1 true rI rJ rK rL))))else(cK.j5 k x1))
def cK.j5:Nat→List Int→Option (Bool)
 |0,_=>none
 |k+1,x1=>(qE.f k x1).bind fun nD=>((mt.f k nD).bind fun CR=>((mu.f k nD).bind fun Xe=>(if(CR.2 !=Xe.2)=true then(cK.j6 k nD CR.1 CR.2 true)else(cK.j6 k nD CR.1 CR.2 (CR.1.toList !=Xe.1.toList)))))
def cK.j6:Nat→List (aQ)→ByteArray→Bool→Bool→Option (Bool)
 |0,_,_,_,_=>none
 |k+1,x31,x32,x33,x206=>if x206=true then(some false)else(if x33=true then((ex.f k x32).bind fun Xf=>(if Xf.2=true then((i9.f k Xf.1 x31).bind fun Q5=>(some Q5))else(some false)))else(some (x32.toList==([]:List UInt8))))
def cK.j1:Nat→List Int→List (aQ)→List ByteArray→List ByteArray→Bool→List ByteArray→List (aQ)→List ByteArray→Int→Option (Bool)
 |0,_,_,_,_,_,_,_,_,_=>none
 |k+1,x1,x6,ft,de,x86,rI,rJ,rK,rL=>if x86=true then(some false)else(cK.l0 k x1 x6 ft de (ft.length:Int) 0 rI rJ rK rL)
def cK.l0:Nat→List Int→List (aQ)→List ByteArray→List ByteArray→Int→Int→List ByteArray→List (aQ)→List ByteArray→Int→Option (Bool)
 |0,_,_,_,_,_,_,_,_,_,_=>none
 |k+1,x1,x6,ft,de,x88,x89,rI,rJ,rK,rL=>if x89<x88 then(if 0≤x89 then(if x89<(ft.length:Int)then(cK.l1 k x1 x6 ft de x89 (dN JZ ft x89) x88 x89 x6 (x6.length:Int) 0 rI rJ rK rL)else(none))else(none))else((pR.f k rI rJ rK rL).bind fun vH=>((gM.f k vH.1 vH.2.1 vH.2.2.1 vH.2.2.2.1).bind fun Xg=>((kF.f k vH.1 vH.2.1 vH.2.2.1 vH.2.2.2.1).bind fun oS=>(if vH.2.2.2.2=true then(if Xg.2=true then((fY.f k Xg.1 de).bind fun L9=>(cK.j4 k x1 de oS.2.2.2.2 (!L9) oS.1 oS.2.1 oS.2.2.1 oS.2.2.2.1))else(cK.j4 k x1 de oS.2.2.2.2 true oS.1 oS.2.1 oS.2.2.1 oS.2.2.2.1))else(cK.j4 k x1 de oS.2.2.2.2 true oS.1 oS.2.1 oS.2.2.1 oS.2.2.2.1)))))
def cK.l1:Nat→List Int→List (aQ)→List ByteArray→List ByteArray→Int→ByteArray→Int→Int→List (aQ)→Int→Int→List ByteArray→List (aQ)→List ByteArray→Int→Option (Bool)
 |0,_,_,_,_,_,_,_,_,_,_,_,_,_,_,_=>none
 |k+1,x1,x6,ft,de,kS,x16,x88,x89,x96,Rs,x98,rI,rJ,rK,rL=>if x98<Rs then(if 0≤x98 then(if x98<(x96.length:Int)then(if((aM x96 x98).f0)=kS then(cK.l1 k x1 x6 ft de kS ((aM x96 x98).f1) x88 x89 x96 Rs (IH (x98+1)) rI rJ rK rL)else(cK.l1 k x1 x6 ft de kS x16 x88 x89 x96 Rs (IH (x98+1)) rI rJ rK rL))else(none))else(none))else(if 0≤kS then(if kS<(de.length:Int)then(if(dN JZ de kS).toList=x16.toList then(cK.l0 k x1 x6 ft de x88 (IH (x89+1)) rI rJ rK rL)else(some false))else(none))else(none))
def cK.j4:Nat→List Int→List ByteArray→Bool→Bool→List ByteArray→List (aQ)→List ByteArray→Int→Option (Bool)
 |0,_,_,_,_,_,_,_,_=>none
 |k+1,x1,de,x24,x142,Vq,Vr,Vs,Vt=>if x142=true then(some false)else(if x24=true then((gM.f k Vq Vr Vs Vt).bind fun Xh=>((lR.f k Vq Vr Vs Vt).bind fun CS=>((gM.f k CS.1 CS.2.1 CS.2.2.1 CS.2.2.2.1).bind fun Xi=>(if Xh.2=true then(if CS.2.2.2.2=true then(if Xi.2=true then((fY.f k Xh.1 de).bind fun Q6=>(if Q6=true then((fY.f k Xi.1 de).bind fun Q7=>(if Q7=true then(if(CS.2.2.1.length:Int)=0 then(cK.j5 k x1)else(some false))else(some false)))else(some false)))else(some false))else(some false))else(some false)))))else(cK.j5 k x1))
end
def cK.f(k:Nat)(l0:List Int)(l1:List Int):Option (Bool):=if(IH ((l0.length:Int)+(l1.length:Int)))>1048576 then(some true)else((kE.f k l0).bind fun gR=>((gD.f k gR.1 gR.2.1 gR.2.2.1 gR.2.2.2.1 gR.2.2.2.2).bind fun iQ=>((fR.f k gR.1 gR.2.1 gR.2.2.1 gR.2.2.2.1 gR.2.2.2.2).bind fun sW=>(if(iQ.2.2.2.2 !=sW.2.2.2.2)=true then(cK.j0 k l1 gR.2.2.2.2 iQ.2.2.2.2 true gR.1 gR.2.1 gR.2.2.1 gR.2.2.2.1 iQ.1 iQ.2.1 iQ.2.2.1 iQ.2.2.2.1)else((pQ.f k iQ.1 iQ.2.1 iQ.2.2.1 iQ.2.2.2.1 sW.1 sW.2.1 sW.2.2.1 sW.2.2.2.1).bind fun Cx=>(cK.j0 k l1 gR.2.2.2.2 iQ.2.2.2.2 (!Cx) gR.1 gR.2.1 gR.2.2.1 gR.2.2.2.1 iQ.1 iQ.2.1 iQ.2.2.1 iQ.2.2.2.1))))))
theorem cK.cW:∀k,(∀y0 y1 y2 y3 y4 y5 y6 y7 y8 y9 I1 I2,aE (cK.j0 k y0 y1 y2 y3 y4 y5 y6 y7 y8 y9 I1 I2) (cK.j0 (k+1) y0 y1 y2 y3 y4 y5 y6 y7 y8 y9 I1 I2))∧(∀y0,aE (cK.j5 k y0) (cK.j5 (k+1) y0))∧(∀y0 y1 y2 y3,aE (cK.j6 k y0 y1 y2 y3) (cK.j6 (k+1) y0 y1 y2 y3))∧(∀y0 y1 y2 y3 y4 y5 y6 y7 y8,aE (cK.j1 k y0 y1 y2 y3 y4 y5 y6 y7 y8) (cK.j1 (k+1) y0 y1 y2 y3 y4 y5 y6 y7 y8))∧(∀y0 y1 y2 y3 y4 y5 y6 y7 y8 y9,aE (cK.l0 k y0 y1 y2 y3 y4 y5 y6 y7 y8 y9) (cK.l0 (k+1) y0 y1 y2 y3 y4 y5 y6 y7 y8 y9))∧(∀y0 y1 y2 y3 y4 y5 y6 y7 y8 y9 I1 I2 y12 y13 y14,aE (cK.l1 k y0 y1 y2 y3 y4 y5 y6 y7 y8 y9 I1 I2 y12 y13 y14) (cK.l1 (k+1) y0 y1 y2 y3 y4 y5 y6 y7 y8 y9 I1 I2 y12 y13 y14))∧(∀y0 y1 y2 y3 y4 y5 y6 y7,aE (cK.j4 k y0 y1 y2 y3 y4 y5 y6 y7) (cK.j4 (k+1) y0 y1 y2 y3 y4 y5 y6 y7))
 |0=>⟨fun _ _ _ _ _ _ _ _ _ _ _ _ r h=>by simp[cK.j0]at h,fun _ r h=>by simp[cK.j5]at h,fun _ _ _ _ r h=>by simp[cK.j6]at h,fun _ _ _ _ _ _ _ _ _ r h=>by simp[cK.j1]at h,fun _ _ _ _ _ _ _ _ _ _ r h=>by simp[cK.l0]at h,fun _ _ _ _ _ _ _ _ _ _ _ _ _ _ _ r h=>by simp[cK.l1]at h,fun _ _ _ _ _ _ _ _ r h=>by simp[cK.j4]at h⟩
 |k+1=>by
  obtain⟨be,ih1,ih2,ih3,Lb,Lc,Ld⟩:=cK.cW k
  refine⟨?_, ?_, ?_, ?_, ?_, ?_, ?_⟩<;>intros<;>first|unfold cK.j0|unfold cK.j5|unfold cK.j6|unfold cK.j1|unfold cK.l0|unfold cK.l1|unfold cK.j4
  all_goals repeat' first
   |(with_reducible exact be _ _ _ _ _ _ _ _ _ _ _ _)
   |(with_reducible exact ih1 _)
   |(with_reducible exact ih2 _ _ _ _)
   |(with_reducible exact ih3 _ _ _ _ _ _ _ _ _)
   |(with_reducible exact Lb _ _ _ _ _ _ _ _ _ _)
   |(with_reducible exact Lc _ _ _ _ _ _ _ _ _ _ _ _ _ _ _)
   |(with_reducible exact Ld _ _ _ _ _ _ _ _)
   |(with_reducible exact lR.mono _ _ _ _ _)
   |(with_reducible exact gD.mono _ _ _ _ _ _)
   |(with_reducible exact ex.mono _ _)
   |(with_reducible exact pR.mono _ _ _ _ _)
   |(with_reducible exact mt.mono _ _)
   |(with_reducible exact gM.mono _ _ _ _ _)
   |(with_reducible exact kF.mono _ _ _ _ _)
   |(with_reducible exact pQ.mono _ _ _ _ _ _ _ _ _)
   |(with_reducible exact fY.mono _ _ _)
   |(with_reducible exact i9.mono _ _ _)
   |(with_reducible exact fR.mono _ _ _ _ _ _)
   |(with_reducible exact kE.mono _ _)
   |(with_reducible exact qE.mono _ _)
   |(with_reducible exact mu.mono _ _)
   |(with_reducible exact aE.refl _)
   |(with_reducible exact aE.none _)
   |(with_reducible refine aE.ite ?_ ?_)
   |(with_reducible refine aE.bind ?_ (fun _=> ?_))
   |exact be _ _ _ _ _ _ _ _ _ _ _ _
   |exact ih1 _
   |exact ih2 _ _ _ _
   |exact ih3 _ _ _ _ _ _ _ _ _
   |exact Lb _ _ _ _ _ _ _ _ _ _
   |exact Lc _ _ _ _ _ _ _ _ _ _ _ _ _ _ _
   |exact Ld _ _ _ _ _ _ _ _
   |exact lR.mono _ _ _ _ _
   |exact gD.mono _ _ _ _ _ _
   |exact ex.mono _ _
   |exact pR.mono _ _ _ _ _
   |exact mt.mono _ _
   |exact gM.mono _ _ _ _ _
   |exact kF.mono _ _ _ _ _
   |exact pQ.mono _ _ _ _ _ _ _ _ _
   |exact fY.mono _ _ _
   |exact i9.mono _ _ _
   |exact fR.mono _ _ _ _ _ _
   |exact kE.mono _ _
   |exact qE.mono _ _
   |exact mu.mono _ _
   |exact aE.none _
   |refine aE.ite ?_ ?_
   |refine aE.bind ?_ (fun _=> ?_)
theorem cK.mono:∀a0 a1 k,aE (cK.f k a0 a1) (cK.f (k+1) a0 a1):=by
 intro a0 a1 k;obtain⟨be,ih1,ih2,ih3,Lb,Lc,Ld⟩:=cK.cW k;unfold cK.f
 repeat' with_reducible first|exact be _ _ _ _ _ _ _ _ _ _ _ _|exact ih1 _|exact ih2 _ _ _ _|exact ih3 _ _ _ _ _ _ _ _ _|exact Lb _ _ _ _ _ _ _ _ _ _|exact Lc _ _ _ _ _ _ _ _ _ _ _ _ _ _ _|exact Ld _ _ _ _ _ _ _ _|exact lR.mono _ _ _ _ _|exact gD.mono _ _ _ _ _ _|exact ex.mono _ _|exact pR.mono _ _ _ _ _|exact mt.mono _ _|exact gM.mono _ _ _ _ _|exact kF.mono _ _ _ _ _|exact pQ.mono _ _ _ _ _ _ _ _ _|exact fY.mono _ _ _|exact i9.mono _ _ _|exact fR.mono _ _ _ _ _ _|exact kE.mono _ _|exact qE.mono _ _|exact mu.mono _ _|exact aE.refl _|exact aE.none _|refine aE.ite ?_ ?_|refine aE.bind ?_ (fun _=> ?_)
set_option maxHeartbeats 8000000 in
set_option maxRecDepth 100000 in
theorem cK.calls(k:Nat)(A0:Option Addr)(c0:Nat)(l0:List Int)(A1:Option Addr)(c1:Nat)(l1:List Int)(r:Bool)(w:World)(hr0:Kd.C (Kd.int .u8) w A0 l0.length l0)(hc0:l0.length≤c0)(hr1:Kd.C (Kd.int .u8) w A1 l1.length l1)(hc1:l1.length≤c1)(h:cK.f k l0 l1=some r):
 Calls Try.prog 3 #[.slice A0 l0.length c0,.slice A1 l1.length c1] w fun e w'=>e= .returned (.bool r)∧Below w.heap.size w w':=by
 have me:=Try.underlying28;have jt:=Try.underlying37;have dU:=Ah hr0;have gK:=Ah hc0;clear hr0 hc0;have HR1:=Ah hr1;have nK:=Ah hc1;clear hr1 hc1;have HB:=Ah (Below.refl w.heap.size w);have H:(if(IH ((l0.length:Int)+(l1.length:Int)))>1048576 then(some true)else((kE.f k l0).bind fun gR=>((gD.f k gR.1 gR.2.1 gR.2.2.1 gR.2.2.2.1 gR.2.2.2.2).bind fun iQ=>((fR.f k gR.1 gR.2.1 gR.2.2.1 gR.2.2.2.1 gR.2.2.2.2).bind fun sW=>(if(iQ.2.2.2.2 !=sW.2.2.2.2)=true then(cK.j0 k l1 gR.2.2.2.2 iQ.2.2.2.2 true gR.1 gR.2.1 gR.2.2.1 gR.2.2.2.1 iQ.1 iQ.2.1 iQ.2.2.1 iQ.2.2.2.1)else((pQ.f k iQ.1 iQ.2.1 iQ.2.2.1 iQ.2.2.2.1 sW.1 sW.2.1 sW.2.2.1 sW.2.2.2.1).bind fun Cx=>(cK.j0 k l1 gR.2.2.2.2 iQ.2.2.2.2 (!Cx) gR.1 gR.2.1 gR.2.2.1 gR.2.2.2.1 iQ.1 iQ.2.1 iQ.2.2.1 iQ.2.2.2.1)))))))=some r:=h;clear h
 by_cases c3:(IH ((l0.length:Int)+(l1.length:Int)))>1048576
 ·
  rw[if_pos c3]at H;have f9:decide (1048576<(IH ((l0.length:Int)+(l1.length:Int))))=true:=decide_eq_true c3;clear c3;obtain rfl:=ec H
  go_enter Try.func3,Try.ntmps3
  go_wp2
  go_ret
  exact⟨er,bs HB⟩
 rw[if_neg c3]at H;have f9:decide (1048576<(IH ((l0.length:Int)+(l1.length:Int))))=false:=decide_eq_false c3;clear c3;replace H:=Hz.mp H;obtain⟨⟨dP,fA,da,nj,cO⟩,ek,H⟩:=H
 try dsimp only at H
 have A4:=Ah ek;clear ek;replace H:=Hz.mp H;obtain⟨⟨dH,ej,dQ,mf,sr⟩,px,H⟩:=H
 try dsimp only at H
 have A5:=Ah px;clear px;replace H:=Hz.mp H;obtain⟨⟨cx,eU,dA,lp,wC⟩,gF,H⟩:=H
 try dsimp only at H
 have A6:=Ah gF;clear gF;have Rt:=Ah H;clear H
 go_enter Try.func3,Try.ntmps3
 go_upto_region 6 with(first|((with_reducible refine ar (f:=4) rfl ?_);refine gL (some 46) rfl rfl Try.func4 (by kernel_rfl) rfl #[.slice A0 l0.length c0] rfl ?_;(with_reducible refine(kE.calls k _ _ l0 dP fA da nj cO _ ?aI ?aJ A4.out).mono ?_);(case aI=>repeat(first|exact dU.out|(with_reducible refine Kd.ji ?_ _)|(with_reducible refine Kd.jj ?_ _)|(with_reducible refine Kd.jm ?_)));(case aJ=>exact gK.out);rintro e w8 ⟨v733,v736,v739,v743,rfl,ho0,ho1,ho2,ho3,hb⟩;refine⟨_,rfl, ?_⟩;have kJ:=Ah (Kd.b8 ho0 (bF (bs HB)));have lA:=Ah (Kd.b8 ho1 (bF (bs HB)));have kK:=Ah (Kd.b8 ho2 (bF (bs HB)));have lB:=Ah (Kd.b8 ho3 (bF (bs HB)));replace HB:=Ah (aT (bs HB) hb);(try clear hb ho0 ho1 ho2 ho3))|((with_reducible refine bC (N:=5) rfl ?_);(try(refine fS (by rfl) ?_;dsimp only));refine bK 5 28 #[.slice none 0 0,.slice none 0 0,.slice none 0 0,.int .i64 0] ?_;intro xQ hg w9 bG hb;replace kJ:=nr kJ hb;replace lA:=nr lA hb;replace kK:=nr kK hb;replace lB:=nr lB hb;have GW745:=gw hg (bs HB);have bJ:=gw hg (bs HB);replace HB:=Ah (aT (bs HB) hb);clear hb hg;obtain⟨dB,dC,Cy⟩:=Kd.ao kJ.out;subst Cy;obtain⟨jC,jD,l4,l5⟩:=b9 bG;obtain⟨jE,jF,l6,l7⟩:=bA bG;obtain⟨d5,cq,p9⟩:=Kd.ao lA.out;subst p9;obtain⟨bx,bu,nE⟩:=Kd.ao kK.out;subst nE;obtain⟨g6,g7,qt⟩:=Kd.ao lB.out;subst qt)|((with_reducible refine ar (f:=5) rfl ?_);refine gL (some 52) rfl rfl Try.func5 (by kernel_rfl) rfl #[.agg #[.slice dB dP.length dC,.slice d5 fA.length cq,.slice bx da.length bu,.int .i64 nj],.slice g6 cO.length g7] rfl ?_;(with_reducible refine(gD.calls k _ _ dP _ _ fA _ _ da nj _ _ cO dH ej dQ mf sr _ ?aI ?aJ ?af ?ak ?bN ?bc ?qU ?vI A5.out).mono ?_);(case aI=>exact rc kJ bG);(case aJ=>exact(Kd.aq kJ.out).2.1);(case af=>exact rc lA bG);(case ak=>exact(Kd.aq lA.out).2.1);(case bN=>exact rc kK bG);(case bc=>exact(Kd.aq kK.out).2.1);(case qU=>exact rc lB bG);(case vI=>exact(Kd.aq lB.out).2.1);rintro e jN ⟨v747,v750,v753,rfl,ho0,ho1,ho2,hb⟩;refine⟨_,rfl, ?_⟩;have oT:=Ah (Kd.b8 (Kd.aA (Kd.aA ho0 (Kd.Z (rf kJ bG))) (Kd.Z (rf kK bG))) (bF (aZ HB bJ)));have pc:=Ah (Kd.b8 (Kd.aA (Kd.aA ho1 (Kd.Z (rf lA bG))) (Kd.Z (rf lB bG))) (bF (aZ HB bJ)));replace lA:=Ah (Kd.aX (rf lA bG) (Kd.a8 ho1) hb);replace lB:=Ah (Kd.aX (rf lB bG) (Kd.a8 ho1) hb);have oU:=Ah (Kd.b8 (Kd.aA (Kd.aA ho2 (Kd.Z (rf kJ bG))) (Kd.Z (rf kK bG))) (bF (aZ HB bJ)));replace kJ:=Ah (Kd.aH (Kd.ag (Kd.ag (Kd.bo (rf kJ bG) hb) (Kd.a8 ho0)) (Kd.a8 ho2)) (fun _ h_=>h_.1));replace kK:=Ah (Kd.aH (Kd.ag (Kd.ag (Kd.bo (rf kK bG) hb) (Kd.a8 ho0)) (Kd.a8 ho2)) (fun _ h_=>h_.1));replace bG:=Ah (cS (g:=xQ) (o:= .cells #[.slice dB dP.length dC,.slice d5 fA.length cq,.slice bx da.length bu,.int .i64 nj] 28 (0,0)) (by(with_reducible repeat(first|refine aC ?_ _|refine U ?_|refine X ?_ _));refine aU (cs:= #[.slice dB dP.length dC,.slice d5 fA.length cq,.slice bx da.length bu,.int .i64 0]) ?_ 3 _ rfl;(with_reducible repeat(first|refine aC ?_ _|refine U ?_|refine X ?_ _));refine aU (cs:= #[.slice dB dP.length dC,.slice d5 fA.length cq,.slice none 0 0,.int .i64 0]) ?_ 2 _ rfl;(with_reducible repeat(first|refine aC ?_ _|refine U ?_|refine X ?_ _));refine aU (cs:= #[.slice dB dP.length dC,.slice none 0 0,.slice none 0 0,.int .i64 0]) ?_ 1 _ rfl;(with_reducible repeat(first|refine aC ?_ _|refine U ?_|refine X ?_ _));refine aU (cs:= #[.slice none 0 0,.slice none 0 0,.slice none 0 0,.int .i64 0]) ?_ 0 _ rfl;(with_reducible repeat(first|refine aC ?_ _|refine U ?_|refine X ?_ _));exact bG.out) hb);replace HB:=Ah (aT (aZ HB bJ) hb);(try clear hb ho0 ho1 ho2))|((with_reducible refine bC (N:=7) rfl ?_);(try(refine fS (by rfl) ?_;dsimp only));refine bK 7 28 #[.slice none 0 0,.slice none 0 0,.slice none 0 0,.int .i64 0] ?_;intro xR hg w16 bE hb;replace kJ:=nr kJ hb;replace lA:=nr lA hb;replace kK:=nr kK hb;replace lB:=nr lB hb;replace oT:=nr oT hb;replace pc:=nr pc hb;replace oU:=nr oU hb;have GW757:=gw hg (aZ HB bJ);have bM:=gw hg (aZ HB bJ);replace HB:=Ah (aT (aZ HB bJ) hb);have E0:=nn bG hg;have Ie:=nm bG hg;replace bG:=nb bG hb;clear hb hg;obtain⟨cZ,ca,wD⟩:=Kd.ao oT.out;subst wD;have hnb18:=Ie.out;have hnc18:=E0.out;obtain⟨m5,m6,pT,pU⟩:=b9 bE;obtain⟨m7,m8,pV,pW⟩:=bA bE;obtain⟨fP,fQ,AQ⟩:=Kd.ao pc.out;subst AQ;obtain⟨eF,eG,eo21⟩:=Kd.ao oU.out;subst eo21;obtain⟨kd,ke,mU,mV⟩:=b9 bG;obtain⟨kf,kg,mW,mX⟩:=bA bG)|((with_reducible refine ar (f:=6) rfl ?_);refine gL (some 58) rfl rfl Try.func6 (by kernel_rfl) rfl #[.agg #[.slice dB dP.length dC,.slice d5 fA.length cq,.slice bx da.length bu,.int .i64 nj],.slice g6 cO.length g7] rfl ?_;(with_reducible refine(fR.calls k _ _ dP _ _ fA _ _ da nj _ _ cO cx eU dA lp wC _ ?aI ?aJ ?af ?ak ?bN ?bc ?qU ?vI A6.out).mono ?_);(case aI=>exact rc kJ bE);(case aJ=>exact(Kd.aq kJ.out).2.1);(case af=>exact rc lA bE);(case ak=>exact(Kd.aq lA.out).2.1);(case bN=>exact rc kK bE);(case bc=>exact(Kd.aq kK.out).2.1);(case qU=>exact rc lB bE);(case vI=>exact(Kd.aq lB.out).2.1);rintro e tM ⟨v759,v762,v765,rfl,ho0,ho1,ho2,hb⟩;refine⟨_,rfl, ?_⟩;have vJ:=Ah (Kd.b8 (Kd.aA (Kd.aA (Kd.aA (Kd.aA ho0 (Kd.Z (rf kJ bE))) (Kd.Z (rf kK bE))) (Kd.Z (rf oT bE))) (Kd.Z (rf oU bE))) (bF (aj HB bJ bM)));have vK:=Ah (Kd.b8 (Kd.aA (Kd.aA (Kd.aA ho1 (Kd.Z (rf lA bE))) (Kd.Z (rf lB bE))) (Kd.Z (rf pc bE))) (bF (aj HB bJ bM)));replace lA:=Ah (Kd.aX (rf lA bE) (Kd.a8 ho1) hb);replace lB:=Ah (Kd.aX (rf lB bE) (Kd.a8 ho1) hb);replace pc:=Ah (Kd.aX (rf pc bE) (Kd.a8 ho1) hb);have vL:=Ah (Kd.b8 (Kd.aA (Kd.aA (Kd.aA (Kd.aA ho2 (Kd.Z (rf kJ bE))) (Kd.Z (rf kK bE))) (Kd.Z (rf oT bE))) (Kd.Z (rf oU bE))) (bF (aj HB bJ bM)));replace kJ:=Ah (Kd.aH (Kd.ag (Kd.ag (Kd.bo (rf kJ bE) hb) (Kd.a8 ho0)) (Kd.a8 ho2)) (fun _ h_=>h_.1));replace kK:=Ah (Kd.aH (Kd.ag (Kd.ag (Kd.bo (rf kK bE) hb) (Kd.a8 ho0)) (Kd.a8 ho2)) (fun _ h_=>h_.1));replace oT:=Ah (Kd.aH (Kd.ag (Kd.ag (Kd.bo (rf oT bE) hb) (Kd.a8 ho0)) (Kd.a8 ho2)) (fun _ h_=>h_.1));replace oU:=Ah (Kd.aH (Kd.ag (Kd.ag (Kd.bo (rf oU bE) hb) (Kd.a8 ho0)) (Kd.a8 ho2)) (fun _ h_=>h_.1));replace bG:=Ah (cS (bf bG E0) hb);replace bE:=Ah (cS (g:=xR) (o:= .cells #[.slice cZ dH.length ca,.slice fP ej.length fQ,.slice eF dQ.length eG,.int .i64 mf] 28 (0,0)) (by(with_reducible repeat(first|refine aC ?_ _|refine U ?_|refine X ?_ _));refine aU (cs:= #[.slice cZ dH.length ca,.slice fP ej.length fQ,.slice eF dQ.length eG,.int .i64 0]) ?_ 3 _ rfl;(with_reducible repeat(first|refine aC ?_ _|refine U ?_|refine X ?_ _));refine aU (cs:= #[.slice cZ dH.length ca,.slice fP ej.length fQ,.slice none 0 0,.int .i64 0]) ?_ 2 _ rfl;(with_reducible repeat(first|refine aC ?_ _|refine U ?_|refine X ?_ _));refine aU (cs:= #[.slice cZ dH.length ca,.slice none 0 0,.slice none 0 0,.int .i64 0]) ?_ 1 _ rfl;(with_reducible repeat(first|refine aC ?_ _|refine U ?_|refine X ?_ _));refine aU (cs:= #[.slice none 0 0,.slice none 0 0,.slice none 0 0,.int .i64 0]) ?_ 0 _ rfl;(with_reducible repeat(first|refine aC ?_ _|refine U ?_|refine X ?_ _));exact bE.out) hb);replace HB:=Ah (aT (aj HB bJ bM) hb);(try clear hb ho0 ho1 ho2))|((with_reducible refine bC (N:=9) rfl ?_);(try(refine fS (by rfl) ?_;dsimp only));refine bK 9 28 #[.slice none 0 0,.slice none 0 0,.slice none 0 0,.int .i64 0] ?_;intro fg hg nL bH hb;replace kJ:=nr kJ hb;replace lA:=nr lA hb;replace kK:=nr kK hb;replace lB:=nr lB hb;replace oT:=nr oT hb;replace pc:=nr pc hb;replace oU:=nr oU hb;replace vJ:=nr vJ hb;replace vK:=nr vK hb;replace vL:=nr vL hb;have GW769:=gw hg (aj HB bJ bM);have bQ:=gw hg (aj HB bJ bM);replace HB:=Ah (aT (aj HB bJ bM) hb);have E1:=nn bG hg;have M6:=nm bG hg;replace bG:=nb bG hb;have C3:=nn bE hg;have If:=nm bE hg;replace bE:=nb bE hb;clear hb hg;obtain⟨bq,bp,ss⟩:=Kd.ao vJ.out;subst ss;have Jy:=M6.out;have Jz:=E1.out;have OU:=If.out;have OV:=C3.out;obtain⟨rM,rN,um,un⟩:=b9 bH;obtain⟨rO,rP,uo,uq⟩:=bA bH;obtain⟨cm,cn,GX⟩:=Kd.ao vK.out;subst GX;obtain⟨d8,d9,Cz⟩:=Kd.ao vL.out;subst Cz))
 (try simp only[Act.put,Ok,mr,mQ])
 go_cut [69] (fun v69 wc=>∃ (kq:Nat) (K0:Bool),v69= .bool K0∧a9 (cK.j0 kq l1 cO sr K0 dP fA da nj dH ej dQ mf=some r)∧a9 (kq≤k)∧a9 (Kd.R bL 37 wc w.heap.size (fun k_=>some k_≠((.slice d5 fA.length cq):Value).ownBlock∧some k_≠((.slice fP ej.length fQ):Value).ownBlock∧some k_≠((.slice cm eU.length cn):Value).ownBlock) (.slice g6 cO.length g7) cO)∧a9 (Kd.R Kd.string 9 wc w.heap.size (fun k_=>some k_≠((.slice bx da.length bu):Value).ownBlock∧some k_≠((.slice cZ dH.length ca):Value).ownBlock∧some k_≠((.slice eF dQ.length eG):Value).ownBlock∧some k_≠((.slice bq cx.length bp):Value).ownBlock∧some k_≠((.slice d8 dA.length d9):Value).ownBlock) (.slice dB dP.length dC) dP)∧a9 (Kd.R bL 37 wc w.heap.size (fun k_=>some k_≠((.slice g6 cO.length g7):Value).ownBlock∧some k_≠((.slice fP ej.length fQ):Value).ownBlock∧some k_≠((.slice cm eU.length cn):Value).ownBlock) (.slice d5 fA.length cq) fA)∧a9 (Kd.R Kd.string 9 wc w.heap.size (fun k_=>some k_≠((.slice dB dP.length dC):Value).ownBlock∧some k_≠((.slice cZ dH.length ca):Value).ownBlock∧some k_≠((.slice eF dQ.length eG):Value).ownBlock∧some k_≠((.slice bq cx.length bp):Value).ownBlock∧some k_≠((.slice d8 dA.length d9):Value).ownBlock) (.slice bx da.length bu) da)∧a9 (Kd.R Kd.string 9 wc w.heap.size (fun k_=>some k_≠((.slice dB dP.length dC):Value).ownBlock∧some k_≠((.slice bx da.length bu):Value).ownBlock∧some k_≠((.slice eF dQ.length eG):Value).ownBlock∧some k_≠((.slice bq cx.length bp):Value).ownBlock∧some k_≠((.slice d8 dA.length d9):Value).ownBlock) (.slice cZ dH.length ca) dH)∧a9 (Kd.R bL 37 wc w.heap.size (fun k_=>some k_≠((.slice g6 cO.length g7):Value).ownBlock∧some k_≠((.slice d5 fA.length cq):Value).ownBlock∧some k_≠((.slice cm eU.length cn):Value).ownBlock) (.slice fP ej.length fQ) ej)∧a9 (Kd.R Kd.string 9 wc w.heap.size (fun k_=>some k_≠((.slice dB dP.length dC):Value).ownBlock∧some k_≠((.slice bx da.length bu):Value).ownBlock∧some k_≠((.slice cZ dH.length ca):Value).ownBlock∧some k_≠((.slice bq cx.length bp):Value).ownBlock∧some k_≠((.slice d8 dA.length d9):Value).ownBlock) (.slice eF dQ.length eG) dQ)∧a9 (Kd.R Kd.string 9 wc w.heap.size (fun k_=>some k_≠((.slice dB dP.length dC):Value).ownBlock∧some k_≠((.slice bx da.length bu):Value).ownBlock∧some k_≠((.slice cZ dH.length ca):Value).ownBlock∧some k_≠((.slice eF dQ.length eG):Value).ownBlock∧some k_≠((.slice d8 dA.length d9):Value).ownBlock) (.slice bq cx.length bp) cx)∧a9 (Kd.R bL 37 wc w.heap.size (fun k_=>some k_≠((.slice g6 cO.length g7):Value).ownBlock∧some k_≠((.slice d5 fA.length cq):Value).ownBlock∧some k_≠((.slice fP ej.length fQ):Value).ownBlock) (.slice cm eU.length cn) eU)∧a9 (Kd.R Kd.string 9 wc w.heap.size (fun k_=>some k_≠((.slice dB dP.length dC):Value).ownBlock∧some k_≠((.slice bx da.length bu):Value).ownBlock∧some k_≠((.slice cZ dH.length ca):Value).ownBlock∧some k_≠((.slice eF dQ.length eG):Value).ownBlock∧some k_≠((.slice bq cx.length bp):Value).ownBlock) (.slice d8 dA.length d9) dA)∧a9 (wc.heap[xQ]?=some (.cells #[(.slice dB dP.length dC),(.slice d5 fA.length cq),(.slice bx da.length bu),.int .i64 nj] 28 (0,0)))∧a9 (wc.heap[xR]?=some (.cells #[(.slice cZ dH.length ca),(.slice fP ej.length fQ),(.slice eF dQ.length eG),.int .i64 mf] 28 (0,0)))∧a9 (wc.heap[fg]?=some (.cells #[(.slice bq cx.length bp),(.slice cm eU.length cn),(.slice d8 dA.length d9),.int .i64 lp] 28 (0,0)))∧a9 (Below w.heap.size w wc))
 case first=>
  have H:=Rt.out;clear Rt
  by_cases c31:(sr !=wC)=true
  rotate_left
  ·
   rw[if_neg c31]at H
   have rb:(sr !=wC)=false:=by simpa using c31
   (try(have xS:decide (sr=wC)=true:=by simpa using c31));(try(have te:(sr==wC)=true:=by simpa using c31));clear c31;(first|rw[rb]|(simp only[eK,eT];rw[rb])|(simp only[te,aaX,aaW])|skip);replace H:=Hz.mp H;obtain⟨Cx,Zr,H⟩:=H
   try dsimp only at H
   have A32:=Ah Zr;clear Zr;have H':=Ah H;clear H;have hnb33:=Ie.out;have hnc33:=E0.out;have hnb34:=C3.out;have hnc34:=If.out;obtain⟨ur,ut,uu,uv⟩:=b9 bE;obtain⟨uw,ux,uy,uz⟩:=bA bE;have hnb36:=M6.out;have hnc36:=E1.out;obtain⟨tS,tT,wm,wn⟩:=b9 bH;obtain⟨tU,tV,wo,wq⟩:=bA bH
   go_wp2_with (first|(go_at_call 7;(with_reducible refine(pQ.calls k _ _ dH _ _ ej _ _ dQ mf _ _ cx _ _ eU _ _ dA lp Cx _ ?aI ?aJ ?af ?ak ?bN ?bc ?qU ?vI ?side9 ?side10 ?side11 ?side12 A32.out).mono ?_);(case aI=>exact rc oT bH);(case aJ=>exact(Kd.aq oT.out).2.1);(case af=>exact rc pc bH);(case ak=>exact(Kd.aq pc.out).2.1);(case bN=>exact rc oU bH);(case bc=>exact(Kd.aq oU.out).2.1);(case qU=>exact rc vJ bH);(case vI=>exact(Kd.aq vJ.out).2.1);(case side9=>exact rc vK bH);(case side10=>exact(Kd.aq vK.out).2.1);(case side11=>exact rc vL bH);(case side12=>exact(Kd.aq vL.out).2.1);rintro e Ru ⟨rfl,hb⟩;replace kJ:=nf kJ bH hb;replace lA:=nf lA bH hb;replace kK:=nf kK bH hb;replace lB:=nf lB bH hb;replace oT:=nf oT bH hb;replace pc:=nf pc bH hb;replace oU:=nf oU bH hb;replace vJ:=nf vJ bH hb;replace vK:=nf vK bH hb;replace vL:=nf vL bH hb;replace bG:=Ah (cS (bf bG E1) hb);replace bE:=Ah (cS (bf bE C3) hb);replace bH:=Ah (cS (g:=fg) (o:= .cells #[.slice bq cx.length bp,.slice cm eU.length cn,.slice d8 dA.length d9,.int .i64 lp] 28 (0,0)) (by(with_reducible repeat(first|refine aC ?_ _|refine U ?_|refine X ?_ _));refine aU (cs:= #[.slice bq cx.length bp,.slice cm eU.length cn,.slice d8 dA.length d9,.int .i64 0]) ?_ 3 _ rfl;(with_reducible repeat(first|refine aC ?_ _|refine U ?_|refine X ?_ _));refine aU (cs:= #[.slice bq cx.length bp,.slice cm eU.length cn,.slice none 0 0,.int .i64 0]) ?_ 2 _ rfl;(with_reducible repeat(first|refine aC ?_ _|refine U ?_|refine X ?_ _));refine aU (cs:= #[.slice bq cx.length bp,.slice none 0 0,.slice none 0 0,.int .i64 0]) ?_ 1 _ rfl;(with_reducible repeat(first|refine aC ?_ _|refine U ?_|refine X ?_ _));refine aU (cs:= #[.slice none 0 0,.slice none 0 0,.slice none 0 0,.int .i64 0]) ?_ 0 _ rfl;(with_reducible repeat(first|refine aC ?_ _|refine U ?_|refine X ?_ _));exact bH.out) hb);replace HB:=Ah (aT (br HB bJ bM bQ) hb);(try clear hb)))
   go_meet
   case rel=>exact⟨_,(!Cx),e3,H',⟨by first|omega|exact lQ _⟩,rm lB (fun _ hk=>⟨hk.1.1,⟨hk.1.2,hk.2⟩⟩),rm kJ (fun _ hk=>⟨hk.1.1.1.1,⟨hk.1.1.1.2,⟨hk.1.1.2,⟨hk.1.2,hk.2⟩⟩⟩⟩),rm lA (fun _ hk=>⟨hk.1.1,⟨hk.1.2,hk.2⟩⟩),rm kK (fun _ hk=>⟨hk.1.1.1.1,⟨hk.1.1.1.2,⟨hk.1.1.2,⟨hk.1.2,hk.2⟩⟩⟩⟩),rm oT (fun _ hk=>⟨hk.1.1.1.2,⟨hk.1.1.2,⟨hk.1.1.1.1,⟨hk.1.2,hk.2⟩⟩⟩⟩),rm pc (fun _ hk=>⟨hk.1.2,⟨hk.1.1.2,hk.2⟩⟩),rm oU (fun _ hk=>⟨hk.1.1.1.2,⟨hk.1.1.2,⟨hk.1.1.1.1,⟨hk.1.2,hk.2⟩⟩⟩⟩),rm vJ (fun _ hk=>⟨hk.1.1.1.2,⟨hk.1.1.2,⟨hk.1.2,⟨hk.2,hk.1.1.1.1⟩⟩⟩⟩),rm vK (fun _ hk=>⟨hk.1.2,⟨hk.1.1.2,hk.2⟩⟩),rm vL (fun _ hk=>⟨hk.1.1.1.2,⟨hk.1.1.2,⟨hk.1.2,⟨hk.2,hk.1.1.1.1⟩⟩⟩⟩),⟨bk bG⟩,⟨bk bE⟩,⟨bk bH⟩,⟨br HB bJ bM bQ⟩⟩
  rw[if_pos c31]at H;have rb:(sr !=wC)=true:=c31;(try(have xS:decide (sr=wC)=false:=by simpa using c31));(try(have te:(sr==wC)=false:=by simpa using c31));(try(have c31b3:¬(sr=wC):=by simpa using c31));clear c31;(first|rw[rb]|(simp only[eK,eT];rw[rb])|(simp only[te,aaX,aaW])|skip);have H':=Ah H;clear H
  go_wp2
  go_meet
  case rel=>exact⟨_,(true),e3,H',⟨by first|omega|exact lQ _⟩,⟨by(with_reducible repeat(first|apply Kd.ah|apply Kd.ai|apply Kd.aY));exact Kd.aH (Kd.I (p:=⟨fg,3,none⟩) (Kd.I (p:=⟨fg,2,none⟩) (Kd.I (p:=⟨fg,1,none⟩) (Kd.I (p:=⟨fg,0,none⟩) (Kd.al lB.out bH.out (by decide)) (fun _ hk=>hk.2) (.slice bq cx.length bp)) (fun _ hk=>hk.2) (.slice cm eU.length cn)) (fun _ hk=>hk.2) (.slice d8 dA.length d9)) (fun _ hk=>hk.2) (.int .i64 lp)) (fun _ hk=>⟨hk.1.1.1,⟨hk.1.1.2,hk.1.2⟩⟩)⟩,⟨by(with_reducible repeat(first|apply Kd.ah|apply Kd.ai|apply Kd.aY));exact Kd.aH (Kd.I (p:=⟨fg,3,none⟩) (Kd.I (p:=⟨fg,2,none⟩) (Kd.I (p:=⟨fg,1,none⟩) (Kd.I (p:=⟨fg,0,none⟩) (Kd.al kJ.out bH.out (by decide)) (fun _ hk=>hk.2) (.slice bq cx.length bp)) (fun _ hk=>hk.2) (.slice cm eU.length cn)) (fun _ hk=>hk.2) (.slice d8 dA.length d9)) (fun _ hk=>hk.2) (.int .i64 lp)) (fun _ hk=>⟨hk.1.1.1.1.1,⟨hk.1.1.1.1.2,⟨hk.1.1.1.2,⟨hk.1.1.2,hk.1.2⟩⟩⟩⟩)⟩,⟨by(with_reducible repeat(first|apply Kd.ah|apply Kd.ai|apply Kd.aY));exact Kd.aH (Kd.I (p:=⟨fg,3,none⟩) (Kd.I (p:=⟨fg,2,none⟩) (Kd.I (p:=⟨fg,1,none⟩) (Kd.I (p:=⟨fg,0,none⟩) (Kd.al lA.out bH.out (by decide)) (fun _ hk=>hk.2) (.slice bq cx.length bp)) (fun _ hk=>hk.2) (.slice cm eU.length cn)) (fun _ hk=>hk.2) (.slice d8 dA.length d9)) (fun _ hk=>hk.2) (.int .i64 lp)) (fun _ hk=>⟨hk.1.1.1,⟨hk.1.1.2,hk.1.2⟩⟩)⟩,⟨by(with_reducible repeat(first|apply Kd.ah|apply Kd.ai|apply Kd.aY));exact Kd.aH (Kd.I (p:=⟨fg,3,none⟩) (Kd.I (p:=⟨fg,2,none⟩) (Kd.I (p:=⟨fg,1,none⟩) (Kd.I (p:=⟨fg,0,none⟩) (Kd.al kK.out bH.out (by decide)) (fun _ hk=>hk.2) (.slice bq cx.length bp)) (fun _ hk=>hk.2) (.slice cm eU.length cn)) (fun _ hk=>hk.2) (.slice d8 dA.length d9)) (fun _ hk=>hk.2) (.int .i64 lp)) (fun _ hk=>⟨hk.1.1.1.1.1,⟨hk.1.1.1.1.2,⟨hk.1.1.1.2,⟨hk.1.1.2,hk.1.2⟩⟩⟩⟩)⟩,⟨by(with_reducible repeat(first|apply Kd.ah|apply Kd.ai|apply Kd.aY));exact Kd.aH (Kd.I (p:=⟨fg,3,none⟩) (Kd.I (p:=⟨fg,2,none⟩) (Kd.I (p:=⟨fg,1,none⟩) (Kd.I (p:=⟨fg,0,none⟩) (Kd.al oT.out bH.out (by decide)) (fun _ hk=>hk.2) (.slice bq cx.length bp)) (fun _ hk=>hk.2) (.slice cm eU.length cn)) (fun _ hk=>hk.2) (.slice d8 dA.length d9)) (fun _ hk=>hk.2) (.int .i64 lp)) (fun _ hk=>⟨hk.1.1.1.1.2,⟨hk.1.1.1.2,⟨hk.1.1.1.1.1,⟨hk.1.1.2,hk.1.2⟩⟩⟩⟩)⟩,⟨by(with_reducible repeat(first|apply Kd.ah|apply Kd.ai|apply Kd.aY));exact Kd.aH (Kd.I (p:=⟨fg,3,none⟩) (Kd.I (p:=⟨fg,2,none⟩) (Kd.I (p:=⟨fg,1,none⟩) (Kd.I (p:=⟨fg,0,none⟩) (Kd.al pc.out bH.out (by decide)) (fun _ hk=>hk.2) (.slice bq cx.length bp)) (fun _ hk=>hk.2) (.slice cm eU.length cn)) (fun _ hk=>hk.2) (.slice d8 dA.length d9)) (fun _ hk=>hk.2) (.int .i64 lp)) (fun _ hk=>⟨hk.1.1.2,⟨hk.1.1.1.2,hk.1.2⟩⟩)⟩,⟨by(with_reducible repeat(first|apply Kd.ah|apply Kd.ai|apply Kd.aY));exact Kd.aH (Kd.I (p:=⟨fg,3,none⟩) (Kd.I (p:=⟨fg,2,none⟩) (Kd.I (p:=⟨fg,1,none⟩) (Kd.I (p:=⟨fg,0,none⟩) (Kd.al oU.out bH.out (by decide)) (fun _ hk=>hk.2) (.slice bq cx.length bp)) (fun _ hk=>hk.2) (.slice cm eU.length cn)) (fun _ hk=>hk.2) (.slice d8 dA.length d9)) (fun _ hk=>hk.2) (.int .i64 lp)) (fun _ hk=>⟨hk.1.1.1.1.2,⟨hk.1.1.1.2,⟨hk.1.1.1.1.1,⟨hk.1.1.2,hk.1.2⟩⟩⟩⟩)⟩,⟨by(with_reducible repeat(first|apply Kd.ah|apply Kd.ai|apply Kd.aY));exact Kd.aH (Kd.I (p:=⟨fg,3,none⟩) (Kd.I (p:=⟨fg,2,none⟩) (Kd.I (p:=⟨fg,1,none⟩) (Kd.I (p:=⟨fg,0,none⟩) (Kd.al vJ.out bH.out (by decide)) (fun _ hk=>hk.2) (.slice bq cx.length bp)) (fun _ hk=>hk.2) (.slice cm eU.length cn)) (fun _ hk=>hk.2) (.slice d8 dA.length d9)) (fun _ hk=>hk.2) (.int .i64 lp)) (fun _ hk=>⟨hk.1.1.1.1.2,⟨hk.1.1.1.2,⟨hk.1.1.2,⟨hk.1.2,hk.1.1.1.1.1⟩⟩⟩⟩)⟩,⟨by(with_reducible repeat(first|apply Kd.ah|apply Kd.ai|apply Kd.aY));exact Kd.aH (Kd.I (p:=⟨fg,3,none⟩) (Kd.I (p:=⟨fg,2,none⟩) (Kd.I (p:=⟨fg,1,none⟩) (Kd.I (p:=⟨fg,0,none⟩) (Kd.al vK.out bH.out (by decide)) (fun _ hk=>hk.2) (.slice bq cx.length bp)) (fun _ hk=>hk.2) (.slice cm eU.length cn)) (fun _ hk=>hk.2) (.slice d8 dA.length d9)) (fun _ hk=>hk.2) (.int .i64 lp)) (fun _ hk=>⟨hk.1.1.2,⟨hk.1.1.1.2,hk.1.2⟩⟩)⟩,⟨by(with_reducible repeat(first|apply Kd.ah|apply Kd.ai|apply Kd.aY));exact Kd.aH (Kd.I (p:=⟨fg,3,none⟩) (Kd.I (p:=⟨fg,2,none⟩) (Kd.I (p:=⟨fg,1,none⟩) (Kd.I (p:=⟨fg,0,none⟩) (Kd.al vL.out bH.out (by decide)) (fun _ hk=>hk.2) (.slice bq cx.length bp)) (fun _ hk=>hk.2) (.slice cm eU.length cn)) (fun _ hk=>hk.2) (.slice d8 dA.length d9)) (fun _ hk=>hk.2) (.int .i64 lp)) (fun _ hk=>⟨hk.1.1.1.1.2,⟨hk.1.1.1.2,⟨hk.1.1.2,⟨hk.1.2,hk.1.1.1.1.1⟩⟩⟩⟩)⟩,⟨bf bG E1⟩,⟨bf bE C3⟩,⟨by(with_reducible repeat(first|refine aC ?_ _|refine U ?_|refine X ?_ _));refine aU (cs:= #[.slice bq cx.length bp,.slice cm eU.length cn,.slice d8 dA.length d9,.int .i64 0]) ?_ 3 _ rfl;(with_reducible repeat(first|refine aC ?_ _|refine U ?_|refine X ?_ _));refine aU (cs:= #[.slice bq cx.length bp,.slice cm eU.length cn,.slice none 0 0,.int .i64 0]) ?_ 2 _ rfl;(with_reducible repeat(first|refine aC ?_ _|refine U ?_|refine X ?_ _));refine aU (cs:= #[.slice bq cx.length bp,.slice none 0 0,.slice none 0 0,.int .i64 0]) ?_ 1 _ rfl;(with_reducible repeat(first|refine aC ?_ _|refine U ?_|refine X ?_ _));refine aU (cs:= #[.slice none 0 0,.slice none 0 0,.slice none 0 0,.int .i64 0]) ?_ 0 _ rfl;(with_reducible repeat(first|refine aC ?_ _|refine U ?_|refine X ?_ _));exact bH.out⟩,⟨br HB bJ bM bQ⟩⟩
 case rest=>
  clear Rt
  try clear c1
  try clear c2
  try clear p2
  try clear c3
  try clear f9
  try clear c4
  try clear c5
  try clear c6
  try clear p6
  try clear c18
  try clear Dg
  try clear Dh
  try clear c31
  try clear rb
  try clear xS
  try clear te
  try clear Di
  try clear c34
  try clear tN
  try clear jC jD l4 l5
  try clear m5 m6 pT pU
  try clear kd ke mU mV
  try clear rM rN um un
  try clear ur ut uu uv
  try clear tS tT wm wn
  try clear jE jF l6 l7
  try clear m7 m8 pV pW
  try clear kf kg mW mX
  try clear rO rP uo uq
  try clear uw ux uy uz
  try clear tU tV wo wq
  obtain⟨kq,K0,rfl,HA,o0,cr,bS,bz,bT,bO,bw,bP,bW,cB,bX,bG,bE,bH,HB⟩:=hcut
  cases kq with
  |zero=>exact absurd HA.out (by simp[cK.j0])
  |succ Le=>
   have H:=HA.out;clear HA;simp only[cK.j0]at H
   as_aux_lemma=>
    by_cases uH:K0=true
    ·
     subst uH;rw[if_pos rfl]at H;obtain rfl:=ec H
     go_wp2
     go_ret
     exact⟨er,br HB bJ bM bQ⟩
    replace uH:=i1.mpr uH;subst uH;rw[if_neg dO]at H;have Q8:=Ah H;clear H
    go_upto_if 70 with(fail)
    go_cut [] (fun wc=>∃ (kq:Nat),a9 (cK.j5 kq l1=some r)∧a9 (kq≤Le)∧a9 (Kd.R Kd.string 9 wc w.heap.size (fun k_=>some k_≠((.slice bx da.length bu):Value).ownBlock∧some k_≠((.slice cZ dH.length ca):Value).ownBlock∧some k_≠((.slice eF dQ.length eG):Value).ownBlock∧some k_≠((.slice bq cx.length bp):Value).ownBlock∧some k_≠((.slice d8 dA.length d9):Value).ownBlock) (.slice dB dP.length dC) dP)∧a9 (Kd.R bL 37 wc w.heap.size (fun k_=>some k_≠((.slice fP ej.length fQ):Value).ownBlock∧some k_≠((.slice cm eU.length cn):Value).ownBlock) (.slice d5 fA.length cq) fA)∧a9 (Kd.R Kd.string 9 wc w.heap.size (fun k_=>some k_≠((.slice dB dP.length dC):Value).ownBlock∧some k_≠((.slice cZ dH.length ca):Value).ownBlock∧some k_≠((.slice eF dQ.length eG):Value).ownBlock∧some k_≠((.slice bq cx.length bp):Value).ownBlock∧some k_≠((.slice d8 dA.length d9):Value).ownBlock) (.slice bx da.length bu) da)∧a9 (Kd.R Kd.string 9 wc w.heap.size (fun k_=>some k_≠((.slice dB dP.length dC):Value).ownBlock∧some k_≠((.slice bx da.length bu):Value).ownBlock∧some k_≠((.slice eF dQ.length eG):Value).ownBlock∧some k_≠((.slice bq cx.length bp):Value).ownBlock∧some k_≠((.slice d8 dA.length d9):Value).ownBlock) (.slice cZ dH.length ca) dH)∧a9 (Kd.R bL 37 wc w.heap.size (fun k_=>some k_≠((.slice d5 fA.length cq):Value).ownBlock∧some k_≠((.slice cm eU.length cn):Value).ownBlock) (.slice fP ej.length fQ) ej)∧a9 (Kd.R Kd.string 9 wc w.heap.size (fun k_=>some k_≠((.slice dB dP.length dC):Value).ownBlock∧some k_≠((.slice bx da.length bu):Value).ownBlock∧some k_≠((.slice cZ dH.length ca):Value).ownBlock∧some k_≠((.slice bq cx.length bp):Value).ownBlock∧some k_≠((.slice d8 dA.length d9):Value).ownBlock) (.slice eF dQ.length eG) dQ)∧a9 (Kd.R Kd.string 9 wc w.heap.size (fun k_=>some k_≠((.slice dB dP.length dC):Value).ownBlock∧some k_≠((.slice bx da.length bu):Value).ownBlock∧some k_≠((.slice cZ dH.length ca):Value).ownBlock∧some k_≠((.slice eF dQ.length eG):Value).ownBlock∧some k_≠((.slice d8 dA.length d9):Value).ownBlock) (.slice bq cx.length bp) cx)∧a9 (Kd.R bL 37 wc w.heap.size (fun k_=>some k_≠((.slice d5 fA.length cq):Value).ownBlock∧some k_≠((.slice fP ej.length fQ):Value).ownBlock) (.slice cm eU.length cn) eU)∧a9 (Kd.R Kd.string 9 wc w.heap.size (fun k_=>some k_≠((.slice dB dP.length dC):Value).ownBlock∧some k_≠((.slice bx da.length bu):Value).ownBlock∧some k_≠((.slice cZ dH.length ca):Value).ownBlock∧some k_≠((.slice eF dQ.length eG):Value).ownBlock∧some k_≠((.slice bq cx.length bp):Value).ownBlock) (.slice d8 dA.length d9) dA)∧a9 (wc.heap[xQ]?=some (.cells #[(.slice dB dP.length dC),(.slice d5 fA.length cq),(.slice bx da.length bu),.int .i64 nj] 28 (0,0)))∧a9 (wc.heap[xR]?=some (.cells #[(.slice cZ dH.length ca),(.slice fP ej.length fQ),(.slice eF dQ.length eG),.int .i64 mf] 28 (0,0)))∧a9 (wc.heap[fg]?=some (.cells #[(.slice bq cx.length bp),(.slice cm eU.length cn),(.slice d8 dA.length d9),.int .i64 lp] 28 (0,0)))∧a9 (Below w.heap.size w wc))
    case first=>
     have H:=Q8.out;clear Q8
     by_cases uI:sr=true
     rotate_left
     ·
      replace uI:=i1.mpr uI;subst uI;rw[if_neg dO]at H;have H':=Ah H;clear H
      go_wp2
      go_meet
      case rel=>exact⟨_,H',⟨by have:=o0.out;first|omega|exact lQ _⟩,⟨rr bS.out⟩,rm bz (fun _ hk=>⟨hk.2.1,hk.2.2⟩),⟨rr bT.out⟩,⟨rr bO.out⟩,rm bw (fun _ hk=>⟨hk.2.1,hk.2.2⟩),⟨rr bP.out⟩,⟨rr bW.out⟩,rm cB (fun _ hk=>⟨hk.2.1,hk.2.2⟩),⟨rr bX.out⟩,⟨bk bG⟩,⟨bk bE⟩,⟨bk bH⟩,⟨br HB bJ bM bQ⟩⟩
     subst uI;rw[if_pos rfl]at H;replace H:=Hz.mp H;obtain⟨⟨iM,Zs⟩,Zt,H⟩:=H
     try dsimp only at H
     have A42:=Ah Zt;clear Zt;replace H:=Hz.mp H;obtain⟨⟨jZ,Zu⟩,Zv,H⟩:=H
     try dsimp only at H
     have A43:=Ah Zv;clear Zv;have Q9:=Ah H;clear H;have Xj:=E0.out;have Xk:=Ie.out;have hnb46:=E1.out;have hnc46:=M6.out;obtain⟨wt,wu,wv,ww⟩:=b9 bG;obtain⟨wx,wy,wz,x2⟩:=bA bG
     go_upto_region 11 with(first|((with_reducible refine ar (f:=8) rfl ?_);refine gL (some 73) rfl rfl aaK (by kernel_rfl) rfl #[.agg #[.slice dB dP.length dC,.slice d5 fA.length cq,.slice bx da.length bu,.int .i64 nj]] rfl ?_;(with_reducible refine(gM.calls Le _ _ dP _ _ fA _ _ da nj iM Zs _ ?aI ?aJ ?af ?ak ?bN ?bc A42.out).mono ?_);(case aI=>exact bd bS);(case aJ=>exact(Kd.aq bS.out).2.1);(case af=>exact bd bz);(case ak=>exact(Kd.aq bz.out).2.1);(case bN=>exact bd bT);(case bc=>exact(Kd.aq bT.out).2.1);rintro e w48 ⟨xp,rfl,ho0,hb⟩;refine⟨_,rfl, ?_⟩;replace cr:=nr cr hb;replace bz:=nr bz hb;replace bw:=nr bw hb;replace cB:=nr cB hb;have Et:=Ah (Kd.b8 (Kd.aA (Kd.aA (Kd.aA (Kd.aA (Kd.aA (Kd.aA ho0 (Kd.Z (rr bS.out))) (Kd.Z (rr bT.out))) (Kd.Z (rr bO.out))) (Kd.Z (rr bP.out))) (Kd.Z (rr bW.out))) (Kd.Z (rr bX.out))) (bF (br HB bJ bM bQ)));replace bS:=Ah (Kd.aX (rr bS.out) (Kd.a8 ho0) hb);replace bT:=Ah (Kd.aX (rr bT.out) (Kd.a8 ho0) hb);replace bO:=Ah (Kd.aX (rr bO.out) (Kd.a8 ho0) hb);replace bP:=Ah (Kd.aX (rr bP.out) (Kd.a8 ho0) hb);replace bW:=Ah (Kd.aX (rr bW.out) (Kd.a8 ho0) hb);replace bX:=Ah (Kd.aX (rr bX.out) (Kd.a8 ho0) hb);replace bG:=nb bG hb;replace bE:=nb bE hb;replace bH:=nb bH hb;replace HB:=Ah (aT (br HB bJ bM bQ) hb);(try clear hb ho0);have hnb49:=C3.out;have hnc49:=If.out;obtain⟨xA,xB,yw,yx⟩:=b9 bE;obtain⟨xC,xD,yy,yz⟩:=bA bE)|((with_reducible refine ar (f:=8) rfl ?_);refine gL (some 78) rfl rfl aaK (by kernel_rfl) rfl #[.agg #[.slice cZ dH.length ca,.slice fP ej.length fQ,.slice eF dQ.length eG,.int .i64 mf]] rfl ?_;(with_reducible refine(gM.calls Le _ _ dH _ _ ej _ _ dQ mf jZ Zu _ ?aI ?aJ ?af ?ak ?bN ?bc A43.out).mono ?_);(case aI=>exact bd bO);(case aJ=>exact(Kd.aq bO.out).2.1);(case af=>exact bd bw);(case ak=>exact(Kd.aq bw.out).2.1);(case bN=>exact bd bP);(case bc=>exact(Kd.aq bP.out).2.1);rintro e w51 ⟨i3,rfl,ho0,hb⟩;refine⟨_,rfl, ?_⟩;replace cr:=nr cr hb;replace bz:=nr bz hb;replace bw:=nr bw hb;replace cB:=nr cB hb;have Xl:=Ah (Kd.b8 (Kd.aA (Kd.aA (Kd.aA (Kd.aA (Kd.aA (Kd.aA (Kd.aA ho0 (Kd.Z (rr bS.out))) (Kd.Z (rr bT.out))) (Kd.Z (rr bO.out))) (Kd.Z (rr bP.out))) (Kd.Z (rr bW.out))) (Kd.Z (rr bX.out))) (Kd.Z (rr Et.out))) (bF (br HB bJ bM bQ)));replace bS:=Ah (Kd.aX (rr bS.out) (Kd.a8 ho0) hb);replace bT:=Ah (Kd.aX (rr bT.out) (Kd.a8 ho0) hb);replace bO:=Ah (Kd.aX (rr bO.out) (Kd.a8 ho0) hb);replace bP:=Ah (Kd.aX (rr bP.out) (Kd.a8 ho0) hb);replace bW:=Ah (Kd.aX (rr bW.out) (Kd.a8 ho0) hb);replace bX:=Ah (Kd.aX (rr bX.out) (Kd.a8 ho0) hb);replace Et:=Ah (Kd.aX (rr Et.out) (Kd.a8 ho0) hb);replace bG:=nb bG hb;replace bE:=nb bE hb;replace bH:=nb bH hb;replace HB:=Ah (aT (br HB bJ bM bQ) hb);(try clear hb ho0)))
     (try simp only[Act.put,Ok,mr,mQ])
     go_cut [86] (fun v86 wc=>∃ (kq:Nat) (Je:Bool),v86= .bool Je∧a9 (cK.j1 kq l1 cO iM jZ Je dH ej dQ mf=some r)∧a9 (kq≤Le)∧a9 (Kd.R bL 37 wc w.heap.size (fun k_=>some k_≠((.slice d5 fA.length cq):Value).ownBlock∧some k_≠((.slice fP ej.length fQ):Value).ownBlock∧some k_≠((.slice cm eU.length cn):Value).ownBlock) (.slice g6 cO.length g7) cO)∧a9 (Kd.R Kd.string 9 wc w.heap.size (fun k_=>some k_≠(i3:Value).ownBlock∧some k_≠((.slice dB dP.length dC):Value).ownBlock∧some k_≠((.slice bx da.length bu):Value).ownBlock∧some k_≠((.slice cZ dH.length ca):Value).ownBlock∧some k_≠((.slice eF dQ.length eG):Value).ownBlock∧some k_≠((.slice bq cx.length bp):Value).ownBlock∧some k_≠((.slice d8 dA.length d9):Value).ownBlock) xp iM)∧a9 (Kd.R Kd.string 9 wc w.heap.size (fun k_=>some k_≠(xp:Value).ownBlock∧some k_≠((.slice dB dP.length dC):Value).ownBlock∧some k_≠((.slice bx da.length bu):Value).ownBlock∧some k_≠((.slice cZ dH.length ca):Value).ownBlock∧some k_≠((.slice eF dQ.length eG):Value).ownBlock∧some k_≠((.slice bq cx.length bp):Value).ownBlock∧some k_≠((.slice d8 dA.length d9):Value).ownBlock) i3 jZ)∧a9 (Kd.R Kd.string 9 wc w.heap.size (fun k_=>some k_≠(xp:Value).ownBlock∧some k_≠(i3:Value).ownBlock∧some k_≠((.slice bx da.length bu):Value).ownBlock∧some k_≠((.slice cZ dH.length ca):Value).ownBlock∧some k_≠((.slice eF dQ.length eG):Value).ownBlock∧some k_≠((.slice bq cx.length bp):Value).ownBlock∧some k_≠((.slice d8 dA.length d9):Value).ownBlock) (.slice dB dP.length dC) dP)∧a9 (Kd.R bL 37 wc w.heap.size (fun k_=>some k_≠((.slice g6 cO.length g7):Value).ownBlock∧some k_≠((.slice fP ej.length fQ):Value).ownBlock∧some k_≠((.slice cm eU.length cn):Value).ownBlock) (.slice d5 fA.length cq) fA)∧a9 (Kd.R Kd.string 9 wc w.heap.size (fun k_=>some k_≠(xp:Value).ownBlock∧some k_≠(i3:Value).ownBlock∧some k_≠((.slice dB dP.length dC):Value).ownBlock∧some k_≠((.slice cZ dH.length ca):Value).ownBlock∧some k_≠((.slice eF dQ.length eG):Value).ownBlock∧some k_≠((.slice bq cx.length bp):Value).ownBlock∧some k_≠((.slice d8 dA.length d9):Value).ownBlock) (.slice bx da.length bu) da)∧a9 (Kd.R Kd.string 9 wc w.heap.size (fun k_=>some k_≠(xp:Value).ownBlock∧some k_≠(i3:Value).ownBlock∧some k_≠((.slice dB dP.length dC):Value).ownBlock∧some k_≠((.slice bx da.length bu):Value).ownBlock∧some k_≠((.slice eF dQ.length eG):Value).ownBlock∧some k_≠((.slice bq cx.length bp):Value).ownBlock∧some k_≠((.slice d8 dA.length d9):Value).ownBlock) (.slice cZ dH.length ca) dH)∧a9 (Kd.R bL 37 wc w.heap.size (fun k_=>some k_≠((.slice g6 cO.length g7):Value).ownBlock∧some k_≠((.slice d5 fA.length cq):Value).ownBlock∧some k_≠((.slice cm eU.length cn):Value).ownBlock) (.slice fP ej.length fQ) ej)∧a9 (Kd.R Kd.string 9 wc w.heap.size (fun k_=>some k_≠(xp:Value).ownBlock∧some k_≠(i3:Value).ownBlock∧some k_≠((.slice dB dP.length dC):Value).ownBlock∧some k_≠((.slice bx da.length bu):Value).ownBlock∧some k_≠((.slice cZ dH.length ca):Value).ownBlock∧some k_≠((.slice bq cx.length bp):Value).ownBlock∧some k_≠((.slice d8 dA.length d9):Value).ownBlock) (.slice eF dQ.length eG) dQ)∧a9 (Kd.R Kd.string 9 wc w.heap.size (fun k_=>some k_≠(xp:Value).ownBlock∧some k_≠(i3:Value).ownBlock∧some k_≠((.slice dB dP.length dC):Value).ownBlock∧some k_≠((.slice bx da.length bu):Value).ownBlock∧some k_≠((.slice cZ dH.length ca):Value).ownBlock∧some k_≠((.slice eF dQ.length eG):Value).ownBlock∧some k_≠((.slice d8 dA.length d9):Value).ownBlock) (.slice bq cx.length bp) cx)∧a9 (Kd.R bL 37 wc w.heap.size (fun k_=>some k_≠((.slice g6 cO.length g7):Value).ownBlock∧some k_≠((.slice d5 fA.length cq):Value).ownBlock∧some k_≠((.slice fP ej.length fQ):Value).ownBlock) (.slice cm eU.length cn) eU)∧a9 (Kd.R Kd.string 9 wc w.heap.size (fun k_=>some k_≠(xp:Value).ownBlock∧some k_≠(i3:Value).ownBlock∧some k_≠((.slice dB dP.length dC):Value).ownBlock∧some k_≠((.slice bx da.length bu):Value).ownBlock∧some k_≠((.slice cZ dH.length ca):Value).ownBlock∧some k_≠((.slice eF dQ.length eG):Value).ownBlock∧some k_≠((.slice bq cx.length bp):Value).ownBlock) (.slice d8 dA.length d9) dA)∧a9 (wc.heap[xQ]?=some (.cells #[(.slice dB dP.length dC),(.slice d5 fA.length cq),(.slice bx da.length bu),.int .i64 nj] 28 (0,0)))∧a9 (wc.heap[xR]?=some (.cells #[(.slice cZ dH.length ca),(.slice fP ej.length fQ),(.slice eF dQ.length eG),.int .i64 mf] 28 (0,0)))∧a9 (wc.heap[fg]?=some (.cells #[(.slice bq cx.length bp),(.slice cm eU.length cn),(.slice d8 dA.length d9),.int .i64 lp] 28 (0,0)))∧a9 (Below w.heap.size w wc))
     case first=>
      have H:=Q9.out;clear Q9
      by_cases uJ:Zs=true
      ·
       subst uJ;rw[if_pos rfl]at H;have H':=Ah H;clear H
       go_wp2
       go_meet
       case rel=>exact⟨_,(!Zu),e3,H',⟨by have:=o0.out;first|omega|exact lQ _⟩,⟨rr cr.out⟩,rm Et (fun _ hk=>⟨hk.2,⟨hk.1.1.1.1.1.1.2,⟨hk.1.1.1.1.1.2,⟨hk.1.1.1.1.2,⟨hk.1.1.1.2,⟨hk.1.1.2,hk.1.2⟩⟩⟩⟩⟩⟩),rm Xl (fun _ hk=>⟨hk.2,⟨hk.1.1.1.1.1.1.2,⟨hk.1.1.1.1.1.2,⟨hk.1.1.1.1.2,⟨hk.1.1.1.2,⟨hk.1.1.2,hk.1.2⟩⟩⟩⟩⟩⟩),rm bS (fun _ hk=>⟨hk.1.2,⟨hk.2,⟨hk.1.1.1,⟨hk.1.1.2.1,⟨hk.1.1.2.2.1,⟨hk.1.1.2.2.2.1,hk.1.1.2.2.2.2⟩⟩⟩⟩⟩⟩),⟨rr bz.out⟩,rm bT (fun _ hk=>⟨hk.1.2,⟨hk.2,⟨hk.1.1.1,⟨hk.1.1.2.1,⟨hk.1.1.2.2.1,⟨hk.1.1.2.2.2.1,hk.1.1.2.2.2.2⟩⟩⟩⟩⟩⟩),rm bO (fun _ hk=>⟨hk.1.2,⟨hk.2,⟨hk.1.1.1,⟨hk.1.1.2.1,⟨hk.1.1.2.2.1,⟨hk.1.1.2.2.2.1,hk.1.1.2.2.2.2⟩⟩⟩⟩⟩⟩),⟨rr bw.out⟩,rm bP (fun _ hk=>⟨hk.1.2,⟨hk.2,⟨hk.1.1.1,⟨hk.1.1.2.1,⟨hk.1.1.2.2.1,⟨hk.1.1.2.2.2.1,hk.1.1.2.2.2.2⟩⟩⟩⟩⟩⟩),rm bW (fun _ hk=>⟨hk.1.2,⟨hk.2,⟨hk.1.1.1,⟨hk.1.1.2.1,⟨hk.1.1.2.2.1,⟨hk.1.1.2.2.2.1,hk.1.1.2.2.2.2⟩⟩⟩⟩⟩⟩),⟨rr cB.out⟩,rm bX (fun _ hk=>⟨hk.1.2,⟨hk.2,⟨hk.1.1.1,⟨hk.1.1.2.1,⟨hk.1.1.2.2.1,⟨hk.1.1.2.2.2.1,hk.1.1.2.2.2.2⟩⟩⟩⟩⟩⟩),⟨bk bG⟩,⟨bk bE⟩,⟨bk bH⟩,⟨br HB bJ bM bQ⟩⟩
      replace uJ:=i1.mpr uJ;subst uJ;rw[if_neg dO]at H;have H':=Ah H;clear H
      go_wp2
      go_meet
      case rel=>exact⟨_,(true),e3,H',⟨by have:=o0.out;first|omega|exact lQ _⟩,⟨rr cr.out⟩,rm Et (fun _ hk=>⟨hk.2,⟨hk.1.1.1.1.1.1.2,⟨hk.1.1.1.1.1.2,⟨hk.1.1.1.1.2,⟨hk.1.1.1.2,⟨hk.1.1.2,hk.1.2⟩⟩⟩⟩⟩⟩),rm Xl (fun _ hk=>⟨hk.2,⟨hk.1.1.1.1.1.1.2,⟨hk.1.1.1.1.1.2,⟨hk.1.1.1.1.2,⟨hk.1.1.1.2,⟨hk.1.1.2,hk.1.2⟩⟩⟩⟩⟩⟩),rm bS (fun _ hk=>⟨hk.1.2,⟨hk.2,⟨hk.1.1.1,⟨hk.1.1.2.1,⟨hk.1.1.2.2.1,⟨hk.1.1.2.2.2.1,hk.1.1.2.2.2.2⟩⟩⟩⟩⟩⟩),⟨rr bz.out⟩,rm bT (fun _ hk=>⟨hk.1.2,⟨hk.2,⟨hk.1.1.1,⟨hk.1.1.2.1,⟨hk.1.1.2.2.1,⟨hk.1.1.2.2.2.1,hk.1.1.2.2.2.2⟩⟩⟩⟩⟩⟩),rm bO (fun _ hk=>⟨hk.1.2,⟨hk.2,⟨hk.1.1.1,⟨hk.1.1.2.1,⟨hk.1.1.2.2.1,⟨hk.1.1.2.2.2.1,hk.1.1.2.2.2.2⟩⟩⟩⟩⟩⟩),⟨rr bw.out⟩,rm bP (fun _ hk=>⟨hk.1.2,⟨hk.2,⟨hk.1.1.1,⟨hk.1.1.2.1,⟨hk.1.1.2.2.1,⟨hk.1.1.2.2.2.1,hk.1.1.2.2.2.2⟩⟩⟩⟩⟩⟩),rm bW (fun _ hk=>⟨hk.1.2,⟨hk.2,⟨hk.1.1.1,⟨hk.1.1.2.1,⟨hk.1.1.2.2.1,⟨hk.1.1.2.2.2.1,hk.1.1.2.2.2.2⟩⟩⟩⟩⟩⟩),⟨rr cB.out⟩,rm bX (fun _ hk=>⟨hk.1.2,⟨hk.2,⟨hk.1.1.1,⟨hk.1.1.2.1,⟨hk.1.1.2.2.1,⟨hk.1.1.2.2.2.1,hk.1.1.2.2.2.2⟩⟩⟩⟩⟩⟩),⟨bk bG⟩,⟨bk bE⟩,⟨bk bH⟩,⟨br HB bJ bM bQ⟩⟩
     case rest=>
      clear Q9
      try clear c1
      try clear c2
      try clear p2
      try clear c3
      try clear f9
      try clear c4
      try clear c5
      try clear c6
      try clear p6
      try clear c8
      try clear c18
      try clear Dg
      try clear Dh
      try clear c31
      try clear rb
      try clear xS
      try clear te
      try clear Di
      try clear c34
      try clear tN
      try clear uH
      try clear uI
      try clear uK
      try clear c46
      try clear c49
      try clear uJ
      try clear jC jD l4 l5
      try clear m5 m6 pT pU
      try clear kd ke mU mV
      try clear rM rN um un
      try clear ur ut uu uv
      try clear tS tT wm wn
      try clear wt wu wv ww
      try clear xA xB yw yx
      try clear jE jF l6 l7
      try clear m7 m8 pV pW
      try clear kf kg mW mX
      try clear rO rP uo uq
      try clear uw ux uy uz
      try clear tU tV wo wq
      try clear wx wy wz x2
      try clear xC xD yy yz
      try clear p2
      try clear p6
      obtain⟨kq,Je,rfl,HA,st,cr,iz,ba,bS,bz,bT,bO,bw,bP,bW,cB,bX,bG,bE,bH,HB⟩:=hcut
      cases kq with
      |zero=>exact absurd HA.out (by simp[cK.j1])
      |succ Zw=>
       have H:=HA.out;clear HA;simp only[cK.j1]at H
       as_aux_lemma=>
        by_cases c53:Je=true
        ·
         subst c53;rw[if_pos rfl]at H;obtain rfl:=ec H
         go_wp2
         go_ret
         exact⟨er,br HB bJ bM bQ⟩
        replace c53:=i1.mpr c53;subst c53;rw[if_neg dO]at H;have H':=Ah H;clear H;obtain⟨rn,lq,QA⟩:=Kd.ao iz.out;subst QA
        go_wp2
        go_loopg [89] Zw (fun kq v89 w'=>∃ (gz:Int),v89= .int .i64 gz∧a9 (cK.l0 kq l1 cO iM jZ (iM.length:Int) gz dH ej dQ mf=some r)∧a9 (kq≤Zw)∧a9 (Kd.R bL 37 w' w.heap.size (fun k_=>some k_≠((.slice d5 fA.length cq):Value).ownBlock∧some k_≠((.slice fP ej.length fQ):Value).ownBlock∧some k_≠((.slice cm eU.length cn):Value).ownBlock) (.slice g6 cO.length g7) cO)∧a9 (Kd.R Kd.string 9 w' w.heap.size (fun k_=>some k_≠(i3:Value).ownBlock∧some k_≠((.slice dB dP.length dC):Value).ownBlock∧some k_≠((.slice bx da.length bu):Value).ownBlock∧some k_≠((.slice cZ dH.length ca):Value).ownBlock∧some k_≠((.slice eF dQ.length eG):Value).ownBlock∧some k_≠((.slice bq cx.length bp):Value).ownBlock∧some k_≠((.slice d8 dA.length d9):Value).ownBlock) (.slice rn iM.length lq) iM)∧a9 (Kd.R Kd.string 9 w' w.heap.size (fun k_=>some k_≠((.slice rn iM.length lq):Value).ownBlock∧some k_≠((.slice dB dP.length dC):Value).ownBlock∧some k_≠((.slice bx da.length bu):Value).ownBlock∧some k_≠((.slice cZ dH.length ca):Value).ownBlock∧some k_≠((.slice eF dQ.length eG):Value).ownBlock∧some k_≠((.slice bq cx.length bp):Value).ownBlock∧some k_≠((.slice d8 dA.length d9):Value).ownBlock) i3 jZ)∧a9 (Kd.R Kd.string 9 w' w.heap.size (fun k_=>some k_≠((.slice rn iM.length lq):Value).ownBlock∧some k_≠(i3:Value).ownBlock∧some k_≠((.slice bx da.length bu):Value).ownBlock∧some k_≠((.slice cZ dH.length ca):Value).ownBlock∧some k_≠((.slice eF dQ.length eG):Value).ownBlock∧some k_≠((.slice bq cx.length bp):Value).ownBlock∧some k_≠((.slice d8 dA.length d9):Value).ownBlock) (.slice dB dP.length dC) dP)∧a9 (Kd.R bL 37 w' w.heap.size (fun k_=>some k_≠((.slice g6 cO.length g7):Value).ownBlock∧some k_≠((.slice fP ej.length fQ):Value).ownBlock∧some k_≠((.slice cm eU.length cn):Value).ownBlock) (.slice d5 fA.length cq) fA)∧a9 (Kd.R Kd.string 9 w' w.heap.size (fun k_=>some k_≠((.slice rn iM.length lq):Value).ownBlock∧some k_≠(i3:Value).ownBlock∧some k_≠((.slice dB dP.length dC):Value).ownBlock∧some k_≠((.slice cZ dH.length ca):Value).ownBlock∧some k_≠((.slice eF dQ.length eG):Value).ownBlock∧some k_≠((.slice bq cx.length bp):Value).ownBlock∧some k_≠((.slice d8 dA.length d9):Value).ownBlock) (.slice bx da.length bu) da)∧a9 (Kd.R Kd.string 9 w' w.heap.size (fun k_=>some k_≠((.slice rn iM.length lq):Value).ownBlock∧some k_≠(i3:Value).ownBlock∧some k_≠((.slice dB dP.length dC):Value).ownBlock∧some k_≠((.slice bx da.length bu):Value).ownBlock∧some k_≠((.slice eF dQ.length eG):Value).ownBlock∧some k_≠((.slice bq cx.length bp):Value).ownBlock∧some k_≠((.slice d8 dA.length d9):Value).ownBlock) (.slice cZ dH.length ca) dH)∧a9 (Kd.R bL 37 w' w.heap.size (fun k_=>some k_≠((.slice g6 cO.length g7):Value).ownBlock∧some k_≠((.slice d5 fA.length cq):Value).ownBlock∧some k_≠((.slice cm eU.length cn):Value).ownBlock) (.slice fP ej.length fQ) ej)∧a9 (Kd.R Kd.string 9 w' w.heap.size (fun k_=>some k_≠((.slice rn iM.length lq):Value).ownBlock∧some k_≠(i3:Value).ownBlock∧some k_≠((.slice dB dP.length dC):Value).ownBlock∧some k_≠((.slice bx da.length bu):Value).ownBlock∧some k_≠((.slice cZ dH.length ca):Value).ownBlock∧some k_≠((.slice bq cx.length bp):Value).ownBlock∧some k_≠((.slice d8 dA.length d9):Value).ownBlock) (.slice eF dQ.length eG) dQ)∧a9 (Kd.R Kd.string 9 w' w.heap.size (fun k_=>some k_≠((.slice rn iM.length lq):Value).ownBlock∧some k_≠(i3:Value).ownBlock∧some k_≠((.slice dB dP.length dC):Value).ownBlock∧some k_≠((.slice bx da.length bu):Value).ownBlock∧some k_≠((.slice cZ dH.length ca):Value).ownBlock∧some k_≠((.slice eF dQ.length eG):Value).ownBlock∧some k_≠((.slice d8 dA.length d9):Value).ownBlock) (.slice bq cx.length bp) cx)∧a9 (Kd.R bL 37 w' w.heap.size (fun k_=>some k_≠((.slice g6 cO.length g7):Value).ownBlock∧some k_≠((.slice d5 fA.length cq):Value).ownBlock∧some k_≠((.slice fP ej.length fQ):Value).ownBlock) (.slice cm eU.length cn) eU)∧a9 (Kd.R Kd.string 9 w' w.heap.size (fun k_=>some k_≠((.slice rn iM.length lq):Value).ownBlock∧some k_≠(i3:Value).ownBlock∧some k_≠((.slice dB dP.length dC):Value).ownBlock∧some k_≠((.slice bx da.length bu):Value).ownBlock∧some k_≠((.slice cZ dH.length ca):Value).ownBlock∧some k_≠((.slice eF dQ.length eG):Value).ownBlock∧some k_≠((.slice bq cx.length bp):Value).ownBlock) (.slice d8 dA.length d9) dA)∧a9 (w'.heap[xQ]?=some (.cells #[(.slice dB dP.length dC),(.slice d5 fA.length cq),(.slice bx da.length bu),.int .i64 nj] 28 (0,0)))∧a9 (w'.heap[xR]?=some (.cells #[(.slice cZ dH.length ca),(.slice fP ej.length fQ),(.slice eF dQ.length eG),.int .i64 mf] 28 (0,0)))∧a9 (w'.heap[fg]?=some (.cells #[(.slice bq cx.length bp),(.slice cm eU.length cn),(.slice d8 dA.length d9),.int .i64 lp] 28 (0,0)))∧a9 (Below w.heap.size w w'))
        case atStart=>exact⟨(0),e3,H',⟨lQ _⟩,⟨rr cr.out⟩,⟨rr iz.out⟩,⟨rr ba.out⟩,⟨rr bS.out⟩,⟨rr bz.out⟩,⟨rr bT.out⟩,⟨rr bO.out⟩,⟨rr bw.out⟩,⟨rr bP.out⟩,⟨rr bW.out⟩,⟨rr cB.out⟩,⟨rr bX.out⟩,⟨bk bG⟩,⟨bk bE⟩,⟨bk bH⟩,⟨br HB bJ bM bQ⟩⟩
        case round=>
         clear H'
         try clear c1
         try clear c2
         try clear p2
         try clear c3
         try clear f9
         try clear c4
         try clear c5
         try clear c6
         try clear p6
         try clear c8
         try clear c18
         try clear Dg
         try clear Dh
         try clear c31
         try clear rb
         try clear xS
         try clear te
         try clear Di
         try clear c34
         try clear tN
         try clear uH
         try clear uI
         try clear uK
         try clear c46
         try clear c49
         try clear uJ
         try clear c53
         try clear jC jD l4 l5
         try clear m5 m6 pT pU
         try clear kd ke mU mV
         try clear rM rN um un
         try clear ur ut uu uv
         try clear tS tT wm wn
         try clear wt wu wv ww
         try clear xA xB yw yx
         try clear jE jF l6 l7
         try clear m7 m8 pV pW
         try clear kf kg mW mX
         try clear rO rP uo uq
         try clear uw ux uy uz
         try clear tU tV wo wq
         try clear wx wy wz x2
         try clear xC xD yy yz
         try clear p2
         try clear p6
         obtain⟨gz,rfl,HA,mq,cr,iz,ba,bS,bz,bT,bO,bw,bP,bW,cB,bX,bG,bE,bH,HB⟩:=hrel
         cases gk with
         |zero=>exact absurd HA.out (by simp[cK.l0])
         |succ k3=>
          have H:=HA.out;clear HA;simp only[cK.l0]at H
          as_aux_lemma=>
           by_cases uL:gz<(iM.length:Int)
           ·
            rw[if_pos uL]at H;have Eu:decide (gz<(iM.length:Int))=true:=decide_eq_true uL;clear uL
            by_cases yN:0≤gz
            rotate_left
            ·
             rw[if_neg yN]at H;exact absurd H (by simp)
            rw[if_pos yN]at H;have K1:decide (0≤gz)=true:=decide_eq_true yN;clear yN
            by_cases yO:gz<(iM.length:Int)
            rotate_left
            ·
             rw[if_neg yO]at H;exact absurd H (by simp)
            rw[if_pos yO]at H;have K2:decide (gz<(iM.length:Int))=true:=decide_eq_true yO;clear yO;have H':=Ah H;clear H;have AR:0≤(gz:Int):=od;have AS:gz<(iM.length:Int):=od;obtain⟨xT,e779,Iy⟩:=Kd.jR (Kd.aq iz.out).2.2 gz AR AS
            cases e779
            replace AR:=eq_true AR;replace AS:=eq_true AS
            go_wp2
            go_loopg [16,98] k3 (fun kq v16 v98 w'=>∃ (vM:ByteArray) (dc:Int),v16= .string vM∧v98= .int .i64 dc∧a9 (cK.l1 kq l1 cO iM jZ gz vM (iM.length:Int) gz cO (cO.length:Int) dc dH ej dQ mf=some r)∧a9 (kq≤k3)∧a9 (Kd.R bL 37 w' w.heap.size (fun k_=>some k_≠((.slice d5 fA.length cq):Value).ownBlock∧some k_≠((.slice fP ej.length fQ):Value).ownBlock∧some k_≠((.slice cm eU.length cn):Value).ownBlock) (.slice g6 cO.length g7) cO)∧a9 (Kd.R Kd.string 9 w' w.heap.size (fun k_=>some k_≠(i3:Value).ownBlock∧some k_≠((.slice dB dP.length dC):Value).ownBlock∧some k_≠((.slice bx da.length bu):Value).ownBlock∧some k_≠((.slice cZ dH.length ca):Value).ownBlock∧some k_≠((.slice eF dQ.length eG):Value).ownBlock∧some k_≠((.slice bq cx.length bp):Value).ownBlock∧some k_≠((.slice d8 dA.length d9):Value).ownBlock) (.slice (some xT) iM.length lq) iM)∧a9 (Kd.R Kd.string 9 w' w.heap.size (fun k_=>some k_≠((.slice (some xT) iM.length lq):Value).ownBlock∧some k_≠((.slice dB dP.length dC):Value).ownBlock∧some k_≠((.slice bx da.length bu):Value).ownBlock∧some k_≠((.slice cZ dH.length ca):Value).ownBlock∧some k_≠((.slice eF dQ.length eG):Value).ownBlock∧some k_≠((.slice bq cx.length bp):Value).ownBlock∧some k_≠((.slice d8 dA.length d9):Value).ownBlock) i3 jZ)∧a9 (Kd.R bL 37 w' w.heap.size (fun k_=>some k_≠((.slice d5 fA.length cq):Value).ownBlock∧some k_≠((.slice fP ej.length fQ):Value).ownBlock∧some k_≠((.slice cm eU.length cn):Value).ownBlock) (.slice g6 cO.length g7) cO)∧a9 (Kd.R Kd.string 9 w' w.heap.size (fun k_=>some k_≠((.slice (some xT) iM.length lq):Value).ownBlock∧some k_≠(i3:Value).ownBlock∧some k_≠((.slice bx da.length bu):Value).ownBlock∧some k_≠((.slice cZ dH.length ca):Value).ownBlock∧some k_≠((.slice eF dQ.length eG):Value).ownBlock∧some k_≠((.slice bq cx.length bp):Value).ownBlock∧some k_≠((.slice d8 dA.length d9):Value).ownBlock) (.slice dB dP.length dC) dP)∧a9 (Kd.R bL 37 w' w.heap.size (fun k_=>some k_≠((.slice g6 cO.length g7):Value).ownBlock∧some k_≠((.slice g6 cO.length g7):Value).ownBlock∧some k_≠((.slice fP ej.length fQ):Value).ownBlock∧some k_≠((.slice cm eU.length cn):Value).ownBlock) (.slice d5 fA.length cq) fA)∧a9 (Kd.R Kd.string 9 w' w.heap.size (fun k_=>some k_≠((.slice (some xT) iM.length lq):Value).ownBlock∧some k_≠(i3:Value).ownBlock∧some k_≠((.slice dB dP.length dC):Value).ownBlock∧some k_≠((.slice cZ dH.length ca):Value).ownBlock∧some k_≠((.slice eF dQ.length eG):Value).ownBlock∧some k_≠((.slice bq cx.length bp):Value).ownBlock∧some k_≠((.slice d8 dA.length d9):Value).ownBlock) (.slice bx da.length bu) da)∧a9 (Kd.R Kd.string 9 w' w.heap.size (fun k_=>some k_≠((.slice (some xT) iM.length lq):Value).ownBlock∧some k_≠(i3:Value).ownBlock∧some k_≠((.slice dB dP.length dC):Value).ownBlock∧some k_≠((.slice bx da.length bu):Value).ownBlock∧some k_≠((.slice eF dQ.length eG):Value).ownBlock∧some k_≠((.slice bq cx.length bp):Value).ownBlock∧some k_≠((.slice d8 dA.length d9):Value).ownBlock) (.slice cZ dH.length ca) dH)∧a9 (Kd.R bL 37 w' w.heap.size (fun k_=>some k_≠((.slice g6 cO.length g7):Value).ownBlock∧some k_≠((.slice g6 cO.length g7):Value).ownBlock∧some k_≠((.slice d5 fA.length cq):Value).ownBlock∧some k_≠((.slice cm eU.length cn):Value).ownBlock) (.slice fP ej.length fQ) ej)∧a9 (Kd.R Kd.string 9 w' w.heap.size (fun k_=>some k_≠((.slice (some xT) iM.length lq):Value).ownBlock∧some k_≠(i3:Value).ownBlock∧some k_≠((.slice dB dP.length dC):Value).ownBlock∧some k_≠((.slice bx da.length bu):Value).ownBlock∧some k_≠((.slice cZ dH.length ca):Value).ownBlock∧some k_≠((.slice bq cx.length bp):Value).ownBlock∧some k_≠((.slice d8 dA.length d9):Value).ownBlock) (.slice eF dQ.length eG) dQ)∧a9 (Kd.R Kd.string 9 w' w.heap.size (fun k_=>some k_≠((.slice (some xT) iM.length lq):Value).ownBlock∧some k_≠(i3:Value).ownBlock∧some k_≠((.slice dB dP.length dC):Value).ownBlock∧some k_≠((.slice bx da.length bu):Value).ownBlock∧some k_≠((.slice cZ dH.length ca):Value).ownBlock∧some k_≠((.slice eF dQ.length eG):Value).ownBlock∧some k_≠((.slice d8 dA.length d9):Value).ownBlock) (.slice bq cx.length bp) cx)∧a9 (Kd.R bL 37 w' w.heap.size (fun k_=>some k_≠((.slice g6 cO.length g7):Value).ownBlock∧some k_≠((.slice g6 cO.length g7):Value).ownBlock∧some k_≠((.slice d5 fA.length cq):Value).ownBlock∧some k_≠((.slice fP ej.length fQ):Value).ownBlock) (.slice cm eU.length cn) eU)∧a9 (Kd.R Kd.string 9 w' w.heap.size (fun k_=>some k_≠((.slice (some xT) iM.length lq):Value).ownBlock∧some k_≠(i3:Value).ownBlock∧some k_≠((.slice dB dP.length dC):Value).ownBlock∧some k_≠((.slice bx da.length bu):Value).ownBlock∧some k_≠((.slice cZ dH.length ca):Value).ownBlock∧some k_≠((.slice eF dQ.length eG):Value).ownBlock∧some k_≠((.slice bq cx.length bp):Value).ownBlock) (.slice d8 dA.length d9) dA)∧a9 (w'.heap[xQ]?=some (.cells #[(.slice dB dP.length dC),(.slice d5 fA.length cq),(.slice bx da.length bu),.int .i64 nj] 28 (0,0)))∧a9 (w'.heap[xR]?=some (.cells #[(.slice cZ dH.length ca),(.slice fP ej.length fQ),(.slice eF dQ.length eG),.int .i64 mf] 28 (0,0)))∧a9 (w'.heap[fg]?=some (.cells #[(.slice bq cx.length bp),(.slice cm eU.length cn),(.slice d8 dA.length d9),.int .i64 lp] 28 (0,0)))∧a9 (Below w.heap.size w w'))
            case atStart=>exact⟨(dN JZ iM gz),(0),e3,e3,H',⟨lQ _⟩,⟨rr cr.out⟩,⟨rr iz.out⟩,⟨rr ba.out⟩,⟨rr cr.out⟩,⟨rr bS.out⟩,rm bz (fun _ hk=>⟨hk.1,⟨hk.1,⟨hk.2.1,hk.2.2⟩⟩⟩),⟨rr bT.out⟩,⟨rr bO.out⟩,rm bw (fun _ hk=>⟨hk.1,⟨hk.1,⟨hk.2.1,hk.2.2⟩⟩⟩),⟨rr bP.out⟩,⟨rr bW.out⟩,rm cB (fun _ hk=>⟨hk.1,⟨hk.1,⟨hk.2.1,hk.2.2⟩⟩⟩),⟨rr bX.out⟩,⟨bk bG⟩,⟨bk bE⟩,⟨bk bH⟩,⟨br HB bJ bM bQ⟩⟩
            case round=>
             clear H'
             try clear c1
             try clear c2
             try clear p2
             try clear c3
             try clear f9
             try clear c4
             try clear c5
             try clear c6
             try clear p6
             try clear p7
             try clear q7
             try clear hx7
             try clear c8
             try clear c18
             try clear Dg
             try clear Dh
             try clear c31
             try clear rb
             try clear xS
             try clear te
             try clear Di
             try clear c34
             try clear tN
             try clear uH
             try clear uI
             try clear uK
             try clear c46
             try clear c49
             try clear uJ
             try clear c53
             try clear uL
             try clear Eu
             try clear yN
             try clear K1
             try clear yO
             try clear K2
             try clear jC jD l4 l5
             try clear m5 m6 pT pU
             try clear kd ke mU mV
             try clear rM rN um un
             try clear ur ut uu uv
             try clear tS tT wm wn
             try clear wt wu wv ww
             try clear xA xB yw yx
             try clear jE jF l6 l7
             try clear m7 m8 pV pW
             try clear kf kg mW mX
             try clear rO rP uo uq
             try clear uw ux uy uz
             try clear tU tV wo wq
             try clear wx wy wz x2
             try clear xC xD yy yz
             try clear Iy
             try clear p2
             try clear p6
             try clear AR
             try clear AS
             obtain⟨vM,dc,rfl,rfl,HA,Dj,cr,iz,ba,xU,bS,bz,bT,bO,bw,bP,bW,cB,bX,bG,bE,bH,HB⟩:=hrel
             cases gk with
             |zero=>exact absurd HA.out (by simp[cK.l1])
             |succ k4=>
              have H:=HA.out;clear HA;simp only[cK.l1]at H
              as_aux_lemma=>
               by_cases nM:dc<(cO.length:Int)
               rotate_left
               ·
                rw[if_neg nM]at H;have CT:decide (dc<(cO.length:Int))=false:=decide_eq_false nM;clear nM
                by_cases c72:0≤gz
                rotate_left
                ·
                 rw[if_neg c72]at H;exact absurd H (by simp)
                rw[if_pos c72]at H;have OW:decide (0≤gz)=true:=decide_eq_true c72;clear c72
                by_cases Bo:gz<(jZ.length:Int)
                rotate_left
                ·
                 rw[if_neg Bo]at H;exact absurd H (by simp)
                rw[if_pos Bo]at H;have OX:decide (gz<(jZ.length:Int))=true:=decide_eq_true Bo;clear Bo
                by_cases uM:(dN JZ jZ gz).toList=vM.toList
                rotate_left
                ·
                 rw[if_neg uM]at H;have K3:((dN JZ jZ gz).toList==vM.toList)=false:=beq_eq_false_iff_ne.mpr uM;have K4:((dN JZ jZ gz).toList !=vM.toList)=true:=bne_iff_ne.mpr uM;obtain rfl:=ec H;obtain⟨Ao76,co76,eo76⟩:=Kd.ao ba.out;subst eo76;have tq:0≤(gz:Int):=od;have tr:gz<(jZ.length:Int):=od;obtain⟨ad782,QB,Iz⟩:=Kd.jR (Kd.aq ba.out).2.2 gz tq tr
                 cases QB
                 replace tq:=eq_true tq;replace tr:=eq_true tr
                 go_wp2
                 go_ret
                 exact⟨er,br HB bJ bM bQ⟩
                rw[if_pos uM]at H;have K3:((dN JZ jZ gz).toList==vM.toList)=true:=beq_iff_eq.mpr uM;have K4:((dN JZ jZ gz).toList !=vM.toList)=false:=bne_eq_false_iff_eq.mpr uM;clear uM;have H':=Ah H;clear H;obtain⟨su,sv,QC⟩:=Kd.ao ba.out;subst QC;have tq:0≤(gz:Int):=od;have tr:gz<(jZ.length:Int):=od;obtain⟨ad782,QB,Iz⟩:=Kd.jR (Kd.aq ba.out).2.2 gz tq tr
                cases QB
                replace tq:=eq_true tq;replace tr:=eq_true tr
                go_wp2
                go_roundg k4
                case measure=>have:=o0.out;have:=st.out;have:=mq.out;have:=Dj.out;omega
                case rel=>exact⟨(IH (gz+1)),e3,H',⟨by have:=o0.out;have:=st.out;have:=mq.out;have:=Dj.out;omega⟩,⟨rr cr.out⟩,⟨rr iz.out⟩,⟨rr ba.out⟩,⟨rr bS.out⟩,rm bz (fun _ hk=>⟨hk.1,⟨hk.2.2.1,hk.2.2.2⟩⟩),⟨rr bT.out⟩,⟨rr bO.out⟩,rm bw (fun _ hk=>⟨hk.1,⟨hk.2.2.1,hk.2.2.2⟩⟩),⟨rr bP.out⟩,⟨rr bW.out⟩,rm cB (fun _ hk=>⟨hk.1,⟨hk.2.2.1,hk.2.2.2⟩⟩),⟨rr bX.out⟩,⟨bk bG⟩,⟨bk bE⟩,⟨bk bH⟩,⟨br HB bJ bM bQ⟩⟩
               rw[if_pos nM]at H;have CT:decide (dc<(cO.length:Int))=true:=decide_eq_true nM;clear nM
               by_cases c59:0≤dc
               rotate_left
               ·
                rw[if_neg c59]at H;exact absurd H (by simp)
               rw[if_pos c59]at H;have OY:decide (0≤dc)=true:=decide_eq_true c59;clear c59
               by_cases sA:dc<(cO.length:Int)
               rotate_left
               ·
                rw[if_neg sA]at H;exact absurd H (by simp)
               rw[if_pos sA]at H;have OZ:decide (dc<(cO.length:Int))=true:=decide_eq_true sA;clear sA
               by_cases uN:((aM cO dc).f0)=gz
               rotate_left
               ·
                rw[if_neg uN]at H;have K5:(((aM cO dc).f0)==gz)=false:=beq_eq_false_iff_ne.mpr uN;have K6:(((aM cO dc).f0) !=gz)=true:=bne_iff_ne.mpr uN;have H':=Ah H;clear H;have tt:0≤(dc:Int):=od;have tu:dc<(cO.length:Int):=od;obtain⟨ad780,QD,J0,J1⟩:=iA (Kd.aq xU.out).2.2 dc tt tu
                cases QD
                replace tt:=eq_true tt;replace tu:=eq_true tu
                go_wp2_with (first|((with_reducible refine bC (N:=18) rfl ?_);(try(refine fS (by rfl) ?_;dsimp only));refine bK 18 37 #[.int .i64 0,.string (⟨#[]⟩:ByteArray)] ?_;intro dm hg w67 lC hb;replace cr:=Ah (Kd.fT (Kd.ka (rr cr.out) dm (aau hg.symm)) hb);replace iz:=nr iz hb;replace ba:=nr ba hb;replace xU:=Ah (Kd.fT (Kd.ka (rr xU.out) dm (aau hg.symm)) hb);replace bS:=nr bS hb;replace bz:=Ah (Kd.fT (Kd.ka (rr bz.out) dm (aau hg.symm)) hb);replace bT:=nr bT hb;replace bO:=nr bO hb;replace bw:=Ah (Kd.fT (Kd.ka (rr bw.out) dm (aau hg.symm)) hb);replace bP:=nr bP hb;replace bW:=nr bW hb;replace cB:=Ah (Kd.fT (Kd.ka (rr cB.out) dm (aau hg.symm)) hb);replace bX:=nr bX hb;have GW781:=gw hg (br HB bJ bM bQ);have Oa:=gw hg (br HB bJ bM bQ);replace HB:=Ah (aT (br HB bJ bM bQ) hb);have E2:=nn bG hg;have M7:=nm bG hg;replace bG:=nb bG hb;have E3:=nn bE hg;have M8:=nm bE hg;replace bE:=nb bE hb;have E4:=nn bH hg;have M9:=nm bH hg;replace bH:=nb bH hb;clear hb hg;have Xm:=M7.out;have Xn:=E2.out;have hnb69:=M8.out;have hnc69:=E3.out;have hnb70:=M9.out;have hnc70:=E4.out;obtain⟨N5,N6⟩:=cH lC;obtain⟨N7,N8⟩:=cD lC))
                go_roundg k4
                case measure=>have:=o0.out;have:=st.out;have:=mq.out;have:=Dj.out;omega
                case rel=>exact⟨(vM),(IH (dc+1)),e3,e3,H',⟨by have:=o0.out;have:=st.out;have:=mq.out;have:=Dj.out;omega⟩,⟨by(with_reducible repeat(first|apply Kd.ah|apply Kd.ai|apply Kd.aY));exact Kd.aH (Kd.I (p:=⟨dm,1,none⟩) (Kd.I (p:=⟨dm,0,none⟩) (Kd.aH cr.out (fun k_ hk=>(⟨hk,hk.2⟩:_∧k_≠dm))) (fun _ hk=>hk.2) (.int .i64 ((aM cO dc).f0))) (fun _ hk=>hk.2) (.string ((aM cO dc).f1))) (fun _ hk=>⟨hk.1.1.1,⟨hk.1.1.2.1,hk.1.1.2.2⟩⟩)⟩,⟨by(with_reducible repeat(first|apply Kd.ah|apply Kd.ai|apply Kd.aY));exact Kd.aH (Kd.I (p:=⟨dm,1,none⟩) (Kd.I (p:=⟨dm,0,none⟩) (Kd.al iz.out lC.out (by decide)) (fun _ hk=>hk.2) (.int .i64 ((aM cO dc).f0))) (fun _ hk=>hk.2) (.string ((aM cO dc).f1))) (fun _ hk=>⟨hk.1.1,⟨hk.1.2.1,⟨hk.1.2.2.1,⟨hk.1.2.2.2.1,⟨hk.1.2.2.2.2.1,⟨hk.1.2.2.2.2.2.1,hk.1.2.2.2.2.2.2⟩⟩⟩⟩⟩⟩)⟩,⟨by(with_reducible repeat(first|apply Kd.ah|apply Kd.ai|apply Kd.aY));exact Kd.aH (Kd.I (p:=⟨dm,1,none⟩) (Kd.I (p:=⟨dm,0,none⟩) (Kd.al ba.out lC.out (by decide)) (fun _ hk=>hk.2) (.int .i64 ((aM cO dc).f0))) (fun _ hk=>hk.2) (.string ((aM cO dc).f1))) (fun _ hk=>⟨hk.1.1,⟨hk.1.2.1,⟨hk.1.2.2.1,⟨hk.1.2.2.2.1,⟨hk.1.2.2.2.2.1,⟨hk.1.2.2.2.2.2.1,hk.1.2.2.2.2.2.2⟩⟩⟩⟩⟩⟩)⟩,⟨by(with_reducible repeat(first|apply Kd.ah|apply Kd.ai|apply Kd.aY));exact Kd.aH (Kd.I (p:=⟨dm,1,none⟩) (Kd.I (p:=⟨dm,0,none⟩) (Kd.aH xU.out (fun k_ hk=>(⟨hk,hk.2⟩:_∧k_≠dm))) (fun _ hk=>hk.2) (.int .i64 ((aM cO dc).f0))) (fun _ hk=>hk.2) (.string ((aM cO dc).f1))) (fun _ hk=>⟨hk.1.1.1,⟨hk.1.1.2.1,hk.1.1.2.2⟩⟩)⟩,⟨by(with_reducible repeat(first|apply Kd.ah|apply Kd.ai|apply Kd.aY));exact Kd.aH (Kd.I (p:=⟨dm,1,none⟩) (Kd.I (p:=⟨dm,0,none⟩) (Kd.al bS.out lC.out (by decide)) (fun _ hk=>hk.2) (.int .i64 ((aM cO dc).f0))) (fun _ hk=>hk.2) (.string ((aM cO dc).f1))) (fun _ hk=>⟨hk.1.1,⟨hk.1.2.1,⟨hk.1.2.2.1,⟨hk.1.2.2.2.1,⟨hk.1.2.2.2.2.1,⟨hk.1.2.2.2.2.2.1,hk.1.2.2.2.2.2.2⟩⟩⟩⟩⟩⟩)⟩,⟨by(with_reducible repeat(first|apply Kd.ah|apply Kd.ai|apply Kd.aY));exact Kd.aH (Kd.I (p:=⟨dm,1,none⟩) (Kd.I (p:=⟨dm,0,none⟩) (Kd.aH bz.out (fun k_ hk=>(⟨hk,hk.2⟩:_∧k_≠dm))) (fun _ hk=>hk.2) (.int .i64 ((aM cO dc).f0))) (fun _ hk=>hk.2) (.string ((aM cO dc).f1))) (fun _ hk=>⟨hk.1.1.1,⟨hk.1.1.2.1,⟨hk.1.1.2.2.1,hk.1.1.2.2.2⟩⟩⟩)⟩,⟨by(with_reducible repeat(first|apply Kd.ah|apply Kd.ai|apply Kd.aY));exact Kd.aH (Kd.I (p:=⟨dm,1,none⟩) (Kd.I (p:=⟨dm,0,none⟩) (Kd.al bT.out lC.out (by decide)) (fun _ hk=>hk.2) (.int .i64 ((aM cO dc).f0))) (fun _ hk=>hk.2) (.string ((aM cO dc).f1))) (fun _ hk=>⟨hk.1.1,⟨hk.1.2.1,⟨hk.1.2.2.1,⟨hk.1.2.2.2.1,⟨hk.1.2.2.2.2.1,⟨hk.1.2.2.2.2.2.1,hk.1.2.2.2.2.2.2⟩⟩⟩⟩⟩⟩)⟩,⟨by(with_reducible repeat(first|apply Kd.ah|apply Kd.ai|apply Kd.aY));exact Kd.aH (Kd.I (p:=⟨dm,1,none⟩) (Kd.I (p:=⟨dm,0,none⟩) (Kd.al bO.out lC.out (by decide)) (fun _ hk=>hk.2) (.int .i64 ((aM cO dc).f0))) (fun _ hk=>hk.2) (.string ((aM cO dc).f1))) (fun _ hk=>⟨hk.1.1,⟨hk.1.2.1,⟨hk.1.2.2.1,⟨hk.1.2.2.2.1,⟨hk.1.2.2.2.2.1,⟨hk.1.2.2.2.2.2.1,hk.1.2.2.2.2.2.2⟩⟩⟩⟩⟩⟩)⟩,⟨by(with_reducible repeat(first|apply Kd.ah|apply Kd.ai|apply Kd.aY));exact Kd.aH (Kd.I (p:=⟨dm,1,none⟩) (Kd.I (p:=⟨dm,0,none⟩) (Kd.aH bw.out (fun k_ hk=>(⟨hk,hk.2⟩:_∧k_≠dm))) (fun _ hk=>hk.2) (.int .i64 ((aM cO dc).f0))) (fun _ hk=>hk.2) (.string ((aM cO dc).f1))) (fun _ hk=>⟨hk.1.1.1,⟨hk.1.1.2.1,⟨hk.1.1.2.2.1,hk.1.1.2.2.2⟩⟩⟩)⟩,⟨by(with_reducible repeat(first|apply Kd.ah|apply Kd.ai|apply Kd.aY));exact Kd.aH (Kd.I (p:=⟨dm,1,none⟩) (Kd.I (p:=⟨dm,0,none⟩) (Kd.al bP.out lC.out (by decide)) (fun _ hk=>hk.2) (.int .i64 ((aM cO dc).f0))) (fun _ hk=>hk.2) (.string ((aM cO dc).f1))) (fun _ hk=>⟨hk.1.1,⟨hk.1.2.1,⟨hk.1.2.2.1,⟨hk.1.2.2.2.1,⟨hk.1.2.2.2.2.1,⟨hk.1.2.2.2.2.2.1,hk.1.2.2.2.2.2.2⟩⟩⟩⟩⟩⟩)⟩,⟨by(with_reducible repeat(first|apply Kd.ah|apply Kd.ai|apply Kd.aY));exact Kd.aH (Kd.I (p:=⟨dm,1,none⟩) (Kd.I (p:=⟨dm,0,none⟩) (Kd.al bW.out lC.out (by decide)) (fun _ hk=>hk.2) (.int .i64 ((aM cO dc).f0))) (fun _ hk=>hk.2) (.string ((aM cO dc).f1))) (fun _ hk=>⟨hk.1.1,⟨hk.1.2.1,⟨hk.1.2.2.1,⟨hk.1.2.2.2.1,⟨hk.1.2.2.2.2.1,⟨hk.1.2.2.2.2.2.1,hk.1.2.2.2.2.2.2⟩⟩⟩⟩⟩⟩)⟩,⟨by(with_reducible repeat(first|apply Kd.ah|apply Kd.ai|apply Kd.aY));exact Kd.aH (Kd.I (p:=⟨dm,1,none⟩) (Kd.I (p:=⟨dm,0,none⟩) (Kd.aH cB.out (fun k_ hk=>(⟨hk,hk.2⟩:_∧k_≠dm))) (fun _ hk=>hk.2) (.int .i64 ((aM cO dc).f0))) (fun _ hk=>hk.2) (.string ((aM cO dc).f1))) (fun _ hk=>⟨hk.1.1.1,⟨hk.1.1.2.1,⟨hk.1.1.2.2.1,hk.1.1.2.2.2⟩⟩⟩)⟩,⟨by(with_reducible repeat(first|apply Kd.ah|apply Kd.ai|apply Kd.aY));exact Kd.aH (Kd.I (p:=⟨dm,1,none⟩) (Kd.I (p:=⟨dm,0,none⟩) (Kd.al bX.out lC.out (by decide)) (fun _ hk=>hk.2) (.int .i64 ((aM cO dc).f0))) (fun _ hk=>hk.2) (.string ((aM cO dc).f1))) (fun _ hk=>⟨hk.1.1,⟨hk.1.2.1,⟨hk.1.2.2.1,⟨hk.1.2.2.2.1,⟨hk.1.2.2.2.2.1,⟨hk.1.2.2.2.2.2.1,hk.1.2.2.2.2.2.2⟩⟩⟩⟩⟩⟩)⟩,⟨bf bG E2⟩,⟨bf bE E3⟩,⟨bf bH E4⟩,⟨r9 HB bJ bM bQ Oa⟩⟩
               rw[if_pos uN]at H;have K5:(((aM cO dc).f0)==gz)=true:=beq_iff_eq.mpr uN;have K6:(((aM cO dc).f0) !=gz)=false:=bne_eq_false_iff_eq.mpr uN;clear uN;have H':=Ah H;clear H;have tt:0≤(dc:Int):=od;have tu:dc<(cO.length:Int):=od;obtain⟨ad780,QD,J0,J1⟩:=iA (Kd.aq xU.out).2.2 dc tt tu
               cases QD
               replace tt:=eq_true tt;replace tu:=eq_true tu
               go_wp2_with (first|((with_reducible refine bC (N:=18) rfl ?_);(try(refine fS (by rfl) ?_;dsimp only));refine bK 18 37 #[.int .i64 0,.string (⟨#[]⟩:ByteArray)] ?_;intro dm hg Rv lC hb;replace cr:=Ah (Kd.fT (Kd.ka (rr cr.out) dm (aau hg.symm)) hb);replace iz:=nr iz hb;replace ba:=nr ba hb;replace xU:=Ah (Kd.fT (Kd.ka (rr xU.out) dm (aau hg.symm)) hb);replace bS:=nr bS hb;replace bz:=Ah (Kd.fT (Kd.ka (rr bz.out) dm (aau hg.symm)) hb);replace bT:=nr bT hb;replace bO:=nr bO hb;replace bw:=Ah (Kd.fT (Kd.ka (rr bw.out) dm (aau hg.symm)) hb);replace bP:=nr bP hb;replace bW:=nr bW hb;replace cB:=Ah (Kd.fT (Kd.ka (rr cB.out) dm (aau hg.symm)) hb);replace bX:=nr bX hb;have GW781:=gw hg (br HB bJ bM bQ);have Oa:=gw hg (br HB bJ bM bQ);replace HB:=Ah (aT (br HB bJ bM bQ) hb);have E2:=nn bG hg;have M7:=nm bG hg;replace bG:=nb bG hb;have E3:=nn bE hg;have M8:=nm bE hg;replace bE:=nb bE hb;have E4:=nn bH hg;have M9:=nm bH hg;replace bH:=nb bH hb;clear hb hg;have Xo:=M7.out;have Xp:=E2.out;have hnb64:=M8.out;have hnc64:=E3.out;have hnb65:=M9.out;have hnc65:=E4.out;obtain⟨J2,J3⟩:=cH lC;obtain⟨J4,J5⟩:=cD lC))
               go_roundg k4
               case measure=>have:=o0.out;have:=st.out;have:=mq.out;have:=Dj.out;omega
               case rel=>exact⟨((aM cO dc).f1),(IH (dc+1)),e3,e3,H',⟨by have:=o0.out;have:=st.out;have:=mq.out;have:=Dj.out;omega⟩,⟨by(with_reducible repeat(first|apply Kd.ah|apply Kd.ai|apply Kd.aY));exact Kd.aH (Kd.I (p:=⟨dm,1,none⟩) (Kd.I (p:=⟨dm,0,none⟩) (Kd.aH cr.out (fun k_ hk=>(⟨hk,hk.2⟩:_∧k_≠dm))) (fun _ hk=>hk.2) (.int .i64 ((aM cO dc).f0))) (fun _ hk=>hk.2) (.string ((aM cO dc).f1))) (fun _ hk=>⟨hk.1.1.1,⟨hk.1.1.2.1,hk.1.1.2.2⟩⟩)⟩,⟨by(with_reducible repeat(first|apply Kd.ah|apply Kd.ai|apply Kd.aY));exact Kd.aH (Kd.I (p:=⟨dm,1,none⟩) (Kd.I (p:=⟨dm,0,none⟩) (Kd.al iz.out lC.out (by decide)) (fun _ hk=>hk.2) (.int .i64 ((aM cO dc).f0))) (fun _ hk=>hk.2) (.string ((aM cO dc).f1))) (fun _ hk=>⟨hk.1.1,⟨hk.1.2.1,⟨hk.1.2.2.1,⟨hk.1.2.2.2.1,⟨hk.1.2.2.2.2.1,⟨hk.1.2.2.2.2.2.1,hk.1.2.2.2.2.2.2⟩⟩⟩⟩⟩⟩)⟩,⟨by(with_reducible repeat(first|apply Kd.ah|apply Kd.ai|apply Kd.aY));exact Kd.aH (Kd.I (p:=⟨dm,1,none⟩) (Kd.I (p:=⟨dm,0,none⟩) (Kd.al ba.out lC.out (by decide)) (fun _ hk=>hk.2) (.int .i64 ((aM cO dc).f0))) (fun _ hk=>hk.2) (.string ((aM cO dc).f1))) (fun _ hk=>⟨hk.1.1,⟨hk.1.2.1,⟨hk.1.2.2.1,⟨hk.1.2.2.2.1,⟨hk.1.2.2.2.2.1,⟨hk.1.2.2.2.2.2.1,hk.1.2.2.2.2.2.2⟩⟩⟩⟩⟩⟩)⟩,⟨by(with_reducible repeat(first|apply Kd.ah|apply Kd.ai|apply Kd.aY));exact Kd.aH (Kd.I (p:=⟨dm,1,none⟩) (Kd.I (p:=⟨dm,0,none⟩) (Kd.aH xU.out (fun k_ hk=>(⟨hk,hk.2⟩:_∧k_≠dm))) (fun _ hk=>hk.2) (.int .i64 ((aM cO dc).f0))) (fun _ hk=>hk.2) (.string ((aM cO dc).f1))) (fun _ hk=>⟨hk.1.1.1,⟨hk.1.1.2.1,hk.1.1.2.2⟩⟩)⟩,⟨by(with_reducible repeat(first|apply Kd.ah|apply Kd.ai|apply Kd.aY));exact Kd.aH (Kd.I (p:=⟨dm,1,none⟩) (Kd.I (p:=⟨dm,0,none⟩) (Kd.al bS.out lC.out (by decide)) (fun _ hk=>hk.2) (.int .i64 ((aM cO dc).f0))) (fun _ hk=>hk.2) (.string ((aM cO dc).f1))) (fun _ hk=>⟨hk.1.1,⟨hk.1.2.1,⟨hk.1.2.2.1,⟨hk.1.2.2.2.1,⟨hk.1.2.2.2.2.1,⟨hk.1.2.2.2.2.2.1,hk.1.2.2.2.2.2.2⟩⟩⟩⟩⟩⟩)⟩,⟨by(with_reducible repeat(first|apply Kd.ah|apply Kd.ai|apply Kd.aY));exact Kd.aH (Kd.I (p:=⟨dm,1,none⟩) (Kd.I (p:=⟨dm,0,none⟩) (Kd.aH bz.out (fun k_ hk=>(⟨hk,hk.2⟩:_∧k_≠dm))) (fun _ hk=>hk.2) (.int .i64 ((aM cO dc).f0))) (fun _ hk=>hk.2) (.string ((aM cO dc).f1))) (fun _ hk=>⟨hk.1.1.1,⟨hk.1.1.2.1,⟨hk.1.1.2.2.1,hk.1.1.2.2.2⟩⟩⟩)⟩,⟨by(with_reducible repeat(first|apply Kd.ah|apply Kd.ai|apply Kd.aY));exact Kd.aH (Kd.I (p:=⟨dm,1,none⟩) (Kd.I (p:=⟨dm,0,none⟩) (Kd.al bT.out lC.out (by decide)) (fun _ hk=>hk.2) (.int .i64 ((aM cO dc).f0))) (fun _ hk=>hk.2) (.string ((aM cO dc).f1))) (fun _ hk=>⟨hk.1.1,⟨hk.1.2.1,⟨hk.1.2.2.1,⟨hk.1.2.2.2.1,⟨hk.1.2.2.2.2.1,⟨hk.1.2.2.2.2.2.1,hk.1.2.2.2.2.2.2⟩⟩⟩⟩⟩⟩)⟩,⟨by(with_reducible repeat(first|apply Kd.ah|apply Kd.ai|apply Kd.aY));exact Kd.aH (Kd.I (p:=⟨dm,1,none⟩) (Kd.I (p:=⟨dm,0,none⟩) (Kd.al bO.out lC.out (by decide)) (fun _ hk=>hk.2) (.int .i64 ((aM cO dc).f0))) (fun _ hk=>hk.2) (.string ((aM cO dc).f1))) (fun _ hk=>⟨hk.1.1,⟨hk.1.2.1,⟨hk.1.2.2.1,⟨hk.1.2.2.2.1,⟨hk.1.2.2.2.2.1,⟨hk.1.2.2.2.2.2.1,hk.1.2.2.2.2.2.2⟩⟩⟩⟩⟩⟩)⟩,⟨by(with_reducible repeat(first|apply Kd.ah|apply Kd.ai|apply Kd.aY));exact Kd.aH (Kd.I (p:=⟨dm,1,none⟩) (Kd.I (p:=⟨dm,0,none⟩) (Kd.aH bw.out (fun k_ hk=>(⟨hk,hk.2⟩:_∧k_≠dm))) (fun _ hk=>hk.2) (.int .i64 ((aM cO dc).f0))) (fun _ hk=>hk.2) (.string ((aM cO dc).f1))) (fun _ hk=>⟨hk.1.1.1,⟨hk.1.1.2.1,⟨hk.1.1.2.2.1,hk.1.1.2.2.2⟩⟩⟩)⟩,⟨by(with_reducible repeat(first|apply Kd.ah|apply Kd.ai|apply Kd.aY));exact Kd.aH (Kd.I (p:=⟨dm,1,none⟩) (Kd.I (p:=⟨dm,0,none⟩) (Kd.al bP.out lC.out (by decide)) (fun _ hk=>hk.2) (.int .i64 ((aM cO dc).f0))) (fun _ hk=>hk.2) (.string ((aM cO dc).f1))) (fun _ hk=>⟨hk.1.1,⟨hk.1.2.1,⟨hk.1.2.2.1,⟨hk.1.2.2.2.1,⟨hk.1.2.2.2.2.1,⟨hk.1.2.2.2.2.2.1,hk.1.2.2.2.2.2.2⟩⟩⟩⟩⟩⟩)⟩,⟨by(with_reducible repeat(first|apply Kd.ah|apply Kd.ai|apply Kd.aY));exact Kd.aH (Kd.I (p:=⟨dm,1,none⟩) (Kd.I (p:=⟨dm,0,none⟩) (Kd.al bW.out lC.out (by decide)) (fun _ hk=>hk.2) (.int .i64 ((aM cO dc).f0))) (fun _ hk=>hk.2) (.string ((aM cO dc).f1))) (fun _ hk=>⟨hk.1.1,⟨hk.1.2.1,⟨hk.1.2.2.1,⟨hk.1.2.2.2.1,⟨hk.1.2.2.2.2.1,⟨hk.1.2.2.2.2.2.1,hk.1.2.2.2.2.2.2⟩⟩⟩⟩⟩⟩)⟩,⟨by(with_reducible repeat(first|apply Kd.ah|apply Kd.ai|apply Kd.aY));exact Kd.aH (Kd.I (p:=⟨dm,1,none⟩) (Kd.I (p:=⟨dm,0,none⟩) (Kd.aH cB.out (fun k_ hk=>(⟨hk,hk.2⟩:_∧k_≠dm))) (fun _ hk=>hk.2) (.int .i64 ((aM cO dc).f0))) (fun _ hk=>hk.2) (.string ((aM cO dc).f1))) (fun _ hk=>⟨hk.1.1.1,⟨hk.1.1.2.1,⟨hk.1.1.2.2.1,hk.1.1.2.2.2⟩⟩⟩)⟩,⟨by(with_reducible repeat(first|apply Kd.ah|apply Kd.ai|apply Kd.aY));exact Kd.aH (Kd.I (p:=⟨dm,1,none⟩) (Kd.I (p:=⟨dm,0,none⟩) (Kd.al bX.out lC.out (by decide)) (fun _ hk=>hk.2) (.int .i64 ((aM cO dc).f0))) (fun _ hk=>hk.2) (.string ((aM cO dc).f1))) (fun _ hk=>⟨hk.1.1,⟨hk.1.2.1,⟨hk.1.2.2.1,⟨hk.1.2.2.2.1,⟨hk.1.2.2.2.2.1,⟨hk.1.2.2.2.2.2.1,hk.1.2.2.2.2.2.2⟩⟩⟩⟩⟩⟩)⟩,⟨bf bG E2⟩,⟨bf bE E3⟩,⟨bf bH E4⟩,⟨r9 HB bJ bM bQ Oa⟩⟩
           rw[if_neg uL]at H;have Eu:decide (gz<(iM.length:Int))=false:=decide_eq_false uL;clear uL;replace H:=Hz.mp H;obtain⟨⟨kr,pA,lr,AT,Zx⟩,Zy,H⟩:=H
           try dsimp only at H
           have A77:=Ah Zy;clear Zy;replace H:=Hz.mp H;obtain⟨⟨Zz,a0a⟩,a0b,H⟩:=H
           try dsimp only at H
           have A78:=Ah a0b;clear a0b;replace H:=Hz.mp H;obtain⟨⟨cQ,cf,cY,dR,QE⟩,a0c,H⟩:=H
           try dsimp only at H
           have A79:=Ah a0c;clear a0c;have QF:=Ah H;clear H;have hnb81:=Ie.out;have hnc81:=E0.out;have hnb82:=C3.out;have hnc82:=If.out;obtain⟨N9,NA,NB,NC⟩:=b9 bE;obtain⟨ND,NE,NF,NG⟩:=bA bE
           go_upto_region 29 with(first|((with_reducible refine ar (f:=9) rfl ?_);refine gL (some 118) rfl rfl Try.func9 (by kernel_rfl) rfl #[.agg #[.slice cZ dH.length ca,.slice fP ej.length fQ,.slice eF dQ.length eG,.int .i64 mf]] rfl ?_;(with_reducible refine(pR.calls k3 _ _ dH _ _ ej _ _ dQ mf kr pA lr AT Zx _ ?aI ?aJ ?af ?ak ?bN ?bc A77.out).mono ?_);(case aI=>exact bd bO);(case aJ=>exact(Kd.aq bO.out).2.1);(case af=>exact bd bw);(case ak=>exact(Kd.aq bw.out).2.1);(case bN=>exact bd bP);(case bc=>exact(Kd.aq bP.out).2.1);rintro e w84 ⟨v784,v787,v790,rfl,ho0,ho1,ho2,hb⟩;refine⟨_,rfl, ?_⟩;have mC:=Ah (Kd.b8 (Kd.aA (Kd.aA (Kd.aA (Kd.aA (Kd.aA (Kd.aA (Kd.aA (Kd.aA ho0 (Kd.Z (rr iz.out))) (Kd.Z (rr ba.out))) (Kd.Z (rr bS.out))) (Kd.Z (rr bT.out))) (Kd.Z (rr bO.out))) (Kd.Z (rr bP.out))) (Kd.Z (rr bW.out))) (Kd.Z (rr bX.out))) (bF (br HB bJ bM bQ)));have n3:=Ah (Kd.b8 (Kd.aA (Kd.aA (Kd.aA (Kd.aA ho1 (Kd.Z (rr cr.out))) (Kd.Z (rr bz.out))) (Kd.Z (rr bw.out))) (Kd.Z (rr cB.out))) (bF (br HB bJ bM bQ)));replace cr:=Ah (Kd.aX (rr cr.out) (Kd.a8 ho1) hb);replace bz:=Ah (Kd.aX (rr bz.out) (Kd.a8 ho1) hb);replace bw:=Ah (Kd.aX (rr bw.out) (Kd.a8 ho1) hb);replace cB:=Ah (Kd.aX (rr cB.out) (Kd.a8 ho1) hb);have mD:=Ah (Kd.b8 (Kd.aA (Kd.aA (Kd.aA (Kd.aA (Kd.aA (Kd.aA (Kd.aA (Kd.aA ho2 (Kd.Z (rr iz.out))) (Kd.Z (rr ba.out))) (Kd.Z (rr bS.out))) (Kd.Z (rr bT.out))) (Kd.Z (rr bO.out))) (Kd.Z (rr bP.out))) (Kd.Z (rr bW.out))) (Kd.Z (rr bX.out))) (bF (br HB bJ bM bQ)));replace iz:=Ah (Kd.aH (Kd.ag (Kd.ag (Kd.bo (rr iz.out) hb) (Kd.a8 ho0)) (Kd.a8 ho2)) (fun _ h_=>h_.1));replace ba:=Ah (Kd.aH (Kd.ag (Kd.ag (Kd.bo (rr ba.out) hb) (Kd.a8 ho0)) (Kd.a8 ho2)) (fun _ h_=>h_.1));replace bS:=Ah (Kd.aH (Kd.ag (Kd.ag (Kd.bo (rr bS.out) hb) (Kd.a8 ho0)) (Kd.a8 ho2)) (fun _ h_=>h_.1));replace bT:=Ah (Kd.aH (Kd.ag (Kd.ag (Kd.bo (rr bT.out) hb) (Kd.a8 ho0)) (Kd.a8 ho2)) (fun _ h_=>h_.1));replace bO:=Ah (Kd.aH (Kd.ag (Kd.ag (Kd.bo (rr bO.out) hb) (Kd.a8 ho0)) (Kd.a8 ho2)) (fun _ h_=>h_.1));replace bP:=Ah (Kd.aH (Kd.ag (Kd.ag (Kd.bo (rr bP.out) hb) (Kd.a8 ho0)) (Kd.a8 ho2)) (fun _ h_=>h_.1));replace bW:=Ah (Kd.aH (Kd.ag (Kd.ag (Kd.bo (rr bW.out) hb) (Kd.a8 ho0)) (Kd.a8 ho2)) (fun _ h_=>h_.1));replace bX:=Ah (Kd.aH (Kd.ag (Kd.ag (Kd.bo (rr bX.out) hb) (Kd.a8 ho0)) (Kd.a8 ho2)) (fun _ h_=>h_.1));replace bG:=nb bG hb;replace bE:=nb bE hb;replace bH:=nb bH hb;replace HB:=Ah (aT (br HB bJ bM bQ) hb);(try clear hb ho0 ho1 ho2))|((with_reducible refine bC (N:=19) rfl ?_);(try(refine fS (by rfl) ?_;dsimp only));refine bK 19 28 #[.slice none 0 0,.slice none 0 0,.slice none 0 0,.int .i64 0] ?_;intro Xq hg w85 cC hb;replace cr:=nr cr hb;replace iz:=nr iz hb;replace ba:=nr ba hb;replace bS:=nr bS hb;replace bz:=nr bz hb;replace bT:=nr bT hb;replace bO:=nr bO hb;replace bw:=nr bw hb;replace bP:=nr bP hb;replace bW:=nr bW hb;replace cB:=nr cB hb;replace bX:=nr bX hb;replace mC:=nr mC hb;replace n3:=nr n3 hb;replace mD:=nr mD hb;have GW794:=gw hg (br HB bJ bM bQ);have cT:=gw hg (br HB bJ bM bQ);replace HB:=Ah (aT (br HB bJ bM bQ) hb);have Sv:=nn bG hg;have NB794_745:=nm bG hg;replace bG:=nb bG hb;have Sw:=nn bE hg;have NB794_757:=nm bE hg;replace bE:=nb bE hb;have Sx:=nn bH hg;have NB794_769:=nm bH hg;replace bH:=nb bH hb;clear hb hg;obtain⟨mg,mh,eo86⟩:=Kd.ao mC.out;subst eo86;have hnb87:=NB794_745.out;have hnc87:=Sv.out;have hnb88:=NB794_757.out;have hnc88:=Sw.out;have hnb89:=NB794_769.out;have hnc89:=Sx.out;obtain⟨NH,NI,NJ,NK⟩:=b9 cC;obtain⟨NL,NM,NN,NO⟩:=bA cC;obtain⟨sw,sx,eo91⟩:=Kd.ao n3.out;subst eo91;obtain⟨nk,nl,eo92⟩:=Kd.ao mD.out;subst eo92)|((with_reducible refine ar (f:=8) rfl ?_);refine gL (some 123) rfl rfl aaK (by kernel_rfl) rfl #[.agg #[.slice mg kr.length mh,.slice sw pA.length sx,.slice nk lr.length nl,.int .i64 AT]] rfl ?_;(with_reducible refine(gM.calls k3 _ _ kr _ _ pA _ _ lr AT Zz a0a _ ?aI ?aJ ?af ?ak ?bN ?bc A78.out).mono ?_);(case aI=>exact rc mC cC);(case aJ=>exact(Kd.aq mC.out).2.1);(case af=>exact rc n3 cC);(case ak=>exact(Kd.aq n3.out).2.1);(case bN=>exact rc mD cC);(case bc=>exact(Kd.aq mD.out).2.1);rintro e w93 ⟨v796,rfl,ho0,hb⟩;refine⟨_,rfl, ?_⟩;replace cr:=nf cr cC hb;replace bz:=nf bz cC hb;replace bw:=nf bw cC hb;replace cB:=nf cB cC hb;replace n3:=nf n3 cC hb;have vN:=Ah (Kd.b8 (Kd.aA (Kd.aA (Kd.aA (Kd.aA (Kd.aA (Kd.aA (Kd.aA (Kd.aA (Kd.aA (Kd.aA ho0 (Kd.Z (rf iz cC))) (Kd.Z (rf ba cC))) (Kd.Z (rf bS cC))) (Kd.Z (rf bT cC))) (Kd.Z (rf bO cC))) (Kd.Z (rf bP cC))) (Kd.Z (rf bW cC))) (Kd.Z (rf bX cC))) (Kd.Z (rf mC cC))) (Kd.Z (rf mD cC))) (bF (r9 HB bJ bM bQ cT)));replace iz:=Ah (Kd.aX (rf iz cC) (Kd.a8 ho0) hb);replace ba:=Ah (Kd.aX (rf ba cC) (Kd.a8 ho0) hb);replace bS:=Ah (Kd.aX (rf bS cC) (Kd.a8 ho0) hb);replace bT:=Ah (Kd.aX (rf bT cC) (Kd.a8 ho0) hb);replace bO:=Ah (Kd.aX (rf bO cC) (Kd.a8 ho0) hb);replace bP:=Ah (Kd.aX (rf bP cC) (Kd.a8 ho0) hb);replace bW:=Ah (Kd.aX (rf bW cC) (Kd.a8 ho0) hb);replace bX:=Ah (Kd.aX (rf bX cC) (Kd.a8 ho0) hb);replace mC:=Ah (Kd.aX (rf mC cC) (Kd.a8 ho0) hb);replace mD:=Ah (Kd.aX (rf mD cC) (Kd.a8 ho0) hb);replace bG:=Ah (cS (bf bG Sv) hb);replace bE:=Ah (cS (bf bE Sw) hb);replace bH:=Ah (cS (bf bH Sx) hb);replace cC:=Ah (cS (g:=Xq) (o:= .cells #[.slice mg kr.length mh,.slice sw pA.length sx,.slice nk lr.length nl,.int .i64 AT] 28 (0,0)) (by(with_reducible repeat(first|refine aC ?_ _|refine U ?_|refine X ?_ _));refine aU (cs:= #[.slice mg kr.length mh,.slice sw pA.length sx,.slice nk lr.length nl,.int .i64 0]) ?_ 3 _ rfl;(with_reducible repeat(first|refine aC ?_ _|refine U ?_|refine X ?_ _));refine aU (cs:= #[.slice mg kr.length mh,.slice sw pA.length sx,.slice none 0 0,.int .i64 0]) ?_ 2 _ rfl;(with_reducible repeat(first|refine aC ?_ _|refine U ?_|refine X ?_ _));refine aU (cs:= #[.slice mg kr.length mh,.slice none 0 0,.slice none 0 0,.int .i64 0]) ?_ 1 _ rfl;(with_reducible repeat(first|refine aC ?_ _|refine U ?_|refine X ?_ _));refine aU (cs:= #[.slice none 0 0,.slice none 0 0,.slice none 0 0,.int .i64 0]) ?_ 0 _ rfl;(with_reducible repeat(first|refine aC ?_ _|refine U ?_|refine X ?_ _));exact cC.out) hb);replace HB:=Ah (aT (r9 HB bJ bM bQ cT) hb);(try clear hb ho0);obtain⟨NP,NQ,NR,NS⟩:=b9 cC;obtain⟨NT,NU,NV,NW⟩:=bA cC)|((with_reducible refine ar (f:=10) rfl ?_);refine gL (some 128) rfl rfl Try.func10 (by kernel_rfl) rfl #[.agg #[.slice mg kr.length mh,.slice sw pA.length sx,.slice nk lr.length nl,.int .i64 AT]] rfl ?_;(with_reducible refine(kF.calls k3 _ _ kr _ _ pA _ _ lr AT cQ cf cY dR QE _ ?aI ?aJ ?af ?ak ?bN ?bc A79.out).mono ?_);(case aI=>exact bd mC);(case aJ=>exact(Kd.aq mC.out).2.1);(case af=>exact bd n3);(case ak=>exact(Kd.aq n3.out).2.1);(case bN=>exact bd mD);(case bc=>exact(Kd.aq mD.out).2.1);rintro e w95 ⟨v800,v803,v806,rfl,ho0,ho1,ho2,hb⟩;refine⟨_,rfl, ?_⟩;have CU:=Ah (Kd.b8 (Kd.aA (Kd.aA (Kd.aA (Kd.aA (Kd.aA (Kd.aA (Kd.aA (Kd.aA (Kd.aA (Kd.aA (Kd.aA ho0 (Kd.Z (rr iz.out))) (Kd.Z (rr ba.out))) (Kd.Z (rr bS.out))) (Kd.Z (rr bT.out))) (Kd.Z (rr bO.out))) (Kd.Z (rr bP.out))) (Kd.Z (rr bW.out))) (Kd.Z (rr bX.out))) (Kd.Z (rr mC.out))) (Kd.Z (rr mD.out))) (Kd.Z (rr vN.out))) (bF (r9 HB bJ bM bQ cT)));have CV:=Ah (Kd.b8 (Kd.aA (Kd.aA (Kd.aA (Kd.aA (Kd.aA ho1 (Kd.Z (rr cr.out))) (Kd.Z (rr bz.out))) (Kd.Z (rr bw.out))) (Kd.Z (rr cB.out))) (Kd.Z (rr n3.out))) (bF (r9 HB bJ bM bQ cT)));replace cr:=Ah (Kd.aX (rr cr.out) (Kd.a8 ho1) hb);replace bz:=Ah (Kd.aX (rr bz.out) (Kd.a8 ho1) hb);replace bw:=Ah (Kd.aX (rr bw.out) (Kd.a8 ho1) hb);replace cB:=Ah (Kd.aX (rr cB.out) (Kd.a8 ho1) hb);replace n3:=Ah (Kd.aX (rr n3.out) (Kd.a8 ho1) hb);have CW:=Ah (Kd.b8 (Kd.aA (Kd.aA (Kd.aA (Kd.aA (Kd.aA (Kd.aA (Kd.aA (Kd.aA (Kd.aA (Kd.aA (Kd.aA ho2 (Kd.Z (rr iz.out))) (Kd.Z (rr ba.out))) (Kd.Z (rr bS.out))) (Kd.Z (rr bT.out))) (Kd.Z (rr bO.out))) (Kd.Z (rr bP.out))) (Kd.Z (rr bW.out))) (Kd.Z (rr bX.out))) (Kd.Z (rr mC.out))) (Kd.Z (rr mD.out))) (Kd.Z (rr vN.out))) (bF (r9 HB bJ bM bQ cT)));replace iz:=Ah (Kd.aH (Kd.ag (Kd.ag (Kd.bo (rr iz.out) hb) (Kd.a8 ho0)) (Kd.a8 ho2)) (fun _ h_=>h_.1));replace ba:=Ah (Kd.aH (Kd.ag (Kd.ag (Kd.bo (rr ba.out) hb) (Kd.a8 ho0)) (Kd.a8 ho2)) (fun _ h_=>h_.1));replace bS:=Ah (Kd.aH (Kd.ag (Kd.ag (Kd.bo (rr bS.out) hb) (Kd.a8 ho0)) (Kd.a8 ho2)) (fun _ h_=>h_.1));replace bT:=Ah (Kd.aH (Kd.ag (Kd.ag (Kd.bo (rr bT.out) hb) (Kd.a8 ho0)) (Kd.a8 ho2)) (fun _ h_=>h_.1));replace bO:=Ah (Kd.aH (Kd.ag (Kd.ag (Kd.bo (rr bO.out) hb) (Kd.a8 ho0)) (Kd.a8 ho2)) (fun _ h_=>h_.1));replace bP:=Ah (Kd.aH (Kd.ag (Kd.ag (Kd.bo (rr bP.out) hb) (Kd.a8 ho0)) (Kd.a8 ho2)) (fun _ h_=>h_.1));replace bW:=Ah (Kd.aH (Kd.ag (Kd.ag (Kd.bo (rr bW.out) hb) (Kd.a8 ho0)) (Kd.a8 ho2)) (fun _ h_=>h_.1));replace bX:=Ah (Kd.aH (Kd.ag (Kd.ag (Kd.bo (rr bX.out) hb) (Kd.a8 ho0)) (Kd.a8 ho2)) (fun _ h_=>h_.1));replace mC:=Ah (Kd.aH (Kd.ag (Kd.ag (Kd.bo (rr mC.out) hb) (Kd.a8 ho0)) (Kd.a8 ho2)) (fun _ h_=>h_.1));replace mD:=Ah (Kd.aH (Kd.ag (Kd.ag (Kd.bo (rr mD.out) hb) (Kd.a8 ho0)) (Kd.a8 ho2)) (fun _ h_=>h_.1));replace vN:=Ah (Kd.aH (Kd.ag (Kd.ag (Kd.bo (rr vN.out) hb) (Kd.a8 ho0)) (Kd.a8 ho2)) (fun _ h_=>h_.1));replace bG:=nb bG hb;replace bE:=nb bE hb;replace bH:=nb bH hb;replace cC:=nb cC hb;replace HB:=Ah (aT (r9 HB bJ bM bQ cT) hb);(try clear hb ho0 ho1 ho2))|((with_reducible refine bC (N:=23) rfl ?_);(try(refine fS (by rfl) ?_;dsimp only));refine bK 23 28 #[.slice none 0 0,.slice none 0 0,.slice none 0 0,.int .i64 0] ?_;intro au hg w96 bU hb;replace cr:=nr cr hb;replace iz:=nr iz hb;replace ba:=nr ba hb;replace bS:=nr bS hb;replace bz:=nr bz hb;replace bT:=nr bT hb;replace bO:=nr bO hb;replace bw:=nr bw hb;replace bP:=nr bP hb;replace bW:=nr bW hb;replace cB:=nr cB hb;replace bX:=nr bX hb;replace mC:=nr mC hb;replace n3:=nr n3 hb;replace mD:=nr mD hb;replace vN:=nr vN hb;replace CU:=nr CU hb;replace CV:=nr CV hb;replace CW:=nr CW hb;have GW810:=gw hg (r9 HB bJ bM bQ cT);have ck:=gw hg (r9 HB bJ bM bQ cT);replace HB:=Ah (aT (r9 HB bJ bM bQ cT) hb);have E5:=nn bG hg;have Sy:=nm bG hg;replace bG:=nb bG hb;have E6:=nn bE hg;have Sz:=nm bE hg;replace bE:=nb bE hb;have E7:=nn bH hg;have T0:=nm bH hg;replace bH:=nb bH hb;have E8:=nn cC hg;have T2:=nm cC hg;replace cC:=nb cC hb;clear hb hg;obtain⟨ct,cu,QG⟩:=Kd.ao CU.out;subst QG;have hnb98:=Sy.out;have hnc98:=E5.out;have hnb99:=Sz.out;have hnc99:=E6.out;have hnb100:=T0.out;have hnc100:=E7.out;have hnb101:=T2.out;have hnc101:=E8.out;obtain⟨Mn,Mo,Mp,Mq⟩:=b9 bU;obtain⟨Mr,Ms,Mt,Mu⟩:=bA bU;obtain⟨dh,di,eo103⟩:=Kd.ao CV.out;subst eo103;obtain⟨dW,dX,eo104⟩:=Kd.ao CW.out;subst eo104))
           (try simp only[Act.put,Ok,mr,mQ])
           go_cut [142] (fun a0d wc=>∃ (kq:Nat) (J6:Bool),a0d= .bool J6∧a9 (cK.j4 kq l1 jZ QE J6 cQ cf cY dR=some r)∧a9 (kq≤k3)∧a9 (Kd.R Kd.string 9 wc w.heap.size (fun k_=>some k_≠((.slice dB dP.length dC):Value).ownBlock∧some k_≠((.slice bx da.length bu):Value).ownBlock∧some k_≠((.slice cZ dH.length ca):Value).ownBlock∧some k_≠((.slice eF dQ.length eG):Value).ownBlock∧some k_≠((.slice bq cx.length bp):Value).ownBlock∧some k_≠((.slice d8 dA.length d9):Value).ownBlock∧some k_≠((.slice mg kr.length mh):Value).ownBlock∧some k_≠((.slice nk lr.length nl):Value).ownBlock∧some k_≠((.slice ct cQ.length cu):Value).ownBlock∧some k_≠((.slice dW cY.length dX):Value).ownBlock) i3 jZ)∧a9 (Kd.R Kd.string 9 wc w.heap.size (fun k_=>some k_≠(i3:Value).ownBlock∧some k_≠((.slice bx da.length bu):Value).ownBlock∧some k_≠((.slice cZ dH.length ca):Value).ownBlock∧some k_≠((.slice eF dQ.length eG):Value).ownBlock∧some k_≠((.slice bq cx.length bp):Value).ownBlock∧some k_≠((.slice d8 dA.length d9):Value).ownBlock∧some k_≠((.slice mg kr.length mh):Value).ownBlock∧some k_≠((.slice nk lr.length nl):Value).ownBlock∧some k_≠((.slice ct cQ.length cu):Value).ownBlock∧some k_≠((.slice dW cY.length dX):Value).ownBlock) (.slice dB dP.length dC) dP)∧a9 (Kd.R bL 37 wc w.heap.size (fun k_=>some k_≠((.slice fP ej.length fQ):Value).ownBlock∧some k_≠((.slice cm eU.length cn):Value).ownBlock∧some k_≠((.slice sw pA.length sx):Value).ownBlock∧some k_≠((.slice dh cf.length di):Value).ownBlock) (.slice d5 fA.length cq) fA)∧a9 (Kd.R Kd.string 9 wc w.heap.size (fun k_=>some k_≠(i3:Value).ownBlock∧some k_≠((.slice dB dP.length dC):Value).ownBlock∧some k_≠((.slice cZ dH.length ca):Value).ownBlock∧some k_≠((.slice eF dQ.length eG):Value).ownBlock∧some k_≠((.slice bq cx.length bp):Value).ownBlock∧some k_≠((.slice d8 dA.length d9):Value).ownBlock∧some k_≠((.slice mg kr.length mh):Value).ownBlock∧some k_≠((.slice nk lr.length nl):Value).ownBlock∧some k_≠((.slice ct cQ.length cu):Value).ownBlock∧some k_≠((.slice dW cY.length dX):Value).ownBlock) (.slice bx da.length bu) da)∧a9 (Kd.R Kd.string 9 wc w.heap.size (fun k_=>some k_≠(i3:Value).ownBlock∧some k_≠((.slice dB dP.length dC):Value).ownBlock∧some k_≠((.slice bx da.length bu):Value).ownBlock∧some k_≠((.slice eF dQ.length eG):Value).ownBlock∧some k_≠((.slice bq cx.length bp):Value).ownBlock∧some k_≠((.slice d8 dA.length d9):Value).ownBlock∧some k_≠((.slice mg kr.length mh):Value).ownBlock∧some k_≠((.slice nk lr.length nl):Value).ownBlock∧some k_≠((.slice ct cQ.length cu):Value).ownBlock∧some k_≠((.slice dW cY.length dX):Value).ownBlock) (.slice cZ dH.length ca) dH)∧a9 (Kd.R bL 37 wc w.heap.size (fun k_=>some k_≠((.slice d5 fA.length cq):Value).ownBlock∧some k_≠((.slice cm eU.length cn):Value).ownBlock∧some k_≠((.slice sw pA.length sx):Value).ownBlock∧some k_≠((.slice dh cf.length di):Value).ownBlock) (.slice fP ej.length fQ) ej)∧a9 (Kd.R Kd.string 9 wc w.heap.size (fun k_=>some k_≠(i3:Value).ownBlock∧some k_≠((.slice dB dP.length dC):Value).ownBlock∧some k_≠((.slice bx da.length bu):Value).ownBlock∧some k_≠((.slice cZ dH.length ca):Value).ownBlock∧some k_≠((.slice bq cx.length bp):Value).ownBlock∧some k_≠((.slice d8 dA.length d9):Value).ownBlock∧some k_≠((.slice mg kr.length mh):Value).ownBlock∧some k_≠((.slice nk lr.length nl):Value).ownBlock∧some k_≠((.slice ct cQ.length cu):Value).ownBlock∧some k_≠((.slice dW cY.length dX):Value).ownBlock) (.slice eF dQ.length eG) dQ)∧a9 (Kd.R Kd.string 9 wc w.heap.size (fun k_=>some k_≠(i3:Value).ownBlock∧some k_≠((.slice dB dP.length dC):Value).ownBlock∧some k_≠((.slice bx da.length bu):Value).ownBlock∧some k_≠((.slice cZ dH.length ca):Value).ownBlock∧some k_≠((.slice eF dQ.length eG):Value).ownBlock∧some k_≠((.slice d8 dA.length d9):Value).ownBlock∧some k_≠((.slice mg kr.length mh):Value).ownBlock∧some k_≠((.slice nk lr.length nl):Value).ownBlock∧some k_≠((.slice ct cQ.length cu):Value).ownBlock∧some k_≠((.slice dW cY.length dX):Value).ownBlock) (.slice bq cx.length bp) cx)∧a9 (Kd.R bL 37 wc w.heap.size (fun k_=>some k_≠((.slice d5 fA.length cq):Value).ownBlock∧some k_≠((.slice fP ej.length fQ):Value).ownBlock∧some k_≠((.slice sw pA.length sx):Value).ownBlock∧some k_≠((.slice dh cf.length di):Value).ownBlock) (.slice cm eU.length cn) eU)∧a9 (Kd.R Kd.string 9 wc w.heap.size (fun k_=>some k_≠(i3:Value).ownBlock∧some k_≠((.slice dB dP.length dC):Value).ownBlock∧some k_≠((.slice bx da.length bu):Value).ownBlock∧some k_≠((.slice cZ dH.length ca):Value).ownBlock∧some k_≠((.slice eF dQ.length eG):Value).ownBlock∧some k_≠((.slice bq cx.length bp):Value).ownBlock∧some k_≠((.slice mg kr.length mh):Value).ownBlock∧some k_≠((.slice nk lr.length nl):Value).ownBlock∧some k_≠((.slice ct cQ.length cu):Value).ownBlock∧some k_≠((.slice dW cY.length dX):Value).ownBlock) (.slice d8 dA.length d9) dA)∧a9 (Kd.R Kd.string 9 wc w.heap.size (fun k_=>some k_≠(i3:Value).ownBlock∧some k_≠((.slice dB dP.length dC):Value).ownBlock∧some k_≠((.slice bx da.length bu):Value).ownBlock∧some k_≠((.slice cZ dH.length ca):Value).ownBlock∧some k_≠((.slice eF dQ.length eG):Value).ownBlock∧some k_≠((.slice bq cx.length bp):Value).ownBlock∧some k_≠((.slice d8 dA.length d9):Value).ownBlock∧some k_≠((.slice nk lr.length nl):Value).ownBlock∧some k_≠((.slice ct cQ.length cu):Value).ownBlock∧some k_≠((.slice dW cY.length dX):Value).ownBlock) (.slice mg kr.length mh) kr)∧a9 (Kd.R bL 37 wc w.heap.size (fun k_=>some k_≠((.slice d5 fA.length cq):Value).ownBlock∧some k_≠((.slice fP ej.length fQ):Value).ownBlock∧some k_≠((.slice cm eU.length cn):Value).ownBlock∧some k_≠((.slice dh cf.length di):Value).ownBlock) (.slice sw pA.length sx) pA)∧a9 (Kd.R Kd.string 9 wc w.heap.size (fun k_=>some k_≠(i3:Value).ownBlock∧some k_≠((.slice dB dP.length dC):Value).ownBlock∧some k_≠((.slice bx da.length bu):Value).ownBlock∧some k_≠((.slice cZ dH.length ca):Value).ownBlock∧some k_≠((.slice eF dQ.length eG):Value).ownBlock∧some k_≠((.slice bq cx.length bp):Value).ownBlock∧some k_≠((.slice d8 dA.length d9):Value).ownBlock∧some k_≠((.slice mg kr.length mh):Value).ownBlock∧some k_≠((.slice ct cQ.length cu):Value).ownBlock∧some k_≠((.slice dW cY.length dX):Value).ownBlock) (.slice nk lr.length nl) lr)∧a9 (Kd.R Kd.string 9 wc w.heap.size (fun k_=>some k_≠(i3:Value).ownBlock∧some k_≠((.slice dB dP.length dC):Value).ownBlock∧some k_≠((.slice bx da.length bu):Value).ownBlock∧some k_≠((.slice cZ dH.length ca):Value).ownBlock∧some k_≠((.slice eF dQ.length eG):Value).ownBlock∧some k_≠((.slice bq cx.length bp):Value).ownBlock∧some k_≠((.slice d8 dA.length d9):Value).ownBlock∧some k_≠((.slice mg kr.length mh):Value).ownBlock∧some k_≠((.slice nk lr.length nl):Value).ownBlock∧some k_≠((.slice dW cY.length dX):Value).ownBlock) (.slice ct cQ.length cu) cQ)∧a9 (Kd.R bL 37 wc w.heap.size (fun k_=>some k_≠((.slice d5 fA.length cq):Value).ownBlock∧some k_≠((.slice fP ej.length fQ):Value).ownBlock∧some k_≠((.slice cm eU.length cn):Value).ownBlock∧some k_≠((.slice sw pA.length sx):Value).ownBlock) (.slice dh cf.length di) cf)∧a9 (Kd.R Kd.string 9 wc w.heap.size (fun k_=>some k_≠(i3:Value).ownBlock∧some k_≠((.slice dB dP.length dC):Value).ownBlock∧some k_≠((.slice bx da.length bu):Value).ownBlock∧some k_≠((.slice cZ dH.length ca):Value).ownBlock∧some k_≠((.slice eF dQ.length eG):Value).ownBlock∧some k_≠((.slice bq cx.length bp):Value).ownBlock∧some k_≠((.slice d8 dA.length d9):Value).ownBlock∧some k_≠((.slice mg kr.length mh):Value).ownBlock∧some k_≠((.slice nk lr.length nl):Value).ownBlock∧some k_≠((.slice ct cQ.length cu):Value).ownBlock) (.slice dW cY.length dX) cY)∧a9 (wc.heap[xQ]?=some (.cells #[(.slice dB dP.length dC),(.slice d5 fA.length cq),(.slice bx da.length bu),.int .i64 nj] 28 (0,0)))∧a9 (wc.heap[xR]?=some (.cells #[(.slice cZ dH.length ca),(.slice fP ej.length fQ),(.slice eF dQ.length eG),.int .i64 mf] 28 (0,0)))∧a9 (wc.heap[fg]?=some (.cells #[(.slice bq cx.length bp),(.slice cm eU.length cn),(.slice d8 dA.length d9),.int .i64 lp] 28 (0,0)))∧a9 (wc.heap[Xq]?=some (.cells #[(.slice mg kr.length mh),(.slice sw pA.length sx),(.slice nk lr.length nl),.int .i64 AT] 28 (0,0)))∧a9 (wc.heap[au]?=some (.cells #[(.slice ct cQ.length cu),(.slice dh cf.length di),(.slice dW cY.length dX),.int .i64 dR] 28 (0,0)))∧a9 (Below w.heap.size w wc))
           case first=>
            have H:=QF.out;clear QF
            by_cases c105:Zx=true
            rotate_left
            ·
             replace c105:=i1.mpr c105;subst c105;rw[if_neg dO]at H;have H':=Ah H;clear H
             go_wp2
             go_meet
             case rel=>exact⟨_,(true),e3,H',⟨by have:=o0.out;have:=st.out;have:=mq.out;first|omega|exact lQ _⟩,⟨by(with_reducible repeat(first|apply Kd.ah|apply Kd.ai|apply Kd.aY));exact Kd.aH (Kd.I (p:=⟨au,3,none⟩) (Kd.I (p:=⟨au,2,none⟩) (Kd.I (p:=⟨au,1,none⟩) (Kd.I (p:=⟨au,0,none⟩) (Kd.al ba.out bU.out (by decide)) (fun _ hk=>hk.2) (.slice ct cQ.length cu)) (fun _ hk=>hk.2) (.slice dh cf.length di)) (fun _ hk=>hk.2) (.slice dW cY.length dX)) (fun _ hk=>hk.2) (.int .i64 dR)) (fun _ hk=>⟨hk.1.1.1.1.1.1.2.1,⟨hk.1.1.1.1.1.1.2.2.1,⟨hk.1.1.1.1.1.1.2.2.2.1,⟨hk.1.1.1.1.1.1.2.2.2.2.1,⟨hk.1.1.1.1.1.1.2.2.2.2.2.1,⟨hk.1.1.1.1.1.1.2.2.2.2.2.2,⟨hk.1.1.1.1.1.2,⟨hk.1.1.1.1.2,⟨hk.1.1.2,hk.1.2⟩⟩⟩⟩⟩⟩⟩⟩⟩)⟩,⟨by(with_reducible repeat(first|apply Kd.ah|apply Kd.ai|apply Kd.aY));exact Kd.aH (Kd.I (p:=⟨au,3,none⟩) (Kd.I (p:=⟨au,2,none⟩) (Kd.I (p:=⟨au,1,none⟩) (Kd.I (p:=⟨au,0,none⟩) (Kd.al bS.out bU.out (by decide)) (fun _ hk=>hk.2) (.slice ct cQ.length cu)) (fun _ hk=>hk.2) (.slice dh cf.length di)) (fun _ hk=>hk.2) (.slice dW cY.length dX)) (fun _ hk=>hk.2) (.int .i64 dR)) (fun _ hk=>⟨hk.1.1.1.1.1.1.2.1,⟨hk.1.1.1.1.1.1.2.2.1,⟨hk.1.1.1.1.1.1.2.2.2.1,⟨hk.1.1.1.1.1.1.2.2.2.2.1,⟨hk.1.1.1.1.1.1.2.2.2.2.2.1,⟨hk.1.1.1.1.1.1.2.2.2.2.2.2,⟨hk.1.1.1.1.1.2,⟨hk.1.1.1.1.2,⟨hk.1.1.2,hk.1.2⟩⟩⟩⟩⟩⟩⟩⟩⟩)⟩,⟨by(with_reducible repeat(first|apply Kd.ah|apply Kd.ai|apply Kd.aY));exact Kd.aH (Kd.I (p:=⟨au,3,none⟩) (Kd.I (p:=⟨au,2,none⟩) (Kd.I (p:=⟨au,1,none⟩) (Kd.I (p:=⟨au,0,none⟩) (Kd.al bz.out bU.out (by decide)) (fun _ hk=>hk.2) (.slice ct cQ.length cu)) (fun _ hk=>hk.2) (.slice dh cf.length di)) (fun _ hk=>hk.2) (.slice dW cY.length dX)) (fun _ hk=>hk.2) (.int .i64 dR)) (fun _ hk=>⟨hk.1.1.1.2.1,⟨hk.1.1.1.2.2,⟨hk.1.1.2,hk.1.2⟩⟩⟩)⟩,⟨by(with_reducible repeat(first|apply Kd.ah|apply Kd.ai|apply Kd.aY));exact Kd.aH (Kd.I (p:=⟨au,3,none⟩) (Kd.I (p:=⟨au,2,none⟩) (Kd.I (p:=⟨au,1,none⟩) (Kd.I (p:=⟨au,0,none⟩) (Kd.al bT.out bU.out (by decide)) (fun _ hk=>hk.2) (.slice ct cQ.length cu)) (fun _ hk=>hk.2) (.slice dh cf.length di)) (fun _ hk=>hk.2) (.slice dW cY.length dX)) (fun _ hk=>hk.2) (.int .i64 dR)) (fun _ hk=>⟨hk.1.1.1.1.1.1.2.1,⟨hk.1.1.1.1.1.1.2.2.1,⟨hk.1.1.1.1.1.1.2.2.2.1,⟨hk.1.1.1.1.1.1.2.2.2.2.1,⟨hk.1.1.1.1.1.1.2.2.2.2.2.1,⟨hk.1.1.1.1.1.1.2.2.2.2.2.2,⟨hk.1.1.1.1.1.2,⟨hk.1.1.1.1.2,⟨hk.1.1.2,hk.1.2⟩⟩⟩⟩⟩⟩⟩⟩⟩)⟩,⟨by(with_reducible repeat(first|apply Kd.ah|apply Kd.ai|apply Kd.aY));exact Kd.aH (Kd.I (p:=⟨au,3,none⟩) (Kd.I (p:=⟨au,2,none⟩) (Kd.I (p:=⟨au,1,none⟩) (Kd.I (p:=⟨au,0,none⟩) (Kd.al bO.out bU.out (by decide)) (fun _ hk=>hk.2) (.slice ct cQ.length cu)) (fun _ hk=>hk.2) (.slice dh cf.length di)) (fun _ hk=>hk.2) (.slice dW cY.length dX)) (fun _ hk=>hk.2) (.int .i64 dR)) (fun _ hk=>⟨hk.1.1.1.1.1.1.2.1,⟨hk.1.1.1.1.1.1.2.2.1,⟨hk.1.1.1.1.1.1.2.2.2.1,⟨hk.1.1.1.1.1.1.2.2.2.2.1,⟨hk.1.1.1.1.1.1.2.2.2.2.2.1,⟨hk.1.1.1.1.1.1.2.2.2.2.2.2,⟨hk.1.1.1.1.1.2,⟨hk.1.1.1.1.2,⟨hk.1.1.2,hk.1.2⟩⟩⟩⟩⟩⟩⟩⟩⟩)⟩,⟨by(with_reducible repeat(first|apply Kd.ah|apply Kd.ai|apply Kd.aY));exact Kd.aH (Kd.I (p:=⟨au,3,none⟩) (Kd.I (p:=⟨au,2,none⟩) (Kd.I (p:=⟨au,1,none⟩) (Kd.I (p:=⟨au,0,none⟩) (Kd.al bw.out bU.out (by decide)) (fun _ hk=>hk.2) (.slice ct cQ.length cu)) (fun _ hk=>hk.2) (.slice dh cf.length di)) (fun _ hk=>hk.2) (.slice dW cY.length dX)) (fun _ hk=>hk.2) (.int .i64 dR)) (fun _ hk=>⟨hk.1.1.1.2.1,⟨hk.1.1.1.2.2,⟨hk.1.1.2,hk.1.2⟩⟩⟩)⟩,⟨by(with_reducible repeat(first|apply Kd.ah|apply Kd.ai|apply Kd.aY));exact Kd.aH (Kd.I (p:=⟨au,3,none⟩) (Kd.I (p:=⟨au,2,none⟩) (Kd.I (p:=⟨au,1,none⟩) (Kd.I (p:=⟨au,0,none⟩) (Kd.al bP.out bU.out (by decide)) (fun _ hk=>hk.2) (.slice ct cQ.length cu)) (fun _ hk=>hk.2) (.slice dh cf.length di)) (fun _ hk=>hk.2) (.slice dW cY.length dX)) (fun _ hk=>hk.2) (.int .i64 dR)) (fun _ hk=>⟨hk.1.1.1.1.1.1.2.1,⟨hk.1.1.1.1.1.1.2.2.1,⟨hk.1.1.1.1.1.1.2.2.2.1,⟨hk.1.1.1.1.1.1.2.2.2.2.1,⟨hk.1.1.1.1.1.1.2.2.2.2.2.1,⟨hk.1.1.1.1.1.1.2.2.2.2.2.2,⟨hk.1.1.1.1.1.2,⟨hk.1.1.1.1.2,⟨hk.1.1.2,hk.1.2⟩⟩⟩⟩⟩⟩⟩⟩⟩)⟩,⟨by(with_reducible repeat(first|apply Kd.ah|apply Kd.ai|apply Kd.aY));exact Kd.aH (Kd.I (p:=⟨au,3,none⟩) (Kd.I (p:=⟨au,2,none⟩) (Kd.I (p:=⟨au,1,none⟩) (Kd.I (p:=⟨au,0,none⟩) (Kd.al bW.out bU.out (by decide)) (fun _ hk=>hk.2) (.slice ct cQ.length cu)) (fun _ hk=>hk.2) (.slice dh cf.length di)) (fun _ hk=>hk.2) (.slice dW cY.length dX)) (fun _ hk=>hk.2) (.int .i64 dR)) (fun _ hk=>⟨hk.1.1.1.1.1.1.2.1,⟨hk.1.1.1.1.1.1.2.2.1,⟨hk.1.1.1.1.1.1.2.2.2.1,⟨hk.1.1.1.1.1.1.2.2.2.2.1,⟨hk.1.1.1.1.1.1.2.2.2.2.2.1,⟨hk.1.1.1.1.1.1.2.2.2.2.2.2,⟨hk.1.1.1.1.1.2,⟨hk.1.1.1.1.2,⟨hk.1.1.2,hk.1.2⟩⟩⟩⟩⟩⟩⟩⟩⟩)⟩,⟨by(with_reducible repeat(first|apply Kd.ah|apply Kd.ai|apply Kd.aY));exact Kd.aH (Kd.I (p:=⟨au,3,none⟩) (Kd.I (p:=⟨au,2,none⟩) (Kd.I (p:=⟨au,1,none⟩) (Kd.I (p:=⟨au,0,none⟩) (Kd.al cB.out bU.out (by decide)) (fun _ hk=>hk.2) (.slice ct cQ.length cu)) (fun _ hk=>hk.2) (.slice dh cf.length di)) (fun _ hk=>hk.2) (.slice dW cY.length dX)) (fun _ hk=>hk.2) (.int .i64 dR)) (fun _ hk=>⟨hk.1.1.1.2.1,⟨hk.1.1.1.2.2,⟨hk.1.1.2,hk.1.2⟩⟩⟩)⟩,⟨by(with_reducible repeat(first|apply Kd.ah|apply Kd.ai|apply Kd.aY));exact Kd.aH (Kd.I (p:=⟨au,3,none⟩) (Kd.I (p:=⟨au,2,none⟩) (Kd.I (p:=⟨au,1,none⟩) (Kd.I (p:=⟨au,0,none⟩) (Kd.al bX.out bU.out (by decide)) (fun _ hk=>hk.2) (.slice ct cQ.length cu)) (fun _ hk=>hk.2) (.slice dh cf.length di)) (fun _ hk=>hk.2) (.slice dW cY.length dX)) (fun _ hk=>hk.2) (.int .i64 dR)) (fun _ hk=>⟨hk.1.1.1.1.1.1.2.1,⟨hk.1.1.1.1.1.1.2.2.1,⟨hk.1.1.1.1.1.1.2.2.2.1,⟨hk.1.1.1.1.1.1.2.2.2.2.1,⟨hk.1.1.1.1.1.1.2.2.2.2.2.1,⟨hk.1.1.1.1.1.1.2.2.2.2.2.2,⟨hk.1.1.1.1.1.2,⟨hk.1.1.1.1.2,⟨hk.1.1.2,hk.1.2⟩⟩⟩⟩⟩⟩⟩⟩⟩)⟩,⟨by(with_reducible repeat(first|apply Kd.ah|apply Kd.ai|apply Kd.aY));exact Kd.aH (Kd.I (p:=⟨au,3,none⟩) (Kd.I (p:=⟨au,2,none⟩) (Kd.I (p:=⟨au,1,none⟩) (Kd.I (p:=⟨au,0,none⟩) (Kd.al mC.out bU.out (by decide)) (fun _ hk=>hk.2) (.slice ct cQ.length cu)) (fun _ hk=>hk.2) (.slice dh cf.length di)) (fun _ hk=>hk.2) (.slice dW cY.length dX)) (fun _ hk=>hk.2) (.int .i64 dR)) (fun _ hk=>⟨hk.1.1.1.1.1.1.1.1.1.1.2,⟨hk.1.1.1.1.1.1.1.1.1.2,⟨hk.1.1.1.1.1.1.1.1.2,⟨hk.1.1.1.1.1.1.1.2,⟨hk.1.1.1.1.1.1.2,⟨hk.1.1.1.1.1.2,⟨hk.1.1.1.1.2,⟨hk.1.1.1.1.1.1.1.1.1.1.1.1,⟨hk.1.1.2,hk.1.2⟩⟩⟩⟩⟩⟩⟩⟩⟩)⟩,⟨by(with_reducible repeat(first|apply Kd.ah|apply Kd.ai|apply Kd.aY));exact Kd.aH (Kd.I (p:=⟨au,3,none⟩) (Kd.I (p:=⟨au,2,none⟩) (Kd.I (p:=⟨au,1,none⟩) (Kd.I (p:=⟨au,0,none⟩) (Kd.al n3.out bU.out (by decide)) (fun _ hk=>hk.2) (.slice ct cQ.length cu)) (fun _ hk=>hk.2) (.slice dh cf.length di)) (fun _ hk=>hk.2) (.slice dW cY.length dX)) (fun _ hk=>hk.2) (.int .i64 dR)) (fun _ hk=>⟨hk.1.1.1.1.2,⟨hk.1.1.1.2,⟨hk.1.1.2,hk.1.2⟩⟩⟩)⟩,⟨by(with_reducible repeat(first|apply Kd.ah|apply Kd.ai|apply Kd.aY));exact Kd.aH (Kd.I (p:=⟨au,3,none⟩) (Kd.I (p:=⟨au,2,none⟩) (Kd.I (p:=⟨au,1,none⟩) (Kd.I (p:=⟨au,0,none⟩) (Kd.al mD.out bU.out (by decide)) (fun _ hk=>hk.2) (.slice ct cQ.length cu)) (fun _ hk=>hk.2) (.slice dh cf.length di)) (fun _ hk=>hk.2) (.slice dW cY.length dX)) (fun _ hk=>hk.2) (.int .i64 dR)) (fun _ hk=>⟨hk.1.1.1.1.1.1.1.1.1.1.2,⟨hk.1.1.1.1.1.1.1.1.1.2,⟨hk.1.1.1.1.1.1.1.1.2,⟨hk.1.1.1.1.1.1.1.2,⟨hk.1.1.1.1.1.1.2,⟨hk.1.1.1.1.1.2,⟨hk.1.1.1.1.2,⟨hk.1.1.1.1.1.1.1.1.1.1.1.1,⟨hk.1.1.2,hk.1.2⟩⟩⟩⟩⟩⟩⟩⟩⟩)⟩,⟨by(with_reducible repeat(first|apply Kd.ah|apply Kd.ai|apply Kd.aY));exact Kd.aH (Kd.I (p:=⟨au,3,none⟩) (Kd.I (p:=⟨au,2,none⟩) (Kd.I (p:=⟨au,1,none⟩) (Kd.I (p:=⟨au,0,none⟩) (Kd.al CU.out bU.out (by decide)) (fun _ hk=>hk.2) (.slice ct cQ.length cu)) (fun _ hk=>hk.2) (.slice dh cf.length di)) (fun _ hk=>hk.2) (.slice dW cY.length dX)) (fun _ hk=>hk.2) (.int .i64 dR)) (fun _ hk=>⟨hk.1.1.1.1.1.1.1.1.1.1.2,⟨hk.1.1.1.1.1.1.1.1.1.2,⟨hk.1.1.1.1.1.1.1.1.2,⟨hk.1.1.1.1.1.1.1.2,⟨hk.1.1.1.1.1.1.2,⟨hk.1.1.1.1.1.2,⟨hk.1.1.1.1.2,⟨hk.1.1.1.2,⟨hk.1.1.2,hk.1.1.1.1.1.1.1.1.1.1.1.1⟩⟩⟩⟩⟩⟩⟩⟩⟩)⟩,⟨by(with_reducible repeat(first|apply Kd.ah|apply Kd.ai|apply Kd.aY));exact Kd.aH (Kd.I (p:=⟨au,3,none⟩) (Kd.I (p:=⟨au,2,none⟩) (Kd.I (p:=⟨au,1,none⟩) (Kd.I (p:=⟨au,0,none⟩) (Kd.al CV.out bU.out (by decide)) (fun _ hk=>hk.2) (.slice ct cQ.length cu)) (fun _ hk=>hk.2) (.slice dh cf.length di)) (fun _ hk=>hk.2) (.slice dW cY.length dX)) (fun _ hk=>hk.2) (.int .i64 dR)) (fun _ hk=>⟨hk.1.1.1.1.2,⟨hk.1.1.1.2,⟨hk.1.1.2,hk.1.2⟩⟩⟩)⟩,⟨by(with_reducible repeat(first|apply Kd.ah|apply Kd.ai|apply Kd.aY));exact Kd.aH (Kd.I (p:=⟨au,3,none⟩) (Kd.I (p:=⟨au,2,none⟩) (Kd.I (p:=⟨au,1,none⟩) (Kd.I (p:=⟨au,0,none⟩) (Kd.al CW.out bU.out (by decide)) (fun _ hk=>hk.2) (.slice ct cQ.length cu)) (fun _ hk=>hk.2) (.slice dh cf.length di)) (fun _ hk=>hk.2) (.slice dW cY.length dX)) (fun _ hk=>hk.2) (.int .i64 dR)) (fun _ hk=>⟨hk.1.1.1.1.1.1.1.1.1.1.2,⟨hk.1.1.1.1.1.1.1.1.1.2,⟨hk.1.1.1.1.1.1.1.1.2,⟨hk.1.1.1.1.1.1.1.2,⟨hk.1.1.1.1.1.1.2,⟨hk.1.1.1.1.1.2,⟨hk.1.1.1.1.2,⟨hk.1.1.1.2,⟨hk.1.1.2,hk.1.1.1.1.1.1.1.1.1.1.1.1⟩⟩⟩⟩⟩⟩⟩⟩⟩)⟩,⟨bf bG E5⟩,⟨bf bE E6⟩,⟨bf bH E7⟩,⟨bf cC E8⟩,⟨by(with_reducible repeat(first|refine aC ?_ _|refine U ?_|refine X ?_ _));refine aU (cs:= #[.slice ct cQ.length cu,.slice dh cf.length di,.slice dW cY.length dX,.int .i64 0]) ?_ 3 _ rfl;(with_reducible repeat(first|refine aC ?_ _|refine U ?_|refine X ?_ _));refine aU (cs:= #[.slice ct cQ.length cu,.slice dh cf.length di,.slice none 0 0,.int .i64 0]) ?_ 2 _ rfl;(with_reducible repeat(first|refine aC ?_ _|refine U ?_|refine X ?_ _));refine aU (cs:= #[.slice ct cQ.length cu,.slice none 0 0,.slice none 0 0,.int .i64 0]) ?_ 1 _ rfl;(with_reducible repeat(first|refine aC ?_ _|refine U ?_|refine X ?_ _));refine aU (cs:= #[.slice none 0 0,.slice none 0 0,.slice none 0 0,.int .i64 0]) ?_ 0 _ rfl;(with_reducible repeat(first|refine aC ?_ _|refine U ?_|refine X ?_ _));exact bU.out⟩,⟨dx HB bJ bM bQ cT ck⟩⟩
            subst c105;rw[if_pos rfl]at H
            by_cases AU:a0a=true
            rotate_left
            ·
             replace AU:=i1.mpr AU;subst AU;rw[if_neg dO]at H;have H':=Ah H;clear H
             go_wp2
             go_meet
             case rel=>exact⟨_,(true),e3,H',⟨by have:=o0.out;have:=st.out;have:=mq.out;first|omega|exact lQ _⟩,⟨by(with_reducible repeat(first|apply Kd.ah|apply Kd.ai|apply Kd.aY));exact Kd.aH (Kd.I (p:=⟨au,3,none⟩) (Kd.I (p:=⟨au,2,none⟩) (Kd.I (p:=⟨au,1,none⟩) (Kd.I (p:=⟨au,0,none⟩) (Kd.al ba.out bU.out (by decide)) (fun _ hk=>hk.2) (.slice ct cQ.length cu)) (fun _ hk=>hk.2) (.slice dh cf.length di)) (fun _ hk=>hk.2) (.slice dW cY.length dX)) (fun _ hk=>hk.2) (.int .i64 dR)) (fun _ hk=>⟨hk.1.1.1.1.1.1.2.1,⟨hk.1.1.1.1.1.1.2.2.1,⟨hk.1.1.1.1.1.1.2.2.2.1,⟨hk.1.1.1.1.1.1.2.2.2.2.1,⟨hk.1.1.1.1.1.1.2.2.2.2.2.1,⟨hk.1.1.1.1.1.1.2.2.2.2.2.2,⟨hk.1.1.1.1.1.2,⟨hk.1.1.1.1.2,⟨hk.1.1.2,hk.1.2⟩⟩⟩⟩⟩⟩⟩⟩⟩)⟩,⟨by(with_reducible repeat(first|apply Kd.ah|apply Kd.ai|apply Kd.aY));exact Kd.aH (Kd.I (p:=⟨au,3,none⟩) (Kd.I (p:=⟨au,2,none⟩) (Kd.I (p:=⟨au,1,none⟩) (Kd.I (p:=⟨au,0,none⟩) (Kd.al bS.out bU.out (by decide)) (fun _ hk=>hk.2) (.slice ct cQ.length cu)) (fun _ hk=>hk.2) (.slice dh cf.length di)) (fun _ hk=>hk.2) (.slice dW cY.length dX)) (fun _ hk=>hk.2) (.int .i64 dR)) (fun _ hk=>⟨hk.1.1.1.1.1.1.2.1,⟨hk.1.1.1.1.1.1.2.2.1,⟨hk.1.1.1.1.1.1.2.2.2.1,⟨hk.1.1.1.1.1.1.2.2.2.2.1,⟨hk.1.1.1.1.1.1.2.2.2.2.2.1,⟨hk.1.1.1.1.1.1.2.2.2.2.2.2,⟨hk.1.1.1.1.1.2,⟨hk.1.1.1.1.2,⟨hk.1.1.2,hk.1.2⟩⟩⟩⟩⟩⟩⟩⟩⟩)⟩,⟨by(with_reducible repeat(first|apply Kd.ah|apply Kd.ai|apply Kd.aY));exact Kd.aH (Kd.I (p:=⟨au,3,none⟩) (Kd.I (p:=⟨au,2,none⟩) (Kd.I (p:=⟨au,1,none⟩) (Kd.I (p:=⟨au,0,none⟩) (Kd.al bz.out bU.out (by decide)) (fun _ hk=>hk.2) (.slice ct cQ.length cu)) (fun _ hk=>hk.2) (.slice dh cf.length di)) (fun _ hk=>hk.2) (.slice dW cY.length dX)) (fun _ hk=>hk.2) (.int .i64 dR)) (fun _ hk=>⟨hk.1.1.1.2.1,⟨hk.1.1.1.2.2,⟨hk.1.1.2,hk.1.2⟩⟩⟩)⟩,⟨by(with_reducible repeat(first|apply Kd.ah|apply Kd.ai|apply Kd.aY));exact Kd.aH (Kd.I (p:=⟨au,3,none⟩) (Kd.I (p:=⟨au,2,none⟩) (Kd.I (p:=⟨au,1,none⟩) (Kd.I (p:=⟨au,0,none⟩) (Kd.al bT.out bU.out (by decide)) (fun _ hk=>hk.2) (.slice ct cQ.length cu)) (fun _ hk=>hk.2) (.slice dh cf.length di)) (fun _ hk=>hk.2) (.slice dW cY.length dX)) (fun _ hk=>hk.2) (.int .i64 dR)) (fun _ hk=>⟨hk.1.1.1.1.1.1.2.1,⟨hk.1.1.1.1.1.1.2.2.1,⟨hk.1.1.1.1.1.1.2.2.2.1,⟨hk.1.1.1.1.1.1.2.2.2.2.1,⟨hk.1.1.1.1.1.1.2.2.2.2.2.1,⟨hk.1.1.1.1.1.1.2.2.2.2.2.2,⟨hk.1.1.1.1.1.2,⟨hk.1.1.1.1.2,⟨hk.1.1.2,hk.1.2⟩⟩⟩⟩⟩⟩⟩⟩⟩)⟩,⟨by(with_reducible repeat(first|apply Kd.ah|apply Kd.ai|apply Kd.aY));exact Kd.aH (Kd.I (p:=⟨au,3,none⟩) (Kd.I (p:=⟨au,2,none⟩) (Kd.I (p:=⟨au,1,none⟩) (Kd.I (p:=⟨au,0,none⟩) (Kd.al bO.out bU.out (by decide)) (fun _ hk=>hk.2) (.slice ct cQ.length cu)) (fun _ hk=>hk.2) (.slice dh cf.length di)) (fun _ hk=>hk.2) (.slice dW cY.length dX)) (fun _ hk=>hk.2) (.int .i64 dR)) (fun _ hk=>⟨hk.1.1.1.1.1.1.2.1,⟨hk.1.1.1.1.1.1.2.2.1,⟨hk.1.1.1.1.1.1.2.2.2.1,⟨hk.1.1.1.1.1.1.2.2.2.2.1,⟨hk.1.1.1.1.1.1.2.2.2.2.2.1,⟨hk.1.1.1.1.1.1.2.2.2.2.2.2,⟨hk.1.1.1.1.1.2,⟨hk.1.1.1.1.2,⟨hk.1.1.2,hk.1.2⟩⟩⟩⟩⟩⟩⟩⟩⟩)⟩,⟨by(with_reducible repeat(first|apply Kd.ah|apply Kd.ai|apply Kd.aY));exact Kd.aH (Kd.I (p:=⟨au,3,none⟩) (Kd.I (p:=⟨au,2,none⟩) (Kd.I (p:=⟨au,1,none⟩) (Kd.I (p:=⟨au,0,none⟩) (Kd.al bw.out bU.out (by decide)) (fun _ hk=>hk.2) (.slice ct cQ.length cu)) (fun _ hk=>hk.2) (.slice dh cf.length di)) (fun _ hk=>hk.2) (.slice dW cY.length dX)) (fun _ hk=>hk.2) (.int .i64 dR)) (fun _ hk=>⟨hk.1.1.1.2.1,⟨hk.1.1.1.2.2,⟨hk.1.1.2,hk.1.2⟩⟩⟩)⟩,⟨by(with_reducible repeat(first|apply Kd.ah|apply Kd.ai|apply Kd.aY));exact Kd.aH (Kd.I (p:=⟨au,3,none⟩) (Kd.I (p:=⟨au,2,none⟩) (Kd.I (p:=⟨au,1,none⟩) (Kd.I (p:=⟨au,0,none⟩) (Kd.al bP.out bU.out (by decide)) (fun _ hk=>hk.2) (.slice ct cQ.length cu)) (fun _ hk=>hk.2) (.slice dh cf.length di)) (fun _ hk=>hk.2) (.slice dW cY.length dX)) (fun _ hk=>hk.2) (.int .i64 dR)) (fun _ hk=>⟨hk.1.1.1.1.1.1.2.1,⟨hk.1.1.1.1.1.1.2.2.1,⟨hk.1.1.1.1.1.1.2.2.2.1,⟨hk.1.1.1.1.1.1.2.2.2.2.1,⟨hk.1.1.1.1.1.1.2.2.2.2.2.1,⟨hk.1.1.1.1.1.1.2.2.2.2.2.2,⟨hk.1.1.1.1.1.2,⟨hk.1.1.1.1.2,⟨hk.1.1.2,hk.1.2⟩⟩⟩⟩⟩⟩⟩⟩⟩)⟩,⟨by(with_reducible repeat(first|apply Kd.ah|apply Kd.ai|apply Kd.aY));exact Kd.aH (Kd.I (p:=⟨au,3,none⟩) (Kd.I (p:=⟨au,2,none⟩) (Kd.I (p:=⟨au,1,none⟩) (Kd.I (p:=⟨au,0,none⟩) (Kd.al bW.out bU.out (by decide)) (fun _ hk=>hk.2) (.slice ct cQ.length cu)) (fun _ hk=>hk.2) (.slice dh cf.length di)) (fun _ hk=>hk.2) (.slice dW cY.length dX)) (fun _ hk=>hk.2) (.int .i64 dR)) (fun _ hk=>⟨hk.1.1.1.1.1.1.2.1,⟨hk.1.1.1.1.1.1.2.2.1,⟨hk.1.1.1.1.1.1.2.2.2.1,⟨hk.1.1.1.1.1.1.2.2.2.2.1,⟨hk.1.1.1.1.1.1.2.2.2.2.2.1,⟨hk.1.1.1.1.1.1.2.2.2.2.2.2,⟨hk.1.1.1.1.1.2,⟨hk.1.1.1.1.2,⟨hk.1.1.2,hk.1.2⟩⟩⟩⟩⟩⟩⟩⟩⟩)⟩,⟨by(with_reducible repeat(first|apply Kd.ah|apply Kd.ai|apply Kd.aY));exact Kd.aH (Kd.I (p:=⟨au,3,none⟩) (Kd.I (p:=⟨au,2,none⟩) (Kd.I (p:=⟨au,1,none⟩) (Kd.I (p:=⟨au,0,none⟩) (Kd.al cB.out bU.out (by decide)) (fun _ hk=>hk.2) (.slice ct cQ.length cu)) (fun _ hk=>hk.2) (.slice dh cf.length di)) (fun _ hk=>hk.2) (.slice dW cY.length dX)) (fun _ hk=>hk.2) (.int .i64 dR)) (fun _ hk=>⟨hk.1.1.1.2.1,⟨hk.1.1.1.2.2,⟨hk.1.1.2,hk.1.2⟩⟩⟩)⟩,⟨by(with_reducible repeat(first|apply Kd.ah|apply Kd.ai|apply Kd.aY));exact Kd.aH (Kd.I (p:=⟨au,3,none⟩) (Kd.I (p:=⟨au,2,none⟩) (Kd.I (p:=⟨au,1,none⟩) (Kd.I (p:=⟨au,0,none⟩) (Kd.al bX.out bU.out (by decide)) (fun _ hk=>hk.2) (.slice ct cQ.length cu)) (fun _ hk=>hk.2) (.slice dh cf.length di)) (fun _ hk=>hk.2) (.slice dW cY.length dX)) (fun _ hk=>hk.2) (.int .i64 dR)) (fun _ hk=>⟨hk.1.1.1.1.1.1.2.1,⟨hk.1.1.1.1.1.1.2.2.1,⟨hk.1.1.1.1.1.1.2.2.2.1,⟨hk.1.1.1.1.1.1.2.2.2.2.1,⟨hk.1.1.1.1.1.1.2.2.2.2.2.1,⟨hk.1.1.1.1.1.1.2.2.2.2.2.2,⟨hk.1.1.1.1.1.2,⟨hk.1.1.1.1.2,⟨hk.1.1.2,hk.1.2⟩⟩⟩⟩⟩⟩⟩⟩⟩)⟩,⟨by(with_reducible repeat(first|apply Kd.ah|apply Kd.ai|apply Kd.aY));exact Kd.aH (Kd.I (p:=⟨au,3,none⟩) (Kd.I (p:=⟨au,2,none⟩) (Kd.I (p:=⟨au,1,none⟩) (Kd.I (p:=⟨au,0,none⟩) (Kd.al mC.out bU.out (by decide)) (fun _ hk=>hk.2) (.slice ct cQ.length cu)) (fun _ hk=>hk.2) (.slice dh cf.length di)) (fun _ hk=>hk.2) (.slice dW cY.length dX)) (fun _ hk=>hk.2) (.int .i64 dR)) (fun _ hk=>⟨hk.1.1.1.1.1.1.1.1.1.1.2,⟨hk.1.1.1.1.1.1.1.1.1.2,⟨hk.1.1.1.1.1.1.1.1.2,⟨hk.1.1.1.1.1.1.1.2,⟨hk.1.1.1.1.1.1.2,⟨hk.1.1.1.1.1.2,⟨hk.1.1.1.1.2,⟨hk.1.1.1.1.1.1.1.1.1.1.1.1,⟨hk.1.1.2,hk.1.2⟩⟩⟩⟩⟩⟩⟩⟩⟩)⟩,⟨by(with_reducible repeat(first|apply Kd.ah|apply Kd.ai|apply Kd.aY));exact Kd.aH (Kd.I (p:=⟨au,3,none⟩) (Kd.I (p:=⟨au,2,none⟩) (Kd.I (p:=⟨au,1,none⟩) (Kd.I (p:=⟨au,0,none⟩) (Kd.al n3.out bU.out (by decide)) (fun _ hk=>hk.2) (.slice ct cQ.length cu)) (fun _ hk=>hk.2) (.slice dh cf.length di)) (fun _ hk=>hk.2) (.slice dW cY.length dX)) (fun _ hk=>hk.2) (.int .i64 dR)) (fun _ hk=>⟨hk.1.1.1.1.2,⟨hk.1.1.1.2,⟨hk.1.1.2,hk.1.2⟩⟩⟩)⟩,⟨by(with_reducible repeat(first|apply Kd.ah|apply Kd.ai|apply Kd.aY));exact Kd.aH (Kd.I (p:=⟨au,3,none⟩) (Kd.I (p:=⟨au,2,none⟩) (Kd.I (p:=⟨au,1,none⟩) (Kd.I (p:=⟨au,0,none⟩) (Kd.al mD.out bU.out (by decide)) (fun _ hk=>hk.2) (.slice ct cQ.length cu)) (fun _ hk=>hk.2) (.slice dh cf.length di)) (fun _ hk=>hk.2) (.slice dW cY.length dX)) (fun _ hk=>hk.2) (.int .i64 dR)) (fun _ hk=>⟨hk.1.1.1.1.1.1.1.1.1.1.2,⟨hk.1.1.1.1.1.1.1.1.1.2,⟨hk.1.1.1.1.1.1.1.1.2,⟨hk.1.1.1.1.1.1.1.2,⟨hk.1.1.1.1.1.1.2,⟨hk.1.1.1.1.1.2,⟨hk.1.1.1.1.2,⟨hk.1.1.1.1.1.1.1.1.1.1.1.1,⟨hk.1.1.2,hk.1.2⟩⟩⟩⟩⟩⟩⟩⟩⟩)⟩,⟨by(with_reducible repeat(first|apply Kd.ah|apply Kd.ai|apply Kd.aY));exact Kd.aH (Kd.I (p:=⟨au,3,none⟩) (Kd.I (p:=⟨au,2,none⟩) (Kd.I (p:=⟨au,1,none⟩) (Kd.I (p:=⟨au,0,none⟩) (Kd.al CU.out bU.out (by decide)) (fun _ hk=>hk.2) (.slice ct cQ.length cu)) (fun _ hk=>hk.2) (.slice dh cf.length di)) (fun _ hk=>hk.2) (.slice dW cY.length dX)) (fun _ hk=>hk.2) (.int .i64 dR)) (fun _ hk=>⟨hk.1.1.1.1.1.1.1.1.1.1.2,⟨hk.1.1.1.1.1.1.1.1.1.2,⟨hk.1.1.1.1.1.1.1.1.2,⟨hk.1.1.1.1.1.1.1.2,⟨hk.1.1.1.1.1.1.2,⟨hk.1.1.1.1.1.2,⟨hk.1.1.1.1.2,⟨hk.1.1.1.2,⟨hk.1.1.2,hk.1.1.1.1.1.1.1.1.1.1.1.1⟩⟩⟩⟩⟩⟩⟩⟩⟩)⟩,⟨by(with_reducible repeat(first|apply Kd.ah|apply Kd.ai|apply Kd.aY));exact Kd.aH (Kd.I (p:=⟨au,3,none⟩) (Kd.I (p:=⟨au,2,none⟩) (Kd.I (p:=⟨au,1,none⟩) (Kd.I (p:=⟨au,0,none⟩) (Kd.al CV.out bU.out (by decide)) (fun _ hk=>hk.2) (.slice ct cQ.length cu)) (fun _ hk=>hk.2) (.slice dh cf.length di)) (fun _ hk=>hk.2) (.slice dW cY.length dX)) (fun _ hk=>hk.2) (.int .i64 dR)) (fun _ hk=>⟨hk.1.1.1.1.2,⟨hk.1.1.1.2,⟨hk.1.1.2,hk.1.2⟩⟩⟩)⟩,⟨by(with_reducible repeat(first|apply Kd.ah|apply Kd.ai|apply Kd.aY));exact Kd.aH (Kd.I (p:=⟨au,3,none⟩) (Kd.I (p:=⟨au,2,none⟩) (Kd.I (p:=⟨au,1,none⟩) (Kd.I (p:=⟨au,0,none⟩) (Kd.al CW.out bU.out (by decide)) (fun _ hk=>hk.2) (.slice ct cQ.length cu)) (fun _ hk=>hk.2) (.slice dh cf.length di)) (fun _ hk=>hk.2) (.slice dW cY.length dX)) (fun _ hk=>hk.2) (.int .i64 dR)) (fun _ hk=>⟨hk.1.1.1.1.1.1.1.1.1.1.2,⟨hk.1.1.1.1.1.1.1.1.1.2,⟨hk.1.1.1.1.1.1.1.1.2,⟨hk.1.1.1.1.1.1.1.2,⟨hk.1.1.1.1.1.1.2,⟨hk.1.1.1.1.1.2,⟨hk.1.1.1.1.2,⟨hk.1.1.1.2,⟨hk.1.1.2,hk.1.1.1.1.1.1.1.1.1.1.1.1⟩⟩⟩⟩⟩⟩⟩⟩⟩)⟩,⟨bf bG E5⟩,⟨bf bE E6⟩,⟨bf bH E7⟩,⟨bf cC E8⟩,⟨by(with_reducible repeat(first|refine aC ?_ _|refine U ?_|refine X ?_ _));refine aU (cs:= #[.slice ct cQ.length cu,.slice dh cf.length di,.slice dW cY.length dX,.int .i64 0]) ?_ 3 _ rfl;(with_reducible repeat(first|refine aC ?_ _|refine U ?_|refine X ?_ _));refine aU (cs:= #[.slice ct cQ.length cu,.slice dh cf.length di,.slice none 0 0,.int .i64 0]) ?_ 2 _ rfl;(with_reducible repeat(first|refine aC ?_ _|refine U ?_|refine X ?_ _));refine aU (cs:= #[.slice ct cQ.length cu,.slice none 0 0,.slice none 0 0,.int .i64 0]) ?_ 1 _ rfl;(with_reducible repeat(first|refine aC ?_ _|refine U ?_|refine X ?_ _));refine aU (cs:= #[.slice none 0 0,.slice none 0 0,.slice none 0 0,.int .i64 0]) ?_ 0 _ rfl;(with_reducible repeat(first|refine aC ?_ _|refine U ?_|refine X ?_ _));exact bU.out⟩,⟨dx HB bJ bM bQ cT ck⟩⟩
            subst AU;rw[if_pos rfl]at H;replace H:=Hz.mp H;obtain⟨L9,Xr,H⟩:=H
            try dsimp only at H
            have A107:=Ah Xr;clear Xr;have H':=Ah H;clear H;obtain⟨Ao108,co108,eo108⟩:=Kd.ao vN.out;subst eo108;obtain⟨Ao109,co109,eo109⟩:=Kd.ao ba.out;subst eo109
            go_wp2_with (first|(go_at_call 11;(with_reducible refine(fY.calls k3 _ _ Zz _ _ jZ L9 _ ?aI ?aJ ?af ?ak A107.out).mono ?_);(case aI=>exact rc vN bU);(case aJ=>exact(Kd.aq vN.out).2.1);(case af=>exact rc ba bU);(case ak=>exact(Kd.aq ba.out).2.1);rintro e w' ⟨rfl,⟨nd,rfl⟩⟩))
            go_meet
            case rel=>exact⟨_,(!L9),e3,H',⟨by have:=o0.out;have:=st.out;have:=mq.out;first|omega|exact lQ _⟩,⟨by(with_reducible repeat(first|apply Kd.ah|apply Kd.ai|apply Kd.aY));exact Kd.aH (Kd.I (p:=⟨au,3,none⟩) (Kd.I (p:=⟨au,2,none⟩) (Kd.I (p:=⟨au,1,none⟩) (Kd.I (p:=⟨au,0,none⟩) (Kd.al ba.out bU.out (by decide)) (fun _ hk=>hk.2) (.slice ct cQ.length cu)) (fun _ hk=>hk.2) (.slice dh cf.length di)) (fun _ hk=>hk.2) (.slice dW cY.length dX)) (fun _ hk=>hk.2) (.int .i64 dR)) (fun _ hk=>⟨hk.1.1.1.1.1.1.2.1,⟨hk.1.1.1.1.1.1.2.2.1,⟨hk.1.1.1.1.1.1.2.2.2.1,⟨hk.1.1.1.1.1.1.2.2.2.2.1,⟨hk.1.1.1.1.1.1.2.2.2.2.2.1,⟨hk.1.1.1.1.1.1.2.2.2.2.2.2,⟨hk.1.1.1.1.1.2,⟨hk.1.1.1.1.2,⟨hk.1.1.2,hk.1.2⟩⟩⟩⟩⟩⟩⟩⟩⟩)⟩,⟨by(with_reducible repeat(first|apply Kd.ah|apply Kd.ai|apply Kd.aY));exact Kd.aH (Kd.I (p:=⟨au,3,none⟩) (Kd.I (p:=⟨au,2,none⟩) (Kd.I (p:=⟨au,1,none⟩) (Kd.I (p:=⟨au,0,none⟩) (Kd.al bS.out bU.out (by decide)) (fun _ hk=>hk.2) (.slice ct cQ.length cu)) (fun _ hk=>hk.2) (.slice dh cf.length di)) (fun _ hk=>hk.2) (.slice dW cY.length dX)) (fun _ hk=>hk.2) (.int .i64 dR)) (fun _ hk=>⟨hk.1.1.1.1.1.1.2.1,⟨hk.1.1.1.1.1.1.2.2.1,⟨hk.1.1.1.1.1.1.2.2.2.1,⟨hk.1.1.1.1.1.1.2.2.2.2.1,⟨hk.1.1.1.1.1.1.2.2.2.2.2.1,⟨hk.1.1.1.1.1.1.2.2.2.2.2.2,⟨hk.1.1.1.1.1.2,⟨hk.1.1.1.1.2,⟨hk.1.1.2,hk.1.2⟩⟩⟩⟩⟩⟩⟩⟩⟩)⟩,⟨by(with_reducible repeat(first|apply Kd.ah|apply Kd.ai|apply Kd.aY));exact Kd.aH (Kd.I (p:=⟨au,3,none⟩) (Kd.I (p:=⟨au,2,none⟩) (Kd.I (p:=⟨au,1,none⟩) (Kd.I (p:=⟨au,0,none⟩) (Kd.al bz.out bU.out (by decide)) (fun _ hk=>hk.2) (.slice ct cQ.length cu)) (fun _ hk=>hk.2) (.slice dh cf.length di)) (fun _ hk=>hk.2) (.slice dW cY.length dX)) (fun _ hk=>hk.2) (.int .i64 dR)) (fun _ hk=>⟨hk.1.1.1.2.1,⟨hk.1.1.1.2.2,⟨hk.1.1.2,hk.1.2⟩⟩⟩)⟩,⟨by(with_reducible repeat(first|apply Kd.ah|apply Kd.ai|apply Kd.aY));exact Kd.aH (Kd.I (p:=⟨au,3,none⟩) (Kd.I (p:=⟨au,2,none⟩) (Kd.I (p:=⟨au,1,none⟩) (Kd.I (p:=⟨au,0,none⟩) (Kd.al bT.out bU.out (by decide)) (fun _ hk=>hk.2) (.slice ct cQ.length cu)) (fun _ hk=>hk.2) (.slice dh cf.length di)) (fun _ hk=>hk.2) (.slice dW cY.length dX)) (fun _ hk=>hk.2) (.int .i64 dR)) (fun _ hk=>⟨hk.1.1.1.1.1.1.2.1,⟨hk.1.1.1.1.1.1.2.2.1,⟨hk.1.1.1.1.1.1.2.2.2.1,⟨hk.1.1.1.1.1.1.2.2.2.2.1,⟨hk.1.1.1.1.1.1.2.2.2.2.2.1,⟨hk.1.1.1.1.1.1.2.2.2.2.2.2,⟨hk.1.1.1.1.1.2,⟨hk.1.1.1.1.2,⟨hk.1.1.2,hk.1.2⟩⟩⟩⟩⟩⟩⟩⟩⟩)⟩,⟨by(with_reducible repeat(first|apply Kd.ah|apply Kd.ai|apply Kd.aY));exact Kd.aH (Kd.I (p:=⟨au,3,none⟩) (Kd.I (p:=⟨au,2,none⟩) (Kd.I (p:=⟨au,1,none⟩) (Kd.I (p:=⟨au,0,none⟩) (Kd.al bO.out bU.out (by decide)) (fun _ hk=>hk.2) (.slice ct cQ.length cu)) (fun _ hk=>hk.2) (.slice dh cf.length di)) (fun _ hk=>hk.2) (.slice dW cY.length dX)) (fun _ hk=>hk.2) (.int .i64 dR)) (fun _ hk=>⟨hk.1.1.1.1.1.1.2.1,⟨hk.1.1.1.1.1.1.2.2.1,⟨hk.1.1.1.1.1.1.2.2.2.1,⟨hk.1.1.1.1.1.1.2.2.2.2.1,⟨hk.1.1.1.1.1.1.2.2.2.2.2.1,⟨hk.1.1.1.1.1.1.2.2.2.2.2.2,⟨hk.1.1.1.1.1.2,⟨hk.1.1.1.1.2,⟨hk.1.1.2,hk.1.2⟩⟩⟩⟩⟩⟩⟩⟩⟩)⟩,⟨by(with_reducible repeat(first|apply Kd.ah|apply Kd.ai|apply Kd.aY));exact Kd.aH (Kd.I (p:=⟨au,3,none⟩) (Kd.I (p:=⟨au,2,none⟩) (Kd.I (p:=⟨au,1,none⟩) (Kd.I (p:=⟨au,0,none⟩) (Kd.al bw.out bU.out (by decide)) (fun _ hk=>hk.2) (.slice ct cQ.length cu)) (fun _ hk=>hk.2) (.slice dh cf.length di)) (fun _ hk=>hk.2) (.slice dW cY.length dX)) (fun _ hk=>hk.2) (.int .i64 dR)) (fun _ hk=>⟨hk.1.1.1.2.1,⟨hk.1.1.1.2.2,⟨hk.1.1.2,hk.1.2⟩⟩⟩)⟩,⟨by(with_reducible repeat(first|apply Kd.ah|apply Kd.ai|apply Kd.aY));exact Kd.aH (Kd.I (p:=⟨au,3,none⟩) (Kd.I (p:=⟨au,2,none⟩) (Kd.I (p:=⟨au,1,none⟩) (Kd.I (p:=⟨au,0,none⟩) (Kd.al bP.out bU.out (by decide)) (fun _ hk=>hk.2) (.slice ct cQ.length cu)) (fun _ hk=>hk.2) (.slice dh cf.length di)) (fun _ hk=>hk.2) (.slice dW cY.length dX)) (fun _ hk=>hk.2) (.int .i64 dR)) (fun _ hk=>⟨hk.1.1.1.1.1.1.2.1,⟨hk.1.1.1.1.1.1.2.2.1,⟨hk.1.1.1.1.1.1.2.2.2.1,⟨hk.1.1.1.1.1.1.2.2.2.2.1,⟨hk.1.1.1.1.1.1.2.2.2.2.2.1,⟨hk.1.1.1.1.1.1.2.2.2.2.2.2,⟨hk.1.1.1.1.1.2,⟨hk.1.1.1.1.2,⟨hk.1.1.2,hk.1.2⟩⟩⟩⟩⟩⟩⟩⟩⟩)⟩,⟨by(with_reducible repeat(first|apply Kd.ah|apply Kd.ai|apply Kd.aY));exact Kd.aH (Kd.I (p:=⟨au,3,none⟩) (Kd.I (p:=⟨au,2,none⟩) (Kd.I (p:=⟨au,1,none⟩) (Kd.I (p:=⟨au,0,none⟩) (Kd.al bW.out bU.out (by decide)) (fun _ hk=>hk.2) (.slice ct cQ.length cu)) (fun _ hk=>hk.2) (.slice dh cf.length di)) (fun _ hk=>hk.2) (.slice dW cY.length dX)) (fun _ hk=>hk.2) (.int .i64 dR)) (fun _ hk=>⟨hk.1.1.1.1.1.1.2.1,⟨hk.1.1.1.1.1.1.2.2.1,⟨hk.1.1.1.1.1.1.2.2.2.1,⟨hk.1.1.1.1.1.1.2.2.2.2.1,⟨hk.1.1.1.1.1.1.2.2.2.2.2.1,⟨hk.1.1.1.1.1.1.2.2.2.2.2.2,⟨hk.1.1.1.1.1.2,⟨hk.1.1.1.1.2,⟨hk.1.1.2,hk.1.2⟩⟩⟩⟩⟩⟩⟩⟩⟩)⟩,⟨by(with_reducible repeat(first|apply Kd.ah|apply Kd.ai|apply Kd.aY));exact Kd.aH (Kd.I (p:=⟨au,3,none⟩) (Kd.I (p:=⟨au,2,none⟩) (Kd.I (p:=⟨au,1,none⟩) (Kd.I (p:=⟨au,0,none⟩) (Kd.al cB.out bU.out (by decide)) (fun _ hk=>hk.2) (.slice ct cQ.length cu)) (fun _ hk=>hk.2) (.slice dh cf.length di)) (fun _ hk=>hk.2) (.slice dW cY.length dX)) (fun _ hk=>hk.2) (.int .i64 dR)) (fun _ hk=>⟨hk.1.1.1.2.1,⟨hk.1.1.1.2.2,⟨hk.1.1.2,hk.1.2⟩⟩⟩)⟩,⟨by(with_reducible repeat(first|apply Kd.ah|apply Kd.ai|apply Kd.aY));exact Kd.aH (Kd.I (p:=⟨au,3,none⟩) (Kd.I (p:=⟨au,2,none⟩) (Kd.I (p:=⟨au,1,none⟩) (Kd.I (p:=⟨au,0,none⟩) (Kd.al bX.out bU.out (by decide)) (fun _ hk=>hk.2) (.slice ct cQ.length cu)) (fun _ hk=>hk.2) (.slice dh cf.length di)) (fun _ hk=>hk.2) (.slice dW cY.length dX)) (fun _ hk=>hk.2) (.int .i64 dR)) (fun _ hk=>⟨hk.1.1.1.1.1.1.2.1,⟨hk.1.1.1.1.1.1.2.2.1,⟨hk.1.1.1.1.1.1.2.2.2.1,⟨hk.1.1.1.1.1.1.2.2.2.2.1,⟨hk.1.1.1.1.1.1.2.2.2.2.2.1,⟨hk.1.1.1.1.1.1.2.2.2.2.2.2,⟨hk.1.1.1.1.1.2,⟨hk.1.1.1.1.2,⟨hk.1.1.2,hk.1.2⟩⟩⟩⟩⟩⟩⟩⟩⟩)⟩,⟨by(with_reducible repeat(first|apply Kd.ah|apply Kd.ai|apply Kd.aY));exact Kd.aH (Kd.I (p:=⟨au,3,none⟩) (Kd.I (p:=⟨au,2,none⟩) (Kd.I (p:=⟨au,1,none⟩) (Kd.I (p:=⟨au,0,none⟩) (Kd.al mC.out bU.out (by decide)) (fun _ hk=>hk.2) (.slice ct cQ.length cu)) (fun _ hk=>hk.2) (.slice dh cf.length di)) (fun _ hk=>hk.2) (.slice dW cY.length dX)) (fun _ hk=>hk.2) (.int .i64 dR)) (fun _ hk=>⟨hk.1.1.1.1.1.1.1.1.1.1.2,⟨hk.1.1.1.1.1.1.1.1.1.2,⟨hk.1.1.1.1.1.1.1.1.2,⟨hk.1.1.1.1.1.1.1.2,⟨hk.1.1.1.1.1.1.2,⟨hk.1.1.1.1.1.2,⟨hk.1.1.1.1.2,⟨hk.1.1.1.1.1.1.1.1.1.1.1.1,⟨hk.1.1.2,hk.1.2⟩⟩⟩⟩⟩⟩⟩⟩⟩)⟩,⟨by(with_reducible repeat(first|apply Kd.ah|apply Kd.ai|apply Kd.aY));exact Kd.aH (Kd.I (p:=⟨au,3,none⟩) (Kd.I (p:=⟨au,2,none⟩) (Kd.I (p:=⟨au,1,none⟩) (Kd.I (p:=⟨au,0,none⟩) (Kd.al n3.out bU.out (by decide)) (fun _ hk=>hk.2) (.slice ct cQ.length cu)) (fun _ hk=>hk.2) (.slice dh cf.length di)) (fun _ hk=>hk.2) (.slice dW cY.length dX)) (fun _ hk=>hk.2) (.int .i64 dR)) (fun _ hk=>⟨hk.1.1.1.1.2,⟨hk.1.1.1.2,⟨hk.1.1.2,hk.1.2⟩⟩⟩)⟩,⟨by(with_reducible repeat(first|apply Kd.ah|apply Kd.ai|apply Kd.aY));exact Kd.aH (Kd.I (p:=⟨au,3,none⟩) (Kd.I (p:=⟨au,2,none⟩) (Kd.I (p:=⟨au,1,none⟩) (Kd.I (p:=⟨au,0,none⟩) (Kd.al mD.out bU.out (by decide)) (fun _ hk=>hk.2) (.slice ct cQ.length cu)) (fun _ hk=>hk.2) (.slice dh cf.length di)) (fun _ hk=>hk.2) (.slice dW cY.length dX)) (fun _ hk=>hk.2) (.int .i64 dR)) (fun _ hk=>⟨hk.1.1.1.1.1.1.1.1.1.1.2,⟨hk.1.1.1.1.1.1.1.1.1.2,⟨hk.1.1.1.1.1.1.1.1.2,⟨hk.1.1.1.1.1.1.1.2,⟨hk.1.1.1.1.1.1.2,⟨hk.1.1.1.1.1.2,⟨hk.1.1.1.1.2,⟨hk.1.1.1.1.1.1.1.1.1.1.1.1,⟨hk.1.1.2,hk.1.2⟩⟩⟩⟩⟩⟩⟩⟩⟩)⟩,⟨by(with_reducible repeat(first|apply Kd.ah|apply Kd.ai|apply Kd.aY));exact Kd.aH (Kd.I (p:=⟨au,3,none⟩) (Kd.I (p:=⟨au,2,none⟩) (Kd.I (p:=⟨au,1,none⟩) (Kd.I (p:=⟨au,0,none⟩) (Kd.al CU.out bU.out (by decide)) (fun _ hk=>hk.2) (.slice ct cQ.length cu)) (fun _ hk=>hk.2) (.slice dh cf.length di)) (fun _ hk=>hk.2) (.slice dW cY.length dX)) (fun _ hk=>hk.2) (.int .i64 dR)) (fun _ hk=>⟨hk.1.1.1.1.1.1.1.1.1.1.2,⟨hk.1.1.1.1.1.1.1.1.1.2,⟨hk.1.1.1.1.1.1.1.1.2,⟨hk.1.1.1.1.1.1.1.2,⟨hk.1.1.1.1.1.1.2,⟨hk.1.1.1.1.1.2,⟨hk.1.1.1.1.2,⟨hk.1.1.1.2,⟨hk.1.1.2,hk.1.1.1.1.1.1.1.1.1.1.1.1⟩⟩⟩⟩⟩⟩⟩⟩⟩)⟩,⟨by(with_reducible repeat(first|apply Kd.ah|apply Kd.ai|apply Kd.aY));exact Kd.aH (Kd.I (p:=⟨au,3,none⟩) (Kd.I (p:=⟨au,2,none⟩) (Kd.I (p:=⟨au,1,none⟩) (Kd.I (p:=⟨au,0,none⟩) (Kd.al CV.out bU.out (by decide)) (fun _ hk=>hk.2) (.slice ct cQ.length cu)) (fun _ hk=>hk.2) (.slice dh cf.length di)) (fun _ hk=>hk.2) (.slice dW cY.length dX)) (fun _ hk=>hk.2) (.int .i64 dR)) (fun _ hk=>⟨hk.1.1.1.1.2,⟨hk.1.1.1.2,⟨hk.1.1.2,hk.1.2⟩⟩⟩)⟩,⟨by(with_reducible repeat(first|apply Kd.ah|apply Kd.ai|apply Kd.aY));exact Kd.aH (Kd.I (p:=⟨au,3,none⟩) (Kd.I (p:=⟨au,2,none⟩) (Kd.I (p:=⟨au,1,none⟩) (Kd.I (p:=⟨au,0,none⟩) (Kd.al CW.out bU.out (by decide)) (fun _ hk=>hk.2) (.slice ct cQ.length cu)) (fun _ hk=>hk.2) (.slice dh cf.length di)) (fun _ hk=>hk.2) (.slice dW cY.length dX)) (fun _ hk=>hk.2) (.int .i64 dR)) (fun _ hk=>⟨hk.1.1.1.1.1.1.1.1.1.1.2,⟨hk.1.1.1.1.1.1.1.1.1.2,⟨hk.1.1.1.1.1.1.1.1.2,⟨hk.1.1.1.1.1.1.1.2,⟨hk.1.1.1.1.1.1.2,⟨hk.1.1.1.1.1.2,⟨hk.1.1.1.1.2,⟨hk.1.1.1.2,⟨hk.1.1.2,hk.1.1.1.1.1.1.1.1.1.1.1.1⟩⟩⟩⟩⟩⟩⟩⟩⟩)⟩,⟨bf bG E5⟩,⟨bf bE E6⟩,⟨bf bH E7⟩,⟨bf cC E8⟩,⟨by(with_reducible repeat(first|refine aC ?_ _|refine U ?_|refine X ?_ _));refine aU (cs:= #[.slice ct cQ.length cu,.slice dh cf.length di,.slice dW cY.length dX,.int .i64 0]) ?_ 3 _ rfl;(with_reducible repeat(first|refine aC ?_ _|refine U ?_|refine X ?_ _));refine aU (cs:= #[.slice ct cQ.length cu,.slice dh cf.length di,.slice none 0 0,.int .i64 0]) ?_ 2 _ rfl;(with_reducible repeat(first|refine aC ?_ _|refine U ?_|refine X ?_ _));refine aU (cs:= #[.slice ct cQ.length cu,.slice none 0 0,.slice none 0 0,.int .i64 0]) ?_ 1 _ rfl;(with_reducible repeat(first|refine aC ?_ _|refine U ?_|refine X ?_ _));refine aU (cs:= #[.slice none 0 0,.slice none 0 0,.slice none 0 0,.int .i64 0]) ?_ 0 _ rfl;(with_reducible repeat(first|refine aC ?_ _|refine U ?_|refine X ?_ _));exact bU.out⟩,⟨dx HB bJ bM bQ cT ck⟩⟩
           case rest=>
            clear QF
            try clear c1
            try clear c2
            try clear p2
            try clear c3
            try clear f9
            try clear c4
            try clear c5
            try clear c6
            try clear p6
            try clear c7
            try clear p7
            try clear q7
            try clear hx7
            try clear c8
            try clear c9
            try clear c10
            try clear c18
            try clear Dg
            try clear Dh
            try clear c31
            try clear rb
            try clear xS
            try clear te
            try clear Di
            try clear c34
            try clear tN
            try clear uH
            try clear uI
            try clear uK
            try clear c46
            try clear c49
            try clear uJ
            try clear c53
            try clear uL
            try clear Eu
            try clear yN
            try clear K1
            try clear yO
            try clear K2
            try clear nM
            try clear CT
            try clear c59
            try clear OY
            try clear sA
            try clear OZ
            try clear uN
            try clear K5
            try clear K6
            try clear c63
            try clear c64
            try clear p64
            try clear c65
            try clear c68
            try clear c69
            try clear c70
            try clear c72
            try clear OW
            try clear Bo
            try clear OX
            try clear uM
            try clear K3
            try clear K4
            try clear Lf
            try clear Lg
            try clear a0e
            try clear Lh
            try clear Li
            try clear a0f
            try clear c81
            try clear c82
            try clear c87
            try clear c88
            try clear c89
            try clear uO
            try clear c99
            try clear AV
            try clear a0g
            try clear c105
            try clear AU
            try clear Mn Mo Mp Mq
            try clear jC jD l4 l5
            try clear m5 m6 pT pU
            try clear kd ke mU mV
            try clear rM rN um un
            try clear ur ut uu uv
            try clear tS tT wm wn
            try clear wt wu wv ww
            try clear xA xB yw yx
            try clear J2 J3
            try clear N5 N6
            try clear N9 NA NB NC
            try clear NH NI NJ NK
            try clear NP NQ NR NS
            try clear Mr Ms Mt Mu
            try clear jE jF l6 l7
            try clear m7 m8 pV pW
            try clear kf kg mW mX
            try clear rO rP uo uq
            try clear uw ux uy uz
            try clear tU tV wo wq
            try clear wx wy wz x2
            try clear xC xD yy yz
            try clear J4 J5
            try clear N7 N8
            try clear ND NE NF NG
            try clear NL NM NN NO
            try clear NT NU NV NW
            try clear Iy
            try clear J0
            try clear J1
            try clear Iz
            try clear p2
            try clear p6
            try clear p7
            try clear AR
            try clear tt
            try clear tq
            try clear q7
            try clear AS
            try clear tu
            try clear tr
            obtain⟨kq,J6,rfl,HA,a0h,ba,bS,bz,bT,bO,bw,bP,bW,cB,bX,cz,eJ,d3,cF,ce,cG,bG,bE,bH,cC,bU,HB⟩:=hcut
            cases kq with
            |zero=>exact absurd HA.out (by simp[cK.j4])
            |succ j3=>
             have H:=HA.out;clear HA;simp only[cK.j4]at H
             as_aux_lemma=>
              by_cases D0:J6=true
              ·
               subst D0;rw[if_pos rfl]at H;obtain rfl:=ec H
               go_wp2
               go_ret
               exact⟨er,dx HB bJ bM bQ cT ck⟩
              replace D0:=i1.mpr D0;subst D0;rw[if_neg dO]at H
              by_cases D1:QE=true
              rotate_left
              ·
               replace D1:=i1.mpr D1;subst D1;rw[if_neg dO]at H;have H':=Ah H;clear H
               go_wp2
               go_meet
               case rel=>exact⟨_,H',⟨by have:=o0.out;have:=st.out;have:=mq.out;have:=a0h.out;first|omega|exact lQ _⟩,rm bS (fun _ hk=>⟨hk.2.1,⟨hk.2.2.1,⟨hk.2.2.2.1,⟨hk.2.2.2.2.1,hk.2.2.2.2.2.1⟩⟩⟩⟩),rm bz (fun _ hk=>⟨hk.1,hk.2.1⟩),rm bT (fun _ hk=>⟨hk.2.1,⟨hk.2.2.1,⟨hk.2.2.2.1,⟨hk.2.2.2.2.1,hk.2.2.2.2.2.1⟩⟩⟩⟩),rm bO (fun _ hk=>⟨hk.2.1,⟨hk.2.2.1,⟨hk.2.2.2.1,⟨hk.2.2.2.2.1,hk.2.2.2.2.2.1⟩⟩⟩⟩),rm bw (fun _ hk=>⟨hk.1,hk.2.1⟩),rm bP (fun _ hk=>⟨hk.2.1,⟨hk.2.2.1,⟨hk.2.2.2.1,⟨hk.2.2.2.2.1,hk.2.2.2.2.2.1⟩⟩⟩⟩),rm bW (fun _ hk=>⟨hk.2.1,⟨hk.2.2.1,⟨hk.2.2.2.1,⟨hk.2.2.2.2.1,hk.2.2.2.2.2.1⟩⟩⟩⟩),rm cB (fun _ hk=>⟨hk.1,hk.2.1⟩),rm bX (fun _ hk=>⟨hk.2.1,⟨hk.2.2.1,⟨hk.2.2.2.1,⟨hk.2.2.2.2.1,hk.2.2.2.2.2.1⟩⟩⟩⟩),⟨bk bG⟩,⟨bk bE⟩,⟨bk bH⟩,⟨dx HB bJ bM bQ cT ck⟩⟩
              subst D1;rw[if_pos rfl]at H;replace H:=Hz.mp H;obtain⟨⟨sy,t815⟩,Xs,H⟩:=H
              try dsimp only at H
              have AW:=Ah Xs;clear Xs;replace H:=Hz.mp H;obtain⟨⟨fb,gP,gZ,j7,a0i⟩,Xt,H⟩:=H
              try dsimp only at H
              have AX:=Ah Xt;clear Xt;replace H:=Hz.mp H;obtain⟨⟨tv,QH⟩,Xu,H⟩:=H
              try dsimp only at H
              have AY:=Ah Xu;clear Xu;have H_:=Ah H;clear H;have hnb123:=Sy.out;have hnc123:=E5.out;have hnb124:=Sz.out;have hnc124:=E6.out;have hnb125:=T0.out;have hnc125:=E7.out;have hnb126:=T2.out;have hnc126:=E8.out;obtain⟨TV,TW,TX,TY⟩:=b9 bU;obtain⟨TZ,Ta,Tb,Tc⟩:=bA bU;have H:=H_.out;clear H_
              by_cases D2:t815=true
              rotate_left
              ·
               replace D2:=i1.mpr D2;subst D2;rw[if_neg dO]at H;obtain rfl:=ec H
               go_wp2_with (first|((with_reducible refine ar (f:=8) rfl ?_);refine gL (some 146) rfl rfl aaK (by kernel_rfl) rfl #[.agg #[.slice ct cQ.length cu,.slice dh cf.length di,.slice dW cY.length dX,.int .i64 dR]] rfl ?_;(with_reducible refine(gM.calls j3 _ _ cQ _ _ cf _ _ cY dR sy false _ ?aI ?aJ ?af ?ak ?bN ?bc AW.out).mono ?_);(case aI=>exact bd cF);(case aJ=>exact(Kd.aq cF.out).2.1);(case af=>exact bd ce);(case ak=>exact(Kd.aq ce.out).2.1);(case bN=>exact bd cG);(case bc=>exact(Kd.aq cG.out).2.1);rintro e w255 ⟨D3,rfl,ho0,hb⟩;refine⟨_,rfl, ?_⟩;replace bz:=nr bz hb;replace bw:=nr bw hb;replace cB:=nr cB hb;replace eJ:=nr eJ hb;replace ce:=nr ce hb;have dF:=Ah (Kd.b8 (Kd.aA (Kd.aA (Kd.aA (Kd.aA (Kd.aA (Kd.aA (Kd.aA (Kd.aA (Kd.aA (Kd.aA (Kd.aA ho0 (Kd.Z (rr ba.out))) (Kd.Z (rr bS.out))) (Kd.Z (rr bT.out))) (Kd.Z (rr bO.out))) (Kd.Z (rr bP.out))) (Kd.Z (rr bW.out))) (Kd.Z (rr bX.out))) (Kd.Z (rr cz.out))) (Kd.Z (rr d3.out))) (Kd.Z (rr cF.out))) (Kd.Z (rr cG.out))) (bF (dx HB bJ bM bQ cT ck)));replace ba:=Ah (Kd.aX (rr ba.out) (Kd.a8 ho0) hb);replace bS:=Ah (Kd.aX (rr bS.out) (Kd.a8 ho0) hb);replace bT:=Ah (Kd.aX (rr bT.out) (Kd.a8 ho0) hb);replace bO:=Ah (Kd.aX (rr bO.out) (Kd.a8 ho0) hb);replace bP:=Ah (Kd.aX (rr bP.out) (Kd.a8 ho0) hb);replace bW:=Ah (Kd.aX (rr bW.out) (Kd.a8 ho0) hb);replace bX:=Ah (Kd.aX (rr bX.out) (Kd.a8 ho0) hb);replace cz:=Ah (Kd.aX (rr cz.out) (Kd.a8 ho0) hb);replace d3:=Ah (Kd.aX (rr d3.out) (Kd.a8 ho0) hb);replace cF:=Ah (Kd.aX (rr cF.out) (Kd.a8 ho0) hb);replace cG:=Ah (Kd.aX (rr cG.out) (Kd.a8 ho0) hb);replace bG:=nb bG hb;replace bE:=nb bE hb;replace bH:=nb bH hb;replace cC:=nb cC hb;replace bU:=nb bU hb;replace HB:=Ah (aT (dx HB bJ bM bQ cT ck) hb);(try clear hb ho0);obtain⟨Td,Te,Tf,Tg⟩:=b9 bU;obtain⟨Th,Ti,Tj,Tk⟩:=bA bU)|((with_reducible refine ar (f:=12) rfl ?_);refine gL (some 151) rfl rfl abe (by kernel_rfl) rfl #[.agg #[.slice ct cQ.length cu,.slice dh cf.length di,.slice dW cY.length dX,.int .i64 dR]] rfl ?_;(with_reducible refine(lR.calls j3 _ _ cQ _ _ cf _ _ cY dR fb gP gZ j7 a0i _ ?aI ?aJ ?af ?ak ?bN ?bc AX.out).mono ?_);(case aI=>exact bd cF);(case aJ=>exact(Kd.aq cF.out).2.1);(case af=>exact bd ce);(case ak=>exact(Kd.aq ce.out).2.1);(case bN=>exact bd cG);(case bc=>exact(Kd.aq cG.out).2.1);rintro e w257 ⟨D4,D5,D6,rfl,ho0,ho1,ho2,hb⟩;refine⟨_,rfl, ?_⟩;have eN:=Ah (Kd.b8 (Kd.aA (Kd.aA (Kd.aA (Kd.aA (Kd.aA (Kd.aA (Kd.aA (Kd.aA (Kd.aA (Kd.aA (Kd.aA (Kd.aA ho0 (Kd.Z (rr ba.out))) (Kd.Z (rr bS.out))) (Kd.Z (rr bT.out))) (Kd.Z (rr bO.out))) (Kd.Z (rr bP.out))) (Kd.Z (rr bW.out))) (Kd.Z (rr bX.out))) (Kd.Z (rr cz.out))) (Kd.Z (rr d3.out))) (Kd.Z (rr cF.out))) (Kd.Z (rr cG.out))) (Kd.Z (rr dF.out))) (bF (dx HB bJ bM bQ cT ck)));have eo:=Ah (Kd.b8 (Kd.aA (Kd.aA (Kd.aA (Kd.aA (Kd.aA ho1 (Kd.Z (rr bz.out))) (Kd.Z (rr bw.out))) (Kd.Z (rr cB.out))) (Kd.Z (rr eJ.out))) (Kd.Z (rr ce.out))) (bF (dx HB bJ bM bQ cT ck)));replace bz:=Ah (Kd.aX (rr bz.out) (Kd.a8 ho1) hb);replace bw:=Ah (Kd.aX (rr bw.out) (Kd.a8 ho1) hb);replace cB:=Ah (Kd.aX (rr cB.out) (Kd.a8 ho1) hb);replace eJ:=Ah (Kd.aX (rr eJ.out) (Kd.a8 ho1) hb);replace ce:=Ah (Kd.aX (rr ce.out) (Kd.a8 ho1) hb);have eO:=Ah (Kd.b8 (Kd.aA (Kd.aA (Kd.aA (Kd.aA (Kd.aA (Kd.aA (Kd.aA (Kd.aA (Kd.aA (Kd.aA (Kd.aA (Kd.aA ho2 (Kd.Z (rr ba.out))) (Kd.Z (rr bS.out))) (Kd.Z (rr bT.out))) (Kd.Z (rr bO.out))) (Kd.Z (rr bP.out))) (Kd.Z (rr bW.out))) (Kd.Z (rr bX.out))) (Kd.Z (rr cz.out))) (Kd.Z (rr d3.out))) (Kd.Z (rr cF.out))) (Kd.Z (rr cG.out))) (Kd.Z (rr dF.out))) (bF (dx HB bJ bM bQ cT ck)));replace ba:=Ah (Kd.aH (Kd.ag (Kd.ag (Kd.bo (rr ba.out) hb) (Kd.a8 ho0)) (Kd.a8 ho2)) (fun _ h_=>h_.1));replace bS:=Ah (Kd.aH (Kd.ag (Kd.ag (Kd.bo (rr bS.out) hb) (Kd.a8 ho0)) (Kd.a8 ho2)) (fun _ h_=>h_.1));replace bT:=Ah (Kd.aH (Kd.ag (Kd.ag (Kd.bo (rr bT.out) hb) (Kd.a8 ho0)) (Kd.a8 ho2)) (fun _ h_=>h_.1));replace bO:=Ah (Kd.aH (Kd.ag (Kd.ag (Kd.bo (rr bO.out) hb) (Kd.a8 ho0)) (Kd.a8 ho2)) (fun _ h_=>h_.1));replace bP:=Ah (Kd.aH (Kd.ag (Kd.ag (Kd.bo (rr bP.out) hb) (Kd.a8 ho0)) (Kd.a8 ho2)) (fun _ h_=>h_.1));replace bW:=Ah (Kd.aH (Kd.ag (Kd.ag (Kd.bo (rr bW.out) hb) (Kd.a8 ho0)) (Kd.a8 ho2)) (fun _ h_=>h_.1));replace bX:=Ah (Kd.aH (Kd.ag (Kd.ag (Kd.bo (rr bX.out) hb) (Kd.a8 ho0)) (Kd.a8 ho2)) (fun _ h_=>h_.1));replace cz:=Ah (Kd.aH (Kd.ag (Kd.ag (Kd.bo (rr cz.out) hb) (Kd.a8 ho0)) (Kd.a8 ho2)) (fun _ h_=>h_.1));replace d3:=Ah (Kd.aH (Kd.ag (Kd.ag (Kd.bo (rr d3.out) hb) (Kd.a8 ho0)) (Kd.a8 ho2)) (fun _ h_=>h_.1));replace cF:=Ah (Kd.aH (Kd.ag (Kd.ag (Kd.bo (rr cF.out) hb) (Kd.a8 ho0)) (Kd.a8 ho2)) (fun _ h_=>h_.1));replace cG:=Ah (Kd.aH (Kd.ag (Kd.ag (Kd.bo (rr cG.out) hb) (Kd.a8 ho0)) (Kd.a8 ho2)) (fun _ h_=>h_.1));replace dF:=Ah (Kd.aH (Kd.ag (Kd.ag (Kd.bo (rr dF.out) hb) (Kd.a8 ho0)) (Kd.a8 ho2)) (fun _ h_=>h_.1));replace bG:=nb bG hb;replace bE:=nb bE hb;replace bH:=nb bH hb;replace cC:=nb cC hb;replace bU:=nb bU hb;replace HB:=Ah (aT (dx HB bJ bM bQ cT ck) hb);(try clear hb ho0 ho1 ho2))|((with_reducible refine bC (N:=27) rfl ?_);(try(refine fS (by rfl) ?_;dsimp only));refine bK 27 28 #[.slice none 0 0,.slice none 0 0,.slice none 0 0,.int .i64 0] ?_;intro qV hg w258 aW hb;replace ba:=nr ba hb;replace bS:=nr bS hb;replace bz:=nr bz hb;replace bT:=nr bT hb;replace bO:=nr bO hb;replace bw:=nr bw hb;replace bP:=nr bP hb;replace bW:=nr bW hb;replace cB:=nr cB hb;replace bX:=nr bX hb;replace cz:=nr cz hb;replace eJ:=nr eJ hb;replace d3:=nr d3 hb;replace cF:=nr cF hb;replace ce:=nr ce hb;replace cG:=nr cG hb;replace dF:=nr dF hb;replace eN:=nr eN hb;replace eo:=nr eo hb;replace eO:=nr eO hb;have CX:=gw hg (dx HB bJ bM bQ cT ck);have jH:=gw hg (dx HB bJ bM bQ cT ck);replace HB:=Ah (aT (dx HB bJ bM bQ cT ck) hb);have lT:=nn bG hg;have qI:=nm bG hg;replace bG:=nb bG hb;have lU:=nn bE hg;have qJ:=nm bE hg;replace bE:=nb bE hb;have lV:=nn bH hg;have qK:=nm bH hg;replace bH:=nb bH hb;have lW:=nn cC hg;have qL:=nm cC hg;replace cC:=nb cC hb;have lX:=nn bU hg;have qM:=nm bU hg;replace bU:=nb bU hb;clear hb hg;obtain⟨Ew,Ex,eo259⟩:=Kd.ao eN.out;subst eo259;have hnb260:=qI.out;have hnc260:=lT.out;have hnb261:=qJ.out;have hnc261:=lU.out;have hnb262:=qK.out;have hnc262:=lV.out;have hnb263:=qL.out;have hnc263:=lW.out;have hnb264:=qM.out;have hnc264:=lX.out;obtain⟨Tl,Tm,Tn,To⟩:=b9 aW;obtain⟨Tp,Tq,Tr,Ts⟩:=bA aW;obtain⟨K7,K8,eo266⟩:=Kd.ao eo.out;subst eo266;obtain⟨Ob,Oc,eo267⟩:=Kd.ao eO.out;subst eo267)|((with_reducible refine ar (f:=8) rfl ?_);refine gL (some 156) rfl rfl aaK (by kernel_rfl) rfl #[.agg #[.slice Ew fb.length Ex,.slice K7 gP.length K8,.slice Ob gZ.length Oc,.int .i64 j7]] rfl ?_;(with_reducible refine(gM.calls j3 _ _ fb _ _ gP _ _ gZ j7 tv QH _ ?aI ?aJ ?af ?ak ?bN ?bc AY.out).mono ?_);(case aI=>exact rc eN aW);(case aJ=>exact(Kd.aq eN.out).2.1);(case af=>exact rc eo aW);(case ak=>exact(Kd.aq eo.out).2.1);(case bN=>exact rc eO aW);(case bc=>exact(Kd.aq eO.out).2.1);rintro e w268 ⟨D7,rfl,ho0,hb⟩;refine⟨_,rfl, ?_⟩;replace bz:=nf bz aW hb;replace bw:=nf bw aW hb;replace cB:=nf cB aW hb;replace eJ:=nf eJ aW hb;replace ce:=nf ce aW hb;replace eo:=nf eo aW hb;have oV:=Ah (Kd.b8 (Kd.aA (Kd.aA (Kd.aA (Kd.aA (Kd.aA (Kd.aA (Kd.aA (Kd.aA (Kd.aA (Kd.aA (Kd.aA (Kd.aA (Kd.aA (Kd.aA ho0 (Kd.Z (rf ba aW))) (Kd.Z (rf bS aW))) (Kd.Z (rf bT aW))) (Kd.Z (rf bO aW))) (Kd.Z (rf bP aW))) (Kd.Z (rf bW aW))) (Kd.Z (rf bX aW))) (Kd.Z (rf cz aW))) (Kd.Z (rf d3 aW))) (Kd.Z (rf cF aW))) (Kd.Z (rf cG aW))) (Kd.Z (rf dF aW))) (Kd.Z (rf eN aW))) (Kd.Z (rf eO aW))) (bF (lO HB bJ bM bQ cT ck jH)));replace ba:=Ah (Kd.aX (rf ba aW) (Kd.a8 ho0) hb);replace bS:=Ah (Kd.aX (rf bS aW) (Kd.a8 ho0) hb);replace bT:=Ah (Kd.aX (rf bT aW) (Kd.a8 ho0) hb);replace bO:=Ah (Kd.aX (rf bO aW) (Kd.a8 ho0) hb);replace bP:=Ah (Kd.aX (rf bP aW) (Kd.a8 ho0) hb);replace bW:=Ah (Kd.aX (rf bW aW) (Kd.a8 ho0) hb);replace bX:=Ah (Kd.aX (rf bX aW) (Kd.a8 ho0) hb);replace cz:=Ah (Kd.aX (rf cz aW) (Kd.a8 ho0) hb);replace d3:=Ah (Kd.aX (rf d3 aW) (Kd.a8 ho0) hb);replace cF:=Ah (Kd.aX (rf cF aW) (Kd.a8 ho0) hb);replace cG:=Ah (Kd.aX (rf cG aW) (Kd.a8 ho0) hb);replace dF:=Ah (Kd.aX (rf dF aW) (Kd.a8 ho0) hb);replace eN:=Ah (Kd.aX (rf eN aW) (Kd.a8 ho0) hb);replace eO:=Ah (Kd.aX (rf eO aW) (Kd.a8 ho0) hb);replace bG:=Ah (cS (bf bG lT) hb);replace bE:=Ah (cS (bf bE lU) hb);replace bH:=Ah (cS (bf bH lV) hb);replace cC:=Ah (cS (bf cC lW) hb);replace bU:=Ah (cS (bf bU lX) hb);replace aW:=Ah (cS (g:=qV) (o:= .cells #[.slice Ew fb.length Ex,.slice K7 gP.length K8,.slice Ob gZ.length Oc,.int .i64 j7] 28 (0,0)) (by(with_reducible repeat(first|refine aC ?_ _|refine U ?_|refine X ?_ _));refine aU (cs:= #[.slice Ew fb.length Ex,.slice K7 gP.length K8,.slice Ob gZ.length Oc,.int .i64 0]) ?_ 3 _ rfl;(with_reducible repeat(first|refine aC ?_ _|refine U ?_|refine X ?_ _));refine aU (cs:= #[.slice Ew fb.length Ex,.slice K7 gP.length K8,.slice none 0 0,.int .i64 0]) ?_ 2 _ rfl;(with_reducible repeat(first|refine aC ?_ _|refine U ?_|refine X ?_ _));refine aU (cs:= #[.slice Ew fb.length Ex,.slice none 0 0,.slice none 0 0,.int .i64 0]) ?_ 1 _ rfl;(with_reducible repeat(first|refine aC ?_ _|refine U ?_|refine X ?_ _));refine aU (cs:= #[.slice none 0 0,.slice none 0 0,.slice none 0 0,.int .i64 0]) ?_ 0 _ rfl;(with_reducible repeat(first|refine aC ?_ _|refine U ?_|refine X ?_ _));exact aW.out) hb);replace HB:=Ah (aT (lO HB bJ bM bQ cT ck jH) hb);(try clear hb ho0)))
               go_ret
               exact⟨er,lO HB bJ bM bQ cT ck jH⟩
              subst D2;rw[if_pos rfl]at H
              by_cases c116:a0i=true
              rotate_left
              ·
               replace c116:=i1.mpr c116;subst c116;rw[if_neg dO]at H;obtain rfl:=ec H
               go_wp2_with (first|((with_reducible refine ar (f:=8) rfl ?_);refine gL (some 146) rfl rfl aaK (by kernel_rfl) rfl #[.agg #[.slice ct cQ.length cu,.slice dh cf.length di,.slice dW cY.length dX,.int .i64 dR]] rfl ?_;(with_reducible refine(gM.calls j3 _ _ cQ _ _ cf _ _ cY dR sy true _ ?aI ?aJ ?af ?ak ?bN ?bc AW.out).mono ?_);(case aI=>exact bd cF);(case aJ=>exact(Kd.aq cF.out).2.1);(case af=>exact bd ce);(case ak=>exact(Kd.aq ce.out).2.1);(case bN=>exact bd cG);(case bc=>exact(Kd.aq cG.out).2.1);rintro e w236 ⟨D3,rfl,ho0,hb⟩;refine⟨_,rfl, ?_⟩;replace bz:=nr bz hb;replace bw:=nr bw hb;replace cB:=nr cB hb;replace eJ:=nr eJ hb;replace ce:=nr ce hb;have dF:=Ah (Kd.b8 (Kd.aA (Kd.aA (Kd.aA (Kd.aA (Kd.aA (Kd.aA (Kd.aA (Kd.aA (Kd.aA (Kd.aA (Kd.aA ho0 (Kd.Z (rr ba.out))) (Kd.Z (rr bS.out))) (Kd.Z (rr bT.out))) (Kd.Z (rr bO.out))) (Kd.Z (rr bP.out))) (Kd.Z (rr bW.out))) (Kd.Z (rr bX.out))) (Kd.Z (rr cz.out))) (Kd.Z (rr d3.out))) (Kd.Z (rr cF.out))) (Kd.Z (rr cG.out))) (bF (dx HB bJ bM bQ cT ck)));replace ba:=Ah (Kd.aX (rr ba.out) (Kd.a8 ho0) hb);replace bS:=Ah (Kd.aX (rr bS.out) (Kd.a8 ho0) hb);replace bT:=Ah (Kd.aX (rr bT.out) (Kd.a8 ho0) hb);replace bO:=Ah (Kd.aX (rr bO.out) (Kd.a8 ho0) hb);replace bP:=Ah (Kd.aX (rr bP.out) (Kd.a8 ho0) hb);replace bW:=Ah (Kd.aX (rr bW.out) (Kd.a8 ho0) hb);replace bX:=Ah (Kd.aX (rr bX.out) (Kd.a8 ho0) hb);replace cz:=Ah (Kd.aX (rr cz.out) (Kd.a8 ho0) hb);replace d3:=Ah (Kd.aX (rr d3.out) (Kd.a8 ho0) hb);replace cF:=Ah (Kd.aX (rr cF.out) (Kd.a8 ho0) hb);replace cG:=Ah (Kd.aX (rr cG.out) (Kd.a8 ho0) hb);replace bG:=nb bG hb;replace bE:=nb bE hb;replace bH:=nb bH hb;replace cC:=nb cC hb;replace bU:=nb bU hb;replace HB:=Ah (aT (dx HB bJ bM bQ cT ck) hb);(try clear hb ho0);obtain⟨Tt,Tu,Tv,Tw⟩:=b9 bU;obtain⟨Tx,Ty,Tz,U0⟩:=bA bU)|((with_reducible refine ar (f:=12) rfl ?_);refine gL (some 151) rfl rfl abe (by kernel_rfl) rfl #[.agg #[.slice ct cQ.length cu,.slice dh cf.length di,.slice dW cY.length dX,.int .i64 dR]] rfl ?_;(with_reducible refine(lR.calls j3 _ _ cQ _ _ cf _ _ cY dR fb gP gZ j7 false _ ?aI ?aJ ?af ?ak ?bN ?bc AX.out).mono ?_);(case aI=>exact bd cF);(case aJ=>exact(Kd.aq cF.out).2.1);(case af=>exact bd ce);(case ak=>exact(Kd.aq ce.out).2.1);(case bN=>exact bd cG);(case bc=>exact(Kd.aq cG.out).2.1);rintro e w238 ⟨D4,D5,D6,rfl,ho0,ho1,ho2,hb⟩;refine⟨_,rfl, ?_⟩;have eN:=Ah (Kd.b8 (Kd.aA (Kd.aA (Kd.aA (Kd.aA (Kd.aA (Kd.aA (Kd.aA (Kd.aA (Kd.aA (Kd.aA (Kd.aA (Kd.aA ho0 (Kd.Z (rr ba.out))) (Kd.Z (rr bS.out))) (Kd.Z (rr bT.out))) (Kd.Z (rr bO.out))) (Kd.Z (rr bP.out))) (Kd.Z (rr bW.out))) (Kd.Z (rr bX.out))) (Kd.Z (rr cz.out))) (Kd.Z (rr d3.out))) (Kd.Z (rr cF.out))) (Kd.Z (rr cG.out))) (Kd.Z (rr dF.out))) (bF (dx HB bJ bM bQ cT ck)));have eo:=Ah (Kd.b8 (Kd.aA (Kd.aA (Kd.aA (Kd.aA (Kd.aA ho1 (Kd.Z (rr bz.out))) (Kd.Z (rr bw.out))) (Kd.Z (rr cB.out))) (Kd.Z (rr eJ.out))) (Kd.Z (rr ce.out))) (bF (dx HB bJ bM bQ cT ck)));replace bz:=Ah (Kd.aX (rr bz.out) (Kd.a8 ho1) hb);replace bw:=Ah (Kd.aX (rr bw.out) (Kd.a8 ho1) hb);replace cB:=Ah (Kd.aX (rr cB.out) (Kd.a8 ho1) hb);replace eJ:=Ah (Kd.aX (rr eJ.out) (Kd.a8 ho1) hb);replace ce:=Ah (Kd.aX (rr ce.out) (Kd.a8 ho1) hb);have eO:=Ah (Kd.b8 (Kd.aA (Kd.aA (Kd.aA (Kd.aA (Kd.aA (Kd.aA (Kd.aA (Kd.aA (Kd.aA (Kd.aA (Kd.aA (Kd.aA ho2 (Kd.Z (rr ba.out))) (Kd.Z (rr bS.out))) (Kd.Z (rr bT.out))) (Kd.Z (rr bO.out))) (Kd.Z (rr bP.out))) (Kd.Z (rr bW.out))) (Kd.Z (rr bX.out))) (Kd.Z (rr cz.out))) (Kd.Z (rr d3.out))) (Kd.Z (rr cF.out))) (Kd.Z (rr cG.out))) (Kd.Z (rr dF.out))) (bF (dx HB bJ bM bQ cT ck)));replace ba:=Ah (Kd.aH (Kd.ag (Kd.ag (Kd.bo (rr ba.out) hb) (Kd.a8 ho0)) (Kd.a8 ho2)) (fun _ h_=>h_.1));replace bS:=Ah (Kd.aH (Kd.ag (Kd.ag (Kd.bo (rr bS.out) hb) (Kd.a8 ho0)) (Kd.a8 ho2)) (fun _ h_=>h_.1));replace bT:=Ah (Kd.aH (Kd.ag (Kd.ag (Kd.bo (rr bT.out) hb) (Kd.a8 ho0)) (Kd.a8 ho2)) (fun _ h_=>h_.1));replace bO:=Ah (Kd.aH (Kd.ag (Kd.ag (Kd.bo (rr bO.out) hb) (Kd.a8 ho0)) (Kd.a8 ho2)) (fun _ h_=>h_.1));replace bP:=Ah (Kd.aH (Kd.ag (Kd.ag (Kd.bo (rr bP.out) hb) (Kd.a8 ho0)) (Kd.a8 ho2)) (fun _ h_=>h_.1));replace bW:=Ah (Kd.aH (Kd.ag (Kd.ag (Kd.bo (rr bW.out) hb) (Kd.a8 ho0)) (Kd.a8 ho2)) (fun _ h_=>h_.1));replace bX:=Ah (Kd.aH (Kd.ag (Kd.ag (Kd.bo (rr bX.out) hb) (Kd.a8 ho0)) (Kd.a8 ho2)) (fun _ h_=>h_.1));replace cz:=Ah (Kd.aH (Kd.ag (Kd.ag (Kd.bo (rr cz.out) hb) (Kd.a8 ho0)) (Kd.a8 ho2)) (fun _ h_=>h_.1));replace d3:=Ah (Kd.aH (Kd.ag (Kd.ag (Kd.bo (rr d3.out) hb) (Kd.a8 ho0)) (Kd.a8 ho2)) (fun _ h_=>h_.1));replace cF:=Ah (Kd.aH (Kd.ag (Kd.ag (Kd.bo (rr cF.out) hb) (Kd.a8 ho0)) (Kd.a8 ho2)) (fun _ h_=>h_.1));replace cG:=Ah (Kd.aH (Kd.ag (Kd.ag (Kd.bo (rr cG.out) hb) (Kd.a8 ho0)) (Kd.a8 ho2)) (fun _ h_=>h_.1));replace dF:=Ah (Kd.aH (Kd.ag (Kd.ag (Kd.bo (rr dF.out) hb) (Kd.a8 ho0)) (Kd.a8 ho2)) (fun _ h_=>h_.1));replace bG:=nb bG hb;replace bE:=nb bE hb;replace bH:=nb bH hb;replace cC:=nb cC hb;replace bU:=nb bU hb;replace HB:=Ah (aT (dx HB bJ bM bQ cT ck) hb);(try clear hb ho0 ho1 ho2))|((with_reducible refine bC (N:=27) rfl ?_);(try(refine fS (by rfl) ?_;dsimp only));refine bK 27 28 #[.slice none 0 0,.slice none 0 0,.slice none 0 0,.int .i64 0] ?_;intro qV hg w239 aW hb;replace ba:=nr ba hb;replace bS:=nr bS hb;replace bz:=nr bz hb;replace bT:=nr bT hb;replace bO:=nr bO hb;replace bw:=nr bw hb;replace bP:=nr bP hb;replace bW:=nr bW hb;replace cB:=nr cB hb;replace bX:=nr bX hb;replace cz:=nr cz hb;replace eJ:=nr eJ hb;replace d3:=nr d3 hb;replace cF:=nr cF hb;replace ce:=nr ce hb;replace cG:=nr cG hb;replace dF:=nr dF hb;replace eN:=nr eN hb;replace eo:=nr eo hb;replace eO:=nr eO hb;have CX:=gw hg (dx HB bJ bM bQ cT ck);have jH:=gw hg (dx HB bJ bM bQ cT ck);replace HB:=Ah (aT (dx HB bJ bM bQ cT ck) hb);have lT:=nn bG hg;have qI:=nm bG hg;replace bG:=nb bG hb;have lU:=nn bE hg;have qJ:=nm bE hg;replace bE:=nb bE hb;have lV:=nn bH hg;have qK:=nm bH hg;replace bH:=nb bH hb;have lW:=nn cC hg;have qL:=nm cC hg;replace cC:=nb cC hb;have lX:=nn bU hg;have qM:=nm bU hg;replace bU:=nb bU hb;clear hb hg;obtain⟨re,rg,Od⟩:=Kd.ao eN.out;subst Od;have hnb241:=qI.out;have hnc241:=lT.out;have hnb242:=qJ.out;have hnc242:=lU.out;have hnb243:=qK.out;have hnc243:=lV.out;have hnb244:=qL.out;have hnc244:=lW.out;have hnb245:=qM.out;have hnc245:=lX.out;obtain⟨U1,U2,U3,U4⟩:=b9 aW;obtain⟨U5,U6,U7,U8⟩:=bA aW;obtain⟨K9,KA,eo247⟩:=Kd.ao eo.out;subst eo247;obtain⟨Oe,Of,eo248⟩:=Kd.ao eO.out;subst eo248)|((with_reducible refine ar (f:=8) rfl ?_);refine gL (some 156) rfl rfl aaK (by kernel_rfl) rfl #[.agg #[.slice re fb.length rg,.slice K9 gP.length KA,.slice Oe gZ.length Of,.int .i64 j7]] rfl ?_;(with_reducible refine(gM.calls j3 _ _ fb _ _ gP _ _ gZ j7 tv QH _ ?aI ?aJ ?af ?ak ?bN ?bc AY.out).mono ?_);(case aI=>exact rc eN aW);(case aJ=>exact(Kd.aq eN.out).2.1);(case af=>exact rc eo aW);(case ak=>exact(Kd.aq eo.out).2.1);(case bN=>exact rc eO aW);(case bc=>exact(Kd.aq eO.out).2.1);rintro e w249 ⟨D7,rfl,ho0,hb⟩;refine⟨_,rfl, ?_⟩;replace bz:=nf bz aW hb;replace bw:=nf bw aW hb;replace cB:=nf cB aW hb;replace eJ:=nf eJ aW hb;replace ce:=nf ce aW hb;replace eo:=nf eo aW hb;have oV:=Ah (Kd.b8 (Kd.aA (Kd.aA (Kd.aA (Kd.aA (Kd.aA (Kd.aA (Kd.aA (Kd.aA (Kd.aA (Kd.aA (Kd.aA (Kd.aA (Kd.aA (Kd.aA ho0 (Kd.Z (rf ba aW))) (Kd.Z (rf bS aW))) (Kd.Z (rf bT aW))) (Kd.Z (rf bO aW))) (Kd.Z (rf bP aW))) (Kd.Z (rf bW aW))) (Kd.Z (rf bX aW))) (Kd.Z (rf cz aW))) (Kd.Z (rf d3 aW))) (Kd.Z (rf cF aW))) (Kd.Z (rf cG aW))) (Kd.Z (rf dF aW))) (Kd.Z (rf eN aW))) (Kd.Z (rf eO aW))) (bF (lO HB bJ bM bQ cT ck jH)));replace ba:=Ah (Kd.aX (rf ba aW) (Kd.a8 ho0) hb);replace bS:=Ah (Kd.aX (rf bS aW) (Kd.a8 ho0) hb);replace bT:=Ah (Kd.aX (rf bT aW) (Kd.a8 ho0) hb);replace bO:=Ah (Kd.aX (rf bO aW) (Kd.a8 ho0) hb);replace bP:=Ah (Kd.aX (rf bP aW) (Kd.a8 ho0) hb);replace bW:=Ah (Kd.aX (rf bW aW) (Kd.a8 ho0) hb);replace bX:=Ah (Kd.aX (rf bX aW) (Kd.a8 ho0) hb);replace cz:=Ah (Kd.aX (rf cz aW) (Kd.a8 ho0) hb);replace d3:=Ah (Kd.aX (rf d3 aW) (Kd.a8 ho0) hb);replace cF:=Ah (Kd.aX (rf cF aW) (Kd.a8 ho0) hb);replace cG:=Ah (Kd.aX (rf cG aW) (Kd.a8 ho0) hb);replace dF:=Ah (Kd.aX (rf dF aW) (Kd.a8 ho0) hb);replace eN:=Ah (Kd.aX (rf eN aW) (Kd.a8 ho0) hb);replace eO:=Ah (Kd.aX (rf eO aW) (Kd.a8 ho0) hb);replace bG:=Ah (cS (bf bG lT) hb);replace bE:=Ah (cS (bf bE lU) hb);replace bH:=Ah (cS (bf bH lV) hb);replace cC:=Ah (cS (bf cC lW) hb);replace bU:=Ah (cS (bf bU lX) hb);replace aW:=Ah (cS (g:=qV) (o:= .cells #[.slice re fb.length rg,.slice K9 gP.length KA,.slice Oe gZ.length Of,.int .i64 j7] 28 (0,0)) (by(with_reducible repeat(first|refine aC ?_ _|refine U ?_|refine X ?_ _));refine aU (cs:= #[.slice re fb.length rg,.slice K9 gP.length KA,.slice Oe gZ.length Of,.int .i64 0]) ?_ 3 _ rfl;(with_reducible repeat(first|refine aC ?_ _|refine U ?_|refine X ?_ _));refine aU (cs:= #[.slice re fb.length rg,.slice K9 gP.length KA,.slice none 0 0,.int .i64 0]) ?_ 2 _ rfl;(with_reducible repeat(first|refine aC ?_ _|refine U ?_|refine X ?_ _));refine aU (cs:= #[.slice re fb.length rg,.slice none 0 0,.slice none 0 0,.int .i64 0]) ?_ 1 _ rfl;(with_reducible repeat(first|refine aC ?_ _|refine U ?_|refine X ?_ _));refine aU (cs:= #[.slice none 0 0,.slice none 0 0,.slice none 0 0,.int .i64 0]) ?_ 0 _ rfl;(with_reducible repeat(first|refine aC ?_ _|refine U ?_|refine X ?_ _));exact aW.out) hb);replace HB:=Ah (aT (lO HB bJ bM bQ cT ck jH) hb);(try clear hb ho0)))
               go_ret
               exact⟨er,lO HB bJ bM bQ cT ck jH⟩
              subst c116;rw[if_pos rfl]at H
              by_cases c117:QH=true
              rotate_left
              ·
               replace c117:=i1.mpr c117;subst c117;rw[if_neg dO]at H;obtain rfl:=ec H
               go_wp2_with (first|((with_reducible refine ar (f:=8) rfl ?_);refine gL (some 146) rfl rfl aaK (by kernel_rfl) rfl #[.agg #[.slice ct cQ.length cu,.slice dh cf.length di,.slice dW cY.length dX,.int .i64 dR]] rfl ?_;(with_reducible refine(gM.calls j3 _ _ cQ _ _ cf _ _ cY dR sy true _ ?aI ?aJ ?af ?ak ?bN ?bc AW.out).mono ?_);(case aI=>exact bd cF);(case aJ=>exact(Kd.aq cF.out).2.1);(case af=>exact bd ce);(case ak=>exact(Kd.aq ce.out).2.1);(case bN=>exact bd cG);(case bc=>exact(Kd.aq cG.out).2.1);rintro e w217 ⟨D3,rfl,ho0,hb⟩;refine⟨_,rfl, ?_⟩;replace bz:=nr bz hb;replace bw:=nr bw hb;replace cB:=nr cB hb;replace eJ:=nr eJ hb;replace ce:=nr ce hb;have dF:=Ah (Kd.b8 (Kd.aA (Kd.aA (Kd.aA (Kd.aA (Kd.aA (Kd.aA (Kd.aA (Kd.aA (Kd.aA (Kd.aA (Kd.aA ho0 (Kd.Z (rr ba.out))) (Kd.Z (rr bS.out))) (Kd.Z (rr bT.out))) (Kd.Z (rr bO.out))) (Kd.Z (rr bP.out))) (Kd.Z (rr bW.out))) (Kd.Z (rr bX.out))) (Kd.Z (rr cz.out))) (Kd.Z (rr d3.out))) (Kd.Z (rr cF.out))) (Kd.Z (rr cG.out))) (bF (dx HB bJ bM bQ cT ck)));replace ba:=Ah (Kd.aX (rr ba.out) (Kd.a8 ho0) hb);replace bS:=Ah (Kd.aX (rr bS.out) (Kd.a8 ho0) hb);replace bT:=Ah (Kd.aX (rr bT.out) (Kd.a8 ho0) hb);replace bO:=Ah (Kd.aX (rr bO.out) (Kd.a8 ho0) hb);replace bP:=Ah (Kd.aX (rr bP.out) (Kd.a8 ho0) hb);replace bW:=Ah (Kd.aX (rr bW.out) (Kd.a8 ho0) hb);replace bX:=Ah (Kd.aX (rr bX.out) (Kd.a8 ho0) hb);replace cz:=Ah (Kd.aX (rr cz.out) (Kd.a8 ho0) hb);replace d3:=Ah (Kd.aX (rr d3.out) (Kd.a8 ho0) hb);replace cF:=Ah (Kd.aX (rr cF.out) (Kd.a8 ho0) hb);replace cG:=Ah (Kd.aX (rr cG.out) (Kd.a8 ho0) hb);replace bG:=nb bG hb;replace bE:=nb bE hb;replace bH:=nb bH hb;replace cC:=nb cC hb;replace bU:=nb bU hb;replace HB:=Ah (aT (dx HB bJ bM bQ cT ck) hb);(try clear hb ho0);obtain⟨U9,UA,UB,UC⟩:=b9 bU;obtain⟨UD,UE,UF,UG⟩:=bA bU)|((with_reducible refine ar (f:=12) rfl ?_);refine gL (some 151) rfl rfl abe (by kernel_rfl) rfl #[.agg #[.slice ct cQ.length cu,.slice dh cf.length di,.slice dW cY.length dX,.int .i64 dR]] rfl ?_;(with_reducible refine(lR.calls j3 _ _ cQ _ _ cf _ _ cY dR fb gP gZ j7 true _ ?aI ?aJ ?af ?ak ?bN ?bc AX.out).mono ?_);(case aI=>exact bd cF);(case aJ=>exact(Kd.aq cF.out).2.1);(case af=>exact bd ce);(case ak=>exact(Kd.aq ce.out).2.1);(case bN=>exact bd cG);(case bc=>exact(Kd.aq cG.out).2.1);rintro e w219 ⟨D4,D5,D6,rfl,ho0,ho1,ho2,hb⟩;refine⟨_,rfl, ?_⟩;have eN:=Ah (Kd.b8 (Kd.aA (Kd.aA (Kd.aA (Kd.aA (Kd.aA (Kd.aA (Kd.aA (Kd.aA (Kd.aA (Kd.aA (Kd.aA (Kd.aA ho0 (Kd.Z (rr ba.out))) (Kd.Z (rr bS.out))) (Kd.Z (rr bT.out))) (Kd.Z (rr bO.out))) (Kd.Z (rr bP.out))) (Kd.Z (rr bW.out))) (Kd.Z (rr bX.out))) (Kd.Z (rr cz.out))) (Kd.Z (rr d3.out))) (Kd.Z (rr cF.out))) (Kd.Z (rr cG.out))) (Kd.Z (rr dF.out))) (bF (dx HB bJ bM bQ cT ck)));have eo:=Ah (Kd.b8 (Kd.aA (Kd.aA (Kd.aA (Kd.aA (Kd.aA ho1 (Kd.Z (rr bz.out))) (Kd.Z (rr bw.out))) (Kd.Z (rr cB.out))) (Kd.Z (rr eJ.out))) (Kd.Z (rr ce.out))) (bF (dx HB bJ bM bQ cT ck)));replace bz:=Ah (Kd.aX (rr bz.out) (Kd.a8 ho1) hb);replace bw:=Ah (Kd.aX (rr bw.out) (Kd.a8 ho1) hb);replace cB:=Ah (Kd.aX (rr cB.out) (Kd.a8 ho1) hb);replace eJ:=Ah (Kd.aX (rr eJ.out) (Kd.a8 ho1) hb);replace ce:=Ah (Kd.aX (rr ce.out) (Kd.a8 ho1) hb);have eO:=Ah (Kd.b8 (Kd.aA (Kd.aA (Kd.aA (Kd.aA (Kd.aA (Kd.aA (Kd.aA (Kd.aA (Kd.aA (Kd.aA (Kd.aA (Kd.aA ho2 (Kd.Z (rr ba.out))) (Kd.Z (rr bS.out))) (Kd.Z (rr bT.out))) (Kd.Z (rr bO.out))) (Kd.Z (rr bP.out))) (Kd.Z (rr bW.out))) (Kd.Z (rr bX.out))) (Kd.Z (rr cz.out))) (Kd.Z (rr d3.out))) (Kd.Z (rr cF.out))) (Kd.Z (rr cG.out))) (Kd.Z (rr dF.out))) (bF (dx HB bJ bM bQ cT ck)));replace ba:=Ah (Kd.aH (Kd.ag (Kd.ag (Kd.bo (rr ba.out) hb) (Kd.a8 ho0)) (Kd.a8 ho2)) (fun _ h_=>h_.1));replace bS:=Ah (Kd.aH (Kd.ag (Kd.ag (Kd.bo (rr bS.out) hb) (Kd.a8 ho0)) (Kd.a8 ho2)) (fun _ h_=>h_.1));replace bT:=Ah (Kd.aH (Kd.ag (Kd.ag (Kd.bo (rr bT.out) hb) (Kd.a8 ho0)) (Kd.a8 ho2)) (fun _ h_=>h_.1));replace bO:=Ah (Kd.aH (Kd.ag (Kd.ag (Kd.bo (rr bO.out) hb) (Kd.a8 ho0)) (Kd.a8 ho2)) (fun _ h_=>h_.1));replace bP:=Ah (Kd.aH (Kd.ag (Kd.ag (Kd.bo (rr bP.out) hb) (Kd.a8 ho0)) (Kd.a8 ho2)) (fun _ h_=>h_.1));replace bW:=Ah (Kd.aH (Kd.ag (Kd.ag (Kd.bo (rr bW.out) hb) (Kd.a8 ho0)) (Kd.a8 ho2)) (fun _ h_=>h_.1));replace bX:=Ah (Kd.aH (Kd.ag (Kd.ag (Kd.bo (rr bX.out) hb) (Kd.a8 ho0)) (Kd.a8 ho2)) (fun _ h_=>h_.1));replace cz:=Ah (Kd.aH (Kd.ag (Kd.ag (Kd.bo (rr cz.out) hb) (Kd.a8 ho0)) (Kd.a8 ho2)) (fun _ h_=>h_.1));replace d3:=Ah (Kd.aH (Kd.ag (Kd.ag (Kd.bo (rr d3.out) hb) (Kd.a8 ho0)) (Kd.a8 ho2)) (fun _ h_=>h_.1));replace cF:=Ah (Kd.aH (Kd.ag (Kd.ag (Kd.bo (rr cF.out) hb) (Kd.a8 ho0)) (Kd.a8 ho2)) (fun _ h_=>h_.1));replace cG:=Ah (Kd.aH (Kd.ag (Kd.ag (Kd.bo (rr cG.out) hb) (Kd.a8 ho0)) (Kd.a8 ho2)) (fun _ h_=>h_.1));replace dF:=Ah (Kd.aH (Kd.ag (Kd.ag (Kd.bo (rr dF.out) hb) (Kd.a8 ho0)) (Kd.a8 ho2)) (fun _ h_=>h_.1));replace bG:=nb bG hb;replace bE:=nb bE hb;replace bH:=nb bH hb;replace cC:=nb cC hb;replace bU:=nb bU hb;replace HB:=Ah (aT (dx HB bJ bM bQ cT ck) hb);(try clear hb ho0 ho1 ho2))|((with_reducible refine bC (N:=27) rfl ?_);(try(refine fS (by rfl) ?_;dsimp only));refine bK 27 28 #[.slice none 0 0,.slice none 0 0,.slice none 0 0,.int .i64 0] ?_;intro qV hg a0j aW hb;replace ba:=nr ba hb;replace bS:=nr bS hb;replace bz:=nr bz hb;replace bT:=nr bT hb;replace bO:=nr bO hb;replace bw:=nr bw hb;replace bP:=nr bP hb;replace bW:=nr bW hb;replace cB:=nr cB hb;replace bX:=nr bX hb;replace cz:=nr cz hb;replace eJ:=nr eJ hb;replace d3:=nr d3 hb;replace cF:=nr cF hb;replace ce:=nr ce hb;replace cG:=nr cG hb;replace dF:=nr dF hb;replace eN:=nr eN hb;replace eo:=nr eo hb;replace eO:=nr eO hb;have CX:=gw hg (dx HB bJ bM bQ cT ck);have jH:=gw hg (dx HB bJ bM bQ cT ck);replace HB:=Ah (aT (dx HB bJ bM bQ cT ck) hb);have lT:=nn bG hg;have qI:=nm bG hg;replace bG:=nb bG hb;have lU:=nn bE hg;have qJ:=nm bE hg;replace bE:=nb bE hb;have lV:=nn bH hg;have qK:=nm bH hg;replace bH:=nb bH hb;have lW:=nn cC hg;have qL:=nm cC hg;replace cC:=nb cC hb;have lX:=nn bU hg;have qM:=nm bU hg;replace bU:=nb bU hb;clear hb hg;obtain⟨Ey,Ez,eo221⟩:=Kd.ao eN.out;subst eo221;have hnb222:=qI.out;have hnc222:=lT.out;have hnb223:=qJ.out;have hnc223:=lU.out;have hnb224:=qK.out;have hnc224:=lV.out;have hnb225:=qL.out;have hnc225:=lW.out;have hnb226:=qM.out;have hnc226:=lX.out;obtain⟨UH,UI,UJ,UK⟩:=b9 aW;obtain⟨UL,UM,UN,UO⟩:=bA aW;obtain⟨KB,KC,eo228⟩:=Kd.ao eo.out;subst eo228;obtain⟨sX,sY,Og⟩:=Kd.ao eO.out;subst Og)|((with_reducible refine ar (f:=8) rfl ?_);refine gL (some 156) rfl rfl aaK (by kernel_rfl) rfl #[.agg #[.slice Ey fb.length Ez,.slice KB gP.length KC,.slice sX gZ.length sY,.int .i64 j7]] rfl ?_;(with_reducible refine(gM.calls j3 _ _ fb _ _ gP _ _ gZ j7 tv false _ ?aI ?aJ ?af ?ak ?bN ?bc AY.out).mono ?_);(case aI=>exact rc eN aW);(case aJ=>exact(Kd.aq eN.out).2.1);(case af=>exact rc eo aW);(case ak=>exact(Kd.aq eo.out).2.1);(case bN=>exact rc eO aW);(case bc=>exact(Kd.aq eO.out).2.1);rintro e w230 ⟨D7,rfl,ho0,hb⟩;refine⟨_,rfl, ?_⟩;replace bz:=nf bz aW hb;replace bw:=nf bw aW hb;replace cB:=nf cB aW hb;replace eJ:=nf eJ aW hb;replace ce:=nf ce aW hb;replace eo:=nf eo aW hb;have oV:=Ah (Kd.b8 (Kd.aA (Kd.aA (Kd.aA (Kd.aA (Kd.aA (Kd.aA (Kd.aA (Kd.aA (Kd.aA (Kd.aA (Kd.aA (Kd.aA (Kd.aA (Kd.aA ho0 (Kd.Z (rf ba aW))) (Kd.Z (rf bS aW))) (Kd.Z (rf bT aW))) (Kd.Z (rf bO aW))) (Kd.Z (rf bP aW))) (Kd.Z (rf bW aW))) (Kd.Z (rf bX aW))) (Kd.Z (rf cz aW))) (Kd.Z (rf d3 aW))) (Kd.Z (rf cF aW))) (Kd.Z (rf cG aW))) (Kd.Z (rf dF aW))) (Kd.Z (rf eN aW))) (Kd.Z (rf eO aW))) (bF (lO HB bJ bM bQ cT ck jH)));replace ba:=Ah (Kd.aX (rf ba aW) (Kd.a8 ho0) hb);replace bS:=Ah (Kd.aX (rf bS aW) (Kd.a8 ho0) hb);replace bT:=Ah (Kd.aX (rf bT aW) (Kd.a8 ho0) hb);replace bO:=Ah (Kd.aX (rf bO aW) (Kd.a8 ho0) hb);replace bP:=Ah (Kd.aX (rf bP aW) (Kd.a8 ho0) hb);replace bW:=Ah (Kd.aX (rf bW aW) (Kd.a8 ho0) hb);replace bX:=Ah (Kd.aX (rf bX aW) (Kd.a8 ho0) hb);replace cz:=Ah (Kd.aX (rf cz aW) (Kd.a8 ho0) hb);replace d3:=Ah (Kd.aX (rf d3 aW) (Kd.a8 ho0) hb);replace cF:=Ah (Kd.aX (rf cF aW) (Kd.a8 ho0) hb);replace cG:=Ah (Kd.aX (rf cG aW) (Kd.a8 ho0) hb);replace dF:=Ah (Kd.aX (rf dF aW) (Kd.a8 ho0) hb);replace eN:=Ah (Kd.aX (rf eN aW) (Kd.a8 ho0) hb);replace eO:=Ah (Kd.aX (rf eO aW) (Kd.a8 ho0) hb);replace bG:=Ah (cS (bf bG lT) hb);replace bE:=Ah (cS (bf bE lU) hb);replace bH:=Ah (cS (bf bH lV) hb);replace cC:=Ah (cS (bf cC lW) hb);replace bU:=Ah (cS (bf bU lX) hb);replace aW:=Ah (cS (g:=qV) (o:= .cells #[.slice Ey fb.length Ez,.slice KB gP.length KC,.slice sX gZ.length sY,.int .i64 j7] 28 (0,0)) (by(with_reducible repeat(first|refine aC ?_ _|refine U ?_|refine X ?_ _));refine aU (cs:= #[.slice Ey fb.length Ez,.slice KB gP.length KC,.slice sX gZ.length sY,.int .i64 0]) ?_ 3 _ rfl;(with_reducible repeat(first|refine aC ?_ _|refine U ?_|refine X ?_ _));refine aU (cs:= #[.slice Ey fb.length Ez,.slice KB gP.length KC,.slice none 0 0,.int .i64 0]) ?_ 2 _ rfl;(with_reducible repeat(first|refine aC ?_ _|refine U ?_|refine X ?_ _));refine aU (cs:= #[.slice Ey fb.length Ez,.slice none 0 0,.slice none 0 0,.int .i64 0]) ?_ 1 _ rfl;(with_reducible repeat(first|refine aC ?_ _|refine U ?_|refine X ?_ _));refine aU (cs:= #[.slice none 0 0,.slice none 0 0,.slice none 0 0,.int .i64 0]) ?_ 0 _ rfl;(with_reducible repeat(first|refine aC ?_ _|refine U ?_|refine X ?_ _));exact aW.out) hb);replace HB:=Ah (aT (lO HB bJ bM bQ cT ck jH) hb);(try clear hb ho0)))
               go_ret
               exact⟨er,lO HB bJ bM bQ cT ck jH⟩
              subst c117;rw[if_pos rfl]at H;replace H:=Hz.mp H;obtain⟨Q6,Xv,H⟩:=H
              try dsimp only at H
              have LA:=Ah Xv;clear Xv
              by_cases c119:Q6=true
              rotate_left
              ·
               replace c119:=i1.mpr c119;subst c119;rw[if_neg dO]at H;obtain rfl:=ec H
               go_wp2_with (first|((with_reducible refine ar (f:=8) rfl ?_);refine gL (some 146) rfl rfl aaK (by kernel_rfl) rfl #[.agg #[.slice ct cQ.length cu,.slice dh cf.length di,.slice dW cY.length dX,.int .i64 dR]] rfl ?_;(with_reducible refine(gM.calls j3 _ _ cQ _ _ cf _ _ cY dR sy true _ ?aI ?aJ ?af ?ak ?bN ?bc AW.out).mono ?_);(case aI=>exact bd cF);(case aJ=>exact(Kd.aq cF.out).2.1);(case af=>exact bd ce);(case ak=>exact(Kd.aq ce.out).2.1);(case bN=>exact bd cG);(case bc=>exact(Kd.aq cG.out).2.1);rintro e w196 ⟨D3,rfl,ho0,hb⟩;refine⟨_,rfl, ?_⟩;replace bz:=nr bz hb;replace bw:=nr bw hb;replace cB:=nr cB hb;replace eJ:=nr eJ hb;replace ce:=nr ce hb;have dF:=Ah (Kd.b8 (Kd.aA (Kd.aA (Kd.aA (Kd.aA (Kd.aA (Kd.aA (Kd.aA (Kd.aA (Kd.aA (Kd.aA (Kd.aA ho0 (Kd.Z (rr ba.out))) (Kd.Z (rr bS.out))) (Kd.Z (rr bT.out))) (Kd.Z (rr bO.out))) (Kd.Z (rr bP.out))) (Kd.Z (rr bW.out))) (Kd.Z (rr bX.out))) (Kd.Z (rr cz.out))) (Kd.Z (rr d3.out))) (Kd.Z (rr cF.out))) (Kd.Z (rr cG.out))) (bF (dx HB bJ bM bQ cT ck)));replace ba:=Ah (Kd.aX (rr ba.out) (Kd.a8 ho0) hb);replace bS:=Ah (Kd.aX (rr bS.out) (Kd.a8 ho0) hb);replace bT:=Ah (Kd.aX (rr bT.out) (Kd.a8 ho0) hb);replace bO:=Ah (Kd.aX (rr bO.out) (Kd.a8 ho0) hb);replace bP:=Ah (Kd.aX (rr bP.out) (Kd.a8 ho0) hb);replace bW:=Ah (Kd.aX (rr bW.out) (Kd.a8 ho0) hb);replace bX:=Ah (Kd.aX (rr bX.out) (Kd.a8 ho0) hb);replace cz:=Ah (Kd.aX (rr cz.out) (Kd.a8 ho0) hb);replace d3:=Ah (Kd.aX (rr d3.out) (Kd.a8 ho0) hb);replace cF:=Ah (Kd.aX (rr cF.out) (Kd.a8 ho0) hb);replace cG:=Ah (Kd.aX (rr cG.out) (Kd.a8 ho0) hb);replace bG:=nb bG hb;replace bE:=nb bE hb;replace bH:=nb bH hb;replace cC:=nb cC hb;replace bU:=nb bU hb;replace HB:=Ah (aT (dx HB bJ bM bQ cT ck) hb);(try clear hb ho0);obtain⟨UP,UQ,UR,US⟩:=b9 bU;obtain⟨UT,UU,UV,UW⟩:=bA bU)|((with_reducible refine ar (f:=12) rfl ?_);refine gL (some 151) rfl rfl abe (by kernel_rfl) rfl #[.agg #[.slice ct cQ.length cu,.slice dh cf.length di,.slice dW cY.length dX,.int .i64 dR]] rfl ?_;(with_reducible refine(lR.calls j3 _ _ cQ _ _ cf _ _ cY dR fb gP gZ j7 true _ ?aI ?aJ ?af ?ak ?bN ?bc AX.out).mono ?_);(case aI=>exact bd cF);(case aJ=>exact(Kd.aq cF.out).2.1);(case af=>exact bd ce);(case ak=>exact(Kd.aq ce.out).2.1);(case bN=>exact bd cG);(case bc=>exact(Kd.aq cG.out).2.1);rintro e w198 ⟨D4,D5,D6,rfl,ho0,ho1,ho2,hb⟩;refine⟨_,rfl, ?_⟩;have eN:=Ah (Kd.b8 (Kd.aA (Kd.aA (Kd.aA (Kd.aA (Kd.aA (Kd.aA (Kd.aA (Kd.aA (Kd.aA (Kd.aA (Kd.aA (Kd.aA ho0 (Kd.Z (rr ba.out))) (Kd.Z (rr bS.out))) (Kd.Z (rr bT.out))) (Kd.Z (rr bO.out))) (Kd.Z (rr bP.out))) (Kd.Z (rr bW.out))) (Kd.Z (rr bX.out))) (Kd.Z (rr cz.out))) (Kd.Z (rr d3.out))) (Kd.Z (rr cF.out))) (Kd.Z (rr cG.out))) (Kd.Z (rr dF.out))) (bF (dx HB bJ bM bQ cT ck)));have eo:=Ah (Kd.b8 (Kd.aA (Kd.aA (Kd.aA (Kd.aA (Kd.aA ho1 (Kd.Z (rr bz.out))) (Kd.Z (rr bw.out))) (Kd.Z (rr cB.out))) (Kd.Z (rr eJ.out))) (Kd.Z (rr ce.out))) (bF (dx HB bJ bM bQ cT ck)));replace bz:=Ah (Kd.aX (rr bz.out) (Kd.a8 ho1) hb);replace bw:=Ah (Kd.aX (rr bw.out) (Kd.a8 ho1) hb);replace cB:=Ah (Kd.aX (rr cB.out) (Kd.a8 ho1) hb);replace eJ:=Ah (Kd.aX (rr eJ.out) (Kd.a8 ho1) hb);replace ce:=Ah (Kd.aX (rr ce.out) (Kd.a8 ho1) hb);have eO:=Ah (Kd.b8 (Kd.aA (Kd.aA (Kd.aA (Kd.aA (Kd.aA (Kd.aA (Kd.aA (Kd.aA (Kd.aA (Kd.aA (Kd.aA (Kd.aA ho2 (Kd.Z (rr ba.out))) (Kd.Z (rr bS.out))) (Kd.Z (rr bT.out))) (Kd.Z (rr bO.out))) (Kd.Z (rr bP.out))) (Kd.Z (rr bW.out))) (Kd.Z (rr bX.out))) (Kd.Z (rr cz.out))) (Kd.Z (rr d3.out))) (Kd.Z (rr cF.out))) (Kd.Z (rr cG.out))) (Kd.Z (rr dF.out))) (bF (dx HB bJ bM bQ cT ck)));replace ba:=Ah (Kd.aH (Kd.ag (Kd.ag (Kd.bo (rr ba.out) hb) (Kd.a8 ho0)) (Kd.a8 ho2)) (fun _ h_=>h_.1));replace bS:=Ah (Kd.aH (Kd.ag (Kd.ag (Kd.bo (rr bS.out) hb) (Kd.a8 ho0)) (Kd.a8 ho2)) (fun _ h_=>h_.1));replace bT:=Ah (Kd.aH (Kd.ag (Kd.ag (Kd.bo (rr bT.out) hb) (Kd.a8 ho0)) (Kd.a8 ho2)) (fun _ h_=>h_.1));replace bO:=Ah (Kd.aH (Kd.ag (Kd.ag (Kd.bo (rr bO.out) hb) (Kd.a8 ho0)) (Kd.a8 ho2)) (fun _ h_=>h_.1));replace bP:=Ah (Kd.aH (Kd.ag (Kd.ag (Kd.bo (rr bP.out) hb) (Kd.a8 ho0)) (Kd.a8 ho2)) (fun _ h_=>h_.1));replace bW:=Ah (Kd.aH (Kd.ag (Kd.ag (Kd.bo (rr bW.out) hb) (Kd.a8 ho0)) (Kd.a8 ho2)) (fun _ h_=>h_.1));replace bX:=Ah (Kd.aH (Kd.ag (Kd.ag (Kd.bo (rr bX.out) hb) (Kd.a8 ho0)) (Kd.a8 ho2)) (fun _ h_=>h_.1));replace cz:=Ah (Kd.aH (Kd.ag (Kd.ag (Kd.bo (rr cz.out) hb) (Kd.a8 ho0)) (Kd.a8 ho2)) (fun _ h_=>h_.1));replace d3:=Ah (Kd.aH (Kd.ag (Kd.ag (Kd.bo (rr d3.out) hb) (Kd.a8 ho0)) (Kd.a8 ho2)) (fun _ h_=>h_.1));replace cF:=Ah (Kd.aH (Kd.ag (Kd.ag (Kd.bo (rr cF.out) hb) (Kd.a8 ho0)) (Kd.a8 ho2)) (fun _ h_=>h_.1));replace cG:=Ah (Kd.aH (Kd.ag (Kd.ag (Kd.bo (rr cG.out) hb) (Kd.a8 ho0)) (Kd.a8 ho2)) (fun _ h_=>h_.1));replace dF:=Ah (Kd.aH (Kd.ag (Kd.ag (Kd.bo (rr dF.out) hb) (Kd.a8 ho0)) (Kd.a8 ho2)) (fun _ h_=>h_.1));replace bG:=nb bG hb;replace bE:=nb bE hb;replace bH:=nb bH hb;replace cC:=nb cC hb;replace bU:=nb bU hb;replace HB:=Ah (aT (dx HB bJ bM bQ cT ck) hb);(try clear hb ho0 ho1 ho2))|((with_reducible refine bC (N:=27) rfl ?_);(try(refine fS (by rfl) ?_;dsimp only));refine bK 27 28 #[.slice none 0 0,.slice none 0 0,.slice none 0 0,.int .i64 0] ?_;intro qV hg w199 aW hb;replace ba:=nr ba hb;replace bS:=nr bS hb;replace bz:=nr bz hb;replace bT:=nr bT hb;replace bO:=nr bO hb;replace bw:=nr bw hb;replace bP:=nr bP hb;replace bW:=nr bW hb;replace cB:=nr cB hb;replace bX:=nr bX hb;replace cz:=nr cz hb;replace eJ:=nr eJ hb;replace d3:=nr d3 hb;replace cF:=nr cF hb;replace ce:=nr ce hb;replace cG:=nr cG hb;replace dF:=nr dF hb;replace eN:=nr eN hb;replace eo:=nr eo hb;replace eO:=nr eO hb;have CX:=gw hg (dx HB bJ bM bQ cT ck);have jH:=gw hg (dx HB bJ bM bQ cT ck);replace HB:=Ah (aT (dx HB bJ bM bQ cT ck) hb);have lT:=nn bG hg;have qI:=nm bG hg;replace bG:=nb bG hb;have lU:=nn bE hg;have qJ:=nm bE hg;replace bE:=nb bE hb;have lV:=nn bH hg;have qK:=nm bH hg;replace bH:=nb bH hb;have lW:=nn cC hg;have qL:=nm cC hg;replace cC:=nb cC hb;have lX:=nn bU hg;have qM:=nm bU hg;replace bU:=nb bU hb;clear hb hg;obtain⟨F0,F1,eo200⟩:=Kd.ao eN.out;subst eo200;have hnb201:=qI.out;have hnc201:=lT.out;have hnb202:=qJ.out;have hnc202:=lU.out;have hnb203:=qK.out;have hnc203:=lV.out;have hnb204:=qL.out;have hnc204:=lW.out;have hnb205:=qM.out;have hnc205:=lX.out;obtain⟨UX,UY,UZ,Ua⟩:=b9 aW;obtain⟨Ub,Uc,Ud,Ue⟩:=bA aW;obtain⟨KD,KE,eo207⟩:=Kd.ao eo.out;subst eo207;obtain⟨Oh,Oi,eo208⟩:=Kd.ao eO.out;subst eo208)|((with_reducible refine ar (f:=8) rfl ?_);refine gL (some 156) rfl rfl aaK (by kernel_rfl) rfl #[.agg #[.slice F0 fb.length F1,.slice KD gP.length KE,.slice Oh gZ.length Oi,.int .i64 j7]] rfl ?_;(with_reducible refine(gM.calls j3 _ _ fb _ _ gP _ _ gZ j7 tv true _ ?aI ?aJ ?af ?ak ?bN ?bc AY.out).mono ?_);(case aI=>exact rc eN aW);(case aJ=>exact(Kd.aq eN.out).2.1);(case af=>exact rc eo aW);(case ak=>exact(Kd.aq eo.out).2.1);(case bN=>exact rc eO aW);(case bc=>exact(Kd.aq eO.out).2.1);rintro e w209 ⟨D7,rfl,ho0,hb⟩;refine⟨_,rfl, ?_⟩;replace bz:=nf bz aW hb;replace bw:=nf bw aW hb;replace cB:=nf cB aW hb;replace eJ:=nf eJ aW hb;replace ce:=nf ce aW hb;replace eo:=nf eo aW hb;have oV:=Ah (Kd.b8 (Kd.aA (Kd.aA (Kd.aA (Kd.aA (Kd.aA (Kd.aA (Kd.aA (Kd.aA (Kd.aA (Kd.aA (Kd.aA (Kd.aA (Kd.aA (Kd.aA ho0 (Kd.Z (rf ba aW))) (Kd.Z (rf bS aW))) (Kd.Z (rf bT aW))) (Kd.Z (rf bO aW))) (Kd.Z (rf bP aW))) (Kd.Z (rf bW aW))) (Kd.Z (rf bX aW))) (Kd.Z (rf cz aW))) (Kd.Z (rf d3 aW))) (Kd.Z (rf cF aW))) (Kd.Z (rf cG aW))) (Kd.Z (rf dF aW))) (Kd.Z (rf eN aW))) (Kd.Z (rf eO aW))) (bF (lO HB bJ bM bQ cT ck jH)));replace ba:=Ah (Kd.aX (rf ba aW) (Kd.a8 ho0) hb);replace bS:=Ah (Kd.aX (rf bS aW) (Kd.a8 ho0) hb);replace bT:=Ah (Kd.aX (rf bT aW) (Kd.a8 ho0) hb);replace bO:=Ah (Kd.aX (rf bO aW) (Kd.a8 ho0) hb);replace bP:=Ah (Kd.aX (rf bP aW) (Kd.a8 ho0) hb);replace bW:=Ah (Kd.aX (rf bW aW) (Kd.a8 ho0) hb);replace bX:=Ah (Kd.aX (rf bX aW) (Kd.a8 ho0) hb);replace cz:=Ah (Kd.aX (rf cz aW) (Kd.a8 ho0) hb);replace d3:=Ah (Kd.aX (rf d3 aW) (Kd.a8 ho0) hb);replace cF:=Ah (Kd.aX (rf cF aW) (Kd.a8 ho0) hb);replace cG:=Ah (Kd.aX (rf cG aW) (Kd.a8 ho0) hb);replace dF:=Ah (Kd.aX (rf dF aW) (Kd.a8 ho0) hb);replace eN:=Ah (Kd.aX (rf eN aW) (Kd.a8 ho0) hb);replace eO:=Ah (Kd.aX (rf eO aW) (Kd.a8 ho0) hb);replace bG:=Ah (cS (bf bG lT) hb);replace bE:=Ah (cS (bf bE lU) hb);replace bH:=Ah (cS (bf bH lV) hb);replace cC:=Ah (cS (bf cC lW) hb);replace bU:=Ah (cS (bf bU lX) hb);replace aW:=Ah (cS (g:=qV) (o:= .cells #[.slice F0 fb.length F1,.slice KD gP.length KE,.slice Oh gZ.length Oi,.int .i64 j7] 28 (0,0)) (by(with_reducible repeat(first|refine aC ?_ _|refine U ?_|refine X ?_ _));refine aU (cs:= #[.slice F0 fb.length F1,.slice KD gP.length KE,.slice Oh gZ.length Oi,.int .i64 0]) ?_ 3 _ rfl;(with_reducible repeat(first|refine aC ?_ _|refine U ?_|refine X ?_ _));refine aU (cs:= #[.slice F0 fb.length F1,.slice KD gP.length KE,.slice none 0 0,.int .i64 0]) ?_ 2 _ rfl;(with_reducible repeat(first|refine aC ?_ _|refine U ?_|refine X ?_ _));refine aU (cs:= #[.slice F0 fb.length F1,.slice none 0 0,.slice none 0 0,.int .i64 0]) ?_ 1 _ rfl;(with_reducible repeat(first|refine aC ?_ _|refine U ?_|refine X ?_ _));refine aU (cs:= #[.slice none 0 0,.slice none 0 0,.slice none 0 0,.int .i64 0]) ?_ 0 _ rfl;(with_reducible repeat(first|refine aC ?_ _|refine U ?_|refine X ?_ _));exact aW.out) hb);replace HB:=Ah (aT (lO HB bJ bM bQ cT ck jH) hb);(try clear hb ho0);obtain⟨Ao210,co210,eo210⟩:=Kd.ao dF.out;subst eo210;obtain⟨vO,vP,Oj⟩:=Kd.ao ba.out;subst Oj)|(go_at_call 11;(with_reducible refine(fY.calls j3 _ _ sy _ _ jZ false _ ?aI ?aJ ?af ?ak LA.out).mono ?_);(case aI=>exact bd dF);(case aJ=>exact(Kd.aq dF.out).2.1);(case af=>exact bd ba);(case ak=>exact(Kd.aq ba.out).2.1);rintro e w' ⟨rfl,⟨nd,rfl⟩⟩))
               go_ret
               exact⟨er,lO HB bJ bM bQ cT ck jH⟩
              subst c119;rw[if_pos rfl]at H;replace H:=Hz.mp H;obtain⟨Q7,Xw,H⟩:=H
              try dsimp only at H
              have D8:=Ah Xw;clear Xw
              by_cases D9:Q7=true
              rotate_left
              ·
               replace D9:=i1.mpr D9;subst D9;rw[if_neg dO]at H;obtain rfl:=ec H
               go_wp2_with (first|((with_reducible refine ar (f:=8) rfl ?_);refine gL (some 146) rfl rfl aaK (by kernel_rfl) rfl #[.agg #[.slice ct cQ.length cu,.slice dh cf.length di,.slice dW cY.length dX,.int .i64 dR]] rfl ?_;(with_reducible refine(gM.calls j3 _ _ cQ _ _ cf _ _ cY dR sy true _ ?aI ?aJ ?af ?ak ?bN ?bc AW.out).mono ?_);(case aI=>exact bd cF);(case aJ=>exact(Kd.aq cF.out).2.1);(case af=>exact bd ce);(case ak=>exact(Kd.aq ce.out).2.1);(case bN=>exact bd cG);(case bc=>exact(Kd.aq cG.out).2.1);rintro e w174 ⟨D3,rfl,ho0,hb⟩;refine⟨_,rfl, ?_⟩;replace bz:=nr bz hb;replace bw:=nr bw hb;replace cB:=nr cB hb;replace eJ:=nr eJ hb;replace ce:=nr ce hb;have dF:=Ah (Kd.b8 (Kd.aA (Kd.aA (Kd.aA (Kd.aA (Kd.aA (Kd.aA (Kd.aA (Kd.aA (Kd.aA (Kd.aA (Kd.aA ho0 (Kd.Z (rr ba.out))) (Kd.Z (rr bS.out))) (Kd.Z (rr bT.out))) (Kd.Z (rr bO.out))) (Kd.Z (rr bP.out))) (Kd.Z (rr bW.out))) (Kd.Z (rr bX.out))) (Kd.Z (rr cz.out))) (Kd.Z (rr d3.out))) (Kd.Z (rr cF.out))) (Kd.Z (rr cG.out))) (bF (dx HB bJ bM bQ cT ck)));replace ba:=Ah (Kd.aX (rr ba.out) (Kd.a8 ho0) hb);replace bS:=Ah (Kd.aX (rr bS.out) (Kd.a8 ho0) hb);replace bT:=Ah (Kd.aX (rr bT.out) (Kd.a8 ho0) hb);replace bO:=Ah (Kd.aX (rr bO.out) (Kd.a8 ho0) hb);replace bP:=Ah (Kd.aX (rr bP.out) (Kd.a8 ho0) hb);replace bW:=Ah (Kd.aX (rr bW.out) (Kd.a8 ho0) hb);replace bX:=Ah (Kd.aX (rr bX.out) (Kd.a8 ho0) hb);replace cz:=Ah (Kd.aX (rr cz.out) (Kd.a8 ho0) hb);replace d3:=Ah (Kd.aX (rr d3.out) (Kd.a8 ho0) hb);replace cF:=Ah (Kd.aX (rr cF.out) (Kd.a8 ho0) hb);replace cG:=Ah (Kd.aX (rr cG.out) (Kd.a8 ho0) hb);replace bG:=nb bG hb;replace bE:=nb bE hb;replace bH:=nb bH hb;replace cC:=nb cC hb;replace bU:=nb bU hb;replace HB:=Ah (aT (dx HB bJ bM bQ cT ck) hb);(try clear hb ho0);obtain⟨Uf,Ug,Uh,Ui⟩:=b9 bU;obtain⟨Uj,Uk,Ul,Um⟩:=bA bU)|((with_reducible refine ar (f:=12) rfl ?_);refine gL (some 151) rfl rfl abe (by kernel_rfl) rfl #[.agg #[.slice ct cQ.length cu,.slice dh cf.length di,.slice dW cY.length dX,.int .i64 dR]] rfl ?_;(with_reducible refine(lR.calls j3 _ _ cQ _ _ cf _ _ cY dR fb gP gZ j7 true _ ?aI ?aJ ?af ?ak ?bN ?bc AX.out).mono ?_);(case aI=>exact bd cF);(case aJ=>exact(Kd.aq cF.out).2.1);(case af=>exact bd ce);(case ak=>exact(Kd.aq ce.out).2.1);(case bN=>exact bd cG);(case bc=>exact(Kd.aq cG.out).2.1);rintro e w176 ⟨D4,D5,D6,rfl,ho0,ho1,ho2,hb⟩;refine⟨_,rfl, ?_⟩;have eN:=Ah (Kd.b8 (Kd.aA (Kd.aA (Kd.aA (Kd.aA (Kd.aA (Kd.aA (Kd.aA (Kd.aA (Kd.aA (Kd.aA (Kd.aA (Kd.aA ho0 (Kd.Z (rr ba.out))) (Kd.Z (rr bS.out))) (Kd.Z (rr bT.out))) (Kd.Z (rr bO.out))) (Kd.Z (rr bP.out))) (Kd.Z (rr bW.out))) (Kd.Z (rr bX.out))) (Kd.Z (rr cz.out))) (Kd.Z (rr d3.out))) (Kd.Z (rr cF.out))) (Kd.Z (rr cG.out))) (Kd.Z (rr dF.out))) (bF (dx HB bJ bM bQ cT ck)));have eo:=Ah (Kd.b8 (Kd.aA (Kd.aA (Kd.aA (Kd.aA (Kd.aA ho1 (Kd.Z (rr bz.out))) (Kd.Z (rr bw.out))) (Kd.Z (rr cB.out))) (Kd.Z (rr eJ.out))) (Kd.Z (rr ce.out))) (bF (dx HB bJ bM bQ cT ck)));replace bz:=Ah (Kd.aX (rr bz.out) (Kd.a8 ho1) hb);replace bw:=Ah (Kd.aX (rr bw.out) (Kd.a8 ho1) hb);replace cB:=Ah (Kd.aX (rr cB.out) (Kd.a8 ho1) hb);replace eJ:=Ah (Kd.aX (rr eJ.out) (Kd.a8 ho1) hb);replace ce:=Ah (Kd.aX (rr ce.out) (Kd.a8 ho1) hb);have eO:=Ah (Kd.b8 (Kd.aA (Kd.aA (Kd.aA (Kd.aA (Kd.aA (Kd.aA (Kd.aA (Kd.aA (Kd.aA (Kd.aA (Kd.aA (Kd.aA ho2 (Kd.Z (rr ba.out))) (Kd.Z (rr bS.out))) (Kd.Z (rr bT.out))) (Kd.Z (rr bO.out))) (Kd.Z (rr bP.out))) (Kd.Z (rr bW.out))) (Kd.Z (rr bX.out))) (Kd.Z (rr cz.out))) (Kd.Z (rr d3.out))) (Kd.Z (rr cF.out))) (Kd.Z (rr cG.out))) (Kd.Z (rr dF.out))) (bF (dx HB bJ bM bQ cT ck)));replace ba:=Ah (Kd.aH (Kd.ag (Kd.ag (Kd.bo (rr ba.out) hb) (Kd.a8 ho0)) (Kd.a8 ho2)) (fun _ h_=>h_.1));replace bS:=Ah (Kd.aH (Kd.ag (Kd.ag (Kd.bo (rr bS.out) hb) (Kd.a8 ho0)) (Kd.a8 ho2)) (fun _ h_=>h_.1));replace bT:=Ah (Kd.aH (Kd.ag (Kd.ag (Kd.bo (rr bT.out) hb) (Kd.a8 ho0)) (Kd.a8 ho2)) (fun _ h_=>h_.1));replace bO:=Ah (Kd.aH (Kd.ag (Kd.ag (Kd.bo (rr bO.out) hb) (Kd.a8 ho0)) (Kd.a8 ho2)) (fun _ h_=>h_.1));replace bP:=Ah (Kd.aH (Kd.ag (Kd.ag (Kd.bo (rr bP.out) hb) (Kd.a8 ho0)) (Kd.a8 ho2)) (fun _ h_=>h_.1));replace bW:=Ah (Kd.aH (Kd.ag (Kd.ag (Kd.bo (rr bW.out) hb) (Kd.a8 ho0)) (Kd.a8 ho2)) (fun _ h_=>h_.1));replace bX:=Ah (Kd.aH (Kd.ag (Kd.ag (Kd.bo (rr bX.out) hb) (Kd.a8 ho0)) (Kd.a8 ho2)) (fun _ h_=>h_.1));replace cz:=Ah (Kd.aH (Kd.ag (Kd.ag (Kd.bo (rr cz.out) hb) (Kd.a8 ho0)) (Kd.a8 ho2)) (fun _ h_=>h_.1));replace d3:=Ah (Kd.aH (Kd.ag (Kd.ag (Kd.bo (rr d3.out) hb) (Kd.a8 ho0)) (Kd.a8 ho2)) (fun _ h_=>h_.1));replace cF:=Ah (Kd.aH (Kd.ag (Kd.ag (Kd.bo (rr cF.out) hb) (Kd.a8 ho0)) (Kd.a8 ho2)) (fun _ h_=>h_.1));replace cG:=Ah (Kd.aH (Kd.ag (Kd.ag (Kd.bo (rr cG.out) hb) (Kd.a8 ho0)) (Kd.a8 ho2)) (fun _ h_=>h_.1));replace dF:=Ah (Kd.aH (Kd.ag (Kd.ag (Kd.bo (rr dF.out) hb) (Kd.a8 ho0)) (Kd.a8 ho2)) (fun _ h_=>h_.1));replace bG:=nb bG hb;replace bE:=nb bE hb;replace bH:=nb bH hb;replace cC:=nb cC hb;replace bU:=nb bU hb;replace HB:=Ah (aT (dx HB bJ bM bQ cT ck) hb);(try clear hb ho0 ho1 ho2))|((with_reducible refine bC (N:=27) rfl ?_);(try(refine fS (by rfl) ?_;dsimp only));refine bK 27 28 #[.slice none 0 0,.slice none 0 0,.slice none 0 0,.int .i64 0] ?_;intro qV hg w177 aW hb;replace ba:=nr ba hb;replace bS:=nr bS hb;replace bz:=nr bz hb;replace bT:=nr bT hb;replace bO:=nr bO hb;replace bw:=nr bw hb;replace bP:=nr bP hb;replace bW:=nr bW hb;replace cB:=nr cB hb;replace bX:=nr bX hb;replace cz:=nr cz hb;replace eJ:=nr eJ hb;replace d3:=nr d3 hb;replace cF:=nr cF hb;replace ce:=nr ce hb;replace cG:=nr cG hb;replace dF:=nr dF hb;replace eN:=nr eN hb;replace eo:=nr eo hb;replace eO:=nr eO hb;have CX:=gw hg (dx HB bJ bM bQ cT ck);have jH:=gw hg (dx HB bJ bM bQ cT ck);replace HB:=Ah (aT (dx HB bJ bM bQ cT ck) hb);have lT:=nn bG hg;have qI:=nm bG hg;replace bG:=nb bG hb;have lU:=nn bE hg;have qJ:=nm bE hg;replace bE:=nb bE hb;have lV:=nn bH hg;have qK:=nm bH hg;replace bH:=nb bH hb;have lW:=nn cC hg;have qL:=nm cC hg;replace cC:=nb cC hb;have lX:=nn bU hg;have qM:=nm bU hg;replace bU:=nb bU hb;clear hb hg;obtain⟨F2,F3,eo178⟩:=Kd.ao eN.out;subst eo178;have hnb179:=qI.out;have hnc179:=lT.out;have hnb180:=qJ.out;have hnc180:=lU.out;have hnb181:=qK.out;have hnc181:=lV.out;have hnb182:=qL.out;have hnc182:=lW.out;have hnb183:=qM.out;have hnc183:=lX.out;obtain⟨Un,Uo,Up,Uq⟩:=b9 aW;obtain⟨Ur,Us,Ut,Uu⟩:=bA aW;obtain⟨KF,KG,eo185⟩:=Kd.ao eo.out;subst eo185;obtain⟨zZ,za,KH⟩:=Kd.ao eO.out;subst KH)|((with_reducible refine ar (f:=8) rfl ?_);refine gL (some 156) rfl rfl aaK (by kernel_rfl) rfl #[.agg #[.slice F2 fb.length F3,.slice KF gP.length KG,.slice zZ gZ.length za,.int .i64 j7]] rfl ?_;(with_reducible refine(gM.calls j3 _ _ fb _ _ gP _ _ gZ j7 tv true _ ?aI ?aJ ?af ?ak ?bN ?bc AY.out).mono ?_);(case aI=>exact rc eN aW);(case aJ=>exact(Kd.aq eN.out).2.1);(case af=>exact rc eo aW);(case ak=>exact(Kd.aq eo.out).2.1);(case bN=>exact rc eO aW);(case bc=>exact(Kd.aq eO.out).2.1);rintro e w187 ⟨D7,rfl,ho0,hb⟩;refine⟨_,rfl, ?_⟩;replace bz:=nf bz aW hb;replace bw:=nf bw aW hb;replace cB:=nf cB aW hb;replace eJ:=nf eJ aW hb;replace ce:=nf ce aW hb;replace eo:=nf eo aW hb;have oV:=Ah (Kd.b8 (Kd.aA (Kd.aA (Kd.aA (Kd.aA (Kd.aA (Kd.aA (Kd.aA (Kd.aA (Kd.aA (Kd.aA (Kd.aA (Kd.aA (Kd.aA (Kd.aA ho0 (Kd.Z (rf ba aW))) (Kd.Z (rf bS aW))) (Kd.Z (rf bT aW))) (Kd.Z (rf bO aW))) (Kd.Z (rf bP aW))) (Kd.Z (rf bW aW))) (Kd.Z (rf bX aW))) (Kd.Z (rf cz aW))) (Kd.Z (rf d3 aW))) (Kd.Z (rf cF aW))) (Kd.Z (rf cG aW))) (Kd.Z (rf dF aW))) (Kd.Z (rf eN aW))) (Kd.Z (rf eO aW))) (bF (lO HB bJ bM bQ cT ck jH)));replace ba:=Ah (Kd.aX (rf ba aW) (Kd.a8 ho0) hb);replace bS:=Ah (Kd.aX (rf bS aW) (Kd.a8 ho0) hb);replace bT:=Ah (Kd.aX (rf bT aW) (Kd.a8 ho0) hb);replace bO:=Ah (Kd.aX (rf bO aW) (Kd.a8 ho0) hb);replace bP:=Ah (Kd.aX (rf bP aW) (Kd.a8 ho0) hb);replace bW:=Ah (Kd.aX (rf bW aW) (Kd.a8 ho0) hb);replace bX:=Ah (Kd.aX (rf bX aW) (Kd.a8 ho0) hb);replace cz:=Ah (Kd.aX (rf cz aW) (Kd.a8 ho0) hb);replace d3:=Ah (Kd.aX (rf d3 aW) (Kd.a8 ho0) hb);replace cF:=Ah (Kd.aX (rf cF aW) (Kd.a8 ho0) hb);replace cG:=Ah (Kd.aX (rf cG aW) (Kd.a8 ho0) hb);replace dF:=Ah (Kd.aX (rf dF aW) (Kd.a8 ho0) hb);replace eN:=Ah (Kd.aX (rf eN aW) (Kd.a8 ho0) hb);replace eO:=Ah (Kd.aX (rf eO aW) (Kd.a8 ho0) hb);replace bG:=Ah (cS (bf bG lT) hb);replace bE:=Ah (cS (bf bE lU) hb);replace bH:=Ah (cS (bf bH lV) hb);replace cC:=Ah (cS (bf cC lW) hb);replace bU:=Ah (cS (bf bU lX) hb);replace aW:=Ah (cS (g:=qV) (o:= .cells #[.slice F2 fb.length F3,.slice KF gP.length KG,.slice zZ gZ.length za,.int .i64 j7] 28 (0,0)) (by(with_reducible repeat(first|refine aC ?_ _|refine U ?_|refine X ?_ _));refine aU (cs:= #[.slice F2 fb.length F3,.slice KF gP.length KG,.slice zZ gZ.length za,.int .i64 0]) ?_ 3 _ rfl;(with_reducible repeat(first|refine aC ?_ _|refine U ?_|refine X ?_ _));refine aU (cs:= #[.slice F2 fb.length F3,.slice KF gP.length KG,.slice none 0 0,.int .i64 0]) ?_ 2 _ rfl;(with_reducible repeat(first|refine aC ?_ _|refine U ?_|refine X ?_ _));refine aU (cs:= #[.slice F2 fb.length F3,.slice none 0 0,.slice none 0 0,.int .i64 0]) ?_ 1 _ rfl;(with_reducible repeat(first|refine aC ?_ _|refine U ?_|refine X ?_ _));refine aU (cs:= #[.slice none 0 0,.slice none 0 0,.slice none 0 0,.int .i64 0]) ?_ 0 _ rfl;(with_reducible repeat(first|refine aC ?_ _|refine U ?_|refine X ?_ _));exact aW.out) hb);replace HB:=Ah (aT (lO HB bJ bM bQ cT ck jH) hb);(try clear hb ho0);obtain⟨Ao188,co188,eo188⟩:=Kd.ao dF.out;subst eo188;obtain⟨Ao189,co189,eo189⟩:=Kd.ao ba.out;subst eo189)|(go_at_call 11;(with_reducible refine(fY.calls j3 _ _ sy _ _ jZ true _ ?aI ?aJ ?af ?ak LA.out).mono ?_);(case aI=>exact bd dF);(case aJ=>exact(Kd.aq dF.out).2.1);(case af=>exact bd ba);(case ak=>exact(Kd.aq ba.out).2.1);rintro e w' ⟨rfl,⟨nd,rfl⟩⟩;obtain⟨Ao190,co190,eo190⟩:=Kd.ao oV.out;subst eo190)|(go_at_call 11;(with_reducible refine(fY.calls j3 _ _ tv _ _ jZ false _ ?aI ?aJ ?af ?ak D8.out).mono ?_);(case aI=>exact bd oV);(case aJ=>exact(Kd.aq oV.out).2.1);(case af=>exact bd ba);(case ak=>exact(Kd.aq ba.out).2.1);rintro e w' ⟨rfl,⟨nd,rfl⟩⟩))
               go_ret
               exact⟨er,lO HB bJ bM bQ cT ck jH⟩
              subst D9;rw[if_pos rfl]at H
              by_cases tw:(gZ.length:Int)=0
              rotate_left
              ·
               rw[if_neg tw]at H;have OG:((gZ.length:Int)==0)=false:=beq_eq_false_iff_ne.mpr tw;have OH:((gZ.length:Int) !=0)=true:=bne_iff_ne.mpr tw
               have XS:¬(gZ=[]):=fun h_=>tw (by rw[h_];rfl)
               obtain rfl:=ec H
               go_wp2_with (first|((with_reducible refine ar (f:=8) rfl ?_);refine gL (some 146) rfl rfl aaK (by kernel_rfl) rfl #[.agg #[.slice ct cQ.length cu,.slice dh cf.length di,.slice dW cY.length dX,.int .i64 dR]] rfl ?_;(with_reducible refine(gM.calls j3 _ _ cQ _ _ cf _ _ cY dR sy true _ ?aI ?aJ ?af ?ak ?bN ?bc AW.out).mono ?_);(case aI=>exact bd cF);(case aJ=>exact(Kd.aq cF.out).2.1);(case af=>exact bd ce);(case ak=>exact(Kd.aq ce.out).2.1);(case bN=>exact bd cG);(case bc=>exact(Kd.aq cG.out).2.1);rintro e w151 ⟨D3,rfl,ho0,hb⟩;refine⟨_,rfl, ?_⟩;replace bz:=nr bz hb;replace bw:=nr bw hb;replace cB:=nr cB hb;replace eJ:=nr eJ hb;replace ce:=nr ce hb;have dF:=Ah (Kd.b8 (Kd.aA (Kd.aA (Kd.aA (Kd.aA (Kd.aA (Kd.aA (Kd.aA (Kd.aA (Kd.aA (Kd.aA (Kd.aA ho0 (Kd.Z (rr ba.out))) (Kd.Z (rr bS.out))) (Kd.Z (rr bT.out))) (Kd.Z (rr bO.out))) (Kd.Z (rr bP.out))) (Kd.Z (rr bW.out))) (Kd.Z (rr bX.out))) (Kd.Z (rr cz.out))) (Kd.Z (rr d3.out))) (Kd.Z (rr cF.out))) (Kd.Z (rr cG.out))) (bF (dx HB bJ bM bQ cT ck)));replace ba:=Ah (Kd.aX (rr ba.out) (Kd.a8 ho0) hb);replace bS:=Ah (Kd.aX (rr bS.out) (Kd.a8 ho0) hb);replace bT:=Ah (Kd.aX (rr bT.out) (Kd.a8 ho0) hb);replace bO:=Ah (Kd.aX (rr bO.out) (Kd.a8 ho0) hb);replace bP:=Ah (Kd.aX (rr bP.out) (Kd.a8 ho0) hb);replace bW:=Ah (Kd.aX (rr bW.out) (Kd.a8 ho0) hb);replace bX:=Ah (Kd.aX (rr bX.out) (Kd.a8 ho0) hb);replace cz:=Ah (Kd.aX (rr cz.out) (Kd.a8 ho0) hb);replace d3:=Ah (Kd.aX (rr d3.out) (Kd.a8 ho0) hb);replace cF:=Ah (Kd.aX (rr cF.out) (Kd.a8 ho0) hb);replace cG:=Ah (Kd.aX (rr cG.out) (Kd.a8 ho0) hb);replace bG:=nb bG hb;replace bE:=nb bE hb;replace bH:=nb bH hb;replace cC:=nb cC hb;replace bU:=nb bU hb;replace HB:=Ah (aT (dx HB bJ bM bQ cT ck) hb);(try clear hb ho0);obtain⟨Uv,Uw,Ux,Uy⟩:=b9 bU;obtain⟨Uz,V0,V1,V2⟩:=bA bU)|((with_reducible refine ar (f:=12) rfl ?_);refine gL (some 151) rfl rfl abe (by kernel_rfl) rfl #[.agg #[.slice ct cQ.length cu,.slice dh cf.length di,.slice dW cY.length dX,.int .i64 dR]] rfl ?_;(with_reducible refine(lR.calls j3 _ _ cQ _ _ cf _ _ cY dR fb gP gZ j7 true _ ?aI ?aJ ?af ?ak ?bN ?bc AX.out).mono ?_);(case aI=>exact bd cF);(case aJ=>exact(Kd.aq cF.out).2.1);(case af=>exact bd ce);(case ak=>exact(Kd.aq ce.out).2.1);(case bN=>exact bd cG);(case bc=>exact(Kd.aq cG.out).2.1);rintro e w153 ⟨D4,D5,D6,rfl,ho0,ho1,ho2,hb⟩;refine⟨_,rfl, ?_⟩;have eN:=Ah (Kd.b8 (Kd.aA (Kd.aA (Kd.aA (Kd.aA (Kd.aA (Kd.aA (Kd.aA (Kd.aA (Kd.aA (Kd.aA (Kd.aA (Kd.aA ho0 (Kd.Z (rr ba.out))) (Kd.Z (rr bS.out))) (Kd.Z (rr bT.out))) (Kd.Z (rr bO.out))) (Kd.Z (rr bP.out))) (Kd.Z (rr bW.out))) (Kd.Z (rr bX.out))) (Kd.Z (rr cz.out))) (Kd.Z (rr d3.out))) (Kd.Z (rr cF.out))) (Kd.Z (rr cG.out))) (Kd.Z (rr dF.out))) (bF (dx HB bJ bM bQ cT ck)));have eo:=Ah (Kd.b8 (Kd.aA (Kd.aA (Kd.aA (Kd.aA (Kd.aA ho1 (Kd.Z (rr bz.out))) (Kd.Z (rr bw.out))) (Kd.Z (rr cB.out))) (Kd.Z (rr eJ.out))) (Kd.Z (rr ce.out))) (bF (dx HB bJ bM bQ cT ck)));replace bz:=Ah (Kd.aX (rr bz.out) (Kd.a8 ho1) hb);replace bw:=Ah (Kd.aX (rr bw.out) (Kd.a8 ho1) hb);replace cB:=Ah (Kd.aX (rr cB.out) (Kd.a8 ho1) hb);replace eJ:=Ah (Kd.aX (rr eJ.out) (Kd.a8 ho1) hb);replace ce:=Ah (Kd.aX (rr ce.out) (Kd.a8 ho1) hb);have eO:=Ah (Kd.b8 (Kd.aA (Kd.aA (Kd.aA (Kd.aA (Kd.aA (Kd.aA (Kd.aA (Kd.aA (Kd.aA (Kd.aA (Kd.aA (Kd.aA ho2 (Kd.Z (rr ba.out))) (Kd.Z (rr bS.out))) (Kd.Z (rr bT.out))) (Kd.Z (rr bO.out))) (Kd.Z (rr bP.out))) (Kd.Z (rr bW.out))) (Kd.Z (rr bX.out))) (Kd.Z (rr cz.out))) (Kd.Z (rr d3.out))) (Kd.Z (rr cF.out))) (Kd.Z (rr cG.out))) (Kd.Z (rr dF.out))) (bF (dx HB bJ bM bQ cT ck)));replace ba:=Ah (Kd.aH (Kd.ag (Kd.ag (Kd.bo (rr ba.out) hb) (Kd.a8 ho0)) (Kd.a8 ho2)) (fun _ h_=>h_.1));replace bS:=Ah (Kd.aH (Kd.ag (Kd.ag (Kd.bo (rr bS.out) hb) (Kd.a8 ho0)) (Kd.a8 ho2)) (fun _ h_=>h_.1));replace bT:=Ah (Kd.aH (Kd.ag (Kd.ag (Kd.bo (rr bT.out) hb) (Kd.a8 ho0)) (Kd.a8 ho2)) (fun _ h_=>h_.1));replace bO:=Ah (Kd.aH (Kd.ag (Kd.ag (Kd.bo (rr bO.out) hb) (Kd.a8 ho0)) (Kd.a8 ho2)) (fun _ h_=>h_.1));replace bP:=Ah (Kd.aH (Kd.ag (Kd.ag (Kd.bo (rr bP.out) hb) (Kd.a8 ho0)) (Kd.a8 ho2)) (fun _ h_=>h_.1));replace bW:=Ah (Kd.aH (Kd.ag (Kd.ag (Kd.bo (rr bW.out) hb) (Kd.a8 ho0)) (Kd.a8 ho2)) (fun _ h_=>h_.1));replace bX:=Ah (Kd.aH (Kd.ag (Kd.ag (Kd.bo (rr bX.out) hb) (Kd.a8 ho0)) (Kd.a8 ho2)) (fun _ h_=>h_.1));replace cz:=Ah (Kd.aH (Kd.ag (Kd.ag (Kd.bo (rr cz.out) hb) (Kd.a8 ho0)) (Kd.a8 ho2)) (fun _ h_=>h_.1));replace d3:=Ah (Kd.aH (Kd.ag (Kd.ag (Kd.bo (rr d3.out) hb) (Kd.a8 ho0)) (Kd.a8 ho2)) (fun _ h_=>h_.1));replace cF:=Ah (Kd.aH (Kd.ag (Kd.ag (Kd.bo (rr cF.out) hb) (Kd.a8 ho0)) (Kd.a8 ho2)) (fun _ h_=>h_.1));replace cG:=Ah (Kd.aH (Kd.ag (Kd.ag (Kd.bo (rr cG.out) hb) (Kd.a8 ho0)) (Kd.a8 ho2)) (fun _ h_=>h_.1));replace dF:=Ah (Kd.aH (Kd.ag (Kd.ag (Kd.bo (rr dF.out) hb) (Kd.a8 ho0)) (Kd.a8 ho2)) (fun _ h_=>h_.1));replace bG:=nb bG hb;replace bE:=nb bE hb;replace bH:=nb bH hb;replace cC:=nb cC hb;replace bU:=nb bU hb;replace HB:=Ah (aT (dx HB bJ bM bQ cT ck) hb);(try clear hb ho0 ho1 ho2))|((with_reducible refine bC (N:=27) rfl ?_);(try(refine fS (by rfl) ?_;dsimp only));refine bK 27 28 #[.slice none 0 0,.slice none 0 0,.slice none 0 0,.int .i64 0] ?_;intro qV hg w154 aW hb;replace ba:=nr ba hb;replace bS:=nr bS hb;replace bz:=nr bz hb;replace bT:=nr bT hb;replace bO:=nr bO hb;replace bw:=nr bw hb;replace bP:=nr bP hb;replace bW:=nr bW hb;replace cB:=nr cB hb;replace bX:=nr bX hb;replace cz:=nr cz hb;replace eJ:=nr eJ hb;replace d3:=nr d3 hb;replace cF:=nr cF hb;replace ce:=nr ce hb;replace cG:=nr cG hb;replace dF:=nr dF hb;replace eN:=nr eN hb;replace eo:=nr eo hb;replace eO:=nr eO hb;have CX:=gw hg (dx HB bJ bM bQ cT ck);have jH:=gw hg (dx HB bJ bM bQ cT ck);replace HB:=Ah (aT (dx HB bJ bM bQ cT ck) hb);have lT:=nn bG hg;have qI:=nm bG hg;replace bG:=nb bG hb;have lU:=nn bE hg;have qJ:=nm bE hg;replace bE:=nb bE hb;have lV:=nn bH hg;have qK:=nm bH hg;replace bH:=nb bH hb;have lW:=nn cC hg;have qL:=nm cC hg;replace cC:=nb cC hb;have lX:=nn bU hg;have qM:=nm bU hg;replace bU:=nb bU hb;clear hb hg;obtain⟨zb,zc,KI⟩:=Kd.ao eN.out;subst KI;have hnb156:=qI.out;have hnc156:=lT.out;have hnb157:=qJ.out;have hnc157:=lU.out;have hnb158:=qK.out;have hnc158:=lV.out;have hnb159:=qL.out;have hnc159:=lW.out;have hnb160:=qM.out;have hnc160:=lX.out;obtain⟨V3,V4,V5,V6⟩:=b9 aW;obtain⟨V7,V8,V9,VA⟩:=bA aW;obtain⟨KJ,KK,eo162⟩:=Kd.ao eo.out;subst eo162;obtain⟨Ol,Om,eo163⟩:=Kd.ao eO.out;subst eo163)|((with_reducible refine ar (f:=8) rfl ?_);refine gL (some 156) rfl rfl aaK (by kernel_rfl) rfl #[.agg #[.slice zb fb.length zc,.slice KJ gP.length KK,.slice Ol gZ.length Om,.int .i64 j7]] rfl ?_;(with_reducible refine(gM.calls j3 _ _ fb _ _ gP _ _ gZ j7 tv true _ ?aI ?aJ ?af ?ak ?bN ?bc AY.out).mono ?_);(case aI=>exact rc eN aW);(case aJ=>exact(Kd.aq eN.out).2.1);(case af=>exact rc eo aW);(case ak=>exact(Kd.aq eo.out).2.1);(case bN=>exact rc eO aW);(case bc=>exact(Kd.aq eO.out).2.1);rintro e w164 ⟨D7,rfl,ho0,hb⟩;refine⟨_,rfl, ?_⟩;replace bz:=nf bz aW hb;replace bw:=nf bw aW hb;replace cB:=nf cB aW hb;replace eJ:=nf eJ aW hb;replace ce:=nf ce aW hb;replace eo:=nf eo aW hb;have oV:=Ah (Kd.b8 (Kd.aA (Kd.aA (Kd.aA (Kd.aA (Kd.aA (Kd.aA (Kd.aA (Kd.aA (Kd.aA (Kd.aA (Kd.aA (Kd.aA (Kd.aA (Kd.aA ho0 (Kd.Z (rf ba aW))) (Kd.Z (rf bS aW))) (Kd.Z (rf bT aW))) (Kd.Z (rf bO aW))) (Kd.Z (rf bP aW))) (Kd.Z (rf bW aW))) (Kd.Z (rf bX aW))) (Kd.Z (rf cz aW))) (Kd.Z (rf d3 aW))) (Kd.Z (rf cF aW))) (Kd.Z (rf cG aW))) (Kd.Z (rf dF aW))) (Kd.Z (rf eN aW))) (Kd.Z (rf eO aW))) (bF (lO HB bJ bM bQ cT ck jH)));replace ba:=Ah (Kd.aX (rf ba aW) (Kd.a8 ho0) hb);replace bS:=Ah (Kd.aX (rf bS aW) (Kd.a8 ho0) hb);replace bT:=Ah (Kd.aX (rf bT aW) (Kd.a8 ho0) hb);replace bO:=Ah (Kd.aX (rf bO aW) (Kd.a8 ho0) hb);replace bP:=Ah (Kd.aX (rf bP aW) (Kd.a8 ho0) hb);replace bW:=Ah (Kd.aX (rf bW aW) (Kd.a8 ho0) hb);replace bX:=Ah (Kd.aX (rf bX aW) (Kd.a8 ho0) hb);replace cz:=Ah (Kd.aX (rf cz aW) (Kd.a8 ho0) hb);replace d3:=Ah (Kd.aX (rf d3 aW) (Kd.a8 ho0) hb);replace cF:=Ah (Kd.aX (rf cF aW) (Kd.a8 ho0) hb);replace cG:=Ah (Kd.aX (rf cG aW) (Kd.a8 ho0) hb);replace dF:=Ah (Kd.aX (rf dF aW) (Kd.a8 ho0) hb);replace eN:=Ah (Kd.aX (rf eN aW) (Kd.a8 ho0) hb);replace eO:=Ah (Kd.aX (rf eO aW) (Kd.a8 ho0) hb);replace bG:=Ah (cS (bf bG lT) hb);replace bE:=Ah (cS (bf bE lU) hb);replace bH:=Ah (cS (bf bH lV) hb);replace cC:=Ah (cS (bf cC lW) hb);replace bU:=Ah (cS (bf bU lX) hb);replace aW:=Ah (cS (g:=qV) (o:= .cells #[.slice zb fb.length zc,.slice KJ gP.length KK,.slice Ol gZ.length Om,.int .i64 j7] 28 (0,0)) (by(with_reducible repeat(first|refine aC ?_ _|refine U ?_|refine X ?_ _));refine aU (cs:= #[.slice zb fb.length zc,.slice KJ gP.length KK,.slice Ol gZ.length Om,.int .i64 0]) ?_ 3 _ rfl;(with_reducible repeat(first|refine aC ?_ _|refine U ?_|refine X ?_ _));refine aU (cs:= #[.slice zb fb.length zc,.slice KJ gP.length KK,.slice none 0 0,.int .i64 0]) ?_ 2 _ rfl;(with_reducible repeat(first|refine aC ?_ _|refine U ?_|refine X ?_ _));refine aU (cs:= #[.slice zb fb.length zc,.slice none 0 0,.slice none 0 0,.int .i64 0]) ?_ 1 _ rfl;(with_reducible repeat(first|refine aC ?_ _|refine U ?_|refine X ?_ _));refine aU (cs:= #[.slice none 0 0,.slice none 0 0,.slice none 0 0,.int .i64 0]) ?_ 0 _ rfl;(with_reducible repeat(first|refine aC ?_ _|refine U ?_|refine X ?_ _));exact aW.out) hb);replace HB:=Ah (aT (lO HB bJ bM bQ cT ck jH) hb);(try clear hb ho0);obtain⟨Ao165,co165,eo165⟩:=Kd.ao dF.out;subst eo165;obtain⟨Ao166,co166,eo166⟩:=Kd.ao ba.out;subst eo166)|(go_at_call 11;(with_reducible refine(fY.calls j3 _ _ sy _ _ jZ true _ ?aI ?aJ ?af ?ak LA.out).mono ?_);(case aI=>exact bd dF);(case aJ=>exact(Kd.aq dF.out).2.1);(case af=>exact bd ba);(case ak=>exact(Kd.aq ba.out).2.1);rintro e w' ⟨rfl,⟨nd,rfl⟩⟩;obtain⟨Ao167,co167,eo167⟩:=Kd.ao oV.out;subst eo167)|(go_at_call 11;(with_reducible refine(fY.calls j3 _ _ tv _ _ jZ true _ ?aI ?aJ ?af ?ak D8.out).mono ?_);(case aI=>exact bd oV);(case aJ=>exact(Kd.aq oV.out).2.1);(case af=>exact bd ba);(case ak=>exact(Kd.aq ba.out).2.1);rintro e w' ⟨rfl,⟨nd,rfl⟩⟩;obtain⟨VB,VC,VD,VE⟩:=b9 aW;obtain⟨VF,VG,VH,VI⟩:=bA aW))
               go_ret
               exact⟨er,lO HB bJ bM bQ cT ck jH⟩
              rw[if_pos tw]at H;have OG:((gZ.length:Int)==0)=true:=beq_iff_eq.mpr tw;have OH:((gZ.length:Int) !=0)=false:=bne_eq_false_iff_eq.mpr tw;clear tw;have H':=Ah H;clear H
              go_wp2_with (first|((with_reducible refine ar (f:=8) rfl ?_);refine gL (some 146) rfl rfl aaK (by kernel_rfl) rfl #[.agg #[.slice ct cQ.length cu,.slice dh cf.length di,.slice dW cY.length dX,.int .i64 dR]] rfl ?_;(with_reducible refine(gM.calls j3 _ _ cQ _ _ cf _ _ cY dR sy true _ ?aI ?aJ ?af ?ak ?bN ?bc AW.out).mono ?_);(case aI=>exact bd cF);(case aJ=>exact(Kd.aq cF.out).2.1);(case af=>exact bd ce);(case ak=>exact(Kd.aq ce.out).2.1);(case bN=>exact bd cG);(case bc=>exact(Kd.aq cG.out).2.1);rintro e w128 ⟨D3,rfl,ho0,hb⟩;refine⟨_,rfl, ?_⟩;replace bz:=nr bz hb;replace bw:=nr bw hb;replace cB:=nr cB hb;replace eJ:=nr eJ hb;replace ce:=nr ce hb;have dF:=Ah (Kd.b8 (Kd.aA (Kd.aA (Kd.aA (Kd.aA (Kd.aA (Kd.aA (Kd.aA (Kd.aA (Kd.aA (Kd.aA (Kd.aA ho0 (Kd.Z (rr ba.out))) (Kd.Z (rr bS.out))) (Kd.Z (rr bT.out))) (Kd.Z (rr bO.out))) (Kd.Z (rr bP.out))) (Kd.Z (rr bW.out))) (Kd.Z (rr bX.out))) (Kd.Z (rr cz.out))) (Kd.Z (rr d3.out))) (Kd.Z (rr cF.out))) (Kd.Z (rr cG.out))) (bF (dx HB bJ bM bQ cT ck)));replace ba:=Ah (Kd.aX (rr ba.out) (Kd.a8 ho0) hb);replace bS:=Ah (Kd.aX (rr bS.out) (Kd.a8 ho0) hb);replace bT:=Ah (Kd.aX (rr bT.out) (Kd.a8 ho0) hb);replace bO:=Ah (Kd.aX (rr bO.out) (Kd.a8 ho0) hb);replace bP:=Ah (Kd.aX (rr bP.out) (Kd.a8 ho0) hb);replace bW:=Ah (Kd.aX (rr bW.out) (Kd.a8 ho0) hb);replace bX:=Ah (Kd.aX (rr bX.out) (Kd.a8 ho0) hb);replace cz:=Ah (Kd.aX (rr cz.out) (Kd.a8 ho0) hb);replace d3:=Ah (Kd.aX (rr d3.out) (Kd.a8 ho0) hb);replace cF:=Ah (Kd.aX (rr cF.out) (Kd.a8 ho0) hb);replace cG:=Ah (Kd.aX (rr cG.out) (Kd.a8 ho0) hb);replace bG:=nb bG hb;replace bE:=nb bE hb;replace bH:=nb bH hb;replace cC:=nb cC hb;replace bU:=nb bU hb;replace HB:=Ah (aT (dx HB bJ bM bQ cT ck) hb);(try clear hb ho0);obtain⟨VJ,VK,VL,VM⟩:=b9 bU;obtain⟨VN,VO,VP,VQ⟩:=bA bU)|((with_reducible refine ar (f:=12) rfl ?_);refine gL (some 151) rfl rfl abe (by kernel_rfl) rfl #[.agg #[.slice ct cQ.length cu,.slice dh cf.length di,.slice dW cY.length dX,.int .i64 dR]] rfl ?_;(with_reducible refine(lR.calls j3 _ _ cQ _ _ cf _ _ cY dR fb gP gZ j7 true _ ?aI ?aJ ?af ?ak ?bN ?bc AX.out).mono ?_);(case aI=>exact bd cF);(case aJ=>exact(Kd.aq cF.out).2.1);(case af=>exact bd ce);(case ak=>exact(Kd.aq ce.out).2.1);(case bN=>exact bd cG);(case bc=>exact(Kd.aq cG.out).2.1);rintro e w130 ⟨D4,D5,D6,rfl,ho0,ho1,ho2,hb⟩;refine⟨_,rfl, ?_⟩;have eN:=Ah (Kd.b8 (Kd.aA (Kd.aA (Kd.aA (Kd.aA (Kd.aA (Kd.aA (Kd.aA (Kd.aA (Kd.aA (Kd.aA (Kd.aA (Kd.aA ho0 (Kd.Z (rr ba.out))) (Kd.Z (rr bS.out))) (Kd.Z (rr bT.out))) (Kd.Z (rr bO.out))) (Kd.Z (rr bP.out))) (Kd.Z (rr bW.out))) (Kd.Z (rr bX.out))) (Kd.Z (rr cz.out))) (Kd.Z (rr d3.out))) (Kd.Z (rr cF.out))) (Kd.Z (rr cG.out))) (Kd.Z (rr dF.out))) (bF (dx HB bJ bM bQ cT ck)));have eo:=Ah (Kd.b8 (Kd.aA (Kd.aA (Kd.aA (Kd.aA (Kd.aA ho1 (Kd.Z (rr bz.out))) (Kd.Z (rr bw.out))) (Kd.Z (rr cB.out))) (Kd.Z (rr eJ.out))) (Kd.Z (rr ce.out))) (bF (dx HB bJ bM bQ cT ck)));replace bz:=Ah (Kd.aX (rr bz.out) (Kd.a8 ho1) hb);replace bw:=Ah (Kd.aX (rr bw.out) (Kd.a8 ho1) hb);replace cB:=Ah (Kd.aX (rr cB.out) (Kd.a8 ho1) hb);replace eJ:=Ah (Kd.aX (rr eJ.out) (Kd.a8 ho1) hb);replace ce:=Ah (Kd.aX (rr ce.out) (Kd.a8 ho1) hb);have eO:=Ah (Kd.b8 (Kd.aA (Kd.aA (Kd.aA (Kd.aA (Kd.aA (Kd.aA (Kd.aA (Kd.aA (Kd.aA (Kd.aA (Kd.aA (Kd.aA ho2 (Kd.Z (rr ba.out))) (Kd.Z (rr bS.out))) (Kd.Z (rr bT.out))) (Kd.Z (rr bO.out))) (Kd.Z (rr bP.out))) (Kd.Z (rr bW.out))) (Kd.Z (rr bX.out))) (Kd.Z (rr cz.out))) (Kd.Z (rr d3.out))) (Kd.Z (rr cF.out))) (Kd.Z (rr cG.out))) (Kd.Z (rr dF.out))) (bF (dx HB bJ bM bQ cT ck)));replace ba:=Ah (Kd.aH (Kd.ag (Kd.ag (Kd.bo (rr ba.out) hb) (Kd.a8 ho0)) (Kd.a8 ho2)) (fun _ h_=>h_.1));replace bS:=Ah (Kd.aH (Kd.ag (Kd.ag (Kd.bo (rr bS.out) hb) (Kd.a8 ho0)) (Kd.a8 ho2)) (fun _ h_=>h_.1));replace bT:=Ah (Kd.aH (Kd.ag (Kd.ag (Kd.bo (rr bT.out) hb) (Kd.a8 ho0)) (Kd.a8 ho2)) (fun _ h_=>h_.1));replace bO:=Ah (Kd.aH (Kd.ag (Kd.ag (Kd.bo (rr bO.out) hb) (Kd.a8 ho0)) (Kd.a8 ho2)) (fun _ h_=>h_.1));replace bP:=Ah (Kd.aH (Kd.ag (Kd.ag (Kd.bo (rr bP.out) hb) (Kd.a8 ho0)) (Kd.a8 ho2)) (fun _ h_=>h_.1));replace bW:=Ah (Kd.aH (Kd.ag (Kd.ag (Kd.bo (rr bW.out) hb) (Kd.a8 ho0)) (Kd.a8 ho2)) (fun _ h_=>h_.1));replace bX:=Ah (Kd.aH (Kd.ag (Kd.ag (Kd.bo (rr bX.out) hb) (Kd.a8 ho0)) (Kd.a8 ho2)) (fun _ h_=>h_.1));replace cz:=Ah (Kd.aH (Kd.ag (Kd.ag (Kd.bo (rr cz.out) hb) (Kd.a8 ho0)) (Kd.a8 ho2)) (fun _ h_=>h_.1));replace d3:=Ah (Kd.aH (Kd.ag (Kd.ag (Kd.bo (rr d3.out) hb) (Kd.a8 ho0)) (Kd.a8 ho2)) (fun _ h_=>h_.1));replace cF:=Ah (Kd.aH (Kd.ag (Kd.ag (Kd.bo (rr cF.out) hb) (Kd.a8 ho0)) (Kd.a8 ho2)) (fun _ h_=>h_.1));replace cG:=Ah (Kd.aH (Kd.ag (Kd.ag (Kd.bo (rr cG.out) hb) (Kd.a8 ho0)) (Kd.a8 ho2)) (fun _ h_=>h_.1));replace dF:=Ah (Kd.aH (Kd.ag (Kd.ag (Kd.bo (rr dF.out) hb) (Kd.a8 ho0)) (Kd.a8 ho2)) (fun _ h_=>h_.1));replace bG:=nb bG hb;replace bE:=nb bE hb;replace bH:=nb bH hb;replace cC:=nb cC hb;replace bU:=nb bU hb;replace HB:=Ah (aT (dx HB bJ bM bQ cT ck) hb);(try clear hb ho0 ho1 ho2))|((with_reducible refine bC (N:=27) rfl ?_);(try(refine fS (by rfl) ?_;dsimp only));refine bK 27 28 #[.slice none 0 0,.slice none 0 0,.slice none 0 0,.int .i64 0] ?_;intro qV hg w131 aW hb;replace ba:=nr ba hb;replace bS:=nr bS hb;replace bz:=nr bz hb;replace bT:=nr bT hb;replace bO:=nr bO hb;replace bw:=nr bw hb;replace bP:=nr bP hb;replace bW:=nr bW hb;replace cB:=nr cB hb;replace bX:=nr bX hb;replace cz:=nr cz hb;replace eJ:=nr eJ hb;replace d3:=nr d3 hb;replace cF:=nr cF hb;replace ce:=nr ce hb;replace cG:=nr cG hb;replace dF:=nr dF hb;replace eN:=nr eN hb;replace eo:=nr eo hb;replace eO:=nr eO hb;have CX:=gw hg (dx HB bJ bM bQ cT ck);have jH:=gw hg (dx HB bJ bM bQ cT ck);replace HB:=Ah (aT (dx HB bJ bM bQ cT ck) hb);have lT:=nn bG hg;have qI:=nm bG hg;replace bG:=nb bG hb;have lU:=nn bE hg;have qJ:=nm bE hg;replace bE:=nb bE hb;have lV:=nn bH hg;have qK:=nm bH hg;replace bH:=nb bH hb;have lW:=nn cC hg;have qL:=nm cC hg;replace cC:=nb cC hb;have lX:=nn bU hg;have qM:=nm bU hg;replace bU:=nb bU hb;clear hb hg;obtain⟨F4,F5,eo132⟩:=Kd.ao eN.out;subst eo132;have hnb133:=qI.out;have hnc133:=lT.out;have hnb134:=qJ.out;have hnc134:=lU.out;have hnb135:=qK.out;have hnc135:=lV.out;have hnb136:=qL.out;have hnc136:=lW.out;have hnb137:=qM.out;have hnc137:=lX.out;obtain⟨VR,VS,VT,VU⟩:=b9 aW;obtain⟨VV,VW,VX,VY⟩:=bA aW;obtain⟨KL,KM,eo139⟩:=Kd.ao eo.out;subst eo139;obtain⟨On,Oo,eo140⟩:=Kd.ao eO.out;subst eo140)|((with_reducible refine ar (f:=8) rfl ?_);refine gL (some 156) rfl rfl aaK (by kernel_rfl) rfl #[.agg #[.slice F4 fb.length F5,.slice KL gP.length KM,.slice On gZ.length Oo,.int .i64 j7]] rfl ?_;(with_reducible refine(gM.calls j3 _ _ fb _ _ gP _ _ gZ j7 tv true _ ?aI ?aJ ?af ?ak ?bN ?bc AY.out).mono ?_);(case aI=>exact rc eN aW);(case aJ=>exact(Kd.aq eN.out).2.1);(case af=>exact rc eo aW);(case ak=>exact(Kd.aq eo.out).2.1);(case bN=>exact rc eO aW);(case bc=>exact(Kd.aq eO.out).2.1);rintro e w141 ⟨D7,rfl,ho0,hb⟩;refine⟨_,rfl, ?_⟩;replace bz:=nf bz aW hb;replace bw:=nf bw aW hb;replace cB:=nf cB aW hb;replace eJ:=nf eJ aW hb;replace ce:=nf ce aW hb;replace eo:=nf eo aW hb;have oV:=Ah (Kd.b8 (Kd.aA (Kd.aA (Kd.aA (Kd.aA (Kd.aA (Kd.aA (Kd.aA (Kd.aA (Kd.aA (Kd.aA (Kd.aA (Kd.aA (Kd.aA (Kd.aA ho0 (Kd.Z (rf ba aW))) (Kd.Z (rf bS aW))) (Kd.Z (rf bT aW))) (Kd.Z (rf bO aW))) (Kd.Z (rf bP aW))) (Kd.Z (rf bW aW))) (Kd.Z (rf bX aW))) (Kd.Z (rf cz aW))) (Kd.Z (rf d3 aW))) (Kd.Z (rf cF aW))) (Kd.Z (rf cG aW))) (Kd.Z (rf dF aW))) (Kd.Z (rf eN aW))) (Kd.Z (rf eO aW))) (bF (lO HB bJ bM bQ cT ck jH)));replace ba:=Ah (Kd.aX (rf ba aW) (Kd.a8 ho0) hb);replace bS:=Ah (Kd.aX (rf bS aW) (Kd.a8 ho0) hb);replace bT:=Ah (Kd.aX (rf bT aW) (Kd.a8 ho0) hb);replace bO:=Ah (Kd.aX (rf bO aW) (Kd.a8 ho0) hb);replace bP:=Ah (Kd.aX (rf bP aW) (Kd.a8 ho0) hb);replace bW:=Ah (Kd.aX (rf bW aW) (Kd.a8 ho0) hb);replace bX:=Ah (Kd.aX (rf bX aW) (Kd.a8 ho0) hb);replace cz:=Ah (Kd.aX (rf cz aW) (Kd.a8 ho0) hb);replace d3:=Ah (Kd.aX (rf d3 aW) (Kd.a8 ho0) hb);replace cF:=Ah (Kd.aX (rf cF aW) (Kd.a8 ho0) hb);replace cG:=Ah (Kd.aX (rf cG aW) (Kd.a8 ho0) hb);replace dF:=Ah (Kd.aX (rf dF aW) (Kd.a8 ho0) hb);replace eN:=Ah (Kd.aX (rf eN aW) (Kd.a8 ho0) hb);replace eO:=Ah (Kd.aX (rf eO aW) (Kd.a8 ho0) hb);replace bG:=Ah (cS (bf bG lT) hb);replace bE:=Ah (cS (bf bE lU) hb);replace bH:=Ah (cS (bf bH lV) hb);replace cC:=Ah (cS (bf cC lW) hb);replace bU:=Ah (cS (bf bU lX) hb);replace aW:=Ah (cS (g:=qV) (o:= .cells #[.slice F4 fb.length F5,.slice KL gP.length KM,.slice On gZ.length Oo,.int .i64 j7] 28 (0,0)) (by(with_reducible repeat(first|refine aC ?_ _|refine U ?_|refine X ?_ _));refine aU (cs:= #[.slice F4 fb.length F5,.slice KL gP.length KM,.slice On gZ.length Oo,.int .i64 0]) ?_ 3 _ rfl;(with_reducible repeat(first|refine aC ?_ _|refine U ?_|refine X ?_ _));refine aU (cs:= #[.slice F4 fb.length F5,.slice KL gP.length KM,.slice none 0 0,.int .i64 0]) ?_ 2 _ rfl;(with_reducible repeat(first|refine aC ?_ _|refine U ?_|refine X ?_ _));refine aU (cs:= #[.slice F4 fb.length F5,.slice none 0 0,.slice none 0 0,.int .i64 0]) ?_ 1 _ rfl;(with_reducible repeat(first|refine aC ?_ _|refine U ?_|refine X ?_ _));refine aU (cs:= #[.slice none 0 0,.slice none 0 0,.slice none 0 0,.int .i64 0]) ?_ 0 _ rfl;(with_reducible repeat(first|refine aC ?_ _|refine U ?_|refine X ?_ _));exact aW.out) hb);replace HB:=Ah (aT (lO HB bJ bM bQ cT ck jH) hb);(try clear hb ho0);obtain⟨Ao142,co142,eo142⟩:=Kd.ao dF.out;subst eo142;obtain⟨Ao143,co143,eo143⟩:=Kd.ao ba.out;subst eo143)|(go_at_call 11;(with_reducible refine(fY.calls j3 _ _ sy _ _ jZ true _ ?aI ?aJ ?af ?ak LA.out).mono ?_);(case aI=>exact bd dF);(case aJ=>exact(Kd.aq dF.out).2.1);(case af=>exact bd ba);(case ak=>exact(Kd.aq ba.out).2.1);rintro e w' ⟨rfl,⟨nd,rfl⟩⟩;obtain⟨Ao144,co144,eo144⟩:=Kd.ao oV.out;subst eo144)|(go_at_call 11;(with_reducible refine(fY.calls j3 _ _ tv _ _ jZ true _ ?aI ?aJ ?af ?ak D8.out).mono ?_);(case aI=>exact bd oV);(case aJ=>exact(Kd.aq oV.out).2.1);(case af=>exact bd ba);(case ak=>exact(Kd.aq ba.out).2.1);rintro e w' ⟨rfl,⟨nd,rfl⟩⟩;obtain⟨VZ,Va,Vb,Vc⟩:=b9 aW;obtain⟨Vd,Ve,Vf,Vg⟩:=bA aW))
              go_meet
              case rel=>exact⟨_,H',⟨by have:=o0.out;have:=st.out;have:=mq.out;have:=a0h.out;first|omega|exact lQ _⟩,rm bS (fun _ hk=>⟨hk.1.1.1.1.2.1,⟨hk.1.1.1.1.2.2.1,⟨hk.1.1.1.1.2.2.2.1,⟨hk.1.1.1.1.2.2.2.2.1,hk.1.1.1.1.2.2.2.2.2.1⟩⟩⟩⟩),rm bz (fun _ hk=>⟨hk.1.1,hk.1.2.1⟩),rm bT (fun _ hk=>⟨hk.1.1.1.1.2.1,⟨hk.1.1.1.1.2.2.1,⟨hk.1.1.1.1.2.2.2.1,⟨hk.1.1.1.1.2.2.2.2.1,hk.1.1.1.1.2.2.2.2.2.1⟩⟩⟩⟩),rm bO (fun _ hk=>⟨hk.1.1.1.1.2.1,⟨hk.1.1.1.1.2.2.1,⟨hk.1.1.1.1.2.2.2.1,⟨hk.1.1.1.1.2.2.2.2.1,hk.1.1.1.1.2.2.2.2.2.1⟩⟩⟩⟩),rm bw (fun _ hk=>⟨hk.1.1,hk.1.2.1⟩),rm bP (fun _ hk=>⟨hk.1.1.1.1.2.1,⟨hk.1.1.1.1.2.2.1,⟨hk.1.1.1.1.2.2.2.1,⟨hk.1.1.1.1.2.2.2.2.1,hk.1.1.1.1.2.2.2.2.2.1⟩⟩⟩⟩),rm bW (fun _ hk=>⟨hk.1.1.1.1.2.1,⟨hk.1.1.1.1.2.2.1,⟨hk.1.1.1.1.2.2.2.1,⟨hk.1.1.1.1.2.2.2.2.1,hk.1.1.1.1.2.2.2.2.2.1⟩⟩⟩⟩),rm cB (fun _ hk=>⟨hk.1.1,hk.1.2.1⟩),rm bX (fun _ hk=>⟨hk.1.1.1.1.2.1,⟨hk.1.1.1.1.2.2.1,⟨hk.1.1.1.1.2.2.2.1,⟨hk.1.1.1.1.2.2.2.2.1,hk.1.1.1.1.2.2.2.2.2.1⟩⟩⟩⟩),⟨bk bG⟩,⟨bk bE⟩,⟨bk bH⟩,⟨lO HB bJ bM bQ cT ck jH⟩⟩
    case rest=>
     clear Q8
     try clear c1
     try clear c2
     try clear p2
     try clear c3
     try clear f9
     try clear c4
     try clear c5
     try clear c6
     try clear p6
     try clear c7
     try clear p7
     try clear q7
     try clear hx7
     try clear c8
     try clear c9
     try clear c10
     try clear c11
     try clear c12
     try clear c13
     try clear c14
     try clear c15
     try clear c16
     try clear c17
     try clear c18
     try clear c19
     try clear c20
     try clear c21
     try clear o1
     try clear c23
     try clear c24
     try clear Dk
     try clear Dg
     try clear Dh
     try clear c31
     try clear rb
     try clear xS
     try clear te
     try clear Di
     try clear c34
     try clear tN
     try clear uH
     try clear uI
     try clear uK
     try clear c46
     try clear c49
     try clear uJ
     try clear c53
     try clear uL
     try clear Eu
     try clear yN
     try clear K1
     try clear yO
     try clear K2
     try clear nM
     try clear CT
     try clear c59
     try clear OY
     try clear sA
     try clear OZ
     try clear uN
     try clear K5
     try clear K6
     try clear c63
     try clear c64
     try clear p64
     try clear c65
     try clear c68
     try clear c69
     try clear c70
     try clear c72
     try clear OW
     try clear Bo
     try clear OX
     try clear uM
     try clear K3
     try clear K4
     try clear Lf
     try clear Lg
     try clear a0e
     try clear Lh
     try clear Li
     try clear a0f
     try clear c81
     try clear c82
     try clear c87
     try clear c88
     try clear c89
     try clear uO
     try clear c99
     try clear AV
     try clear a0g
     try clear c105
     try clear AU
     try clear D0
     try clear D1
     try clear D2
     try clear c116
     try clear c117
     try clear c119
     try clear D9
     try clear tw
     try clear OG
     try clear OH
     try clear XS
     try clear c123
     try clear c124
     try clear c125
     try clear c126
     try clear c133
     try clear c134
     try clear c135
     try clear c136
     try clear c137
     try clear c146
     try clear c147
     try clear c148
     try clear c149
     try clear c156
     try clear c157
     try clear c158
     try clear c159
     try clear c160
     try clear c169
     try clear c170
     try clear c171
     try clear c172
     try clear c179
     try clear c180
     try clear c181
     try clear c182
     try clear c183
     try clear c191
     try clear c192
     try clear c193
     try clear c194
     try clear c201
     try clear c202
     try clear c203
     try clear wE
     try clear DA
     try clear c212
     try clear c213
     try clear c214
     try clear c215
     try clear c222
     try clear c223
     try clear c224
     try clear c225
     try clear c226
     try clear c231
     try clear c232
     try clear c233
     try clear c234
     try clear c241
     try clear c242
     try clear c243
     try clear c244
     try clear c245
     try clear c250
     try clear c251
     try clear c252
     try clear c253
     try clear c260
     try clear c261
     try clear c262
     try clear c263
     try clear c264
     try clear Mn Mo Mp Mq
     try clear jC jD l4 l5
     try clear TV TW TX TY
     try clear VJ VK VL VM
     try clear VR VS VT VU
     try clear VZ Va Vb Vc
     try clear hcz150_0 hcz150_1 hcz150_2 hcz150_3
     try clear Uv Uw Ux Uy
     try clear V3 V4 V5 V6
     try clear VB VC VD VE
     try clear hcz173_0 hcz173_1 hcz173_2 hcz173_3
     try clear Uf Ug Uh Ui
     try clear Un Uo Up Uq
     try clear hcz195_0 hcz195_1 hcz195_2 hcz195_3
     try clear UP UQ UR US
     try clear m5 m6 pT pU
     try clear UX UY UZ Ua
     try clear hcz216_0 hcz216_1 hcz216_2 hcz216_3
     try clear U9 UA UB UC
     try clear UH UI UJ UK
     try clear kd ke mU mV
     try clear hcz235_0 hcz235_1 hcz235_2 hcz235_3
     try clear Tt Tu Tv Tw
     try clear U1 U2 U3 U4
     try clear hcz254_0 hcz254_1 hcz254_2 hcz254_3
     try clear Td Te Tf Tg
     try clear Tl Tm Tn To
     try clear rM rN um un
     try clear ur ut uu uv
     try clear tS tT wm wn
     try clear wt wu wv ww
     try clear xA xB yw yx
     try clear J2 J3
     try clear N5 N6
     try clear N9 NA NB NC
     try clear NH NI NJ NK
     try clear NP NQ NR NS
     try clear Mr Ms Mt Mu
     try clear jE jF l6 l7
     try clear TZ Ta Tb Tc
     try clear VN VO VP VQ
     try clear VV VW VX VY
     try clear Vd Ve Vf Vg
     try clear hfz150_0 hfz150_1 hfz150_2 hfz150_3
     try clear Uz V0 V1 V2
     try clear V7 V8 V9 VA
     try clear VF VG VH VI
     try clear hfz173_0 hfz173_1 hfz173_2 hfz173_3
     try clear Uj Uk Ul Um
     try clear Ur Us Ut Uu
     try clear hfz195_0 hfz195_1 hfz195_2 hfz195_3
     try clear UT UU UV UW
     try clear m7 m8 pV pW
     try clear Ub Uc Ud Ue
     try clear hfz216_0 hfz216_1 hfz216_2 hfz216_3
     try clear UD UE UF UG
     try clear UL UM UN UO
     try clear kf kg mW mX
     try clear hfz235_0 hfz235_1 hfz235_2 hfz235_3
     try clear Tx Ty Tz U0
     try clear U5 U6 U7 U8
     try clear hfz254_0 hfz254_1 hfz254_2 hfz254_3
     try clear Th Ti Tj Tk
     try clear Tp Tq Tr Ts
     try clear rO rP uo uq
     try clear uw ux uy uz
     try clear tU tV wo wq
     try clear wx wy wz x2
     try clear xC xD yy yz
     try clear J4 J5
     try clear N7 N8
     try clear ND NE NF NG
     try clear NL NM NN NO
     try clear NT NU NV NW
     try clear Iy
     try clear J0
     try clear J1
     try clear Iz
     try clear p2
     try clear p6
     try clear p64
     try clear p7
     try clear Lf
     try clear AR
     try clear Lh
     try clear tt
     try clear tq
     try clear q7
     try clear Lg
     try clear AS
     try clear Li
     try clear tu
     try clear tr
     obtain⟨kq,HA,a0k,bS,bz,bT,bO,bw,bP,bW,cB,bX,bG,bE,bH,HB⟩:=hcut
     cases kq with
     |zero=>exact absurd HA.out (by simp[cK.j5])
     |succ LB=>
      have H:=HA.out;clear HA;simp only[cK.j5]at H
      as_aux_lemma=>
       replace H:=Hz.mp H;obtain⟨nD,Xx,H⟩:=H
       try dsimp only at H
       have A269:=Ah Xx;clear Xx;replace H:=Hz.mp H;obtain⟨⟨AZ,t0⟩,Xy,H⟩:=H
       try dsimp only at H
       have Aa:=Ah Xy;clear Xy;replace H:=Hz.mp H;obtain⟨⟨a0l,wF⟩,Xz,H⟩:=H
       try dsimp only at H
       have A271:=Ah Xz;clear Xz;have Oq:=Ah H;clear H
       go_upto_region 40 with(first|((with_reducible refine ar (f:=13) rfl ?_);refine gL (some 188) rfl rfl Try.func13 (by kernel_rfl) rfl #[.slice A1 l1.length c1] rfl ?_;(with_reducible refine(qE.calls LB _ _ l1 nD _ ?aI ?aJ A269.out).mono ?_);(case aI=>exact cb HR1 HB);(case aJ=>exact nK.out);rintro e w273 ⟨v835,rfl,ho0,hb⟩;refine⟨_,rfl, ?_⟩;replace bS:=nr bS hb;replace bT:=nr bT hb;replace bO:=nr bO hb;replace bP:=nr bP hb;replace bW:=nr bW hb;replace bX:=nr bX hb;have sZ:=Ah (Kd.b8 (Kd.aA (Kd.aA (Kd.aA ho0 (Kd.Z (rr bz.out))) (Kd.Z (rr bw.out))) (Kd.Z (rr cB.out))) (bF (br HB bJ bM bQ)));replace bz:=Ah (Kd.aX (rr bz.out) (Kd.a8 ho0) hb);replace bw:=Ah (Kd.aX (rr bw.out) (Kd.a8 ho0) hb);replace cB:=Ah (Kd.aX (rr cB.out) (Kd.a8 ho0) hb);replace bG:=nb bG hb;replace bE:=nb bE hb;replace bH:=nb bH hb;replace HB:=Ah (aT (br HB bJ bM bQ) hb);(try clear hb ho0);obtain⟨CY,CZ,eo274⟩:=Kd.ao sZ.out;subst eo274)|((with_reducible refine ar (f:=14) rfl ?_);refine gL (some 191) rfl rfl Try.func14 (by kernel_rfl) rfl #[.slice CY nD.length CZ] rfl ?_;(with_reducible refine(mt.calls LB _ _ nD AZ t0 _ ?aI ?aJ Aa.out).mono ?_);(case aI=>exact bd sZ);(case aJ=>exact(Kd.aq sZ.out).2.1);rintro e w275 ⟨rfl,hb⟩;refine⟨_,rfl, ?_⟩;replace bS:=nr bS hb;replace bz:=nr bz hb;replace bT:=nr bT hb;replace bO:=nr bO hb;replace bw:=nr bw hb;replace bP:=nr bP hb;replace bW:=nr bW hb;replace cB:=nr cB hb;replace bX:=nr bX hb;replace sZ:=nr sZ hb;replace bG:=nb bG hb;replace bE:=nb bE hb;replace bH:=nb bH hb;replace HB:=Ah (aT (br HB bJ bM bQ) hb);(try clear hb))|((with_reducible refine ar (f:=15) rfl ?_);refine gL (some 196) rfl rfl Try.func15 (by kernel_rfl) rfl #[.slice CY nD.length CZ] rfl ?_;(with_reducible refine(mu.calls LB _ _ nD a0l wF _ ?aI ?aJ A271.out).mono ?_);(case aI=>exact bd sZ);(case aJ=>exact(Kd.aq sZ.out).2.1);rintro e w276 ⟨rfl,hb⟩;refine⟨_,rfl, ?_⟩;replace bS:=nr bS hb;replace bz:=nr bz hb;replace bT:=nr bT hb;replace bO:=nr bO hb;replace bw:=nr bw hb;replace bP:=nr bP hb;replace bW:=nr bW hb;replace cB:=nr cB hb;replace bX:=nr bX hb;replace sZ:=nr sZ hb;replace bG:=nb bG hb;replace bE:=nb bE hb;replace bH:=nb bH hb;replace HB:=Ah (aT (br HB bJ bM bQ) hb);(try clear hb)))
       (try simp only[Act.put,Ok,mr,mQ])
       go_cut [206] (fun v206 wc=>∃ (kq:Nat) (Iq:Bool),v206= .bool Iq∧a9 (cK.j6 kq nD AZ t0 Iq=some r)∧a9 (kq≤LB)∧a9 (Kd.R bL 37 wc w.heap.size (fun k_=>some k_≠((.slice d5 fA.length cq):Value).ownBlock∧some k_≠((.slice fP ej.length fQ):Value).ownBlock∧some k_≠((.slice cm eU.length cn):Value).ownBlock) (.slice CY nD.length CZ) nD)∧a9 (Kd.R Kd.string 9 wc w.heap.size (fun k_=>some k_≠((.slice bx da.length bu):Value).ownBlock∧some k_≠((.slice cZ dH.length ca):Value).ownBlock∧some k_≠((.slice eF dQ.length eG):Value).ownBlock∧some k_≠((.slice bq cx.length bp):Value).ownBlock∧some k_≠((.slice d8 dA.length d9):Value).ownBlock) (.slice dB dP.length dC) dP)∧a9 (Kd.R bL 37 wc w.heap.size (fun k_=>some k_≠((.slice CY nD.length CZ):Value).ownBlock∧some k_≠((.slice fP ej.length fQ):Value).ownBlock∧some k_≠((.slice cm eU.length cn):Value).ownBlock) (.slice d5 fA.length cq) fA)∧a9 (Kd.R Kd.string 9 wc w.heap.size (fun k_=>some k_≠((.slice dB dP.length dC):Value).ownBlock∧some k_≠((.slice cZ dH.length ca):Value).ownBlock∧some k_≠((.slice eF dQ.length eG):Value).ownBlock∧some k_≠((.slice bq cx.length bp):Value).ownBlock∧some k_≠((.slice d8 dA.length d9):Value).ownBlock) (.slice bx da.length bu) da)∧a9 (Kd.R Kd.string 9 wc w.heap.size (fun k_=>some k_≠((.slice dB dP.length dC):Value).ownBlock∧some k_≠((.slice bx da.length bu):Value).ownBlock∧some k_≠((.slice eF dQ.length eG):Value).ownBlock∧some k_≠((.slice bq cx.length bp):Value).ownBlock∧some k_≠((.slice d8 dA.length d9):Value).ownBlock) (.slice cZ dH.length ca) dH)∧a9 (Kd.R bL 37 wc w.heap.size (fun k_=>some k_≠((.slice CY nD.length CZ):Value).ownBlock∧some k_≠((.slice d5 fA.length cq):Value).ownBlock∧some k_≠((.slice cm eU.length cn):Value).ownBlock) (.slice fP ej.length fQ) ej)∧a9 (Kd.R Kd.string 9 wc w.heap.size (fun k_=>some k_≠((.slice dB dP.length dC):Value).ownBlock∧some k_≠((.slice bx da.length bu):Value).ownBlock∧some k_≠((.slice cZ dH.length ca):Value).ownBlock∧some k_≠((.slice bq cx.length bp):Value).ownBlock∧some k_≠((.slice d8 dA.length d9):Value).ownBlock) (.slice eF dQ.length eG) dQ)∧a9 (Kd.R Kd.string 9 wc w.heap.size (fun k_=>some k_≠((.slice dB dP.length dC):Value).ownBlock∧some k_≠((.slice bx da.length bu):Value).ownBlock∧some k_≠((.slice cZ dH.length ca):Value).ownBlock∧some k_≠((.slice eF dQ.length eG):Value).ownBlock∧some k_≠((.slice d8 dA.length d9):Value).ownBlock) (.slice bq cx.length bp) cx)∧a9 (Kd.R bL 37 wc w.heap.size (fun k_=>some k_≠((.slice CY nD.length CZ):Value).ownBlock∧some k_≠((.slice d5 fA.length cq):Value).ownBlock∧some k_≠((.slice fP ej.length fQ):Value).ownBlock) (.slice cm eU.length cn) eU)∧a9 (Kd.R Kd.string 9 wc w.heap.size (fun k_=>some k_≠((.slice dB dP.length dC):Value).ownBlock∧some k_≠((.slice bx da.length bu):Value).ownBlock∧some k_≠((.slice cZ dH.length ca):Value).ownBlock∧some k_≠((.slice eF dQ.length eG):Value).ownBlock∧some k_≠((.slice bq cx.length bp):Value).ownBlock) (.slice d8 dA.length d9) dA)∧a9 (wc.heap[xQ]?=some (.cells #[(.slice dB dP.length dC),(.slice d5 fA.length cq),(.slice bx da.length bu),.int .i64 nj] 28 (0,0)))∧a9 (wc.heap[xR]?=some (.cells #[(.slice cZ dH.length ca),(.slice fP ej.length fQ),(.slice eF dQ.length eG),.int .i64 mf] 28 (0,0)))∧a9 (wc.heap[fg]?=some (.cells #[(.slice bq cx.length bp),(.slice cm eU.length cn),(.slice d8 dA.length d9),.int .i64 lp] 28 (0,0)))∧a9 (Below w.heap.size w wc))
       case first=>
        have H:=Oq.out;clear Oq
        by_cases ro:(t0 !=wF)=true
        rotate_left
        ·
         rw[if_neg ro]at H
         have CN:(t0 !=wF)=false:=by simpa using ro
         (try(have XT:decide (t0=wF)=true:=by simpa using ro));(try(have Jf:(t0==wF)=true:=by simpa using ro));clear ro;(first|rw[CN]|(simp only[eK,eT];rw[CN])|(simp only[Jf,aaX,aaW])|skip);have H':=Ah H;clear H
         go_wp2
         go_meet
         case rel=>exact⟨_,((AZ.toList !=a0l.toList)),e3,H',⟨by have:=o0.out;have:=a0k.out;first|omega|exact lQ _⟩,rm sZ (fun _ hk=>⟨hk.1.1.2,⟨hk.1.2,hk.2⟩⟩),⟨rr bS.out⟩,rm bz (fun _ hk=>⟨hk.2,⟨hk.1.1,hk.1.2⟩⟩),⟨rr bT.out⟩,⟨rr bO.out⟩,rm bw (fun _ hk=>⟨hk.2,⟨hk.1.1,hk.1.2⟩⟩),⟨rr bP.out⟩,⟨rr bW.out⟩,rm cB (fun _ hk=>⟨hk.2,⟨hk.1.1,hk.1.2⟩⟩),⟨rr bX.out⟩,⟨bk bG⟩,⟨bk bE⟩,⟨bk bH⟩,⟨br HB bJ bM bQ⟩⟩
        rw[if_pos ro]at H;have CN:(t0 !=wF)=true:=ro;(try(have XT:decide (t0=wF)=false:=by simpa using ro));(try(have Jf:(t0==wF)=false:=by simpa using ro));(try(have c277b3:¬(t0=wF):=by simpa using ro));clear ro;(first|rw[CN]|(simp only[eK,eT];rw[CN])|(simp only[Jf,aaX,aaW])|skip);have H':=Ah H;clear H
        go_wp2
        go_meet
        case rel=>exact⟨_,(true),e3,H',⟨by have:=o0.out;have:=a0k.out;first|omega|exact lQ _⟩,rm sZ (fun _ hk=>⟨hk.1.1.2,⟨hk.1.2,hk.2⟩⟩),⟨rr bS.out⟩,rm bz (fun _ hk=>⟨hk.2,⟨hk.1.1,hk.1.2⟩⟩),⟨rr bT.out⟩,⟨rr bO.out⟩,rm bw (fun _ hk=>⟨hk.2,⟨hk.1.1,hk.1.2⟩⟩),⟨rr bP.out⟩,⟨rr bW.out⟩,rm cB (fun _ hk=>⟨hk.2,⟨hk.1.1,hk.1.2⟩⟩),⟨rr bX.out⟩,⟨bk bG⟩,⟨bk bE⟩,⟨bk bH⟩,⟨br HB bJ bM bQ⟩⟩
       case rest=>
        clear Oq
        try clear c1
        try clear c2
        try clear p2
        try clear c3
        try clear f9
        try clear c4
        try clear c5
        try clear c6
        try clear p6
        try clear c7
        try clear p7
        try clear q7
        try clear hx7
        try clear c8
        try clear c9
        try clear c10
        try clear c11
        try clear c12
        try clear c13
        try clear c14
        try clear c15
        try clear c16
        try clear c17
        try clear c18
        try clear c19
        try clear c20
        try clear c21
        try clear o1
        try clear c23
        try clear c24
        try clear Dk
        try clear Dg
        try clear Dh
        try clear c31
        try clear rb
        try clear xS
        try clear te
        try clear Di
        try clear c34
        try clear tN
        try clear uH
        try clear uI
        try clear uK
        try clear c46
        try clear c49
        try clear uJ
        try clear c53
        try clear uL
        try clear Eu
        try clear yN
        try clear K1
        try clear yO
        try clear K2
        try clear nM
        try clear CT
        try clear c59
        try clear OY
        try clear sA
        try clear OZ
        try clear uN
        try clear K5
        try clear K6
        try clear c63
        try clear c64
        try clear p64
        try clear c65
        try clear c68
        try clear c69
        try clear c70
        try clear c72
        try clear OW
        try clear Bo
        try clear OX
        try clear uM
        try clear K3
        try clear K4
        try clear Lf
        try clear Lg
        try clear a0e
        try clear Lh
        try clear Li
        try clear a0f
        try clear c81
        try clear c82
        try clear c87
        try clear c88
        try clear c89
        try clear uO
        try clear c99
        try clear AV
        try clear a0g
        try clear c105
        try clear AU
        try clear D0
        try clear D1
        try clear D2
        try clear c116
        try clear c117
        try clear c119
        try clear D9
        try clear tw
        try clear OG
        try clear OH
        try clear XS
        try clear c123
        try clear c124
        try clear c125
        try clear c126
        try clear c133
        try clear c134
        try clear c135
        try clear c136
        try clear c137
        try clear c146
        try clear c147
        try clear c148
        try clear c149
        try clear c156
        try clear c157
        try clear c158
        try clear c159
        try clear c160
        try clear c169
        try clear c170
        try clear c171
        try clear c172
        try clear c179
        try clear c180
        try clear c181
        try clear c182
        try clear c183
        try clear c191
        try clear c192
        try clear c193
        try clear c194
        try clear c201
        try clear c202
        try clear c203
        try clear wE
        try clear DA
        try clear c212
        try clear c213
        try clear c214
        try clear c215
        try clear c222
        try clear c223
        try clear c224
        try clear c225
        try clear c226
        try clear c231
        try clear c232
        try clear c233
        try clear c234
        try clear c241
        try clear c242
        try clear c243
        try clear c244
        try clear c245
        try clear c250
        try clear c251
        try clear c252
        try clear c253
        try clear c260
        try clear c261
        try clear c262
        try clear c263
        try clear c264
        try clear ro
        try clear CN
        try clear XT
        try clear Jf
        try clear Mn Mo Mp Mq
        try clear jC jD l4 l5
        try clear TV TW TX TY
        try clear VJ VK VL VM
        try clear VR VS VT VU
        try clear VZ Va Vb Vc
        try clear hcz150_0 hcz150_1 hcz150_2 hcz150_3
        try clear Uv Uw Ux Uy
        try clear V3 V4 V5 V6
        try clear VB VC VD VE
        try clear hcz173_0 hcz173_1 hcz173_2 hcz173_3
        try clear Uf Ug Uh Ui
        try clear Un Uo Up Uq
        try clear hcz195_0 hcz195_1 hcz195_2 hcz195_3
        try clear UP UQ UR US
        try clear m5 m6 pT pU
        try clear UX UY UZ Ua
        try clear hcz216_0 hcz216_1 hcz216_2 hcz216_3
        try clear U9 UA UB UC
        try clear UH UI UJ UK
        try clear kd ke mU mV
        try clear hcz235_0 hcz235_1 hcz235_2 hcz235_3
        try clear Tt Tu Tv Tw
        try clear U1 U2 U3 U4
        try clear hcz254_0 hcz254_1 hcz254_2 hcz254_3
        try clear Td Te Tf Tg
        try clear Tl Tm Tn To
        try clear rM rN um un
        try clear ur ut uu uv
        try clear tS tT wm wn
        try clear wt wu wv ww
        try clear xA xB yw yx
        try clear J2 J3
        try clear N5 N6
        try clear N9 NA NB NC
        try clear NH NI NJ NK
        try clear NP NQ NR NS
        try clear Mr Ms Mt Mu
        try clear jE jF l6 l7
        try clear TZ Ta Tb Tc
        try clear VN VO VP VQ
        try clear VV VW VX VY
        try clear Vd Ve Vf Vg
        try clear hfz150_0 hfz150_1 hfz150_2 hfz150_3
        try clear Uz V0 V1 V2
        try clear V7 V8 V9 VA
        try clear VF VG VH VI
        try clear hfz173_0 hfz173_1 hfz173_2 hfz173_3
        try clear Uj Uk Ul Um
        try clear Ur Us Ut Uu
        try clear hfz195_0 hfz195_1 hfz195_2 hfz195_3
        try clear UT UU UV UW
        try clear m7 m8 pV pW
        try clear Ub Uc Ud Ue
        try clear hfz216_0 hfz216_1 hfz216_2 hfz216_3
        try clear UD UE UF UG
        try clear UL UM UN UO
        try clear kf kg mW mX
        try clear hfz235_0 hfz235_1 hfz235_2 hfz235_3
        try clear Tx Ty Tz U0
        try clear U5 U6 U7 U8
        try clear hfz254_0 hfz254_1 hfz254_2 hfz254_3
        try clear Th Ti Tj Tk
        try clear Tp Tq Tr Ts
        try clear rO rP uo uq
        try clear uw ux uy uz
        try clear tU tV wo wq
        try clear wx wy wz x2
        try clear xC xD yy yz
        try clear J4 J5
        try clear N7 N8
        try clear ND NE NF NG
        try clear NL NM NN NO
        try clear NT NU NV NW
        try clear Iy
        try clear J0
        try clear J1
        try clear Iz
        try clear p2
        try clear p6
        try clear p64
        try clear p7
        try clear Lf
        try clear AR
        try clear Lh
        try clear tt
        try clear tq
        try clear q7
        try clear Lg
        try clear AS
        try clear Li
        try clear tu
        try clear tr
        obtain⟨kq,Iq,rfl,HA,HJ271,xV,bS,bz,bT,bO,bw,bP,bW,cB,bX,bG,bE,bH,HB⟩:=hcut
        cases kq with
        |zero=>exact absurd HA.out (by simp[cK.j6])
        |succ Ot=>
         have H:=HA.out;clear HA;simp only[cK.j6]at H
         as_aux_lemma=>
          by_cases LC:Iq=true
          ·
           subst LC;rw[if_pos rfl]at H;obtain rfl:=ec H
           go_wp2
           go_ret
           exact⟨er,br HB bJ bM bQ⟩
          replace LC:=i1.mpr LC;subst LC;rw[if_neg dO]at H
          by_cases LD:t0=true
          rotate_left
          ·
           replace LD:=i1.mpr LD;subst LD;rw[if_neg dO]at H;obtain rfl:=ec H
           go_wp2
           go_ret
           exact⟨er,br HB bJ bM bQ⟩
          subst LD;rw[if_pos rfl]at H;replace H:=Hz.mp H;obtain⟨⟨QI,t842⟩,Y0,H⟩:=H
          try dsimp only at H
          have xq:=Ah Y0;clear Y0
          by_cases LE:t842=true
          rotate_left
          ·
           replace LE:=i1.mpr LE;subst LE;rw[if_neg dO]at H;obtain rfl:=ec H
           go_wp2_with (first|((with_reducible refine ar (f:=16) rfl ?_);refine gL (some 213) rfl rfl Try.func16 (by kernel_rfl) rfl #[.string AZ] rfl ?_;(with_reducible refine(ex.calls Ot AZ QI false _ xq.out).mono ?_);rintro e w285 ⟨v843,rfl,ho0,hb⟩;refine⟨_,rfl, ?_⟩;replace bS:=nr bS hb;replace bT:=nr bT hb;replace bO:=nr bO hb;replace bP:=nr bP hb;replace bW:=nr bW hb;replace bX:=nr bX hb;have KN:=Ah (Kd.b8 (Kd.aA (Kd.aA (Kd.aA (Kd.aA ho0 (Kd.Z (rr xV.out))) (Kd.Z (rr bz.out))) (Kd.Z (rr bw.out))) (Kd.Z (rr cB.out))) (bF (br HB bJ bM bQ)));replace xV:=Ah (Kd.aX (rr xV.out) (Kd.a8 ho0) hb);replace bz:=Ah (Kd.aX (rr bz.out) (Kd.a8 ho0) hb);replace bw:=Ah (Kd.aX (rr bw.out) (Kd.a8 ho0) hb);replace cB:=Ah (Kd.aX (rr cB.out) (Kd.a8 ho0) hb);replace bG:=nb bG hb;replace bE:=nb bE hb;replace bH:=nb bH hb;replace HB:=Ah (aT (br HB bJ bM bQ) hb);(try clear hb ho0)))
           go_ret
           exact⟨er,br HB bJ bM bQ⟩
          subst LE;rw[if_pos rfl]at H;replace H:=Hz.mp H;obtain⟨Q5,Y1,H⟩:=H
          try dsimp only at H
          have A282:=Ah Y1;clear Y1;obtain rfl:=ec H
          go_wp2_with (first|((with_reducible refine ar (f:=16) rfl ?_);refine gL (some 213) rfl rfl Try.func16 (by kernel_rfl) rfl #[.string AZ] rfl ?_;(with_reducible refine(ex.calls Ot AZ QI true _ xq.out).mono ?_);rintro e w283 ⟨v843,rfl,ho0,hb⟩;refine⟨_,rfl, ?_⟩;replace bS:=nr bS hb;replace bT:=nr bT hb;replace bO:=nr bO hb;replace bP:=nr bP hb;replace bW:=nr bW hb;replace bX:=nr bX hb;have KN:=Ah (Kd.b8 (Kd.aA (Kd.aA (Kd.aA (Kd.aA ho0 (Kd.Z (rr xV.out))) (Kd.Z (rr bz.out))) (Kd.Z (rr bw.out))) (Kd.Z (rr cB.out))) (bF (br HB bJ bM bQ)));replace xV:=Ah (Kd.aX (rr xV.out) (Kd.a8 ho0) hb);replace bz:=Ah (Kd.aX (rr bz.out) (Kd.a8 ho0) hb);replace bw:=Ah (Kd.aX (rr bw.out) (Kd.a8 ho0) hb);replace cB:=Ah (Kd.aX (rr cB.out) (Kd.a8 ho0) hb);replace bG:=nb bG hb;replace bE:=nb bE hb;replace bH:=nb bH hb;replace HB:=Ah (aT (br HB bJ bM bQ) hb);(try clear hb ho0);obtain⟨Ao284,co284,eo284⟩:=Kd.ao KN.out;subst eo284)|(go_at_call 17;(with_reducible refine(i9.calls Ot _ _ QI _ _ nD Q5 _ ?aI ?aJ ?af ?ak A282.out).mono ?_);(case aI=>exact bd KN);(case aJ=>exact(Kd.aq KN.out).2.1);(case af=>exact bd xV);(case ak=>exact(Kd.aq xV.out).2.1);rintro e w' ⟨rfl,⟨nd,rfl⟩⟩))
          go_ret
          exact⟨er,br HB bJ bM bQ⟩
def cK.Pure:Prop:=∀ (l0:List Int) (l1:List Int),(l0.length≤maxLen∧∀y0∈l0,(Lit.int .u8 y0).wf=true)→(l1.length≤maxLen∧∀y0∈l1,(Lit.int .u8 y0).wf=true)→∃k,cK.f k l0 l1=some true
end Go.Proofs.Ytmbjmacpigojjaa.G
