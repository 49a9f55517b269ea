-- Printed by a program of this session (drive.py, by way of the kit's print). Not trusted: Lean checks it.
import Derived.Test.YtjojdplkgekagaaG0
import Derived.Test.YtjojdplkgekagaaG4
import Derived.Test.YtjojdplkgekagaaG5
import Derived.Test.YtjojdplkgekagaaG6
import Derived.Test.YtjojdplkgekagaaG7
import Derived.Test.YtjojdplkgekagaaG8
open Bool renaming eq_false_iff→dn,not_false→aaz,not_true→aaC
open Go.Proofs.Try renaming func12→aaV
open Go.RowKit renaming wrap64→LS
open List renaming setIfInBounds_toArray→Ok,set_cons_zero→bY,set_cons_succ→dl
open Nat renaming le_refl→bx,le_of_eq→aaj
open Option renaming bind_eq_some_iff→LT
open Option.some renaming inj→iz
namespace Go.Proofs.Ytjojdplkgekagaa.G
open Go.RowKit Go.Proofs.YtjojdplkgekagaaW.PrintWords Go.Proofs.YtjojdplkgekagaaW.PrintLast Go.Proofs.YtjojdplkgekagaaW.PrintMore
attribute [local go_sem] um un uu uv ud ue uo uq
set_option linter.unusedVariables false
set_option linter.unusedSimpArgs false
mutual
def b8.j0:Nat→List Int→Int→Int→List (aT)→Bool→Bool→List (a7)→List (a7)→Option (Bool)
 |0,_,_,_,_,_,_,_,_=>none
 |k+1,x1,x6,x7,x9,cG,x101,x667000,lQ=>if x101=true then(some false)else(if cG=true then((gb.f k x667000).bind fun a0D=>((gb.f k lQ).bind fun a0E=>((qE.f k lQ).bind fun a0F=>(b8.l0 k x1 x6 x7 a0D.1 a0D.2.2 a0E.1 a0E.2.2 a0F.1 a0F.2 0 x9 (x9.length:Int) 0 lQ))))else(b8.j5 k x1))
def b8.j5:Nat→List Int→Option (Bool)
 |0,_=>none
 |k+1,x1=>(dp.f k x1).bind fun sI=>((gz.f k sI.1 sI.2.1 sI.2.2).bind fun Es=>((eY.f k sI.1 sI.2.1 sI.2.2).bind fun a0G=>(if(Es.2 !=a0G.2)=true then(b8.j6 k x1 sI.2.1 sI.2.2 Es.2 true sI.1 Es.1)else((hD.f k Es.1 a0G.1).bind fun OG=>(b8.j6 k x1 sI.2.1 sI.2.2 Es.2 (!OG) sI.1 Es.1)))))
def b8.j6:Nat→List Int→Int→Int→Bool→Bool→List (a7)→List (a7)→Option (Bool)
 |0,_,_,_,_,_,_,_=>none
 |k+1,x1,x32,xo,x35,x227,EK,EL=>if x227=true then(some false)else(if x35=true then(b8.l3 k x1 x32 xo 0 EK EL)else(b8.j8 k x1))
def b8.j8:Nat→List Int→Option (Bool)
 |0,_=>none
 |k+1,x1=>(qD.f k x1).bind fun z6=>((i5.f k z6.1 z6.2).bind fun Et=>((eh.f k z6.1 z6.2).bind fun a0H=>(if(Et.2 !=a0H.2)=true then(b8.j9 k z6.2 Et.1 Et.2 true z6.1)else((i4.f k Et.1 a0H.1).bind fun OH=>(b8.j9 k z6.2 Et.1 Et.2 (!OH) z6.1)))))
def b8.j9:Nat→Int→List (aT)→Bool→Bool→List (a7)→Option (Bool)
 |0,_,_,_,_,_=>none
 |k+1,LD,Wg,x48,x302,x731000=>if x302=true then(some false)else(if x48=true then((ie.f k x731000 LD).bind fun a0I=>((gb.f k a0I.1).bind fun a0J=>(b8.l4 k LD a0I.2.2 a0J.1 a0J.2.2 Wg (Wg.length:Int) 0)))else(some ((Wg.length:Int)==0)))
def b8.l4:Nat→Int→Bool→Int→Bool→List (aT)→Int→Int→Option (Bool)
 |0,_,_,_,_,_,_,_=>none
 |k+1,LD,xp,x54,vl,UJ,a3B,Jf=>if Jf<a3B then(if 0≤Jf then(if Jf<(UJ.length:Int)then(b8.l4 k LD xp (LS (x54+((aE UJ Jf).f1))) vl UJ a3B (LS (Jf+1)))else(none))else(none))else(if xp=true then(if vl=true then(some (x54==LD))else(some false))else(some false))
def b8.l3:Nat→List Int→Int→Int→Int→List (a7)→List (a7)→Option (Bool)
 |0,_,_,_,_,_,_=>none
 |k+1,x1,x32,xo,x38,EK,EL=>if x38<60 then((ej.f k EK x38).bind fun C8=>((ej.f k EL x38).bind fun C9=>(if C8.2.2=true then(if C9.2.2=true then(if C8.1=C9.1 then(if x38≥x32 then(if x38<(LS (x32+xo))then(if C9.2.1=true then(some false)else(if C8.1=(-1)then(some false)else(b8.l3 k x1 x32 xo (LS (x38+1)) EK EL)))else(b8.l3 k x1 x32 xo (LS (x38+1)) EK EL))else(b8.l3 k x1 x32 xo (LS (x38+1)) EK EL))else(some false))else(some false))else(some false))))else(b8.j8 k x1)
def b8.l0:Nat→List Int→Int→Int→Int→Bool→Int→Bool→List (aT)→Bool→Int→List (aT)→Int→Int→List (a7)→Option (Bool)
 |0,_,_,_,_,_,_,_,_,_,_,_,_,_,_=>none
 |k+1,x1,x6,x7,gU,gh,rX,lF,x20,fi,eN,xK,FT,tr,lQ=>if tr<FT then(if 0≤tr then(if tr<(xK.length:Int)then(b8.l1 k x1 x6 x7 gU gh rX lF x20 fi (LS (eN+((aE xK tr).f1))) xK FT tr x20 (x20.length:Int) 0 lQ ((aE xK tr).f0) ((aE xK tr).f1))else(none))else(none))else(if gh=true then(if lF=true then(if fi=true then(if gU=(LS (rX+eN))then((bh.f k lQ).bind fun OI=>(b8.j3 k x1 x6 x7 (!OI) lQ))else(b8.j3 k x1 x6 x7 true lQ))else(b8.j3 k x1 x6 x7 true lQ))else(b8.j3 k x1 x6 x7 true lQ))else(b8.j3 k x1 x6 x7 true lQ))
def b8.l1:Nat→List Int→Int→Int→Int→Bool→Int→Bool→List (aT)→Bool→Int→List (aT)→Int→Int→List (aT)→Int→Int→List (a7)→Int→Int→Option (Bool)
 |0,_,_,_,_,_,_,_,_,_,_,_,_,_,_,_,_,_,_,_=>none
 |k+1,x1,x6,x7,gU,gh,rX,lF,x20,fi,eN,xK,FT,tr,FU,UK,zb,lQ,MD,Qs=>if zb<UK then(if 0≤zb then(if zb<(FU.length:Int)then(if MD<(LS (((aE FU zb).f0)+((aE FU zb).f1)))then(if((aE FU zb).f0)<(LS (MD+Qs))then(some false)else(b8.l1 k x1 x6 x7 gU gh rX lF x20 fi eN xK FT tr FU UK (LS (zb+1)) lQ MD Qs))else(b8.l1 k x1 x6 x7 gU gh rX lF x20 fi eN xK FT tr FU UK (LS (zb+1)) lQ MD Qs))else(none))else(none))else(b8.l0 k x1 x6 x7 gU gh rX lF x20 fi eN xK FT (LS (tr+1)) lQ)
def b8.j3:Nat→List Int→Int→Int→Bool→List (a7)→Option (Bool)
 |0,_,_,_,_,_=>none
 |k+1,x1,x6,x7,x177,lQ=>if x177=true then(some false)else(b8.l2 k x1 x6 x7 x6 lQ)
def b8.l2:Nat→List Int→Int→Int→Int→List (a7)→Option (Bool)
 |0,_,_,_,_,_=>none
 |k+1,x1,x6,x7,x27,lQ=>if x27<(LS (x6+x7))then((ej.f k lQ x27).bind fun a0K=>(if a0K.2.2=true then(if a0K.1=(-1)then(b8.l2 k x1 x6 x7 (LS (x27+1)) lQ)else(some false))else(some false)))else(b8.j5 k x1)
end
def b8.f(k:Nat)(l0:List Int)(l1:List Int):Option (Bool):=if(LS ((l0.length:Int)+(l1.length:Int)))>1048576 then(some true)else((ov.f k l0).bind fun iT=>((ox.f k iT.1 iT.2.1 iT.2.2).bind fun je=>((gM.f k iT.1 iT.2.1 iT.2.2).bind fun CA=>(if(je.2.2 !=CA.2.2)=true then(b8.j0 k l1 iT.2.1 iT.2.2 je.2.1 je.2.2 true iT.1 je.1)else((hD.f k je.1 CA.1).bind fun Jg=>(if Jg=true then((i4.f k je.2.1 CA.2.1).bind fun FV=>(b8.j0 k l1 iT.2.1 iT.2.2 je.2.1 je.2.2 (!FV) iT.1 je.1))else(b8.j0 k l1 iT.2.1 iT.2.2 je.2.1 je.2.2 true iT.1 je.1)))))))
theorem b8.dL:∀k,(∀y0 y1 y2 y3 y4 y5 y6 y7,aG (b8.j0 k y0 y1 y2 y3 y4 y5 y6 y7) (b8.j0 (k+1) y0 y1 y2 y3 y4 y5 y6 y7))∧(∀y0,aG (b8.j5 k y0) (b8.j5 (k+1) y0))∧(∀y0 y1 y2 y3 y4 y5 y6,aG (b8.j6 k y0 y1 y2 y3 y4 y5 y6) (b8.j6 (k+1) y0 y1 y2 y3 y4 y5 y6))∧(∀y0,aG (b8.j8 k y0) (b8.j8 (k+1) y0))∧(∀y0 y1 y2 y3 y4,aG (b8.j9 k y0 y1 y2 y3 y4) (b8.j9 (k+1) y0 y1 y2 y3 y4))∧(∀y0 y1 y2 y3 y4 y5 y6,aG (b8.l4 k y0 y1 y2 y3 y4 y5 y6) (b8.l4 (k+1) y0 y1 y2 y3 y4 y5 y6))∧(∀y0 y1 y2 y3 y4 y5,aG (b8.l3 k y0 y1 y2 y3 y4 y5) (b8.l3 (k+1) y0 y1 y2 y3 y4 y5))∧(∀y0 y1 y2 y3 y4 y5 y6 y7 y8 y9 lp uV uW y13,aG (b8.l0 k y0 y1 y2 y3 y4 y5 y6 y7 y8 y9 lp uV uW y13) (b8.l0 (k+1) y0 y1 y2 y3 y4 y5 y6 y7 y8 y9 lp uV uW y13))∧(∀y0 y1 y2 y3 y4 y5 y6 y7 y8 y9 lp uV uW y13 LE y15 y16 y17 y18,aG (b8.l1 k y0 y1 y2 y3 y4 y5 y6 y7 y8 y9 lp uV uW y13 LE y15 y16 y17 y18) (b8.l1 (k+1) y0 y1 y2 y3 y4 y5 y6 y7 y8 y9 lp uV uW y13 LE y15 y16 y17 y18))∧(∀y0 y1 y2 y3 y4,aG (b8.j3 k y0 y1 y2 y3 y4) (b8.j3 (k+1) y0 y1 y2 y3 y4))∧(∀y0 y1 y2 y3 y4,aG (b8.l2 k y0 y1 y2 y3 y4) (b8.l2 (k+1) y0 y1 y2 y3 y4))
 |0=>⟨fun _ _ _ _ _ _ _ _ r h=>by simp[b8.j0]at h,fun _ r h=>by simp[b8.j5]at h,fun _ _ _ _ _ _ _ r h=>by simp[b8.j6]at h,fun _ r h=>by simp[b8.j8]at h,fun _ _ _ _ _ r h=>by simp[b8.j9]at h,fun _ _ _ _ _ _ _ r h=>by simp[b8.l4]at h,fun _ _ _ _ _ _ r h=>by simp[b8.l3]at h,fun _ _ _ _ _ _ _ _ _ _ _ _ _ _ r h=>by simp[b8.l0]at h,fun _ _ _ _ _ _ _ _ _ _ _ _ _ _ _ _ _ _ _ r h=>by simp[b8.l1]at h,fun _ _ _ _ _ r h=>by simp[b8.j3]at h,fun _ _ _ _ _ r h=>by simp[b8.l2]at h⟩
 |k+1=>by
  obtain⟨bw,ih1,ih2,ih3,PI,PJ,PK,PL,PM,PN,OJ⟩:=b8.dL k
  refine⟨?_, ?_, ?_, ?_, ?_, ?_, ?_, ?_, ?_, ?_, ?_⟩<;>intros<;>first|unfold b8.j0|unfold b8.j5|unfold b8.j6|unfold b8.j8|unfold b8.j9|unfold b8.l4|unfold b8.l3|unfold b8.l0|unfold b8.l1|unfold b8.j3|unfold b8.l2
  all_goals repeat' first
   |(with_reducible exact bw _ _ _ _ _ _ _ _)
   |(with_reducible exact ih1 _)
   |(with_reducible exact ih2 _ _ _ _ _ _ _)
   |(with_reducible exact ih3 _)
   |(with_reducible exact PI _ _ _ _ _)
   |(with_reducible exact PJ _ _ _ _ _ _ _)
   |(with_reducible exact PK _ _ _ _ _ _)
   |(with_reducible exact PL _ _ _ _ _ _ _ _ _ _ _ _ _ _)
   |(with_reducible exact PM _ _ _ _ _ _ _ _ _ _ _ _ _ _ _ _ _ _ _)
   |(with_reducible exact PN _ _ _ _ _)
   |(with_reducible exact OJ _ _ _ _ _)
   |(with_reducible exact ej.mono _ _ _)
   |(with_reducible exact qE.mono _ _)
   |(with_reducible exact bh.mono _ _)
   |(with_reducible exact i5.mono _ _ _)
   |(with_reducible exact gb.mono _ _)
   |(with_reducible exact ox.mono _ _ _ _)
   |(with_reducible exact ie.mono _ _ _)
   |(with_reducible exact gz.mono _ _ _ _)
   |(with_reducible exact i4.mono _ _ _)
   |(with_reducible exact hD.mono _ _ _)
   |(with_reducible exact qD.mono _ _)
   |(with_reducible exact ov.mono _ _)
   |(with_reducible exact dp.mono _ _)
   |(with_reducible exact eh.mono _ _ _)
   |(with_reducible exact gM.mono _ _ _ _)
   |(with_reducible exact eY.mono _ _ _ _)
   |(with_reducible exact aG.refl _)
   |(with_reducible exact aG.none _)
   |(with_reducible refine aG.ite ?_ ?_)
   |(with_reducible refine aG.bind ?_ (fun _=> ?_))
   |exact bw _ _ _ _ _ _ _ _
   |exact ih1 _
   |exact ih2 _ _ _ _ _ _ _
   |exact ih3 _
   |exact PI _ _ _ _ _
   |exact PJ _ _ _ _ _ _ _
   |exact PK _ _ _ _ _ _
   |exact PL _ _ _ _ _ _ _ _ _ _ _ _ _ _
   |exact PM _ _ _ _ _ _ _ _ _ _ _ _ _ _ _ _ _ _ _
   |exact PN _ _ _ _ _
   |exact OJ _ _ _ _ _
   |exact ej.mono _ _ _
   |exact qE.mono _ _
   |exact bh.mono _ _
   |exact i5.mono _ _ _
   |exact gb.mono _ _
   |exact ox.mono _ _ _ _
   |exact ie.mono _ _ _
   |exact gz.mono _ _ _ _
   |exact i4.mono _ _ _
   |exact hD.mono _ _ _
   |exact qD.mono _ _
   |exact ov.mono _ _
   |exact dp.mono _ _
   |exact eh.mono _ _ _
   |exact gM.mono _ _ _ _
   |exact eY.mono _ _ _ _
   |exact aG.none _
   |refine aG.ite ?_ ?_
   |refine aG.bind ?_ (fun _=> ?_)
theorem b8.mono:∀a0 a1 k,aG (b8.f k a0 a1) (b8.f (k+1) a0 a1):=by
 intro a0 a1 k;obtain⟨bw,ih1,ih2,ih3,PI,PJ,PK,PL,PM,PN,OJ⟩:=b8.dL k;unfold b8.f
 repeat' with_reducible first|exact bw _ _ _ _ _ _ _ _|exact ih1 _|exact ih2 _ _ _ _ _ _ _|exact ih3 _|exact PI _ _ _ _ _|exact PJ _ _ _ _ _ _ _|exact PK _ _ _ _ _ _|exact PL _ _ _ _ _ _ _ _ _ _ _ _ _ _|exact PM _ _ _ _ _ _ _ _ _ _ _ _ _ _ _ _ _ _ _|exact PN _ _ _ _ _|exact OJ _ _ _ _ _|exact ej.mono _ _ _|exact qE.mono _ _|exact bh.mono _ _|exact i5.mono _ _ _|exact gb.mono _ _|exact ox.mono _ _ _ _|exact ie.mono _ _ _|exact gz.mono _ _ _ _|exact i4.mono _ _ _|exact hD.mono _ _ _|exact qD.mono _ _|exact ov.mono _ _|exact dp.mono _ _|exact eh.mono _ _ _|exact gM.mono _ _ _ _|exact eY.mono _ _ _ _|exact aG.refl _|exact aG.none _|refine aG.ite ?_ ?_|refine aG.bind ?_ (fun _=> ?_)
set_option maxHeartbeats 8000000 in
set_option maxRecDepth 100000 in
theorem b8.calls(k:Nat)(A0:Option Addr)(c0:Nat)(l0:List Int)(A1:Option Addr)(c1:Nat)(l1:List Int)(r:Bool)(w:World)(hr0:Kd.C (Kd.int .u8) w A0 l0.length l0)(hc0:l0.length≤c0)(hr1:Kd.C (Kd.int .u8) w A1 l1.length l1)(hc1:l1.length≤c1)(h:b8.f k l0 l1=some r):
 Calls Try.prog 3 #[.slice A0 l0.length c0,.slice A1 l1.length c1] w fun e w'=>e= .returned (.bool r)∧Below w.heap.size w w':=by
 have kJ:=Try.underlying25;have Jh:=Try.underlying38;have gV:=Ah hr0;have lG:=Ah hc0;clear hr0 hc0;have HR1:=Ah hr1;have PO:=Ah hc1;clear hr1 hc1;have HB:=Ah (Below.refl w.heap.size w);have H:(if(LS ((l0.length:Int)+(l1.length:Int)))>1048576 then(some true)else((ov.f k l0).bind fun iT=>((ox.f k iT.1 iT.2.1 iT.2.2).bind fun je=>((gM.f k iT.1 iT.2.1 iT.2.2).bind fun CA=>(if(je.2.2 !=CA.2.2)=true then(b8.j0 k l1 iT.2.1 iT.2.2 je.2.1 je.2.2 true iT.1 je.1)else((hD.f k je.1 CA.1).bind fun Jg=>(if Jg=true then((i4.f k je.2.1 CA.2.1).bind fun FV=>(b8.j0 k l1 iT.2.1 iT.2.2 je.2.1 je.2.2 (!FV) iT.1 je.1))else(b8.j0 k l1 iT.2.1 iT.2.2 je.2.1 je.2.2 true iT.1 je.1))))))))=some r:=h;clear h
 by_cases c3:(LS ((l0.length:Int)+(l1.length:Int)))>1048576
 ·
  rw[if_pos c3]at H;have iN:decide (1048576<(LS ((l0.length:Int)+(l1.length:Int))))=true:=decide_eq_true c3;clear c3;obtain rfl:=iz H
  go_enter Try.func3,Try.ntmps3
  go_wp2
  go_ret
  exact⟨er,bs HB⟩
 rw[if_neg c3]at H;have iN:decide (1048576<(LS ((l0.length:Int)+(l1.length:Int))))=false:=decide_eq_false c3;clear c3;replace H:=LT.mp H;obtain⟨⟨cx,pk,rE⟩,iv,H⟩:=H
 try dsimp only at H
 have A4:=Ah iv;clear iv;replace H:=LT.mp H;obtain⟨⟨ca,fJ,tt⟩,kX,H⟩:=H
 try dsimp only at H
 have A5:=Ah kX;clear kX;replace H:=LT.mp H;obtain⟨⟨cy,a3C,xL⟩,iw,H⟩:=H
 try dsimp only at H
 have A6:=Ah iw;clear iw;have Di:=Ah H;clear H
 go_enter Try.func3,Try.ntmps3
 go_upto_region 6 with(first|((with_reducible refine bJ (f:=4) rfl ?_);refine gL (some 67) rfl rfl Try.func4 (by kernel_rfl) rfl #[.slice A0 l0.length c0] rfl ?_;(with_reducible refine(ov.calls k _ _ l0 cx pk rE _ ?a8 ?a9 A4.out).mono ?_);(case a8=>repeat(first|exact gV.out|(with_reducible refine Kd.jn ?_ _)|(with_reducible refine Kd.jo ?_ _)|(with_reducible refine Kd.js ?_)));(case a9=>exact lG.out);rintro e w8 ⟨v662,rfl,ho0,hb⟩;refine⟨_,rfl, ?_⟩;have jt:=Ah (Kd.dD ho0 (be (bs HB)));replace HB:=Ah (aK (bs HB) hb);(try clear hb ho0))|((with_reducible refine ax (N:=5) rfl ?_);refine bA 5 25 #[.slice none 0 0] ?_;intro sJ hg w9 b0 hb;replace jt:=nr jt hb;have GW666:=gw hg (bs HB);have bR:=gw hg (bs HB);replace HB:=Ah (aK (bs HB) hb);clear hb hg;obtain⟨di,dj,eo10⟩:=Kd.bq jt.out;subst eo10;have lx:=ap b0;have ly:=an b0)|((with_reducible refine bJ (f:=5) rfl ?_);refine gL (some 75) rfl rfl Try.func5 (by kernel_rfl) rfl #[.agg #[.slice di cx.length dj],.int .i64 pk,.int .i64 rE] rfl ?_;(with_reducible refine(ox.calls k _ _ cx pk rE ca fJ tt _ ?a8 ?a9 A5.out).mono ?_);(case a8=>exact rc jt b0);(case a9=>exact(Kd.af jt.out).2.1);rintro e G9 ⟨v668,v671,rfl,ho0,ho1,hb⟩;refine⟨_,rfl, ?_⟩;have m4:=Ah (Kd.dD (Kd.ec ho0 (Kd.dU (rf jt b0))) (be (aH HB bR)));replace jt:=Ah (Kd.eZ (rf jt b0) (Kd.eX ho0) hb);have mt:=Ah (Kd.dD ho1 (be (aH HB bR)));replace b0:=Ah (cC (g:=sJ) (o:= .cells #[.slice di cx.length dj] 25 (0,0)) (by(with_reducible repeat(first|refine aD ?_ _|refine Z ?_|refine aC ?_ _));refine aj (cs:= #[.slice none 0 0]) ?_ 0 _ rfl;(with_reducible repeat(first|refine aD ?_ _|refine Z ?_|refine aC ?_ _));exact b0.out) hb);replace HB:=Ah (aK (aH HB bR) hb);(try clear hb ho0 ho1))|((with_reducible refine ax (N:=8) rfl ?_);refine bA 8 25 #[.slice none 0 0] ?_;intro sK hg nJ aw hb;replace jt:=nr jt hb;replace m4:=nr m4 hb;replace mt:=nr mt hb;have GW674:=gw hg (aH HB bR);have bZ:=gw hg (aH HB bR);replace HB:=Ah (aK (aH HB bR) hb);have vr:=nn b0 hg;have yF:=nm b0 hg;replace b0:=nb b0 hb;clear hb hg;obtain⟨dI,cd,ni⟩:=Kd.bq m4.out;subst ni;have SE:=yF.out;have SF:=vr.out;have nQ:=ap aw;have nR:=an aw;have qR:=ap b0;have qS:=an b0)|((with_reducible refine bJ (f:=6) rfl ?_);refine gL (some 83) rfl rfl Try.func6 (by kernel_rfl) rfl #[.agg #[.slice di cx.length dj],.int .i64 pk,.int .i64 rE] rfl ?_;(with_reducible refine(gM.calls k _ _ cx pk rE cy a3C xL _ ?a8 ?a9 A6.out).mono ?_);(case a8=>exact rc jt aw);(case a9=>exact(Kd.af jt.out).2.1);rintro e Wh ⟨v676,v679,rfl,ho0,ho1,hb⟩;refine⟨_,rfl, ?_⟩;have pK:=Ah (Kd.dD (Kd.ec (Kd.ec ho0 (Kd.dU (rf jt aw))) (Kd.dU (rf m4 aw))) (be (aW HB bR bZ)));replace jt:=Ah (Kd.eZ (rf jt aw) (Kd.eX ho0) hb);replace m4:=Ah (Kd.eZ (rf m4 aw) (Kd.eX ho0) hb);have wn:=Ah (Kd.dD (Kd.ec ho1 (Kd.dU (rf mt aw))) (be (aW HB bR bZ)));replace mt:=Ah (Kd.eZ (rf mt aw) (Kd.eX ho1) hb);replace b0:=Ah (cC (bf b0 vr) hb);replace aw:=Ah (cC (g:=sK) (o:= .cells #[.slice dI ca.length cd] 25 (0,0)) (by(with_reducible repeat(first|refine aD ?_ _|refine Z ?_|refine aC ?_ _));refine aj (cs:= #[.slice none 0 0]) ?_ 0 _ rfl;(with_reducible repeat(first|refine aD ?_ _|refine Z ?_|refine aC ?_ _));exact aw.out) hb);replace HB:=Ah (aK (aW HB bR bZ) hb);(try clear hb ho0 ho1))|((with_reducible refine ax (N:=11) rfl ?_);refine bA 11 25 #[.slice none 0 0] ?_;intro mu hg jl az hb;replace jt:=nr jt hb;replace m4:=nr m4 hb;replace mt:=nr mt hb;replace pK:=nr pK hb;replace wn:=nr wn hb;have GW682:=gw hg (aW HB bR bZ);have bi:=gw hg (aW HB bR bZ);replace HB:=Ah (aK (aW HB bR bZ) hb);have AU:=nn b0 hg;have Ln:=nm b0 hg;replace b0:=nb b0 hb;have su:=nn aw hg;have yG:=nm aw hg;replace aw:=nb aw hb;clear hb hg;obtain⟨dT,dM,xM⟩:=Kd.bq pK.out;subst xM;have hnb21:=Ln.out;have hnc21:=AU.out;have z7:=yG.out;have z8:=su.out;have mO:=ap az;have mP:=an az))
 (try simp only[Act.put,Ok,bY,dl])
 go_cut [101] (fun v101 wc=>∃ (kq:Nat) (Ms:Bool),v101= .bool Ms∧U (b8.j0 kq l1 pk rE fJ tt Ms cx ca=some r)∧U (kq≤k)∧U (Kd.R bd 38 wc w.heap.size (fun _=>True) v671 fJ)∧U (Kd.R b7 65 wc w.heap.size (fun k_=>some k_≠((.slice dI ca.length cd):Value).ownBlock∧some k_≠((.slice dT cy.length dM):Value).ownBlock) (.slice di cx.length dj) cx)∧U (Kd.R b7 65 wc w.heap.size (fun k_=>some k_≠((.slice di cx.length dj):Value).ownBlock∧some k_≠((.slice dT cy.length dM):Value).ownBlock) (.slice dI ca.length cd) ca)∧U (Kd.R b7 65 wc w.heap.size (fun k_=>some k_≠((.slice di cx.length dj):Value).ownBlock∧some k_≠((.slice dI ca.length cd):Value).ownBlock) (.slice dT cy.length dM) cy)∧U (wc.heap[sJ]?=some (.cells #[(.slice di cx.length dj)] 25 (0,0)))∧U (wc.heap[sK]?=some (.cells #[(.slice dI ca.length cd)] 25 (0,0)))∧U (wc.heap[mu]?=some (.cells #[(.slice dT cy.length dM)] 25 (0,0)))∧U (Below w.heap.size w wc))
 case first=>
  have H:=Di.out;clear Di
  by_cases c24:(tt !=xL)=true
  ·
   rw[if_pos c24]at H;have lU:(tt !=xL)=true:=c24;(try(have sL:decide (tt=xL)=false:=by simpa using c24));(try(have pN:(tt==xL)=false:=by simpa using c24));(try(have c24b3:¬(tt=xL):=by simpa using c24));clear c24;(first|rw[lU]|(simp only[cz,dS];rw[lU])|(simp only[pN,aaz,aaC])|skip);have H':=Ah H;clear H
   go_wp2
   go_meet
   case rel=>exact⟨_,(true),e3,H',⟨by first|omega|exact bx _⟩,⟨by(with_reducible repeat(first|apply Kd.bG|apply Kd.bE|apply Kd.al));exact Kd.aY (Kd.aQ (p:=⟨mu,0,none⟩) (Kd.cl mt.out az.out (by decide)) (fun _ hk=>hk.2) (.slice dT cy.length dM)) (fun _ hk=>trivial)⟩,⟨by(with_reducible repeat(first|apply Kd.bG|apply Kd.bE|apply Kd.al));exact Kd.aY (Kd.aQ (p:=⟨mu,0,none⟩) (Kd.cl jt.out az.out (by decide)) (fun _ hk=>hk.2) (.slice dT cy.length dM)) (fun _ hk=>⟨hk.1.1.2,hk.1.2⟩)⟩,⟨by(with_reducible repeat(first|apply Kd.bG|apply Kd.bE|apply Kd.al));exact Kd.aY (Kd.aQ (p:=⟨mu,0,none⟩) (Kd.cl m4.out az.out (by decide)) (fun _ hk=>hk.2) (.slice dT cy.length dM)) (fun _ hk=>⟨hk.1.1.2,hk.1.2⟩)⟩,⟨by(with_reducible repeat(first|apply Kd.bG|apply Kd.bE|apply Kd.al));exact Kd.aY (Kd.aQ (p:=⟨mu,0,none⟩) (Kd.cl pK.out az.out (by decide)) (fun _ hk=>hk.2) (.slice dT cy.length dM)) (fun _ hk=>⟨hk.1.1.2,hk.1.2⟩)⟩,⟨bf b0 AU⟩,⟨bf aw su⟩,⟨by(with_reducible repeat(first|refine aD ?_ _|refine Z ?_|refine aC ?_ _));refine aj (cs:= #[.slice none 0 0]) ?_ 0 _ rfl;(with_reducible repeat(first|refine aD ?_ _|refine Z ?_|refine aC ?_ _));exact az.out⟩,⟨bX HB bR bZ bi⟩⟩
  rw[if_neg c24]at H
  have lU:(tt !=xL)=false:=by simpa using c24
  (try(have sL:decide (tt=xL)=true:=by simpa using c24));(try(have pN:(tt==xL)=true:=by simpa using c24));clear c24;(first|rw[lU]|(simp only[cz,dS];rw[lU])|(simp only[pN,aaz,aaC])|skip);replace H:=LT.mp H;obtain⟨Jg,Ji,H⟩:=H
  try dsimp only at H
  have LF:=Ah Ji;clear Ji
  by_cases i3:Jg=true
  rotate_left
  ·
   replace i3:=dn.mpr i3;subst i3;rw[if_neg dV]at H;have H':=Ah H;clear H;have I0:=yF.out;have I1:=vr.out;have SG:=su.out;have SH:=yG.out;have pE:=ap aw;have pF:=an aw;have N8:=Ln.out;have N9:=AU.out;have nS:=ap az;have nT:=an az
   go_wp2_with (first|(go_at_call 7;(with_reducible refine(hD.calls k _ _ ca _ _ cy false _ ?a8 ?a9 ?dm ?qu LF.out).mono ?_);(case a8=>exact rc m4 az);(case a9=>exact(Kd.af m4.out).2.1);(case dm=>exact rc pK az);(case qu=>exact(Kd.af pK.out).2.1);rintro e rY ⟨rfl,hb⟩;replace jt:=nf jt az hb;replace m4:=nf m4 az hb;replace mt:=nf mt az hb;replace pK:=nf pK az hb;replace wn:=nf wn az hb;replace b0:=Ah (cC (bf b0 AU) hb);replace aw:=Ah (cC (bf aw su) hb);replace az:=Ah (cC (g:=mu) (o:= .cells #[.slice dT cy.length dM] 25 (0,0)) (by(with_reducible repeat(first|refine aD ?_ _|refine Z ?_|refine aC ?_ _));refine aj (cs:= #[.slice none 0 0]) ?_ 0 _ rfl;(with_reducible repeat(first|refine aD ?_ _|refine Z ?_|refine aC ?_ _));exact az.out) hb);replace HB:=Ah (aK (bX HB bR bZ bi) hb);(try clear hb)))
   go_meet
   case rel=>exact⟨_,(true),e3,H',⟨by first|omega|exact bx _⟩,rm mt (fun _ hk=>trivial),rm jt (fun _ hk=>⟨hk.1.2,hk.2⟩),rm m4 (fun _ hk=>⟨hk.1.2,hk.2⟩),rm pK (fun _ hk=>⟨hk.1.2,hk.2⟩),⟨bk b0⟩,⟨bk aw⟩,⟨bk az⟩,⟨bX HB bR bZ bi⟩⟩
  subst i3;rw[if_pos rfl]at H;replace H:=LT.mp H;obtain⟨FV,pl,H⟩:=H
  try dsimp only at H
  have xq:=Ah pl;clear pl;have H':=Ah H;clear H;have Eu:=yF.out;have Ew:=vr.out;have NA:=su.out;have NB:=yG.out;have o6:=ap aw;have o7:=an aw;have a0L:=Ln.out;have a0M:=AU.out;have qT:=ap az;have qU:=an az
  go_wp2_with (first|(go_at_call 7;(with_reducible refine(hD.calls k _ _ ca _ _ cy true _ ?a8 ?a9 ?dm ?qu LF.out).mono ?_);(case a8=>exact rc m4 az);(case a9=>exact(Kd.af m4.out).2.1);(case dm=>exact rc pK az);(case qu=>exact(Kd.af pK.out).2.1);rintro e q9 ⟨rfl,hb⟩;replace jt:=nf jt az hb;replace m4:=nf m4 az hb;replace mt:=nf mt az hb;replace pK:=nf pK az hb;replace wn:=nf wn az hb;replace b0:=Ah (cC (bf b0 AU) hb);replace aw:=Ah (cC (bf aw su) hb);replace az:=Ah (cC (g:=mu) (o:= .cells #[.slice dT cy.length dM] 25 (0,0)) (by(with_reducible repeat(first|refine aD ?_ _|refine Z ?_|refine aC ?_ _));refine aj (cs:= #[.slice none 0 0]) ?_ 0 _ rfl;(with_reducible repeat(first|refine aD ?_ _|refine Z ?_|refine aC ?_ _));exact az.out) hb);replace HB:=Ah (aK (bX HB bR bZ bi) hb);(try clear hb);obtain⟨FW,FX,UL⟩:=Kd.bq mt.out;subst UL;obtain⟨Ao35,co35,eo35⟩:=Kd.bq wn.out;subst eo35)|(go_at_call 8;(with_reducible refine(i4.calls k _ _ fJ _ _ a3C FV _ ?a8 ?a9 ?dm ?qu xq.out).mono ?_);(case a8=>exact fB mt);(case a9=>exact(Kd.af mt.out).2.1);(case dm=>exact fB wn);(case qu=>exact(Kd.af wn.out).2.1);rintro e w' ⟨rfl,⟨nd,rfl⟩⟩))
  go_meet
  case rel=>exact⟨_,(!FV),e3,H',⟨by first|omega|exact bx _⟩,rm mt (fun _ hk=>trivial),rm jt (fun _ hk=>⟨hk.1.2,hk.2⟩),rm m4 (fun _ hk=>⟨hk.1.2,hk.2⟩),rm pK (fun _ hk=>⟨hk.1.2,hk.2⟩),⟨bk b0⟩,⟨bk aw⟩,⟨bk az⟩,⟨bX HB bR bZ bi⟩⟩
 case rest=>
  clear Di
  try clear c1
  try clear c2
  try clear p2
  try clear c3
  try clear iN
  try clear c4
  try clear c5
  try clear c6
  try clear p6
  try clear c15
  try clear c21
  try clear ks
  try clear c24
  try clear lU
  try clear sL
  try clear pN
  try clear i3
  try clear c28
  try clear kY
  try clear c31
  try clear lH
  try clear c37
  try clear kZ
  try clear lx
  try clear nQ
  try clear qR
  try clear mO
  try clear o6
  try clear qT
  try clear pE
  try clear nS
  try clear ly
  try clear nR
  try clear qS
  try clear mP
  try clear o7
  try clear qU
  try clear pF
  try clear nT
  obtain⟨kq,Ms,rfl,HA,fx,cT,bT,bN,bW,b0,aw,az,HB⟩:=hcut
  cases kq with
  |zero=>exact absurd HA.out (by simp[b8.j0])
  |succ AI=>
   have H:=HA.out;clear HA;simp only[b8.j0]at H
   as_aux_lemma=>
    by_cases nz:Ms=true
    ·
     subst nz;rw[if_pos rfl]at H;obtain rfl:=iz H
     go_wp2
     go_ret
     exact⟨er,bX HB bR bZ bi⟩
    replace nz:=dn.mpr nz;subst nz;rw[if_neg dV]at H;have UM:=Ah H;clear H
    go_upto_if 102 with(fail)
    go_cut [] (fun wc=>∃ (kq:Nat),U (b8.j5 kq l1=some r)∧U (kq≤AI)∧U (Kd.R b7 65 wc w.heap.size (fun k_=>some k_≠((.slice dI ca.length cd):Value).ownBlock∧some k_≠((.slice dT cy.length dM):Value).ownBlock) (.slice di cx.length dj) cx)∧U (Kd.R b7 65 wc w.heap.size (fun k_=>some k_≠((.slice di cx.length dj):Value).ownBlock∧some k_≠((.slice dT cy.length dM):Value).ownBlock) (.slice dI ca.length cd) ca)∧U (Kd.R b7 65 wc w.heap.size (fun k_=>some k_≠((.slice di cx.length dj):Value).ownBlock∧some k_≠((.slice dI ca.length cd):Value).ownBlock) (.slice dT cy.length dM) cy)∧U (wc.heap[sJ]?=some (.cells #[(.slice di cx.length dj)] 25 (0,0)))∧U (wc.heap[sK]?=some (.cells #[(.slice dI ca.length cd)] 25 (0,0)))∧U (wc.heap[mu]?=some (.cells #[(.slice dT cy.length dM)] 25 (0,0)))∧U (Below w.heap.size w wc))
    case first=>
     have H:=UM.out;clear UM
     by_cases lI:tt=true
     rotate_left
     ·
      replace lI:=dn.mpr lI;subst lI;rw[if_neg dV]at H;have H':=Ah H;clear H
      go_wp2
      go_meet
      case rel=>exact⟨_,H',⟨by have:=fx.out;first|omega|exact bx _⟩,⟨rr bT.out⟩,⟨rr bN.out⟩,⟨rr bW.out⟩,⟨bk b0⟩,⟨bk aw⟩,⟨bk az⟩,⟨bX HB bR bZ bi⟩⟩
     subst lI;rw[if_pos rfl]at H;replace H:=LT.mp H;obtain⟨⟨zc,t686,OK⟩,a3D,H⟩:=H
     try dsimp only at H
     have PP:=Ah a3D;clear a3D;replace H:=LT.mp H;obtain⟨⟨zd,t689,OL⟩,a3E,H⟩:=H
     try dsimp only at H
     have A46:=Ah a3E;clear a3E;replace H:=LT.mp H;obtain⟨⟨eu,OM⟩,Jj,H⟩:=H
     try dsimp only at H
     have Wi:=Ah Jj;clear Jj;have H':=Ah H;clear H;have SI:=vr.out;have SJ:=yF.out;have hnb49:=AU.out;have hnc49:=Ln.out;have rv:=ap b0;have rx:=an b0
     go_wp2_with (first|((with_reducible refine bJ (f:=9) rfl ?_);refine gL (some 105) rfl rfl Try.func9 (by kernel_rfl) rfl #[.agg #[.slice di cx.length dj]] rfl ?_;(with_reducible refine(gb.calls AI _ _ cx zc t686 OK _ ?a8 ?a9 PP.out).mono ?_);(case a8=>exact fB bT);(case a9=>exact(Kd.af bT.out).2.1);rintro e Wj ⟨rfl,hb⟩;refine⟨_,rfl, ?_⟩;replace cT:=nr cT hb;replace bT:=nr bT hb;replace bN:=nr bN hb;replace bW:=nr bW hb;replace b0:=nb b0 hb;replace aw:=nb aw hb;replace az:=nb az hb;replace HB:=Ah (aK (bX HB bR bZ bi) hb);(try clear hb);have hnb52:=su.out;have hnc52:=yG.out;have t9:=ap aw;have tA:=an aw)|((with_reducible refine bJ (f:=9) rfl ?_);refine gL (some 111) rfl rfl Try.func9 (by kernel_rfl) rfl #[.agg #[.slice dI ca.length cd]] rfl ?_;(with_reducible refine(gb.calls AI _ _ ca zd t689 OL _ ?a8 ?a9 A46.out).mono ?_);(case a8=>exact fB bN);(case a9=>exact(Kd.af bN.out).2.1);rintro e w54 ⟨rfl,hb⟩;refine⟨_,rfl, ?_⟩;replace cT:=nr cT hb;replace bT:=nr bT hb;replace bN:=nr bN hb;replace bW:=nr bW hb;replace b0:=nb b0 hb;replace aw:=nb aw hb;replace az:=nb az hb;replace HB:=Ah (aK (bX HB bR bZ bi) hb);(try clear hb);have ry:=ap aw;have rz:=an aw)|((with_reducible refine bJ (f:=10) rfl ?_);refine gL (some 117) rfl rfl Try.func10 (by kernel_rfl) rfl #[.agg #[.slice dI ca.length cd]] rfl ?_;(with_reducible refine(qE.calls AI _ _ ca eu OM _ ?a8 ?a9 Wi.out).mono ?_);(case a8=>exact fB bN);(case a9=>exact(Kd.af bN.out).2.1);rintro e w56 ⟨a3F,rfl,ho0,hb⟩;refine⟨_,rfl, ?_⟩;replace bT:=nr bT hb;replace bN:=nr bN hb;replace bW:=nr bW hb;have HO693:=Ah (Kd.dD (Kd.ec ho0 (Kd.dU (rr cT.out))) (be (bX HB bR bZ bi)));replace cT:=Ah (Kd.eZ (rr cT.out) (Kd.eX ho0) hb);replace b0:=nb b0 hb;replace aw:=nb aw hb;replace az:=nb az hb;replace HB:=Ah (aK (bX HB bR bZ bi) hb);(try clear hb ho0);obtain⟨a3G,Jk,eo57⟩:=Kd.bq cT.out;subst eo57))
     go_loopg [22,122] AI (fun kq v22 v122 w'=>∃ (cO:Int) (fj:Int),v22= .int .i64 cO∧v122= .int .i64 fj∧U (b8.l0 kq l1 pk rE zc OK zd OL eu OM cO fJ (fJ.length:Int) fj ca=some r)∧U (kq≤AI)∧U (Kd.R bd 38 w' w.heap.size (fun k_=>some k_≠((.slice a3G fJ.length Jk):Value).ownBlock) a3F eu)∧U (Kd.R bd 38 w' w.heap.size (fun k_=>some k_≠(a3F:Value).ownBlock) (.slice a3G fJ.length Jk) fJ)∧U (Kd.R b7 65 w' w.heap.size (fun k_=>some k_≠((.slice dI ca.length cd):Value).ownBlock∧some k_≠((.slice dT cy.length dM):Value).ownBlock) (.slice di cx.length dj) cx)∧U (Kd.R b7 65 w' w.heap.size (fun k_=>some k_≠((.slice di cx.length dj):Value).ownBlock∧some k_≠((.slice dT cy.length dM):Value).ownBlock) (.slice dI ca.length cd) ca)∧U (Kd.R b7 65 w' w.heap.size (fun k_=>some k_≠((.slice di cx.length dj):Value).ownBlock∧some k_≠((.slice dI ca.length cd):Value).ownBlock) (.slice dT cy.length dM) cy)∧U (w'.heap[sJ]?=some (.cells #[(.slice di cx.length dj)] 25 (0,0)))∧U (w'.heap[sK]?=some (.cells #[(.slice dI ca.length cd)] 25 (0,0)))∧U (w'.heap[mu]?=some (.cells #[(.slice dT cy.length dM)] 25 (0,0)))∧U (Below w.heap.size w w'))
     case atStart=>exact⟨(0),(0),e3,e3,H',⟨bx _⟩,rm HO693 (fun _ hk=>hk.2),rm cT (fun _ hk=>hk.2),⟨rr bT.out⟩,⟨rr bN.out⟩,⟨rr bW.out⟩,⟨bk b0⟩,⟨bk aw⟩,⟨bk az⟩,⟨bX HB bR bZ bi⟩⟩
     case round=>
      clear H'
      try clear c1
      try clear c2
      try clear p2
      try clear c3
      try clear iN
      try clear c4
      try clear c5
      try clear c6
      try clear p6
      try clear c9
      try clear c10
      try clear c15
      try clear c21
      try clear ks
      try clear c24
      try clear lU
      try clear sL
      try clear pN
      try clear i3
      try clear c28
      try clear kY
      try clear c31
      try clear lH
      try clear c37
      try clear kZ
      try clear nz
      try clear lI
      try clear o0
      try clear c49
      try clear xr
      try clear lx
      try clear nQ
      try clear qR
      try clear mO
      try clear o6
      try clear qT
      try clear pE
      try clear nS
      try clear rv
      try clear t9
      try clear ry
      try clear ly
      try clear nR
      try clear qS
      try clear mP
      try clear o7
      try clear qU
      try clear pF
      try clear nT
      try clear rx
      try clear tA
      try clear rz
      try clear p2
      try clear p6
      obtain⟨cO,fj,rfl,rfl,HA,eg,mv,nX,bT,bN,bW,b0,aw,az,HB⟩:=hrel
      cases gk with
      |zero=>exact absurd HA.out (by simp[b8.l0])
      |succ k2=>
       have H:=HA.out;clear HA;simp only[b8.l0]at H
       as_aux_lemma=>
        by_cases ob:fj<(fJ.length:Int)
        rotate_left
        ·
         rw[if_neg ob]at H;have pO:decide (fj<(fJ.length:Int))=false:=decide_eq_false ob;clear ob;(first|rw[pO]|(simp only[cz,dS];rw[pO])|(simp only[c58b2,aaz,aaC])|skip);have SK:=Ah H;clear H
         go_upto_region 24 with(fail)
         go_cut [177] (fun v177 wc=>∃ (kq:Nat) (M5:Bool),v177= .bool M5∧U (b8.j3 kq l1 pk rE M5 ca=some r)∧U (kq≤k2)∧U (Kd.R b7 65 wc w.heap.size (fun k_=>some k_≠((.slice dI ca.length cd):Value).ownBlock∧some k_≠((.slice dT cy.length dM):Value).ownBlock) (.slice di cx.length dj) cx)∧U (Kd.R b7 65 wc w.heap.size (fun k_=>some k_≠((.slice di cx.length dj):Value).ownBlock∧some k_≠((.slice dT cy.length dM):Value).ownBlock) (.slice dI ca.length cd) ca)∧U (Kd.R b7 65 wc w.heap.size (fun k_=>some k_≠((.slice di cx.length dj):Value).ownBlock∧some k_≠((.slice dI ca.length cd):Value).ownBlock) (.slice dT cy.length dM) cy)∧U (wc.heap[sJ]?=some (.cells #[(.slice di cx.length dj)] 25 (0,0)))∧U (wc.heap[sK]?=some (.cells #[(.slice dI ca.length cd)] 25 (0,0)))∧U (wc.heap[mu]?=some (.cells #[(.slice dT cy.length dM)] 25 (0,0)))∧U (Below w.heap.size w wc))
         case first=>
          have H:=SK.out;clear SK
          by_cases sT:OK=true
          rotate_left
          ·
           replace sT:=dn.mpr sT;subst sT;rw[if_neg dV]at H;have H':=Ah H;clear H
           go_wp2
           go_meet
           case rel=>exact⟨_,(true),e3,H',⟨by have:=fx.out;have:=eg.out;first|omega|exact bx _⟩,⟨rr bT.out⟩,⟨rr bN.out⟩,⟨rr bW.out⟩,⟨bk b0⟩,⟨bk aw⟩,⟨bk az⟩,⟨bX HB bR bZ bi⟩⟩
          subst sT;rw[if_pos rfl]at H
          by_cases sU:OL=true
          rotate_left
          ·
           replace sU:=dn.mpr sU;subst sU;rw[if_neg dV]at H;have H':=Ah H;clear H
           go_wp2
           go_meet
           case rel=>exact⟨_,(true),e3,H',⟨by have:=fx.out;have:=eg.out;first|omega|exact bx _⟩,⟨rr bT.out⟩,⟨rr bN.out⟩,⟨rr bW.out⟩,⟨bk b0⟩,⟨bk aw⟩,⟨bk az⟩,⟨bX HB bR bZ bi⟩⟩
          subst sU;rw[if_pos rfl]at H
          by_cases c105:OM=true
          rotate_left
          ·
           replace c105:=dn.mpr c105;subst c105;rw[if_neg dV]at H;have H':=Ah H;clear H
           go_wp2
           go_meet
           case rel=>exact⟨_,(true),e3,H',⟨by have:=fx.out;have:=eg.out;first|omega|exact bx _⟩,⟨rr bT.out⟩,⟨rr bN.out⟩,⟨rr bW.out⟩,⟨bk b0⟩,⟨bk aw⟩,⟨bk az⟩,⟨bX HB bR bZ bi⟩⟩
          subst c105;rw[if_pos rfl]at H
          by_cases n9:zc=(LS (zd+cO))
          rotate_left
          ·
           rw[if_neg n9]at H;have qo:(zc==(LS (zd+cO)))=false:=beq_eq_false_iff_ne.mpr n9;have wh:(zc !=(LS (zd+cO)))=true:=bne_iff_ne.mpr n9;(first|rw[qo]|(simp only[cz,dS];rw[qo])|(simp only[c106b2,aaz,aaC])|skip);have H':=Ah H;clear H
           go_wp2
           go_meet
           case rel=>exact⟨_,(true),e3,H',⟨by have:=fx.out;have:=eg.out;first|omega|exact bx _⟩,⟨rr bT.out⟩,⟨rr bN.out⟩,⟨rr bW.out⟩,⟨bk b0⟩,⟨bk aw⟩,⟨bk az⟩,⟨bX HB bR bZ bi⟩⟩
          rw[if_pos n9]at H;have qo:(zc==(LS (zd+cO)))=true:=beq_iff_eq.mpr n9;have wh:(zc !=(LS (zd+cO)))=false:=bne_eq_false_iff_eq.mpr n9;clear n9;(first|rw[qo]|(simp only[cz,dS];rw[qo])|(simp only[c106b2,aaz,aaC])|skip);replace H:=LT.mp H;obtain⟨OI,a0N,H⟩:=H
          try dsimp only at H
          have A107:=Ah a0N;clear a0N;have H':=Ah H;clear H;have hnb108:=yF.out;have hnc108:=vr.out;have hnb109:=su.out;have hnc109:=yG.out;have ur:=ap aw;have us:=an aw
          go_wp2_with (first|(go_at_call 11;(with_reducible refine(bh.calls k2 _ _ ca OI _ ?a8 ?a9 A107.out).mono ?_);(case a8=>exact fB bN);(case a9=>exact(Kd.af bN.out).2.1);rintro e w111 ⟨rfl,hb⟩;replace mv:=nr mv hb;replace nX:=nr nX hb;replace bT:=nr bT hb;replace bN:=nr bN hb;replace bW:=nr bW hb;replace b0:=nb b0 hb;replace aw:=nb aw hb;replace az:=nb az hb;replace HB:=Ah (aK (bX HB bR bZ bi) hb);(try clear hb)))
          go_meet
          case rel=>exact⟨_,(!OI),e3,H',⟨by have:=fx.out;have:=eg.out;first|omega|exact bx _⟩,⟨rr bT.out⟩,⟨rr bN.out⟩,⟨rr bW.out⟩,⟨bk b0⟩,⟨bk aw⟩,⟨bk az⟩,⟨bX HB bR bZ bi⟩⟩
         case rest=>
          clear SK
          try clear c1
          try clear c2
          try clear p2
          try clear c3
          try clear iN
          try clear c4
          try clear c5
          try clear c6
          try clear p6
          try clear q6
          try clear hx6
          try clear c7
          try clear c8
          try clear c9
          try clear c10
          try clear c15
          try clear c21
          try clear ks
          try clear c24
          try clear lU
          try clear sL
          try clear pN
          try clear i3
          try clear c28
          try clear kY
          try clear c31
          try clear lH
          try clear c37
          try clear kZ
          try clear nz
          try clear lI
          try clear o0
          try clear c49
          try clear xr
          try clear ob
          try clear pO
          try clear c59
          try clear wo
          try clear rZ
          try clear wq
          try clear AJ
          try clear AK
          try clear c64
          try clear p64
          try clear qA
          try clear ws
          try clear sl
          try clear z9
          try clear mK
          try clear zA
          try clear p69
          try clear qB
          try clear Cd
          try clear c70
          try clear wt
          try clear ka
          try clear tO
          try clear Dj
          try clear Dk
          try clear c75
          try clear c76
          try clear Dl
          try clear Dm
          try clear c80
          try clear xt
          try clear xu
          try clear c85
          try clear Dn
          try clear Do
          try clear Dp
          try clear Dq
          try clear c93
          try clear Dr
          try clear xv
          try clear xw
          try clear Ds
          try clear Dt
          try clear xN
          try clear sT
          try clear sU
          try clear c105
          try clear n9
          try clear qo
          try clear wh
          try clear xO
          try clear c109
          try clear yR yS
          try clear ur
          try clear lx
          try clear nQ
          try clear qR
          try clear mO
          try clear o6
          try clear qT
          try clear pE
          try clear nS
          try clear rv
          try clear t9
          try clear ry
          try clear uw wJ
          try clear wK wL
          try clear yX yY
          try clear ux wM
          try clear yZ ya
          try clear uy yb
          try clear yT yU
          try clear us
          try clear ly
          try clear nR
          try clear qS
          try clear mP
          try clear o7
          try clear qU
          try clear pF
          try clear nT
          try clear rx
          try clear tA
          try clear rz
          try clear uz wN
          try clear wO wP
          try clear yc yd
          try clear vA wQ
          try clear ye yf
          try clear vB yg
          try clear wR
          try clear wS
          try clear vC
          try clear vD
          try clear p2
          try clear p6
          try clear p64
          try clear sV
          try clear m8
          try clear q6
          try clear sW
          try clear m9
          obtain⟨kq,M5,rfl,HA,SL,bT,bN,bW,b0,aw,az,HB⟩:=hcut
          cases kq with
          |zero=>exact absurd HA.out (by simp[b8.j3])
          |succ a0O=>
           have H:=HA.out;clear HA;simp only[b8.j3]at H
           as_aux_lemma=>
            by_cases tu:M5=true
            ·
             subst tu;rw[if_pos rfl]at H;obtain rfl:=iz H
             go_wp2
             go_ret
             exact⟨er,bX HB bR bZ bi⟩
            replace tu:=dn.mpr tu;subst tu;rw[if_neg dV]at H;have H':=Ah H;clear H
            go_wp2
            go_loopg [27] a0O (fun kq v27 w'=>∃ (qv:Int),v27= .int .i64 qv∧U (b8.l2 kq l1 pk rE qv ca=some r)∧U (kq≤a0O)∧U (Kd.R b7 65 w' w.heap.size (fun k_=>some k_≠((.slice dI ca.length cd):Value).ownBlock∧some k_≠((.slice dT cy.length dM):Value).ownBlock) (.slice di cx.length dj) cx)∧U (Kd.R b7 65 w' w.heap.size (fun k_=>some k_≠((.slice di cx.length dj):Value).ownBlock∧some k_≠((.slice dT cy.length dM):Value).ownBlock) (.slice dI ca.length cd) ca)∧U (Kd.R b7 65 w' w.heap.size (fun k_=>some k_≠((.slice di cx.length dj):Value).ownBlock∧some k_≠((.slice dI ca.length cd):Value).ownBlock) (.slice dT cy.length dM) cy)∧U (w'.heap[sJ]?=some (.cells #[(.slice di cx.length dj)] 25 (0,0)))∧U (w'.heap[sK]?=some (.cells #[(.slice dI ca.length cd)] 25 (0,0)))∧U (w'.heap[mu]?=some (.cells #[(.slice dT cy.length dM)] 25 (0,0)))∧U (Below w.heap.size w w'))
            case atStart=>exact⟨(pk),e3,H',⟨bx _⟩,⟨rr bT.out⟩,⟨rr bN.out⟩,⟨rr bW.out⟩,⟨bk b0⟩,⟨bk aw⟩,⟨bk az⟩,⟨bX HB bR bZ bi⟩⟩
            case round=>
             clear H'
             try clear c1
             try clear c2
             try clear p2
             try clear c3
             try clear iN
             try clear c4
             try clear c5
             try clear c6
             try clear p6
             try clear q6
             try clear hx6
             try clear c7
             try clear c8
             try clear c9
             try clear c10
             try clear c11
             try clear c15
             try clear c21
             try clear ks
             try clear c24
             try clear lU
             try clear sL
             try clear pN
             try clear i3
             try clear c28
             try clear kY
             try clear c31
             try clear lH
             try clear c37
             try clear kZ
             try clear nz
             try clear lI
             try clear o0
             try clear c49
             try clear xr
             try clear ob
             try clear pO
             try clear c59
             try clear wo
             try clear rZ
             try clear wq
             try clear AJ
             try clear AK
             try clear c64
             try clear p64
             try clear qA
             try clear ws
             try clear sl
             try clear z9
             try clear mK
             try clear zA
             try clear p69
             try clear qB
             try clear Cd
             try clear c70
             try clear wt
             try clear ka
             try clear tO
             try clear Dj
             try clear Dk
             try clear c75
             try clear c76
             try clear Dl
             try clear Dm
             try clear c80
             try clear xt
             try clear xu
             try clear c85
             try clear Dn
             try clear Do
             try clear Dp
             try clear Dq
             try clear c93
             try clear Dr
             try clear xv
             try clear xw
             try clear Ds
             try clear Dt
             try clear xN
             try clear sT
             try clear sU
             try clear c105
             try clear n9
             try clear qo
             try clear wh
             try clear xO
             try clear c109
             try clear tu
             try clear yR yS
             try clear ur
             try clear lx
             try clear nQ
             try clear qR
             try clear mO
             try clear o6
             try clear qT
             try clear pE
             try clear nS
             try clear rv
             try clear t9
             try clear ry
             try clear uw wJ
             try clear wK wL
             try clear yX yY
             try clear ux wM
             try clear yZ ya
             try clear uy yb
             try clear yT yU
             try clear us
             try clear ly
             try clear nR
             try clear qS
             try clear mP
             try clear o7
             try clear qU
             try clear pF
             try clear nT
             try clear rx
             try clear tA
             try clear rz
             try clear uz wN
             try clear wO wP
             try clear yc yd
             try clear vA wQ
             try clear ye yf
             try clear vB yg
             try clear wR
             try clear wS
             try clear vC
             try clear vD
             try clear p2
             try clear p6
             try clear p64
             try clear p69
             try clear sV
             try clear m8
             try clear q6
             try clear qB
             try clear sW
             try clear m9
             obtain⟨qv,rfl,HA,uX,bT,bN,bW,b0,aw,az,HB⟩:=hrel
             cases gk with
             |zero=>exact absurd HA.out (by simp[b8.l2])
             |succ k4=>
              have H:=HA.out;clear HA;simp only[b8.l2]at H
              as_aux_lemma=>
               by_cases sX:qv<(LS (pk+rE))
               rotate_left
               ·
                rw[if_neg sX]at H;have C0:decide (qv<(LS (pk+rE)))=false:=decide_eq_false sX;clear sX;have H':=Ah H;clear H
                go_wp2
                go_meet
                case rel=>exact⟨_,H',⟨by have:=fx.out;have:=eg.out;have:=SL.out;have:=uX.out;first|omega|exact bx _⟩,⟨rr bT.out⟩,⟨rr bN.out⟩,⟨rr bW.out⟩,⟨bk b0⟩,⟨bk aw⟩,⟨bk az⟩,⟨bX HB bR bZ bi⟩⟩
               rw[if_pos sX]at H;have C0:decide (qv<(LS (pk+rE)))=true:=decide_eq_true sX;clear sX;replace H:=LT.mp H;obtain⟨⟨ze,UN,t702⟩,a0P,H⟩:=H
               try dsimp only at H
               have UO:=Ah a0P;clear a0P
               by_cases vU:t702=true
               rotate_left
               ·
                replace vU:=dn.mpr vU;subst vU;rw[if_neg dV]at H;obtain rfl:=iz H;have hnb125:=yF.out;have hnc125:=vr.out;have hnb126:=su.out;have hnc126:=yG.out;have wE:=ap aw;have wF:=an aw
                go_wp2_with (first|((with_reducible refine bJ (f:=12) rfl ?_);refine gL (some 189) rfl rfl aaV (by kernel_rfl) rfl #[.agg #[.slice dI ca.length cd],.int .i64 qv] rfl ?_;(with_reducible refine(ej.calls k4 _ _ ca qv ze UN false _ ?a8 ?a9 UO.out).mono ?_);(case a8=>exact fB bN);(case a9=>exact(Kd.af bN.out).2.1);rintro e a3H ⟨rfl,hb⟩;refine⟨_,rfl, ?_⟩;replace bT:=nr bT hb;replace bN:=nr bN hb;replace bW:=nr bW hb;replace b0:=nb b0 hb;replace aw:=nb aw hb;replace az:=nb az hb;replace HB:=Ah (aK (bX HB bR bZ bi) hb);(try clear hb)))
                go_ret
                exact⟨er,bX HB bR bZ bi⟩
               subst vU;rw[if_pos rfl]at H
               by_cases c116:ze=(-1)
               rotate_left
               ·
                rw[if_neg c116]at H;have C1:(ze==(-1))=false:=beq_eq_false_iff_ne.mpr c116;have C2:(ze !=(-1))=true:=bne_iff_ne.mpr c116;obtain rfl:=iz H;have hnb121:=yF.out;have hnc121:=vr.out;have hnb122:=su.out;have hnc122:=yG.out;have ED:=ap aw;have EE:=an aw
                go_wp2_with (first|((with_reducible refine bJ (f:=12) rfl ?_);refine gL (some 189) rfl rfl aaV (by kernel_rfl) rfl #[.agg #[.slice dI ca.length cd],.int .i64 qv] rfl ?_;(with_reducible refine(ej.calls k4 _ _ ca qv ze UN true _ ?a8 ?a9 UO.out).mono ?_);(case a8=>exact fB bN);(case a9=>exact(Kd.af bN.out).2.1);rintro e w124 ⟨rfl,hb⟩;refine⟨_,rfl, ?_⟩;replace bT:=nr bT hb;replace bN:=nr bN hb;replace bW:=nr bW hb;replace b0:=nb b0 hb;replace aw:=nb aw hb;replace az:=nb az hb;replace HB:=Ah (aK (bX HB bR bZ bi) hb);(try clear hb)))
                go_ret
                exact⟨er,bX HB bR bZ bi⟩
               rw[if_pos c116]at H;have C1:(ze==(-1))=true:=beq_iff_eq.mpr c116;have C2:(ze !=(-1))=false:=bne_eq_false_iff_eq.mpr c116;clear c116;have H':=Ah H;clear H;have hnb117:=yF.out;have hnc117:=vr.out;have hnb118:=su.out;have hnc118:=yG.out;have Ak:=ap aw;have Al:=an aw
               go_wp2_with (first|((with_reducible refine bJ (f:=12) rfl ?_);refine gL (some 189) rfl rfl aaV (by kernel_rfl) rfl #[.agg #[.slice dI ca.length cd],.int .i64 qv] rfl ?_;(with_reducible refine(ej.calls k4 _ _ ca qv ze UN true _ ?a8 ?a9 UO.out).mono ?_);(case a8=>exact fB bN);(case a9=>exact(Kd.af bN.out).2.1);rintro e w120 ⟨rfl,hb⟩;refine⟨_,rfl, ?_⟩;replace bT:=nr bT hb;replace bN:=nr bN hb;replace bW:=nr bW hb;replace b0:=nb b0 hb;replace aw:=nb aw hb;replace az:=nb az hb;replace HB:=Ah (aK (bX HB bR bZ bi) hb);(try clear hb)))
               go_roundg k4
               case measure=>have:=fx.out;have:=eg.out;have:=SL.out;have:=uX.out;omega
               case rel=>exact⟨(LS (qv+1)),e3,H',⟨by have:=fx.out;have:=eg.out;have:=SL.out;have:=uX.out;omega⟩,⟨rr bT.out⟩,⟨rr bN.out⟩,⟨rr bW.out⟩,⟨bk b0⟩,⟨bk aw⟩,⟨bk az⟩,⟨bX HB bR bZ bi⟩⟩
        rw[if_pos ob]at H;have pO:decide (fj<(fJ.length:Int))=true:=decide_eq_true ob;clear ob;(first|rw[pO]|(simp only[cz,dS];rw[pO])|(simp only[c58b2,aaz,aaC])|skip)
        by_cases c59:0≤fj
        rotate_left
        ·
         rw[if_neg c59]at H;exact absurd H (by simp)
        rw[if_pos c59]at H;have wo:decide (0≤fj)=true:=decide_eq_true c59;clear c59
        by_cases rZ:fj<(fJ.length:Int)
        rotate_left
        ·
         rw[if_neg rZ]at H;exact absurd H (by simp)
        rw[if_pos rZ]at H;have wq:decide (fj<(fJ.length:Int))=true:=decide_eq_true rZ;clear rZ;have H':=Ah H;clear H;have sV:0≤(fj:Int):=od;have sW:fj<(fJ.length:Int):=od;obtain⟨SM,e695,wR,wS⟩:=fE (Kd.af nX.out).2.2 fj sV sW
        cases e695
        replace sV:=eq_true sV;replace sW:=eq_true sW
        go_wp2_with (first|((with_reducible refine ax (N:=24) rfl ?_);refine bA 24 38 #[.int .i64 0,.int .i64 0] ?_;intro kz hg GA jP hb;replace mv:=Ah (Kd.eO (Kd.gD (rr mv.out) kz (aaj hg.symm)) hb);replace nX:=Ah (Kd.eO (Kd.gD (rr nX.out) kz (aaj hg.symm)) hb);replace bT:=nr bT hb;replace bN:=nr bN hb;replace bW:=nr bW hb;have GW696:=gw hg (bX HB bR bZ bi);have pP:=gw hg (bX HB bR bZ bi);replace HB:=Ah (aK (bX HB bR bZ bi) hb);have GO:=nn b0 hg;have Lo:=nm b0 hg;replace b0:=nb b0 hb;have GP:=nn aw hg;have Lp:=nm aw hg;replace aw:=nb aw hb;have GQ:=nn az hg;have Lq:=nm az hg;replace az:=nb az hb;clear hb hg;have hnb62:=Lo.out;have hnc62:=GO.out;have a0Q:=Lp.out;have a0R:=GP.out;have SN:=Lq.out;have SO:=GQ.out;obtain⟨uw,wJ⟩:=nw jP;obtain⟨uz,wN⟩:=ny jP;obtain⟨ON,OO,eo66⟩:=Kd.bq mv.out;subst eo66))
        go_loopg [132] k2 (fun kq OP w'=>∃ (ee:Int),OP= .int .i64 ee∧U (b8.l1 kq l1 pk rE zc OK zd OL eu OM (LS (cO+((aE fJ fj).f1))) fJ (fJ.length:Int) fj eu (eu.length:Int) ee ca ((aE fJ fj).f0) ((aE fJ fj).f1)=some r)∧U (kq≤k2)∧U (Kd.R bd 38 w' w.heap.size (fun k_=>some k_≠((.slice (some SM) fJ.length Jk):Value).ownBlock∧k_≠kz) (.slice ON eu.length OO) eu)∧U (Kd.R bd 38 w' w.heap.size (fun k_=>some k_≠((.slice ON eu.length OO):Value).ownBlock∧some k_≠((.slice ON eu.length OO):Value).ownBlock∧k_≠kz) (.slice (some SM) fJ.length Jk) fJ)∧U (Kd.R bd 38 w' w.heap.size (fun k_=>some k_≠((.slice (some SM) fJ.length Jk):Value).ownBlock∧k_≠kz) (.slice ON eu.length OO) eu)∧U (Kd.R b7 65 w' w.heap.size (fun k_=>some k_≠((.slice dI ca.length cd):Value).ownBlock∧some k_≠((.slice dT cy.length dM):Value).ownBlock) (.slice di cx.length dj) cx)∧U (Kd.R b7 65 w' w.heap.size (fun k_=>some k_≠((.slice di cx.length dj):Value).ownBlock∧some k_≠((.slice dT cy.length dM):Value).ownBlock) (.slice dI ca.length cd) ca)∧U (Kd.R b7 65 w' w.heap.size (fun k_=>some k_≠((.slice di cx.length dj):Value).ownBlock∧some k_≠((.slice dI ca.length cd):Value).ownBlock) (.slice dT cy.length dM) cy)∧U (w'.heap[sJ]?=some (.cells #[(.slice di cx.length dj)] 25 (0,0)))∧U (w'.heap[sK]?=some (.cells #[(.slice dI ca.length cd)] 25 (0,0)))∧U (w'.heap[mu]?=some (.cells #[(.slice dT cy.length dM)] 25 (0,0)))∧U (w'.heap[kz]?=some (.cells #[.int .i64 ((aE fJ fj).f0),.int .i64 ((aE fJ fj).f1)] 38 (0,0)))∧U (Below w.heap.size w w'))
        case atStart=>exact⟨(0),e3,H',⟨bx _⟩,⟨by(with_reducible repeat(first|apply Kd.bG|apply Kd.bE|apply Kd.al));exact Kd.aY (Kd.aQ (p:=⟨kz,1,none⟩) (Kd.aQ (p:=⟨kz,0,none⟩) (Kd.aY mv.out (fun k_ hk=>(⟨hk,hk.2⟩:_∧k_≠kz))) (fun _ hk=>hk.2) (.int .i64 ((aE fJ fj).f0))) (fun _ hk=>hk.2) (.int .i64 ((aE fJ fj).f1))) (fun _ hk=>⟨hk.1.1,hk.1.2⟩)⟩,⟨by(with_reducible repeat(first|apply Kd.bG|apply Kd.bE|apply Kd.al));exact Kd.aY (Kd.aQ (p:=⟨kz,1,none⟩) (Kd.aQ (p:=⟨kz,0,none⟩) (Kd.aY nX.out (fun k_ hk=>(⟨hk,hk.2⟩:_∧k_≠kz))) (fun _ hk=>hk.2) (.int .i64 ((aE fJ fj).f0))) (fun _ hk=>hk.2) (.int .i64 ((aE fJ fj).f1))) (fun _ hk=>⟨hk.1.1,⟨hk.1.1,hk.1.2⟩⟩)⟩,⟨by(with_reducible repeat(first|apply Kd.bG|apply Kd.bE|apply Kd.al));exact Kd.aY (Kd.aQ (p:=⟨kz,1,none⟩) (Kd.aQ (p:=⟨kz,0,none⟩) (Kd.aY mv.out (fun k_ hk=>(⟨hk,hk.2⟩:_∧k_≠kz))) (fun _ hk=>hk.2) (.int .i64 ((aE fJ fj).f0))) (fun _ hk=>hk.2) (.int .i64 ((aE fJ fj).f1))) (fun _ hk=>⟨hk.1.1,hk.1.2⟩)⟩,⟨by(with_reducible repeat(first|apply Kd.bG|apply Kd.bE|apply Kd.al));exact Kd.aY (Kd.aQ (p:=⟨kz,1,none⟩) (Kd.aQ (p:=⟨kz,0,none⟩) (Kd.cl bT.out jP.out (by decide)) (fun _ hk=>hk.2) (.int .i64 ((aE fJ fj).f0))) (fun _ hk=>hk.2) (.int .i64 ((aE fJ fj).f1))) (fun _ hk=>⟨hk.1.1,hk.1.2⟩)⟩,⟨by(with_reducible repeat(first|apply Kd.bG|apply Kd.bE|apply Kd.al));exact Kd.aY (Kd.aQ (p:=⟨kz,1,none⟩) (Kd.aQ (p:=⟨kz,0,none⟩) (Kd.cl bN.out jP.out (by decide)) (fun _ hk=>hk.2) (.int .i64 ((aE fJ fj).f0))) (fun _ hk=>hk.2) (.int .i64 ((aE fJ fj).f1))) (fun _ hk=>⟨hk.1.1,hk.1.2⟩)⟩,⟨by(with_reducible repeat(first|apply Kd.bG|apply Kd.bE|apply Kd.al));exact Kd.aY (Kd.aQ (p:=⟨kz,1,none⟩) (Kd.aQ (p:=⟨kz,0,none⟩) (Kd.cl bW.out jP.out (by decide)) (fun _ hk=>hk.2) (.int .i64 ((aE fJ fj).f0))) (fun _ hk=>hk.2) (.int .i64 ((aE fJ fj).f1))) (fun _ hk=>⟨hk.1.1,hk.1.2⟩)⟩,⟨bf b0 GO⟩,⟨bf aw GP⟩,⟨bf az GQ⟩,⟨by(with_reducible repeat(first|refine aD ?_ _|refine Z ?_|refine aC ?_ _));refine aj (cs:= #[.int .i64 ((aE fJ fj).f0),.int .i64 0]) ?_ 1 _ rfl;(with_reducible repeat(first|refine aD ?_ _|refine Z ?_|refine aC ?_ _));refine aj (cs:= #[.int .i64 0,.int .i64 0]) ?_ 0 _ rfl;(with_reducible repeat(first|refine aD ?_ _|refine Z ?_|refine aC ?_ _));exact jP.out⟩,⟨dc HB bR bZ bi pP⟩⟩
        case round=>
         clear H'
         try clear c1
         try clear c2
         try clear p2
         try clear c3
         try clear iN
         try clear c4
         try clear c5
         try clear c6
         try clear p6
         try clear q6
         try clear hx6
         try clear c9
         try clear c10
         try clear c15
         try clear c21
         try clear ks
         try clear c24
         try clear lU
         try clear sL
         try clear pN
         try clear i3
         try clear c28
         try clear kY
         try clear c31
         try clear lH
         try clear c37
         try clear kZ
         try clear nz
         try clear lI
         try clear o0
         try clear c49
         try clear xr
         try clear ob
         try clear pO
         try clear c59
         try clear wo
         try clear rZ
         try clear wq
         try clear AJ
         try clear AK
         try clear c64
         try clear p64
         try clear lx
         try clear nQ
         try clear qR
         try clear mO
         try clear o6
         try clear qT
         try clear pE
         try clear nS
         try clear rv
         try clear t9
         try clear ry
         try clear uw wJ
         try clear ly
         try clear nR
         try clear qS
         try clear mP
         try clear o7
         try clear qU
         try clear pF
         try clear nT
         try clear rx
         try clear tA
         try clear rz
         try clear uz wN
         try clear wR
         try clear wS
         try clear p2
         try clear p6
         try clear sV
         try clear sW
         obtain⟨ee,rfl,HA,mg,mv,nX,tN,bT,bN,bW,b0,aw,az,jP,HB⟩:=hrel
         cases gk with
         |zero=>exact absurd HA.out (by simp[b8.l1])
         |succ k3=>
          have H:=HA.out;clear HA;simp only[b8.l1]at H
          as_aux_lemma=>
           by_cases qA:ee<(eu.length:Int)
           rotate_left
           ·
            rw[if_neg qA]at H;have ws:decide (ee<(eu.length:Int))=false:=decide_eq_false qA;clear qA;have H':=Ah H;clear H
            go_wp2
            go_roundg k3
            case measure=>have:=fx.out;have:=eg.out;have:=mg.out;omega
            case rel=>exact⟨((LS (cO+((aE fJ fj).f1)))),(LS (fj+1)),e3,e3,H',⟨by have:=fx.out;have:=eg.out;have:=mg.out;omega⟩,rm mv (fun _ hk=>hk.1),rm nX (fun _ hk=>hk.1),⟨rr bT.out⟩,⟨rr bN.out⟩,⟨rr bW.out⟩,⟨bk b0⟩,⟨bk aw⟩,⟨bk az⟩,⟨dc HB bR bZ bi pP⟩⟩
           rw[if_pos qA]at H;have ws:decide (ee<(eu.length:Int))=true:=decide_eq_true qA;clear qA
           by_cases sl:0≤ee
           rotate_left
           ·
            rw[if_neg sl]at H;exact absurd H (by simp)
           rw[if_pos sl]at H;have z9:decide (0≤ee)=true:=decide_eq_true sl;clear sl
           by_cases mK:ee<(eu.length:Int)
           rotate_left
           ·
            rw[if_neg mK]at H;exact absurd H (by simp)
           rw[if_pos mK]at H;have zA:decide (ee<(eu.length:Int))=true:=decide_eq_true mK;clear mK
           by_cases c70:((aE fJ fj).f0)<(LS (((aE eu ee).f0)+((aE eu ee).f1)))
           rotate_left
           ·
            rw[if_neg c70]at H;have wt:decide (((aE fJ fj).f0)<(LS (((aE eu ee).f0)+((aE eu ee).f1))))=false:=decide_eq_false c70;clear c70;have H':=Ah H;clear H;have m8:0≤(ee:Int):=od;have m9:ee<(eu.length:Int):=od;obtain⟨a0S,Jl,vC,vD⟩:=fE (Kd.af tN.out).2.2 ee m8 m9
            cases Jl
            replace m8:=eq_true m8;replace m9:=eq_true m9
            go_wp2_with (first|((with_reducible refine ax (N:=26) rfl ?_);refine bA 26 38 #[.int .i64 0,.int .i64 0] ?_;intro fz hg w92 pQ hb;replace mv:=Ah (Kd.eO (Kd.gD (rr mv.out) fz (aaj hg.symm)) hb);replace nX:=Ah (Kd.eO (Kd.gD (rr nX.out) fz (aaj hg.symm)) hb);replace tN:=Ah (Kd.eO (Kd.gD (rr tN.out) fz (aaj hg.symm)) hb);replace bT:=nr bT hb;replace bN:=nr bN hb;replace bW:=nr bW hb;have a0T:=gw hg (dc HB bR bZ bi pP);have I2:=gw hg (dc HB bR bZ bi pP);replace HB:=Ah (aK (dc HB bR bZ bi pP) hb);have AV:=nn b0 hg;have GR:=nm b0 hg;replace b0:=nb b0 hb;have AW:=nn aw hg;have GS:=nm aw hg;replace aw:=nb aw hb;have AX:=nn az hg;have GT:=nm az hg;replace az:=nb az hb;have AY:=nn jP hg;have GU:=nm jP hg;replace jP:=nb jP hb;clear hb hg;have hnb93:=GR.out;have hnc93:=AV.out;have hnb94:=GS.out;have hnc94:=AW.out;have hnb95:=GT.out;have hnc95:=AX.out;have hnb96:=GU.out;have hnc96:=AY.out;obtain⟨uy,yb⟩:=nw pQ;obtain⟨vB,yg⟩:=ny pQ;have hnb98:=Lo.out;have hnc98:=GO.out;have hnb99:=Lp.out;have hnc99:=GP.out;have hnb100:=Lq.out;have hnc100:=GQ.out;obtain⟨yR,yS⟩:=nw jP;obtain⟨yT,yU⟩:=ny jP))
            go_roundg k3
            case measure=>have:=fx.out;have:=eg.out;have:=mg.out;omega
            case rel=>exact⟨(LS (ee+1)),e3,H',⟨by have:=fx.out;have:=eg.out;have:=mg.out;omega⟩,⟨by(with_reducible repeat(first|apply Kd.bG|apply Kd.bE|apply Kd.al));exact Kd.aY (Kd.aQ (p:=⟨fz,1,none⟩) (Kd.aQ (p:=⟨fz,0,none⟩) (Kd.aY mv.out (fun k_ hk=>(⟨hk,hk.2⟩:_∧k_≠fz))) (fun _ hk=>hk.2) (.int .i64 ((aE eu ee).f0))) (fun _ hk=>hk.2) (.int .i64 ((aE eu ee).f1))) (fun _ hk=>⟨hk.1.1.1,hk.1.1.2⟩)⟩,⟨by(with_reducible repeat(first|apply Kd.bG|apply Kd.bE|apply Kd.al));exact Kd.aY (Kd.aQ (p:=⟨fz,1,none⟩) (Kd.aQ (p:=⟨fz,0,none⟩) (Kd.aY nX.out (fun k_ hk=>(⟨hk,hk.2⟩:_∧k_≠fz))) (fun _ hk=>hk.2) (.int .i64 ((aE eu ee).f0))) (fun _ hk=>hk.2) (.int .i64 ((aE eu ee).f1))) (fun _ hk=>⟨hk.1.1.1,⟨hk.1.1.2.1,hk.1.1.2.2⟩⟩)⟩,⟨by(with_reducible repeat(first|apply Kd.bG|apply Kd.bE|apply Kd.al));exact Kd.aY (Kd.aQ (p:=⟨fz,1,none⟩) (Kd.aQ (p:=⟨fz,0,none⟩) (Kd.aY tN.out (fun k_ hk=>(⟨hk,hk.2⟩:_∧k_≠fz))) (fun _ hk=>hk.2) (.int .i64 ((aE eu ee).f0))) (fun _ hk=>hk.2) (.int .i64 ((aE eu ee).f1))) (fun _ hk=>⟨hk.1.1.1,hk.1.1.2⟩)⟩,⟨by(with_reducible repeat(first|apply Kd.bG|apply Kd.bE|apply Kd.al));exact Kd.aY (Kd.aQ (p:=⟨fz,1,none⟩) (Kd.aQ (p:=⟨fz,0,none⟩) (Kd.cl bT.out pQ.out (by decide)) (fun _ hk=>hk.2) (.int .i64 ((aE eu ee).f0))) (fun _ hk=>hk.2) (.int .i64 ((aE eu ee).f1))) (fun _ hk=>⟨hk.1.1,hk.1.2⟩)⟩,⟨by(with_reducible repeat(first|apply Kd.bG|apply Kd.bE|apply Kd.al));exact Kd.aY (Kd.aQ (p:=⟨fz,1,none⟩) (Kd.aQ (p:=⟨fz,0,none⟩) (Kd.cl bN.out pQ.out (by decide)) (fun _ hk=>hk.2) (.int .i64 ((aE eu ee).f0))) (fun _ hk=>hk.2) (.int .i64 ((aE eu ee).f1))) (fun _ hk=>⟨hk.1.1,hk.1.2⟩)⟩,⟨by(with_reducible repeat(first|apply Kd.bG|apply Kd.bE|apply Kd.al));exact Kd.aY (Kd.aQ (p:=⟨fz,1,none⟩) (Kd.aQ (p:=⟨fz,0,none⟩) (Kd.cl bW.out pQ.out (by decide)) (fun _ hk=>hk.2) (.int .i64 ((aE eu ee).f0))) (fun _ hk=>hk.2) (.int .i64 ((aE eu ee).f1))) (fun _ hk=>⟨hk.1.1,hk.1.2⟩)⟩,⟨bf b0 AV⟩,⟨bf aw AW⟩,⟨bf az AX⟩,⟨bf jP AY⟩,⟨AG HB bR bZ bi pP I2⟩⟩
           rw[if_pos c70]at H;have wt:decide (((aE fJ fj).f0)<(LS (((aE eu ee).f0)+((aE eu ee).f1))))=true:=decide_eq_true c70;clear c70
           by_cases ka:((aE eu ee).f0)<(LS (((aE fJ fj).f0)+((aE fJ fj).f1)))
           ·
            rw[if_pos ka]at H;have tO:decide (((aE eu ee).f0)<(LS (((aE fJ fj).f0)+((aE fJ fj).f1))))=true:=decide_eq_true ka;clear ka;obtain rfl:=iz H;have m8:0≤(ee:Int):=od;have m9:ee<(eu.length:Int):=od;obtain⟨a0S,Jl,vC,vD⟩:=fE (Kd.af tN.out).2.2 ee m8 m9
            cases Jl
            replace m8:=eq_true m8;replace m9:=eq_true m9
            go_wp2_with (first|((with_reducible refine ax (N:=26) rfl ?_);refine bA 26 38 #[.int .i64 0,.int .i64 0] ?_;intro fz hg w72 pQ hb;replace mv:=Ah (Kd.eO (Kd.gD (rr mv.out) fz (aaj hg.symm)) hb);replace nX:=Ah (Kd.eO (Kd.gD (rr nX.out) fz (aaj hg.symm)) hb);replace tN:=Ah (Kd.eO (Kd.gD (rr tN.out) fz (aaj hg.symm)) hb);replace bT:=nr bT hb;replace bN:=nr bN hb;replace bW:=nr bW hb;have a0T:=gw hg (dc HB bR bZ bi pP);have I2:=gw hg (dc HB bR bZ bi pP);replace HB:=Ah (aK (dc HB bR bZ bi pP) hb);have AV:=nn b0 hg;have GR:=nm b0 hg;replace b0:=nb b0 hb;have AW:=nn aw hg;have GS:=nm aw hg;replace aw:=nb aw hb;have AX:=nn az hg;have GT:=nm az hg;replace az:=nb az hb;have AY:=nn jP hg;have GU:=nm jP hg;replace jP:=nb jP hb;clear hb hg;have hnb73:=GR.out;have hnc73:=AV.out;have hnb74:=GS.out;have hnc74:=AW.out;have a0U:=GT.out;have a0V:=AX.out;have a0W:=GU.out;have a0X:=AY.out;obtain⟨wK,wL⟩:=nw pQ;obtain⟨wO,wP⟩:=ny pQ;have a0Y:=Lo.out;have a0Z:=GO.out;have a00:=Lp.out;have a01:=GP.out;have hnb80:=Lq.out;have hnc80:=GQ.out;obtain⟨yX,yY⟩:=nw jP;obtain⟨yc,yd⟩:=ny jP))
            go_ret
            exact⟨er,AG HB bR bZ bi pP I2⟩
           rw[if_neg ka]at H;have tO:decide (((aE eu ee).f0)<(LS (((aE fJ fj).f0)+((aE fJ fj).f1))))=false:=decide_eq_false ka;clear ka;have H':=Ah H;clear H;have m8:0≤(ee:Int):=od;have m9:ee<(eu.length:Int):=od;obtain⟨a0S,Jl,vC,vD⟩:=fE (Kd.af tN.out).2.2 ee m8 m9
           cases Jl
           replace m8:=eq_true m8;replace m9:=eq_true m9
           go_wp2_with (first|((with_reducible refine ax (N:=26) rfl ?_);refine bA 26 38 #[.int .i64 0,.int .i64 0] ?_;intro fz hg w82 pQ hb;replace mv:=Ah (Kd.eO (Kd.gD (rr mv.out) fz (aaj hg.symm)) hb);replace nX:=Ah (Kd.eO (Kd.gD (rr nX.out) fz (aaj hg.symm)) hb);replace tN:=Ah (Kd.eO (Kd.gD (rr tN.out) fz (aaj hg.symm)) hb);replace bT:=nr bT hb;replace bN:=nr bN hb;replace bW:=nr bW hb;have a0T:=gw hg (dc HB bR bZ bi pP);have I2:=gw hg (dc HB bR bZ bi pP);replace HB:=Ah (aK (dc HB bR bZ bi pP) hb);have AV:=nn b0 hg;have GR:=nm b0 hg;replace b0:=nb b0 hb;have AW:=nn aw hg;have GS:=nm aw hg;replace aw:=nb aw hb;have AX:=nn az hg;have GT:=nm az hg;replace az:=nb az hb;have AY:=nn jP hg;have GU:=nm jP hg;replace jP:=nb jP hb;clear hb hg;have a02:=GR.out;have a03:=AV.out;have a04:=GS.out;have a05:=AW.out;have hnb85:=GT.out;have hnc85:=AX.out;have hnb86:=GU.out;have hnc86:=AY.out;obtain⟨ux,wM⟩:=nw pQ;obtain⟨vA,wQ⟩:=ny pQ;have hnb88:=Lo.out;have hnc88:=GO.out;have a06:=Lp.out;have a07:=GP.out;have hnb90:=Lq.out;have hnc90:=GQ.out;obtain⟨yZ,ya⟩:=nw jP;obtain⟨ye,yf⟩:=ny jP))
           go_roundg k3
           case measure=>have:=fx.out;have:=eg.out;have:=mg.out;omega
           case rel=>exact⟨(LS (ee+1)),e3,H',⟨by have:=fx.out;have:=eg.out;have:=mg.out;omega⟩,⟨by(with_reducible repeat(first|apply Kd.bG|apply Kd.bE|apply Kd.al));exact Kd.aY (Kd.aQ (p:=⟨fz,1,none⟩) (Kd.aQ (p:=⟨fz,0,none⟩) (Kd.aY mv.out (fun k_ hk=>(⟨hk,hk.2⟩:_∧k_≠fz))) (fun _ hk=>hk.2) (.int .i64 ((aE eu ee).f0))) (fun _ hk=>hk.2) (.int .i64 ((aE eu ee).f1))) (fun _ hk=>⟨hk.1.1.1,hk.1.1.2⟩)⟩,⟨by(with_reducible repeat(first|apply Kd.bG|apply Kd.bE|apply Kd.al));exact Kd.aY (Kd.aQ (p:=⟨fz,1,none⟩) (Kd.aQ (p:=⟨fz,0,none⟩) (Kd.aY nX.out (fun k_ hk=>(⟨hk,hk.2⟩:_∧k_≠fz))) (fun _ hk=>hk.2) (.int .i64 ((aE eu ee).f0))) (fun _ hk=>hk.2) (.int .i64 ((aE eu ee).f1))) (fun _ hk=>⟨hk.1.1.1,⟨hk.1.1.2.1,hk.1.1.2.2⟩⟩)⟩,⟨by(with_reducible repeat(first|apply Kd.bG|apply Kd.bE|apply Kd.al));exact Kd.aY (Kd.aQ (p:=⟨fz,1,none⟩) (Kd.aQ (p:=⟨fz,0,none⟩) (Kd.aY tN.out (fun k_ hk=>(⟨hk,hk.2⟩:_∧k_≠fz))) (fun _ hk=>hk.2) (.int .i64 ((aE eu ee).f0))) (fun _ hk=>hk.2) (.int .i64 ((aE eu ee).f1))) (fun _ hk=>⟨hk.1.1.1,hk.1.1.2⟩)⟩,⟨by(with_reducible repeat(first|apply Kd.bG|apply Kd.bE|apply Kd.al));exact Kd.aY (Kd.aQ (p:=⟨fz,1,none⟩) (Kd.aQ (p:=⟨fz,0,none⟩) (Kd.cl bT.out pQ.out (by decide)) (fun _ hk=>hk.2) (.int .i64 ((aE eu ee).f0))) (fun _ hk=>hk.2) (.int .i64 ((aE eu ee).f1))) (fun _ hk=>⟨hk.1.1,hk.1.2⟩)⟩,⟨by(with_reducible repeat(first|apply Kd.bG|apply Kd.bE|apply Kd.al));exact Kd.aY (Kd.aQ (p:=⟨fz,1,none⟩) (Kd.aQ (p:=⟨fz,0,none⟩) (Kd.cl bN.out pQ.out (by decide)) (fun _ hk=>hk.2) (.int .i64 ((aE eu ee).f0))) (fun _ hk=>hk.2) (.int .i64 ((aE eu ee).f1))) (fun _ hk=>⟨hk.1.1,hk.1.2⟩)⟩,⟨by(with_reducible repeat(first|apply Kd.bG|apply Kd.bE|apply Kd.al));exact Kd.aY (Kd.aQ (p:=⟨fz,1,none⟩) (Kd.aQ (p:=⟨fz,0,none⟩) (Kd.cl bW.out pQ.out (by decide)) (fun _ hk=>hk.2) (.int .i64 ((aE eu ee).f0))) (fun _ hk=>hk.2) (.int .i64 ((aE eu ee).f1))) (fun _ hk=>⟨hk.1.1,hk.1.2⟩)⟩,⟨bf b0 AV⟩,⟨bf aw AW⟩,⟨bf az AX⟩,⟨bf jP AY⟩,⟨AG HB bR bZ bi pP I2⟩⟩
    case rest=>
     clear UM
     try clear c1
     try clear c2
     try clear p2
     try clear c3
     try clear iN
     try clear c4
     try clear c5
     try clear c6
     try clear p6
     try clear q6
     try clear hx6
     try clear c7
     try clear c8
     try clear c9
     try clear c10
     try clear c11
     try clear c12
     try clear c15
     try clear c21
     try clear ks
     try clear c24
     try clear lU
     try clear sL
     try clear pN
     try clear i3
     try clear c28
     try clear kY
     try clear c31
     try clear lH
     try clear c37
     try clear kZ
     try clear nz
     try clear lI
     try clear o0
     try clear c49
     try clear xr
     try clear ob
     try clear pO
     try clear c59
     try clear wo
     try clear rZ
     try clear wq
     try clear AJ
     try clear AK
     try clear c64
     try clear p64
     try clear qA
     try clear ws
     try clear sl
     try clear z9
     try clear mK
     try clear zA
     try clear p69
     try clear qB
     try clear Cd
     try clear c70
     try clear wt
     try clear ka
     try clear tO
     try clear Dj
     try clear Dk
     try clear c75
     try clear c76
     try clear Dl
     try clear Dm
     try clear c80
     try clear xt
     try clear xu
     try clear c85
     try clear Dn
     try clear Do
     try clear Dp
     try clear Dq
     try clear c93
     try clear Dr
     try clear xv
     try clear xw
     try clear Ds
     try clear Dt
     try clear xN
     try clear sT
     try clear sU
     try clear c105
     try clear n9
     try clear qo
     try clear wh
     try clear xO
     try clear c109
     try clear tu
     try clear sX
     try clear C0
     try clear vU
     try clear c116
     try clear C1
     try clear C2
     try clear c117
     try clear Jm
     try clear Jn
     try clear Jo
     try clear Ce
     try clear Cf
     try clear yR yS
     try clear ur
     try clear Ak
     try clear lx
     try clear ED
     try clear wE
     try clear nQ
     try clear qR
     try clear mO
     try clear o6
     try clear qT
     try clear pE
     try clear nS
     try clear rv
     try clear t9
     try clear ry
     try clear uw wJ
     try clear wK wL
     try clear yX yY
     try clear ux wM
     try clear yZ ya
     try clear uy yb
     try clear yT yU
     try clear us
     try clear Al
     try clear ly
     try clear EE
     try clear wF
     try clear nR
     try clear qS
     try clear mP
     try clear o7
     try clear qU
     try clear pF
     try clear nT
     try clear rx
     try clear tA
     try clear rz
     try clear uz wN
     try clear wO wP
     try clear yc yd
     try clear vA wQ
     try clear ye yf
     try clear vB yg
     try clear wR
     try clear wS
     try clear vC
     try clear vD
     try clear p2
     try clear p6
     try clear p64
     try clear p69
     try clear sV
     try clear m8
     try clear q6
     try clear qB
     try clear sW
     try clear m9
     obtain⟨kq,HA,pm,bT,bN,bW,b0,aw,az,HB⟩:=hcut
     cases kq with
     |zero=>exact absurd HA.out (by simp[b8.j5])
     |succ Jp=>
      have H:=HA.out;clear HA;simp only[b8.j5]at H
      as_aux_lemma=>
       replace H:=LT.mp H;obtain⟨⟨dg,rF,vV⟩,a08,H⟩:=H
       try dsimp only at H
       have A129:=Ah a08;clear a08;replace H:=LT.mp H;obtain⟨⟨du,tv⟩,a09,H⟩:=H
       try dsimp only at H
       have rG:=Ah a09;clear a09;replace H:=LT.mp H;obtain⟨⟨f5,xP⟩,a1a,H⟩:=H
       try dsimp only at H
       have A131:=Ah a1a;clear a1a;have SP:=Ah H;clear H
       go_upto_region 35 with(first|((with_reducible refine bJ (f:=13) rfl ?_);refine gL (some 201) rfl rfl Try.func13 (by kernel_rfl) rfl #[.slice A1 l1.length c1] rfl ?_;(with_reducible refine(dp.calls Jp _ _ l1 dg rF vV _ ?a8 ?a9 A129.out).mono ?_);(case a8=>exact cb HR1 HB);(case a9=>exact PO.out);rintro e w133 ⟨v704,rfl,ho0,hb⟩;refine⟨_,rfl, ?_⟩;have l5:=Ah (Kd.dD (Kd.ec (Kd.ec (Kd.ec ho0 (Kd.dU (rr bT.out))) (Kd.dU (rr bN.out))) (Kd.dU (rr bW.out))) (be (bX HB bR bZ bi)));replace bT:=Ah (Kd.eZ (rr bT.out) (Kd.eX ho0) hb);replace bN:=Ah (Kd.eZ (rr bN.out) (Kd.eX ho0) hb);replace bW:=Ah (Kd.eZ (rr bW.out) (Kd.eX ho0) hb);replace b0:=nb b0 hb;replace aw:=nb aw hb;replace az:=nb az hb;replace HB:=Ah (aK (bX HB bR bZ bi) hb);(try clear hb ho0))|((with_reducible refine ax (N:=31) rfl ?_);refine bA 31 25 #[.slice none 0 0] ?_;intro Ey hg w134 cJ hb;replace bT:=nr bT hb;replace bN:=nr bN hb;replace bW:=nr bW hb;replace l5:=nr l5 hb;have GW708:=gw hg (bX HB bR bZ bi);have dX:=gw hg (bX HB bR bZ bi);replace HB:=Ah (aK (bX HB bR bZ bi) hb);have Py:=nn b0 hg;have Xc:=nm b0 hg;replace b0:=nb b0 hb;have Pz:=nn aw hg;have Xd:=nm aw hg;replace aw:=nb aw hb;have Q0:=nn az hg;have Xe:=nm az hg;replace az:=nb az hb;clear hb hg;obtain⟨fF,fG,eo135⟩:=Kd.bq l5.out;subst eo135;have hnb136:=Xc.out;have hnc136:=Py.out;have hnb137:=Xd.out;have hnc137:=Pz.out;have hnb138:=Xe.out;have hnc138:=Q0.out;have Gy:=ap cJ;have Gz:=an cJ)|((with_reducible refine bJ (f:=14) rfl ?_);refine gL (some 209) rfl rfl Try.func14 (by kernel_rfl) rfl #[.agg #[.slice fF dg.length fG],.int .i64 rF,.int .i64 vV] rfl ?_;(with_reducible refine(gz.calls Jp _ _ dg rF vV du tv _ ?a8 ?a9 rG.out).mono ?_);(case a8=>exact rc l5 cJ);(case a9=>exact(Kd.af l5.out).2.1);rintro e w140 ⟨v710,rfl,ho0,hb⟩;refine⟨_,rfl, ?_⟩;have pS:=Ah (Kd.dD (Kd.ec (Kd.ec (Kd.ec (Kd.ec ho0 (Kd.dU (rf bT cJ))) (Kd.dU (rf bN cJ))) (Kd.dU (rf bW cJ))) (Kd.dU (rf l5 cJ))) (be (dc HB bR bZ bi dX)));replace bT:=Ah (Kd.eZ (rf bT cJ) (Kd.eX ho0) hb);replace bN:=Ah (Kd.eZ (rf bN cJ) (Kd.eX ho0) hb);replace bW:=Ah (Kd.eZ (rf bW cJ) (Kd.eX ho0) hb);replace l5:=Ah (Kd.eZ (rf l5 cJ) (Kd.eX ho0) hb);replace b0:=Ah (cC (bf b0 Py) hb);replace aw:=Ah (cC (bf aw Pz) hb);replace az:=Ah (cC (bf az Q0) hb);replace cJ:=Ah (cC (g:=Ey) (o:= .cells #[.slice fF dg.length fG] 25 (0,0)) (by(with_reducible repeat(first|refine aD ?_ _|refine Z ?_|refine aC ?_ _));refine aj (cs:= #[.slice none 0 0]) ?_ 0 _ rfl;(with_reducible repeat(first|refine aD ?_ _|refine Z ?_|refine aC ?_ _));exact cJ.out) hb);replace HB:=Ah (aK (dc HB bR bZ bi dX) hb);(try clear hb ho0))|((with_reducible refine ax (N:=34) rfl ?_);refine bA 34 25 #[.slice none 0 0] ?_;intro Ez hg w141 bu hb;replace bT:=nr bT hb;replace bN:=nr bN hb;replace bW:=nr bW hb;replace l5:=nr l5 hb;replace pS:=nr pS hb;have GW713:=gw hg (dc HB bR bZ bi dX);have dt:=gw hg (dc HB bR bZ bi dX);replace HB:=Ah (aK (dc HB bR bZ bi dX) hb);have sv:=nn b0 hg;have ug:=nm b0 hg;replace b0:=nb b0 hb;have sw:=nn aw hg;have uh:=nm aw hg;replace aw:=nb aw hb;have sx:=nn az hg;have ui:=nm az hg;replace az:=nb az hb;have Lr:=nn cJ hg;have Q1:=nm cJ hg;replace cJ:=nb cJ hb;clear hb hg;obtain⟨fQ,fR,eo142⟩:=Kd.bq pS.out;subst eo142;have hnb143:=ug.out;have hnc143:=sv.out;have hnb144:=uh.out;have hnc144:=sw.out;have hnb145:=ui.out;have hnc145:=sx.out;have hnb146:=Q1.out;have hnc146:=Lr.out;have H0:=ap bu;have H1:=an bu;have Am:=ap cJ;have An:=an cJ)|((with_reducible refine bJ (f:=15) rfl ?_);refine gL (some 216) rfl rfl Try.func15 (by kernel_rfl) rfl #[.agg #[.slice fF dg.length fG],.int .i64 rF,.int .i64 vV] rfl ?_;(with_reducible refine(eY.calls Jp _ _ dg rF vV f5 xP _ ?a8 ?a9 A131.out).mono ?_);(case a8=>exact rc l5 bu);(case a9=>exact(Kd.af l5.out).2.1);rintro e w149 ⟨v715,rfl,ho0,hb⟩;refine⟨_,rfl, ?_⟩;have wu:=Ah (Kd.dD (Kd.ec (Kd.ec (Kd.ec (Kd.ec (Kd.ec ho0 (Kd.dU (rf bT bu))) (Kd.dU (rf bN bu))) (Kd.dU (rf bW bu))) (Kd.dU (rf l5 bu))) (Kd.dU (rf pS bu))) (be (AG HB bR bZ bi dX dt)));replace bT:=Ah (Kd.eZ (rf bT bu) (Kd.eX ho0) hb);replace bN:=Ah (Kd.eZ (rf bN bu) (Kd.eX ho0) hb);replace bW:=Ah (Kd.eZ (rf bW bu) (Kd.eX ho0) hb);replace l5:=Ah (Kd.eZ (rf l5 bu) (Kd.eX ho0) hb);replace pS:=Ah (Kd.eZ (rf pS bu) (Kd.eX ho0) hb);replace b0:=Ah (cC (bf b0 sv) hb);replace aw:=Ah (cC (bf aw sw) hb);replace az:=Ah (cC (bf az sx) hb);replace cJ:=Ah (cC (bf cJ Lr) hb);replace bu:=Ah (cC (g:=Ez) (o:= .cells #[.slice fQ du.length fR] 25 (0,0)) (by(with_reducible repeat(first|refine aD ?_ _|refine Z ?_|refine aC ?_ _));refine aj (cs:= #[.slice none 0 0]) ?_ 0 _ rfl;(with_reducible repeat(first|refine aD ?_ _|refine Z ?_|refine aC ?_ _));exact bu.out) hb);replace HB:=Ah (aK (AG HB bR bZ bi dX dt) hb);(try clear hb ho0))|((with_reducible refine ax (N:=36) rfl ?_);refine bA 36 25 #[.slice none 0 0] ?_;intro sM hg w150 cg hb;replace bT:=nr bT hb;replace bN:=nr bN hb;replace bW:=nr bW hb;replace l5:=nr l5 hb;replace pS:=nr pS hb;replace wu:=nr wu hb;have GW718:=gw hg (AG HB bR bZ bi dX dt);have eG:=gw hg (AG HB bR bZ bi dX dt);replace HB:=Ah (aK (AG HB bR bZ bi dX dt) hb);have Ls:=nn b0 hg;have Xf:=nm b0 hg;replace b0:=nb b0 hb;have Lt:=nn aw hg;have Xg:=nm aw hg;replace aw:=nb aw hb;have Lu:=nn az hg;have Xh:=nm az hg;replace az:=nb az hb;have GV:=nn cJ hg;have Q2:=nm cJ hg;replace cJ:=nb cJ hb;have ro:=nn bu hg;have uj:=nm bu hg;replace bu:=nb bu hb;clear hb hg;obtain⟨fY,fZ,eo151⟩:=Kd.bq wu.out;subst eo151;have hnb152:=Xf.out;have hnc152:=Ls.out;have hnb153:=Xg.out;have hnc153:=Lt.out;have hnb154:=Xh.out;have hnc154:=Lu.out;have hnb155:=Q2.out;have hnc155:=GV.out;have hnb156:=uj.out;have hnc156:=ro.out;have H2:=ap cg;have H3:=an cg))
       (try simp only[Act.put,Ok,bY,dl])
       go_cut [227] (fun v227 wc=>∃ (kq:Nat) (M6:Bool),v227= .bool M6∧U (b8.j6 kq l1 rF vV tv M6 dg du=some r)∧U (kq≤Jp)∧U (Kd.R b7 65 wc w.heap.size (fun k_=>some k_≠((.slice dI ca.length cd):Value).ownBlock∧some k_≠((.slice dT cy.length dM):Value).ownBlock∧some k_≠((.slice fF dg.length fG):Value).ownBlock∧some k_≠((.slice fQ du.length fR):Value).ownBlock∧some k_≠((.slice fY f5.length fZ):Value).ownBlock) (.slice di cx.length dj) cx)∧U (Kd.R b7 65 wc w.heap.size (fun k_=>some k_≠((.slice di cx.length dj):Value).ownBlock∧some k_≠((.slice dT cy.length dM):Value).ownBlock∧some k_≠((.slice fF dg.length fG):Value).ownBlock∧some k_≠((.slice fQ du.length fR):Value).ownBlock∧some k_≠((.slice fY f5.length fZ):Value).ownBlock) (.slice dI ca.length cd) ca)∧U (Kd.R b7 65 wc w.heap.size (fun k_=>some k_≠((.slice di cx.length dj):Value).ownBlock∧some k_≠((.slice dI ca.length cd):Value).ownBlock∧some k_≠((.slice fF dg.length fG):Value).ownBlock∧some k_≠((.slice fQ du.length fR):Value).ownBlock∧some k_≠((.slice fY f5.length fZ):Value).ownBlock) (.slice dT cy.length dM) cy)∧U (Kd.R b7 65 wc w.heap.size (fun k_=>some k_≠((.slice di cx.length dj):Value).ownBlock∧some k_≠((.slice dI ca.length cd):Value).ownBlock∧some k_≠((.slice dT cy.length dM):Value).ownBlock∧some k_≠((.slice fQ du.length fR):Value).ownBlock∧some k_≠((.slice fY f5.length fZ):Value).ownBlock) (.slice fF dg.length fG) dg)∧U (Kd.R b7 65 wc w.heap.size (fun k_=>some k_≠((.slice di cx.length dj):Value).ownBlock∧some k_≠((.slice dI ca.length cd):Value).ownBlock∧some k_≠((.slice dT cy.length dM):Value).ownBlock∧some k_≠((.slice fF dg.length fG):Value).ownBlock∧some k_≠((.slice fY f5.length fZ):Value).ownBlock) (.slice fQ du.length fR) du)∧U (Kd.R b7 65 wc w.heap.size (fun k_=>some k_≠((.slice di cx.length dj):Value).ownBlock∧some k_≠((.slice dI ca.length cd):Value).ownBlock∧some k_≠((.slice dT cy.length dM):Value).ownBlock∧some k_≠((.slice fF dg.length fG):Value).ownBlock∧some k_≠((.slice fQ du.length fR):Value).ownBlock) (.slice fY f5.length fZ) f5)∧U (wc.heap[sJ]?=some (.cells #[(.slice di cx.length dj)] 25 (0,0)))∧U (wc.heap[sK]?=some (.cells #[(.slice dI ca.length cd)] 25 (0,0)))∧U (wc.heap[mu]?=some (.cells #[(.slice dT cy.length dM)] 25 (0,0)))∧U (wc.heap[Ey]?=some (.cells #[(.slice fF dg.length fG)] 25 (0,0)))∧U (wc.heap[Ez]?=some (.cells #[(.slice fQ du.length fR)] 25 (0,0)))∧U (wc.heap[sM]?=some (.cells #[(.slice fY f5.length fZ)] 25 (0,0)))∧U (Below w.heap.size w wc))
       case first=>
        have H:=SP.out;clear SP
        by_cases nA:(tv !=xP)=true
        ·
         rw[if_pos nA]at H;have vH:(tv !=xP)=true:=nA;(try(have Ej:decide (tv=xP)=false:=by simpa using nA));(try(have z4:(tv==xP)=false:=by simpa using nA));(try(have c158b3:¬(tv=xP):=by simpa using nA));clear nA;(first|rw[vH]|(simp only[cz,dS];rw[vH])|(simp only[z4,aaz,aaC])|skip);have H':=Ah H;clear H
         go_wp2
         go_meet
         case rel=>exact⟨_,(true),e3,H',⟨by have:=fx.out;have:=pm.out;first|omega|exact bx _⟩,⟨by(with_reducible repeat(first|apply Kd.bG|apply Kd.bE|apply Kd.al));exact Kd.aY (Kd.aQ (p:=⟨sM,0,none⟩) (Kd.cl bT.out cg.out (by decide)) (fun _ hk=>hk.2) (.slice fY f5.length fZ)) (fun _ hk=>⟨hk.1.1.1.1.1,⟨hk.1.1.1.1.2,⟨hk.1.1.1.2,⟨hk.1.1.2,hk.1.2⟩⟩⟩⟩)⟩,⟨by(with_reducible repeat(first|apply Kd.bG|apply Kd.bE|apply Kd.al));exact Kd.aY (Kd.aQ (p:=⟨sM,0,none⟩) (Kd.cl bN.out cg.out (by decide)) (fun _ hk=>hk.2) (.slice fY f5.length fZ)) (fun _ hk=>⟨hk.1.1.1.1.1,⟨hk.1.1.1.1.2,⟨hk.1.1.1.2,⟨hk.1.1.2,hk.1.2⟩⟩⟩⟩)⟩,⟨by(with_reducible repeat(first|apply Kd.bG|apply Kd.bE|apply Kd.al));exact Kd.aY (Kd.aQ (p:=⟨sM,0,none⟩) (Kd.cl bW.out cg.out (by decide)) (fun _ hk=>hk.2) (.slice fY f5.length fZ)) (fun _ hk=>⟨hk.1.1.1.1.1,⟨hk.1.1.1.1.2,⟨hk.1.1.1.2,⟨hk.1.1.2,hk.1.2⟩⟩⟩⟩)⟩,⟨by(with_reducible repeat(first|apply Kd.bG|apply Kd.bE|apply Kd.al));exact Kd.aY (Kd.aQ (p:=⟨sM,0,none⟩) (Kd.cl l5.out cg.out (by decide)) (fun _ hk=>hk.2) (.slice fY f5.length fZ)) (fun _ hk=>⟨hk.1.1.1.1.1.2,⟨hk.1.1.1.1.2,⟨hk.1.1.1.2,⟨hk.1.1.2,hk.1.2⟩⟩⟩⟩)⟩,⟨by(with_reducible repeat(first|apply Kd.bG|apply Kd.bE|apply Kd.al));exact Kd.aY (Kd.aQ (p:=⟨sM,0,none⟩) (Kd.cl pS.out cg.out (by decide)) (fun _ hk=>hk.2) (.slice fY f5.length fZ)) (fun _ hk=>⟨hk.1.1.1.1.1.2,⟨hk.1.1.1.1.2,⟨hk.1.1.1.2,⟨hk.1.1.2,hk.1.2⟩⟩⟩⟩)⟩,⟨by(with_reducible repeat(first|apply Kd.bG|apply Kd.bE|apply Kd.al));exact Kd.aY (Kd.aQ (p:=⟨sM,0,none⟩) (Kd.cl wu.out cg.out (by decide)) (fun _ hk=>hk.2) (.slice fY f5.length fZ)) (fun _ hk=>⟨hk.1.1.1.1.1.2,⟨hk.1.1.1.1.2,⟨hk.1.1.1.2,⟨hk.1.1.2,hk.1.2⟩⟩⟩⟩)⟩,⟨bf b0 Ls⟩,⟨bf aw Lt⟩,⟨bf az Lu⟩,⟨bf cJ GV⟩,⟨bf bu ro⟩,⟨by(with_reducible repeat(first|refine aD ?_ _|refine Z ?_|refine aC ?_ _));refine aj (cs:= #[.slice none 0 0]) ?_ 0 _ rfl;(with_reducible repeat(first|refine aD ?_ _|refine Z ?_|refine aC ?_ _));exact cg.out⟩,⟨gl HB bR bZ bi dX dt eG⟩⟩
        rw[if_neg nA]at H
        have vH:(tv !=xP)=false:=by simpa using nA
        (try(have Ej:decide (tv=xP)=true:=by simpa using nA));(try(have z4:(tv==xP)=true:=by simpa using nA));clear nA;(first|rw[vH]|(simp only[cz,dS];rw[vH])|(simp only[z4,aaz,aaC])|skip);replace H:=LT.mp H;obtain⟨OG,a1b,H⟩:=H
        try dsimp only at H
        have A159:=Ah a1b;clear a1b;have H':=Ah H;clear H;have hnb160:=ug.out;have hnc160:=sv.out;have hnb161:=uh.out;have hnc161:=sw.out;have hnb162:=ui.out;have hnc162:=sx.out;have hnb163:=Q1.out;have hnc163:=Lr.out;have hnb164:=ro.out;have hnc164:=uj.out;have H4:=ap bu;have H5:=an bu;have hnb166:=Xf.out;have hnc166:=Ls.out;have hnb167:=Xg.out;have hnc167:=Lt.out;have hnb168:=Xh.out;have hnc168:=Lu.out;have hnb169:=Q2.out;have hnc169:=GV.out;have Ao:=ap cg;have Ap:=an cg
        go_wp2_with (first|(go_at_call 7;(with_reducible refine(hD.calls Jp _ _ du _ _ f5 OG _ ?a8 ?a9 ?dm ?qu A159.out).mono ?_);(case a8=>exact rc pS cg);(case a9=>exact(Kd.af pS.out).2.1);(case dm=>exact rc wu cg);(case qu=>exact(Kd.af wu.out).2.1);rintro e w171 ⟨rfl,hb⟩;replace bT:=nf bT cg hb;replace bN:=nf bN cg hb;replace bW:=nf bW cg hb;replace l5:=nf l5 cg hb;replace pS:=nf pS cg hb;replace wu:=nf wu cg hb;replace b0:=Ah (cC (bf b0 Ls) hb);replace aw:=Ah (cC (bf aw Lt) hb);replace az:=Ah (cC (bf az Lu) hb);replace cJ:=Ah (cC (bf cJ GV) hb);replace bu:=Ah (cC (bf bu ro) hb);replace cg:=Ah (cC (g:=sM) (o:= .cells #[.slice fY f5.length fZ] 25 (0,0)) (by(with_reducible repeat(first|refine aD ?_ _|refine Z ?_|refine aC ?_ _));refine aj (cs:= #[.slice none 0 0]) ?_ 0 _ rfl;(with_reducible repeat(first|refine aD ?_ _|refine Z ?_|refine aC ?_ _));exact cg.out) hb);replace HB:=Ah (aK (gl HB bR bZ bi dX dt eG) hb);(try clear hb)))
        go_meet
        case rel=>exact⟨_,(!OG),e3,H',⟨by have:=fx.out;have:=pm.out;first|omega|exact bx _⟩,rm bT (fun _ hk=>⟨hk.1.1.1.1,⟨hk.1.1.1.2,⟨hk.1.1.2,⟨hk.1.2,hk.2⟩⟩⟩⟩),rm bN (fun _ hk=>⟨hk.1.1.1.1,⟨hk.1.1.1.2,⟨hk.1.1.2,⟨hk.1.2,hk.2⟩⟩⟩⟩),rm bW (fun _ hk=>⟨hk.1.1.1.1,⟨hk.1.1.1.2,⟨hk.1.1.2,⟨hk.1.2,hk.2⟩⟩⟩⟩),rm l5 (fun _ hk=>⟨hk.1.1.1.1.2,⟨hk.1.1.1.2,⟨hk.1.1.2,⟨hk.1.2,hk.2⟩⟩⟩⟩),rm pS (fun _ hk=>⟨hk.1.1.1.1.2,⟨hk.1.1.1.2,⟨hk.1.1.2,⟨hk.1.2,hk.2⟩⟩⟩⟩),rm wu (fun _ hk=>⟨hk.1.1.1.1.2,⟨hk.1.1.1.2,⟨hk.1.1.2,⟨hk.1.2,hk.2⟩⟩⟩⟩),⟨bk b0⟩,⟨bk aw⟩,⟨bk az⟩,⟨bk cJ⟩,⟨bk bu⟩,⟨bk cg⟩,⟨gl HB bR bZ bi dX dt eG⟩⟩
       case rest=>
        clear SP
        try clear c1
        try clear c2
        try clear p2
        try clear c3
        try clear iN
        try clear c4
        try clear c5
        try clear c6
        try clear p6
        try clear q6
        try clear hx6
        try clear c7
        try clear c8
        try clear c9
        try clear c10
        try clear c11
        try clear c12
        try clear c13
        try clear c14
        try clear c15
        try clear c16
        try clear c21
        try clear ks
        try clear c24
        try clear lU
        try clear sL
        try clear pN
        try clear i3
        try clear c28
        try clear kY
        try clear c31
        try clear lH
        try clear c37
        try clear kZ
        try clear nz
        try clear lI
        try clear o0
        try clear c49
        try clear xr
        try clear ob
        try clear pO
        try clear c59
        try clear wo
        try clear rZ
        try clear wq
        try clear AJ
        try clear AK
        try clear c64
        try clear p64
        try clear qA
        try clear ws
        try clear sl
        try clear z9
        try clear mK
        try clear zA
        try clear p69
        try clear qB
        try clear Cd
        try clear c70
        try clear wt
        try clear ka
        try clear tO
        try clear Dj
        try clear Dk
        try clear c75
        try clear c76
        try clear Dl
        try clear Dm
        try clear c80
        try clear xt
        try clear xu
        try clear c85
        try clear Dn
        try clear Do
        try clear Dp
        try clear Dq
        try clear c93
        try clear Dr
        try clear xv
        try clear xw
        try clear Ds
        try clear Dt
        try clear xN
        try clear sT
        try clear sU
        try clear c105
        try clear n9
        try clear qo
        try clear wh
        try clear xO
        try clear c109
        try clear tu
        try clear sX
        try clear C0
        try clear vU
        try clear c116
        try clear C1
        try clear C2
        try clear c117
        try clear Jm
        try clear Jn
        try clear Jo
        try clear Ce
        try clear Cf
        try clear pn
        try clear vW
        try clear c138
        try clear c143
        try clear OQ
        try clear c145
        try clear c146
        try clear c152
        try clear OR
        try clear c154
        try clear OS
        try clear c156
        try clear nA
        try clear vH
        try clear Ej
        try clear z4
        try clear c160
        try clear Jq
        try clear c162
        try clear Jr
        try clear c164
        try clear OT
        try clear c167
        try clear c168
        try clear OU
        try clear yR yS
        try clear ur
        try clear Ak
        try clear lx
        try clear ED
        try clear wE
        try clear Gy
        try clear H0
        try clear Am
        try clear H2
        try clear H4
        try clear nQ
        try clear Ao
        try clear qR
        try clear mO
        try clear o6
        try clear qT
        try clear pE
        try clear nS
        try clear rv
        try clear t9
        try clear ry
        try clear uw wJ
        try clear wK wL
        try clear yX yY
        try clear ux wM
        try clear yZ ya
        try clear uy yb
        try clear yT yU
        try clear us
        try clear Al
        try clear ly
        try clear EE
        try clear wF
        try clear Gz
        try clear H1
        try clear An
        try clear H3
        try clear H5
        try clear nR
        try clear Ap
        try clear qS
        try clear mP
        try clear o7
        try clear qU
        try clear pF
        try clear nT
        try clear rx
        try clear tA
        try clear rz
        try clear uz wN
        try clear wO wP
        try clear yc yd
        try clear vA wQ
        try clear ye yf
        try clear vB yg
        try clear wR
        try clear wS
        try clear vC
        try clear vD
        try clear p2
        try clear p6
        try clear p64
        try clear p69
        try clear sV
        try clear m8
        try clear q6
        try clear qB
        try clear sW
        try clear m9
        obtain⟨kq,M6,rfl,HA,sN,bT,bN,bW,d8,d9,dq,b0,aw,az,cJ,bu,cg,HB⟩:=hcut
        cases kq with
        |zero=>exact absurd HA.out (by simp[b8.j6])
        |succ SQ=>
         have H:=HA.out;clear HA;simp only[b8.j6]at H
         as_aux_lemma=>
          by_cases po:M6=true
          ·
           subst po;rw[if_pos rfl]at H;obtain rfl:=iz H
           go_wp2
           go_ret
           exact⟨er,gl HB bR bZ bi dX dt eG⟩
          replace po:=dn.mpr po;subst po;rw[if_neg dV]at H;have SR:=Ah H;clear H
          go_upto_if 228 with(fail)
          go_cut [] (fun wc=>∃ (kq:Nat),U (b8.j8 kq l1=some r)∧U (kq≤SQ)∧U (Kd.R b7 65 wc w.heap.size (fun k_=>some k_≠((.slice dI ca.length cd):Value).ownBlock∧some k_≠((.slice dT cy.length dM):Value).ownBlock∧some k_≠((.slice fF dg.length fG):Value).ownBlock∧some k_≠((.slice fQ du.length fR):Value).ownBlock∧some k_≠((.slice fY f5.length fZ):Value).ownBlock) (.slice di cx.length dj) cx)∧U (Kd.R b7 65 wc w.heap.size (fun k_=>some k_≠((.slice di cx.length dj):Value).ownBlock∧some k_≠((.slice dT cy.length dM):Value).ownBlock∧some k_≠((.slice fF dg.length fG):Value).ownBlock∧some k_≠((.slice fQ du.length fR):Value).ownBlock∧some k_≠((.slice fY f5.length fZ):Value).ownBlock) (.slice dI ca.length cd) ca)∧U (Kd.R b7 65 wc w.heap.size (fun k_=>some k_≠((.slice di cx.length dj):Value).ownBlock∧some k_≠((.slice dI ca.length cd):Value).ownBlock∧some k_≠((.slice fF dg.length fG):Value).ownBlock∧some k_≠((.slice fQ du.length fR):Value).ownBlock∧some k_≠((.slice fY f5.length fZ):Value).ownBlock) (.slice dT cy.length dM) cy)∧U (Kd.R b7 65 wc w.heap.size (fun k_=>some k_≠((.slice di cx.length dj):Value).ownBlock∧some k_≠((.slice dI ca.length cd):Value).ownBlock∧some k_≠((.slice dT cy.length dM):Value).ownBlock∧some k_≠((.slice fQ du.length fR):Value).ownBlock∧some k_≠((.slice fY f5.length fZ):Value).ownBlock) (.slice fF dg.length fG) dg)∧U (Kd.R b7 65 wc w.heap.size (fun k_=>some k_≠((.slice di cx.length dj):Value).ownBlock∧some k_≠((.slice dI ca.length cd):Value).ownBlock∧some k_≠((.slice dT cy.length dM):Value).ownBlock∧some k_≠((.slice fF dg.length fG):Value).ownBlock∧some k_≠((.slice fY f5.length fZ):Value).ownBlock) (.slice fQ du.length fR) du)∧U (Kd.R b7 65 wc w.heap.size (fun k_=>some k_≠((.slice di cx.length dj):Value).ownBlock∧some k_≠((.slice dI ca.length cd):Value).ownBlock∧some k_≠((.slice dT cy.length dM):Value).ownBlock∧some k_≠((.slice fF dg.length fG):Value).ownBlock∧some k_≠((.slice fQ du.length fR):Value).ownBlock) (.slice fY f5.length fZ) f5)∧U (wc.heap[sJ]?=some (.cells #[(.slice di cx.length dj)] 25 (0,0)))∧U (wc.heap[sK]?=some (.cells #[(.slice dI ca.length cd)] 25 (0,0)))∧U (wc.heap[mu]?=some (.cells #[(.slice dT cy.length dM)] 25 (0,0)))∧U (wc.heap[Ey]?=some (.cells #[(.slice fF dg.length fG)] 25 (0,0)))∧U (wc.heap[Ez]?=some (.cells #[(.slice fQ du.length fR)] 25 (0,0)))∧U (wc.heap[sM]?=some (.cells #[(.slice fY f5.length fZ)] 25 (0,0)))∧U (Below w.heap.size w wc))
          case first=>
           have H:=SR.out;clear SR
           by_cases xQ:tv=true
           rotate_left
           ·
            replace xQ:=dn.mpr xQ;subst xQ;rw[if_neg dV]at H;have H':=Ah H;clear H
            go_wp2
            go_meet
            case rel=>exact⟨_,H',⟨by have:=fx.out;have:=pm.out;have:=sN.out;first|omega|exact bx _⟩,⟨rr bT.out⟩,⟨rr bN.out⟩,⟨rr bW.out⟩,⟨rr d8.out⟩,⟨rr d9.out⟩,⟨rr dq.out⟩,⟨bk b0⟩,⟨bk aw⟩,⟨bk az⟩,⟨bk cJ⟩,⟨bk bu⟩,⟨bk cg⟩,⟨gl HB bR bZ bi dX dt eG⟩⟩
           subst xQ;rw[if_pos rfl]at H;have H':=Ah H;clear H
           go_wp2
           go_loopg [38] SQ (fun kq v38 w'=>∃ (fS:Int),v38= .int .i64 fS∧U (b8.l3 kq l1 rF vV fS dg du=some r)∧U (kq≤SQ)∧U (Kd.R b7 65 w' w.heap.size (fun k_=>some k_≠((.slice dI ca.length cd):Value).ownBlock∧some k_≠((.slice dT cy.length dM):Value).ownBlock∧some k_≠((.slice fF dg.length fG):Value).ownBlock∧some k_≠((.slice fQ du.length fR):Value).ownBlock∧some k_≠((.slice fY f5.length fZ):Value).ownBlock) (.slice di cx.length dj) cx)∧U (Kd.R b7 65 w' w.heap.size (fun k_=>some k_≠((.slice di cx.length dj):Value).ownBlock∧some k_≠((.slice dT cy.length dM):Value).ownBlock∧some k_≠((.slice fF dg.length fG):Value).ownBlock∧some k_≠((.slice fQ du.length fR):Value).ownBlock∧some k_≠((.slice fY f5.length fZ):Value).ownBlock) (.slice dI ca.length cd) ca)∧U (Kd.R b7 65 w' w.heap.size (fun k_=>some k_≠((.slice di cx.length dj):Value).ownBlock∧some k_≠((.slice dI ca.length cd):Value).ownBlock∧some k_≠((.slice fF dg.length fG):Value).ownBlock∧some k_≠((.slice fQ du.length fR):Value).ownBlock∧some k_≠((.slice fY f5.length fZ):Value).ownBlock) (.slice dT cy.length dM) cy)∧U (Kd.R b7 65 w' w.heap.size (fun k_=>some k_≠((.slice di cx.length dj):Value).ownBlock∧some k_≠((.slice dI ca.length cd):Value).ownBlock∧some k_≠((.slice dT cy.length dM):Value).ownBlock∧some k_≠((.slice fQ du.length fR):Value).ownBlock∧some k_≠((.slice fY f5.length fZ):Value).ownBlock) (.slice fF dg.length fG) dg)∧U (Kd.R b7 65 w' w.heap.size (fun k_=>some k_≠((.slice di cx.length dj):Value).ownBlock∧some k_≠((.slice dI ca.length cd):Value).ownBlock∧some k_≠((.slice dT cy.length dM):Value).ownBlock∧some k_≠((.slice fF dg.length fG):Value).ownBlock∧some k_≠((.slice fY f5.length fZ):Value).ownBlock) (.slice fQ du.length fR) du)∧U (Kd.R b7 65 w' w.heap.size (fun k_=>some k_≠((.slice di cx.length dj):Value).ownBlock∧some k_≠((.slice dI ca.length cd):Value).ownBlock∧some k_≠((.slice dT cy.length dM):Value).ownBlock∧some k_≠((.slice fF dg.length fG):Value).ownBlock∧some k_≠((.slice fQ du.length fR):Value).ownBlock) (.slice fY f5.length fZ) f5)∧U (w'.heap[sJ]?=some (.cells #[(.slice di cx.length dj)] 25 (0,0)))∧U (w'.heap[sK]?=some (.cells #[(.slice dI ca.length cd)] 25 (0,0)))∧U (w'.heap[mu]?=some (.cells #[(.slice dT cy.length dM)] 25 (0,0)))∧U (w'.heap[Ey]?=some (.cells #[(.slice fF dg.length fG)] 25 (0,0)))∧U (w'.heap[Ez]?=some (.cells #[(.slice fQ du.length fR)] 25 (0,0)))∧U (w'.heap[sM]?=some (.cells #[(.slice fY f5.length fZ)] 25 (0,0)))∧U (Below w.heap.size w w'))
           case atStart=>exact⟨(0),e3,H',⟨bx _⟩,⟨rr bT.out⟩,⟨rr bN.out⟩,⟨rr bW.out⟩,⟨rr d8.out⟩,⟨rr d9.out⟩,⟨rr dq.out⟩,⟨bk b0⟩,⟨bk aw⟩,⟨bk az⟩,⟨bk cJ⟩,⟨bk bu⟩,⟨bk cg⟩,⟨gl HB bR bZ bi dX dt eG⟩⟩
           case round=>
            clear H'
            try clear c1
            try clear c2
            try clear p2
            try clear c3
            try clear iN
            try clear c4
            try clear c5
            try clear c6
            try clear p6
            try clear q6
            try clear hx6
            try clear c7
            try clear c8
            try clear c9
            try clear c10
            try clear c11
            try clear c12
            try clear c13
            try clear c14
            try clear c15
            try clear c16
            try clear c17
            try clear c21
            try clear ks
            try clear c24
            try clear lU
            try clear sL
            try clear pN
            try clear i3
            try clear c28
            try clear kY
            try clear c31
            try clear lH
            try clear c37
            try clear kZ
            try clear nz
            try clear lI
            try clear o0
            try clear c49
            try clear xr
            try clear ob
            try clear pO
            try clear c59
            try clear wo
            try clear rZ
            try clear wq
            try clear AJ
            try clear AK
            try clear c64
            try clear p64
            try clear qA
            try clear ws
            try clear sl
            try clear z9
            try clear mK
            try clear zA
            try clear p69
            try clear qB
            try clear Cd
            try clear c70
            try clear wt
            try clear ka
            try clear tO
            try clear Dj
            try clear Dk
            try clear c75
            try clear c76
            try clear Dl
            try clear Dm
            try clear c80
            try clear xt
            try clear xu
            try clear c85
            try clear Dn
            try clear Do
            try clear Dp
            try clear Dq
            try clear c93
            try clear Dr
            try clear xv
            try clear xw
            try clear Ds
            try clear Dt
            try clear xN
            try clear sT
            try clear sU
            try clear c105
            try clear n9
            try clear qo
            try clear wh
            try clear xO
            try clear c109
            try clear tu
            try clear sX
            try clear C0
            try clear vU
            try clear c116
            try clear C1
            try clear C2
            try clear c117
            try clear Jm
            try clear Jn
            try clear Jo
            try clear Ce
            try clear Cf
            try clear pn
            try clear vW
            try clear c138
            try clear c143
            try clear OQ
            try clear c145
            try clear c146
            try clear c152
            try clear OR
            try clear c154
            try clear OS
            try clear c156
            try clear nA
            try clear vH
            try clear Ej
            try clear z4
            try clear c160
            try clear Jq
            try clear c162
            try clear Jr
            try clear c164
            try clear OT
            try clear c167
            try clear c168
            try clear OU
            try clear po
            try clear xQ
            try clear yR yS
            try clear ur
            try clear Ak
            try clear lx
            try clear ED
            try clear wE
            try clear Gy
            try clear H0
            try clear Am
            try clear H2
            try clear H4
            try clear nQ
            try clear Ao
            try clear qR
            try clear mO
            try clear o6
            try clear qT
            try clear pE
            try clear nS
            try clear rv
            try clear t9
            try clear ry
            try clear uw wJ
            try clear wK wL
            try clear yX yY
            try clear ux wM
            try clear yZ ya
            try clear uy yb
            try clear yT yU
            try clear us
            try clear Al
            try clear ly
            try clear EE
            try clear wF
            try clear Gz
            try clear H1
            try clear An
            try clear H3
            try clear H5
            try clear nR
            try clear Ap
            try clear qS
            try clear mP
            try clear o7
            try clear qU
            try clear pF
            try clear nT
            try clear rx
            try clear tA
            try clear rz
            try clear uz wN
            try clear wO wP
            try clear yc yd
            try clear vA wQ
            try clear ye yf
            try clear vB yg
            try clear wR
            try clear wS
            try clear vC
            try clear vD
            try clear p2
            try clear p6
            try clear p64
            try clear p69
            try clear sV
            try clear m8
            try clear q6
            try clear qB
            try clear sW
            try clear m9
            obtain⟨fS,rfl,HA,uX,bT,bN,bW,d8,d9,dq,b0,aw,az,cJ,bu,cg,HB⟩:=hrel
            cases gk with
            |zero=>exact absurd HA.out (by simp[b8.l3])
            |succ k4=>
             have H:=HA.out;clear HA;simp only[b8.l3]at H
             as_aux_lemma=>
              by_cases c175:fS<60
              rotate_left
              ·
               rw[if_neg c175]at H;have z5:decide (fS<60)=false:=decide_eq_false c175;clear c175;(first|rw[z5]|(simp only[cz,dS];rw[z5])|(simp only[c175b2,aaz,aaC])|skip);have H':=Ah H;clear H
               go_wp2
               go_meet
               case rel=>exact⟨_,H',⟨by have:=fx.out;have:=pm.out;have:=sN.out;have:=uX.out;first|omega|exact bx _⟩,⟨rr bT.out⟩,⟨rr bN.out⟩,⟨rr bW.out⟩,⟨rr d8.out⟩,⟨rr d9.out⟩,⟨rr dq.out⟩,⟨bk b0⟩,⟨bk aw⟩,⟨bk az⟩,⟨bk cJ⟩,⟨bk bu⟩,⟨bk cg⟩,⟨gl HB bR bZ bi dX dt eG⟩⟩
              rw[if_pos c175]at H;have z5:decide (fS<60)=true:=decide_eq_true c175;clear c175;(first|rw[z5]|(simp only[cz,dS];rw[z5])|(simp only[c175b2,aaz,aaC])|skip);replace H:=LT.mp H;obtain⟨⟨mY,zf,t722⟩,a1c,H⟩:=H
              try dsimp only at H
              have zg:=Ah a1c;clear a1c;replace H:=LT.mp H;obtain⟨⟨rH,FY,a3I⟩,a1d,H⟩:=H
              try dsimp only at H
              have zh:=Ah a1d;clear a1d;have H_:=Ah H;clear H;have hnb184:=Xc.out;have hnc184:=Py.out;have hnb185:=Xd.out;have hnc185:=Pz.out;have hnb186:=Xe.out;have hnc186:=Q0.out;have hnb187:=Lr.out;have hnc187:=Q1.out;have hnb188:=GV.out;have hnc188:=Q2.out;have QQ:=ap cJ;have QR:=an cJ;have H:=H_.out;clear H_
              by_cases zi:t722=true
              rotate_left
              ·
               replace zi:=dn.mpr zi;subst zi;rw[if_neg dV]at H;obtain rfl:=iz H
               go_wp2_with (first|((with_reducible refine bJ (f:=12) rfl ?_);refine gL (some 236) rfl rfl aaV (by kernel_rfl) rfl #[.agg #[.slice fF dg.length fG],.int .i64 fS] rfl ?_;(with_reducible refine(ej.calls k4 _ _ dg fS mY zf false _ ?a8 ?a9 zg.out).mono ?_);(case a8=>exact fB d8);(case a9=>exact(Kd.af d8.out).2.1);rintro e w282 ⟨rfl,hb⟩;refine⟨_,rfl, ?_⟩;replace bT:=nr bT hb;replace bN:=nr bN hb;replace bW:=nr bW hb;replace d8:=nr d8 hb;replace d9:=nr d9 hb;replace dq:=nr dq hb;replace b0:=nb b0 hb;replace aw:=nb aw hb;replace az:=nb az hb;replace cJ:=nb cJ hb;replace bu:=nb bu hb;replace cg:=nb cg hb;replace HB:=Ah (aK (gl HB bR bZ bi dX dt eG) hb);(try clear hb);have hnb283:=ug.out;have hnc283:=sv.out;have hnb284:=uh.out;have hnc284:=sw.out;have hnb285:=ui.out;have hnc285:=sx.out;have hnb286:=ro.out;have hnc286:=uj.out;have QS:=ap bu;have QT:=an bu)|((with_reducible refine bJ (f:=12) rfl ?_);refine gL (some 243) rfl rfl aaV (by kernel_rfl) rfl #[.agg #[.slice fQ du.length fR],.int .i64 fS] rfl ?_;(with_reducible refine(ej.calls k4 _ _ du fS rH FY a3I _ ?a8 ?a9 zh.out).mono ?_);(case a8=>exact fB d9);(case a9=>exact(Kd.af d9.out).2.1);rintro e w288 ⟨rfl,hb⟩;refine⟨_,rfl, ?_⟩;replace bT:=nr bT hb;replace bN:=nr bN hb;replace bW:=nr bW hb;replace d8:=nr d8 hb;replace d9:=nr d9 hb;replace dq:=nr dq hb;replace b0:=nb b0 hb;replace aw:=nb aw hb;replace az:=nb az hb;replace cJ:=nb cJ hb;replace bu:=nb bu hb;replace cg:=nb cg hb;replace HB:=Ah (aK (gl HB bR bZ bi dX dt eG) hb);(try clear hb)))
               go_ret
               exact⟨er,gl HB bR bZ bi dX dt eG⟩
              subst zi;rw[if_pos rfl]at H
              by_cases zj:a3I=true
              rotate_left
              ·
               replace zj:=dn.mpr zj;subst zj;rw[if_neg dV]at H;obtain rfl:=iz H
               go_wp2_with (first|((with_reducible refine bJ (f:=12) rfl ?_);refine gL (some 236) rfl rfl aaV (by kernel_rfl) rfl #[.agg #[.slice fF dg.length fG],.int .i64 fS] rfl ?_;(with_reducible refine(ej.calls k4 _ _ dg fS mY zf true _ ?a8 ?a9 zg.out).mono ?_);(case a8=>exact fB d8);(case a9=>exact(Kd.af d8.out).2.1);rintro e w269 ⟨rfl,hb⟩;refine⟨_,rfl, ?_⟩;replace bT:=nr bT hb;replace bN:=nr bN hb;replace bW:=nr bW hb;replace d8:=nr d8 hb;replace d9:=nr d9 hb;replace dq:=nr dq hb;replace b0:=nb b0 hb;replace aw:=nb aw hb;replace az:=nb az hb;replace cJ:=nb cJ hb;replace bu:=nb bu hb;replace cg:=nb cg hb;replace HB:=Ah (aK (gl HB bR bZ bi dX dt eG) hb);(try clear hb);have hnb270:=ug.out;have hnc270:=sv.out;have hnb271:=uh.out;have hnc271:=sw.out;have hnb272:=ui.out;have hnc272:=sx.out;have hnb273:=ro.out;have hnc273:=uj.out;have QU:=ap bu;have QV:=an bu)|((with_reducible refine bJ (f:=12) rfl ?_);refine gL (some 243) rfl rfl aaV (by kernel_rfl) rfl #[.agg #[.slice fQ du.length fR],.int .i64 fS] rfl ?_;(with_reducible refine(ej.calls k4 _ _ du fS rH FY false _ ?a8 ?a9 zh.out).mono ?_);(case a8=>exact fB d9);(case a9=>exact(Kd.af d9.out).2.1);rintro e w275 ⟨rfl,hb⟩;refine⟨_,rfl, ?_⟩;replace bT:=nr bT hb;replace bN:=nr bN hb;replace bW:=nr bW hb;replace d8:=nr d8 hb;replace d9:=nr d9 hb;replace dq:=nr dq hb;replace b0:=nb b0 hb;replace aw:=nb aw hb;replace az:=nb az hb;replace cJ:=nb cJ hb;replace bu:=nb bu hb;replace cg:=nb cg hb;replace HB:=Ah (aK (gl HB bR bZ bi dX dt eG) hb);(try clear hb)))
               go_ret
               exact⟨er,gl HB bR bZ bi dX dt eG⟩
              subst zj;rw[if_pos rfl]at H
              by_cases tw:mY=rH
              rotate_left
              ·
               rw[if_neg tw]at H;have Mt:(mY==rH)=false:=beq_eq_false_iff_ne.mpr tw;have Mu:(mY !=rH)=true:=bne_iff_ne.mpr tw;obtain rfl:=iz H
               go_wp2_with (first|((with_reducible refine bJ (f:=12) rfl ?_);refine gL (some 236) rfl rfl aaV (by kernel_rfl) rfl #[.agg #[.slice fF dg.length fG],.int .i64 fS] rfl ?_;(with_reducible refine(ej.calls k4 _ _ dg fS mY zf true _ ?a8 ?a9 zg.out).mono ?_);(case a8=>exact fB d8);(case a9=>exact(Kd.af d8.out).2.1);rintro e w256 ⟨rfl,hb⟩;refine⟨_,rfl, ?_⟩;replace bT:=nr bT hb;replace bN:=nr bN hb;replace bW:=nr bW hb;replace d8:=nr d8 hb;replace d9:=nr d9 hb;replace dq:=nr dq hb;replace b0:=nb b0 hb;replace aw:=nb aw hb;replace az:=nb az hb;replace cJ:=nb cJ hb;replace bu:=nb bu hb;replace cg:=nb cg hb;replace HB:=Ah (aK (gl HB bR bZ bi dX dt eG) hb);(try clear hb);have hnb257:=ug.out;have hnc257:=sv.out;have hnb258:=uh.out;have hnc258:=sw.out;have hnb259:=ui.out;have hnc259:=sx.out;have hnb260:=ro.out;have hnc260:=uj.out;have QW:=ap bu;have QX:=an bu)|((with_reducible refine bJ (f:=12) rfl ?_);refine gL (some 243) rfl rfl aaV (by kernel_rfl) rfl #[.agg #[.slice fQ du.length fR],.int .i64 fS] rfl ?_;(with_reducible refine(ej.calls k4 _ _ du fS rH FY true _ ?a8 ?a9 zh.out).mono ?_);(case a8=>exact fB d9);(case a9=>exact(Kd.af d9.out).2.1);rintro e a3J ⟨rfl,hb⟩;refine⟨_,rfl, ?_⟩;replace bT:=nr bT hb;replace bN:=nr bN hb;replace bW:=nr bW hb;replace d8:=nr d8 hb;replace d9:=nr d9 hb;replace dq:=nr dq hb;replace b0:=nb b0 hb;replace aw:=nb aw hb;replace az:=nb az hb;replace cJ:=nb cJ hb;replace bu:=nb bu hb;replace cg:=nb cg hb;replace HB:=Ah (aK (gl HB bR bZ bi dX dt eG) hb);(try clear hb)))
               go_ret
               exact⟨er,gl HB bR bZ bi dX dt eG⟩
              rw[if_pos tw]at H;have Mt:(mY==rH)=true:=beq_iff_eq.mpr tw;have Mu:(mY !=rH)=false:=bne_eq_false_iff_eq.mpr tw;clear tw
              by_cases xR:fS≥rF
              rotate_left
              ·
               rw[if_neg xR]at H;have Mv:decide (rF≤fS)=false:=decide_eq_false xR;clear xR;have H':=Ah H;clear H
               go_wp2_with (first|((with_reducible refine bJ (f:=12) rfl ?_);refine gL (some 236) rfl rfl aaV (by kernel_rfl) rfl #[.agg #[.slice fF dg.length fG],.int .i64 fS] rfl ?_;(with_reducible refine(ej.calls k4 _ _ dg fS mY zf true _ ?a8 ?a9 zg.out).mono ?_);(case a8=>exact fB d8);(case a9=>exact(Kd.af d8.out).2.1);rintro e w243 ⟨rfl,hb⟩;refine⟨_,rfl, ?_⟩;replace bT:=nr bT hb;replace bN:=nr bN hb;replace bW:=nr bW hb;replace d8:=nr d8 hb;replace d9:=nr d9 hb;replace dq:=nr dq hb;replace b0:=nb b0 hb;replace aw:=nb aw hb;replace az:=nb az hb;replace cJ:=nb cJ hb;replace bu:=nb bu hb;replace cg:=nb cg hb;replace HB:=Ah (aK (gl HB bR bZ bi dX dt eG) hb);(try clear hb);have hnb244:=ug.out;have hnc244:=sv.out;have hnb245:=uh.out;have hnc245:=sw.out;have hnb246:=ui.out;have hnc246:=sx.out;have hnb247:=ro.out;have hnc247:=uj.out;have QY:=ap bu;have QZ:=an bu)|((with_reducible refine bJ (f:=12) rfl ?_);refine gL (some 243) rfl rfl aaV (by kernel_rfl) rfl #[.agg #[.slice fQ du.length fR],.int .i64 fS] rfl ?_;(with_reducible refine(ej.calls k4 _ _ du fS rH FY true _ ?a8 ?a9 zh.out).mono ?_);(case a8=>exact fB d9);(case a9=>exact(Kd.af d9.out).2.1);rintro e w249 ⟨rfl,hb⟩;refine⟨_,rfl, ?_⟩;replace bT:=nr bT hb;replace bN:=nr bN hb;replace bW:=nr bW hb;replace d8:=nr d8 hb;replace d9:=nr d9 hb;replace dq:=nr dq hb;replace b0:=nb b0 hb;replace aw:=nb aw hb;replace az:=nb az hb;replace cJ:=nb cJ hb;replace bu:=nb bu hb;replace cg:=nb cg hb;replace HB:=Ah (aK (gl HB bR bZ bi dX dt eG) hb);(try clear hb)))
               go_roundg k4
               case measure=>have:=fx.out;have:=pm.out;have:=sN.out;have:=uX.out;omega
               case rel=>exact⟨(LS (fS+1)),e3,H',⟨by have:=fx.out;have:=pm.out;have:=sN.out;have:=uX.out;omega⟩,⟨rr bT.out⟩,⟨rr bN.out⟩,⟨rr bW.out⟩,⟨rr d8.out⟩,⟨rr d9.out⟩,⟨rr dq.out⟩,⟨bk b0⟩,⟨bk aw⟩,⟨bk az⟩,⟨bk cJ⟩,⟨bk bu⟩,⟨bk cg⟩,⟨gl HB bR bZ bi dX dt eG⟩⟩
              rw[if_pos xR]at H;have Mv:decide (rF≤fS)=true:=decide_eq_true xR;clear xR
              by_cases c182:fS<(LS (rF+vV))
              rotate_left
              ·
               rw[if_neg c182]at H;have Mw:decide (fS<(LS (rF+vV)))=false:=decide_eq_false c182;clear c182;have H':=Ah H;clear H
               go_wp2_with (first|((with_reducible refine bJ (f:=12) rfl ?_);refine gL (some 236) rfl rfl aaV (by kernel_rfl) rfl #[.agg #[.slice fF dg.length fG],.int .i64 fS] rfl ?_;(with_reducible refine(ej.calls k4 _ _ dg fS mY zf true _ ?a8 ?a9 zg.out).mono ?_);(case a8=>exact fB d8);(case a9=>exact(Kd.af d8.out).2.1);rintro e w230 ⟨rfl,hb⟩;refine⟨_,rfl, ?_⟩;replace bT:=nr bT hb;replace bN:=nr bN hb;replace bW:=nr bW hb;replace d8:=nr d8 hb;replace d9:=nr d9 hb;replace dq:=nr dq hb;replace b0:=nb b0 hb;replace aw:=nb aw hb;replace az:=nb az hb;replace cJ:=nb cJ hb;replace bu:=nb bu hb;replace cg:=nb cg hb;replace HB:=Ah (aK (gl HB bR bZ bi dX dt eG) hb);(try clear hb);have hnb231:=ug.out;have hnc231:=sv.out;have hnb232:=uh.out;have hnc232:=sw.out;have hnb233:=ui.out;have hnc233:=sx.out;have hnb234:=ro.out;have hnc234:=uj.out;have Qa:=ap bu;have Qb:=an bu)|((with_reducible refine bJ (f:=12) rfl ?_);refine gL (some 243) rfl rfl aaV (by kernel_rfl) rfl #[.agg #[.slice fQ du.length fR],.int .i64 fS] rfl ?_;(with_reducible refine(ej.calls k4 _ _ du fS rH FY true _ ?a8 ?a9 zh.out).mono ?_);(case a8=>exact fB d9);(case a9=>exact(Kd.af d9.out).2.1);rintro e w236 ⟨rfl,hb⟩;refine⟨_,rfl, ?_⟩;replace bT:=nr bT hb;replace bN:=nr bN hb;replace bW:=nr bW hb;replace d8:=nr d8 hb;replace d9:=nr d9 hb;replace dq:=nr dq hb;replace b0:=nb b0 hb;replace aw:=nb aw hb;replace az:=nb az hb;replace cJ:=nb cJ hb;replace bu:=nb bu hb;replace cg:=nb cg hb;replace HB:=Ah (aK (gl HB bR bZ bi dX dt eG) hb);(try clear hb)))
               go_roundg k4
               case measure=>have:=fx.out;have:=pm.out;have:=sN.out;have:=uX.out;omega
               case rel=>exact⟨(LS (fS+1)),e3,H',⟨by have:=fx.out;have:=pm.out;have:=sN.out;have:=uX.out;omega⟩,⟨rr bT.out⟩,⟨rr bN.out⟩,⟨rr bW.out⟩,⟨rr d8.out⟩,⟨rr d9.out⟩,⟨rr dq.out⟩,⟨bk b0⟩,⟨bk aw⟩,⟨bk az⟩,⟨bk cJ⟩,⟨bk bu⟩,⟨bk cg⟩,⟨gl HB bR bZ bi dX dt eG⟩⟩
              rw[if_pos c182]at H;have Mw:decide (fS<(LS (rF+vV)))=true:=decide_eq_true c182;clear c182
              by_cases c183:FY=true
              ·
               subst c183;rw[if_pos rfl]at H;obtain rfl:=iz H
               go_wp2_with (first|((with_reducible refine bJ (f:=12) rfl ?_);refine gL (some 236) rfl rfl aaV (by kernel_rfl) rfl #[.agg #[.slice fF dg.length fG],.int .i64 fS] rfl ?_;(with_reducible refine(ej.calls k4 _ _ dg fS mY zf true _ ?a8 ?a9 zg.out).mono ?_);(case a8=>exact fB d8);(case a9=>exact(Kd.af d8.out).2.1);rintro e w190 ⟨rfl,hb⟩;refine⟨_,rfl, ?_⟩;replace bT:=nr bT hb;replace bN:=nr bN hb;replace bW:=nr bW hb;replace d8:=nr d8 hb;replace d9:=nr d9 hb;replace dq:=nr dq hb;replace b0:=nb b0 hb;replace aw:=nb aw hb;replace az:=nb az hb;replace cJ:=nb cJ hb;replace bu:=nb bu hb;replace cg:=nb cg hb;replace HB:=Ah (aK (gl HB bR bZ bi dX dt eG) hb);(try clear hb);have hnb191:=ug.out;have hnc191:=sv.out;have hnb192:=uh.out;have hnc192:=sw.out;have hnb193:=ui.out;have hnc193:=sx.out;have hnb194:=ro.out;have hnc194:=uj.out;have Qc:=ap bu;have Qd:=an bu)|((with_reducible refine bJ (f:=12) rfl ?_);refine gL (some 243) rfl rfl aaV (by kernel_rfl) rfl #[.agg #[.slice fQ du.length fR],.int .i64 fS] rfl ?_;(with_reducible refine(ej.calls k4 _ _ du fS rH true true _ ?a8 ?a9 zh.out).mono ?_);(case a8=>exact fB d9);(case a9=>exact(Kd.af d9.out).2.1);rintro e w196 ⟨rfl,hb⟩;refine⟨_,rfl, ?_⟩;replace bT:=nr bT hb;replace bN:=nr bN hb;replace bW:=nr bW hb;replace d8:=nr d8 hb;replace d9:=nr d9 hb;replace dq:=nr dq hb;replace b0:=nb b0 hb;replace aw:=nb aw hb;replace az:=nb az hb;replace cJ:=nb cJ hb;replace bu:=nb bu hb;replace cg:=nb cg hb;replace HB:=Ah (aK (gl HB bR bZ bi dX dt eG) hb);(try clear hb)))
               go_ret
               exact⟨er,gl HB bR bZ bi dX dt eG⟩
              replace c183:=dn.mpr c183;subst c183;rw[if_neg dV]at H
              by_cases vX:mY=(-1)
              ·
               rw[if_pos vX]at H;have Mx:(mY==(-1))=true:=beq_iff_eq.mpr vX;have My:(mY !=(-1))=false:=bne_eq_false_iff_eq.mpr vX;clear vX;obtain rfl:=iz H
               go_wp2_with (first|((with_reducible refine bJ (f:=12) rfl ?_);refine gL (some 236) rfl rfl aaV (by kernel_rfl) rfl #[.agg #[.slice fF dg.length fG],.int .i64 fS] rfl ?_;(with_reducible refine(ej.calls k4 _ _ dg fS mY zf true _ ?a8 ?a9 zg.out).mono ?_);(case a8=>exact fB d8);(case a9=>exact(Kd.af d8.out).2.1);rintro e w204 ⟨rfl,hb⟩;refine⟨_,rfl, ?_⟩;replace bT:=nr bT hb;replace bN:=nr bN hb;replace bW:=nr bW hb;replace d8:=nr d8 hb;replace d9:=nr d9 hb;replace dq:=nr dq hb;replace b0:=nb b0 hb;replace aw:=nb aw hb;replace az:=nb az hb;replace cJ:=nb cJ hb;replace bu:=nb bu hb;replace cg:=nb cg hb;replace HB:=Ah (aK (gl HB bR bZ bi dX dt eG) hb);(try clear hb);have hnb205:=ug.out;have hnc205:=sv.out;have hnb206:=uh.out;have hnc206:=sw.out;have hnb207:=ui.out;have hnc207:=sx.out;have hnb208:=ro.out;have hnc208:=uj.out;have Qe:=ap bu;have Qf:=an bu)|((with_reducible refine bJ (f:=12) rfl ?_);refine gL (some 243) rfl rfl aaV (by kernel_rfl) rfl #[.agg #[.slice fQ du.length fR],.int .i64 fS] rfl ?_;(with_reducible refine(ej.calls k4 _ _ du fS rH false true _ ?a8 ?a9 zh.out).mono ?_);(case a8=>exact fB d9);(case a9=>exact(Kd.af d9.out).2.1);rintro e w210 ⟨rfl,hb⟩;refine⟨_,rfl, ?_⟩;replace bT:=nr bT hb;replace bN:=nr bN hb;replace bW:=nr bW hb;replace d8:=nr d8 hb;replace d9:=nr d9 hb;replace dq:=nr dq hb;replace b0:=nb b0 hb;replace aw:=nb aw hb;replace az:=nb az hb;replace cJ:=nb cJ hb;replace bu:=nb bu hb;replace cg:=nb cg hb;replace HB:=Ah (aK (gl HB bR bZ bi dX dt eG) hb);(try clear hb)))
               go_ret
               exact⟨er,gl HB bR bZ bi dX dt eG⟩
              rw[if_neg vX]at H;have Mx:(mY==(-1))=false:=beq_eq_false_iff_ne.mpr vX;have My:(mY !=(-1))=true:=bne_iff_ne.mpr vX;have H':=Ah H;clear H
              go_wp2_with (first|((with_reducible refine bJ (f:=12) rfl ?_);refine gL (some 236) rfl rfl aaV (by kernel_rfl) rfl #[.agg #[.slice fF dg.length fG],.int .i64 fS] rfl ?_;(with_reducible refine(ej.calls k4 _ _ dg fS mY zf true _ ?a8 ?a9 zg.out).mono ?_);(case a8=>exact fB d8);(case a9=>exact(Kd.af d8.out).2.1);rintro e w217 ⟨rfl,hb⟩;refine⟨_,rfl, ?_⟩;replace bT:=nr bT hb;replace bN:=nr bN hb;replace bW:=nr bW hb;replace d8:=nr d8 hb;replace d9:=nr d9 hb;replace dq:=nr dq hb;replace b0:=nb b0 hb;replace aw:=nb aw hb;replace az:=nb az hb;replace cJ:=nb cJ hb;replace bu:=nb bu hb;replace cg:=nb cg hb;replace HB:=Ah (aK (gl HB bR bZ bi dX dt eG) hb);(try clear hb);have hnb218:=ug.out;have hnc218:=sv.out;have hnb219:=uh.out;have hnc219:=sw.out;have hnb220:=ui.out;have hnc220:=sx.out;have hnb221:=ro.out;have hnc221:=uj.out;have Qg:=ap bu;have Qh:=an bu)|((with_reducible refine bJ (f:=12) rfl ?_);refine gL (some 243) rfl rfl aaV (by kernel_rfl) rfl #[.agg #[.slice fQ du.length fR],.int .i64 fS] rfl ?_;(with_reducible refine(ej.calls k4 _ _ du fS rH false true _ ?a8 ?a9 zh.out).mono ?_);(case a8=>exact fB d9);(case a9=>exact(Kd.af d9.out).2.1);rintro e w223 ⟨rfl,hb⟩;refine⟨_,rfl, ?_⟩;replace bT:=nr bT hb;replace bN:=nr bN hb;replace bW:=nr bW hb;replace d8:=nr d8 hb;replace d9:=nr d9 hb;replace dq:=nr dq hb;replace b0:=nb b0 hb;replace aw:=nb aw hb;replace az:=nb az hb;replace cJ:=nb cJ hb;replace bu:=nb bu hb;replace cg:=nb cg hb;replace HB:=Ah (aK (gl HB bR bZ bi dX dt eG) hb);(try clear hb)))
              go_roundg k4
              case measure=>have:=fx.out;have:=pm.out;have:=sN.out;have:=uX.out;omega
              case rel=>exact⟨(LS (fS+1)),e3,H',⟨by have:=fx.out;have:=pm.out;have:=sN.out;have:=uX.out;omega⟩,⟨rr bT.out⟩,⟨rr bN.out⟩,⟨rr bW.out⟩,⟨rr d8.out⟩,⟨rr d9.out⟩,⟨rr dq.out⟩,⟨bk b0⟩,⟨bk aw⟩,⟨bk az⟩,⟨bk cJ⟩,⟨bk bu⟩,⟨bk cg⟩,⟨gl HB bR bZ bi dX dt eG⟩⟩
          case rest=>
           clear SR
           try clear c1
           try clear c2
           try clear p2
           try clear c3
           try clear iN
           try clear c4
           try clear c5
           try clear c6
           try clear p6
           try clear q6
           try clear hx6
           try clear c7
           try clear c8
           try clear c9
           try clear c10
           try clear c11
           try clear c12
           try clear c13
           try clear c14
           try clear c15
           try clear c16
           try clear c17
           try clear c18
           try clear c19
           try clear c20
           try clear c21
           try clear ks
           try clear c23
           try clear c24
           try clear lU
           try clear sL
           try clear pN
           try clear ix
           try clear i3
           try clear Wk
           try clear c28
           try clear kY
           try clear c31
           try clear lH
           try clear c37
           try clear kZ
           try clear nz
           try clear lI
           try clear o0
           try clear c49
           try clear xr
           try clear ob
           try clear pO
           try clear c59
           try clear wo
           try clear rZ
           try clear wq
           try clear AJ
           try clear AK
           try clear c64
           try clear p64
           try clear qA
           try clear ws
           try clear sl
           try clear z9
           try clear mK
           try clear zA
           try clear p69
           try clear qB
           try clear Cd
           try clear c70
           try clear wt
           try clear ka
           try clear tO
           try clear Dj
           try clear Dk
           try clear c75
           try clear c76
           try clear Dl
           try clear Dm
           try clear c80
           try clear xt
           try clear xu
           try clear c85
           try clear Dn
           try clear Do
           try clear Dp
           try clear Dq
           try clear c93
           try clear Dr
           try clear xv
           try clear xw
           try clear Ds
           try clear Dt
           try clear xN
           try clear sT
           try clear sU
           try clear c105
           try clear n9
           try clear qo
           try clear wh
           try clear xO
           try clear c109
           try clear tu
           try clear sX
           try clear C0
           try clear vU
           try clear c116
           try clear C1
           try clear C2
           try clear c117
           try clear Jm
           try clear Jn
           try clear Jo
           try clear Ce
           try clear Cf
           try clear pn
           try clear vW
           try clear c138
           try clear c143
           try clear OQ
           try clear c145
           try clear c146
           try clear c152
           try clear OR
           try clear c154
           try clear OS
           try clear c156
           try clear nA
           try clear vH
           try clear Ej
           try clear z4
           try clear c160
           try clear Jq
           try clear c162
           try clear Jr
           try clear c164
           try clear OT
           try clear c167
           try clear c168
           try clear OU
           try clear po
           try clear xQ
           try clear c175
           try clear z5
           try clear zi
           try clear zj
           try clear tw
           try clear Mt
           try clear Mu
           try clear xR
           try clear Mv
           try clear c182
           try clear Mw
           try clear c183
           try clear UP
           try clear UQ
           try clear a3K
           try clear a3L
           try clear UR
           try clear US
           try clear a3M
           try clear c193
           try clear c194
           try clear vX
           try clear Mx
           try clear My
           try clear c198
           try clear UT
           try clear UU
           try clear c201
           try clear a3N
           try clear UV
           try clear c206
           try clear a3O
           try clear c208
           try clear UW
           try clear c212
           try clear c213
           try clear Cg
           try clear a3P
           try clear c218
           try clear Ch
           try clear a3Q
           try clear a3R
           try clear a3S
           try clear a3T
           try clear c226
           try clear c227
           try clear c228
           try clear a3U
           try clear c232
           try clear c233
           try clear c234
           try clear Ci
           try clear Cj
           try clear a3V
           try clear a3W
           try clear a3X
           try clear a3Y
           try clear a3Z
           try clear a30
           try clear a31
           try clear a32
           try clear a33
           try clear a34
           try clear a35
           try clear Ck
           try clear a36
           try clear a37
           try clear a38
           try clear a39
           try clear a4a
           try clear a4b
           try clear a4c
           try clear a4d
           try clear a4e
           try clear a4f
           try clear a4g
           try clear a4h
           try clear a4i
           try clear a4j
           try clear a4k
           try clear a4l
           try clear a4m
           try clear a4n
           try clear a4o
           try clear a4p
           try clear a4q
           try clear a4r
           try clear yR yS
           try clear ur
           try clear Ak
           try clear lx
           try clear ED
           try clear wE
           try clear Gy
           try clear H0
           try clear Am
           try clear H2
           try clear H4
           try clear nQ
           try clear Ao
           try clear qR
           try clear QQ
           try clear Qc
           try clear YK
           try clear Qe
           try clear YL
           try clear Qg
           try clear YM
           try clear Qa
           try clear mO
           try clear Qi
           try clear QY
           try clear YN
           try clear QW
           try clear YO
           try clear QU
           try clear YP
           try clear QS
           try clear o6
           try clear qT
           try clear pE
           try clear nS
           try clear rv
           try clear t9
           try clear ry
           try clear uw wJ
           try clear wK wL
           try clear yX yY
           try clear ux wM
           try clear yZ ya
           try clear uy yb
           try clear yT yU
           try clear us
           try clear Al
           try clear ly
           try clear EE
           try clear wF
           try clear Gz
           try clear H1
           try clear An
           try clear H3
           try clear H5
           try clear nR
           try clear Ap
           try clear qS
           try clear QR
           try clear Qd
           try clear YQ
           try clear Qf
           try clear YR
           try clear Qh
           try clear YS
           try clear Qb
           try clear mP
           try clear Qj
           try clear QZ
           try clear YT
           try clear QX
           try clear YU
           try clear QV
           try clear YV
           try clear QT
           try clear o7
           try clear qU
           try clear pF
           try clear nT
           try clear rx
           try clear tA
           try clear rz
           try clear uz wN
           try clear wO wP
           try clear yc yd
           try clear vA wQ
           try clear ye yf
           try clear vB yg
           try clear wR
           try clear wS
           try clear vC
           try clear vD
           try clear p2
           try clear p6
           try clear p64
           try clear p69
           try clear sV
           try clear m8
           try clear q6
           try clear qB
           try clear sW
           try clear m9
           obtain⟨kq,HA,NC,bT,bN,bW,d8,d9,dq,b0,aw,az,cJ,bu,cg,HB⟩:=hcut
           cases kq with
           |zero=>exact absurd HA.out (by simp[b8.j8])
           |succ I3=>
            have H:=HA.out;clear HA;simp only[b8.j8]at H
            as_aux_lemma=>
             replace H:=LT.mp H;obtain⟨⟨jE,xS⟩,a1e,H⟩:=H
             try dsimp only at H
             have A289:=Ah a1e;clear a1e;replace H:=LT.mp H;obtain⟨⟨iB,tx⟩,a1f,H⟩:=H
             try dsimp only at H
             have A290:=Ah a1f;clear a1f;replace H:=LT.mp H;obtain⟨⟨a4s,xT⟩,a1g,H⟩:=H
             try dsimp only at H
             have A291:=Ah a1g;clear a1g;have SS:=Ah H;clear H
             go_upto_region 48 with(first|((with_reducible refine bJ (f:=16) rfl ?_);refine gL (some 279) rfl rfl Try.func16 (by kernel_rfl) rfl #[.slice A1 l1.length c1] rfl ?_;(with_reducible refine(qD.calls I3 _ _ l1 jE xS _ ?a8 ?a9 A289.out).mono ?_);(case a8=>exact cb HR1 HB);(case a9=>exact PO.out);rintro e w293 ⟨v727,rfl,ho0,hb⟩;refine⟨_,rfl, ?_⟩;have qw:=Ah (Kd.dD (Kd.ec (Kd.ec (Kd.ec (Kd.ec (Kd.ec (Kd.ec ho0 (Kd.dU (rr bT.out))) (Kd.dU (rr bN.out))) (Kd.dU (rr bW.out))) (Kd.dU (rr d8.out))) (Kd.dU (rr d9.out))) (Kd.dU (rr dq.out))) (be (gl HB bR bZ bi dX dt eG)));replace bT:=Ah (Kd.eZ (rr bT.out) (Kd.eX ho0) hb);replace bN:=Ah (Kd.eZ (rr bN.out) (Kd.eX ho0) hb);replace bW:=Ah (Kd.eZ (rr bW.out) (Kd.eX ho0) hb);replace d8:=Ah (Kd.eZ (rr d8.out) (Kd.eX ho0) hb);replace d9:=Ah (Kd.eZ (rr d9.out) (Kd.eX ho0) hb);replace dq:=Ah (Kd.eZ (rr dq.out) (Kd.eX ho0) hb);replace b0:=nb b0 hb;replace aw:=nb aw hb;replace az:=nb az hb;replace cJ:=nb cJ hb;replace bu:=nb bu hb;replace cg:=nb cg hb;replace HB:=Ah (aK (gl HB bR bZ bi dX dt eG) hb);(try clear hb ho0))|((with_reducible refine ax (N:=45) rfl ?_);refine bA 45 25 #[.slice none 0 0] ?_;intro ST hg w294 gj hb;replace bT:=nr bT hb;replace bN:=nr bN hb;replace bW:=nr bW hb;replace d8:=nr d8 hb;replace d9:=nr d9 hb;replace dq:=nr dq hb;replace qw:=nr qw hb;have GW730:=gw hg (gl HB bR bZ bi dX dt eG);have kB:=gw hg (gl HB bR bZ bi dX dt eG);replace HB:=Ah (aK (gl HB bR bZ bi dX dt eG) hb);have Q3:=nn b0 hg;have Xi:=nm b0 hg;replace b0:=nb b0 hb;have Q4:=nn aw hg;have Xj:=nm aw hg;replace aw:=nb aw hb;have Q5:=nn az hg;have Xk:=nm az hg;replace az:=nb az hb;have Q6:=nn cJ hg;have Xl:=nm cJ hg;replace cJ:=nb cJ hb;have Q7:=nn bu hg;have Xm:=nm bu hg;replace bu:=nb bu hb;have Q8:=nn cg hg;have Xn:=nm cg hg;replace cg:=nb cg hb;clear hb hg;obtain⟨l6,l7,eo295⟩:=Kd.bq qw.out;subst eo295;have hnb296:=Xi.out;have hnc296:=Q3.out;have hnb297:=Xj.out;have hnc297:=Q4.out;have hnb298:=Xk.out;have hnc298:=Q5.out;have hnb299:=Xl.out;have hnc299:=Q6.out;have hnb300:=Xm.out;have hnc300:=Q7.out;have hnb301:=Xn.out;have hnc301:=Q8.out;have YW:=ap gj;have YX:=an gj)|((with_reducible refine bJ (f:=17) rfl ?_);refine gL (some 285) rfl rfl Try.func17 (by kernel_rfl) rfl #[.agg #[.slice l6 jE.length l7],.int .i64 xS] rfl ?_;(with_reducible refine(i5.calls I3 _ _ jE xS iB tx _ ?a8 ?a9 A290.out).mono ?_);(case a8=>exact rc qw gj);(case a9=>exact(Kd.af qw.out).2.1);rintro e w303 ⟨v732,rfl,ho0,hb⟩;refine⟨_,rfl, ?_⟩;replace bT:=nf bT gj hb;replace bN:=nf bN gj hb;replace bW:=nf bW gj hb;replace d8:=nf d8 gj hb;replace d9:=nf d9 gj hb;replace dq:=nf dq gj hb;replace qw:=nf qw gj hb;have zB:=Ah (Kd.dD ho0 (be (q8 HB bR bZ bi dX dt eG kB)));replace b0:=Ah (cC (bf b0 Q3) hb);replace aw:=Ah (cC (bf aw Q4) hb);replace az:=Ah (cC (bf az Q5) hb);replace cJ:=Ah (cC (bf cJ Q6) hb);replace bu:=Ah (cC (bf bu Q7) hb);replace cg:=Ah (cC (bf cg Q8) hb);replace gj:=Ah (cC (g:=ST) (o:= .cells #[.slice l6 jE.length l7] 25 (0,0)) (by(with_reducible repeat(first|refine aD ?_ _|refine Z ?_|refine aC ?_ _));refine aj (cs:= #[.slice none 0 0]) ?_ 0 _ rfl;(with_reducible repeat(first|refine aD ?_ _|refine Z ?_|refine aC ?_ _));exact gj.out) hb);replace HB:=Ah (aK (q8 HB bR bZ bi dX dt eG kB) hb);(try clear hb ho0);have YY:=ap gj;have YZ:=an gj)|((with_reducible refine bJ (f:=18) rfl ?_);refine gL (some 291) rfl rfl Try.func18 (by kernel_rfl) rfl #[.agg #[.slice l6 jE.length l7],.int .i64 xS] rfl ?_;(with_reducible refine(eh.calls I3 _ _ jE xS a4s xT _ ?a8 ?a9 A291.out).mono ?_);(case a8=>exact fB qw);(case a9=>exact(Kd.af qw.out).2.1);rintro e w305 ⟨v736,rfl,ho0,hb⟩;refine⟨_,rfl, ?_⟩;replace bT:=nr bT hb;replace bN:=nr bN hb;replace bW:=nr bW hb;replace d8:=nr d8 hb;replace d9:=nr d9 hb;replace dq:=nr dq hb;replace qw:=nr qw hb;have SU:=Ah (Kd.dD (Kd.ec ho0 (Kd.dU (rr zB.out))) (be (q8 HB bR bZ bi dX dt eG kB)));replace zB:=Ah (Kd.eZ (rr zB.out) (Kd.eX ho0) hb);replace b0:=nb b0 hb;replace aw:=nb aw hb;replace az:=nb az hb;replace cJ:=nb cJ hb;replace bu:=nb bu hb;replace cg:=nb cg hb;replace gj:=nb gj hb;replace HB:=Ah (aK (q8 HB bR bZ bi dX dt eG kB) hb);(try clear hb ho0)))
             (try simp only[Act.put,Ok,bY,dl])
             go_cut [302] (fun v302 wc=>∃ (kq:Nat) (M7:Bool),v302= .bool M7∧U (b8.j9 kq xS iB tx M7 jE=some r)∧U (kq≤I3)∧U (Kd.R bd 38 wc w.heap.size (fun _=>True) v732 iB)∧U (Kd.R b7 65 wc w.heap.size (fun k_=>some k_≠((.slice dI ca.length cd):Value).ownBlock∧some k_≠((.slice dT cy.length dM):Value).ownBlock∧some k_≠((.slice fF dg.length fG):Value).ownBlock∧some k_≠((.slice fQ du.length fR):Value).ownBlock∧some k_≠((.slice fY f5.length fZ):Value).ownBlock∧some k_≠((.slice l6 jE.length l7):Value).ownBlock) (.slice di cx.length dj) cx)∧U (Kd.R b7 65 wc w.heap.size (fun k_=>some k_≠((.slice di cx.length dj):Value).ownBlock∧some k_≠((.slice dT cy.length dM):Value).ownBlock∧some k_≠((.slice fF dg.length fG):Value).ownBlock∧some k_≠((.slice fQ du.length fR):Value).ownBlock∧some k_≠((.slice fY f5.length fZ):Value).ownBlock∧some k_≠((.slice l6 jE.length l7):Value).ownBlock) (.slice dI ca.length cd) ca)∧U (Kd.R b7 65 wc w.heap.size (fun k_=>some k_≠((.slice di cx.length dj):Value).ownBlock∧some k_≠((.slice dI ca.length cd):Value).ownBlock∧some k_≠((.slice fF dg.length fG):Value).ownBlock∧some k_≠((.slice fQ du.length fR):Value).ownBlock∧some k_≠((.slice fY f5.length fZ):Value).ownBlock∧some k_≠((.slice l6 jE.length l7):Value).ownBlock) (.slice dT cy.length dM) cy)∧U (Kd.R b7 65 wc w.heap.size (fun k_=>some k_≠((.slice di cx.length dj):Value).ownBlock∧some k_≠((.slice dI ca.length cd):Value).ownBlock∧some k_≠((.slice dT cy.length dM):Value).ownBlock∧some k_≠((.slice fQ du.length fR):Value).ownBlock∧some k_≠((.slice fY f5.length fZ):Value).ownBlock∧some k_≠((.slice l6 jE.length l7):Value).ownBlock) (.slice fF dg.length fG) dg)∧U (Kd.R b7 65 wc w.heap.size (fun k_=>some k_≠((.slice di cx.length dj):Value).ownBlock∧some k_≠((.slice dI ca.length cd):Value).ownBlock∧some k_≠((.slice dT cy.length dM):Value).ownBlock∧some k_≠((.slice fF dg.length fG):Value).ownBlock∧some k_≠((.slice fY f5.length fZ):Value).ownBlock∧some k_≠((.slice l6 jE.length l7):Value).ownBlock) (.slice fQ du.length fR) du)∧U (Kd.R b7 65 wc w.heap.size (fun k_=>some k_≠((.slice di cx.length dj):Value).ownBlock∧some k_≠((.slice dI ca.length cd):Value).ownBlock∧some k_≠((.slice dT cy.length dM):Value).ownBlock∧some k_≠((.slice fF dg.length fG):Value).ownBlock∧some k_≠((.slice fQ du.length fR):Value).ownBlock∧some k_≠((.slice l6 jE.length l7):Value).ownBlock) (.slice fY f5.length fZ) f5)∧U (Kd.R b7 65 wc w.heap.size (fun k_=>some k_≠((.slice di cx.length dj):Value).ownBlock∧some k_≠((.slice dI ca.length cd):Value).ownBlock∧some k_≠((.slice dT cy.length dM):Value).ownBlock∧some k_≠((.slice fF dg.length fG):Value).ownBlock∧some k_≠((.slice fQ du.length fR):Value).ownBlock∧some k_≠((.slice fY f5.length fZ):Value).ownBlock) (.slice l6 jE.length l7) jE)∧U (wc.heap[sJ]?=some (.cells #[(.slice di cx.length dj)] 25 (0,0)))∧U (wc.heap[sK]?=some (.cells #[(.slice dI ca.length cd)] 25 (0,0)))∧U (wc.heap[mu]?=some (.cells #[(.slice dT cy.length dM)] 25 (0,0)))∧U (wc.heap[Ey]?=some (.cells #[(.slice fF dg.length fG)] 25 (0,0)))∧U (wc.heap[Ez]?=some (.cells #[(.slice fQ du.length fR)] 25 (0,0)))∧U (wc.heap[sM]?=some (.cells #[(.slice fY f5.length fZ)] 25 (0,0)))∧U (wc.heap[ST]?=some (.cells #[(.slice l6 jE.length l7)] 25 (0,0)))∧U (Below w.heap.size w wc))
             case first=>
              have H:=SS.out;clear SS
              by_cases rI:(tx !=xT)=true
              ·
               rw[if_pos rI]at H;have C3:(tx !=xT)=true:=rI;(try(have Rx:decide (tx=xT)=false:=by simpa using rI));(try(have Hf:(tx==xT)=false:=by simpa using rI));(try(have c306b3:¬(tx=xT):=by simpa using rI));clear rI;(first|rw[C3]|(simp only[cz,dS];rw[C3])|(simp only[Hf,aaz,aaC])|skip);have H':=Ah H;clear H
               go_wp2
               go_meet
               case rel=>exact⟨_,(true),e3,H',⟨by have:=fx.out;have:=pm.out;have:=sN.out;have:=NC.out;first|omega|exact bx _⟩,rm zB (fun _ hk=>trivial),rm bT (fun _ hk=>⟨hk.1.1,⟨hk.1.2.1,⟨hk.1.2.2.1,⟨hk.1.2.2.2.1,⟨hk.1.2.2.2.2,hk.2⟩⟩⟩⟩⟩),rm bN (fun _ hk=>⟨hk.1.1,⟨hk.1.2.1,⟨hk.1.2.2.1,⟨hk.1.2.2.2.1,⟨hk.1.2.2.2.2,hk.2⟩⟩⟩⟩⟩),rm bW (fun _ hk=>⟨hk.1.1,⟨hk.1.2.1,⟨hk.1.2.2.1,⟨hk.1.2.2.2.1,⟨hk.1.2.2.2.2,hk.2⟩⟩⟩⟩⟩),rm d8 (fun _ hk=>⟨hk.1.1,⟨hk.1.2.1,⟨hk.1.2.2.1,⟨hk.1.2.2.2.1,⟨hk.1.2.2.2.2,hk.2⟩⟩⟩⟩⟩),rm d9 (fun _ hk=>⟨hk.1.1,⟨hk.1.2.1,⟨hk.1.2.2.1,⟨hk.1.2.2.2.1,⟨hk.1.2.2.2.2,hk.2⟩⟩⟩⟩⟩),rm dq (fun _ hk=>⟨hk.1.1,⟨hk.1.2.1,⟨hk.1.2.2.1,⟨hk.1.2.2.2.1,⟨hk.1.2.2.2.2,hk.2⟩⟩⟩⟩⟩),rm qw (fun _ hk=>⟨hk.1.1.1.1.1.2,⟨hk.1.1.1.1.2,⟨hk.1.1.1.2,⟨hk.1.1.2,⟨hk.1.2,hk.2⟩⟩⟩⟩⟩),⟨bk b0⟩,⟨bk aw⟩,⟨bk az⟩,⟨bk cJ⟩,⟨bk bu⟩,⟨bk cg⟩,⟨bk gj⟩,⟨q8 HB bR bZ bi dX dt eG kB⟩⟩
              rw[if_neg rI]at H
              have C3:(tx !=xT)=false:=by simpa using rI
              (try(have Rx:decide (tx=xT)=true:=by simpa using rI));(try(have Hf:(tx==xT)=true:=by simpa using rI));clear rI;(first|rw[C3]|(simp only[cz,dS];rw[C3])|(simp only[Hf,aaz,aaC])|skip);replace H:=LT.mp H;obtain⟨OH,a1h,H⟩:=H
              try dsimp only at H
              have A307:=Ah a1h;clear a1h;have H':=Ah H;clear H;obtain⟨Ao308,co308,eo308⟩:=Kd.bq zB.out;subst eo308;obtain⟨Ao309,co309,eo309⟩:=Kd.bq SU.out;subst eo309
              go_wp2_with (first|(go_at_call 8;(with_reducible refine(i4.calls I3 _ _ iB _ _ a4s OH _ ?a8 ?a9 ?dm ?qu A307.out).mono ?_);(case a8=>exact fB zB);(case a9=>exact(Kd.af zB.out).2.1);(case dm=>exact fB SU);(case qu=>exact(Kd.af SU.out).2.1);rintro e w' ⟨rfl,⟨nd,rfl⟩⟩))
              go_meet
              case rel=>exact⟨_,(!OH),e3,H',⟨by have:=fx.out;have:=pm.out;have:=sN.out;have:=NC.out;first|omega|exact bx _⟩,rm zB (fun _ hk=>trivial),rm bT (fun _ hk=>⟨hk.1.1,⟨hk.1.2.1,⟨hk.1.2.2.1,⟨hk.1.2.2.2.1,⟨hk.1.2.2.2.2,hk.2⟩⟩⟩⟩⟩),rm bN (fun _ hk=>⟨hk.1.1,⟨hk.1.2.1,⟨hk.1.2.2.1,⟨hk.1.2.2.2.1,⟨hk.1.2.2.2.2,hk.2⟩⟩⟩⟩⟩),rm bW (fun _ hk=>⟨hk.1.1,⟨hk.1.2.1,⟨hk.1.2.2.1,⟨hk.1.2.2.2.1,⟨hk.1.2.2.2.2,hk.2⟩⟩⟩⟩⟩),rm d8 (fun _ hk=>⟨hk.1.1,⟨hk.1.2.1,⟨hk.1.2.2.1,⟨hk.1.2.2.2.1,⟨hk.1.2.2.2.2,hk.2⟩⟩⟩⟩⟩),rm d9 (fun _ hk=>⟨hk.1.1,⟨hk.1.2.1,⟨hk.1.2.2.1,⟨hk.1.2.2.2.1,⟨hk.1.2.2.2.2,hk.2⟩⟩⟩⟩⟩),rm dq (fun _ hk=>⟨hk.1.1,⟨hk.1.2.1,⟨hk.1.2.2.1,⟨hk.1.2.2.2.1,⟨hk.1.2.2.2.2,hk.2⟩⟩⟩⟩⟩),rm qw (fun _ hk=>⟨hk.1.1.1.1.1.2,⟨hk.1.1.1.1.2,⟨hk.1.1.1.2,⟨hk.1.1.2,⟨hk.1.2,hk.2⟩⟩⟩⟩⟩),⟨bk b0⟩,⟨bk aw⟩,⟨bk az⟩,⟨bk cJ⟩,⟨bk bu⟩,⟨bk cg⟩,⟨bk gj⟩,⟨q8 HB bR bZ bi dX dt eG kB⟩⟩
             case rest=>
              clear SS
              try clear c1
              try clear c2
              try clear p2
              try clear c3
              try clear iN
              try clear c4
              try clear c5
              try clear c6
              try clear p6
              try clear q6
              try clear hx6
              try clear c7
              try clear c8
              try clear c9
              try clear c10
              try clear c11
              try clear c12
              try clear c13
              try clear c14
              try clear c15
              try clear c16
              try clear c17
              try clear c18
              try clear c19
              try clear c20
              try clear c21
              try clear ks
              try clear c23
              try clear c24
              try clear lU
              try clear sL
              try clear pN
              try clear ix
              try clear i3
              try clear Wk
              try clear c28
              try clear kY
              try clear ra
              try clear c31
              try clear lH
              try clear c37
              try clear kZ
              try clear nz
              try clear lI
              try clear o0
              try clear c49
              try clear xr
              try clear ob
              try clear pO
              try clear c59
              try clear wo
              try clear rZ
              try clear wq
              try clear AJ
              try clear AK
              try clear c64
              try clear p64
              try clear qA
              try clear ws
              try clear sl
              try clear z9
              try clear mK
              try clear zA
              try clear p69
              try clear qB
              try clear Cd
              try clear c70
              try clear wt
              try clear ka
              try clear tO
              try clear Dj
              try clear Dk
              try clear c75
              try clear c76
              try clear Dl
              try clear Dm
              try clear c80
              try clear xt
              try clear xu
              try clear c85
              try clear Dn
              try clear Do
              try clear Dp
              try clear Dq
              try clear c93
              try clear Dr
              try clear xv
              try clear xw
              try clear Ds
              try clear Dt
              try clear xN
              try clear sT
              try clear sU
              try clear c105
              try clear n9
              try clear qo
              try clear wh
              try clear xO
              try clear c109
              try clear tu
              try clear sX
              try clear C0
              try clear vU
              try clear c116
              try clear C1
              try clear C2
              try clear c117
              try clear Jm
              try clear Jn
              try clear Jo
              try clear Ce
              try clear Cf
              try clear pn
              try clear vW
              try clear c138
              try clear c143
              try clear OQ
              try clear c145
              try clear c146
              try clear c152
              try clear OR
              try clear c154
              try clear OS
              try clear c156
              try clear nA
              try clear vH
              try clear Ej
              try clear z4
              try clear c160
              try clear Jq
              try clear c162
              try clear Jr
              try clear c164
              try clear OT
              try clear c167
              try clear c168
              try clear OU
              try clear po
              try clear xQ
              try clear c175
              try clear z5
              try clear zi
              try clear zj
              try clear tw
              try clear Mt
              try clear Mu
              try clear xR
              try clear Mv
              try clear c182
              try clear Mw
              try clear c183
              try clear UP
              try clear UQ
              try clear a3K
              try clear a3L
              try clear UR
              try clear US
              try clear a3M
              try clear c193
              try clear c194
              try clear vX
              try clear Mx
              try clear My
              try clear c198
              try clear UT
              try clear UU
              try clear c201
              try clear a3N
              try clear UV
              try clear c206
              try clear a3O
              try clear c208
              try clear UW
              try clear c212
              try clear c213
              try clear Cg
              try clear a3P
              try clear c218
              try clear Ch
              try clear a3Q
              try clear a3R
              try clear a3S
              try clear a3T
              try clear c226
              try clear c227
              try clear c228
              try clear a3U
              try clear c232
              try clear c233
              try clear c234
              try clear Ci
              try clear Cj
              try clear a3V
              try clear a3W
              try clear a3X
              try clear a3Y
              try clear a3Z
              try clear a30
              try clear a31
              try clear a32
              try clear a33
              try clear a34
              try clear a35
              try clear Ck
              try clear a36
              try clear a37
              try clear a38
              try clear a39
              try clear a4a
              try clear a4b
              try clear a4c
              try clear a4d
              try clear a4e
              try clear a4f
              try clear a4g
              try clear a4h
              try clear a4i
              try clear a4j
              try clear a4k
              try clear a4l
              try clear a4m
              try clear a4n
              try clear a4o
              try clear a4p
              try clear a4q
              try clear a4r
              try clear c296
              try clear c297
              try clear c298
              try clear c299
              try clear c300
              try clear c301
              try clear rI
              try clear C3
              try clear Rx
              try clear Hf
              try clear yR yS
              try clear ur
              try clear Ak
              try clear lx
              try clear ED
              try clear wE
              try clear Gy
              try clear H0
              try clear Am
              try clear H2
              try clear H4
              try clear nQ
              try clear Ao
              try clear qR
              try clear QQ
              try clear Qc
              try clear YK
              try clear Qe
              try clear YL
              try clear Qg
              try clear YM
              try clear Qa
              try clear mO
              try clear Qi
              try clear QY
              try clear YN
              try clear QW
              try clear YO
              try clear QU
              try clear YP
              try clear QS
              try clear YW
              try clear YY
              try clear o6
              try clear qT
              try clear pE
              try clear nS
              try clear rv
              try clear t9
              try clear ry
              try clear uw wJ
              try clear wK wL
              try clear yX yY
              try clear ux wM
              try clear yZ ya
              try clear uy yb
              try clear yT yU
              try clear us
              try clear Al
              try clear ly
              try clear EE
              try clear wF
              try clear Gz
              try clear H1
              try clear An
              try clear H3
              try clear H5
              try clear nR
              try clear Ap
              try clear qS
              try clear QR
              try clear Qd
              try clear YQ
              try clear Qf
              try clear YR
              try clear Qh
              try clear YS
              try clear Qb
              try clear mP
              try clear Qj
              try clear QZ
              try clear YT
              try clear QX
              try clear YU
              try clear QV
              try clear YV
              try clear QT
              try clear YX
              try clear YZ
              try clear o7
              try clear qU
              try clear pF
              try clear nT
              try clear rx
              try clear tA
              try clear rz
              try clear uz wN
              try clear wO wP
              try clear yc yd
              try clear vA wQ
              try clear ye yf
              try clear vB yg
              try clear wR
              try clear wS
              try clear vC
              try clear vD
              try clear p2
              try clear p6
              try clear p64
              try clear p69
              try clear sV
              try clear m8
              try clear q6
              try clear qB
              try clear sW
              try clear m9
              obtain⟨kq,M7,rfl,HA,a1i,vK,bT,bN,bW,d8,d9,dq,p7,b0,aw,az,cJ,bu,cg,gj,HB⟩:=hcut
              cases kq with
              |zero=>exact absurd HA.out (by simp[b8.j9])
              |succ ND=>
               have H:=HA.out;clear HA;simp only[b8.j9]at H
               as_aux_lemma=>
                by_cases Js:M7=true
                ·
                 subst Js;rw[if_pos rfl]at H;obtain rfl:=iz H
                 go_wp2
                 go_ret
                 exact⟨er,q8 HB bR bZ bi dX dt eG kB⟩
                replace Js:=dn.mpr Js;subst Js;rw[if_neg dV]at H
                by_cases Jt:tx=true
                rotate_left
                ·
                 replace Jt:=dn.mpr Jt;subst Jt;rw[if_neg dV]at H;obtain rfl:=iz H;obtain⟨Ao349,co349,eo349⟩:=Kd.bq vK.out;subst eo349
                 go_wp2
                 go_ret
                 exact⟨er,q8 HB bR bZ bi dX dt eG kB⟩
                subst Jt;rw[if_pos rfl]at H;replace H:=LT.mp H;obtain⟨⟨pp,t743,UX⟩,a1j,H⟩:=H
                try dsimp only at H
                have A312:=Ah a1j;clear a1j;replace H:=LT.mp H;obtain⟨⟨a4t,t749,UY⟩,a1k,H⟩:=H
                try dsimp only at H
                have A313:=Ah a1k;clear a1k;have H':=Ah H;clear H;have hnb314:=Xi.out;have hnc314:=Q3.out;have hnb315:=Xj.out;have hnc315:=Q4.out;have hnb316:=Xk.out;have hnc316:=Q5.out;have hnb317:=Xl.out;have hnc317:=Q6.out;have hnb318:=Xm.out;have hnc318:=Q7.out;have hnb319:=Xn.out;have hnc319:=Q8.out;have hcz320_0:=ap gj;have hfz320_0:=an gj
                go_wp2_with (first|((with_reducible refine bJ (f:=19) rfl ?_);refine gL (some 311) rfl rfl Try.func19 (by kernel_rfl) rfl #[.agg #[.slice l6 jE.length l7],.int .i64 xS] rfl ?_;(with_reducible refine(ie.calls ND _ _ jE xS pp t743 UX _ ?a8 ?a9 A312.out).mono ?_);(case a8=>exact fB p7);(case a9=>exact(Kd.af p7.out).2.1);rintro e w321 ⟨v741,v744,rfl,ho0,ho1,hb⟩;refine⟨_,rfl, ?_⟩;have zC:=Ah (Kd.dD (Kd.ec (Kd.ec (Kd.ec (Kd.ec (Kd.ec (Kd.ec (Kd.ec ho0 (Kd.dU (rr bT.out))) (Kd.dU (rr bN.out))) (Kd.dU (rr bW.out))) (Kd.dU (rr d8.out))) (Kd.dU (rr d9.out))) (Kd.dU (rr dq.out))) (Kd.dU (rr p7.out))) (be (q8 HB bR bZ bi dX dt eG kB)));replace bT:=Ah (Kd.eZ (rr bT.out) (Kd.eX ho0) hb);replace bN:=Ah (Kd.eZ (rr bN.out) (Kd.eX ho0) hb);replace bW:=Ah (Kd.eZ (rr bW.out) (Kd.eX ho0) hb);replace d8:=Ah (Kd.eZ (rr d8.out) (Kd.eX ho0) hb);replace d9:=Ah (Kd.eZ (rr d9.out) (Kd.eX ho0) hb);replace dq:=Ah (Kd.eZ (rr dq.out) (Kd.eX ho0) hb);replace p7:=Ah (Kd.eZ (rr p7.out) (Kd.eX ho0) hb);have NE:=Ah (Kd.dD (Kd.ec ho1 (Kd.dU (rr vK.out))) (be (q8 HB bR bZ bi dX dt eG kB)));replace vK:=Ah (Kd.eZ (rr vK.out) (Kd.eX ho1) hb);replace b0:=nb b0 hb;replace aw:=nb aw hb;replace az:=nb az hb;replace cJ:=nb cJ hb;replace bu:=nb bu hb;replace cg:=nb cg hb;replace gj:=nb gj hb;replace HB:=Ah (aK (q8 HB bR bZ bi dX dt eG kB) hb);(try clear hb ho0 ho1))|((with_reducible refine ax (N:=51) rfl ?_);refine bA 51 25 #[.slice none 0 0] ?_;intro a1l hg w322 kk hb;replace vK:=nr vK hb;replace bT:=nr bT hb;replace bN:=nr bN hb;replace bW:=nr bW hb;replace d8:=nr d8 hb;replace d9:=nr d9 hb;replace dq:=nr dq hb;replace p7:=nr p7 hb;replace zC:=nr zC hb;replace NE:=nr NE hb;have GW747:=gw hg (q8 HB bR bZ bi dX dt eG kB);have wv:=gw hg (q8 HB bR bZ bi dX dt eG kB);replace HB:=Ah (aK (q8 HB bR bZ bi dX dt eG kB) hb);have Xo:=nn b0 hg;have NB747_666:=nm b0 hg;replace b0:=nb b0 hb;have Xp:=nn aw hg;have NB747_674:=nm aw hg;replace aw:=nb aw hb;have Xq:=nn az hg;have NB747_682:=nm az hg;replace az:=nb az hb;have Xr:=nn cJ hg;have NB747_708:=nm cJ hg;replace cJ:=nb cJ hb;have Xs:=nn bu hg;have NB747_713:=nm bu hg;replace bu:=nb bu hb;have Xt:=nn cg hg;have NB747_718:=nm cg hg;replace cg:=nb cg hb;have Xu:=nn gj hg;have NB747_730:=nm gj hg;replace gj:=nb gj hb;clear hb hg;obtain⟨tP,tQ,eo323⟩:=Kd.bq zC.out;subst eo323;have hnb324:=NB747_666.out;have hnc324:=Xo.out;have hnb325:=NB747_674.out;have hnc325:=Xp.out;have hnb326:=NB747_682.out;have hnc326:=Xq.out;have hnb327:=NB747_708.out;have hnc327:=Xr.out;have hnb328:=NB747_713.out;have hnc328:=Xs.out;have hnb329:=NB747_718.out;have hnc329:=Xt.out;have hnb330:=NB747_730.out;have hnc330:=Xu.out;have hcz331_0:=ap kk;have hfz331_0:=an kk)|((with_reducible refine bJ (f:=9) rfl ?_);refine gL (some 317) rfl rfl Try.func9 (by kernel_rfl) rfl #[.agg #[.slice tP pp.length tQ]] rfl ?_;(with_reducible refine(gb.calls ND _ _ pp a4t t749 UY _ ?a8 ?a9 A313.out).mono ?_);(case a8=>exact rc zC kk);(case a9=>exact(Kd.af zC.out).2.1);rintro e w332 ⟨rfl,hb⟩;refine⟨_,rfl, ?_⟩;replace vK:=nf vK kk hb;replace bT:=nf bT kk hb;replace bN:=nf bN kk hb;replace bW:=nf bW kk hb;replace d8:=nf d8 kk hb;replace d9:=nf d9 kk hb;replace dq:=nf dq kk hb;replace p7:=nf p7 kk hb;replace zC:=nf zC kk hb;replace NE:=nf NE kk hb;replace b0:=Ah (cC (bf b0 Xo) hb);replace aw:=Ah (cC (bf aw Xp) hb);replace az:=Ah (cC (bf az Xq) hb);replace cJ:=Ah (cC (bf cJ Xr) hb);replace bu:=Ah (cC (bf bu Xs) hb);replace cg:=Ah (cC (bf cg Xt) hb);replace gj:=Ah (cC (bf gj Xu) hb);replace kk:=Ah (cC (g:=a1l) (o:= .cells #[.slice tP pp.length tQ] 25 (0,0)) (by(with_reducible repeat(first|refine aD ?_ _|refine Z ?_|refine aC ?_ _));refine aj (cs:= #[.slice none 0 0]) ?_ 0 _ rfl;(with_reducible repeat(first|refine aD ?_ _|refine Z ?_|refine aC ?_ _));exact kk.out) hb);replace HB:=Ah (aK (by repeat(first|(with_reducible first|exact HB.out|apply jH|apply k5|apply fO|refine cF ?_ bR.out|refine cF ?_ bZ.out|refine cF ?_ bi.out|refine cF ?_ dX.out|refine cF ?_ dt.out|refine cF ?_ eG.out|refine cF ?_ kB.out|refine cF ?_ wv.out)|exact HB.out)) hb);(try clear hb);obtain⟨Ao333,co333,eo333⟩:=Kd.bq vK.out;subst eo333))
                go_loopg [54,323] ND (fun kq v54 v323 w'=>∃ (NF:Int) (i8:Int),v54= .int .i64 NF∧v323= .int .i64 i8∧U (b8.l4 kq xS UX NF UY iB (iB.length:Int) i8=some r)∧U (kq≤ND)∧U (Kd.R bd 38 w' w.heap.size (fun _=>True) (.slice Ao333 iB.length co333) iB)∧U (Kd.R b7 65 w' w.heap.size (fun k_=>some k_≠((.slice dI ca.length cd):Value).ownBlock∧some k_≠((.slice dT cy.length dM):Value).ownBlock∧some k_≠((.slice fF dg.length fG):Value).ownBlock∧some k_≠((.slice fQ du.length fR):Value).ownBlock∧some k_≠((.slice fY f5.length fZ):Value).ownBlock∧some k_≠((.slice l6 jE.length l7):Value).ownBlock∧some k_≠((.slice tP pp.length tQ):Value).ownBlock) (.slice di cx.length dj) cx)∧U (Kd.R b7 65 w' w.heap.size (fun k_=>some k_≠((.slice di cx.length dj):Value).ownBlock∧some k_≠((.slice dT cy.length dM):Value).ownBlock∧some k_≠((.slice fF dg.length fG):Value).ownBlock∧some k_≠((.slice fQ du.length fR):Value).ownBlock∧some k_≠((.slice fY f5.length fZ):Value).ownBlock∧some k_≠((.slice l6 jE.length l7):Value).ownBlock∧some k_≠((.slice tP pp.length tQ):Value).ownBlock) (.slice dI ca.length cd) ca)∧U (Kd.R b7 65 w' w.heap.size (fun k_=>some k_≠((.slice di cx.length dj):Value).ownBlock∧some k_≠((.slice dI ca.length cd):Value).ownBlock∧some k_≠((.slice fF dg.length fG):Value).ownBlock∧some k_≠((.slice fQ du.length fR):Value).ownBlock∧some k_≠((.slice fY f5.length fZ):Value).ownBlock∧some k_≠((.slice l6 jE.length l7):Value).ownBlock∧some k_≠((.slice tP pp.length tQ):Value).ownBlock) (.slice dT cy.length dM) cy)∧U (Kd.R b7 65 w' w.heap.size (fun k_=>some k_≠((.slice di cx.length dj):Value).ownBlock∧some k_≠((.slice dI ca.length cd):Value).ownBlock∧some k_≠((.slice dT cy.length dM):Value).ownBlock∧some k_≠((.slice fQ du.length fR):Value).ownBlock∧some k_≠((.slice fY f5.length fZ):Value).ownBlock∧some k_≠((.slice l6 jE.length l7):Value).ownBlock∧some k_≠((.slice tP pp.length tQ):Value).ownBlock) (.slice fF dg.length fG) dg)∧U (Kd.R b7 65 w' w.heap.size (fun k_=>some k_≠((.slice di cx.length dj):Value).ownBlock∧some k_≠((.slice dI ca.length cd):Value).ownBlock∧some k_≠((.slice dT cy.length dM):Value).ownBlock∧some k_≠((.slice fF dg.length fG):Value).ownBlock∧some k_≠((.slice fY f5.length fZ):Value).ownBlock∧some k_≠((.slice l6 jE.length l7):Value).ownBlock∧some k_≠((.slice tP pp.length tQ):Value).ownBlock) (.slice fQ du.length fR) du)∧U (Kd.R b7 65 w' w.heap.size (fun k_=>some k_≠((.slice di cx.length dj):Value).ownBlock∧some k_≠((.slice dI ca.length cd):Value).ownBlock∧some k_≠((.slice dT cy.length dM):Value).ownBlock∧some k_≠((.slice fF dg.length fG):Value).ownBlock∧some k_≠((.slice fQ du.length fR):Value).ownBlock∧some k_≠((.slice l6 jE.length l7):Value).ownBlock∧some k_≠((.slice tP pp.length tQ):Value).ownBlock) (.slice fY f5.length fZ) f5)∧U (Kd.R b7 65 w' w.heap.size (fun k_=>some k_≠((.slice di cx.length dj):Value).ownBlock∧some k_≠((.slice dI ca.length cd):Value).ownBlock∧some k_≠((.slice dT cy.length dM):Value).ownBlock∧some k_≠((.slice fF dg.length fG):Value).ownBlock∧some k_≠((.slice fQ du.length fR):Value).ownBlock∧some k_≠((.slice fY f5.length fZ):Value).ownBlock∧some k_≠((.slice tP pp.length tQ):Value).ownBlock) (.slice l6 jE.length l7) jE)∧U (Kd.R b7 65 w' w.heap.size (fun k_=>some k_≠((.slice di cx.length dj):Value).ownBlock∧some k_≠((.slice dI ca.length cd):Value).ownBlock∧some k_≠((.slice dT cy.length dM):Value).ownBlock∧some k_≠((.slice fF dg.length fG):Value).ownBlock∧some k_≠((.slice fQ du.length fR):Value).ownBlock∧some k_≠((.slice fY f5.length fZ):Value).ownBlock∧some k_≠((.slice l6 jE.length l7):Value).ownBlock) (.slice tP pp.length tQ) pp)∧U (w'.heap[sJ]?=some (.cells #[(.slice di cx.length dj)] 25 (0,0)))∧U (w'.heap[sK]?=some (.cells #[(.slice dI ca.length cd)] 25 (0,0)))∧U (w'.heap[mu]?=some (.cells #[(.slice dT cy.length dM)] 25 (0,0)))∧U (w'.heap[Ey]?=some (.cells #[(.slice fF dg.length fG)] 25 (0,0)))∧U (w'.heap[Ez]?=some (.cells #[(.slice fQ du.length fR)] 25 (0,0)))∧U (w'.heap[sM]?=some (.cells #[(.slice fY f5.length fZ)] 25 (0,0)))∧U (w'.heap[ST]?=some (.cells #[(.slice l6 jE.length l7)] 25 (0,0)))∧U (w'.heap[a1l]?=some (.cells #[(.slice tP pp.length tQ)] 25 (0,0)))∧U (Below w.heap.size w w'))
                case atStart=>exact⟨(a4t),(0),e3,e3,H',⟨bx _⟩,rm vK (fun _ hk=>trivial),rm bT (fun _ hk=>⟨hk.1.1,⟨hk.1.2.1,⟨hk.1.2.2.1,⟨hk.1.2.2.2.1,⟨hk.1.2.2.2.2.1,⟨hk.1.2.2.2.2.2,hk.2⟩⟩⟩⟩⟩⟩),rm bN (fun _ hk=>⟨hk.1.1,⟨hk.1.2.1,⟨hk.1.2.2.1,⟨hk.1.2.2.2.1,⟨hk.1.2.2.2.2.1,⟨hk.1.2.2.2.2.2,hk.2⟩⟩⟩⟩⟩⟩),rm bW (fun _ hk=>⟨hk.1.1,⟨hk.1.2.1,⟨hk.1.2.2.1,⟨hk.1.2.2.2.1,⟨hk.1.2.2.2.2.1,⟨hk.1.2.2.2.2.2,hk.2⟩⟩⟩⟩⟩⟩),rm d8 (fun _ hk=>⟨hk.1.1,⟨hk.1.2.1,⟨hk.1.2.2.1,⟨hk.1.2.2.2.1,⟨hk.1.2.2.2.2.1,⟨hk.1.2.2.2.2.2,hk.2⟩⟩⟩⟩⟩⟩),rm d9 (fun _ hk=>⟨hk.1.1,⟨hk.1.2.1,⟨hk.1.2.2.1,⟨hk.1.2.2.2.1,⟨hk.1.2.2.2.2.1,⟨hk.1.2.2.2.2.2,hk.2⟩⟩⟩⟩⟩⟩),rm dq (fun _ hk=>⟨hk.1.1,⟨hk.1.2.1,⟨hk.1.2.2.1,⟨hk.1.2.2.2.1,⟨hk.1.2.2.2.2.1,⟨hk.1.2.2.2.2.2,hk.2⟩⟩⟩⟩⟩⟩),rm p7 (fun _ hk=>⟨hk.1.1,⟨hk.1.2.1,⟨hk.1.2.2.1,⟨hk.1.2.2.2.1,⟨hk.1.2.2.2.2.1,⟨hk.1.2.2.2.2.2,hk.2⟩⟩⟩⟩⟩⟩),rm zC (fun _ hk=>⟨hk.1.1.1.1.1.1.2,⟨hk.1.1.1.1.1.2,⟨hk.1.1.1.1.2,⟨hk.1.1.1.2,⟨hk.1.1.2,⟨hk.1.2,hk.2⟩⟩⟩⟩⟩⟩),⟨bk b0⟩,⟨bk aw⟩,⟨bk az⟩,⟨bk cJ⟩,⟨bk bu⟩,⟨bk cg⟩,⟨bk gj⟩,⟨bk kk⟩,⟨by repeat(first|(with_reducible first|exact HB.out|apply jH|apply k5|apply fO|refine cF ?_ bR.out|refine cF ?_ bZ.out|refine cF ?_ bi.out|refine cF ?_ dX.out|refine cF ?_ dt.out|refine cF ?_ eG.out|refine cF ?_ kB.out|refine cF ?_ wv.out)|exact HB.out)⟩⟩
                case round=>
                 clear H'
                 try clear c1
                 try clear c2
                 try clear p2
                 try clear c3
                 try clear iN
                 try clear c4
                 try clear c5
                 try clear c6
                 try clear p6
                 try clear q6
                 try clear hx6
                 try clear c7
                 try clear c8
                 try clear c9
                 try clear c10
                 try clear c11
                 try clear c12
                 try clear c13
                 try clear c14
                 try clear c15
                 try clear c16
                 try clear c17
                 try clear c18
                 try clear c19
                 try clear c20
                 try clear c21
                 try clear ks
                 try clear c23
                 try clear c24
                 try clear lU
                 try clear sL
                 try clear pN
                 try clear ix
                 try clear i3
                 try clear Wk
                 try clear c28
                 try clear kY
                 try clear ra
                 try clear c31
                 try clear c32
                 try clear jd
                 try clear lH
                 try clear c37
                 try clear kZ
                 try clear nz
                 try clear lI
                 try clear o0
                 try clear c49
                 try clear xr
                 try clear ob
                 try clear pO
                 try clear c59
                 try clear wo
                 try clear rZ
                 try clear wq
                 try clear AJ
                 try clear AK
                 try clear c64
                 try clear p64
                 try clear qA
                 try clear ws
                 try clear sl
                 try clear z9
                 try clear mK
                 try clear zA
                 try clear p69
                 try clear qB
                 try clear Cd
                 try clear c70
                 try clear wt
                 try clear ka
                 try clear tO
                 try clear Dj
                 try clear Dk
                 try clear c75
                 try clear c76
                 try clear Dl
                 try clear Dm
                 try clear c80
                 try clear xt
                 try clear xu
                 try clear c85
                 try clear Dn
                 try clear Do
                 try clear Dp
                 try clear Dq
                 try clear c93
                 try clear Dr
                 try clear xv
                 try clear xw
                 try clear Ds
                 try clear Dt
                 try clear xN
                 try clear sT
                 try clear sU
                 try clear c105
                 try clear n9
                 try clear qo
                 try clear wh
                 try clear xO
                 try clear c109
                 try clear tu
                 try clear sX
                 try clear C0
                 try clear vU
                 try clear c116
                 try clear C1
                 try clear C2
                 try clear c117
                 try clear Jm
                 try clear Jn
                 try clear Jo
                 try clear Ce
                 try clear Cf
                 try clear pn
                 try clear vW
                 try clear c138
                 try clear c143
                 try clear OQ
                 try clear c145
                 try clear c146
                 try clear c152
                 try clear OR
                 try clear c154
                 try clear OS
                 try clear c156
                 try clear nA
                 try clear vH
                 try clear Ej
                 try clear z4
                 try clear c160
                 try clear Jq
                 try clear c162
                 try clear Jr
                 try clear c164
                 try clear OT
                 try clear c167
                 try clear c168
                 try clear OU
                 try clear po
                 try clear xQ
                 try clear c175
                 try clear z5
                 try clear zi
                 try clear zj
                 try clear tw
                 try clear Mt
                 try clear Mu
                 try clear xR
                 try clear Mv
                 try clear c182
                 try clear Mw
                 try clear c183
                 try clear UP
                 try clear UQ
                 try clear a3K
                 try clear a3L
                 try clear UR
                 try clear US
                 try clear a3M
                 try clear c193
                 try clear c194
                 try clear vX
                 try clear Mx
                 try clear My
                 try clear c198
                 try clear UT
                 try clear UU
                 try clear c201
                 try clear a3N
                 try clear UV
                 try clear c206
                 try clear a3O
                 try clear c208
                 try clear UW
                 try clear c212
                 try clear c213
                 try clear Cg
                 try clear a3P
                 try clear c218
                 try clear Ch
                 try clear a3Q
                 try clear a3R
                 try clear a3S
                 try clear a3T
                 try clear c226
                 try clear c227
                 try clear c228
                 try clear a3U
                 try clear c232
                 try clear c233
                 try clear c234
                 try clear Ci
                 try clear Cj
                 try clear a3V
                 try clear a3W
                 try clear a3X
                 try clear a3Y
                 try clear a3Z
                 try clear a30
                 try clear a31
                 try clear a32
                 try clear a33
                 try clear a34
                 try clear a35
                 try clear Ck
                 try clear a36
                 try clear a37
                 try clear a38
                 try clear a39
                 try clear a4a
                 try clear a4b
                 try clear a4c
                 try clear a4d
                 try clear a4e
                 try clear a4f
                 try clear a4g
                 try clear a4h
                 try clear a4i
                 try clear a4j
                 try clear a4k
                 try clear a4l
                 try clear a4m
                 try clear a4n
                 try clear a4o
                 try clear a4p
                 try clear a4q
                 try clear a4r
                 try clear c296
                 try clear c297
                 try clear c298
                 try clear c299
                 try clear c300
                 try clear c301
                 try clear rI
                 try clear C3
                 try clear Rx
                 try clear Hf
                 try clear Js
                 try clear Jt
                 try clear c314
                 try clear c315
                 try clear c316
                 try clear c317
                 try clear c318
                 try clear c319
                 try clear c324
                 try clear c325
                 try clear c326
                 try clear c327
                 try clear c328
                 try clear c329
                 try clear c330
                 try clear yR yS
                 try clear ur
                 try clear Ak
                 try clear lx
                 try clear ED
                 try clear wE
                 try clear Gy
                 try clear H0
                 try clear Am
                 try clear H2
                 try clear H4
                 try clear nQ
                 try clear Ao
                 try clear qR
                 try clear QQ
                 try clear Qc
                 try clear YK
                 try clear Qe
                 try clear YL
                 try clear Qg
                 try clear YM
                 try clear Qa
                 try clear mO
                 try clear Qi
                 try clear QY
                 try clear YN
                 try clear QW
                 try clear YO
                 try clear QU
                 try clear YP
                 try clear QS
                 try clear YW
                 try clear YY
                 try clear o6
                 try clear hcz320_0
                 try clear qT
                 try clear hcz331_0
                 try clear pE
                 try clear nS
                 try clear rv
                 try clear t9
                 try clear ry
                 try clear uw wJ
                 try clear wK wL
                 try clear yX yY
                 try clear ux wM
                 try clear yZ ya
                 try clear uy yb
                 try clear yT yU
                 try clear us
                 try clear Al
                 try clear ly
                 try clear EE
                 try clear wF
                 try clear Gz
                 try clear H1
                 try clear An
                 try clear H3
                 try clear H5
                 try clear nR
                 try clear Ap
                 try clear qS
                 try clear QR
                 try clear Qd
                 try clear YQ
                 try clear Qf
                 try clear YR
                 try clear Qh
                 try clear YS
                 try clear Qb
                 try clear mP
                 try clear Qj
                 try clear QZ
                 try clear YT
                 try clear QX
                 try clear YU
                 try clear QV
                 try clear YV
                 try clear QT
                 try clear YX
                 try clear YZ
                 try clear o7
                 try clear hfz320_0
                 try clear qU
                 try clear hfz331_0
                 try clear pF
                 try clear nT
                 try clear rx
                 try clear tA
                 try clear rz
                 try clear uz wN
                 try clear wO wP
                 try clear yc yd
                 try clear vA wQ
                 try clear ye yf
                 try clear vB yg
                 try clear wR
                 try clear wS
                 try clear vC
                 try clear vD
                 try clear p2
                 try clear p6
                 try clear p64
                 try clear p69
                 try clear sV
                 try clear m8
                 try clear q6
                 try clear qB
                 try clear sW
                 try clear m9
                 obtain⟨NF,i8,rfl,rfl,HA,HK6,Mz,bT,bN,bW,d8,d9,dq,p7,Q9,b0,aw,az,cJ,bu,cg,gj,kk,HB⟩:=hrel
                 cases gk with
                 |zero=>exact absurd HA.out (by simp[b8.l4])
                 |succ k6=>
                  have H:=HA.out;clear HA;simp only[b8.l4]at H
                  as_aux_lemma=>
                   by_cases FZ:i8<(iB.length:Int)
                   rotate_left
                   ·
                    rw[if_neg FZ]at H;have c334b0:decide (i8<(iB.length:Int))=false:=decide_eq_false FZ;clear FZ
                    by_cases OV:UX=true
                    rotate_left
                    ·
                     replace OV:=dn.mpr OV;subst OV;rw[if_neg dV]at H;obtain rfl:=iz H
                     go_wp2
                     go_ret
                     exact⟨er,by repeat(first|(with_reducible first|exact HB.out|apply jH|apply k5|apply fO|refine cF ?_ bR.out|refine cF ?_ bZ.out|refine cF ?_ bi.out|refine cF ?_ dX.out|refine cF ?_ dt.out|refine cF ?_ eG.out|refine cF ?_ kB.out|refine cF ?_ wv.out)|exact HB.out)⟩
                    subst OV;rw[if_pos rfl]at H
                    by_cases OW:UY=true
                    ·
                     subst OW;rw[if_pos rfl]at H;obtain rfl:=iz H
                     go_wp2
                     go_ret
                     exact⟨er,by repeat(first|(with_reducible first|exact HB.out|apply jH|apply k5|apply fO|refine cF ?_ bR.out|refine cF ?_ bZ.out|refine cF ?_ bi.out|refine cF ?_ dX.out|refine cF ?_ dt.out|refine cF ?_ eG.out|refine cF ?_ kB.out|refine cF ?_ wv.out)|exact HB.out)⟩
                    replace OW:=dn.mpr OW;subst OW;rw[if_neg dV]at H;obtain rfl:=iz H
                    go_wp2
                    go_ret
                    exact⟨er,by repeat(first|(with_reducible first|exact HB.out|apply jH|apply k5|apply fO|refine cF ?_ bR.out|refine cF ?_ bZ.out|refine cF ?_ bi.out|refine cF ?_ dX.out|refine cF ?_ dt.out|refine cF ?_ eG.out|refine cF ?_ kB.out|refine cF ?_ wv.out)|exact HB.out)⟩
                   rw[if_pos FZ]at H;have c334b0:decide (i8<(iB.length:Int))=true:=decide_eq_true FZ;clear FZ
                   by_cases OX:0≤i8
                   rotate_left
                   ·
                    rw[if_neg OX]at H;exact absurd H (by simp)
                   rw[if_pos OX]at H;have c335b0:decide (0≤i8)=true:=decide_eq_true OX;clear OX
                   by_cases OY:i8<(iB.length:Int)
                   rotate_left
                   ·
                    rw[if_neg OY]at H;exact absurd H (by simp)
                   rw[if_pos OY]at H;have c336b0:decide (i8<(iB.length:Int))=true:=decide_eq_true OY;clear OY;have H':=Ah H;clear H;have UZ:0≤(i8:Int):=od;have Ua:i8<(iB.length:Int):=od;obtain⟨ad751,e751,hx751_0,hx751_1⟩:=fE (Kd.af Mz.out).2.2 i8 UZ Ua
                   cases e751
                   replace UZ:=eq_true UZ;replace Ua:=eq_true Ua
                   go_wp2_with (first|((with_reducible refine ax (N:=58) rfl ?_);refine bA 58 38 #[.int .i64 0,.int .i64 0] ?_;intro lV hg w337 vL hb;replace Mz:=Ah (Kd.eO (Kd.gD (rr Mz.out) lV (aaj hg.symm)) hb);replace bT:=nr bT hb;replace bN:=nr bN hb;replace bW:=nr bW hb;replace d8:=nr d8 hb;replace d9:=nr d9 hb;replace dq:=nr dq hb;replace p7:=nr p7 hb;replace Q9:=nr Q9 hb;have GW752:=gw hg (by repeat(first|(with_reducible first|exact HB.out|apply jH|apply k5|apply fO|refine cF ?_ bR.out|refine cF ?_ bZ.out|refine cF ?_ bi.out|refine cF ?_ dX.out|refine cF ?_ dt.out|refine cF ?_ eG.out|refine cF ?_ kB.out|refine cF ?_ wv.out)|exact HB.out));have GE752:=gw hg (by repeat(first|(with_reducible first|exact HB.out|apply jH|apply k5|apply fO|refine cF ?_ bR.out|refine cF ?_ bZ.out|refine cF ?_ bi.out|refine cF ?_ dX.out|refine cF ?_ dt.out|refine cF ?_ eG.out|refine cF ?_ kB.out|refine cF ?_ wv.out)|exact HB.out));replace HB:=Ah (aK (by repeat(first|(with_reducible first|exact HB.out|apply jH|apply k5|apply fO|refine cF ?_ bR.out|refine cF ?_ bZ.out|refine cF ?_ bi.out|refine cF ?_ dX.out|refine cF ?_ dt.out|refine cF ?_ eG.out|refine cF ?_ kB.out|refine cF ?_ wv.out)|exact HB.out)) hb);have Xv:=nn b0 hg;have NB752_666:=nm b0 hg;replace b0:=nb b0 hb;have Xw:=nn aw hg;have NB752_674:=nm aw hg;replace aw:=nb aw hb;have Xx:=nn az hg;have NB752_682:=nm az hg;replace az:=nb az hb;have Xy:=nn cJ hg;have NB752_708:=nm cJ hg;replace cJ:=nb cJ hb;have Xz:=nn bu hg;have NB752_713:=nm bu hg;replace bu:=nb bu hb;have Y0:=nn cg hg;have NB752_718:=nm cg hg;replace cg:=nb cg hb;have Y1:=nn gj hg;have NB752_730:=nm gj hg;replace gj:=nb gj hb;have Y2:=nn kk hg;have NB752_747:=nm kk hg;replace kk:=nb kk hb;clear hb hg;have hnb338:=NB752_666.out;have hnc338:=Xv.out;have hnb339:=NB752_674.out;have hnc339:=Xw.out;have hnb340:=NB752_682.out;have hnc340:=Xx.out;have hnb341:=NB752_708.out;have hnc341:=Xy.out;have hnb342:=NB752_713.out;have hnc342:=Xz.out;have hnb343:=NB752_718.out;have hnc343:=Y0.out;have hnb344:=NB752_730.out;have hnc344:=Y1.out;have hnb345:=NB752_747.out;have hnc345:=Y2.out;obtain⟨hcz346_0,hcz346_1⟩:=nw vL;obtain⟨hfz346_0,hfz346_1⟩:=ny vL))
                   go_roundg k6
                   case measure=>have:=fx.out;have:=pm.out;have:=sN.out;have:=NC.out;have:=a1i.out;have:=HK6.out;omega
                   case rel=>exact⟨(LS (NF+((aE iB i8).f1))),(LS (i8+1)),e3,e3,H',⟨by have:=fx.out;have:=pm.out;have:=sN.out;have:=NC.out;have:=a1i.out;have:=HK6.out;omega⟩,⟨by(with_reducible repeat(first|apply Kd.bG|apply Kd.bE|apply Kd.al));exact Kd.aY (Kd.aQ (p:=⟨lV,1,none⟩) (Kd.aQ (p:=⟨lV,0,none⟩) (Kd.aY Mz.out (fun k_ hk=>(⟨hk,hk.2⟩:_∧k_≠lV))) (fun _ hk=>hk.2) (.int .i64 ((aE iB i8).f0))) (fun _ hk=>hk.2) (.int .i64 ((aE iB i8).f1))) (fun _ hk=>trivial)⟩,⟨by(with_reducible repeat(first|apply Kd.bG|apply Kd.bE|apply Kd.al));exact Kd.aY (Kd.aQ (p:=⟨lV,1,none⟩) (Kd.aQ (p:=⟨lV,0,none⟩) (Kd.cl bT.out vL.out (by decide)) (fun _ hk=>hk.2) (.int .i64 ((aE iB i8).f0))) (fun _ hk=>hk.2) (.int .i64 ((aE iB i8).f1))) (fun _ hk=>⟨hk.1.1,⟨hk.1.2.1,⟨hk.1.2.2.1,⟨hk.1.2.2.2.1,⟨hk.1.2.2.2.2.1,⟨hk.1.2.2.2.2.2.1,hk.1.2.2.2.2.2.2⟩⟩⟩⟩⟩⟩)⟩,⟨by(with_reducible repeat(first|apply Kd.bG|apply Kd.bE|apply Kd.al));exact Kd.aY (Kd.aQ (p:=⟨lV,1,none⟩) (Kd.aQ (p:=⟨lV,0,none⟩) (Kd.cl bN.out vL.out (by decide)) (fun _ hk=>hk.2) (.int .i64 ((aE iB i8).f0))) (fun _ hk=>hk.2) (.int .i64 ((aE iB i8).f1))) (fun _ hk=>⟨hk.1.1,⟨hk.1.2.1,⟨hk.1.2.2.1,⟨hk.1.2.2.2.1,⟨hk.1.2.2.2.2.1,⟨hk.1.2.2.2.2.2.1,hk.1.2.2.2.2.2.2⟩⟩⟩⟩⟩⟩)⟩,⟨by(with_reducible repeat(first|apply Kd.bG|apply Kd.bE|apply Kd.al));exact Kd.aY (Kd.aQ (p:=⟨lV,1,none⟩) (Kd.aQ (p:=⟨lV,0,none⟩) (Kd.cl bW.out vL.out (by decide)) (fun _ hk=>hk.2) (.int .i64 ((aE iB i8).f0))) (fun _ hk=>hk.2) (.int .i64 ((aE iB i8).f1))) (fun _ hk=>⟨hk.1.1,⟨hk.1.2.1,⟨hk.1.2.2.1,⟨hk.1.2.2.2.1,⟨hk.1.2.2.2.2.1,⟨hk.1.2.2.2.2.2.1,hk.1.2.2.2.2.2.2⟩⟩⟩⟩⟩⟩)⟩,⟨by(with_reducible repeat(first|apply Kd.bG|apply Kd.bE|apply Kd.al));exact Kd.aY (Kd.aQ (p:=⟨lV,1,none⟩) (Kd.aQ (p:=⟨lV,0,none⟩) (Kd.cl d8.out vL.out (by decide)) (fun _ hk=>hk.2) (.int .i64 ((aE iB i8).f0))) (fun _ hk=>hk.2) (.int .i64 ((aE iB i8).f1))) (fun _ hk=>⟨hk.1.1,⟨hk.1.2.1,⟨hk.1.2.2.1,⟨hk.1.2.2.2.1,⟨hk.1.2.2.2.2.1,⟨hk.1.2.2.2.2.2.1,hk.1.2.2.2.2.2.2⟩⟩⟩⟩⟩⟩)⟩,⟨by(with_reducible repeat(first|apply Kd.bG|apply Kd.bE|apply Kd.al));exact Kd.aY (Kd.aQ (p:=⟨lV,1,none⟩) (Kd.aQ (p:=⟨lV,0,none⟩) (Kd.cl d9.out vL.out (by decide)) (fun _ hk=>hk.2) (.int .i64 ((aE iB i8).f0))) (fun _ hk=>hk.2) (.int .i64 ((aE iB i8).f1))) (fun _ hk=>⟨hk.1.1,⟨hk.1.2.1,⟨hk.1.2.2.1,⟨hk.1.2.2.2.1,⟨hk.1.2.2.2.2.1,⟨hk.1.2.2.2.2.2.1,hk.1.2.2.2.2.2.2⟩⟩⟩⟩⟩⟩)⟩,⟨by(with_reducible repeat(first|apply Kd.bG|apply Kd.bE|apply Kd.al));exact Kd.aY (Kd.aQ (p:=⟨lV,1,none⟩) (Kd.aQ (p:=⟨lV,0,none⟩) (Kd.cl dq.out vL.out (by decide)) (fun _ hk=>hk.2) (.int .i64 ((aE iB i8).f0))) (fun _ hk=>hk.2) (.int .i64 ((aE iB i8).f1))) (fun _ hk=>⟨hk.1.1,⟨hk.1.2.1,⟨hk.1.2.2.1,⟨hk.1.2.2.2.1,⟨hk.1.2.2.2.2.1,⟨hk.1.2.2.2.2.2.1,hk.1.2.2.2.2.2.2⟩⟩⟩⟩⟩⟩)⟩,⟨by(with_reducible repeat(first|apply Kd.bG|apply Kd.bE|apply Kd.al));exact Kd.aY (Kd.aQ (p:=⟨lV,1,none⟩) (Kd.aQ (p:=⟨lV,0,none⟩) (Kd.cl p7.out vL.out (by decide)) (fun _ hk=>hk.2) (.int .i64 ((aE iB i8).f0))) (fun _ hk=>hk.2) (.int .i64 ((aE iB i8).f1))) (fun _ hk=>⟨hk.1.1,⟨hk.1.2.1,⟨hk.1.2.2.1,⟨hk.1.2.2.2.1,⟨hk.1.2.2.2.2.1,⟨hk.1.2.2.2.2.2.1,hk.1.2.2.2.2.2.2⟩⟩⟩⟩⟩⟩)⟩,⟨by(with_reducible repeat(first|apply Kd.bG|apply Kd.bE|apply Kd.al));exact Kd.aY (Kd.aQ (p:=⟨lV,1,none⟩) (Kd.aQ (p:=⟨lV,0,none⟩) (Kd.cl Q9.out vL.out (by decide)) (fun _ hk=>hk.2) (.int .i64 ((aE iB i8).f0))) (fun _ hk=>hk.2) (.int .i64 ((aE iB i8).f1))) (fun _ hk=>⟨hk.1.1,⟨hk.1.2.1,⟨hk.1.2.2.1,⟨hk.1.2.2.2.1,⟨hk.1.2.2.2.2.1,⟨hk.1.2.2.2.2.2.1,hk.1.2.2.2.2.2.2⟩⟩⟩⟩⟩⟩)⟩,⟨bf b0 Xv⟩,⟨bf aw Xw⟩,⟨bf az Xx⟩,⟨bf cJ Xy⟩,⟨bf bu Xz⟩,⟨bf cg Y0⟩,⟨bf gj Y1⟩,⟨bf kk Y2⟩,⟨by repeat(first|(with_reducible first|exact HB.out|apply jH|apply k5|apply fO|refine cF ?_ bR.out|refine cF ?_ bZ.out|refine cF ?_ bi.out|refine cF ?_ dX.out|refine cF ?_ dt.out|refine cF ?_ eG.out|refine cF ?_ kB.out|refine cF ?_ wv.out|refine cF ?_ GE752.out)|exact HB.out)⟩⟩
def b8.Pure:Prop:=∀ (l0:List Int) (l1:List Int),(l0.length≤maxLen∧∀y0∈l0,(Lit.int .u8 y0).wf=true)→(l1.length≤maxLen∧∀y0∈l1,(Lit.int .u8 y0).wf=true)→∃k,b8.f k l0 l1=some true
end Go.Proofs.Ytjojdplkgekagaa.G
