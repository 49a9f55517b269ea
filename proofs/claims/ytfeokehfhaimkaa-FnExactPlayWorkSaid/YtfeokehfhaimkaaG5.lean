-- Printed by a program of this session (drive.py, by way of the kit's print). Not trusted: Lean checks it.
import Derived.Test.YtfeokehfhaimkaaG0
import Derived.Test.YtfeokehfhaimkaaG1
import Derived.Test.YtfeokehfhaimkaaG4
open Bool renaming eq_false_iff→PT
open Go.Proofs.Try renaming prog→Uf,underlying29→cp,underlying45→fk,underlying26→ig,underlying27→aax,func40→aa7
open Go.RowKit renaming wrap64→Gj
open Go.RowKit.Below renaming refl→Ud
open List renaming length_take→Ja,length_drop→SI,map_toArray→dl,map_cons→dV,map_nil→lK
open Nat renaming le_refl→QQ,add_zero→dH,mul_one→fl,le_of_eq→aaf
open Option renaming bind_eq_some_iff→Gl,bind_some→Gm
open Option.some renaming inj→Gn,injEq→Jh
open Prod.mk renaming injEq→Ue
namespace Go.Proofs.Ytfeokehfhaimkaa.G
open Go.RowKit Go.Proofs.YtfeokehfhaimkaaW.PrintWords Go.Proofs.YtfeokehfhaimkaaW.PrintLast Go.Proofs.YtfeokehfhaimkaaW.PrintMore
attribute [local go_sem] zO zP zX zY zE zG zQ zR
set_option maxHeartbeats 8000000
set_option maxRecDepth 100000
set_option linter.unusedVariables false
set_option linter.unusedSimpArgs false
attribute [local go_sem high] YH
def ju.l0:Nat→List (Y)→Int→Int→Int→Int→Int→Int→Int→Option (Int)
 |0,_,_,_,_,_,_,_,_=>none
 |k+1,x0,x7,x8,Kr,Ks,Kt,Ku,Kv=>if x8<x7 then(if 0≤x8 then(if x8<(x0.length:Int)then((Dh.f ((aD x0 x8).f0) ((aD x0 x8).f1) Kr Ks Kt Ku Kv).bind fun Ff=>(if Ff=true then(some x8)else(ju.l0 k x0 x7 (Gj (x8+1)) Kr Ks Kt Ku Kv)))else(none))else(none))else(some (-1))
def ju.f(k:Nat)(l0:List (Y))(aN:Int)(aQ:Int)(av:Int)(au:Int)(b7:Int):Option (Int):=ju.l0 k l0 (l0.length:Int) 0 aN aQ av au b7
theorem ju.cQ:∀k,(∀y0 y1 y2 y3 y4 y5 y6 y7,aG (ju.l0 k y0 y1 y2 y3 y4 y5 y6 y7) (ju.l0 (k+1) y0 y1 y2 y3 y4 y5 y6 y7))
 |0=>fun _ _ _ _ _ _ _ _ r h=>by simp[ju.l0]at h
 |k+1=>by
  have bS:=ju.cQ k
  ·
   intro y0 y1 y2 y3 y4 y5 y6 y7;unfold ju.l0
   repeat' with_reducible first|exact bS _ _ _ _ _ _ _ _|exact aG.refl _|exact aG.none _|refine aG.ite ?_ ?_|refine aG.bind ?_ (fun _=> ?_)
theorem ju.mono:∀a0 a1 a2 a3 a4 a5 k,aG (ju.f k a0 a1 a2 a3 a4 a5) (ju.f (k+1) a0 a1 a2 a3 a4 a5):=by
 intro a0 a1 a2 a3 a4 a5 k;have bS:=ju.cQ k;unfold ju.f
 repeat' with_reducible first|exact bS _ _ _ _ _ _ _ _|exact aG.refl _|exact aG.none _|refine aG.ite ?_ ?_|refine aG.bind ?_ (fun _=> ?_)
theorem ju.calls(k:Nat)(A0:Option Addr)(c0:Nat)(l0:List (Y))(cT:Nat)(aN:Int)(aQ:Int)(av:Int)(au:Int)(b7:Int)(r:Int)(w:World)(hr0:Kd.C aT w A0 l0.length l0)(hc0:l0.length≤c0)(lE:w.heap[cT]?=some (.cells #[.int .i64 aN,.int .i64 aQ,.int .i64 av,.int .i64 au,.int .i64 b7] 66 (0,0)))(h:ju.f k l0 aN aQ av au b7=some r):
 Calls Uf 78 #[.slice A0 l0.length c0,.func (.func 64) #[] #[.pointer (some ⟨cT,0,none⟩)]] w fun e w'=>e= .returned (.int .i64 r)∧Below w.heap.size w w':=by
 have jT:=fk;have cX:=Ah hr0;have oE:=Ah hc0;clear hr0 hc0;have oT:=Ah lE;clear lE;have HB:=Ah (Ud w.heap.size w);have H:(ju.l0 k l0 (l0.length:Int) 0 aN aQ av au b7)=some r:=h;clear h;have H':=Ah H;clear H
 go_enter Try.func78,Try.ntmps78
 go_wp2
 go_loopg [8] k (fun kq v8 w'=>∃ (dT:Int),v8= .int .i64 dT∧Z (ju.l0 kq l0 (l0.length:Int) dT aN aQ av au b7=some r)∧Z (kq≤k)∧Z (w'.heap[cT]?=some (.cells #[.int .i64 aN,.int .i64 aQ,.int .i64 av,.int .i64 au,.int .i64 b7] 66 (0,0)))∧Z (Below w.heap.size w w'))
 case atStart=>exact⟨(0),e3,H',⟨QQ _⟩,⟨bk oT⟩,⟨bs HB⟩⟩
 case round=>
  clear H'
  try clear hx1
  try clear p2
  try clear lE
  obtain⟨dT,rfl,HA,bi,oT,HB⟩:=hrel
  cases gk with
  |zero=>exact absurd HA.out (by simp[ju.l0])
  |succ k1=>
   have H:=HA.out;clear HA;simp only[ju.l0]at H
   by_cases c3:dT<(l0.length:Int)
   rotate_left
   ·
    rw[if_neg c3]at H;have dc:=dn c3;clear c3;obtain rfl:=Gn H
    go_wp2
    go_ret
    exact⟨er,bs HB⟩
   rw[if_pos c3]at H;have dc:=bJ c3;clear c3
   by_cases c4:0≤dT
   rotate_left
   ·
    rw[if_neg c4]at H;exact absurd H (by simp)
   rw[if_pos c4]at H;have fB:=bJ c4;clear c4
   by_cases c5:dT<(l0.length:Int)
   rotate_left
   ·
    rw[if_neg c5]at H;exact absurd H (by simp)
   rw[if_pos c5]at H;have kV:=bJ c5;clear c5;replace H:=Gl.mp H;obtain⟨Ff,tE,H⟩:=H
   try dsimp only at H
   have A6:=Ah tE;clear tE
   by_cases c7:Ff=true
   ·
    subst c7;rw[if_pos rfl]at H;obtain rfl:=Gn H;have rW:0≤(dT:Int):=od;have rX:dT<(l0.length:Int):=od;obtain⟨Yu,Fg,wH,wI⟩:=dN cX.out dT rW rX
    cases Fg
    replace wH:=hq HB wH;replace wI:=hq HB wI;replace rW:=eq_true rW;replace rX:=eq_true rX
    go_wp2_with (first|((with_reducible refine QR (t:=11) rfl ?_);refine SM (some 16) rfl rfl Try.func64 (by kernel_rfl) rfl #[.agg #[.int .i64 ((aD l0 dT).f0),.int .i64 ((aD l0 dT).f1)],.pointer (some ⟨cT,0,none⟩)] rfl rfl (by(try simp only[dl,dV,lK]);first|done|rfl|(simp only[SI,Ja];rfl)) ?_;(with_reducible refine(Dh.calls ((aD l0 dT).f0) ((aD l0 dT).f1) cT aN aQ av au b7 true _ ?aZ A6.out).mono ?_);(case aZ=>exact bk oT);rintro e w8 ⟨rfl,hb⟩;refine⟨_,rfl, ?_⟩;replace oT:=Ah (bT (g:=cT) (o:= .cells #[.int .i64 aN,.int .i64 aQ,.int .i64 av,.int .i64 au,.int .i64 b7] 66 (0,0)) (bk oT) hb);replace HB:=Ah (aH (bs HB) hb);(try clear hb)))
    go_ret
    exact⟨er,bs HB⟩
   replace c7:=PT.mpr c7;subst c7;rw[if_neg dr]at H;have H':=Ah H;clear H;have rW:0≤(dT:Int):=od;have rX:dT<(l0.length:Int):=od;obtain⟨Yu,Fg,wH,wI⟩:=dN cX.out dT rW rX
   cases Fg
   replace wH:=hq HB wH;replace wI:=hq HB wI;replace rW:=eq_true rW;replace rX:=eq_true rX
   go_wp2_with (first|((with_reducible refine QR (t:=11) rfl ?_);refine SM (some 16) rfl rfl Try.func64 (by kernel_rfl) rfl #[.agg #[.int .i64 ((aD l0 dT).f0),.int .i64 ((aD l0 dT).f1)],.pointer (some ⟨cT,0,none⟩)] rfl rfl (by(try simp only[dl,dV,lK]);first|done|rfl|(simp only[SI,Ja];rfl)) ?_;(with_reducible refine(Dh.calls ((aD l0 dT).f0) ((aD l0 dT).f1) cT aN aQ av au b7 false _ ?aZ A6.out).mono ?_);(case aZ=>exact bk oT);rintro e w9 ⟨rfl,hb⟩;refine⟨_,rfl, ?_⟩;replace oT:=Ah (bT (g:=cT) (o:= .cells #[.int .i64 aN,.int .i64 aQ,.int .i64 av,.int .i64 au,.int .i64 b7] 66 (0,0)) (bk oT) hb);replace HB:=Ah (aH (bs HB) hb);(try clear hb)))
   go_roundg k1
   case measure=>have:=bi.out;omega
   case rel=>exact⟨(Gj (dT+1)),e3,H',⟨by have:=bi.out;omega⟩,⟨bk oT⟩,⟨bs HB⟩⟩
def ry.f(k:Nat)(l0:List (Y))(aN:Int)(aQ:Int)(av:Int)(au:Int)(b7:Int):Option (Bool):=(ju.f k l0 aN aQ av au b7).bind fun rY=>(some (decide (rY≥0)))
theorem ry.mono:∀a0 a1 a2 a3 a4 a5 k,aG (ry.f k a0 a1 a2 a3 a4 a5) (ry.f (k+1) a0 a1 a2 a3 a4 a5):=by
 intro a0 a1 a2 a3 a4 a5 k;unfold ry.f
 repeat' with_reducible first|exact ju.mono _ _ _ _ _ _ _|exact aG.refl _|exact aG.none _|refine aG.ite ?_ ?_|refine aG.bind ?_ (fun _=> ?_)
theorem ry.calls(k:Nat)(A0:Option Addr)(c0:Nat)(l0:List (Y))(cT:Nat)(aN:Int)(aQ:Int)(av:Int)(au:Int)(b7:Int)(r:Bool)(w:World)(hr0:Kd.C aT w A0 l0.length l0)(hc0:l0.length≤c0)(lE:w.heap[cT]?=some (.cells #[.int .i64 aN,.int .i64 aQ,.int .i64 av,.int .i64 au,.int .i64 b7] 66 (0,0)))(h:ry.f k l0 aN aQ av au b7=some r):
 Calls Uf 67 #[.slice A0 l0.length c0,.func (.func 64) #[] #[.pointer (some ⟨cT,0,none⟩)]] w fun e w'=>e= .returned (.bool r)∧Below w.heap.size w w':=by
 have cX:=Ah hr0;have oE:=Ah hc0;clear hr0 hc0;have bV:=Ah lE;clear lE;have HB:=Ah (Ud w.heap.size w);have H:((ju.f k l0 aN aQ av au b7).bind fun rY=>(some (decide (rY≥0))))=some r:=h;clear h;replace H:=Gl.mp H;obtain⟨rY,dj,H⟩:=H
 try dsimp only at H
 have A3:=Ah dj;clear dj;obtain rfl:=Gn H
 go_enter Try.func67,Try.ntmps67
 go_wp2_with (first|((with_reducible refine bY (f:=78) rfl ?_);refine gL (some 7) rfl rfl Try.func78 (by kernel_rfl) rfl #[.slice A0 l0.length c0,.func (.func 64) #[] #[.pointer (some ⟨cT,0,none⟩)]] rfl ?_;(with_reducible refine(ju.calls k _ _ l0 cT aN aQ av au b7 rY _ ?aZ ?ae ?ay A3.out).mono ?_);(case aZ=>repeat(first|exact cX.out|(with_reducible refine Kd.tO ?_ _)|(with_reducible refine Kd.tP ?_ _)|(with_reducible refine Kd.th ?_)));(case ae=>exact oE.out);(case ay=>exact bk bV);rintro e w4 ⟨rfl,hb⟩;refine⟨_,rfl, ?_⟩;replace bV:=Ah (bT (g:=cT) (o:= .cells #[.int .i64 aN,.int .i64 aQ,.int .i64 av,.int .i64 au,.int .i64 b7] 66 (0,0)) (bk bV) hb);replace HB:=Ah (aH (bs HB) hb);(try clear hb)))
 go_ret
 exact⟨er,bs HB⟩
mutual
def d9.j0:Nat→List (aJ)→Bool→Int→List (Y)→List (Y)→Option ((List (aJ))×Bool)
 |0,_,_,_,_,_=>none
 |k+1,x1,fz,LM,LN,Ry=>if fz=true then(some (([]:List (aJ)),false))else(d9.l0 k (([]:List (aJ))) x1 (x1.length:Int) 0 LM LN Ry)
def d9.l0:Nat→List (aJ)→List (aJ)→Int→Int→Int→List (Y)→List (Y)→Option ((List (aJ))×Bool)
 |0,_,_,_,_,_,_,_=>none
 |k+1,x6,x20,x21,gV,LM,LN,Ry=>if gV<x21 then(if 0≤gV then(if gV<(x20.length:Int)then(if((U x20 gV).f0)=2 then((jH.f ((U x20 gV).f1) 1 (x6.length:Int)).bind fun rY=>(if rY=true then(if(!(((U x20 gV).f2.f0)==0)||(!(((U x20 gV).f2.f1)==0)))=true then(some (([]:List (aJ)),false))else(if 0≤(Gj (((U x20 gV).f1)-1))then(if(Gj (((U x20 gV).f1)-1))<(x6.length:Int)then((jH.f ((U x20 gV).f3) (Gj (((U x6 (Gj (((U x20 gV).f1)-1))).f3)+1)) ((U x6 (Gj (((U x20 gV).f1)-1))).f2.f1)).bind fun P6=>(if P6=true then(d9.l0 k (x6.set ((Gj (((U x20 gV).f1)-1)):Int).toNat (⟨(U x6 (Gj (((U x20 gV).f1)-1))).f0,(U x6 (Gj (((U x20 gV).f1)-1))).f1,(⟨(U x6 (Gj (((U x20 gV).f1)-1))).f2.f0,(U x6 (Gj (((U x20 gV).f1)-1))).f2.f1⟩:Y),(U x20 gV).f3⟩:aJ)) x20 x21 (Gj (gV+1)) LM LN Ry)else(some (([]:List (aJ)),false))))else(none))else(none)))else(some (([]:List (aJ)),false))))else(if((U x20 gV).f0)=1 then(if((U x20 gV).f1)=(Gj ((x6.length:Int)+1))then(if((U x20 gV).f3)=0 then((n5.f ((U x20 gV).f2.f0) ((U x20 gV).f2.f1) LM).bind fun a1e=>(if a1e=true then((qq.f k x6 ((U x20 gV).f0) ((U x20 gV).f1) ((U x20 gV).f2.f0) ((U x20 gV).f2.f1) ((U x20 gV).f3)).bind fun a1f=>(if a1f=true then(some (([]:List (aJ)),false))else((ry.f k LN ((U x20 gV).f0) ((U x20 gV).f1) ((U x20 gV).f2.f0) ((U x20 gV).f2.f1) ((U x20 gV).f3)).bind fun a1g=>(if a1g=true then(some (([]:List (aJ)),false))else(if x6.length<3518437208883 then(d9.l0 k (x6++[(⟨(U x20 gV).f0,(U x20 gV).f1,(⟨(U x20 gV).f2.f0,(U x20 gV).f2.f1⟩:Y),(U x20 gV).f3⟩:aJ)]) x20 x21 (Gj (gV+1)) LM LN Ry)else(none))))))else(some (([]:List (aJ)),false))))else(some (([]:List (aJ)),false)))else(some (([]:List (aJ)),false)))else(some (([]:List (aJ)),false))))else(none))else(none))else(some (x6,true))
end
def d9.f(k:Nat)(aA:Int)(X:List (Y))(aC:List (Y))(l1:List (aJ)):Option ((List (aJ))×Bool):=(cV.f k aA X aC).bind fun P7=>(if P7=true then(d9.j0 k l1 (decide ((l1.length:Int)>30)) aA X aC)else(d9.j0 k l1 true aA X aC))
theorem d9.cQ:∀k,(∀y0 y1 y2 y3 y4,aG (d9.j0 k y0 y1 y2 y3 y4) (d9.j0 (k+1) y0 y1 y2 y3 y4))∧(∀y0 y1 y2 y3 y4 y5 y6,aG (d9.l0 k y0 y1 y2 y3 y4 y5 y6) (d9.l0 (k+1) y0 y1 y2 y3 y4 y5 y6))
 |0=>⟨fun _ _ _ _ _ r h=>by simp[d9.j0]at h,fun _ _ _ _ _ _ _ r h=>by simp[d9.l0]at h⟩
 |k+1=>by
  obtain⟨bS,ih1⟩:=d9.cQ k
  refine⟨?_, ?_⟩<;>intros<;>first|unfold d9.j0|unfold d9.l0
  all_goals repeat' first
   |(with_reducible exact bS _ _ _ _ _)
   |(with_reducible exact ih1 _ _ _ _ _ _ _)
   |(with_reducible exact cV.mono _ _ _ _)
   |(with_reducible exact ry.mono _ _ _ _ _ _ _)
   |(with_reducible exact qq.mono _ _ _ _ _ _ _)
   |(with_reducible exact aG.refl _)
   |(with_reducible exact aG.none _)
   |(with_reducible refine aG.ite ?_ ?_)
   |(with_reducible refine aG.bind ?_ (fun _=> ?_))
   |exact bS _ _ _ _ _
   |exact ih1 _ _ _ _ _ _ _
   |exact cV.mono _ _ _ _
   |exact ry.mono _ _ _ _ _ _ _
   |exact qq.mono _ _ _ _ _ _ _
   |exact aG.none _
   |refine aG.ite ?_ ?_
   |refine aG.bind ?_ (fun _=> ?_)
theorem d9.mono:∀a0 a1 a2 a3 k,aG (d9.f k a0 a1 a2 a3) (d9.f (k+1) a0 a1 a2 a3):=by
 intro a0 a1 a2 a3 k;obtain⟨bS,ih1⟩:=d9.cQ k;unfold d9.f
 repeat' with_reducible first|exact bS _ _ _ _ _|exact ih1 _ _ _ _ _ _ _|exact cV.mono _ _ _ _|exact ry.mono _ _ _ _ _ _ _|exact qq.mono _ _ _ _ _ _ _|exact aG.refl _|exact aG.none _|refine aG.ite ?_ ?_|refine aG.bind ?_ (fun _=> ?_)
def d9.T8:Bool×List (List Nat×List Nat):=(true,[([],[]),([0],[0]),([],[]),([2],[2]),([1,3],[1,3]),([4],[4]),([5,4],[5]),([6],[6]),([7,6],[6,7]),([6],[6]),([8,9,6],[6,8,9]),([6,10],[6,10]),([11,6],[11]),([12],[12]),([13,12],[12,13]),([12],[12]),([12],[12]),([16,12],[12,16]),([17,12],[12,17]),([15,18,12],[12,15,18]),([19,12],[12,19]),([20,12],[12,20]),([21,12],[12,21]),([12],[12]),([12],[12]),([24,12],[12,24]),([25,12],[12,25]),([23,26,12],[12,23,26]),([27,12],[12,27]),([28,12],[12,28]),([29,12],[12,29]),([14,22,30,12,12],[12,14,22,30]),([31,12],[12,31]),([12,32],[12,32])])
def d9.B8:List Nat:=[0,1,0,4,15,31,63,127,255,127,1023,2047,4095,8191,16383,8191,8191,73727,204799,499711,1023999,2072575,4169727,8191,8191,16785407,50339839,125837311,260055039,528490495,1065361407,2147483647,4294967295,8589934591]
theorem d9.a1h:i5 .any (uw Try.f44 8)=d9.T8:=by kernel_rfl
theorem d9.ZI:pm d9.T8.2 d9.B8=true:=by kernel_rfl
theorem d9.calls(k:Nat)(aA:Int)(af:Option Addr)(aa:Nat)(X:List (Y))(ab:Option Addr)(ac:Nat)(aC:List (Y))(A1:Option Addr)(c1:Nat)(l1:List (aJ))(r1:List (aJ))(r2:Bool)(w:World)(dO:Kd.C aT w af X.length X)(dP:X.length≤aa)(dQ:Kd.C aT w ab aC.length aC)(dR:aC.length≤ac)(hr1:Kd.C b8 w A1 l1.length l1)(hc1:l1.length≤c1)(h:d9.f k aA X aC l1=some (r1,r2)):
 Calls Uf 44 #[.agg #[.int .i64 aA,.slice af X.length aa,.slice ab aC.length ac],.slice A1 l1.length c1] w fun e w'=>∃lI:Value,e= .returned (.tuple #[lI,.bool r2])∧Kd.R b8 66 w' w.heap.size (fun _=>True) lI r1∧Below w.heap.size w w':=by
 have mL:=ig;have u7:=Try.underlying66;have jT:=fk;have bo:=Ah dO;have cU:=Ah dP;clear dO dP;have cn:=Ah dQ;have co:=Ah dR;clear dQ dR;have HR1:=Ah hr1;have qn:=Ah hc1;clear hr1 hc1;have HB:=Ah (Ud w.heap.size w);have H:((cV.f k aA X aC).bind fun P7=>(if P7=true then(d9.j0 k l1 (decide ((l1.length:Int)>30)) aA X aC)else(d9.j0 k l1 true aA X aC)))=some (r1,r2):=h;clear h;have Gc:=Ah H;clear H
 go_enter Try.func44,Try.ntmps44
 go_upto_region 1 with(first|((with_reducible refine ag (N:=2) rfl ?_);(try(refine ev (by rfl) ?_;dsimp only));refine an 2 26 #[.int .i64 aA,.slice af X.length aa,.slice ab aC.length ac] ?_;intro NE hg w4 bO hb;have GW478:=gw hg (bs HB);have dm:=gw hg (bs HB);replace HB:=Ah (aH (bs HB) hb);clear hb hg))
 (try simp only[Act.put,List.setIfInBounds_toArray,List.set_cons_zero,List.set_cons_succ])
 go_cut [18] (fun v18 wc=>∃ (kq:Nat) (cM:Bool),v18= .bool cM∧Z (d9.j0 kq l1 cM aA X aC=some (r1,r2))∧Z (kq≤k)∧Z (wc.heap[NE]?=some (.cells #[.int .i64 aA,(.slice af X.length aa),(.slice ab aC.length ac)] 26 (0,0)))∧Z (Below w.heap.size w wc))
 case first=>
  have H:=Gc.out;clear Gc;replace H:=Gl.mp H;obtain⟨P7,kI,H⟩:=H
  try dsimp only at H
  have A5:=Ah kI;clear kI
  by_cases c6:P7=true
  ·
   subst c6;rw[if_pos rfl]at H;have H':=Ah H;clear H;obtain⟨pr,pt,yU⟩:=dE bO;obtain⟨pu,pv,yV⟩:=dF bO
   go_wp2_with (first|((with_reducible refine bY (f:=61) rfl ?_);refine gL (some 12) rfl rfl Try.func61 (by kernel_rfl) rfl #[.agg #[.int .i64 aA,.slice af X.length aa,.slice ab aC.length ac]] rfl ?_;(with_reducible refine(cV.calls k aA _ _ X _ _ aC true _ ?aZ ?ae ?ay ?bI A5.out).mono ?_);(case aZ=>exact cb bo HB);(case ae=>exact cU.out);(case ay=>exact cb cn HB);(case bI=>exact co.out);rintro e w8 ⟨rfl,hb⟩;refine⟨_,rfl, ?_⟩;replace bO:=nb bO hb;replace HB:=Ah (aH (aM HB dm) hb);(try clear hb)))
   go_meet
   case rel=>exact⟨_,(decide ((l1.length:Int)>30)),e3,H',⟨by first|omega|exact QQ _⟩,⟨bk bO⟩,⟨aM HB dm⟩⟩
  replace c6:=PT.mpr c6;subst c6;rw[if_neg dr]at H;have H':=Ah H;clear H;obtain⟨rD,rE,wN⟩:=dE bO;obtain⟨rF,rG,wO⟩:=dF bO
  go_wp2_with (first|((with_reducible refine bY (f:=61) rfl ?_);refine gL (some 12) rfl rfl Try.func61 (by kernel_rfl) rfl #[.agg #[.int .i64 aA,.slice af X.length aa,.slice ab aC.length ac]] rfl ?_;(with_reducible refine(cV.calls k aA _ _ X _ _ aC false _ ?aZ ?ae ?ay ?bI A5.out).mono ?_);(case aZ=>exact cb bo HB);(case ae=>exact cU.out);(case ay=>exact cb cn HB);(case bI=>exact co.out);rintro e lp ⟨rfl,hb⟩;refine⟨_,rfl, ?_⟩;replace bO:=nb bO hb;replace HB:=Ah (aH (aM HB dm) hb);(try clear hb)))
  go_meet
  case rel=>exact⟨_,(true),e3,H',⟨by first|omega|exact QQ _⟩,⟨bk bO⟩,⟨aM HB dm⟩⟩
 case rest=>
  clear Gc
  try clear c1
  try clear p2
  try clear c4
  try clear c6
  try clear pr pt yU
  try clear rD rE wN
  try clear pu pv yV
  try clear rF rG wO
  obtain⟨kq,cM,rfl,HA,HJ2,bO,HB⟩:=hcut
  cases kq with
  |zero=>exact absurd HA.out (by simp[d9.j0])
  |succ JU=>
   have H:=HA.out;clear HA;simp only[d9.j0]at H
   by_cases c11:cM=true
   ·
    subst c11;rw[if_pos rfl]at H;simp only[Jh,Ue]at H;obtain⟨rfl,rfl⟩:=H
    go_wp2
    go_ret2
    exact⟨_,er,by first|exact Kd.be _ _ _ _ _|exact Kd.ce _ _ _ _ _|exact Kd.cf _ _ _ _ _|exact Kd.cZ _ _ _ _ _|exact Kd.ca _ _ _ _ _,aM HB dm⟩
   replace c11:=PT.mpr c11;subst c11;rw[if_neg dr]at H;obtain⟨y480,NF⟩:∃y_:List (aJ),y_=(([]:List (aJ))):=⟨_,rfl⟩
   replace H:(d9.l0 JU y480 l1 (l1.length:Int) 0 aA X aC)=some (r1,r2):=by first|(rw[NF];with_reducible exact H)|(have aq:=(Gm _ _).symm.trans H;rw[NF];with_reducible exact aq)|(have aq:=(Gm _ _).symm.trans H;with_reducible exact aq)|with_reducible exact H|(rw[NF];exact H)|exact H
   have Ny480:=Ah NF;clear NF;have H':=Ah H;clear H
   go_wp2_with (first|((with_reducible refine ag (N:=19) rfl ?_);(try(refine ev (by rfl) ?_;dsimp only));refine Kd.yW b8 _ 66 ?hg (N:=19) ?hd (xs:=([]:List (aJ))) (inner:=[]) (ok:=fun _=>True) (okp:=fun _=>True) ?hr ?hp (fun _ hk=>hk) trivial (Ud _ _) (QQ _) (by simp) ?_;(case hd=>rfl);(case hg=>rfl);(case hr=>first|(go_simp;done)|(go_simp;rfl));(case hp=>exact(cA.none _ _));intro v481 ef wt hb i9 hX;clear i9 hX;(first|rw[←Ny480.out]at wt|(simp only[Int.reduceToNat]at wt;rw[←Ny480.out]at wt));have HO482:=Ah (Kd.bR wt (bE (aM HB dm)));replace bO:=nb bO hb;replace HB:=Ah (aH (aM HB dm) hb);clear hb wt))
   go_loopg [6,22] JU (fun kq v6 v22 w'=>∃ (b5:List (aJ)) (aX:Int),v22= .int .i64 aX∧Z (d9.l0 kq b5 l1 (l1.length:Int) aX aA X aC=some (r1,r2))∧Z (kq≤JU)∧Z (Kd.R b8 66 w' w.heap.size (fun _=>True) v6 b5)∧Z (w'.heap[NE]?=some (.cells #[.int .i64 aA,(.slice af X.length aa),(.slice ab aC.length ac)] 26 (0,0)))∧Z (Below w.heap.size w w'))
   case atStart=>exact⟨(y480),(0),e3,H',⟨QQ _⟩,⟨rr HO482.out⟩,⟨bk bO⟩,⟨aM HB dm⟩⟩
   case round=>
    clear H'
    try clear c1
    try clear p2
    try clear c4
    try clear c6
    try clear c11
    try clear pr pt yU
    try clear rD rE wN
    try clear pu pv yV
    try clear rF rG wO
    try clear p2
    obtain⟨b5,aX,rfl,HA,eE,bF,bO,HB⟩:=hrel
    cases gk with
    |zero=>exact absurd HA.out (by simp[d9.l0])
    |succ k2=>
     have H:=HA.out;clear HA;simp only[d9.l0]at H
     by_cases c14:aX<(l1.length:Int)
     rotate_left
     ·
      rw[if_neg c14]at H;have c14b0:=dn c14;clear c14;simp only[Jh,Ue]at H;obtain⟨rfl,rfl⟩:=H
      go_wp2
      go_ret2
      exact⟨_,er,by(with_reducible repeat(first|apply Kd.bd|apply Kd.bZ|apply Kd.bQ));exact bF.out,aM HB dm⟩
     rw[if_pos c14]at H;have c14b0:=bJ c14;clear c14
     by_cases c15:0≤aX
     rotate_left
     ·
      rw[if_neg c15]at H;exact absurd H (by simp)
     rw[if_pos c15]at H;have Ee:=bJ c15;clear c15
     by_cases c16:aX<(l1.length:Int)
     rotate_left
     ·
      rw[if_neg c16]at H;exact absurd H (by simp)
     rw[if_pos c16]at H;have c16b0:=bJ c16;clear c16
     by_cases c17:((U l1 aX).f0)=2
     rotate_left
     ·
      rw[if_neg c17]at H;have Yq:=fS c17;have c17b1:=fT c17
      by_cases tC:((U l1 aX).f0)=1
      rotate_left
      ·
       rw[if_neg tC]at H;have YZ:=fS tC;have c54b1:=fT tC;simp only[Jh,Ue]at H;obtain⟨rfl,rfl⟩:=H;have gl:0≤(aX:Int):=od;have gm:aX<(l1.length:Int):=od;obtain⟨AZ,pA,jz,k5,k6,k7,k8⟩:=eC HR1.out aX gl gm
       cases pA
       replace jz:=hq HB jz;replace k5:=hq HB k5;replace k6:=hq HB k6;replace k7:=hq HB k7;replace k8:=hq HB k8;replace gl:=eq_true gl;replace gm:=eq_true gm
       go_wp2_with (first|((with_reducible refine ag (N:=8) rfl ?_);(try(refine ev (by rfl) ?_;dsimp only));refine an 8 66 #[.int .i64 0,.int .i64 0,.int .i64 0,.int .i64 0,.int .i64 0] ?_;intro bB hg w105 bV hb;replace bF:=Ah (Kd.b9 (Kd.kN (rr bF.out) bB (aaf hg.symm)) hb);have Aa:=gw hg (aM HB dm);have iY:=gw hg (aM HB dm);replace HB:=Ah (aH (aM HB dm) hb);have lA:=nn bO hg;have oH:=nm bO hg;replace bO:=nb bO hb;clear hb hg;have hnb106:=oH.out;have hnc106:=lA.out;obtain⟨hcz107_0,hcz107_1,hcz107_2,hcz107_3,hcz107_4⟩:=aj bV;obtain⟨hfz107_0,hfz107_1,hfz107_2,hfz107_3,hfz107_4⟩:=ai bV))
       go_ret2
       exact⟨_,er,by first|exact Kd.be _ _ _ _ _|exact Kd.ce _ _ _ _ _|exact Kd.cf _ _ _ _ _|exact Kd.cZ _ _ _ _ _|exact Kd.ca _ _ _ _ _,am HB dm iY⟩
      rw[if_pos tC]at H;have YZ:=fU tC;have c54b1:=fV tC;clear tC
      by_cases pD:((U l1 aX).f1)=(Gj ((b5.length:Int)+1))
      rotate_left
      ·
       rw[if_neg pD]at H;have Ya:=fS pD;have c55b1:=fT pD;simp only[Jh,Ue]at H;obtain⟨rfl,rfl⟩:=H;have gl:0≤(aX:Int):=od;have gm:aX<(l1.length:Int):=od;obtain⟨AZ,pA,jz,k5,k6,k7,k8⟩:=eC HR1.out aX gl gm
       cases pA
       replace jz:=hq HB jz;replace k5:=hq HB k5;replace k6:=hq HB k6;replace k7:=hq HB k7;replace k8:=hq HB k8;replace gl:=eq_true gl;replace gm:=eq_true gm
       go_wp2_with (first|((with_reducible refine ag (N:=8) rfl ?_);(try(refine ev (by rfl) ?_;dsimp only));refine an 8 66 #[.int .i64 0,.int .i64 0,.int .i64 0,.int .i64 0,.int .i64 0] ?_;intro bB hg w101 bV hb;replace bF:=Ah (Kd.b9 (Kd.kN (rr bF.out) bB (aaf hg.symm)) hb);have Aa:=gw hg (aM HB dm);have iY:=gw hg (aM HB dm);replace HB:=Ah (aH (aM HB dm) hb);have lA:=nn bO hg;have oH:=nm bO hg;replace bO:=nb bO hb;clear hb hg;have hnb102:=oH.out;have hnc102:=lA.out;obtain⟨hcz103_0,hcz103_1,hcz103_2,hcz103_3,hcz103_4⟩:=aj bV;obtain⟨hfz103_0,hfz103_1,hfz103_2,hfz103_3,hfz103_4⟩:=ai bV;obtain⟨Ao104,co104,eo104⟩:=Kd.az bF.out;subst eo104))
       go_ret2
       exact⟨_,er,by first|exact Kd.be _ _ _ _ _|exact Kd.ce _ _ _ _ _|exact Kd.cf _ _ _ _ _|exact Kd.cZ _ _ _ _ _|exact Kd.ca _ _ _ _ _,am HB dm iY⟩
      rw[if_pos pD]at H;have Ya:=fU pD;have c55b1:=fV pD;clear pD
      by_cases tD:((U l1 aX).f3)=0
      rotate_left
      ·
       rw[if_neg tD]at H;have c56b0:=fS tD;have c56b1:=fT tD;simp only[Jh,Ue]at H;obtain⟨rfl,rfl⟩:=H;have gl:0≤(aX:Int):=od;have gm:aX<(l1.length:Int):=od;obtain⟨AZ,pA,jz,k5,k6,k7,k8⟩:=eC HR1.out aX gl gm
       cases pA
       replace jz:=hq HB jz;replace k5:=hq HB k5;replace k6:=hq HB k6;replace k7:=hq HB k7;replace k8:=hq HB k8;replace gl:=eq_true gl;replace gm:=eq_true gm
       go_wp2_with (first|((with_reducible refine ag (N:=8) rfl ?_);(try(refine ev (by rfl) ?_;dsimp only));refine an 8 66 #[.int .i64 0,.int .i64 0,.int .i64 0,.int .i64 0,.int .i64 0] ?_;intro bB hg w97 bV hb;replace bF:=Ah (Kd.b9 (Kd.kN (rr bF.out) bB (aaf hg.symm)) hb);have Aa:=gw hg (aM HB dm);have iY:=gw hg (aM HB dm);replace HB:=Ah (aH (aM HB dm) hb);have lA:=nn bO hg;have oH:=nm bO hg;replace bO:=nb bO hb;clear hb hg;have hnb98:=oH.out;have hnc98:=lA.out;obtain⟨hcz99_0,hcz99_1,hcz99_2,hcz99_3,hcz99_4⟩:=aj bV;obtain⟨hfz99_0,hfz99_1,hfz99_2,hfz99_3,hfz99_4⟩:=ai bV;obtain⟨Ao100,co100,eo100⟩:=Kd.az bF.out;subst eo100))
       go_ret2
       exact⟨_,er,by first|exact Kd.be _ _ _ _ _|exact Kd.ce _ _ _ _ _|exact Kd.cf _ _ _ _ _|exact Kd.cZ _ _ _ _ _|exact Kd.ca _ _ _ _ _,am HB dm iY⟩
      rw[if_pos tD]at H;have c56b0:=fU tD;have c56b1:=fV tD;clear tD;replace H:=Gl.mp H;obtain⟨a1e,A570,H⟩:=H
      try dsimp only at H
      have Ub:=Ah A570;clear A570
      by_cases Q6:a1e=true
      rotate_left
      ·
       replace Q6:=PT.mpr Q6;subst Q6;rw[if_neg dr]at H;simp only[Jh,Ue]at H;obtain⟨rfl,rfl⟩:=H;have gl:0≤(aX:Int):=od;have gm:aX<(l1.length:Int):=od;obtain⟨AZ,pA,jz,k5,k6,k7,k8⟩:=eC HR1.out aX gl gm
       cases pA
       replace jz:=hq HB jz;replace k5:=hq HB k5;replace k6:=hq HB k6;replace k7:=hq HB k7;replace k8:=hq HB k8;replace gl:=eq_true gl;replace gm:=eq_true gm
       go_wp2_with (first|((with_reducible refine ag (N:=8) rfl ?_);(try(refine ev (by rfl) ?_;dsimp only));refine an 8 66 #[.int .i64 0,.int .i64 0,.int .i64 0,.int .i64 0,.int .i64 0] ?_;intro bB hg w91 bV hb;replace bF:=Ah (Kd.b9 (Kd.kN (rr bF.out) bB (aaf hg.symm)) hb);have Aa:=gw hg (aM HB dm);have iY:=gw hg (aM HB dm);replace HB:=Ah (aH (aM HB dm) hb);have lA:=nn bO hg;have oH:=nm bO hg;replace bO:=nb bO hb;clear hb hg;have Sn:=oH.out;have So:=lA.out;obtain⟨Wn,Wo,hcz93_2,hcz93_3,hcz93_4⟩:=aj bV;obtain⟨Wp,Wq,hfz93_2,hfz93_3,hfz93_4⟩:=ai bV;obtain⟨Ao94,co94,eo94⟩:=Kd.az bF.out;subst eo94;obtain⟨Wr,Ws,Wt⟩:=dE bO;obtain⟨Wu,Wv,Ww⟩:=dF bO)|(go_at_call 65;(with_reducible refine(n5.calls ((U l1 aX).f2.f0) ((U l1 aX).f2.f1) aA false _ Ub.out).mono ?_);rintro e w96 ⟨rfl,hb⟩;replace bF:=Ah (Kd.b9 (by(with_reducible repeat(first|apply Kd.bd|apply Kd.bZ|apply Kd.bQ));exact(Kd.ax (Kd.aK (p:=⟨bB,4,none⟩) (Kd.aK (p:=⟨bB,3,none⟩) (Kd.aK (p:=⟨bB,2,none⟩) (Kd.aK (p:=⟨bB,1,none⟩) (Kd.aK (p:=⟨bB,0,none⟩) (Kd.ax bF.out (fun k_ hk=>(⟨hk,hk.2⟩:_∧k_≠bB))) (fun _ hk=>hk.2) (.int .i64 ((U l1 aX).f0))) (fun _ hk=>hk.2) (.int .i64 ((U l1 aX).f1))) (fun _ hk=>hk.2) (.int .i64 ((U l1 aX).f2.f0))) (fun _ hk=>hk.2) (.int .i64 ((U l1 aX).f2.f1))) (fun _ hk=>hk.2) (.int .i64 ((U l1 aX).f3))) (fun _ h_=>h_.1))) hb);replace bO:=Ah (bT (bf bO lA) hb);replace bV:=Ah (bT (g:=bB) (o:= .cells #[.int .i64 ((U l1 aX).f0),.int .i64 ((U l1 aX).f1),.int .i64 ((U l1 aX).f2.f0),.int .i64 ((U l1 aX).f2.f1),.int .i64 ((U l1 aX).f3)] 66 (0,0)) (pb bV) hb);replace HB:=Ah (aH (am HB dm iY) hb);(try clear hb hk)))
       go_ret2
       exact⟨_,er,by first|exact Kd.be _ _ _ _ _|exact Kd.ce _ _ _ _ _|exact Kd.cf _ _ _ _ _|exact Kd.cZ _ _ _ _ _|exact Kd.ca _ _ _ _ _,am HB dm iY⟩
      subst Q6;rw[if_pos rfl]at H;replace H:=Gl.mp H;obtain⟨a1f,A590,H⟩:=H
      try dsimp only at H
      have A59:=Ah A590;clear A590
      by_cases JR:a1f=true
      ·
       subst JR;rw[if_pos rfl]at H;simp only[Jh,Ue]at H;obtain⟨rfl,rfl⟩:=H;have gl:0≤(aX:Int):=od;have gm:aX<(l1.length:Int):=od;obtain⟨AZ,pA,jz,k5,k6,k7,k8⟩:=eC HR1.out aX gl gm
       cases pA
       replace jz:=hq HB jz;replace k5:=hq HB k5;replace k6:=hq HB k6;replace k7:=hq HB k7;replace k8:=hq HB k8;replace gl:=eq_true gl;replace gm:=eq_true gm
       go_wp2_with (first|((with_reducible refine ag (N:=8) rfl ?_);(try(refine ev (by rfl) ?_;dsimp only));refine an 8 66 #[.int .i64 0,.int .i64 0,.int .i64 0,.int .i64 0,.int .i64 0] ?_;intro bB hg w61 bV hb;replace bF:=Ah (Kd.b9 (Kd.kN (rr bF.out) bB (aaf hg.symm)) hb);have Aa:=gw hg (aM HB dm);have iY:=gw hg (aM HB dm);replace HB:=Ah (aH (aM HB dm) hb);have lA:=nn bO hg;have oH:=nm bO hg;replace bO:=nb bO hb;clear hb hg;have MM:=oH.out;have MN:=lA.out;obtain⟨WK,WL,WM,WO,WP⟩:=aj bV;obtain⟨Wb,Wc,Wd,We,Wf⟩:=ai bV;obtain⟨Ao64,co64,eo64⟩:=Kd.az bF.out;subst eo64;obtain⟨hcz65_0,hcz65_1,hcz65_2⟩:=dE bO;obtain⟨hfz65_0,hfz65_1,hfz65_2⟩:=dF bO)|(go_at_call 65;(with_reducible refine(n5.calls ((U l1 aX).f2.f0) ((U l1 aX).f2.f1) aA true _ Ub.out).mono ?_);rintro e w66 ⟨rfl,hb⟩;replace bF:=Ah (Kd.b9 (by(with_reducible repeat(first|apply Kd.bd|apply Kd.bZ|apply Kd.bQ));exact(Kd.ax (Kd.aK (p:=⟨bB,4,none⟩) (Kd.aK (p:=⟨bB,3,none⟩) (Kd.aK (p:=⟨bB,2,none⟩) (Kd.aK (p:=⟨bB,1,none⟩) (Kd.aK (p:=⟨bB,0,none⟩) (Kd.ax bF.out (fun k_ hk=>(⟨hk,hk.2⟩:_∧k_≠bB))) (fun _ hk=>hk.2) (.int .i64 ((U l1 aX).f0))) (fun _ hk=>hk.2) (.int .i64 ((U l1 aX).f1))) (fun _ hk=>hk.2) (.int .i64 ((U l1 aX).f2.f0))) (fun _ hk=>hk.2) (.int .i64 ((U l1 aX).f2.f1))) (fun _ hk=>hk.2) (.int .i64 ((U l1 aX).f3))) (fun _ h_=>h_.1))) hb);replace bO:=Ah (bT (bf bO lA) hb);replace bV:=Ah (bT (g:=bB) (o:= .cells #[.int .i64 ((U l1 aX).f0),.int .i64 ((U l1 aX).f1),.int .i64 ((U l1 aX).f2.f0),.int .i64 ((U l1 aX).f2.f1),.int .i64 ((U l1 aX).f3)] 66 (0,0)) (pb bV) hb);replace HB:=Ah (aH (am HB dm iY) hb);(try clear hb hk))|(go_at_call 66;(with_reducible refine(qq.calls k2 _ _ b5 bB ((U l1 aX).f0) ((U l1 aX).f1) ((U l1 aX).f2.f0) ((U l1 aX).f2.f1) ((U l1 aX).f3) true _ ?aZ ?ae ?ay A59.out).mono ?_);(case aZ=>exact jF bF);(case ae=>exact(Kd.aY bF.out).2.1);(case ay=>exact bk bV);rintro e w67 ⟨rfl,hb⟩;replace bF:=nr bF hb;replace bO:=nb bO hb;replace bV:=nb bV hb;replace HB:=Ah (aH (am HB dm iY) hb);(try clear hb)))
       go_ret2
       exact⟨_,er,by first|exact Kd.be _ _ _ _ _|exact Kd.ce _ _ _ _ _|exact Kd.cf _ _ _ _ _|exact Kd.cZ _ _ _ _ _|exact Kd.ca _ _ _ _ _,am HB dm iY⟩
      replace JR:=PT.mpr JR;subst JR;rw[if_neg dr]at H;replace H:=Gl.mp H;obtain⟨a1g,OU,H⟩:=H
      try dsimp only at H
      have Py:=Ah OU;clear OU
      by_cases yu:a1g=true
      ·
       subst yu;rw[if_pos rfl]at H;simp only[Jh,Ue]at H;obtain⟨rfl,rfl⟩:=H;have gl:0≤(aX:Int):=od;have gm:aX<(l1.length:Int):=od;obtain⟨AZ,pA,jz,k5,k6,k7,k8⟩:=eC HR1.out aX gl gm
       cases pA
       replace jz:=hq HB jz;replace k5:=hq HB k5;replace k6:=hq HB k6;replace k7:=hq HB k7;replace k8:=hq HB k8;replace gl:=eq_true gl;replace gm:=eq_true gm
       go_wp2_with (first|((with_reducible refine ag (N:=8) rfl ?_);(try(refine ev (by rfl) ?_;dsimp only));refine an 8 66 #[.int .i64 0,.int .i64 0,.int .i64 0,.int .i64 0,.int .i64 0] ?_;intro bB hg w70 bV hb;replace bF:=Ah (Kd.b9 (Kd.kN (rr bF.out) bB (aaf hg.symm)) hb);have Aa:=gw hg (aM HB dm);have iY:=gw hg (aM HB dm);replace HB:=Ah (aH (aM HB dm) hb);have lA:=nn bO hg;have oH:=nm bO hg;replace bO:=nb bO hb;clear hb hg;have T3:=oH.out;have T4:=lA.out;obtain⟨hcz72_0,hcz72_1,hcz72_2,hcz72_3,hcz72_4⟩:=aj bV;obtain⟨hfz72_0,hfz72_1,hfz72_2,hfz72_3,hfz72_4⟩:=ai bV;obtain⟨Ao73,co73,eo73⟩:=Kd.az bF.out;subst eo73;obtain⟨hcz74_0,hcz74_1,hcz74_2⟩:=dE bO;obtain⟨hfz74_0,hfz74_1,hfz74_2⟩:=dF bO)|(go_at_call 65;(with_reducible refine(n5.calls ((U l1 aX).f2.f0) ((U l1 aX).f2.f1) aA true _ Ub.out).mono ?_);rintro e w75 ⟨rfl,hb⟩;replace bF:=Ah (Kd.b9 (by(with_reducible repeat(first|apply Kd.bd|apply Kd.bZ|apply Kd.bQ));exact(Kd.ax (Kd.aK (p:=⟨bB,4,none⟩) (Kd.aK (p:=⟨bB,3,none⟩) (Kd.aK (p:=⟨bB,2,none⟩) (Kd.aK (p:=⟨bB,1,none⟩) (Kd.aK (p:=⟨bB,0,none⟩) (Kd.ax bF.out (fun k_ hk=>(⟨hk,hk.2⟩:_∧k_≠bB))) (fun _ hk=>hk.2) (.int .i64 ((U l1 aX).f0))) (fun _ hk=>hk.2) (.int .i64 ((U l1 aX).f1))) (fun _ hk=>hk.2) (.int .i64 ((U l1 aX).f2.f0))) (fun _ hk=>hk.2) (.int .i64 ((U l1 aX).f2.f1))) (fun _ hk=>hk.2) (.int .i64 ((U l1 aX).f3))) (fun _ h_=>h_.1))) hb);replace bO:=Ah (bT (bf bO lA) hb);replace bV:=Ah (bT (g:=bB) (o:= .cells #[.int .i64 ((U l1 aX).f0),.int .i64 ((U l1 aX).f1),.int .i64 ((U l1 aX).f2.f0),.int .i64 ((U l1 aX).f2.f1),.int .i64 ((U l1 aX).f3)] 66 (0,0)) (pb bV) hb);replace HB:=Ah (aH (am HB dm iY) hb);(try clear hb hk))|(go_at_call 66;(with_reducible refine(qq.calls k2 _ _ b5 bB ((U l1 aX).f0) ((U l1 aX).f1) ((U l1 aX).f2.f0) ((U l1 aX).f2.f1) ((U l1 aX).f3) false _ ?aZ ?ae ?ay A59.out).mono ?_);(case aZ=>exact jF bF);(case ae=>exact(Kd.aY bF.out).2.1);(case ay=>exact bk bV);rintro e w76 ⟨rfl,hb⟩;replace bF:=nr bF hb;replace bO:=nb bO hb;replace bV:=nb bV hb;replace HB:=Ah (aH (am HB dm iY) hb);(try clear hb);obtain⟨hcz77_0,hcz77_1,hcz77_2⟩:=dE bO;obtain⟨hfz77_0,hfz77_1,hfz77_2⟩:=dF bO)|(go_at_call 67;(with_reducible refine(ry.calls k2 _ _ X bB ((U l1 aX).f0) ((U l1 aX).f1) ((U l1 aX).f2.f0) ((U l1 aX).f2.f1) ((U l1 aX).f3) true _ ?aZ ?ae ?ay Py.out).mono ?_);(case aZ=>exact cb bo HB);(case ae=>exact cU.out);(case ay=>exact bk bV);rintro e w78 ⟨rfl,hb⟩;replace bF:=nr bF hb;replace bO:=nb bO hb;replace bV:=nb bV hb;replace HB:=Ah (aH (am HB dm iY) hb);(try clear hb)))
       go_ret2
       exact⟨_,er,by first|exact Kd.be _ _ _ _ _|exact Kd.ce _ _ _ _ _|exact Kd.cf _ _ _ _ _|exact Kd.cZ _ _ _ _ _|exact Kd.ca _ _ _ _ _,am HB dm iY⟩
      replace yu:=PT.mpr yu;subst yu;rw[if_neg dr]at H
      by_cases Q7:b5.length<3518437208883
      rotate_left
      ·
       rw[if_neg Q7]at H;exact absurd H (by simp)
      rw[if_pos Q7]at H;have LMc79:=Ah Q7;clear Q7;obtain⟨y493,NG⟩:∃y_:List (aJ),y_=(b5++[(⟨(U l1 aX).f0,(U l1 aX).f1,(⟨(U l1 aX).f2.f0,(U l1 aX).f2.f1⟩:Y),(U l1 aX).f3⟩:aJ)]):=⟨_,rfl⟩
      replace H:(d9.l0 k2 y493 l1 (l1.length:Int) (Gj (aX+1)) aA X aC)=some (r1,r2):=by first|(rw[NG];with_reducible exact H)|(have aq:=(Gm _ _).symm.trans H;rw[NG];with_reducible exact aq)|(have aq:=(Gm _ _).symm.trans H;with_reducible exact aq)|with_reducible exact H|(rw[NG];exact H)|exact H
      have Ny493:=Ah NG;clear NG;have H':=Ah H;clear H;have gl:0≤(aX:Int):=od;have gm:aX<(l1.length:Int):=od;obtain⟨AZ,pA,jz,k5,k6,k7,k8⟩:=eC HR1.out aX gl gm
      cases pA
      replace jz:=hq HB jz;replace k5:=hq HB k5;replace k6:=hq HB k6;replace k7:=hq HB k7;replace k8:=hq HB k8;replace gl:=eq_true gl;replace gm:=eq_true gm
      go_wp2_with (first|((with_reducible refine ag (N:=8) rfl ?_);(try(refine ev (by rfl) ?_;dsimp only));refine an 8 66 #[.int .i64 0,.int .i64 0,.int .i64 0,.int .i64 0,.int .i64 0] ?_;intro bB hg w80 bV hb;replace bF:=Ah (Kd.b9 (Kd.kN (rr bF.out) bB (aaf hg.symm)) hb);have Aa:=gw hg (aM HB dm);have iY:=gw hg (aM HB dm);replace HB:=Ah (aH (aM HB dm) hb);have lA:=nn bO hg;have oH:=nm bO hg;replace bO:=nb bO hb;clear hb hg;have hnb81:=oH.out;have hnc81:=lA.out;obtain⟨hcz82_0,hcz82_1,hcz82_2,hcz82_3,hcz82_4⟩:=aj bV;obtain⟨hfz82_0,hfz82_1,hfz82_2,hfz82_3,hfz82_4⟩:=ai bV;obtain⟨Ao83,co83,eo83⟩:=Kd.az bF.out;subst eo83;obtain⟨hcz84_0,hcz84_1,hcz84_2⟩:=dE bO;obtain⟨hfz84_0,hfz84_1,hfz84_2⟩:=dF bO)|(go_at_call 65;(with_reducible refine(n5.calls ((U l1 aX).f2.f0) ((U l1 aX).f2.f1) aA true _ Ub.out).mono ?_);rintro e w85 ⟨rfl,hb⟩;replace bF:=Ah (Kd.b9 (by(with_reducible repeat(first|apply Kd.bd|apply Kd.bZ|apply Kd.bQ));exact(Kd.ax (Kd.aK (p:=⟨bB,4,none⟩) (Kd.aK (p:=⟨bB,3,none⟩) (Kd.aK (p:=⟨bB,2,none⟩) (Kd.aK (p:=⟨bB,1,none⟩) (Kd.aK (p:=⟨bB,0,none⟩) (Kd.ax bF.out (fun k_ hk=>(⟨hk,hk.2⟩:_∧k_≠bB))) (fun _ hk=>hk.2) (.int .i64 ((U l1 aX).f0))) (fun _ hk=>hk.2) (.int .i64 ((U l1 aX).f1))) (fun _ hk=>hk.2) (.int .i64 ((U l1 aX).f2.f0))) (fun _ hk=>hk.2) (.int .i64 ((U l1 aX).f2.f1))) (fun _ hk=>hk.2) (.int .i64 ((U l1 aX).f3))) (fun _ h_=>h_.1))) hb);replace bO:=Ah (bT (bf bO lA) hb);replace bV:=Ah (bT (g:=bB) (o:= .cells #[.int .i64 ((U l1 aX).f0),.int .i64 ((U l1 aX).f1),.int .i64 ((U l1 aX).f2.f0),.int .i64 ((U l1 aX).f2.f1),.int .i64 ((U l1 aX).f3)] 66 (0,0)) (pb bV) hb);replace HB:=Ah (aH (am HB dm iY) hb);(try clear hb hk))|(go_at_call 66;(with_reducible refine(qq.calls k2 _ _ b5 bB ((U l1 aX).f0) ((U l1 aX).f1) ((U l1 aX).f2.f0) ((U l1 aX).f2.f1) ((U l1 aX).f3) false _ ?aZ ?ae ?ay A59.out).mono ?_);(case aZ=>exact jF bF);(case ae=>exact(Kd.aY bF.out).2.1);(case ay=>exact bk bV);rintro e w86 ⟨rfl,hb⟩;replace bF:=nr bF hb;replace bO:=nb bO hb;replace bV:=nb bV hb;replace HB:=Ah (aH (am HB dm iY) hb);(try clear hb);obtain⟨hcz87_0,hcz87_1,hcz87_2⟩:=dE bO;obtain⟨hfz87_0,hfz87_1,hfz87_2⟩:=dF bO)|(go_at_call 67;(with_reducible refine(ry.calls k2 _ _ X bB ((U l1 aX).f0) ((U l1 aX).f1) ((U l1 aX).f2.f0) ((U l1 aX).f2.f1) ((U l1 aX).f3) false _ ?aZ ?ae ?ay Py.out).mono ?_);(case aZ=>exact cb bo HB);(case ae=>exact cU.out);(case ay=>exact bk bV);rintro e w88 ⟨rfl,hb⟩;replace bF:=nr bF hb;replace bO:=nb bO hb;replace bV:=nb bV hb;replace HB:=Ah (aH (am HB dm iY) hb);(try clear hb);obtain⟨hcz89_0,hcz89_1,hcz89_2,hcz89_3,hcz89_4⟩:=aj bV;obtain⟨hfz89_0,hfz89_1,hfz89_2,hfz89_3,hfz89_4⟩:=ai bV)|((with_reducible refine ik (b:= .append) (xs:= #[.tmp 108,.tmp 110]) rfl ?_);(try(refine ev (by rfl) ?_;dsimp only));at_builtin;refine Kd.lM b8 (w0:=w) w.heap.size rfl (.tmp 108) (.tmp 110) 27 66 (.agg #[(.int .i64 0),(.int .i64 0),(.int .i64 0),(.int .i64 0),(.int .i64 0)]) 40 rfl aax sY rfl (by decide) (by omega) (.slice Ao83 b5.length co83) b5 (⟨(U l1 aX).f0,(U l1 aX).f1,(⟨(U l1 aX).f2.f0,(U l1 aX).f2.f1⟩:Y),(U l1 aX).f3⟩:aJ) [.int .i64 ((U l1 aX).f0),.int .i64 ((U l1 aX).f1),.int .i64 ((U l1 aX).f2.f0),.int .i64 ((U l1 aX).f2.f1),.int .i64 ((U l1 aX).f3)] (fun k_=>k_≠bB) (fun _=>False) rfl rfl ?aP (fun _ hk=>hk.elim) ?aF ?aO ?aB ?aS ?aL ?_;(case aP=>exact nB _ _ _ (⟨(U l1 aX).f0,(U l1 aX).f1,(⟨(U l1 aX).f2.f0,(U l1 aX).f2.f1⟩:Y),(U l1 aX).f3⟩:aJ));(case aB=>exact(am HB dm iY));(case aF=>exact(fun k_ hk=>Kd.jm (bk bV) k_ hk));(case aO=>exact(by(with_reducible repeat(first|apply Kd.bd|apply Kd.bZ|apply Kd.bQ));exact Kd.ax bF.out (fun _ hk=>hk.2)));(case aS=>exact(bE (am HB dm iY)));(case aL=>have:=LMc79.out;omega);intro v494 w90 ho hb hg hat;rw[←Ny493.out]at ho;replace bO:=Ah (dJ (bk bO) hg (Kd.dX bF.out bO.out (by decide)));replace bV:=Ah (dJ (bk bV) hg (Kd.jL bF.out (fun _ hk=>hk.2)));replace HB:=Ah (hb);have HO495:=Ah (ho);clear bF;clear ho hb hg hat))
      go_roundg k2
      case measure=>have:=HJ2.out;have:=eE.out;omega
      case rel=>exact⟨(y493),(Gj (aX+1)),e3,H',⟨by have:=HJ2.out;have:=eE.out;omega⟩,rm HO495 (fun _ hk=>trivial),⟨bk bO⟩,⟨am HB dm iY⟩⟩
     rw[if_pos c17]at H;have Yq:=fU c17;have c17b1:=fV c17;clear c17;replace H:=Gl.mp H;obtain⟨rY,Oo,H⟩:=H
     try dsimp only at H
     have JW:=Ah Oo;clear Oo
     by_cases c19:rY=true
     rotate_left
     ·
      replace c19:=PT.mpr c19;subst c19;rw[if_neg dr]at H;simp only[Jh,Ue]at H;obtain⟨rfl,rfl⟩:=H;have gl:0≤(aX:Int):=od;have gm:aX<(l1.length:Int):=od;obtain⟨AZ,pA,jz,k5,k6,k7,k8⟩:=eC HR1.out aX gl gm
      cases pA
      replace jz:=hq HB jz;replace k5:=hq HB k5;replace k6:=hq HB k6;replace k7:=hq HB k7;replace k8:=hq HB k8;replace gl:=eq_true gl;replace gm:=eq_true gm
      try go_wp2_with (first|((with_reducible refine ag (N:=8) rfl ?_);(try(refine ev (by rfl) ?_;dsimp only));refine an 8 66 #[.int .i64 0,.int .i64 0,.int .i64 0,.int .i64 0,.int .i64 0] ?_;intro bB hg JX bV hb;replace bF:=Ah (Kd.b9 (Kd.kN (rr bF.out) bB (aaf hg.symm)) hb);have Aa:=gw hg (aM HB dm);have iY:=gw hg (aM HB dm);replace HB:=Ah (aH (aM HB dm) hb);have lA:=nn bO hg;have oH:=nm bO hg;replace bO:=nb bO hb;clear hb hg;have Su:=oH.out;have Sv:=lA.out;obtain⟨HW,HX,R9,RA,RB⟩:=aj bV;obtain⟨Hd,He,RH,RI,RJ⟩:=ai bV))
      have fI:Z (Kd.R b8 66 (((((JX.setCell ⟨bB,0,none⟩ (.int .i64 ((U l1 aX).f0))).setCell ⟨bB,1,none⟩ (.int .i64 ((U l1 aX).f1))).setCell ⟨bB,2,none⟩ (.int .i64 ((U l1 aX).f2.f0))).setCell ⟨bB,3,none⟩ (.int .i64 ((U l1 aX).f2.f1))).setCell ⟨bB,4,none⟩ (.int .i64 ((U l1 aX).f3))) w.heap.size (fun k_=>k_≠bB) u6 b5):=⟨by(with_reducible repeat(first|apply Kd.bd|apply Kd.bZ|apply Kd.bQ));exact Kd.ax (Kd.aK (p:=⟨bB,4,none⟩) (Kd.aK (p:=⟨bB,3,none⟩) (Kd.aK (p:=⟨bB,2,none⟩) (Kd.aK (p:=⟨bB,1,none⟩) (Kd.aK (p:=⟨bB,0,none⟩) (Kd.ax bF.out (fun k_ hk=>(⟨hk,hk.2⟩:_∧k_≠bB))) (fun _ hk=>hk.2) (.int .i64 ((U l1 aX).f0))) (fun _ hk=>hk.2) (.int .i64 ((U l1 aX).f1))) (fun _ hk=>hk.2) (.int .i64 ((U l1 aX).f2.f0))) (fun _ hk=>hk.2) (.int .i64 ((U l1 aX).f2.f1))) (fun _ hk=>hk.2) (.int .i64 ((U l1 aX).f3))) (fun _ hk=>hk.1.2)⟩;have eU:Z ((((((JX.setCell ⟨bB,0,none⟩ (.int .i64 ((U l1 aX).f0))).setCell ⟨bB,1,none⟩ (.int .i64 ((U l1 aX).f1))).setCell ⟨bB,2,none⟩ (.int .i64 ((U l1 aX).f2.f0))).setCell ⟨bB,3,none⟩ (.int .i64 ((U l1 aX).f2.f1))).setCell ⟨bB,4,none⟩ (.int .i64 ((U l1 aX).f3))).heap[NE]?=some (.cells #[.int .i64 aA,.slice af X.length aa,.slice ab aC.length ac] 26 (0,0))):=⟨bf bO lA⟩;have ie:Z ((((((JX.setCell ⟨bB,0,none⟩ (.int .i64 ((U l1 aX).f0))).setCell ⟨bB,1,none⟩ (.int .i64 ((U l1 aX).f1))).setCell ⟨bB,2,none⟩ (.int .i64 ((U l1 aX).f2.f0))).setCell ⟨bB,3,none⟩ (.int .i64 ((U l1 aX).f2.f1))).setCell ⟨bB,4,none⟩ (.int .i64 ((U l1 aX).f3))).heap[bB]?=some (.cells #[.int .i64 ((U l1 aX).f0),.int .i64 ((U l1 aX).f1),.int .i64 ((U l1 aX).f2.f0),.int .i64 ((U l1 aX).f2.f1),.int .i64 ((U l1 aX).f3)] 66 (0,0))):=⟨by exact pb bV⟩;have rn:Z (Below w.heap.size w (((((JX.setCell ⟨bB,0,none⟩ (.int .i64 ((U l1 aX).f0))).setCell ⟨bB,1,none⟩ (.int .i64 ((U l1 aX).f1))).setCell ⟨bB,2,none⟩ (.int .i64 ((U l1 aX).f2.f0))).setCell ⟨bB,3,none⟩ (.int .i64 ((U l1 aX).f2.f1))).setCell ⟨bB,4,none⟩ (.int .i64 ((U l1 aX).f3)))):=⟨am HB dm iY⟩;(try clear bF);(try clear bO);(try clear bV);(try clear HB)
      generalize (((((JX.setCell ⟨bB,0,none⟩ (.int .i64 ((U l1 aX).f0))).setCell ⟨bB,1,none⟩ (.int .i64 ((U l1 aX).f1))).setCell ⟨bB,2,none⟩ (.int .i64 ((U l1 aX).f2.f0))).setCell ⟨bB,3,none⟩ (.int .i64 ((U l1 aX).f2.f1))).setCell ⟨bB,4,none⟩ (.int .i64 ((U l1 aX).f3)))=w51 at fI eU ie rn⊢
      have bF:=fI;have bO:=eU;have bV:=ie;have HB:=rn;clear fI eU ie rn;replace bF:=Ah (Kd.bQ bF.out);replace bO:=Ah (cY bO.out);replace bV:=Ah (cY bV.out);replace HB:=Ah (j7 HB.out);obtain⟨Og,Oh,Oi⟩:=Kd.az bF.out;(first|subst Oi|(injection Oi with cR dw cS;have dx:=cR.symm;have dy:=cS.symm;clear cR dw cS;subst dx;subst dy));refine mt (n:=34) (S:=fun w'=>w'.cell? ⟨bB,0,none⟩=some (.int .i64 ((U l1 aX).f0))∧w'.cell? ⟨bB,1,none⟩=some (.int .i64 ((U l1 aX).f1))∧w'.cell? ⟨bB,2,none⟩=some (.int .i64 ((U l1 aX).f2.f0))∧w'.cell? ⟨bB,3,none⟩=some (.int .i64 ((U l1 aX).f2.f1))∧w'.cell? ⟨bB,4,none⟩=some (.int .i64 ((U l1 aX).f3))) (ds:=[]) #[false,false,false,false,false,false,false,false,false,false,false,false,false,false,false,false,false,false,false,false,false,false,false,false,false,false,false,false,false,false,false,false,false,false] (by kernel_rfl) rfl rfl ⟨(aE bV.out 0).trans rfl,(aE bV.out 1).trans rfl,(aE bV.out 2).trans rfl,(aE bV.out 3).trans rfl,(aE bV.out 4).trans rfl⟩ (fun hHeld=> ?_);refine na d9.a1h d9.ZI (fun aI cz=> ?_)
      generalize w51.drew=w52 at bF bO bV HB hHeld⊢
      refine b6 0 29 aI.out ?_;refine b6 2 31 aI.out ?_;refine b6 3 32 aI.out ?_;refine dv 1 30 aI.out cz.out hHeld (hr:=by rintro w' ⟨s0,s1,s2,s3,s4⟩;go_simp;with_reducible rfl) (h:= ?_);refine fv (i:=4) (N:=some 33) #[true,true,true,true,true,false,false,false,false,false,false,false,false,false,false,false,false,false,false,false,false,false,false,false,false,false,false,false,false,false,false,false,false,false] rfl rfl (gJ aI.out (by kernel_rfl)) (by decide) (fun K hK=> ?_);refine gZ aa7 (by kernel_rfl) rfl #[.int .i64 ((U l1 aX).f1),.int .i64 1,.int .i64 (b5.length:Int)] (by rfl) rfl rfl (by(try simp only[dl,dV,lK]);first|done|rfl|(simp only[SI,Ja];rfl)) ?_
      with_reducible refine(jH.calls ((U l1 aX).f1) 1 (b5.length:Int) false _ JW.out).mono ?_
      rintro e w' ⟨rfl,⟨nd,rfl⟩⟩;refine⟨_,rfl, ?_⟩;refine hK.out _ _ ⟨(aE bV.out 0).trans rfl,(aE bV.out 1).trans rfl,(aE bV.out 2).trans rfl,(aE bV.out 3).trans rfl,(aE bV.out 4).trans rfl⟩ (fun hHeld=> ?_);clear hK K;refine nq 33 ?_;refine b6 5 34 aI.out ?_;refine b6 6 35 aI.out ?_;refine cK 7 36 aI.out ?_;refine cK 8 37 aI.out ?_;refine cK 9 38 aI.out ?_;refine cK 10 39 aI.out ?_;refine b6 11 40 aI.out ?_;refine b6 12 41 aI.out ?_;refine cK 13 42 aI.out ?_;refine cK 14 43 aI.out ?_;refine cK 15 44 aI.out ?_;refine cK 16 45 aI.out ?_;refine cK 17 46 aI.out ?_;refine cK 18 47 aI.out ?_;refine cK 19 48 aI.out ?_;refine cK 20 49 aI.out ?_;refine cK 21 50 aI.out ?_;refine cK 22 51 aI.out ?_;refine cK 23 52 aI.out ?_;refine cK 24 53 aI.out ?_;refine cK 25 54 aI.out ?_;refine cK 26 55 aI.out ?_;refine cK 27 56 aI.out ?_;refine cK 28 57 aI.out ?_;refine cK 29 58 aI.out ?_;refine cK 30 59 aI.out ?_;refine cK 31 60 aI.out ?_;refine cK 32 61 aI.out ?_;refine b6 33 62 aI.out ?_;refine jn (kO aI.out (by kernel_rfl)) ?_
      try go_wp2
      go_ret2
      exact⟨_,er,by first|exact Kd.be _ _ _ _ _|exact Kd.ce _ _ _ _ _|exact Kd.cf _ _ _ _ _|exact Kd.cZ _ _ _ _ _|exact Kd.ca _ _ _ _ _,am HB dm iY⟩
     subst c19;rw[if_pos rfl]at H
     by_cases c20:(!(((U l1 aX).f2.f0)==0)||(!(((U l1 aX).f2.f1)==0)))=true
     ·
      rw[if_pos c20]at H;have Cg:(!(((U l1 aX).f2.f0)==0)||(!(((U l1 aX).f2.f1)==0)))=true:=c20;clear c20;simp only[Jh,Ue]at H;obtain⟨rfl,rfl⟩:=H;have gl:0≤(aX:Int):=od;have gm:aX<(l1.length:Int):=od;obtain⟨AZ,pA,jz,k5,k6,k7,k8⟩:=eC HR1.out aX gl gm
      cases pA
      replace jz:=hq HB jz;replace k5:=hq HB k5;replace k6:=hq HB k6;replace k7:=hq HB k7;replace k8:=hq HB k8;replace gl:=eq_true gl;replace gm:=eq_true gm
      try go_wp2_with (first|((with_reducible refine ag (N:=8) rfl ?_);(try(refine ev (by rfl) ?_;dsimp only));refine an 8 66 #[.int .i64 0,.int .i64 0,.int .i64 0,.int .i64 0,.int .i64 0] ?_;intro bB hg vS bV hb;replace bF:=Ah (Kd.b9 (Kd.kN (rr bF.out) bB (aaf hg.symm)) hb);have Aa:=gw hg (aM HB dm);have iY:=gw hg (aM HB dm);replace HB:=Ah (aH (aM HB dm) hb);have lA:=nn bO hg;have oH:=nm bO hg;replace bO:=nb bO hb;clear hb hg;have hnb22:=oH.out;have hnc22:=lA.out;obtain⟨Kz,L0,Rl,XS,XT⟩:=aj bV;obtain⟨L1,L2,Rm,XU,XV⟩:=ai bV))
      have fI:Z (Kd.R b8 66 (((((vS.setCell ⟨bB,0,none⟩ (.int .i64 ((U l1 aX).f0))).setCell ⟨bB,1,none⟩ (.int .i64 ((U l1 aX).f1))).setCell ⟨bB,2,none⟩ (.int .i64 ((U l1 aX).f2.f0))).setCell ⟨bB,3,none⟩ (.int .i64 ((U l1 aX).f2.f1))).setCell ⟨bB,4,none⟩ (.int .i64 ((U l1 aX).f3))) w.heap.size (fun k_=>k_≠bB) u6 b5):=⟨by(with_reducible repeat(first|apply Kd.bd|apply Kd.bZ|apply Kd.bQ));exact Kd.ax (Kd.aK (p:=⟨bB,4,none⟩) (Kd.aK (p:=⟨bB,3,none⟩) (Kd.aK (p:=⟨bB,2,none⟩) (Kd.aK (p:=⟨bB,1,none⟩) (Kd.aK (p:=⟨bB,0,none⟩) (Kd.ax bF.out (fun k_ hk=>(⟨hk,hk.2⟩:_∧k_≠bB))) (fun _ hk=>hk.2) (.int .i64 ((U l1 aX).f0))) (fun _ hk=>hk.2) (.int .i64 ((U l1 aX).f1))) (fun _ hk=>hk.2) (.int .i64 ((U l1 aX).f2.f0))) (fun _ hk=>hk.2) (.int .i64 ((U l1 aX).f2.f1))) (fun _ hk=>hk.2) (.int .i64 ((U l1 aX).f3))) (fun _ hk=>hk.1.2)⟩;have eU:Z ((((((vS.setCell ⟨bB,0,none⟩ (.int .i64 ((U l1 aX).f0))).setCell ⟨bB,1,none⟩ (.int .i64 ((U l1 aX).f1))).setCell ⟨bB,2,none⟩ (.int .i64 ((U l1 aX).f2.f0))).setCell ⟨bB,3,none⟩ (.int .i64 ((U l1 aX).f2.f1))).setCell ⟨bB,4,none⟩ (.int .i64 ((U l1 aX).f3))).heap[NE]?=some (.cells #[.int .i64 aA,.slice af X.length aa,.slice ab aC.length ac] 26 (0,0))):=⟨bf bO lA⟩;have ie:Z ((((((vS.setCell ⟨bB,0,none⟩ (.int .i64 ((U l1 aX).f0))).setCell ⟨bB,1,none⟩ (.int .i64 ((U l1 aX).f1))).setCell ⟨bB,2,none⟩ (.int .i64 ((U l1 aX).f2.f0))).setCell ⟨bB,3,none⟩ (.int .i64 ((U l1 aX).f2.f1))).setCell ⟨bB,4,none⟩ (.int .i64 ((U l1 aX).f3))).heap[bB]?=some (.cells #[.int .i64 ((U l1 aX).f0),.int .i64 ((U l1 aX).f1),.int .i64 ((U l1 aX).f2.f0),.int .i64 ((U l1 aX).f2.f1),.int .i64 ((U l1 aX).f3)] 66 (0,0))):=⟨by exact pb bV⟩;have rn:Z (Below w.heap.size w (((((vS.setCell ⟨bB,0,none⟩ (.int .i64 ((U l1 aX).f0))).setCell ⟨bB,1,none⟩ (.int .i64 ((U l1 aX).f1))).setCell ⟨bB,2,none⟩ (.int .i64 ((U l1 aX).f2.f0))).setCell ⟨bB,3,none⟩ (.int .i64 ((U l1 aX).f2.f1))).setCell ⟨bB,4,none⟩ (.int .i64 ((U l1 aX).f3)))):=⟨am HB dm iY⟩;(try clear bF);(try clear bO);(try clear bV);(try clear HB)
      generalize (((((vS.setCell ⟨bB,0,none⟩ (.int .i64 ((U l1 aX).f0))).setCell ⟨bB,1,none⟩ (.int .i64 ((U l1 aX).f1))).setCell ⟨bB,2,none⟩ (.int .i64 ((U l1 aX).f2.f0))).setCell ⟨bB,3,none⟩ (.int .i64 ((U l1 aX).f2.f1))).setCell ⟨bB,4,none⟩ (.int .i64 ((U l1 aX).f3)))=mA at fI eU ie rn⊢
      have bF:=fI;have bO:=eU;have bV:=ie;have HB:=rn;clear fI eU ie rn;replace bF:=Ah (Kd.bQ bF.out);replace bO:=Ah (cY bO.out);replace bV:=Ah (cY bV.out);replace HB:=Ah (j7 HB.out);obtain⟨fw,fx,vM⟩:=Kd.az bF.out;(first|subst vM|(injection vM with cR dw cS;have dx:=cR.symm;have dy:=cS.symm;clear cR dw cS;subst dx;subst dy));refine mt (n:=34) (S:=fun w'=>w'.cell? ⟨bB,0,none⟩=some (.int .i64 ((U l1 aX).f0))∧w'.cell? ⟨bB,1,none⟩=some (.int .i64 ((U l1 aX).f1))∧w'.cell? ⟨bB,2,none⟩=some (.int .i64 ((U l1 aX).f2.f0))∧w'.cell? ⟨bB,3,none⟩=some (.int .i64 ((U l1 aX).f2.f1))∧w'.cell? ⟨bB,4,none⟩=some (.int .i64 ((U l1 aX).f3))) (ds:=[]) #[false,false,false,false,false,false,false,false,false,false,false,false,false,false,false,false,false,false,false,false,false,false,false,false,false,false,false,false,false,false,false,false,false,false] (by kernel_rfl) rfl rfl ⟨(aE bV.out 0).trans rfl,(aE bV.out 1).trans rfl,(aE bV.out 2).trans rfl,(aE bV.out 3).trans rfl,(aE bV.out 4).trans rfl⟩ (fun hHeld=> ?_);refine na d9.a1h d9.ZI (fun aI cz=> ?_)
      generalize mA.drew=ek at bF bO bV HB hHeld⊢
      refine b6 0 29 aI.out ?_;refine b6 2 31 aI.out ?_;refine b6 3 32 aI.out ?_;refine dv 1 30 aI.out cz.out hHeld (hr:=by rintro w' ⟨s0,s1,s2,s3,s4⟩;go_simp;with_reducible rfl) (h:= ?_);refine fv (i:=4) (N:=some 33) #[true,true,true,true,true,false,false,false,false,false,false,false,false,false,false,false,false,false,false,false,false,false,false,false,false,false,false,false,false,false,false,false,false,false] rfl rfl (gJ aI.out (by kernel_rfl)) (by decide) (fun K hK=> ?_);refine gZ aa7 (by kernel_rfl) rfl #[.int .i64 ((U l1 aX).f1),.int .i64 1,.int .i64 (b5.length:Int)] (by rfl) rfl rfl (by(try simp only[dl,dV,lK]);first|done|rfl|(simp only[SI,Ja];rfl)) ?_
      with_reducible refine(jH.calls ((U l1 aX).f1) 1 (b5.length:Int) true _ JW.out).mono ?_
      rintro e w' ⟨rfl,⟨nd,rfl⟩⟩;refine⟨_,rfl, ?_⟩;refine hK.out _ _ ⟨(aE bV.out 0).trans rfl,(aE bV.out 1).trans rfl,(aE bV.out 2).trans rfl,(aE bV.out 3).trans rfl,(aE bV.out 4).trans rfl⟩ (fun hHeld=> ?_);clear hK K;refine nq 33 ?_;refine b6 5 34 aI.out ?_;refine b6 6 35 aI.out ?_;refine b6 7 36 aI.out ?_;refine b6 9 38 aI.out ?_;refine dv 8 37 aI.out cz.out hHeld (hr:=by rintro w' ⟨s0,s1,s2,s3,s4⟩;go_simp;with_reducible rfl) (h:= ?_);refine b6 10 39 aI.out ?_;refine b6 11 40 aI.out ?_;refine b6 12 41 aI.out ?_;refine cK 13 42 aI.out ?_;refine cK 14 43 aI.out ?_;refine cK 15 44 aI.out ?_;refine cK 16 45 aI.out ?_;refine cK 17 46 aI.out ?_;refine cK 18 47 aI.out ?_;refine cK 19 48 aI.out ?_;refine cK 20 49 aI.out ?_;refine cK 21 50 aI.out ?_;refine cK 22 51 aI.out ?_;refine cK 23 52 aI.out ?_;refine cK 24 53 aI.out ?_;refine cK 25 54 aI.out ?_;refine cK 26 55 aI.out ?_;refine cK 27 56 aI.out ?_;refine cK 28 57 aI.out ?_;refine cK 29 58 aI.out ?_;refine cK 30 59 aI.out ?_;refine cK 31 60 aI.out ?_;refine cK 32 61 aI.out ?_;refine b6 33 62 aI.out ?_;refine jn (kO aI.out (by kernel_rfl)) ?_
      try go_wp2
      go_ret2
      exact⟨_,er,by first|exact Kd.be _ _ _ _ _|exact Kd.ce _ _ _ _ _|exact Kd.cf _ _ _ _ _|exact Kd.cZ _ _ _ _ _|exact Kd.ca _ _ _ _ _,am HB dm iY⟩
     rw[if_neg c20]at H
     have Cg:(!(((U l1 aX).f2.f0)==0)||(!(((U l1 aX).f2.f1)==0)))=false:=by simpa using c20
     clear c20;obtain⟨cD,Im⟩:∃j_:Int,(Gj (((U l1 aX).f1)-1))=j_:=⟨_,rfl⟩
     replace H:(if 0≤(cD)then(if(cD)<(b5.length:Int)then((jH.f ((U l1 aX).f3) (Gj (((U b5 (cD)).f3)+1)) ((U b5 (cD)).f2.f1)).bind fun P6=>(if P6=true then(d9.l0 k2 (b5.set ((cD):Int).toNat (⟨(U b5 (cD)).f0,(U b5 (cD)).f1,(⟨(U b5 (cD)).f2.f0,(U b5 (cD)).f2.f1⟩:Y),(U l1 aX).f3⟩:aJ)) l1 (l1.length:Int) (Gj (aX+1)) aA X aC)else(some (([]:List (aJ)),false))))else(none))else(none))=some (r1,r2):=by first|(rw[Im]at H;exact H)|(simp only[Im]at H⊢;exact H)
     (try rw[Im]at JW);have hji27w:(IntKind.i64.wrap (((U l1 aX).f1)-1))=cD:=(kP _).trans Im
     by_cases c28:0≤(cD)
     rotate_left
     ·
      rw[if_neg c28]at H;exact absurd H (by simp)
     rw[if_pos c28]at H;have M8:=bJ c28;clear c28
     by_cases lJ:(cD)<(b5.length:Int)
     rotate_left
     ·
      rw[if_neg lJ]at H;exact absurd H (by simp)
     rw[if_pos lJ]at H;have Ce:=bJ lJ;clear lJ;replace H:=Gl.mp H;obtain⟨P6,A300,H⟩:=H
     try dsimp only at H
     have dj:=Ah A300;clear A300;have H_:=Ah H;clear H;have gl:0≤(aX:Int):=od;have gm:aX<(l1.length:Int):=od;obtain⟨AZ,pA,jz,k5,k6,k7,k8⟩:=eC HR1.out aX gl gm
     cases pA
     replace jz:=hq HB jz;replace k5:=hq HB k5;replace k6:=hq HB k6;replace k7:=hq HB k7;replace k8:=hq HB k8;replace gl:=eq_true gl;replace gm:=eq_true gm
     try go_wp2_with (first|((with_reducible refine ag (N:=8) rfl ?_);(try(refine ev (by rfl) ?_;dsimp only));refine an 8 66 #[.int .i64 0,.int .i64 0,.int .i64 0,.int .i64 0,.int .i64 0] ?_;intro bB hg DS bV hb;replace bF:=Ah (Kd.b9 (Kd.kN (rr bF.out) bB (aaf hg.symm)) hb);have Aa:=gw hg (aM HB dm);have iY:=gw hg (aM HB dm);replace HB:=Ah (aH (aM HB dm) hb);have lA:=nn bO hg;have oH:=nm bO hg;replace bO:=nb bO hb;clear hb hg;have IY:=oH.out;have IZ:=lA.out;obtain⟨XM,XN,XO,hcz35_3,hcz35_4⟩:=aj bV;obtain⟨XP,XQ,XR,hfz35_3,hfz35_4⟩:=ai bV))
     have fI:Z (Kd.R b8 66 (((((DS.setCell ⟨bB,0,none⟩ (.int .i64 ((U l1 aX).f0))).setCell ⟨bB,1,none⟩ (.int .i64 ((U l1 aX).f1))).setCell ⟨bB,2,none⟩ (.int .i64 ((U l1 aX).f2.f0))).setCell ⟨bB,3,none⟩ (.int .i64 ((U l1 aX).f2.f1))).setCell ⟨bB,4,none⟩ (.int .i64 ((U l1 aX).f3))) w.heap.size (fun k_=>k_≠bB) u6 b5):=⟨by(with_reducible repeat(first|apply Kd.bd|apply Kd.bZ|apply Kd.bQ));exact Kd.ax (Kd.aK (p:=⟨bB,4,none⟩) (Kd.aK (p:=⟨bB,3,none⟩) (Kd.aK (p:=⟨bB,2,none⟩) (Kd.aK (p:=⟨bB,1,none⟩) (Kd.aK (p:=⟨bB,0,none⟩) (Kd.ax bF.out (fun k_ hk=>(⟨hk,hk.2⟩:_∧k_≠bB))) (fun _ hk=>hk.2) (.int .i64 ((U l1 aX).f0))) (fun _ hk=>hk.2) (.int .i64 ((U l1 aX).f1))) (fun _ hk=>hk.2) (.int .i64 ((U l1 aX).f2.f0))) (fun _ hk=>hk.2) (.int .i64 ((U l1 aX).f2.f1))) (fun _ hk=>hk.2) (.int .i64 ((U l1 aX).f3))) (fun _ hk=>hk.1.2)⟩;have eU:Z ((((((DS.setCell ⟨bB,0,none⟩ (.int .i64 ((U l1 aX).f0))).setCell ⟨bB,1,none⟩ (.int .i64 ((U l1 aX).f1))).setCell ⟨bB,2,none⟩ (.int .i64 ((U l1 aX).f2.f0))).setCell ⟨bB,3,none⟩ (.int .i64 ((U l1 aX).f2.f1))).setCell ⟨bB,4,none⟩ (.int .i64 ((U l1 aX).f3))).heap[NE]?=some (.cells #[.int .i64 aA,.slice af X.length aa,.slice ab aC.length ac] 26 (0,0))):=⟨bf bO lA⟩;have ie:Z ((((((DS.setCell ⟨bB,0,none⟩ (.int .i64 ((U l1 aX).f0))).setCell ⟨bB,1,none⟩ (.int .i64 ((U l1 aX).f1))).setCell ⟨bB,2,none⟩ (.int .i64 ((U l1 aX).f2.f0))).setCell ⟨bB,3,none⟩ (.int .i64 ((U l1 aX).f2.f1))).setCell ⟨bB,4,none⟩ (.int .i64 ((U l1 aX).f3))).heap[bB]?=some (.cells #[.int .i64 ((U l1 aX).f0),.int .i64 ((U l1 aX).f1),.int .i64 ((U l1 aX).f2.f0),.int .i64 ((U l1 aX).f2.f1),.int .i64 ((U l1 aX).f3)] 66 (0,0))):=⟨by exact pb bV⟩;have rn:Z (Below w.heap.size w (((((DS.setCell ⟨bB,0,none⟩ (.int .i64 ((U l1 aX).f0))).setCell ⟨bB,1,none⟩ (.int .i64 ((U l1 aX).f1))).setCell ⟨bB,2,none⟩ (.int .i64 ((U l1 aX).f2.f0))).setCell ⟨bB,3,none⟩ (.int .i64 ((U l1 aX).f2.f1))).setCell ⟨bB,4,none⟩ (.int .i64 ((U l1 aX).f3)))):=⟨am HB dm iY⟩;(try clear bF);(try clear bO);(try clear bV);(try clear HB)
     generalize (((((DS.setCell ⟨bB,0,none⟩ (.int .i64 ((U l1 aX).f0))).setCell ⟨bB,1,none⟩ (.int .i64 ((U l1 aX).f1))).setCell ⟨bB,2,none⟩ (.int .i64 ((U l1 aX).f2.f0))).setCell ⟨bB,3,none⟩ (.int .i64 ((U l1 aX).f2.f1))).setCell ⟨bB,4,none⟩ (.int .i64 ((U l1 aX).f3)))=UY at fI eU ie rn⊢
     have bF:=fI;have bO:=eU;have bV:=ie;have HB:=rn;clear fI eU ie rn;replace bF:=Ah (Kd.bQ bF.out);replace bO:=Ah (cY bO.out);replace bV:=Ah (cY bV.out);replace HB:=Ah (j7 HB.out);obtain⟨nH,lW,Ag⟩:=Kd.az bF.out;(first|subst Ag|(injection Ag with cR dw cS;have dx:=cR.symm;have dy:=cS.symm;clear cR dw cS;subst dx;subst dy));have a1i:0≤((cD):Int):=od;have a1j:(cD)<(b5.length:Int):=od;obtain⟨oe,e486,XW,XX,XY,XZ,Xa⟩:=eC (Kd.aY bF.out).2.2 (cD) a1i a1j
     cases e486
     replace a1i:=eq_true a1i;replace a1j:=eq_true a1j;have a1k:0≤((cD):Int):=od;have a1l:(cD)<(b5.length:Int):=od;obtain⟨ad487,e487,Xb,Xc,Xd,Xe,Xf⟩:=eC (Kd.aY bF.out).2.2 (cD) a1k a1l;obtain rfl:oe=ad487:=(by injection e487);replace a1k:=eq_true a1k;replace a1l:=eq_true a1l;refine mt (n:=34) (S:=fun w'=>w'.cell? ⟨bB,0,none⟩=some (.int .i64 ((U l1 aX).f0))∧w'.cell? ⟨bB,1,none⟩=some (.int .i64 ((U l1 aX).f1))∧w'.cell? ⟨bB,2,none⟩=some (.int .i64 ((U l1 aX).f2.f0))∧w'.cell? ⟨bB,3,none⟩=some (.int .i64 ((U l1 aX).f2.f1))∧w'.cell? ⟨bB,4,none⟩=some (.int .i64 ((U l1 aX).f3))∧w'.cell? (oe.add (((cD)).toNat*5))=some (.int .i64 ((U b5 (cD)).f0))∧w'.cell? ⟨(oe.add (((cD)).toNat*5)).block,(oe.add (((cD)).toNat*5)).off+1,none⟩=some (.int .i64 ((U b5 (cD)).f1))∧w'.cell? ⟨(oe.add (((cD)).toNat*5)).block,(oe.add (((cD)).toNat*5)).off+2,none⟩=some (.int .i64 ((U b5 (cD)).f2.f0))∧w'.cell? ⟨(oe.add (((cD)).toNat*5)).block,(oe.add (((cD)).toNat*5)).off+3,none⟩=some (.int .i64 ((U b5 (cD)).f2.f1))∧w'.cell? ⟨(oe.add (((cD)).toNat*5)).block,(oe.add (((cD)).toNat*5)).off+4,none⟩=some (.int .i64 ((U b5 (cD)).f3))∧w'.cell? (oe.add (((cD)).toNat*5))=some (.int .i64 ((U b5 (cD)).f0))∧w'.cell? ⟨(oe.add (((cD)).toNat*5)).block,(oe.add (((cD)).toNat*5)).off+1,none⟩=some (.int .i64 ((U b5 (cD)).f1))∧w'.cell? ⟨(oe.add (((cD)).toNat*5)).block,(oe.add (((cD)).toNat*5)).off+2,none⟩=some (.int .i64 ((U b5 (cD)).f2.f0))∧w'.cell? ⟨(oe.add (((cD)).toNat*5)).block,(oe.add (((cD)).toNat*5)).off+3,none⟩=some (.int .i64 ((U b5 (cD)).f2.f1))∧w'.cell? ⟨(oe.add (((cD)).toNat*5)).block,(oe.add (((cD)).toNat*5)).off+4,none⟩=some (.int .i64 ((U b5 (cD)).f3))) (ds:=[]) #[false,false,false,false,false,false,false,false,false,false,false,false,false,false,false,false,false,false,false,false,false,false,false,false,false,false,false,false,false,false,false,false,false,false] (by kernel_rfl) rfl rfl ⟨(aE bV.out 0).trans rfl,(aE bV.out 1).trans rfl,(aE bV.out 2).trans rfl,(aE bV.out 3).trans rfl,(aE bV.out 4).trans rfl,XW,XX,XY,XZ,Xa,Xb,Xc,Xd,Xe,Xf⟩ (fun hHeld=> ?_);refine na d9.a1h d9.ZI (fun aI cz=> ?_)
     generalize UY.drew=mc at bF bO bV HB XW XX XY XZ Xa Xb Xc Xd Xe Xf hHeld⊢
     refine b6 0 29 aI.out ?_;refine b6 2 31 aI.out ?_;refine b6 3 32 aI.out ?_;refine dv 1 30 aI.out cz.out hHeld (hr:=by rintro w' ⟨s0,s1,s2,s3,s4,s5,s6,s7,s8,s9,s10,s11,s12,s13,JY⟩;go_simp;with_reducible rfl) (h:= ?_);refine fv (i:=4) (N:=some 33) #[true,true,true,true,true,false,false,false,false,false,false,false,false,false,false,false,false,false,false,false,false,false,false,false,false,false,false,false,false,false,false,false,false,false] rfl rfl (gJ aI.out (by kernel_rfl)) (by decide) (fun K hK=> ?_);refine gZ aa7 (by kernel_rfl) rfl #[.int .i64 ((U l1 aX).f1),.int .i64 1,.int .i64 (b5.length:Int)] (by rfl) rfl rfl (by(try simp only[dl,dV,lK]);first|done|rfl|(simp only[SI,Ja];rfl)) ?_
     with_reducible refine(jH.calls ((U l1 aX).f1) 1 (b5.length:Int) true _ JW.out).mono ?_
     rintro e w' ⟨rfl,⟨nd,rfl⟩⟩;refine⟨_,rfl, ?_⟩;refine hK.out _ _ ⟨(aE bV.out 0).trans rfl,(aE bV.out 1).trans rfl,(aE bV.out 2).trans rfl,(aE bV.out 3).trans rfl,(aE bV.out 4).trans rfl,hHeld.2.2.2.2.2.1,hHeld.2.2.2.2.2.2.1,hHeld.2.2.2.2.2.2.2.1,hHeld.2.2.2.2.2.2.2.2.1,hHeld.2.2.2.2.2.2.2.2.2.1,hHeld.2.2.2.2.2.2.2.2.2.2.1,hHeld.2.2.2.2.2.2.2.2.2.2.2.1,hHeld.2.2.2.2.2.2.2.2.2.2.2.2.1,hHeld.2.2.2.2.2.2.2.2.2.2.2.2.2.1,hHeld.2.2.2.2.2.2.2.2.2.2.2.2.2.2⟩ (fun hHeld=> ?_);clear hK K;refine nq 33 ?_;refine b6 5 34 aI.out ?_;refine b6 6 35 aI.out ?_;refine b6 7 36 aI.out ?_;refine b6 9 38 aI.out ?_;refine dv 8 37 aI.out cz.out hHeld (hr:=by rintro w' ⟨s0,s1,s2,s3,s4,s5,s6,s7,s8,s9,s10,s11,s12,s13,JY⟩;go_simp;with_reducible rfl) (h:= ?_);refine b6 10 39 aI.out ?_;refine b6 11 40 aI.out ?_;refine b6 12 41 aI.out ?_;refine b6 13 42 aI.out ?_;refine b6 15 44 aI.out ?_;refine b6 16 45 aI.out ?_;refine b6 23 52 aI.out ?_;refine b6 24 53 aI.out ?_;refine dv 14 43 aI.out cz.out hHeld (hr:=by rintro w' ⟨s0,s1,s2,s3,s4,s5,s6,s7,s8,s9,s10,s11,s12,s13,JY⟩;go_simp;with_reducible rfl) (h:= ?_);refine dv 17 46 aI.out cz.out hHeld (hr:=by rintro w' ⟨s0,s1,s2,s3,s4,s5,s6,s7,s8,s9,s10,s11,s12,s13,JY⟩;go_simp;with_reducible rfl) (h:= ?_);refine b6 18 47 aI.out ?_;refine b6 19 48 aI.out ?_;refine b6 20 49 aI.out ?_;refine dv 21 50 aI.out cz.out hHeld (hr:=by rintro w' ⟨s0,s1,s2,s3,s4,s5,s6,s7,s8,s9,s10,s11,s12,s13,JY⟩;go_simp;with_reducible rfl) (h:= ?_);refine b6 22 51 aI.out ?_;refine dv 25 54 aI.out cz.out hHeld (hr:=by rintro w' ⟨s0,s1,s2,s3,s4,s5,s6,s7,s8,s9,s10,s11,s12,s13,JY⟩;go_simp;with_reducible rfl) (h:= ?_);refine b6 26 55 aI.out ?_;refine b6 27 56 aI.out ?_;refine b6 28 57 aI.out ?_;refine b6 29 58 aI.out ?_;refine dv 30 59 aI.out cz.out hHeld (hr:=by rintro w' ⟨s0,s1,s2,s3,s4,s5,s6,s7,s8,s9,s10,s11,s12,s13,JY⟩;go_simp;with_reducible rfl) (h:= ?_);refine fv (i:=31) (N:=some 60) #[true,true,true,true,true,true,true,true,true,true,true,true,true,true,true,true,true,true,true,true,true,true,true,true,true,true,true,true,true,true,true,true,false,false] rfl rfl (gJ aI.out (by kernel_rfl)) (by decide) (fun K hK=> ?_);refine gZ Try.func40 (by kernel_rfl) rfl #[.int .i64 ((U l1 aX).f3),.int .i64 (wrap64 (((U b5 (cD)).f3)+1)),.int .i64 ((U b5 (cD)).f2.f1)] (by rfl) rfl rfl (by(try simp only[List.map_toArray,List.map_cons,List.map_nil]);first|done|(simp only[Im];rfl)|rfl|(simp only[List.length_drop,List.length_take];rfl)) ?_;have H:=H_.out;clear H_
     by_cases c31:P6=true
     rotate_left
     ·
      replace c31:=PT.mpr c31;subst c31;rw[if_neg dr]at H;simp only[Jh,Ue]at H;obtain⟨rfl,rfl⟩:=H
      with_reducible refine(jH.calls ((U l1 aX).f3) (Gj (((U b5 (cD)).f3)+1)) ((U b5 (cD)).f2.f1) false _ dj.out).mono ?_
      rintro e w' ⟨rfl,⟨nd,rfl⟩⟩;refine⟨_,rfl, ?_⟩;refine hK.out _ _ ⟨(aE bV.out 0).trans rfl,(aE bV.out 1).trans rfl,(aE bV.out 2).trans rfl,(aE bV.out 3).trans rfl,(aE bV.out 4).trans rfl,hHeld.2.2.2.2.2.1,hHeld.2.2.2.2.2.2.1,hHeld.2.2.2.2.2.2.2.1,hHeld.2.2.2.2.2.2.2.2.1,hHeld.2.2.2.2.2.2.2.2.2.1,hHeld.2.2.2.2.2.2.2.2.2.2.1,hHeld.2.2.2.2.2.2.2.2.2.2.2.1,hHeld.2.2.2.2.2.2.2.2.2.2.2.2.1,hHeld.2.2.2.2.2.2.2.2.2.2.2.2.2.1,hHeld.2.2.2.2.2.2.2.2.2.2.2.2.2.2⟩ (fun hHeld=> ?_);clear hK K;refine nq 60 ?_;refine b6 32 61 aI.out ?_;refine b6 33 62 aI.out ?_;refine jn (kO aI.out (by kernel_rfl)) ?_
      try go_wp2
      go_ret2
      exact⟨_,by first|rfl|(simp[mC,mD]<;>rfl)|(simp only[←Im];first|rfl|(simp[mC,mD]<;>rfl))|(simp[*,mC,mD]<;>rfl),by first|exact Kd.be _ _ _ _ _|exact Kd.ce _ _ _ _ _|exact Kd.cf _ _ _ _ _|exact Kd.cZ _ _ _ _ _|exact Kd.ca _ _ _ _ _,am HB dm iY⟩
     subst c31;rw[if_pos rfl]at H;obtain⟨a1m,NH⟩:∃y_:List (aJ),y_=(b5.set ((cD):Int).toNat (⟨(U b5 (cD)).f0,(U b5 (cD)).f1,(⟨(U b5 (cD)).f2.f0,(U b5 (cD)).f2.f1⟩:Y),(U l1 aX).f3⟩:aJ)):=⟨_,rfl⟩
     replace H:(d9.l0 k2 a1m l1 (l1.length:Int) (Gj (aX+1)) aA X aC)=some (r1,r2):=by first|(rw[NH];with_reducible exact H)|(have aq:=(Gm _ _).symm.trans H;rw[NH];with_reducible exact aq)|(have aq:=(Gm _ _).symm.trans H;with_reducible exact aq)|with_reducible exact H|(rw[NH];exact H)|exact H
     have Ny489:=Ah NH;clear NH;have H':=Ah H;clear H
     with_reducible refine(jH.calls ((U l1 aX).f3) (Gj (((U b5 (cD)).f3)+1)) ((U b5 (cD)).f2.f1) true _ dj.out).mono ?_
     rintro e w' ⟨rfl,⟨nd,rfl⟩⟩;refine⟨_,rfl, ?_⟩;refine hK.out _ _ ⟨(aE bV.out 0).trans rfl,(aE bV.out 1).trans rfl,(aE bV.out 2).trans rfl,(aE bV.out 3).trans rfl,(aE bV.out 4).trans rfl,hHeld.2.2.2.2.2.1,hHeld.2.2.2.2.2.2.1,hHeld.2.2.2.2.2.2.2.1,hHeld.2.2.2.2.2.2.2.2.1,hHeld.2.2.2.2.2.2.2.2.2.1,hHeld.2.2.2.2.2.2.2.2.2.2.1,hHeld.2.2.2.2.2.2.2.2.2.2.2.1,hHeld.2.2.2.2.2.2.2.2.2.2.2.2.1,hHeld.2.2.2.2.2.2.2.2.2.2.2.2.2.1,hHeld.2.2.2.2.2.2.2.2.2.2.2.2.2.2⟩ (fun hHeld=> ?_);clear hK K;refine nq 60 ?_;refine b6 32 61 aI.out ?_;refine b6 33 62 aI.out ?_;refine jn (kO aI.out (by kernel_rfl)) ?_;obtain⟨X1,hcz39_1,hcz39_2,hcz39_3,hcz39_4⟩:=aj bV;obtain⟨X2,hfz39_1,hfz39_2,hfz39_3,hfz39_4⟩:=ai bV;have p32:0≤((cD):Int):=od;have q32:((cD):Int)<((b5.length:Int):Int):=od;obtain⟨re,co32,U7,gb32,gl32,cl32,HG32⟩:=Kd.wM bF.out (by omega);(first|cases U7|(injection U7 with eH nN nO;(first|subst eH|(injection eH with eH;subst eH));subst nO;clear nN));have GB32:=Ah gb32;have GG32:=Ah HG32;clear gb32 gl32 HG32;(first|simp only[jI]at XW|skip);(first|simp only[jI]at XX|skip);(first|simp only[jI]at XY|skip);(first|simp only[jI]at XZ|skip);(first|simp only[jI]at Xa|skip);(first|simp only[jI]at Xb|skip);(first|simp only[jI]at Xc|skip);(first|simp only[jI]at Xd|skip);(first|simp only[jI]at Xe|skip);(first|simp only[jI]at Xf|skip);obtain⟨ce32,hcl32,hM32,In,Io⟩:=Kd.gt bF.out z66 ((cD):Int) p32 q32;obtain rfl:=tJ hM32;have hx32_0:mc.cell? ⟨re,((cD):Int).toNat*5,none⟩=some (.int .i64 ((U b5 (cD)).f0)):=In 0 _ rfl;have hx32_1:mc.cell? ⟨re,((cD):Int).toNat*5+1,none⟩=some (.int .i64 ((U b5 (cD)).f1)):=In 1 _ rfl;have hx32_2:mc.cell? ⟨re,((cD):Int).toNat*5+2,none⟩=some (.int .i64 ((U b5 (cD)).f2.f0)):=In 2 _ rfl;have hx32_3:mc.cell? ⟨re,((cD):Int).toNat*5+3,none⟩=some (.int .i64 ((U b5 (cD)).f2.f1)):=In 3 _ rfl;have hx32_4:mc.cell? ⟨re,((cD):Int).toNat*5+4,none⟩=some (.int .i64 ((U b5 (cD)).f3)):=In 4 _ rfl;have hf32_0:mc.frozen? ⟨re,((cD):Int).toNat*5,none⟩=false:=Io 0;have hf32_1:mc.frozen? ⟨re,((cD):Int).toNat*5+1,none⟩=false:=Io 1;have hf32_2:mc.frozen? ⟨re,((cD):Int).toNat*5+2,none⟩=false:=Io 2;have hf32_3:mc.frozen? ⟨re,((cD):Int).toNat*5+3,none⟩=false:=Io 3;have hf32_4:mc.frozen? ⟨re,((cD):Int).toNat*5+4,none⟩=false:=Io 4;clear hcl32 In Io hM32;replace p32:=eq_true p32;replace q32:=eq_true q32;have P8:=Ah (show Kd.R b8 66 mc w.heap.size (fun k_=>k_≠bB) (.slice (some ⟨re,0,none⟩) b5.length lW) b5 from(rr bF.out));obtain⟨ce40,NI,P9,F7,NJ⟩:=Kd.gt P8.out z66 ((cD):Int) (od) (by have h_:((cD):Int)<((b5.length:Int):Int):=od;first|exact h_|(have e_:=(Kd.aY bF.out).1;omega)|simpa using h_);obtain rfl:=tJ P9;have UF:=Kd.nD P8.out ((cD):Int) (od) (by have h_:((cD):Int)<((b5.length:Int):Int):=od;first|exact h_|(have e_:=(Kd.aY bF.out).1;omega)|simpa using h_) (seg:=[.int .i64 ((U l1 aX).f3)]) (j:=4) NI F7 (show 5≤5 from by decide) (x':=(⟨(U b5 (cD)).f0,(U b5 (cD)).f1,(⟨(U b5 (cD)).f2.f0,(U b5 (cD)).f2.f1⟩:Y),(U l1 aX).f3⟩:aJ)) (nB _ _ _ (⟨(U b5 (cD)).f0,(U b5 (cD)).f1,(⟨(U b5 (cD)).f2.f0,(U b5 (cD)).f2.f1⟩:Y),(U l1 aX).f3⟩:aJ)) (fun _ hk=>hk);have Y0:=F7 4 _ rfl;(try simp only[show(b8).sz=5 from rfl,fl,dH]at Y0);have Y1:=NJ 4;(try simp only[show(b8).sz=5 from rfl,fl,dH]at Y1);clear NI F7 NJ P9
     try go_wp2_with (first|((with_reducible refine n8 (t:=3) (p:=70) rfl ?_);(try(rw[Gp mc];generalize kX:World.drewN mc _=mc;replace bF:=Ah (Kd.Tj kX bF.out);replace bO:=Ah (LV kX bO.out);replace bV:=Ah (LV kX bV.out);replace HB:=Ah (Qn kX HB.out);clear kX;(try(have P8:=Ah (show Kd.R b8 66 mc w.heap.size (fun k_=>k_≠bB) (.slice (some ⟨re,0,none⟩) b5.length lW) b5 from(rr bF.out))));(try(obtain⟨ce40,NI,P9,F7,NJ⟩:=Kd.gt P8.out z66 ((cD):Int) (od) (by have h_:((cD):Int)<((b5.length:Int):Int):=od;first|exact h_|(have e_:=(Kd.aY bF.out).1;omega)|simpa using h_)));(try(obtain rfl:=tJ P9));(try(have UF:=Kd.nD P8.out ((cD):Int) (od) (by have h_:((cD):Int)<((b5.length:Int):Int):=od;first|exact h_|(have e_:=(Kd.aY bF.out).1;omega)|simpa using h_) (seg:=[.int .i64 ((U l1 aX).f3)]) (j:=4) NI F7 (show 5≤5 from by decide) (x':=(⟨(U b5 (cD)).f0,(U b5 (cD)).f1,(⟨(U b5 (cD)).f2.f0,(U b5 (cD)).f2.f1⟩:Y),(U l1 aX).f3⟩:aJ)) (nB _ _ _ (⟨(U b5 (cD)).f0,(U b5 (cD)).f1,(⟨(U b5 (cD)).f2.f0,(U b5 (cD)).f2.f1⟩:Y),(U l1 aX).f3⟩:aJ)) (fun _ hk=>hk)));(try(have Y0:=F7 4 _ rfl));(try(try simp only[show(b8).sz=5 from rfl,fl,dH]at Y0));(try(have Y1:=NJ 4));(try(try simp only[show(b8).sz=5 from rfl,fl,dH]at Y1));(try(clear NI F7 NJ P9))));refine n7 (t:=3) (p:=70) (v:= ?vo_w41) (w1:=(mc.setCell ⟨re,((cD):Int).toNat*5+4,none⟩ (.int .i64 ((U l1 aX).f3)))) ?hg ?ho ?hn ?hr ?_;(case ho=>rfl);(case hg=>rfl);(case hn=>rfl);(case hr=>first|(go_simp;done)|(go_simp;rfl));intro Pv hw;have hg:mc.grownBy Pv (some re):=(by rw[hw];exact UF.2);have eB:Kd.R b8 66 Pv w.heap.size (fun k_=>k_≠bB) (.slice (some ⟨re,0,none⟩) b5.length lW) a1m:=(by rw[hw,Ny489.out];exact UF.1);clear UF;replace bO:=Ah (dJ (bk bO) hg (Kd.dX bF.out bO.out (by decide)));replace bV:=Ah (dJ (bk bV) hg (Kd.jL bF.out (fun _ hk=>hk)));replace bF:=Ah (eB);replace HB:=Ah ((by rw[hw];exact fJ (HB.out) GB32.out:Below w.heap.size w Pv));clear hg hw eB))
     go_roundg k2
     case measure=>have:=HJ2.out;have:=eE.out;omega
     case rel=>exact⟨(a1m),(Gj (aX+1)),e3,H',⟨by have:=HJ2.out;have:=eE.out;omega⟩,rm bF (fun _ hk=>trivial),⟨bk bO⟩,⟨am HB dm iY⟩⟩
def pj.f(k:Nat)(aA:Int)(X:List (Y))(aC:List (Y))(aV:Int)(aU:List (aJ)):Option ((List (aJ))×Bool):=(d9.f k aA X aC aU).bind fun F8=>(if F8.2=true then(if aV=(Gj ((F8.1.length:Int)+1))then(some (F8.1,true))else(some (([]:List (aJ)),false)))else(some (([]:List (aJ)),false)))
theorem pj.mono:∀a0 a1 a2 a3 a4 k,aG (pj.f k a0 a1 a2 a3 a4) (pj.f (k+1) a0 a1 a2 a3 a4):=by
 intro a0 a1 a2 a3 a4 k;unfold pj.f
 repeat' with_reducible first|exact d9.mono _ _ _ _ _|exact aG.refl _|exact aG.none _|refine aG.ite ?_ ?_|refine aG.bind ?_ (fun _=> ?_)
theorem pj.calls(k:Nat)(aA:Int)(af:Option Addr)(aa:Nat)(X:List (Y))(ab:Option Addr)(ac:Nat)(aC:List (Y))(aV:Int)(bG:Option Addr)(bH:Nat)(aU:List (aJ))(r1:List (aJ))(r2:Bool)(w:World)(dO:Kd.C aT w af X.length X)(dP:X.length≤aa)(dQ:Kd.C aT w ab aC.length aC)(dR:aC.length≤ac)(gu:Kd.C b8 w bG aU.length aU)(gy:aU.length≤bH)(h:pj.f k aA X aC aV aU=some (r1,r2)):
 Calls Uf 43 #[.agg #[.int .i64 aA,.slice af X.length aa,.slice ab aC.length ac,.int .i64 aV,.slice bG aU.length bH]] w fun e w'=>∃lI:Value,e= .returned (.tuple #[lI,.bool r2])∧Kd.R b8 66 w' w.heap.size (fun _=>True) lI r1∧Below w.heap.size w w':=by
 have sn:=cp;have mL:=ig;have bo:=Ah dO;have cU:=Ah dP;clear dO dP;have cn:=Ah dQ;have co:=Ah dR;clear dQ dR;have fF:=Ah gu;have fL:=Ah gy;clear gu gy;have HB:=Ah (Ud w.heap.size w);have H:((d9.f k aA X aC aU).bind fun F8=>(if F8.2=true then(if aV=(Gj ((F8.1.length:Int)+1))then(some (F8.1,true))else(some (([]:List (aJ)),false)))else(some (([]:List (aJ)),false))))=some (r1,r2):=h;clear h;replace H:=Gl.mp H;obtain⟨⟨UG,t500⟩,lq,H⟩:=H
 try dsimp only at H
 have A2:=Ah lq;clear lq
 by_cases c3:t500=true
 rotate_left
 ·
  replace c3:=PT.mpr c3;subst c3;rw[if_neg dr]at H;simp only[Jh,Ue]at H;obtain⟨rfl,rfl⟩:=H
  go_enter Try.func43,Try.ntmps43
  go_wp2_with (first|((with_reducible refine ag (N:=1) rfl ?_);(try(refine ev (by rfl) ?_;dsimp only));refine an 1 29 #[.int .i64 aA,.slice af X.length aa,.slice ab aC.length ac,.int .i64 aV,.slice bG aU.length bH] ?_;intro gb496 hg yp pV hb;have GW496:=gw hg (bs HB);have wi:=gw hg (bs HB);replace HB:=Ah (aH (bs HB) hb);clear hb hg;obtain⟨ug,uh,vz,E8,E9⟩:=aj pV;obtain⟨uj,uk,wC,EE,EF⟩:=ai pV)|((with_reducible refine bY (f:=44) rfl ?_);refine gL (some 11) rfl rfl Try.func44 (by kernel_rfl) rfl #[.agg #[.int .i64 aA,.slice af X.length aa,.slice ab aC.length ac],.slice bG aU.length bH] rfl ?_;(with_reducible refine(d9.calls k aA _ _ X _ _ aC _ _ aU UG false _ ?aZ ?ae ?ay ?bI ?cq ?d7 A2.out).mono ?_);(case aZ=>exact cb bo HB);(case ae=>exact cU.out);(case ay=>exact cb cn HB);(case bI=>exact co.out);(case cq=>exact cb fF HB);(case d7=>exact fL.out);rintro e de ⟨v498,rfl,ho0,hb⟩;refine⟨_,rfl, ?_⟩;have NK:=Ah (Kd.bR ho0 (bE (aM HB wi)));replace pV:=nb pV hb;replace HB:=Ah (aH (aM HB wi) hb);(try clear hb ho0)))
  go_ret2
  exact⟨_,er,by first|exact Kd.be _ _ _ _ _|exact Kd.ce _ _ _ _ _|exact Kd.cf _ _ _ _ _|exact Kd.cZ _ _ _ _ _|exact Kd.ca _ _ _ _ _,aM HB wi⟩
 subst c3;rw[if_pos rfl]at H
 by_cases c4:aV=(Gj ((UG.length:Int)+1))
 ·
  rw[if_pos c4]at H;have fB:=fU c4;have Oq:=fV c4;clear c4;simp only[Jh,Ue]at H;obtain⟨rfl,rfl⟩:=H
  go_enter Try.func43,Try.ntmps43
  go_wp2_with (first|((with_reducible refine ag (N:=1) rfl ?_);(try(refine ev (by rfl) ?_;dsimp only));refine an 1 29 #[.int .i64 aA,.slice af X.length aa,.slice ab aC.length ac,.int .i64 aV,.slice bG aU.length bH] ?_;intro gb496 hg w5 pV hb;have GW496:=gw hg (bs HB);have wi:=gw hg (bs HB);replace HB:=Ah (aH (bs HB) hb);clear hb hg;obtain⟨AG,AH,Ea,Xw,Xx⟩:=aj pV;obtain⟨AI,AJ,Eb,Xy,Xz⟩:=ai pV)|((with_reducible refine bY (f:=44) rfl ?_);refine gL (some 11) rfl rfl Try.func44 (by kernel_rfl) rfl #[.agg #[.int .i64 aA,.slice af X.length aa,.slice ab aC.length ac],.slice bG aU.length bH] rfl ?_;(with_reducible refine(d9.calls k aA _ _ X _ _ aC _ _ aU UG true _ ?aZ ?ae ?ay ?bI ?cq ?d7 A2.out).mono ?_);(case aZ=>exact cb bo HB);(case ae=>exact cU.out);(case ay=>exact cb cn HB);(case bI=>exact co.out);(case cq=>exact cb fF HB);(case d7=>exact fL.out);rintro e w7 ⟨v498,rfl,ho0,hb⟩;refine⟨_,rfl, ?_⟩;have NK:=Ah (Kd.bR ho0 (bE (aM HB wi)));replace pV:=nb pV hb;replace HB:=Ah (aH (aM HB wi) hb);(try clear hb ho0);obtain⟨r9,rA,CV,ST,SU⟩:=aj pV;obtain⟨rB,rC,CW,SV,SW⟩:=ai pV;obtain⟨Q8,Q9,JZ⟩:=Kd.az NK.out;subst JZ))
  go_ret2
  exact⟨_,er,by(with_reducible repeat(first|apply Kd.bd|apply Kd.bZ|apply Kd.bQ));exact NK.out,aM HB wi⟩
 rw[if_neg c4]at H;have fB:=fS c4;have Oq:=fT c4;simp only[Jh,Ue]at H;obtain⟨rfl,rfl⟩:=H
 go_enter Try.func43,Try.ntmps43
 go_wp2_with (first|((with_reducible refine ag (N:=1) rfl ?_);(try(refine ev (by rfl) ?_;dsimp only));refine an 1 29 #[.int .i64 aA,.slice af X.length aa,.slice ab aC.length ac,.int .i64 aV,.slice bG aU.length bH] ?_;intro gb496 hg lp pV hb;have GW496:=gw hg (bs HB);have wi:=gw hg (bs HB);replace HB:=Ah (aH (bs HB) hb);clear hb hg;obtain⟨oO,oP,qx,sK,sL⟩:=aj pV;obtain⟨oQ,oR,qy,sM,sN⟩:=ai pV)|((with_reducible refine bY (f:=44) rfl ?_);refine gL (some 11) rfl rfl Try.func44 (by kernel_rfl) rfl #[.agg #[.int .i64 aA,.slice af X.length aa,.slice ab aC.length ac],.slice bG aU.length bH] rfl ?_;(with_reducible refine(d9.calls k aA _ _ X _ _ aC _ _ aU UG true _ ?aZ ?ae ?ay ?bI ?cq ?d7 A2.out).mono ?_);(case aZ=>exact cb bo HB);(case ae=>exact cU.out);(case ay=>exact cb cn HB);(case bI=>exact co.out);(case cq=>exact cb fF HB);(case d7=>exact fL.out);rintro e ef ⟨v498,rfl,ho0,hb⟩;refine⟨_,rfl, ?_⟩;have NK:=Ah (Kd.bR ho0 (bE (aM HB wi)));replace pV:=nb pV hb;replace HB:=Ah (aH (aM HB wi) hb);(try clear hb ho0);obtain⟨oK,oL,qz,sS,sT⟩:=aj pV;obtain⟨oM,oN,r8,sU,sV⟩:=ai pV;obtain⟨a0S,vN,Fn⟩:=Kd.az NK.out;subst Fn))
 go_ret2
 exact⟨_,er,by first|exact Kd.be _ _ _ _ _|exact Kd.ce _ _ _ _ _|exact Kd.cf _ _ _ _ _|exact Kd.cZ _ _ _ _ _|exact Kd.ca _ _ _ _ _,aM HB wi⟩
def gH.f(k:Nat)(aA:Int)(X:List (Y))(aC:List (Y))(aV:Int)(aU:List (aJ)):Option (Bool):=(pj.f k aA X aC aV aU).bind fun ZJ=>(some ZJ.2)
theorem gH.mono:∀a0 a1 a2 a3 a4 k,aG (gH.f k a0 a1 a2 a3 a4) (gH.f (k+1) a0 a1 a2 a3 a4):=by
 intro a0 a1 a2 a3 a4 k;unfold gH.f
 repeat' with_reducible first|exact pj.mono _ _ _ _ _ _|exact aG.refl _|exact aG.none _|refine aG.ite ?_ ?_|refine aG.bind ?_ (fun _=> ?_)
theorem gH.calls(k:Nat)(aA:Int)(af:Option Addr)(aa:Nat)(X:List (Y))(ab:Option Addr)(ac:Nat)(aC:List (Y))(aV:Int)(bG:Option Addr)(bH:Nat)(aU:List (aJ))(r:Bool)(w:World)(dO:Kd.C aT w af X.length X)(dP:X.length≤aa)(dQ:Kd.C aT w ab aC.length aC)(dR:aC.length≤ac)(gu:Kd.C b8 w bG aU.length aU)(gy:aU.length≤bH)(h:gH.f k aA X aC aV aU=some r):
 Calls Uf 45 #[.agg #[.int .i64 aA,.slice af X.length aa,.slice ab aC.length ac,.int .i64 aV,.slice bG aU.length bH]] w fun e w'=>e= .returned (.bool r)∧Below w.heap.size w w':=by
 have sn:=cp;have bo:=Ah dO;have cU:=Ah dP;clear dO dP;have cn:=Ah dQ;have co:=Ah dR;clear dQ dR;have fF:=Ah gu;have fL:=Ah gy;clear gu gy;have HB:=Ah (Ud w.heap.size w);have H:((pj.f k aA X aC aV aU).bind fun ZJ=>(some ZJ.2))=some r:=h;clear h;replace H:=Gl.mp H;obtain⟨⟨t502,t505⟩,lq,H⟩:=H
 try dsimp only at H
 have A2:=Ah lq;clear lq;obtain rfl:=Gn H
 go_enter Try.func45,Try.ntmps45
 go_wp2_with (first|((with_reducible refine ag (N:=1) rfl ?_);refine an 1 29 #[.int .i64 aA,.slice af X.length aa,.slice ab aC.length ac,.int .i64 aV,.slice bG aU.length bH] ?_;intro gb501 hg w3 Ta hb;have GW501:=gw hg (bs HB);have ZK:=gw hg (bs HB);replace HB:=Ah (aH (bs HB) hb);clear hb hg;obtain⟨hcz4_0,hcz4_1,hcz4_2,hcz4_3,hcz4_4⟩:=aj Ta;obtain⟨hfz4_0,hfz4_1,hfz4_2,hfz4_3,hfz4_4⟩:=ai Ta)|((with_reducible refine bY (f:=43) rfl ?_);refine gL (some 7) rfl rfl Try.func43 (by kernel_rfl) rfl #[.agg #[.int .i64 aA,.slice af X.length aa,.slice ab aC.length ac,.int .i64 aV,.slice bG aU.length bH]] rfl ?_;(with_reducible refine(pj.calls k aA _ _ X _ _ aC aV _ _ aU t502 t505 _ ?aZ ?ae ?ay ?bI ?cq ?d7 A2.out).mono ?_);(case aZ=>exact cb bo HB);(case ae=>exact cU.out);(case ay=>exact cb cn HB);(case bI=>exact co.out);(case cq=>exact cb fF HB);(case d7=>exact fL.out);rintro e w5 ⟨v503,rfl,ho0,hb⟩;refine⟨_,rfl, ?_⟩;have HO504:=Ah (Kd.bR ho0 (bE (aM HB ZK)));replace Ta:=nb Ta hb;replace HB:=Ah (aH (aM HB ZK) hb);(try clear hb ho0)))
 go_ret
 exact⟨er,aM HB ZK⟩
def kZ.f(aA:Int)(X:List (Y))(aC:List (Y)):Option (Int×(List (Y))×(List (Y))):=(mq.f X).bind fun DF=>((mq.f aC).bind fun DG=>(some (aA,DF,DG)))
def kZ.T1:Bool×List (List Nat×List Nat):=(true,[([],[]),([0],[0]),([],[]),([2],[2]),([3],[3]),([],[]),([5],[5]),([6,4],[6]),([1,4,7],[1,4,7]),([8,7,0,1,2,3,4,5,6,7,8],[8])])
def kZ.B1:List Nat:=[0,1,0,4,12,0,32,124,255,511]
theorem kZ.D2:i5 .any (uw Try.f46 1)=kZ.T1:=by kernel_rfl
theorem kZ.Ck:pm kZ.T1.2 kZ.B1=true:=by kernel_rfl
theorem kZ.calls(aA:Int)(af:Option Addr)(aa:Nat)(X:List (Y))(ab:Option Addr)(ac:Nat)(aC:List (Y))(r1:Int)(r2:List (Y))(r3:List (Y))(w:World)(dO:Kd.C aT w af X.length X)(dP:X.length≤aa)(dQ:Kd.C aT w ab aC.length aC)(dR:aC.length≤ac)(h:kZ.f aA X aC=some (r1,r2,r3)):
 Calls Try.prog 46 #[.agg #[.int .i64 aA,.slice af X.length aa,.slice ab aC.length ac]] w fun e w'=>∃df da:Value,e= .returned (.agg #[.int .i64 r1,df,da])∧Kd.R aT 45 w' w.heap.size (fun k_=>some k_≠(da:Value).ownBlock) df r2∧Kd.R aT 45 w' w.heap.size (fun k_=>some k_≠(df:Value).ownBlock) da r3∧Below w.heap.size w w':=by
 have mL:=ig;have bo:=Ah dO;have cU:=Ah dP;clear dO dP;have cn:=Ah dQ;have co:=Ah dR;clear dQ dR;have HB:=Ah (Ud w.heap.size w);have H:((mq.f X).bind fun DF=>((mq.f aC).bind fun DG=>(some (aA,DF,DG))))=some (r1,r2,r3):=h;clear h;replace H:=Gl.mp H;obtain⟨DF,lq,H⟩:=H
 try dsimp only at H
 have A2:=Ah lq;clear lq;replace H:=Gl.mp H;obtain⟨DG,dj,H⟩:=H
 try dsimp only at H
 have A3:=Ah dj;clear dj;simp only[Jh,Ue]at H;obtain⟨rfl,rfl,rfl⟩:=H
 go_enter Try.func46,Try.ntmps46
 try go_wp2_with (first|((with_reducible refine ag (N:=1) rfl ?_);refine an 1 26 #[.int .i64 aA,.slice af X.length aa,.slice ab aC.length ac] ?_;intro ZL hg w4 nz hb;have GW506:=gw hg (bs HB);have Cp:=gw hg (bs HB);replace HB:=Ah (aH (bs HB) hb);clear hb hg)|((with_reducible refine ag (N:=2) rfl ?_);refine an 2 26 #[.int .i64 0,.slice none 0 0,.slice none 0 0] ?_;intro oh hg w5 qf hb;have GW507:=gw hg (aM HB Cp);have NL:=gw hg (aM HB Cp);replace HB:=Ah (aH (aM HB Cp) hb);have uZ:=nn nz hg;have VS:=nm nz hg;replace nz:=nb nz hb;clear hb hg))
 replace nz:=Ah (cY nz.out);replace qf:=Ah (cY qf.out);replace HB:=Ah (j7 HB.out);refine mt (n:=10) (S:=fun w'=>w'.cell? ⟨ZL,0,none⟩=some (.int .i64 aA)∧w'.cell? ⟨ZL,1,none⟩=some (.slice af X.length aa)∧w'.cell? ⟨ZL,2,none⟩=some (.slice ab aC.length ac)) (ds:=[]) #[false,false,false,false,false,false,false,false,false,false] (by kernel_rfl) rfl rfl ⟨(aE nz.out 0).trans rfl,(aE nz.out 1).trans rfl,(aE nz.out 2).trans rfl⟩ (fun hHeld=> ?_);refine na kZ.D2 kZ.Ck (fun aI cz=> ?_)
 generalize w5.drew=w6 at nz qf HB hHeld⊢
 refine b6 0 3 aI.out ?_;refine b6 2 5 aI.out ?_;refine b6 5 8 aI.out ?_;refine dv 1 4 aI.out cz.out hHeld (hr:=by rintro w' ⟨s0,s1,s2⟩;go_simp;with_reducible rfl) (h:= ?_);refine dv 3 6 aI.out cz.out hHeld (hr:=by rintro w' ⟨s0,s1,s2⟩;go_simp;with_reducible rfl) (h:= ?_);refine dv 6 9 aI.out cz.out hHeld (hr:=by rintro w' ⟨s0,s1,s2⟩;go_simp;with_reducible rfl) (h:= ?_);refine fv (i:=4) (N:=some 7) #[true,true,true,true,true,true,true,false,false,false] rfl rfl (gJ aI.out (by kernel_rfl)) (by decide) (fun K hK=> ?_);refine gZ Try.func57 (by kernel_rfl) rfl #[.slice af X.length aa] (by rfl) rfl rfl (by(try simp only[List.map_toArray,List.map_cons,List.map_nil]);first|done|rfl|(simp only[List.length_drop,List.length_take];rfl)) ?_
 with_reducible refine(mq.calls _ _ X DF _ ?aZ ?ae A2.out).mono ?_
 (case aZ=>exact cb bo HB);(case ae=>exact cU.out);rintro e w7 ⟨v509,rfl,ho0,hb⟩;refine⟨_,rfl, ?_⟩;have NM:=Ah (Kd.bR ho0 (bE (am HB Cp NL)));replace nz:=Ah (bb nz hb);replace qf:=Ah (bb qf hb);replace HB:=Ah (aH (am HB Cp NL) hb);(try clear hb);(try clear hb2);(try clear hk);(try clear hi);(try clear ho0);refine hK.out _ _ ⟨(aE nz.out 0).trans rfl,(aE nz.out 1).trans rfl,(aE nz.out 2).trans rfl⟩ (fun hHeld=> ?_);clear hK K;refine nq 7 ?_;refine fv (i:=7) (N:=some 10) #[true,true,true,true,true,true,true,true,false,false] rfl rfl (gJ aI.out (by kernel_rfl)) (by decide) (fun K hK=> ?_);refine gZ Try.func57 (by kernel_rfl) rfl #[.slice ab aC.length ac] (by rfl) rfl rfl (by(try simp only[dl,dV,lK]);first|done|rfl|(simp only[SI,Ja];rfl)) ?_
 with_reducible refine(mq.calls _ _ aC DG _ ?aZ ?ae A3.out).mono ?_
 (case aZ=>exact cb cn HB);(case ae=>exact co.out);rintro e w8 ⟨v512,rfl,ho0,hb⟩;refine⟨_,rfl, ?_⟩;have HO513:=Ah (Kd.bR (Kd.k9 ho0 (Kd.i4 (rr NM.out))) (bE (am HB Cp NL)));replace NM:=Ah (Kd.zN (rr NM.out) (Kd.jK ho0) hb);replace nz:=Ah (bb nz hb);replace qf:=Ah (bb qf hb);replace HB:=Ah (aH (am HB Cp NL) hb);(try clear hb);(try clear hb2);(try clear hk);(try clear hi);(try clear ho0);obtain⟨Q8,Q9,JZ⟩:=Kd.az HO513.out;(first|subst JZ|(injection JZ with cR dw cS;have dx:=cR.symm;have dy:=cS.symm;clear cR dw cS;subst dx;subst dy));obtain⟨qF,gP,qk⟩:=Kd.az NM.out;(first|subst qk|(injection qk with cR dw cS;have dx:=cR.symm;have dy:=cS.symm;clear cR dw cS;subst dx;subst dy));refine hK.out _ _ ⟨(aE nz.out 0).trans rfl,(aE nz.out 1).trans rfl,(aE nz.out 2).trans rfl⟩ (fun hHeld=> ?_);clear hK K;refine nq 10 ?_;refine b6 8 11 aI.out ?_;refine fv (i:=9) (N:=none) #[true,true,true,true,true,true,true,true,true,true] rfl rfl (gJ aI.out (by kernel_rfl)) (by decide) (fun K hK=> ?_);have hs11:w8.cell? ⟨oh,0,none⟩=some (.int .i64 0):=(aE qf.out 0).trans rfl;have hfs11:=fE qf.out 0;have hns11_0:=uZ.out;have hms11_0:=VS.out;have hs12:w8.cell? ⟨oh,1,none⟩=some (.slice none 0 0):=(aE qf.out 1).trans rfl;have hfs12:=fE qf.out 1;have hns12_0:=uZ.out;have hms12_0:=VS.out;have hs13:w8.cell? ⟨oh,2,none⟩=some (.slice none 0 0):=(aE qf.out 2).trans rfl;have hfs13:=fE qf.out 2;have hns13_0:=uZ.out;have hms13_0:=VS.out;refine CY (w1:= ?_) (by rfl) rfl ?_ ?_;rotate_left
 ·
  go_simp
  rfl
 refine hK.out _ _ ⟨((aW (p:=⟨oh,_,none⟩) uZ.out _).trans (((aW (p:=⟨oh,_,none⟩) uZ.out _).trans (((aW (p:=⟨oh,_,none⟩) uZ.out _).trans (hHeld.1)))))),((aW (p:=⟨oh,_,none⟩) uZ.out _).trans (((aW (p:=⟨oh,_,none⟩) uZ.out _).trans (((aW (p:=⟨oh,_,none⟩) uZ.out _).trans (hHeld.2.1)))))),((aW (p:=⟨oh,_,none⟩) uZ.out _).trans (((aW (p:=⟨oh,_,none⟩) uZ.out _).trans (((aW (p:=⟨oh,_,none⟩) uZ.out _).trans (hHeld.2.2))))))⟩ (fun hHeld=> ?_);clear hK K;refine jn (kO aI.out (by kernel_rfl)) ?_
 try go_wp2
 refine bodyPost_ret (results_cell_row rfl _ _ oh 26 #[.int .i64 aA,.slice qF DF.length gP,.slice Q8 DG.length Q9] (0,0) _ rfl (pb qf) ig rfl (by kernel_rfl)) rfl ?_;exact⟨_,_,er,by(with_reducible repeat(first|apply Kd.bd|apply Kd.bZ|apply Kd.bQ));exact Kd.ax (Kd.aK (p:=⟨oh,2,none⟩) (Kd.aK (p:=⟨oh,1,none⟩) (Kd.aK (p:=⟨oh,0,none⟩) (Kd.dU NM.out qf.out (by decide)) (fun _ hk=>hk.2) (.int .i64 aA)) (fun _ hk=>hk.2) (.slice qF DF.length gP)) (fun _ hk=>hk.2) (.slice Q8 DG.length Q9)) (fun _ hk=>hk.1.2),by(with_reducible repeat(first|apply Kd.bd|apply Kd.bZ|apply Kd.bQ));exact Kd.ax (Kd.aK (p:=⟨oh,2,none⟩) (Kd.aK (p:=⟨oh,1,none⟩) (Kd.aK (p:=⟨oh,0,none⟩) (Kd.dU HO513.out qf.out (by decide)) (fun _ hk=>hk.2) (.int .i64 aA)) (fun _ hk=>hk.2) (.slice qF DF.length gP)) (fun _ hk=>hk.2) (.slice Q8 DG.length Q9)) (fun _ hk=>hk.1.2),am HB Cp NL⟩
def qt.f(l0:List (aJ)):Option (List (aJ)):=if l0.length*40≤140737488355328 then some l0 else none
set_option maxRecDepth 100000 in
theorem qt.calls(A0:Option Addr)(c0:Nat)(l0:List (aJ))(r:List (aJ))(w:World)(hr0:Kd.C b8 w A0 l0.length l0)(hc0:l0.length≤c0)(h:qt.f l0=some r):
 Calls Uf 60 #[.slice A0 l0.length c0] w fun e w'=>∃lI:Value,e= .returned (lI)∧Kd.R b8 66 w' w.heap.size (fun _=>True) lI r∧Below w.heap.size w w':=by
 have hus:=aax;have huu:∀w,Sem.run Uf (underlying 27) w= .ok (TypeDesc.slice 66) w:=run_underlying hus
 have hee:∀ (w:World) (a:Option Addr) (n c n' c':Nat),(binOp .eql 27 (.slice a n c) (.slice none n' c')).run Uf w= .ok (.bool a.isNone) w:=fun w a n c n' c'=>Lib.run_eql_slice_nil w _ _ a n c n' c' hus
 unfold qt.f at h
 by_cases hl:l0.length*40≤140737488355328
 ·rw[if_pos hl]at h
  obtain rfl:=Gn h;have hR:=Z.mk hr0;have hL:=Z.mk hl;clear hr0 h hl
  rcases A0 with _|ad
  ·have h0:l0=[]:=by
    rcases Nat.eq_zero_or_pos l0.length with h0|h0
    ·exact List.eq_nil_of_length_eq_zero h0
    ·obtain⟨ad,h,_⟩:=hR.out.2.2 h0
     cases h
   subst h0
   go_enter Try.func60,Try.ntmps60
   go_wp2
   go_ret
   exact⟨_,rfl,Kd.be _ _ _ _ _,Ud _ _⟩
  ·go_enter Try.func60,Try.ntmps60
   go_wp2_with (first
    |((with_reducible refine ag (N:=5) rfl ?_);refine Kd.yW b8 _ 66 ?hg (N:=5) ?hd (xs:=([]:List (aJ))) (inner:=[]) (ok:=fun _=>True) (okp:=fun _=>True) ?hr ?hp (fun _ hk=>hk) trivial (Ud _ _) (QQ _) (by simp) ?_;(case hd=>rfl);(case hg=>rfl);(case hr=>first|(go_simp;done)|(go_simp;rfl));(case hp=>exact(cA.none _ _));intro a0v w4 qN hb i9 hX;clear i9 hX;have fI:=Z.mk (Kd.bR qN (QQ _));have eU:=Z.mk hb;clear qN hb)
    |((with_reducible refine ik (b:= .append) (xs:= #[.tmp 5,.tmp 6]) rfl ?_);at_builtin;refine Kd.Br b8 (w0:=w) w.heap.size rfl (.tmp 5) (.tmp 6) 27 66 (.agg #[(.int .i64 0),(.int .i64 0),(.int .i64 0),(.int .i64 0),(.int .i64 0)]) 40 rfl hus sY rfl (by decide) (by omega) a0v ([]:List (aJ)) l0 _ _ _ (fun _=>True) (fun _=>False) rfl rfl ?aO ?aR (fun _ _ h=>h) (fun _ h=>h.elim) ?aF ?aB ?aS ?aL ?_;(case aR=>exact Kd.iV hR.out eU.out);(case aB=>exact eU.out);(case aF=>exact(fun _ _=>trivial));(case aO=>exact fI.out);(case aS=>exact eU.out.size);(case aL=>have:=hL.out;simp only[List.length_nil,Nat.zero_add];omega);intro v394 w6 ho hb hg hat;rw[List.nil_append]at ho;have m0_:=Z.mk ho;have m1_:=Z.mk hb;clear fI eU ho hb hg hat))
   go_ret
   exact⟨_,rfl,m0_.out,m1_.out⟩
 ·rw[if_neg hl]at h
  cases h
end Go.Proofs.Ytfeokehfhaimkaa.G
