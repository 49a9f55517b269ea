-- Printed by a program of this session (drive.py, by way of the kit's print). Not trusted: Lean checks it.
import Derived.Test.YtfdpdocbpcnkaaaG0
import Derived.Test.YtfdpdocbpcnkaaaG1
import Derived.Test.YtfdpdocbpcnkaaaG2
import Derived.Test.YtfdpdocbpcnkaaaG6
import Derived.Test.YtfdpdocbpcnkaaaG7
open Bool renaming eq_false_iff→dW,not_true→aaT,not_false→aaU
open ByteArray renaming empty→bA
open Go.Proofs.Try renaming prog→t5,underlying28→wd,underlying26→aae,func7→abB
open List renaming setIfInBounds_toArray→JM,set_cons_zero→jG,set_cons_succ→kt
open Nat renaming le_refl→mz
open Option renaming bind_eq_some_iff→He,bind_some→Ok
open Option.some renaming injEq→fc,inj→fl
open Prod.mk renaming injEq→oe
namespace Go.Proofs.Ytfdpdocbpcnkaaa.G
open Go.RowKit Go.Proofs.YtfdpdocbpcnkaaaW.PrintWords Go.Proofs.YtfdpdocbpcnkaaaW.PrintLast Go.Proofs.YtfdpdocbpcnkaaaW.PrintMore
attribute [local go_sem] tM tN tQ tR tA tB tO tP
set_option linter.unusedVariables false
set_option linter.unusedSimpArgs false
attribute [local go_sem high] NP
def n5.f(k:Nat)(X:List ByteArray)(J:List (S64))(aD:List ByteArray)(aI:Int):Option (List ByteArray×Bool):=(bo.f k X J aD aI).bind fun G6=>(if G6=true then((dk.f k aD (X.length:Int)).bind fun NQ=>((eQ.f k X J).bind fun z3=>((eQ.f k z3 NQ.1).bind fun G7=>(some (G7,true)))))else(some (([]:List ByteArray),false)))
theorem n5.mono:∀a0 a1 a2 a3 k,a8 (n5.f k a0 a1 a2 a3) (n5.f (k+1) a0 a1 a2 a3):=by
 intro a0 a1 a2 a3 k;unfold n5.f
 repeat' with_reducible first|exact bo.mono _ _ _ _ _|exact dk.mono _ _ _|exact eQ.mono _ _ _|exact a8.refl _|exact a8.none _|refine a8.ite ?_ ?_|refine a8.bind ?_ (fun _=> ?_)
set_option maxHeartbeats 8000000 in
set_option maxRecDepth 100000 in
theorem n5.calls(k:Nat)(ag:Option Addr)(ah:Nat)(X:List ByteArray)(ai:Option Addr)(af:Nat)(J:List (S64))(bP:Option Addr)(bQ:Nat)(aD:List ByteArray)(aI:Int)(r1:List ByteArray)(r2:Bool)(w:World)(dG:Kd.C Kd.string w ag X.length X)(dH:X.length≤ah)(dI:Kd.C bS w ai J.length J)(dJ:J.length≤af)(fp:Kd.C Kd.string w bP aD.length aD)(fq:aD.length≤bQ)(h:n5.f k X J aD aI=some (r1,r2)):
 Calls t5 8 #[.agg #[.slice ag X.length ah,.slice ai J.length af,.slice bP aD.length bQ,.int .i64 aI]] w fun e w'=>∃bh:Value,e= .returned (.tuple #[bh,.bool r2])∧Kd.R Kd.string 9 w' w.heap.size (fun _=>True) bh r1∧Below w.heap.size w w':=by
 have mE:=wd;have cN:=Ah dG;have cR:=Ah dH;clear dG dH;have cI:=Ah dI;have ca:=Ah dJ;clear dI dJ;have dr:=Ah fp;have eK:=Ah fq;clear fp fq;have HB:=Ah (Below.refl w.heap.size w);have H:((bo.f k X J aD aI).bind fun G6=>(if G6=true then((dk.f k aD (X.length:Int)).bind fun NQ=>((eQ.f k X J).bind fun z3=>((eQ.f k z3 NQ.1).bind fun G7=>(some (G7,true)))))else(some (([]:List ByteArray),false))))=some (r1,r2):=h;clear h;replace H:=He.mp H;obtain⟨G6,fR,H⟩:=H
 try dsimp only at H
 have A2:=Ah fR;clear fR
 by_cases c3:G6=true
 rotate_left
 ·
  replace c3:=dW.mpr c3;subst c3;rw[if_neg cg]at H;simp only[fc,oe]at H;obtain⟨rfl,rfl⟩:=H
  go_enter Try.func8,Try.ntmps8
  go_wp2_with (first|((with_reducible refine ao (N:=1) rfl ?_);refine az 1 28 #[.slice ag X.length ah,.slice ai J.length af,.slice bP aD.length bQ,.int .i64 aI] ?_;intro a3o hg uZ lK hb;have a3p:=gw hg (bs HB);have r9:=gw hg (bs HB);replace HB:=Ah (aJ (bs HB) hb);clear hb hg;obtain⟨B0,B2,IX,IY⟩:=b0 lK;obtain⟨B9,BA,IZ,Ia⟩:=b5 lK)|((with_reducible refine ap (f:=20) rfl ?_);refine gL (some 7) rfl rfl Try.func20 (by kernel_rfl) rfl #[.agg #[.slice ag X.length ah,.slice ai J.length af,.slice bP aD.length bQ,.int .i64 aI]] rfl ?_;(with_reducible refine(bo.calls k _ _ X _ _ J _ _ aD aI false _ ?aE ?aG ?aZ ?ab ?bT ?bc A2.out).mono ?_);(case aE=>exact cb cN HB);(case aG=>exact cR.out);(case aZ=>exact cb cI HB);(case ab=>exact ca.out);(case bT=>exact cb dr HB);(case bc=>exact eK.out);rintro e kR ⟨rfl,hb⟩;refine⟨_,rfl, ?_⟩;replace lK:=nb lK hb;replace HB:=Ah (aJ (aM HB r9) hb);(try clear hb)))
  go_ret2
  exact⟨_,er,by first|exact Kd.cQ _ _ _ _ _|exact Kd.cY _ _ _ _ _|exact Kd.cZ _ _ _ _ _|exact Kd.cW _ _ _ _ _|exact Kd.cX _ _ _ _ _,aM HB r9⟩
 subst c3;rw[if_pos rfl]at H;replace H:=He.mp H;obtain⟨⟨P0,a61⟩,ey,H⟩:=H
 try dsimp only at H
 have A4:=Ah ey;clear ey;replace H:=He.mp H;obtain⟨z3,lC,H⟩:=H
 try dsimp only at H
 have A5:=Ah lC;clear lC;replace H:=He.mp H;obtain⟨G7,e9,H⟩:=H
 try dsimp only at H
 have A6:=Ah e9;clear e9;simp only[fc,oe]at H;obtain⟨rfl,rfl⟩:=H
 go_enter Try.func8,Try.ntmps8
 go_wp2_with (first|((with_reducible refine ao (N:=1) rfl ?_);refine az 1 28 #[.slice ag X.length ah,.slice ai J.length af,.slice bP aD.length bQ,.int .i64 aI] ?_;intro a3o hg w7 lK hb;have a3p:=gw hg (bs HB);have r9:=gw hg (bs HB);replace HB:=Ah (aJ (bs HB) hb);clear hb hg;obtain⟨qN,qO,JR,NF⟩:=b0 lK;obtain⟨r8,qP,JS,NG⟩:=b5 lK)|((with_reducible refine ap (f:=20) rfl ?_);refine gL (some 7) rfl rfl Try.func20 (by kernel_rfl) rfl #[.agg #[.slice ag X.length ah,.slice ai J.length af,.slice bP aD.length bQ,.int .i64 aI]] rfl ?_;(with_reducible refine(bo.calls k _ _ X _ _ J _ _ aD aI true _ ?aE ?aG ?aZ ?ab ?bT ?bc A2.out).mono ?_);(case aE=>exact cb cN HB);(case aG=>exact cR.out);(case aZ=>exact cb cI HB);(case ab=>exact ca.out);(case bT=>exact cb dr HB);(case bc=>exact eK.out);rintro e w9 ⟨rfl,hb⟩;refine⟨_,rfl, ?_⟩;replace lK:=nb lK hb;replace HB:=Ah (aJ (aM HB r9) hb);(try clear hb);obtain⟨BB,BC,MD,ME⟩:=b0 lK;obtain⟨BD,BE,MF,MG⟩:=b5 lK)|((with_reducible refine ap (f:=27) rfl ?_);refine gL (some 16) rfl rfl Try.func27 (by kernel_rfl) rfl #[.slice bP aD.length bQ,.int .i64 (X.length:Int)] rfl ?_;(with_reducible refine(dk.calls k _ _ aD (X.length:Int) P0 a61 _ ?aE ?aG A4.out).mono ?_);(case aE=>exact cb dr HB);(case aG=>exact eK.out);rintro e sy ⟨v725,rfl,ho0,hb⟩;refine⟨_,rfl, ?_⟩;have yF:=Ah (Kd.bD ho0 (bJ (aM HB r9)));replace lK:=nb lK hb;replace HB:=Ah (aJ (aM HB r9) hb);(try clear hb ho0);obtain⟨tS,tT,BF,BG⟩:=b0 lK;obtain⟨sQ,sR,xF,xG⟩:=b5 lK)|((with_reducible refine ap (f:=28) rfl ?_);refine gL (some 25) rfl rfl Try.func28 (by kernel_rfl) rfl #[.slice ag X.length ah,.slice ai J.length af] rfl ?_;(with_reducible refine(eQ.calls k _ _ X _ _ J z3 _ ?aE ?aG ?aZ ?ab A5.out).mono ?_);(case aE=>exact cb cN HB);(case aG=>exact cR.out);(case aZ=>exact cb cI HB);(case ab=>exact ca.out);rintro e ly ⟨v728,rfl,ho0,hb⟩;refine⟨_,rfl, ?_⟩;replace yF:=nr yF hb;have BY:=Ah (Kd.bD ho0 (bJ (aM HB r9)));replace lK:=nb lK hb;replace HB:=Ah (aJ (aM HB r9) hb);(try clear hb ho0);obtain⟨e7,dw,nW⟩:=Kd.al BY.out;subst nW;obtain⟨kI,jb,oK⟩:=Kd.al yF.out;subst oK)|((with_reducible refine ap (f:=28) rfl ?_);refine gL (some 27) rfl rfl Try.func28 (by kernel_rfl) rfl #[.slice e7 z3.length dw,.slice kI P0.length jb] rfl ?_;(with_reducible refine(eQ.calls k _ _ z3 _ _ P0 G7 _ ?aE ?aG ?aZ ?ab A6.out).mono ?_);(case aE=>exact bi BY);(case aG=>exact(Kd.b9 BY.out).2.1);(case aZ=>exact bi yF);(case ab=>exact(Kd.b9 yF.out).2.1);rintro e w16 ⟨v731,rfl,ho0,hb⟩;refine⟨_,rfl, ?_⟩;replace yF:=nr yF hb;have a3q:=Ah (Kd.bD (Kd.av ho0 (Kd.an (rr BY.out))) (bJ (aM HB r9)));replace BY:=Ah (Kd.cV (rr BY.out) (Kd.ar ho0) hb);replace lK:=nb lK hb;replace HB:=Ah (aJ (aM HB r9) hb);(try clear hb ho0)))
 go_ret2
 exact⟨_,er,by(with_reducible repeat(first|apply Kd.aw|apply Kd.ax|apply Kd.aa));exact Kd.aK a3q.out (fun _ hk=>trivial),aM HB r9⟩
def eV.l0:Nat→List ByteArray→List ByteArray→Int→Int→Option (Bool)
 |0,_,_,_,_=>none
 |k+1,x0,x1,iq,dq=>if dq<iq then(if 0≤dq then(if dq<(x0.length:Int)then(if dq<(x1.length:Int)then(if(dL bA x0 dq).toList=(dL bA x1 dq).toList then(eV.l0 k x0 x1 iq (wrap64 (dq+1)))else(some false))else(none))else(none))else(none))else(some true)
def eV.f(k:Nat)(l0:List ByteArray)(l1:List ByteArray):Option (Bool):=if(l0.length:Int)=(l1.length:Int)then(eV.l0 k l0 l1 (l0.length:Int) 0)else(some false)
theorem eV.bg:∀k,(∀y0 y1 y2 y3,a8 (eV.l0 k y0 y1 y2 y3) (eV.l0 (k+1) y0 y1 y2 y3))
 |0=>fun _ _ _ _ r h=>by simp[eV.l0]at h
 |k+1=>by
  have bB:=eV.bg k
  ·
   intro y0 y1 y2 y3;unfold eV.l0
   repeat' with_reducible first|exact bB _ _ _ _|exact a8.refl _|exact a8.none _|refine a8.ite ?_ ?_|refine a8.bind ?_ (fun _=> ?_)
theorem eV.mono:∀a0 a1 k,a8 (eV.f k a0 a1) (eV.f (k+1) a0 a1):=by
 intro a0 a1 k;have bB:=eV.bg k;unfold eV.f
 repeat' with_reducible first|exact bB _ _ _ _|exact a8.refl _|exact a8.none _|refine a8.ite ?_ ?_|refine a8.bind ?_ (fun _=> ?_)
set_option maxHeartbeats 8000000 in
set_option maxRecDepth 100000 in
theorem eV.calls(k:Nat)(A0:Option Addr)(c0:Nat)(l0:List ByteArray)(A1:Option Addr)(c1:Nat)(l1:List ByteArray)(r:Bool)(w:World)(hr0:Kd.C Kd.string w A0 l0.length l0)(hc0:l0.length≤c0)(hr1:Kd.C Kd.string w A1 l1.length l1)(hc1:l1.length≤c1)(h:eV.f k l0 l1=some r):
 Calls t5 10 #[.slice A0 l0.length c0,.slice A1 l1.length c1] w fun e w'=>e= .returned (.bool r)∧cx w w':=by
 have d8:=Ah hr0;have gV:=Ah hc0;clear hr0 hc0;have HR1:=Ah hr1;have kr:=Ah hc1;clear hr1 hc1;have H:(if(l0.length:Int)=(l1.length:Int)then(eV.l0 k l0 l1 (l0.length:Int) 0)else(some false))=some r:=h;clear h
 by_cases c3:(l0.length:Int)=(l1.length:Int)
 rotate_left
 ·
  rw[if_neg c3]at H;have eb:((l0.length:Int)==(l1.length:Int))=false:=beq_eq_false_iff_ne.mpr c3;have mg:((l0.length:Int) !=(l1.length:Int))=true:=bne_iff_ne.mpr c3
  have z4:(l0.length==l1.length)=false:=by first|simpa using c3|(simp at c3⊢;omega)
  obtain rfl:=fl H
  go_enter Try.func10,Try.ntmps10
  go_wp2
  repeat(go_quiet (fail);try go_wp2)
  go_ret
  exact⟨e3,by repeat(first|exact cx.refl _|apply cx.step)⟩
 rw[if_pos c3]at H;have eb:((l0.length:Int)==(l1.length:Int))=true:=beq_iff_eq.mpr c3;have mg:((l0.length:Int) !=(l1.length:Int))=false:=bne_eq_false_iff_eq.mpr c3
 have z4:(l0.length==l1.length)=true:=by first|simpa using c3|(simp at c3⊢;omega)
 clear c3;have H':=Ah H;clear H
 go_enter Try.func10,Try.ntmps10
 go_wp2
 repeat(go_quiet (fail);try go_wp2)
 go_loopg [13] k (fun kq v13 w'=>∃ (bE:Int),v13= .int .i64 bE∧aC (eV.l0 kq l0 l1 (l0.length:Int) bE=some r)∧aC (kq≤k)∧cx w w')
 case atStart=>exact⟨(0),e3,H',⟨mz _⟩,by repeat(first|exact cx.refl _|apply cx.step)⟩
 case round=>
  clear H'
  try clear c1
  try clear p2
  try clear c3
  try clear eb
  try clear mg
  try clear z4
  obtain⟨bE,rfl,HA,bY,⟨m1,rfl⟩⟩:=hrel
  cases gk with
  |zero=>exact absurd HA.out (by simp[eV.l0])
  |succ k1=>
   have H:=HA.out;clear HA;simp only[eV.l0]at H
   by_cases c4:bE<(l0.length:Int)
   rotate_left
   ·
    rw[if_neg c4]at H;have fa:decide (bE<(l0.length:Int))=false:=decide_eq_false c4;clear c4;obtain rfl:=fl H
    go_wp2
    repeat(go_quiet (fail);try go_wp2)
    go_ret
    exact⟨e3,by repeat(first|exact cx.refl _|apply cx.step)⟩
   rw[if_pos c4]at H;have fa:decide (bE<(l0.length:Int))=true:=decide_eq_true c4;clear c4
   by_cases c5:0≤bE
   rotate_left
   ·
    rw[if_neg c5]at H;exact absurd H (by simp)
   rw[if_pos c5]at H;have gz:decide (0≤bE)=true:=decide_eq_true c5;clear c5
   by_cases c6:bE<(l0.length:Int)
   rotate_left
   ·
    rw[if_neg c6]at H;exact absurd H (by simp)
   rw[if_pos c6]at H;have hF:decide (bE<(l0.length:Int))=true:=decide_eq_true c6;clear c6
   by_cases c7:bE<(l1.length:Int)
   rotate_left
   ·
    rw[if_neg c7]at H;exact absurd H (by simp)
   rw[if_pos c7]at H;have lS:decide (bE<(l1.length:Int))=true:=decide_eq_true c7;clear c7
   by_cases c8:(dL bA l0 bE).toList=(dL bA l1 bE).toList
   rotate_left
   ·
    rw[if_neg c8]at H;have ls:((dL bA l0 bE).toList==(dL bA l1 bE).toList)=false:=beq_eq_false_iff_ne.mpr c8;have G8:((dL bA l0 bE).toList !=(dL bA l1 bE).toList)=true:=bne_iff_ne.mpr c8;obtain rfl:=fl H;have z5:0≤(bE:Int):=od;have z6:bE<(l0.length:Int):=od;obtain⟨a3r,P1,a00⟩:=Kd.lH d8.out bE z5 z6
    cases P1
    replace z5:=eq_true z5;replace z6:=eq_true z6;have z7:0≤(bE:Int):=od;have z8:bE<(l1.length:Int):=od;obtain⟨a3s,P2,a01⟩:=Kd.lH HR1.out bE z7 z8
    cases P2
    replace z7:=eq_true z7;replace z8:=eq_true z8
    go_wp2
    repeat(go_quiet (fail);try go_wp2)
    go_ret
    exact⟨e3,by repeat(first|exact cx.refl _|apply cx.step)⟩
   rw[if_pos c8]at H;have ls:((dL bA l0 bE).toList==(dL bA l1 bE).toList)=true:=beq_iff_eq.mpr c8;have G8:((dL bA l0 bE).toList !=(dL bA l1 bE).toList)=false:=bne_eq_false_iff_eq.mpr c8;clear c8;have H':=Ah H;clear H;have z5:0≤(bE:Int):=od;have z6:bE<(l0.length:Int):=od;obtain⟨a3r,P1,a00⟩:=Kd.lH d8.out bE z5 z6
   cases P1
   replace z5:=eq_true z5;replace z6:=eq_true z6;have z7:0≤(bE:Int):=od;have z8:bE<(l1.length:Int):=od;obtain⟨a3s,P2,a01⟩:=Kd.lH HR1.out bE z7 z8
   cases P2
   replace z7:=eq_true z7;replace z8:=eq_true z8
   go_wp2
   repeat(go_quiet (fail);try go_wp2)
   go_roundg k1
   case measure=>have:=bY.out;omega
   case rel=>exact⟨(wrap64 (bE+1)),e3,H',⟨by have:=bY.out;omega⟩,by repeat(first|exact cx.refl _|apply cx.step)⟩
def iF.l0:Nat→List (S64)→List (S64)→Int→Int→Option (Bool)
 |0,_,_,_,_=>none
 |k+1,x0,x1,iq,dq=>if dq<iq then(if 0≤dq then(if dq<(x0.length:Int)then(if dq<(x1.length:Int)then(if(!(((aH x0 dq).f0)==((aH x1 dq).f0))||(!((((aH x0 dq).f1).toList)==(((aH x1 dq).f1).toList))))=true then(some false)else(iF.l0 k x0 x1 iq (wrap64 (dq+1))))else(none))else(none))else(none))else(some true)
def iF.f(k:Nat)(l0:List (S64))(l1:List (S64)):Option (Bool):=if(l0.length:Int)=(l1.length:Int)then(iF.l0 k l0 l1 (l0.length:Int) 0)else(some false)
theorem iF.bg:∀k,(∀y0 y1 y2 y3,a8 (iF.l0 k y0 y1 y2 y3) (iF.l0 (k+1) y0 y1 y2 y3))
 |0=>fun _ _ _ _ r h=>by simp[iF.l0]at h
 |k+1=>by
  have bB:=iF.bg k
  ·
   intro y0 y1 y2 y3;unfold iF.l0
   repeat' with_reducible first|exact bB _ _ _ _|exact a8.refl _|exact a8.none _|refine a8.ite ?_ ?_|refine a8.bind ?_ (fun _=> ?_)
theorem iF.mono:∀a0 a1 k,a8 (iF.f k a0 a1) (iF.f (k+1) a0 a1):=by
 intro a0 a1 k;have bB:=iF.bg k;unfold iF.f
 repeat' with_reducible first|exact bB _ _ _ _|exact a8.refl _|exact a8.none _|refine a8.ite ?_ ?_|refine a8.bind ?_ (fun _=> ?_)
set_option maxHeartbeats 8000000 in
set_option maxRecDepth 100000 in
theorem iF.calls(k:Nat)(A0:Option Addr)(c0:Nat)(l0:List (S64))(A1:Option Addr)(c1:Nat)(l1:List (S64))(r:Bool)(w:World)(hr0:Kd.C bS w A0 l0.length l0)(hc0:l0.length≤c0)(hr1:Kd.C bS w A1 l1.length l1)(hc1:l1.length≤c1)(h:iF.f k l0 l1=some r):
 Calls t5 29 #[.slice A0 l0.length c0,.slice A1 l1.length c1] w fun e w'=>e= .returned (.bool r)∧cx w w':=by
 have hu64:=Try.underlying64;have d8:=Ah hr0;have gV:=Ah hc0;clear hr0 hc0;have HR1:=Ah hr1;have kr:=Ah hc1;clear hr1 hc1;have H:(if(l0.length:Int)=(l1.length:Int)then(iF.l0 k l0 l1 (l0.length:Int) 0)else(some false))=some r:=h;clear h
 by_cases c3:(l0.length:Int)=(l1.length:Int)
 rotate_left
 ·
  rw[if_neg c3]at H;have eb:((l0.length:Int)==(l1.length:Int))=false:=beq_eq_false_iff_ne.mpr c3;have mg:((l0.length:Int) !=(l1.length:Int))=true:=bne_iff_ne.mpr c3
  have z4:(l0.length==l1.length)=false:=by first|simpa using c3|(simp at c3⊢;omega)
  obtain rfl:=fl H
  go_enter Try.func29,Try.ntmps29
  go_wp2
  repeat(go_quiet (fail);try go_wp2)
  go_ret
  exact⟨e3,by repeat(first|exact cx.refl _|apply cx.step)⟩
 rw[if_pos c3]at H;have eb:((l0.length:Int)==(l1.length:Int))=true:=beq_iff_eq.mpr c3;have mg:((l0.length:Int) !=(l1.length:Int))=false:=bne_eq_false_iff_eq.mpr c3
 have z4:(l0.length==l1.length)=true:=by first|simpa using c3|(simp at c3⊢;omega)
 clear c3;have H':=Ah H;clear H
 go_enter Try.func29,Try.ntmps29
 go_wp2
 repeat(go_quiet (fail);try go_wp2)
 go_loopg [13] k (fun kq v13 w'=>∃ (bE:Int),v13= .int .i64 bE∧aC (iF.l0 kq l0 l1 (l0.length:Int) bE=some r)∧aC (kq≤k)∧cx w w')
 case atStart=>exact⟨(0),e3,H',⟨mz _⟩,by repeat(first|exact cx.refl _|apply cx.step)⟩
 case round=>
  clear H'
  try clear c1
  try clear c2
  try clear p2
  try clear c3
  try clear eb
  try clear mg
  try clear z4
  obtain⟨bE,rfl,HA,bY,⟨m1,rfl⟩⟩:=hrel
  cases gk with
  |zero=>exact absurd HA.out (by simp[iF.l0])
  |succ k1=>
   have H:=HA.out;clear HA;simp only[iF.l0]at H
   by_cases c4:bE<(l0.length:Int)
   rotate_left
   ·
    rw[if_neg c4]at H;have fa:decide (bE<(l0.length:Int))=false:=decide_eq_false c4;clear c4;obtain rfl:=fl H
    go_wp2
    repeat(go_quiet (fail);try go_wp2)
    go_ret
    exact⟨e3,by repeat(first|exact cx.refl _|apply cx.step)⟩
   rw[if_pos c4]at H;have fa:decide (bE<(l0.length:Int))=true:=decide_eq_true c4;clear c4
   by_cases c5:0≤bE
   rotate_left
   ·
    rw[if_neg c5]at H;exact absurd H (by simp)
   rw[if_pos c5]at H;have gz:decide (0≤bE)=true:=decide_eq_true c5;clear c5
   by_cases c6:bE<(l0.length:Int)
   rotate_left
   ·
    rw[if_neg c6]at H;exact absurd H (by simp)
   rw[if_pos c6]at H;have hF:decide (bE<(l0.length:Int))=true:=decide_eq_true c6;clear c6
   by_cases c7:bE<(l1.length:Int)
   rotate_left
   ·
    rw[if_neg c7]at H;exact absurd H (by simp)
   rw[if_pos c7]at H;have lS:decide (bE<(l1.length:Int))=true:=decide_eq_true c7;clear c7
   by_cases c8:(!(((aH l0 bE).f0)==((aH l1 bE).f0))||(!((((aH l0 bE).f1).toList)==(((aH l1 bE).f1).toList))))=true
   ·
    rw[if_pos c8]at H;have ls:(!(((aH l0 bE).f0)==((aH l1 bE).f0))||(!((((aH l0 bE).f1).toList)==(((aH l1 bE).f1).toList))))=true:=c8;clear c8;obtain rfl:=fl H;have z9:0≤(bE:Int):=od;have zA:bE<(l0.length:Int):=od;obtain⟨a3t,P3,a02,a03⟩:=g8 d8.out bE z9 zA
    cases P3
    replace z9:=eq_true z9;replace zA:=eq_true zA;have zB:0≤(bE:Int):=od;have zC:bE<(l1.length:Int):=od;obtain⟨a3u,P4,a04,a05⟩:=g8 HR1.out bE zB zC
    cases P4
    replace zB:=eq_true zB;replace zC:=eq_true zC
    go_wp2
    repeat(go_quiet (fail);try go_wp2)
    go_ret
    exact⟨e3,by repeat(first|exact cx.refl _|apply cx.step)⟩
   rw[if_neg c8]at H
   have ls:(!(((aH l0 bE).f0)==((aH l1 bE).f0))||(!((((aH l0 bE).f1).toList)==(((aH l1 bE).f1).toList))))=false:=by simpa using c8
   clear c8;have H':=Ah H;clear H;have z9:0≤(bE:Int):=od;have zA:bE<(l0.length:Int):=od;obtain⟨a3t,P3,a02,a03⟩:=g8 d8.out bE z9 zA
   cases P3
   replace z9:=eq_true z9;replace zA:=eq_true zA;have zB:0≤(bE:Int):=od;have zC:bE<(l1.length:Int):=od;obtain⟨a3u,P4,a04,a05⟩:=g8 HR1.out bE zB zC
   cases P4
   replace zB:=eq_true zB;replace zC:=eq_true zC
   go_wp2
   repeat(go_quiet (fail);try go_wp2)
   go_roundg k1
   case measure=>have:=bY.out;omega
   case rel=>exact⟨(wrap64 (bE+1)),e3,H',⟨by have:=bY.out;omega⟩,by repeat(first|exact cx.refl _|apply cx.step)⟩
def lG.f(k:Nat)(X:List ByteArray)(J:List (S64))(aD:List ByteArray)(aI:Int)(bC:List ByteArray)(dx:List (S64))(nX:List ByteArray)(oL:Int):Option (Bool):=if aI=oL then((eV.f k aD nX).bind fun G9=>(if G9=true then((eV.f k X bC).bind fun GA=>(if GA=true then((iF.f k J dx).bind fun GB=>(some GB))else(some false)))else(some false)))else(some false)
theorem lG.mono:∀a0 a1 a2 a3 a4 a5 a6 a7 k,a8 (lG.f k a0 a1 a2 a3 a4 a5 a6 a7) (lG.f (k+1) a0 a1 a2 a3 a4 a5 a6 a7):=by
 intro a0 a1 a2 a3 a4 a5 a6 a7 k;unfold lG.f
 repeat' with_reducible first|exact eV.mono _ _ _|exact iF.mono _ _ _|exact a8.refl _|exact a8.none _|refine a8.ite ?_ ?_|refine a8.bind ?_ (fun _=> ?_)
set_option maxHeartbeats 8000000 in
set_option maxRecDepth 100000 in
theorem lG.calls(k:Nat)(ag:Option Addr)(ah:Nat)(X:List ByteArray)(ai:Option Addr)(af:Nat)(J:List (S64))(bP:Option Addr)(bQ:Nat)(aD:List ByteArray)(aI:Int)(co:Option Addr)(cp:Nat)(bC:List ByteArray)(i7:Option Addr)(i8:Nat)(dx:List (S64))(C4:Option Addr)(C5:Nat)(nX:List ByteArray)(oL:Int)(r:Bool)(w:World)(dG:Kd.C Kd.string w ag X.length X)(dH:X.length≤ah)(dI:Kd.C bS w ai J.length J)(dJ:J.length≤af)(fp:Kd.C Kd.string w bP aD.length aD)(fq:aD.length≤bQ)(ix:Kd.C Kd.string w co bC.length bC)(iy:bC.length≤cp)(rA:Kd.C bS w i7 dx.length dx)(rB:dx.length≤i8)(Ud:Kd.C Kd.string w C4 nX.length nX)(Ue:nX.length≤C5)(h:lG.f k X J aD aI bC dx nX oL=some r):
 Calls t5 9 #[.agg #[.slice ag X.length ah,.slice ai J.length af,.slice bP aD.length bQ,.int .i64 aI],.agg #[.slice co bC.length cp,.slice i7 dx.length i8,.slice C4 nX.length C5,.int .i64 oL]] w fun e w'=>e= .returned (.bool r)∧Below w.heap.size w w':=by
 have mE:=wd;have cN:=Ah dG;have cR:=Ah dH;clear dG dH;have cI:=Ah dI;have ca:=Ah dJ;clear dI dJ;have dr:=Ah fp;have eK:=Ah fq;clear fp fq;have kz:=Ah ix;have lL:=Ah iy;clear ix iy;have yG:=Ah rA;have yH:=Ah rB;clear rA rB;have NR:=Ah Ud;have NS:=Ah Ue;clear Ud Ue;have HB:=Ah (Below.refl w.heap.size w);have H:(if aI=oL then((eV.f k aD nX).bind fun G9=>(if G9=true then((eV.f k X bC).bind fun GA=>(if GA=true then((iF.f k J dx).bind fun GB=>(some GB))else(some false)))else(some false)))else(some false))=some r:=h;clear h
 by_cases c3:aI=oL
 rotate_left
 ·
  rw[if_neg c3]at H;have eb:(aI==oL)=false:=beq_eq_false_iff_ne.mpr c3;have mg:(aI !=oL)=true:=bne_iff_ne.mpr c3;obtain rfl:=fl H
  go_enter Try.func9,Try.ntmps9
  go_wp2_with (first|((with_reducible refine ao (N:=2) rfl ?_);refine az 2 28 #[.slice ag X.length ah,.slice ai J.length af,.slice bP aD.length bQ,.int .i64 aI] ?_;intro NT hg ks ic hb;have NU:=gw hg (bs HB);have jO:=gw hg (bs HB);replace HB:=Ah (aJ (bs HB) hb);clear hb hg)|((with_reducible refine ao (N:=3) rfl ?_);refine az 3 28 #[.slice co bC.length cp,.slice i7 dx.length i8,.slice C4 nX.length C5,.int .i64 oL] ?_;intro NV hg AU rC hb;have NW:=gw hg (aM HB jO);have pK:=gw hg (aM HB jO);replace HB:=Ah (aJ (aM HB jO) hb);have wm:=nn ic hg;have wn:=nm ic hg;replace ic:=nb ic hb;clear hb hg;have Jg:=wm.out;have Jh:=wn.out;obtain⟨Dg,Dh,MH,MI⟩:=b0 ic;obtain⟨Di,Dj,MJ,MK⟩:=b5 ic;obtain⟨Dk,Ib,hcz28_2,hcz28_3⟩:=b0 rC;obtain⟨Dl,Ic,hfz28_2,hfz28_3⟩:=b5 rC))
  go_ret
  exact⟨er,aW HB jO pK⟩
 rw[if_pos c3]at H;have eb:(aI==oL)=true:=beq_iff_eq.mpr c3;have mg:(aI !=oL)=false:=bne_eq_false_iff_eq.mpr c3;clear c3;replace H:=He.mp H;obtain⟨G9,ey,H⟩:=H
 try dsimp only at H
 have A4:=Ah ey;clear ey
 by_cases c5:G9=true
 rotate_left
 ·
  replace c5:=dW.mpr c5;subst c5;rw[if_neg cg]at H;obtain rfl:=fl H
  go_enter Try.func9,Try.ntmps9
  go_wp2_with (first|((with_reducible refine ao (N:=2) rfl ?_);refine az 2 28 #[.slice ag X.length ah,.slice ai J.length af,.slice bP aD.length bQ,.int .i64 aI] ?_;intro NT hg kR ic hb;have NU:=gw hg (bs HB);have jO:=gw hg (bs HB);replace HB:=Ah (aJ (bs HB) hb);clear hb hg)|((with_reducible refine ao (N:=3) rfl ?_);refine az 3 28 #[.slice co bC.length cp,.slice i7 dx.length i8,.slice C4 nX.length C5,.int .i64 oL] ?_;intro NV hg np rC hb;have NW:=gw hg (aM HB jO);have pK:=gw hg (aM HB jO);replace HB:=Ah (aJ (aM HB jO) hb);have wm:=nn ic hg;have wn:=nm ic hg;replace ic:=nb ic hb;clear hb hg;have NX:=wm.out;have NY:=wn.out;obtain⟨qC,qD,xH,xI⟩:=b0 ic;obtain⟨qE,qF,xJ,xK⟩:=b5 ic;obtain⟨Dm,Dn,Do,Dp⟩:=b0 rC;obtain⟨Dq,Dr,Ds,Dt⟩:=b5 rC)|(go_at_call 10;(with_reducible refine(eV.calls k _ _ aD _ _ nX false _ ?aE ?aG ?aZ ?ab A4.out).mono ?_);(case aE=>exact cb dr HB);(case aG=>exact eK.out);(case aZ=>exact cb NR HB);(case ab=>exact NS.out);rintro e w' ⟨rfl,⟨nd,rfl⟩⟩))
  go_ret
  exact⟨er,aW HB jO pK⟩
 subst c5;rw[if_pos rfl]at H;replace H:=He.mp H;obtain⟨GA,e9,H⟩:=H
 try dsimp only at H
 have A6:=Ah e9;clear e9
 by_cases c7:GA=true
 rotate_left
 ·
  replace c7:=dW.mpr c7;subst c7;rw[if_neg cg]at H;obtain rfl:=fl H
  go_enter Try.func9,Try.ntmps9
  go_wp2_with (first|((with_reducible refine ao (N:=2) rfl ?_);refine az 2 28 #[.slice ag X.length ah,.slice ai J.length af,.slice bP aD.length bQ,.int .i64 aI] ?_;intro NT hg pp ic hb;have NU:=gw hg (bs HB);have jO:=gw hg (bs HB);replace HB:=Ah (aJ (bs HB) hb);clear hb hg)|((with_reducible refine ao (N:=3) rfl ?_);refine az 3 28 #[.slice co bC.length cp,.slice i7 dx.length i8,.slice C4 nX.length C5,.int .i64 oL] ?_;intro NV hg jw rC hb;have NW:=gw hg (aM HB jO);have pK:=gw hg (aM HB jO);replace HB:=Ah (aJ (aM HB jO) hb);have wm:=nn ic hg;have wn:=nm ic hg;replace ic:=nb ic hb;clear hb hg;have BZ:=wm.out;have Ba:=wn.out;obtain⟨ox,oy,xL,xM⟩:=b0 ic;obtain⟨oz,p7,xN,xO⟩:=b5 ic;obtain⟨B0,B2,IX,IY⟩:=b0 rC;obtain⟨B9,BA,IZ,Ia⟩:=b5 rC)|(go_at_call 10;(with_reducible refine(eV.calls k _ _ aD _ _ nX true _ ?aE ?aG ?aZ ?ab A4.out).mono ?_);(case aE=>exact cb dr HB);(case aG=>exact eK.out);(case aZ=>exact cb NR HB);(case ab=>exact NS.out);rintro e w' ⟨rfl,⟨nd,rfl⟩⟩)|(go_at_call 10;(with_reducible refine(eV.calls k _ _ X _ _ bC false _ ?aE ?aG ?aZ ?ab A6.out).mono ?_);(case aE=>repeat(first|exact(Kd.lI cN.out (aW HB jO pK))|(with_reducible refine Kd.jg ?_ _)|(with_reducible refine Kd.jh ?_ _)|(with_reducible refine Kd.jo ?_)));(case aG=>exact cR.out);(case aZ=>repeat(first|exact(Kd.lI kz.out (aW HB jO pK))|(with_reducible refine Kd.jg ?_ _)|(with_reducible refine Kd.jh ?_ _)|(with_reducible refine Kd.jo ?_)));(case ab=>exact lL.out);rintro e w' ⟨rfl,⟨nd,rfl⟩⟩))
  go_ret
  exact⟨er,aW HB jO pK⟩
 subst c7;rw[if_pos rfl]at H;replace H:=He.mp H;obtain⟨GB,oY,H⟩:=H
 try dsimp only at H
 have A8:=Ah oY;clear oY;obtain rfl:=fl H
 go_enter Try.func9,Try.ntmps9
 go_wp2_with (first|((with_reducible refine ao (N:=2) rfl ?_);refine az 2 28 #[.slice ag X.length ah,.slice ai J.length af,.slice bP aD.length bQ,.int .i64 aI] ?_;intro NT hg w9 ic hb;have NU:=gw hg (bs HB);have jO:=gw hg (bs HB);replace HB:=Ah (aJ (bs HB) hb);clear hb hg)|((with_reducible refine ao (N:=3) rfl ?_);refine az 3 28 #[.slice co bC.length cp,.slice i7 dx.length i8,.slice C4 nX.length C5,.int .i64 oL] ?_;intro NV hg pq rC hb;have NW:=gw hg (aM HB jO);have pK:=gw hg (aM HB jO);replace HB:=Ah (aJ (aM HB jO) hb);have wm:=nn ic hg;have wn:=nm ic hg;replace ic:=nb ic hb;clear hb hg;have NZ:=wm.out;have Na:=wn.out;obtain⟨tS,tT,BF,BG⟩:=b0 ic;obtain⟨sQ,sR,xF,xG⟩:=b5 ic;obtain⟨la,lc,o4,o5⟩:=b0 rC;obtain⟨ld,lf,o6,o7⟩:=b5 rC)|(go_at_call 10;(with_reducible refine(eV.calls k _ _ aD _ _ nX true _ ?aE ?aG ?aZ ?ab A4.out).mono ?_);(case aE=>exact cb dr HB);(case aG=>exact eK.out);(case aZ=>exact cb NR HB);(case ab=>exact NS.out);rintro e w' ⟨rfl,⟨nd,rfl⟩⟩)|(go_at_call 10;(with_reducible refine(eV.calls k _ _ X _ _ bC true _ ?aE ?aG ?aZ ?ab A6.out).mono ?_);(case aE=>repeat(first|exact(Kd.lI cN.out (aW HB jO pK))|(with_reducible refine Kd.jg ?_ _)|(with_reducible refine Kd.jh ?_ _)|(with_reducible refine Kd.jo ?_)));(case aG=>exact cR.out);(case aZ=>repeat(first|exact(Kd.lI kz.out (aW HB jO pK))|(with_reducible refine Kd.jg ?_ _)|(with_reducible refine Kd.jh ?_ _)|(with_reducible refine Kd.jo ?_)));(case ab=>exact lL.out);rintro e w' ⟨rfl,⟨nd,rfl⟩⟩)|(go_at_call 29;(with_reducible refine(iF.calls k _ _ J _ _ dx GB _ ?aE ?aG ?aZ ?ab A8.out).mono ?_);(case aE=>repeat(first|exact(Kd.lI cI.out (aW HB jO pK))|(with_reducible refine Kd.jg ?_ _)|(with_reducible refine Kd.jh ?_ _)|(with_reducible refine Kd.jo ?_)));(case aG=>exact ca.out);(case aZ=>repeat(first|exact(Kd.lI yG.out (aW HB jO pK))|(with_reducible refine Kd.jg ?_ _)|(with_reducible refine Kd.jh ?_ _)|(with_reducible refine Kd.jo ?_)));(case ab=>exact yH.out);rintro e w' ⟨rfl,⟨nd,rfl⟩⟩))
 go_ret
 exact⟨er,aW HB jO pK⟩
def mN.f(k:Nat)(X:List ByteArray)(J:List (S64))(aD:List ByteArray)(aI:Int):Option (List ByteArray×(List (S64))×List ByteArray×Int×Bool):=(gF.f k X J aD aI).bind fun EP=>(if EP.2=true then(if aI=(aD.length:Int)then(some (EP.1,([]:List (S64)),([]:List ByteArray),0,true))else(some (([]:List ByteArray),([]:List (S64)),([]:List ByteArray),0,false)))else(some (([]:List ByteArray),([]:List (S64)),([]:List ByteArray),0,false)))
theorem mN.mono:∀a0 a1 a2 a3 k,a8 (mN.f k a0 a1 a2 a3) (mN.f (k+1) a0 a1 a2 a3):=by
 intro a0 a1 a2 a3 k;unfold mN.f
 repeat' with_reducible first|exact gF.mono _ _ _ _ _|exact a8.refl _|exact a8.none _|refine a8.ite ?_ ?_|refine a8.bind ?_ (fun _=> ?_)
set_option maxHeartbeats 8000000 in
set_option maxRecDepth 100000 in
theorem mN.calls(k:Nat)(ag:Option Addr)(ah:Nat)(X:List ByteArray)(ai:Option Addr)(af:Nat)(J:List (S64))(bP:Option Addr)(bQ:Nat)(aD:List ByteArray)(aI:Int)(r1:List ByteArray)(r2:List (S64))(r3:List ByteArray)(r4:Int)(r5:Bool)(w:World)(dG:Kd.C Kd.string w ag X.length X)(dH:X.length≤ah)(dI:Kd.C bS w ai J.length J)(dJ:J.length≤af)(fp:Kd.C Kd.string w bP aD.length aD)(fq:aD.length≤bQ)(h:mN.f k X J aD aI=some (r1,r2,r3,r4,r5)):
 Calls Try.prog 12 #[.agg #[.slice ag X.length ah,.slice ai J.length af,.slice bP aD.length bQ,.int .i64 aI]] w fun e w'=>∃bh eA ee:Value,e= .returned (.tuple #[.agg #[bh,eA,ee,.int .i64 r4],.bool r5])∧Kd.R Kd.string 9 w' w.heap.size (fun k_=>some k_≠(ee:Value).ownBlock) bh r1∧Kd.R bS 64 w' w.heap.size (fun _=>True) eA r2∧Kd.R Kd.string 9 w' w.heap.size (fun k_=>some k_≠(bh:Value).ownBlock) ee r3∧Below w.heap.size w w':=by
 have mE:=wd;have kj:=aae;have cN:=Ah dG;have cR:=Ah dH;clear dG dH;have cI:=Ah dI;have ca:=Ah dJ;clear dI dJ;have dr:=Ah fp;have eK:=Ah fq;clear fp fq;have HB:=Ah (Below.refl w.heap.size w);have H:((gF.f k X J aD aI).bind fun EP=>(if EP.2=true then(if aI=(aD.length:Int)then(some (EP.1,([]:List (S64)),([]:List ByteArray),0,true))else(some (([]:List ByteArray),([]:List (S64)),([]:List ByteArray),0,false)))else(some (([]:List ByteArray),([]:List (S64)),([]:List ByteArray),0,false))))=some (r1,r2,r3,r4,r5):=h;clear h;replace H:=He.mp H;obtain⟨⟨vn,a62⟩,fR,H⟩:=H
 try dsimp only at H
 have A2:=Ah fR;clear fR
 by_cases c3:a62=true
 rotate_left
 ·
  replace c3:=dW.mpr c3;subst c3;rw[if_neg cg]at H;simp only[fc,oe]at H;obtain⟨rfl,rfl,rfl,rfl,rfl⟩:=H
  go_enter Try.func12,Try.ntmps12
  go_wp2_with (first|((with_reducible refine ao (N:=1) rfl ?_);(try(refine dM (by rfl) ?_;dsimp only));refine az 1 28 #[.slice ag X.length ah,.slice ai J.length af,.slice bP aD.length bQ,.int .i64 aI] ?_;intro Uf hg np i2 hb;have Ug:=gw hg (bs HB);have l2:=gw hg (bs HB);replace HB:=Ah (aJ (bs HB) hb);clear hb hg)|((with_reducible refine ao (N:=2) rfl ?_);(try(refine dM (by rfl) ?_;dsimp only));refine az 2 28 #[.slice none 0 0,.slice none 0 0,.slice none 0 0,.int .i64 0] ?_;intro tg hg ir lm hb;have Uh:=gw hg (aM HB l2);have rD:=gw hg (aM HB l2);replace HB:=Ah (aJ (aM HB l2) hb);have DA:=nn i2 hg;have DB:=nm i2 hg;replace i2:=nb i2 hb;clear hb hg;have a3v:=DA.out;have a3w:=DB.out;obtain⟨Dm,Dn,Do,Dp⟩:=b0 i2;obtain⟨Dq,Dr,Ds,Dt⟩:=b5 i2)|((with_reducible refine ap (f:=7) rfl ?_);refine gL (some 8) rfl rfl abB (by kernel_rfl) rfl #[.agg #[.slice ag X.length ah,.slice ai J.length af,.slice bP aD.length bQ,.int .i64 aI]] rfl ?_;(with_reducible refine(gF.calls k _ _ X _ _ J _ _ aD aI vn false _ ?aE ?aG ?aZ ?ab ?bT ?bc A2.out).mono ?_);(case aE=>exact cb cN HB);(case aG=>exact cR.out);(case aZ=>exact cb cI HB);(case ab=>exact ca.out);(case bT=>exact cb dr HB);(case bc=>exact eK.out);rintro e ks ⟨Wu,rfl,ho0,hb⟩;refine⟨_,rfl, ?_⟩;have Ji:=Ah (Kd.bD ho0 (bJ (aW HB l2 rD)));replace i2:=nb i2 hb;replace lm:=nb lm hb;replace HB:=Ah (aJ (aW HB l2 rD) hb);(try clear hb ho0);obtain⟨ML,MM,hcz25_2,hcz25_3⟩:=b0 lm;obtain⟨MN,MO,hfz25_2,hfz25_3⟩:=b5 lm))
  refine bodyPost_ret (gG rfl _ _ tg 28 #[.slice none 0 0,.slice none 0 0,.slice none 0 0,.int .i64 0] (0,0) _ rfl (by(with_reducible repeat(first|refine a9 ?_ _|refine U ?_|refine Z ?_ _));refine aN (cs:= #[.slice none 0 0,.slice none 0 0,.slice none 0 0,.int .i64 0]) ?_ 3 _ rfl;(with_reducible repeat(first|refine a9 ?_ _|refine U ?_|refine Z ?_ _));refine aN (cs:= #[.slice none 0 0,.slice none 0 0,.slice none 0 0,.int .i64 0]) ?_ 2 _ rfl;(with_reducible repeat(first|refine a9 ?_ _|refine U ?_|refine Z ?_ _));refine aN (cs:= #[.slice none 0 0,.slice none 0 0,.slice none 0 0,.int .i64 0]) ?_ 1 _ rfl;(with_reducible repeat(first|refine a9 ?_ _|refine U ?_|refine Z ?_ _));refine aN (cs:= #[.slice none 0 0,.slice none 0 0,.slice none 0 0,.int .i64 0]) ?_ 0 _ rfl;(with_reducible repeat(first|refine a9 ?_ _|refine U ?_|refine Z ?_ _));exact lm.out) wd rfl (by kernel_rfl)) rfl ?_;exact⟨_,_,_,er,by first|exact Kd.cQ _ _ _ _ _|exact Kd.cY _ _ _ _ _|exact Kd.cZ _ _ _ _ _|exact Kd.cW _ _ _ _ _|exact Kd.cX _ _ _ _ _,by first|exact Kd.cQ _ _ _ _ _|exact Kd.cY _ _ _ _ _|exact Kd.cZ _ _ _ _ _|exact Kd.cW _ _ _ _ _|exact Kd.cX _ _ _ _ _,by first|exact Kd.cQ _ _ _ _ _|exact Kd.cY _ _ _ _ _|exact Kd.cZ _ _ _ _ _|exact Kd.cW _ _ _ _ _|exact Kd.cX _ _ _ _ _,aW HB l2 rD⟩
 subst c3;rw[if_pos rfl]at H
 by_cases c4:aI=(aD.length:Int)
 rotate_left
 ·
  rw[if_neg c4]at H;have fa:(aI==(aD.length:Int))=false:=beq_eq_false_iff_ne.mpr c4;have zD:(aI !=(aD.length:Int))=true:=bne_iff_ne.mpr c4;simp only[fc,oe]at H;obtain⟨rfl,rfl,rfl,rfl,rfl⟩:=H
  go_enter Try.func12,Try.ntmps12
  go_wp2_with (first|((with_reducible refine ao (N:=1) rfl ?_);(try(refine dM (by rfl) ?_;dsimp only));refine az 1 28 #[.slice ag X.length ah,.slice ai J.length af,.slice bP aD.length bQ,.int .i64 aI] ?_;intro Uf hg ly i2 hb;have Ug:=gw hg (bs HB);have l2:=gw hg (bs HB);replace HB:=Ah (aJ (bs HB) hb);clear hb hg)|((with_reducible refine ao (N:=2) rfl ?_);(try(refine dM (by rfl) ?_;dsimp only));refine az 2 28 #[.slice none 0 0,.slice none 0 0,.slice none 0 0,.int .i64 0] ?_;intro tg hg pp lm hb;have Uh:=gw hg (aM HB l2);have rD:=gw hg (aM HB l2);replace HB:=Ah (aJ (aM HB l2) hb);have DA:=nn i2 hg;have DB:=nm i2 hg;replace i2:=nb i2 hb;clear hb hg;have Jj:=DA.out;have Jk:=DB.out;obtain⟨tU,tV,a06,a07⟩:=b0 i2;obtain⟨tW,tX,a08,a09⟩:=b5 i2)|((with_reducible refine ap (f:=7) rfl ?_);refine gL (some 8) rfl rfl abB (by kernel_rfl) rfl #[.agg #[.slice ag X.length ah,.slice ai J.length af,.slice bP aD.length bQ,.int .i64 aI]] rfl ?_;(with_reducible refine(gF.calls k _ _ X _ _ J _ _ aD aI vn true _ ?aE ?aG ?aZ ?ab ?bT ?bc A2.out).mono ?_);(case aE=>exact cb cN HB);(case aG=>exact cR.out);(case aZ=>exact cb cI HB);(case ab=>exact ca.out);(case bT=>exact cb dr HB);(case bc=>exact eK.out);rintro e uZ ⟨Wu,rfl,ho0,hb⟩;refine⟨_,rfl, ?_⟩;have Ji:=Ah (Kd.bD ho0 (bJ (aW HB l2 rD)));replace i2:=nb i2 hb;replace lm:=nb lm hb;replace HB:=Ah (aJ (aW HB l2 rD) hb);(try clear hb ho0);obtain⟨B0,B2,IX,IY⟩:=b0 i2;obtain⟨B9,BA,IZ,Ia⟩:=b5 i2;obtain⟨qq,qr,Du,Dv⟩:=b0 lm;obtain⟨qt,qu,Dw,Dx⟩:=b5 lm))
  refine bodyPost_ret (gG rfl _ _ tg 28 #[.slice none 0 0,.slice none 0 0,.slice none 0 0,.int .i64 0] (0,0) _ rfl (by(with_reducible repeat(first|refine a9 ?_ _|refine U ?_|refine Z ?_ _));refine aN (cs:= #[.slice none 0 0,.slice none 0 0,.slice none 0 0,.int .i64 0]) ?_ 3 _ rfl;(with_reducible repeat(first|refine a9 ?_ _|refine U ?_|refine Z ?_ _));refine aN (cs:= #[.slice none 0 0,.slice none 0 0,.slice none 0 0,.int .i64 0]) ?_ 2 _ rfl;(with_reducible repeat(first|refine a9 ?_ _|refine U ?_|refine Z ?_ _));refine aN (cs:= #[.slice none 0 0,.slice none 0 0,.slice none 0 0,.int .i64 0]) ?_ 1 _ rfl;(with_reducible repeat(first|refine a9 ?_ _|refine U ?_|refine Z ?_ _));refine aN (cs:= #[.slice none 0 0,.slice none 0 0,.slice none 0 0,.int .i64 0]) ?_ 0 _ rfl;(with_reducible repeat(first|refine a9 ?_ _|refine U ?_|refine Z ?_ _));exact lm.out) wd rfl (by kernel_rfl)) rfl ?_;exact⟨_,_,_,er,by first|exact Kd.cQ _ _ _ _ _|exact Kd.cY _ _ _ _ _|exact Kd.cZ _ _ _ _ _|exact Kd.cW _ _ _ _ _|exact Kd.cX _ _ _ _ _,by first|exact Kd.cQ _ _ _ _ _|exact Kd.cY _ _ _ _ _|exact Kd.cZ _ _ _ _ _|exact Kd.cW _ _ _ _ _|exact Kd.cX _ _ _ _ _,by first|exact Kd.cQ _ _ _ _ _|exact Kd.cY _ _ _ _ _|exact Kd.cZ _ _ _ _ _|exact Kd.cW _ _ _ _ _|exact Kd.cX _ _ _ _ _,aW HB l2 rD⟩
 rw[if_pos c4]at H;have fa:(aI==(aD.length:Int))=true:=beq_iff_eq.mpr c4;have zD:(aI !=(aD.length:Int))=false:=bne_eq_false_iff_eq.mpr c4;clear c4;simp only[fc,oe]at H;obtain⟨rfl,rfl,rfl,rfl,rfl⟩:=H
 go_enter Try.func12,Try.ntmps12
 go_wp2_with (first|((with_reducible refine ao (N:=1) rfl ?_);(try(refine dM (by rfl) ?_;dsimp only));refine az 1 28 #[.slice ag X.length ah,.slice ai J.length af,.slice bP aD.length bQ,.int .i64 aI] ?_;intro Uf hg w5 i2 hb;have Ug:=gw hg (bs HB);have l2:=gw hg (bs HB);replace HB:=Ah (aJ (bs HB) hb);clear hb hg)|((with_reducible refine ao (N:=2) rfl ?_);(try(refine dM (by rfl) ?_;dsimp only));refine az 2 28 #[.slice none 0 0,.slice none 0 0,.slice none 0 0,.int .i64 0] ?_;intro tg hg w6 lm hb;have Uh:=gw hg (aM HB l2);have rD:=gw hg (aM HB l2);replace HB:=Ah (aJ (aM HB l2) hb);have DA:=nn i2 hg;have DB:=nm i2 hg;replace i2:=nb i2 hb;clear hb hg;have Wv:=DA.out;have Ww:=DB.out;obtain⟨qN,qO,JR,NF⟩:=b0 i2;obtain⟨r8,qP,JS,NG⟩:=b5 i2)|((with_reducible refine ap (f:=7) rfl ?_);refine gL (some 8) rfl rfl abB (by kernel_rfl) rfl #[.agg #[.slice ag X.length ah,.slice ai J.length af,.slice bP aD.length bQ,.int .i64 aI]] rfl ?_;(with_reducible refine(gF.calls k _ _ X _ _ J _ _ aD aI vn true _ ?aE ?aG ?aZ ?ab ?bT ?bc A2.out).mono ?_);(case aE=>exact cb cN HB);(case aG=>exact cR.out);(case aZ=>exact cb cI HB);(case ab=>exact ca.out);(case bT=>exact cb dr HB);(case bc=>exact eK.out);rintro e w9 ⟨Wu,rfl,ho0,hb⟩;refine⟨_,rfl, ?_⟩;have Ji:=Ah (Kd.bD ho0 (bJ (aW HB l2 rD)));replace i2:=nb i2 hb;replace lm:=nb lm hb;replace HB:=Ah (aJ (aW HB l2 rD) hb);(try clear hb ho0);obtain⟨BB,BC,MD,ME⟩:=b0 i2;obtain⟨BD,BE,MF,MG⟩:=b5 i2;obtain⟨eB,eC,uH⟩:=Kd.al Ji.out;subst uH;obtain⟨tS,tT,BF,BG⟩:=b0 lm;obtain⟨sQ,sR,xF,xG⟩:=b5 lm))
 refine bodyPost_ret (gG rfl _ _ tg 28 #[.slice eB vn.length eC,.slice none 0 0,.slice none 0 0,.int .i64 0] (0,0) _ rfl (by(with_reducible repeat(first|refine a9 ?_ _|refine U ?_|refine Z ?_ _));refine aN (cs:= #[.slice eB vn.length eC,.slice none 0 0,.slice none 0 0,.int .i64 0]) ?_ 3 _ rfl;(with_reducible repeat(first|refine a9 ?_ _|refine U ?_|refine Z ?_ _));refine aN (cs:= #[.slice eB vn.length eC,.slice none 0 0,.slice none 0 0,.int .i64 0]) ?_ 2 _ rfl;(with_reducible repeat(first|refine a9 ?_ _|refine U ?_|refine Z ?_ _));refine aN (cs:= #[.slice eB vn.length eC,.slice none 0 0,.slice none 0 0,.int .i64 0]) ?_ 1 _ rfl;(with_reducible repeat(first|refine a9 ?_ _|refine U ?_|refine Z ?_ _));refine aN (cs:= #[.slice none 0 0,.slice none 0 0,.slice none 0 0,.int .i64 0]) ?_ 0 _ rfl;(with_reducible repeat(first|refine a9 ?_ _|refine U ?_|refine Z ?_ _));exact lm.out) wd rfl (by kernel_rfl)) rfl ?_;exact⟨_,_,_,er,by(with_reducible repeat(first|apply Kd.aw|apply Kd.ax|apply Kd.aa));exact Kd.aK (Kd.aA (p:=⟨tg,3,none⟩) (Kd.aA (p:=⟨tg,2,none⟩) (Kd.aA (p:=⟨tg,1,none⟩) (Kd.aA (p:=⟨tg,0,none⟩) (Kd.b7 Ji.out lm.out (by decide)) (fun _ hk=>hk.2) (.slice eB vn.length eC)) (fun _ hk=>hk.2) (.slice none 0 0)) (fun _ hk=>hk.2) (.slice none 0 0)) (fun _ hk=>hk.2) (.int .i64 0)) (fun _ hk=>(by simp[Value.ownBlock])),by first|exact Kd.cQ _ _ _ _ _|exact Kd.cY _ _ _ _ _|exact Kd.cZ _ _ _ _ _|exact Kd.cW _ _ _ _ _|exact Kd.cX _ _ _ _ _,by first|exact Kd.cQ _ _ _ _ _|exact Kd.cY _ _ _ _ _|exact Kd.cZ _ _ _ _ _|exact Kd.cW _ _ _ _ _|exact Kd.cX _ _ _ _ _,aW HB l2 rD⟩
mutual
def dE.j0:Nat→Int→Bool→Bool→List ByteArray→List (S64)→List ByteArray→Int→List ByteArray→List (S64)→List ByteArray→Int→Option (Bool)
 |0,_,_,_,_,_,_,_,_,_,_,_=>none
 |k+1,x5,x7,x81,a1a,a1b,SV,a1c,a1d,a1e,SW,a1f=>if x81=true then(some false)else(if x7=true then((mN.f k a1d a1e SW a1f).bind fun gt=>((gF.f k gt.1 gt.2.1 gt.2.2.1 gt.2.2.2.1).bind fun Ui=>(if 0≤x5 then(if x5≤(SV.length:Int)then((gF.f k a1a a1b (SV.take (x5:Int).toNat) a1c).bind fun EQ=>(if gt.2.2.2.2=true then(if Ui.2=true then(if EQ.2=true then((eV.f k Ui.1 EQ.1).bind fun GC=>(if GC=true then(if(gt.2.2.1.length:Int)=0 then(dE.j1 k ((gt.2.1.length:Int) !=0) gt.1 gt.2.1 gt.2.2.1 gt.2.2.2.1)else(dE.j1 k true gt.1 gt.2.1 gt.2.2.1 gt.2.2.2.1))else(dE.j1 k true gt.1 gt.2.1 gt.2.2.1 gt.2.2.2.1)))else(dE.j1 k true gt.1 gt.2.1 gt.2.2.1 gt.2.2.2.1))else(dE.j1 k true gt.1 gt.2.1 gt.2.2.1 gt.2.2.2.1))else(dE.j1 k true gt.1 gt.2.1 gt.2.2.1 gt.2.2.2.1)))else(none))else(none))))else(some ((SW.length:Int)==0)))
def dE.j1:Nat→Bool→List ByteArray→List (S64)→List ByteArray→Int→Option (Bool)
 |0,_,_,_,_,_=>none
 |k+1,a63,SX,SY,SZ,Sa=>if a63=true then(some false)else((mN.f k SX SY SZ Sa).bind fun ER=>(if ER.2.2.2.2=true then((lG.f k ER.1 ER.2.1 ER.2.2.1 ER.2.2.2.1 SX SY SZ Sa).bind fun P5=>(some P5))else(some false)))
end
def dE.f(k:Nat)(l0:List Int):Option (Bool):=if(l0.length:Int)>1048576 then(some true)else((iv.f k l0).bind fun br=>((ez.f k br.1 br.2.1 br.2.2.1 br.2.2.2.1 br.2.2.2.2.1 br.2.2.2.2.2).bind fun dY=>((f8.f k br.1 br.2.1 br.2.2.1 br.2.2.2.1 br.2.2.2.2.1 br.2.2.2.2.2).bind fun rE=>((gF.f k br.1 br.2.1 br.2.2.1 br.2.2.2.1).bind fun ES=>((n5.f k br.1 br.2.1 br.2.2.1 br.2.2.2.1).bind fun yI=>(if(dY.2.2.2.2 !=rE.2.2.2.2)=true then(dE.j0 k br.2.2.2.2.2 dY.2.2.2.2 true br.1 br.2.1 br.2.2.1 br.2.2.2.1 dY.1 dY.2.1 dY.2.2.1 dY.2.2.2.1)else((lG.f k dY.1 dY.2.1 dY.2.2.1 dY.2.2.2.1 rE.1 rE.2.1 rE.2.2.1 rE.2.2.2.1).bind fun GD=>(if GD=true then(if(ES.2 !=yI.2)=true then(dE.j0 k br.2.2.2.2.2 dY.2.2.2.2 true br.1 br.2.1 br.2.2.1 br.2.2.2.1 dY.1 dY.2.1 dY.2.2.1 dY.2.2.2.1)else((eV.f k ES.1 yI.1).bind fun GE=>(if GE=true then((db.f k br.1 br.2.1 br.2.2.1 br.2.2.2.1).bind fun C6=>(dE.j0 k br.2.2.2.2.2 dY.2.2.2.2 (C6 !=yI.2) br.1 br.2.1 br.2.2.1 br.2.2.2.1 dY.1 dY.2.1 dY.2.2.1 dY.2.2.2.1))else(dE.j0 k br.2.2.2.2.2 dY.2.2.2.2 true br.1 br.2.1 br.2.2.1 br.2.2.2.1 dY.1 dY.2.1 dY.2.2.1 dY.2.2.2.1))))else(dE.j0 k br.2.2.2.2.2 dY.2.2.2.2 true br.1 br.2.1 br.2.2.1 br.2.2.2.1 dY.1 dY.2.1 dY.2.2.1 dY.2.2.2.1)))))))))
theorem dE.bg:∀k,(∀y0 y1 y2 y3 y4 y5 y6 y7 y8 y9 YM,a8 (dE.j0 k y0 y1 y2 y3 y4 y5 y6 y7 y8 y9 YM) (dE.j0 (k+1) y0 y1 y2 y3 y4 y5 y6 y7 y8 y9 YM))∧(∀y0 y1 y2 y3 y4,a8 (dE.j1 k y0 y1 y2 y3 y4) (dE.j1 (k+1) y0 y1 y2 y3 y4))
 |0=>⟨fun _ _ _ _ _ _ _ _ _ _ _ r h=>by simp[dE.j0]at h,fun _ _ _ _ _ r h=>by simp[dE.j1]at h⟩
 |k+1=>by
  obtain⟨bB,ih1⟩:=dE.bg k
  refine⟨?_, ?_⟩<;>intros<;>first|unfold dE.j0|unfold dE.j1
  all_goals repeat' first
   |(with_reducible exact bB _ _ _ _ _ _ _ _ _ _ _)
   |(with_reducible exact ih1 _ _ _ _ _)
   |(with_reducible exact ez.mono _ _ _ _ _ _ _)
   |(with_reducible exact db.mono _ _ _ _ _)
   |(with_reducible exact mN.mono _ _ _ _ _)
   |(with_reducible exact gF.mono _ _ _ _ _)
   |(with_reducible exact lG.mono _ _ _ _ _ _ _ _ _)
   |(with_reducible exact eV.mono _ _ _)
   |(with_reducible exact f8.mono _ _ _ _ _ _ _)
   |(with_reducible exact iv.mono _ _)
   |(with_reducible exact n5.mono _ _ _ _ _)
   |(with_reducible exact a8.refl _)
   |(with_reducible exact a8.none _)
   |(with_reducible refine a8.ite ?_ ?_)
   |(with_reducible refine a8.bind ?_ (fun _=> ?_))
   |exact bB _ _ _ _ _ _ _ _ _ _ _
   |exact ih1 _ _ _ _ _
   |exact ez.mono _ _ _ _ _ _ _
   |exact db.mono _ _ _ _ _
   |exact mN.mono _ _ _ _ _
   |exact gF.mono _ _ _ _ _
   |exact lG.mono _ _ _ _ _ _ _ _ _
   |exact eV.mono _ _ _
   |exact f8.mono _ _ _ _ _ _ _
   |exact iv.mono _ _
   |exact n5.mono _ _ _ _ _
   |exact a8.none _
   |refine a8.ite ?_ ?_
   |refine a8.bind ?_ (fun _=> ?_)
theorem dE.mono:∀a0 k,a8 (dE.f k a0) (dE.f (k+1) a0):=by
 intro a0 k;obtain⟨bB,ih1⟩:=dE.bg k;unfold dE.f
 repeat' with_reducible first|exact bB _ _ _ _ _ _ _ _ _ _ _|exact ih1 _ _ _ _ _|exact ez.mono _ _ _ _ _ _ _|exact db.mono _ _ _ _ _|exact mN.mono _ _ _ _ _|exact gF.mono _ _ _ _ _|exact lG.mono _ _ _ _ _ _ _ _ _|exact eV.mono _ _ _|exact f8.mono _ _ _ _ _ _ _|exact iv.mono _ _|exact n5.mono _ _ _ _ _|exact a8.refl _|exact a8.none _|refine a8.ite ?_ ?_|refine a8.bind ?_ (fun _=> ?_)
def dE.YN:Bool×List (List Nat×List Nat):=(true,[([],[]),([0],[0]),([],[]),([2],[2]),([],[]),([3,4],[3,4]),([],[]),([6],[6]),([1,5,7],[1,5,7]),([],[]),([9,8,0,1,2,3,4,5,6,7,8,9],[8,9])])
def dE.B14:List Nat:=[0,1,0,4,0,28,0,64,255,0,1023]
theorem dE.a3x:fN .any (lh Try.f3 14)=dE.YN:=by kernel_rfl
theorem dE.a2N:ji dE.YN.2 dE.B14=true:=by kernel_rfl
set_option maxHeartbeats 8000000 in
set_option maxRecDepth 100000 in
theorem dE.calls(k:Nat)(A0:Option Addr)(c0:Nat)(l0:List Int)(r:Bool)(w:World)(hr0:Kd.C (Kd.int .u8) w A0 l0.length l0)(hc0:l0.length≤c0)(h:dE.f k l0=some r):
 Calls t5 3 #[.slice A0 l0.length c0] w fun e w'=>e= .returned (.bool r)∧Below w.heap.size w w':=by
 have mE:=wd;have kj:=aae;have d8:=Ah hr0;have gV:=Ah hc0;clear hr0 hc0;have HB:=Ah (Below.refl w.heap.size w);have H:(if(l0.length:Int)>1048576 then(some true)else((iv.f k l0).bind fun br=>((ez.f k br.1 br.2.1 br.2.2.1 br.2.2.2.1 br.2.2.2.2.1 br.2.2.2.2.2).bind fun dY=>((f8.f k br.1 br.2.1 br.2.2.1 br.2.2.2.1 br.2.2.2.2.1 br.2.2.2.2.2).bind fun rE=>((gF.f k br.1 br.2.1 br.2.2.1 br.2.2.2.1).bind fun ES=>((n5.f k br.1 br.2.1 br.2.2.1 br.2.2.2.1).bind fun yI=>(if(dY.2.2.2.2 !=rE.2.2.2.2)=true then(dE.j0 k br.2.2.2.2.2 dY.2.2.2.2 true br.1 br.2.1 br.2.2.1 br.2.2.2.1 dY.1 dY.2.1 dY.2.2.1 dY.2.2.2.1)else((lG.f k dY.1 dY.2.1 dY.2.2.1 dY.2.2.2.1 rE.1 rE.2.1 rE.2.2.1 rE.2.2.2.1).bind fun GD=>(if GD=true then(if(ES.2 !=yI.2)=true then(dE.j0 k br.2.2.2.2.2 dY.2.2.2.2 true br.1 br.2.1 br.2.2.1 br.2.2.2.1 dY.1 dY.2.1 dY.2.2.1 dY.2.2.2.1)else((eV.f k ES.1 yI.1).bind fun GE=>(if GE=true then((db.f k br.1 br.2.1 br.2.2.1 br.2.2.2.1).bind fun C6=>(dE.j0 k br.2.2.2.2.2 dY.2.2.2.2 (C6 !=yI.2) br.1 br.2.1 br.2.2.1 br.2.2.2.1 dY.1 dY.2.1 dY.2.2.1 dY.2.2.2.1))else(dE.j0 k br.2.2.2.2.2 dY.2.2.2.2 true br.1 br.2.1 br.2.2.1 br.2.2.2.1 dY.1 dY.2.1 dY.2.2.1 dY.2.2.2.1))))else(dE.j0 k br.2.2.2.2.2 dY.2.2.2.2 true br.1 br.2.1 br.2.2.1 br.2.2.2.1 dY.1 dY.2.1 dY.2.2.1 dY.2.2.2.1))))))))))=some r:=h;clear h
 by_cases c2:(l0.length:Int)>1048576
 ·
  rw[if_pos c2]at H;have si:decide (1048576<(l0.length:Int))=true:=decide_eq_true c2;have vo:decide (1048576<l0.length)=true:=decide_eq_true (by omega);clear c2;obtain rfl:=fl H
  go_enter Try.func3,Try.ntmps3
  go_wp2
  go_ret
  exact⟨er,bs HB⟩
 rw[if_neg c2]at H;have si:decide (1048576<(l0.length:Int))=false:=decide_eq_false c2;have vo:decide (1048576<l0.length)=false:=decide_eq_false (by omega);clear c2;replace H:=He.mp H;obtain⟨⟨fO,gn,fP,lT,GF,mF⟩,de,H⟩:=H
 try dsimp only at H
 have A3:=Ah de;clear de;replace H:=He.mp H;obtain⟨⟨i9,kJ,iX,re,rg⟩,ey,H⟩:=H
 try dsimp only at H
 have A4:=Ah ey;clear ey;replace H:=He.mp H;obtain⟨⟨io,lU,jS,vp,uI⟩,lC,H⟩:=H
 try dsimp only at H
 have A5:=Ah lC;clear lC;replace H:=He.mp H;obtain⟨⟨P6,uJ⟩,e9,H⟩:=H
 try dsimp only at H
 have A6:=Ah e9;clear e9;replace H:=He.mp H;obtain⟨⟨P7,sj⟩,jx,H⟩:=H
 try dsimp only at H
 have A7:=Ah jx;clear jx;have R0:=Ah H;clear H
 go_enter Try.func3,Try.ntmps3
 go_upto_region 8 with(first|((with_reducible refine ap (f:=4) rfl ?_);refine gL (some 28) rfl rfl Try.func4 (by kernel_rfl) rfl #[.slice A0 l0.length c0] rfl ?_;(with_reducible refine(iv.calls k _ _ l0 fO gn fP lT GF mF _ ?aE ?aG A3.out).mono ?_);(case aE=>repeat(first|exact d8.out|(with_reducible refine Kd.jg ?_ _)|(with_reducible refine Kd.jh ?_ _)|(with_reducible refine Kd.jo ?_)));(case aG=>exact gV.out);rintro e w9 ⟨v749,v752,v755,v759,rfl,ho0,ho1,ho2,ho3,hb⟩;refine⟨_,rfl, ?_⟩;have ef:=Ah (Kd.bD ho0 (bJ (bs HB)));have fI:=Ah (Kd.bD ho1 (bJ (bs HB)));have eg:=Ah (Kd.bD ho2 (bJ (bs HB)));have iG:=Ah (Kd.bD ho3 (bJ (bs HB)));replace HB:=Ah (aJ (bs HB) hb);(try clear hb ho0 ho1 ho2 ho3))|((with_reducible refine ao (N:=3) rfl ?_);(try(refine dM (by rfl) ?_;dsimp only));refine az 3 28 #[.slice none 0 0,.slice none 0 0,.slice none 0 0,.int .i64 0] ?_;intro yJ hg pq bj hb;replace ef:=nr ef hb;replace fI:=nr fI hb;replace eg:=nr eg hb;replace iG:=nr iG hb;have GW762:=gw hg (bs HB);have d9:=gw hg (bs HB);replace HB:=Ah (aJ (bs HB) hb);clear hb hg;obtain⟨eB,eC,uH⟩:=Kd.al ef.out;subst uH;obtain⟨tS,tT,BF,BG⟩:=b0 bj;obtain⟨sQ,sR,xF,xG⟩:=b5 bj;obtain⟨gK,g6,sk⟩:=Kd.al fI.out;subst sk;obtain⟨e7,dw,nW⟩:=Kd.al eg.out;subst nW;obtain⟨kI,jb,oK⟩:=Kd.al iG.out;subst oK)|((with_reducible refine ap (f:=5) rfl ?_);refine gL (some 36) rfl rfl Try.func5 (by kernel_rfl) rfl #[.agg #[.slice eB fO.length eC,.slice gK gn.length g6,.slice e7 fP.length dw,.int .i64 lT],.slice kI GF.length jb,.int .i64 mF] rfl ?_;(with_reducible refine(ez.calls k _ _ fO _ _ gn _ _ fP lT _ _ GF mF i9 kJ iX re rg _ ?aE ?aG ?aZ ?ab ?bT ?bc ?jq ?m4 A4.out).mono ?_);(case aE=>exact rc ef bj);(case aG=>exact(Kd.b9 ef.out).2.1);(case aZ=>exact rc fI bj);(case ab=>exact(Kd.b9 fI.out).2.1);(case bT=>exact rc eg bj);(case bc=>exact(Kd.b9 eg.out).2.1);(case jq=>exact rc iG bj);(case m4=>exact(Kd.b9 iG.out).2.1);rintro e w16 ⟨v764,v767,v770,rfl,ho0,ho1,ho2,hb⟩;refine⟨_,rfl, ?_⟩;replace iG:=nf iG bj hb;have ft:=Ah (Kd.bD (Kd.av (Kd.av ho0 (Kd.an (rf ef bj))) (Kd.an (rf eg bj))) (bJ (aM HB d9)));have gI:=Ah (Kd.bD (Kd.av ho1 (Kd.an (rf fI bj))) (bJ (aM HB d9)));replace fI:=Ah (Kd.cV (rf fI bj) (Kd.ar ho1) hb);have fu:=Ah (Kd.bD (Kd.av (Kd.av ho2 (Kd.an (rf ef bj))) (Kd.an (rf eg bj))) (bJ (aM HB d9)));replace ef:=Ah (Kd.aK (Kd.cD (Kd.cD (Kd.eu (rf ef bj) hb) (Kd.ar ho0)) (Kd.ar ho2)) (fun _ h_=>h_.1));replace eg:=Ah (Kd.aK (Kd.cD (Kd.cD (Kd.eu (rf eg bj) hb) (Kd.ar ho0)) (Kd.ar ho2)) (fun _ h_=>h_.1));replace bj:=Ah (dF (g:=yJ) (o:= .cells #[.slice eB fO.length eC,.slice gK gn.length g6,.slice e7 fP.length dw,.int .i64 lT] 28 (0,0)) (by(with_reducible repeat(first|refine a9 ?_ _|refine U ?_|refine Z ?_ _));refine aN (cs:= #[.slice eB fO.length eC,.slice gK gn.length g6,.slice e7 fP.length dw,.int .i64 0]) ?_ 3 _ rfl;(with_reducible repeat(first|refine a9 ?_ _|refine U ?_|refine Z ?_ _));refine aN (cs:= #[.slice eB fO.length eC,.slice gK gn.length g6,.slice none 0 0,.int .i64 0]) ?_ 2 _ rfl;(with_reducible repeat(first|refine a9 ?_ _|refine U ?_|refine Z ?_ _));refine aN (cs:= #[.slice eB fO.length eC,.slice none 0 0,.slice none 0 0,.int .i64 0]) ?_ 1 _ rfl;(with_reducible repeat(first|refine a9 ?_ _|refine U ?_|refine Z ?_ _));refine aN (cs:= #[.slice none 0 0,.slice none 0 0,.slice none 0 0,.int .i64 0]) ?_ 0 _ rfl;(with_reducible repeat(first|refine a9 ?_ _|refine U ?_|refine Z ?_ _));exact bj.out) hb);replace HB:=Ah (aJ (aM HB d9) hb);(try clear hb ho0 ho1 ho2))|((with_reducible refine ao (N:=6) rfl ?_);(try(refine dM (by rfl) ?_;dsimp only));refine az 6 28 #[.slice none 0 0,.slice none 0 0,.slice none 0 0,.int .i64 0] ?_;intro Nb hg uZ bp hb;replace ef:=nr ef hb;replace fI:=nr fI hb;replace eg:=nr eg hb;replace iG:=nr iG hb;replace ft:=nr ft hb;replace gI:=nr gI hb;replace fu:=nr fu hb;have GW774:=gw hg (aM HB d9);have dZ:=gw hg (aM HB d9);replace HB:=Ah (aJ (aM HB d9) hb);have ud:=nn bj hg;have wo:=nm bj hg;replace bj:=nb bj hb;clear hb hg;obtain⟨iA,iB,zE⟩:=Kd.al ft.out;subst zE;have Nc:=wo.out;have Nd:=ud.out;obtain⟨xP,xQ,Sb,MP⟩:=b0 bp;obtain⟨ut,uu,MQ,MR⟩:=b5 bp;obtain⟨pg,ph,a64⟩:=Kd.al gI.out;subst a64;obtain⟨kk,km,KY⟩:=Kd.al fu.out;subst KY;obtain⟨Dm,Dn,Do,Dp⟩:=b0 bj;obtain⟨Dq,Dr,Ds,Dt⟩:=b5 bj)|((with_reducible refine ap (f:=6) rfl ?_);refine gL (some 43) rfl rfl Try.func6 (by kernel_rfl) rfl #[.agg #[.slice eB fO.length eC,.slice gK gn.length g6,.slice e7 fP.length dw,.int .i64 lT],.slice kI GF.length jb,.int .i64 mF] rfl ?_;(with_reducible refine(f8.calls k _ _ fO _ _ gn _ _ fP lT _ _ GF mF io lU jS vp uI _ ?aE ?aG ?aZ ?ab ?bT ?bc ?jq ?m4 A5.out).mono ?_);(case aE=>exact rc ef bp);(case aG=>exact(Kd.b9 ef.out).2.1);(case aZ=>exact rc fI bp);(case ab=>exact(Kd.b9 fI.out).2.1);(case bT=>exact rc eg bp);(case bc=>exact(Kd.b9 eg.out).2.1);(case jq=>exact rc iG bp);(case m4=>exact(Kd.b9 iG.out).2.1);rintro e ks ⟨v776,v779,v782,rfl,ho0,ho1,ho2,hb⟩;refine⟨_,rfl, ?_⟩;replace iG:=nf iG bp hb;have gj:=Ah (Kd.bD (Kd.av (Kd.av (Kd.av (Kd.av ho0 (Kd.an (rf ef bp))) (Kd.an (rf eg bp))) (Kd.an (rf ft bp))) (Kd.an (rf fu bp))) (bJ (aW HB d9 dZ)));have i3:=Ah (Kd.bD (Kd.av (Kd.av ho1 (Kd.an (rf fI bp))) (Kd.an (rf gI bp))) (bJ (aW HB d9 dZ)));replace fI:=Ah (Kd.cV (rf fI bp) (Kd.ar ho1) hb);replace gI:=Ah (Kd.cV (rf gI bp) (Kd.ar ho1) hb);have gl:=Ah (Kd.bD (Kd.av (Kd.av (Kd.av (Kd.av ho2 (Kd.an (rf ef bp))) (Kd.an (rf eg bp))) (Kd.an (rf ft bp))) (Kd.an (rf fu bp))) (bJ (aW HB d9 dZ)));replace ef:=Ah (Kd.aK (Kd.cD (Kd.cD (Kd.eu (rf ef bp) hb) (Kd.ar ho0)) (Kd.ar ho2)) (fun _ h_=>h_.1));replace eg:=Ah (Kd.aK (Kd.cD (Kd.cD (Kd.eu (rf eg bp) hb) (Kd.ar ho0)) (Kd.ar ho2)) (fun _ h_=>h_.1));replace ft:=Ah (Kd.aK (Kd.cD (Kd.cD (Kd.eu (rf ft bp) hb) (Kd.ar ho0)) (Kd.ar ho2)) (fun _ h_=>h_.1));replace fu:=Ah (Kd.aK (Kd.cD (Kd.cD (Kd.eu (rf fu bp) hb) (Kd.ar ho0)) (Kd.ar ho2)) (fun _ h_=>h_.1));replace bj:=Ah (dF (bf bj ud) hb);replace bp:=Ah (dF (g:=Nb) (o:= .cells #[.slice iA i9.length iB,.slice pg kJ.length ph,.slice kk iX.length km,.int .i64 re] 28 (0,0)) (by(with_reducible repeat(first|refine a9 ?_ _|refine U ?_|refine Z ?_ _));refine aN (cs:= #[.slice iA i9.length iB,.slice pg kJ.length ph,.slice kk iX.length km,.int .i64 0]) ?_ 3 _ rfl;(with_reducible repeat(first|refine a9 ?_ _|refine U ?_|refine Z ?_ _));refine aN (cs:= #[.slice iA i9.length iB,.slice pg kJ.length ph,.slice none 0 0,.int .i64 0]) ?_ 2 _ rfl;(with_reducible repeat(first|refine a9 ?_ _|refine U ?_|refine Z ?_ _));refine aN (cs:= #[.slice iA i9.length iB,.slice none 0 0,.slice none 0 0,.int .i64 0]) ?_ 1 _ rfl;(with_reducible repeat(first|refine a9 ?_ _|refine U ?_|refine Z ?_ _));refine aN (cs:= #[.slice none 0 0,.slice none 0 0,.slice none 0 0,.int .i64 0]) ?_ 0 _ rfl;(with_reducible repeat(first|refine a9 ?_ _|refine U ?_|refine Z ?_ _));exact bp.out) hb);replace HB:=Ah (aJ (aW HB d9 dZ) hb);(try clear hb ho0 ho1 ho2))|((with_reducible refine ao (N:=8) rfl ?_);(try(refine dM (by rfl) ?_;dsimp only));refine az 8 28 #[.slice none 0 0,.slice none 0 0,.slice none 0 0,.int .i64 0] ?_;intro Nf hg AU cE hb;replace ef:=nr ef hb;replace fI:=nr fI hb;replace eg:=nr eg hb;replace iG:=nr iG hb;replace ft:=nr ft hb;replace gI:=nr gI hb;replace fu:=nr fu hb;replace gj:=nr gj hb;replace i3:=nr i3 hb;replace gl:=nr gl hb;have GW786:=gw hg (aW HB d9 dZ);have dt:=gw hg (aW HB d9 dZ);replace HB:=Ah (aJ (aW HB d9 dZ) hb);have Ap:=nn bj hg;have DC:=nm bj hg;replace bj:=nb bj hb;have ue:=nn bp hg;have wq:=nm bp hg;replace bp:=nb bp hb;clear hb hg;obtain⟨j7,ip,GG⟩:=Kd.al gj.out;subst GG;have ET:=DC.out;have EU:=Ap.out;have a3y:=wq.out;have a3z:=ue.out;obtain⟨Id,Ie,MS,MT⟩:=b0 cE;obtain⟨If,Ig,MU,MV⟩:=b5 cE;obtain⟨l9,lA,P8⟩:=Kd.al i3.out;subst P8;obtain⟨iL,iM,zF⟩:=Kd.al gl.out;subst zF;obtain⟨Dy,Dz,Sc,Sd⟩:=b0 bj;obtain⟨E0,E1,Se,Sf⟩:=b5 bj)|((with_reducible refine ap (f:=7) rfl ?_);refine gL (some 48) rfl rfl abB (by kernel_rfl) rfl #[.agg #[.slice eB fO.length eC,.slice gK gn.length g6,.slice e7 fP.length dw,.int .i64 lT]] rfl ?_;(with_reducible refine(gF.calls k _ _ fO _ _ gn _ _ fP lT P6 uJ _ ?aE ?aG ?aZ ?ab ?bT ?bc A6.out).mono ?_);(case aE=>exact rc ef cE);(case aG=>exact(Kd.b9 ef.out).2.1);(case aZ=>exact rc fI cE);(case ab=>exact(Kd.b9 fI.out).2.1);(case bT=>exact rc eg cE);(case bc=>exact(Kd.b9 eg.out).2.1);rintro e mL ⟨v788,rfl,ho0,hb⟩;refine⟨_,rfl, ?_⟩;replace fI:=nf fI cE hb;replace iG:=nf iG cE hb;replace gI:=nf gI cE hb;replace i3:=nf i3 cE hb;have lM:=Ah (Kd.bD (Kd.av (Kd.av (Kd.av (Kd.av (Kd.av (Kd.av ho0 (Kd.an (rf ef cE))) (Kd.an (rf eg cE))) (Kd.an (rf ft cE))) (Kd.an (rf fu cE))) (Kd.an (rf gj cE))) (Kd.an (rf gl cE))) (bJ (be HB d9 dZ dt)));replace ef:=Ah (Kd.cV (rf ef cE) (Kd.ar ho0) hb);replace eg:=Ah (Kd.cV (rf eg cE) (Kd.ar ho0) hb);replace ft:=Ah (Kd.cV (rf ft cE) (Kd.ar ho0) hb);replace fu:=Ah (Kd.cV (rf fu cE) (Kd.ar ho0) hb);replace gj:=Ah (Kd.cV (rf gj cE) (Kd.ar ho0) hb);replace gl:=Ah (Kd.cV (rf gl cE) (Kd.ar ho0) hb);replace bj:=Ah (dF (bf bj Ap) hb);replace bp:=Ah (dF (bf bp ue) hb);replace cE:=Ah (dF (g:=Nf) (o:= .cells #[.slice j7 io.length ip,.slice l9 lU.length lA,.slice iL jS.length iM,.int .i64 vp] 28 (0,0)) (by(with_reducible repeat(first|refine a9 ?_ _|refine U ?_|refine Z ?_ _));refine aN (cs:= #[.slice j7 io.length ip,.slice l9 lU.length lA,.slice iL jS.length iM,.int .i64 0]) ?_ 3 _ rfl;(with_reducible repeat(first|refine a9 ?_ _|refine U ?_|refine Z ?_ _));refine aN (cs:= #[.slice j7 io.length ip,.slice l9 lU.length lA,.slice none 0 0,.int .i64 0]) ?_ 2 _ rfl;(with_reducible repeat(first|refine a9 ?_ _|refine U ?_|refine Z ?_ _));refine aN (cs:= #[.slice j7 io.length ip,.slice none 0 0,.slice none 0 0,.int .i64 0]) ?_ 1 _ rfl;(with_reducible repeat(first|refine a9 ?_ _|refine U ?_|refine Z ?_ _));refine aN (cs:= #[.slice none 0 0,.slice none 0 0,.slice none 0 0,.int .i64 0]) ?_ 0 _ rfl;(with_reducible repeat(first|refine a9 ?_ _|refine U ?_|refine Z ?_ _));exact cE.out) hb);replace HB:=Ah (aJ (be HB d9 dZ dt) hb);(try clear hb ho0);obtain⟨E2,E3,MW,MX⟩:=b0 bj;obtain⟨E4,E5,MY,MZ⟩:=b5 bj)|((with_reducible refine ap (f:=8) rfl ?_);refine gL (some 53) rfl rfl Try.func8 (by kernel_rfl) rfl #[.agg #[.slice eB fO.length eC,.slice gK gn.length g6,.slice e7 fP.length dw,.int .i64 lT]] rfl ?_;(with_reducible refine(n5.calls k _ _ fO _ _ gn _ _ fP lT P7 sj _ ?aE ?aG ?aZ ?ab ?bT ?bc A7.out).mono ?_);(case aE=>exact bi ef);(case aG=>exact(Kd.b9 ef.out).2.1);(case aZ=>exact bi fI);(case ab=>exact(Kd.b9 fI.out).2.1);(case bT=>exact bi eg);(case bc=>exact(Kd.b9 eg.out).2.1);rintro e Hh ⟨v792,rfl,ho0,hb⟩;refine⟨_,rfl, ?_⟩;replace fI:=nr fI hb;replace iG:=nr iG hb;replace gI:=nr gI hb;replace i3:=nr i3 hb;have mU:=Ah (Kd.bD (Kd.av (Kd.av (Kd.av (Kd.av (Kd.av (Kd.av (Kd.av ho0 (Kd.an (rr ef.out))) (Kd.an (rr eg.out))) (Kd.an (rr ft.out))) (Kd.an (rr fu.out))) (Kd.an (rr gj.out))) (Kd.an (rr gl.out))) (Kd.an (rr lM.out))) (bJ (be HB d9 dZ dt)));replace ef:=Ah (Kd.cV (rr ef.out) (Kd.ar ho0) hb);replace eg:=Ah (Kd.cV (rr eg.out) (Kd.ar ho0) hb);replace ft:=Ah (Kd.cV (rr ft.out) (Kd.ar ho0) hb);replace fu:=Ah (Kd.cV (rr fu.out) (Kd.ar ho0) hb);replace gj:=Ah (Kd.cV (rr gj.out) (Kd.ar ho0) hb);replace gl:=Ah (Kd.cV (rr gl.out) (Kd.ar ho0) hb);replace lM:=Ah (Kd.cV (rr lM.out) (Kd.ar ho0) hb);replace bj:=nb bj hb;replace bp:=nb bp hb;replace cE:=nb cE hb;replace HB:=Ah (aJ (be HB d9 dZ dt) hb);(try clear hb ho0)))
 (try simp only[Act.put,JM,jG,kt])
 go_cut [81] (fun v81 wc=>∃ (kq:Nat) (Jl:Bool),v81= .bool Jl∧aC (dE.j0 kq mF rg Jl fO gn fP lT i9 kJ iX re=some r)∧aC (kq≤k)∧aC (Kd.R Kd.string 9 wc w.heap.size (fun k_=>some k_≠((.slice e7 fP.length dw):Value).ownBlock∧some k_≠((.slice iA i9.length iB):Value).ownBlock∧some k_≠((.slice kk iX.length km):Value).ownBlock∧some k_≠((.slice j7 io.length ip):Value).ownBlock∧some k_≠((.slice iL jS.length iM):Value).ownBlock) (.slice eB fO.length eC) fO)∧aC (Kd.R bS 64 wc w.heap.size (fun k_=>some k_≠((.slice pg kJ.length ph):Value).ownBlock∧some k_≠((.slice l9 lU.length lA):Value).ownBlock) (.slice gK gn.length g6) gn)∧aC (Kd.R Kd.string 9 wc w.heap.size (fun k_=>some k_≠((.slice eB fO.length eC):Value).ownBlock∧some k_≠((.slice iA i9.length iB):Value).ownBlock∧some k_≠((.slice kk iX.length km):Value).ownBlock∧some k_≠((.slice j7 io.length ip):Value).ownBlock∧some k_≠((.slice iL jS.length iM):Value).ownBlock) (.slice e7 fP.length dw) fP)∧aC (Kd.R Kd.string 9 wc w.heap.size (fun k_=>some k_≠((.slice eB fO.length eC):Value).ownBlock∧some k_≠((.slice e7 fP.length dw):Value).ownBlock∧some k_≠((.slice kk iX.length km):Value).ownBlock∧some k_≠((.slice j7 io.length ip):Value).ownBlock∧some k_≠((.slice iL jS.length iM):Value).ownBlock) (.slice iA i9.length iB) i9)∧aC (Kd.R bS 64 wc w.heap.size (fun k_=>some k_≠((.slice gK gn.length g6):Value).ownBlock∧some k_≠((.slice l9 lU.length lA):Value).ownBlock) (.slice pg kJ.length ph) kJ)∧aC (Kd.R Kd.string 9 wc w.heap.size (fun k_=>some k_≠((.slice eB fO.length eC):Value).ownBlock∧some k_≠((.slice e7 fP.length dw):Value).ownBlock∧some k_≠((.slice iA i9.length iB):Value).ownBlock∧some k_≠((.slice j7 io.length ip):Value).ownBlock∧some k_≠((.slice iL jS.length iM):Value).ownBlock) (.slice kk iX.length km) iX)∧aC (Kd.R Kd.string 9 wc w.heap.size (fun k_=>some k_≠((.slice eB fO.length eC):Value).ownBlock∧some k_≠((.slice e7 fP.length dw):Value).ownBlock∧some k_≠((.slice iA i9.length iB):Value).ownBlock∧some k_≠((.slice kk iX.length km):Value).ownBlock∧some k_≠((.slice iL jS.length iM):Value).ownBlock) (.slice j7 io.length ip) io)∧aC (Kd.R bS 64 wc w.heap.size (fun k_=>some k_≠((.slice gK gn.length g6):Value).ownBlock∧some k_≠((.slice pg kJ.length ph):Value).ownBlock) (.slice l9 lU.length lA) lU)∧aC (Kd.R Kd.string 9 wc w.heap.size (fun k_=>some k_≠((.slice eB fO.length eC):Value).ownBlock∧some k_≠((.slice e7 fP.length dw):Value).ownBlock∧some k_≠((.slice iA i9.length iB):Value).ownBlock∧some k_≠((.slice kk iX.length km):Value).ownBlock∧some k_≠((.slice j7 io.length ip):Value).ownBlock) (.slice iL jS.length iM) jS)∧aC (wc.heap[yJ]?=some (.cells #[(.slice eB fO.length eC),(.slice gK gn.length g6),(.slice e7 fP.length dw),.int .i64 lT] 28 (0,0)))∧aC (wc.heap[Nb]?=some (.cells #[(.slice iA i9.length iB),(.slice pg kJ.length ph),(.slice kk iX.length km),.int .i64 re] 28 (0,0)))∧aC (wc.heap[Nf]?=some (.cells #[(.slice j7 io.length ip),(.slice l9 lU.length lA),(.slice iL jS.length iM),.int .i64 vp] 28 (0,0)))∧aC (Below w.heap.size w wc))
 case first=>
  have H:=R0.out;clear R0
  by_cases mM:(rg !=uI)=true
  ·
   rw[if_pos mM]at H;have yK:(rg !=uI)=true:=mM;(try(have Uj:decide (rg=uI)=false:=by simpa using mM));(try(have Jm:(rg==uI)=false:=by simpa using mM));(try(have c36b3:¬(rg=uI):=by simpa using mM));clear mM;(first|rw[yK]|(simp only[dD,dP];rw[yK])|(simp only[Jm,aaU,aaT])|skip);have H':=Ah H;clear H
   go_wp2
   go_meet
   case rel=>exact⟨_,(true),e3,H',⟨by first|omega|exact mz _⟩,rm ef (fun _ hk=>⟨hk.1.1.1.1.1.1,⟨hk.1.1.1.1.1.2,⟨hk.1.1.1.1.2,⟨hk.1.1.1.2,hk.1.1.2⟩⟩⟩⟩),rm fI (fun _ hk=>⟨hk.1.2,hk.2⟩),rm eg (fun _ hk=>⟨hk.1.1.1.1.1.1,⟨hk.1.1.1.1.1.2,⟨hk.1.1.1.1.2,⟨hk.1.1.1.2,hk.1.1.2⟩⟩⟩⟩),rm ft (fun _ hk=>⟨hk.1.1.1.1.1.2,⟨hk.1.1.1.1.2,⟨hk.1.1.1.1.1.1,⟨hk.1.1.1.2,hk.1.1.2⟩⟩⟩⟩),rm gI (fun _ hk=>⟨hk.1.2,hk.2⟩),rm fu (fun _ hk=>⟨hk.1.1.1.1.1.2,⟨hk.1.1.1.1.2,⟨hk.1.1.1.1.1.1,⟨hk.1.1.1.2,hk.1.1.2⟩⟩⟩⟩),rm gj (fun _ hk=>⟨hk.1.1.1.1.1.2,⟨hk.1.1.1.1.2,⟨hk.1.1.1.2,⟨hk.1.1.2,hk.1.1.1.1.1.1⟩⟩⟩⟩),rm i3 (fun _ hk=>⟨hk.1.2,hk.2⟩),rm gl (fun _ hk=>⟨hk.1.1.1.1.1.2,⟨hk.1.1.1.1.2,⟨hk.1.1.1.2,⟨hk.1.1.2,hk.1.1.1.1.1.1⟩⟩⟩⟩),⟨bk bj⟩,⟨bk bp⟩,⟨bk cE⟩,⟨be HB d9 dZ dt⟩⟩
  rw[if_neg mM]at H
  have yK:(rg !=uI)=false:=by simpa using mM
  (try(have Uj:decide (rg=uI)=true:=by simpa using mM));(try(have Jm:(rg==uI)=true:=by simpa using mM));clear mM;(first|rw[yK]|(simp only[dD,dP];rw[yK])|(simp only[Jm,aaU,aaT])|skip);replace H:=He.mp H;obtain⟨GD,GH,H⟩:=H
  try dsimp only at H
  have Ck:=Ah GH;clear GH
  by_cases t0:GD=true
  rotate_left
  ·
   replace t0:=dW.mpr t0;subst t0;rw[if_neg cg]at H;have H':=Ah H;clear H;have a3A:=wo.out;have a3B:=ud.out;have Uk:=ue.out;have Ul:=wq.out;obtain⟨Ih,Ii,Ma,Mb⟩:=b0 bp;obtain⟨Ij,Ik,Mc,Md⟩:=b5 bp;have hnb70:=DC.out;have hnc70:=Ap.out;obtain⟨Sg,Sh,Si,Sj⟩:=b0 cE;obtain⟨Sk,Sl,Sm,Sn⟩:=b5 cE
   go_wp2_with (first|(go_at_call 9;(with_reducible refine(lG.calls k _ _ i9 _ _ kJ _ _ iX re _ _ io _ _ lU _ _ jS vp false _ ?aE ?aG ?aZ ?ab ?bT ?bc ?jq ?m4 ?th ?td ?te ?tf Ck.out).mono ?_);(case aE=>exact bi ft);(case aG=>exact(Kd.b9 ft.out).2.1);(case aZ=>exact bi gI);(case ab=>exact(Kd.b9 gI.out).2.1);(case bT=>exact bi fu);(case bc=>exact(Kd.b9 fu.out).2.1);(case jq=>exact bi gj);(case m4=>exact(Kd.b9 gj.out).2.1);(case th=>exact bi i3);(case td=>exact(Kd.b9 i3.out).2.1);(case te=>exact bi gl);(case tf=>exact(Kd.b9 gl.out).2.1);rintro e w72 ⟨rfl,hb⟩;replace ef:=nr ef hb;replace fI:=nr fI hb;replace eg:=nr eg hb;replace iG:=nr iG hb;replace ft:=nr ft hb;replace gI:=nr gI hb;replace fu:=nr fu hb;replace gj:=nr gj hb;replace i3:=nr i3 hb;replace gl:=nr gl hb;replace lM:=nr lM hb;replace mU:=nr mU hb;replace bj:=nb bj hb;replace bp:=nb bp hb;replace cE:=nb cE hb;replace HB:=Ah (aJ (be HB d9 dZ dt) hb);(try clear hb)))
   go_meet
   case rel=>exact⟨_,(true),e3,H',⟨by first|omega|exact mz _⟩,rm ef (fun _ hk=>⟨hk.1.1.1.1.1.1,⟨hk.1.1.1.1.1.2,⟨hk.1.1.1.1.2,⟨hk.1.1.1.2,hk.1.1.2⟩⟩⟩⟩),rm fI (fun _ hk=>⟨hk.1.2,hk.2⟩),rm eg (fun _ hk=>⟨hk.1.1.1.1.1.1,⟨hk.1.1.1.1.1.2,⟨hk.1.1.1.1.2,⟨hk.1.1.1.2,hk.1.1.2⟩⟩⟩⟩),rm ft (fun _ hk=>⟨hk.1.1.1.1.1.2,⟨hk.1.1.1.1.2,⟨hk.1.1.1.1.1.1,⟨hk.1.1.1.2,hk.1.1.2⟩⟩⟩⟩),rm gI (fun _ hk=>⟨hk.1.2,hk.2⟩),rm fu (fun _ hk=>⟨hk.1.1.1.1.1.2,⟨hk.1.1.1.1.2,⟨hk.1.1.1.1.1.1,⟨hk.1.1.1.2,hk.1.1.2⟩⟩⟩⟩),rm gj (fun _ hk=>⟨hk.1.1.1.1.1.2,⟨hk.1.1.1.1.2,⟨hk.1.1.1.2,⟨hk.1.1.2,hk.1.1.1.1.1.1⟩⟩⟩⟩),rm i3 (fun _ hk=>⟨hk.1.2,hk.2⟩),rm gl (fun _ hk=>⟨hk.1.1.1.1.1.2,⟨hk.1.1.1.1.2,⟨hk.1.1.1.2,⟨hk.1.1.2,hk.1.1.1.1.1.1⟩⟩⟩⟩),⟨bk bj⟩,⟨bk bp⟩,⟨bk cE⟩,⟨be HB d9 dZ dt⟩⟩
  subst t0;rw[if_pos rfl]at H
  by_cases qe:(uJ !=sj)=true
  ·
   rw[if_pos qe]at H;have Um:(uJ !=sj)=true:=qe;(try(have Un:decide (uJ=sj)=false:=by simpa using qe));(try(have Uo:(uJ==sj)=false:=by simpa using qe));(try(have c39b3:¬(uJ=sj):=by simpa using qe));clear qe;have H':=Ah H;clear H;have Up:=wo.out;have Uq:=ud.out;have a3C:=ue.out;have a3D:=wq.out;obtain⟨Il,Im,So,Sp⟩:=b0 bp;obtain⟨In,Io,Sq,Sr⟩:=b5 bp;have Ur:=DC.out;have Us:=Ap.out;obtain⟨E6,Ip,Iq,Ir⟩:=b0 cE;obtain⟨E7,Is,It,Iu⟩:=b5 cE
   go_wp2_with (first|(go_at_call 9;(with_reducible refine(lG.calls k _ _ i9 _ _ kJ _ _ iX re _ _ io _ _ lU _ _ jS vp true _ ?aE ?aG ?aZ ?ab ?bT ?bc ?jq ?m4 ?th ?td ?te ?tf Ck.out).mono ?_);(case aE=>exact bi ft);(case aG=>exact(Kd.b9 ft.out).2.1);(case aZ=>exact bi gI);(case ab=>exact(Kd.b9 gI.out).2.1);(case bT=>exact bi fu);(case bc=>exact(Kd.b9 fu.out).2.1);(case jq=>exact bi gj);(case m4=>exact(Kd.b9 gj.out).2.1);(case th=>exact bi i3);(case td=>exact(Kd.b9 i3.out).2.1);(case te=>exact bi gl);(case tf=>exact(Kd.b9 gl.out).2.1);rintro e Kz ⟨rfl,hb⟩;replace ef:=nr ef hb;replace fI:=nr fI hb;replace eg:=nr eg hb;replace iG:=nr iG hb;replace ft:=nr ft hb;replace gI:=nr gI hb;replace fu:=nr fu hb;replace gj:=nr gj hb;replace i3:=nr i3 hb;replace gl:=nr gl hb;replace lM:=nr lM hb;replace mU:=nr mU hb;replace bj:=nb bj hb;replace bp:=nb bp hb;replace cE:=nb cE hb;replace HB:=Ah (aJ (be HB d9 dZ dt) hb);(try clear hb)))
   go_meet
   case rel=>exact⟨_,(true),e3,H',⟨by first|omega|exact mz _⟩,rm ef (fun _ hk=>⟨hk.1.1.1.1.1.1,⟨hk.1.1.1.1.1.2,⟨hk.1.1.1.1.2,⟨hk.1.1.1.2,hk.1.1.2⟩⟩⟩⟩),rm fI (fun _ hk=>⟨hk.1.2,hk.2⟩),rm eg (fun _ hk=>⟨hk.1.1.1.1.1.1,⟨hk.1.1.1.1.1.2,⟨hk.1.1.1.1.2,⟨hk.1.1.1.2,hk.1.1.2⟩⟩⟩⟩),rm ft (fun _ hk=>⟨hk.1.1.1.1.1.2,⟨hk.1.1.1.1.2,⟨hk.1.1.1.1.1.1,⟨hk.1.1.1.2,hk.1.1.2⟩⟩⟩⟩),rm gI (fun _ hk=>⟨hk.1.2,hk.2⟩),rm fu (fun _ hk=>⟨hk.1.1.1.1.1.2,⟨hk.1.1.1.1.2,⟨hk.1.1.1.1.1.1,⟨hk.1.1.1.2,hk.1.1.2⟩⟩⟩⟩),rm gj (fun _ hk=>⟨hk.1.1.1.1.1.2,⟨hk.1.1.1.1.2,⟨hk.1.1.1.2,⟨hk.1.1.2,hk.1.1.1.1.1.1⟩⟩⟩⟩),rm i3 (fun _ hk=>⟨hk.1.2,hk.2⟩),rm gl (fun _ hk=>⟨hk.1.1.1.1.1.2,⟨hk.1.1.1.1.2,⟨hk.1.1.1.2,⟨hk.1.1.2,hk.1.1.1.1.1.1⟩⟩⟩⟩),⟨bk bj⟩,⟨bk bp⟩,⟨bk cE⟩,⟨be HB d9 dZ dt⟩⟩
  rw[if_neg qe]at H
  have Um:(uJ !=sj)=false:=by simpa using qe
  (try(have Un:decide (uJ=sj)=true:=by simpa using qe));(try(have Uo:(uJ==sj)=true:=by simpa using qe));clear qe;replace H:=He.mp H;obtain⟨GE,Wx,H⟩:=H
  try dsimp only at H
  have YO:=Ah Wx;clear Wx
  by_cases Hi:GE=true
  rotate_left
  ·
   replace Hi:=dW.mpr Hi;subst Hi;rw[if_neg cg]at H;have H':=Ah H;clear H;have a3E:=wo.out;have a3F:=ud.out;have a3G:=ue.out;have a3H:=wq.out;obtain⟨Me,Mf,Ss,St⟩:=b0 bp;obtain⟨Mg,Mh,Su,Sv⟩:=b5 bp;have a3I:=DC.out;have a3J:=Ap.out;obtain⟨Sw,Sx,Sy,Sz⟩:=b0 cE;obtain⟨T0,T2,T9,TA⟩:=b5 cE
   go_wp2_with (first|(go_at_call 9;(with_reducible refine(lG.calls k _ _ i9 _ _ kJ _ _ iX re _ _ io _ _ lU _ _ jS vp true _ ?aE ?aG ?aZ ?ab ?bT ?bc ?jq ?m4 ?th ?td ?te ?tf Ck.out).mono ?_);(case aE=>exact bi ft);(case aG=>exact(Kd.b9 ft.out).2.1);(case aZ=>exact bi gI);(case ab=>exact(Kd.b9 gI.out).2.1);(case bT=>exact bi fu);(case bc=>exact(Kd.b9 fu.out).2.1);(case jq=>exact bi gj);(case m4=>exact(Kd.b9 gj.out).2.1);(case th=>exact bi i3);(case td=>exact(Kd.b9 i3.out).2.1);(case te=>exact bi gl);(case tf=>exact(Kd.b9 gl.out).2.1);rintro e dO ⟨rfl,hb⟩;replace ef:=nr ef hb;replace fI:=nr fI hb;replace eg:=nr eg hb;replace iG:=nr iG hb;replace ft:=nr ft hb;replace gI:=nr gI hb;replace fu:=nr fu hb;replace gj:=nr gj hb;replace i3:=nr i3 hb;replace gl:=nr gl hb;replace lM:=nr lM hb;replace mU:=nr mU hb;replace bj:=nb bj hb;replace bp:=nb bp hb;replace cE:=nb cE hb;replace HB:=Ah (aJ (be HB d9 dZ dt) hb);(try clear hb);obtain⟨sl,sm,C7⟩:=Kd.al lM.out;subst C7;obtain⟨Ao66,co66,a65⟩:=Kd.al mU.out;subst a65)|(go_at_call 10;(with_reducible refine(eV.calls k _ _ P6 _ _ P7 false _ ?aE ?aG ?aZ ?ab YO.out).mono ?_);(case aE=>exact bi lM);(case aG=>exact(Kd.b9 lM.out).2.1);(case aZ=>exact bi mU);(case ab=>exact(Kd.b9 mU.out).2.1);rintro e w' ⟨rfl,⟨nd,rfl⟩⟩))
   go_meet
   case rel=>exact⟨_,(true),e3,H',⟨by first|omega|exact mz _⟩,rm ef (fun _ hk=>⟨hk.1.1.1.1.1.1,⟨hk.1.1.1.1.1.2,⟨hk.1.1.1.1.2,⟨hk.1.1.1.2,hk.1.1.2⟩⟩⟩⟩),rm fI (fun _ hk=>⟨hk.1.2,hk.2⟩),rm eg (fun _ hk=>⟨hk.1.1.1.1.1.1,⟨hk.1.1.1.1.1.2,⟨hk.1.1.1.1.2,⟨hk.1.1.1.2,hk.1.1.2⟩⟩⟩⟩),rm ft (fun _ hk=>⟨hk.1.1.1.1.1.2,⟨hk.1.1.1.1.2,⟨hk.1.1.1.1.1.1,⟨hk.1.1.1.2,hk.1.1.2⟩⟩⟩⟩),rm gI (fun _ hk=>⟨hk.1.2,hk.2⟩),rm fu (fun _ hk=>⟨hk.1.1.1.1.1.2,⟨hk.1.1.1.1.2,⟨hk.1.1.1.1.1.1,⟨hk.1.1.1.2,hk.1.1.2⟩⟩⟩⟩),rm gj (fun _ hk=>⟨hk.1.1.1.1.1.2,⟨hk.1.1.1.1.2,⟨hk.1.1.1.2,⟨hk.1.1.2,hk.1.1.1.1.1.1⟩⟩⟩⟩),rm i3 (fun _ hk=>⟨hk.1.2,hk.2⟩),rm gl (fun _ hk=>⟨hk.1.1.1.1.1.2,⟨hk.1.1.1.1.2,⟨hk.1.1.1.2,⟨hk.1.1.2,hk.1.1.1.1.1.1⟩⟩⟩⟩),⟨bk bj⟩,⟨bk bp⟩,⟨bk cE⟩,⟨be HB d9 dZ dt⟩⟩
  subst Hi;rw[if_pos rfl]at H;replace H:=He.mp H;obtain⟨C6,Wy,H⟩:=H
  try dsimp only at H
  have A48:=Ah Wy;clear Wy;have H':=Ah H;clear H;have Ut:=wo.out;have Uu:=ud.out;have Uv:=ue.out;have Uw:=wq.out;obtain⟨TB,TC,TD,TE⟩:=b0 bp;obtain⟨TF,TG,TH,TI⟩:=b5 bp;have hnb52:=DC.out;have hnc52:=Ap.out;obtain⟨Iv,Iw,Mi,Mj⟩:=b0 cE;obtain⟨Ix,Iy,Mk,Ml⟩:=b5 cE
  go_wp2_with (first|(go_at_call 9;(with_reducible refine(lG.calls k _ _ i9 _ _ kJ _ _ iX re _ _ io _ _ lU _ _ jS vp true _ ?aE ?aG ?aZ ?ab ?bT ?bc ?jq ?m4 ?th ?td ?te ?tf Ck.out).mono ?_);(case aE=>exact bi ft);(case aG=>exact(Kd.b9 ft.out).2.1);(case aZ=>exact bi gI);(case ab=>exact(Kd.b9 gI.out).2.1);(case bT=>exact bi fu);(case bc=>exact(Kd.b9 fu.out).2.1);(case jq=>exact bi gj);(case m4=>exact(Kd.b9 gj.out).2.1);(case th=>exact bi i3);(case td=>exact(Kd.b9 i3.out).2.1);(case te=>exact bi gl);(case tf=>exact(Kd.b9 gl.out).2.1);rintro e R1 ⟨rfl,hb⟩;replace ef:=nr ef hb;replace fI:=nr fI hb;replace eg:=nr eg hb;replace iG:=nr iG hb;replace ft:=nr ft hb;replace gI:=nr gI hb;replace fu:=nr fu hb;replace gj:=nr gj hb;replace i3:=nr i3 hb;replace gl:=nr gl hb;replace lM:=nr lM hb;replace mU:=nr mU hb;replace bj:=nb bj hb;replace bp:=nb bp hb;replace cE:=nb cE hb;replace HB:=Ah (aJ (be HB d9 dZ dt) hb);(try clear hb);obtain⟨vq,vr,P9⟩:=Kd.al lM.out;subst P9;obtain⟨kK,kL,GI⟩:=Kd.al mU.out;subst GI)|(go_at_call 10;(with_reducible refine(eV.calls k _ _ P6 _ _ P7 true _ ?aE ?aG ?aZ ?ab YO.out).mono ?_);(case aE=>exact bi lM);(case aG=>exact(Kd.b9 lM.out).2.1);(case aZ=>exact bi mU);(case ab=>exact(Kd.b9 mU.out).2.1);rintro e w' ⟨rfl,⟨nd,rfl⟩⟩;obtain⟨Mm,Mn,TJ,TK⟩:=b0 bj;obtain⟨Mo,Mp,TL,TM⟩:=b5 bj)|(go_at_call 11;(with_reducible refine(db.calls k _ _ fO _ _ gn _ _ fP lT C6 _ ?aE ?aG ?aZ ?ab ?bT ?bc A48.out).mono ?_);(case aE=>exact bi ef);(case aG=>exact(Kd.b9 ef.out).2.1);(case aZ=>exact bi fI);(case ab=>exact(Kd.b9 fI.out).2.1);(case bT=>exact bi eg);(case bc=>exact(Kd.b9 eg.out).2.1);rintro e YP ⟨rfl,hb⟩;replace ef:=nr ef hb;replace fI:=nr fI hb;replace eg:=nr eg hb;replace iG:=nr iG hb;replace ft:=nr ft hb;replace gI:=nr gI hb;replace fu:=nr fu hb;replace gj:=nr gj hb;replace i3:=nr i3 hb;replace gl:=nr gl hb;replace lM:=nr lM hb;replace mU:=nr mU hb;replace bj:=nb bj hb;replace bp:=nb bp hb;replace cE:=nb cE hb;replace HB:=Ah (aJ (be HB d9 dZ dt) hb);(try clear hb)))
  go_meet
  case rel=>exact⟨_,((C6 !=sj)),e3,H',⟨by first|omega|exact mz _⟩,rm ef (fun _ hk=>⟨hk.1.1.1.1.1.1,⟨hk.1.1.1.1.1.2,⟨hk.1.1.1.1.2,⟨hk.1.1.1.2,hk.1.1.2⟩⟩⟩⟩),rm fI (fun _ hk=>⟨hk.1.2,hk.2⟩),rm eg (fun _ hk=>⟨hk.1.1.1.1.1.1,⟨hk.1.1.1.1.1.2,⟨hk.1.1.1.1.2,⟨hk.1.1.1.2,hk.1.1.2⟩⟩⟩⟩),rm ft (fun _ hk=>⟨hk.1.1.1.1.1.2,⟨hk.1.1.1.1.2,⟨hk.1.1.1.1.1.1,⟨hk.1.1.1.2,hk.1.1.2⟩⟩⟩⟩),rm gI (fun _ hk=>⟨hk.1.2,hk.2⟩),rm fu (fun _ hk=>⟨hk.1.1.1.1.1.2,⟨hk.1.1.1.1.2,⟨hk.1.1.1.1.1.1,⟨hk.1.1.1.2,hk.1.1.2⟩⟩⟩⟩),rm gj (fun _ hk=>⟨hk.1.1.1.1.1.2,⟨hk.1.1.1.1.2,⟨hk.1.1.1.2,⟨hk.1.1.2,hk.1.1.1.1.1.1⟩⟩⟩⟩),rm i3 (fun _ hk=>⟨hk.1.2,hk.2⟩),rm gl (fun _ hk=>⟨hk.1.1.1.1.1.2,⟨hk.1.1.1.1.2,⟨hk.1.1.1.2,⟨hk.1.1.2,hk.1.1.1.1.1.1⟩⟩⟩⟩),⟨bk bj⟩,⟨bk bp⟩,⟨bk cE⟩,⟨be HB d9 dZ dt⟩⟩
 case rest=>
  clear R0
  try clear c1
  try clear c2
  try clear si
  try clear vo
  try clear p2
  try clear c3
  try clear c4
  try clear c5
  try clear c6
  try clear c7
  try clear c8
  try clear c19
  try clear YQ
  try clear c28
  try clear mM
  try clear yK
  try clear Uj
  try clear Jm
  try clear t0
  try clear qe
  try clear Um
  try clear Un
  try clear Uo
  try clear c40
  try clear c41
  try clear c43
  try clear Hi
  try clear c49
  try clear c50
  try clear c52
  try clear c59
  try clear Hj
  try clear c62
  try clear c67
  try clear c68
  try clear c70
  try clear tS tT BF BG
  try clear xP xQ Sb MP
  try clear Dm Dn Do Dp
  try clear Id Ie MS MT
  try clear Dy Dz Sc Sd
  try clear E2 E3 MW MX
  try clear Il Im So Sp
  try clear E6 Ip Iq Ir
  try clear TB TC TD TE
  try clear Iv Iw Mi Mj
  try clear Mm Mn TJ TK
  try clear Me Mf Ss St
  try clear Sw Sx Sy Sz
  try clear Ih Ii Ma Mb
  try clear Sg Sh Si Sj
  try clear sQ sR xF xG
  try clear ut uu MQ MR
  try clear Dq Dr Ds Dt
  try clear If Ig MU MV
  try clear E0 E1 Se Sf
  try clear E4 E5 MY MZ
  try clear In Io Sq Sr
  try clear E7 Is It Iu
  try clear TF TG TH TI
  try clear Ix Iy Mk Ml
  try clear Mo Mp TL TM
  try clear Mg Mh Su Sv
  try clear T0 T2 T9 TA
  try clear Ij Ik Mc Md
  try clear Sk Sl Sm Sn
  obtain⟨kq,Jl,rfl,HA,Cl,fF,fy,f9,fG,fz,fH,fX,gH,fY,bj,bp,cE,HB⟩:=hcut
  cases kq with
  |zero=>exact absurd HA.out (by simp[dE.j0])
  |succ nq=>
   have H:=HA.out;clear HA;simp only[dE.j0]at H
   by_cases Hk:Jl=true
   ·
    subst Hk;rw[if_pos rfl]at H;obtain rfl:=fl H
    go_wp2
    go_ret
    exact⟨er,be HB d9 dZ dt⟩
   replace Hk:=dW.mpr Hk;subst Hk;rw[if_neg cg]at H
   by_cases Hl:rg=true
   rotate_left
   ·
    replace Hl:=dW.mpr Hl;subst Hl;rw[if_neg cg]at H;obtain rfl:=fl H;have hnb163:=wo.out;have hnc163:=ud.out;have hnb164:=ue.out;have hnc164:=wq.out;obtain⟨a0m,a0n,a0o,a0p⟩:=b0 bp;obtain⟨a0q,a0r,a0s,a0t⟩:=b5 bp
    go_wp2
    go_ret
    exact⟨er,be HB d9 dZ dt⟩
   subst Hl;rw[if_pos rfl]at H;replace H:=He.mp H;obtain⟨⟨iN,j8,gS,mG,PA⟩,Wz,H⟩:=H
   try dsimp only at H
   have A75:=Ah Wz;clear Wz;replace H:=He.mp H;obtain⟨⟨GJ,PB⟩,X0,H⟩:=H
   try dsimp only at H
   have A76:=Ah X0;clear X0
   by_cases Cm:0≤mF
   rotate_left
   ·
    rw[if_neg Cm]at H;exact absurd H (by simp)
   rw[if_pos Cm]at H;have a3K:=eq_true Cm;have a3L:decide (0≤mF)=true:=decide_eq_true Cm;clear Cm
   by_cases Cn:mF≤(fP.length:Int)
   rotate_left
   ·
    rw[if_neg Cn]at H;exact absurd H (by simp)
   rw[if_pos Cn]at H;have a3M:=eq_true Cn;have a3N:decide (mF≤(fP.length:Int))=true:=decide_eq_true Cn;clear Cn;obtain⟨zG,EV⟩:∃y_:List ByteArray,y_=(fP.take (mF:Int).toNat):=⟨_,rfl⟩
   replace H:((gF.f nq fO gn zG lT).bind fun EQ=>(if PA=true then(if PB=true then(if EQ.2=true then((eV.f nq GJ EQ.1).bind fun GC=>(if GC=true then(if(gS.length:Int)=0 then(dE.j1 nq ((j8.length:Int) !=0) iN j8 gS mG)else(dE.j1 nq true iN j8 gS mG))else(dE.j1 nq true iN j8 gS mG)))else(dE.j1 nq true iN j8 gS mG))else(dE.j1 nq true iN j8 gS mG))else(dE.j1 nq true iN j8 gS mG)))=some r:=by first|(rw[EV];with_reducible exact H)|(have ak:=(Ok _ _).symm.trans H;rw[EV];with_reducible exact ak)|(have ak:=(Ok _ _).symm.trans H;with_reducible exact ak)|with_reducible exact H|(rw[EV];exact H)|exact H
   have Ng:=Ah EV;clear EV;replace H:=He.mp H;obtain⟨⟨KZ,X1⟩,X2,H⟩:=H
   try dsimp only at H
   have A79:=Ah X2;clear X2;have PC:=Ah H;clear H;have hnb81:=wo.out;have hnc81:=ud.out;have hnb82:=ue.out;have hnc82:=wq.out;obtain⟨a1g,a1h,a1i,a1j⟩:=b0 bp;obtain⟨a1k,a1l,a1m,a1n⟩:=b5 bp
   try go_wp2_with (first|((with_reducible refine ap (f:=12) rfl ?_);refine gL (some 90) rfl rfl Try.func12 (by kernel_rfl) rfl #[.agg #[.slice iA i9.length iB,.slice pg kJ.length ph,.slice kk iX.length km,.int .i64 re]] rfl ?_;(with_reducible refine(mN.calls nq _ _ i9 _ _ kJ _ _ iX re iN j8 gS mG PA _ ?aE ?aG ?aZ ?ab ?bT ?bc A75.out).mono ?_);(case aE=>exact bi fG);(case aG=>exact(Kd.b9 fG.out).2.1);(case aZ=>exact bi fz);(case ab=>exact(Kd.b9 fz.out).2.1);(case bT=>exact bi fH);(case bc=>exact(Kd.b9 fH.out).2.1);rintro e w84 ⟨v799,v802,v805,rfl,ho0,ho1,ho2,hb⟩;refine⟨_,rfl, ?_⟩;have jW:=Ah (Kd.bD (Kd.av (Kd.av (Kd.av (Kd.av (Kd.av (Kd.av ho0 (Kd.an (rr fF.out))) (Kd.an (rr f9.out))) (Kd.an (rr fG.out))) (Kd.an (rr fH.out))) (Kd.an (rr fX.out))) (Kd.an (rr fY.out))) (bJ (be HB d9 dZ dt)));have kA:=Ah (Kd.bD (Kd.av (Kd.av (Kd.av ho1 (Kd.an (rr fy.out))) (Kd.an (rr fz.out))) (Kd.an (rr gH.out))) (bJ (be HB d9 dZ dt)));replace fy:=Ah (Kd.cV (rr fy.out) (Kd.ar ho1) hb);replace fz:=Ah (Kd.cV (rr fz.out) (Kd.ar ho1) hb);replace gH:=Ah (Kd.cV (rr gH.out) (Kd.ar ho1) hb);have jX:=Ah (Kd.bD (Kd.av (Kd.av (Kd.av (Kd.av (Kd.av (Kd.av ho2 (Kd.an (rr fF.out))) (Kd.an (rr f9.out))) (Kd.an (rr fG.out))) (Kd.an (rr fH.out))) (Kd.an (rr fX.out))) (Kd.an (rr fY.out))) (bJ (be HB d9 dZ dt)));replace fF:=Ah (Kd.aK (Kd.cD (Kd.cD (Kd.eu (rr fF.out) hb) (Kd.ar ho0)) (Kd.ar ho2)) (fun _ h_=>h_.1));replace f9:=Ah (Kd.aK (Kd.cD (Kd.cD (Kd.eu (rr f9.out) hb) (Kd.ar ho0)) (Kd.ar ho2)) (fun _ h_=>h_.1));replace fG:=Ah (Kd.aK (Kd.cD (Kd.cD (Kd.eu (rr fG.out) hb) (Kd.ar ho0)) (Kd.ar ho2)) (fun _ h_=>h_.1));replace fH:=Ah (Kd.aK (Kd.cD (Kd.cD (Kd.eu (rr fH.out) hb) (Kd.ar ho0)) (Kd.ar ho2)) (fun _ h_=>h_.1));replace fX:=Ah (Kd.aK (Kd.cD (Kd.cD (Kd.eu (rr fX.out) hb) (Kd.ar ho0)) (Kd.ar ho2)) (fun _ h_=>h_.1));replace fY:=Ah (Kd.aK (Kd.cD (Kd.cD (Kd.eu (rr fY.out) hb) (Kd.ar ho0)) (Kd.ar ho2)) (fun _ h_=>h_.1));replace bj:=nb bj hb;replace bp:=nb bp hb;replace cE:=nb cE hb;replace HB:=Ah (aJ (be HB d9 dZ dt) hb);(try clear hb ho0 ho1 ho2))|((with_reducible refine ao (N:=14) rfl ?_);(try(refine dM (by rfl) ?_;dsimp only));refine az 14 28 #[.slice none 0 0,.slice none 0 0,.slice none 0 0,.int .i64 0] ?_;intro Ux hg w85 d7 hb;replace fF:=nr fF hb;replace fy:=nr fy hb;replace f9:=nr f9 hb;replace fG:=nr fG hb;replace fz:=nr fz hb;replace fH:=nr fH hb;replace fX:=nr fX hb;replace gH:=nr gH hb;replace fY:=nr fY hb;replace jW:=nr jW hb;replace kA:=nr kA hb;replace jX:=nr jX hb;have GW809:=gw hg (be HB d9 dZ dt);have gu:=gw hg (be HB d9 dZ dt);replace HB:=Ah (aJ (be HB d9 dZ dt) hb);have Aq:=nn bj hg;have DD:=nm bj hg;replace bj:=nb bj hb;have Ar:=nn bp hg;have DE:=nm bp hg;replace bp:=nb bp hb;have As:=nn cE hg;have DF:=nm cE hg;replace cE:=nb cE hb;clear hb hg;obtain⟨mh,mi,a66⟩:=Kd.al jW.out;subst a66;have a3O:=DD.out;have a3P:=Aq.out;have hnb88:=DE.out;have hnc88:=Ar.out;have hnb89:=DF.out;have hnc89:=As.out;obtain⟨a1o,a1p,a1q,a1r⟩:=b0 d7;obtain⟨a1s,a1t,a1u,a1v⟩:=b5 d7;obtain⟨rh,ri,a67⟩:=Kd.al kA.out;subst a67;obtain⟨oM,oN,a68⟩:=Kd.al jX.out;subst a68)|((with_reducible refine ap (f:=7) rfl ?_);refine gL (some 95) rfl rfl abB (by kernel_rfl) rfl #[.agg #[.slice mh iN.length mi,.slice rh j8.length ri,.slice oM gS.length oN,.int .i64 mG]] rfl ?_;(with_reducible refine(gF.calls nq _ _ iN _ _ j8 _ _ gS mG GJ PB _ ?aE ?aG ?aZ ?ab ?bT ?bc A76.out).mono ?_);(case aE=>exact rc jW d7);(case aG=>exact(Kd.b9 jW.out).2.1);(case aZ=>exact rc kA d7);(case ab=>exact(Kd.b9 kA.out).2.1);(case bT=>exact rc jX d7);(case bc=>exact(Kd.b9 jX.out).2.1);rintro e YR ⟨v811,rfl,ho0,hb⟩;refine⟨_,rfl, ?_⟩;replace fy:=nf fy d7 hb;replace fz:=nf fz d7 hb;replace gH:=nf gH d7 hb;replace kA:=nf kA d7 hb;have lN:=Ah (Kd.bD (Kd.av (Kd.av (Kd.av (Kd.av (Kd.av (Kd.av (Kd.av (Kd.av ho0 (Kd.an (rf fF d7))) (Kd.an (rf f9 d7))) (Kd.an (rf fG d7))) (Kd.an (rf fH d7))) (Kd.an (rf fX d7))) (Kd.an (rf fY d7))) (Kd.an (rf jW d7))) (Kd.an (rf jX d7))) (bJ (kQ HB d9 dZ dt gu)));replace fF:=Ah (Kd.cV (rf fF d7) (Kd.ar ho0) hb);replace f9:=Ah (Kd.cV (rf f9 d7) (Kd.ar ho0) hb);replace fG:=Ah (Kd.cV (rf fG d7) (Kd.ar ho0) hb);replace fH:=Ah (Kd.cV (rf fH d7) (Kd.ar ho0) hb);replace fX:=Ah (Kd.cV (rf fX d7) (Kd.ar ho0) hb);replace fY:=Ah (Kd.cV (rf fY d7) (Kd.ar ho0) hb);replace jW:=Ah (Kd.cV (rf jW d7) (Kd.ar ho0) hb);replace jX:=Ah (Kd.cV (rf jX d7) (Kd.ar ho0) hb);replace bj:=Ah (dF (bf bj Aq) hb);replace bp:=Ah (dF (bf bp Ar) hb);replace cE:=Ah (dF (bf cE As) hb);replace d7:=Ah (dF (g:=Ux) (o:= .cells #[.slice mh iN.length mi,.slice rh j8.length ri,.slice oM gS.length oN,.int .i64 mG] 28 (0,0)) (by(with_reducible repeat(first|refine a9 ?_ _|refine U ?_|refine Z ?_ _));refine aN (cs:= #[.slice mh iN.length mi,.slice rh j8.length ri,.slice oM gS.length oN,.int .i64 0]) ?_ 3 _ rfl;(with_reducible repeat(first|refine a9 ?_ _|refine U ?_|refine Z ?_ _));refine aN (cs:= #[.slice mh iN.length mi,.slice rh j8.length ri,.slice none 0 0,.int .i64 0]) ?_ 2 _ rfl;(with_reducible repeat(first|refine a9 ?_ _|refine U ?_|refine Z ?_ _));refine aN (cs:= #[.slice mh iN.length mi,.slice none 0 0,.slice none 0 0,.int .i64 0]) ?_ 1 _ rfl;(with_reducible repeat(first|refine a9 ?_ _|refine U ?_|refine Z ?_ _));refine aN (cs:= #[.slice none 0 0,.slice none 0 0,.slice none 0 0,.int .i64 0]) ?_ 0 _ rfl;(with_reducible repeat(first|refine a9 ?_ _|refine U ?_|refine Z ?_ _));exact d7.out) hb);replace HB:=Ah (aJ (kQ HB d9 dZ dt gu) hb);(try clear hb ho0)))
   have aY:=Ah (Kd.aa fF.out);have aX:=Ah (Kd.aa fy.out);have ae:=Ah (Kd.aa f9.out);have aq:=Ah (Kd.aa fG.out);have bF:=Ah (Kd.aa fz.out);have bO:=Ah (Kd.aa fH.out);have bl:=Ah (Kd.aa fX.out);have d3:=Ah (Kd.aa gH.out);have jD:=Ah (Kd.aa fY.out);have oZ:=Ah (Kd.aa jW.out);have rj:=Ah (Kd.aa kA.out);have rk:=Ah (Kd.aa jX.out);have rl:=Ah (Kd.aa lN.out);have GK:=Ah (U bj.out);have GL:=Ah (U bp.out);have GM:=Ah (U cE.out);have GN:=Ah (U d7.out);have GO:=Ah (ia HB.out);clear fF fy f9 fG fz fH fX gH fY jW kA jX lN bj bp cE d7 HB;have fF:=aY;have fy:=aX;have f9:=ae;have fG:=aq;have fz:=bF;have fH:=bO;have fX:=bl;have gH:=d3;have fY:=jD;have jW:=oZ;have kA:=rj;have jX:=rk;have lN:=rl;have bj:=GK;have bp:=GL;have cE:=GM;have d7:=GN;have HB:=GO;clear aY aX ae aq bF bO bl d3 jD oZ rj rk rl GK GL GM GN GO;have Hm:(mF:Int)≤((fP.length:Int):Int):=od;obtain⟨i095,Uy,_,a3Q,_⟩:=info_parts ll;have TN:fP.length≤dw:=(Kd.b9 f9.out).2.1;have X3:Kd.C Kd.string _ e7 fP.length fP:=(Kd.b9 f9.out).2.2;have a2O:=EF (P:=t5) 23 9 .i64 Try.underlying23 Uy e7 fP.length dw mF (od) Hm TN;have PD:=Kd.BO (m:=(mF:Int).toNat) X3 (by omega);have hy95:zG.length=(mF:Int).toNat:=(by rw[Ng.out,List.length_take];omega);rw[←Ng.out]at PD;rw[←hy95]at a2O;have EW:=Ah PD;have a3R:=Ah (show zG.length≤dw from by omega);clear PD X3 TN Uy a3Q;have KY95:=Ah hy95;clear hy95;have a69:=Ah (show(mF:Int).toNat≤fP.length from by omega);replace Hm:=eq_true Hm;refine k9 (n:=11) (S:=fun w'=>w'.cell? ⟨yJ,0,none⟩=some (.slice eB fO.length eC)∧w'.cell? ⟨yJ,1,none⟩=some (.slice gK gn.length g6)∧w'.cell? ⟨yJ,2,none⟩=some (.slice e7 fP.length dw)∧w'.cell? ⟨yJ,3,none⟩=some (.int .i64 lT)) (ds:=[]) #[false,false,false,false,false,false,false,false,false,false,false] (by kernel_rfl) rfl rfl ⟨(aQ bj.out 0).trans rfl,(aQ bj.out 1).trans rfl,(aQ bj.out 2).trans rfl,(aQ bj.out 3).trans rfl⟩ (fun hHeld=> ?_);refine kS dE.a3x dE.a2N (fun aU dT=> ?_)
   generalize YR.drew=w94 at fF fy f9 fG fz fH fX gH fY jW kA jX lN bj bp cE d7 HB EW hHeld⊢
   refine b8 0 98 aU.out ?_;refine b8 2 100 aU.out ?_;refine b8 4 102 aU.out ?_;refine b8 6 104 aU.out ?_;refine fZ 1 99 aU.out dT.out hHeld (hr:=by rintro w' ⟨s0,s1,s2,s3⟩;go_simp;with_reducible rfl) (h:= ?_);refine fZ 3 101 aU.out dT.out hHeld (hr:=by rintro w' ⟨s0,s1,s2,s3⟩;go_simp;with_reducible rfl) (h:= ?_);refine b8 5 103 aU.out ?_;refine fZ 7 105 aU.out dT.out hHeld (hr:=by rintro w' ⟨s0,s1,s2,s3⟩;go_simp;with_reducible rfl) (h:= ?_);refine b8 8 106 aU.out ?_;refine e5 (i:=9) (N:=some 18) #[true,true,true,true,true,true,true,true,true,true,false] rfl rfl (dz aU.out (by kernel_rfl)) (by decide) (fun K hK=> ?_);refine a0g ?hg (N:=18) ?hd (cs:= #[.slice none 0 0,.slice none 0 0,.slice none 0 0,.int .i64 0]) (t:=28) ?hr ?_;(case hd=>rfl);(case hg=>rfl);(case hr=>first|(go_simp;done)|(go_simp;rfl));intro kZ hg L0 hbox hb;have aY:=Ah (Kd.eD (rr fF.out) hb);have aX:=Ah (Kd.eD (rr fy.out) hb);have ae:=Ah (Kd.eD (rr f9.out) hb);have aq:=Ah (Kd.eD (rr fG.out) hb);have bF:=Ah (Kd.eD (rr fz.out) hb);have bO:=Ah (Kd.eD (rr fH.out) hb);have bl:=Ah (Kd.eD (rr fX.out) hb);have d3:=Ah (Kd.eD (rr gH.out) hb);have jD:=Ah (Kd.eD (rr fY.out) hb);have oZ:=Ah (Kd.eD (rr jW.out) hb);have rj:=Ah (Kd.eD (rr kA.out) hb);have rk:=Ah (Kd.eD (rr jX.out) hb);have rl:=Ah (Kd.eD (rr lN.out) hb);have GK:=Ah (bb bj hb);have GL:=Ah (bb bp hb);have GM:=Ah (bb cE hb);have GN:=Ah (bb d7 hb);have GO:=Ah (Kd.lI (by repeat(first|(with_reducible exact EW.out)|(with_reducible refine Kd.jg ?_ _)|(with_reducible refine Kd.jh ?_ _)|(with_reducible refine Kd.jo ?_)|exact EW.out)) hb);have X4:=Ah (aJ (kQ HB d9 dZ dt gu) hb);have X5:=Ah (hbox);have X6:=gw hg (kQ HB d9 dZ dt gu);have X7:=gw hg (kQ HB d9 dZ dt gu);have X8:=nn bj hg;have X9:=nm bj hg;have XA:=nn bp hg;have XB:=nm bp hg;have XC:=nn cE hg;have XD:=nm cE hg;have XE:=nn d7 hg;have XF:=nm d7 hg;clear fF fy f9 fG fz fH fX gH fY jW kA jX lN bj bp cE d7 EW HB;have fF:=aY;have fy:=aX;have f9:=ae;have fG:=aq;have fz:=bF;have fH:=bO;have fX:=bl;have gH:=d3;have fY:=jD;have jW:=oZ;have kA:=rj;have jX:=rk;have lN:=rl;have bj:=GK;have bp:=GL;have cE:=GM;have d7:=GN;have EW:=GO;have HB:=X4;have g4:=X5;have GW818:=X6;have vG:=X7;have jz:=X8;have DG:=X9;have At:=XA;have DH:=XB;have Au:=XC;have DI:=XD;have uf:=XE;have wt:=XF;clear aY aX ae aq bF bO bl d3 jD oZ rj rk rl GK GL GM GN GO X4 X5 X6 X7 X8 X9 XA XB XC XD XE XF hb hbox hg;refine hK.out _ _ ⟨(aQ bj.out 0).trans rfl,(aQ bj.out 1).trans rfl,(aQ bj.out 2).trans rfl,(aQ bj.out 3).trans rfl⟩ (fun hHeld=> ?_);clear hK K;refine ej (a':= ?_) ?_ ?_;rotate_left
   ·
    show Act.put _ (some 18) _=_
    simp only[Act.put,JM,jG,kt,dD,dP]
    rfl
   refine e5 (i:=10) (N:=none) #[true,true,true,true,true,true,true,true,true,true,true] rfl rfl (dz aU.out (by kernel_rfl)) (by decide) (fun K hK=> ?_);have hs97:L0.cell? ⟨kZ,0,none⟩=some (.slice none 0 0):=(aQ g4.out 0).trans rfl;have hfs97:=d5 g4.out 0;have hns97_0:=jz.out;have hns97_1:=At.out;have hns97_2:=Au.out;have hns97_3:=uf.out;have hms97_0:=DG.out;have hms97_1:=DH.out;have hms97_2:=DI.out;have hms97_3:=wt.out;have hs98:L0.cell? ⟨kZ,1,none⟩=some (.slice none 0 0):=(aQ g4.out 1).trans rfl;have hfs98:=d5 g4.out 1;have hns98_0:=jz.out;have hns98_1:=At.out;have hns98_2:=Au.out;have hns98_3:=uf.out;have hms98_0:=DG.out;have hms98_1:=DH.out;have hms98_2:=DI.out;have hms98_3:=wt.out;have hs99:L0.cell? ⟨kZ,2,none⟩=some (.slice none 0 0):=(aQ g4.out 2).trans rfl;have hfs99:=d5 g4.out 2;have hns99_0:=jz.out;have hns99_1:=At.out;have hns99_2:=Au.out;have hns99_3:=uf.out;have hms99_0:=DG.out;have hms99_1:=DH.out;have hms99_2:=DI.out;have hms99_3:=wt.out;have hs100:L0.cell? ⟨kZ,3,none⟩=some (.int .i64 0):=(aQ g4.out 3).trans rfl;have hfs100:=d5 g4.out 3;have hns100_0:=jz.out;have hns100_1:=At.out;have hns100_2:=Au.out;have hns100_3:=uf.out;have hms100_0:=DG.out;have hms100_1:=DH.out;have hms100_2:=DI.out;have hms100_3:=wt.out;refine pJ (w1:= ?_) (by rfl) rfl ?_ ?_;rotate_left
   ·
    go_simp
    rfl
   refine hK.out _ _ ⟨((ay (p:=⟨kZ,_,none⟩) jz.out _).trans (((ay (p:=⟨kZ,_,none⟩) jz.out _).trans (((ay (p:=⟨kZ,_,none⟩) jz.out _).trans (((ay (p:=⟨kZ,_,none⟩) jz.out _).trans (hHeld.1)))))))),((ay (p:=⟨kZ,_,none⟩) jz.out _).trans (((ay (p:=⟨kZ,_,none⟩) jz.out _).trans (((ay (p:=⟨kZ,_,none⟩) jz.out _).trans (((ay (p:=⟨kZ,_,none⟩) jz.out _).trans (hHeld.2.1)))))))),((ay (p:=⟨kZ,_,none⟩) jz.out _).trans (((ay (p:=⟨kZ,_,none⟩) jz.out _).trans (((ay (p:=⟨kZ,_,none⟩) jz.out _).trans (((ay (p:=⟨kZ,_,none⟩) jz.out _).trans (hHeld.2.2.1)))))))),((ay (p:=⟨kZ,_,none⟩) jz.out _).trans (((ay (p:=⟨kZ,_,none⟩) jz.out _).trans (((ay (p:=⟨kZ,_,none⟩) jz.out _).trans (((ay (p:=⟨kZ,_,none⟩) jz.out _).trans (hHeld.2.2.2))))))))⟩ (fun hHeld=> ?_);clear hK K;refine jp (k7 aU.out (by kernel_rfl)) ?_;have hnb101:=DG.out;have hnc101:=jz.out;have hnb102:=DH.out;have hnc102:=At.out;have hnb103:=DI.out;have hnc103:=Au.out;have hnb104:=wt.out;have hnc104:=uf.out;obtain⟨a0u,a0v,a0w,a0x⟩:=b0 g4;obtain⟨a0y,a0z,a0A,a0B⟩:=b5 g4
   go_upto_region 16 with(first|((with_reducible refine ap (f:=7) rfl ?_);refine gL (some 109) rfl rfl abB (by kernel_rfl) rfl #[.agg #[.slice eB fO.length eC,.slice gK gn.length g6,.slice e7 zG.length dw,.int .i64 lT]] rfl ?_;(with_reducible refine(gF.calls nq _ _ fO _ _ gn _ _ zG lT KZ X1 _ ?aE ?aG ?aZ ?ab ?bT ?bc A79.out).mono ?_);(case aE=>exact rc fF g4);(case aG=>exact(Kd.b9 fF.out).2.1);(case aZ=>exact rc fy g4);(case ab=>exact(Kd.b9 fy.out).2.1);(case bT=>repeat(first|exact(by rw[Ng.out];exact Kd.BO (m:=(mF:Int).toNat) ((Kd.b9 (rf f9 g4)).2.2) a69.out)|(with_reducible refine Kd.jg ?_ _)|(with_reducible refine Kd.jh ?_ _)|(with_reducible refine Kd.jo ?_)));(case bc=>exact a3R.out);rintro e w106 ⟨v820,rfl,ho0,hb⟩;refine⟨_,rfl, ?_⟩;replace fy:=nf fy g4 hb;replace fz:=nf fz g4 hb;replace gH:=nf gH g4 hb;replace kA:=nf kA g4 hb;have ti:=Ah (Kd.bD (Kd.av (Kd.av (Kd.av (Kd.av (Kd.av (Kd.av (Kd.av (Kd.av (Kd.av ho0 (Kd.an (rf fF g4))) (Kd.an (rf f9 g4))) (Kd.an (rf fG g4))) (Kd.an (rf fH g4))) (Kd.an (rf fX g4))) (Kd.an (rf fY g4))) (Kd.an (rf jW g4))) (Kd.an (rf jX g4))) (Kd.an (rf lN g4))) (bJ (sD HB d9 dZ dt gu vG)));replace fF:=Ah (Kd.cV (rf fF g4) (Kd.ar ho0) hb);replace f9:=Ah (Kd.cV (rf f9 g4) (Kd.ar ho0) hb);replace fG:=Ah (Kd.cV (rf fG g4) (Kd.ar ho0) hb);replace fH:=Ah (Kd.cV (rf fH g4) (Kd.ar ho0) hb);replace fX:=Ah (Kd.cV (rf fX g4) (Kd.ar ho0) hb);replace fY:=Ah (Kd.cV (rf fY g4) (Kd.ar ho0) hb);replace jW:=Ah (Kd.cV (rf jW g4) (Kd.ar ho0) hb);replace jX:=Ah (Kd.cV (rf jX g4) (Kd.ar ho0) hb);replace lN:=Ah (Kd.cV (rf lN g4) (Kd.ar ho0) hb);replace bj:=Ah (dF (bf bj jz) hb);replace bp:=Ah (dF (bf bp At) hb);replace cE:=Ah (dF (bf cE Au) hb);replace d7:=Ah (dF (bf d7 uf) hb);replace g4:=Ah (dF (g:=kZ) (o:= .cells #[.slice eB fO.length eC,.slice gK gn.length g6,.slice e7 zG.length dw,.int .i64 lT] 28 (0,0)) (by(with_reducible repeat(first|refine a9 ?_ _|refine U ?_|refine Z ?_ _));refine aN (cs:= #[.slice eB fO.length eC,.slice gK gn.length g6,.slice e7 zG.length dw,.int .i64 0]) ?_ 3 _ rfl;(with_reducible repeat(first|refine a9 ?_ _|refine U ?_|refine Z ?_ _));refine aN (cs:= #[.slice eB fO.length eC,.slice gK gn.length g6,.slice none 0 0,.int .i64 0]) ?_ 2 _ rfl;(with_reducible repeat(first|refine a9 ?_ _|refine U ?_|refine Z ?_ _));refine aN (cs:= #[.slice eB fO.length eC,.slice none 0 0,.slice none 0 0,.int .i64 0]) ?_ 1 _ rfl;(with_reducible repeat(first|refine a9 ?_ _|refine U ?_|refine Z ?_ _));refine aN (cs:= #[.slice none 0 0,.slice none 0 0,.slice none 0 0,.int .i64 0]) ?_ 0 _ rfl;(with_reducible repeat(first|refine a9 ?_ _|refine U ?_|refine Z ?_ _));exact g4.out) hb);replace HB:=Ah (aJ (sD HB d9 dZ dt gu vG) hb);(try clear hb ho0)))
   (try simp only[Act.put,JM,jG,kt])
   go_cut [140] (fun a7a wc=>∃ (kq:Nat) (Iz:Bool),a7a= .bool Iz∧aC (dE.j1 kq Iz iN j8 gS mG=some r)∧aC (kq≤nq)∧aC (Kd.R Kd.string 9 wc w.heap.size (fun k_=>some k_≠((.slice e7 fP.length dw):Value).ownBlock∧some k_≠((.slice iA i9.length iB):Value).ownBlock∧some k_≠((.slice kk iX.length km):Value).ownBlock∧some k_≠((.slice j7 io.length ip):Value).ownBlock∧some k_≠((.slice iL jS.length iM):Value).ownBlock∧some k_≠((.slice mh iN.length mi):Value).ownBlock∧some k_≠((.slice oM gS.length oN):Value).ownBlock) (.slice eB fO.length eC) fO)∧aC (Kd.R bS 64 wc w.heap.size (fun k_=>some k_≠((.slice pg kJ.length ph):Value).ownBlock∧some k_≠((.slice l9 lU.length lA):Value).ownBlock∧some k_≠((.slice rh j8.length ri):Value).ownBlock) (.slice gK gn.length g6) gn)∧aC (Kd.R Kd.string 9 wc w.heap.size (fun k_=>some k_≠((.slice eB fO.length eC):Value).ownBlock∧some k_≠((.slice iA i9.length iB):Value).ownBlock∧some k_≠((.slice kk iX.length km):Value).ownBlock∧some k_≠((.slice j7 io.length ip):Value).ownBlock∧some k_≠((.slice iL jS.length iM):Value).ownBlock∧some k_≠((.slice mh iN.length mi):Value).ownBlock∧some k_≠((.slice oM gS.length oN):Value).ownBlock) (.slice e7 fP.length dw) fP)∧aC (Kd.R Kd.string 9 wc w.heap.size (fun k_=>some k_≠((.slice eB fO.length eC):Value).ownBlock∧some k_≠((.slice e7 fP.length dw):Value).ownBlock∧some k_≠((.slice kk iX.length km):Value).ownBlock∧some k_≠((.slice j7 io.length ip):Value).ownBlock∧some k_≠((.slice iL jS.length iM):Value).ownBlock∧some k_≠((.slice mh iN.length mi):Value).ownBlock∧some k_≠((.slice oM gS.length oN):Value).ownBlock) (.slice iA i9.length iB) i9)∧aC (Kd.R bS 64 wc w.heap.size (fun k_=>some k_≠((.slice gK gn.length g6):Value).ownBlock∧some k_≠((.slice l9 lU.length lA):Value).ownBlock∧some k_≠((.slice rh j8.length ri):Value).ownBlock) (.slice pg kJ.length ph) kJ)∧aC (Kd.R Kd.string 9 wc w.heap.size (fun k_=>some k_≠((.slice eB fO.length eC):Value).ownBlock∧some k_≠((.slice e7 fP.length dw):Value).ownBlock∧some k_≠((.slice iA i9.length iB):Value).ownBlock∧some k_≠((.slice j7 io.length ip):Value).ownBlock∧some k_≠((.slice iL jS.length iM):Value).ownBlock∧some k_≠((.slice mh iN.length mi):Value).ownBlock∧some k_≠((.slice oM gS.length oN):Value).ownBlock) (.slice kk iX.length km) iX)∧aC (Kd.R Kd.string 9 wc w.heap.size (fun k_=>some k_≠((.slice eB fO.length eC):Value).ownBlock∧some k_≠((.slice e7 fP.length dw):Value).ownBlock∧some k_≠((.slice iA i9.length iB):Value).ownBlock∧some k_≠((.slice kk iX.length km):Value).ownBlock∧some k_≠((.slice iL jS.length iM):Value).ownBlock∧some k_≠((.slice mh iN.length mi):Value).ownBlock∧some k_≠((.slice oM gS.length oN):Value).ownBlock) (.slice j7 io.length ip) io)∧aC (Kd.R bS 64 wc w.heap.size (fun k_=>some k_≠((.slice gK gn.length g6):Value).ownBlock∧some k_≠((.slice pg kJ.length ph):Value).ownBlock∧some k_≠((.slice rh j8.length ri):Value).ownBlock) (.slice l9 lU.length lA) lU)∧aC (Kd.R Kd.string 9 wc w.heap.size (fun k_=>some k_≠((.slice eB fO.length eC):Value).ownBlock∧some k_≠((.slice e7 fP.length dw):Value).ownBlock∧some k_≠((.slice iA i9.length iB):Value).ownBlock∧some k_≠((.slice kk iX.length km):Value).ownBlock∧some k_≠((.slice j7 io.length ip):Value).ownBlock∧some k_≠((.slice mh iN.length mi):Value).ownBlock∧some k_≠((.slice oM gS.length oN):Value).ownBlock) (.slice iL jS.length iM) jS)∧aC (Kd.R Kd.string 9 wc w.heap.size (fun k_=>some k_≠((.slice eB fO.length eC):Value).ownBlock∧some k_≠((.slice e7 fP.length dw):Value).ownBlock∧some k_≠((.slice iA i9.length iB):Value).ownBlock∧some k_≠((.slice kk iX.length km):Value).ownBlock∧some k_≠((.slice j7 io.length ip):Value).ownBlock∧some k_≠((.slice iL jS.length iM):Value).ownBlock∧some k_≠((.slice oM gS.length oN):Value).ownBlock) (.slice mh iN.length mi) iN)∧aC (Kd.R bS 64 wc w.heap.size (fun k_=>some k_≠((.slice gK gn.length g6):Value).ownBlock∧some k_≠((.slice pg kJ.length ph):Value).ownBlock∧some k_≠((.slice l9 lU.length lA):Value).ownBlock) (.slice rh j8.length ri) j8)∧aC (Kd.R Kd.string 9 wc w.heap.size (fun k_=>some k_≠((.slice eB fO.length eC):Value).ownBlock∧some k_≠((.slice e7 fP.length dw):Value).ownBlock∧some k_≠((.slice iA i9.length iB):Value).ownBlock∧some k_≠((.slice kk iX.length km):Value).ownBlock∧some k_≠((.slice j7 io.length ip):Value).ownBlock∧some k_≠((.slice iL jS.length iM):Value).ownBlock∧some k_≠((.slice mh iN.length mi):Value).ownBlock) (.slice oM gS.length oN) gS)∧aC (wc.heap[yJ]?=some (.cells #[(.slice eB fO.length eC),(.slice gK gn.length g6),(.slice e7 fP.length dw),.int .i64 lT] 28 (0,0)))∧aC (wc.heap[Nb]?=some (.cells #[(.slice iA i9.length iB),(.slice pg kJ.length ph),(.slice kk iX.length km),.int .i64 re] 28 (0,0)))∧aC (wc.heap[Nf]?=some (.cells #[(.slice j7 io.length ip),(.slice l9 lU.length lA),(.slice iL jS.length iM),.int .i64 vp] 28 (0,0)))∧aC (wc.heap[Ux]?=some (.cells #[(.slice mh iN.length mi),(.slice rh j8.length ri),(.slice oM gS.length oN),.int .i64 mG] 28 (0,0)))∧aC (Below w.heap.size w wc))
   case first=>
    have H:=PC.out;clear PC
    by_cases c107:PA=true
    rotate_left
    ·
     replace c107:=dW.mpr c107;subst c107;rw[if_neg cg]at H;have H':=Ah H;clear H
     go_wp2
     go_meet
     case rel=>exact⟨_,(true),e3,H',⟨by have:=Cl.out;first|omega|exact mz _⟩,rm fF (fun _ hk=>⟨hk.1.1.1.1.1,⟨hk.1.1.1.1.2.1,⟨hk.1.1.1.1.2.2.1,⟨hk.1.1.1.1.2.2.2.1,⟨hk.1.1.1.1.2.2.2.2,⟨hk.1.1.1.2,hk.1.1.2⟩⟩⟩⟩⟩⟩),rm fy (fun _ hk=>⟨hk.1.1,⟨hk.1.2,hk.2⟩⟩),rm f9 (fun _ hk=>⟨hk.1.1.1.1.1,⟨hk.1.1.1.1.2.1,⟨hk.1.1.1.1.2.2.1,⟨hk.1.1.1.1.2.2.2.1,⟨hk.1.1.1.1.2.2.2.2,⟨hk.1.1.1.2,hk.1.1.2⟩⟩⟩⟩⟩⟩),rm fG (fun _ hk=>⟨hk.1.1.1.1.1,⟨hk.1.1.1.1.2.1,⟨hk.1.1.1.1.2.2.1,⟨hk.1.1.1.1.2.2.2.1,⟨hk.1.1.1.1.2.2.2.2,⟨hk.1.1.1.2,hk.1.1.2⟩⟩⟩⟩⟩⟩),rm fz (fun _ hk=>⟨hk.1.1,⟨hk.1.2,hk.2⟩⟩),rm fH (fun _ hk=>⟨hk.1.1.1.1.1,⟨hk.1.1.1.1.2.1,⟨hk.1.1.1.1.2.2.1,⟨hk.1.1.1.1.2.2.2.1,⟨hk.1.1.1.1.2.2.2.2,⟨hk.1.1.1.2,hk.1.1.2⟩⟩⟩⟩⟩⟩),rm fX (fun _ hk=>⟨hk.1.1.1.1.1,⟨hk.1.1.1.1.2.1,⟨hk.1.1.1.1.2.2.1,⟨hk.1.1.1.1.2.2.2.1,⟨hk.1.1.1.1.2.2.2.2,⟨hk.1.1.1.2,hk.1.1.2⟩⟩⟩⟩⟩⟩),rm gH (fun _ hk=>⟨hk.1.1,⟨hk.1.2,hk.2⟩⟩),rm fY (fun _ hk=>⟨hk.1.1.1.1.1,⟨hk.1.1.1.1.2.1,⟨hk.1.1.1.1.2.2.1,⟨hk.1.1.1.1.2.2.2.1,⟨hk.1.1.1.1.2.2.2.2,⟨hk.1.1.1.2,hk.1.1.2⟩⟩⟩⟩⟩⟩),rm jW (fun _ hk=>⟨hk.1.1.1.1.1.1.1.2,⟨hk.1.1.1.1.1.1.2,⟨hk.1.1.1.1.1.2,⟨hk.1.1.1.1.2,⟨hk.1.1.1.2,⟨hk.1.1.2,hk.1.1.1.1.1.1.1.1⟩⟩⟩⟩⟩⟩),rm kA (fun _ hk=>⟨hk.1.1.2,⟨hk.1.2,hk.2⟩⟩),rm jX (fun _ hk=>⟨hk.1.1.1.1.1.1.1.2,⟨hk.1.1.1.1.1.1.2,⟨hk.1.1.1.1.1.2,⟨hk.1.1.1.1.2,⟨hk.1.1.1.2,⟨hk.1.1.2,hk.1.1.1.1.1.1.1.1⟩⟩⟩⟩⟩⟩),⟨bk bj⟩,⟨bk bp⟩,⟨bk cE⟩,⟨bk d7⟩,⟨sD HB d9 dZ dt gu vG⟩⟩
    subst c107;rw[if_pos rfl]at H
    by_cases GP:PB=true
    rotate_left
    ·
     replace GP:=dW.mpr GP;subst GP;rw[if_neg cg]at H;have H':=Ah H;clear H
     go_wp2
     go_meet
     case rel=>exact⟨_,(true),e3,H',⟨by have:=Cl.out;first|omega|exact mz _⟩,rm fF (fun _ hk=>⟨hk.1.1.1.1.1,⟨hk.1.1.1.1.2.1,⟨hk.1.1.1.1.2.2.1,⟨hk.1.1.1.1.2.2.2.1,⟨hk.1.1.1.1.2.2.2.2,⟨hk.1.1.1.2,hk.1.1.2⟩⟩⟩⟩⟩⟩),rm fy (fun _ hk=>⟨hk.1.1,⟨hk.1.2,hk.2⟩⟩),rm f9 (fun _ hk=>⟨hk.1.1.1.1.1,⟨hk.1.1.1.1.2.1,⟨hk.1.1.1.1.2.2.1,⟨hk.1.1.1.1.2.2.2.1,⟨hk.1.1.1.1.2.2.2.2,⟨hk.1.1.1.2,hk.1.1.2⟩⟩⟩⟩⟩⟩),rm fG (fun _ hk=>⟨hk.1.1.1.1.1,⟨hk.1.1.1.1.2.1,⟨hk.1.1.1.1.2.2.1,⟨hk.1.1.1.1.2.2.2.1,⟨hk.1.1.1.1.2.2.2.2,⟨hk.1.1.1.2,hk.1.1.2⟩⟩⟩⟩⟩⟩),rm fz (fun _ hk=>⟨hk.1.1,⟨hk.1.2,hk.2⟩⟩),rm fH (fun _ hk=>⟨hk.1.1.1.1.1,⟨hk.1.1.1.1.2.1,⟨hk.1.1.1.1.2.2.1,⟨hk.1.1.1.1.2.2.2.1,⟨hk.1.1.1.1.2.2.2.2,⟨hk.1.1.1.2,hk.1.1.2⟩⟩⟩⟩⟩⟩),rm fX (fun _ hk=>⟨hk.1.1.1.1.1,⟨hk.1.1.1.1.2.1,⟨hk.1.1.1.1.2.2.1,⟨hk.1.1.1.1.2.2.2.1,⟨hk.1.1.1.1.2.2.2.2,⟨hk.1.1.1.2,hk.1.1.2⟩⟩⟩⟩⟩⟩),rm gH (fun _ hk=>⟨hk.1.1,⟨hk.1.2,hk.2⟩⟩),rm fY (fun _ hk=>⟨hk.1.1.1.1.1,⟨hk.1.1.1.1.2.1,⟨hk.1.1.1.1.2.2.1,⟨hk.1.1.1.1.2.2.2.1,⟨hk.1.1.1.1.2.2.2.2,⟨hk.1.1.1.2,hk.1.1.2⟩⟩⟩⟩⟩⟩),rm jW (fun _ hk=>⟨hk.1.1.1.1.1.1.1.2,⟨hk.1.1.1.1.1.1.2,⟨hk.1.1.1.1.1.2,⟨hk.1.1.1.1.2,⟨hk.1.1.1.2,⟨hk.1.1.2,hk.1.1.1.1.1.1.1.1⟩⟩⟩⟩⟩⟩),rm kA (fun _ hk=>⟨hk.1.1.2,⟨hk.1.2,hk.2⟩⟩),rm jX (fun _ hk=>⟨hk.1.1.1.1.1.1.1.2,⟨hk.1.1.1.1.1.1.2,⟨hk.1.1.1.1.1.2,⟨hk.1.1.1.1.2,⟨hk.1.1.1.2,⟨hk.1.1.2,hk.1.1.1.1.1.1.1.1⟩⟩⟩⟩⟩⟩),⟨bk bj⟩,⟨bk bp⟩,⟨bk cE⟩,⟨bk d7⟩,⟨sD HB d9 dZ dt gu vG⟩⟩
    subst GP;rw[if_pos rfl]at H
    by_cases c109:X1=true
    rotate_left
    ·
     replace c109:=dW.mpr c109;subst c109;rw[if_neg cg]at H;have H':=Ah H;clear H
     go_wp2
     go_meet
     case rel=>exact⟨_,(true),e3,H',⟨by have:=Cl.out;first|omega|exact mz _⟩,rm fF (fun _ hk=>⟨hk.1.1.1.1.1,⟨hk.1.1.1.1.2.1,⟨hk.1.1.1.1.2.2.1,⟨hk.1.1.1.1.2.2.2.1,⟨hk.1.1.1.1.2.2.2.2,⟨hk.1.1.1.2,hk.1.1.2⟩⟩⟩⟩⟩⟩),rm fy (fun _ hk=>⟨hk.1.1,⟨hk.1.2,hk.2⟩⟩),rm f9 (fun _ hk=>⟨hk.1.1.1.1.1,⟨hk.1.1.1.1.2.1,⟨hk.1.1.1.1.2.2.1,⟨hk.1.1.1.1.2.2.2.1,⟨hk.1.1.1.1.2.2.2.2,⟨hk.1.1.1.2,hk.1.1.2⟩⟩⟩⟩⟩⟩),rm fG (fun _ hk=>⟨hk.1.1.1.1.1,⟨hk.1.1.1.1.2.1,⟨hk.1.1.1.1.2.2.1,⟨hk.1.1.1.1.2.2.2.1,⟨hk.1.1.1.1.2.2.2.2,⟨hk.1.1.1.2,hk.1.1.2⟩⟩⟩⟩⟩⟩),rm fz (fun _ hk=>⟨hk.1.1,⟨hk.1.2,hk.2⟩⟩),rm fH (fun _ hk=>⟨hk.1.1.1.1.1,⟨hk.1.1.1.1.2.1,⟨hk.1.1.1.1.2.2.1,⟨hk.1.1.1.1.2.2.2.1,⟨hk.1.1.1.1.2.2.2.2,⟨hk.1.1.1.2,hk.1.1.2⟩⟩⟩⟩⟩⟩),rm fX (fun _ hk=>⟨hk.1.1.1.1.1,⟨hk.1.1.1.1.2.1,⟨hk.1.1.1.1.2.2.1,⟨hk.1.1.1.1.2.2.2.1,⟨hk.1.1.1.1.2.2.2.2,⟨hk.1.1.1.2,hk.1.1.2⟩⟩⟩⟩⟩⟩),rm gH (fun _ hk=>⟨hk.1.1,⟨hk.1.2,hk.2⟩⟩),rm fY (fun _ hk=>⟨hk.1.1.1.1.1,⟨hk.1.1.1.1.2.1,⟨hk.1.1.1.1.2.2.1,⟨hk.1.1.1.1.2.2.2.1,⟨hk.1.1.1.1.2.2.2.2,⟨hk.1.1.1.2,hk.1.1.2⟩⟩⟩⟩⟩⟩),rm jW (fun _ hk=>⟨hk.1.1.1.1.1.1.1.2,⟨hk.1.1.1.1.1.1.2,⟨hk.1.1.1.1.1.2,⟨hk.1.1.1.1.2,⟨hk.1.1.1.2,⟨hk.1.1.2,hk.1.1.1.1.1.1.1.1⟩⟩⟩⟩⟩⟩),rm kA (fun _ hk=>⟨hk.1.1.2,⟨hk.1.2,hk.2⟩⟩),rm jX (fun _ hk=>⟨hk.1.1.1.1.1.1.1.2,⟨hk.1.1.1.1.1.1.2,⟨hk.1.1.1.1.1.2,⟨hk.1.1.1.1.2,⟨hk.1.1.1.2,⟨hk.1.1.2,hk.1.1.1.1.1.1.1.1⟩⟩⟩⟩⟩⟩),⟨bk bj⟩,⟨bk bp⟩,⟨bk cE⟩,⟨bk d7⟩,⟨sD HB d9 dZ dt gu vG⟩⟩
    subst c109;rw[if_pos rfl]at H;replace H:=He.mp H;obtain⟨GC,Uz,H⟩:=H
    try dsimp only at H
    have uK:=Ah Uz;clear Uz
    by_cases GQ:GC=true
    rotate_left
    ·
     replace GQ:=dW.mpr GQ;subst GQ;rw[if_neg cg]at H;have H':=Ah H;clear H;obtain⟨Ao127,co127,a3S⟩:=Kd.al lN.out;subst a3S;obtain⟨Ao128,co128,a3T⟩:=Kd.al ti.out;subst a3T
     go_wp2_with (first|(go_at_call 10;(with_reducible refine(eV.calls nq _ _ GJ _ _ KZ false _ ?aE ?aG ?aZ ?ab uK.out).mono ?_);(case aE=>exact bi lN);(case aG=>exact(Kd.b9 lN.out).2.1);(case aZ=>exact bi ti);(case ab=>exact(Kd.b9 ti.out).2.1);rintro e w' ⟨rfl,⟨nd,rfl⟩⟩))
     go_meet
     case rel=>exact⟨_,(true),e3,H',⟨by have:=Cl.out;first|omega|exact mz _⟩,rm fF (fun _ hk=>⟨hk.1.1.1.1.1,⟨hk.1.1.1.1.2.1,⟨hk.1.1.1.1.2.2.1,⟨hk.1.1.1.1.2.2.2.1,⟨hk.1.1.1.1.2.2.2.2,⟨hk.1.1.1.2,hk.1.1.2⟩⟩⟩⟩⟩⟩),rm fy (fun _ hk=>⟨hk.1.1,⟨hk.1.2,hk.2⟩⟩),rm f9 (fun _ hk=>⟨hk.1.1.1.1.1,⟨hk.1.1.1.1.2.1,⟨hk.1.1.1.1.2.2.1,⟨hk.1.1.1.1.2.2.2.1,⟨hk.1.1.1.1.2.2.2.2,⟨hk.1.1.1.2,hk.1.1.2⟩⟩⟩⟩⟩⟩),rm fG (fun _ hk=>⟨hk.1.1.1.1.1,⟨hk.1.1.1.1.2.1,⟨hk.1.1.1.1.2.2.1,⟨hk.1.1.1.1.2.2.2.1,⟨hk.1.1.1.1.2.2.2.2,⟨hk.1.1.1.2,hk.1.1.2⟩⟩⟩⟩⟩⟩),rm fz (fun _ hk=>⟨hk.1.1,⟨hk.1.2,hk.2⟩⟩),rm fH (fun _ hk=>⟨hk.1.1.1.1.1,⟨hk.1.1.1.1.2.1,⟨hk.1.1.1.1.2.2.1,⟨hk.1.1.1.1.2.2.2.1,⟨hk.1.1.1.1.2.2.2.2,⟨hk.1.1.1.2,hk.1.1.2⟩⟩⟩⟩⟩⟩),rm fX (fun _ hk=>⟨hk.1.1.1.1.1,⟨hk.1.1.1.1.2.1,⟨hk.1.1.1.1.2.2.1,⟨hk.1.1.1.1.2.2.2.1,⟨hk.1.1.1.1.2.2.2.2,⟨hk.1.1.1.2,hk.1.1.2⟩⟩⟩⟩⟩⟩),rm gH (fun _ hk=>⟨hk.1.1,⟨hk.1.2,hk.2⟩⟩),rm fY (fun _ hk=>⟨hk.1.1.1.1.1,⟨hk.1.1.1.1.2.1,⟨hk.1.1.1.1.2.2.1,⟨hk.1.1.1.1.2.2.2.1,⟨hk.1.1.1.1.2.2.2.2,⟨hk.1.1.1.2,hk.1.1.2⟩⟩⟩⟩⟩⟩),rm jW (fun _ hk=>⟨hk.1.1.1.1.1.1.1.2,⟨hk.1.1.1.1.1.1.2,⟨hk.1.1.1.1.1.2,⟨hk.1.1.1.1.2,⟨hk.1.1.1.2,⟨hk.1.1.2,hk.1.1.1.1.1.1.1.1⟩⟩⟩⟩⟩⟩),rm kA (fun _ hk=>⟨hk.1.1.2,⟨hk.1.2,hk.2⟩⟩),rm jX (fun _ hk=>⟨hk.1.1.1.1.1.1.1.2,⟨hk.1.1.1.1.1.1.2,⟨hk.1.1.1.1.1.2,⟨hk.1.1.1.1.2,⟨hk.1.1.1.2,⟨hk.1.1.2,hk.1.1.1.1.1.1.1.1⟩⟩⟩⟩⟩⟩),⟨bk bj⟩,⟨bk bp⟩,⟨bk cE⟩,⟨bk d7⟩,⟨sD HB d9 dZ dt gu vG⟩⟩
    subst GQ;rw[if_pos rfl]at H
    by_cases uL:(gS.length:Int)=0
    ·
     rw[if_pos uL]at H;have BS:((gS.length:Int)==0)=true:=beq_iff_eq.mpr uL;have UU:((gS.length:Int) !=0)=false:=bne_eq_false_iff_eq.mpr uL;clear uL;(first|rw[BS]|(simp only[dD,dP];rw[BS])|(simp only[NH,aaU,aaT])|skip);have H':=Ah H;clear H;obtain⟨Ao113,co113,a3U⟩:=Kd.al lN.out;subst a3U;obtain⟨Ao114,co114,a3V⟩:=Kd.al ti.out;subst a3V
     go_wp2_with (first|(go_at_call 10;(with_reducible refine(eV.calls nq _ _ GJ _ _ KZ true _ ?aE ?aG ?aZ ?ab uK.out).mono ?_);(case aE=>exact bi lN);(case aG=>exact(Kd.b9 lN.out).2.1);(case aZ=>exact bi ti);(case ab=>exact(Kd.b9 ti.out).2.1);rintro e w' ⟨rfl,⟨nd,rfl⟩⟩;have hnb115:=DD.out;have hnc115:=Aq.out;have hnb116:=DE.out;have hnc116:=Ar.out;have hnb117:=DF.out;have hnc117:=As.out;have hnb118:=uf.out;have hnc118:=wt.out;obtain⟨SD,SE,SF,SG⟩:=b0 d7;obtain⟨SH,SI,SJ,SK⟩:=b5 d7))
     go_meet
     case rel=>exact⟨_,(((j8.length:Int) !=0)),e3,H',⟨by have:=Cl.out;first|omega|exact mz _⟩,rm fF (fun _ hk=>⟨hk.1.1.1.1.1,⟨hk.1.1.1.1.2.1,⟨hk.1.1.1.1.2.2.1,⟨hk.1.1.1.1.2.2.2.1,⟨hk.1.1.1.1.2.2.2.2,⟨hk.1.1.1.2,hk.1.1.2⟩⟩⟩⟩⟩⟩),rm fy (fun _ hk=>⟨hk.1.1,⟨hk.1.2,hk.2⟩⟩),rm f9 (fun _ hk=>⟨hk.1.1.1.1.1,⟨hk.1.1.1.1.2.1,⟨hk.1.1.1.1.2.2.1,⟨hk.1.1.1.1.2.2.2.1,⟨hk.1.1.1.1.2.2.2.2,⟨hk.1.1.1.2,hk.1.1.2⟩⟩⟩⟩⟩⟩),rm fG (fun _ hk=>⟨hk.1.1.1.1.1,⟨hk.1.1.1.1.2.1,⟨hk.1.1.1.1.2.2.1,⟨hk.1.1.1.1.2.2.2.1,⟨hk.1.1.1.1.2.2.2.2,⟨hk.1.1.1.2,hk.1.1.2⟩⟩⟩⟩⟩⟩),rm fz (fun _ hk=>⟨hk.1.1,⟨hk.1.2,hk.2⟩⟩),rm fH (fun _ hk=>⟨hk.1.1.1.1.1,⟨hk.1.1.1.1.2.1,⟨hk.1.1.1.1.2.2.1,⟨hk.1.1.1.1.2.2.2.1,⟨hk.1.1.1.1.2.2.2.2,⟨hk.1.1.1.2,hk.1.1.2⟩⟩⟩⟩⟩⟩),rm fX (fun _ hk=>⟨hk.1.1.1.1.1,⟨hk.1.1.1.1.2.1,⟨hk.1.1.1.1.2.2.1,⟨hk.1.1.1.1.2.2.2.1,⟨hk.1.1.1.1.2.2.2.2,⟨hk.1.1.1.2,hk.1.1.2⟩⟩⟩⟩⟩⟩),rm gH (fun _ hk=>⟨hk.1.1,⟨hk.1.2,hk.2⟩⟩),rm fY (fun _ hk=>⟨hk.1.1.1.1.1,⟨hk.1.1.1.1.2.1,⟨hk.1.1.1.1.2.2.1,⟨hk.1.1.1.1.2.2.2.1,⟨hk.1.1.1.1.2.2.2.2,⟨hk.1.1.1.2,hk.1.1.2⟩⟩⟩⟩⟩⟩),rm jW (fun _ hk=>⟨hk.1.1.1.1.1.1.1.2,⟨hk.1.1.1.1.1.1.2,⟨hk.1.1.1.1.1.2,⟨hk.1.1.1.1.2,⟨hk.1.1.1.2,⟨hk.1.1.2,hk.1.1.1.1.1.1.1.1⟩⟩⟩⟩⟩⟩),rm kA (fun _ hk=>⟨hk.1.1.2,⟨hk.1.2,hk.2⟩⟩),rm jX (fun _ hk=>⟨hk.1.1.1.1.1.1.1.2,⟨hk.1.1.1.1.1.1.2,⟨hk.1.1.1.1.1.2,⟨hk.1.1.1.1.2,⟨hk.1.1.1.2,⟨hk.1.1.2,hk.1.1.1.1.1.1.1.1⟩⟩⟩⟩⟩⟩),⟨bk bj⟩,⟨bk bp⟩,⟨bk cE⟩,⟨bk d7⟩,⟨sD HB d9 dZ dt gu vG⟩⟩
    rw[if_neg uL]at H;have BS:((gS.length:Int)==0)=false:=beq_eq_false_iff_ne.mpr uL;have UU:((gS.length:Int) !=0)=true:=bne_iff_ne.mpr uL
    have NH:¬(gS=[]):=fun h_=>uL (by rw[h_];rfl)
    (first|rw[BS]|(simp only[dD,dP];rw[BS])|(simp only[NH,aaU,aaT])|skip);have H':=Ah H;clear H;obtain⟨Ao120,co120,a3W⟩:=Kd.al lN.out;subst a3W;obtain⟨Ao121,co121,a3X⟩:=Kd.al ti.out;subst a3X
    go_wp2_with (first|(go_at_call 10;(with_reducible refine(eV.calls nq _ _ GJ _ _ KZ true _ ?aE ?aG ?aZ ?ab uK.out).mono ?_);(case aE=>exact bi lN);(case aG=>exact(Kd.b9 lN.out).2.1);(case aZ=>exact bi ti);(case ab=>exact(Kd.b9 ti.out).2.1);rintro e w' ⟨rfl,⟨nd,rfl⟩⟩;have hnb122:=DD.out;have hnc122:=Aq.out;have hnb123:=DE.out;have hnc123:=Ar.out;have hnb124:=DF.out;have hnc124:=As.out;have a2P:=uf.out;have a2Q:=wt.out;obtain⟨a0C,a0D,a0E,a0F⟩:=b0 d7;obtain⟨a0G,a0H,a0I,a0J⟩:=b5 d7))
    go_meet
    case rel=>exact⟨_,(true),e3,H',⟨by have:=Cl.out;first|omega|exact mz _⟩,rm fF (fun _ hk=>⟨hk.1.1.1.1.1,⟨hk.1.1.1.1.2.1,⟨hk.1.1.1.1.2.2.1,⟨hk.1.1.1.1.2.2.2.1,⟨hk.1.1.1.1.2.2.2.2,⟨hk.1.1.1.2,hk.1.1.2⟩⟩⟩⟩⟩⟩),rm fy (fun _ hk=>⟨hk.1.1,⟨hk.1.2,hk.2⟩⟩),rm f9 (fun _ hk=>⟨hk.1.1.1.1.1,⟨hk.1.1.1.1.2.1,⟨hk.1.1.1.1.2.2.1,⟨hk.1.1.1.1.2.2.2.1,⟨hk.1.1.1.1.2.2.2.2,⟨hk.1.1.1.2,hk.1.1.2⟩⟩⟩⟩⟩⟩),rm fG (fun _ hk=>⟨hk.1.1.1.1.1,⟨hk.1.1.1.1.2.1,⟨hk.1.1.1.1.2.2.1,⟨hk.1.1.1.1.2.2.2.1,⟨hk.1.1.1.1.2.2.2.2,⟨hk.1.1.1.2,hk.1.1.2⟩⟩⟩⟩⟩⟩),rm fz (fun _ hk=>⟨hk.1.1,⟨hk.1.2,hk.2⟩⟩),rm fH (fun _ hk=>⟨hk.1.1.1.1.1,⟨hk.1.1.1.1.2.1,⟨hk.1.1.1.1.2.2.1,⟨hk.1.1.1.1.2.2.2.1,⟨hk.1.1.1.1.2.2.2.2,⟨hk.1.1.1.2,hk.1.1.2⟩⟩⟩⟩⟩⟩),rm fX (fun _ hk=>⟨hk.1.1.1.1.1,⟨hk.1.1.1.1.2.1,⟨hk.1.1.1.1.2.2.1,⟨hk.1.1.1.1.2.2.2.1,⟨hk.1.1.1.1.2.2.2.2,⟨hk.1.1.1.2,hk.1.1.2⟩⟩⟩⟩⟩⟩),rm gH (fun _ hk=>⟨hk.1.1,⟨hk.1.2,hk.2⟩⟩),rm fY (fun _ hk=>⟨hk.1.1.1.1.1,⟨hk.1.1.1.1.2.1,⟨hk.1.1.1.1.2.2.1,⟨hk.1.1.1.1.2.2.2.1,⟨hk.1.1.1.1.2.2.2.2,⟨hk.1.1.1.2,hk.1.1.2⟩⟩⟩⟩⟩⟩),rm jW (fun _ hk=>⟨hk.1.1.1.1.1.1.1.2,⟨hk.1.1.1.1.1.1.2,⟨hk.1.1.1.1.1.2,⟨hk.1.1.1.1.2,⟨hk.1.1.1.2,⟨hk.1.1.2,hk.1.1.1.1.1.1.1.1⟩⟩⟩⟩⟩⟩),rm kA (fun _ hk=>⟨hk.1.1.2,⟨hk.1.2,hk.2⟩⟩),rm jX (fun _ hk=>⟨hk.1.1.1.1.1.1.1.2,⟨hk.1.1.1.1.1.1.2,⟨hk.1.1.1.1.1.2,⟨hk.1.1.1.1.2,⟨hk.1.1.1.2,⟨hk.1.1.2,hk.1.1.1.1.1.1.1.1⟩⟩⟩⟩⟩⟩),⟨bk bj⟩,⟨bk bp⟩,⟨bk cE⟩,⟨bk d7⟩,⟨sD HB d9 dZ dt gu vG⟩⟩
   case rest=>
    clear PC
    try clear c1
    try clear p2
    try clear c7
    try clear c8
    try clear q9
    try clear c10
    try clear c11
    try clear c12
    try clear Hk
    try clear Hl
    try clear Cm
    try clear a3K
    try clear a3L
    try clear Cn
    try clear a3M
    try clear a3N
    try clear c81
    try clear c82
    try clear c87
    try clear c88
    try clear c89
    try clear Hm
    try clear c101
    try clear c102
    try clear c103
    try clear c104
    try clear c107
    try clear GP
    try clear c109
    try clear GQ
    try clear uL
    try clear BS
    try clear UU
    try clear NH
    try clear c115
    try clear c116
    try clear c117
    try clear c118
    try clear c122
    try clear c123
    try clear c124
    try clear c125
    try clear a0u a0v a0w a0x
    try clear SD SE SF SG
    try clear a0C a0D a0E a0F
    try clear MP
    try clear Dm Dn Do Dp
    try clear Id Ie MS MT
    try clear Dy Dz Sc Sd
    try clear E2 E3 MW MX
    try clear Il Im So Sp
    try clear E6 Ip Iq Ir
    try clear TB TC TD TE
    try clear Iv Iw Mi Mj
    try clear Mm Mn TJ TK
    try clear Me Mf Ss St
    try clear Sw Sx Sy Sz
    try clear Ih Ii Ma Mb
    try clear Sg Sh Si Sj
    try clear a1g a1h a1i a1j
    try clear a1o a1p a1q a1r
    try clear a0y a0z a0A a0B
    try clear SH SI SJ SK
    try clear a0G a0H a0I a0J
    try clear sQ sR xF xG
    try clear ut uu MQ MR
    try clear Dq Dr Ds Dt
    try clear If Ig MU MV
    try clear E0 E1 Se Sf
    try clear E4 E5 MY MZ
    try clear In Io Sq Sr
    try clear E7 Is It Iu
    try clear TF TG TH TI
    try clear Ix Iy Mk Ml
    try clear Mo Mp TL TM
    try clear Mg Mh Su Sv
    try clear T0 T2 T9 TA
    try clear Ij Ik Mc Md
    try clear Sk Sl Sm Sn
    try clear a1k a1l a1m a1n
    try clear a1s a1t a1u a1v
    try clear Hm
    obtain⟨kq,Iz,rfl,HA,HJ79,fF,fy,f9,fG,fz,fH,fX,gH,fY,kw,lZ,kx,bj,bp,cE,d7,HB⟩:=hcut
    cases kq with
    |zero=>exact absurd HA.out (by simp[dE.j1])
    |succ PE=>
     have H:=HA.out;clear HA;simp only[dE.j1]at H
     by_cases Ka:Iz=true
     ·
      subst Ka;rw[if_pos rfl]at H;obtain rfl:=fl H
      go_wp2
      go_ret
      exact⟨er,kQ HB d9 dZ dt gu⟩
     replace Ka:=dW.mpr Ka;subst Ka;rw[if_neg cg]at H;replace H:=He.mp H;obtain⟨⟨zH,C8,GR,Kb,a7b⟩,V0,H⟩:=H
     try dsimp only at H
     have GS:=Ah V0;clear V0
     by_cases c131:a7b=true
     rotate_left
     ·
      replace c131:=dW.mpr c131;subst c131;rw[if_neg cg]at H;obtain rfl:=fl H;have hnb149:=DD.out;have hnc149:=Aq.out;have hnb150:=DE.out;have hnc150:=Ar.out;have hnb151:=DF.out;have hnc151:=As.out;obtain⟨hcz152_0,hcz152_1,hcz152_2,hcz152_3⟩:=b0 d7;obtain⟨hfz152_0,hfz152_1,hfz152_2,hfz152_3⟩:=b5 d7
      go_wp2_with (first|((with_reducible refine ap (f:=12) rfl ?_);refine gL (some 143) rfl rfl Try.func12 (by kernel_rfl) rfl #[.agg #[.slice mh iN.length mi,.slice rh j8.length ri,.slice oM gS.length oN,.int .i64 mG]] rfl ?_;(with_reducible refine(mN.calls PE _ _ iN _ _ j8 _ _ gS mG zH C8 GR Kb false _ ?aE ?aG ?aZ ?ab ?bT ?bc GS.out).mono ?_);(case aE=>exact bi kw);(case aG=>exact(Kd.b9 kw.out).2.1);(case aZ=>exact bi lZ);(case ab=>exact(Kd.b9 lZ.out).2.1);(case bT=>exact bi kx);(case bc=>exact(Kd.b9 kx.out).2.1);rintro e a7c ⟨a7d,a7e,a7f,rfl,ho0,ho1,ho2,hb⟩;refine⟨_,rfl, ?_⟩;have rF:=Ah (Kd.bD (Kd.av (Kd.av (Kd.av (Kd.av (Kd.av (Kd.av (Kd.av (Kd.av ho0 (Kd.an (rr fF.out))) (Kd.an (rr f9.out))) (Kd.an (rr fG.out))) (Kd.an (rr fH.out))) (Kd.an (rr fX.out))) (Kd.an (rr fY.out))) (Kd.an (rr kw.out))) (Kd.an (rr kx.out))) (bJ (kQ HB d9 dZ dt gu)));have rG:=Ah (Kd.bD (Kd.av (Kd.av (Kd.av (Kd.av ho1 (Kd.an (rr fy.out))) (Kd.an (rr fz.out))) (Kd.an (rr gH.out))) (Kd.an (rr lZ.out))) (bJ (kQ HB d9 dZ dt gu)));replace fy:=Ah (Kd.cV (rr fy.out) (Kd.ar ho1) hb);replace fz:=Ah (Kd.cV (rr fz.out) (Kd.ar ho1) hb);replace gH:=Ah (Kd.cV (rr gH.out) (Kd.ar ho1) hb);replace lZ:=Ah (Kd.cV (rr lZ.out) (Kd.ar ho1) hb);have rH:=Ah (Kd.bD (Kd.av (Kd.av (Kd.av (Kd.av (Kd.av (Kd.av (Kd.av (Kd.av ho2 (Kd.an (rr fF.out))) (Kd.an (rr f9.out))) (Kd.an (rr fG.out))) (Kd.an (rr fH.out))) (Kd.an (rr fX.out))) (Kd.an (rr fY.out))) (Kd.an (rr kw.out))) (Kd.an (rr kx.out))) (bJ (kQ HB d9 dZ dt gu)));replace fF:=Ah (Kd.aK (Kd.cD (Kd.cD (Kd.eu (rr fF.out) hb) (Kd.ar ho0)) (Kd.ar ho2)) (fun _ h_=>h_.1));replace f9:=Ah (Kd.aK (Kd.cD (Kd.cD (Kd.eu (rr f9.out) hb) (Kd.ar ho0)) (Kd.ar ho2)) (fun _ h_=>h_.1));replace fG:=Ah (Kd.aK (Kd.cD (Kd.cD (Kd.eu (rr fG.out) hb) (Kd.ar ho0)) (Kd.ar ho2)) (fun _ h_=>h_.1));replace fH:=Ah (Kd.aK (Kd.cD (Kd.cD (Kd.eu (rr fH.out) hb) (Kd.ar ho0)) (Kd.ar ho2)) (fun _ h_=>h_.1));replace fX:=Ah (Kd.aK (Kd.cD (Kd.cD (Kd.eu (rr fX.out) hb) (Kd.ar ho0)) (Kd.ar ho2)) (fun _ h_=>h_.1));replace fY:=Ah (Kd.aK (Kd.cD (Kd.cD (Kd.eu (rr fY.out) hb) (Kd.ar ho0)) (Kd.ar ho2)) (fun _ h_=>h_.1));replace kw:=Ah (Kd.aK (Kd.cD (Kd.cD (Kd.eu (rr kw.out) hb) (Kd.ar ho0)) (Kd.ar ho2)) (fun _ h_=>h_.1));replace kx:=Ah (Kd.aK (Kd.cD (Kd.cD (Kd.eu (rr kx.out) hb) (Kd.ar ho0)) (Kd.ar ho2)) (fun _ h_=>h_.1));replace bj:=nb bj hb;replace bp:=nb bp hb;replace cE:=nb cE hb;replace d7:=nb d7 hb;replace HB:=Ah (aJ (kQ HB d9 dZ dt gu) hb);(try clear hb ho0 ho1 ho2))|((with_reducible refine ao (N:=21) rfl ?_);(try(refine dM (by rfl) ?_;dsimp only));refine az 21 28 #[.slice none 0 0,.slice none 0 0,.slice none 0 0,.int .i64 0] ?_;intro V1 hg a7g iU hb;replace fF:=nr fF hb;replace fy:=nr fy hb;replace f9:=nr f9 hb;replace fG:=nr fG hb;replace fz:=nr fz hb;replace fH:=nr fH hb;replace fX:=nr fX hb;replace gH:=nr gH hb;replace fY:=nr fY hb;replace kw:=nr kw hb;replace lZ:=nr lZ hb;replace kx:=nr kx hb;replace rF:=nr rF hb;replace rG:=nr rG hb;replace rH:=nr rH hb;have a3Y:=gw hg (kQ HB d9 dZ dt gu);have Jn:=gw hg (kQ HB d9 dZ dt gu);replace HB:=Ah (aJ (kQ HB d9 dZ dt gu) hb);have ID:=nn bj hg;have LS:=nm bj hg;replace bj:=nb bj hb;have IE:=nn bp hg;have LT:=nm bp hg;replace bp:=nb bp hb;have IF:=nn cE hg;have LU:=nm cE hg;replace cE:=nb cE hb;have IG:=nn d7 hg;have LV:=nm d7 hg;replace d7:=nb d7 hb;clear hb hg;obtain⟨V2,V3,Jo⟩:=Kd.al rF.out;subst Jo;have hnb156:=LS.out;have hnc156:=ID.out;have hnb157:=LT.out;have hnc157:=IE.out;have hnb158:=LU.out;have hnc158:=IF.out;have hnb159:=LV.out;have hnc159:=IG.out;obtain⟨hcz160_0,hcz160_1,hcz160_2,hcz160_3⟩:=b0 iU;obtain⟨hfz160_0,hfz160_1,hfz160_2,hfz160_3⟩:=b5 iU;obtain⟨tj,tk,Jp⟩:=Kd.al rG.out;subst Jp;obtain⟨Ao162,co162,a3Z⟩:=Kd.al rH.out;subst a3Z))
      go_ret
      exact⟨er,sD HB d9 dZ dt gu Jn⟩
     subst c131;rw[if_pos rfl]at H;replace H:=He.mp H;obtain⟨P5,V4,H⟩:=H
     try dsimp only at H
     have a7h:=Ah V4;clear V4;obtain rfl:=fl H;have hnb133:=DD.out;have hnc133:=Aq.out;have hnb134:=DE.out;have hnc134:=Ar.out;have hnb135:=DF.out;have hnc135:=As.out;obtain⟨hcz136_0,hcz136_1,hcz136_2,hcz136_3⟩:=b0 d7;obtain⟨hfz136_0,hfz136_1,hfz136_2,hfz136_3⟩:=b5 d7
     go_wp2_with (first|((with_reducible refine ap (f:=12) rfl ?_);refine gL (some 143) rfl rfl Try.func12 (by kernel_rfl) rfl #[.agg #[.slice mh iN.length mi,.slice rh j8.length ri,.slice oM gS.length oN,.int .i64 mG]] rfl ?_;(with_reducible refine(mN.calls PE _ _ iN _ _ j8 _ _ gS mG zH C8 GR Kb true _ ?aE ?aG ?aZ ?ab ?bT ?bc GS.out).mono ?_);(case aE=>exact bi kw);(case aG=>exact(Kd.b9 kw.out).2.1);(case aZ=>exact bi lZ);(case ab=>exact(Kd.b9 lZ.out).2.1);(case bT=>exact bi kx);(case bc=>exact(Kd.b9 kx.out).2.1);rintro e w137 ⟨a7d,a7e,a7f,rfl,ho0,ho1,ho2,hb⟩;refine⟨_,rfl, ?_⟩;have rF:=Ah (Kd.bD (Kd.av (Kd.av (Kd.av (Kd.av (Kd.av (Kd.av (Kd.av (Kd.av ho0 (Kd.an (rr fF.out))) (Kd.an (rr f9.out))) (Kd.an (rr fG.out))) (Kd.an (rr fH.out))) (Kd.an (rr fX.out))) (Kd.an (rr fY.out))) (Kd.an (rr kw.out))) (Kd.an (rr kx.out))) (bJ (kQ HB d9 dZ dt gu)));have rG:=Ah (Kd.bD (Kd.av (Kd.av (Kd.av (Kd.av ho1 (Kd.an (rr fy.out))) (Kd.an (rr fz.out))) (Kd.an (rr gH.out))) (Kd.an (rr lZ.out))) (bJ (kQ HB d9 dZ dt gu)));replace fy:=Ah (Kd.cV (rr fy.out) (Kd.ar ho1) hb);replace fz:=Ah (Kd.cV (rr fz.out) (Kd.ar ho1) hb);replace gH:=Ah (Kd.cV (rr gH.out) (Kd.ar ho1) hb);replace lZ:=Ah (Kd.cV (rr lZ.out) (Kd.ar ho1) hb);have rH:=Ah (Kd.bD (Kd.av (Kd.av (Kd.av (Kd.av (Kd.av (Kd.av (Kd.av (Kd.av ho2 (Kd.an (rr fF.out))) (Kd.an (rr f9.out))) (Kd.an (rr fG.out))) (Kd.an (rr fH.out))) (Kd.an (rr fX.out))) (Kd.an (rr fY.out))) (Kd.an (rr kw.out))) (Kd.an (rr kx.out))) (bJ (kQ HB d9 dZ dt gu)));replace fF:=Ah (Kd.aK (Kd.cD (Kd.cD (Kd.eu (rr fF.out) hb) (Kd.ar ho0)) (Kd.ar ho2)) (fun _ h_=>h_.1));replace f9:=Ah (Kd.aK (Kd.cD (Kd.cD (Kd.eu (rr f9.out) hb) (Kd.ar ho0)) (Kd.ar ho2)) (fun _ h_=>h_.1));replace fG:=Ah (Kd.aK (Kd.cD (Kd.cD (Kd.eu (rr fG.out) hb) (Kd.ar ho0)) (Kd.ar ho2)) (fun _ h_=>h_.1));replace fH:=Ah (Kd.aK (Kd.cD (Kd.cD (Kd.eu (rr fH.out) hb) (Kd.ar ho0)) (Kd.ar ho2)) (fun _ h_=>h_.1));replace fX:=Ah (Kd.aK (Kd.cD (Kd.cD (Kd.eu (rr fX.out) hb) (Kd.ar ho0)) (Kd.ar ho2)) (fun _ h_=>h_.1));replace fY:=Ah (Kd.aK (Kd.cD (Kd.cD (Kd.eu (rr fY.out) hb) (Kd.ar ho0)) (Kd.ar ho2)) (fun _ h_=>h_.1));replace kw:=Ah (Kd.aK (Kd.cD (Kd.cD (Kd.eu (rr kw.out) hb) (Kd.ar ho0)) (Kd.ar ho2)) (fun _ h_=>h_.1));replace kx:=Ah (Kd.aK (Kd.cD (Kd.cD (Kd.eu (rr kx.out) hb) (Kd.ar ho0)) (Kd.ar ho2)) (fun _ h_=>h_.1));replace bj:=nb bj hb;replace bp:=nb bp hb;replace cE:=nb cE hb;replace d7:=nb d7 hb;replace HB:=Ah (aJ (kQ HB d9 dZ dt gu) hb);(try clear hb ho0 ho1 ho2))|((with_reducible refine ao (N:=21) rfl ?_);(try(refine dM (by rfl) ?_;dsimp only));refine az 21 28 #[.slice none 0 0,.slice none 0 0,.slice none 0 0,.int .i64 0] ?_;intro V1 hg w138 iU hb;replace fF:=nr fF hb;replace fy:=nr fy hb;replace f9:=nr f9 hb;replace fG:=nr fG hb;replace fz:=nr fz hb;replace fH:=nr fH hb;replace fX:=nr fX hb;replace gH:=nr gH hb;replace fY:=nr fY hb;replace kw:=nr kw hb;replace lZ:=nr lZ hb;replace kx:=nr kx hb;replace rF:=nr rF hb;replace rG:=nr rG hb;replace rH:=nr rH hb;have a3Y:=gw hg (kQ HB d9 dZ dt gu);have Jn:=gw hg (kQ HB d9 dZ dt gu);replace HB:=Ah (aJ (kQ HB d9 dZ dt gu) hb);have ID:=nn bj hg;have LS:=nm bj hg;replace bj:=nb bj hb;have IE:=nn bp hg;have LT:=nm bp hg;replace bp:=nb bp hb;have IF:=nn cE hg;have LU:=nm cE hg;replace cE:=nb cE hb;have IG:=nn d7 hg;have LV:=nm d7 hg;replace d7:=nb d7 hb;clear hb hg;obtain⟨Jq,Jr,a30⟩:=Kd.al rF.out;subst a30;have hnb140:=LS.out;have hnc140:=ID.out;have hnb141:=LT.out;have hnc141:=IE.out;have hnb142:=LU.out;have hnc142:=IF.out;have hnb143:=LV.out;have hnc143:=IG.out;obtain⟨hcz144_0,hcz144_1,hcz144_2,hcz144_3⟩:=b0 iU;obtain⟨hfz144_0,hfz144_1,hfz144_2,hfz144_3⟩:=b5 iU;obtain⟨m5,m6,Nh⟩:=Kd.al rG.out;subst Nh;obtain⟨V5,V6,a31⟩:=Kd.al rH.out;subst a31;obtain⟨hcz147_0,hcz147_1,hcz147_2,hcz147_3⟩:=b0 d7;obtain⟨hfz147_0,hfz147_1,hfz147_2,hfz147_3⟩:=b5 d7)|(go_at_call 9;(with_reducible refine(lG.calls PE _ _ zH _ _ C8 _ _ GR Kb _ _ iN _ _ j8 _ _ gS mG P5 _ ?aE ?aG ?aZ ?ab ?bT ?bc ?jq ?m4 ?th ?td ?te ?tf a7h.out).mono ?_);(case aE=>exact rc rF iU);(case aG=>exact(Kd.b9 rF.out).2.1);(case aZ=>exact rc rG iU);(case ab=>exact(Kd.b9 rG.out).2.1);(case bT=>exact rc rH iU);(case bc=>exact(Kd.b9 rH.out).2.1);(case jq=>exact rc kw iU);(case m4=>exact(Kd.b9 kw.out).2.1);(case th=>exact rc lZ iU);(case td=>exact(Kd.b9 lZ.out).2.1);(case te=>exact rc kx iU);(case tf=>exact(Kd.b9 kx.out).2.1);rintro e w148 ⟨rfl,hb⟩;replace fF:=nf fF iU hb;replace fy:=nf fy iU hb;replace f9:=nf f9 iU hb;replace fG:=nf fG iU hb;replace fz:=nf fz iU hb;replace fH:=nf fH iU hb;replace fX:=nf fX iU hb;replace gH:=nf gH iU hb;replace fY:=nf fY iU hb;replace kw:=nf kw iU hb;replace lZ:=nf lZ iU hb;replace kx:=nf kx iU hb;replace rF:=nf rF iU hb;replace rG:=nf rG iU hb;replace rH:=nf rH iU hb;replace bj:=Ah (dF (bf bj ID) hb);replace bp:=Ah (dF (bf bp IE) hb);replace cE:=Ah (dF (bf cE IF) hb);replace d7:=Ah (dF (bf d7 IG) hb);replace iU:=Ah (dF (g:=V1) (o:= .cells #[.slice Jq zH.length Jr,.slice m5 C8.length m6,.slice V5 GR.length V6,.int .i64 Kb] 28 (0,0)) (by(with_reducible repeat(first|refine a9 ?_ _|refine U ?_|refine Z ?_ _));refine aN (cs:= #[.slice Jq zH.length Jr,.slice m5 C8.length m6,.slice V5 GR.length V6,.int .i64 0]) ?_ 3 _ rfl;(with_reducible repeat(first|refine a9 ?_ _|refine U ?_|refine Z ?_ _));refine aN (cs:= #[.slice Jq zH.length Jr,.slice m5 C8.length m6,.slice none 0 0,.int .i64 0]) ?_ 2 _ rfl;(with_reducible repeat(first|refine a9 ?_ _|refine U ?_|refine Z ?_ _));refine aN (cs:= #[.slice Jq zH.length Jr,.slice none 0 0,.slice none 0 0,.int .i64 0]) ?_ 1 _ rfl;(with_reducible repeat(first|refine a9 ?_ _|refine U ?_|refine Z ?_ _));refine aN (cs:= #[.slice none 0 0,.slice none 0 0,.slice none 0 0,.int .i64 0]) ?_ 0 _ rfl;(with_reducible repeat(first|refine a9 ?_ _|refine U ?_|refine Z ?_ _));exact iU.out) hb);replace HB:=Ah (aJ (sD HB d9 dZ dt gu Jn) hb);(try clear hb)))
     go_ret
     exact⟨er,sD HB d9 dZ dt gu Jn⟩
def dE.Pure:Prop:=∀ (l0:List Int),(l0.length≤maxLen∧∀y0∈l0,(Lit.int .u8 y0).wf=true)→∃k,dE.f k l0=some true
end Go.Proofs.Ytfdpdocbpcnkaaa.G
