-- Printed by a program of this session (drive.py, by way of the kit's print). Not trusted: Lean checks it.
import Derived.Test.YtjojdplkgekagaaG0
import Derived.Test.YtjojdplkgekagaaG1
import Derived.Test.YtjojdplkgekagaaG3
import Derived.Test.YtjojdplkgekagaaG4
import Derived.Test.YtjojdplkgekagaaG5
import Derived.Test.YtjojdplkgekagaaG6
open Bool renaming eq_false_iff→dn,not_false→aaz
open Eq renaming trans→aaT
open Go.Act renaming put→aab
open Go.Addr renaming add→aav
open Go.Proofs.Try renaming underlying25→ua,prog→aad,underlying28→aaq,func21→aar,underlying65→aay,func11→aa9,func23→abG
open Go.RowKit renaming wrap64→LS
open Go.RowKit.Below renaming refl→aaa
open Go.World renaming block_lt_of_cell?→LA,drewN_drewN→nL,drewN→aaB
open Int renaming reduceToNat→aa3
open List renaming setIfInBounds_toArray→Ok,length_take→ao,set_cons_zero→bY,set_cons_succ→dl,length_drop→gy,map_toArray→aag,map_cons→aan,map_nil→aas
open Nat renaming le_refl→bx,le_of_eq→aaj,add_zero→aal,mul_one→aao,add_assoc→aau,ne_of_lt→aaI,ne_of_gt→aaJ
open Option renaming bind_eq_some_iff→LT,bind_some→Mq
open Option.some renaming inj→iz,injEq→j4
open Prod.mk renaming injEq→ub
namespace Go.Proofs.Ytjojdplkgekagaa.G
open Go.RowKit Go.Proofs.YtjojdplkgekagaaW.PrintWords Go.Proofs.YtjojdplkgekagaaW.PrintLast Go.Proofs.YtjojdplkgekagaaW.PrintMore
attribute [local go_sem] um un uu uv ud ue uo uq
set_option linter.unusedVariables false
set_option linter.unusedSimpArgs false
attribute [local go_sem high] eqA38
def i4.l0:Nat→List (aT)→List (aT)→Int→Int→Option (Bool)
 |0,_,_,_,_=>none
 |k+1,x0,x1,lr,dd=>if dd<lr then(if 0≤dd then(if dd<(x0.length:Int)then(if dd<(x1.length:Int)then(if(!(((aE x0 dd).f0)==((aE x1 dd).f0))||(!(((aE x0 dd).f1)==((aE x1 dd).f1))))=true then(some false)else(i4.l0 k x0 x1 lr (LS (dd+1))))else(none))else(none))else(none))else(some true)
def i4.f(k:Nat)(l0:List (aT))(l1:List (aT)):Option (Bool):=if(l0.length:Int)=(l1.length:Int)then(i4.l0 k l0 l1 (l0.length:Int) 0)else(some false)
theorem i4.dL:∀k,(∀y0 y1 y2 y3,aG (i4.l0 k y0 y1 y2 y3) (i4.l0 (k+1) y0 y1 y2 y3))
 |0=>fun _ _ _ _ r h=>by simp[i4.l0]at h
 |k+1=>by
  have bw:=i4.dL k
  ·
   intro y0 y1 y2 y3;unfold i4.l0
   repeat' with_reducible first|exact bw _ _ _ _|exact aG.refl _|exact aG.none _|refine aG.ite ?_ ?_|refine aG.bind ?_ (fun _=> ?_)
theorem i4.mono:∀a0 a1 k,aG (i4.f k a0 a1) (i4.f (k+1) a0 a1):=by
 intro a0 a1 k;have bw:=i4.dL k;unfold i4.f
 repeat' with_reducible first|exact bw _ _ _ _|exact aG.refl _|exact aG.none _|refine aG.ite ?_ ?_|refine aG.bind ?_ (fun _=> ?_)
set_option maxHeartbeats 8000000 in
set_option maxRecDepth 100000 in
theorem i4.calls(k:Nat)(A0:Option Addr)(c0:Nat)(l0:List (aT))(A1:Option Addr)(c1:Nat)(l1:List (aT))(r:Bool)(w:World)(hr0:Kd.C bd w A0 l0.length l0)(hc0:l0.length≤c0)(hr1:Kd.C bd w A1 l1.length l1)(hc1:l1.length≤c1)(h:i4.f k l0 l1=some r):
 Calls aad 8 #[.slice A0 l0.length c0,.slice A1 l1.length c1] w fun e w'=>e= .returned (.bool r)∧fp w w':=by
 have Jh:=Try.underlying38;have gV:=Ah hr0;have lG:=Ah hc0;clear hr0 hc0;have HR1:=Ah hr1;have PO:=Ah hc1;clear hr1 hc1;have H:(if(l0.length:Int)=(l1.length:Int)then(i4.l0 k l0 l1 (l0.length:Int) 0)else(some false))=some r:=h;clear h
 by_cases c3:(l0.length:Int)=(l1.length:Int)
 rotate_left
 ·
  rw[if_neg c3]at H;have iN:((l0.length:Int)==(l1.length:Int))=false:=beq_eq_false_iff_ne.mpr c3;have xV:((l0.length:Int) !=(l1.length:Int))=true:=bne_iff_ne.mpr c3
  have Ks:(l0.length==l1.length)=false:=by first|simpa using c3|(simp at c3⊢;omega)
  obtain rfl:=iz H
  go_enter Try.func8,Try.ntmps8
  go_wp2
  repeat(go_quiet (fail);try go_wp2)
  go_ret
  exact⟨e3,by repeat(first|exact fp.refl _|apply fp.step)⟩
 rw[if_pos c3]at H;have iN:((l0.length:Int)==(l1.length:Int))=true:=beq_iff_eq.mpr c3;have xV:((l0.length:Int) !=(l1.length:Int))=false:=bne_eq_false_iff_eq.mpr c3
 have Ks:(l0.length==l1.length)=true:=by first|simpa using c3|(simp at c3⊢;omega)
 clear c3;have H':=Ah H;clear H
 go_enter Try.func8,Try.ntmps8
 go_wp2
 repeat(go_quiet (fail);try go_wp2)
 go_loopg [13] k (fun kq v13 w'=>∃ (gg:Int),v13= .int .i64 gg∧U (i4.l0 kq l0 l1 (l0.length:Int) gg=some r)∧U (kq≤k)∧fp w w')
 case atStart=>exact⟨(0),e3,H',⟨bx _⟩,by repeat(first|exact fp.refl _|apply fp.step)⟩
 case round=>
  clear H'
  try clear c1
  try clear p2
  try clear c3
  try clear iN
  try clear xV
  try clear Ks
  obtain⟨gg,rfl,HA,bU,⟨m1,rfl⟩⟩:=hrel
  cases gk with
  |zero=>exact absurd HA.out (by simp[i4.l0])
  |succ k1=>
   have H:=HA.out;clear HA;simp only[i4.l0]at H
   by_cases c4:gg<(l0.length:Int)
   rotate_left
   ·
    rw[if_neg c4]at H;have jb:decide (gg<(l0.length:Int))=false:=decide_eq_false c4;clear c4;obtain rfl:=iz H
    go_wp2
    repeat(go_quiet (fail);try go_wp2)
    go_ret
    exact⟨e3,by repeat(first|exact fp.refl _|apply fp.step)⟩
   rw[if_pos c4]at H;have jb:decide (gg<(l0.length:Int))=true:=decide_eq_true c4;clear c4
   by_cases c5:0≤gg
   rotate_left
   ·
    rw[if_neg c5]at H;exact absurd H (by simp)
   rw[if_pos c5]at H;have oP:decide (0≤gg)=true:=decide_eq_true c5;clear c5
   by_cases c6:gg<(l0.length:Int)
   rotate_left
   ·
    rw[if_neg c6]at H;exact absurd H (by simp)
   rw[if_pos c6]at H;have rM:decide (gg<(l0.length:Int))=true:=decide_eq_true c6;clear c6
   by_cases c7:gg<(l1.length:Int)
   rotate_left
   ·
    rw[if_neg c7]at H;exact absurd H (by simp)
   rw[if_pos c7]at H;have zn:decide (gg<(l1.length:Int))=true:=decide_eq_true c7;clear c7
   by_cases c8:(!(((aE l0 gg).f0)==((aE l1 gg).f0))||(!(((aE l0 gg).f1)==((aE l1 gg).f1))))=true
   ·
    rw[if_pos c8]at H;have nC:(!(((aE l0 gg).f0)==((aE l1 gg).f0))||(!(((aE l0 gg).f1)==((aE l1 gg).f1))))=true:=c8;clear c8;obtain rfl:=iz H;have DW:0≤(gg:Int):=od;have DX:gg<(l0.length:Int):=od;obtain⟨ad510,WH,hx510_0,hx510_1⟩:=fE gV.out gg DW DX
    cases WH
    replace DW:=eq_true DW;replace DX:=eq_true DX;have DY:0≤(gg:Int):=od;have DZ:gg<(l1.length:Int):=od;obtain⟨ad511,WI,hx511_0,hx511_1⟩:=fE HR1.out gg DY DZ
    cases WI
    replace DY:=eq_true DY;replace DZ:=eq_true DZ
    go_wp2
    repeat(go_quiet (fail);try go_wp2)
    go_ret
    exact⟨e3,by repeat(first|exact fp.refl _|apply fp.step)⟩
   rw[if_neg c8]at H
   have nC:(!(((aE l0 gg).f0)==((aE l1 gg).f0))||(!(((aE l0 gg).f1)==((aE l1 gg).f1))))=false:=by simpa using c8
   clear c8;have H':=Ah H;clear H;have DW:0≤(gg:Int):=od;have DX:gg<(l0.length:Int):=od;obtain⟨ad510,WH,hx510_0,hx510_1⟩:=fE gV.out gg DW DX
   cases WH
   replace DW:=eq_true DW;replace DX:=eq_true DX;have DY:0≤(gg:Int):=od;have DZ:gg<(l1.length:Int):=od;obtain⟨ad511,WI,hx511_0,hx511_1⟩:=fE HR1.out gg DY DZ
   cases WI
   replace DY:=eq_true DY;replace DZ:=eq_true DZ
   go_wp2
   repeat(go_quiet (fail);try go_wp2)
   go_roundg k1
   case measure=>have:=bU.out;omega
   case rel=>exact⟨(LS (gg+1)),e3,H',⟨by have:=bU.out;omega⟩,by repeat(first|exact fp.refl _|apply fp.step)⟩
def gb.l0:Nat→Int→Int→List (a7)→Int→Int→Option (Int×Int×Bool)
 |0,_,_,_,_,_=>none
 |k+1,x5,x6,dd,gU,dA=>if dA<gU then(if 0≤dA then(if dA<(dd.length:Int)then(if(I dd dA).f3=true then(gb.l0 k (LS (x5+((I dd dA).f1))) (LS (x6+((I dd dA).f1))) dd gU (LS (dA+1)))else(gb.l0 k (LS (x5+((I dd dA).f1))) x6 dd gU (LS (dA+1))))else(none))else(none))else(some (x5,x6,true))
def gb.f(k:Nat)(J:List (a7)):Option (Int×Int×Bool):=(bh.f k J).bind fun Kt=>(if Kt=true then(gb.l0 k 0 0 J (J.length:Int) 0)else(some (0,0,false)))
theorem gb.dL:∀k,(∀y0 y1 y2 y3 y4,aG (gb.l0 k y0 y1 y2 y3 y4) (gb.l0 (k+1) y0 y1 y2 y3 y4))
 |0=>fun _ _ _ _ _ r h=>by simp[gb.l0]at h
 |k+1=>by
  have bw:=gb.dL k
  ·
   intro y0 y1 y2 y3 y4;unfold gb.l0
   repeat' with_reducible first|exact bw _ _ _ _ _|exact bh.mono _ _|exact aG.refl _|exact aG.none _|refine aG.ite ?_ ?_|refine aG.bind ?_ (fun _=> ?_)
theorem gb.mono:∀a0 k,aG (gb.f k a0) (gb.f (k+1) a0):=by
 intro a0 k;have bw:=gb.dL k;unfold gb.f
 repeat' with_reducible first|exact bw _ _ _ _ _|exact bh.mono _ _|exact aG.refl _|exact aG.none _|refine aG.ite ?_ ?_|refine aG.bind ?_ (fun _=> ?_)
set_option maxHeartbeats 8000000 in
set_option maxRecDepth 100000 in
theorem gb.calls(k:Nat)(bS:Option Addr)(bL:Nat)(J:List (a7))(r1:Int)(r2:Int)(r3:Bool)(w:World)(fT:Kd.C b7 w bS J.length J)(fU:J.length≤bL)(h:gb.f k J=some (r1,r2,r3)):
 Calls aad 9 #[.agg #[.slice bS J.length bL]] w fun e w'=>e= .returned (.tuple #[.int .i64 r1,.int .i64 r2,.bool r3])∧Below w.heap.size w w':=by
 have kJ:=ua;have mA:=aay;have cY:=Ah fT;have dw:=Ah fU;clear fT fU;have HB:=Ah (aaa w.heap.size w);have H:((bh.f k J).bind fun Kt=>(if Kt=true then(gb.l0 k 0 0 J (J.length:Int) 0)else(some (0,0,false))))=some (r1,r2,r3):=h;clear h;replace H:=LT.mp H;obtain⟨Kt,fo,H⟩:=H
 try dsimp only at H
 have A2:=Ah fo;clear fo
 by_cases c3:Kt=true
 rotate_left
 ·
  replace c3:=dn.mpr c3;subst c3;rw[if_neg dV]at H;simp only[j4,ub]at H;obtain⟨rfl,rfl,rfl⟩:=H
  go_enter Try.func9,Try.ntmps9
  go_wp2_with (first|((with_reducible refine ax (N:=1) rfl ?_);refine bA 1 25 #[.slice bS J.length bL] ?_;intro a3i hg jl kI hb;have GW512:=gw hg (bs HB);have pi:=gw hg (bs HB);replace HB:=Ah (aK (bs HB) hb);clear hb hg;have Mf:=ap kI;have Mg:=an kI)|((with_reducible refine bJ (f:=11) rfl ?_);refine gL (some 10) rfl rfl aa9 (by kernel_rfl) rfl #[.agg #[.slice bS J.length bL]] rfl ?_;(with_reducible refine(bh.calls k _ _ J false _ ?a8 ?a9 A2.out).mono ?_);(case a8=>exact cb cY HB);(case a9=>exact dw.out);rintro e ot ⟨rfl,hb⟩;refine⟨_,rfl, ?_⟩;replace kI:=nb kI hb;replace HB:=Ah (aK (aH HB pi) hb);(try clear hb)))
  go_ret3
  exact⟨er,aH HB pi⟩
 subst c3;rw[if_pos rfl]at H;have H':=Ah H;clear H
 go_enter Try.func9,Try.ntmps9
 go_wp2_with (first|((with_reducible refine ax (N:=1) rfl ?_);refine bA 1 25 #[.slice bS J.length bL] ?_;intro a3i hg w4 kI hb;have GW512:=gw hg (bs HB);have pi:=gw hg (bs HB);replace HB:=Ah (aK (bs HB) hb);clear hb hg;have Em:=ap kI;have Hq:=an kI)|((with_reducible refine bJ (f:=11) rfl ?_);refine gL (some 10) rfl rfl aa9 (by kernel_rfl) rfl #[.agg #[.slice bS J.length bL]] rfl ?_;(with_reducible refine(bh.calls k _ _ J true _ ?a8 ?a9 A2.out).mono ?_);(case a8=>exact cb cY HB);(case a9=>exact dw.out);rintro e w6 ⟨rfl,hb⟩;refine⟨_,rfl, ?_⟩;replace kI:=nb kI hb;replace HB:=Ah (aK (aH HB pi) hb);(try clear hb);have qp:=ap kI;have qq:=an kI))
 go_loopg [5,6,15] k (fun kq v5 v6 v15 w'=>∃ (aA:Int) (Da:Int) (aV:Int),v5= .int .i64 aA∧v6= .int .i64 Da∧v15= .int .i64 aV∧U (gb.l0 kq aA Da J (J.length:Int) aV=some (r1,r2,r3))∧U (kq≤k)∧U (w'.heap[a3i]?=some (.cells #[(.slice bS J.length bL)] 25 (0,0)))∧U (Below w.heap.size w w'))
 case atStart=>exact⟨(0),(0),(0),e3,e3,e3,H',⟨bx _⟩,⟨bk kI⟩,⟨aH HB pi⟩⟩
 case round=>
  clear H'
  try clear c1
  try clear p2
  try clear c3
  try clear Em
  try clear qp
  try clear Hq
  try clear qq
  obtain⟨aA,Da,aV,rfl,rfl,rfl,HA,bU,kI,HB⟩:=hrel
  cases gk with
  |zero=>exact absurd HA.out (by simp[gb.l0])
  |succ k1=>
   have H:=HA.out;clear HA;simp only[gb.l0]at H
   by_cases c8:aV<(J.length:Int)
   rotate_left
   ·
    rw[if_neg c8]at H;have nC:decide (aV<(J.length:Int))=false:=decide_eq_false c8;clear c8;simp only[j4,ub]at H;obtain⟨rfl,rfl,rfl⟩:=H
    go_wp2
    go_ret3
    exact⟨er,aH HB pi⟩
   rw[if_pos c8]at H;have nC:decide (aV<(J.length:Int))=true:=decide_eq_true c8;clear c8
   by_cases c9:0≤aV
   rotate_left
   ·
    rw[if_neg c9]at H;exact absurd H (by simp)
   rw[if_pos c9]at H;have u1:decide (0≤aV)=true:=decide_eq_true c9;clear c9
   by_cases c10:aV<(J.length:Int)
   rotate_left
   ·
    rw[if_neg c10]at H;exact absurd H (by simp)
   rw[if_pos c10]at H;have nZ:decide (aV<(J.length:Int))=true:=decide_eq_true c10;clear c10;obtain⟨Kn,CR⟩:∃b_:Bool,b_=((I J aV).f3):=⟨_,rfl⟩
   replace H:(if Kn=true then(gb.l0 k1 (LS (aA+((I J aV).f1))) (LS (Da+((I J aV).f1))) J (J.length:Int) (LS (aV+1)))else(gb.l0 k1 (LS (aA+((I J aV).f1))) Da J (J.length:Int) (LS (aV+1))))=some (r1,r2,r3):=by rw[←CR]at H;exact H
   have CS:=Ah CR;clear CR
   by_cases c12:Kn=true
   ·
    subst c12;rw[if_pos rfl]at H;have H':=Ah H;clear H;have Db:0≤(aV:Int):=od;have Dc:aV<(J.length:Int):=od;obtain⟨ad514,WJ,Bu,Bv,Bw,wd⟩:=f6 cY.out aV Db Dc;(try rw[←CS.out]at wd)
    cases WJ
    replace Bu:=(HB.out.cell (LA w _ Bu)).trans Bu;replace Bv:=(HB.out.cell (LA w _ Bv)).trans Bv;replace Bw:=(HB.out.cell (LA w _ Bw)).trans Bw;replace wd:=(HB.out.cell (LA w _ wd)).trans wd;replace Db:=eq_true Db;replace Dc:=eq_true Dc
    go_wp2_with (first|((with_reducible refine ax (N:=8) rfl ?_);refine bA 8 65 #[.int .i64 0,.int .i64 0,.int .i64 0,.bool false] ?_;intro gb515 hg nJ JJ hb;have GW515:=gw hg (aH HB pi);have U1:=gw hg (aH HB pi);replace HB:=Ah (aK (aH HB pi) hb);have Gt:=nn kI hg;have QL:=nm kI hg;replace kI:=nb kI hb;clear hb hg;have NN:=QL.out;have NO:=Gt.out;obtain⟨wU,Au,Av,Aw⟩:=cA JJ;obtain⟨wV,Ax,Ay,Az⟩:=cB JJ))
    go_roundg k1
    case measure=>have:=bU.out;omega
    case rel=>exact⟨(LS (aA+((I J aV).f1))),(LS (Da+((I J aV).f1))),(LS (aV+1)),e3,e3,e3,H',⟨by have:=bU.out;omega⟩,⟨bf kI Gt⟩,⟨aW HB pi U1⟩⟩
   replace c12:=dn.mpr c12;subst c12;rw[if_neg dV]at H;have H':=Ah H;clear H;have Db:0≤(aV:Int):=od;have Dc:aV<(J.length:Int):=od;obtain⟨ad514,WJ,Bu,Bv,Bw,wd⟩:=f6 cY.out aV Db Dc;(try rw[←CS.out]at wd)
   cases WJ
   replace Bu:=(HB.out.cell (LA w _ Bu)).trans Bu;replace Bv:=(HB.out.cell (LA w _ Bv)).trans Bv;replace Bw:=(HB.out.cell (LA w _ Bw)).trans Bw;replace wd:=(HB.out.cell (LA w _ wd)).trans wd;replace Db:=eq_true Db;replace Dc:=eq_true Dc
   go_wp2_with (first|((with_reducible refine ax (N:=8) rfl ?_);refine bA 8 65 #[.int .i64 0,.int .i64 0,.int .i64 0,.bool false] ?_;intro gb515 hg w16 JJ hb;have GW515:=gw hg (aH HB pi);have U1:=gw hg (aH HB pi);replace HB:=Ah (aK (aH HB pi) hb);have Gt:=nn kI hg;have QL:=nm kI hg;replace kI:=nb kI hb;clear hb hg;have zE:=QL.out;have zF:=Gt.out;obtain⟨sA,EO,EP,HD⟩:=cA JJ;obtain⟨sB,EQ,ER,HE⟩:=cB JJ))
   go_roundg k1
   case measure=>have:=bU.out;omega
   case rel=>exact⟨(LS (aA+((I J aV).f1))),(Da),(LS (aV+1)),e3,e3,e3,H',⟨by have:=bU.out;omega⟩,⟨bf kI Gt⟩,⟨aW HB pi U1⟩⟩
def qE.f(k:Nat)(J:List (a7)):Option ((List (aT))×Bool):=(bh.f k J).bind fun Ku=>(if Ku=true then((dJ.f k J).bind fun Dd=>((fX.f k Dd).bind fun Kv=>(some (Kv,true))))else(some (([]:List (aT)),false)))
theorem qE.mono:∀a0 k,aG (qE.f k a0) (qE.f (k+1) a0):=by
 intro a0 k;unfold qE.f
 repeat' with_reducible first|exact dJ.mono _ _|exact bh.mono _ _|exact fX.mono _ _|exact aG.refl _|exact aG.none _|refine aG.ite ?_ ?_|refine aG.bind ?_ (fun _=> ?_)
set_option maxHeartbeats 8000000 in
set_option maxRecDepth 100000 in
theorem qE.calls(k:Nat)(bS:Option Addr)(bL:Nat)(J:List (a7))(r1:List (aT))(r2:Bool)(w:World)(fT:Kd.C b7 w bS J.length J)(fU:J.length≤bL)(h:qE.f k J=some (r1,r2)):
 Calls aad 10 #[.agg #[.slice bS J.length bL]] w fun e w'=>∃da:Value,e= .returned (.tuple #[da,.bool r2])∧Kd.R bd 38 w' w.heap.size (fun _=>True) da r1∧Below w.heap.size w w':=by
 have kJ:=ua;have cY:=Ah fT;have dw:=Ah fU;clear fT fU;have HB:=Ah (aaa w.heap.size w);have H:((bh.f k J).bind fun Ku=>(if Ku=true then((dJ.f k J).bind fun Dd=>((fX.f k Dd).bind fun Kv=>(some (Kv,true))))else(some (([]:List (aT)),false))))=some (r1,r2):=h;clear h;replace H:=LT.mp H;obtain⟨Ku,fo,H⟩:=H
 try dsimp only at H
 have A2:=Ah fo;clear fo
 by_cases c3:Ku=true
 rotate_left
 ·
  replace c3:=dn.mpr c3;subst c3;rw[if_neg dV]at H;simp only[j4,ub]at H;obtain⟨rfl,rfl⟩:=H
  go_enter Try.func10,Try.ntmps10
  go_wp2_with (first|((with_reducible refine ax (N:=1) rfl ?_);refine bA 1 25 #[.slice bS J.length bL] ?_;intro gb516 hg nJ oJ hb;have GW516:=gw hg (bs HB);have xG:=gw hg (bs HB);replace HB:=Ah (aK (bs HB) hb);clear hb hg;have yh:=ap oJ;have yi:=an oJ)|((with_reducible refine bJ (f:=11) rfl ?_);refine gL (some 5) rfl rfl aa9 (by kernel_rfl) rfl #[.agg #[.slice bS J.length bL]] rfl ?_;(with_reducible refine(bh.calls k _ _ J false _ ?a8 ?a9 A2.out).mono ?_);(case a8=>exact cb cY HB);(case a9=>exact dw.out);rintro e LG ⟨rfl,hb⟩;refine⟨_,rfl, ?_⟩;replace oJ:=nb oJ hb;replace HB:=Ah (aK (aH HB xG) hb);(try clear hb)))
  go_ret2
  exact⟨_,er,by first|exact Kd.fk _ _ _ _ _|exact Kd.iI _ _ _ _ _|exact Kd.iJ _ _ _ _ _|exact Kd.iG _ _ _ _ _|exact Kd.iH _ _ _ _ _,aH HB xG⟩
 subst c3;rw[if_pos rfl]at H;replace H:=LT.mp H;obtain⟨Dd,iv,H⟩:=H
 try dsimp only at H
 have A4:=Ah iv;clear iv;replace H:=LT.mp H;obtain⟨Kv,kX,H⟩:=H
 try dsimp only at H
 have A5:=Ah kX;clear kX;simp only[j4,ub]at H;obtain⟨rfl,rfl⟩:=H
 go_enter Try.func10,Try.ntmps10
 go_wp2_with (first|((with_reducible refine ax (N:=1) rfl ?_);refine bA 1 25 #[.slice bS J.length bL] ?_;intro gb516 hg w6 oJ hb;have GW516:=gw hg (bs HB);have xG:=gw hg (bs HB);replace HB:=Ah (aK (bs HB) hb);clear hb hg;have qp:=ap oJ;have qq:=an oJ)|((with_reducible refine bJ (f:=11) rfl ?_);refine gL (some 5) rfl rfl aa9 (by kernel_rfl) rfl #[.agg #[.slice bS J.length bL]] rfl ?_;(with_reducible refine(bh.calls k _ _ J true _ ?a8 ?a9 A2.out).mono ?_);(case a8=>exact cb cY HB);(case a9=>exact dw.out);rintro e w8 ⟨rfl,hb⟩;refine⟨_,rfl, ?_⟩;replace oJ:=nb oJ hb;replace HB:=Ah (aK (aH HB xG) hb);(try clear hb);have vI:=ap oJ;have wk:=an oJ)|((with_reducible refine bJ (f:=23) rfl ?_);refine gL (some 8) rfl rfl abG (by kernel_rfl) rfl #[.agg #[.slice bS J.length bL]] rfl ?_;(with_reducible refine(dJ.calls k _ _ J Dd _ ?a8 ?a9 A4.out).mono ?_);(case a8=>exact cb cY HB);(case a9=>exact dw.out);rintro e AQ ⟨v519,rfl,ho0,hb⟩;refine⟨_,rfl, ?_⟩;have JK:=Ah (Kd.dD ho0 (be (aH HB xG)));replace oJ:=nb oJ hb;replace HB:=Ah (aK (aH HB xG) hb);(try clear hb ho0);obtain⟨PC,PD,WK⟩:=Kd.bq JK.out;subst WK)|((with_reducible refine bJ (f:=24) rfl ?_);refine gL (some 9) rfl rfl Try.func24 (by kernel_rfl) rfl #[.slice PC Dd.length PD] rfl ?_;(with_reducible refine(fX.calls k _ _ Dd Kv _ ?a8 ?a9 A5.out).mono ?_);(case a8=>exact fB JK);(case a9=>exact(Kd.af JK.out).2.1);rintro e G9 ⟨v522,rfl,ho0,hb⟩;refine⟨_,rfl, ?_⟩;replace JK:=nr JK hb;have HO523:=Ah (Kd.dD ho0 (be (aH HB xG)));replace oJ:=nb oJ hb;replace HB:=Ah (aK (aH HB xG) hb);(try clear hb ho0)))
 go_ret2
 exact⟨_,er,by(with_reducible repeat(first|apply Kd.bG|apply Kd.bE|apply Kd.al));exact HO523.out,aH HB xG⟩
def ej.j0:Nat→Int→Bool→List (a7)→Option (Int×Bool×Bool)
 |0,_,_,_=>none
 |k+1,x1,dA,x525000=>if dA=true then(some (0,false,false))else((dJ.f k x525000).bind fun ko=>(if 0≤x1 then(if x1<(ko.length:Int)then(if((am ko x1).f0=true)then(some ((am ko x1).f1,(am ko x1).f2,true))else(some ((-1),false,true)))else(none))else(none)))
def ej.f(k:Nat)(J:List (a7))(a1:Int):Option (Int×Bool×Bool):=(bh.f k J).bind fun Kw=>(if Kw=true then((hF.f a1 0 199).bind fun AA=>(ej.j0 k a1 (!AA) J))else(ej.j0 k a1 true J))
theorem ej.dL:∀k,(∀y0 y1 y2,aG (ej.j0 k y0 y1 y2) (ej.j0 (k+1) y0 y1 y2))
 |0=>fun _ _ _ r h=>by simp[ej.j0]at h
 |k+1=>by
  have bw:=ej.dL k
  ·
   intro y0 y1 y2;unfold ej.j0
   repeat' with_reducible first|exact bw _ _ _|exact dJ.mono _ _|exact bh.mono _ _|exact aG.refl _|exact aG.none _|refine aG.ite ?_ ?_|refine aG.bind ?_ (fun _=> ?_)
theorem ej.mono:∀a0 a1 k,aG (ej.f k a0 a1) (ej.f (k+1) a0 a1):=by
 intro a0 a1 k;have bw:=ej.dL k;unfold ej.f
 repeat' with_reducible first|exact bw _ _ _|exact dJ.mono _ _|exact bh.mono _ _|exact aG.refl _|exact aG.none _|refine aG.ite ?_ ?_|refine aG.bind ?_ (fun _=> ?_)
set_option maxHeartbeats 8000000 in
set_option maxRecDepth 100000 in
theorem ej.calls(k:Nat)(bS:Option Addr)(bL:Nat)(J:List (a7))(a1:Int)(r1:Int)(r2:Bool)(r3:Bool)(w:World)(fT:Kd.C b7 w bS J.length J)(fU:J.length≤bL)(h:ej.f k J a1=some (r1,r2,r3)):
 Calls aad 12 #[.agg #[.slice bS J.length bL],.int .i64 a1] w fun e w'=>e= .returned (.tuple #[.int .i64 r1,.bool r2,.bool r3])∧Below w.heap.size w w':=by
 have kJ:=ua;have Vp:=Try.underlying71;have cY:=Ah fT;have dw:=Ah fU;clear fT fU;have HB:=Ah (aaa w.heap.size w);have H:((bh.f k J).bind fun Kw=>(if Kw=true then((hF.f a1 0 199).bind fun AA=>(ej.j0 k a1 (!AA) J))else(ej.j0 k a1 true J)))=some (r1,r2,r3):=h;clear h;have ke:=Ah H;clear H
 go_enter Try.func12,Try.ntmps12
 go_upto_region 1 with(first|((with_reducible refine ax (N:=2) rfl ?_);refine bA 2 25 #[.slice bS J.length bL] ?_;intro U2 hg w4 eB hb;have a3j:=gw hg (bs HB);have fm:=gw hg (bs HB);replace HB:=Ah (aK (bs HB) hb);clear hb hg))
 repeat(go_quiet (first|((with_reducible refine ax (N:=2) rfl ?_);refine bA 2 25 #[.slice bS J.length bL] ?_;intro U2 hg w4 eB hb;have a3j:=gw hg (bs HB);have fm:=gw hg (bs HB);replace HB:=Ah (aK (bs HB) hb);clear hb hg));go_upto_region 1 with(first|((with_reducible refine ax (N:=2) rfl ?_);refine bA 2 25 #[.slice bS J.length bL] ?_;intro U2 hg w4 eB hb;have a3j:=gw hg (bs HB);have fm:=gw hg (bs HB);replace HB:=Ah (aK (bs HB) hb);clear hb hg)))
 (try simp only[aab,Ok,bY,dl])
 go_cut [15] (fun v15 wc=>∃ (kq:Nat) (O4:Bool),v15= .bool O4∧U (ej.j0 kq a1 O4 J=some (r1,r2,r3))∧U (kq≤k)∧U (wc.heap[U2]?=some (.cells #[(.slice bS J.length bL)] 25 (0,0)))∧U (Below w.heap.size w wc))
 case first=>
  have H:=ke.out;clear ke;replace H:=LT.mp H;obtain⟨Kw,kX,H⟩:=H
  try dsimp only at H
  have A5:=Ah kX;clear kX
  by_cases c6:Kw=true
  ·
   subst c6;rw[if_pos rfl]at H;replace H:=LT.mp H;obtain⟨AA,kb,H⟩:=H
   try dsimp only at H
   have A7:=Ah kb;clear kb;have H':=Ah H;clear H;have pJ:=ap eB;have qr:=an eB
   go_wp2_with (first|(go_at_call 11;(with_reducible refine(bh.calls k _ _ J true _ ?a8 ?a9 A5.out).mono ?_);(case a8=>exact cb cY HB);(case a9=>exact dw.out);rintro e w9 ⟨rfl,hb⟩;replace eB:=nb eB hb;replace HB:=Ah (aK (aH HB fm) hb);(try clear hb))|(go_at_call 32;(with_reducible refine(hF.calls a1 0 199 AA _ A7.out).mono ?_);rintro e w' ⟨rfl,⟨nd,rfl⟩⟩;(try first|exact⟨rfl,_,nL _ _ _⟩|exact⟨rfl,_,aaT (nL _ _ _) (congrArg (aaB _) (aau _ _ _))⟩)))
   repeat(go_quiet (first|(go_at_call 11;(with_reducible refine(bh.calls k _ _ J true _ ?a8 ?a9 A5.out).mono ?_);(case a8=>exact cb cY HB);(case a9=>exact dw.out);rintro e w9 ⟨rfl,hb⟩;replace eB:=nb eB hb;replace HB:=Ah (aK (aH HB fm) hb);(try clear hb))|(go_at_call 32;(with_reducible refine(hF.calls a1 0 199 AA _ A7.out).mono ?_);rintro e w' ⟨rfl,⟨nd,rfl⟩⟩;(try first|exact⟨rfl,_,nL _ _ _⟩|exact⟨rfl,_,aaT (nL _ _ _) (congrArg (aaB _) (aau _ _ _))⟩)));try go_wp2_with (first|(go_at_call 11;(with_reducible refine(bh.calls k _ _ J true _ ?a8 ?a9 A5.out).mono ?_);(case a8=>exact cb cY HB);(case a9=>exact dw.out);rintro e w9 ⟨rfl,hb⟩;replace eB:=nb eB hb;replace HB:=Ah (aK (aH HB fm) hb);(try clear hb))|(go_at_call 32;(with_reducible refine(hF.calls a1 0 199 AA _ A7.out).mono ?_);rintro e w' ⟨rfl,⟨nd,rfl⟩⟩;(try first|exact⟨rfl,_,nL _ _ _⟩|exact⟨rfl,_,aaT (nL _ _ _) (congrArg (aaB _) (aau _ _ _))⟩))))
   go_meet
   case rel=>exact⟨_,(!AA),e3,H',⟨by first|omega|exact bx _⟩,⟨bk eB⟩,⟨aH HB fm⟩⟩
  ·
   replace c6:=dn.mpr c6;subst c6;rw[if_neg dV]at H;have H':=Ah H;clear H;have pH:=ap eB;have pI:=an eB
   go_wp2_with (first|(go_at_call 11;(with_reducible refine(bh.calls k _ _ J false _ ?a8 ?a9 A5.out).mono ?_);(case a8=>exact cb cY HB);(case a9=>exact dw.out);rintro e rg ⟨rfl,hb⟩;replace eB:=nb eB hb;replace HB:=Ah (aK (aH HB fm) hb);(try clear hb)))
   repeat(go_quiet (first|(go_at_call 11;(with_reducible refine(bh.calls k _ _ J false _ ?a8 ?a9 A5.out).mono ?_);(case a8=>exact cb cY HB);(case a9=>exact dw.out);rintro e rg ⟨rfl,hb⟩;replace eB:=nb eB hb;replace HB:=Ah (aK (aH HB fm) hb);(try clear hb)));try go_wp2_with (first|(go_at_call 11;(with_reducible refine(bh.calls k _ _ J false _ ?a8 ?a9 A5.out).mono ?_);(case a8=>exact cb cY HB);(case a9=>exact dw.out);rintro e rg ⟨rfl,hb⟩;replace eB:=nb eB hb;replace HB:=Ah (aK (aH HB fm) hb);(try clear hb))))
   go_meet
   case rel=>exact⟨_,(true),e3,H',⟨by first|omega|exact bx _⟩,⟨bk eB⟩,⟨aH HB fm⟩⟩
 case rest=>
  clear ke
  try clear c1
  try clear p2
  try clear c6
  try clear pH
  try clear pJ
  try clear pI
  try clear qr
  obtain⟨kq,O4,rfl,HA,HJ2,eB,HB⟩:=hcut
  cases kq with
  |zero=>exact absurd HA.out (by simp[ej.j0])
  |succ kf=>
   have H:=HA.out;clear HA;simp only[ej.j0]at H
   by_cases c12:O4=true
   ·
    subst c12;rw[if_pos rfl]at H;simp only[j4,ub]at H;obtain⟨rfl,rfl,rfl⟩:=H
    go_wp2
    repeat(go_quiet (fail);try go_wp2)
    go_ret3
    exact⟨er,aH HB fm⟩
   ·
    replace c12:=dn.mpr c12;subst c12;rw[if_neg dV]at H;replace H:=LT.mp H;obtain⟨ko,rG,H⟩:=H
    try dsimp only at H
    have rh:=Ah rG;clear rG
    by_cases c14:0≤a1
    ·
     rw[if_pos c14]at H;have pW:decide (0≤a1)=true:=decide_eq_true c14;clear c14
     by_cases c15:a1<(ko.length:Int)
     ·
      rw[if_pos c15]at H;have Ic:decide (a1<(ko.length:Int))=true:=decide_eq_true c15;clear c15;obtain⟨a5X,U3⟩:∃b_:Bool,b_=((am ko a1).f0):=⟨_,rfl⟩
      replace H:(if(a5X=true)then(some ((am ko a1).f1,(am ko a1).f2,true))else(some ((-1),false,true)))=some (r1,r2,r3):=by rw[←U3]at H;exact H
      have sR:=Ah U3;clear U3
      by_cases c17:(a5X=true)
      ·
       subst c17;rw[if_pos rfl]at H;simp only[j4,ub]at H;obtain⟨rfl,rfl,rfl⟩:=H;have sA:=ap eB;have sB:=an eB
       go_wp2_with (first|(go_at_call 23;(with_reducible refine(dJ.calls kf _ _ J ko _ ?a8 ?a9 rh.out).mono ?_);(case a8=>exact cb cY HB);(case a9=>exact dw.out);rintro e jl ⟨Kx,rfl,ho0,hb⟩;have im:=Ah (Kd.dD ho0 (be (aH HB fm)));replace eB:=nb eB hb;replace HB:=Ah (aK (aH HB fm) hb);(try clear hb ho0);obtain⟨dT,dM,xM⟩:=Kd.bq im.out;subst xM;have kQ:0≤(a1:Int):=od;have kR:a1<(ko.length:Int):=od;obtain⟨JL,uO,tL,HX,tM⟩:=oE (Kd.af im.out).2.2 a1 kQ kR;(try rw[←sR.out]at tL);(try rw[←sR.out]at tM);cases uO;replace kQ:=eq_true kQ;replace kR:=eq_true kR)|((with_reducible refine ax (N:=7) rfl ?_);refine bA 7 71 #[.bool false,.int .i64 0,.bool false] ?_;intro tl hg ot n6 hb;replace im:=Ah (Kd.eO (Kd.gD (rr im.out) tl (aaj hg.symm)) hb);have JM:=gw hg (aH HB fm);have CV:=gw hg (aH HB fm);replace HB:=Ah (aK (aH HB fm) hb);have t1:=nn eB hg;have t4:=nm eB hg;replace eB:=nb eB hb;clear hb hg;have z7:=t4.out;have z8:=t1.out;obtain⟨mO,RC,RD⟩:=rU n6;obtain⟨mP,RE,RF⟩:=rV n6))
       repeat(go_quiet (first|(go_at_call 23;(with_reducible refine(dJ.calls kf _ _ J ko _ ?a8 ?a9 rh.out).mono ?_);(case a8=>exact cb cY HB);(case a9=>exact dw.out);rintro e jl ⟨Kx,rfl,ho0,hb⟩;have im:=Ah (Kd.dD ho0 (be (aH HB fm)));replace eB:=nb eB hb;replace HB:=Ah (aK (aH HB fm) hb);(try clear hb ho0);obtain⟨dT,dM,xM⟩:=Kd.bq im.out;subst xM;have kQ:0≤(a1:Int):=od;have kR:a1<(ko.length:Int):=od;obtain⟨JL,uO,tL,HX,tM⟩:=oE (Kd.af im.out).2.2 a1 kQ kR;(try rw[←sR.out]at tL);(try rw[←sR.out]at tM);cases uO;replace kQ:=eq_true kQ;replace kR:=eq_true kR)|((with_reducible refine ax (N:=7) rfl ?_);refine bA 7 71 #[.bool false,.int .i64 0,.bool false] ?_;intro tl hg ot n6 hb;replace im:=Ah (Kd.eO (Kd.gD (rr im.out) tl (aaj hg.symm)) hb);have JM:=gw hg (aH HB fm);have CV:=gw hg (aH HB fm);replace HB:=Ah (aK (aH HB fm) hb);have t1:=nn eB hg;have t4:=nm eB hg;replace eB:=nb eB hb;clear hb hg;have z7:=t4.out;have z8:=t1.out;obtain⟨mO,RC,RD⟩:=rU n6;obtain⟨mP,RE,RF⟩:=rV n6));try go_wp2_with (first|(go_at_call 23;(with_reducible refine(dJ.calls kf _ _ J ko _ ?a8 ?a9 rh.out).mono ?_);(case a8=>exact cb cY HB);(case a9=>exact dw.out);rintro e jl ⟨Kx,rfl,ho0,hb⟩;have im:=Ah (Kd.dD ho0 (be (aH HB fm)));replace eB:=nb eB hb;replace HB:=Ah (aK (aH HB fm) hb);(try clear hb ho0);obtain⟨dT,dM,xM⟩:=Kd.bq im.out;subst xM;have kQ:0≤(a1:Int):=od;have kR:a1<(ko.length:Int):=od;obtain⟨JL,uO,tL,HX,tM⟩:=oE (Kd.af im.out).2.2 a1 kQ kR;(try rw[←sR.out]at tL);(try rw[←sR.out]at tM);cases uO;replace kQ:=eq_true kQ;replace kR:=eq_true kR)|((with_reducible refine ax (N:=7) rfl ?_);refine bA 7 71 #[.bool false,.int .i64 0,.bool false] ?_;intro tl hg ot n6 hb;replace im:=Ah (Kd.eO (Kd.gD (rr im.out) tl (aaj hg.symm)) hb);have JM:=gw hg (aH HB fm);have CV:=gw hg (aH HB fm);replace HB:=Ah (aK (aH HB fm) hb);have t1:=nn eB hg;have t4:=nm eB hg;replace eB:=nb eB hb;clear hb hg;have z7:=t4.out;have z8:=t1.out;obtain⟨mO,RC,RD⟩:=rU n6;obtain⟨mP,RE,RF⟩:=rV n6)))
       go_ret3
       exact⟨er,aW HB fm CV⟩
      ·
       replace c17:=dn.mpr c17;subst c17;rw[if_neg dV]at H;simp only[j4,ub]at H;obtain⟨rfl,rfl,rfl⟩:=H;have yj:=ap eB;have yk:=an eB
       go_wp2_with (first|(go_at_call 23;(with_reducible refine(dJ.calls kf _ _ J ko _ ?a8 ?a9 rh.out).mono ?_);(case a8=>exact cb cY HB);(case a9=>exact dw.out);rintro e AM ⟨Kx,rfl,ho0,hb⟩;have im:=Ah (Kd.dD ho0 (be (aH HB fm)));replace eB:=nb eB hb;replace HB:=Ah (aK (aH HB fm) hb);(try clear hb ho0);obtain⟨tz,sZ,xU⟩:=Kd.bq im.out;subst xU;have kQ:0≤(a1:Int):=od;have kR:a1<(ko.length:Int):=od;obtain⟨JL,uO,tL,HX,tM⟩:=oE (Kd.af im.out).2.2 a1 kQ kR;(try rw[←sR.out]at tL);(try rw[←sR.out]at tM);cases uO;replace kQ:=eq_true kQ;replace kR:=eq_true kR)|((with_reducible refine ax (N:=7) rfl ?_);refine bA 7 71 #[.bool false,.int .i64 0,.bool false] ?_;intro tl hg xy n6 hb;replace im:=Ah (Kd.eO (Kd.gD (rr im.out) tl (aaj hg.symm)) hb);have JM:=gw hg (aH HB fm);have CV:=gw hg (aH HB fm);replace HB:=Ah (aK (aH HB fm) hb);have t1:=nn eB hg;have t4:=nm eB hg;replace eB:=nb eB hb;clear hb hg;have Eu:=t4.out;have Ew:=t1.out;obtain⟨Zm,Zn,Zo⟩:=rU n6;obtain⟨Zp,Zq,Zr⟩:=rV n6))
       repeat(go_quiet (first|(go_at_call 23;(with_reducible refine(dJ.calls kf _ _ J ko _ ?a8 ?a9 rh.out).mono ?_);(case a8=>exact cb cY HB);(case a9=>exact dw.out);rintro e AM ⟨Kx,rfl,ho0,hb⟩;have im:=Ah (Kd.dD ho0 (be (aH HB fm)));replace eB:=nb eB hb;replace HB:=Ah (aK (aH HB fm) hb);(try clear hb ho0);obtain⟨tz,sZ,xU⟩:=Kd.bq im.out;subst xU;have kQ:0≤(a1:Int):=od;have kR:a1<(ko.length:Int):=od;obtain⟨JL,uO,tL,HX,tM⟩:=oE (Kd.af im.out).2.2 a1 kQ kR;(try rw[←sR.out]at tL);(try rw[←sR.out]at tM);cases uO;replace kQ:=eq_true kQ;replace kR:=eq_true kR)|((with_reducible refine ax (N:=7) rfl ?_);refine bA 7 71 #[.bool false,.int .i64 0,.bool false] ?_;intro tl hg xy n6 hb;replace im:=Ah (Kd.eO (Kd.gD (rr im.out) tl (aaj hg.symm)) hb);have JM:=gw hg (aH HB fm);have CV:=gw hg (aH HB fm);replace HB:=Ah (aK (aH HB fm) hb);have t1:=nn eB hg;have t4:=nm eB hg;replace eB:=nb eB hb;clear hb hg;have Eu:=t4.out;have Ew:=t1.out;obtain⟨Zm,Zn,Zo⟩:=rU n6;obtain⟨Zp,Zq,Zr⟩:=rV n6));try go_wp2_with (first|(go_at_call 23;(with_reducible refine(dJ.calls kf _ _ J ko _ ?a8 ?a9 rh.out).mono ?_);(case a8=>exact cb cY HB);(case a9=>exact dw.out);rintro e AM ⟨Kx,rfl,ho0,hb⟩;have im:=Ah (Kd.dD ho0 (be (aH HB fm)));replace eB:=nb eB hb;replace HB:=Ah (aK (aH HB fm) hb);(try clear hb ho0);obtain⟨tz,sZ,xU⟩:=Kd.bq im.out;subst xU;have kQ:0≤(a1:Int):=od;have kR:a1<(ko.length:Int):=od;obtain⟨JL,uO,tL,HX,tM⟩:=oE (Kd.af im.out).2.2 a1 kQ kR;(try rw[←sR.out]at tL);(try rw[←sR.out]at tM);cases uO;replace kQ:=eq_true kQ;replace kR:=eq_true kR)|((with_reducible refine ax (N:=7) rfl ?_);refine bA 7 71 #[.bool false,.int .i64 0,.bool false] ?_;intro tl hg xy n6 hb;replace im:=Ah (Kd.eO (Kd.gD (rr im.out) tl (aaj hg.symm)) hb);have JM:=gw hg (aH HB fm);have CV:=gw hg (aH HB fm);replace HB:=Ah (aK (aH HB fm) hb);have t1:=nn eB hg;have t4:=nm eB hg;replace eB:=nb eB hb;clear hb hg;have Eu:=t4.out;have Ew:=t1.out;obtain⟨Zm,Zn,Zo⟩:=rU n6;obtain⟨Zp,Zq,Zr⟩:=rV n6)))
       go_ret3
       exact⟨er,aW HB fm CV⟩
     ·
      rw[if_neg c15]at H;exact absurd H (by simp)
    ·
     rw[if_neg c14]at H;exact absurd H (by simp)
def dp.j0:Nat→Bool→List Int→Int→Int→List (a7)→Option ((List (a7))×Int×Int)
 |0,_,_,_,_,_=>none
 |k+1,fi,Bx,Zs,Zt,sC=>if fi=true then((ct.f Bx Zs Zt (sC.length:Int)).bind fun rB=>(if 0≤rB.1 then(if rB.1<(sC.length:Int)then((oy.f ((I sC rB.1).f0) ((I sC rB.1).f1) ((I sC rB.1).f2) ((I sC rB.1).f3)).bind fun WL=>(if WL=true then((ct.f Bx rB.2.1 rB.2.2 ((I sC rB.1).f1)).bind fun O5=>((ct.f Bx O5.2.1 O5.2.2 (LS (((I sC rB.1).f1)-O5.1))).bind fun bt552=>(some (sC,LS (((I sC rB.1).f0)+O5.1),LS (1+bt552.1)))))else((ct.f Bx rB.2.1 rB.2.2 30).bind fun U4=>((ct.f Bx U4.2.1 U4.2.2 5).bind fun bt558=>(some (sC,U4.1,bt558.1))))))else(none))else(none)))else((ct.f Bx Zs Zt 30).bind fun U5=>((ct.f Bx U5.2.1 U5.2.2 5).bind fun bt564=>(some (sC,U5.1,bt564.1))))
def dp.f(k:Nat)(l0:List Int):Option ((List (a7))×Int×Int):=(bV.f k l0 0 0).bind fun oK=>(if(oK.1.length:Int)>0 then((mj.f l0 oK.2.1 oK.2.2 2).bind fun CW=>(dp.j0 k CW.1 l0 CW.2.1 CW.2.2 oK.1))else(dp.j0 k false l0 oK.2.1 oK.2.2 oK.1))
theorem dp.dL:∀k,(∀y0 y1 y2 y3 y4,aG (dp.j0 k y0 y1 y2 y3 y4) (dp.j0 (k+1) y0 y1 y2 y3 y4))
 |0=>fun _ _ _ _ _ r h=>by simp[dp.j0]at h
 |k+1=>by
  have bw:=dp.dL k
  ·
   intro y0 y1 y2 y3 y4;unfold dp.j0
   repeat' with_reducible first|exact bw _ _ _ _ _|exact bV.mono _ _ _ _|exact aG.refl _|exact aG.none _|refine aG.ite ?_ ?_|refine aG.bind ?_ (fun _=> ?_)
theorem dp.mono:∀a0 k,aG (dp.f k a0) (dp.f (k+1) a0):=by
 intro a0 k;have bw:=dp.dL k;unfold dp.f
 repeat' with_reducible first|exact bw _ _ _ _ _|exact bV.mono _ _ _ _|exact aG.refl _|exact aG.none _|refine aG.ite ?_ ?_|refine aG.bind ?_ (fun _=> ?_)
def dp.T4:Bool×List (List Nat×List Nat):=(true,[([],[]),([0],[0]),([],[]),([],[]),([3],[3]),([4],[4]),([2,5],[2,5]),([1,6],[1,6]),([7],[7]),([],[]),([9,8,6,0,1,2,3,4,5,6,7,8,9],[8,9])])
def dp.B4:List Nat:=[0,1,0,0,8,24,60,127,255,0,1023]
theorem dp.tab4:gH .any (nY Try.f13 4)=dp.T4:=by kernel_rfl
theorem dp.bits4:kx dp.T4.2 dp.B4=true:=by kernel_rfl
def dp.T7:Bool×List (List Nat×List Nat):=(true,[([],[]),([],[]),([1],[1]),([],[]),([2,3],[2,3]),([],[]),([],[]),([6],[6]),([],[]),([7,8],[7,8]),([5,9],[5,9]),([10],[10]),([0,10,0],[0]),([4,12,0,1,2,3,4,12],[4]),([11,13,0,1,2,3,4,5,6,7,8,9,10,11,12,13],[11])])
def dp.B7:List Nat:=[0,0,2,0,14,0,0,64,0,448,992,2016,2017,6143,16383]
theorem dp.Cq:gH .any (nY Try.f13 7)=dp.T7:=by kernel_rfl
theorem dp.CD:kx dp.T7.2 dp.B7=true:=by kernel_rfl
def dp.T8:Bool×List (List Nat×List Nat):=(true,[([],[]),([],[]),([1],[1]),([],[]),([3,2],[3]),([0,4,0],[0]),([2,5,0,1,2,5],[2]),([4,6,0,1,2,3,4,5,6],[4])])
def dp.B8:List Nat:=[0,0,2,0,14,31,63,127]
theorem dp.Fx:gH .any (nY Try.f13 8)=dp.T8:=by kernel_rfl
theorem dp.FG:kx dp.T8.2 dp.B8=true:=by kernel_rfl
set_option maxHeartbeats 8000000 in
set_option maxRecDepth 100000 in
theorem dp.calls(k:Nat)(A0:Option Addr)(c0:Nat)(l0:List Int)(r1:List (a7))(r2:Int)(r3:Int)(w:World)(hr0:Kd.C (Kd.int .u8) w A0 l0.length l0)(hc0:l0.length≤c0)(h:dp.f k l0=some (r1,r2,r3)):
 Calls aad 13 #[.slice A0 l0.length c0] w fun e w'=>∃da:Value,e= .returned (.tuple #[.agg #[da],.int .i64 r2,.int .i64 r3])∧Kd.R b7 65 w' w.heap.size (fun _=>True) da r1∧Below w.heap.size w w':=by
 have kJ:=ua;have a5t:=Try.underlying52;have mA:=aay;have gV:=Ah hr0;have lG:=Ah hc0;clear hr0 hc0;have HB:=Ah (aaa w.heap.size w);have H:((bV.f k l0 0 0).bind fun oK=>(if(oK.1.length:Int)>0 then((mj.f l0 oK.2.1 oK.2.2 2).bind fun CW=>(dp.j0 k CW.1 l0 CW.2.1 CW.2.2 oK.1))else(dp.j0 k false l0 oK.2.1 oK.2.2 oK.1)))=some (r1,r2,r3):=h;clear h;replace H:=LT.mp H;obtain⟨⟨bO,Fz,G0⟩,fo,H⟩:=H
 try dsimp only at H
 have A2:=Ah fo;clear fo;have ke:=Ah H;clear H
 go_enter Try.func13,Try.ntmps13
 go_upto_region 3 with(first|((with_reducible refine ax (N:=2) rfl ?_);refine bA 2 25 #[.slice none 0 0] ?_;intro iA hg w4 cp hb;have GW532:=gw hg (bs HB);have iM:=gw hg (bs HB);replace HB:=Ah (aK (bs HB) hb);clear hb hg)|((with_reducible refine ax (N:=11) rfl ?_);refine bA 11 52 #[.slice A0 l0.length c0,.int .i64 0,.int .u64 0] ?_;intro fA hg w5 BK533 hb;have GW533:=gw hg (aH HB iM);have GE533:=gw hg (aH HB iM);replace HB:=Ah (aK (aH HB iM) hb);have uk:=nn cp hg;have hH:=nm cp hg;replace cp:=nb cp hb;clear hb hg;have cI:=Ah (show Y w w5 fA l0 0 0 from⟨_,_,(bk BK533),GE533.out,gV.out⟩))|((with_reducible refine bJ (f:=20) rfl ?_);refine gL (some 13) rfl rfl Try.func20 (by kernel_rfl) rfl #[.pointer (some ⟨fA,0,none⟩)] rfl ?_;(with_reducible refine(bV.calls k fA l0 0 0 bO Fz G0 w _ ?a8 ?a9 A2.out).mono ?_);(case a8=>exact Y.iC cI hH);(case a9=>exact aH HB iM);rintro e w6 ⟨v535,rfl,ho0,hi,hb,hk⟩;refine⟨_,rfl, ?_⟩;replace cp:=Ah (aM.blk hk (g':=iA) (o:= .cells #[.slice none 0 0] 25 (0,0)) (bk cp) uk.out (by simp));have CX:=Ah (Kd.dD ho0 (be (aH HB iM)));replace HB:=Ah (hb);replace cI:=Ah (hi);(try clear hb hk hi ho0))|((with_reducible refine ax (N:=6) rfl ?_);refine bA 6 25 #[.slice none 0 0] ?_;intro jg hg w7 cu hb;replace CX:=nr CX hb;have GW539:=gw hg (aH HB iM);have jy:=gw hg (aH HB iM);replace HB:=Ah (aK (aH HB iM) hb);have yO:=nn cp hg;have wB:=nm cp hg;replace cp:=nb cp hb;have i6:=Ah ((by rw[hg];exact aaI (Y.lt (show Y w _ fA l0 Fz G0 from Y.iC cI hH)):fA≠jg));have ru:=Ah ((by rw[hg];exact aaJ (Y.lt (show Y w _ fA l0 Fz G0 from Y.iC cI hH)):jg≠fA));replace cI:=Ah (Y.below (Y.iC cI hH) hb);clear hb hg;obtain⟨yC,jG,eo8⟩:=Kd.bq CX.out;subst eo8;have a5Y:=wB.out;have a5Z:=yO.out;have SW:=ru.out;have SX:=i6.out;have lx:=ap cu;have ly:=an cu))
 (try simp only[aab,Ok,bY,dl])
 go_cut [21] (fun v21 wc=>∃ (kq:Nat) (df:Bool) (t5:Int) (t6:Int),v21= .bool df∧U (dp.j0 kq df l0 t5 t6 bO=some (r1,r2,r3))∧U (kq≤k)∧U (Kd.R b7 65 wc w.heap.size (fun _=>True) (.slice yC bO.length jG) bO)∧U (wc.heap[iA]?=some (.cells #[(.slice none 0 0)] 25 (0,0)))∧U (wc.heap[jg]?=some (.cells #[(.slice yC bO.length jG)] 25 (0,0)))∧U (Y w wc fA l0 t5 t6)∧U (Below w.heap.size w wc))
 case first=>
  have H:=ke.out;clear ke
  by_cases c12:(bO.length:Int)>0
  rotate_left
  ·
   rw[if_neg c12]at H;have jR:decide (0<(bO.length:Int))=false:=decide_eq_false c12;have vO:decide (0<bO.length)=false:=decide_eq_false (by omega);clear c12;(first|rw[jR]|(simp only[cz,dS];rw[jR])|(simp only[TF,aaz,Bool.not_true])|skip);have H':=Ah H;clear H;have NV:=wB.out;have NW:=yO.out;have a28:=ru.out;have a29:=i6.out;have Mf:=ap cu;have Mg:=an cu
   go_wp2
   go_meet
   case rel=>exact⟨_,(false),(Fz),(G0),e3,H',⟨by first|omega|exact bx _⟩,⟨by(with_reducible repeat(first|apply Kd.bG|apply Kd.bE|apply Kd.al));exact Kd.aY (Kd.aQ (p:=⟨jg,0,none⟩) (Kd.cl CX.out cu.out (by decide)) (fun _ hk=>hk.2) (.slice yC bO.length jG)) (fun _ hk=>trivial)⟩,⟨bf cp yO⟩,⟨by(with_reducible repeat(first|refine aD ?_ _|refine Z ?_|refine aC ?_ _));refine aj (cs:= #[.slice none 0 0]) ?_ 0 _ rfl;(with_reducible repeat(first|refine aD ?_ _|refine Z ?_|refine aC ?_ _));exact cu.out⟩,⟨Y.eE cI hH i6⟩,⟨aW HB iM jy⟩⟩
  rw[if_pos c12]at H;have jR:decide (0<(bO.length:Int))=true:=decide_eq_true c12;have vO:decide (0<bO.length)=true:=decide_eq_true (by omega);clear c12;(first|rw[jR]|(simp only[cz,dS];rw[jR])|(simp only[TF,aaz,Bool.not_true])|skip);replace H:=LT.mp H;obtain⟨⟨a50,a51,a52⟩,rG,H⟩:=H
  try dsimp only at H
  have rh:=Ah rG;clear rG;have H':=Ah H;clear H;have NN:=wB.out;have NO:=yO.out;have SE:=ru.out;have SF:=i6.out;have nQ:=ap cu;have nR:=an cu
  go_wp2_with (first|(go_at_call 33;(with_reducible refine(mj.calls fA l0 Fz G0 2 a50 a51 a52 w _ ?a8 ?a9 rh.out).mono ?_);(case a8=>exact Y.eE cI hH i6);(case a9=>exact aW HB iM jy);rintro e xz ⟨rfl,hi,hb,hk⟩;replace cp:=Ah (aM.blk hk (g':=iA) (o:= .cells #[.slice none 0 0] 25 (0,0)) (bf cp yO) uk.out (by simp));replace CX:=Ah (Kd.aY (Kd.gO (Y.apart (show Y w _ fA l0 Fz G0 from Y.eE cI hH i6) (rf CX cu) (by decide)) hk (fun _ h=>h.2)) (fun _ h=>h.1));replace cu:=Ah (aM.blk hk (g':=jg) (o:= .cells #[.slice yC bO.length jG] 25 (0,0)) (by(with_reducible repeat(first|refine aD ?_ _|refine Z ?_|refine aC ?_ _));refine aj (cs:= #[.slice none 0 0]) ?_ 0 _ rfl;(with_reducible repeat(first|refine aD ?_ _|refine Z ?_|refine aC ?_ _));exact cu.out) ru.out (by simp));replace HB:=Ah (hb);replace cI:=Ah (hi);(try clear hb hk hi)))
  go_meet
  case rel=>exact⟨_,(a50),(a51),(a52),e3,H',⟨by first|omega|exact bx _⟩,⟨rr CX.out⟩,⟨bk cp⟩,⟨bk cu⟩,⟨Y.eE cI hH i6⟩,⟨aW HB iM jy⟩⟩
 case rest=>
  clear ke
  try clear c1
  try clear c2
  try clear p2
  try clear c9
  try clear c10
  try clear c12
  try clear jR
  try clear vO
  try clear c13
  try clear c14
  try clear c15
  try clear c18
  try clear c19
  try clear c20
  try clear lx
  try clear nQ
  try clear Mf
  try clear ly
  try clear nR
  try clear Mg
  obtain⟨kq,df,t5,t6,rfl,HA,HJ2,ah,cp,cu,cI,HB⟩:=hcut
  cases kq with
  |zero=>exact absurd HA.out (by simp[dp.j0])
  |succ kf=>
   have H:=HA.out;clear HA;simp only[dp.j0]at H
   by_cases c21:df=true
   rotate_left
   ·
    replace c21:=dn.mpr c21;subst c21;rw[if_neg dV]at H;replace H:=LT.mp H;obtain⟨⟨t561,WM,WN⟩,KO,H⟩:=H
    try dsimp only at H
    have Pd:=Ah KO;clear KO;replace H:=LT.mp H;obtain⟨⟨t564,t565,t566⟩,KP,H⟩:=H
    try dsimp only at H
    have Pe:=Ah KP;clear KP;simp only[j4,ub]at H;obtain⟨rfl,rfl,rfl⟩:=H
    try go_wp2
    have aa:=Ah (Kd.al ah.out);have ab:=Ah (Z cp.out);have ac:=Ah (Z cu.out);have ae:=Ah (Y.drew cI.out);have bK:=Ah (fO HB.out);clear ah cp cu cI HB;have ah:=aa;have cp:=ab;have cu:=ac;have cI:=ae;have HB:=bK;clear aa ab ac ae bK;refine iY (n:=8) (S:=fun w'=>w'.cell? ⟨jg,0,none⟩=some (.slice yC bO.length jG)) (ds:=[]) #[false,false,false,false,false,false,false,false] (by kernel_rfl) rfl rfl ((bC cu.out 0).trans rfl) (fun hHeld=> ?_);refine ig dp.Fx dp.FG (fun X cV=> ?_)
    generalize wc.drew=w68 at ah cp cu cI HB hHeld⊢
    refine aN 1 50 X.out ?_;refine aN 3 52 X.out ?_;refine sH (i:=0) (N:=some 49) (v:= ?_) (a':= ?_) #[true,true,false,true,false,false,false,false] rfl rfl (wD X.out cV.out (by kernel_rfl)) (fun _ _ _ h=>h) (Or.inl ⟨by rfl, ?_⟩) hHeld ?_ ?_;rotate_left
    ·
     intro w' s0
     go_simp
     with_reducible rfl
    rotate_left
    ·
     simp only[aab,Ok,bY,dl,cz,dS]
     rfl
    refine ga (i:=2) (N:=some 51) #[true,true,true,true,false,false,false,false] rfl rfl (fy X.out (by kernel_rfl)) (by decide) (fun K hK=> ?_);refine il aar (by kernel_rfl) rfl #[.pointer (some ⟨fA,0,none⟩),.int .i64 30] (by rfl) rfl rfl (by(try simp only[aag,aan,aas]);first|done|rfl|(simp only[gy,ao];rfl)) ?_
    with_reducible refine(ct.calls fA l0 t5 t6 30 t561 WM WN w _ ?a8 ?a9 Pd.out).mono ?_
    (case a8=>exact Y.eE cI hH i6);(case a9=>exact aW HB iM jy);rintro e w69 ⟨rfl,hi,hb,hk⟩;refine⟨_,rfl, ?_⟩;have aa:=Ah (Kd.aY (Kd.gO (Y.apart (show Y w _ fA l0 t5 t6 from Y.eE cI hH i6) (rr ah.out) (by decide)) hk (fun _ h=>h.2)) (fun _ h=>h.1));have ab:=Ah (aM.blk hk (g':=iA) (o:= .cells #[.slice none 0 0] 25 (0,0)) (bk cp) uk.out (by simp));have ac:=Ah (aM.blk hk (g':=jg) (o:= .cells #[.slice yC bO.length jG] 25 (0,0)) (bk cu) ru.out (by simp));have ae:=Ah (hb);have bK:=Ah (hi);clear ah cp cu HB cI;have ah:=aa;have cp:=ab;have cu:=ac;have HB:=ae;have cI:=bK;clear aa ab ac ae bK;(try clear hb);(try clear hb2);(try clear hk);(try clear hi);refine hK.out _ _ ((bC cu.out 0).trans rfl) (fun hHeld=> ?_);clear hK K;refine hU (a':= ?_) ?_ ?_;rotate_left
    ·
     show aab _ (some 51) _=_
     simp only[aab,Ok,bY,dl,cz,dS]
     rfl
    refine ga (i:=4) (N:=some 53) #[true,true,true,true,true,false,false,false] rfl rfl (fy X.out (by kernel_rfl)) (by decide) (fun K hK=> ?_);refine il aar (by kernel_rfl) rfl #[.pointer (some ⟨fA,0,none⟩),.int .i64 5] (by rfl) rfl rfl (by(try simp only[aag,aan,aas]);first|done|rfl|(simp only[gy,ao];rfl)) ?_
    with_reducible refine(ct.calls fA l0 WM WN 5 t564 t565 t566 w _ ?a8 ?a9 Pe.out).mono ?_
    (case a8=>exact Y.eE cI hH i6);(case a9=>exact aW HB iM jy);rintro e Wx ⟨rfl,hi,hb,hk⟩;refine⟨_,rfl, ?_⟩;have aa:=Ah (Kd.aY (Kd.gO (Y.apart (show Y w _ fA l0 WM WN from Y.eE cI hH i6) (rr ah.out) (by decide)) hk (fun _ h=>h.2)) (fun _ h=>h.1));have ab:=Ah (aM.blk hk (g':=iA) (o:= .cells #[.slice none 0 0] 25 (0,0)) (bk cp) uk.out (by simp));have ac:=Ah (aM.blk hk (g':=jg) (o:= .cells #[.slice yC bO.length jG] 25 (0,0)) (bk cu) ru.out (by simp));have ae:=Ah (hb);have bK:=Ah (hi);clear ah cp cu HB cI;have ah:=aa;have cp:=ab;have cu:=ac;have HB:=ae;have cI:=bK;clear aa ab ac ae bK;(try clear hb);(try clear hb2);(try clear hk);(try clear hi);refine hK.out _ _ ((bC cu.out 0).trans rfl) (fun hHeld=> ?_);clear hK K;refine hU (a':= ?_) ?_ ?_;rotate_left
    ·
     show aab _ (some 53) _=_
     simp only[aab,Ok,bY,dl,cz,dS]
     rfl
    refine ga (i:=5) (N:=none) #[true,true,true,true,true,true,false,false] rfl rfl (fy X.out (by kernel_rfl)) (by decide) (fun K hK=> ?_);have hs71:Wx.cell? ⟨iA,0,none⟩=some (.slice none 0 0):=(bC cp.out 0).trans rfl;have hfs71:=ff cp.out 0;have hns71_1:=wB.out;have hms71_1:=yO.out;refine oG (w1:= ?_) (by rfl) rfl ?_ ?_;rotate_left
    ·
     go_simp
     rfl
    refine hK.out _ _ (((ex (p:=⟨iA,_,none⟩) wB.out _).trans (hHeld))) (fun hHeld=> ?_);clear hK K;refine aN 6 3 X.out ?_;refine aN 7 4 X.out ?_;refine i9 (iD X.out (by kernel_rfl)) ?_
    try go_wp2
    refine bodyPost_ret (rj rfl _ _ iA 25 #[.slice yC bO.length jG] (0,0) _ rfl (by(with_reducible repeat(first|refine aD ?_ _|refine Z ?_|refine aC ?_ _));refine aj (cs:= #[.slice none 0 0]) ?_ 0 _ rfl;(with_reducible repeat(first|refine aD ?_ _|refine Z ?_|refine aC ?_ _));exact cp.out) ua rfl (by kernel_rfl)) rfl ?_;exact⟨_,er,by(with_reducible repeat(first|apply Kd.bG|apply Kd.bE|apply Kd.al));exact Kd.aY (Kd.aQ (p:=⟨iA,0,none⟩) (Kd.cl ah.out cp.out (by decide)) (fun _ hk=>hk.2) (.slice yC bO.length jG)) (fun _ hk=>trivial),aW HB iM jy⟩
   subst c21;rw[if_pos rfl]at H;replace H:=LT.mp H;obtain⟨⟨bc,sj,sk⟩,Cl,H⟩:=H
   try dsimp only at H
   have PU:=Ah Cl;clear Cl
   by_cases c23:0≤bc
   rotate_left
   ·
    rw[if_neg c23]at H;exact absurd H (by simp)
   rw[if_pos c23]at H;have Sa:decide (0≤bc)=true:=decide_eq_true c23;clear c23
   by_cases c24:bc<(bO.length:Int)
   rotate_left
   ·
    rw[if_neg c24]at H;exact absurd H (by simp)
   rw[if_pos c24]at H;have lU:decide (bc<(bO.length:Int))=true:=decide_eq_true c24;clear c24;replace H:=LT.mp H;obtain⟨WL,Ji,H⟩:=H
   try dsimp only at H
   have LF:=Ah Ji;clear Ji;have H_:=Ah H;clear H
   try go_wp2
   have aa:=Ah (Kd.al ah.out);have ab:=Ah (Z cp.out);have ac:=Ah (Z cu.out);have ae:=Ah (Y.drew cI.out);have bK:=Ah (fO HB.out);clear ah cp cu cI HB;have ah:=aa;have cp:=ab;have cu:=ac;have cI:=ae;have HB:=bK;clear aa ab ac ae bK;have WO:0≤(bc:Int):=od;have WP:bc<(bO.length:Int):=od;obtain⟨g8,e546,Zu,Zv,Zw,Zx⟩:=f6 (Kd.af ah.out).2.2 bc WO WP
   cases e546
   replace WO:=eq_true WO;replace WP:=eq_true WP;refine iY (n:=11) (S:=fun w'=>w'.cell? ⟨jg,0,none⟩=some (.slice (some g8) bO.length jG)∧w'.cell? (g8.add ((bc).toNat*4))=some (.int .i64 ((I bO bc).f0))∧w'.cell? ⟨(g8.add ((bc).toNat*4)).block,(g8.add ((bc).toNat*4)).off+1,none⟩=some (.int .i64 ((I bO bc).f1))∧w'.cell? ⟨(g8.add ((bc).toNat*4)).block,(g8.add ((bc).toNat*4)).off+2,none⟩=some (.int .i64 ((I bO bc).f2))∧w'.cell? ⟨(g8.add ((bc).toNat*4)).block,(g8.add ((bc).toNat*4)).off+3,none⟩=some (.bool ((I bO bc).f3))) (ds:=[]) #[false,false,false,false,false,false,false,false,false,false,false] (by kernel_rfl) rfl rfl ⟨(bC cu.out 0).trans rfl,Zu,Zv,Zw,Zx⟩ (fun hHeld=> ?_);refine ig dp.tab4 dp.bits4 (fun X cV=> ?_)
   generalize wc.drew=LJ at ah cp cu cI HB Zu Zv Zw Zx hHeld⊢
   refine aN 0 22 X.out ?_;refine aN 2 24 X.out ?_;refine aN 3 25 X.out ?_;refine eF 1 23 X.out cV.out hHeld (hr:=by rintro w' ⟨s0,s1,s2,s3,s4⟩;go_simp;with_reducible rfl) (h:= ?_);refine eF 4 26 X.out cV.out hHeld (hr:=by rintro w' ⟨s0,s1,s2,s3,s4⟩;go_simp;with_reducible rfl) (h:= ?_);refine aN 5 27 X.out ?_;refine join_ (σ:=Nat) 1 #[true,true,true,true,true,true,true,true,true,true,false] (fun s_=>[(28,.int .i64 bc),(7,.pointer (some ⟨s_,0,none⟩)),(29,.pointer (some (g8.add ((bc).toNat*4)))),(30,.agg #[.int .i64 ((I bO bc).f0),.int .i64 ((I bO bc).f1),.int .i64 ((I bO bc).f2),.bool ((I bO bc).f3)])]) (fun s_ w'=>(w'.cell? ⟨jg,0,none⟩=some (.slice (some g8) bO.length jG)∧w'.cell? (g8.add ((bc).toNat*4))=some (.int .i64 ((I bO bc).f0))∧w'.cell? ⟨(g8.add ((bc).toNat*4)).block,(g8.add ((bc).toNat*4)).off+1,none⟩=some (.int .i64 ((I bO bc).f1))∧w'.cell? ⟨(g8.add ((bc).toNat*4)).block,(g8.add ((bc).toNat*4)).off+2,none⟩=some (.int .i64 ((I bO bc).f2))∧w'.cell? ⟨(g8.add ((bc).toNat*4)).block,(g8.add ((bc).toNat*4)).off+3,none⟩=some (.bool ((I bO bc).f3)))∧(Kd.R b7 65 w' w.heap.size (fun k_=>k_≠s_) (.slice (some g8) bO.length jG) bO)∧(w'.heap[iA]?=some (.cells #[.slice none 0 0] 25 (0,0)))∧(w'.heap[jg]?=some (.cells #[.slice (some g8) bO.length jG] 25 (0,0)))∧(w'.heap[s_]?=some (.cells #[.int .i64 0,.int .i64 0,.int .i64 0,.bool false] 65 (0,0)))∧(w.heap.size≤s_)∧(w.heap.size≤s_)∧(fA≠s_)∧(s_≠fA)∧(iA≠s_)∧(s_≠iA)∧(jg≠s_)∧(s_≠jg)∧(Y w w' fA l0 sj sk)∧(Below w.heap.size w w')) ?_ ?_;rotate_left
   ·
    intro hCont;refine two_ (i:=6) (j:=9) (Ni:=some 28) (Nj:=some 7) #[true,true,true,true,true,true,true,false,false,false,false] #[true,true,true,true,true,true,false,false,false,true,false] rfl rfl rfl rfl (two_of X.out (by kernel_rfl)) (by decide) (by decide) (fun K hK=> ?_) (fun K hK=> ?_)
    ·
     skip
     refine il aar (by kernel_rfl) rfl #[.pointer (some ⟨fA,0,none⟩),.int .i64 (bO.length:Int)] (by rfl) rfl rfl (by(try simp only[aag,aan,aas]);first|done|rfl|(simp only[gy,ao];rfl)) ?_
     with_reducible refine(ct.calls fA l0 t5 t6 (bO.length:Int) bc sj sk w _ ?a8 ?a9 PU.out).mono ?_
     (case a8=>exact Y.eE cI hH i6);(case a9=>exact aW HB iM jy);rintro e rb ⟨rfl,hi,hb,hk⟩;have xe:=o4 hk (hHeld.2.1) (by first|(rw[cf];exact Kd.b9 (Y.own_ne cI.out ah.out (by decide)))|(show(aav _ _).block≠_;rw[cf];exact Kd.b9 (Y.own_ne cI.out ah.out (by decide)))|exact Kd.b9 (Y.own_ne cI.out ah.out (by decide)));have xf:=o4 hk (hHeld.2.2.1) (by first|(rw[cf];exact Kd.b9 (Y.own_ne cI.out ah.out (by decide)))|(show(aav _ _).block≠_;rw[cf];exact Kd.b9 (Y.own_ne cI.out ah.out (by decide)))|exact Kd.b9 (Y.own_ne cI.out ah.out (by decide)));have xg:=o4 hk (hHeld.2.2.2.1) (by first|(rw[cf];exact Kd.b9 (Y.own_ne cI.out ah.out (by decide)))|(show(aav _ _).block≠_;rw[cf];exact Kd.b9 (Y.own_ne cI.out ah.out (by decide)))|exact Kd.b9 (Y.own_ne cI.out ah.out (by decide)));have rN:=o4 hk (hHeld.2.2.2.2) (by first|(rw[cf];exact Kd.b9 (Y.own_ne cI.out ah.out (by decide)))|(show(aav _ _).block≠_;rw[cf];exact Kd.b9 (Y.own_ne cI.out ah.out (by decide)))|exact Kd.b9 (Y.own_ne cI.out ah.out (by decide)));refine⟨_,rfl, ?_⟩;have aa:=Ah (Kd.aY (Kd.gO (Y.apart (show Y w _ fA l0 t5 t6 from Y.eE cI hH i6) (rr ah.out) (by decide)) hk (fun _ h=>h.2)) (fun _ h=>h.1));have ab:=Ah (aM.blk hk (g':=iA) (o:= .cells #[.slice none 0 0] 25 (0,0)) (bk cp) uk.out (by simp));have ac:=Ah (aM.blk hk (g':=jg) (o:= .cells #[.slice (some g8) bO.length jG] 25 (0,0)) (bk cu) ru.out (by simp));have ae:=Ah (hb);have bK:=Ah (hi);clear ah cp cu HB cI;have ah:=aa;have cp:=ab;have cu:=ac;have HB:=ae;have cI:=bK;clear aa ab ac ae bK;(try clear hb);(try clear hb2);(try clear hk);(try clear hi);refine hK.out _ _ ⟨(bC cu.out 0).trans rfl,xe,xf,xg,rN⟩ (fun hHeld=> ?_);clear hK K;refine hU (a':= ?_) ?_ ?_;rotate_left
     ·
      show aab _ (some 28) _=_
      simp only[aab,Ok,bY,dl,cz,dS]
      rfl
     refine aN 7 29 X.out ?_;refine eF 8 30 X.out cV.out hHeld (hr:=by rintro w' ⟨s0,s1,s2,s3,s4⟩;go_simp;with_reducible rfl) (h:= ?_);refine ga (i:=9) (N:=some 7) #[true,true,true,true,true,true,true,true,true,true,false] rfl rfl (fy X.out (by kernel_rfl)) (by decide) (fun K hK=> ?_);refine YH ?hg (N:=7) ?hd (cs:= #[.int .i64 0,.int .i64 0,.int .i64 0,.bool false]) (t:=65) ?hr ?_;(case hd=>rfl);(case hg=>rfl);(case hr=>first|(go_simp;done)|(go_simp;rfl));intro cZ hg Dv hbox hb;have xe:=(hb.cell (LA _ _ (hHeld.2.1))).trans (hHeld.2.1);have xf:=(hb.cell (LA _ _ (hHeld.2.2.1))).trans (hHeld.2.2.1);have xg:=(hb.cell (LA _ _ (hHeld.2.2.2.1))).trans (hHeld.2.2.2.1);have rN:=(hb.cell (LA _ _ (hHeld.2.2.2.2))).trans (hHeld.2.2.2.2);have aa:=Ah (Kd.eO (Kd.gD (rr ah.out) cZ (aaj hg.symm)) hb);have ab:=Ah (bb cp hb);have ac:=Ah (bb cu hb);have ae:=Ah (Y.below (Y.eE cI hH i6) hb);have bK:=Ah (aK (aW HB iM jy) hb);have bP:=Ah (hbox);have ew:=gw hg (aW HB iM jy);have fC:=gw hg (aW HB iM jy);have lq:=nn cp hg;have qC:=nm cp hg;have AB:=nn cu hg;have AC:=nm cu hg;have AD:=Ah ((by rw[hg];exact aaI (Y.lt (show Y w _ fA l0 sj sk from Y.eE cI hH i6)):fA≠cZ));have AE:=Ah ((by rw[hg];exact aaJ (Y.lt (show Y w _ fA l0 sj sk from Y.eE cI hH i6)):cZ≠fA));clear ah cp cu cI HB;have ah:=aa;have cp:=ab;have cu:=ac;have cI:=ae;have HB:=bK;have f4:=bP;have O6:=ew;have oL:=fC;have pB:=lq;have nO:=qC;have lO:=AB;have ul:=AC;have lP:=AD;have t7:=AE;clear aa ab ac ae bK bP ew fC lq qC AB AC AD AE hb hbox hg;refine hK.out _ _ ⟨(bC cu.out 0).trans rfl,xe,xf,xg,rN⟩ (fun hHeld=> ?_);clear hK K;refine hU (a':= ?_) ?_ ?_;rotate_left
     ·
      show aab _ (some 7) _=_
      simp only[aab,Ok,bY,dl,cz,dS]
      rfl
     exact hU (by simp only[Ef,aab,Ok,bY,dl]) (hCont (cZ) _ ⟨hHeld,(by(with_reducible repeat(first|apply Kd.bG|apply Kd.bE|apply Kd.al));exact Kd.aY ah.out (fun _ hk=>hk.2)),(bk cp),(bk cu),(bk f4),O6.out,oL.out,lP.out,t7.out,pB.out,nO.out,lO.out,ul.out,(Y.iQ cI hH i6 lP),(bX HB iM jy oL)⟩)
    ·
     skip
     refine YH ?hg (N:=7) ?hd (cs:= #[.int .i64 0,.int .i64 0,.int .i64 0,.bool false]) (t:=65) ?hr ?_;(case hd=>rfl);(case hg=>rfl);(case hr=>first|(go_simp;done)|(go_simp;rfl));intro cZ hg rb hbox hb;have xe:=(hb.cell (LA _ _ (hHeld.2.1))).trans (hHeld.2.1);have xf:=(hb.cell (LA _ _ (hHeld.2.2.1))).trans (hHeld.2.2.1);have xg:=(hb.cell (LA _ _ (hHeld.2.2.2.1))).trans (hHeld.2.2.2.1);have rN:=(hb.cell (LA _ _ (hHeld.2.2.2.2))).trans (hHeld.2.2.2.2);have aa:=Ah (Kd.eO (Kd.gD (rr ah.out) cZ (aaj hg.symm)) hb);have ab:=Ah (bb cp hb);have ac:=Ah (bb cu hb);have ae:=Ah (Y.below (Y.eE cI hH i6) hb);have bK:=Ah (aK (aW HB iM jy) hb);have bP:=Ah (hbox);have ew:=gw hg (aW HB iM jy);have fC:=gw hg (aW HB iM jy);have lq:=nn cp hg;have qC:=nm cp hg;have AB:=nn cu hg;have AC:=nm cu hg;have AD:=Ah ((by rw[hg];exact aaI (Y.lt (show Y w _ fA l0 t5 t6 from Y.eE cI hH i6)):fA≠cZ));have AE:=Ah ((by rw[hg];exact aaJ (Y.lt (show Y w _ fA l0 t5 t6 from Y.eE cI hH i6)):cZ≠fA));clear ah cp cu cI HB;have ah:=aa;have cp:=ab;have cu:=ac;have cI:=ae;have HB:=bK;have f4:=bP;have O6:=ew;have oL:=fC;have pB:=lq;have nO:=qC;have lO:=AB;have ul:=AC;have lP:=AD;have t7:=AE;clear aa ab ac ae bK bP ew fC lq qC AB AC AD AE hb hbox hg;refine hK.out _ _ ⟨(bC cu.out 0).trans rfl,xe,xf,xg,rN⟩ (fun hHeld=> ?_);clear hK K;refine hU (a':= ?_) ?_ ?_;rotate_left
     ·
      show aab _ (some 7) _=_
      simp only[aab,Ok,bY,dl,cz,dS]
      rfl
     refine ga (i:=6) (N:=some 28) #[true,true,true,true,true,true,true,false,false,true,false] rfl rfl (fy X.out (by kernel_rfl)) (by decide) (fun K hK=> ?_);refine il aar (by kernel_rfl) rfl #[.pointer (some ⟨fA,0,none⟩),.int .i64 (bO.length:Int)] (by rfl) rfl rfl (by(try simp only[aag,aan,aas]);first|done|rfl|(simp only[gy,ao];rfl)) ?_
     with_reducible refine(ct.calls fA l0 t5 t6 (bO.length:Int) bc sj sk w _ ?a8 ?a9 PU.out).mono ?_
     (case a8=>exact Y.iQ cI hH i6 lP);(case a9=>exact bX HB iM jy oL);rintro e Dv ⟨rfl,hi,hb,hk⟩;have xe:=o4 hk (hHeld.2.1) (by first|(rw[cf];exact Kd.b9 (Y.own_ne cI.out ah.out (by decide)))|(show(aav _ _).block≠_;rw[cf];exact Kd.b9 (Y.own_ne cI.out ah.out (by decide)))|exact Kd.b9 (Y.own_ne cI.out ah.out (by decide)));have xf:=o4 hk (hHeld.2.2.1) (by first|(rw[cf];exact Kd.b9 (Y.own_ne cI.out ah.out (by decide)))|(show(aav _ _).block≠_;rw[cf];exact Kd.b9 (Y.own_ne cI.out ah.out (by decide)))|exact Kd.b9 (Y.own_ne cI.out ah.out (by decide)));have xg:=o4 hk (hHeld.2.2.2.1) (by first|(rw[cf];exact Kd.b9 (Y.own_ne cI.out ah.out (by decide)))|(show(aav _ _).block≠_;rw[cf];exact Kd.b9 (Y.own_ne cI.out ah.out (by decide)))|exact Kd.b9 (Y.own_ne cI.out ah.out (by decide)));have rN:=o4 hk (hHeld.2.2.2.2) (by first|(rw[cf];exact Kd.b9 (Y.own_ne cI.out ah.out (by decide)))|(show(aav _ _).block≠_;rw[cf];exact Kd.b9 (Y.own_ne cI.out ah.out (by decide)))|exact Kd.b9 (Y.own_ne cI.out ah.out (by decide)));refine⟨_,rfl, ?_⟩;have aa:=Ah (Kd.aY (Kd.gO (Y.apart (show Y w _ fA l0 t5 t6 from Y.iQ cI hH i6 lP) (rr ah.out) (by decide)) hk (fun _ h=>h.2)) (fun _ h=>h.1));have ab:=Ah (aM.blk hk (g':=iA) (o:= .cells #[.slice none 0 0] 25 (0,0)) (bk cp) uk.out (by simp));have ac:=Ah (aM.blk hk (g':=jg) (o:= .cells #[.slice (some g8) bO.length jG] 25 (0,0)) (bk cu) ru.out (by simp));have ae:=Ah (aM.blk hk (g':=cZ) (o:= .cells #[.int .i64 0,.int .i64 0,.int .i64 0,.bool false] 65 (0,0)) (bk f4) t7.out (by simp));have bK:=Ah (hb);have bP:=Ah (hi);clear ah cp cu f4 HB cI;have ah:=aa;have cp:=ab;have cu:=ac;have f4:=ae;have HB:=bK;have cI:=bP;clear aa ab ac ae bK bP;(try clear hb);(try clear hb2);(try clear hk);(try clear hi);refine hK.out _ _ ⟨(bC cu.out 0).trans rfl,xe,xf,xg,rN⟩ (fun hHeld=> ?_);clear hK K;refine hU (a':= ?_) ?_ ?_;rotate_left
     ·
      show aab _ (some 28) _=_
      simp only[aab,Ok,bY,dl,cz,dS]
      rfl
     refine aN 7 29 X.out ?_;refine eF 8 30 X.out cV.out hHeld (hr:=by rintro w' ⟨s0,s1,s2,s3,s4⟩;go_simp;with_reducible rfl) (h:= ?_);exact hU (by simp only[Ef,aab,Ok,bY,dl]) (hCont (cZ) _ ⟨hHeld,(by(with_reducible repeat(first|apply Kd.bG|apply Kd.bE|apply Kd.al));exact Kd.aY ah.out (fun _ hk=>hk.2)),(bk cp),(bk cu),(bk f4),O6.out,oL.out,lP.out,t7.out,pB.out,nO.out,lO.out,ul.out,(Y.iQ cI hH i6 lP),(bX HB iM jy oL)⟩)
   rintro cZ w32 ⟨hS_,h0_,Pg,Ph,Pi,Pj,h5_,h6_,h7_,h8_,h9_,a53,a54,a55,a56⟩;have aa:U (Kd.R b7 65 w32 w.heap.size (fun k_=>k_≠cZ) (.slice (some g8) bO.length jG) bO):=⟨h0_⟩;have ab:U (w32.heap[iA]?=some (.cells #[.slice none 0 0] 25 (0,0))):=⟨Pg⟩;have ac:U (w32.heap[jg]?=some (.cells #[.slice (some g8) bO.length jG] 25 (0,0))):=⟨Ph⟩;have ae:U (w32.heap[cZ]?=some (.cells #[.int .i64 0,.int .i64 0,.int .i64 0,.bool false] 65 (0,0))):=⟨Pi⟩;have bK:U (w.heap.size≤cZ):=⟨Pj⟩;have bP:U (w.heap.size≤cZ):=⟨h5_⟩;have ew:U (fA≠cZ):=⟨h6_⟩;have fC:U (cZ≠fA):=⟨h7_⟩;have lq:U (iA≠cZ):=⟨h8_⟩;have qC:U (cZ≠iA):=⟨h9_⟩;have AB:U (jg≠cZ):=⟨a53⟩;have AC:U (cZ≠jg):=⟨a54⟩;have AD:U (Y w w32 fA l0 sj sk):=⟨a55⟩;have AE:U (Below w.heap.size w w32):=⟨a56⟩;clear ah cp cu cI HB h0_ Pg Ph Pi Pj h5_ h6_ h7_ h8_ h9_ a53 a54 a55 a56;have ah:=aa;have cp:=ab;have cu:=ac;have f4:=ae;have O6:=bK;have oL:=bP;have lP:=ew;have t7:=fC;have pB:=lq;have nO:=qC;have lO:=AB;have ul:=AC;have cI:=AD;have HB:=AE;clear aa ab ac ae bK bP ew fC lq qC AB AC AD AE;have hHeld:w32.cell? ⟨jg,0,none⟩=some (.slice (some g8) bO.length jG)∧w32.cell? (g8.add ((bc).toNat*4))=some (.int .i64 ((I bO bc).f0))∧w32.cell? ⟨(g8.add ((bc).toNat*4)).block,(g8.add ((bc).toNat*4)).off+1,none⟩=some (.int .i64 ((I bO bc).f1))∧w32.cell? ⟨(g8.add ((bc).toNat*4)).block,(g8.add ((bc).toNat*4)).off+2,none⟩=some (.int .i64 ((I bO bc).f2))∧w32.cell? ⟨(g8.add ((bc).toNat*4)).block,(g8.add ((bc).toNat*4)).off+3,none⟩=some (.bool ((I bO bc).f3)):=hS_;refine hU (a':= ?_) ?_ ?_;rotate_left
   ·
    simp only[Ef,aab,Ok,bY,dl]
    rfl
   refine ga (i:=10) (N:=none) #[true,true,true,true,true,true,true,true,true,true,true] rfl rfl (fy X.out (by kernel_rfl)) (by decide) (fun K hK=> ?_);have hs33:w32.cell? ⟨cZ,0,none⟩=some (.int .i64 0):=(bC f4.out 0).trans rfl;have hfs33:=ff f4.out 0;have hns33_0:=pB.out;have hns33_1:=lO.out;have hms33_0:=nO.out;have hms33_1:=ul.out;have hs34:w32.cell? ⟨cZ,1,none⟩=some (.int .i64 0):=(bC f4.out 1).trans rfl;have hfs34:=ff f4.out 1;have hns34_0:=pB.out;have hns34_1:=lO.out;have hms34_0:=nO.out;have hms34_1:=ul.out;have hs35:w32.cell? ⟨cZ,2,none⟩=some (.int .i64 0):=(bC f4.out 2).trans rfl;have hfs35:=ff f4.out 2;have hns35_0:=pB.out;have hns35_1:=lO.out;have hms35_0:=nO.out;have hms35_1:=ul.out;have hs36:w32.cell? ⟨cZ,3,none⟩=some (.bool false):=(bC f4.out 3).trans rfl;have hfs36:=ff f4.out 3;have hns36_0:=pB.out;have hns36_1:=lO.out;have hms36_0:=nO.out;have hms36_1:=ul.out;have H:=H_.out;clear H_
   by_cases i3:WL=true
   rotate_left
   ·
    replace i3:=dn.mpr i3;subst i3;rw[if_neg dV]at H;replace H:=LT.mp H;obtain⟨⟨t555,WQ,WR⟩,Jj,H⟩:=H
    try dsimp only at H
    have Wi:=Ah Jj;clear Jj;replace H:=LT.mp H;obtain⟨⟨t558,t559,t560⟩,a57,H⟩:=H
    try dsimp only at H
    have A48:=Ah a57;clear a57;simp only[j4,ub]at H;obtain⟨rfl,rfl,rfl⟩:=H;refine oG (w1:= ?_) (by rfl) rfl ?_ ?_;rotate_left
    ·
     go_simp
     rfl
    refine hK.out _ _ ⟨((ex (p:=⟨cZ,_,none⟩) lO.out _).trans (((ex (p:=⟨cZ,_,none⟩) lO.out _).trans (((ex (p:=⟨cZ,_,none⟩) lO.out _).trans (((ex (p:=⟨cZ,_,none⟩) lO.out _).trans (hHeld.1)))))))),((ex (p:=⟨cZ,_,none⟩) (by first|exact Kd.b9 (Kd.bF ah.out (fun _ hk=>hk))|(rw[cf];exact Kd.b9 (Kd.bF ah.out (fun _ hk=>hk)))|(show(aav _ _).block≠_;rw[cf];exact Kd.b9 (Kd.bF ah.out (fun _ hk=>hk)))|(dsimp only;exact Kd.b9 (Kd.bF ah.out (fun _ hk=>hk)))) _).trans (((ex (p:=⟨cZ,_,none⟩) (by first|exact Kd.b9 (Kd.bF ah.out (fun _ hk=>hk))|(rw[cf];exact Kd.b9 (Kd.bF ah.out (fun _ hk=>hk)))|(show(aav _ _).block≠_;rw[cf];exact Kd.b9 (Kd.bF ah.out (fun _ hk=>hk)))|(dsimp only;exact Kd.b9 (Kd.bF ah.out (fun _ hk=>hk)))) _).trans (((ex (p:=⟨cZ,_,none⟩) (by first|exact Kd.b9 (Kd.bF ah.out (fun _ hk=>hk))|(rw[cf];exact Kd.b9 (Kd.bF ah.out (fun _ hk=>hk)))|(show(aav _ _).block≠_;rw[cf];exact Kd.b9 (Kd.bF ah.out (fun _ hk=>hk)))|(dsimp only;exact Kd.b9 (Kd.bF ah.out (fun _ hk=>hk)))) _).trans (((ex (p:=⟨cZ,_,none⟩) (by first|exact Kd.b9 (Kd.bF ah.out (fun _ hk=>hk))|(rw[cf];exact Kd.b9 (Kd.bF ah.out (fun _ hk=>hk)))|(show(aav _ _).block≠_;rw[cf];exact Kd.b9 (Kd.bF ah.out (fun _ hk=>hk)))|(dsimp only;exact Kd.b9 (Kd.bF ah.out (fun _ hk=>hk)))) _).trans (hHeld.2.1)))))))),((ex (p:=⟨cZ,_,none⟩) (by first|exact Kd.b9 (Kd.bF ah.out (fun _ hk=>hk))|(rw[cf];exact Kd.b9 (Kd.bF ah.out (fun _ hk=>hk)))|(show(aav _ _).block≠_;rw[cf];exact Kd.b9 (Kd.bF ah.out (fun _ hk=>hk)))|(dsimp only;exact Kd.b9 (Kd.bF ah.out (fun _ hk=>hk)))) _).trans (((ex (p:=⟨cZ,_,none⟩) (by first|exact Kd.b9 (Kd.bF ah.out (fun _ hk=>hk))|(rw[cf];exact Kd.b9 (Kd.bF ah.out (fun _ hk=>hk)))|(show(aav _ _).block≠_;rw[cf];exact Kd.b9 (Kd.bF ah.out (fun _ hk=>hk)))|(dsimp only;exact Kd.b9 (Kd.bF ah.out (fun _ hk=>hk)))) _).trans (((ex (p:=⟨cZ,_,none⟩) (by first|exact Kd.b9 (Kd.bF ah.out (fun _ hk=>hk))|(rw[cf];exact Kd.b9 (Kd.bF ah.out (fun _ hk=>hk)))|(show(aav _ _).block≠_;rw[cf];exact Kd.b9 (Kd.bF ah.out (fun _ hk=>hk)))|(dsimp only;exact Kd.b9 (Kd.bF ah.out (fun _ hk=>hk)))) _).trans (((ex (p:=⟨cZ,_,none⟩) (by first|exact Kd.b9 (Kd.bF ah.out (fun _ hk=>hk))|(rw[cf];exact Kd.b9 (Kd.bF ah.out (fun _ hk=>hk)))|(show(aav _ _).block≠_;rw[cf];exact Kd.b9 (Kd.bF ah.out (fun _ hk=>hk)))|(dsimp only;exact Kd.b9 (Kd.bF ah.out (fun _ hk=>hk)))) _).trans (hHeld.2.2.1)))))))),((ex (p:=⟨cZ,_,none⟩) (by first|exact Kd.b9 (Kd.bF ah.out (fun _ hk=>hk))|(rw[cf];exact Kd.b9 (Kd.bF ah.out (fun _ hk=>hk)))|(show(aav _ _).block≠_;rw[cf];exact Kd.b9 (Kd.bF ah.out (fun _ hk=>hk)))|(dsimp only;exact Kd.b9 (Kd.bF ah.out (fun _ hk=>hk)))) _).trans (((ex (p:=⟨cZ,_,none⟩) (by first|exact Kd.b9 (Kd.bF ah.out (fun _ hk=>hk))|(rw[cf];exact Kd.b9 (Kd.bF ah.out (fun _ hk=>hk)))|(show(aav _ _).block≠_;rw[cf];exact Kd.b9 (Kd.bF ah.out (fun _ hk=>hk)))|(dsimp only;exact Kd.b9 (Kd.bF ah.out (fun _ hk=>hk)))) _).trans (((ex (p:=⟨cZ,_,none⟩) (by first|exact Kd.b9 (Kd.bF ah.out (fun _ hk=>hk))|(rw[cf];exact Kd.b9 (Kd.bF ah.out (fun _ hk=>hk)))|(show(aav _ _).block≠_;rw[cf];exact Kd.b9 (Kd.bF ah.out (fun _ hk=>hk)))|(dsimp only;exact Kd.b9 (Kd.bF ah.out (fun _ hk=>hk)))) _).trans (((ex (p:=⟨cZ,_,none⟩) (by first|exact Kd.b9 (Kd.bF ah.out (fun _ hk=>hk))|(rw[cf];exact Kd.b9 (Kd.bF ah.out (fun _ hk=>hk)))|(show(aav _ _).block≠_;rw[cf];exact Kd.b9 (Kd.bF ah.out (fun _ hk=>hk)))|(dsimp only;exact Kd.b9 (Kd.bF ah.out (fun _ hk=>hk)))) _).trans (hHeld.2.2.2.1)))))))),((ex (p:=⟨cZ,_,none⟩) (by first|exact Kd.b9 (Kd.bF ah.out (fun _ hk=>hk))|(rw[cf];exact Kd.b9 (Kd.bF ah.out (fun _ hk=>hk)))|(show(aav _ _).block≠_;rw[cf];exact Kd.b9 (Kd.bF ah.out (fun _ hk=>hk)))|(dsimp only;exact Kd.b9 (Kd.bF ah.out (fun _ hk=>hk)))) _).trans (((ex (p:=⟨cZ,_,none⟩) (by first|exact Kd.b9 (Kd.bF ah.out (fun _ hk=>hk))|(rw[cf];exact Kd.b9 (Kd.bF ah.out (fun _ hk=>hk)))|(show(aav _ _).block≠_;rw[cf];exact Kd.b9 (Kd.bF ah.out (fun _ hk=>hk)))|(dsimp only;exact Kd.b9 (Kd.bF ah.out (fun _ hk=>hk)))) _).trans (((ex (p:=⟨cZ,_,none⟩) (by first|exact Kd.b9 (Kd.bF ah.out (fun _ hk=>hk))|(rw[cf];exact Kd.b9 (Kd.bF ah.out (fun _ hk=>hk)))|(show(aav _ _).block≠_;rw[cf];exact Kd.b9 (Kd.bF ah.out (fun _ hk=>hk)))|(dsimp only;exact Kd.b9 (Kd.bF ah.out (fun _ hk=>hk)))) _).trans (((ex (p:=⟨cZ,_,none⟩) (by first|exact Kd.b9 (Kd.bF ah.out (fun _ hk=>hk))|(rw[cf];exact Kd.b9 (Kd.bF ah.out (fun _ hk=>hk)))|(show(aav _ _).block≠_;rw[cf];exact Kd.b9 (Kd.bF ah.out (fun _ hk=>hk)))|(dsimp only;exact Kd.b9 (Kd.bF ah.out (fun _ hk=>hk)))) _).trans (hHeld.2.2.2.2))))))))⟩ (fun hHeld=> ?_);clear hK K;refine i9 (iD X.out (by kernel_rfl)) ?_;have a1D:=nO.out;have a1E:=pB.out;have hnb58:=ul.out;have hnc58:=lO.out;have hnb59:=t7.out;have hnc59:=lP.out;obtain⟨hcz60_0,hcz60_1,hcz60_2,hcz60_3⟩:=cA f4;obtain⟨hfz60_0,hfz60_1,hfz60_2,hfz60_3⟩:=cB f4
    try go_wp2_with (first|((with_reducible refine bJ (f:=34) rfl ?_);refine gL (some 32) rfl rfl Try.func34 (by kernel_rfl) rfl #[.agg #[.int .i64 ((I bO bc).f0),.int .i64 ((I bO bc).f1),.int .i64 ((I bO bc).f2),.bool ((I bO bc).f3)]] rfl ?_;(with_reducible refine(oy.calls ((I bO bc).f0) ((I bO bc).f1) ((I bO bc).f2) ((I bO bc).f3) false _ LF.out).mono ?_);rintro e GA ⟨rfl,hb⟩;refine⟨_,rfl, ?_⟩;replace ah:=Ah (Kd.eO (by(with_reducible repeat(first|apply Kd.bG|apply Kd.bE|apply Kd.al));exact(Kd.aY (Kd.aQ (p:=⟨cZ,3,none⟩) (Kd.aQ (p:=⟨cZ,2,none⟩) (Kd.aQ (p:=⟨cZ,1,none⟩) (Kd.aQ (p:=⟨cZ,0,none⟩) (Kd.aY ah.out (fun k_ hk=>(⟨hk,hk⟩:_∧k_≠cZ))) (fun _ hk=>hk.2) (.int .i64 ((I bO bc).f0))) (fun _ hk=>hk.2) (.int .i64 ((I bO bc).f1))) (fun _ hk=>hk.2) (.int .i64 ((I bO bc).f2))) (fun _ hk=>hk.2) (.bool ((I bO bc).f3))) (fun _ h_=>h_.1))) hb);replace cp:=Ah (cC (bf cp pB) hb);replace cu:=Ah (cC (bf cu lO) hb);replace f4:=Ah (cC (g:=cZ) (o:= .cells #[.int .i64 ((I bO bc).f0),.int .i64 ((I bO bc).f1),.int .i64 ((I bO bc).f2),.bool ((I bO bc).f3)] 65 (0,0)) (by(with_reducible repeat(first|refine aD ?_ _|refine Z ?_|refine aC ?_ _));refine aj (cs:= #[.int .i64 ((I bO bc).f0),.int .i64 ((I bO bc).f1),.int .i64 ((I bO bc).f2),.bool false]) ?_ 3 _ rfl;(with_reducible repeat(first|refine aD ?_ _|refine Z ?_|refine aC ?_ _));refine aj (cs:= #[.int .i64 ((I bO bc).f0),.int .i64 ((I bO bc).f1),.int .i64 0,.bool false]) ?_ 2 _ rfl;(with_reducible repeat(first|refine aD ?_ _|refine Z ?_|refine aC ?_ _));refine aj (cs:= #[.int .i64 ((I bO bc).f0),.int .i64 0,.int .i64 0,.bool false]) ?_ 1 _ rfl;(with_reducible repeat(first|refine aD ?_ _|refine Z ?_|refine aC ?_ _));refine aj (cs:= #[.int .i64 0,.int .i64 0,.int .i64 0,.bool false]) ?_ 0 _ rfl;(with_reducible repeat(first|refine aD ?_ _|refine Z ?_|refine aC ?_ _));exact f4.out) hb);replace HB:=Ah (aK (bX HB iM jy oL) hb);replace cI:=Ah (Y.below (show Y w ((((w32.setCell ⟨cZ,0,none⟩ (.int .i64 ((I bO bc).f0))).setCell ⟨cZ,1,none⟩ (.int .i64 ((I bO bc).f1))).setCell ⟨cZ,2,none⟩ (.int .i64 ((I bO bc).f2))).setCell ⟨cZ,3,none⟩ (.bool ((I bO bc).f3))) fA l0 sj sk from Y.iQ cI hH i6 lP) hb);(try clear hb hk)))
    have aa:=Ah (Kd.al ah.out);have ab:=Ah (Z cp.out);have ac:=Ah (Z cu.out);have ae:=Ah (Z f4.out);have bK:=Ah (Y.drew cI.out);have bP:=Ah (fO HB.out);clear ah cp cu f4 cI HB;have ah:=aa;have cp:=ab;have cu:=ac;have f4:=ae;have cI:=bK;have HB:=bP;clear aa ab ac ae bK bP;refine iY (n:=8) (S:=fun w'=>w'.cell? ⟨jg,0,none⟩=some (.slice (some g8) bO.length jG)) (ds:=[]) #[false,false,false,false,false,false,false,false] (by kernel_rfl) rfl rfl ((bC cu.out 0).trans rfl) (fun hHeld=> ?_);refine ig dp.Fx dp.FG (fun X cV=> ?_)
    generalize GA.drew=uZ at ah cp cu f4 cI HB hHeld⊢
    refine aN 1 50 X.out ?_;refine aN 3 52 X.out ?_;refine sH (i:=0) (N:=some 49) (v:= ?_) (a':= ?_) #[true,true,false,true,false,false,false,false] rfl rfl (wD X.out cV.out (by kernel_rfl)) (fun _ _ _ h=>h) (Or.inl ⟨by rfl, ?_⟩) hHeld ?_ ?_;rotate_left
    ·
     intro w' s0
     go_simp
     with_reducible rfl
    rotate_left
    ·
     simp only[aab,Ok,bY,dl,cz,dS]
     rfl
    refine ga (i:=2) (N:=some 51) #[true,true,true,true,false,false,false,false] rfl rfl (fy X.out (by kernel_rfl)) (by decide) (fun K hK=> ?_);refine il aar (by kernel_rfl) rfl #[.pointer (some ⟨fA,0,none⟩),.int .i64 30] (by rfl) rfl rfl (by(try simp only[aag,aan,aas]);first|done|rfl|(simp only[gy,ao];rfl)) ?_
    with_reducible refine(ct.calls fA l0 sj sk 30 t555 WQ WR w _ ?a8 ?a9 Wi.out).mono ?_
    (case a8=>exact Y.iQ cI hH i6 lP);(case a9=>exact bX HB iM jy oL);rintro e w63 ⟨rfl,hi,hb,hk⟩;refine⟨_,rfl, ?_⟩;have aa:=Ah (Kd.aY (Kd.gO (Y.apart (show Y w _ fA l0 sj sk from Y.iQ cI hH i6 lP) (rr ah.out) (by decide)) hk (fun _ h=>h.2)) (fun _ h=>h.1));have ab:=Ah (aM.blk hk (g':=iA) (o:= .cells #[.slice none 0 0] 25 (0,0)) (bk cp) uk.out (by simp));have ac:=Ah (aM.blk hk (g':=jg) (o:= .cells #[.slice (some g8) bO.length jG] 25 (0,0)) (bk cu) ru.out (by simp));have ae:=Ah (aM.blk hk (g':=cZ) (o:= .cells #[.int .i64 ((I bO bc).f0),.int .i64 ((I bO bc).f1),.int .i64 ((I bO bc).f2),.bool ((I bO bc).f3)] 65 (0,0)) (bk f4) t7.out (by simp));have bK:=Ah (hb);have bP:=Ah (hi);clear ah cp cu f4 HB cI;have ah:=aa;have cp:=ab;have cu:=ac;have f4:=ae;have HB:=bK;have cI:=bP;clear aa ab ac ae bK bP;(try clear hb);(try clear hb2);(try clear hk);(try clear hi);refine hK.out _ _ ((bC cu.out 0).trans rfl) (fun hHeld=> ?_);clear hK K;refine hU (a':= ?_) ?_ ?_;rotate_left
    ·
     show aab _ (some 51) _=_
     simp only[aab,Ok,bY,dl,cz,dS]
     rfl
    refine ga (i:=4) (N:=some 53) #[true,true,true,true,true,false,false,false] rfl rfl (fy X.out (by kernel_rfl)) (by decide) (fun K hK=> ?_);refine il aar (by kernel_rfl) rfl #[.pointer (some ⟨fA,0,none⟩),.int .i64 5] (by rfl) rfl rfl (by(try simp only[aag,aan,aas]);first|done|rfl|(simp only[gy,ao];rfl)) ?_
    with_reducible refine(ct.calls fA l0 WQ WR 5 t558 t559 t560 w _ ?a8 ?a9 A48.out).mono ?_
    (case a8=>exact Y.iQ cI hH i6 lP);(case a9=>exact bX HB iM jy oL);rintro e bg ⟨rfl,hi,hb,hk⟩;refine⟨_,rfl, ?_⟩;have aa:=Ah (Kd.aY (Kd.gO (Y.apart (show Y w _ fA l0 WQ WR from Y.iQ cI hH i6 lP) (rr ah.out) (by decide)) hk (fun _ h=>h.2)) (fun _ h=>h.1));have ab:=Ah (aM.blk hk (g':=iA) (o:= .cells #[.slice none 0 0] 25 (0,0)) (bk cp) uk.out (by simp));have ac:=Ah (aM.blk hk (g':=jg) (o:= .cells #[.slice (some g8) bO.length jG] 25 (0,0)) (bk cu) ru.out (by simp));have ae:=Ah (aM.blk hk (g':=cZ) (o:= .cells #[.int .i64 ((I bO bc).f0),.int .i64 ((I bO bc).f1),.int .i64 ((I bO bc).f2),.bool ((I bO bc).f3)] 65 (0,0)) (bk f4) t7.out (by simp));have bK:=Ah (hb);have bP:=Ah (hi);clear ah cp cu f4 HB cI;have ah:=aa;have cp:=ab;have cu:=ac;have f4:=ae;have HB:=bK;have cI:=bP;clear aa ab ac ae bK bP;(try clear hb);(try clear hb2);(try clear hk);(try clear hi);refine hK.out _ _ ((bC cu.out 0).trans rfl) (fun hHeld=> ?_);clear hK K;refine hU (a':= ?_) ?_ ?_;rotate_left
    ·
     show aab _ (some 53) _=_
     simp only[aab,Ok,bY,dl,cz,dS]
     rfl
    refine ga (i:=5) (N:=none) #[true,true,true,true,true,true,false,false] rfl rfl (fy X.out (by kernel_rfl)) (by decide) (fun K hK=> ?_);have hs65:bg.cell? ⟨iA,0,none⟩=some (.slice none 0 0):=(bC cp.out 0).trans rfl;have hfs65:=ff cp.out 0;have hns65_1:=wB.out;have hns65_2:=nO.out;have hms65_1:=yO.out;have hms65_2:=pB.out;refine oG (w1:= ?_) (by rfl) rfl ?_ ?_;rotate_left
    ·
     go_simp
     rfl
    refine hK.out _ _ (((ex (p:=⟨iA,_,none⟩) wB.out _).trans (hHeld))) (fun hHeld=> ?_);clear hK K;refine aN 6 3 X.out ?_;refine aN 7 4 X.out ?_;refine i9 (iD X.out (by kernel_rfl)) ?_
    try go_wp2
    refine bodyPost_ret (rj rfl _ _ iA 25 #[.slice (some g8) bO.length jG] (0,0) _ rfl (by(with_reducible repeat(first|refine aD ?_ _|refine Z ?_|refine aC ?_ _));refine aj (cs:= #[.slice none 0 0]) ?_ 0 _ rfl;(with_reducible repeat(first|refine aD ?_ _|refine Z ?_|refine aC ?_ _));exact cp.out) ua rfl (by kernel_rfl)) rfl ?_;exact⟨_,er,by(with_reducible repeat(first|apply Kd.bG|apply Kd.bE|apply Kd.al));exact Kd.aY (Kd.aQ (p:=⟨iA,0,none⟩) (Kd.cl ah.out cp.out (by decide)) (fun _ hk=>hk.2) (.slice (some g8) bO.length jG)) (fun _ hk=>trivial),bX HB iM jy oL⟩
   subst i3;rw[if_pos rfl]at H;replace H:=LT.mp H;obtain⟨⟨WS,WT,WU⟩,pl,H⟩:=H
   try dsimp only at H
   have xq:=Ah pl;clear pl;replace H:=LT.mp H;obtain⟨⟨t552,t553,t554⟩,a58,H⟩:=H
   try dsimp only at H
   have Pk:=Ah a58;clear a58;simp only[j4,ub]at H;obtain⟨rfl,rfl,rfl⟩:=H;refine oG (w1:= ?_) (by rfl) rfl ?_ ?_;rotate_left
   ·
    go_simp
    rfl
   refine hK.out _ _ ⟨((ex (p:=⟨cZ,_,none⟩) lO.out _).trans (((ex (p:=⟨cZ,_,none⟩) lO.out _).trans (((ex (p:=⟨cZ,_,none⟩) lO.out _).trans (((ex (p:=⟨cZ,_,none⟩) lO.out _).trans (hHeld.1)))))))),((ex (p:=⟨cZ,_,none⟩) (by first|exact Kd.b9 (Kd.bF ah.out (fun _ hk=>hk))|(rw[cf];exact Kd.b9 (Kd.bF ah.out (fun _ hk=>hk)))|(show(aav _ _).block≠_;rw[cf];exact Kd.b9 (Kd.bF ah.out (fun _ hk=>hk)))|(dsimp only;exact Kd.b9 (Kd.bF ah.out (fun _ hk=>hk)))) _).trans (((ex (p:=⟨cZ,_,none⟩) (by first|exact Kd.b9 (Kd.bF ah.out (fun _ hk=>hk))|(rw[cf];exact Kd.b9 (Kd.bF ah.out (fun _ hk=>hk)))|(show(aav _ _).block≠_;rw[cf];exact Kd.b9 (Kd.bF ah.out (fun _ hk=>hk)))|(dsimp only;exact Kd.b9 (Kd.bF ah.out (fun _ hk=>hk)))) _).trans (((ex (p:=⟨cZ,_,none⟩) (by first|exact Kd.b9 (Kd.bF ah.out (fun _ hk=>hk))|(rw[cf];exact Kd.b9 (Kd.bF ah.out (fun _ hk=>hk)))|(show(aav _ _).block≠_;rw[cf];exact Kd.b9 (Kd.bF ah.out (fun _ hk=>hk)))|(dsimp only;exact Kd.b9 (Kd.bF ah.out (fun _ hk=>hk)))) _).trans (((ex (p:=⟨cZ,_,none⟩) (by first|exact Kd.b9 (Kd.bF ah.out (fun _ hk=>hk))|(rw[cf];exact Kd.b9 (Kd.bF ah.out (fun _ hk=>hk)))|(show(aav _ _).block≠_;rw[cf];exact Kd.b9 (Kd.bF ah.out (fun _ hk=>hk)))|(dsimp only;exact Kd.b9 (Kd.bF ah.out (fun _ hk=>hk)))) _).trans (hHeld.2.1)))))))),((ex (p:=⟨cZ,_,none⟩) (by first|exact Kd.b9 (Kd.bF ah.out (fun _ hk=>hk))|(rw[cf];exact Kd.b9 (Kd.bF ah.out (fun _ hk=>hk)))|(show(aav _ _).block≠_;rw[cf];exact Kd.b9 (Kd.bF ah.out (fun _ hk=>hk)))|(dsimp only;exact Kd.b9 (Kd.bF ah.out (fun _ hk=>hk)))) _).trans (((ex (p:=⟨cZ,_,none⟩) (by first|exact Kd.b9 (Kd.bF ah.out (fun _ hk=>hk))|(rw[cf];exact Kd.b9 (Kd.bF ah.out (fun _ hk=>hk)))|(show(aav _ _).block≠_;rw[cf];exact Kd.b9 (Kd.bF ah.out (fun _ hk=>hk)))|(dsimp only;exact Kd.b9 (Kd.bF ah.out (fun _ hk=>hk)))) _).trans (((ex (p:=⟨cZ,_,none⟩) (by first|exact Kd.b9 (Kd.bF ah.out (fun _ hk=>hk))|(rw[cf];exact Kd.b9 (Kd.bF ah.out (fun _ hk=>hk)))|(show(aav _ _).block≠_;rw[cf];exact Kd.b9 (Kd.bF ah.out (fun _ hk=>hk)))|(dsimp only;exact Kd.b9 (Kd.bF ah.out (fun _ hk=>hk)))) _).trans (((ex (p:=⟨cZ,_,none⟩) (by first|exact Kd.b9 (Kd.bF ah.out (fun _ hk=>hk))|(rw[cf];exact Kd.b9 (Kd.bF ah.out (fun _ hk=>hk)))|(show(aav _ _).block≠_;rw[cf];exact Kd.b9 (Kd.bF ah.out (fun _ hk=>hk)))|(dsimp only;exact Kd.b9 (Kd.bF ah.out (fun _ hk=>hk)))) _).trans (hHeld.2.2.1)))))))),((ex (p:=⟨cZ,_,none⟩) (by first|exact Kd.b9 (Kd.bF ah.out (fun _ hk=>hk))|(rw[cf];exact Kd.b9 (Kd.bF ah.out (fun _ hk=>hk)))|(show(aav _ _).block≠_;rw[cf];exact Kd.b9 (Kd.bF ah.out (fun _ hk=>hk)))|(dsimp only;exact Kd.b9 (Kd.bF ah.out (fun _ hk=>hk)))) _).trans (((ex (p:=⟨cZ,_,none⟩) (by first|exact Kd.b9 (Kd.bF ah.out (fun _ hk=>hk))|(rw[cf];exact Kd.b9 (Kd.bF ah.out (fun _ hk=>hk)))|(show(aav _ _).block≠_;rw[cf];exact Kd.b9 (Kd.bF ah.out (fun _ hk=>hk)))|(dsimp only;exact Kd.b9 (Kd.bF ah.out (fun _ hk=>hk)))) _).trans (((ex (p:=⟨cZ,_,none⟩) (by first|exact Kd.b9 (Kd.bF ah.out (fun _ hk=>hk))|(rw[cf];exact Kd.b9 (Kd.bF ah.out (fun _ hk=>hk)))|(show(aav _ _).block≠_;rw[cf];exact Kd.b9 (Kd.bF ah.out (fun _ hk=>hk)))|(dsimp only;exact Kd.b9 (Kd.bF ah.out (fun _ hk=>hk)))) _).trans (((ex (p:=⟨cZ,_,none⟩) (by first|exact Kd.b9 (Kd.bF ah.out (fun _ hk=>hk))|(rw[cf];exact Kd.b9 (Kd.bF ah.out (fun _ hk=>hk)))|(show(aav _ _).block≠_;rw[cf];exact Kd.b9 (Kd.bF ah.out (fun _ hk=>hk)))|(dsimp only;exact Kd.b9 (Kd.bF ah.out (fun _ hk=>hk)))) _).trans (hHeld.2.2.2.1)))))))),((ex (p:=⟨cZ,_,none⟩) (by first|exact Kd.b9 (Kd.bF ah.out (fun _ hk=>hk))|(rw[cf];exact Kd.b9 (Kd.bF ah.out (fun _ hk=>hk)))|(show(aav _ _).block≠_;rw[cf];exact Kd.b9 (Kd.bF ah.out (fun _ hk=>hk)))|(dsimp only;exact Kd.b9 (Kd.bF ah.out (fun _ hk=>hk)))) _).trans (((ex (p:=⟨cZ,_,none⟩) (by first|exact Kd.b9 (Kd.bF ah.out (fun _ hk=>hk))|(rw[cf];exact Kd.b9 (Kd.bF ah.out (fun _ hk=>hk)))|(show(aav _ _).block≠_;rw[cf];exact Kd.b9 (Kd.bF ah.out (fun _ hk=>hk)))|(dsimp only;exact Kd.b9 (Kd.bF ah.out (fun _ hk=>hk)))) _).trans (((ex (p:=⟨cZ,_,none⟩) (by first|exact Kd.b9 (Kd.bF ah.out (fun _ hk=>hk))|(rw[cf];exact Kd.b9 (Kd.bF ah.out (fun _ hk=>hk)))|(show(aav _ _).block≠_;rw[cf];exact Kd.b9 (Kd.bF ah.out (fun _ hk=>hk)))|(dsimp only;exact Kd.b9 (Kd.bF ah.out (fun _ hk=>hk)))) _).trans (((ex (p:=⟨cZ,_,none⟩) (by first|exact Kd.b9 (Kd.bF ah.out (fun _ hk=>hk))|(rw[cf];exact Kd.b9 (Kd.bF ah.out (fun _ hk=>hk)))|(show(aav _ _).block≠_;rw[cf];exact Kd.b9 (Kd.bF ah.out (fun _ hk=>hk)))|(dsimp only;exact Kd.b9 (Kd.bF ah.out (fun _ hk=>hk)))) _).trans (hHeld.2.2.2.2))))))))⟩ (fun hHeld=> ?_);clear hK K;refine i9 (iD X.out (by kernel_rfl)) ?_;have SG:=nO.out;have SH:=pB.out;have a1U:=ul.out;have a1V:=lO.out;have N8:=t7.out;have N9:=lP.out;obtain⟨nS,RG,RH,ZC⟩:=cA f4;obtain⟨nT,RI,RJ,ZD⟩:=cB f4
   try go_wp2_with (first|((with_reducible refine bJ (f:=34) rfl ?_);refine gL (some 32) rfl rfl Try.func34 (by kernel_rfl) rfl #[.agg #[.int .i64 ((I bO bc).f0),.int .i64 ((I bO bc).f1),.int .i64 ((I bO bc).f2),.bool ((I bO bc).f3)]] rfl ?_;(with_reducible refine(oy.calls ((I bO bc).f0) ((I bO bc).f1) ((I bO bc).f2) ((I bO bc).f3) true _ LF.out).mono ?_);rintro e rY ⟨rfl,hb⟩;refine⟨_,rfl, ?_⟩;replace ah:=Ah (Kd.eO (by(with_reducible repeat(first|apply Kd.bG|apply Kd.bE|apply Kd.al));exact(Kd.aY (Kd.aQ (p:=⟨cZ,3,none⟩) (Kd.aQ (p:=⟨cZ,2,none⟩) (Kd.aQ (p:=⟨cZ,1,none⟩) (Kd.aQ (p:=⟨cZ,0,none⟩) (Kd.aY ah.out (fun k_ hk=>(⟨hk,hk⟩:_∧k_≠cZ))) (fun _ hk=>hk.2) (.int .i64 ((I bO bc).f0))) (fun _ hk=>hk.2) (.int .i64 ((I bO bc).f1))) (fun _ hk=>hk.2) (.int .i64 ((I bO bc).f2))) (fun _ hk=>hk.2) (.bool ((I bO bc).f3))) (fun _ h_=>h_.1))) hb);replace cp:=Ah (cC (bf cp pB) hb);replace cu:=Ah (cC (bf cu lO) hb);replace f4:=Ah (cC (g:=cZ) (o:= .cells #[.int .i64 ((I bO bc).f0),.int .i64 ((I bO bc).f1),.int .i64 ((I bO bc).f2),.bool ((I bO bc).f3)] 65 (0,0)) (by(with_reducible repeat(first|refine aD ?_ _|refine Z ?_|refine aC ?_ _));refine aj (cs:= #[.int .i64 ((I bO bc).f0),.int .i64 ((I bO bc).f1),.int .i64 ((I bO bc).f2),.bool false]) ?_ 3 _ rfl;(with_reducible repeat(first|refine aD ?_ _|refine Z ?_|refine aC ?_ _));refine aj (cs:= #[.int .i64 ((I bO bc).f0),.int .i64 ((I bO bc).f1),.int .i64 0,.bool false]) ?_ 2 _ rfl;(with_reducible repeat(first|refine aD ?_ _|refine Z ?_|refine aC ?_ _));refine aj (cs:= #[.int .i64 ((I bO bc).f0),.int .i64 0,.int .i64 0,.bool false]) ?_ 1 _ rfl;(with_reducible repeat(first|refine aD ?_ _|refine Z ?_|refine aC ?_ _));refine aj (cs:= #[.int .i64 0,.int .i64 0,.int .i64 0,.bool false]) ?_ 0 _ rfl;(with_reducible repeat(first|refine aD ?_ _|refine Z ?_|refine aC ?_ _));exact f4.out) hb);replace HB:=Ah (aK (bX HB iM jy oL) hb);replace cI:=Ah (Y.below (show Y w ((((w32.setCell ⟨cZ,0,none⟩ (.int .i64 ((I bO bc).f0))).setCell ⟨cZ,1,none⟩ (.int .i64 ((I bO bc).f1))).setCell ⟨cZ,2,none⟩ (.int .i64 ((I bO bc).f2))).setCell ⟨cZ,3,none⟩ (.bool ((I bO bc).f3))) fA l0 sj sk from Y.iQ cI hH i6 lP) hb);(try clear hb hk);obtain⟨Z3,hcz42_1,hcz42_2,hcz42_3⟩:=cA f4;obtain⟨Z4,hfz42_1,hfz42_2,hfz42_3⟩:=cB f4)|((with_reducible refine bJ (f:=21) rfl ?_);refine gL (some 36) rfl rfl aar (by kernel_rfl) rfl #[.pointer (some ⟨fA,0,none⟩),.int .i64 ((I bO bc).f1)] rfl ?_;(with_reducible refine(ct.calls fA l0 sj sk ((I bO bc).f1) WS WT WU w _ ?a8 ?a9 xq.out).mono ?_);(case a8=>exact Y.iQ cI hH i6 lP);(case a9=>exact bX HB iM jy oL);rintro e w43 ⟨rfl,hi,hb,hk⟩;refine⟨_,rfl, ?_⟩;replace ah:=Ah (Kd.aY (Kd.gO (Y.apart (show Y w _ fA l0 sj sk from Y.iQ cI hH i6 lP) (rr ah.out) (by decide)) hk (fun _ h=>h.2)) (fun _ h=>h.1));replace cp:=Ah (aM.blk hk (g':=iA) (o:= .cells #[.slice none 0 0] 25 (0,0)) (bk cp) uk.out (by simp));replace cu:=Ah (aM.blk hk (g':=jg) (o:= .cells #[.slice (some g8) bO.length jG] 25 (0,0)) (bk cu) ru.out (by simp));replace f4:=Ah (aM.blk hk (g':=cZ) (o:= .cells #[.int .i64 ((I bO bc).f0),.int .i64 ((I bO bc).f1),.int .i64 ((I bO bc).f2),.bool ((I bO bc).f3)] 65 (0,0)) (bk f4) t7.out (by simp));replace HB:=Ah (hb);replace cI:=Ah (hi);(try clear hb hk hi)))
   have aa:=Ah (Kd.al ah.out);have ab:=Ah (Z cp.out);have ac:=Ah (Z cu.out);have ae:=Ah (Z f4.out);have bK:=Ah (Y.drew cI.out);have bP:=Ah (fO HB.out);clear ah cp cu f4 cI HB;have ah:=aa;have cp:=ab;have cu:=ac;have f4:=ae;have cI:=bK;have HB:=bP;clear aa ab ac ae bK bP;refine iY (n:=15) (S:=fun w'=>w'.cell? ⟨jg,0,none⟩=some (.slice (some g8) bO.length jG)∧w'.cell? ⟨cZ,0,none⟩=some (.int .i64 ((I bO bc).f0))∧w'.cell? ⟨cZ,1,none⟩=some (.int .i64 ((I bO bc).f1))∧w'.cell? ⟨cZ,2,none⟩=some (.int .i64 ((I bO bc).f2))∧w'.cell? ⟨cZ,3,none⟩=some (.bool ((I bO bc).f3))) (ds:=[]) #[false,false,false,false,false,false,false,false,false,false,false,false,false,false,false] (by kernel_rfl) rfl rfl ⟨(bC cu.out 0).trans rfl,(bC f4.out 0).trans rfl,(bC f4.out 1).trans rfl,(bC f4.out 2).trans rfl,(bC f4.out 3).trans rfl⟩ (fun hHeld=> ?_);refine ig dp.Cq dp.CD (fun X cV=> ?_)
   generalize w43.drew=PT at ah cp cu f4 cI HB hHeld⊢
   refine aN 1 38 X.out ?_;refine aN 3 40 X.out ?_;refine aN 5 42 X.out ?_;refine aN 6 43 X.out ?_;refine aN 8 45 X.out ?_;refine eF 0 37 X.out cV.out hHeld (hr:=by rintro w' ⟨s0,s1,s2,s3,s4⟩;go_simp;with_reducible rfl) (h:= ?_);refine eF 2 39 X.out cV.out hHeld (hr:=by rintro w' ⟨s0,s1,s2,s3,s4⟩;go_simp;with_reducible rfl) (h:= ?_);refine aN 4 41 X.out ?_;refine eF 7 44 X.out cV.out hHeld (hr:=by rintro w' ⟨s0,s1,s2,s3,s4⟩;go_simp;with_reducible rfl) (h:= ?_);refine aN 9 46 X.out ?_;refine ga (i:=10) (N:=some 47) #[true,true,true,true,true,true,true,true,true,true,true,false,false,false,false] rfl rfl (fy X.out (by kernel_rfl)) (by decide) (fun K hK=> ?_);refine il Try.func21 (by kernel_rfl) rfl #[.pointer (some ⟨fA,0,none⟩),.int .i64 (wrap64 (((I bO bc).f1)-WS))] (by rfl) rfl rfl (by(try simp only[List.map_toArray,List.map_cons,List.map_nil]);first|done|rfl|(simp only[List.length_drop,List.length_take];rfl)) ?_
   with_reducible refine(ct.calls fA l0 WT WU (LS (((I bO bc).f1)-WS)) t552 t553 t554 w _ ?a8 ?a9 Pk.out).mono ?_
   (case a8=>exact Y.iQ cI hH i6 lP);(case a9=>exact bX HB iM jy oL);rintro e PY ⟨rfl,hi,hb,hk⟩;refine⟨_,rfl, ?_⟩;have aa:=Ah (Kd.aY (Kd.gO (Y.apart (show Y w _ fA l0 WT WU from Y.iQ cI hH i6 lP) (rr ah.out) (by decide)) hk (fun _ h=>h.2)) (fun _ h=>h.1));have ab:=Ah (aM.blk hk (g':=iA) (o:= .cells #[.slice none 0 0] 25 (0,0)) (bk cp) uk.out (by simp));have ac:=Ah (aM.blk hk (g':=jg) (o:= .cells #[.slice (some g8) bO.length jG] 25 (0,0)) (bk cu) ru.out (by simp));have ae:=Ah (aM.blk hk (g':=cZ) (o:= .cells #[.int .i64 ((I bO bc).f0),.int .i64 ((I bO bc).f1),.int .i64 ((I bO bc).f2),.bool ((I bO bc).f3)] 65 (0,0)) (bk f4) t7.out (by simp));have bK:=Ah (hb);have bP:=Ah (hi);clear ah cp cu f4 HB cI;have ah:=aa;have cp:=ab;have cu:=ac;have f4:=ae;have HB:=bK;have cI:=bP;clear aa ab ac ae bK bP;(try clear hb);(try clear hb2);(try clear hk);(try clear hi);refine hK.out _ _ ⟨(bC cu.out 0).trans rfl,(bC f4.out 0).trans rfl,(bC f4.out 1).trans rfl,(bC f4.out 2).trans rfl,(bC f4.out 3).trans rfl⟩ (fun hHeld=> ?_);clear hK K;refine hU (a':= ?_) ?_ ?_;rotate_left
   ·
    show aab _ (some 47) _=_
    simp only[aab,Ok,bY,dl,cz,dS]
    rfl
   refine aN 11 48 X.out ?_;refine ga (i:=12) (N:=none) #[true,true,true,true,true,true,true,true,true,true,true,true,true,false,false] rfl rfl (fy X.out (by kernel_rfl)) (by decide) (fun K hK=> ?_);have hs46:PY.cell? ⟨iA,0,none⟩=some (.slice none 0 0):=(bC cp.out 0).trans rfl;have hfs46:=ff cp.out 0;have hns46_1:=wB.out;have hns46_2:=nO.out;have hms46_1:=yO.out;have hms46_2:=pB.out;refine oG (w1:= ?_) (by rfl) rfl ?_ ?_;rotate_left
   ·
    go_simp
    rfl
   refine hK.out _ _ ⟨((ex (p:=⟨iA,_,none⟩) wB.out _).trans (hHeld.1)),((ex (p:=⟨iA,_,none⟩) nO.out _).trans (hHeld.2.1)),((ex (p:=⟨iA,_,none⟩) nO.out _).trans (hHeld.2.2.1)),((ex (p:=⟨iA,_,none⟩) nO.out _).trans (hHeld.2.2.2.1)),((ex (p:=⟨iA,_,none⟩) nO.out _).trans (hHeld.2.2.2.2))⟩ (fun hHeld=> ?_);clear hK K;refine aN 13 3 X.out ?_;refine aN 14 4 X.out ?_;refine i9 (iD X.out (by kernel_rfl)) ?_
   try go_wp2
   refine bodyPost_ret (rj rfl _ _ iA 25 #[.slice (some g8) bO.length jG] (0,0) _ rfl (by(with_reducible repeat(first|refine aD ?_ _|refine Z ?_|refine aC ?_ _));refine aj (cs:= #[.slice none 0 0]) ?_ 0 _ rfl;(with_reducible repeat(first|refine aD ?_ _|refine Z ?_|refine aC ?_ _));exact cp.out) ua rfl (by kernel_rfl)) rfl ?_;exact⟨_,er,by(with_reducible repeat(first|apply Kd.bG|apply Kd.bE|apply Kd.al));exact Kd.aY (Kd.aQ (p:=⟨iA,0,none⟩) (Kd.cl ah.out cp.out (by decide)) (fun _ hk=>hk.2) (.slice (some g8) bO.length jG)) (fun _ hk=>trivial),bX HB iM jy oL⟩
def gz.l0:Nat→Int→Int→List (eW)→Int→Option ((List (a7))×Bool)
 |0,_,_,_,_=>none
 |k+1,x1,x2,x8,x9=>if x9<(LS (x1+x2))then(if 0≤x9 then(if x9<(x8.length:Int)then(if((am x8 x9).f0=true)then(gz.l0 k x1 x2 (x8.set (x9:Int).toNat (⟨(am x8 x9).f0,(am x8 x9).f1,false⟩:eW)) (LS (x9+1)))else(some (([]:List (a7)),false)))else(none))else(none))else((dP.f k x8).bind fun a3k=>(some (a3k.1,a3k.2)))
def gz.f(k:Nat)(J:List (a7))(a1:Int)(a2:Int):Option ((List (a7))×Bool):=(ku.f k J a1 a2).bind fun Ky=>(if Ky=true then((dJ.f k J).bind fun G1=>(gz.l0 k a1 a2 G1 a1))else(some (([]:List (a7)),false)))
theorem gz.dL:∀k,(∀y0 y1 y2 y3,aG (gz.l0 k y0 y1 y2 y3) (gz.l0 (k+1) y0 y1 y2 y3))
 |0=>fun _ _ _ _ r h=>by simp[gz.l0]at h
 |k+1=>by
  have bw:=gz.dL k
  ·
   intro y0 y1 y2 y3;unfold gz.l0
   repeat' with_reducible first|exact bw _ _ _ _|exact dJ.mono _ _|exact ku.mono _ _ _ _|exact dP.mono _ _|exact aG.refl _|exact aG.none _|refine aG.ite ?_ ?_|refine aG.bind ?_ (fun _=> ?_)
theorem gz.mono:∀a0 a1 a2 k,aG (gz.f k a0 a1 a2) (gz.f (k+1) a0 a1 a2):=by
 intro a0 a1 a2 k;have bw:=gz.dL k;unfold gz.f
 repeat' with_reducible first|exact bw _ _ _ _|exact dJ.mono _ _|exact ku.mono _ _ _ _|exact dP.mono _ _|exact aG.refl _|exact aG.none _|refine aG.ite ?_ ?_|refine aG.bind ?_ (fun _=> ?_)
set_option maxHeartbeats 8000000 in
set_option maxRecDepth 100000 in
theorem gz.calls(k:Nat)(bS:Option Addr)(bL:Nat)(J:List (a7))(a1:Int)(a2:Int)(r1:List (a7))(r2:Bool)(w:World)(fT:Kd.C b7 w bS J.length J)(fU:J.length≤bL)(h:gz.f k J a1 a2=some (r1,r2)):
 Calls aad 14 #[.agg #[.slice bS J.length bL],.int .i64 a1,.int .i64 a2] w fun e w'=>∃da:Value,e= .returned (.tuple #[.agg #[da],.bool r2])∧Kd.R b7 65 w' w.heap.size (fun _=>True) da r1∧Below w.heap.size w w':=by
 have kJ:=ua;have cY:=Ah fT;have dw:=Ah fU;clear fT fU;have HB:=Ah (aaa w.heap.size w);have H:((ku.f k J a1 a2).bind fun Ky=>(if Ky=true then((dJ.f k J).bind fun G1=>(gz.l0 k a1 a2 G1 a1))else(some (([]:List (a7)),false))))=some (r1,r2):=h;clear h;replace H:=LT.mp H;obtain⟨Ky,iv,H⟩:=H
 try dsimp only at H
 have A4:=Ah iv;clear iv
 by_cases c5:Ky=true
 rotate_left
 ·
  replace c5:=dn.mpr c5;subst c5;rw[if_neg dV]at H;simp only[j4,ub]at H;obtain⟨rfl,rfl⟩:=H
  go_enter Try.func14,Try.ntmps14
  go_wp2_with (first|((with_reducible refine ax (N:=3) rfl ?_);refine bA 3 25 #[.slice bS J.length bL] ?_;intro a3l hg w32 ip hb;have GW567:=gw hg (bs HB);have mV:=gw hg (bs HB);replace HB:=Ah (aK (bs HB) hb);clear hb hg)|((with_reducible refine ax (N:=6) rfl ?_);refine bA 6 25 #[.slice none 0 0] ?_;intro FL hg q9 jh hb;have GW568:=gw hg (aH HB mV);have sS:=gw hg (aH HB mV);replace HB:=Ah (aK (aH HB mV) hb);have Gu:=nn ip hg;have Gv:=nm ip hg;replace ip:=nb ip hb;clear hb hg;have Sr:=Gu.out;have Ss:=Gv.out;have R2:=ap ip;have R3:=an ip)|((with_reducible refine bJ (f:=22) rfl ?_);refine gL (some 13) rfl rfl Try.func22 (by kernel_rfl) rfl #[.agg #[.slice bS J.length bL],.int .i64 a1,.int .i64 a2] rfl ?_;(with_reducible refine(ku.calls k _ _ J a1 a2 false _ ?a8 ?a9 A4.out).mono ?_);(case a8=>exact cb cY HB);(case a9=>exact dw.out);rintro e Wr ⟨rfl,hb⟩;refine⟨_,rfl, ?_⟩;replace ip:=nb ip hb;replace jh:=nb jh hb;replace HB:=Ah (aK (aW HB mV sS) hb);(try clear hb);have EM:=ap jh;have EN:=an jh))
  refine bodyPost_ret (mm rfl _ _ FL 25 #[.slice none 0 0] (0,0) _ rfl (by(with_reducible repeat(first|refine aD ?_ _|refine Z ?_|refine aC ?_ _));refine aj (cs:= #[.slice none 0 0]) ?_ 0 _ rfl;(with_reducible repeat(first|refine aD ?_ _|refine Z ?_|refine aC ?_ _));exact jh.out) ua rfl (by kernel_rfl)) rfl ?_;exact⟨_,er,by first|exact Kd.fk _ _ _ _ _|exact Kd.iI _ _ _ _ _|exact Kd.iJ _ _ _ _ _|exact Kd.iG _ _ _ _ _|exact Kd.iH _ _ _ _ _,aW HB mV sS⟩
 subst c5;rw[if_pos rfl]at H;replace H:=LT.mp H;obtain⟨G1,iw,H⟩:=H
 try dsimp only at H
 have A6:=Ah iw;clear iw;have H':=Ah H;clear H
 go_enter Try.func14,Try.ntmps14
 go_wp2_with (first|((with_reducible refine ax (N:=3) rfl ?_);refine bA 3 25 #[.slice bS J.length bL] ?_;intro a3l hg w7 ip hb;have GW567:=gw hg (bs HB);have mV:=gw hg (bs HB);replace HB:=Ah (aK (bs HB) hb);clear hb hg)|((with_reducible refine ax (N:=6) rfl ?_);refine bA 6 25 #[.slice none 0 0] ?_;intro FL hg w8 jh hb;have GW568:=gw hg (aH HB mV);have sS:=gw hg (aH HB mV);replace HB:=Ah (aK (aH HB mV) hb);have Gu:=nn ip hg;have Gv:=nm ip hg;replace ip:=nb ip hb;clear hb hg;have a5Y:=Gu.out;have a5Z:=Gv.out;have pH:=ap ip;have pI:=an ip)|((with_reducible refine bJ (f:=22) rfl ?_);refine gL (some 13) rfl rfl Try.func22 (by kernel_rfl) rfl #[.agg #[.slice bS J.length bL],.int .i64 a1,.int .i64 a2] rfl ?_;(with_reducible refine(ku.calls k _ _ J a1 a2 true _ ?a8 ?a9 A4.out).mono ?_);(case a8=>exact cb cY HB);(case a9=>exact dw.out);rintro e rg ⟨rfl,hb⟩;refine⟨_,rfl, ?_⟩;replace ip:=nb ip hb;replace jh:=nb jh hb;replace HB:=Ah (aK (aW HB mV sS) hb);(try clear hb);have yn:=ap ip;have yo:=an ip)|((with_reducible refine bJ (f:=23) rfl ?_);refine gL (some 17) rfl rfl abG (by kernel_rfl) rfl #[.agg #[.slice bS J.length bL]] rfl ?_;(with_reducible refine(dJ.calls k _ _ J G1 _ ?a8 ?a9 A6.out).mono ?_);(case a8=>exact cb cY HB);(case a9=>exact dw.out);rintro e nJ ⟨v571,rfl,ho0,hb⟩;refine⟨_,rfl, ?_⟩;have HO572:=Ah (Kd.dD ho0 (be (aW HB mV sS)));replace ip:=nb ip hb;replace jh:=nb jh hb;replace HB:=Ah (aK (aW HB mV sS) hb);(try clear hb ho0)))
 go_loopg [9] k (fun kq v9 w'=>∃ (fK:List (eW)) (aJ:Int),v9= .int .i64 aJ∧U (gz.l0 kq a1 a2 fK aJ=some (r1,r2))∧U (kq≤k)∧U (Kd.R gx 71 w' w.heap.size (fun _=>True) v571 fK)∧U (w'.heap[a3l]?=some (.cells #[(.slice bS J.length bL)] 25 (0,0)))∧U (w'.heap[FL]?=some (.cells #[(.slice none 0 0)] 25 (0,0)))∧U (Below w.heap.size w w'))
 case atStart=>exact⟨(G1),(a1),e3,H',⟨bx _⟩,⟨rr HO572.out⟩,⟨bk ip⟩,⟨bk jh⟩,⟨aW HB mV sS⟩⟩
 case round=>
  clear H'
  try clear c1
  try clear c2
  try clear p2
  try clear c5
  try clear c9
  try clear pH
  try clear yn
  try clear pI
  try clear yo
  obtain⟨fK,aJ,rfl,HA,bU,cq,ip,jh,HB⟩:=hrel
  cases gk with
  |zero=>exact absurd HA.out (by simp[gz.l0])
  |succ k1=>
   have H:=HA.out;clear HA;simp only[gz.l0]at H
   by_cases c14:aJ<(LS (a1+a2))
   rotate_left
   ·
    rw[if_neg c14]at H;have pW:decide (aJ<(LS (a1+a2)))=false:=decide_eq_false c14;clear c14;replace H:=LT.mp H;obtain⟨⟨WV,t578⟩,a59,H⟩:=H
    try dsimp only at H
    have A26:=Ah a59;clear a59;simp only[j4,ub]at H;obtain⟨rfl,rfl⟩:=H;obtain⟨DQ,DR,WE⟩:=Kd.bq cq.out;subst WE
    go_wp2_with (first|((with_reducible refine bJ (f:=25) rfl ?_);refine gL (some 38) rfl rfl Try.func25 (by kernel_rfl) rfl #[.slice DQ fK.length DR] rfl ?_;(with_reducible refine(dP.calls k1 _ _ fK WV t578 _ ?a8 ?a9 A26.out).mono ?_);(case a8=>exact fB cq);(case a9=>exact(Kd.af cq.out).2.1);rintro e GB ⟨v576,rfl,ho0,hb⟩;refine⟨_,rfl, ?_⟩;replace cq:=nr cq hb;have a3m:=Ah (Kd.dD ho0 (be (aW HB mV sS)));replace ip:=nb ip hb;replace jh:=nb jh hb;replace HB:=Ah (aK (aW HB mV sS) hb);(try clear hb ho0);obtain⟨rT,mH,Kp⟩:=Kd.bq a3m.out;subst Kp;have a1y:=Gv.out;have a1z:=Gu.out;have H9:=ap jh;have HC:=an jh))
    refine bodyPost_ret (mm rfl _ _ FL 25 #[.slice rT WV.length mH] (0,0) _ rfl (by(with_reducible repeat(first|refine aD ?_ _|refine Z ?_|refine aC ?_ _));refine aj (cs:= #[.slice none 0 0]) ?_ 0 _ rfl;(with_reducible repeat(first|refine aD ?_ _|refine Z ?_|refine aC ?_ _));exact jh.out) ua rfl (by kernel_rfl)) rfl ?_;exact⟨_,er,by(with_reducible repeat(first|apply Kd.bG|apply Kd.bE|apply Kd.al));exact Kd.aY (Kd.aQ (p:=⟨FL,0,none⟩) (Kd.cl a3m.out jh.out (by decide)) (fun _ hk=>hk.2) (.slice rT WV.length mH)) (fun _ hk=>trivial),aW HB mV sS⟩
   rw[if_pos c14]at H;have pW:decide (aJ<(LS (a1+a2)))=true:=decide_eq_true c14;clear c14
   by_cases c15:0≤aJ
   rotate_left
   ·
    rw[if_neg c15]at H;exact absurd H (by simp)
   rw[if_pos c15]at H;have Ic:decide (0≤aJ)=true:=decide_eq_true c15;clear c15
   by_cases c16:aJ<(fK.length:Int)
   rotate_left
   ·
    rw[if_neg c16]at H;exact absurd H (by simp)
   rw[if_pos c16]at H;have IT:decide (aJ<(fK.length:Int))=true:=decide_eq_true c16;clear c16;obtain⟨WW,U6⟩:∃b_:Bool,b_=((am fK aJ).f0):=⟨_,rfl⟩
   replace H:(if(WW=true)then(gz.l0 k1 a1 a2 (fK.set (aJ:Int).toNat (⟨WW,(am fK aJ).f1,false⟩:eW)) (wrap64 (aJ+1)))else(some (([]:List (a7)),false)))=some (r1,r2):=by rw[←U6]at H;exact H
   have JN:=Ah U6;clear U6
   by_cases c18:(WW=true)
   rotate_left
   ·
    replace c18:=dn.mpr c18;subst c18;rw[if_neg dV]at H;simp only[j4,ub]at H;obtain⟨rfl,rfl⟩:=H;obtain⟨Oe,mb,Fe⟩:=Kd.bq cq.out;subst Fe;have De:0≤(aJ:Int):=od;have Df:aJ<(fK.length:Int):=od;obtain⟨ad573,WX,Mi,Zy,Mj⟩:=oE (Kd.af cq.out).2.2 aJ De Df;(try rw[←JN.out]at Mi);(try rw[←JN.out]at Mj)
    cases WX
    replace De:=eq_true De;replace Df:=eq_true Df;have NL:=Gv.out;have NM:=Gu.out;have R4:=ap jh;have R5:=an jh
    go_wp2
    refine bodyPost_ret (mm rfl _ _ FL 25 #[.slice none 0 0] (0,0) _ rfl (by(with_reducible repeat(first|refine aD ?_ _|refine Z ?_|refine aC ?_ _));refine aj (cs:= #[.slice none 0 0]) ?_ 0 _ rfl;(with_reducible repeat(first|refine aD ?_ _|refine Z ?_|refine aC ?_ _));exact jh.out) ua rfl (by kernel_rfl)) rfl ?_;exact⟨_,er,by first|exact Kd.fk _ _ _ _ _|exact Kd.iI _ _ _ _ _|exact Kd.iJ _ _ _ _ _|exact Kd.iG _ _ _ _ _|exact Kd.iH _ _ _ _ _,aW HB mV sS⟩
   subst c18;rw[if_pos rfl]at H;obtain⟨WY,JO⟩:∃y_:List (eW),y_=(fK.set (aJ:Int).toNat (⟨true,(am fK aJ).f1,false⟩:eW)):=⟨_,rfl⟩
   replace H:(gz.l0 k1 a1 a2 WY (LS (aJ+1)))=some (r1,r2):=by first|(rw[JO];with_reducible exact H)|(have aX:=(Mq _ _).symm.trans H;rw[JO];with_reducible exact aX)|(have aX:=(Mq _ _).symm.trans H;with_reducible exact aX)|with_reducible exact H|(rw[JO];exact H)|exact H
   have Ny574:=Ah JO;clear JO;have H':=Ah H;clear H;obtain⟨dT,dM,xM⟩:=Kd.bq cq.out;subst xM;have De:0≤(aJ:Int):=od;have Df:aJ<(fK.length:Int):=od;obtain⟨ad573,WX,Mi,Zy,Mj⟩:=oE (Kd.af cq.out).2.2 aJ De Df;(try rw[←JN.out]at Mi);(try rw[←JN.out]at Mj)
   cases WX
   replace De:=eq_true De;replace Df:=eq_true Df;have Wz:0≤(aJ:Int):=od;have X0:(aJ:Int)<((fK.length:Int):Int):=od;obtain⟨vk,co19,a6a,a6b,gl19,cl19,a6c⟩:=Kd.nW cq.out (by omega);(first|cases a6a|(injection a6a with dB iV iW;(first|subst dB|(injection dB with dB;subst dB));subst iW;clear iV));have GB19:=Ah a6b;have GG19:=Ah a6c;clear a6b gl19 a6c;(first|simp only[db]at Mi|skip);(first|simp only[db]at Zy|skip);(first|simp only[db]at Mj|skip);obtain⟨ce19,hcl19,a6d,O7,O8⟩:=Kd.hJ cq.out dO (aJ:Int) Wz X0;obtain rfl:=Lm a6d;have hx19_0:wr.cell? ⟨vk,(aJ:Int).toNat*3,none⟩=some (.bool ((am fK aJ).f0)):=O7 0 _ rfl;have hx19_1:wr.cell? ⟨vk,(aJ:Int).toNat*3+1,none⟩=some (.int .i64 ((am fK aJ).f1)):=O7 1 _ rfl;have hx19_2:wr.cell? ⟨vk,(aJ:Int).toNat*3+2,none⟩=some (.bool ((am fK aJ).f2)):=O7 2 _ rfl;have hf19_0:wr.frozen? ⟨vk,(aJ:Int).toNat*3,none⟩=false:=O8 0;have hf19_1:wr.frozen? ⟨vk,(aJ:Int).toNat*3+1,none⟩=false:=O8 1;have hf19_2:wr.frozen? ⟨vk,(aJ:Int).toNat*3+2,none⟩=false:=O8 2;clear hcl19 O7 O8 a6d;replace Wz:=eq_true Wz;replace X0:=eq_true X0;have a6e:=Ah (show Kd.R gx 71 wr w.heap.size (fun _=>True) (.slice (some ⟨vk,0,none⟩) fK.length dM) fK from(rr cq.out));obtain⟨ce21,IM,K1,F4,NP⟩:=Kd.hJ a6e.out dO (aJ:Int) (od) (by have h_:(aJ:Int)<((fK.length:Int):Int):=od;first|exact h_|(have e_:=(Kd.af cq.out).1;omega)|simpa using h_);obtain rfl:=Lm K1;have zm:=Kd.lT a6e.out (aJ:Int) (od) (by have h_:(aJ:Int)<((fK.length:Int):Int):=od;first|exact h_|(have e_:=(Kd.af cq.out).1;omega)|simpa using h_) (seg:=[.bool false]) (j:=2) IM F4 (show 3≤3 from by decide) (x':=(⟨(am fK aJ).f0,(am fK aJ).f1,false⟩:eW)) (H8 _ _ _ (⟨(am fK aJ).f0,(am fK aJ).f1,false⟩:eW)) (fun _ hk=>hk);rw[←JN.out]at zm;have hx21_2:=F4 2 _ rfl;(try simp only[show(gx).sz=3 from rfl,aao,aal]at hx21_2);have hf21_2:=NP 2;(try simp only[show(gx).sz=3 from rfl,aao,aal]at hf21_2);clear IM F4 NP K1
   go_wp2_with (first|((with_reducible refine rl (t:=4) (p:=36) rfl ?_);refine rk (t:=4) (p:=36) (v:= ?vo_w22) (w1:=(wr.setCell ⟨vk,(aJ:Int).toNat*3+2,none⟩ (.bool false))) ?hg ?ho ?hn ?hr ?_;(case ho=>rfl);(case hg=>rfl);(case hn=>rfl);(case hr=>first|(go_simp;done)|(go_simp;rfl));intro kt hw;have hg:wr.grownBy kt (some vk):=(by rw[hw];exact zm.2);have iR:Kd.R gx 71 kt w.heap.size (fun _=>True) (.slice (some ⟨vk,0,none⟩) fK.length dM) WY:=(by rw[hw,Ny574.out];exact zm.1);clear zm;replace ip:=Ah (cX (bk ip) hg (Kd.eD cq.out ip.out (by decide)));replace jh:=Ah (cX (bk jh) hg (Kd.eD cq.out jh.out (by decide)));replace cq:=Ah (iR);replace HB:=Ah ((by rw[hw];exact cF (HB.out) GB19.out:Below w.heap.size w kt));clear hg hw iR))
   go_roundg k1
   case measure=>have:=bU.out;omega
   case rel=>exact⟨(WY),(LS (aJ+1)),e3,H',⟨by have:=bU.out;omega⟩,⟨rr cq.out⟩,⟨bk ip⟩,⟨bk jh⟩,⟨aW HB mV sS⟩⟩
def sn.f(k:Nat)(l0:List Int):Option ((List (a7))×Int):=(bV.f k l0 0 0).bind fun CY=>((ow.f l0 CY.2.1 CY.2.2 (([(-1),0,5,12,20,200,201]:List Int))).bind fun JP=>(some (CY.1,JP.1)))
theorem sn.mono:∀a0 k,aG (sn.f k a0) (sn.f (k+1) a0):=by
 intro a0 k;unfold sn.f
 repeat' with_reducible first|exact bV.mono _ _ _ _|exact aG.refl _|exact aG.none _|refine aG.ite ?_ ?_|refine aG.bind ?_ (fun _=> ?_)
set_option maxHeartbeats 8000000 in
set_option maxRecDepth 100000 in
theorem sn.calls(k:Nat)(A0:Option Addr)(c0:Nat)(l0:List Int)(r1:List (a7))(r2:Int)(w:World)(hr0:Kd.C (Kd.int .u8) w A0 l0.length l0)(hc0:l0.length≤c0)(h:sn.f k l0=some (r1,r2)):
 Calls aad 37 #[.slice A0 l0.length c0] w fun e w'=>∃da:Value,e= .returned (.tuple #[.agg #[da],.int .i64 r2])∧Kd.R b7 65 w' w.heap.size (fun _=>True) da r1∧Below w.heap.size w w':=by
 have kJ:=ua;have a5t:=Try.underlying52;have gV:=Ah hr0;have lG:=Ah hc0;clear hr0 hc0;have HB:=Ah (aaa w.heap.size w);have H:((bV.f k l0 0 0).bind fun CY=>((ow.f l0 CY.2.1 CY.2.2 (([(-1),0,5,12,20,200,201]:List Int))).bind fun JP=>(some (CY.1,JP.1))))=some (r1,r2):=h;clear h;replace H:=LT.mp H;obtain⟨⟨PE,Kz,L0⟩,fo,H⟩:=H
 try dsimp only at H
 have A2:=Ah fo;clear fo;obtain⟨WZ,JQ⟩:∃y_:List Int,y_=(([(-1),0,5,12,20,200,201]:List Int)):=⟨_,rfl⟩
 replace H:((ow.f l0 Kz L0 WZ).bind fun JP=>(some (PE,JP.1)))=some (r1,r2):=by first|(rw[JQ];with_reducible exact H)|(have aX:=(Mq _ _).symm.trans H;rw[JQ];with_reducible exact aX)|(have aX:=(Mq _ _).symm.trans H;with_reducible exact aX)|with_reducible exact H|(rw[JQ];exact H)|exact H
 have a3n:=Ah JQ;clear JQ;replace H:=LT.mp H;obtain⟨⟨t589,t590,t591⟩,nK,H⟩:=H
 try dsimp only at H
 have A3:=Ah nK;clear nK;simp only[j4,ub]at H;obtain⟨rfl,rfl⟩:=H
 go_enter Try.func37,Try.ntmps37
 go_wp2_with (first|((with_reducible refine ax (N:=2) rfl ?_);refine bA 2 25 #[.slice none 0 0] ?_;intro O9 hg w4 pj hb;have GW579:=gw hg (bs HB);have xH:=gw hg (bs HB);replace HB:=Ah (aK (bs HB) hb);clear hb hg)|((with_reducible refine ax (N:=7) rfl ?_);refine bA 7 52 #[.slice A0 l0.length c0,.int .i64 0,.int .u64 0] ?_;intro CZ hg w5 BK580 hb;have GW580:=gw hg (aH HB xH);have GE580:=gw hg (aH HB xH);replace HB:=Ah (aK (aH HB xH) hb);have QM:=nn pj hg;have EB:=nm pj hg;replace pj:=nb pj hb;clear hb hg;have xI:=Ah (show Y w w5 CZ l0 0 0 from⟨_,_,(bk BK580),GE580.out,gV.out⟩))|((with_reducible refine bJ (f:=20) rfl ?_);refine gL (some 9) rfl rfl Try.func20 (by kernel_rfl) rfl #[.pointer (some ⟨CZ,0,none⟩)] rfl ?_;(with_reducible refine(bV.calls k CZ l0 0 0 PE Kz L0 w _ ?a8 ?a9 A2.out).mono ?_);(case a8=>exact Y.iC xI EB);(case a9=>exact aH HB xH);rintro e w6 ⟨v582,rfl,ho0,hi,hb,hk⟩;refine⟨_,rfl, ?_⟩;replace pj:=Ah (aM.blk hk (g':=O9) (o:= .cells #[.slice none 0 0] 25 (0,0)) (bk pj) QM.out (by simp));have FN:=Ah (Kd.dD ho0 (be (aH HB xH)));replace HB:=Ah (hb);replace xI:=Ah (hi);(try clear hb hk hi ho0))|((with_reducible refine ax (N:=11) rfl ?_);refine Kd.wm (Kd.int .i64) _ 3 ?hg (N:=11) ?hd (xs:=([(-1),0,5,12,20,200,201]:List Int)) (inner:=[.int .i64 (-1),.int .i64 0,.int .i64 5,.int .i64 12,.int .i64 20,.int .i64 200,.int .i64 201]) (ok:=fun _=>True) (okp:=fun _=>True) ?hr ?hp (fun _ hk=>hk) trivial (aaa _ _) (bx _) (by simp) ?_;(case hd=>rfl);(case hg=>rfl);(case hr=>first|(go_simp;done)|(go_simp;rfl));(case hp=>exact(cj.one (show Kd.M (Kd.int .i64) _ _ _ (-1) [.int .i64 (-1)]from rfl) (cj.one (show Kd.M (Kd.int .i64) _ _ _ 0 [.int .i64 0]from rfl) (cj.one (show Kd.M (Kd.int .i64) _ _ _ 5 [.int .i64 5]from rfl) (cj.one (show Kd.M (Kd.int .i64) _ _ _ 12 [.int .i64 12]from rfl) (cj.one (show Kd.M (Kd.int .i64) _ _ _ 20 [.int .i64 20]from rfl) (cj.one (show Kd.M (Kd.int .i64) _ _ _ 200 [.int .i64 200]from rfl) (cj.one (show Kd.M (Kd.int .i64) _ _ _ 201 [.int .i64 201]from rfl) (cj.none _ _)))))))));intro v587 w7 LR hb lJ l8;clear lJ l8;(first|rw[←a3n.out]at LR|(simp only[aa3]at LR;rw[←a3n.out]at LR));replace FN:=nr FN hb;have FP:=Ah (Kd.dD LR (be (aH HB xH)));replace pj:=nb pj hb;replace HB:=Ah (aK (aH HB xH) hb);replace xI:=Ah (Y.below (Y.iC xI EB) hb);clear hb LR;obtain⟨Ao9,co9,eo9⟩:=Kd.bq FP.out;subst eo9)|((with_reducible refine bJ (f:=46) rfl ?_);refine gL (some 12) rfl rfl Try.func46 (by kernel_rfl) rfl #[.pointer (some ⟨CZ,0,none⟩),.slice Ao9 WZ.length co9] rfl ?_;(with_reducible refine(ow.calls CZ l0 Kz L0 _ _ WZ t589 t590 t591 w _ ?a8 ?a9 ?dm ?qu ?Sw A3.out).mono ?_);(case a8=>exact Y.iC xI EB);(case a9=>exact aH HB xH);(case dm=>exact fB FP);(case qu=>exact(Kd.af FP.out).2.1);(case Sw=>exact XZ (Y.own_ne xI.out FP.out (by decide)));rintro e AQ ⟨rfl,hi,hb,hk⟩;refine⟨_,rfl, ?_⟩;replace pj:=Ah (aM.blk hk (g':=O9) (o:= .cells #[.slice none 0 0] 25 (0,0)) (bk pj) QM.out (by simp));replace FN:=Ah (Kd.aY (Kd.gO (Y.apart (show Y w _ CZ l0 Kz L0 from Y.iC xI EB) (rr FN.out) (by decide)) hk (fun _ h=>h.2)) (fun _ h=>h.1));replace FP:=Ah (Kd.aY (Kd.gO (Y.apart (show Y w _ CZ l0 Kz L0 from Y.iC xI EB) (rr FP.out) (by decide)) hk (fun _ h=>h.2)) (fun _ h=>h.1));replace HB:=Ah (hb);replace xI:=Ah (hi);(try clear hb hk hi);obtain⟨PC,PD,WK⟩:=Kd.bq FN.out;subst WK;have T3:=QM.out;have T5:=EB.out;have yp:=ap pj;have yq:=an pj))
 refine bodyPost_ret (mm rfl _ _ O9 25 #[.slice PC PE.length PD] (0,0) _ rfl (by(with_reducible repeat(first|refine aD ?_ _|refine Z ?_|refine aC ?_ _));refine aj (cs:= #[.slice none 0 0]) ?_ 0 _ rfl;(with_reducible repeat(first|refine aD ?_ _|refine Z ?_|refine aC ?_ _));exact pj.out) ua rfl (by kernel_rfl)) rfl ?_;exact⟨_,er,by(with_reducible repeat(first|apply Kd.bG|apply Kd.bE|apply Kd.al));exact Kd.aY (Kd.aQ (p:=⟨O9,0,none⟩) (Kd.cl FN.out pj.out (by decide)) (fun _ hk=>hk.2) (.slice PC PE.length PD)) (fun _ hk=>trivial),aH HB xH⟩
def qD.f(k:Nat)(l0:List Int):Option ((List (a7))×Int):=(sn.f k l0).bind fun JR=>(some (JR.1,JR.2))
theorem qD.mono:∀a0 k,aG (qD.f k a0) (qD.f (k+1) a0):=by
 intro a0 k;unfold qD.f
 repeat' with_reducible first|exact sn.mono _ _|exact aG.refl _|exact aG.none _|refine aG.ite ?_ ?_|refine aG.bind ?_ (fun _=> ?_)
set_option maxHeartbeats 8000000 in
set_option maxRecDepth 100000 in
theorem qD.calls(k:Nat)(A0:Option Addr)(c0:Nat)(l0:List Int)(r1:List (a7))(r2:Int)(w:World)(hr0:Kd.C (Kd.int .u8) w A0 l0.length l0)(hc0:l0.length≤c0)(h:qD.f k l0=some (r1,r2)):
 Calls aad 16 #[.slice A0 l0.length c0] w fun e w'=>∃da:Value,e= .returned (.tuple #[.agg #[da],.int .i64 r2])∧Kd.R b7 65 w' w.heap.size (fun _=>True) da r1∧Below w.heap.size w w':=by
 have kJ:=ua;have gV:=Ah hr0;have lG:=Ah hc0;clear hr0 hc0;have HB:=Ah (aaa w.heap.size w);have H:((sn.f k l0).bind fun JR=>(some (JR.1,JR.2)))=some (r1,r2):=h;clear h;replace H:=LT.mp H;obtain⟨⟨Wa,t596⟩,fo,H⟩:=H
 try dsimp only at H
 have A2:=Ah fo;clear fo;simp only[j4,ub]at H;obtain⟨rfl,rfl⟩:=H
 go_enter Try.func16,Try.ntmps16
 go_wp2_with (first|((with_reducible refine ax (N:=2) rfl ?_);refine bA 2 25 #[.slice none 0 0] ?_;intro a3o hg w3 FQ hb;have GW592:=gw hg (bs HB);have U7:=gw hg (bs HB);replace HB:=Ah (aK (bs HB) hb);clear hb hg)|((with_reducible refine bJ (f:=37) rfl ?_);refine gL (some 5) rfl rfl Try.func37 (by kernel_rfl) rfl #[.slice A0 l0.length c0] rfl ?_;(with_reducible refine(sn.calls k _ _ l0 Wa t596 _ ?a8 ?a9 A2.out).mono ?_);(case a8=>exact cb gV HB);(case a9=>exact lG.out);rintro e w4 ⟨v594,rfl,ho0,hb⟩;refine⟨_,rfl, ?_⟩;have a3p:=Ah (Kd.dD ho0 (be (aH HB U7)));replace FQ:=nb FQ hb;replace HB:=Ah (aK (aH HB U7) hb);(try clear hb ho0);obtain⟨Ao5,co5,eo5⟩:=Kd.bq a3p.out;subst eo5;have C5:=ap FQ;have En:=an FQ))
 refine bodyPost_ret (mm rfl _ _ a3o 25 #[.slice Ao5 Wa.length co5] (0,0) _ rfl (by(with_reducible repeat(first|refine aD ?_ _|refine Z ?_|refine aC ?_ _));refine aj (cs:= #[.slice none 0 0]) ?_ 0 _ rfl;(with_reducible repeat(first|refine aD ?_ _|refine Z ?_|refine aC ?_ _));exact FQ.out) ua rfl (by kernel_rfl)) rfl ?_;exact⟨_,er,by(with_reducible repeat(first|apply Kd.bG|apply Kd.bE|apply Kd.al));exact Kd.aY (Kd.aQ (p:=⟨a3o,0,none⟩) (Kd.cl a3p.out FQ.out (by decide)) (fun _ hk=>hk.2) (.slice Ao5 Wa.length co5)) (fun _ hk=>trivial),aH HB U7⟩
def ml.f(a0:Int)(bH:List (eW)):Option (Bool):=if 0≤a0 then(if a0<(bH.length:Int)then(some (!((am bH a0).f0)))else(none))else(none)
set_option maxHeartbeats 8000000 in
set_option maxRecDepth 100000 in
theorem ml.calls(a0:Int)(dy:Nat)(dQ:Option Addr)(dR:Nat)(bH:List (eW))(r:Bool)(w:World)(pZ:Kd.C gx w dQ bH.length bH)(pf:bH.length≤dR)(r9:w.heap[dy]?=some (.cells #[.slice dQ bH.length dR] 56 (0,0)))(h:ml.f a0 bH=some r):
 Calls aad 39 #[.int .i64 a0,.pointer (some ⟨dy,0,none⟩)] w fun e w'=>e= .returned (.bool r)∧fp w w':=by
 have iL:=Ah pZ;have jC:=Ah pf;clear pZ pf;have a3q:=Ah r9;clear r9;have H:(if 0≤a0 then(if a0<(bH.length:Int)then(some (!((am bH a0).f0)))else(none))else(none))=some r:=h;clear h
 by_cases c3:0≤a0
 rotate_left
 ·
  rw[if_neg c3]at H;exact absurd H (by simp)
 rw[if_pos c3]at H;have iN:decide (0≤a0)=true:=decide_eq_true c3;clear c3
 by_cases c4:a0<(bH.length:Int)
 rotate_left
 ·
  rw[if_neg c4]at H;exact absurd H (by simp)
 rw[if_pos c4]at H;have jb:decide (a0<(bH.length:Int))=true:=decide_eq_true c4;clear c4;obtain rfl:=iz H;have Em:w.cell? ⟨dy,0,none⟩=some (.slice dQ bH.length dR):=(bC a3q.out 0).trans rfl;have Hq:=an a3q;have Wb:0≤(a0:Int):=od;have Wc:a0<(bH.length:Int):=od;obtain⟨ad598,e598,hx598_0,hx598_1,hx598_2⟩:=oE iL.out a0 Wb Wc
 cases e598
 replace Wb:=eq_true Wb;replace Wc:=eq_true Wc
 go_enter Try.func39,Try.ntmps39
 go_wp2
 go_ret
 exact⟨e3,by repeat(first|exact fp.refl _|apply fp.step)⟩
def gC.l0:Nat→List (aT)→Int→Int→List (eW)→Option ((List (aT)))
 |0,_,_,_,_=>none
 |k+1,x5,x9,cG,HY=>if cG<x9 then((ml.f cG HY).bind fun Wd=>(if Wd=true then(if(LS ((x5.length:Int)-1))≥0 then(if 0≤(LS ((x5.length:Int)-1))then(if(LS ((x5.length:Int)-1))<(x5.length:Int)then(if(LS (((aE x5 (LS ((x5.length:Int)-1))).f0)+((aE x5 (LS ((x5.length:Int)-1))).f1)))=cG then(gC.l0 k (x5.set ((LS ((x5.length:Int)-1)):Int).toNat (⟨(aE x5 (LS ((x5.length:Int)-1))).f0,LS (((aE x5 (LS ((x5.length:Int)-1))).f1)+1)⟩:aT)) x9 (LS (cG+1)) HY)else(if x5.length<8796093022208 then(gC.l0 k (x5++[(⟨cG,1⟩:aT)]) x9 (LS (cG+1)) HY)else(none)))else(none))else(none))else(if x5.length<8796093022208 then(gC.l0 k (x5++[(⟨cG,1⟩:aT)]) x9 (LS (cG+1)) HY)else(none)))else(gC.l0 k x5 x9 (LS (cG+1)) HY)))else(some x5)
def gC.f(k:Nat)(a0:Int)(bH:List (eW)):Option ((List (aT))):=gC.l0 k (([]:List (aT))) a0 0 bH
theorem gC.dL:∀k,(∀y0 y1 y2 y3,aG (gC.l0 k y0 y1 y2 y3) (gC.l0 (k+1) y0 y1 y2 y3))
 |0=>fun _ _ _ _ r h=>by simp[gC.l0]at h
 |k+1=>by
  have bw:=gC.dL k
  ·
   intro y0 y1 y2 y3;unfold gC.l0
   repeat' with_reducible first|exact bw _ _ _ _|exact aG.refl _|exact aG.none _|refine aG.ite ?_ ?_|refine aG.bind ?_ (fun _=> ?_)
theorem gC.mono:∀a0 a1 k,aG (gC.f k a0 a1) (gC.f (k+1) a0 a1):=by
 intro a0 a1 k;have bw:=gC.dL k;unfold gC.f
 repeat' with_reducible first|exact bw _ _ _ _|exact aG.refl _|exact aG.none _|refine aG.ite ?_ ?_|refine aG.bind ?_ (fun _=> ?_)
set_option maxHeartbeats 8000000 in
set_option maxRecDepth 100000 in
theorem gC.calls(k:Nat)(a0:Int)(dy:Nat)(dQ:Option Addr)(dR:Nat)(bH:List (eW))(r:List (aT))(w:World)(pZ:Kd.C gx w dQ bH.length bH)(pf:bH.length≤dR)(r9:w.heap[dy]?=some (.cells #[.slice dQ bH.length dR] 56 (0,0)))(h:gC.f k a0 bH=some r):
 Calls aad 38 #[.int .i64 a0,.func (.func 39) #[] #[.pointer (some ⟨dy,0,none⟩)]] w fun e w'=>∃da:Value,e= .returned (da)∧Kd.R bd 38 w' w.heap.size (fun _=>True) da r∧Below w.heap.size w w':=by
 have Jh:=Try.underlying38
 have eg39:=fun(args:Array Value) (w:World)=>H7 (P:=aad) Try.func39 (by kernel_rfl) rfl args w
 have iL:=Ah pZ;have jC:=Ah pf;clear pZ pf;have eQ:=Ah r9;clear r9;have HB:=Ah (aaa w.heap.size w);have H:(gC.l0 k (([]:List (aT))) a0 0 bH)=some r:=h;clear h;obtain⟨a6f,JS⟩:∃y_:List (aT),y_=(([]:List (aT))):=⟨_,rfl⟩
 replace H:(gC.l0 k a6f a0 0 bH)=some r:=by first|(rw[JS];with_reducible exact H)|(have aX:=(Mq _ _).symm.trans H;rw[JS];with_reducible exact aX)|(have aX:=(Mq _ _).symm.trans H;with_reducible exact aX)|with_reducible exact H|(rw[JS];exact H)|exact H
 have FR:=Ah JS;clear JS;have H':=Ah H;clear H
 go_enter Try.func38,Try.ntmps38
 go_wp2_with (first|((with_reducible refine ax (N:=8) rfl ?_);refine Kd.wm bd _ 38 ?hg (N:=8) ?hd (xs:=([]:List (aT))) (inner:=[]) (ok:=fun _=>True) (okp:=fun _=>True) ?hr ?hp (fun _ hk=>hk) trivial (aaa _ _) (bx _) (by simp) ?_;(case hd=>rfl);(case hg=>rfl);(case hr=>first|(go_simp;done)|(go_simp;rfl));(case hp=>exact(cj.none _ _));intro a6g w3 gA hb lJ l8;clear lJ l8;(first|rw[←FR.out]at gA|(simp only[aa3]at gA;rw[←FR.out]at gA));have U8:=Ah (Kd.dD gA (be (bs HB)));replace eQ:=Ah (cC (g:=dy) (o:= .cells #[.slice dQ bH.length dR] 56 (0,0)) (bk eQ) hb);replace HB:=Ah (aK (bs HB) hb);clear hb gA))
 repeat(go_quiet (first|((with_reducible refine ax (N:=8) rfl ?_);refine Kd.wm bd _ 38 ?hg (N:=8) ?hd (xs:=([]:List (aT))) (inner:=[]) (ok:=fun _=>True) (okp:=fun _=>True) ?hr ?hp (fun _ hk=>hk) trivial (aaa _ _) (bx _) (by simp) ?_;(case hd=>rfl);(case hg=>rfl);(case hr=>first|(go_simp;done)|(go_simp;rfl));(case hp=>exact(cj.none _ _));intro a6g w3 gA hb lJ l8;clear lJ l8;(first|rw[←FR.out]at gA|(simp only[aa3]at gA;rw[←FR.out]at gA));have U8:=Ah (Kd.dD gA (be (bs HB)));replace eQ:=Ah (cC (g:=dy) (o:= .cells #[.slice dQ bH.length dR] 56 (0,0)) (bk eQ) hb);replace HB:=Ah (aK (bs HB) hb);clear hb gA));try go_wp2_with (first|((with_reducible refine ax (N:=8) rfl ?_);refine Kd.wm bd _ 38 ?hg (N:=8) ?hd (xs:=([]:List (aT))) (inner:=[]) (ok:=fun _=>True) (okp:=fun _=>True) ?hr ?hp (fun _ hk=>hk) trivial (aaa _ _) (bx _) (by simp) ?_;(case hd=>rfl);(case hg=>rfl);(case hr=>first|(go_simp;done)|(go_simp;rfl));(case hp=>exact(cj.none _ _));intro a6g w3 gA hb lJ l8;clear lJ l8;(first|rw[←FR.out]at gA|(simp only[aa3]at gA;rw[←FR.out]at gA));have U8:=Ah (Kd.dD gA (be (bs HB)));replace eQ:=Ah (cC (g:=dy) (o:= .cells #[.slice dQ bH.length dR] 56 (0,0)) (bk eQ) hb);replace HB:=Ah (aK (bs HB) hb);clear hb gA)))
 go_loopg [5,10] k (fun kq v5 v10 w'=>∃ (aA:List (aT)) (aZ:Int),v10= .int .i64 aZ∧U (gC.l0 kq aA a0 aZ bH=some r)∧U (kq≤k)∧U (Kd.R bd 38 w' w.heap.size (fun _=>True) v5 aA)∧U (w'.heap[dy]?=some (.cells #[(.slice dQ bH.length dR)] 56 (0,0)))∧U (Below w.heap.size w w'))
 case atStart=>exact⟨(a6f),(0),e3,H',⟨bx _⟩,⟨rr U8.out⟩,⟨bk eQ⟩,⟨bs HB⟩⟩
 case round=>
  clear H'
  try clear c1
  try clear hx1
  try clear p2
  try clear c3
  try clear r9
  obtain⟨aA,aZ,rfl,HA,bU,bB,eQ,HB⟩:=hrel
  cases gk with
  |zero=>exact absurd HA.out (by simp[gC.l0])
  |succ k1=>
   have H:=HA.out;clear HA;simp only[gC.l0]at H
   by_cases c5:aZ<a0
   rotate_left
   ·
    rw[if_neg c5]at H;have oP:decide (aZ<a0)=false:=decide_eq_false c5;clear c5;obtain rfl:=iz H
    go_wp2
    repeat(go_quiet (fail);try go_wp2)
    go_ret
    exact⟨_,er,by(with_reducible repeat(first|apply Kd.bG|apply Kd.bE|apply Kd.al));exact bB.out,bs HB⟩
   rw[if_pos c5]at H;have oP:decide (aZ<a0)=true:=decide_eq_true c5;clear c5;replace H:=LT.mp H;obtain⟨Wd,iw,H⟩:=H
   try dsimp only at H
   have A6:=Ah iw;clear iw
   by_cases c7:Wd=true
   rotate_left
   ·
    replace c7:=dn.mpr c7;subst c7;rw[if_neg dV]at H;have H':=Ah H;clear H
    go_wp2_with (first|(go_at_call 39;(with_reducible refine(ml.calls aZ dy dQ dR bH false _ ?a8 ?a9 ?dm A6.out).mono ?_);(case a8=>exact cb iL HB);(case a9=>exact jC.out);(case dm=>(with_reducible repeat(first|refine aD ?_ _|refine Z ?_|refine aC ?_ _));exact eQ.out);rintro e w' ⟨rfl,⟨nd,rfl⟩⟩;(try first|exact⟨rfl,_,nL _ _ _⟩|exact⟨rfl,_,aaT (nL _ _ _) (congrArg (aaB _) (aau _ _ _))⟩)))
    repeat(go_quiet (first|(go_at_call 39;(with_reducible refine(ml.calls aZ dy dQ dR bH false _ ?a8 ?a9 ?dm A6.out).mono ?_);(case a8=>exact cb iL HB);(case a9=>exact jC.out);(case dm=>(with_reducible repeat(first|refine aD ?_ _|refine Z ?_|refine aC ?_ _));exact eQ.out);rintro e w' ⟨rfl,⟨nd,rfl⟩⟩;(try first|exact⟨rfl,_,nL _ _ _⟩|exact⟨rfl,_,aaT (nL _ _ _) (congrArg (aaB _) (aau _ _ _))⟩)));try go_wp2_with (first|(go_at_call 39;(with_reducible refine(ml.calls aZ dy dQ dR bH false _ ?a8 ?a9 ?dm A6.out).mono ?_);(case a8=>exact cb iL HB);(case a9=>exact jC.out);(case dm=>(with_reducible repeat(first|refine aD ?_ _|refine Z ?_|refine aC ?_ _));exact eQ.out);rintro e w' ⟨rfl,⟨nd,rfl⟩⟩;(try first|exact⟨rfl,_,nL _ _ _⟩|exact⟨rfl,_,aaT (nL _ _ _) (congrArg (aaB _) (aau _ _ _))⟩))))
    go_roundg k1
    case measure=>have:=bU.out;omega
    case rel=>exact⟨(aA),(LS (aZ+1)),e3,H',⟨by have:=bU.out;omega⟩,⟨rr bB.out⟩,⟨bk eQ⟩,⟨bs HB⟩⟩
   subst c7;rw[if_pos rfl]at H
   by_cases c8:(LS ((aA.length:Int)-1))≥0
   rotate_left
   ·
    rw[if_neg c8]at H;have nC:decide (0≤(LS ((aA.length:Int)-1)))=false:=decide_eq_false c8;clear c8
    by_cases c20:aA.length<8796093022208
    rotate_left
    ·
     rw[if_neg c20]at H;exact absurd H (by simp)
    rw[if_pos c20]at H;have CQ:=Ah c20;clear c20;obtain⟨a6h,JT⟩:∃y_:List (aT),y_=(aA++[(⟨aZ,1⟩:aT)]):=⟨_,rfl⟩
    replace H:(gC.l0 k1 a6h a0 (LS (aZ+1)) bH)=some r:=by first|(rw[JT];with_reducible exact H)|(have aX:=(Mq _ _).symm.trans H;rw[JT];with_reducible exact aX)|(have aX:=(Mq _ _).symm.trans H;with_reducible exact aX)|with_reducible exact H|(rw[JT];exact H)|exact H
    have U9:=Ah JT;clear JT;have H':=Ah H;clear H
    go_wp2_with (first|(go_at_call 39;(with_reducible refine(ml.calls aZ dy dQ dR bH true _ ?a8 ?a9 ?dm A6.out).mono ?_);(case a8=>exact cb iL HB);(case a9=>exact jC.out);(case dm=>(with_reducible repeat(first|refine aD ?_ _|refine Z ?_|refine aC ?_ _));exact eQ.out);rintro e w' ⟨rfl,⟨nd,rfl⟩⟩;(try first|exact⟨rfl,_,nL _ _ _⟩|exact⟨rfl,_,aaT (nL _ _ _) (congrArg (aaB _) (aau _ _ _))⟩);obtain⟨gI,fv,nD⟩:=Kd.bq bB.out;subst nD)|((with_reducible refine eS (b:= .append) (xs:= #[.tmp 45,.tmp 48]) rfl ?_);at_builtin;refine Kd.gX bd (w0:=w) w.heap.size rfl (.tmp 45) (.tmp 48) 28 38 (.agg #[(.int .i64 0),(.int .i64 0)]) 16 rfl aaq jN rfl (by decide) (by omega) (.slice gI aA.length fv) aA (⟨aZ,1⟩:aT) [.int .i64 aZ,.int .i64 1] (fun _=>True) (fun _=>False) rfl rfl ?aP (fun _ hk=>hk.elim) ?aF ?aO ?aB ?aS ?aL ?_;(case aP=>exact iE _ _ _ (⟨aZ,1⟩:aT));(case aB=>exact(bs HB));(case aF=>exact(fun _ _=>trivial));(case aO=>exact(rr bB.out));(case aS=>exact(be (bs HB)));(case aL=>have:=CQ.out;omega);intro a6i kt ho hb hg hat;rw[←U9.out]at ho;replace eQ:=Ah (cX (g:=dy) (o:= .cells #[.slice dQ bH.length dR] 56 (0,0)) (bk eQ) hg (Kd.eD bB.out eQ.out (by decide)));replace HB:=Ah (hb);have UA:=Ah (ho);clear bB;clear ho hb hg hat))
    repeat(go_quiet (first|(go_at_call 39;(with_reducible refine(ml.calls aZ dy dQ dR bH true _ ?a8 ?a9 ?dm A6.out).mono ?_);(case a8=>exact cb iL HB);(case a9=>exact jC.out);(case dm=>(with_reducible repeat(first|refine aD ?_ _|refine Z ?_|refine aC ?_ _));exact eQ.out);rintro e w' ⟨rfl,⟨nd,rfl⟩⟩;(try first|exact⟨rfl,_,nL _ _ _⟩|exact⟨rfl,_,aaT (nL _ _ _) (congrArg (aaB _) (aau _ _ _))⟩);obtain⟨gI,fv,nD⟩:=Kd.bq bB.out;subst nD)|((with_reducible refine eS (b:= .append) (xs:= #[.tmp 45,.tmp 48]) rfl ?_);at_builtin;refine Kd.gX bd (w0:=w) w.heap.size rfl (.tmp 45) (.tmp 48) 28 38 (.agg #[(.int .i64 0),(.int .i64 0)]) 16 rfl aaq jN rfl (by decide) (by omega) (.slice gI aA.length fv) aA (⟨aZ,1⟩:aT) [.int .i64 aZ,.int .i64 1] (fun _=>True) (fun _=>False) rfl rfl ?aP (fun _ hk=>hk.elim) ?aF ?aO ?aB ?aS ?aL ?_;(case aP=>exact iE _ _ _ (⟨aZ,1⟩:aT));(case aB=>exact(bs HB));(case aF=>exact(fun _ _=>trivial));(case aO=>exact(rr bB.out));(case aS=>exact(be (bs HB)));(case aL=>have:=CQ.out;omega);intro a6i kt ho hb hg hat;rw[←U9.out]at ho;replace eQ:=Ah (cX (g:=dy) (o:= .cells #[.slice dQ bH.length dR] 56 (0,0)) (bk eQ) hg (Kd.eD bB.out eQ.out (by decide)));replace HB:=Ah (hb);have UA:=Ah (ho);clear bB;clear ho hb hg hat));try go_wp2_with (first|(go_at_call 39;(with_reducible refine(ml.calls aZ dy dQ dR bH true _ ?a8 ?a9 ?dm A6.out).mono ?_);(case a8=>exact cb iL HB);(case a9=>exact jC.out);(case dm=>(with_reducible repeat(first|refine aD ?_ _|refine Z ?_|refine aC ?_ _));exact eQ.out);rintro e w' ⟨rfl,⟨nd,rfl⟩⟩;(try first|exact⟨rfl,_,nL _ _ _⟩|exact⟨rfl,_,aaT (nL _ _ _) (congrArg (aaB _) (aau _ _ _))⟩);obtain⟨gI,fv,nD⟩:=Kd.bq bB.out;subst nD)|((with_reducible refine eS (b:= .append) (xs:= #[.tmp 45,.tmp 48]) rfl ?_);at_builtin;refine Kd.gX bd (w0:=w) w.heap.size rfl (.tmp 45) (.tmp 48) 28 38 (.agg #[(.int .i64 0),(.int .i64 0)]) 16 rfl aaq jN rfl (by decide) (by omega) (.slice gI aA.length fv) aA (⟨aZ,1⟩:aT) [.int .i64 aZ,.int .i64 1] (fun _=>True) (fun _=>False) rfl rfl ?aP (fun _ hk=>hk.elim) ?aF ?aO ?aB ?aS ?aL ?_;(case aP=>exact iE _ _ _ (⟨aZ,1⟩:aT));(case aB=>exact(bs HB));(case aF=>exact(fun _ _=>trivial));(case aO=>exact(rr bB.out));(case aS=>exact(be (bs HB)));(case aL=>have:=CQ.out;omega);intro a6i kt ho hb hg hat;rw[←U9.out]at ho;replace eQ:=Ah (cX (g:=dy) (o:= .cells #[.slice dQ bH.length dR] 56 (0,0)) (bk eQ) hg (Kd.eD bB.out eQ.out (by decide)));replace HB:=Ah (hb);have UA:=Ah (ho);clear bB;clear ho hb hg hat)))
    go_roundg k1
    case measure=>have:=bU.out;omega
    case rel=>exact⟨(a6h),(LS (aZ+1)),e3,H',⟨by have:=bU.out;omega⟩,⟨rr UA.out⟩,⟨bk eQ⟩,⟨bs HB⟩⟩
   rw[if_pos c8]at H;have nC:decide (0≤(LS ((aA.length:Int)-1)))=true:=decide_eq_true c8;clear c8;obtain⟨aI,uF⟩:∃j_:Int,(LS ((aA.length:Int)-1))=j_:=⟨_,rfl⟩
   replace H:(if 0≤(aI)then(if(aI)<(aA.length:Int)then(if(LS (((aE aA (aI)).f0)+((aE aA (aI)).f1)))=aZ then(gC.l0 k1 (aA.set ((aI):Int).toNat (⟨(aE aA (aI)).f0,LS (((aE aA (aI)).f1)+1)⟩:aT)) a0 (LS (aZ+1)) bH)else(if aA.length<8796093022208 then(gC.l0 k1 (aA++[(⟨aZ,1⟩:aT)]) a0 (LS (aZ+1)) bH)else(none)))else(none))else(none))=some r:=by first|(rw[uF]at H;exact H)|(simp only[uF]at H⊢;exact H)
   (try rw[uF]at nC);(try rw[uF]at A6);have hji9w:(IntKind.i64.wrap ((aA.length:Int)-1))=aI:=(cz _).trans uF
   by_cases c10:0≤(aI)
   rotate_left
   ·
    rw[if_neg c10]at H;exact absurd H (by simp)
   rw[if_pos c10]at H;have nZ:decide (0≤(aI))=true:=decide_eq_true c10;clear c10
   by_cases c11:(aI)<(aA.length:Int)
   rotate_left
   ·
    rw[if_neg c11]at H;exact absurd H (by simp)
   rw[if_pos c11]at H;have xC:decide ((aI)<(aA.length:Int))=true:=decide_eq_true c11;clear c11
   by_cases c12:(LS (((aE aA (aI)).f0)+((aE aA (aI)).f1)))=aZ
   rotate_left
   ·
    rw[if_neg c12]at H;have jR:((LS (((aE aA (aI)).f0)+((aE aA (aI)).f1)))==aZ)=false:=beq_eq_false_iff_ne.mpr c12;have vO:((LS (((aE aA (aI)).f0)+((aE aA (aI)).f1))) !=aZ)=true:=bne_iff_ne.mpr c12
    by_cases c17:aA.length<8796093022208
    rotate_left
    ·
     rw[if_neg c17]at H;exact absurd H (by simp)
    rw[if_pos c17]at H;have xD:=Ah c17;clear c17;obtain⟨a6j,JU⟩:∃y_:List (aT),y_=(aA++[(⟨aZ,1⟩:aT)]):=⟨_,rfl⟩
    replace H:(gC.l0 k1 a6j a0 (LS (aZ+1)) bH)=some r:=by first|(rw[JU];with_reducible exact H)|(have aX:=(Mq _ _).symm.trans H;rw[JU];with_reducible exact aX)|(have aX:=(Mq _ _).symm.trans H;with_reducible exact aX)|with_reducible exact H|(rw[JU];exact H)|exact H
    have UB:=Ah JU;clear JU;have H':=Ah H;clear H
    go_wp2_with (first|(go_at_call 39;(with_reducible refine(ml.calls aZ dy dQ dR bH true _ ?a8 ?a9 ?dm A6.out).mono ?_);(case a8=>exact cb iL HB);(case a9=>exact jC.out);(case dm=>(with_reducible repeat(first|refine aD ?_ _|refine Z ?_|refine aC ?_ _));exact eQ.out);rintro e w' ⟨rfl,⟨nd,rfl⟩⟩;(try first|exact⟨rfl,_,nL _ _ _⟩|exact⟨rfl,_,aaT (nL _ _ _) (congrArg (aaB _) (aau _ _ _))⟩);obtain⟨zy,py,rS⟩:=Kd.bq bB.out;subst rS;have kS:0≤((aI):Int):=od;have kT:(aI)<(aA.length:Int):=od;obtain⟨n7,uP,yx,yy⟩:=fE (Kd.af bB.out).2.2 (aI) kS kT;cases uP;replace kS:=eq_true kS;replace kT:=eq_true kT;have kU:0≤((aI):Int):=od;have kV:(aI)<(aA.length:Int):=od;obtain⟨tm,uQ,yz,z2⟩:=fE (Kd.af bB.out).2.2 (aI) kU kV;obtain rfl:n7=tm:=(by injection uQ);replace kU:=eq_true kU;replace kV:=eq_true kV)|((with_reducible refine eS (b:= .append) (xs:= #[.tmp 45,.tmp 48]) rfl ?_);at_builtin;refine Kd.gX bd (w0:=w) w.heap.size rfl (.tmp 45) (.tmp 48) 28 38 (.agg #[(.int .i64 0),(.int .i64 0)]) 16 rfl aaq jN rfl (by decide) (by omega) (.slice (some n7) aA.length py) aA (⟨aZ,1⟩:aT) [.int .i64 aZ,.int .i64 1] (fun _=>True) (fun _=>False) rfl rfl ?aP (fun _ hk=>hk.elim) ?aF ?aO ?aB ?aS ?aL ?_;(case aP=>exact iE _ _ _ (⟨aZ,1⟩:aT));(case aB=>exact(bs HB));(case aF=>exact(fun _ _=>trivial));(case aO=>exact(rr bB.out));(case aS=>exact(be (bs HB)));(case aL=>have:=xD.out;omega);intro a6k jl ho hb hg hat;rw[←UB.out]at ho;replace eQ:=Ah (cX (g:=dy) (o:= .cells #[.slice dQ bH.length dR] 56 (0,0)) (bk eQ) hg (Kd.eD bB.out eQ.out (by decide)));replace HB:=Ah (hb);have UC:=Ah (ho);clear bB;clear ho hb hg hat))
    repeat(go_quiet (first|(go_at_call 39;(with_reducible refine(ml.calls aZ dy dQ dR bH true _ ?a8 ?a9 ?dm A6.out).mono ?_);(case a8=>exact cb iL HB);(case a9=>exact jC.out);(case dm=>(with_reducible repeat(first|refine aD ?_ _|refine Z ?_|refine aC ?_ _));exact eQ.out);rintro e w' ⟨rfl,⟨nd,rfl⟩⟩;(try first|exact⟨rfl,_,nL _ _ _⟩|exact⟨rfl,_,aaT (nL _ _ _) (congrArg (aaB _) (aau _ _ _))⟩);obtain⟨zy,py,rS⟩:=Kd.bq bB.out;subst rS;have kS:0≤((aI):Int):=od;have kT:(aI)<(aA.length:Int):=od;obtain⟨n7,uP,yx,yy⟩:=fE (Kd.af bB.out).2.2 (aI) kS kT;cases uP;replace kS:=eq_true kS;replace kT:=eq_true kT;have kU:0≤((aI):Int):=od;have kV:(aI)<(aA.length:Int):=od;obtain⟨tm,uQ,yz,z2⟩:=fE (Kd.af bB.out).2.2 (aI) kU kV;obtain rfl:n7=tm:=(by injection uQ);replace kU:=eq_true kU;replace kV:=eq_true kV)|((with_reducible refine eS (b:= .append) (xs:= #[.tmp 45,.tmp 48]) rfl ?_);at_builtin;refine Kd.gX bd (w0:=w) w.heap.size rfl (.tmp 45) (.tmp 48) 28 38 (.agg #[(.int .i64 0),(.int .i64 0)]) 16 rfl aaq jN rfl (by decide) (by omega) (.slice (some n7) aA.length py) aA (⟨aZ,1⟩:aT) [.int .i64 aZ,.int .i64 1] (fun _=>True) (fun _=>False) rfl rfl ?aP (fun _ hk=>hk.elim) ?aF ?aO ?aB ?aS ?aL ?_;(case aP=>exact iE _ _ _ (⟨aZ,1⟩:aT));(case aB=>exact(bs HB));(case aF=>exact(fun _ _=>trivial));(case aO=>exact(rr bB.out));(case aS=>exact(be (bs HB)));(case aL=>have:=xD.out;omega);intro a6k jl ho hb hg hat;rw[←UB.out]at ho;replace eQ:=Ah (cX (g:=dy) (o:= .cells #[.slice dQ bH.length dR] 56 (0,0)) (bk eQ) hg (Kd.eD bB.out eQ.out (by decide)));replace HB:=Ah (hb);have UC:=Ah (ho);clear bB;clear ho hb hg hat));try go_wp2_with (first|(go_at_call 39;(with_reducible refine(ml.calls aZ dy dQ dR bH true _ ?a8 ?a9 ?dm A6.out).mono ?_);(case a8=>exact cb iL HB);(case a9=>exact jC.out);(case dm=>(with_reducible repeat(first|refine aD ?_ _|refine Z ?_|refine aC ?_ _));exact eQ.out);rintro e w' ⟨rfl,⟨nd,rfl⟩⟩;(try first|exact⟨rfl,_,nL _ _ _⟩|exact⟨rfl,_,aaT (nL _ _ _) (congrArg (aaB _) (aau _ _ _))⟩);obtain⟨zy,py,rS⟩:=Kd.bq bB.out;subst rS;have kS:0≤((aI):Int):=od;have kT:(aI)<(aA.length:Int):=od;obtain⟨n7,uP,yx,yy⟩:=fE (Kd.af bB.out).2.2 (aI) kS kT;cases uP;replace kS:=eq_true kS;replace kT:=eq_true kT;have kU:0≤((aI):Int):=od;have kV:(aI)<(aA.length:Int):=od;obtain⟨tm,uQ,yz,z2⟩:=fE (Kd.af bB.out).2.2 (aI) kU kV;obtain rfl:n7=tm:=(by injection uQ);replace kU:=eq_true kU;replace kV:=eq_true kV)|((with_reducible refine eS (b:= .append) (xs:= #[.tmp 45,.tmp 48]) rfl ?_);at_builtin;refine Kd.gX bd (w0:=w) w.heap.size rfl (.tmp 45) (.tmp 48) 28 38 (.agg #[(.int .i64 0),(.int .i64 0)]) 16 rfl aaq jN rfl (by decide) (by omega) (.slice (some n7) aA.length py) aA (⟨aZ,1⟩:aT) [.int .i64 aZ,.int .i64 1] (fun _=>True) (fun _=>False) rfl rfl ?aP (fun _ hk=>hk.elim) ?aF ?aO ?aB ?aS ?aL ?_;(case aP=>exact iE _ _ _ (⟨aZ,1⟩:aT));(case aB=>exact(bs HB));(case aF=>exact(fun _ _=>trivial));(case aO=>exact(rr bB.out));(case aS=>exact(be (bs HB)));(case aL=>have:=xD.out;omega);intro a6k jl ho hb hg hat;rw[←UB.out]at ho;replace eQ:=Ah (cX (g:=dy) (o:= .cells #[.slice dQ bH.length dR] 56 (0,0)) (bk eQ) hg (Kd.eD bB.out eQ.out (by decide)));replace HB:=Ah (hb);have UC:=Ah (ho);clear bB;clear ho hb hg hat)))
    go_roundg k1
    case measure=>have:=bU.out;omega
    case rel=>exact⟨(a6j),(LS (aZ+1)),e3,H',⟨by have:=bU.out;omega⟩,⟨rr UC.out⟩,⟨bk eQ⟩,⟨bs HB⟩⟩
   rw[if_pos c12]at H;have jR:((LS (((aE aA (aI)).f0)+((aE aA (aI)).f1)))==aZ)=true:=beq_iff_eq.mpr c12;have vO:((LS (((aE aA (aI)).f0)+((aE aA (aI)).f1))) !=aZ)=false:=bne_eq_false_iff_eq.mpr c12;clear c12;obtain⟨L1,JV⟩:∃y_:List (aT),y_=(aA.set ((aI):Int).toNat (⟨(aE aA (aI)).f0,LS (((aE aA (aI)).f1)+1)⟩:aT)):=⟨_,rfl⟩
   replace H:(gC.l0 k1 L1 a0 (LS (aZ+1)) bH)=some r:=by first|(rw[JV];with_reducible exact H)|(have aX:=(Mq _ _).symm.trans H;rw[JV];with_reducible exact aX)|(have aX:=(Mq _ _).symm.trans H;with_reducible exact aX)|with_reducible exact H|(rw[JV];exact H)|exact H
   have UD:=Ah JV;clear JV;have H':=Ah H;clear H
   go_wp2_with (first|(go_at_call 39;(with_reducible refine(ml.calls aZ dy dQ dR bH true _ ?a8 ?a9 ?dm A6.out).mono ?_);(case a8=>exact cb iL HB);(case a9=>exact jC.out);(case dm=>(with_reducible repeat(first|refine aD ?_ _|refine Z ?_|refine aC ?_ _));exact eQ.out);rintro e w' ⟨rfl,⟨nd,rfl⟩⟩;(try first|exact⟨rfl,_,nL _ _ _⟩|exact⟨rfl,_,aaT (nL _ _ _) (congrArg (aaB _) (aau _ _ _))⟩);obtain⟨dI,cd,ni⟩:=Kd.bq bB.out;subst ni;have kS:0≤((aI):Int):=od;have kT:(aI)<(aA.length:Int):=od;obtain⟨n7,uP,yx,yy⟩:=fE (Kd.af bB.out).2.2 (aI) kS kT;cases uP;replace kS:=eq_true kS;replace kT:=eq_true kT;have kU:0≤((aI):Int):=od;have kV:(aI)<(aA.length:Int):=od;obtain⟨tm,uQ,yz,z2⟩:=fE (Kd.af bB.out).2.2 (aI) kU kV;obtain rfl:n7=tm:=(by injection uQ);replace kU:=eq_true kU;replace kV:=eq_true kV;have uR:0≤((aI):Int):=od;have uS:(aI)<(aA.length:Int):=od;obtain⟨JW,L2,HZ,Ha⟩:=fE (Kd.af bB.out).2.2 (aI) uR uS;obtain rfl:n7=JW:=(by injection L2);replace uR:=eq_true uR;replace uS:=eq_true uS;have kg:0≤((aI):Int):=od;have ki:((aI):Int)<((aA.length:Int):Int):=od;obtain⟨eL,Kj,nE,nF,uK,Kk,nG⟩:=Kd.nW bB.out (by omega);(first|cases nE|(injection nE with dB iV iW;(first|subst dB|(injection dB with dB;subst dB));subst iW;clear iV));have uL:=Ah nF;have Kl:=Ah nG;clear nF uK nG;(first|simp only[db]at yx|skip);(first|simp only[db]at yy|skip);(first|simp only[db]at yz|skip);(first|simp only[db]at z2|skip);(first|simp only[db]at HZ|skip);(first|simp only[db]at Ha|skip);obtain⟨Km,th,nH,kG,kH⟩:=Kd.hJ bB.out kW ((aI):Int) kg ki;obtain rfl:=lN nH;have Hr:wr.cell? ⟨eL,((aI):Int).toNat*2,none⟩=some (.int .i64 ((aE aA (aI)).f0)):=kG 0 _ rfl;have Hs:wr.cell? ⟨eL,((aI):Int).toNat*2+1,none⟩=some (.int .i64 ((aE aA (aI)).f1)):=kG 1 _ rfl;have Ht:wr.frozen? ⟨eL,((aI):Int).toNat*2,none⟩=false:=kH 0;have Hu:wr.frozen? ⟨eL,((aI):Int).toNat*2+1,none⟩=false:=kH 1;clear th kG kH nH;replace kg:=eq_true kg;replace ki:=eq_true ki;have gu:=Ah (show Kd.R bd 38 wr w.heap.size (fun _=>True) (.slice (some ⟨eL,0,none⟩) aA.length cd) aA from(rr bB.out));obtain⟨uM,gr,gv,fV,gt⟩:=Kd.hJ gu.out kW ((aI):Int) (od) (by have h_:((aI):Int)<((aA.length:Int):Int):=od;first|exact h_|(have e_:=(Kd.af bB.out).1;omega)|simpa using h_);obtain rfl:=lN gv;have ir:=Kd.lT gu.out ((aI):Int) (od) (by have h_:((aI):Int)<((aA.length:Int):Int):=od;first|exact h_|(have e_:=(Kd.af bB.out).1;omega)|simpa using h_) (seg:=[.int .i64 (LS (((aE aA (aI)).f1)+1))]) (j:=1) gr fV (show 2≤2 from by decide) (x':=(⟨(aE aA (aI)).f0,LS (((aE aA (aI)).f1)+1)⟩:aT)) (iE _ _ _ (⟨(aE aA (aI)).f0,LS (((aE aA (aI)).f1)+1)⟩:aT)) (fun _ hk=>hk);have k9:=fV 1 _ rfl;(try simp only[show(bd).sz=2 from rfl,aao,aal]at k9);have kA:=gt 1;(try simp only[show(bd).sz=2 from rfl,aao,aal]at kA);clear gr fV gt gv)|((with_reducible refine rl (t:=3) (p:=44) rfl ?_);(try(rw[E3 wr];generalize iy:aaB wr _=wr;replace bB:=Ah (Kd.FS iy bB.out);replace eQ:=Ah (Eg iy eQ.out);replace HB:=Ah (EC iy HB.out);clear iy;(try(have gu:=Ah (show Kd.R bd 38 wr w.heap.size (fun _=>True) (.slice (some ⟨eL,0,none⟩) aA.length cd) aA from(rr bB.out))));(try(obtain⟨uM,gr,gv,fV,gt⟩:=Kd.hJ gu.out kW ((aI):Int) (od) (by have h_:((aI):Int)<((aA.length:Int):Int):=od;first|exact h_|(have e_:=(Kd.af bB.out).1;omega)|simpa using h_)));(try(obtain rfl:=lN gv));(try(have ir:=Kd.lT gu.out ((aI):Int) (od) (by have h_:((aI):Int)<((aA.length:Int):Int):=od;first|exact h_|(have e_:=(Kd.af bB.out).1;omega)|simpa using h_) (seg:=[.int .i64 (LS (((aE aA (aI)).f1)+1))]) (j:=1) gr fV (show 2≤2 from by decide) (x':=(⟨(aE aA (aI)).f0,LS (((aE aA (aI)).f1)+1)⟩:aT)) (iE _ _ _ (⟨(aE aA (aI)).f0,LS (((aE aA (aI)).f1)+1)⟩:aT)) (fun _ hk=>hk)));(try(have k9:=fV 1 _ rfl));(try(try simp only[show(bd).sz=2 from rfl,aao,aal]at k9));(try(have kA:=gt 1));(try(try simp only[show(bd).sz=2 from rfl,aao,aal]at kA));(try(clear gr fV gt gv))));refine rk (t:=3) (p:=44) (v:= ?vo_w16) (w1:=(wr.setCell ⟨eL,((aI):Int).toNat*2+1,none⟩ (.int .i64 (LS (((aE aA (aI)).f1)+1))))) ?hg ?ho ?hn ?hr ?_;(case ho=>rfl);(case hg=>rfl);(case hn=>rfl);(case hr=>first|(go_simp;done)|(go_simp;rfl));intro w16 hw;have hg:wr.grownBy w16 (some eL):=(by rw[hw];exact ir.2);have iR:Kd.R bd 38 w16 w.heap.size (fun _=>True) (.slice (some ⟨eL,0,none⟩) aA.length cd) L1:=(by rw[hw,UD.out];exact ir.1);clear ir;replace eQ:=Ah (cX (g:=dy) (o:= .cells #[.slice dQ bH.length dR] 56 (0,0)) (bk eQ) hg (Kd.eD bB.out eQ.out (by decide)));replace bB:=Ah (iR);replace HB:=Ah ((by rw[hw];exact cF (HB.out) uL.out:Below w.heap.size w w16));clear hg hw iR))
   repeat(go_quiet (first|(go_at_call 39;(with_reducible refine(ml.calls aZ dy dQ dR bH true _ ?a8 ?a9 ?dm A6.out).mono ?_);(case a8=>exact cb iL HB);(case a9=>exact jC.out);(case dm=>(with_reducible repeat(first|refine aD ?_ _|refine Z ?_|refine aC ?_ _));exact eQ.out);rintro e w' ⟨rfl,⟨nd,rfl⟩⟩;(try first|exact⟨rfl,_,nL _ _ _⟩|exact⟨rfl,_,aaT (nL _ _ _) (congrArg (aaB _) (aau _ _ _))⟩);obtain⟨dI,cd,ni⟩:=Kd.bq bB.out;subst ni;have kS:0≤((aI):Int):=od;have kT:(aI)<(aA.length:Int):=od;obtain⟨n7,uP,yx,yy⟩:=fE (Kd.af bB.out).2.2 (aI) kS kT;cases uP;replace kS:=eq_true kS;replace kT:=eq_true kT;have kU:0≤((aI):Int):=od;have kV:(aI)<(aA.length:Int):=od;obtain⟨tm,uQ,yz,z2⟩:=fE (Kd.af bB.out).2.2 (aI) kU kV;obtain rfl:n7=tm:=(by injection uQ);replace kU:=eq_true kU;replace kV:=eq_true kV;have uR:0≤((aI):Int):=od;have uS:(aI)<(aA.length:Int):=od;obtain⟨JW,L2,HZ,Ha⟩:=fE (Kd.af bB.out).2.2 (aI) uR uS;obtain rfl:n7=JW:=(by injection L2);replace uR:=eq_true uR;replace uS:=eq_true uS;have kg:0≤((aI):Int):=od;have ki:((aI):Int)<((aA.length:Int):Int):=od;obtain⟨eL,Kj,nE,nF,uK,Kk,nG⟩:=Kd.nW bB.out (by omega);(first|cases nE|(injection nE with dB iV iW;(first|subst dB|(injection dB with dB;subst dB));subst iW;clear iV));have uL:=Ah nF;have Kl:=Ah nG;clear nF uK nG;(first|simp only[db]at yx|skip);(first|simp only[db]at yy|skip);(first|simp only[db]at yz|skip);(first|simp only[db]at z2|skip);(first|simp only[db]at HZ|skip);(first|simp only[db]at Ha|skip);obtain⟨Km,th,nH,kG,kH⟩:=Kd.hJ bB.out kW ((aI):Int) kg ki;obtain rfl:=lN nH;have Hr:wr.cell? ⟨eL,((aI):Int).toNat*2,none⟩=some (.int .i64 ((aE aA (aI)).f0)):=kG 0 _ rfl;have Hs:wr.cell? ⟨eL,((aI):Int).toNat*2+1,none⟩=some (.int .i64 ((aE aA (aI)).f1)):=kG 1 _ rfl;have Ht:wr.frozen? ⟨eL,((aI):Int).toNat*2,none⟩=false:=kH 0;have Hu:wr.frozen? ⟨eL,((aI):Int).toNat*2+1,none⟩=false:=kH 1;clear th kG kH nH;replace kg:=eq_true kg;replace ki:=eq_true ki;have gu:=Ah (show Kd.R bd 38 wr w.heap.size (fun _=>True) (.slice (some ⟨eL,0,none⟩) aA.length cd) aA from(rr bB.out));obtain⟨uM,gr,gv,fV,gt⟩:=Kd.hJ gu.out kW ((aI):Int) (od) (by have h_:((aI):Int)<((aA.length:Int):Int):=od;first|exact h_|(have e_:=(Kd.af bB.out).1;omega)|simpa using h_);obtain rfl:=lN gv;have ir:=Kd.lT gu.out ((aI):Int) (od) (by have h_:((aI):Int)<((aA.length:Int):Int):=od;first|exact h_|(have e_:=(Kd.af bB.out).1;omega)|simpa using h_) (seg:=[.int .i64 (LS (((aE aA (aI)).f1)+1))]) (j:=1) gr fV (show 2≤2 from by decide) (x':=(⟨(aE aA (aI)).f0,LS (((aE aA (aI)).f1)+1)⟩:aT)) (iE _ _ _ (⟨(aE aA (aI)).f0,LS (((aE aA (aI)).f1)+1)⟩:aT)) (fun _ hk=>hk);have k9:=fV 1 _ rfl;(try simp only[show(bd).sz=2 from rfl,aao,aal]at k9);have kA:=gt 1;(try simp only[show(bd).sz=2 from rfl,aao,aal]at kA);clear gr fV gt gv)|((with_reducible refine rl (t:=3) (p:=44) rfl ?_);(try(rw[E3 wr];generalize iy:aaB wr _=wr;replace bB:=Ah (Kd.FS iy bB.out);replace eQ:=Ah (Eg iy eQ.out);replace HB:=Ah (EC iy HB.out);clear iy;(try(have gu:=Ah (show Kd.R bd 38 wr w.heap.size (fun _=>True) (.slice (some ⟨eL,0,none⟩) aA.length cd) aA from(rr bB.out))));(try(obtain⟨uM,gr,gv,fV,gt⟩:=Kd.hJ gu.out kW ((aI):Int) (od) (by have h_:((aI):Int)<((aA.length:Int):Int):=od;first|exact h_|(have e_:=(Kd.af bB.out).1;omega)|simpa using h_)));(try(obtain rfl:=lN gv));(try(have ir:=Kd.lT gu.out ((aI):Int) (od) (by have h_:((aI):Int)<((aA.length:Int):Int):=od;first|exact h_|(have e_:=(Kd.af bB.out).1;omega)|simpa using h_) (seg:=[.int .i64 (LS (((aE aA (aI)).f1)+1))]) (j:=1) gr fV (show 2≤2 from by decide) (x':=(⟨(aE aA (aI)).f0,LS (((aE aA (aI)).f1)+1)⟩:aT)) (iE _ _ _ (⟨(aE aA (aI)).f0,LS (((aE aA (aI)).f1)+1)⟩:aT)) (fun _ hk=>hk)));(try(have k9:=fV 1 _ rfl));(try(try simp only[show(bd).sz=2 from rfl,aao,aal]at k9));(try(have kA:=gt 1));(try(try simp only[show(bd).sz=2 from rfl,aao,aal]at kA));(try(clear gr fV gt gv))));refine rk (t:=3) (p:=44) (v:= ?vo_w16) (w1:=(wr.setCell ⟨eL,((aI):Int).toNat*2+1,none⟩ (.int .i64 (LS (((aE aA (aI)).f1)+1))))) ?hg ?ho ?hn ?hr ?_;(case ho=>rfl);(case hg=>rfl);(case hn=>rfl);(case hr=>first|(go_simp;done)|(go_simp;rfl));intro w16 hw;have hg:wr.grownBy w16 (some eL):=(by rw[hw];exact ir.2);have iR:Kd.R bd 38 w16 w.heap.size (fun _=>True) (.slice (some ⟨eL,0,none⟩) aA.length cd) L1:=(by rw[hw,UD.out];exact ir.1);clear ir;replace eQ:=Ah (cX (g:=dy) (o:= .cells #[.slice dQ bH.length dR] 56 (0,0)) (bk eQ) hg (Kd.eD bB.out eQ.out (by decide)));replace bB:=Ah (iR);replace HB:=Ah ((by rw[hw];exact cF (HB.out) uL.out:Below w.heap.size w w16));clear hg hw iR));try go_wp2_with (first|(go_at_call 39;(with_reducible refine(ml.calls aZ dy dQ dR bH true _ ?a8 ?a9 ?dm A6.out).mono ?_);(case a8=>exact cb iL HB);(case a9=>exact jC.out);(case dm=>(with_reducible repeat(first|refine aD ?_ _|refine Z ?_|refine aC ?_ _));exact eQ.out);rintro e w' ⟨rfl,⟨nd,rfl⟩⟩;(try first|exact⟨rfl,_,nL _ _ _⟩|exact⟨rfl,_,aaT (nL _ _ _) (congrArg (aaB _) (aau _ _ _))⟩);obtain⟨dI,cd,ni⟩:=Kd.bq bB.out;subst ni;have kS:0≤((aI):Int):=od;have kT:(aI)<(aA.length:Int):=od;obtain⟨n7,uP,yx,yy⟩:=fE (Kd.af bB.out).2.2 (aI) kS kT;cases uP;replace kS:=eq_true kS;replace kT:=eq_true kT;have kU:0≤((aI):Int):=od;have kV:(aI)<(aA.length:Int):=od;obtain⟨tm,uQ,yz,z2⟩:=fE (Kd.af bB.out).2.2 (aI) kU kV;obtain rfl:n7=tm:=(by injection uQ);replace kU:=eq_true kU;replace kV:=eq_true kV;have uR:0≤((aI):Int):=od;have uS:(aI)<(aA.length:Int):=od;obtain⟨JW,L2,HZ,Ha⟩:=fE (Kd.af bB.out).2.2 (aI) uR uS;obtain rfl:n7=JW:=(by injection L2);replace uR:=eq_true uR;replace uS:=eq_true uS;have kg:0≤((aI):Int):=od;have ki:((aI):Int)<((aA.length:Int):Int):=od;obtain⟨eL,Kj,nE,nF,uK,Kk,nG⟩:=Kd.nW bB.out (by omega);(first|cases nE|(injection nE with dB iV iW;(first|subst dB|(injection dB with dB;subst dB));subst iW;clear iV));have uL:=Ah nF;have Kl:=Ah nG;clear nF uK nG;(first|simp only[db]at yx|skip);(first|simp only[db]at yy|skip);(first|simp only[db]at yz|skip);(first|simp only[db]at z2|skip);(first|simp only[db]at HZ|skip);(first|simp only[db]at Ha|skip);obtain⟨Km,th,nH,kG,kH⟩:=Kd.hJ bB.out kW ((aI):Int) kg ki;obtain rfl:=lN nH;have Hr:wr.cell? ⟨eL,((aI):Int).toNat*2,none⟩=some (.int .i64 ((aE aA (aI)).f0)):=kG 0 _ rfl;have Hs:wr.cell? ⟨eL,((aI):Int).toNat*2+1,none⟩=some (.int .i64 ((aE aA (aI)).f1)):=kG 1 _ rfl;have Ht:wr.frozen? ⟨eL,((aI):Int).toNat*2,none⟩=false:=kH 0;have Hu:wr.frozen? ⟨eL,((aI):Int).toNat*2+1,none⟩=false:=kH 1;clear th kG kH nH;replace kg:=eq_true kg;replace ki:=eq_true ki;have gu:=Ah (show Kd.R bd 38 wr w.heap.size (fun _=>True) (.slice (some ⟨eL,0,none⟩) aA.length cd) aA from(rr bB.out));obtain⟨uM,gr,gv,fV,gt⟩:=Kd.hJ gu.out kW ((aI):Int) (od) (by have h_:((aI):Int)<((aA.length:Int):Int):=od;first|exact h_|(have e_:=(Kd.af bB.out).1;omega)|simpa using h_);obtain rfl:=lN gv;have ir:=Kd.lT gu.out ((aI):Int) (od) (by have h_:((aI):Int)<((aA.length:Int):Int):=od;first|exact h_|(have e_:=(Kd.af bB.out).1;omega)|simpa using h_) (seg:=[.int .i64 (LS (((aE aA (aI)).f1)+1))]) (j:=1) gr fV (show 2≤2 from by decide) (x':=(⟨(aE aA (aI)).f0,LS (((aE aA (aI)).f1)+1)⟩:aT)) (iE _ _ _ (⟨(aE aA (aI)).f0,LS (((aE aA (aI)).f1)+1)⟩:aT)) (fun _ hk=>hk);have k9:=fV 1 _ rfl;(try simp only[show(bd).sz=2 from rfl,aao,aal]at k9);have kA:=gt 1;(try simp only[show(bd).sz=2 from rfl,aao,aal]at kA);clear gr fV gt gv)|((with_reducible refine rl (t:=3) (p:=44) rfl ?_);(try(rw[E3 wr];generalize iy:aaB wr _=wr;replace bB:=Ah (Kd.FS iy bB.out);replace eQ:=Ah (Eg iy eQ.out);replace HB:=Ah (EC iy HB.out);clear iy;(try(have gu:=Ah (show Kd.R bd 38 wr w.heap.size (fun _=>True) (.slice (some ⟨eL,0,none⟩) aA.length cd) aA from(rr bB.out))));(try(obtain⟨uM,gr,gv,fV,gt⟩:=Kd.hJ gu.out kW ((aI):Int) (od) (by have h_:((aI):Int)<((aA.length:Int):Int):=od;first|exact h_|(have e_:=(Kd.af bB.out).1;omega)|simpa using h_)));(try(obtain rfl:=lN gv));(try(have ir:=Kd.lT gu.out ((aI):Int) (od) (by have h_:((aI):Int)<((aA.length:Int):Int):=od;first|exact h_|(have e_:=(Kd.af bB.out).1;omega)|simpa using h_) (seg:=[.int .i64 (LS (((aE aA (aI)).f1)+1))]) (j:=1) gr fV (show 2≤2 from by decide) (x':=(⟨(aE aA (aI)).f0,LS (((aE aA (aI)).f1)+1)⟩:aT)) (iE _ _ _ (⟨(aE aA (aI)).f0,LS (((aE aA (aI)).f1)+1)⟩:aT)) (fun _ hk=>hk)));(try(have k9:=fV 1 _ rfl));(try(try simp only[show(bd).sz=2 from rfl,aao,aal]at k9));(try(have kA:=gt 1));(try(try simp only[show(bd).sz=2 from rfl,aao,aal]at kA));(try(clear gr fV gt gv))));refine rk (t:=3) (p:=44) (v:= ?vo_w16) (w1:=(wr.setCell ⟨eL,((aI):Int).toNat*2+1,none⟩ (.int .i64 (LS (((aE aA (aI)).f1)+1))))) ?hg ?ho ?hn ?hr ?_;(case ho=>rfl);(case hg=>rfl);(case hn=>rfl);(case hr=>first|(go_simp;done)|(go_simp;rfl));intro w16 hw;have hg:wr.grownBy w16 (some eL):=(by rw[hw];exact ir.2);have iR:Kd.R bd 38 w16 w.heap.size (fun _=>True) (.slice (some ⟨eL,0,none⟩) aA.length cd) L1:=(by rw[hw,UD.out];exact ir.1);clear ir;replace eQ:=Ah (cX (g:=dy) (o:= .cells #[.slice dQ bH.length dR] 56 (0,0)) (bk eQ) hg (Kd.eD bB.out eQ.out (by decide)));replace bB:=Ah (iR);replace HB:=Ah ((by rw[hw];exact cF (HB.out) uL.out:Below w.heap.size w w16));clear hg hw iR)))
   go_roundg k1
   case measure=>have:=bU.out;omega
   case rel=>exact⟨(L1),(LS (aZ+1)),e3,H',⟨by have:=bU.out;omega⟩,⟨rr bB.out⟩,⟨bk eQ⟩,⟨bs HB⟩⟩
def i5.j0:Nat→Int→Bool→List (a7)→Option ((List (aT))×Bool)
 |0,_,_,_=>none
 |k+1,x1,gU,x615000=>if gU=true then(some (([]:List (aT)),false))else((dJ.f k x615000).bind fun L3=>((gC.f k x1 L3).bind fun We=>(some (We,true))))
def i5.f(k:Nat)(J:List (a7))(a1:Int):Option ((List (aT))×Bool):=(bh.f k J).bind fun L4=>(if L4=true then((hF.f a1 0 200).bind fun G2=>(i5.j0 k a1 (!G2) J))else(i5.j0 k a1 true J))
theorem i5.dL:∀k,(∀y0 y1 y2,aG (i5.j0 k y0 y1 y2) (i5.j0 (k+1) y0 y1 y2))
 |0=>fun _ _ _ r h=>by simp[i5.j0]at h
 |k+1=>by
  have bw:=i5.dL k
  ·
   intro y0 y1 y2;unfold i5.j0
   repeat' with_reducible first|exact bw _ _ _|exact dJ.mono _ _|exact bh.mono _ _|exact gC.mono _ _ _|exact aG.refl _|exact aG.none _|refine aG.ite ?_ ?_|refine aG.bind ?_ (fun _=> ?_)
theorem i5.mono:∀a0 a1 k,aG (i5.f k a0 a1) (i5.f (k+1) a0 a1):=by
 intro a0 a1 k;have bw:=i5.dL k;unfold i5.f
 repeat' with_reducible first|exact bw _ _ _|exact dJ.mono _ _|exact bh.mono _ _|exact gC.mono _ _ _|exact aG.refl _|exact aG.none _|refine aG.ite ?_ ?_|refine aG.bind ?_ (fun _=> ?_)
set_option maxHeartbeats 8000000 in
set_option maxRecDepth 100000 in
theorem i5.calls(k:Nat)(bS:Option Addr)(bL:Nat)(J:List (a7))(a1:Int)(r1:List (aT))(r2:Bool)(w:World)(fT:Kd.C b7 w bS J.length J)(fU:J.length≤bL)(h:i5.f k J a1=some (r1,r2)):
 Calls aad 17 #[.agg #[.slice bS J.length bL],.int .i64 a1] w fun e w'=>∃da:Value,e= .returned (.tuple #[da,.bool r2])∧Kd.R bd 38 w' w.heap.size (fun _=>True) da r1∧Below w.heap.size w w':=by
 have kJ:=ua;have cY:=Ah fT;have dw:=Ah fU;clear fT fU;have HB:=Ah (aaa w.heap.size w);have H:((bh.f k J).bind fun L4=>(if L4=true then((hF.f a1 0 200).bind fun G2=>(i5.j0 k a1 (!G2) J))else(i5.j0 k a1 true J)))=some (r1,r2):=h;clear h;have ke:=Ah H;clear H
 go_enter Try.func17,Try.ntmps17
 go_upto_region 1 with(first|((with_reducible refine ax (N:=2) rfl ?_);refine bA 2 25 #[.slice bS J.length bL] ?_;intro gb614 hg w4 lC hb;have GW614:=gw hg (bs HB);have rC:=gw hg (bs HB);replace HB:=Ah (aK (bs HB) hb);clear hb hg))
 (try simp only[aab,Ok,bY,dl])
 go_cut [14] (fun v14 wc=>∃ (kq:Nat) (OA:Bool),v14= .bool OA∧U (i5.j0 kq a1 OA J=some (r1,r2))∧U (kq≤k)∧U (wc.heap[gb614]?=some (.cells #[(.slice bS J.length bL)] 25 (0,0)))∧U (Below w.heap.size w wc))
 case first=>
  have H:=ke.out;clear ke;replace H:=LT.mp H;obtain⟨L4,kX,H⟩:=H
  try dsimp only at H
  have A5:=Ah kX;clear kX
  by_cases c6:L4=true
  rotate_left
  ·
   replace c6:=dn.mpr c6;subst c6;rw[if_neg dV]at H;have H':=Ah H;clear H;have pH:=ap lC;have pI:=an lC
   go_wp2_with (first|((with_reducible refine bJ (f:=11) rfl ?_);refine gL (some 8) rfl rfl aa9 (by kernel_rfl) rfl #[.agg #[.slice bS J.length bL]] rfl ?_;(with_reducible refine(bh.calls k _ _ J false _ ?a8 ?a9 A5.out).mono ?_);(case a8=>exact cb cY HB);(case a9=>exact dw.out);rintro e rg ⟨rfl,hb⟩;refine⟨_,rfl, ?_⟩;replace lC:=nb lC hb;replace HB:=Ah (aK (aH HB rC) hb);(try clear hb)))
   go_meet
   case rel=>exact⟨_,(true),e3,H',⟨by first|omega|exact bx _⟩,⟨bk lC⟩,⟨aH HB rC⟩⟩
  subst c6;rw[if_pos rfl]at H;replace H:=LT.mp H;obtain⟨G2,kb,H⟩:=H
  try dsimp only at H
  have A7:=Ah kb;clear kb;have H':=Ah H;clear H;have pJ:=ap lC;have qr:=an lC
  go_wp2_with (first|((with_reducible refine bJ (f:=11) rfl ?_);refine gL (some 8) rfl rfl aa9 (by kernel_rfl) rfl #[.agg #[.slice bS J.length bL]] rfl ?_;(with_reducible refine(bh.calls k _ _ J true _ ?a8 ?a9 A5.out).mono ?_);(case a8=>exact cb cY HB);(case a9=>exact dw.out);rintro e w9 ⟨rfl,hb⟩;refine⟨_,rfl, ?_⟩;replace lC:=nb lC hb;replace HB:=Ah (aK (aH HB rC) hb);(try clear hb))|(go_at_call 32;(with_reducible refine(hF.calls a1 0 200 G2 _ A7.out).mono ?_);rintro e w' ⟨rfl,⟨nd,rfl⟩⟩))
  go_meet
  case rel=>exact⟨_,(!G2),e3,H',⟨by first|omega|exact bx _⟩,⟨bk lC⟩,⟨aH HB rC⟩⟩
 case rest=>
  clear ke
  try clear c1
  try clear p2
  try clear c6
  try clear c11
  try clear pH
  try clear pJ
  try clear pI
  try clear qr
  obtain⟨kq,OA,rfl,HA,HJ2,lC,HB⟩:=hcut
  cases kq with
  |zero=>exact absurd HA.out (by simp[i5.j0])
  |succ kf=>
   have H:=HA.out;clear HA;simp only[i5.j0]at H
   by_cases c12:OA=true
   ·
    subst c12;rw[if_pos rfl]at H;simp only[j4,ub]at H;obtain⟨rfl,rfl⟩:=H
    go_wp2
    go_ret2
    exact⟨_,er,by first|exact Kd.fk _ _ _ _ _|exact Kd.iI _ _ _ _ _|exact Kd.iJ _ _ _ _ _|exact Kd.iG _ _ _ _ _|exact Kd.iH _ _ _ _ _,aH HB rC⟩
   replace c12:=dn.mpr c12;subst c12;rw[if_neg dV]at H;replace H:=LT.mp H;obtain⟨L3,rG,H⟩:=H
   try dsimp only at H
   have rh:=Ah rG;clear rG;replace H:=LT.mp H;obtain⟨We,zx,H⟩:=H
   try dsimp only at H
   have Dz:=Ah zx;clear zx;simp only[j4,ub]at H;obtain⟨rfl,rfl⟩:=H;have wU:=ap lC;have wV:=an lC
   go_wp2_with (first|((with_reducible refine bJ (f:=23) rfl ?_);refine gL (some 16) rfl rfl abG (by kernel_rfl) rfl #[.agg #[.slice bS J.length bL]] rfl ?_;(with_reducible refine(dJ.calls kf _ _ J L3 _ ?a8 ?a9 rh.out).mono ?_);(case a8=>exact cb cY HB);(case a9=>exact dw.out);rintro e w16 ⟨v618,rfl,ho0,hb⟩;refine⟨_,rfl, ?_⟩;have Ca:=Ah (Kd.dD ho0 (be (aH HB rC)));replace lC:=nb lC hb;replace HB:=Ah (aK (aH HB rC) hb);(try clear hb ho0))|((with_reducible refine ax (N:=6) rfl ?_);refine bA 6 56 #[.slice none 0 0] ?_;intro UE hg xz Cb hb;replace Ca:=nr Ca hb;have GW620:=gw hg (aH HB rC);have UF:=gw hg (aH HB rC);replace HB:=Ah (aK (aH HB rC) hb);have Y6:=nn lC hg;have NB620_614:=nm lC hg;replace lC:=nb lC hb;clear hb hg;obtain⟨zy,py,rS⟩:=Kd.bq Ca.out;subst rS;have a28:=NB620_614.out;have a29:=Y6.out;have Mf:=ap Cb;have Mg:=an Cb)|((with_reducible refine bJ (f:=38) rfl ?_);refine gL (some 19) rfl rfl Try.func38 (by kernel_rfl) rfl #[.int .i64 a1,.func (.func 39) #[] #[.pointer (some ⟨UE,0,none⟩)]] rfl ?_;(with_reducible refine(gC.calls kf a1 UE zy py L3 We _ ?a8 ?a9 ?dm Dz.out).mono ?_);(case a8=>exact rc Ca Cb);(case a9=>exact(Kd.af Ca.out).2.1);(case dm=>(with_reducible repeat(first|refine aD ?_ _|refine Z ?_|refine aC ?_ _));refine aj (cs:= #[.slice none 0 0]) ?_ 0 _ rfl;(with_reducible repeat(first|refine aD ?_ _|refine Z ?_|refine aC ?_ _));exact Cb.out);rintro e ot ⟨v622,rfl,ho0,hb⟩;refine⟨_,rfl, ?_⟩;replace Ca:=nf Ca Cb hb;have HO623:=Ah (Kd.dD ho0 (be (aW HB rC UF)));replace lC:=Ah (cC (bf lC Y6) hb);replace Cb:=Ah (cC (g:=UE) (o:= .cells #[.slice zy L3.length py] 56 (0,0)) (by(with_reducible repeat(first|refine aD ?_ _|refine Z ?_|refine aC ?_ _));refine aj (cs:= #[.slice none 0 0]) ?_ 0 _ rfl;(with_reducible repeat(first|refine aD ?_ _|refine Z ?_|refine aC ?_ _));exact Cb.out) hb);replace HB:=Ah (aK (aW HB rC UF) hb);(try clear hb ho0)))
   go_ret2
   exact⟨_,er,by(with_reducible repeat(first|apply Kd.bG|apply Kd.bE|apply Kd.al));exact HO623.out,aW HB rC UF⟩
end Go.Proofs.Ytjojdplkgekagaa.G
