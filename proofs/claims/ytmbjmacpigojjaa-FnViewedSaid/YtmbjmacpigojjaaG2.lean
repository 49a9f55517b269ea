-- Printed by a program of this session (drive.py, by way of the kit's print). Not trusted: Lean checks it.
import Derived.Test.YtmbjmacpigojjaaG0
import Derived.Test.YtmbjmacpigojjaaG1
open Bool renaming eq_false_iff→i1,not_true→aaW,not_false→aaX
open ByteArray renaming empty→JZ
open Go.Act renaming put→aab
open Go.Proofs.Try renaming prog→tP,underlying28→aaa,underlying37→aah,underlying26→aam,underlying23→aas,underlying22→aaA,underlying24→aaF,underlying5→aa3,func24→aba,underlying9→abd,func50→abg,func51→abr,func52→abG
open Go.RowKit renaming wrap64→IH
open Go.RowKit.Below renaming refl→qB
open Go.World renaming block_lt_of_cell?→cy
open Int renaming reduceToNat→aaD
open List renaming setIfInBounds_toArray→Ok,length_take→fu,set_cons_zero→mr,set_cons_succ→mQ,length_drop→qC,map_toArray→aac
open Nat renaming le_refl→lQ,le_of_eq→aau
open Option renaming bind_eq_some_iff→Hz,bind_some→aV
open Option.some renaming inj→ec,injEq→kD
open Prod.mk renaming injEq→o7
namespace Go.Proofs.Ytmbjmacpigojjaa.G
open Go.RowKit Go.Proofs.YtmbjmacpigojjaaW.PrintWords Go.Proofs.YtmbjmacpigojjaaW.PrintLast Go.Proofs.YtmbjmacpigojjaaW.PrintMore
attribute [local go_sem] uf ug uk ul uV uW uh ui
set_option linter.unusedVariables false
set_option linter.unusedSimpArgs false
attribute [local go_sem high] Ou
def kX.f(a0:Int)(a1:Int)(a2:Int):Option (Bool):=if a0≥a1 then(some (decide (a0≤a2)))else(some false)
set_option maxHeartbeats 8000000 in
set_option maxRecDepth 100000 in
theorem kX.calls(a0:Int)(a1:Int)(a2:Int)(r:Bool)(w:World)(h:kX.f a0 a1 a2=some r):
 Calls tP 51 #[.int .i64 a0,.int .i64 a1,.int .i64 a2] w fun e w'=>e= .returned (.bool r)∧dE w w':=by
 have H:(if a0≥a1 then(some (decide (a0≤a2)))else(some false))=some r:=h;clear h
 by_cases c4:a0≥a1
 ·
  rw[if_pos c4]at H;have gt:decide (a1≤a0)=true:=decide_eq_true c4;clear c4;obtain rfl:=ec H
  go_enter abr,Try.ntmps51
  go_wp2
  go_ret
  exact⟨by first|rfl|(simp;done)|(simp[*];done),by repeat(first|exact dE.refl _|apply dE.step)⟩
 ·
  rw[if_neg c4]at H;have gt:decide (a1≤a0)=false:=decide_eq_false c4;clear c4;obtain rfl:=ec H
  go_enter abr,Try.ntmps51
  go_wp2
  go_ret
  exact⟨by first|rfl|(simp;done)|(simp[*];done),by repeat(first|exact dE.refl _|apply dE.step)⟩
def oB.f(gn:Int)(iu:ByteArray)(a1:Int):Option (Bool):=(kX.f gn 0 (IH (a1-1))).bind fun GY=>(if GY=true then(some ((iu.size:Int)==8))else(some false))
set_option maxHeartbeats 8000000 in
set_option maxRecDepth 100000 in
theorem oB.calls(gn:Int)(iu:ByteArray)(a1:Int)(r:Bool)(w:World)(h:oB.f gn iu a1=some r):
 Calls tP 53 #[.agg #[.int .i64 gn,.string iu],.int .i64 a1] w fun e w'=>e= .returned (.bool r)∧Below w.heap.size w w':=by
 have jt:=aah;have HB:=Ah (qB w.heap.size w);have H:((kX.f gn 0 (IH (a1-1))).bind fun GY=>(if GY=true then(some ((iu.size:Int)==8))else(some false)))=some r:=h;clear h;replace H:=Hz.mp H;obtain⟨GY,fH,H⟩:=H
 try dsimp only at H
 have A3:=Ah fH;clear fH
 by_cases c4:GY=true
 ·
  subst c4;rw[if_pos rfl]at H;obtain rfl:=ec H
  go_enter Try.func53,Try.ntmps53
  go_wp2_with (first|((with_reducible refine bC (N:=2) rfl ?_);(try(refine fS (by rfl) ?_;dsimp only));refine bK 2 37 #[.int .i64 gn,.string iu] ?_;intro gb101 hg w5 F6 hb;have GW101:=gw hg (bs HB);have Ov:=gw hg (bs HB);replace HB:=Ah (aT (bs HB) hb);clear hb hg;obtain⟨En,Jg⟩:=cH F6;obtain⟨Jh,Ji⟩:=cD F6)|((with_reducible refine ar (f:=51) rfl ?_);refine gL (some 9) rfl rfl abr (by kernel_rfl) rfl #[.int .i64 gn,.int .i64 0,.int .i64 (IH (a1-1))] rfl ?_;(with_reducible refine(kX.calls gn 0 (IH (a1-1)) true _ A3.out).mono ?_);rintro e w' ⟨rfl,⟨nd,rfl⟩⟩;refine⟨_,rfl, ?_⟩))
  go_ret
  exact⟨er,aZ HB Ov⟩
 replace c4:=i1.mpr c4;subst c4;rw[if_neg dO]at H;obtain rfl:=ec H
 go_enter Try.func53,Try.ntmps53
 go_wp2_with (first|((with_reducible refine bC (N:=2) rfl ?_);(try(refine fS (by rfl) ?_;dsimp only));refine bK 2 37 #[.int .i64 gn,.string iu] ?_;intro gb101 hg w7 F6 hb;have GW101:=gw hg (bs HB);have Ov:=gw hg (bs HB);replace HB:=Ah (aT (bs HB) hb);clear hb hg;obtain⟨vE,vF⟩:=cH F6;obtain⟨xM,vG⟩:=cD F6)|((with_reducible refine ar (f:=51) rfl ?_);refine gL (some 9) rfl rfl abr (by kernel_rfl) rfl #[.int .i64 gn,.int .i64 0,.int .i64 (IH (a1-1))] rfl ?_;(with_reducible refine(kX.calls gn 0 (IH (a1-1)) false _ A3.out).mono ?_);rintro e w' ⟨rfl,⟨nd,rfl⟩⟩;refine⟨_,rfl, ?_⟩))
 go_ret
 exact⟨er,aZ HB Ov⟩
mutual
def eI.l0:Nat→List (aQ)→Int→List (aQ)→Int→Int→Option (Bool)
 |0,_,_,_,_,_=>none
 |k+1,x0,x1,x9,nN,ft=>if ft<nN then(if 0≤ft then(if ft<(x9.length:Int)then((oB.f ((aM x9 ft).f0) ((aM x9 ft).f1) x1).bind fun QJ=>(if QJ=true then(if ft≤(x0.length:Int)then((some (x0.take (ft:Int).toNat:List (aQ))).bind fun lL=>(eI.l1 k x0 x1 x9 nN ft lL (lL.length:Int) 0 ((aM x9 ft).f0) ((aM x9 ft).f1)))else(none))else(some false)))else(none))else(none))else((kX.f (x0.length:Int) 1 8).bind fun QK=>(some QK))
def eI.l1:Nat→List (aQ)→Int→List (aQ)→Int→Int→List (aQ)→Int→Int→Int→ByteArray→Option (Bool)
 |0,_,_,_,_,_,_,_,_,_,_=>none
 |k+1,x0,x1,x9,nN,ft,Rw,wX,x24,Vu,x106001=>if x24<wX then(if 0≤x24 then(if x24<(Rw.length:Int)then(if((aM Rw x24).f0)=Vu then(some false)else(eI.l1 k x0 x1 x9 nN ft Rw wX (IH (x24+1)) Vu x106001))else(none))else(none))else(eI.l0 k x0 x1 x9 nN (IH (ft+1)))
end
def eI.f(k:Nat)(l0:List (aQ))(a1:Int):Option (Bool):=eI.l0 k l0 a1 l0 (l0.length:Int) 0
theorem eI.cW:∀k,(∀y0 y1 y2 y3 y4,aE (eI.l0 k y0 y1 y2 y3 y4) (eI.l0 (k+1) y0 y1 y2 y3 y4))∧(∀y0 y1 y2 y3 y4 y5 y6 y7 y8 y9,aE (eI.l1 k y0 y1 y2 y3 y4 y5 y6 y7 y8 y9) (eI.l1 (k+1) y0 y1 y2 y3 y4 y5 y6 y7 y8 y9))
 |0=>⟨fun _ _ _ _ _ r h=>by simp[eI.l0]at h,fun _ _ _ _ _ _ _ _ _ _ r h=>by simp[eI.l1]at h⟩
 |k+1=>by
  obtain⟨be,ih1⟩:=eI.cW k
  refine⟨?_, ?_⟩<;>intros<;>first|unfold eI.l0|unfold eI.l1
  all_goals repeat' first
   |(with_reducible exact be _ _ _ _ _)
   |(with_reducible exact ih1 _ _ _ _ _ _ _ _ _ _)
   |(with_reducible exact aE.refl _)
   |(with_reducible exact aE.none _)
   |(with_reducible refine aE.ite ?_ ?_)
   |(with_reducible refine aE.bind ?_ (fun _=> ?_))
   |exact be _ _ _ _ _
   |exact ih1 _ _ _ _ _ _ _ _ _ _
   |exact aE.none _
   |refine aE.ite ?_ ?_
   |refine aE.bind ?_ (fun _=> ?_)
theorem eI.mono:∀a0 a1 k,aE (eI.f k a0 a1) (eI.f (k+1) a0 a1):=by
 intro a0 a1 k;obtain⟨be,ih1⟩:=eI.cW k;unfold eI.f
 repeat' with_reducible first|exact be _ _ _ _ _|exact ih1 _ _ _ _ _ _ _ _ _ _|exact aE.refl _|exact aE.none _|refine aE.ite ?_ ?_|refine aE.bind ?_ (fun _=> ?_)
set_option maxHeartbeats 8000000 in
set_option maxRecDepth 100000 in
theorem eI.calls(k:Nat)(A0:Option Addr)(c0:Nat)(l0:List (aQ))(a1:Int)(r:Bool)(w:World)(hr0:Kd.C bL w A0 l0.length l0)(hc0:l0.length≤c0)(h:eI.f k l0 a1=some r):
 Calls tP 25 #[.slice A0 l0.length c0,.int .i64 a1] w fun e w'=>e= .returned (.bool r)∧Below w.heap.size w w':=by
 have jt:=aah;have dU:=Ah hr0;have gK:=Ah hc0;clear hr0 hc0;have HB:=Ah (qB w.heap.size w);have H:(eI.l0 k l0 a1 l0 (l0.length:Int) 0)=some r:=h;clear h;have H':=Ah H;clear H
 go_enter Try.func25,Try.ntmps25
 go_wp2
 go_loopg [11] k (fun kq v11 w'=>∃ (ch:Int),v11= .int .i64 ch∧a9 (eI.l0 kq l0 a1 l0 (l0.length:Int) ch=some r)∧a9 (kq≤k)∧a9 (Below w.heap.size w w'))
 case atStart=>exact⟨(0),e3,H',⟨lQ _⟩,⟨bs HB⟩⟩
 case round=>
  clear H'
  try clear c2
  try clear p2
  obtain⟨ch,rfl,HA,cN,HB⟩:=hrel
  cases gk with
  |zero=>exact absurd HA.out (by simp[eI.l0])
  |succ k1=>
   have H:=HA.out;clear HA;simp only[eI.l0]at H
   by_cases c3:ch<(l0.length:Int)
   rotate_left
   ·
    rw[if_neg c3]at H;have f9:decide (ch<(l0.length:Int))=false:=decide_eq_false c3;clear c3;replace H:=Hz.mp H;obtain⟨QK,GZ,H⟩:=H
    try dsimp only at H
    have I3:=Ah GZ;clear GZ;obtain rfl:=ec H
    go_wp2_with (first|((with_reducible refine ar (f:=51) rfl ?_);refine gL (some 37) rfl rfl abr (by kernel_rfl) rfl #[.int .i64 (l0.length:Int),.int .i64 1,.int .i64 8] rfl ?_;(with_reducible refine(kX.calls (l0.length:Int) 1 8 QK _ I3.out).mono ?_);rintro e w' ⟨rfl,⟨nd,rfl⟩⟩;refine⟨_,rfl, ?_⟩))
    go_ret
    exact⟨er,bs HB⟩
   rw[if_pos c3]at H;have f9:decide (ch<(l0.length:Int))=true:=decide_eq_true c3;clear c3
   by_cases c4:0≤ch
   rotate_left
   ·
    rw[if_neg c4]at H;exact absurd H (by simp)
   rw[if_pos c4]at H;have gt:decide (0≤ch)=true:=decide_eq_true c4;clear c4
   by_cases c5:ch<(l0.length:Int)
   rotate_left
   ·
    rw[if_neg c5]at H;exact absurd H (by simp)
   rw[if_pos c5]at H;have iV:decide (ch<(l0.length:Int))=true:=decide_eq_true c5;clear c5;replace H:=Hz.mp H;obtain⟨QJ,gF,H⟩:=H
   try dsimp only at H
   have A6:=Ah gF;clear gF
   by_cases c7:QJ=true
   rotate_left
   ·
    replace c7:=i1.mpr c7;subst c7;rw[if_neg dO]at H;obtain rfl:=ec H;have xr:0≤(ch:Int):=od;have xt:ch<(l0.length:Int):=od;obtain⟨F7,QL,xE,xF⟩:=iA dU.out ch xr xt
    cases QL
    replace xE:=(HB.out.cell (cy w _ xE)).trans xE;replace xF:=(HB.out.cell (cy w _ xF)).trans xF;replace xr:=eq_true xr;replace xt:=eq_true xt
    go_wp2_with (first|((with_reducible refine bC (N:=6) rfl ?_);refine bK 6 37 #[.int .i64 0,.string (⟨#[]⟩:ByteArray)] ?_;intro KO hg rA k7 hb;have GW105:=gw hg (bs HB);have pd:=gw hg (bs HB);replace HB:=Ah (aT (bs HB) hb);clear hb hg;obtain⟨EU,EV⟩:=cH k7;obtain⟨EW,EX⟩:=cD k7)|((with_reducible refine ar (f:=53) rfl ?_);refine gL (some 18) rfl rfl Try.func53 (by kernel_rfl) rfl #[.agg #[.int .i64 ((aM l0 ch).f0),.string ((aM l0 ch).f1)],.int .i64 a1] rfl ?_;(with_reducible refine(oB.calls ((aM l0 ch).f0) ((aM l0 ch).f1) a1 false _ A6.out).mono ?_);rintro e I4 ⟨rfl,hb⟩;refine⟨_,rfl, ?_⟩;replace k7:=Ah (cS (g:=KO) (o:= .cells #[.int .i64 ((aM l0 ch).f0),.string ((aM l0 ch).f1)] 37 (0,0)) (by(with_reducible repeat(first|refine aC ?_ _|refine U ?_|refine X ?_ _));refine aU (cs:= #[.int .i64 ((aM l0 ch).f0),.string (⟨#[]⟩:ByteArray)]) ?_ 1 _ rfl;(with_reducible repeat(first|refine aC ?_ _|refine U ?_|refine X ?_ _));refine aU (cs:= #[.int .i64 0,.string (⟨#[]⟩:ByteArray)]) ?_ 0 _ rfl;(with_reducible repeat(first|refine aC ?_ _|refine U ?_|refine X ?_ _));exact k7.out) hb);replace HB:=Ah (aT (aZ HB pd) hb);(try clear hb)))
    go_ret
    exact⟨er,aZ HB pd⟩
   subst c7;rw[if_pos rfl]at H;have ls:=eq_true (od:0≤ch)
   by_cases c9:ch≤(l0.length:Int)
   rotate_left
   ·
    rw[if_neg c9]at H;exact absurd H (by simp)
   rw[if_pos c9]at H;have tx:=eq_true c9;have QM:decide (ch≤(l0.length:Int))=true:=decide_eq_true c9;clear c9;obtain⟨lL,F8⟩:∃y_:List (aQ),y_=(l0.take (ch:Int).toNat):=⟨_,rfl⟩
   replace H:(eI.l1 k1 l0 a1 l0 (l0.length:Int) ch lL (lL.length:Int) 0 ((aM l0 ch).f0) ((aM l0 ch).f1))=some r:=by first|(rw[F8];with_reducible exact H)|(have bB:=(aV _ _).symm.trans H;rw[F8];with_reducible exact bB)|(have bB:=(aV _ _).symm.trans H;with_reducible exact bB)|with_reducible exact H|(rw[F8];exact H)|exact H
   have Y2:=Ah F8;clear F8;have H':=Ah H;clear H;have xr:0≤(ch:Int):=od;have xt:ch<(l0.length:Int):=od;obtain⟨F7,QL,xE,xF⟩:=iA dU.out ch xr xt
   cases QL
   replace xE:=(HB.out.cell (cy w _ xE)).trans xE;replace xF:=(HB.out.cell (cy w _ xF)).trans xF;replace xr:=eq_true xr;replace xt:=eq_true xt
   go_wp2_with (first|((with_reducible refine bC (N:=6) rfl ?_);refine bK 6 37 #[.int .i64 0,.string (⟨#[]⟩:ByteArray)] ?_;intro KO hg wY k7 hb;have GW105:=gw hg (bs HB);have pd:=gw hg (bs HB);replace HB:=Ah (aT (bs HB) hb);clear hb hg;obtain⟨jC,jD⟩:=cH k7;obtain⟨jE,jF⟩:=cD k7)|((with_reducible refine ar (f:=53) rfl ?_);refine gL (some 18) rfl rfl Try.func53 (by kernel_rfl) rfl #[.agg #[.int .i64 ((aM l0 ch).f0),.string ((aM l0 ch).f1)],.int .i64 a1] rfl ?_;(with_reducible refine(oB.calls ((aM l0 ch).f0) ((aM l0 ch).f1) a1 true _ A6.out).mono ?_);rintro e lP ⟨rfl,hb⟩;refine⟨_,rfl, ?_⟩;replace k7:=Ah (cS (g:=KO) (o:= .cells #[.int .i64 ((aM l0 ch).f0),.string ((aM l0 ch).f1)] 37 (0,0)) (by(with_reducible repeat(first|refine aC ?_ _|refine U ?_|refine X ?_ _));refine aU (cs:= #[.int .i64 ((aM l0 ch).f0),.string (⟨#[]⟩:ByteArray)]) ?_ 1 _ rfl;(with_reducible repeat(first|refine aC ?_ _|refine U ?_|refine X ?_ _));refine aU (cs:= #[.int .i64 0,.string (⟨#[]⟩:ByteArray)]) ?_ 0 _ rfl;(with_reducible repeat(first|refine aC ?_ _|refine U ?_|refine X ?_ _));exact k7.out) hb);replace HB:=Ah (aT (aZ HB pd) hb);(try clear hb);have yP:(ch:Int)≤((l0.length:Int):Int):=od;obtain⟨i013,Y3,_,hsz13,_⟩:=info_parts pb;have Vv:l0.length≤c0:=gK.out;have a0m:Kd.C bL _ (some F7) l0.length l0:=dU.out;have hcut13:=Jb (P:=tP) 24 37 .i64 aaF Y3 (some F7) l0.length c0 ch (od) yP Vv;have QN:=Kd.Jc (m:=(ch:Int).toNat) a0m (by omega);have QO:lL.length=(ch:Int).toNat:=(by rw[Y2.out,fu];omega);rw[←Y2.out]at QN;rw[←QO]at hcut13;have Y4:=Ah QN;have HC110:=Ah (show lL.length≤c0 from by omega);clear QN a0m Vv Y3 hsz13;have KY13:=Ah QO;clear QO;replace yP:=eq_true yP))
   go_loopg [24] k1 (fun kq v24 w'=>∃ (jI:Int),v24= .int .i64 jI∧a9 (eI.l1 kq l0 a1 l0 (l0.length:Int) ch lL (lL.length:Int) jI ((aM l0 ch).f0) ((aM l0 ch).f1)=some r)∧a9 (kq≤k1)∧a9 (w'.heap[KO]?=some (.cells #[.int .i64 ((aM l0 ch).f0),.string ((aM l0 ch).f1)] 37 (0,0)))∧a9 (Below w.heap.size w w'))
   case atStart=>exact⟨(0),e3,H',⟨lQ _⟩,⟨bk k7⟩,⟨aZ HB pd⟩⟩
   case round=>
    clear H'
    try clear p1
    try clear q1
    try clear hx1
    try clear c2
    try clear p2
    try clear c3
    try clear f9
    try clear c4
    try clear gt
    try clear c5
    try clear iV
    try clear c7
    try clear c8
    try clear ls
    try clear c9
    try clear tx
    try clear QM
    try clear p10
    try clear q10
    try clear hx10
    try clear yP
    try clear jC jD
    try clear jE jF
    try clear xE
    try clear xF
    try clear xr
    try clear p2
    try clear xt
    try clear yP
    obtain⟨jI,rfl,HA,jf,k7,HB⟩:=hrel
    cases gk with
    |zero=>exact absurd HA.out (by simp[eI.l1])
    |succ k2=>
     have H:=HA.out;clear HA;simp only[eI.l1]at H
     by_cases c14:jI<(lL.length:Int)
     rotate_left
     ·
      rw[if_neg c14]at H;have KP:decide (jI<(lL.length:Int))=false:=decide_eq_false c14;clear c14;have H':=Ah H;clear H
      go_wp2
      go_roundg k2
      case measure=>have:=cN.out;have:=jf.out;omega
      case rel=>exact⟨(IH (ch+1)),e3,H',⟨by have:=cN.out;have:=jf.out;omega⟩,⟨aZ HB pd⟩⟩
     rw[if_pos c14]at H;have KP:decide (jI<(lL.length:Int))=true:=decide_eq_true c14;clear c14
     by_cases c15:0≤jI
     rotate_left
     ·
      rw[if_neg c15]at H;exact absurd H (by simp)
     rw[if_pos c15]at H;have Y5:decide (0≤jI)=true:=decide_eq_true c15;clear c15
     by_cases c16:jI<(lL.length:Int)
     rotate_left
     ·
      rw[if_neg c16]at H;exact absurd H (by simp)
     rw[if_pos c16]at H;have xW:decide (jI<(lL.length:Int))=true:=decide_eq_true c16;clear c16
     by_cases c17:((aM lL jI).f0)=((aM l0 ch).f0)
     ·
      rw[if_pos c17]at H;have KQ:(((aM lL jI).f0)==((aM l0 ch).f0))=true:=beq_iff_eq.mpr c17;have Y6:(((aM lL jI).f0) !=((aM l0 ch).f0))=false:=bne_eq_false_iff_eq.mpr c17;clear c17;obtain rfl:=ec H;have Ab:0≤(jI:Int):=od;have Ac:jI<(lL.length:Int):=od;obtain⟨Ow,QP,z1,z2⟩:=iA Y4.out jI Ab Ac;obtain rfl:F7=Ow:=(by injection QP);replace z1:=(HB.out.cell (cy w _ z1)).trans z1;replace z2:=(HB.out.cell (cy w _ z2)).trans z2;replace Ab:=eq_true Ab;replace Ac:=eq_true Ac
      go_wp2_with (first|((with_reducible refine bC (N:=8) rfl ?_);refine bK 8 37 #[.int .i64 0,.string (⟨#[]⟩:ByteArray)] ?_;intro gb112 hg jO F9 hb;have GW112:=gw hg (aZ HB pd);have Ox:=gw hg (aZ HB pd);replace HB:=Ah (aT (aZ HB pd) hb);have Ig:=nn k7 hg;have MA:=nm k7 hg;replace k7:=nb k7 hb;clear hb hg;have hnb19:=MA.out;have hnc19:=Ig.out;obtain⟨J7,J8⟩:=cH F9;obtain⟨J9,JA⟩:=cD F9;obtain⟨JB,JC⟩:=cH k7;obtain⟨JD,JE⟩:=cD k7))
      go_ret
      exact⟨er,aj HB pd Ox⟩
     rw[if_neg c17]at H;have KQ:(((aM lL jI).f0)==((aM l0 ch).f0))=false:=beq_eq_false_iff_ne.mpr c17;have Y6:(((aM lL jI).f0) !=((aM l0 ch).f0))=true:=bne_iff_ne.mpr c17;have H':=Ah H;clear H;have Ab:0≤(jI:Int):=od;have Ac:jI<(lL.length:Int):=od;obtain⟨Ow,QP,z1,z2⟩:=iA Y4.out jI Ab Ac;obtain rfl:F7=Ow:=(by injection QP);replace z1:=(HB.out.cell (cy w _ z1)).trans z1;replace z2:=(HB.out.cell (cy w _ z2)).trans z2;replace Ab:=eq_true Ab;replace Ac:=eq_true Ac
     go_wp2_with (first|((with_reducible refine bC (N:=8) rfl ?_);refine bK 8 37 #[.int .i64 0,.string (⟨#[]⟩:ByteArray)] ?_;intro gb112 hg Bp F9 hb;have GW112:=gw hg (aZ HB pd);have Ox:=gw hg (aZ HB pd);replace HB:=Ah (aT (aZ HB pd) hb);have Ig:=nn k7 hg;have MA:=nm k7 hg;replace k7:=nb k7 hb;clear hb hg;have Y7:=MA.out;have Y8:=Ig.out;obtain⟨NX,NY⟩:=cH F9;obtain⟨NZ,Na⟩:=cD F9;obtain⟨Vw,Vx⟩:=cH k7;obtain⟨Vy,Vz⟩:=cD k7))
     go_roundg k2
     case measure=>have:=cN.out;have:=jf.out;omega
     case rel=>exact⟨(IH (jI+1)),e3,H',⟨by have:=cN.out;have:=jf.out;omega⟩,⟨bf k7 Ig⟩,⟨aj HB pd Ox⟩⟩
mutual
def ey.l0:Nat→ByteArray→List (aQ)→Int→Int→Option (ByteArray)
 |0,_,_,_,_=>none
 |k+1,x3,de,o3,kS=>if kS<o3 then(if 0≤kS then(if kS<(de.length:Int)then((some (([((aM de kS).f0) %256]:List Int):List Int)).bind fun pn=>(if(strOfNums pn).size+((aM de kS).f1).size≤9223372036854775807 then(if x3.size+((strOfNums pn)++((aM de kS).f1)).size≤9223372036854775807 then(ey.l0 k (x3++((strOfNums pn)++((aM de kS).f1))) de o3 (IH (kS+1)))else(none))else(none)))else(none))else(none))else(ey.l1 k x3 0 0)
def ey.l1:Nat→ByteArray→Int→Int→Option (ByteArray)
 |0,_,_,_=>none
 |k+1,x3,x6,x7=>if x7<(x3.size:Int)then(if 0≤x7 then(ey.l1 k x3 (Go.bits .xor .u8 x6 (bt x3 x7)) (IH (x7+1)))else(none))else((some (([x6]:List Int):List Int)).bind fun xu=>(if x3.size+(strOfNums xu).size≤9223372036854775807 then(some (x3++(strOfNums xu)))else(none)))
end
def ey.f(k:Nat)(l0:List (aQ)):Option (ByteArray):=ey.l0 k (strOfNums (([((l0.length:Int)) %256]:List Int))) l0 (l0.length:Int) 0
theorem ey.cW:∀k,(∀y0 y1 y2 y3,aE (ey.l0 k y0 y1 y2 y3) (ey.l0 (k+1) y0 y1 y2 y3))∧(∀y0 y1 y2,aE (ey.l1 k y0 y1 y2) (ey.l1 (k+1) y0 y1 y2))
 |0=>⟨fun _ _ _ _ r h=>by simp[ey.l0]at h,fun _ _ _ r h=>by simp[ey.l1]at h⟩
 |k+1=>by
  obtain⟨be,ih1⟩:=ey.cW k
  refine⟨?_, ?_⟩<;>intros<;>first|unfold ey.l0|unfold ey.l1
  all_goals repeat' first
   |(with_reducible exact be _ _ _ _)
   |(with_reducible exact ih1 _ _ _)
   |(with_reducible exact aE.refl _)
   |(with_reducible exact aE.none _)
   |(with_reducible refine aE.ite ?_ ?_)
   |(with_reducible refine aE.bind ?_ (fun _=> ?_))
   |exact be _ _ _ _
   |exact ih1 _ _ _
   |exact aE.none _
   |refine aE.ite ?_ ?_
   |refine aE.bind ?_ (fun _=> ?_)
theorem ey.mono:∀a0 k,aE (ey.f k a0) (ey.f (k+1) a0):=by
 intro a0 k;obtain⟨be,ih1⟩:=ey.cW k;unfold ey.f
 repeat' with_reducible first|exact be _ _ _ _|exact ih1 _ _ _|exact aE.refl _|exact aE.none _|refine aE.ite ?_ ?_|refine aE.bind ?_ (fun _=> ?_)
set_option maxHeartbeats 8000000 in
set_option maxRecDepth 100000 in
theorem ey.calls(k:Nat)(A0:Option Addr)(c0:Nat)(l0:List (aQ))(r:ByteArray)(w:World)(hr0:Kd.C bL w A0 l0.length l0)(hc0:l0.length≤c0)(h:ey.f k l0=some r):
 Calls tP 27 #[.slice A0 l0.length c0] w fun e w'=>e= .returned (.string r)∧Below w.heap.size w w':=by
 have jt:=aah;have dU:=Ah hr0;have gK:=Ah hc0;clear hr0 hc0;have HB:=Ah (qB w.heap.size w);have H:(ey.l0 k (strOfNums (([((l0.length:Int)) %256]:List Int))) l0 (l0.length:Int) 0)=some r:=h;clear h;obtain⟨y113,hy113⟩:∃y_:List Int,y_=(([((l0.length:Int)) %256]:List Int)):=⟨_,rfl⟩
 replace H:(ey.l0 k (strOfNums y113) l0 (l0.length:Int) 0)=some r:=by first|(rw[hy113];with_reducible exact H)|(have bB:=(aV _ _).symm.trans H;rw[hy113];with_reducible exact bB)|(have bB:=(aV _ _).symm.trans H;with_reducible exact bB)|with_reducible exact H|(rw[hy113];exact H)|exact H
 have Y9:=Ah hy113;clear hy113;have H':=Ah H;clear H
 go_enter Try.func27,Try.ntmps27
 go_wp2_with (first|((with_reducible refine bC (N:=11) rfl ?_);refine Kd.oR (Kd.int .u8) _ 5 ?hg (N:=11) ?hd (xs:=([((l0.length:Int)) %256]:List Int)) (inner:=[.int .u8 (((l0.length:Int)) %256)]) (ok:=fun _=>True) (okp:=fun _=>True) ?hr ?hp (fun _ hk=>hk) trivial (qB _ _) (lQ _) (by simp) ?_;(case hd=>rfl);(case hg=>rfl);(case hr=>first|(go_simp;done)|(go_simp;rfl));(case hp=>exact(cU.one (show Kd.M (Kd.int .u8) _ _ _ (((l0.length:Int)) %256) [.int .u8 (((l0.length:Int)) %256)]from rfl) (cU.none _ _)));intro v114 w2 ho3 hb iH iB;clear iH iB;(first|rw[←Y9.out]at ho3|(simp only[aaD]at ho3;rw[←Y9.out]at ho3));have HO115:=Ah (Kd.b8 ho3 (bF (bs HB)));replace HB:=Ah (aT (bs HB) hb);clear hb ho3;have a0n:=Bz (P:=tP) aaA aa3 abd (Kd.ue HO115.out)))
 go_loopg [3,15] k (fun kq v3 v15 w'=>∃ (fB:ByteArray) (dn:Int),v3= .string fB∧v15= .int .i64 dn∧a9 (ey.l0 kq fB l0 (l0.length:Int) dn=some r)∧a9 (kq≤k)∧a9 (Below w.heap.size w w'))
 case atStart=>exact⟨(strOfNums y113),(0),e3,e3,H',⟨lQ _⟩,⟨bs HB⟩⟩
 case round=>
  clear H'
  try clear c2
  try clear p2
  try clear a0n
  obtain⟨fB,dn,rfl,rfl,HA,cN,HB⟩:=hrel
  cases gk with
  |zero=>exact absurd HA.out (by simp[ey.l0])
  |succ k1=>
   have H:=HA.out;clear HA;simp only[ey.l0]at H
   by_cases c5:dn<(l0.length:Int)
   rotate_left
   ·
    rw[if_neg c5]at H;have iV:decide (dn<(l0.length:Int))=false:=decide_eq_false c5;clear c5;have H':=Ah H;clear H
    go_wp2
    go_loopg [6,7] k1 (fun kq v6 v7 w'=>∃ (nF:Int) (qu:Int),v6= .int .u8 nF∧v7= .int .i64 qu∧a9 (ey.l1 kq fB nF qu=some r)∧a9 (kq≤k1)∧a9 (Below w.heap.size w w'))
    case atStart=>exact⟨(0),(0),e3,e3,H',⟨lQ _⟩,⟨bs HB⟩⟩
    case round=>
     clear H'
     try clear p1
     try clear q1
     try clear hx1
     try clear hcv1
     try clear c2
     try clear p2
     try clear a0n
     try clear c5
     try clear iV
     try clear c6
     try clear iG
     try clear p6
     try clear c7
     try clear lu
     try clear c8
     try clear ls
     try clear Ad
     try clear c8b2
     try clear c9
     try clear tx
     try clear QM
     try clear a0o
     try clear p11
     try clear Dl
     try clear hx11
     try clear hcv14
     try clear jC jD
     try clear CC CD
     try clear jE jF
     try clear CE CF
     try clear JF
     try clear JG
     try clear LF
     try clear p2
     try clear LG
     obtain⟨nF,qu,rfl,rfl,HA,jf,HB⟩:=hrel
     cases gk with
     |zero=>exact absurd HA.out (by simp[ey.l1])
     |succ k2=>
      have H:=HA.out;clear HA;simp only[ey.l1]at H
      by_cases c16:qu<(fB.size:Int)
      ·
       rw[if_pos c16]at H;have xW:decide (qu<(fB.size:Int))=true:=decide_eq_true c16;clear c16
       by_cases c17:0≤qu
       rotate_left
       ·
        rw[if_neg c17]at H;exact absurd H (by simp)
       rw[if_pos c17]at H;have KQ:decide (0≤qu)=true:=decide_eq_true c17;clear c17;have H':=Ah H;clear H;have p18:0≤(qu:Int):=od;have q18:qu<(fB.size:Int):=od;have hx18:=xP fB qu;replace p18:=eq_true p18;replace q18:=eq_true q18
       go_wp2
       go_roundg k2
       case measure=>have:=cN.out;have:=jf.out;omega
       case rel=>exact⟨(Go.bits .xor .u8 nF (bt fB qu)),(IH (qu+1)),e3,e3,H',⟨by have:=cN.out;have:=jf.out;omega⟩,⟨bs HB⟩⟩
      rw[if_neg c16]at H;have xW:decide (qu<(fB.size:Int))=false:=decide_eq_false c16;clear c16;obtain⟨xu,FA⟩:∃y_:List Int,y_=(([nF]:List Int)):=⟨_,rfl⟩
      replace H:(if fB.size+(strOfNums xu).size≤9223372036854775807 then(some (fB++(strOfNums xu)))else(none))=some r:=by first|(rw[FA];with_reducible exact H)|(have bB:=(aV _ _).symm.trans H;rw[FA];with_reducible exact bB)|(have bB:=(aV _ _).symm.trans H;with_reducible exact bB)|with_reducible exact H|(rw[FA];exact H)|exact H
      have YA:=Ah FA;clear FA
      by_cases c19:fB.size+(strOfNums xu).size≤9223372036854775807
      rotate_left
      ·
       rw[if_neg c19]at H;exact absurd H (by simp)
      rw[if_pos c19]at H;have Ca:=eq_true c19;have FB:decide (fB.size+(strOfNums xu).size≤9223372036854775807)=true:=decide_eq_true c19
      try have c19b2:(9223372036854775807<fB.size+(strOfNums xu).size)=False:=eq_false (Nat.not_lt.2 c19)
      obtain rfl:=ec H
      go_wp2_with (first|((with_reducible refine bC (N:=43) rfl ?_);refine Kd.oR (Kd.int .u8) _ 5 ?hg (N:=43) ?hd (xs:=([nF]:List Int)) (inner:=[.int .u8 nF]) (ok:=fun _=>True) (okp:=fun _=>True) ?hr ?hp (fun _ hk=>hk) trivial (qB _ _) (lQ _) (by simp) ?_;(case hd=>rfl);(case hg=>rfl);(case hr=>first|(go_simp;done)|(go_simp;rfl));(case hp=>exact(cU.one (show Kd.M (Kd.int .u8) _ _ _ nF [.int .u8 nF]from rfl) (cU.none _ _)));intro v122 py Ga hb iH iB;clear iH iB;(first|rw[←YA.out]at Ga|(simp only[aaD]at Ga;rw[←YA.out]at Ga));have HO123:=Ah (Kd.b8 Ga (bF (bs HB)));replace HB:=Ah (aT (bs HB) hb);clear hb Ga;have hcv22:=Bz (P:=tP) aaA aa3 abd (Kd.ue HO123.out)))
      go_ret
      exact⟨er,bs HB⟩
   rw[if_pos c5]at H;have iV:decide (dn<(l0.length:Int))=true:=decide_eq_true c5;clear c5
   by_cases c6:0≤dn
   rotate_left
   ·
    rw[if_neg c6]at H;exact absurd H (by simp)
   rw[if_pos c6]at H;have iG:decide (0≤dn)=true:=decide_eq_true c6;clear c6
   by_cases c7:dn<(l0.length:Int)
   rotate_left
   ·
    rw[if_neg c7]at H;exact absurd H (by simp)
   rw[if_pos c7]at H;have lu:decide (dn<(l0.length:Int))=true:=decide_eq_true c7;clear c7;obtain⟨pn,FC⟩:∃y_:List Int,y_=(([((aM l0 dn).f0) %256]:List Int)):=⟨_,rfl⟩
   replace H:(if(strOfNums pn).size+((aM l0 dn).f1).size≤9223372036854775807 then(if fB.size+((strOfNums pn)++((aM l0 dn).f1)).size≤9223372036854775807 then(ey.l0 k1 (fB++((strOfNums pn)++((aM l0 dn).f1))) l0 (l0.length:Int) (IH (dn+1)))else(none))else(none))=some r:=by first|(rw[FC];with_reducible exact H)|(have bB:=(aV _ _).symm.trans H;rw[FC];with_reducible exact bB)|(have bB:=(aV _ _).symm.trans H;with_reducible exact bB)|with_reducible exact H|(rw[FC];exact H)|exact H
   have YB:=Ah FC;clear FC
   by_cases c8:(strOfNums pn).size+((aM l0 dn).f1).size≤9223372036854775807
   rotate_left
   ·
    rw[if_neg c8]at H;exact absurd H (by simp)
   rw[if_pos c8]at H;have ls:=eq_true c8;have Ad:decide ((strOfNums pn).size+((aM l0 dn).f1).size≤9223372036854775807)=true:=decide_eq_true c8
   try have c8b2:(9223372036854775807<(strOfNums pn).size+((aM l0 dn).f1).size)=False:=eq_false (Nat.not_lt.2 c8)
   by_cases c9:fB.size+((strOfNums pn)++((aM l0 dn).f1)).size≤9223372036854775807
   rotate_left
   ·
    rw[if_neg c9]at H;exact absurd H (by simp)
   rw[if_pos c9]at H;have tx:=eq_true c9;have QM:decide (fB.size+((strOfNums pn)++((aM l0 dn).f1)).size≤9223372036854775807)=true:=decide_eq_true c9
   try have a0o:(9223372036854775807<fB.size+((strOfNums pn)++((aM l0 dn).f1)).size)=False:=eq_false (Nat.not_lt.2 c9)
   (try(have c9b2s:=a0o;simp only[ByteArray.size_append]at c9b2s));have H':=Ah H;clear H;have LF:0≤(dn:Int):=od;have LG:dn<(l0.length:Int):=od;obtain⟨ad116,e116,JF,JG⟩:=iA dU.out dn LF LG
   cases e116
   replace JF:=(HB.out.cell (cy w _ JF)).trans JF;replace JG:=(HB.out.cell (cy w _ JG)).trans JG;replace LF:=eq_true LF;replace LG:=eq_true LG
   go_wp2_with (first|((with_reducible refine bC (N:=5) rfl ?_);refine bK 5 37 #[.int .i64 0,.string (⟨#[]⟩:ByteArray)] ?_;intro gb117 hg wY Cb hb;have GW117:=gw hg (bs HB);have Oy:=gw hg (bs HB);replace HB:=Ah (aT (bs HB) hb);clear hb hg;obtain⟨jC,jD⟩:=cH Cb;obtain⟨jE,jF⟩:=cD Cb)|((with_reducible refine bC (N:=23) rfl ?_);refine Kd.oR (Kd.int .u8) _ 5 ?hg (N:=23) ?hd (xs:=([((aM l0 dn).f0) %256]:List Int)) (inner:=[.int .u8 (((aM l0 dn).f0) %256)]) (ok:=fun _=>True) (okp:=fun _=>True) ?hr ?hp (fun _ hk=>hk) trivial (qB _ _) (lQ _) (by simp) ?_;(case hd=>rfl);(case hg=>rfl);(case hr=>first|(go_simp;done)|(go_simp;rfl));(case hp=>exact(cU.one (show Kd.M (Kd.int .u8) _ _ _ (((aM l0 dn).f0) %256) [.int .u8 (((aM l0 dn).f0) %256)]from rfl) (cU.none _ _)));intro v119 lP rp hb iH iB;clear iH iB;(first|rw[←YB.out]at rp|(simp only[aaD]at rp;rw[←YB.out]at rp));have HO120:=Ah (Kd.b8 rp (bF (aZ HB Oy)));replace Cb:=Ah (cS (g:=gb117) (o:= .cells #[.int .i64 ((aM l0 dn).f0),.string ((aM l0 dn).f1)] 37 (0,0)) (by(with_reducible repeat(first|refine aC ?_ _|refine U ?_|refine X ?_ _));refine aU (cs:= #[.int .i64 ((aM l0 dn).f0),.string (⟨#[]⟩:ByteArray)]) ?_ 1 _ rfl;(with_reducible repeat(first|refine aC ?_ _|refine U ?_|refine X ?_ _));refine aU (cs:= #[.int .i64 0,.string (⟨#[]⟩:ByteArray)]) ?_ 0 _ rfl;(with_reducible repeat(first|refine aC ?_ _|refine U ?_|refine X ?_ _));exact Cb.out) hb);replace HB:=Ah (aT (aZ HB Oy) hb);clear hb rp;have hcv14:=Bz (P:=tP) aaA aa3 abd (Kd.ue HO120.out);obtain⟨CC,CD⟩:=cH Cb;obtain⟨CE,CF⟩:=cD Cb))
   go_roundg k1
   case measure=>have:=cN.out;omega
   case rel=>exact⟨(fB++((strOfNums pn)++((aM l0 dn).f1))),(IH (dn+1)),e3,e3,H',⟨by have:=cN.out;omega⟩,⟨aZ HB Oy⟩⟩
mutual
def eS.l0:Nat→List ByteArray→Int→Int→List ByteArray→List (aQ)→Option (Bool)
 |0,_,_,_,_,_=>none
 |k+1,x8,x9,nN,CG,z3=>if nN<x9 then(if 0≤nN then(if nN<(x8.length:Int)then(if((dN JZ x8 nN).size:Int)=8 then(eS.l0 k x8 x9 (IH (nN+1)) CG z3)else(some false))else(none))else(none))else(eS.l1 k z3 (z3.length:Int) 0 CG z3)
def eS.l1:Nat→List (aQ)→Int→Int→List ByteArray→List (aQ)→Option (Bool)
 |0,_,_,_,_,_=>none
 |k+1,Dm,x20,Dn,CG,z3=>if Dn<x20 then(if 0≤Dn then(if Dn<(Dm.length:Int)then((oB.f ((aM Dm Dn).f0) ((aM Dm Dn).f1) (CG.length:Int)).bind fun QQ=>(if QQ=true then(eS.l1 k Dm x20 (IH (Dn+1)) CG z3)else(some false)))else(none))else(none))else((kX.f (CG.length:Int) 1 32).bind fun QR=>(if QR=true then(some (decide ((z3.length:Int)≤60)))else(some false)))
end
def eS.f(k:Nat)(aG:List ByteArray)(aD:List (aQ)):Option (Bool):=eS.l0 k aG (aG.length:Int) 0 aG aD
theorem eS.cW:∀k,(∀y0 y1 y2 y3 y4,aE (eS.l0 k y0 y1 y2 y3 y4) (eS.l0 (k+1) y0 y1 y2 y3 y4))∧(∀y0 y1 y2 y3 y4,aE (eS.l1 k y0 y1 y2 y3 y4) (eS.l1 (k+1) y0 y1 y2 y3 y4))
 |0=>⟨fun _ _ _ _ _ r h=>by simp[eS.l0]at h,fun _ _ _ _ _ r h=>by simp[eS.l1]at h⟩
 |k+1=>by
  obtain⟨be,ih1⟩:=eS.cW k
  refine⟨?_, ?_⟩<;>intros<;>first|unfold eS.l0|unfold eS.l1
  all_goals repeat' first
   |(with_reducible exact be _ _ _ _ _)
   |(with_reducible exact ih1 _ _ _ _ _)
   |(with_reducible exact aE.refl _)
   |(with_reducible exact aE.none _)
   |(with_reducible refine aE.ite ?_ ?_)
   |(with_reducible refine aE.bind ?_ (fun _=> ?_))
   |exact be _ _ _ _ _
   |exact ih1 _ _ _ _ _
   |exact aE.none _
   |refine aE.ite ?_ ?_
   |refine aE.bind ?_ (fun _=> ?_)
theorem eS.mono:∀a0 a1 k,aE (eS.f k a0 a1) (eS.f (k+1) a0 a1):=by
 intro a0 a1 k;obtain⟨be,ih1⟩:=eS.cW k;unfold eS.f
 repeat' with_reducible first|exact be _ _ _ _ _|exact ih1 _ _ _ _ _|exact aE.refl _|exact aE.none _|refine aE.ite ?_ ?_|refine aE.bind ?_ (fun _=> ?_)
set_option maxHeartbeats 8000000 in
set_option maxRecDepth 100000 in
theorem eS.calls(k:Nat)(b0:Option Addr)(b5:Nat)(aG:List ByteArray)(b7:Option Addr)(ay:Nat)(aD:List (aQ))(r:Bool)(w:World)(eV:Kd.C Kd.string w b0 aG.length aG)(eW:aG.length≤b5)(eX:Kd.C bL w b7 aD.length aD)(eY:aD.length≤ay)(h:eS.f k aG aD=some r):
 Calls tP 50 #[.agg #[.slice b0 aG.length b5,.slice b7 aD.length ay]] w fun e w'=>e= .returned (.bool r)∧Below w.heap.size w w':=by
 have nG:=aam;have jt:=aah;have dY:=Ah eV;have dj:=Ah eW;clear eV eW;have dS:=Ah eX;have dt:=Ah eY;clear eX eY;have HB:=Ah (qB w.heap.size w);have H:(eS.l0 k aG (aG.length:Int) 0 aG aD)=some r:=h;clear h;have H':=Ah H;clear H
 go_enter abg,Try.ntmps50
 go_wp2_with (first|((with_reducible refine bC (N:=1) rfl ?_);(try(refine fS (by rfl) ?_;dsimp only));refine bK 1 26 #[.slice b0 aG.length b5,.slice b7 aD.length ay] ?_;intro YC hg w2 ig hb;have GW124:=gw hg (bs HB);have nU:=gw hg (bs HB);replace HB:=Ah (aT (bs HB) hb);clear hb hg;obtain⟨XU,XV⟩:=cH ig;obtain⟨XW,XX⟩:=cD ig))
 go_loopg [10] k (fun kq v10 w'=>∃ (kk:Int),v10= .int .i64 kk∧a9 (eS.l0 kq aG (aG.length:Int) kk aG aD=some r)∧a9 (kq≤k)∧a9 (w'.heap[YC]?=some (.cells #[(.slice b0 aG.length b5),(.slice b7 aD.length ay)] 26 (0,0)))∧a9 (Below w.heap.size w w'))
 case atStart=>exact⟨(0),e3,H',⟨lQ _⟩,⟨bk ig⟩,⟨aZ HB nU⟩⟩
 case round=>
  clear H'
  try clear p2
  try clear XU XV
  try clear XW XX
  obtain⟨kk,rfl,HA,cN,ig,HB⟩:=hrel
  cases gk with
  |zero=>exact absurd HA.out (by simp[eS.l0])
  |succ k1=>
   have H:=HA.out;clear HA;simp only[eS.l0]at H
   by_cases c4:kk<(aG.length:Int)
   ·
    rw[if_pos c4]at H;have gt:decide (kk<(aG.length:Int))=true:=decide_eq_true c4;clear c4
    by_cases c5:0≤kk
    rotate_left
    ·
     rw[if_neg c5]at H;exact absurd H (by simp)
    rw[if_pos c5]at H;have iV:decide (0≤kk)=true:=decide_eq_true c5;clear c5
    by_cases c6:kk<(aG.length:Int)
    rotate_left
    ·
     rw[if_neg c6]at H;exact absurd H (by simp)
    rw[if_pos c6]at H;have iG:decide (kk<(aG.length:Int))=true:=decide_eq_true c6;clear c6
    by_cases c7:((dN JZ aG kk).size:Int)=8
    rotate_left
    ·
     rw[if_neg c7]at H;have lu:(((dN JZ aG kk).size:Int)==8)=false:=beq_eq_false_iff_ne.mpr c7;have tz:(((dN JZ aG kk).size:Int) !=8)=true:=bne_iff_ne.mpr c7;obtain rfl:=ec H;have xv:0≤(kk:Int):=od;have xw:kk<(aG.length:Int):=od;obtain⟨ad125,e125,xG⟩:=Kd.jR dY.out kk xv xw
     cases e125
     replace xG:=(HB.out.cell (cy w _ xG)).trans xG;replace xv:=eq_true xv;replace xw:=eq_true xw
     go_wp2
     go_ret
     exact⟨er,aZ HB nU⟩
    rw[if_pos c7]at H;have lu:(((dN JZ aG kk).size:Int)==8)=true:=beq_iff_eq.mpr c7;have tz:(((dN JZ aG kk).size:Int) !=8)=false:=bne_eq_false_iff_eq.mpr c7;clear c7;have H':=Ah H;clear H;have xv:0≤(kk:Int):=od;have xw:kk<(aG.length:Int):=od;obtain⟨ad125,e125,xG⟩:=Kd.jR dY.out kk xv xw
    cases e125
    replace xG:=(HB.out.cell (cy w _ xG)).trans xG;replace xv:=eq_true xv;replace xw:=eq_true xw
    go_wp2
    go_roundg k1
    case measure=>have:=cN.out;omega
    case rel=>exact⟨(IH (kk+1)),e3,H',⟨by have:=cN.out;omega⟩,⟨bk ig⟩,⟨aZ HB nU⟩⟩
   rw[if_neg c4]at H;have gt:decide (kk<(aG.length:Int))=false:=decide_eq_false c4;clear c4;have H':=Ah H;clear H;obtain⟨vE,vF⟩:=cH ig;obtain⟨xM,vG⟩:=cD ig
   go_wp2
   go_loopg [21] k1 (fun kq v21 w'=>∃ (iR:Int),v21= .int .i64 iR∧a9 (eS.l1 kq aD (aD.length:Int) iR aG aD=some r)∧a9 (kq≤k1)∧a9 (w'.heap[YC]?=some (.cells #[(.slice b0 aG.length b5),(.slice b7 aD.length ay)] 26 (0,0)))∧a9 (Below w.heap.size w w'))
   case atStart=>exact⟨(0),e3,H',⟨lQ _⟩,⟨bk ig⟩,⟨aZ HB nU⟩⟩
   case round=>
    clear H'
    try clear p1
    try clear q1
    try clear hx1
    try clear p2
    try clear c4
    try clear gt
    try clear c5
    try clear iV
    try clear c6
    try clear iG
    try clear p6
    try clear c7
    try clear lu
    try clear tz
    try clear XU XV
    try clear vE vF
    try clear XW XX
    try clear xM vG
    try clear xG
    try clear xv
    try clear p2
    try clear xw
    obtain⟨iR,rfl,HA,jf,ig,HB⟩:=hrel
    cases gk with
    |zero=>exact absurd HA.out (by simp[eS.l1])
    |succ k2=>
     have H:=HA.out;clear HA;simp only[eS.l1]at H
     by_cases c9:iR<(aD.length:Int)
     rotate_left
     ·
      rw[if_neg c9]at H;have tx:decide (iR<(aD.length:Int))=false:=decide_eq_false c9;clear c9;replace H:=Hz.mp H;obtain⟨QR,a0p,H⟩:=H
      try dsimp only at H
      have A24:=Ah a0p;clear a0p
      by_cases Dk:QR=true
      ·
       subst Dk;rw[if_pos rfl]at H;obtain rfl:=ec H;obtain⟨z4,z5⟩:=cH ig;obtain⟨z6,z7⟩:=cD ig
       go_wp2_with (first|((with_reducible refine ar (f:=51) rfl ?_);refine gL (some 35) rfl rfl abr (by kernel_rfl) rfl #[.int .i64 (aG.length:Int),.int .i64 1,.int .i64 32] rfl ?_;(with_reducible refine(kX.calls (aG.length:Int) 1 32 true _ A24.out).mono ?_);rintro e w' ⟨rfl,⟨nd,rfl⟩⟩;refine⟨_,rfl, ?_⟩))
       go_ret
       exact⟨er,aZ HB nU⟩
      replace Dk:=i1.mpr Dk;subst Dk;rw[if_neg dO]at H;obtain rfl:=ec H;obtain⟨EU,EV⟩:=cH ig;obtain⟨EW,EX⟩:=cD ig
      go_wp2_with (first|((with_reducible refine ar (f:=51) rfl ?_);refine gL (some 35) rfl rfl abr (by kernel_rfl) rfl #[.int .i64 (aG.length:Int),.int .i64 1,.int .i64 32] rfl ?_;(with_reducible refine(kX.calls (aG.length:Int) 1 32 false _ A24.out).mono ?_);rintro e w' ⟨rfl,⟨nd,rfl⟩⟩;refine⟨_,rfl, ?_⟩))
      go_ret
      exact⟨er,aZ HB nU⟩
     rw[if_pos c9]at H;have tx:decide (iR<(aD.length:Int))=true:=decide_eq_true c9;clear c9
     by_cases c10:0≤iR
     rotate_left
     ·
      rw[if_neg c10]at H;exact absurd H (by simp)
     rw[if_pos c10]at H;have Cc:decide (0≤iR)=true:=decide_eq_true c10;clear c10
     by_cases c11:iR<(aD.length:Int)
     rotate_left
     ·
      rw[if_neg c11]at H;exact absurd H (by simp)
     rw[if_pos c11]at H;have zd:decide (iR<(aD.length:Int))=true:=decide_eq_true c11;clear c11;replace H:=Hz.mp H;obtain⟨QQ,D8,H⟩:=H
     try dsimp only at H
     have A12:=Ah D8;clear D8
     by_cases c13:QQ=true
     rotate_left
     ·
      replace c13:=i1.mpr c13;subst c13;rw[if_neg dO]at H;obtain rfl:=ec H;have Ae:0≤(iR:Int):=od;have Af:iR<(aD.length:Int):=od;obtain⟨ad126,e126,z8,z9⟩:=iA dS.out iR Ae Af
      cases e126
      replace z8:=(HB.out.cell (cy w _ z8)).trans z8;replace z9:=(HB.out.cell (cy w _ z9)).trans z9;replace Ae:=eq_true Ae;replace Af:=eq_true Af
      go_wp2_with (first|((with_reducible refine bC (N:=6) rfl ?_);(try(refine fS (by rfl) ?_;dsimp only));refine bK 6 37 #[.int .i64 0,.string (⟨#[]⟩:ByteArray)] ?_;intro Oz hg ly vQ hb;have GW127:=gw hg (aZ HB nU);have FD:=gw hg (aZ HB nU);replace HB:=Ah (aT (aZ HB nU) hb);have E9:=nn ig hg;have MB:=nm ig hg;replace ig:=nb ig hb;clear hb hg;have YD:=MB.out;have YE:=E9.out;obtain⟨JB,JC⟩:=cH vQ;obtain⟨JD,JE⟩:=cD vQ;obtain⟨kd,ke⟩:=cH ig;obtain⟨kf,kg⟩:=cD ig)|((with_reducible refine ar (f:=53) rfl ?_);refine gL (some 29) rfl rfl Try.func53 (by kernel_rfl) rfl #[.agg #[.int .i64 ((aM aD iR).f0),.string ((aM aD iR).f1)],.int .i64 (aG.length:Int)] rfl ?_;(with_reducible refine(oB.calls ((aM aD iR).f0) ((aM aD iR).f1) (aG.length:Int) false _ A12.out).mono ?_);rintro e tM ⟨rfl,hb⟩;refine⟨_,rfl, ?_⟩;replace ig:=Ah (cS (bf ig E9) hb);replace vQ:=Ah (cS (g:=Oz) (o:= .cells #[.int .i64 ((aM aD iR).f0),.string ((aM aD iR).f1)] 37 (0,0)) (by(with_reducible repeat(first|refine aC ?_ _|refine U ?_|refine X ?_ _));refine aU (cs:= #[.int .i64 ((aM aD iR).f0),.string (⟨#[]⟩:ByteArray)]) ?_ 1 _ rfl;(with_reducible repeat(first|refine aC ?_ _|refine U ?_|refine X ?_ _));refine aU (cs:= #[.int .i64 0,.string (⟨#[]⟩:ByteArray)]) ?_ 0 _ rfl;(with_reducible repeat(first|refine aC ?_ _|refine U ?_|refine X ?_ _));exact vQ.out) hb);replace HB:=Ah (aT (aj HB nU FD) hb);(try clear hb)))
      go_ret
      exact⟨er,aj HB nU FD⟩
     subst c13;rw[if_pos rfl]at H;have H':=Ah H;clear H;have Ae:0≤(iR:Int):=od;have Af:iR<(aD.length:Int):=od;obtain⟨ad126,e126,z8,z9⟩:=iA dS.out iR Ae Af
     cases e126
     replace z8:=(HB.out.cell (cy w _ z8)).trans z8;replace z9:=(HB.out.cell (cy w _ z9)).trans z9;replace Ae:=eq_true Ae;replace Af:=eq_true Af
     go_wp2_with (first|((with_reducible refine bC (N:=6) rfl ?_);(try(refine fS (by rfl) ?_;dsimp only));refine bK 6 37 #[.int .i64 0,.string (⟨#[]⟩:ByteArray)] ?_;intro Oz hg pM vQ hb;have GW127:=gw hg (aZ HB nU);have FD:=gw hg (aZ HB nU);replace HB:=Ah (aT (aZ HB nU) hb);have E9:=nn ig hg;have MB:=nm ig hg;replace ig:=nb ig hb;clear hb hg;have KR:=MB.out;have KS:=E9.out;obtain⟨vA,vB⟩:=cH vQ;obtain⟨vC,vD⟩:=cD vQ;obtain⟨oG,oH⟩:=cH ig;obtain⟨oI,oJ⟩:=cD ig)|((with_reducible refine ar (f:=53) rfl ?_);refine gL (some 29) rfl rfl Try.func53 (by kernel_rfl) rfl #[.agg #[.int .i64 ((aM aD iR).f0),.string ((aM aD iR).f1)],.int .i64 (aG.length:Int)] rfl ?_;(with_reducible refine(oB.calls ((aM aD iR).f0) ((aM aD iR).f1) (aG.length:Int) true _ A12.out).mono ?_);rintro e jO ⟨rfl,hb⟩;refine⟨_,rfl, ?_⟩;replace ig:=Ah (cS (bf ig E9) hb);replace vQ:=Ah (cS (g:=Oz) (o:= .cells #[.int .i64 ((aM aD iR).f0),.string ((aM aD iR).f1)] 37 (0,0)) (by(with_reducible repeat(first|refine aC ?_ _|refine U ?_|refine X ?_ _));refine aU (cs:= #[.int .i64 ((aM aD iR).f0),.string (⟨#[]⟩:ByteArray)]) ?_ 1 _ rfl;(with_reducible repeat(first|refine aC ?_ _|refine U ?_|refine X ?_ _));refine aU (cs:= #[.int .i64 0,.string (⟨#[]⟩:ByteArray)]) ?_ 0 _ rfl;(with_reducible repeat(first|refine aC ?_ _|refine U ?_|refine X ?_ _));exact vQ.out) hb);replace HB:=Ah (aT (aj HB nU FD) hb);(try clear hb)))
     go_roundg k2
     case measure=>have:=cN.out;have:=jf.out;omega
     case rel=>exact⟨(IH (iR+1)),e3,H',⟨by have:=cN.out;have:=jf.out;omega⟩,⟨bk ig⟩,⟨aj HB nU FD⟩⟩
mutual
def eZ.j0:Nat→ByteArray→Bool→Option ((List (aQ))×Bool)
 |0,_,_=>none
 |k+1,x0,Dm=>if Dm=true then(some (([]:List (aQ)),false))else(eZ.l0 k x0 ([]:List (aQ)) 0)
def eZ.l0:Nat→ByteArray→List (aQ)→Int→Option ((List (aQ))×Bool)
 |0,_,_,_=>none
 |k+1,x0,x4,x5=>if 0<(x0.size:Int)then(if x5<(IH (bt x0 0))then(if 0≤(IH (1+(IH (x5*9))))then(if(IH (1+(IH (x5*9))))<(x0.size:Int)then(if 0≤(IH ((IH (1+(IH (x5*9))))+1))then(if(IH ((IH (1+(IH (x5*9))))+1))≤(IH ((IH ((IH (1+(IH (x5*9))))+1))+8))then(if(IH ((IH ((IH (1+(IH (x5*9))))+1))+8))≤(x0.size:Int)then(if x4.length<5864062014805 then(eZ.l0 k x0 (x4++[(⟨IH (bt x0 (IH (1+(IH (x5*9))))),x0.extract ((IH ((IH (1+(IH (x5*9))))+1)):Int).toNat ((IH ((IH ((IH (1+(IH (x5*9))))+1))+8)):Int).toNat⟩:aQ)]) (IH (x5+1)))else(none))else(none))else(none))else(none))else(none))else(none))else((eI.f k x4 32).bind fun QS=>(if QS=true then((ey.f k x4).bind fun wG=>(if wG.toList=x0.toList then(some (x4,true))else(some (([]:List (aQ)),false))))else(some (([]:List (aQ)),false)))))else(none)
end
def eZ.f(k:Nat)(a0:ByteArray):Option ((List (aQ))×Bool):=if(a0.size:Int)=0 then(eZ.j0 k a0 true)else(if 0<(a0.size:Int)then(eZ.j0 k a0 ((a0.size:Int) !=(IH (2+(IH ((IH (bt a0 0))*9))))))else(none))
theorem eZ.cW:∀k,(∀y0 y1,aE (eZ.j0 k y0 y1) (eZ.j0 (k+1) y0 y1))∧(∀y0 y1 y2,aE (eZ.l0 k y0 y1 y2) (eZ.l0 (k+1) y0 y1 y2))
 |0=>⟨fun _ _ r h=>by simp[eZ.j0]at h,fun _ _ _ r h=>by simp[eZ.l0]at h⟩
 |k+1=>by
  obtain⟨be,ih1⟩:=eZ.cW k
  refine⟨?_, ?_⟩<;>intros<;>first|unfold eZ.j0|unfold eZ.l0
  all_goals repeat' first
   |(with_reducible exact be _ _)
   |(with_reducible exact ih1 _ _ _)
   |(with_reducible exact ey.mono _ _)
   |(with_reducible exact eI.mono _ _ _)
   |(with_reducible exact aE.refl _)
   |(with_reducible exact aE.none _)
   |(with_reducible refine aE.ite ?_ ?_)
   |(with_reducible refine aE.bind ?_ (fun _=> ?_))
   |exact be _ _
   |exact ih1 _ _ _
   |exact ey.mono _ _
   |exact eI.mono _ _ _
   |exact aE.none _
   |refine aE.ite ?_ ?_
   |refine aE.bind ?_ (fun _=> ?_)
theorem eZ.mono:∀a0 k,aE (eZ.f k a0) (eZ.f (k+1) a0):=by
 intro a0 k;obtain⟨be,ih1⟩:=eZ.cW k;unfold eZ.f
 repeat' with_reducible first|exact be _ _|exact ih1 _ _ _|exact ey.mono _ _|exact eI.mono _ _ _|exact aE.refl _|exact aE.none _|refine aE.ite ?_ ?_|refine aE.bind ?_ (fun _=> ?_)
def eZ.T8:Bool×List (List Nat×List Nat):=(true,[([],[]),([],[]),([],[]),([1,2],[1,2]),([3],[3]),([],[]),([],[]),([6],[6]),([],[]),([8],[8]),([9],[9]),([5,7,10],[5,7,10]),([4,11],[4,11]),([12],[12]),([0,13],[0,13]),([14,14,0,1,2,3,4,5,6,7,8,9,10,11,12,13,14],[0,14])])
def eZ.B8:List Nat:=[0,0,0,6,14,0,0,64,0,256,768,2016,4094,8190,16383,32767]
theorem eZ.QT:gh .any (mz Try.f67 8)=eZ.T8:=by kernel_rfl
theorem eZ.P0:kc eZ.T8.2 eZ.B8=true:=by kernel_rfl
set_option maxHeartbeats 8000000 in
set_option maxRecDepth 100000 in
theorem eZ.calls(k:Nat)(a0:ByteArray)(r1:List (aQ))(r2:Bool)(w:World)(h:eZ.f k a0=some (r1,r2)):
 Calls tP 67 #[.string a0] w fun e w'=>∃cM:Value,e= .returned (.tuple #[cM,.bool r2])∧Kd.R bL 37 w' w.heap.size (fun _=>True) cM r1∧Below w.heap.size w w':=by
 have jt:=aah;have HB:=Ah (qB w.heap.size w);have H:(if(a0.size:Int)=0 then(eZ.j0 k a0 true)else(if 0<(a0.size:Int)then(eZ.j0 k a0 ((a0.size:Int) !=(IH (2+(IH ((IH (bt a0 0))*9))))))else(none)))=some (r1,r2):=h;clear h;have pN:=Ah H;clear H
 go_enter Try.func67,Try.ntmps67
 go_upto_region 1 with(fail)
 go_cut [19] (fun v19 wc=>∃ (kq:Nat) (KT:Bool),v19= .bool KT∧a9 (eZ.j0 kq a0 KT=some (r1,r2))∧a9 (kq≤k)∧a9 (Below w.heap.size w wc))
 case first=>
  have H:=pN.out;clear pN
  by_cases c3:(a0.size:Int)=0
  ·
   rw[if_pos c3]at H;have f9:((a0.size:Int)==0)=true:=beq_iff_eq.mpr c3;have mJ:((a0.size:Int) !=0)=false:=bne_eq_false_iff_eq.mpr c3;clear c3;(first|rw[f9]|(simp only[eK,eT];rw[f9])|(simp only[u0,aaX,aaW])|skip);have H':=Ah H;clear H
   go_wp2
   go_meet
   case rel=>exact⟨_,(true),e3,H',⟨by first|omega|exact lQ _⟩,⟨bs HB⟩⟩
  rw[if_neg c3]at H;have f9:((a0.size:Int)==0)=false:=beq_eq_false_iff_ne.mpr c3;have mJ:((a0.size:Int) !=0)=true:=bne_iff_ne.mpr c3;(first|rw[f9]|(simp only[eK,eT];rw[f9])|(simp only[u0,aaX,aaW])|skip)
  by_cases c4:0<(a0.size:Int)
  rotate_left
  ·
   rw[if_neg c4]at H;exact absurd H (by simp)
  rw[if_pos c4]at H;have gt:decide (0<(a0.size:Int))=true:=decide_eq_true c4;have Gb:decide (0<a0.size)=true:=decide_eq_true (by omega);clear c4;have H':=Ah H;clear H;have p5:0≤(0:Int):=(by omega);have q5:0<a0.size:=(by have:(0:Int)<(a0.size:Int):=od;omega);have hx5:∀h:0<a0.size,((a0[0]'h).toNat:Int)=bt a0 0:=xP a0 0;clear p5;have qi5:(0<(a0.size:Int))=True:=eq_true (od);replace q5:=eq_true q5
  go_wp2
  go_meet
  case rel=>exact⟨_,(((a0.size:Int) !=(IH (2+(IH ((IH (bt a0 0))*9)))))),e3,H',⟨by first|omega|exact lQ _⟩,⟨bs HB⟩⟩
 case rest=>
  clear pN
  try clear p2
  try clear c3
  try clear f9
  try clear mJ
  try clear c4
  try clear gt
  try clear Gb
  try clear p5
  try clear q5
  try clear hx5
  try clear qi5
  try clear p5
  try clear q5
  obtain⟨kq,KT,rfl,HA,rB,HB⟩:=hcut
  cases kq with
  |zero=>exact absurd HA.out (by simp[eZ.j0])
  |succ pO=>
   have H:=HA.out;clear HA;simp only[eZ.j0]at H
   by_cases c6:KT=true
   ·
    subst c6;rw[if_pos rfl]at H;simp only[kD,o7]at H;obtain⟨rfl,rfl⟩:=H
    go_wp2
    go_ret2
    exact⟨_,er,by first|exact Kd.dr _ _ _ _ _|exact Kd.e8 _ _ _ _ _|exact Kd.e9 _ _ _ _ _|exact Kd.e5 _ _ _ _ _|exact Kd.e7 _ _ _ _ _,bs HB⟩
   replace c6:=i1.mpr c6;subst c6;rw[if_neg dO]at H;have H':=Ah H;clear H
   go_wp2
   go_loopg [4,5] pO (fun kq v4 v5 w'=>∃ (mi:List (aQ)) (rq:Int),v5= .int .i64 rq∧a9 (eZ.l0 kq a0 mi rq=some (r1,r2))∧a9 (kq≤pO)∧a9 (Kd.R bL 37 w' w.heap.size (fun _=>True) v4 mi)∧a9 (Below w.heap.size w w'))
   case atStart=>exact⟨(([]:List (aQ))),(0),e3,H',⟨lQ _⟩,⟨by first|exact Kd.dr _ _ _ _ _|exact Kd.e8 _ _ _ _ _|exact Kd.e9 _ _ _ _ _|exact Kd.e5 _ _ _ _ _|exact Kd.e7 _ _ _ _ _⟩,⟨bs HB⟩⟩
   case round=>
    clear H'
    try clear p2
    try clear c3
    try clear f9
    try clear mJ
    try clear c4
    try clear gt
    try clear Gb
    try clear p5
    try clear q5
    try clear hx5
    try clear qi5
    try clear c6
    try clear p6
    try clear p2
    try clear p5
    try clear q5
    obtain⟨mi,rq,rfl,HA,jf,eR,HB⟩:=hrel
    cases gk with
    |zero=>exact absurd HA.out (by simp[eZ.l0])
    |succ k2=>
     have H:=HA.out;clear HA;simp only[eZ.l0]at H
     by_cases c7:0<(a0.size:Int)
     rotate_left
     ·
      rw[if_neg c7]at H;exact absurd H (by simp)
     rw[if_pos c7]at H;have lu:decide (0<(a0.size:Int))=true:=decide_eq_true c7;have tz:decide (0<a0.size)=true:=decide_eq_true (by omega);clear c7
     by_cases c9:rq<(IH (bt a0 0))
     rotate_left
     ·
      rw[if_neg c9]at H;have tx:decide (rq<(IH (bt a0 0)))=false:=decide_eq_false c9;clear c9;replace H:=Hz.mp H;obtain⟨QS,t3,H⟩:=H
      try dsimp only at H
      have tO:=Ah t3;clear t3
      by_cases o1:QS=true
      rotate_left
      ·
       replace o1:=i1.mpr o1;subst o1;rw[if_neg dO]at H;simp only[kD,o7]at H;obtain⟨rfl,rfl⟩:=H;have p8:0≤(0:Int):=(by omega);have q8:0<a0.size:=(by have:(0:Int)<(a0.size:Int):=od;omega);have Lj:∀h:0<a0.size,((a0[0]'h).toNat:Int)=bt a0 0:=xP a0 0;clear p8;have Rx:(0<(a0.size:Int))=True:=eq_true (od);replace q8:=eq_true q8;obtain⟨ja,jb,u1⟩:=Kd.ao eR.out;subst u1
       go_wp2_with (first|((with_reducible refine ar (f:=25) rfl ?_);refine gL (some 46) rfl rfl Try.func25 (by kernel_rfl) rfl #[.slice ja mi.length jb,.int .i64 32] rfl ?_;(with_reducible refine(eI.calls k2 _ _ mi 32 false _ ?aI ?aJ tO.out).mono ?_);(case aI=>exact bd eR);(case aJ=>exact(Kd.aq eR.out).2.1);rintro e w32 ⟨rfl,hb⟩;refine⟨_,rfl, ?_⟩;replace eR:=nr eR hb;replace HB:=Ah (aT (bs HB) hb);(try clear hb)))
       go_ret2
       exact⟨_,er,by first|exact Kd.dr _ _ _ _ _|exact Kd.e8 _ _ _ _ _|exact Kd.e9 _ _ _ _ _|exact Kd.e5 _ _ _ _ _|exact Kd.e7 _ _ _ _ _,bs HB⟩
      subst o1;rw[if_pos rfl]at H;replace H:=Hz.mp H;obtain⟨wG,Gc,H⟩:=H
      try dsimp only at H
      have I5:=Ah Gc;clear Gc
      by_cases c24:wG.toList=a0.toList
      ·
       rw[if_pos c24]at H;have c24b0:(wG.toList==a0.toList)=true:=beq_iff_eq.mpr c24;have c24b1:(wG.toList !=a0.toList)=false:=bne_eq_false_iff_eq.mpr c24;clear c24;simp only[kD,o7]at H;obtain⟨rfl,rfl⟩:=H;have p8:0≤(0:Int):=(by omega);have q8:0<a0.size:=(by have:(0:Int)<(a0.size:Int):=od;omega);have Lj:∀h:0<a0.size,((a0[0]'h).toNat:Int)=bt a0 0:=xP a0 0;clear p8;have Rx:(0<(a0.size:Int))=True:=eq_true (od);replace q8:=eq_true q8;obtain⟨bq,bp,ss⟩:=Kd.ao eR.out;subst ss
       go_wp2_with (first|((with_reducible refine ar (f:=25) rfl ?_);refine gL (some 46) rfl rfl Try.func25 (by kernel_rfl) rfl #[.slice bq mi.length bp,.int .i64 32] rfl ?_;(with_reducible refine(eI.calls k2 _ _ mi 32 true _ ?aI ?aJ tO.out).mono ?_);(case aI=>exact bd eR);(case aJ=>exact(Kd.aq eR.out).2.1);rintro e rA ⟨rfl,hb⟩;refine⟨_,rfl, ?_⟩;replace eR:=nr eR hb;replace HB:=Ah (aT (bs HB) hb);(try clear hb))|(go_at_call 27;(with_reducible refine(ey.calls k2 _ _ mi wG _ ?aI ?aJ I5.out).mono ?_);(case aI=>exact bd eR);(case aJ=>exact(Kd.aq eR.out).2.1);rintro e Lk ⟨rfl,hb⟩;replace eR:=nr eR hb;replace HB:=Ah (aT (bs HB) hb);(try clear hb)))
       go_ret2
       exact⟨_,er,by(with_reducible repeat(first|apply Kd.ah|apply Kd.ai|apply Kd.aY));exact eR.out,bs HB⟩
      rw[if_neg c24]at H;have c24b0:(wG.toList==a0.toList)=false:=beq_eq_false_iff_ne.mpr c24;have c24b1:(wG.toList !=a0.toList)=true:=bne_iff_ne.mpr c24;simp only[kD,o7]at H;obtain⟨rfl,rfl⟩:=H;have p8:0≤(0:Int):=(by omega);have q8:0<a0.size:=(by have:(0:Int)<(a0.size:Int):=od;omega);have Lj:∀h:0<a0.size,((a0[0]'h).toNat:Int)=bt a0 0:=xP a0 0;clear p8;have Rx:(0<(a0.size:Int))=True:=eq_true (od);replace q8:=eq_true q8;obtain⟨Ao28,co28,eo28⟩:=Kd.ao eR.out;subst eo28
      go_wp2_with (first|((with_reducible refine ar (f:=25) rfl ?_);refine gL (some 46) rfl rfl Try.func25 (by kernel_rfl) rfl #[.slice Ao28 mi.length co28,.int .i64 32] rfl ?_;(with_reducible refine(eI.calls k2 _ _ mi 32 true _ ?aI ?aJ tO.out).mono ?_);(case aI=>exact bd eR);(case aJ=>exact(Kd.aq eR.out).2.1);rintro e I6 ⟨rfl,hb⟩;refine⟨_,rfl, ?_⟩;replace eR:=nr eR hb;replace HB:=Ah (aT (bs HB) hb);(try clear hb))|(go_at_call 27;(with_reducible refine(ey.calls k2 _ _ mi wG _ ?aI ?aJ I5.out).mono ?_);(case aI=>exact bd eR);(case aJ=>exact(Kd.aq eR.out).2.1);rintro e Ll ⟨rfl,hb⟩;replace eR:=nr eR hb;replace HB:=Ah (aT (bs HB) hb);(try clear hb)))
      go_ret2
      exact⟨_,er,by first|exact Kd.dr _ _ _ _ _|exact Kd.e8 _ _ _ _ _|exact Kd.e9 _ _ _ _ _|exact Kd.e5 _ _ _ _ _|exact Kd.e7 _ _ _ _ _,bs HB⟩
     rw[if_pos c9]at H;have tx:decide (rq<(IH (bt a0 0)))=true:=decide_eq_true c9;clear c9;obtain⟨kA,P1⟩:∃j_:Int,(IH (1+(IH (rq*9))))=j_:=⟨_,rfl⟩
     replace H:(if 0≤(kA)then(if(kA)<(a0.size:Int)then(if 0≤(IH ((kA)+1))then(if(IH ((kA)+1))≤(IH ((IH ((kA)+1))+8))then(if(IH ((IH ((kA)+1))+8))≤(a0.size:Int)then(if mi.length<5864062014805 then(eZ.l0 k2 a0 (mi++[(⟨IH (bt a0 (kA)),a0.extract ((IH ((kA)+1)):Int).toNat ((IH ((IH ((kA)+1))+8)):Int).toNat⟩:aQ)]) (IH (rq+1)))else(none))else(none))else(none))else(none))else(none))else(none))=some (r1,r2):=by first|(rw[P1]at H;exact H)|(simp only[P1]at H⊢;exact H)
     have hji10w:(IntKind.i64.wrap (1+(IH (rq*9))))=kA:=(eK _).trans P1
     by_cases c11:0≤(kA)
     rotate_left
     ·
      rw[if_neg c11]at H;exact absurd H (by simp)
     rw[if_pos c11]at H;have zd:decide (0≤(kA))=true:=decide_eq_true c11;clear c11
     by_cases c12:(kA)<(a0.size:Int)
     rotate_left
     ·
      rw[if_neg c12]at H;exact absurd H (by simp)
     rw[if_pos c12]at H;have P2:decide ((kA)<(a0.size:Int))=true:=decide_eq_true c12;clear c12;obtain⟨kN,P3⟩:∃j_:Int,(IH ((kA)+1))=j_:=⟨_,rfl⟩
     replace H:(if 0≤(kN)then(if(kN)≤(IH ((kN)+8))then(if(IH ((kN)+8))≤(a0.size:Int)then(if mi.length<5864062014805 then(eZ.l0 k2 a0 (mi++[(⟨IH (bt a0 (kA)),a0.extract ((kN):Int).toNat ((IH ((kN)+8)):Int).toNat⟩:aQ)]) (IH (rq+1)))else(none))else(none))else(none))else(none))=some (r1,r2):=by first|(rw[P3]at H;exact H)|(simp only[P3]at H⊢;exact H)
     have hji14w:(IntKind.i64.wrap ((kA)+1))=kN:=(eK _).trans P3
     by_cases c15:0≤(kN)
     rotate_left
     ·
      rw[if_neg c15]at H;exact absurd H (by simp)
     rw[if_pos c15]at H;have Y5:=eq_true c15;have c15b1:decide (0≤(kN))=true:=decide_eq_true c15;clear c15
     by_cases c16:(kN)≤(IH ((kN)+8))
     rotate_left
     ·
      rw[if_neg c16]at H;exact absurd H (by simp)
     rw[if_pos c16]at H;have xW:=eq_true c16;have c16b1:decide ((kN)≤(IH ((kN)+8)))=true:=decide_eq_true c16
     by_cases c17:(IH ((kN)+8))≤(a0.size:Int)
     rotate_left
     ·
      rw[if_neg c17]at H;exact absurd H (by simp)
     rw[if_pos c17]at H;have KQ:=eq_true c17;have Y6:decide ((IH ((kN)+8))≤(a0.size:Int))=true:=decide_eq_true c17
     by_cases c18:mi.length<5864062014805
     rotate_left
     ·
      rw[if_neg c18]at H;exact absurd H (by simp)
     rw[if_pos c18]at H;have LMc18:=Ah c18;clear c18;obtain⟨a0q,FE⟩:∃y_:List (aQ),y_=(mi++[(⟨IH (bt a0 (kA)),a0.extract ((kN):Int).toNat ((IH ((kN)+8)):Int).toNat⟩:aQ)]):=⟨_,rfl⟩
     replace H:(eZ.l0 k2 a0 a0q (IH (rq+1)))=some (r1,r2):=by first|(rw[FE];with_reducible exact H)|(have bB:=(aV _ _).symm.trans H;rw[FE];with_reducible exact bB)|(have bB:=(aV _ _).symm.trans H;with_reducible exact bB)|with_reducible exact H|(rw[FE];exact H)|exact H
     have Ny130:=Ah FE;clear FE;have H':=Ah H;clear H;have p8:0≤(0:Int):=(by omega);have q8:0<a0.size:=(by have:(0:Int)<(a0.size:Int):=od;omega);have Lj:∀h:0<a0.size,((a0[0]'h).toNat:Int)=bt a0 0:=xP a0 0;clear p8;have Rx:(0<(a0.size:Int))=True:=eq_true (od);replace q8:=eq_true q8
     try go_wp2
     have an:=Ah (Kd.aY eR.out);have am:=Ah (jg HB.out);clear eR HB;have eR:=an;have HB:=am;clear an am;have p13:0≤((kA):Int):=od;have yP:(kA)<(a0.size:Int):=od;have hx13:=xP a0 (kA);replace p13:=eq_true p13;replace yP:=eq_true yP;refine la (n:=16) (S:=fun w'=>True) (ds:=[]) #[false,false,false,false,false,false,false,false,false,false,false,false,false,false,false,false] (by kernel_rfl) rfl rfl trivial (fun hHeld=> ?_);refine m4 eZ.QT eZ.P0 (fun ac eh=> ?_)
     generalize wr.drew=ly at eR HB hHeld⊢
     refine bZ 0 30 ac.out ?_;refine bZ 1 31 ac.out ?_;refine bZ 2 32 ac.out ?_;refine bZ 5 35 ac.out ?_;refine bZ 6 36 ac.out ?_;refine bZ 7 37 ac.out ?_;refine bZ 8 38 ac.out ?_;refine bZ 9 39 ac.out ?_;refine bZ 10 40 ac.out ?_;refine bZ 11 41 ac.out ?_;refine zY (i:=3) (N:=some 33) (v:= ?_) (a':= ?_) #[true,true,true,true,false,true,true,true,true,true,true,true,false,false,false,false] rfl rfl (Ml ac.out eh.out (by kernel_rfl)) (fun _ _ _ h=>h) (Or.inl ⟨by rfl, ?_⟩) hHeld ?_ ?_;rotate_left
     ·
      intro w' _
      go_simp
      with_reducible rfl
     rotate_left
     ·
      simp only[aab,Ok,mr,mQ,eK,eT]
      rfl
     refine bZ 4 34 ac.out ?_;refine bZ 12 42 ac.out ?_;refine fw (i:=13) (N:=some 43) #[true,true,true,true,true,true,true,true,true,true,true,true,true,true,false,false] rfl rfl (ff ac.out (by kernel_rfl)) (by decide) (fun K hK=> ?_);refine zQ (w1:= ?_) (v:= ?_) (by rfl) rfl ?_ ?_;rotate_left 2
     ·
      go_simp
      constructor
      ·
       rfl
      ·
       rfl
     refine hK.out _ _ trivial (fun hHeld=> ?_);clear hK K;refine gN (a':= ?_) ?_ ?_;rotate_left
     ·
      show aab _ (some 43) _=_
      simp only[aab,Ok,mr,mQ,eK,eT]
      rfl
     refine fw (i:=14) (N:=some 44) #[true,true,true,true,true,true,true,true,true,true,true,true,true,true,true,false] rfl rfl (ff ac.out (by kernel_rfl)) (by decide) (fun K hK=> ?_);refine Kd.yZ bL (w0:=w) w.heap.size (by rfl) (.tmp 30) (.tmp 43) 24 37 (.agg #[(.int .i64 0),(.string ⟨#[]⟩)]) 24 rfl aaF pb rfl (by decide) (by omega) u4 mi (⟨IH (bt a0 (kA)),a0.extract ((kN):Int).toNat ((IH ((kN)+8)):Int).toNat⟩:aQ) [.int .i64 (IH (bt a0 (kA))),.string (a0.extract ((kN):Int).toNat ((IH ((kN)+8)):Int).toNat)] (fun _=>True) (fun _=>False) rfl rfl ?aP (fun _ hk=>hk.elim) ?aF ?aO ?aB ?aS ?aL ?_;(case aP=>exact CB _ _ _ (⟨IH (bt a0 (kA)),a0.extract ((kN):Int).toNat ((IH ((kN)+8)):Int).toNat⟩:aQ));(case aB=>exact(bs HB));(case aF=>exact(fun _ _=>trivial));(case aO=>exact(rr eR.out));(case aS=>exact(bF (bs HB)));(case aL=>have:=LMc18.out;omega);intro v131 py ho hb hg hat;rw[←Ny130.out]at ho;have an:=Ah (hb);have am:=Ah (ho);clear HB eR;have HB:=an;have HO132:=am;clear an am ho hb hg hat;refine hK.out _ _ trivial (fun hHeld=> ?_);clear hK K;refine gN (a':= ?_) ?_ ?_;rotate_left
     ·
      show aab _ (some 44) _=_
      simp only[aab,Ok,mr,mQ,eK,eT]
      rfl
     refine bZ 15 4 ac.out ?_;refine kj (l3 ac.out (by kernel_rfl)) ?_
     try go_wp2
     go_roundg k2
     case measure=>have:=rB.out;have:=jf.out;omega
     case rel=>exact⟨(a0q),(IH (rq+1)),e3,H',⟨by have:=rB.out;have:=jf.out;omega⟩,⟨rr HO132.out⟩,⟨bs HB⟩⟩
def fN.l0:Nat→Int→List (aQ)→List ByteArray→Int→Int→Option ((List (aQ))×Bool)
 |0,_,_,_,_,_=>none
 |k+1,x1,x6,ft,kv,de=>if de<kv then(if 0≤de then(if de<(ft.length:Int)then((eZ.f k (dN JZ ft de)).bind fun KU=>(if KU.2=true then((eI.f k KU.1 x1).bind fun QU=>(if QU=true then(if x6.length+KU.1.length<5864062014805 then(fN.l0 k x1 (x6++KU.1) ft kv (IH (de+1)))else(none))else(some (([]:List (aQ)),false))))else(some (([]:List (aQ)),false))))else(none))else(none))else(some (x6,true))
def fN.f(k:Nat)(l0:List ByteArray)(a1:Int):Option ((List (aQ))×Bool):=fN.l0 k a1 ([]:List (aQ)) l0 (l0.length:Int) 0
theorem fN.cW:∀k,(∀y0 y1 y2 y3 y4,aE (fN.l0 k y0 y1 y2 y3 y4) (fN.l0 (k+1) y0 y1 y2 y3 y4))
 |0=>fun _ _ _ _ _ r h=>by simp[fN.l0]at h
 |k+1=>by
  have be:=fN.cW k
  ·
   intro y0 y1 y2 y3 y4;unfold fN.l0
   repeat' with_reducible first|exact be _ _ _ _ _|exact eZ.mono _ _|exact eI.mono _ _ _|exact aE.refl _|exact aE.none _|refine aE.ite ?_ ?_|refine aE.bind ?_ (fun _=> ?_)
theorem fN.mono:∀a0 a1 k,aE (fN.f k a0 a1) (fN.f (k+1) a0 a1):=by
 intro a0 a1 k;have be:=fN.cW k;unfold fN.f
 repeat' with_reducible first|exact be _ _ _ _ _|exact eZ.mono _ _|exact eI.mono _ _ _|exact aE.refl _|exact aE.none _|refine aE.ite ?_ ?_|refine aE.bind ?_ (fun _=> ?_)
set_option maxHeartbeats 8000000 in
set_option maxRecDepth 100000 in
theorem fN.calls(k:Nat)(A0:Option Addr)(c0:Nat)(l0:List ByteArray)(a1:Int)(r1:List (aQ))(r2:Bool)(w:World)(hr0:Kd.C Kd.string w A0 l0.length l0)(hc0:l0.length≤c0)(h:fN.f k l0 a1=some (r1,r2)):
 Calls tP 52 #[.slice A0 l0.length c0,.int .i64 a1] w fun e w'=>∃cM:Value,e= .returned (.tuple #[cM,.bool r2])∧Kd.R bL 37 w' w.heap.size (fun _=>True) cM r1∧Below w.heap.size w w':=by
 have dU:=Ah hr0;have gK:=Ah hc0;clear hr0 hc0;have HB:=Ah (qB w.heap.size w);have H:(fN.l0 k a1 ([]:List (aQ)) l0 (l0.length:Int) 0)=some (r1,r2):=h;clear h;have H':=Ah H;clear H
 go_enter abG,Try.ntmps52
 go_wp2
 go_loopg [6,13] k (fun kq v6 v13 w'=>∃ (gi:List (aQ)) (az:Int),v13= .int .i64 az∧a9 (fN.l0 kq a1 gi l0 (l0.length:Int) az=some (r1,r2))∧a9 (kq≤k)∧a9 (Kd.R bL 37 w' w.heap.size (fun _=>True) v6 gi)∧a9 (Below w.heap.size w w'))
 case atStart=>exact⟨(([]:List (aQ))),(0),e3,H',⟨lQ _⟩,⟨by first|exact Kd.dr _ _ _ _ _|exact Kd.e8 _ _ _ _ _|exact Kd.e9 _ _ _ _ _|exact Kd.e5 _ _ _ _ _|exact Kd.e7 _ _ _ _ _⟩,⟨bs HB⟩⟩
 case round=>
  clear H'
  try clear p2
  obtain⟨gi,az,rfl,HA,cN,cr,HB⟩:=hrel
  cases gk with
  |zero=>exact absurd HA.out (by simp[fN.l0])
  |succ k1=>
   have H:=HA.out;clear HA;simp only[fN.l0]at H
   by_cases c3:az<(l0.length:Int)
   rotate_left
   ·
    rw[if_neg c3]at H;have f9:decide (az<(l0.length:Int))=false:=decide_eq_false c3;clear c3;simp only[kD,o7]at H;obtain⟨rfl,rfl⟩:=H
    go_wp2
    go_ret2
    exact⟨_,er,by(with_reducible repeat(first|apply Kd.ah|apply Kd.ai|apply Kd.aY));exact cr.out,bs HB⟩
   rw[if_pos c3]at H;have f9:decide (az<(l0.length:Int))=true:=decide_eq_true c3;clear c3
   by_cases c4:0≤az
   rotate_left
   ·
    rw[if_neg c4]at H;exact absurd H (by simp)
   rw[if_pos c4]at H;have gt:decide (0≤az)=true:=decide_eq_true c4;clear c4
   by_cases c5:az<(l0.length:Int)
   rotate_left
   ·
    rw[if_neg c5]at H;exact absurd H (by simp)
   rw[if_pos c5]at H;have iV:decide (az<(l0.length:Int))=true:=decide_eq_true c5;clear c5;replace H:=Hz.mp H;obtain⟨⟨wH,t137⟩,gF,H⟩:=H
   try dsimp only at H
   have A6:=Ah gF;clear gF
   by_cases c7:t137=true
   rotate_left
   ·
    replace c7:=i1.mpr c7;subst c7;rw[if_neg dO]at H;simp only[kD,o7]at H;obtain⟨rfl,rfl⟩:=H;have t4:0≤(az:Int):=od;have t5:az<(l0.length:Int):=od;obtain⟨YF,Gd,sK⟩:=Kd.jR dU.out az t4 t5
    cases Gd
    replace sK:=(HB.out.cell (cy w _ sK)).trans sK;replace t4:=eq_true t4;replace t5:=eq_true t5
    go_wp2_with (first|((with_reducible refine ar (f:=67) rfl ?_);refine gL (some 19) rfl rfl Try.func67 (by kernel_rfl) rfl #[.string (dN JZ l0 az)] rfl ?_;(with_reducible refine(eZ.calls k1 (dN JZ l0 az) wH false _ A6.out).mono ?_);rintro e jO ⟨v138,rfl,ho0,hb⟩;refine⟨_,rfl, ?_⟩;have nV:=Ah (Kd.b8 (Kd.aA ho0 (Kd.Z (rr cr.out))) (bF (bs HB)));replace cr:=Ah (Kd.aX (rr cr.out) (Kd.a8 ho0) hb);replace HB:=Ah (aT (bs HB) hb);(try clear hb ho0)))
    go_ret2
    exact⟨_,er,by first|exact Kd.dr _ _ _ _ _|exact Kd.e8 _ _ _ _ _|exact Kd.e9 _ _ _ _ _|exact Kd.e5 _ _ _ _ _|exact Kd.e7 _ _ _ _ _,bs HB⟩
   subst c7;rw[if_pos rfl]at H;replace H:=Hz.mp H;obtain⟨QU,lz,H⟩:=H
   try dsimp only at H
   have A8:=Ah lz;clear lz
   by_cases c9:QU=true
   rotate_left
   ·
    replace c9:=i1.mpr c9;subst c9;rw[if_neg dO]at H;simp only[kD,o7]at H;obtain⟨rfl,rfl⟩:=H;have t4:0≤(az:Int):=od;have t5:az<(l0.length:Int):=od;obtain⟨YF,Gd,sK⟩:=Kd.jR dU.out az t4 t5
    cases Gd
    replace sK:=(HB.out.cell (cy w _ sK)).trans sK;replace t4:=eq_true t4;replace t5:=eq_true t5
    go_wp2_with (first|((with_reducible refine ar (f:=67) rfl ?_);refine gL (some 19) rfl rfl Try.func67 (by kernel_rfl) rfl #[.string (dN JZ l0 az)] rfl ?_;(with_reducible refine(eZ.calls k1 (dN JZ l0 az) wH true _ A6.out).mono ?_);rintro e jN ⟨v138,rfl,ho0,hb⟩;refine⟨_,rfl, ?_⟩;have nV:=Ah (Kd.b8 (Kd.aA ho0 (Kd.Z (rr cr.out))) (bF (bs HB)));replace cr:=Ah (Kd.aX (rr cr.out) (Kd.a8 ho0) hb);replace HB:=Ah (aT (bs HB) hb);(try clear hb ho0);obtain⟨wI,wJ,QV⟩:=Kd.ao nV.out;subst QV)|(go_at_call 25;(with_reducible refine(eI.calls k1 _ _ wH a1 false _ ?aI ?aJ A8.out).mono ?_);(case aI=>exact bd nV);(case aJ=>exact(Kd.aq nV.out).2.1);rintro e Lm ⟨rfl,hb⟩;replace cr:=nr cr hb;replace nV:=nr nV hb;replace HB:=Ah (aT (bs HB) hb);(try clear hb)))
    go_ret2
    exact⟨_,er,by first|exact Kd.dr _ _ _ _ _|exact Kd.e8 _ _ _ _ _|exact Kd.e9 _ _ _ _ _|exact Kd.e5 _ _ _ _ _|exact Kd.e7 _ _ _ _ _,bs HB⟩
   subst c9;rw[if_pos rfl]at H
   by_cases c10:gi.length+wH.length<5864062014805
   rotate_left
   ·
    rw[if_neg c10]at H;exact absurd H (by simp)
   rw[if_pos c10]at H;have P4:=Ah c10;clear c10;obtain⟨a0r,FF⟩:∃y_:List (aQ),y_=(gi++wH):=⟨_,rfl⟩
   replace H:(fN.l0 k1 a1 a0r l0 (l0.length:Int) (IH (az+1)))=some (r1,r2):=by first|(rw[FF];with_reducible exact H)|(have bB:=(aV _ _).symm.trans H;rw[FF];with_reducible exact bB)|(have bB:=(aV _ _).symm.trans H;with_reducible exact bB)|with_reducible exact H|(rw[FF];exact H)|exact H
   have Ny141:=Ah FF;clear FF;have H':=Ah H;clear H;have t4:0≤(az:Int):=od;have t5:az<(l0.length:Int):=od;obtain⟨YF,Gd,sK⟩:=Kd.jR dU.out az t4 t5
   cases Gd
   replace sK:=(HB.out.cell (cy w _ sK)).trans sK;replace t4:=eq_true t4;replace t5:=eq_true t5
   go_wp2_with (first|((with_reducible refine ar (f:=67) rfl ?_);refine gL (some 19) rfl rfl Try.func67 (by kernel_rfl) rfl #[.string (dN JZ l0 az)] rfl ?_;(with_reducible refine(eZ.calls k1 (dN JZ l0 az) wH true _ A6.out).mono ?_);rintro e uP ⟨v138,rfl,ho0,hb⟩;refine⟨_,rfl, ?_⟩;have nV:=Ah (Kd.b8 (Kd.aA ho0 (Kd.Z (rr cr.out))) (bF (bs HB)));replace cr:=Ah (Kd.aX (rr cr.out) (Kd.a8 ho0) hb);replace HB:=Ah (aT (bs HB) hb);(try clear hb ho0);obtain⟨d5,cq,p9⟩:=Kd.ao nV.out;subst p9)|(go_at_call 25;(with_reducible refine(eI.calls k1 _ _ wH a1 true _ ?aI ?aJ A8.out).mono ?_);(case aI=>exact bd nV);(case aJ=>exact(Kd.aq nV.out).2.1);rintro e pz ⟨rfl,hb⟩;replace cr:=nr cr hb;replace nV:=nr nV hb;replace HB:=Ah (aT (bs HB) hb);(try clear hb))|((with_reducible refine oA (b:= .append) (xs:= #[.tmp 30,.tmp 31]) rfl ?_);at_builtin;refine Kd.wa bL (w0:=w) w.heap.size rfl (.tmp 30) (.tmp 31) 24 37 (.agg #[(.int .i64 0),(.string ⟨#[]⟩)]) 24 rfl aaF pb rfl (by decide) (by omega) u6 gi wH _ _ _ (fun k_=>some k_≠(.slice d5 wH.length cq:Value).ownBlock) (fun _=>False) rfl rfl ?aO ?aR (fun _ _ h=>h) (fun _ h=>h.elim) ?aF ?aB ?aS ?aL ?_;(case aR=>exact bd nV);(case aB=>exact(bs HB));(case aF=>exact(fun k_ hk=>Kd.fresh' (Kd.Z (rr nV.out)) k_ hk));(case aO=>exact(by(with_reducible repeat(first|apply Kd.ah|apply Kd.ai|apply Kd.aY));exact Kd.aH cr.out (fun _ hk=>hk.2)));(case aS=>exact(bF (bs HB)));(case aL=>have:=P4.out;omega);intro a0d pM ho hb hg hat;rw[←Ny141.out]at ho;replace nV:=Ah (Kd.uj (ok:=(fun _=>True)) (rr nV.out) hg hat);replace HB:=Ah (hb);have HO143:=Ah (ho);clear cr;clear ho hb hg hat))
   go_roundg k1
   case measure=>have:=cN.out;omega
   case rel=>exact⟨(a0r),(IH (az+1)),e3,H',⟨by have:=cN.out;omega⟩,rm HO143 (fun _ hk=>trivial),⟨bs HB⟩⟩
mutual
def cg.j0:Nat→Bool→List ByteArray→List (aQ)→List ByteArray→Int→Option (Bool)
 |0,_,_,_,_,_=>none
 |k+1,x30,W3,W4,Nb,Nc=>if x30=true then(some false)else((fN.f k Nb (W3.length:Int)).bind fun bt147=>(if bt147.2=true then(if 0≤Nc then(if Nc≤(Nb.length:Int)then((fN.f k (Nb.take (Nc:Int).toNat) (W3.length:Int)).bind fun bt152=>(cg.l0 k bt152.1 W4 (W4.length:Int) 0))else(none))else(none))else(some false)))
def cg.l0:Nat→List (aQ)→List (aQ)→Int→Int→Option (Bool)
 |0,_,_,_,_=>none
 |k+1,x5,yQ,Do,uQ=>if uQ<Do then(if 0≤uQ then(if uQ<(yQ.length:Int)then(cg.l1 k x5 false yQ Do uQ x5 (x5.length:Int) 0 ((aM yQ uQ).f0) ((aM yQ uQ).f1))else(none))else(none))else(some true)
def cg.l1:Nat→List (aQ)→Bool→List (aQ)→Int→Int→List (aQ)→Int→Int→Int→ByteArray→Option (Bool)
 |0,_,_,_,_,_,_,_,_,_,_=>none
 |k+1,x5,x9,yQ,Do,uQ,I7,Ry,x66,Nd,Nf=>if x66<Ry then(if 0≤x66 then(if x66<(I7.length:Int)then(if x9=true then(cg.l1 k x5 true yQ Do uQ I7 Ry (IH (x66+1)) Nd Nf)else(cg.l1 k x5 (((aM I7 x66).f0)==Nd&& ((((aM I7 x66).f1).toList)==Nf.toList)) yQ Do uQ I7 Ry (IH (x66+1)) Nd Nf))else(none))else(none))else(if x9=true then(cg.l0 k x5 yQ Do (IH (uQ+1)))else(some false))
end
def cg.f(k:Nat)(aG:List ByteArray)(aD:List (aQ))(aK:List ByteArray)(aN:Int):Option (Bool):=(eS.f k aG aD).bind fun t145=>(if t145=true then(if(aK.length:Int)>40 then(cg.j0 k true aG aD aK aN)else((kX.f aN 0 (aK.length:Int)).bind fun t146=>(cg.j0 k (!t146) aG aD aK aN)))else(cg.j0 k true aG aD aK aN))
theorem cg.cW:∀k,(∀y0 y1 y2 y3 y4,aE (cg.j0 k y0 y1 y2 y3 y4) (cg.j0 (k+1) y0 y1 y2 y3 y4))∧(∀y0 y1 y2 y3,aE (cg.l0 k y0 y1 y2 y3) (cg.l0 (k+1) y0 y1 y2 y3))∧(∀y0 y1 y2 y3 y4 y5 y6 y7 y8 y9,aE (cg.l1 k y0 y1 y2 y3 y4 y5 y6 y7 y8 y9) (cg.l1 (k+1) y0 y1 y2 y3 y4 y5 y6 y7 y8 y9))
 |0=>⟨fun _ _ _ _ _ r h=>by simp[cg.j0]at h,fun _ _ _ _ r h=>by simp[cg.l0]at h,fun _ _ _ _ _ _ _ _ _ _ r h=>by simp[cg.l1]at h⟩
 |k+1=>by
  obtain⟨be,ih1,ih2⟩:=cg.cW k
  refine⟨?_, ?_, ?_⟩<;>intros<;>first|unfold cg.j0|unfold cg.l0|unfold cg.l1
  all_goals repeat' first
   |(with_reducible exact be _ _ _ _ _)
   |(with_reducible exact ih1 _ _ _ _)
   |(with_reducible exact ih2 _ _ _ _ _ _ _ _ _ _)
   |(with_reducible exact eS.mono _ _ _)
   |(with_reducible exact fN.mono _ _ _)
   |(with_reducible exact aE.refl _)
   |(with_reducible exact aE.none _)
   |(with_reducible refine aE.ite ?_ ?_)
   |(with_reducible refine aE.bind ?_ (fun _=> ?_))
   |exact be _ _ _ _ _
   |exact ih1 _ _ _ _
   |exact ih2 _ _ _ _ _ _ _ _ _ _
   |exact eS.mono _ _ _
   |exact fN.mono _ _ _
   |exact aE.none _
   |refine aE.ite ?_ ?_
   |refine aE.bind ?_ (fun _=> ?_)
theorem cg.mono:∀a0 a1 a2 a3 k,aE (cg.f k a0 a1 a2 a3) (cg.f (k+1) a0 a1 a2 a3):=by
 intro a0 a1 a2 a3 k;obtain⟨be,ih1,ih2⟩:=cg.cW k;unfold cg.f
 repeat' with_reducible first|exact be _ _ _ _ _|exact ih1 _ _ _ _|exact ih2 _ _ _ _ _ _ _ _ _ _|exact eS.mono _ _ _|exact fN.mono _ _ _|exact aE.refl _|exact aE.none _|refine aE.ite ?_ ?_|refine aE.bind ?_ (fun _=> ?_)
def cg.T6:Bool×List (List Nat×List Nat):=(true,[([],[]),([0],[0]),([],[]),([2],[2]),([1,3],[1,3]),([],[]),([5],[5]),([6],[6]),([7],[7]),([4,8],[4,8]),([9],[9]),([10],[10]),([10],[10]),([11,9,0,1,2,3,4,5,6,7,8,9,10,11],[11]),([12,13,0,1,2,3,4,5,6,7,8,9,10,11,12,13],[12])])
def cg.B6:List Nat:=[0,1,0,4,15,0,32,96,224,511,1023,2047,2047,4095,16383]
theorem cg.tab6:gh .any (mz Try.f24 6)=cg.T6:=by kernel_rfl
theorem cg.bits6:kc cg.T6.2 cg.B6=true:=by kernel_rfl
set_option maxHeartbeats 8000000 in
set_option maxRecDepth 100000 in
theorem cg.calls(k:Nat)(b0:Option Addr)(b5:Nat)(aG:List ByteArray)(b7:Option Addr)(ay:Nat)(aD:List (aQ))(bV:Option Addr)(bR:Nat)(aK:List ByteArray)(aN:Int)(r:Bool)(w:World)(eV:Kd.C Kd.string w b0 aG.length aG)(eW:aG.length≤b5)(eX:Kd.C bL w b7 aD.length aD)(eY:aD.length≤ay)(gS:Kd.C Kd.string w bV aK.length aK)(gT:aK.length≤bR)(h:cg.f k aG aD aK aN=some r):
 Calls tP 24 #[.agg #[.slice b0 aG.length b5,.slice b7 aD.length ay,.slice bV aK.length bR,.int .i64 aN]] w fun e w'=>e= .returned (.bool r)∧Below w.heap.size w w':=by
 have me:=aaa;have nG:=aam;have jt:=aah;have dY:=Ah eV;have dj:=Ah eW;clear eV eW;have dS:=Ah eX;have dt:=Ah eY;clear eX eY;have eQ:=Ah gS;have ef:=Ah gT;clear gS gT;have HB:=Ah (qB w.heap.size w);have H:((eS.f k aG aD).bind fun t145=>(if t145=true then(if(aK.length:Int)>40 then(cg.j0 k true aG aD aK aN)else((kX.f aN 0 (aK.length:Int)).bind fun t146=>(cg.j0 k (!t146) aG aD aK aN)))else(cg.j0 k true aG aD aK aN)))=some r:=h;clear h;have pN:=Ah H;clear H
 go_enter aba,Try.ntmps24
 go_upto_region 1 with(first|((with_reducible refine bC (N:=1) rfl ?_);(try(refine fS (by rfl) ?_;dsimp only));refine bK 1 28 #[.slice b0 aG.length b5,.slice b7 aD.length ay,.slice bV aK.length bR,.int .i64 aN] ?_;intro ze hg w3 eE hb;have GW144:=gw hg (bs HB);have ii:=gw hg (bs HB);replace HB:=Ah (aT (bs HB) hb);clear hb hg))
 (try simp only[aab,Ok,mr,mQ])
 go_cut [30] (fun v30 wc=>∃ (kq:Nat) (KV:Bool),v30= .bool KV∧a9 (cg.j0 kq KV aG aD aK aN=some r)∧a9 (kq≤k)∧a9 (wc.heap[ze]?=some (.cells #[(.slice b0 aG.length b5),(.slice b7 aD.length ay),(.slice bV aK.length bR),.int .i64 aN] 28 (0,0)))∧a9 (Below w.heap.size w wc))
 case first=>
  have H:=pN.out;clear pN;replace H:=Hz.mp H;obtain⟨t145,ek,H⟩:=H
  try dsimp only at H
  have A4:=Ah ek;clear ek
  by_cases c5:t145=true
  rotate_left
  ·
   replace c5:=i1.mpr c5;subst c5;rw[if_neg dO]at H;have H':=Ah H;clear H;obtain⟨sM,sN,xH,xI⟩:=b9 eE;obtain⟨sO,sP,xJ,xK⟩:=bA eE
   go_wp2_with (first|((with_reducible refine ar (f:=50) rfl ?_);refine gL (some 14) rfl rfl abg (by kernel_rfl) rfl #[.agg #[.slice b0 aG.length b5,.slice b7 aD.length ay]] rfl ?_;(with_reducible refine(eS.calls k _ _ aG _ _ aD false _ ?aI ?aJ ?af ?ak A4.out).mono ?_);(case aI=>exact cb dY HB);(case aJ=>exact dj.out);(case af=>exact cb dS HB);(case ak=>exact dt.out);rintro e jN ⟨rfl,hb⟩;refine⟨_,rfl, ?_⟩;replace eE:=nb eE hb;replace HB:=Ah (aT (aZ HB ii) hb);(try clear hb)))
   go_meet
   case rel=>exact⟨_,(true),e3,H',⟨by first|omega|exact lQ _⟩,⟨bk eE⟩,⟨aZ HB ii⟩⟩
  subst c5;rw[if_pos rfl]at H
  by_cases c6:(aK.length:Int)>40
  ·
   rw[if_pos c6]at H;have iG:decide (40<(aK.length:Int))=true:=decide_eq_true c6;have rt:decide (40<aK.length)=true:=decide_eq_true (by omega);clear c6;(first|rw[iG]|(simp only[eK,eT];rw[iG])|(simp only[QW,aaX,aaW])|skip);have H':=Ah H;clear H;obtain⟨oM,oN,zS,zT⟩:=b9 eE;obtain⟨oO,oP,zU,zV⟩:=bA eE
   go_wp2_with (first|((with_reducible refine ar (f:=50) rfl ?_);refine gL (some 14) rfl rfl abg (by kernel_rfl) rfl #[.agg #[.slice b0 aG.length b5,.slice b7 aD.length ay]] rfl ?_;(with_reducible refine(eS.calls k _ _ aG _ _ aD true _ ?aI ?aJ ?af ?ak A4.out).mono ?_);(case aI=>exact cb dY HB);(case aJ=>exact dj.out);(case af=>exact cb dS HB);(case ak=>exact dt.out);rintro e w8 ⟨rfl,hb⟩;refine⟨_,rfl, ?_⟩;replace eE:=nb eE hb;replace HB:=Ah (aT (aZ HB ii) hb);(try clear hb);obtain⟨sT,sU,xN,zW⟩:=b9 eE;obtain⟨tc,sV,xO,zX⟩:=bA eE))
   go_meet
   case rel=>exact⟨_,(true),e3,H',⟨by first|omega|exact lQ _⟩,⟨bk eE⟩,⟨aZ HB ii⟩⟩
  rw[if_neg c6]at H;have iG:decide (40<(aK.length:Int))=false:=decide_eq_false c6;have rt:decide (40<aK.length)=false:=decide_eq_false (by omega);clear c6;(first|rw[iG]|(simp only[eK,eT];rw[iG])|(simp only[QW,aaX,aaW])|skip);replace H:=Hz.mp H;obtain⟨t146,Ge,H⟩:=H
  try dsimp only at H
  have Rz:=Ah Ge;clear Ge;have H':=Ah H;clear H;obtain⟨jC,jD,l4,l5⟩:=b9 eE;obtain⟨jE,jF,l6,l7⟩:=bA eE
  go_wp2_with (first|((with_reducible refine ar (f:=50) rfl ?_);refine gL (some 14) rfl rfl abg (by kernel_rfl) rfl #[.agg #[.slice b0 aG.length b5,.slice b7 aD.length ay]] rfl ?_;(with_reducible refine(eS.calls k _ _ aG _ _ aD true _ ?aI ?aJ ?af ?ak A4.out).mono ?_);(case aI=>exact cb dY HB);(case aJ=>exact dj.out);(case af=>exact cb dS HB);(case ak=>exact dt.out);rintro e lP ⟨rfl,hb⟩;refine⟨_,rfl, ?_⟩;replace eE:=nb eE hb;replace HB:=Ah (aT (aZ HB ii) hb);(try clear hb);obtain⟨pX,pY,rQ,rR⟩:=b9 eE;obtain⟨pZ,pa,rS,rT⟩:=bA eE)|(go_at_call 51;(with_reducible refine(kX.calls aN 0 (aK.length:Int) t146 _ Rz.out).mono ?_);rintro e w' ⟨rfl,⟨nd,rfl⟩⟩))
  go_meet
  case rel=>exact⟨_,(!t146),e3,H',⟨by first|omega|exact lQ _⟩,⟨bk eE⟩,⟨aZ HB ii⟩⟩
 case rest=>
  clear pN
  try clear c2
  try clear p2
  try clear c5
  try clear c6
  try clear iG
  try clear rt
  try clear jC jD l4 l5
  try clear pX pY rQ rR
  try clear sM sN xH xI
  try clear oM oN zS zT
  try clear sT sU xN zW
  try clear jE jF l6 l7
  try clear pZ pa rS rT
  try clear sO sP xJ xK
  try clear oO oP zU zV
  try clear tc sV xO zX
  obtain⟨kq,KV,rfl,HA,rB,eE,HB⟩:=hcut
  cases kq with
  |zero=>exact absurd HA.out (by simp[cg.j0])
  |succ pO=>
   have H:=HA.out;clear HA;simp only[cg.j0]at H
   by_cases c16:KV=true
   ·
    subst c16;rw[if_pos rfl]at H;obtain rfl:=ec H
    go_wp2
    go_ret
    exact⟨er,aZ HB ii⟩
   replace c16:=i1.mpr c16;subst c16;rw[if_neg dO]at H;replace H:=Hz.mp H;obtain⟨⟨a0s,t148⟩,xx,H⟩:=H
   try dsimp only at H
   have rC:=Ah xx;clear xx
   by_cases c18:t148=true
   rotate_left
   ·
    replace c18:=i1.mpr c18;subst c18;rw[if_neg dO]at H;obtain rfl:=ec H;obtain⟨xA,xB,yw,yx⟩:=b9 eE;obtain⟨xC,xD,yy,yz⟩:=bA eE
    go_wp2_with (first|((with_reducible refine ar (f:=52) rfl ?_);refine gL (some 38) rfl rfl abG (by kernel_rfl) rfl #[.slice bV aK.length bR,.int .i64 (aG.length:Int)] rfl ?_;(with_reducible refine(fN.calls pO _ _ aK (aG.length:Int) a0s false _ ?aI ?aJ rC.out).mono ?_);(case aI=>exact cb eQ HB);(case aJ=>exact ef.out);rintro e w51 ⟨v149,rfl,ho0,hb⟩;refine⟨_,rfl, ?_⟩;have vR:=Ah (Kd.b8 ho0 (bF (aZ HB ii)));replace eE:=nb eE hb;replace HB:=Ah (aT (aZ HB ii) hb);(try clear hb ho0)))
    go_ret
    exact⟨er,aZ HB ii⟩
   subst c18;rw[if_pos rfl]at H
   by_cases c19:0≤aN
   rotate_left
   ·
    rw[if_neg c19]at H;exact absurd H (by simp)
   rw[if_pos c19]at H;have Ca:=eq_true c19;have FB:decide (0≤aN)=true:=decide_eq_true c19;clear c19
   by_cases c20:aN≤(aK.length:Int)
   rotate_left
   ·
    rw[if_neg c20]at H;exact absurd H (by simp)
   rw[if_pos c20]at H;have P5:=eq_true c20;have YG:decide (aN≤(aK.length:Int))=true:=decide_eq_true c20;clear c20;replace H:=Hz.mp H;obtain⟨⟨t152,t153⟩,t3,H⟩:=H
   try dsimp only at H
   have tO:=Ah t3;clear t3;have H':=Ah H;clear H;obtain⟨kd,ke,mU,mV⟩:=b9 eE;obtain⟨kf,kg,mW,mX⟩:=bA eE
   try go_wp2_with (first|((with_reducible refine ar (f:=52) rfl ?_);refine gL (some 38) rfl rfl abG (by kernel_rfl) rfl #[.slice bV aK.length bR,.int .i64 (aG.length:Int)] rfl ?_;(with_reducible refine(fN.calls pO _ _ aK (aG.length:Int) a0s true _ ?aI ?aJ rC.out).mono ?_);(case aI=>exact cb eQ HB);(case aJ=>exact ef.out);rintro e tM ⟨v149,rfl,ho0,hb⟩;refine⟨_,rfl, ?_⟩;have vR:=Ah (Kd.b8 ho0 (bF (aZ HB ii)));replace eE:=nb eE hb;replace HB:=Ah (aT (aZ HB ii) hb);(try clear hb ho0)))
   have an:=Ah (Kd.aY vR.out);have am:=Ah (U eE.out);have aw:=Ah (jg HB.out);clear vR eE HB;have vR:=an;have eE:=am;have HB:=aw;clear an am aw;obtain⟨i025,YH,_,YI,_⟩:=info_parts mB;obtain⟨hcut25,a0t,a0u⟩:=yY (P:=tP) Value.string (⟨#[]⟩:ByteArray) 23 9 .i64 aas YH YI bV bR aK aN (od) (od) ef.out;have YJ:=Ah (Kd.uU (h1:=fun _=>rfl) (a0t _ (Kd.sH eQ.out)));have HC151:=Ah a0u;clear a0t a0u YH YI;refine la (n:=15) (S:=fun w'=>w'.cell? ⟨ze,0,none⟩=some (.slice b0 aG.length b5)∧w'.cell? ⟨ze,1,none⟩=some (.slice b7 aD.length ay)∧w'.cell? ⟨ze,2,none⟩=some (.slice bV aK.length bR)∧w'.cell? ⟨ze,3,none⟩=some (.int .i64 aN)) (ds:=[]) #[false,false,false,false,false,false,false,false,false,false,false,false,false,false,false] (by kernel_rfl) rfl rfl ⟨(ab eE.out 0).trans rfl,(ab eE.out 1).trans rfl,(ab eE.out 2).trans rfl,(ab eE.out 3).trans rfl⟩ (fun hHeld=> ?_);refine m4 cg.tab6 cg.bits6 (fun ac eh=> ?_)
   generalize tM.drew=nL at vR eE HB YJ hHeld⊢
   refine bZ 0 44 ac.out ?_;refine bZ 2 46 ac.out ?_;refine bZ 5 49 ac.out ?_;refine bZ 6 50 ac.out ?_;refine gy 1 45 ac.out eh.out hHeld (hr:=by rintro w' ⟨s0,s1,s2,s3⟩;go_simp;with_reducible rfl) (h:= ?_);refine gy 3 47 ac.out eh.out hHeld (hr:=by rintro w' ⟨s0,s1,s2,s3⟩;go_simp;with_reducible rfl) (h:= ?_);refine bZ 4 48 ac.out ?_;refine gy 7 51 ac.out eh.out hHeld (hr:=by rintro w' ⟨s0,s1,s2,s3⟩;go_simp;with_reducible rfl) (h:= ?_);refine bZ 8 52 ac.out ?_;refine fw (i:=9) (N:=some 53) #[true,true,true,true,true,true,true,true,true,true,false,false,false,false,false] rfl rfl (ff ac.out (by kernel_rfl)) (by decide) (fun K hK=> ?_);refine kI Try.func52 (by kernel_rfl) rfl #[.slice bV (aK.take (aN:Int).toNat).length bR,.int .i64 (aG.length:Int)] (by rfl) rfl rfl (by(try simp only[List.map_toArray,List.map_cons,List.map_nil]);first|done|(rw[show(aK.take (aN:Int).toNat).length=aN.toNat from(by rw[List.length_take];have h_:(aN:Int)≤(aK.length:Int):=od;omega)]<;>rfl)|rfl|(simp only[List.length_drop,List.length_take];rfl)) ?_
   with_reducible refine(fN.calls pO _ _ (aK.take (aN:Int).toNat) (aG.length:Int) t152 t153 _ ?aI ?aJ tO.out).mono ?_
   (case aI=>exact cb YJ HB);(case aJ=>exact HC151.out);rintro e rA ⟨v154,rfl,ho0,hb⟩;refine⟨_,rfl, ?_⟩;have an:=Ah (Kd.aX (rr vR.out) (Kd.a8 ho0) hb);have am:=Ah (Kd.b8 (Kd.aA ho0 (Kd.Z (rr vR.out))) (bF (aZ HB ii)));have aw:=Ah (bb eE hb);have bI:=Ah (aT (aZ HB ii) hb);clear vR eE HB;have vR:=an;have HO155:=am;have eE:=aw;have HB:=bI;clear an am aw bI;(try clear hb);(try clear hb2);(try clear hk);(try clear hi);(try clear ho0);refine hK.out _ _ ⟨(ab eE.out 0).trans rfl,(ab eE.out 1).trans rfl,(ab eE.out 2).trans rfl,(ab eE.out 3).trans rfl⟩ (fun hHeld=> ?_);clear hK K;refine gN (a':= ?_) ?_ ?_;rotate_left
   ·
    show aab _ (some 53) _=_
    simp only[aab,Ok,mr,mQ,eK,eT]
    rfl
   refine bZ 10 43 ac.out ?_;refine bZ 11 54 ac.out ?_;refine bZ 12 55 ac.out ?_;refine bZ 13 5 ac.out ?_;refine bZ 14 6 ac.out ?_;refine kj (l3 ac.out (by kernel_rfl)) ?_;obtain⟨EU,EV,Ng,Nh⟩:=b9 eE;obtain⟨EW,EX,Nl,Nm⟩:=bA eE
   try go_wp2
   go_loopg [60] pO (fun kq v60 w'=>∃ (jS:Int),v60= .int .i64 jS∧a9 (cg.l0 kq t152 aD (aD.length:Int) jS=some r)∧a9 (kq≤pO)∧a9 (Kd.R bL 37 w' w.heap.size (fun _=>True) v154 t152)∧a9 (w'.heap[ze]?=some (.cells #[(.slice b0 aG.length b5),(.slice b7 aD.length ay),(.slice bV aK.length bR),.int .i64 aN] 28 (0,0)))∧a9 (Below w.heap.size w w'))
   case atStart=>exact⟨(0),e3,H',⟨lQ _⟩,rm HO155 (fun _ hk=>trivial),⟨bk eE⟩,⟨aZ HB ii⟩⟩
   case round=>
    clear H'
    try clear c1
    try clear c2
    try clear p2
    try clear c5
    try clear c6
    try clear iG
    try clear rt
    try clear c16
    try clear c18
    try clear c19
    try clear Ca
    try clear FB
    try clear c20
    try clear P5
    try clear YG
    try clear c24
    try clear jC jD l4 l5
    try clear pX pY rQ rR
    try clear sM sN xH xI
    try clear kd ke mU mV
    try clear EU EV Ng Nh
    try clear oM oN zS zT
    try clear sT sU xN zW
    try clear jE jF l6 l7
    try clear pZ pa rS rT
    try clear sO sP xJ xK
    try clear kf kg mW mX
    try clear EW EX Nl Nm
    try clear oO oP zU zV
    try clear tc sV xO zX
    try clear p2
    obtain⟨jS,rfl,HA,jf,cV,eE,HB⟩:=hrel
    cases gk with
    |zero=>exact absurd HA.out (by simp[cg.l0])
    |succ k2=>
     have H:=HA.out;clear HA;simp only[cg.l0]at H
     by_cases c28:jS<(aD.length:Int)
     rotate_left
     ·
      rw[if_neg c28]at H;have YK:decide (jS<(aD.length:Int))=false:=decide_eq_false c28;clear c28;obtain rfl:=ec H
      go_wp2
      go_ret
      exact⟨er,aZ HB ii⟩
     rw[if_pos c28]at H;have YK:decide (jS<(aD.length:Int))=true:=decide_eq_true c28;clear c28
     by_cases m0:0≤jS
     rotate_left
     ·
      rw[if_neg m0]at H;exact absurd H (by simp)
     rw[if_pos m0]at H;have c29b0:decide (0≤jS)=true:=decide_eq_true m0;clear m0
     by_cases uR:jS<(aD.length:Int)
     rotate_left
     ·
      rw[if_neg uR]at H;exact absurd H (by simp)
     rw[if_pos uR]at H;have c30b0:decide (jS<(aD.length:Int))=true:=decide_eq_true uR;clear uR;have H':=Ah H;clear H;have LH:0≤(jS:Int):=od;have LI:jS<(aD.length:Int):=od;obtain⟨ad156,e156,JH,JI⟩:=iA dS.out jS LH LI
     cases e156
     replace JH:=(HB.out.cell (cy w _ JH)).trans JH;replace JI:=(HB.out.cell (cy w _ JI)).trans JI;replace LH:=eq_true LH;replace LI:=eq_true LI
     go_wp2_with (first|((with_reducible refine bC (N:=8) rfl ?_);(try(refine fS (by rfl) ?_;dsimp only));refine bK 8 37 #[.int .i64 0,.string (⟨#[]⟩:ByteArray)] ?_;intro tf hg w31 nW hb;replace cV:=Ah (Kd.fT (Kd.ka (rr cV.out) tf (aau hg.symm)) hb);have GW157:=gw hg (aZ HB ii);have sa:=gw hg (aZ HB ii);replace HB:=Ah (aT (aZ HB ii) hb);have MC:=nn eE hg;have T9:=nm eE hg;replace eE:=nb eE hb;clear hb hg;have YL:=T9.out;have YM:=MC.out;obtain⟨EY,EZ⟩:=cH nW;obtain⟨Ea,Eb⟩:=cD nW;obtain⟨g8,g9,xy⟩:=Kd.ao cV.out;subst xy))
     go_loopg [9,66] k2 (fun kq v9 v66 w'=>∃ (Gf:Bool) (j2:Int),v9= .bool Gf∧v66= .int .i64 j2∧a9 (cg.l1 kq t152 Gf aD (aD.length:Int) jS t152 (t152.length:Int) j2 ((aM aD jS).f0) ((aM aD jS).f1)=some r)∧a9 (kq≤k2)∧a9 (Kd.R bL 37 w' w.heap.size (fun k_=>k_≠tf) (.slice g8 t152.length g9) t152)∧a9 (Kd.R bL 37 w' w.heap.size (fun k_=>k_≠tf) (.slice g8 t152.length g9) t152)∧a9 (w'.heap[ze]?=some (.cells #[(.slice b0 aG.length b5),(.slice (some ad156) aD.length ay),(.slice bV aK.length bR),.int .i64 aN] 28 (0,0)))∧a9 (w'.heap[tf]?=some (.cells #[.int .i64 ((aM aD jS).f0),.string ((aM aD jS).f1)] 37 (0,0)))∧a9 (Below w.heap.size w w'))
     case atStart=>exact⟨(false),(0),e3,e3,H',⟨lQ _⟩,⟨by(with_reducible repeat(first|apply Kd.ah|apply Kd.ai|apply Kd.aY));exact Kd.aH (Kd.I (p:=⟨tf,1,none⟩) (Kd.I (p:=⟨tf,0,none⟩) (Kd.aH cV.out (fun k_ hk=>(⟨hk,hk.2⟩:_∧k_≠tf))) (fun _ hk=>hk.2) (.int .i64 ((aM aD jS).f0))) (fun _ hk=>hk.2) (.string ((aM aD jS).f1))) (fun _ hk=>hk.1.2)⟩,⟨by(with_reducible repeat(first|apply Kd.ah|apply Kd.ai|apply Kd.aY));exact Kd.aH (Kd.I (p:=⟨tf,1,none⟩) (Kd.I (p:=⟨tf,0,none⟩) (Kd.aH cV.out (fun k_ hk=>(⟨hk,hk.2⟩:_∧k_≠tf))) (fun _ hk=>hk.2) (.int .i64 ((aM aD jS).f0))) (fun _ hk=>hk.2) (.string ((aM aD jS).f1))) (fun _ hk=>hk.1.2)⟩,⟨bf eE MC⟩,⟨by(with_reducible repeat(first|refine aC ?_ _|refine U ?_|refine X ?_ _));refine aU (cs:= #[.int .i64 ((aM aD jS).f0),.string (⟨#[]⟩:ByteArray)]) ?_ 1 _ rfl;(with_reducible repeat(first|refine aC ?_ _|refine U ?_|refine X ?_ _));refine aU (cs:= #[.int .i64 0,.string (⟨#[]⟩:ByteArray)]) ?_ 0 _ rfl;(with_reducible repeat(first|refine aC ?_ _|refine U ?_|refine X ?_ _));exact nW.out⟩,⟨aj HB ii sa⟩⟩
     case round=>
      clear H'
      try clear c1
      try clear p1
      try clear q1
      try clear hx1
      try clear c2
      try clear p2
      try clear c3
      try clear c5
      try clear c6
      try clear iG
      try clear rt
      try clear Ln
      try clear Lo
      try clear hx15
      try clear c16
      try clear c18
      try clear c19
      try clear Ca
      try clear FB
      try clear c20
      try clear P5
      try clear YG
      try clear c24
      try clear c28
      try clear YK
      try clear m0
      try clear c29b0
      try clear uR
      try clear c30b0
      try clear c32
      try clear jC jD l4 l5
      try clear pX pY rQ rR
      try clear sM sN xH xI
      try clear kd ke mU mV
      try clear EU EV Ng Nh
      try clear EY EZ
      try clear oM oN zS zT
      try clear sT sU xN zW
      try clear jE jF l6 l7
      try clear pZ pa rS rT
      try clear sO sP xJ xK
      try clear kf kg mW mX
      try clear EW EX Nl Nm
      try clear Ea Eb
      try clear oO oP zU zV
      try clear tc sV xO zX
      try clear JH
      try clear JI
      try clear LH
      try clear p2
      try clear LI
      obtain⟨Gf,j2,rfl,rfl,HA,mq,cV,xX,eE,nW,HB⟩:=hrel
      cases gk with
      |zero=>exact absurd HA.out (by simp[cg.l1])
      |succ k3=>
       have H:=HA.out;clear HA;simp only[cg.l1]at H
       by_cases sB:j2<(t152.length:Int)
       rotate_left
       ·
        rw[if_neg sB]at H;have YN:decide (j2<(t152.length:Int))=false:=decide_eq_false sB;clear sB
        by_cases c49:Gf=true
        rotate_left
        ·
         replace c49:=i1.mpr c49;subst c49;rw[if_neg dO]at H;obtain rfl:=ec H
         go_wp2
         go_ret
         exact⟨er,aj HB ii sa⟩
        subst c49;rw[if_pos rfl]at H;have H':=Ah H;clear H
        go_wp2
        go_roundg k3
        case measure=>have:=rB.out;have:=jf.out;have:=mq.out;omega
        case rel=>exact⟨(IH (jS+1)),e3,H',⟨by have:=rB.out;have:=jf.out;have:=mq.out;omega⟩,rm cV (fun _ hk=>trivial),⟨bk eE⟩,⟨aj HB ii sa⟩⟩
       rw[if_pos sB]at H;have YN:decide (j2<(t152.length:Int))=true:=decide_eq_true sB;clear sB
       by_cases tN:0≤j2
       rotate_left
       ·
        rw[if_neg tN]at H;exact absurd H (by simp)
       rw[if_pos tN]at H;have c36b0:decide (0≤j2)=true:=decide_eq_true tN;clear tN
       by_cases c37:j2<(t152.length:Int)
       rotate_left
       ·
        rw[if_neg c37]at H;exact absurd H (by simp)
       rw[if_pos c37]at H;have c37b0:decide (j2<(t152.length:Int))=true:=decide_eq_true c37;clear c37
       by_cases Lp:Gf=true
       ·
        subst Lp;rw[if_pos rfl]at H;have H':=Ah H;clear H;have Ag:0≤(j2:Int):=od;have Ai:j2<(t152.length:Int):=od;obtain⟨ad158,QX,hx158_0,hx158_1⟩:=iA (Kd.aq xX.out).2.2 j2 Ag Ai
        cases QX
        replace Ag:=eq_true Ag;replace Ai:=eq_true Ai
        go_wp2_with (first|((with_reducible refine bC (N:=11) rfl ?_);(try(refine fS (by rfl) ?_;dsimp only));refine bK 11 37 #[.int .i64 0,.string (⟨#[]⟩:ByteArray)] ?_;intro n4 hg Bq FG hb;replace cV:=Ah (Kd.fT (Kd.ka (rr cV.out) n4 (aau hg.symm)) hb);replace xX:=Ah (Kd.fT (Kd.ka (rr xX.out) n4 (aau hg.symm)) hb);have GW159:=gw hg (aj HB ii sa);have P6:=gw hg (aj HB ii sa);replace HB:=Ah (aT (aj HB ii sa) hb);have EA:=nn eE hg;have MD:=nm eE hg;replace eE:=nb eE hb;have EB:=nn nW hg;have ME:=nm nW hg;replace nW:=nb nW hb;clear hb hg;have hnb40:=MD.out;have hnc40:=EA.out;have hnb41:=ME.out;have hnc41:=EB.out;obtain⟨hcz42_0,hcz42_1⟩:=cH FG;obtain⟨hfz42_0,hfz42_1⟩:=cD FG))
        go_roundg k3
        case measure=>have:=rB.out;have:=jf.out;have:=mq.out;omega
        case rel=>exact⟨(true),(IH (j2+1)),e3,e3,H',⟨by have:=rB.out;have:=jf.out;have:=mq.out;omega⟩,⟨by(with_reducible repeat(first|apply Kd.ah|apply Kd.ai|apply Kd.aY));exact Kd.aH (Kd.I (p:=⟨n4,1,none⟩) (Kd.I (p:=⟨n4,0,none⟩) (Kd.aH cV.out (fun k_ hk=>(⟨hk,hk.2⟩:_∧k_≠n4))) (fun _ hk=>hk.2) (.int .i64 ((aM t152 j2).f0))) (fun _ hk=>hk.2) (.string ((aM t152 j2).f1))) (fun _ hk=>hk.1.1)⟩,⟨by(with_reducible repeat(first|apply Kd.ah|apply Kd.ai|apply Kd.aY));exact Kd.aH (Kd.I (p:=⟨n4,1,none⟩) (Kd.I (p:=⟨n4,0,none⟩) (Kd.aH xX.out (fun k_ hk=>(⟨hk,hk.2⟩:_∧k_≠n4))) (fun _ hk=>hk.2) (.int .i64 ((aM t152 j2).f0))) (fun _ hk=>hk.2) (.string ((aM t152 j2).f1))) (fun _ hk=>hk.1.1)⟩,⟨bf eE EA⟩,⟨bf nW EB⟩,⟨br HB ii sa P6⟩⟩
       replace Lp:=i1.mpr Lp;subst Lp;rw[if_neg dO]at H;have H':=Ah H;clear H;have Ag:0≤(j2:Int):=od;have Ai:j2<(t152.length:Int):=od;obtain⟨ad158,QX,hx158_0,hx158_1⟩:=iA (Kd.aq xX.out).2.2 j2 Ag Ai
       cases QX
       replace Ag:=eq_true Ag;replace Ai:=eq_true Ai
       go_wp2_with (first|((with_reducible refine bC (N:=11) rfl ?_);(try(refine fS (by rfl) ?_;dsimp only));refine bK 11 37 #[.int .i64 0,.string (⟨#[]⟩:ByteArray)] ?_;intro n4 hg S0 FG hb;replace cV:=Ah (Kd.fT (Kd.ka (rr cV.out) n4 (aau hg.symm)) hb);replace xX:=Ah (Kd.fT (Kd.ka (rr xX.out) n4 (aau hg.symm)) hb);have GW159:=gw hg (aj HB ii sa);have P6:=gw hg (aj HB ii sa);replace HB:=Ah (aT (aj HB ii sa) hb);have EA:=nn eE hg;have MD:=nm eE hg;replace eE:=nb eE hb;have EB:=nn nW hg;have ME:=nm nW hg;replace nW:=nb nW hb;clear hb hg;have hnb44:=MD.out;have hnc44:=EA.out;have Xj:=ME.out;have Xk:=EB.out;obtain⟨hcz46_0,hcz46_1⟩:=cH FG;obtain⟨hfz46_0,hfz46_1⟩:=cD FG;have KW:=T9.out;have KX:=MC.out;obtain⟨W5,W6⟩:=cH nW;obtain⟨W7,W8⟩:=cD nW))
       go_roundg k3
       case measure=>have:=rB.out;have:=jf.out;have:=mq.out;omega
       case rel=>exact⟨((((aM t152 j2).f0)==((aM aD jS).f0)&& ((((aM t152 j2).f1).toList)==((aM aD jS).f1).toList))),(IH (j2+1)),e3,e3,H',⟨by have:=rB.out;have:=jf.out;have:=mq.out;omega⟩,⟨by(with_reducible repeat(first|apply Kd.ah|apply Kd.ai|apply Kd.aY));exact Kd.aH (Kd.I (p:=⟨n4,1,none⟩) (Kd.I (p:=⟨n4,0,none⟩) (Kd.aH cV.out (fun k_ hk=>(⟨hk,hk.2⟩:_∧k_≠n4))) (fun _ hk=>hk.2) (.int .i64 ((aM t152 j2).f0))) (fun _ hk=>hk.2) (.string ((aM t152 j2).f1))) (fun _ hk=>hk.1.1)⟩,⟨by(with_reducible repeat(first|apply Kd.ah|apply Kd.ai|apply Kd.aY));exact Kd.aH (Kd.I (p:=⟨n4,1,none⟩) (Kd.I (p:=⟨n4,0,none⟩) (Kd.aH xX.out (fun k_ hk=>(⟨hk,hk.2⟩:_∧k_≠n4))) (fun _ hk=>hk.2) (.int .i64 ((aM t152 j2).f0))) (fun _ hk=>hk.2) (.string ((aM t152 j2).f1))) (fun _ hk=>hk.1.1)⟩,⟨bf eE EA⟩,⟨bf nW EB⟩,⟨br HB ii sa P6⟩⟩
def sI.f(aG:List ByteArray)(aD:List (aQ)):Option (List ByteArray×(List (aQ))):=(some (([]:List ByteArray):List ByteArray)).bind fun t6=>(if t6.length+aG.length<8796093022208 then((some (([]:List (aQ)):List (aQ))).bind fun y168=>(if y168.length+aD.length<5864062014805 then(some ((t6++aG),(y168++aD)))else(none)))else(none))
set_option maxHeartbeats 8000000 in
set_option maxRecDepth 100000 in
theorem sI.calls(b0:Option Addr)(b5:Nat)(aG:List ByteArray)(b7:Option Addr)(ay:Nat)(aD:List (aQ))(r1:List ByteArray)(r2:List (aQ))(w:World)(eV:Kd.C Kd.string w b0 aG.length aG)(eW:aG.length≤b5)(eX:Kd.C bL w b7 aD.length aD)(eY:aD.length≤ay)(h:sI.f aG aD=some (r1,r2)):
 Calls tP 54 #[.agg #[.slice b0 aG.length b5,.slice b7 aD.length ay]] w fun e w'=>∃cM fD:Value,e= .returned (.agg #[cM,fD])∧Kd.R Kd.string 9 w' w.heap.size (fun _=>True) cM r1∧Kd.R bL 37 w' w.heap.size (fun _=>True) fD r2∧Below w.heap.size w w':=by
 have nG:=aam;have dY:=Ah eV;have dj:=Ah eW;clear eV eW;have dS:=Ah eX;have dt:=Ah eY;clear eX eY;have HB:=Ah (qB w.heap.size w);have H:((some (([]:List ByteArray):List ByteArray)).bind fun t6=>(if t6.length+aG.length<8796093022208 then((some (([]:List (aQ)):List (aQ))).bind fun y168=>(if y168.length+aD.length<5864062014805 then(some ((t6++aG),(y168++aD)))else(none)))else(none)))=some (r1,r2):=h;clear h;obtain⟨t6,FH⟩:∃y_:List ByteArray,y_=(([]:List ByteArray)):=⟨_,rfl⟩
 replace H:(if t6.length+aG.length<8796093022208 then((some (([]:List (aQ)):List (aQ))).bind fun y168=>(if y168.length+aD.length<5864062014805 then(some ((t6++aG),(y168++aD)))else(none)))else(none))=some (r1,r2):=by first|(rw[FH];with_reducible exact H)|(have bB:=(aV _ _).symm.trans H;rw[FH];with_reducible exact bB)|(have bB:=(aV _ _).symm.trans H;with_reducible exact bB)|with_reducible exact H|(rw[FH];exact H)|exact H
 have YO:=Ah FH;clear FH
 by_cases c2:t6.length+aG.length<8796093022208
 rotate_left
 ·
  rw[if_neg c2]at H;exact absurd H (by simp)
 rw[if_pos c2]at H;have LMc2:=Ah c2;clear c2;obtain⟨xz,FI⟩:∃y_:List ByteArray,y_=(t6++aG):=⟨_,rfl⟩
 replace H:((some (([]:List (aQ)):List (aQ))).bind fun y168=>(if y168.length+aD.length<5864062014805 then(some (xz,(y168++aD)))else(none)))=some (r1,r2):=by first|(rw[FI];with_reducible exact H)|(have bB:=(aV _ _).symm.trans H;rw[FI];with_reducible exact bB)|(have bB:=(aV _ _).symm.trans H;with_reducible exact bB)|with_reducible exact H|(rw[FI];exact H)|exact H
 have Ny165:=Ah FI;clear FI;obtain⟨y168,hy168⟩:∃y_:List (aQ),y_=(([]:List (aQ))):=⟨_,rfl⟩
 replace H:(if y168.length+aD.length<5864062014805 then(some (xz,(y168++aD)))else(none))=some (r1,r2):=by first|(rw[hy168];with_reducible exact H)|(have bB:=(aV _ _).symm.trans H;rw[hy168];with_reducible exact bB)|(have bB:=(aV _ _).symm.trans H;with_reducible exact bB)|with_reducible exact H|(rw[hy168];exact H)|exact H
 have YP:=Ah hy168;clear hy168
 by_cases c3:y168.length+aD.length<5864062014805
 rotate_left
 ·
  rw[if_neg c3]at H;exact absurd H (by simp)
 rw[if_pos c3]at H;have Gg:=Ah c3;clear c3;obtain⟨DB,FJ⟩:∃y_:List (aQ),y_=(y168++aD):=⟨_,rfl⟩
 replace H:(some (xz,DB))=some (r1,r2):=by first|(rw[FJ];with_reducible exact H)|(have bB:=(aV _ _).symm.trans H;rw[FJ];with_reducible exact bB)|(have bB:=(aV _ _).symm.trans H;with_reducible exact bB)|with_reducible exact H|(rw[FJ];exact H)|exact H
 have Ny171:=Ah FJ;clear FJ;simp only[kD,o7]at H;obtain⟨rfl,rfl⟩:=H
 go_enter Try.func54,Try.ntmps54
 go_wp2_with (first|((with_reducible refine bC (N:=1) rfl ?_);refine bK 1 26 #[.slice b0 aG.length b5,.slice b7 aD.length ay] ?_;intro P7 hg w4 jn hb;have GW160:=gw hg (bs HB);have rh:=gw hg (bs HB);replace HB:=Ah (aT (bs HB) hb);clear hb hg)|((with_reducible refine bC (N:=2) rfl ?_);refine bK 2 26 #[.slice none 0 0,.slice none 0 0] ?_;intro FL hg w5 oW hb;have GW161:=gw hg (aZ HB rh);have vS:=gw hg (aZ HB rh);replace HB:=Ah (aT (aZ HB rh) hb);have NB160_161:=nn jn hg;have MF:=nm jn hg;replace jn:=nb jn hb;clear hb hg)|((with_reducible refine bC (N:=3) rfl ?_);refine Kd.oR Kd.string _ 9 ?hg (N:=3) ?hd (xs:=([]:List ByteArray)) (inner:=[]) (ok:=fun _=>True) (okp:=fun _=>True) ?hr ?hp (fun _ hk=>hk) trivial (qB _ _) (lQ _) (by simp) ?_;(case hd=>rfl);(case hg=>rfl);(case hr=>first|(go_simp;done)|(go_simp;rfl));(case hp=>exact(cU.none _ _));intro v163 w6 I8 hb iH iB;clear iH iB;(first|rw[←YO.out]at I8|(simp only[aaD]at I8;rw[←YO.out]at I8));have KY:=Ah (Kd.b8 I8 (bF (aj HB rh vS)));replace jn:=nb jn hb;replace oW:=nb oW hb;replace HB:=Ah (aT (aj HB rh vS) hb);clear hb I8;have a0v:=NB160_161.out;have a0w:=MF.out;obtain⟨sT,sU⟩:=cH jn;obtain⟨tc,sV⟩:=cD jn)|((with_reducible refine oA (b:= .append) (xs:= #[.tmp 3,.tmp 5]) rfl ?_);at_builtin;refine Kd.wa Kd.string (w0:=w) w.heap.size rfl (.tmp 3) (.tmp 5) 23 9 (.string ⟨#[]⟩) 16 rfl aas mB rfl (by decide) (by omega) v163 t6 aG _ _ _ (fun _=>True) (fun _=>False) rfl rfl ?aO ?aR (fun _ _ h=>h) (fun _ h=>h.elim) ?aF ?aB ?aS ?aL ?_;(case aR=>exact cb dY HB);(case aB=>exact(aj HB rh vS));(case aF=>exact(fun _ _=>trivial));(case aO=>exact(rr KY.out));(case aS=>exact(bF (aj HB rh vS)));(case aL=>have:=LMc2.out;omega);intro v166 wY ho hb hg hat;rw[←Ny165.out]at ho;replace jn:=Ah (hH (bk jn) hg (Kd.gY KY.out jn.out (by decide)));replace oW:=Ah (hH (bk oW) hg (Kd.gY KY.out oW.out (by decide)));replace HB:=Ah (hb);have Cd:=Ah (ho);clear KY;clear ho hb hg hat;obtain⟨kO,kP,yA⟩:=Kd.ao Cd.out;subst yA;obtain⟨JJ,JK⟩:=cH jn;obtain⟨JL,JM⟩:=cD jn)|((with_reducible refine bC (N:=8) rfl ?_);refine Kd.oR bL _ 37 ?hg (N:=8) ?hd (xs:=([]:List (aQ))) (inner:=[]) (ok:=fun _=>True) (okp:=fun _=>True) ?hr ?hp (fun _ hk=>hk) trivial (qB _ _) (lQ _) (by simp) ?_;(case hd=>rfl);(case hg=>rfl);(case hr=>first|(go_simp;done)|(go_simp;rfl));(case hp=>exact(cU.none _ _));intro v169 pz Gh hb iH iB;clear iH iB;(first|rw[←YP.out]at Gh|(simp only[aaD]at Gh;rw[←YP.out]at Gh));replace Cd:=nf Cd jn hb;have FM:=Ah (Kd.b8 Gh (bF (aj HB rh vS)));replace jn:=Ah (cS (g:=P7) (o:= .cells #[.slice kO xz.length kP,.slice b7 aD.length ay] 26 (0,0)) (by(with_reducible repeat(first|refine aC ?_ _|refine U ?_|refine X ?_ _));refine aU (cs:= #[.slice b0 aG.length b5,.slice b7 aD.length ay]) ?_ 0 _ rfl;(with_reducible repeat(first|refine aC ?_ _|refine U ?_|refine X ?_ _));exact jn.out) hb);replace oW:=Ah (cS (bf oW MF) hb);replace HB:=Ah (aT (aj HB rh vS) hb);clear hb Gh;obtain⟨CC,CD⟩:=cH jn;obtain⟨CE,CF⟩:=cD jn)|((with_reducible refine oA (b:= .append) (xs:= #[.tmp 8,.tmp 10]) rfl ?_);at_builtin;refine Kd.wa bL (w0:=w) w.heap.size rfl (.tmp 8) (.tmp 10) 24 37 (.agg #[(.int .i64 0),(.string ⟨#[]⟩)]) 24 rfl aaF pb rfl (by decide) (by omega) v169 y168 aD _ _ _ (fun _=>True) (fun _=>False) rfl rfl ?aO ?aR (fun _ _ h=>h) (fun _ h=>h.elim) ?aF ?aB ?aS ?aL ?_;(case aR=>exact cb dS HB);(case aB=>exact(aj HB rh vS));(case aF=>exact(fun _ _=>trivial));(case aO=>exact(rr FM.out));(case aS=>exact(bF (aj HB rh vS)));(case aL=>have:=Gg.out;omega);intro v172 w16 ho hb hg hat;rw[←Ny171.out]at ho;replace jn:=Ah (hH (bk jn) hg (Kd.gY FM.out jn.out (by decide)));replace oW:=Ah (hH (bk oW) hg (Kd.gY FM.out oW.out (by decide)));replace Cd:=Ah (Kd.nT (rr Cd.out) (Kd.nS (rr FM.out)) (by decide) hg);replace HB:=Ah (hb);have YQ:=Ah (ho);clear FM;clear ho hb hg hat;obtain⟨cZ,ca,wD⟩:=Kd.ao YQ.out;subst wD;obtain⟨JN,JO⟩:=cH jn;obtain⟨JP,JQ⟩:=cD jn;obtain⟨m5,m6⟩:=cH oW;obtain⟨m7,m8⟩:=cD oW))
 refine bodyPost_ret (results_cell_row rfl _ _ FL 26 #[.slice kO xz.length kP,.slice cZ DB.length ca] (0,0) _ rfl (by(with_reducible repeat(first|refine aC ?_ _|refine U ?_|refine X ?_ _));refine aU (cs:= #[.slice kO xz.length kP,.slice none 0 0]) ?_ 1 _ rfl;(with_reducible repeat(first|refine aC ?_ _|refine U ?_|refine X ?_ _));refine aU (cs:= #[.slice none 0 0,.slice none 0 0]) ?_ 0 _ rfl;(with_reducible repeat(first|refine aC ?_ _|refine U ?_|refine X ?_ _));refine dD ?_ MF.out _;(with_reducible repeat(first|refine aC ?_ _|refine U ?_|refine X ?_ _));exact oW.out) aam rfl (by kernel_rfl)) rfl ?_;exact⟨_,_,er,by(with_reducible repeat(first|apply Kd.ah|apply Kd.ai|apply Kd.aY));exact Kd.aH (Kd.I (p:=⟨FL,1,none⟩) (Kd.I (p:=⟨FL,0,none⟩) (Kd.I (p:=⟨P7,1,none⟩) (Kd.al (Kd.al Cd.out jn.out (by decide)) oW.out (by decide)) (fun _ hk=>hk.1.2) (.slice cZ DB.length ca)) (fun _ hk=>hk.2) (.slice kO xz.length kP)) (fun _ hk=>hk.2) (.slice cZ DB.length ca)) (fun _ hk=>trivial),by(with_reducible repeat(first|apply Kd.ah|apply Kd.ai|apply Kd.aY));exact Kd.aH (Kd.I (p:=⟨FL,1,none⟩) (Kd.I (p:=⟨FL,0,none⟩) (Kd.I (p:=⟨P7,1,none⟩) (Kd.al (Kd.al YQ.out jn.out (by decide)) oW.out (by decide)) (fun _ hk=>hk.1.2) (.slice cZ DB.length ca)) (fun _ hk=>hk.2) (.slice kO xz.length kP)) (fun _ hk=>hk.2) (.slice cZ DB.length ca)) (fun _ hk=>trivial),aj HB rh vS⟩
def rG.f(aG:List ByteArray)(aD:List (aQ))(aK:List ByteArray)(aN:Int):Option (List ByteArray×(List (aQ))×List ByteArray×Int):=(sI.f aG aD).bind fun FN=>((some (([]:List ByteArray):List ByteArray)).bind fun t7=>(if t7.length+aK.length<8796093022208 then(some (FN.1,FN.2,(t7++aK),aN))else(none)))
set_option maxHeartbeats 8000000 in
set_option maxRecDepth 100000 in
theorem rG.calls(b0:Option Addr)(b5:Nat)(aG:List ByteArray)(b7:Option Addr)(ay:Nat)(aD:List (aQ))(bV:Option Addr)(bR:Nat)(aK:List ByteArray)(aN:Int)(r1:List ByteArray)(r2:List (aQ))(r3:List ByteArray)(r4:Int)(w:World)(eV:Kd.C Kd.string w b0 aG.length aG)(eW:aG.length≤b5)(eX:Kd.C bL w b7 aD.length aD)(eY:aD.length≤ay)(gS:Kd.C Kd.string w bV aK.length aK)(gT:aK.length≤bR)(h:rG.f aG aD aK aN=some (r1,r2,r3,r4)):
 Calls Try.prog 26 #[.agg #[.slice b0 aG.length b5,.slice b7 aD.length ay,.slice bV aK.length bR,.int .i64 aN]] w fun e w'=>∃cM fD ew:Value,e= .returned (.agg #[cM,fD,ew,.int .i64 r4])∧Kd.R Kd.string 9 w' w.heap.size (fun k_=>some k_≠(ew:Value).ownBlock) cM r1∧Kd.R bL 37 w' w.heap.size (fun _=>True) fD r2∧Kd.R Kd.string 9 w' w.heap.size (fun k_=>some k_≠(cM:Value).ownBlock) ew r3∧Below w.heap.size w w':=by
 have me:=aaa;have nG:=aam;have dY:=Ah eV;have dj:=Ah eW;clear eV eW;have dS:=Ah eX;have dt:=Ah eY;clear eX eY;have eQ:=Ah gS;have ef:=Ah gT;clear gS gT;have HB:=Ah (qB w.heap.size w);have H:((sI.f aG aD).bind fun FN=>((some (([]:List ByteArray):List ByteArray)).bind fun t7=>(if t7.length+aK.length<8796093022208 then(some (FN.1,FN.2,(t7++aK),aN))else(none))))=some (r1,r2,r3,r4):=h;clear h;replace H:=Hz.mp H;obtain⟨⟨qv,u2⟩,fX,H⟩:=H
 try dsimp only at H
 have A2:=Ah fX;clear fX;obtain⟨t7,FO⟩:∃y_:List ByteArray,y_=(([]:List ByteArray)):=⟨_,rfl⟩
 replace H:(if t7.length+aK.length<8796093022208 then(some (qv,u2,(t7++aK),aN))else(none))=some (r1,r2,r3,r4):=by first|(rw[FO];with_reducible exact H)|(have bB:=(aV _ _).symm.trans H;rw[FO];with_reducible exact bB)|(have bB:=(aV _ _).symm.trans H;with_reducible exact bB)|with_reducible exact H|(rw[FO];exact H)|exact H
 have YR:=Ah FO;clear FO
 by_cases c3:t7.length+aK.length<8796093022208
 rotate_left
 ·
  rw[if_neg c3]at H;exact absurd H (by simp)
 rw[if_pos c3]at H;have Gg:=Ah c3;clear c3;obtain⟨wK,FP⟩:∃y_:List ByteArray,y_=(t7++aK):=⟨_,rfl⟩
 replace H:(some (qv,u2,wK,aN))=some (r1,r2,r3,r4):=by first|(rw[FP];with_reducible exact H)|(have bB:=(aV _ _).symm.trans H;rw[FP];with_reducible exact bB)|(have bB:=(aV _ _).symm.trans H;with_reducible exact bB)|with_reducible exact H|(rw[FP];exact H)|exact H
 have Ny185:=Ah FP;clear FP;simp only[kD,o7]at H;obtain⟨rfl,rfl,rfl,rfl⟩:=H
 go_enter Try.func26,Try.ntmps26
 go_wp2_with (first|((with_reducible refine bC (N:=1) rfl ?_);refine bK 1 28 #[.slice b0 aG.length b5,.slice b7 aD.length ay,.slice bV aK.length bR,.int .i64 aN] ?_;intro KZ hg w4 jo hb;have GW174:=gw hg (bs HB);have sb:=gw hg (bs HB);replace HB:=Ah (aT (bs HB) hb);clear hb hg)|((with_reducible refine bC (N:=2) rfl ?_);refine bK 2 28 #[.slice none 0 0,.slice none 0 0,.slice none 0 0,.int .i64 0] ?_;intro qW hg w5 qX hb;have GW175:=gw hg (aZ HB sb);have xY:=gw hg (aZ HB sb);replace HB:=Ah (aT (aZ HB sb) hb);have NB174_175:=nn jo hg;have MG:=nm jo hg;replace jo:=nb jo hb;clear hb hg;have a0x:=NB174_175.out;have a0y:=MG.out;obtain⟨oM,oN,zS,zT⟩:=b9 jo;obtain⟨oO,oP,zU,zV⟩:=bA jo)|((with_reducible refine ar (f:=54) rfl ?_);refine gL (some 5) rfl rfl Try.func54 (by kernel_rfl) rfl #[.agg #[.slice b0 aG.length b5,.slice b7 aD.length ay]] rfl ?_;(with_reducible refine(sI.calls _ _ aG _ _ aD qv u2 _ ?aI ?aJ ?af ?ak A2.out).mono ?_);(case aI=>exact cb dY HB);(case aJ=>exact dj.out);(case af=>exact cb dS HB);(case ak=>exact dt.out);rintro e w8 ⟨v177,v180,rfl,ho0,ho1,hb⟩;refine⟨_,rfl, ?_⟩;have xZ:=Ah (Kd.b8 ho0 (bF (aj HB sb xY)));have Ce:=Ah (Kd.b8 ho1 (bF (aj HB sb xY)));replace jo:=nb jo hb;replace qX:=nb qX hb;replace HB:=Ah (aT (aj HB sb xY) hb);(try clear hb ho0 ho1);obtain⟨o4,o5,S1⟩:=Kd.ao xZ.out;subst S1;obtain⟨Ec,Ed,W9,WA⟩:=b9 jo;obtain⟨Ee,Ef,WB,WC⟩:=bA jo;obtain⟨kO,kP,yA⟩:=Kd.ao Ce.out;subst yA)|((with_reducible refine bC (N:=7) rfl ?_);refine Kd.oR Kd.string _ 9 ?hg (N:=7) ?hd (xs:=([]:List ByteArray)) (inner:=[]) (ok:=fun _=>True) (okp:=fun _=>True) ?hr ?hp (fun _ hk=>hk) trivial (qB _ _) (lQ _) (by simp) ?_;(case hd=>rfl);(case hg=>rfl);(case hr=>first|(go_simp;done)|(go_simp;rfl));(case hp=>exact(cU.none _ _));intro v183 lP rp hb iH iB;clear iH iB;(first|rw[←YR.out]at rp|(simp only[aaD]at rp;rw[←YR.out]at rp));replace Ce:=nf Ce jo hb;have FQ:=Ah (Kd.b8 (Kd.aA rp (Kd.Z (rf xZ jo))) (bF (aj HB sb xY)));replace xZ:=Ah (Kd.aX (rf xZ jo) (Kd.a8 rp) hb);replace jo:=Ah (cS (g:=KZ) (o:= .cells #[.slice o4 qv.length o5,.slice kO u2.length kP,.slice bV aK.length bR,.int .i64 aN] 28 (0,0)) (by(with_reducible repeat(first|refine aC ?_ _|refine U ?_|refine X ?_ _));refine aU (cs:= #[.slice o4 qv.length o5,.slice b7 aD.length ay,.slice bV aK.length bR,.int .i64 aN]) ?_ 1 _ rfl;(with_reducible repeat(first|refine aC ?_ _|refine U ?_|refine X ?_ _));refine aU (cs:= #[.slice b0 aG.length b5,.slice b7 aD.length ay,.slice bV aK.length bR,.int .i64 aN]) ?_ 0 _ rfl;(with_reducible repeat(first|refine aC ?_ _|refine U ?_|refine X ?_ _));exact jo.out) hb);replace qX:=Ah (cS (bf qX MG) hb);replace HB:=Ah (aT (aj HB sb xY) hb);clear hb rp;obtain⟨sM,sN,xH,xI⟩:=b9 jo;obtain⟨sO,sP,xJ,xK⟩:=bA jo)|((with_reducible refine oA (b:= .append) (xs:= #[.tmp 7,.tmp 9]) rfl ?_);at_builtin;refine Kd.wa Kd.string (w0:=w) w.heap.size rfl (.tmp 7) (.tmp 9) 23 9 (.string ⟨#[]⟩) 16 rfl aas mB rfl (by decide) (by omega) v183 t7 aK _ _ _ (fun k_=>some k_≠(.slice o4 qv.length o5:Value).ownBlock) (fun _=>False) rfl rfl ?aO ?aR (fun _ _ h=>h) (fun _ h=>h.elim) ?aF ?aB ?aS ?aL ?_;(case aR=>exact cb eQ HB);(case aB=>exact(aj HB sb xY));(case aF=>exact(fun k_ hk=>Kd.fresh' (Kd.Z (rr xZ.out)) k_ hk));(case aO=>exact(by(with_reducible repeat(first|apply Kd.ah|apply Kd.ai|apply Kd.aY));exact Kd.aH FQ.out (fun _ hk=>hk.2)));(case aS=>exact(bF (aj HB sb xY)));(case aL=>have:=Gg.out;omega);intro v186 jN ho hb hg hat;rw[←Ny185.out]at ho;replace jo:=Ah (hH (bk jo) hg (Kd.gY FQ.out jo.out (by decide)));replace qX:=Ah (hH (bk qX) hg (Kd.gY FQ.out qX.out (by decide)));replace xZ:=Ah (Kd.uj (ok:=(fun _=>True)) (rr xZ.out) hg hat);replace Ce:=Ah (Kd.nT (rr Ce.out) (Kd.nS (rr FQ.out)) (by decide) hg);replace HB:=Ah (hb);have YS:=Ah (ho);clear FQ;clear ho hb hg hat;obtain⟨wI,wJ,QV⟩:=Kd.ao YS.out;subst QV;obtain⟨oG,oH,tW,tX⟩:=b9 jo;obtain⟨oI,oJ,tY,tZ⟩:=bA jo;obtain⟨JN,JO,WD,WE⟩:=b9 qX;obtain⟨JP,JQ,WF,WG⟩:=bA qX))
 refine bodyPost_ret (results_cell_row rfl _ _ qW 28 #[.slice o4 qv.length o5,.slice kO u2.length kP,.slice wI wK.length wJ,.int .i64 aN] (0,0) _ rfl (by(with_reducible repeat(first|refine aC ?_ _|refine U ?_|refine X ?_ _));refine aU (cs:= #[.slice o4 qv.length o5,.slice kO u2.length kP,.slice wI wK.length wJ,.int .i64 0]) ?_ 3 _ rfl;(with_reducible repeat(first|refine aC ?_ _|refine U ?_|refine X ?_ _));refine aU (cs:= #[.slice o4 qv.length o5,.slice kO u2.length kP,.slice none 0 0,.int .i64 0]) ?_ 2 _ rfl;(with_reducible repeat(first|refine aC ?_ _|refine U ?_|refine X ?_ _));refine aU (cs:= #[.slice o4 qv.length o5,.slice none 0 0,.slice none 0 0,.int .i64 0]) ?_ 1 _ rfl;(with_reducible repeat(first|refine aC ?_ _|refine U ?_|refine X ?_ _));refine aU (cs:= #[.slice none 0 0,.slice none 0 0,.slice none 0 0,.int .i64 0]) ?_ 0 _ rfl;(with_reducible repeat(first|refine aC ?_ _|refine U ?_|refine X ?_ _));refine dD ?_ MG.out _;(with_reducible repeat(first|refine aC ?_ _|refine U ?_|refine X ?_ _));exact qX.out) aaa rfl (by kernel_rfl)) rfl ?_;exact⟨_,_,_,er,by(with_reducible repeat(first|apply Kd.ah|apply Kd.ai|apply Kd.aY));exact Kd.aH (Kd.I (p:=⟨qW,3,none⟩) (Kd.I (p:=⟨qW,2,none⟩) (Kd.I (p:=⟨qW,1,none⟩) (Kd.I (p:=⟨qW,0,none⟩) (Kd.I (p:=⟨KZ,2,none⟩) (Kd.al (Kd.al xZ.out jo.out (by decide)) qX.out (by decide)) (fun _ hk=>hk.1.2) (.slice wI wK.length wJ)) (fun _ hk=>hk.2) (.slice o4 qv.length o5)) (fun _ hk=>hk.2) (.slice kO u2.length kP)) (fun _ hk=>hk.2) (.slice wI wK.length wJ)) (fun _ hk=>hk.2) (.int .i64 aN)) (fun _ hk=>hk.1.1.2),by(with_reducible repeat(first|apply Kd.ah|apply Kd.ai|apply Kd.aY));exact Kd.aH (Kd.I (p:=⟨qW,3,none⟩) (Kd.I (p:=⟨qW,2,none⟩) (Kd.I (p:=⟨qW,1,none⟩) (Kd.I (p:=⟨qW,0,none⟩) (Kd.I (p:=⟨KZ,2,none⟩) (Kd.al (Kd.al Ce.out jo.out (by decide)) qX.out (by decide)) (fun _ hk=>hk.1.2) (.slice wI wK.length wJ)) (fun _ hk=>hk.2) (.slice o4 qv.length o5)) (fun _ hk=>hk.2) (.slice kO u2.length kP)) (fun _ hk=>hk.2) (.slice wI wK.length wJ)) (fun _ hk=>hk.2) (.int .i64 aN)) (fun _ hk=>trivial),by(with_reducible repeat(first|apply Kd.ah|apply Kd.ai|apply Kd.aY));exact Kd.aH (Kd.I (p:=⟨qW,3,none⟩) (Kd.I (p:=⟨qW,2,none⟩) (Kd.I (p:=⟨qW,1,none⟩) (Kd.I (p:=⟨qW,0,none⟩) (Kd.I (p:=⟨KZ,2,none⟩) (Kd.al (Kd.al YS.out jo.out (by decide)) qX.out (by decide)) (fun _ hk=>hk.1.2) (.slice wI wK.length wJ)) (fun _ hk=>hk.2) (.slice o4 qv.length o5)) (fun _ hk=>hk.2) (.slice kO u2.length kP)) (fun _ hk=>hk.2) (.slice wI wK.length wJ)) (fun _ hk=>hk.2) (.int .i64 aN)) (fun _ hk=>hk.1.1),aj HB sb xY⟩
def fR.j0:Nat→List (aQ)→Bool→List ByteArray→List (aQ)→List ByteArray→Int→Option (List ByteArray×(List (aQ))×List ByteArray×Int×Bool)
 |0,_,_,_,_,_,_=>none
 |k+1,x1,wX,x189000,x189001,x189002,x189003=>if wX=true then(some (([]:List ByteArray),([]:List (aQ)),([]:List ByteArray),0,false))else((rG.f x189000 x189001 x189002 x189003).bind fun FR=>((ey.f k x1).bind fun DC=>(if FR.2.2.1.length<8796093022208 then(some (FR.1,FR.2.1,(FR.2.2.1++[DC]),FR.2.2.2,true))else(none))))
def fR.f(k:Nat)(aG:List ByteArray)(aD:List (aQ))(aK:List ByteArray)(aN:Int)(l1:List (aQ)):Option (List ByteArray×(List (aQ))×List ByteArray×Int×Bool):=(cg.f k aG aD aK aN).bind fun Gi=>(if Gi=true then((eI.f k l1 (aG.length:Int)).bind fun Gj=>(if Gj=true then(fR.j0 k l1 ((aK.length:Int)==40) aG aD aK aN)else(fR.j0 k l1 true aG aD aK aN)))else(fR.j0 k l1 true aG aD aK aN))
theorem fR.cW:∀k,(∀y0 y1 y2 y3 y4 y5,aE (fR.j0 k y0 y1 y2 y3 y4 y5) (fR.j0 (k+1) y0 y1 y2 y3 y4 y5))
 |0=>fun _ _ _ _ _ _ r h=>by simp[fR.j0]at h
 |k+1=>by
  have be:=fR.cW k
  ·
   intro y0 y1 y2 y3 y4 y5;unfold fR.j0
   repeat' with_reducible first|exact be _ _ _ _ _ _|exact cg.mono _ _ _ _ _|exact ey.mono _ _|exact eI.mono _ _ _|exact aE.refl _|exact aE.none _|refine aE.ite ?_ ?_|refine aE.bind ?_ (fun _=> ?_)
theorem fR.mono:∀a0 a1 a2 a3 a4 k,aE (fR.f k a0 a1 a2 a3 a4) (fR.f (k+1) a0 a1 a2 a3 a4):=by
 intro a0 a1 a2 a3 a4 k;have be:=fR.cW k;unfold fR.f
 repeat' with_reducible first|exact be _ _ _ _ _ _|exact cg.mono _ _ _ _ _|exact ey.mono _ _|exact eI.mono _ _ _|exact aE.refl _|exact aE.none _|refine aE.ite ?_ ?_|refine aE.bind ?_ (fun _=> ?_)
def fR.T4:Bool×List (List Nat×List Nat):=(true,[([],[]),([0],[0]),([],[]),([2],[2]),([3],[3]),([1,4,3],[1,4]),([0,1,2,3,4,5],[]),([6,5,5,0,1,2,3,4,5],[5,6])])
def fR.B4:List Nat:=[0,1,0,4,12,31,63,127]
theorem fR.Gk:gh .any (mz Try.f6 4)=fR.T4:=by kernel_rfl
theorem fR.FS:kc fR.T4.2 fR.B4=true:=by kernel_rfl
set_option maxHeartbeats 8000000 in
set_option maxRecDepth 100000 in
theorem fR.calls(k:Nat)(b0:Option Addr)(b5:Nat)(aG:List ByteArray)(b7:Option Addr)(ay:Nat)(aD:List (aQ))(bV:Option Addr)(bR:Nat)(aK:List ByteArray)(aN:Int)(A1:Option Addr)(c1:Nat)(l1:List (aQ))(r1:List ByteArray)(r2:List (aQ))(r3:List ByteArray)(r4:Int)(r5:Bool)(w:World)(eV:Kd.C Kd.string w b0 aG.length aG)(eW:aG.length≤b5)(eX:Kd.C bL w b7 aD.length aD)(eY:aD.length≤ay)(gS:Kd.C Kd.string w bV aK.length aK)(gT:aK.length≤bR)(hr1:Kd.C bL w A1 l1.length l1)(hc1:l1.length≤c1)(h:fR.f k aG aD aK aN l1=some (r1,r2,r3,r4,r5)):
 Calls Try.prog 6 #[.agg #[.slice b0 aG.length b5,.slice b7 aD.length ay,.slice bV aK.length bR,.int .i64 aN],.slice A1 l1.length c1] w fun e w'=>∃cM fD ew:Value,e= .returned (.tuple #[.agg #[cM,fD,ew,.int .i64 r4],.bool r5])∧Kd.R Kd.string 9 w' w.heap.size (fun k_=>some k_≠(ew:Value).ownBlock) cM r1∧Kd.R bL 37 w' w.heap.size (fun _=>True) fD r2∧Kd.R Kd.string 9 w' w.heap.size (fun k_=>some k_≠(cM:Value).ownBlock) ew r3∧Below w.heap.size w w':=by
 have me:=aaa;have dY:=Ah eV;have dj:=Ah eW;clear eV eW;have dS:=Ah eX;have dt:=Ah eY;clear eX eY;have eQ:=Ah gS;have ef:=Ah gT;clear gS gT;have HR1:=Ah hr1;have nK:=Ah hc1;clear hr1 hc1;have HB:=Ah (qB w.heap.size w);have H:((cg.f k aG aD aK aN).bind fun Gi=>(if Gi=true then((eI.f k l1 (aG.length:Int)).bind fun Gj=>(if Gj=true then(fR.j0 k l1 ((aK.length:Int)==40) aG aD aK aN)else(fR.j0 k l1 true aG aD aK aN)))else(fR.j0 k l1 true aG aD aK aN)))=some (r1,r2,r3,r4,r5):=h;clear h;have Br:=Ah H;clear H
 go_enter Try.func6,Try.ntmps6
 go_upto_region 1 with(first|((with_reducible refine bC (N:=2) rfl ?_);(try(refine fS (by rfl) ?_;dsimp only));refine bK 2 28 #[.slice b0 aG.length b5,.slice b7 aD.length ay,.slice bV aK.length bR,.int .i64 aN] ?_;intro fV hg w4 dd hb;have GW188:=gw hg (bs HB);have lD:=gw hg (bs HB);replace HB:=Ah (aT (bs HB) hb);clear hb hg)|((with_reducible refine bC (N:=4) rfl ?_);(try(refine fS (by rfl) ?_;dsimp only));refine bK 4 28 #[.slice none 0 0,.slice none 0 0,.slice none 0 0,.int .i64 0] ?_;intro nX hg w5 gj hb;have GW189:=gw hg (aZ HB lD);have mZ:=gw hg (aZ HB lD);replace HB:=Ah (aT (aZ HB lD) hb);have C4:=nn dd hg;have we:=nm dd hg;replace dd:=nb dd hb;clear hb hg))
 (try simp only[aab,Ok,mr,mQ])
 go_cut [23] (fun v23 wc=>∃ (kq:Nat) (Ka:Bool),v23= .bool Ka∧a9 (fR.j0 kq l1 Ka aG aD aK aN=some (r1,r2,r3,r4,r5))∧a9 (kq≤k)∧a9 (wc.heap[fV]?=some (.cells #[(.slice b0 aG.length b5),(.slice b7 aD.length ay),(.slice bV aK.length bR),.int .i64 aN] 28 (0,0)))∧a9 (wc.heap[nX]?=some (.cells #[(.slice none 0 0),(.slice none 0 0),(.slice none 0 0),.int .i64 0] 28 (0,0)))∧a9 (Below w.heap.size w wc))
 case first=>
  have H:=Br.out;clear Br;replace H:=Hz.mp H;obtain⟨Gi,gF,H⟩:=H
  try dsimp only at H
  have A6:=Ah gF;clear gF
  by_cases c7:Gi=true
  rotate_left
  ·
   replace c7:=i1.mpr c7;subst c7;rw[if_neg dO]at H;have H':=Ah H;clear H;have FT:=C4.out;have FU:=we.out;obtain⟨kd,ke,mU,mV⟩:=b9 dd;obtain⟨kf,kg,mW,mX⟩:=bA dd
   go_wp2_with (first|((with_reducible refine ar (f:=24) rfl ?_);refine gL (some 7) rfl rfl aba (by kernel_rfl) rfl #[.agg #[.slice b0 aG.length b5,.slice b7 aD.length ay,.slice bV aK.length bR,.int .i64 aN]] rfl ?_;(with_reducible refine(cg.calls k _ _ aG _ _ aD _ _ aK aN false _ ?aI ?aJ ?af ?ak ?bN ?bc A6.out).mono ?_);(case aI=>exact cb dY HB);(case aJ=>exact dj.out);(case af=>exact cb dS HB);(case ak=>exact dt.out);(case bN=>exact cb eQ HB);(case bc=>exact ef.out);rintro e tM ⟨rfl,hb⟩;refine⟨_,rfl, ?_⟩;replace dd:=nb dd hb;replace gj:=nb gj hb;replace HB:=Ah (aT (aj HB lD mZ) hb);(try clear hb)))
   go_meet
   case rel=>exact⟨_,(true),e3,H',⟨by first|omega|exact lQ _⟩,⟨bk dd⟩,⟨bk gj⟩,⟨aj HB lD mZ⟩⟩
  subst c7;rw[if_pos rfl]at H;replace H:=Hz.mp H;obtain⟨Gj,lz,H⟩:=H
  try dsimp only at H
  have A8:=Ah lz;clear lz
  by_cases c9:Gj=true
  rotate_left
  ·
   replace c9:=i1.mpr c9;subst c9;rw[if_neg dO]at H;have H':=Ah H;clear H;have zf:=C4.out;have zg:=we.out;obtain⟨oG,oH,tW,tX⟩:=b9 dd;obtain⟨oI,oJ,tY,tZ⟩:=bA dd
   go_wp2_with (first|((with_reducible refine ar (f:=24) rfl ?_);refine gL (some 7) rfl rfl aba (by kernel_rfl) rfl #[.agg #[.slice b0 aG.length b5,.slice b7 aD.length ay,.slice bV aK.length bR,.int .i64 aN]] rfl ?_;(with_reducible refine(cg.calls k _ _ aG _ _ aD _ _ aK aN true _ ?aI ?aJ ?af ?ak ?bN ?bc A6.out).mono ?_);(case aI=>exact cb dY HB);(case aJ=>exact dj.out);(case af=>exact cb dS HB);(case ak=>exact dt.out);(case bN=>exact cb eQ HB);(case bc=>exact ef.out);rintro e jO ⟨rfl,hb⟩;refine⟨_,rfl, ?_⟩;replace dd:=nb dd hb;replace gj:=nb gj hb;replace HB:=Ah (aT (aj HB lD mZ) hb);(try clear hb);obtain⟨m5,m6,pT,pU⟩:=b9 dd;obtain⟨m7,m8,pV,pW⟩:=bA dd)|(go_at_call 25;(with_reducible refine(eI.calls k _ _ l1 (aG.length:Int) false _ ?aI ?aJ A8.out).mono ?_);(case aI=>exact cb HR1 HB);(case aJ=>exact nK.out);rintro e py ⟨rfl,hb⟩;replace dd:=nb dd hb;replace gj:=nb gj hb;replace HB:=Ah (aT (aj HB lD mZ) hb);(try clear hb)))
   go_meet
   case rel=>exact⟨_,(true),e3,H',⟨by first|omega|exact lQ _⟩,⟨bk dd⟩,⟨bk gj⟩,⟨aj HB lD mZ⟩⟩
  subst c9;rw[if_pos rfl]at H;have H':=Ah H;clear H;have Kb:=C4.out;have Ke:=we.out;obtain⟨jC,jD,l4,l5⟩:=b9 dd;obtain⟨jE,jF,l6,l7⟩:=bA dd
  go_wp2_with (first|((with_reducible refine ar (f:=24) rfl ?_);refine gL (some 7) rfl rfl aba (by kernel_rfl) rfl #[.agg #[.slice b0 aG.length b5,.slice b7 aD.length ay,.slice bV aK.length bR,.int .i64 aN]] rfl ?_;(with_reducible refine(cg.calls k _ _ aG _ _ aD _ _ aK aN true _ ?aI ?aJ ?af ?ak ?bN ?bc A6.out).mono ?_);(case aI=>exact cb dY HB);(case aJ=>exact dj.out);(case af=>exact cb dS HB);(case ak=>exact dt.out);(case bN=>exact cb eQ HB);(case bc=>exact ef.out);rintro e lP ⟨rfl,hb⟩;refine⟨_,rfl, ?_⟩;replace dd:=nb dd hb;replace gj:=nb gj hb;replace HB:=Ah (aT (aj HB lD mZ) hb);(try clear hb);obtain⟨pX,pY,rQ,rR⟩:=b9 dd;obtain⟨pZ,pa,rS,rT⟩:=bA dd)|(go_at_call 25;(with_reducible refine(eI.calls k _ _ l1 (aG.length:Int) true _ ?aI ?aJ A8.out).mono ?_);(case aI=>exact cb HR1 HB);(case aJ=>exact nK.out);rintro e pM ⟨rfl,hb⟩;replace dd:=nb dd hb;replace gj:=nb gj hb;replace HB:=Ah (aT (aj HB lD mZ) hb);(try clear hb);obtain⟨CC,CD,Nn,No⟩:=b9 dd;obtain⟨CE,CF,Np,Nq⟩:=bA dd))
  go_meet
  case rel=>exact⟨_,(((aK.length:Int)==40)),e3,H',⟨by first|omega|exact lQ _⟩,⟨bk dd⟩,⟨bk gj⟩,⟨aj HB lD mZ⟩⟩
 case rest=>
  clear Br
  try clear c1
  try clear c2
  try clear p2
  try clear c6
  try clear c7
  try clear c9
  try clear c10
  try clear c16
  try clear c21
  try clear jC jD l4 l5
  try clear pX pY rQ rR
  try clear CC CD Nn No
  try clear oG oH tW tX
  try clear m5 m6 pT pU
  try clear kd ke mU mV
  try clear jE jF l6 l7
  try clear pZ pa rS rT
  try clear CE CF Np Nq
  try clear oI oJ tY tZ
  try clear m7 m8 pV pW
  try clear kf kg mW mX
  obtain⟨kq,Ka,rfl,HA,HJ2,dd,gj,HB⟩:=hcut
  cases kq with
  |zero=>exact absurd HA.out (by simp[fR.j0])
  |succ S3=>
   have H:=HA.out;clear HA;simp only[fR.j0]at H
   by_cases c24:Ka=true
   ·
    subst c24;rw[if_pos rfl]at H;simp only[kD,o7]at H;obtain⟨rfl,rfl,rfl,rfl,rfl⟩:=H;have P8:=we.out;have P9:=C4.out;obtain⟨z4,z5,Nr,Ns⟩:=b9 gj;obtain⟨z6,z7,Nt,Nu⟩:=bA gj
    go_wp2
    refine bodyPost_ret (iJ rfl _ _ nX 28 #[.slice none 0 0,.slice none 0 0,.slice none 0 0,.int .i64 0] (0,0) _ rfl (by(with_reducible repeat(first|refine aC ?_ _|refine U ?_|refine X ?_ _));refine aU (cs:= #[.slice none 0 0,.slice none 0 0,.slice none 0 0,.int .i64 0]) ?_ 3 _ rfl;(with_reducible repeat(first|refine aC ?_ _|refine U ?_|refine X ?_ _));refine aU (cs:= #[.slice none 0 0,.slice none 0 0,.slice none 0 0,.int .i64 0]) ?_ 2 _ rfl;(with_reducible repeat(first|refine aC ?_ _|refine U ?_|refine X ?_ _));refine aU (cs:= #[.slice none 0 0,.slice none 0 0,.slice none 0 0,.int .i64 0]) ?_ 1 _ rfl;(with_reducible repeat(first|refine aC ?_ _|refine U ?_|refine X ?_ _));refine aU (cs:= #[.slice none 0 0,.slice none 0 0,.slice none 0 0,.int .i64 0]) ?_ 0 _ rfl;(with_reducible repeat(first|refine aC ?_ _|refine U ?_|refine X ?_ _));exact gj.out) aaa rfl (by kernel_rfl)) rfl ?_;exact⟨_,_,_,er,by first|exact Kd.dr _ _ _ _ _|exact Kd.e8 _ _ _ _ _|exact Kd.e9 _ _ _ _ _|exact Kd.e5 _ _ _ _ _|exact Kd.e7 _ _ _ _ _,by first|exact Kd.dr _ _ _ _ _|exact Kd.e8 _ _ _ _ _|exact Kd.e9 _ _ _ _ _|exact Kd.e5 _ _ _ _ _|exact Kd.e7 _ _ _ _ _,by first|exact Kd.dr _ _ _ _ _|exact Kd.e8 _ _ _ _ _|exact Kd.e9 _ _ _ _ _|exact Kd.e5 _ _ _ _ _|exact Kd.e7 _ _ _ _ _,aj HB lD mZ⟩
   replace c24:=i1.mpr c24;subst c24;rw[if_neg dO]at H;replace H:=Hz.mp H;obtain⟨⟨j8,kB,t198,t201⟩,Aa,H⟩:=H
   try dsimp only at H
   have S4:=Ah Aa;clear Aa;replace H:=Hz.mp H;obtain⟨DC,xq,H⟩:=H
   try dsimp only at H
   have S5:=Ah xq;clear xq
   by_cases m0:t198.length<8796093022208
   rotate_left
   ·
    rw[if_neg m0]at H;exact absurd H (by simp)
   rw[if_pos m0]at H;have FV:=Ah m0;clear m0;obtain⟨wL,FW⟩:∃y_:List ByteArray,y_=(t198++[DC]):=⟨_,rfl⟩
   replace H:(some (j8,kB,wL,t201,true))=some (r1,r2,r3,r4,r5):=by first|(rw[FW];with_reducible exact H)|(have bB:=(aV _ _).symm.trans H;rw[FW];with_reducible exact bB)|(have bB:=(aV _ _).symm.trans H;with_reducible exact bB)|with_reducible exact H|(rw[FW];exact H)|exact H
   have Ny203:=Ah FW;clear FW;simp only[kD,o7]at H;obtain⟨rfl,rfl,rfl,rfl,rfl⟩:=H;have PA:=C4.out;have PB:=we.out;obtain⟨WH,WI,hcz31_2,hcz31_3⟩:=b9 dd;obtain⟨WJ,WK,hfz31_2,hfz31_3⟩:=bA dd
   try go_wp2_with (first|((with_reducible refine ar (f:=26) rfl ?_);refine gL (some 26) rfl rfl Try.func26 (by kernel_rfl) rfl #[.agg #[.slice b0 aG.length b5,.slice b7 aD.length ay,.slice bV aK.length bR,.int .i64 aN]] rfl ?_;(with_reducible refine(rG.calls _ _ aG _ _ aD _ _ aK aN j8 kB t198 t201 _ ?aI ?aJ ?af ?ak ?bN ?bc S4.out).mono ?_);(case aI=>exact cb dY HB);(case aJ=>exact dj.out);(case af=>exact cb dS HB);(case ak=>exact dt.out);(case bN=>exact cb eQ HB);(case bc=>exact ef.out);rintro e w32 ⟨v193,v196,v199,rfl,ho0,ho1,ho2,hb⟩;refine⟨_,rfl, ?_⟩;have nY:=Ah (Kd.b8 ho0 (bF (aj HB lD mZ)));have oX:=Ah (Kd.b8 ho1 (bF (aj HB lD mZ)));have nZ:=Ah (Kd.b8 ho2 (bF (aj HB lD mZ)));replace dd:=nb dd hb;replace gj:=nb gj hb;replace HB:=Ah (aT (aj HB lD mZ) hb);(try clear hb ho0 ho1 ho2);obtain⟨ju,jv,eo33⟩:=Kd.ao nY.out;subst eo33;obtain⟨WL,WM,hcz34_2,hcz34_3⟩:=b9 dd;obtain⟨WN,WO,hfz34_2,hfz34_3⟩:=bA dd;obtain⟨i4,i5,Gl⟩:=Kd.ao oX.out;subst Gl;obtain⟨jw,jx,QY⟩:=Kd.ao nZ.out;subst QY))
   have an:a9 (Kd.R Kd.string 9 ((((w32.setCell ⟨fV,0,none⟩ (.slice ju j8.length jv)).setCell ⟨fV,1,none⟩ (.slice i4 kB.length i5)).setCell ⟨fV,2,none⟩ (.slice jw t198.length jx)).setCell ⟨fV,3,none⟩ (.int .i64 t201)) w.heap.size (fun k_=>some k_≠(.slice jw t198.length jx:Value).ownBlock) (.slice ju j8.length jv) j8):=⟨by(with_reducible repeat(first|apply Kd.ah|apply Kd.ai|apply Kd.aY));exact Kd.aH (Kd.I (p:=⟨fV,3,none⟩) (Kd.I (p:=⟨fV,2,none⟩) (Kd.I (p:=⟨fV,1,none⟩) (Kd.I (p:=⟨fV,0,none⟩) (Kd.al nY.out dd.out (by decide)) (fun _ hk=>hk.2) (.slice ju j8.length jv)) (fun _ hk=>hk.2) (.slice i4 kB.length i5)) (fun _ hk=>hk.2) (.slice jw t198.length jx)) (fun _ hk=>hk.2) (.int .i64 t201)) (fun _ hk=>hk.1)⟩;have am:a9 (Kd.R bL 37 ((((w32.setCell ⟨fV,0,none⟩ (.slice ju j8.length jv)).setCell ⟨fV,1,none⟩ (.slice i4 kB.length i5)).setCell ⟨fV,2,none⟩ (.slice jw t198.length jx)).setCell ⟨fV,3,none⟩ (.int .i64 t201)) w.heap.size (fun _=>True) (.slice i4 kB.length i5) kB):=⟨by(with_reducible repeat(first|apply Kd.ah|apply Kd.ai|apply Kd.aY));exact Kd.aH (Kd.I (p:=⟨fV,3,none⟩) (Kd.I (p:=⟨fV,2,none⟩) (Kd.I (p:=⟨fV,1,none⟩) (Kd.I (p:=⟨fV,0,none⟩) (Kd.al oX.out dd.out (by decide)) (fun _ hk=>hk.2) (.slice ju j8.length jv)) (fun _ hk=>hk.2) (.slice i4 kB.length i5)) (fun _ hk=>hk.2) (.slice jw t198.length jx)) (fun _ hk=>hk.2) (.int .i64 t201)) (fun _ hk=>trivial)⟩;have aw:a9 (Kd.R Kd.string 9 ((((w32.setCell ⟨fV,0,none⟩ (.slice ju j8.length jv)).setCell ⟨fV,1,none⟩ (.slice i4 kB.length i5)).setCell ⟨fV,2,none⟩ (.slice jw t198.length jx)).setCell ⟨fV,3,none⟩ (.int .i64 t201)) w.heap.size (fun k_=>some k_≠(.slice ju j8.length jv:Value).ownBlock) (.slice jw t198.length jx) t198):=⟨by(with_reducible repeat(first|apply Kd.ah|apply Kd.ai|apply Kd.aY));exact Kd.aH (Kd.I (p:=⟨fV,3,none⟩) (Kd.I (p:=⟨fV,2,none⟩) (Kd.I (p:=⟨fV,1,none⟩) (Kd.I (p:=⟨fV,0,none⟩) (Kd.al nZ.out dd.out (by decide)) (fun _ hk=>hk.2) (.slice ju j8.length jv)) (fun _ hk=>hk.2) (.slice i4 kB.length i5)) (fun _ hk=>hk.2) (.slice jw t198.length jx)) (fun _ hk=>hk.2) (.int .i64 t201)) (fun _ hk=>hk.1)⟩;have bI:a9 (((((w32.setCell ⟨fV,0,none⟩ (.slice ju j8.length jv)).setCell ⟨fV,1,none⟩ (.slice i4 kB.length i5)).setCell ⟨fV,2,none⟩ (.slice jw t198.length jx)).setCell ⟨fV,3,none⟩ (.int .i64 t201)).heap[fV]?=some (.cells #[.slice ju j8.length jv,.slice i4 kB.length i5,.slice jw t198.length jx,.int .i64 t201] 28 (0,0))):=⟨by(with_reducible repeat(first|refine aC ?_ _|refine U ?_|refine X ?_ _));refine aU (cs:= #[.slice ju j8.length jv,.slice i4 kB.length i5,.slice jw t198.length jx,.int .i64 aN]) ?_ 3 _ rfl;(with_reducible repeat(first|refine aC ?_ _|refine U ?_|refine X ?_ _));refine aU (cs:= #[.slice ju j8.length jv,.slice i4 kB.length i5,.slice bV aK.length bR,.int .i64 aN]) ?_ 2 _ rfl;(with_reducible repeat(first|refine aC ?_ _|refine U ?_|refine X ?_ _));refine aU (cs:= #[.slice ju j8.length jv,.slice b7 aD.length ay,.slice bV aK.length bR,.int .i64 aN]) ?_ 1 _ rfl;(with_reducible repeat(first|refine aC ?_ _|refine U ?_|refine X ?_ _));refine aU (cs:= #[.slice b0 aG.length b5,.slice b7 aD.length ay,.slice bV aK.length bR,.int .i64 aN]) ?_ 0 _ rfl;(with_reducible repeat(first|refine aC ?_ _|refine U ?_|refine X ?_ _));exact dd.out⟩;have bj:a9 (((((w32.setCell ⟨fV,0,none⟩ (.slice ju j8.length jv)).setCell ⟨fV,1,none⟩ (.slice i4 kB.length i5)).setCell ⟨fV,2,none⟩ (.slice jw t198.length jx)).setCell ⟨fV,3,none⟩ (.int .i64 t201)).heap[nX]?=some (.cells #[.slice none 0 0,.slice none 0 0,.slice none 0 0,.int .i64 0] 28 (0,0))):=⟨bf gj we⟩;have bv:a9 (Below w.heap.size w ((((w32.setCell ⟨fV,0,none⟩ (.slice ju j8.length jv)).setCell ⟨fV,1,none⟩ (.slice i4 kB.length i5)).setCell ⟨fV,2,none⟩ (.slice jw t198.length jx)).setCell ⟨fV,3,none⟩ (.int .i64 t201))):=⟨aj HB lD mZ⟩;(try clear nY);(try clear oX);(try clear nZ);(try clear dd);(try clear gj);(try clear HB)
   generalize ((((w32.setCell ⟨fV,0,none⟩ (.slice ju j8.length jv)).setCell ⟨fV,1,none⟩ (.slice i4 kB.length i5)).setCell ⟨fV,2,none⟩ (.slice jw t198.length jx)).setCell ⟨fV,3,none⟩ (.int .i64 t201))=S6 at an am aw bI bj bv⊢
   have nY:=an;have oX:=am;have nZ:=aw;have dd:=bI;have gj:=bj;have HB:=bv;clear an am aw bI bj bv;have an:=Ah (Kd.aY nY.out);have am:=Ah (Kd.aY oX.out);have aw:=Ah (Kd.aY nZ.out);have bI:=Ah (U dd.out);have bj:=Ah (U gj.out);have bv:=Ah (jg HB.out);clear nY oX nZ dd gj HB;have nY:=an;have oX:=am;have nZ:=aw;have dd:=bI;have gj:=bj;have HB:=bv;clear an am aw bI bj bv;refine la (n:=8) (S:=fun w'=>w'.cell? ⟨fV,0,none⟩=some (.slice ju j8.length jv)∧w'.cell? ⟨fV,1,none⟩=some (.slice i4 kB.length i5)∧w'.cell? ⟨fV,2,none⟩=some (.slice jw t198.length jx)∧w'.cell? ⟨fV,3,none⟩=some (.int .i64 t201)) (ds:=[7]) #[false,false,false,false,false,false,false,false] (by kernel_rfl) rfl rfl ⟨(ab dd.out 0).trans rfl,(ab dd.out 1).trans rfl,(ab dd.out 2).trans rfl,(ab dd.out 3).trans rfl⟩ (fun hHeld=> ?_);refine m4 fR.Gk fR.FS (fun ac eh=> ?_)
   generalize S6.drew=Ru at nY oX nZ dd gj HB hHeld⊢
   refine bZ 0 27 ac.out ?_;refine bZ 2 29 ac.out ?_;refine gy 1 28 ac.out eh.out hHeld (hr:=by rintro w' ⟨s0,s1,s2,s3⟩;go_simp;with_reducible rfl) (h:= ?_);refine fw (i:=3) (N:=some 30) #[true,true,true,true,false,false,false,false] rfl rfl (ff ac.out (by kernel_rfl)) (by decide) (fun K hK=> ?_);refine kI Try.func27 (by kernel_rfl) rfl #[.slice A1 l1.length c1] (by rfl) rfl rfl (by(try simp only[aac,List.map_cons,List.map_nil]);first|done|rfl|(simp only[qC,fu];rfl)) ?_
   with_reducible refine(ey.calls S3 _ _ l1 DC _ ?aI ?aJ S5.out).mono ?_
   (case aI=>exact cb HR1 HB);(case aJ=>exact nK.out);rintro e Bq ⟨rfl,hb⟩;refine⟨_,rfl, ?_⟩;have an:=Ah (Kd.fT (rr nY.out) hb);have am:=Ah (Kd.fT (rr oX.out) hb);have aw:=Ah (Kd.fT (rr nZ.out) hb);have bI:=Ah (bb dd hb);have bj:=Ah (bb gj hb);have bv:=Ah (aT (aj HB lD mZ) hb);clear nY oX nZ dd gj HB;have nY:=an;have oX:=am;have nZ:=aw;have dd:=bI;have gj:=bj;have HB:=bv;clear an am aw bI bj bv;(try clear hb);(try clear hb2);(try clear hk);(try clear hi);refine hK.out _ _ ⟨(ab dd.out 0).trans rfl,(ab dd.out 1).trans rfl,(ab dd.out 2).trans rfl,(ab dd.out 3).trans rfl⟩ (fun hHeld=> ?_);clear hK K;refine gN (a':= ?_) ?_ ?_;rotate_left
   ·
    show aab _ (some 30) _=_
    simp only[aab,Ok,mr,mQ,eK,eT]
    rfl
   refine fw (i:=4) (N:=some 31) #[true,true,true,true,true,false,false,false] rfl rfl (ff ac.out (by kernel_rfl)) (by decide) (fun K hK=> ?_);refine zQ (w1:= ?_) (v:= ?_) (by rfl) rfl ?_ ?_;rotate_left 2
   ·
    go_simp
    constructor
    ·
     rfl
    ·
     rfl
   refine hK.out _ _ ⟨(ab (X dd.out _) 0).trans rfl,(ab (X dd.out _) 1).trans rfl,(ab (X dd.out _) 2).trans rfl,(ab (X dd.out _) 3).trans rfl⟩ (fun hHeld=> ?_);clear hK K;refine gN (a':= ?_) ?_ ?_;rotate_left
   ·
    show aab _ (some 31) _=_
    simp only[aab,Ok,mr,mQ,eK,eT]
    rfl
   refine fw (i:=5) (N:=some 32) #[true,true,true,true,true,true,false,false] rfl rfl (ff ac.out (by kernel_rfl)) (by decide) (fun K hK=> ?_);refine Kd.yZ Kd.string (w0:=w) w.heap.size (by rfl) (.tmp 28) (.tmp 31) 23 9 (.string ⟨#[]⟩) 16 rfl aas mB rfl (by decide) (by omega) (.slice jw t198.length jx) t198 DC [.string DC] (fun k_=>some k_≠(.slice ju j8.length jv:Value).ownBlock) (fun _=>False) rfl rfl ?aP (fun _ hk=>hk.elim) ?aF ?aO ?aB ?aS ?aL ?_;(case aP=>exact rfl);(case aB=>exact(aj HB lD mZ));(case aF=>exact(fun k_ hk=>Kd.fresh' (Kd.Z (rr nY.out)) k_ hk));(case aO=>exact(rr nZ.out));(case aS=>exact(bF (aj HB lD mZ)));(case aL=>have:=FV.out;omega);intro v204 Dp ho hb hg hat;rw[←Ny203.out]at ho;have an:=Ah (hH (bk dd) hg (Kd.gY nZ.out dd.out (by decide)));have am:=Ah (hH (bk gj) hg (Kd.gY nZ.out gj.out (by decide)));have aw:=Ah (Kd.uj (ok:=(fun _=>True)) (by(with_reducible repeat(first|apply Kd.ah|apply Kd.ai|apply Kd.aY));exact Kd.aH nY.out (fun _ hk=>⟨trivial,hk⟩)) hg hat);have bI:=Ah (Kd.nT (rr oX.out) (Kd.nS (rr nZ.out)) (by decide) hg);have bj:=Ah (hb);have bv:=Ah (ho);clear dd gj nY oX HB nZ;have dd:=an;have gj:=am;have nY:=aw;have oX:=bI;have HB:=bj;have YT:=bv;clear an am aw bI bj bv ho hb hg hat;obtain⟨po,pp,LJ⟩:=Kd.ao YT.out;(first|subst LJ|(injection LJ with dy gA dz;have gB:=dy.symm;have gC:=dz.symm;clear dy gA dz;subst gB;subst gC));refine hK.out _ _ ⟨(ab dd.out 0).trans rfl,(ab dd.out 1).trans rfl,(ab dd.out 2).trans rfl,(ab dd.out 3).trans rfl⟩ (fun hHeld=> ?_);clear hK K;refine gN (a':= ?_) ?_ ?_;rotate_left
   ·
    show aab _ (some 32) _=_
    simp only[aab,Ok,mr,mQ,eK,eT]
    rfl
   refine bZ 6 33 ac.out ?_;refine CQ (i:=7) (N:=none) #[true,true,true,true,true,true,true,true] rfl rfl (ff ac.out (by kernel_rfl)) (by decide) (fun K hK=> ?_);have hs42:Dp.cell? ⟨fV,2,none⟩=some (.slice jw t198.length jx):=(ab dd.out 2).trans rfl;have hfs42:=ee dd.out 2;have hns42_1:=we.out;have hms42_1:=C4.out;refine ra (w1:= ?_) (by rfl) rfl ?_ ?_;rotate_left
   ·
    go_simp
    rfl
   refine hK.out _ _ ?_;clear hK K;refine kj (l3 ac.out (by kernel_rfl)) ?_;obtain⟨WP,WQ,hcz43_2,hcz43_3⟩:=b9 dd;obtain⟨WR,WS,hfz43_2,hfz43_3⟩:=bA dd;obtain⟨hcz44_0,hcz44_1,hcz44_2,hcz44_3⟩:=b9 gj;obtain⟨hfz44_0,hfz44_1,hfz44_2,hfz44_3⟩:=bA gj
   try go_wp2
   refine bodyPost_ret (iJ rfl _ _ nX 28 #[.slice ju j8.length jv,.slice i4 kB.length i5,.slice po wL.length pp,.int .i64 t201] (0,0) _ rfl (by(with_reducible repeat(first|refine aC ?_ _|refine U ?_|refine X ?_ _));refine aU (cs:= #[.slice ju j8.length jv,.slice i4 kB.length i5,.slice po wL.length pp,.int .i64 0]) ?_ 3 _ rfl;(with_reducible repeat(first|refine aC ?_ _|refine U ?_|refine X ?_ _));refine aU (cs:= #[.slice ju j8.length jv,.slice i4 kB.length i5,.slice none 0 0,.int .i64 0]) ?_ 2 _ rfl;(with_reducible repeat(first|refine aC ?_ _|refine U ?_|refine X ?_ _));refine aU (cs:= #[.slice ju j8.length jv,.slice none 0 0,.slice none 0 0,.int .i64 0]) ?_ 1 _ rfl;(with_reducible repeat(first|refine aC ?_ _|refine U ?_|refine X ?_ _));refine aU (cs:= #[.slice none 0 0,.slice none 0 0,.slice none 0 0,.int .i64 0]) ?_ 0 _ rfl;(with_reducible repeat(first|refine aC ?_ _|refine U ?_|refine X ?_ _));refine dD ?_ we.out _;(with_reducible repeat(first|refine aC ?_ _|refine U ?_|refine X ?_ _));exact gj.out) aaa rfl (by kernel_rfl)) rfl ?_;exact⟨_,_,_,er,by(with_reducible repeat(first|apply Kd.ah|apply Kd.ai|apply Kd.aY));exact Kd.aH (Kd.I (p:=⟨nX,3,none⟩) (Kd.I (p:=⟨nX,2,none⟩) (Kd.I (p:=⟨nX,1,none⟩) (Kd.I (p:=⟨nX,0,none⟩) (Kd.I (p:=⟨fV,2,none⟩) (Kd.al (Kd.al nY.out dd.out (by decide)) gj.out (by decide)) (fun _ hk=>hk.1.2) (.slice po wL.length pp)) (fun _ hk=>hk.2) (.slice ju j8.length jv)) (fun _ hk=>hk.2) (.slice i4 kB.length i5)) (fun _ hk=>hk.2) (.slice po wL.length pp)) (fun _ hk=>hk.2) (.int .i64 t201)) (fun _ hk=>hk.1.1.2),by(with_reducible repeat(first|apply Kd.ah|apply Kd.ai|apply Kd.aY));exact Kd.aH (Kd.I (p:=⟨nX,3,none⟩) (Kd.I (p:=⟨nX,2,none⟩) (Kd.I (p:=⟨nX,1,none⟩) (Kd.I (p:=⟨nX,0,none⟩) (Kd.I (p:=⟨fV,2,none⟩) (Kd.al (Kd.al oX.out dd.out (by decide)) gj.out (by decide)) (fun _ hk=>hk.1.2) (.slice po wL.length pp)) (fun _ hk=>hk.2) (.slice ju j8.length jv)) (fun _ hk=>hk.2) (.slice i4 kB.length i5)) (fun _ hk=>hk.2) (.slice po wL.length pp)) (fun _ hk=>hk.2) (.int .i64 t201)) (fun _ hk=>trivial),by(with_reducible repeat(first|apply Kd.ah|apply Kd.ai|apply Kd.aY));exact Kd.aH (Kd.I (p:=⟨nX,3,none⟩) (Kd.I (p:=⟨nX,2,none⟩) (Kd.I (p:=⟨nX,1,none⟩) (Kd.I (p:=⟨nX,0,none⟩) (Kd.I (p:=⟨fV,2,none⟩) (Kd.al (Kd.al YT.out dd.out (by decide)) gj.out (by decide)) (fun _ hk=>hk.1.2) (.slice po wL.length pp)) (fun _ hk=>hk.2) (.slice ju j8.length jv)) (fun _ hk=>hk.2) (.slice i4 kB.length i5)) (fun _ hk=>hk.2) (.slice po wL.length pp)) (fun _ hk=>hk.2) (.int .i64 t201)) (fun _ hk=>hk.1.1),aj HB lD mZ⟩
end Go.Proofs.Ytmbjmacpigojjaa.G
