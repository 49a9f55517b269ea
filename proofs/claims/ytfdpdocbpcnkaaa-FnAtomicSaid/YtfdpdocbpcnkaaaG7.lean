-- Printed by a program of this session (drive.py, by way of the kit's print). Not trusted: Lean checks it.
import Derived.Test.YtfdpdocbpcnkaaaG0
import Derived.Test.YtfdpdocbpcnkaaaG2
import Derived.Test.YtfdpdocbpcnkaaaG6
open Bool renaming eq_false_iff→dW,not_false→aaU
open ByteArray renaming empty→bA
open Go.Act renaming put→aaa
open Go.Proofs.Try renaming prog→t5,underlying28→wd,underlying26→aae,underlying64→aah,underlying23→aat,func30→abG
open Go.RowKit renaming wrap64→I0
open Go.RowKit.Below renaming refl→pv
open Go.World renaming block_lt_of_cell?→I1
open List renaming setIfInBounds_toArray→JM,length_take→bx,set_cons_zero→jG,set_cons_succ→kt,length_drop→qh,map_toArray→aab,map_cons→aad,map_nil→aaf
open Nat renaming le_refl→mz,ne_of_lt→aam,ne_of_gt→aao,lt_of_lt_of_le→aav
open Option renaming bind_eq_some_iff→He,bind_some→Ok
open Option.some renaming injEq→fc,inj→fl
open Prod.mk renaming injEq→oe
namespace Go.Proofs.Ytfdpdocbpcnkaaa.G
open Go.RowKit Go.Proofs.YtfdpdocbpcnkaaaW.PrintWords Go.Proofs.YtfdpdocbpcnkaaaW.PrintLast Go.Proofs.YtfdpdocbpcnkaaaW.PrintMore
attribute [local go_sem] tM tN tQ tR tA tB tO tP
set_option linter.unusedVariables false
set_option linter.unusedSimpArgs false
def hJ.l0:Nat→List (S64)→Int→Int→List (S64)→Option (Int)
 |0,_,_,_,_=>none
 |k+1,x0,x7,x8,UF=>if x8<x7 then(if 0≤x8 then(if x8<(x0.length:Int)then((ol.f k ((aH x0 x8).f0) ((aH x0 x8).f1) UF).bind fun Qc=>(if Qc=true then(some x8)else(hJ.l0 k x0 x7 (I0 (x8+1)) UF)))else(none))else(none))else(some (-1))
def hJ.f(k:Nat)(l0:List (S64))(bC:List (S64)):Option (Int):=hJ.l0 k l0 (l0.length:Int) 0 bC
theorem hJ.bg:∀k,(∀y0 y1 y2 y3,a8 (hJ.l0 k y0 y1 y2 y3) (hJ.l0 (k+1) y0 y1 y2 y3))
 |0=>fun _ _ _ _ r h=>by simp[hJ.l0]at h
 |k+1=>by
  have bB:=hJ.bg k
  ·
   intro y0 y1 y2 y3;unfold hJ.l0
   repeat' with_reducible first|exact bB _ _ _ _|exact ol.mono _ _ _ _|exact a8.refl _|exact a8.none _|refine a8.ite ?_ ?_|refine a8.bind ?_ (fun _=> ?_)
theorem hJ.mono:∀a0 a1 k,a8 (hJ.f k a0 a1) (hJ.f (k+1) a0 a1):=by
 intro a0 a1 k;have bB:=hJ.bg k;unfold hJ.f
 repeat' with_reducible first|exact bB _ _ _ _|exact ol.mono _ _ _ _|exact a8.refl _|exact a8.none _|refine a8.ite ?_ ?_|refine a8.bind ?_ (fun _=> ?_)
set_option maxHeartbeats 8000000 in
set_option maxRecDepth 100000 in
theorem hJ.calls(k:Nat)(A0:Option Addr)(c0:Nat)(l0:List (S64))(bW:Nat)(co:Option Addr)(cp:Nat)(bC:List (S64))(r:Int)(w:World)(hr0:Kd.C bS w A0 l0.length l0)(hc0:l0.length≤c0)(ix:Kd.C bS w co bC.length bC)(iy:bC.length≤cp)(g9:w.heap[bW]?=some (.cells #[.slice co bC.length cp] 24 (0,0)))(h:hJ.f k l0 bC=some r):
 Calls t5 54 #[.slice A0 l0.length c0,.func (.func 34) #[] #[.pointer (some ⟨bW,0,none⟩)]] w fun e w'=>e= .returned (.int .i64 r)∧Below w.heap.size w w':=by
 have hu64:=aah;have d8:=Ah hr0;have gV:=Ah hc0;clear hr0 hc0;have kz:=Ah ix;have lL:=Ah iy;clear ix iy;have uE:=Ah g9;clear g9;have HB:=Ah (pv w.heap.size w);have H:(hJ.l0 k l0 (l0.length:Int) 0 bC)=some r:=h;clear h;have H':=Ah H;clear H
 go_enter Try.func54,Try.ntmps54
 go_wp2
 go_loopg [8] k (fun kq v8 w'=>∃ (au:Int),v8= .int .i64 au∧aC (hJ.l0 kq l0 (l0.length:Int) au bC=some r)∧aC (kq≤k)∧aC (w'.heap[bW]?=some (.cells #[(.slice co bC.length cp)] 24 (0,0)))∧aC (Below w.heap.size w w'))
 case atStart=>exact⟨(0),e3,H',⟨mz _⟩,⟨bk uE⟩,⟨bs HB⟩⟩
 case round=>
  clear H'
  try clear c1
  try clear hx1
  try clear p2
  try clear g9
  obtain⟨au,rfl,HA,bY,uE,HB⟩:=hrel
  cases gk with
  |zero=>exact absurd HA.out (by simp[hJ.l0])
  |succ k1=>
   have H:=HA.out;clear HA;simp only[hJ.l0]at H
   by_cases c3:au<(l0.length:Int)
   rotate_left
   ·
    rw[if_neg c3]at H;have eb:decide (au<(l0.length:Int))=false:=decide_eq_false c3;clear c3;obtain rfl:=fl H
    go_wp2
    go_ret
    exact⟨er,bs HB⟩
   rw[if_pos c3]at H;have eb:decide (au<(l0.length:Int))=true:=decide_eq_true c3;clear c3
   by_cases c4:0≤au
   rotate_left
   ·
    rw[if_neg c4]at H;exact absurd H (by simp)
   rw[if_pos c4]at H;have fa:decide (0≤au)=true:=decide_eq_true c4;clear c4
   by_cases c5:au<(l0.length:Int)
   rotate_left
   ·
    rw[if_neg c5]at H;exact absurd H (by simp)
   rw[if_pos c5]at H;have gz:decide (au<(l0.length:Int))=true:=decide_eq_true c5;clear c5;replace H:=He.mp H;obtain⟨Qc,e9,H⟩:=H
   try dsimp only at H
   have A6:=Ah e9;clear e9
   by_cases c7:Qc=true
   ·
    subst c7;rw[if_pos rfl]at H;obtain rfl:=fl H;have AG:0≤(au:Int):=od;have AH:au<(l0.length:Int):=od;obtain⟨a6r,Qd,xj,xk⟩:=g8 d8.out au AG AH
    cases Qd
    replace xj:=(HB.out.cell (I1 w _ xj)).trans xj;replace xk:=(HB.out.cell (I1 w _ xk)).trans xk;replace AG:=eq_true AG;replace AH:=eq_true AH
    go_wp2_with (first|((with_reducible refine qA (t:=11) rfl ?_);refine qL (some 16) rfl rfl Try.func34 (by kernel_rfl) rfl #[.agg #[.int .i64 ((aH l0 au).f0),.string ((aH l0 au).f1)],.pointer (some ⟨bW,0,none⟩)] rfl rfl (by(try simp only[aab,aad,aaf]);first|done|rfl|(simp only[qh,bx];rfl)) ?_;(with_reducible refine(ol.calls k1 ((aH l0 au).f0) ((aH l0 au).f1) bW co cp bC true _ ?aE ?aG ?aZ A6.out).mono ?_);(case aE=>exact cb kz HB);(case aG=>exact lL.out);(case aZ=>(with_reducible repeat(first|refine a9 ?_ _|refine U ?_|refine Z ?_ _));exact uE.out);rintro e w8 ⟨rfl,hb⟩;refine⟨_,rfl, ?_⟩;replace uE:=Ah (dF (g:=bW) (o:= .cells #[.slice co bC.length cp] 24 (0,0)) (bk uE) hb);replace HB:=Ah (aJ (bs HB) hb);(try clear hb)))
    go_ret
    exact⟨er,bs HB⟩
   replace c7:=dW.mpr c7;subst c7;rw[if_neg cg]at H;have H':=Ah H;clear H;have AG:0≤(au:Int):=od;have AH:au<(l0.length:Int):=od;obtain⟨a6r,Qd,xj,xk⟩:=g8 d8.out au AG AH
   cases Qd
   replace xj:=(HB.out.cell (I1 w _ xj)).trans xj;replace xk:=(HB.out.cell (I1 w _ xk)).trans xk;replace AG:=eq_true AG;replace AH:=eq_true AH
   go_wp2_with (first|((with_reducible refine qA (t:=11) rfl ?_);refine qL (some 16) rfl rfl Try.func34 (by kernel_rfl) rfl #[.agg #[.int .i64 ((aH l0 au).f0),.string ((aH l0 au).f1)],.pointer (some ⟨bW,0,none⟩)] rfl rfl (by(try simp only[aab,aad,aaf]);first|done|rfl|(simp only[qh,bx];rfl)) ?_;(with_reducible refine(ol.calls k1 ((aH l0 au).f0) ((aH l0 au).f1) bW co cp bC false _ ?aE ?aG ?aZ A6.out).mono ?_);(case aE=>exact cb kz HB);(case aG=>exact lL.out);(case aZ=>(with_reducible repeat(first|refine a9 ?_ _|refine U ?_|refine Z ?_ _));exact uE.out);rintro e w9 ⟨rfl,hb⟩;refine⟨_,rfl, ?_⟩;replace uE:=Ah (dF (g:=bW) (o:= .cells #[.slice co bC.length cp] 24 (0,0)) (bk uE) hb);replace HB:=Ah (aJ (bs HB) hb);(try clear hb)))
   go_roundg k1
   case measure=>have:=bY.out;omega
   case rel=>exact⟨(I0 (au+1)),e3,H',⟨by have:=bY.out;omega⟩,⟨bk uE⟩,⟨bs HB⟩⟩
def px.f(k:Nat)(l0:List (S64))(bC:List (S64)):Option (Bool):=(hJ.f k l0 bC).bind fun HP=>(some (decide (HP≥0)))
theorem px.mono:∀a0 a1 k,a8 (px.f k a0 a1) (px.f (k+1) a0 a1):=by
 intro a0 a1 k;unfold px.f
 repeat' with_reducible first|exact hJ.mono _ _ _|exact a8.refl _|exact a8.none _|refine a8.ite ?_ ?_|refine a8.bind ?_ (fun _=> ?_)
set_option maxHeartbeats 8000000 in
set_option maxRecDepth 100000 in
theorem px.calls(k:Nat)(A0:Option Addr)(c0:Nat)(l0:List (S64))(bW:Nat)(co:Option Addr)(cp:Nat)(bC:List (S64))(r:Bool)(w:World)(hr0:Kd.C bS w A0 l0.length l0)(hc0:l0.length≤c0)(ix:Kd.C bS w co bC.length bC)(iy:bC.length≤cp)(g9:w.heap[bW]?=some (.cells #[.slice co bC.length cp] 24 (0,0)))(h:px.f k l0 bC=some r):
 Calls t5 33 #[.slice A0 l0.length c0,.func (.func 34) #[] #[.pointer (some ⟨bW,0,none⟩)]] w fun e w'=>e= .returned (.bool r)∧Below w.heap.size w w':=by
 have d8:=Ah hr0;have gV:=Ah hc0;clear hr0 hc0;have kz:=Ah ix;have lL:=Ah iy;clear ix iy;have Om:=Ah g9;clear g9;have HB:=Ah (pv w.heap.size w);have H:((hJ.f k l0 bC).bind fun HP=>(some (decide (HP≥0))))=some r:=h;clear h;replace H:=He.mp H;obtain⟨HP,de,H⟩:=H
 try dsimp only at H
 have A3:=Ah de;clear de;obtain rfl:=fl H
 go_enter Try.func33,Try.ntmps33
 go_wp2_with (first|((with_reducible refine ap (f:=54) rfl ?_);refine gL (some 7) rfl rfl Try.func54 (by kernel_rfl) rfl #[.slice A0 l0.length c0,.func (.func 34) #[] #[.pointer (some ⟨bW,0,none⟩)]] rfl ?_;(with_reducible refine(hJ.calls k _ _ l0 bW co cp bC HP _ ?aE ?aG ?aZ ?ab ?bT A3.out).mono ?_);(case aE=>repeat(first|exact d8.out|(with_reducible refine Kd.jg ?_ _)|(with_reducible refine Kd.jh ?_ _)|(with_reducible refine Kd.jo ?_)));(case aG=>exact gV.out);(case aZ=>repeat(first|exact kz.out|(with_reducible refine Kd.jg ?_ _)|(with_reducible refine Kd.jh ?_ _)|(with_reducible refine Kd.jo ?_)));(case ab=>exact lL.out);(case bT=>(with_reducible repeat(first|refine a9 ?_ _|refine U ?_|refine Z ?_ _));exact Om.out);rintro e w4 ⟨rfl,hb⟩;refine⟨_,rfl, ?_⟩;replace Om:=Ah (dF (g:=bW) (o:= .cells #[.slice co bC.length cp] 24 (0,0)) (bk Om) hb);replace HB:=Ah (aJ (bs HB) hb);(try clear hb)))
 go_ret
 exact⟨er,bs HB⟩
mutual
def db.j0:Nat→Bool→List ByteArray→List (S64)→List ByteArray→Int→Option (Bool)
 |0,_,_,_,_,_=>none
 |k+1,x26,JK,JL,xl,BM=>if x26=true then(some false)else(db.l0 k xl (xl.length:Int) 0 JK JL xl BM)
def db.l0:Nat→List ByteArray→Int→Int→List ByteArray→List (S64)→List ByteArray→Int→Option (Bool)
 |0,_,_,_,_,_,_,_=>none
 |k+1,x28,x29,x30,JK,JL,xl,BM=>if x30<x29 then(if 0≤x30 then(if x30<(x28.length:Int)then((eP.f k (dL bA x28 x30)).bind fun WZ=>(if WZ.2=true then((fo.f k WZ.1 (JK.length:Int)).bind fun Qe=>(if Qe=true then(db.l0 k x28 x29 (I0 (x30+1)) JK JL xl BM)else(some false)))else(some false)))else(none))else(none))else(if 0≤BM then(if BM≤(xl.length:Int)then((g7.f k (xl.take (BM:Int).toNat)).bind fun HQ=>((px.f k JL HQ).bind fun Qf=>(some (!Qf))))else(none))else(none))
end
def db.f(k:Nat)(X:List ByteArray)(J:List (S64))(aD:List ByteArray)(aI:Int):Option (Bool):=(fV.f k X J).bind fun HS=>(if HS=true then(if(aD.length:Int)>40 then(db.j0 k true X J aD aI)else((jH.f aI 0 (aD.length:Int)).bind fun Cd=>(db.j0 k (!Cd) X J aD aI)))else(db.j0 k true X J aD aI))
theorem db.bg:∀k,(∀y0 y1 y2 y3 y4,a8 (db.j0 k y0 y1 y2 y3 y4) (db.j0 (k+1) y0 y1 y2 y3 y4))∧(∀y0 y1 y2 y3 y4 y5 y6,a8 (db.l0 k y0 y1 y2 y3 y4 y5 y6) (db.l0 (k+1) y0 y1 y2 y3 y4 y5 y6))
 |0=>⟨fun _ _ _ _ _ r h=>by simp[db.j0]at h,fun _ _ _ _ _ _ _ r h=>by simp[db.l0]at h⟩
 |k+1=>by
  obtain⟨bB,ih1⟩:=db.bg k
  refine⟨?_, ?_⟩<;>intros<;>first|unfold db.j0|unfold db.l0
  all_goals repeat' first
   |(with_reducible exact bB _ _ _ _ _)
   |(with_reducible exact ih1 _ _ _ _ _ _ _)
   |(with_reducible exact fV.mono _ _ _)
   |(with_reducible exact eP.mono _ _)
   |(with_reducible exact fo.mono _ _ _)
   |(with_reducible exact g7.mono _ _)
   |(with_reducible exact px.mono _ _ _)
   |(with_reducible exact a8.refl _)
   |(with_reducible exact a8.none _)
   |(with_reducible refine a8.ite ?_ ?_)
   |(with_reducible refine a8.bind ?_ (fun _=> ?_))
   |exact bB _ _ _ _ _
   |exact ih1 _ _ _ _ _ _ _
   |exact fV.mono _ _ _
   |exact eP.mono _ _
   |exact fo.mono _ _ _
   |exact g7.mono _ _
   |exact px.mono _ _ _
   |exact a8.none _
   |refine a8.ite ?_ ?_
   |refine a8.bind ?_ (fun _=> ?_)
theorem db.mono:∀a0 a1 a2 a3 k,a8 (db.f k a0 a1 a2 a3) (db.f (k+1) a0 a1 a2 a3):=by
 intro a0 a1 a2 a3 k;obtain⟨bB,ih1⟩:=db.bg k;unfold db.f
 repeat' with_reducible first|exact bB _ _ _ _ _|exact ih1 _ _ _ _ _ _ _|exact fV.mono _ _ _|exact eP.mono _ _|exact fo.mono _ _ _|exact g7.mono _ _|exact px.mono _ _ _|exact a8.refl _|exact a8.none _|refine a8.ite ?_ ?_|refine a8.bind ?_ (fun _=> ?_)
set_option maxHeartbeats 8000000 in
set_option maxRecDepth 100000 in
theorem db.calls(k:Nat)(ag:Option Addr)(ah:Nat)(X:List ByteArray)(ai:Option Addr)(af:Nat)(J:List (S64))(bP:Option Addr)(bQ:Nat)(aD:List ByteArray)(aI:Int)(r:Bool)(w:World)(dG:Kd.C Kd.string w ag X.length X)(dH:X.length≤ah)(dI:Kd.C bS w ai J.length J)(dJ:J.length≤af)(fp:Kd.C Kd.string w bP aD.length aD)(fq:aD.length≤bQ)(h:db.f k X J aD aI=some r):
 Calls t5 11 #[.agg #[.slice ag X.length ah,.slice ai J.length af,.slice bP aD.length bQ,.int .i64 aI]] w fun e w'=>e= .returned (.bool r)∧Below w.heap.size w w':=by
 have mE:=wd;have kj:=aae;have cN:=Ah dG;have cR:=Ah dH;clear dG dH;have cI:=Ah dI;have ca:=Ah dJ;clear dI dJ;have dr:=Ah fp;have eK:=Ah fq;clear fp fq;have HB:=Ah (pv w.heap.size w);have H:((fV.f k X J).bind fun HS=>(if HS=true then(if(aD.length:Int)>40 then(db.j0 k true X J aD aI)else((jH.f aI 0 (aD.length:Int)).bind fun Cd=>(db.j0 k (!Cd) X J aD aI)))else(db.j0 k true X J aD aI)))=some r:=h;clear h;have nt:=Ah H;clear H
 go_enter Try.func11,Try.ntmps11
 go_upto_region 1 with(first|((with_reducible refine ao (N:=1) rfl ?_);(try(refine dM (by rfl) ?_;dsimp only));refine az 1 28 #[.slice ag X.length ah,.slice ai J.length af,.slice bP aD.length bQ,.int .i64 aI] ?_;intro Wa hg w3 eE hb;have GW616:=gw hg (bs HB);have ig:=gw hg (bs HB);replace HB:=Ah (aJ (bs HB) hb);clear hb hg))
 (try simp only[aaa,JM,jG,kt])
 go_cut [26] (fun v26 wc=>∃ (kq:Nat) (KT:Bool),v26= .bool KT∧aC (db.j0 kq KT X J aD aI=some r)∧aC (kq≤k)∧aC (wc.heap[Wa]?=some (.cells #[(.slice ag X.length ah),(.slice ai J.length af),(.slice bP aD.length bQ),.int .i64 aI] 28 (0,0)))∧aC (Below w.heap.size w wc))
 case first=>
  have H:=nt.out;clear nt;replace H:=He.mp H;obtain⟨HS,ey,H⟩:=H
  try dsimp only at H
  have A4:=Ah ey;clear ey
  by_cases c5:HS=true
  rotate_left
  ·
   replace c5:=dW.mpr c5;subst c5;rw[if_neg cg]at H;have H':=Ah H;clear H;obtain⟨qw,qx,xW,xX⟩:=b0 eE;obtain⟨qy,qz,xY,xZ⟩:=b5 eE
   go_wp2_with (first|((with_reducible refine ap (f:=30) rfl ?_);refine gL (some 10) rfl rfl abG (by kernel_rfl) rfl #[.agg #[.slice ag X.length ah,.slice ai J.length af]] rfl ?_;(with_reducible refine(fV.calls k _ _ X _ _ J false _ ?aE ?aG ?aZ ?ab A4.out).mono ?_);(case aE=>exact cb cN HB);(case aG=>exact cR.out);(case aZ=>exact cb cI HB);(case ab=>exact ca.out);rintro e jw ⟨rfl,hb⟩;refine⟨_,rfl, ?_⟩;replace eE:=nb eE hb;replace HB:=Ah (aJ (aM HB ig) hb);(try clear hb)))
   go_meet
   case rel=>exact⟨_,(true),e3,H',⟨by first|omega|exact mz _⟩,⟨bk eE⟩,⟨aM HB ig⟩⟩
  subst c5;rw[if_pos rfl]at H
  by_cases c6:(aD.length:Int)>40
  ·
   rw[if_pos c6]at H;have hF:decide (40<(aD.length:Int))=true:=decide_eq_true c6;have so:decide (40<aD.length)=true:=decide_eq_true (by omega);clear c6;(first|rw[hF]|(simp only[dD,dP];rw[hF])|(simp only[PU,aaU,Bool.not_true])|skip);have H':=Ah H;clear H;obtain⟨nD,nE,xy,xz⟩:=b0 eE;obtain⟨nF,nG,yA,yB⟩:=b5 eE
   go_wp2_with (first|((with_reducible refine ap (f:=30) rfl ?_);refine gL (some 10) rfl rfl abG (by kernel_rfl) rfl #[.agg #[.slice ag X.length ah,.slice ai J.length af]] rfl ?_;(with_reducible refine(fV.calls k _ _ X _ _ J true _ ?aE ?aG ?aZ ?ab A4.out).mono ?_);(case aE=>exact cb cN HB);(case aG=>exact cR.out);(case aZ=>exact cb cI HB);(case ab=>exact ca.out);rintro e w8 ⟨rfl,hb⟩;refine⟨_,rfl, ?_⟩;replace eE:=nb eE hb;replace HB:=Ah (aJ (aM HB ig) hb);(try clear hb);obtain⟨pG,pH,vD,yC⟩:=b0 eE;obtain⟨qQ,pI,vE,yD⟩:=b5 eE))
   go_meet
   case rel=>exact⟨_,(true),e3,H',⟨by first|omega|exact mz _⟩,⟨bk eE⟩,⟨aM HB ig⟩⟩
  rw[if_neg c6]at H;have hF:decide (40<(aD.length:Int))=false:=decide_eq_false c6;have so:decide (40<aD.length)=false:=decide_eq_false (by omega);clear c6;(first|rw[hF]|(simp only[dD,dP];rw[hF])|(simp only[PU,aaU,Bool.not_true])|skip);replace H:=He.mp H;obtain⟨Cd,Ga,H⟩:=H
  try dsimp only at H
  have R6:=Ah Ga;clear Ga;have H':=Ah H;clear H;obtain⟨jj,jk,o8,o9⟩:=b0 eE;obtain⟨jl,jm,oA,oB⟩:=b5 eE
  go_wp2_with (first|((with_reducible refine ap (f:=30) rfl ?_);refine gL (some 10) rfl rfl abG (by kernel_rfl) rfl #[.agg #[.slice ag X.length ah,.slice ai J.length af]] rfl ?_;(with_reducible refine(fV.calls k _ _ X _ _ J true _ ?aE ?aG ?aZ ?ab A4.out).mono ?_);(case aE=>exact cb cN HB);(case aG=>exact cR.out);(case aZ=>exact cb cI HB);(case ab=>exact ca.out);rintro e mu ⟨rfl,hb⟩;refine⟨_,rfl, ?_⟩;replace eE:=nb eE hb;replace HB:=Ah (aJ (aM HB ig) hb);(try clear hb);obtain⟨la,lc,o4,o5⟩:=b0 eE;obtain⟨ld,lf,o6,o7⟩:=b5 eE)|(go_at_call 17;(with_reducible refine(jH.calls aI 0 (aD.length:Int) Cd _ R6.out).mono ?_);rintro e w' ⟨rfl,⟨nd,rfl⟩⟩))
  go_meet
  case rel=>exact⟨_,(!Cd),e3,H',⟨by first|omega|exact mz _⟩,⟨bk eE⟩,⟨aM HB ig⟩⟩
 case rest=>
  clear nt
  try clear c1
  try clear p2
  try clear c3
  try clear c5
  try clear c6
  try clear hF
  try clear so
  try clear c11
  try clear jj jk o8 o9
  try clear la lc o4 o5
  try clear qw qx xW xX
  try clear nD nE xy xz
  try clear pG pH vD yC
  try clear jl jm oA oB
  try clear ld lf o6 o7
  try clear qy qz xY xZ
  try clear nF nG yA yB
  try clear qQ pI vE yD
  obtain⟨kq,KT,rfl,HA,pt,eE,HB⟩:=hcut
  cases kq with
  |zero=>exact absurd HA.out (by simp[db.j0])
  |succ nu=>
   have H:=HA.out;clear HA;simp only[db.j0]at H
   by_cases c16:KT=true
   ·
    subst c16;rw[if_pos rfl]at H;obtain rfl:=fl H
    go_wp2
    go_ret
    exact⟨er,aM HB ig⟩
   replace c16:=dW.mpr c16;subst c16;rw[if_neg cg]at H;have H':=Ah H;clear H;obtain⟨ox,oy,xL,xM⟩:=b0 eE;obtain⟨oz,p7,xN,xO⟩:=b5 eE
   go_wp2
   go_loopg [30] nu (fun kq v30 w'=>∃ (j5:Int),v30= .int .i64 j5∧aC (db.l0 kq aD (aD.length:Int) j5 X J aD aI=some r)∧aC (kq≤nu)∧aC (w'.heap[Wa]?=some (.cells #[(.slice ag X.length ah),(.slice ai J.length af),(.slice bP aD.length bQ),.int .i64 aI] 28 (0,0)))∧aC (Below w.heap.size w w'))
   case atStart=>exact⟨(0),e3,H',⟨mz _⟩,⟨bk eE⟩,⟨aM HB ig⟩⟩
   case round=>
    clear H'
    try clear c1
    try clear p2
    try clear c3
    try clear c5
    try clear c6
    try clear hF
    try clear so
    try clear c11
    try clear c16
    try clear jj jk o8 o9
    try clear la lc o4 o5
    try clear qw qx xW xX
    try clear ox oy xL xM
    try clear nD nE xy xz
    try clear pG pH vD yC
    try clear jl jm oA oB
    try clear ld lf o6 o7
    try clear qy qz xY xZ
    try clear oz p7 xN xO
    try clear nF nG yA yB
    try clear qQ pI vE yD
    try clear p2
    obtain⟨j5,rfl,HA,jE,eE,HB⟩:=hrel
    cases gk with
    |zero=>exact absurd HA.out (by simp[db.l0])
    |succ k2=>
     have H:=HA.out;clear HA;simp only[db.l0]at H
     by_cases c18:j5<(aD.length:Int)
     rotate_left
     ·
      rw[if_neg c18]at H;have K5:decide (j5<(aD.length:Int))=false:=decide_eq_false c18;clear c18
      by_cases c34:0≤aI
      rotate_left
      ·
       rw[if_neg c34]at H;exact absurd H (by simp)
      rw[if_pos c34]at H;have c34b0:=eq_true c34;have c34b1:decide (0≤aI)=true:=decide_eq_true c34;clear c34
      by_cases qf:aI≤(aD.length:Int)
      rotate_left
      ·
       rw[if_neg qf]at H;exact absurd H (by simp)
      rw[if_pos qf]at H;have VP:=eq_true qf;have c35b1:decide (aI≤(aD.length:Int))=true:=decide_eq_true qf;clear qf;replace H:=He.mp H;obtain⟨HQ,YA,H⟩:=H
      try dsimp only at H
      have Ye:=Ah YA;clear YA;replace H:=He.mp H;obtain⟨Qf,GH,H⟩:=H
      try dsimp only at H
      have Ck:=Ah GH;clear GH;obtain rfl:=fl H;obtain⟨hcz38_0,hcz38_1,hcz38_2,hcz38_3⟩:=b0 eE;obtain⟨hfz38_0,hfz38_1,hfz38_2,hfz38_3⟩:=b5 eE;obtain⟨i039,Wb,_,Wc,_⟩:=info_parts ll;obtain⟨hcut39,YB,YC⟩:=Ae (P:=t5) Value.string (⟨#[]⟩:ByteArray) 23 9 .i64 aat Wb Wc bP bQ aD aI (od) (od) eK.out;have a6s:=Ah (Kd.wj (h1:=fun _=>rfl) (YB _ (Kd.sM dr.out)));have a6t:=Ah YC;clear YB YC Wb Wc
      go_wp2_with (first|((with_reducible refine ap (f:=26) rfl ?_);refine UR (some 56) rfl rfl Try.func26 (by kernel_rfl) rfl #[.slice bP (aD.take (aI:Int).toNat).length bQ] rfl (by(try simp only[aab,aad,aaf]);first|done|(rw[show(aD.take (aI:Int).toNat).length=aI.toNat from(by rw[bx];have h_:(aI:Int)≤(aD.length:Int):=od;omega)]<;>rfl)|rfl|(simp only[qh,bx];rfl)) ?_;(with_reducible refine(g7.calls k2 _ _ (aD.take (aI:Int).toNat) HQ _ ?aE ?aG Ye.out).mono ?_);(case aE=>exact cb a6s HB);(case aG=>exact a6t.out);rintro e Cu ⟨v621,rfl,ho0,hb⟩;refine⟨_,rfl, ?_⟩;have yx:=Ah (Kd.bD ho0 (bJ (aM HB ig)));replace eE:=nb eE hb;replace HB:=Ah (aJ (aM HB ig) hb);(try clear hb ho0))|((with_reducible refine ao (N:=7) rfl ?_);(try(refine dM (by rfl) ?_;dsimp only));refine az 7 24 #[.slice none 0 0] ?_;intro On hg w41 yy hb;replace yx:=nr yx hb;have GW623:=gw hg (aM HB ig);have Oo:=gw hg (aM HB ig);replace HB:=Ah (aJ (aM HB ig) hb);have Rx:=nn eE hg;have Zp:=nm eE hg;replace eE:=nb eE hb;clear hb hg;obtain⟨Kx,H3,QL⟩:=Kd.al yx.out;subst QL;have Ur:=Zp.out;have Us:=Rx.out;have E6:=Qz yy;have E7:=Hg yy;obtain⟨hcz45_0,hcz45_1,hcz45_2,hcz45_3⟩:=b0 eE;obtain⟨hfz45_0,hfz45_1,hfz45_2,hfz45_3⟩:=b5 eE)|((with_reducible refine ap (f:=33) rfl ?_);refine gL (some 61) rfl rfl Try.func33 (by kernel_rfl) rfl #[.slice ai J.length af,.func (.func 34) #[] #[.pointer (some ⟨On,0,none⟩)]] rfl ?_;(with_reducible refine(px.calls k2 _ _ J On Kx H3 HQ Qf _ ?aE ?aG ?aZ ?ab ?bT Ck.out).mono ?_);(case aE=>exact Kd.lI cI.out (aW HB ig Oo));(case aG=>exact ca.out);(case aZ=>exact rc yx yy);(case ab=>exact(Kd.b9 yx.out).2.1);(case bT=>(with_reducible repeat(first|refine a9 ?_ _|refine U ?_|refine Z ?_ _));refine aN (cs:= #[.slice none 0 0]) ?_ 0 _ rfl;(with_reducible repeat(first|refine a9 ?_ _|refine U ?_|refine Z ?_ _));exact yy.out);rintro e L7 ⟨rfl,hb⟩;refine⟨_,rfl, ?_⟩;replace yx:=nf yx yy hb;replace eE:=Ah (dF (bf eE Rx) hb);replace yy:=Ah (dF (g:=On) (o:= .cells #[.slice Kx HQ.length H3] 24 (0,0)) (by(with_reducible repeat(first|refine a9 ?_ _|refine U ?_|refine Z ?_ _));refine aN (cs:= #[.slice none 0 0]) ?_ 0 _ rfl;(with_reducible repeat(first|refine a9 ?_ _|refine U ?_|refine Z ?_ _));exact yy.out) hb);replace HB:=Ah (aJ (aW HB ig Oo) hb);(try clear hb)))
      go_ret
      exact⟨er,aW HB ig Oo⟩
     rw[if_pos c18]at H;have K5:decide (j5<(aD.length:Int))=true:=decide_eq_true c18;clear c18
     by_cases c19:0≤j5
     rotate_left
     ·
      rw[if_neg c19]at H;exact absurd H (by simp)
     rw[if_pos c19]at H;have Bb:decide (0≤j5)=true:=decide_eq_true c19;clear c19
     by_cases c20:j5<(aD.length:Int)
     rotate_left
     ·
      rw[if_neg c20]at H;exact absurd H (by simp)
     rw[if_pos c20]at H;have Nx:decide (j5<(aD.length:Int))=true:=decide_eq_true c20;clear c20;replace H:=He.mp H;obtain⟨⟨HT,a9m⟩,rn,H⟩:=H
     try dsimp only at H
     have sF:=Ah rn;clear rn
     by_cases jF:a9m=true
     rotate_left
     ·
      replace jF:=dW.mpr jF;subst jF;rw[if_neg cg]at H;obtain rfl:=fl H;have sB:0≤(j5:Int):=od;have sC:j5<(aD.length:Int):=od;obtain⟨Wd,HU,r7⟩:=Kd.lH dr.out j5 sB sC
      cases HU
      replace r7:=(HB.out.cell (I1 w _ r7)).trans r7;replace sB:=eq_true sB;replace sC:=eq_true sC
      go_wp2_with (first|((with_reducible refine ap (f:=31) rfl ?_);refine gL (some 36) rfl rfl Try.func31 (by kernel_rfl) rfl #[.string (dL bA aD j5)] rfl ?_;(with_reducible refine(eP.calls k2 (dL bA aD j5) HT false _ sF.out).mono ?_);rintro e mL ⟨YD,rfl,ho0,hb⟩;refine⟨_,rfl, ?_⟩;have qS:=Ah (Kd.bD ho0 (bJ (aM HB ig)));replace eE:=nb eE hb;replace HB:=Ah (aJ (aM HB ig) hb);(try clear hb ho0)))
      go_ret
      exact⟨er,aM HB ig⟩
     subst jF;rw[if_pos rfl]at H;replace H:=He.mp H;obtain⟨Qe,GV,H⟩:=H
     try dsimp only at H
     have Ho:=Ah GV;clear GV
     by_cases c24:Qe=true
     rotate_left
     ·
      replace c24:=dW.mpr c24;subst c24;rw[if_neg cg]at H;obtain rfl:=fl H;have sB:0≤(j5:Int):=od;have sC:j5<(aD.length:Int):=od;obtain⟨Wd,HU,r7⟩:=Kd.lH dr.out j5 sB sC
      cases HU
      replace r7:=(HB.out.cell (I1 w _ r7)).trans r7;replace sB:=eq_true sB;replace sC:=eq_true sC
      go_wp2_with (first|((with_reducible refine ap (f:=31) rfl ?_);refine gL (some 36) rfl rfl Try.func31 (by kernel_rfl) rfl #[.string (dL bA aD j5)] rfl ?_;(with_reducible refine(eP.calls k2 (dL bA aD j5) HT true _ sF.out).mono ?_);rintro e R4 ⟨YD,rfl,ho0,hb⟩;refine⟨_,rfl, ?_⟩;have qS:=Ah (Kd.bD ho0 (bJ (aM HB ig)));replace eE:=nb eE hb;replace HB:=Ah (aJ (aM HB ig) hb);(try clear hb ho0);obtain⟨a2q,a2r,hcz30_2,hcz30_3⟩:=b0 eE;obtain⟨a2s,a2t,hfz30_2,hfz30_3⟩:=b5 eE;obtain⟨iL,iM,zF⟩:=Kd.al qS.out;subst zF)|(go_at_call 32;(with_reducible refine(fo.calls k2 _ _ HT (X.length:Int) false _ ?aE ?aG Ho.out).mono ?_);(case aE=>exact bi qS);(case aG=>exact(Kd.b9 qS.out).2.1);rintro e w32 ⟨rfl,hb⟩;replace qS:=nr qS hb;replace eE:=nb eE hb;replace HB:=Ah (aJ (aM HB ig) hb);(try clear hb)))
      go_ret
      exact⟨er,aM HB ig⟩
     subst c24;rw[if_pos rfl]at H;have H':=Ah H;clear H;have sB:0≤(j5:Int):=od;have sC:j5<(aD.length:Int):=od;obtain⟨Wd,HU,r7⟩:=Kd.lH dr.out j5 sB sC
     cases HU
     replace r7:=(HB.out.cell (I1 w _ r7)).trans r7;replace sB:=eq_true sB;replace sC:=eq_true sC
     go_wp2_with (first|((with_reducible refine ap (f:=31) rfl ?_);refine gL (some 36) rfl rfl Try.func31 (by kernel_rfl) rfl #[.string (dL bA aD j5)] rfl ?_;(with_reducible refine(eP.calls k2 (dL bA aD j5) HT true _ sF.out).mono ?_);rintro e AU ⟨YD,rfl,ho0,hb⟩;refine⟨_,rfl, ?_⟩;have qS:=Ah (Kd.bD ho0 (bJ (aM HB ig)));replace eE:=nb eE hb;replace HB:=Ah (aJ (aM HB ig) hb);(try clear hb ho0);obtain⟨uy,uz,JG,JH⟩:=b0 eE;obtain⟨vA,vB,JI,JJ⟩:=b5 eE;obtain⟨Y7,Y8,Qa⟩:=Kd.al qS.out;subst Qa)|(go_at_call 32;(with_reducible refine(fo.calls k2 _ _ HT (X.length:Int) true _ ?aE ?aG Ho.out).mono ?_);(case aE=>exact bi qS);(case aG=>exact(Kd.b9 qS.out).2.1);rintro e lD ⟨rfl,hb⟩;replace qS:=nr qS hb;replace eE:=nb eE hb;replace HB:=Ah (aJ (aM HB ig) hb);(try clear hb)))
     go_roundg k2
     case measure=>have:=pt.out;have:=jE.out;omega
     case rel=>exact⟨(I0 (j5+1)),e3,H',⟨by have:=pt.out;have:=jE.out;omega⟩,⟨bk eE⟩,⟨aM HB ig⟩⟩
def nx.f(l0:List ByteArray):Option (List ByteArray):=if l0.length*16≤140737488355328 then some l0 else none
set_option maxRecDepth 100000 in
theorem nx.calls(A0:Option Addr)(c0:Nat)(l0:List ByteArray)(r:List ByteArray)(w:World)(hr0:Kd.C Kd.string w A0 l0.length l0)(hc0:l0.length≤c0)(h:nx.f l0=some r):
 Calls t5 19 #[.slice A0 l0.length c0] w fun e w'=>∃bh:Value,e= .returned (bh)∧Kd.R Kd.string 9 w' w.heap.size (fun _=>True) bh r∧Below w.heap.size w w':=by
 have hus:=aat;have huu:∀w,Sem.run t5 (underlying 23) w= .ok (TypeDesc.slice 9) w:=run_underlying hus
 have hee:∀ (w:World) (a:Option Addr) (n c n' c':Nat),(binOp .eql 23 (.slice a n c) (.slice none n' c')).run t5 w= .ok (.bool a.isNone) w:=fun w a n c n' c'=>Lib.run_eql_slice_nil w _ _ a n c n' c' hus
 unfold nx.f at h
 by_cases hl:l0.length*16≤140737488355328
 ·rw[if_pos hl]at h
  obtain rfl:=fl h;have hR:=aC.mk hr0;have hL:=aC.mk hl;clear hr0 h hl
  rcases A0 with _|ad
  ·have h0:l0=[]:=by
    rcases Nat.eq_zero_or_pos l0.length with h0|h0
    ·exact List.eq_nil_of_length_eq_zero h0
    ·obtain⟨ad,h,_⟩:=hR.out.2.2 h0
     cases h
   subst h0
   go_enter Try.func19,Try.ntmps19
   go_wp2
   go_ret
   exact⟨_,rfl,Kd.cQ _ _ _ _ _,pv _ _⟩
  ·go_enter Try.func19,Try.ntmps19
   go_wp2_with (first
    |((with_reducible refine ao (N:=5) rfl ?_);refine Kd.oC Kd.string _ 9 ?hg (N:=5) ?hd (xs:=([]:List ByteArray)) (inner:=[]) (ok:=fun _=>True) (okp:=fun _=>True) ?hr ?hp (fun _ hk=>hk) trivial (pv _ _) (mz _) (by simp) ?_;(case hd=>rfl);(case hg=>rfl);(case hr=>first|(go_simp;done)|(go_simp;rfl));(case hp=>exact(bv.none _ _));intro a9n w4 ob hb gf gX;clear gf gX;have aY:=aC.mk (Kd.bD ob (mz _));have aX:=aC.mk hb;clear ob hb)
    |((with_reducible refine mO (b:= .append) (xs:= #[.tmp 5,.tmp 6]) rfl ?_);at_builtin;refine Kd.wg Kd.string (w0:=w) w.heap.size rfl (.tmp 5) (.tmp 6) 23 9 (.string ⟨#[]⟩) 16 rfl hus ll rfl (by decide) (by omega) a9n ([]:List ByteArray) l0 _ _ _ (fun _=>True) (fun _=>False) rfl rfl ?aO ?aR (fun _ _ h=>h) (fun _ h=>h.elim) ?aF ?aB ?aS ?aL ?_;(case aR=>exact Kd.lI hR.out aX.out);(case aB=>exact aX.out);(case aF=>exact(fun _ _=>trivial));(case aO=>exact aY.out);(case aS=>exact aX.out.size);(case aL=>have:=hL.out;simp only[List.length_nil,Nat.zero_add];omega);intro v394 w6 ho hb hg hat;rw[List.nil_append]at ho;have m0_:=aC.mk ho;have m1_:=aC.mk hb;clear aY aX ho hb hg hat))
   go_ret
   exact⟨_,rfl,m0_.out,m1_.out⟩
 ·rw[if_neg hl]at h
  cases h
def Ad.f(a0:Int)(bC:List Bool):Option (Bool):=if 0≤a0 then(if a0<(bC.length:Int)then(some (dL false bC a0))else(none))else(none)
set_option maxHeartbeats 8000000 in
set_option maxRecDepth 100000 in
theorem Ad.calls(a0:Int)(bW:Nat)(co:Option Addr)(cp:Nat)(bC:List Bool)(r:Bool)(w:World)(ix:Kd.C Kd.bool w co bC.length bC)(iy:bC.length≤cp)(g9:w.heap[bW]?=some (.cells #[.slice co bC.length cp] 29 (0,0)))(h:Ad.f a0 bC=some r):
 Calls t5 44 #[.int .i64 a0,.pointer (some ⟨bW,0,none⟩)] w fun e w'=>e= .returned (.bool r)∧cx w w':=by
 have kz:=Ah ix;have lL:=Ah iy;clear ix iy;have We:=Ah g9;clear g9;have H:(if 0≤a0 then(if a0<(bC.length:Int)then(some (dL false bC a0))else(none))else(none))=some r:=h;clear h
 by_cases c3:0≤a0
 rotate_left
 ·
  rw[if_neg c3]at H;exact absurd H (by simp)
 rw[if_pos c3]at H;have eb:decide (0≤a0)=true:=decide_eq_true c3;clear c3
 by_cases c4:a0<(bC.length:Int)
 rotate_left
 ·
  rw[if_neg c4]at H;exact absurd H (by simp)
 rw[if_pos c4]at H;have fa:decide (a0<(bC.length:Int))=true:=decide_eq_true c4;clear c4;obtain rfl:=fl H;have EJ:w.cell? ⟨bW,0,none⟩=some (.slice co bC.length cp):=(aQ We.out 0).trans rfl;have JV:=Hg We;have Qg:0≤(a0:Int):=od;have Qh:a0<(bC.length:Int):=od;obtain⟨ad632,a9o,hx632_0⟩:=Kd.M9 kz.out a0 Qg Qh
 cases a9o
 replace Qg:=eq_true Qg;replace Qh:=eq_true Qh
 go_enter Try.func44,Try.ntmps44
 go_wp2
 go_ret
 exact⟨e3,by repeat(first|exact cx.refl _|apply cx.step)⟩
def gq.l0:Nat→List ByteArray→List (S64)→Int→Int→List Bool→Option (List ByteArray)
 |0,_,_,_,_,_=>none
 |k+1,x5,iq,dq,iu,N6=>if iu<dq then(if 0≤iu then(if iu<(iq.length:Int)then((Ad.f iu N6).bind fun Qi=>(if Qi=true then(if 0≤((aH iq iu).f0)then(if((aH iq iu).f0)<(x5.length:Int)then(gq.l0 k (x5.set (((aH iq iu).f0):Int).toNat ((aH iq iu).f1)) iq dq (I0 (iu+1)) N6)else(none))else(none))else(gq.l0 k x5 iq dq (I0 (iu+1)) N6)))else(none))else(none))else(some x5)
def gq.f(k:Nat)(X:List ByteArray)(J:List (S64))(bC:List Bool):Option (List ByteArray):=(nx.f X).bind fun Ce=>(gq.l0 k Ce J (J.length:Int) 0 bC)
theorem gq.bg:∀k,(∀y0 y1 y2 y3 y4,a8 (gq.l0 k y0 y1 y2 y3 y4) (gq.l0 (k+1) y0 y1 y2 y3 y4))
 |0=>fun _ _ _ _ _ r h=>by simp[gq.l0]at h
 |k+1=>by
  have bB:=gq.bg k
  ·
   intro y0 y1 y2 y3 y4;unfold gq.l0
   repeat' with_reducible first|exact bB _ _ _ _ _|exact a8.refl _|exact a8.none _|refine a8.ite ?_ ?_|refine a8.bind ?_ (fun _=> ?_)
theorem gq.mono:∀a0 a1 a2 k,a8 (gq.f k a0 a1 a2) (gq.f (k+1) a0 a1 a2):=by
 intro a0 a1 a2 k;have bB:=gq.bg k;unfold gq.f
 repeat' with_reducible first|exact bB _ _ _ _ _|exact a8.refl _|exact a8.none _|refine a8.ite ?_ ?_|refine a8.bind ?_ (fun _=> ?_)
set_option maxHeartbeats 8000000 in
set_option maxRecDepth 100000 in
theorem gq.calls(k:Nat)(ag:Option Addr)(ah:Nat)(X:List ByteArray)(ai:Option Addr)(af:Nat)(J:List (S64))(bW:Nat)(co:Option Addr)(cp:Nat)(bC:List Bool)(r:List ByteArray)(w:World)(dG:Kd.C Kd.string w ag X.length X)(dH:X.length≤ah)(dI:Kd.C bS w ai J.length J)(dJ:J.length≤af)(ix:Kd.C Kd.bool w co bC.length bC)(iy:bC.length≤cp)(g9:w.heap[bW]?=some (.cells #[.slice co bC.length cp] 29 (0,0)))(h:gq.f k X J bC=some r):
 Calls t5 24 #[.agg #[.slice ag X.length ah,.slice ai J.length af],.func (.func 44) #[] #[.pointer (some ⟨bW,0,none⟩)]] w fun e w'=>∃bh:Value,e= .returned (bh)∧Kd.R Kd.string 9 w' w.heap.size (fun _=>True) bh r∧Below w.heap.size w w':=by
 have kj:=aae;have hu64:=aah;have cN:=Ah dG;have cR:=Ah dH;clear dG dH;have cI:=Ah dI;have ca:=Ah dJ;clear dI dJ;have kz:=Ah ix;have lL:=Ah iy;clear ix iy;have iK:=Ah g9;clear g9;have HB:=Ah (pv w.heap.size w);have H:((nx.f X).bind fun Ce=>(gq.l0 k Ce J (J.length:Int) 0 bC))=some r:=h;clear h;replace H:=He.mp H;obtain⟨Ce,de,H⟩:=H
 try dsimp only at H
 have A3:=Ah de;clear de;have H':=Ah H;clear H
 go_enter Try.func24,Try.ntmps24
 go_wp2_with (first|((with_reducible refine ao (N:=2) rfl ?_);refine az 2 26 #[.slice ag X.length ah,.slice ai J.length af] ?_;intro Fr hg w4 ii hb;have GW634:=gw hg (bs HB);have nT:=gw hg (bs HB);replace HB:=Ah (aJ (bs HB) hb);have Zq:=Ah ((by rw[hg];exact aam (gR (g:=bW) (o:= .cells #[.slice co bC.length cp] 29 (0,0)) (bk iK)):bW≠Fr));have Zr:=Ah ((by rw[hg];exact aao (gR (g:=bW) (o:= .cells #[.slice co bC.length cp] 29 (0,0)) (bk iK)):Fr≠bW));replace iK:=Ah (dF (g:=bW) (o:= .cells #[.slice co bC.length cp] 29 (0,0)) (bk iK) hb);clear hb hg;have a72:=Zr.out;have a73:=Zq.out;obtain⟨xx,BT⟩:=bN ii;obtain⟨BV,BU⟩:=bI ii)|((with_reducible refine ap (f:=19) rfl ?_);refine gL (some 10) rfl rfl Try.func19 (by kernel_rfl) rfl #[.slice ag X.length ah] rfl ?_;(with_reducible refine(nx.calls _ _ X Ce _ ?aE ?aG A3.out).mono ?_);(case aE=>exact cb cN HB);(case aG=>exact cR.out);rintro e w7 ⟨Qj,rfl,ho0,hb⟩;refine⟨_,rfl, ?_⟩;have a6u:=Ah (Kd.bD ho0 (bJ (aM HB nT)));replace iK:=Ah (dF (g:=bW) (o:= .cells #[.slice co bC.length cp] 29 (0,0)) (bk iK) hb);replace ii:=nb ii hb;replace HB:=Ah (aJ (aM HB nT) hb);(try clear hb ho0);obtain⟨qN,qO⟩:=bN ii;obtain⟨r8,qP⟩:=bI ii))
 go_loopg [14] k (fun kq v14 w'=>∃ (bd:List ByteArray) (bu:Int),v14= .int .i64 bu∧aC (gq.l0 kq bd J (J.length:Int) bu bC=some r)∧aC (kq≤k)∧aC (Kd.R Kd.string 9 w' w.heap.size (fun _=>True) Qj bd)∧aC (w'.heap[bW]?=some (.cells #[(.slice co bC.length cp)] 29 (0,0)))∧aC (w'.heap[Fr]?=some (.cells #[(.slice ag X.length ah),(.slice ai J.length af)] 26 (0,0)))∧aC (Below w.heap.size w w'))
 case atStart=>exact⟨(Ce),(0),e3,H',⟨mz _⟩,⟨rr a6u.out⟩,⟨bk iK⟩,⟨bk ii⟩,⟨aM HB nT⟩⟩
 case round=>
  clear H'
  try clear c1
  try clear hx1
  try clear c2
  try clear p2
  try clear c5
  try clear xx BT
  try clear qN qO
  try clear BV BU
  try clear r8 qP
  try clear g9
  obtain⟨bd,bu,rfl,HA,bY,bH,iK,ii,HB⟩:=hrel
  cases gk with
  |zero=>exact absurd HA.out (by simp[gq.l0])
  |succ k1=>
   have H:=HA.out;clear HA;simp only[gq.l0]at H
   by_cases c9:bu<(J.length:Int)
   rotate_left
   ·
    rw[if_neg c9]at H;have qU:decide (bu<(J.length:Int))=false:=decide_eq_false c9;clear c9;obtain rfl:=fl H
    go_wp2
    go_ret
    exact⟨_,er,by(with_reducible repeat(first|apply Kd.aw|apply Kd.ax|apply Kd.aa));exact bH.out,aM HB nT⟩
   rw[if_pos c9]at H;have qU:decide (bu<(J.length:Int))=true:=decide_eq_true c9;clear c9
   by_cases c10:0≤bu
   rotate_left
   ·
    rw[if_neg c10]at H;exact absurd H (by simp)
   rw[if_pos c10]at H;have yM:decide (0≤bu)=true:=decide_eq_true c10;clear c10
   by_cases c11:bu<(J.length:Int)
   rotate_left
   ·
    rw[if_neg c11]at H;exact absurd H (by simp)
   rw[if_pos c11]at H;have yO:decide (bu<(J.length:Int))=true:=decide_eq_true c11;clear c11;replace H:=He.mp H;obtain⟨Qi,GY,H⟩:=H
   try dsimp only at H
   have Hp:=Ah GY;clear GY
   by_cases c13:Qi=true
   rotate_left
   ·
    replace c13:=dW.mpr c13;subst c13;rw[if_neg cg]at H;have H':=Ah H;clear H;have AI:0≤(bu:Int):=od;have AJ:bu<(J.length:Int):=od;obtain⟨Oq,Qk,xm,xn⟩:=g8 cI.out bu AI AJ
    cases Qk
    replace xm:=(HB.out.cell (I1 w _ xm)).trans xm;replace xn:=(HB.out.cell (I1 w _ xn)).trans xn;replace AI:=eq_true AI;replace AJ:=eq_true AJ
    go_wp2_with (first|((with_reducible refine ao (N:=7) rfl ?_);refine az 7 64 #[.int .i64 0,.string (⟨#[]⟩:ByteArray)] ?_;intro pc hg AU lp hb;replace bH:=nr bH hb;have a6v:=gw hg (aM HB nT);have Bx:=gw hg (aM HB nT);replace HB:=Ah (aJ (aM HB nT) hb);have xB:=Ah ((by rw[hg];exact aam (gR (g:=bW) (o:= .cells #[.slice co bC.length cp] 29 (0,0)) (bk iK)):bW≠pc));have Lu:=Ah ((by rw[hg];exact aao (gR (g:=bW) (o:= .cells #[.slice co bC.length cp] 29 (0,0)) (bk iK)):pc≠bW));replace iK:=Ah (dF (g:=bW) (o:= .cells #[.slice co bC.length cp] 29 (0,0)) (bk iK) hb);have DS:=nn ii hg;have Lv:=nm ii hg;replace ii:=nb ii hb;clear hb hg;have Jg:=Lu.out;have Jh:=xB.out;have ET:=Lv.out;have EU:=DS.out;obtain⟨Dk,Ib⟩:=bN lp;obtain⟨Dl,Ic⟩:=bI lp)|((with_reducible refine qA (t:=19) rfl ?_);refine qL (some 21) rfl rfl Try.func44 (by kernel_rfl) rfl #[.int .i64 bu,.pointer (some ⟨bW,0,none⟩)] rfl rfl (by(try simp only[aab,aad,aaf]);first|done|rfl|(simp only[qh,bx];rfl)) ?_;(with_reducible refine(Ad.calls bu bW co cp bC false _ ?aE ?aG ?aZ Hp.out).mono ?_);(case aE=>exact Kd.lI kz.out (aW HB nT Bx));(case aG=>exact lL.out);(case aZ=>(with_reducible repeat(first|refine a9 ?_ _|refine U ?_|refine Z ?_ _));refine cS ?_ xB.out _;(with_reducible repeat(first|refine a9 ?_ _|refine U ?_|refine Z ?_ _));refine cS ?_ xB.out _;(with_reducible repeat(first|refine a9 ?_ _|refine U ?_|refine Z ?_ _));exact iK.out);rintro e w' ⟨rfl,⟨nd,rfl⟩⟩;refine⟨_,rfl, ?_⟩))
    go_roundg k1
    case measure=>have:=bY.out;omega
    case rel=>exact⟨(bd),(I0 (bu+1)),e3,H',⟨by have:=bY.out;omega⟩,⟨by(with_reducible repeat(first|apply Kd.aw|apply Kd.ax|apply Kd.aa));exact Kd.aK (Kd.aA (p:=⟨pc,1,none⟩) (Kd.aA (p:=⟨pc,0,none⟩) (Kd.b7 bH.out lp.out (by decide)) (fun _ hk=>hk.2) (.int .i64 ((aH J bu).f0))) (fun _ hk=>hk.2) (.string ((aH J bu).f1))) (fun _ hk=>trivial)⟩,⟨bf iK xB⟩,⟨bf ii DS⟩,⟨aW HB nT Bx⟩⟩
   subst c13;rw[if_pos rfl]at H
   by_cases c14:0≤((aH J bu).f0)
   rotate_left
   ·
    rw[if_neg c14]at H;exact absurd H (by simp)
   rw[if_pos c14]at H;have Ea:decide (0≤((aH J bu).f0))=true:=decide_eq_true c14;clear c14
   by_cases c15:((aH J bu).f0)<(bd.length:Int)
   rotate_left
   ·
    rw[if_neg c15]at H;exact absurd H (by simp)
   rw[if_pos c15]at H;have Nm:decide (((aH J bu).f0)<(bd.length:Int))=true:=decide_eq_true c15;clear c15;obtain⟨Ql,Fs⟩:∃y_:List ByteArray,y_=(bd.set (((aH J bu).f0):Int).toNat ((aH J bu).f1)):=⟨_,rfl⟩
   replace H:(gq.l0 k1 Ql J (J.length:Int) (I0 (bu+1)) bC)=some r:=by first|(rw[Fs];with_reducible exact H)|(have ak:=(Ok _ _).symm.trans H;rw[Fs];with_reducible exact ak)|(have ak:=(Ok _ _).symm.trans H;with_reducible exact ak)|with_reducible exact H|(rw[Fs];exact H)|exact H
   have a6w:=Ah Fs;clear Fs;have H':=Ah H;clear H;have AI:0≤(bu:Int):=od;have AJ:bu<(J.length:Int):=od;obtain⟨Oq,Qk,xm,xn⟩:=g8 cI.out bu AI AJ
   cases Qk
   replace xm:=(HB.out.cell (I1 w _ xm)).trans xm;replace xn:=(HB.out.cell (I1 w _ xn)).trans xn;replace AI:=eq_true AI;replace AJ:=eq_true AJ
   go_wp2_with (first|((with_reducible refine ao (N:=7) rfl ?_);refine az 7 64 #[.int .i64 0,.string (⟨#[]⟩:ByteArray)] ?_;intro pc hg uZ lp hb;replace bH:=nr bH hb;have a6v:=gw hg (aM HB nT);have Bx:=gw hg (aM HB nT);replace HB:=Ah (aJ (aM HB nT) hb);have xB:=Ah ((by rw[hg];exact aam (gR (g:=bW) (o:= .cells #[.slice co bC.length cp] 29 (0,0)) (bk iK)):bW≠pc));have Lu:=Ah ((by rw[hg];exact aao (gR (g:=bW) (o:= .cells #[.slice co bC.length cp] 29 (0,0)) (bk iK)):pc≠bW));replace iK:=Ah (dF (g:=bW) (o:= .cells #[.slice co bC.length cp] 29 (0,0)) (bk iK) hb);have DS:=nn ii hg;have Lv:=nm ii hg;replace ii:=nb ii hb;clear hb hg;have Wf:=Lu.out;have Wg:=xB.out;have Nc:=Lv.out;have Nd:=DS.out;obtain⟨xP,xQ⟩:=bN lp;obtain⟨ut,uu⟩:=bI lp)|((with_reducible refine t8 (t:=64) (p:=7) rfl ?_);refine t7 (t:=64) (p:=7) (v:= ?vo_w21) (w1:=((uZ.setCell ⟨pc,0,none⟩ (.int .i64 ((aH J bu).f0))).setCell ⟨pc,1,none⟩ (.string ((aH J bu).f1)))) ?hg ?ho ?hn ?hr ?_;(case ho=>rfl);(case hg=>rfl);(case hn=>rfl);(case hr=>first|(go_simp;done)|(go_simp;rfl));intro ir hw;have aY:aC (Kd.R Kd.string 9 ir w.heap.size (fun _=>True) Qj bd):=⟨(by rw[hw];exact(by(with_reducible repeat(first|apply Kd.aw|apply Kd.ax|apply Kd.aa));exact Kd.aK (Kd.aA (p:=⟨pc,1,none⟩) (Kd.aA (p:=⟨pc,0,none⟩) (Kd.b7 bH.out lp.out (by decide)) (fun _ hk=>hk.2) (.int .i64 ((aH J bu).f0))) (fun _ hk=>hk.2) (.string ((aH J bu).f1))) (fun _ hk=>trivial)))⟩;have aX:aC (ir.heap[bW]?=some (.cells #[.slice co bC.length cp] 29 (0,0))):=⟨(by rw[hw];exact(bf iK xB))⟩;have ae:aC (ir.heap[Fr]?=some (.cells #[.slice ag X.length ah,.slice (some Oq) J.length af] 26 (0,0))):=⟨(by rw[hw];exact(bf ii DS))⟩;have aq:aC (ir.heap[pc]?=some (.cells #[.int .i64 ((aH J bu).f0),.string ((aH J bu).f1)] 64 (0,0))):=⟨(by rw[hw];exact(by(with_reducible repeat(first|refine a9 ?_ _|refine U ?_|refine Z ?_ _));refine aN (cs:= #[.int .i64 ((aH J bu).f0),.string (⟨#[]⟩:ByteArray)]) ?_ 1 _ rfl;(with_reducible repeat(first|refine a9 ?_ _|refine U ?_|refine Z ?_ _));refine aN (cs:= #[.int .i64 0,.string (⟨#[]⟩:ByteArray)]) ?_ 0 _ rfl;(with_reducible repeat(first|refine a9 ?_ _|refine U ?_|refine Z ?_ _));exact lp.out))⟩;have bF:aC (Below w.heap.size w ir):=⟨(by rw[hw];exact(aW HB nT Bx))⟩;clear hw;clear bH;clear iK;clear ii;clear lp;clear HB;have bH:=aY;have iK:=aX;have ii:=ae;have lp:=aq;have HB:=bF;clear aY aX ae aq bF)|((with_reducible refine qA (t:=19) rfl ?_);refine qL (some 21) rfl rfl Try.func44 (by kernel_rfl) rfl #[.int .i64 bu,.pointer (some ⟨bW,0,none⟩)] rfl rfl (by(try simp only[aab,aad,aaf]);first|done|rfl|(simp only[qh,bx];rfl)) ?_;(with_reducible refine(Ad.calls bu bW co cp bC true _ ?aE ?aG ?aZ Hp.out).mono ?_);(case aE=>exact cb kz HB);(case aG=>exact lL.out);(case aZ=>(with_reducible repeat(first|refine a9 ?_ _|refine U ?_|refine Z ?_ _));exact iK.out);rintro e w' ⟨rfl,⟨nd,rfl⟩⟩;refine⟨_,rfl, ?_⟩;(try(rw[D8 ir];generalize iC:World.drewN ir _=ir;have aY:aC (Kd.R Kd.string 9 ir w.heap.size (fun _=>True) Qj bd):=⟨by rw[←iC];exact(rr bH.out)⟩;have aX:aC (ir.heap[bW]?=some (.cells #[.slice co bC.length cp] 29 (0,0))):=⟨by rw[←iC];exact(bk iK)⟩;have ae:aC (ir.heap[Fr]?=some (.cells #[.slice ag X.length ah,.slice (some Oq) J.length af] 26 (0,0))):=⟨by rw[←iC];exact(bk ii)⟩;have aq:aC (ir.heap[pc]?=some (.cells #[.int .i64 ((aH J bu).f0),.string ((aH J bu).f1)] 64 (0,0))):=⟨by rw[←iC];exact(bk lp)⟩;have bF:aC (Below w.heap.size w ir):=⟨by rw[←iC];exact(aW HB nT Bx)⟩;clear bH iK ii lp HB iC;have bH:=aY;have iK:=aX;have ii:=ae;have lp:=aq;have HB:=bF;clear aY aX ae aq bF));obtain⟨qC,qD⟩:=bN lp;obtain⟨qE,qF⟩:=bI lp;have p16:0≤(((aH J bu).f0):Int):=od;have q16:(((aH J bu).f0):Int)<((bd.length:Int):Int):=od;obtain⟨Qm,j9,vx,YE,a9p,cl16,YF⟩:=Kd.JP bH.out (by omega);(first|cases vx|(injection vx with lY AW AX;(first|subst lY|(injection lY with lY;subst lY));subst AX;clear AW));have a9q:=Ah YE;have GG16:=Ah YF;clear YE a9p YF;obtain⟨hx16_0,hf16_0⟩:=Kd.uq (⟨#[]⟩:ByteArray) bH.out (((aH J bu).f0):Int) p16 q16;replace p16:=eq_true p16;replace q16:=eq_true q16;obtain⟨hy23_,hz23_⟩:=Kd.uq (⟨#[]⟩:ByteArray) bH.out (((aH J bu).f0):Int) (od) (od);have Qn:=Kd.JQ bH.out (((aH J bu).f0):Int) ((aH J bu).f1))|((with_reducible refine t8 (t:=9) (p:=27) rfl ?_);refine t7 (t:=9) (p:=27) (v:= ?vo_w24) (w1:=(ir.setCell ⟨Qm,(((aH J bu).f0):Int).toNat,none⟩ (.string ((aH J bu).f1)))) ?hg ?ho ?hn ?hr ?_;(case ho=>rfl);(case hg=>rfl);(case hn=>rfl);(case hr=>first|(go_simp;done)|(go_simp;rfl));intro ks hw;have hg:ir.grownBy ks (some Qm):=(by rw[hw];exact Qn.2);have sI:Kd.R Kd.string 9 ks w.heap.size (fun _=>True) (.slice (some ⟨Qm,0,none⟩) bd.length j9) Ql:=(by rw[hw,a6w.out];exact Qn.1);clear Qn;replace iK:=Ah (fx (g:=bW) (o:= .cells #[.slice co bC.length cp] 29 (0,0)) (bk iK) hg (Kd.fM bH.out iK.out (by decide)));replace ii:=Ah (fx (bk ii) hg (Kd.fM bH.out ii.out (by decide)));replace lp:=Ah (fx (bk lp) hg (Kd.fM bH.out lp.out (by decide)));replace bH:=Ah (sI);replace HB:=Ah ((by rw[hw];exact t9 (HB.out) a9q.out:Below w.heap.size w ks));clear hg hw sI))
   go_roundg k1
   case measure=>have:=bY.out;omega
   case rel=>exact⟨(Ql),(I0 (bu+1)),e3,H',⟨by have:=bY.out;omega⟩,⟨rr bH.out⟩,⟨bk iK⟩,⟨bk ii⟩,⟨aW HB nT Bx⟩⟩
def oo.f(k:Nat)(X:List ByteArray)(J:List (S64))(l1:List Bool):Option (List ByteArray×(List (S64))×Bool):=(fV.f k X J).bind fun HV=>(if HV=true then(if(l1.length:Int)=(J.length:Int)then((gq.f k X J l1).bind fun wS=>(some (wS,([]:List (S64)),true)))else(some (([]:List ByteArray),([]:List (S64)),false)))else(some (([]:List ByteArray),([]:List (S64)),false)))
theorem oo.mono:∀a0 a1 a2 k,a8 (oo.f k a0 a1 a2) (oo.f (k+1) a0 a1 a2):=by
 intro a0 a1 a2 k;unfold oo.f
 repeat' with_reducible first|exact fV.mono _ _ _|exact gq.mono _ _ _ _|exact a8.refl _|exact a8.none _|refine a8.ite ?_ ?_|refine a8.bind ?_ (fun _=> ?_)
set_option maxHeartbeats 8000000 in
set_option maxRecDepth 100000 in
theorem oo.calls(k:Nat)(ag:Option Addr)(ah:Nat)(X:List ByteArray)(ai:Option Addr)(af:Nat)(J:List (S64))(A1:Option Addr)(c1:Nat)(l1:List Bool)(r1:List ByteArray)(r2:List (S64))(r3:Bool)(w:World)(dG:Kd.C Kd.string w ag X.length X)(dH:X.length≤ah)(dI:Kd.C bS w ai J.length J)(dJ:J.length≤af)(hr1:Kd.C Kd.bool w A1 l1.length l1)(hc1:l1.length≤c1)(h:oo.f k X J l1=some (r1,r2,r3)):
 Calls t5 18 #[.agg #[.slice ag X.length ah,.slice ai J.length af],.slice A1 l1.length c1] w fun e w'=>∃bh eA:Value,e= .returned (.tuple #[.agg #[bh,eA],.bool r3])∧Kd.R Kd.string 9 w' w.heap.size (fun _=>True) bh r1∧Kd.R bS 64 w' w.heap.size (fun _=>True) eA r2∧Below w.heap.size w w':=by
 have kj:=aae;have cN:=Ah dG;have cR:=Ah dH;clear dG dH;have cI:=Ah dI;have ca:=Ah dJ;clear dI dJ;have HR1:=Ah hr1;have kr:=Ah hc1;clear hr1 hc1;have HB:=Ah (pv w.heap.size w);have H:((fV.f k X J).bind fun HV=>(if HV=true then(if(l1.length:Int)=(J.length:Int)then((gq.f k X J l1).bind fun wS=>(some (wS,([]:List (S64)),true)))else(some (([]:List ByteArray),([]:List (S64)),false)))else(some (([]:List ByteArray),([]:List (S64)),false))))=some (r1,r2,r3):=h;clear h;replace H:=He.mp H;obtain⟨HV,de,H⟩:=H
 try dsimp only at H
 have A3:=Ah de;clear de
 by_cases c4:HV=true
 rotate_left
 ·
  replace c4:=dW.mpr c4;subst c4;rw[if_neg cg]at H;simp only[fc,oe]at H;obtain⟨rfl,rfl,rfl⟩:=H
  go_enter Try.func18,Try.ntmps18
  go_wp2_with (first|((with_reducible refine ao (N:=2) rfl ?_);(try(refine dM (by rfl) ?_;dsimp only));refine az 2 26 #[.slice ag X.length ah,.slice ai J.length af] ?_;intro Wh hg Hr ew hb;have Wi:=gw hg (bs HB);have iW:=gw hg (bs HB);replace HB:=Ah (aJ (bs HB) hb);clear hb hg)|((with_reducible refine ao (N:=3) rfl ?_);(try(refine dM (by rfl) ?_;dsimp only));refine az 3 29 #[.slice A1 l1.length c1] ?_;intro KU hg w32 ij hb;have Wj:=gw hg (aM HB iW);have lQ:=gw hg (aM HB iW);replace HB:=Ah (aJ (aM HB iW) hb);have DT:=nn ew hg;have DU:=nm ew hg;replace ew:=nb ew hb;clear hb hg)|((with_reducible refine ao (N:=4) rfl ?_);(try(refine dM (by rfl) ?_;dsimp only));refine az 4 26 #[.slice none 0 0,.slice none 0 0] ?_;intro yz hg mL l6 hb;have Wk:=gw hg (aW HB iW lQ);have se:=gw hg (aW HB iW lQ);replace HB:=Ah (aJ (aW HB iW lQ) hb);have DV:=nn ew hg;have DW:=nm ew hg;replace ew:=nb ew hb;have DX:=nn ij hg;have DY:=nm ij hg;replace ij:=nb ij hb;clear hb hg;have hnb34:=DT.out;have hnc34:=DU.out;have a4J:=DV.out;have a4K:=DW.out;obtain⟨a1H,a1I⟩:=bN ew;obtain⟨a1J,a1K⟩:=bI ew)|((with_reducible refine ap (f:=30) rfl ?_);refine gL (some 7) rfl rfl abG (by kernel_rfl) rfl #[.agg #[.slice ag X.length ah,.slice ai J.length af]] rfl ?_;(with_reducible refine(fV.calls k _ _ X _ _ J false _ ?aE ?aG ?aZ ?ab A3.out).mono ?_);(case aE=>exact cb cN HB);(case aG=>exact cR.out);(case aZ=>exact cb cI HB);(case ab=>exact ca.out);rintro e ub ⟨rfl,hb⟩;refine⟨_,rfl, ?_⟩;replace ew:=nb ew hb;replace ij:=nb ij hb;replace l6:=nb l6 hb;replace HB:=Ah (aJ (be HB iW lQ se) hb);(try clear hb);have a5Z:=DY.out;have a50:=DX.out;obtain⟨JA,JB⟩:=bN l6;obtain⟨JC,JD⟩:=bI l6))
  refine bodyPost_ret (gG rfl _ _ yz 26 #[.slice none 0 0,.slice none 0 0] (0,0) _ rfl (by(with_reducible repeat(first|refine a9 ?_ _|refine U ?_|refine Z ?_ _));refine aN (cs:= #[.slice none 0 0,.slice none 0 0]) ?_ 1 _ rfl;(with_reducible repeat(first|refine a9 ?_ _|refine U ?_|refine Z ?_ _));refine aN (cs:= #[.slice none 0 0,.slice none 0 0]) ?_ 0 _ rfl;(with_reducible repeat(first|refine a9 ?_ _|refine U ?_|refine Z ?_ _));exact l6.out) aae rfl (by kernel_rfl)) rfl ?_;exact⟨_,_,er,by first|exact Kd.cQ _ _ _ _ _|exact Kd.cY _ _ _ _ _|exact Kd.cZ _ _ _ _ _|exact Kd.cW _ _ _ _ _|exact Kd.cX _ _ _ _ _,by first|exact Kd.cQ _ _ _ _ _|exact Kd.cY _ _ _ _ _|exact Kd.cZ _ _ _ _ _|exact Kd.cW _ _ _ _ _|exact Kd.cX _ _ _ _ _,be HB iW lQ se⟩
 subst c4;rw[if_pos rfl]at H
 by_cases c5:(l1.length:Int)=(J.length:Int)
 rotate_left
 ·
  rw[if_neg c5]at H;have gz:((l1.length:Int)==(J.length:Int))=false:=beq_eq_false_iff_ne.mpr c5;have Xn:((l1.length:Int) !=(J.length:Int))=true:=bne_iff_ne.mpr c5
  have a9r:(l1.length==J.length)=false:=by first|simpa using c5|(simp at c5⊢;omega)
  simp only[fc,oe]at H;obtain⟨rfl,rfl,rfl⟩:=H
  go_enter Try.func18,Try.ntmps18
  go_wp2_with (first|((with_reducible refine ao (N:=2) rfl ?_);(try(refine dM (by rfl) ?_;dsimp only));refine az 2 26 #[.slice ag X.length ah,.slice ai J.length af] ?_;intro Wh hg np ew hb;have Wi:=gw hg (bs HB);have iW:=gw hg (bs HB);replace HB:=Ah (aJ (bs HB) hb);clear hb hg)|((with_reducible refine ao (N:=3) rfl ?_);(try(refine dM (by rfl) ?_;dsimp only));refine az 3 29 #[.slice A1 l1.length c1] ?_;intro KU hg ir ij hb;have Wj:=gw hg (aM HB iW);have lQ:=gw hg (aM HB iW);replace HB:=Ah (aJ (aM HB iW) hb);have DT:=nn ew hg;have DU:=nm ew hg;replace ew:=nb ew hb;clear hb hg)|((with_reducible refine ao (N:=4) rfl ?_);(try(refine dM (by rfl) ?_;dsimp only));refine az 4 26 #[.slice none 0 0,.slice none 0 0] ?_;intro yz hg pr l6 hb;have Wk:=gw hg (aW HB iW lQ);have se:=gw hg (aW HB iW lQ);replace HB:=Ah (aJ (aW HB iW lQ) hb);have DV:=nn ew hg;have DW:=nm ew hg;replace ew:=nb ew hb;have DX:=nn ij hg;have DY:=nm ij hg;replace ij:=nb ij hb;clear hb hg;have Np:=DT.out;have Nq:=DU.out;have a6x:=DV.out;have a6y:=DW.out;obtain⟨ML,MM⟩:=bN ew;obtain⟨MN,MO⟩:=bI ew)|((with_reducible refine ap (f:=30) rfl ?_);refine gL (some 7) rfl rfl abG (by kernel_rfl) rfl #[.agg #[.slice ag X.length ah,.slice ai J.length af]] rfl ?_;(with_reducible refine(fV.calls k _ _ X _ _ J true _ ?aE ?aG ?aZ ?ab A3.out).mono ?_);(case aE=>exact cb cN HB);(case aG=>exact cR.out);(case aZ=>exact cb cI HB);(case ab=>exact ca.out);rintro e R2 ⟨rfl,hb⟩;refine⟨_,rfl, ?_⟩;replace ew:=nb ew hb;replace ij:=nb ij hb;replace l6:=nb l6 hb;replace HB:=Ah (aJ (be HB iW lQ se) hb);(try clear hb);have ET:=DX.out;have EU:=DY.out;have Dk:=Qz ij;have Dl:=Hg ij;obtain⟨Id,Ie⟩:=bN ew;obtain⟨If,Ig⟩:=bI ew;obtain⟨a2q,a2r⟩:=bN l6;obtain⟨a2s,a2t⟩:=bI l6))
  refine bodyPost_ret (gG rfl _ _ yz 26 #[.slice none 0 0,.slice none 0 0] (0,0) _ rfl (by(with_reducible repeat(first|refine a9 ?_ _|refine U ?_|refine Z ?_ _));refine aN (cs:= #[.slice none 0 0,.slice none 0 0]) ?_ 1 _ rfl;(with_reducible repeat(first|refine a9 ?_ _|refine U ?_|refine Z ?_ _));refine aN (cs:= #[.slice none 0 0,.slice none 0 0]) ?_ 0 _ rfl;(with_reducible repeat(first|refine a9 ?_ _|refine U ?_|refine Z ?_ _));exact l6.out) aae rfl (by kernel_rfl)) rfl ?_;exact⟨_,_,er,by first|exact Kd.cQ _ _ _ _ _|exact Kd.cY _ _ _ _ _|exact Kd.cZ _ _ _ _ _|exact Kd.cW _ _ _ _ _|exact Kd.cX _ _ _ _ _,by first|exact Kd.cQ _ _ _ _ _|exact Kd.cY _ _ _ _ _|exact Kd.cZ _ _ _ _ _|exact Kd.cW _ _ _ _ _|exact Kd.cX _ _ _ _ _,be HB iW lQ se⟩
 rw[if_pos c5]at H;have gz:((l1.length:Int)==(J.length:Int))=true:=beq_iff_eq.mpr c5;have Xn:((l1.length:Int) !=(J.length:Int))=false:=bne_eq_false_iff_eq.mpr c5
 have a9r:(l1.length==J.length)=true:=by first|simpa using c5|(simp at c5⊢;omega)
 clear c5;replace H:=He.mp H;obtain⟨wS,e9,H⟩:=H
 try dsimp only at H
 have A6:=Ah e9;clear e9;simp only[fc,oe]at H;obtain⟨rfl,rfl,rfl⟩:=H
 go_enter Try.func18,Try.ntmps18
 go_wp2_with (first|((with_reducible refine ao (N:=2) rfl ?_);(try(refine dM (by rfl) ?_;dsimp only));refine az 2 26 #[.slice ag X.length ah,.slice ai J.length af] ?_;intro Wh hg w7 ew hb;have Wi:=gw hg (bs HB);have iW:=gw hg (bs HB);replace HB:=Ah (aJ (bs HB) hb);clear hb hg)|((with_reducible refine ao (N:=3) rfl ?_);(try(refine dM (by rfl) ?_;dsimp only));refine az 3 29 #[.slice A1 l1.length c1] ?_;intro KU hg w8 ij hb;have Wj:=gw hg (aM HB iW);have lQ:=gw hg (aM HB iW);replace HB:=Ah (aJ (aM HB iW) hb);have DT:=nn ew hg;have DU:=nm ew hg;replace ew:=nb ew hb;clear hb hg)|((with_reducible refine ao (N:=4) rfl ?_);(try(refine dM (by rfl) ?_;dsimp only));refine az 4 26 #[.slice none 0 0,.slice none 0 0] ?_;intro yz hg w9 l6 hb;have Wk:=gw hg (aW HB iW lQ);have se:=gw hg (aW HB iW lQ);replace HB:=Ah (aJ (aW HB iW lQ) hb);have DV:=nn ew hg;have DW:=nm ew hg;replace ew:=nb ew hb;have DX:=nn ij hg;have DY:=nm ij hg;replace ij:=nb ij hb;clear hb hg;have F3:=DT.out;have F4:=DU.out;have NZ:=DV.out;have Na:=DW.out;obtain⟨tS,tT⟩:=bN ew;obtain⟨sQ,sR⟩:=bI ew)|((with_reducible refine ap (f:=30) rfl ?_);refine gL (some 7) rfl rfl abG (by kernel_rfl) rfl #[.agg #[.slice ag X.length ah,.slice ai J.length af]] rfl ?_;(with_reducible refine(fV.calls k _ _ X _ _ J true _ ?aE ?aG ?aZ ?ab A3.out).mono ?_);(case aE=>exact cb cN HB);(case aG=>exact cR.out);(case aZ=>exact cb cI HB);(case ab=>exact ca.out);rintro e ly ⟨rfl,hb⟩;refine⟨_,rfl, ?_⟩;replace ew:=nb ew hb;replace ij:=nb ij hb;replace l6:=nb l6 hb;replace HB:=Ah (aJ (be HB iW lQ se) hb);(try clear hb);have K1:=DX.out;have K2:=DY.out;have sT:=Qz ij;have sU:=Hg ij;obtain⟨tU,tV⟩:=bN ew;obtain⟨tW,tX⟩:=bI ew)|((with_reducible refine ap (f:=24) rfl ?_);refine gL (some 20) rfl rfl Try.func24 (by kernel_rfl) rfl #[.agg #[.slice ag X.length ah,.slice ai J.length af],.func (.func 44) #[] #[.pointer (some ⟨KU,0,none⟩)]] rfl ?_;(with_reducible refine(gq.calls k _ _ X _ _ J KU A1 c1 l1 wS _ ?aE ?aG ?aZ ?ab ?bT ?bc ?jq A6.out).mono ?_);(case aE=>exact cb cN HB);(case aG=>exact cR.out);(case aZ=>exact cb cI HB);(case ab=>exact ca.out);(case bT=>exact cb HR1 HB);(case bc=>exact kr.out);(case jq=>(with_reducible repeat(first|refine a9 ?_ _|refine U ?_|refine Z ?_ _));exact ij.out);rintro e uZ ⟨v647,rfl,ho0,hb⟩;refine⟨_,rfl, ?_⟩;have Wl:=Ah (Kd.bD ho0 (bJ (be HB iW lQ se)));replace ew:=nb ew hb;replace ij:=nb ij hb;replace l6:=nb l6 hb;replace HB:=Ah (aJ (be HB iW lQ se) hb);(try clear hb ho0);obtain⟨iA,iB,zE⟩:=Kd.al Wl.out;subst zE;obtain⟨qq,qr⟩:=bN l6;obtain⟨qt,qu⟩:=bI l6))
 refine bodyPost_ret (gG rfl _ _ yz 26 #[.slice iA wS.length iB,.slice none 0 0] (0,0) _ rfl (by(with_reducible repeat(first|refine a9 ?_ _|refine U ?_|refine Z ?_ _));refine aN (cs:= #[.slice iA wS.length iB,.slice none 0 0]) ?_ 1 _ rfl;(with_reducible repeat(first|refine a9 ?_ _|refine U ?_|refine Z ?_ _));refine aN (cs:= #[.slice none 0 0,.slice none 0 0]) ?_ 0 _ rfl;(with_reducible repeat(first|refine a9 ?_ _|refine U ?_|refine Z ?_ _));exact l6.out) aae rfl (by kernel_rfl)) rfl ?_;exact⟨_,_,er,by(with_reducible repeat(first|apply Kd.aw|apply Kd.ax|apply Kd.aa));exact Kd.aK (Kd.aA (p:=⟨yz,1,none⟩) (Kd.aA (p:=⟨yz,0,none⟩) (Kd.b7 Wl.out l6.out (by decide)) (fun _ hk=>hk.2) (.slice iA wS.length iB)) (fun _ hk=>hk.2) (.slice none 0 0)) (fun _ hk=>trivial),by first|exact Kd.cQ _ _ _ _ _|exact Kd.cY _ _ _ _ _|exact Kd.cZ _ _ _ _ _|exact Kd.cW _ _ _ _ _|exact Kd.cX _ _ _ _ _,be HB iW lQ se⟩
def ez.j0:Nat→List Bool→Int→Bool→List ByteArray→List (S64)→List ByteArray→Int→Option (List ByteArray×(List (S64))×List ByteArray×Int×Bool)
 |0,_,_,_,_,_,_,_=>none
 |k+1,x1,x2,AV,a2u,a2v,UG,x650003=>if AV=true then(some (([]:List ByteArray),([]:List (S64)),([]:List ByteArray),0,false))else((oo.f k a2u a2v x1).bind fun Ot=>(if Ot.2.2=true then(if 0≤x2 then(if x2≤(UG.length:Int)then((nx.f (UG.take (x2:Int).toNat)).bind fun wT=>(some (Ot.1,Ot.2.1,wT,x2,true)))else(none))else(none))else(some (([]:List ByteArray),([]:List (S64)),([]:List ByteArray),0,false))))
def ez.f(k:Nat)(X:List ByteArray)(J:List (S64))(aD:List ByteArray)(aI:Int)(l1:List Bool)(a2:Int):Option (List ByteArray×(List (S64))×List ByteArray×Int×Bool):=(db.f k X J aD aI).bind fun HW=>(if HW=true then((jH.f a2 aI (aD.length:Int)).bind fun Cf=>(ez.j0 k l1 a2 (!Cf) X J aD aI))else(ez.j0 k l1 a2 true X J aD aI))
theorem ez.bg:∀k,(∀y0 y1 y2 y3 y4 y5 y6,a8 (ez.j0 k y0 y1 y2 y3 y4 y5 y6) (ez.j0 (k+1) y0 y1 y2 y3 y4 y5 y6))
 |0=>fun _ _ _ _ _ _ _ r h=>by simp[ez.j0]at h
 |k+1=>by
  have bB:=ez.bg k
  ·
   intro y0 y1 y2 y3 y4 y5 y6;unfold ez.j0
   repeat' with_reducible first|exact bB _ _ _ _ _ _ _|exact oo.mono _ _ _ _|exact db.mono _ _ _ _ _|exact a8.refl _|exact a8.none _|refine a8.ite ?_ ?_|refine a8.bind ?_ (fun _=> ?_)
theorem ez.mono:∀a0 a1 a2 a3 a4 a5 k,a8 (ez.f k a0 a1 a2 a3 a4 a5) (ez.f (k+1) a0 a1 a2 a3 a4 a5):=by
 intro a0 a1 a2 a3 a4 a5 k;have bB:=ez.bg k;unfold ez.f
 repeat' with_reducible first|exact bB _ _ _ _ _ _ _|exact oo.mono _ _ _ _|exact db.mono _ _ _ _ _|exact a8.refl _|exact a8.none _|refine a8.ite ?_ ?_|refine a8.bind ?_ (fun _=> ?_)
def ez.T6:Bool×List (List Nat×List Nat):=(true,[([],[]),([],[]),([1],[1]),([],[]),([2,3],[2,3]),([4],[4]),([],[]),([0,5,6],[0,5,6]),([7,5,0,1,2,3,4,5,6,7],[7]),([8,0,1,2,3,4,5,6,7,8],[])])
def ez.B6:List Nat:=[0,0,2,0,14,30,0,127,255,511]
theorem ez.wA:fN .any (lh Try.f5 6)=ez.T6:=by kernel_rfl
theorem ez.vI:ji ez.T6.2 ez.B6=true:=by kernel_rfl
set_option maxHeartbeats 8000000 in
set_option maxRecDepth 100000 in
theorem ez.calls(k:Nat)(ag:Option Addr)(ah:Nat)(X:List ByteArray)(ai:Option Addr)(af:Nat)(J:List (S64))(bP:Option Addr)(bQ:Nat)(aD:List ByteArray)(aI:Int)(A1:Option Addr)(c1:Nat)(l1:List Bool)(a2:Int)(r1:List ByteArray)(r2:List (S64))(r3:List ByteArray)(r4:Int)(r5:Bool)(w:World)(dG:Kd.C Kd.string w ag X.length X)(dH:X.length≤ah)(dI:Kd.C bS w ai J.length J)(dJ:J.length≤af)(fp:Kd.C Kd.string w bP aD.length aD)(fq:aD.length≤bQ)(hr1:Kd.C Kd.bool w A1 l1.length l1)(hc1:l1.length≤c1)(h:ez.f k X J aD aI l1 a2=some (r1,r2,r3,r4,r5)):
 Calls Try.prog 5 #[.agg #[.slice ag X.length ah,.slice ai J.length af,.slice bP aD.length bQ,.int .i64 aI],.slice A1 l1.length c1,.int .i64 a2] w fun e w'=>∃bh eA ee:Value,e= .returned (.tuple #[.agg #[bh,eA,ee,.int .i64 r4],.bool r5])∧Kd.R Kd.string 9 w' w.heap.size (fun k_=>some k_≠(ee:Value).ownBlock) bh r1∧Kd.R bS 64 w' w.heap.size (fun _=>True) eA r2∧Kd.R Kd.string 9 w' w.heap.size (fun k_=>some k_≠(bh:Value).ownBlock) ee r3∧Below w.heap.size w w':=by
 have mE:=wd;have kj:=aae;have cN:=Ah dG;have cR:=Ah dH;clear dG dH;have cI:=Ah dI;have ca:=Ah dJ;clear dI dJ;have dr:=Ah fp;have eK:=Ah fq;clear fp fq;have HR1:=Ah hr1;have kr:=Ah hc1;clear hr1 hc1;have HB:=Ah (pv w.heap.size w);have H:((db.f k X J aD aI).bind fun HW=>(if HW=true then((jH.f a2 aI (aD.length:Int)).bind fun Cf=>(ez.j0 k l1 a2 (!Cf) X J aD aI))else(ez.j0 k l1 a2 true X J aD aI)))=some (r1,r2,r3,r4,r5):=h;clear h;have Ab:=Ah H;clear H
 go_enter Try.func5,Try.ntmps5
 go_upto_region 1 with(first|((with_reducible refine ao (N:=3) rfl ?_);(try(refine dM (by rfl) ?_;dsimp only));refine az 3 28 #[.slice ag X.length ah,.slice ai J.length af,.slice bP aD.length bQ,.int .i64 aI] ?_;intro By hg w5 eF hb;have GW649:=gw hg (bs HB);have jR:=gw hg (bs HB);replace HB:=Ah (aJ (bs HB) hb);clear hb hg)|((with_reducible refine ao (N:=6) rfl ?_);(try(refine dM (by rfl) ?_;dsimp only));refine az 6 28 #[.slice none 0 0,.slice none 0 0,.slice none 0 0,.int .i64 0] ?_;intro en hg w6 eZ hb;have GW650:=gw hg (aM HB jR);have kF:=gw hg (aM HB jR);replace HB:=Ah (aJ (aM HB jR) hb);have jK:=nn eF hg;have tH:=nm eF hg;replace eF:=nb eF hb;clear hb hg))
 (try simp only[aaa,JM,jG,kt])
 go_cut [22] (fun v22 wc=>∃ (kq:Nat) (uF:Bool),v22= .bool uF∧aC (ez.j0 kq l1 a2 uF X J aD aI=some (r1,r2,r3,r4,r5))∧aC (kq≤k)∧aC (wc.heap[By]?=some (.cells #[(.slice ag X.length ah),(.slice ai J.length af),(.slice bP aD.length bQ),.int .i64 aI] 28 (0,0)))∧aC (wc.heap[en]?=some (.cells #[(.slice none 0 0),(.slice none 0 0),(.slice none 0 0),.int .i64 0] 28 (0,0)))∧aC (Below w.heap.size w wc))
 case first=>
  have H:=Ab.out;clear Ab;replace H:=He.mp H;obtain⟨HW,jx,H⟩:=H
  try dsimp only at H
  have A7:=Ah jx;clear jx
  by_cases c8:HW=true
  rotate_left
  ·
   replace c8:=dW.mpr c8;subst c8;rw[if_neg cg]at H;have H':=Ah H;clear H;have K1:=jK.out;have K2:=tH.out;obtain⟨sT,tY,BI,BJ⟩:=b0 eF;obtain⟨sU,tZ,BK,BL⟩:=b5 eF
   go_wp2_with (first|((with_reducible refine ap (f:=11) rfl ?_);refine gL (some 11) rfl rfl Try.func11 (by kernel_rfl) rfl #[.agg #[.slice ag X.length ah,.slice ai J.length af,.slice bP aD.length bQ,.int .i64 aI]] rfl ?_;(with_reducible refine(db.calls k _ _ X _ _ J _ _ aD aI false _ ?aE ?aG ?aZ ?ab ?bT ?bc A7.out).mono ?_);(case aE=>exact cb cN HB);(case aG=>exact cR.out);(case aZ=>exact cb cI HB);(case ab=>exact ca.out);(case bT=>exact cb dr HB);(case bc=>exact eK.out);rintro e w16 ⟨rfl,hb⟩;refine⟨_,rfl, ?_⟩;replace eF:=nb eF hb;replace eZ:=nb eZ hb;replace HB:=Ah (aJ (aW HB jR kF) hb);(try clear hb)))
   go_meet
   case rel=>exact⟨_,(true),e3,H',⟨by first|omega|exact mz _⟩,⟨bk eF⟩,⟨bk eZ⟩,⟨aW HB jR kF⟩⟩
  subst c8;rw[if_pos rfl]at H;replace H:=He.mp H;obtain⟨Cf,lE,H⟩:=H
  try dsimp only at H
  have A9:=Ah lE;clear lE;have H':=Ah H;clear H;have F3:=jK.out;have F4:=tH.out;obtain⟨jj,jk,o8,o9⟩:=b0 eF;obtain⟨jl,jm,oA,oB⟩:=b5 eF
  go_wp2_with (first|((with_reducible refine ap (f:=11) rfl ?_);refine gL (some 11) rfl rfl Try.func11 (by kernel_rfl) rfl #[.agg #[.slice ag X.length ah,.slice ai J.length af,.slice bP aD.length bQ,.int .i64 aI]] rfl ?_;(with_reducible refine(db.calls k _ _ X _ _ J _ _ aD aI true _ ?aE ?aG ?aZ ?ab ?bT ?bc A7.out).mono ?_);(case aE=>exact cb cN HB);(case aG=>exact cR.out);(case aZ=>exact cb cI HB);(case ab=>exact ca.out);(case bT=>exact cb dr HB);(case bc=>exact eK.out);rintro e mu ⟨rfl,hb⟩;refine⟨_,rfl, ?_⟩;replace eF:=nb eF hb;replace eZ:=nb eZ hb;replace HB:=Ah (aJ (aW HB jR kF) hb);(try clear hb);obtain⟨la,lc,o4,o5⟩:=b0 eF;obtain⟨ld,lf,o6,o7⟩:=b5 eF)|(go_at_call 17;(with_reducible refine(jH.calls a2 aI (aD.length:Int) Cf _ A9.out).mono ?_);rintro e w' ⟨rfl,⟨nd,rfl⟩⟩))
  go_meet
  case rel=>exact⟨_,(!Cf),e3,H',⟨by first|omega|exact mz _⟩,⟨bk eF⟩,⟨bk eZ⟩,⟨aW HB jR kF⟩⟩
 case rest=>
  clear Ab
  try clear c1
  try clear p2
  try clear c5
  try clear c8
  try clear c10
  try clear c11
  try clear c14
  try clear jj jk o8 o9
  try clear la lc o4 o5
  try clear sT tY BI BJ
  try clear jl jm oA oB
  try clear ld lf o6 o7
  try clear sU tZ BK BL
  obtain⟨kq,uF,rfl,HA,HJ3,eF,eZ,HB⟩:=hcut
  cases kq with
  |zero=>exact absurd HA.out (by simp[ez.j0])
  |succ Hy=>
   have H:=HA.out;clear HA;simp only[ez.j0]at H
   by_cases c17:uF=true
   ·
    subst c17;rw[if_pos rfl]at H;simp only[fc,oe]at H;obtain⟨rfl,rfl,rfl,rfl,rfl⟩:=H;have Wf:=tH.out;have Wg:=jK.out;obtain⟨qq,qr,Du,Dv⟩:=b0 eZ;obtain⟨qt,qu,Dw,Dx⟩:=b5 eZ
    go_wp2
    refine bodyPost_ret (gG rfl _ _ en 28 #[.slice none 0 0,.slice none 0 0,.slice none 0 0,.int .i64 0] (0,0) _ rfl (by(with_reducible repeat(first|refine a9 ?_ _|refine U ?_|refine Z ?_ _));refine aN (cs:= #[.slice none 0 0,.slice none 0 0,.slice none 0 0,.int .i64 0]) ?_ 3 _ rfl;(with_reducible repeat(first|refine a9 ?_ _|refine U ?_|refine Z ?_ _));refine aN (cs:= #[.slice none 0 0,.slice none 0 0,.slice none 0 0,.int .i64 0]) ?_ 2 _ rfl;(with_reducible repeat(first|refine a9 ?_ _|refine U ?_|refine Z ?_ _));refine aN (cs:= #[.slice none 0 0,.slice none 0 0,.slice none 0 0,.int .i64 0]) ?_ 1 _ rfl;(with_reducible repeat(first|refine a9 ?_ _|refine U ?_|refine Z ?_ _));refine aN (cs:= #[.slice none 0 0,.slice none 0 0,.slice none 0 0,.int .i64 0]) ?_ 0 _ rfl;(with_reducible repeat(first|refine a9 ?_ _|refine U ?_|refine Z ?_ _));exact eZ.out) wd rfl (by kernel_rfl)) rfl ?_;exact⟨_,_,_,er,by first|exact Kd.cQ _ _ _ _ _|exact Kd.cY _ _ _ _ _|exact Kd.cZ _ _ _ _ _|exact Kd.cW _ _ _ _ _|exact Kd.cX _ _ _ _ _,by first|exact Kd.cQ _ _ _ _ _|exact Kd.cY _ _ _ _ _|exact Kd.cZ _ _ _ _ _|exact Kd.cW _ _ _ _ _|exact Kd.cX _ _ _ _ _,by first|exact Kd.cQ _ _ _ _ _|exact Kd.cY _ _ _ _ _|exact Kd.cZ _ _ _ _ _|exact Kd.cW _ _ _ _ _|exact Kd.cX _ _ _ _ _,aW HB jR kF⟩
   replace c17:=dW.mpr c17;subst c17;rw[if_neg cg]at H;replace H:=He.mp H;obtain⟨⟨ju,ko,a9s⟩,HX,H⟩:=H
   try dsimp only at H
   have fR:=Ah HX;clear HX
   by_cases c21:a9s=true
   rotate_left
   ·
    replace c21:=dW.mpr c21;subst c21;rw[if_neg cg]at H;simp only[fc,oe]at H;obtain⟨rfl,rfl,rfl,rfl,rfl⟩:=H;have Ur:=jK.out;have Us:=tH.out;obtain⟨E6,Ip,Iq,Ir⟩:=b0 eF;obtain⟨E7,Is,It,Iu⟩:=b5 eF
    go_wp2_with (first|((with_reducible refine ap (f:=18) rfl ?_);refine gL (some 28) rfl rfl Try.func18 (by kernel_rfl) rfl #[.agg #[.slice ag X.length ah,.slice ai J.length af],.slice A1 l1.length c1] rfl ?_;(with_reducible refine(oo.calls Hy _ _ X _ _ J _ _ l1 ju ko false _ ?aE ?aG ?aZ ?ab ?bT ?bc fR.out).mono ?_);(case aE=>exact cb cN HB);(case aG=>exact cR.out);(case aZ=>exact cb cI HB);(case ab=>exact ca.out);(case bT=>exact cb HR1 HB);(case bc=>exact kr.out);rintro e Kz ⟨a9t,a9u,rfl,ho0,ho1,hb⟩;refine⟨_,rfl, ?_⟩;have lR:=Ah (Kd.bD ho0 (bJ (aW HB jR kF)));have lq:=Ah (Kd.bD ho1 (bJ (aW HB jR kF)));replace eF:=nb eF hb;replace eZ:=nb eZ hb;replace HB:=Ah (aJ (aW HB jR kF) hb);(try clear hb ho0 ho1))|((with_reducible refine ao (N:=8) rfl ?_);(try(refine dM (by rfl) ?_;dsimp only));refine az 8 26 #[.slice none 0 0,.slice none 0 0] ?_;intro kG hg L7 kg hb;replace lR:=nr lR hb;replace lq:=nr lq hb;have a6z:=gw hg (aW HB jR kF);have Bz:=gw hg (aW HB jR kF);replace HB:=Ah (aJ (aW HB jR kF) hb);have IL:=nn eF hg;have Lw:=nm eF hg;replace eF:=nb eF hb;have sN:=nn eZ hg;have n9:=nm eZ hg;replace eZ:=nb eZ hb;clear hb hg;obtain⟨Ao47,co47,a9v⟩:=Kd.al lR.out;subst a9v;have W9:=Lw.out;have WA:=IL.out;have Ut:=n9.out;have Uu:=sN.out;obtain⟨TT,TU⟩:=bN kg;obtain⟨TV,TW⟩:=bI kg;obtain⟨a8X,a8Y,QM⟩:=Kd.al lq.out;subst QM;obtain⟨E9,EA,Tp,Tq⟩:=b0 eZ;obtain⟨EB,EC,Tr,Ts⟩:=b5 eZ))
    refine bodyPost_ret (gG rfl _ _ en 28 #[.slice none 0 0,.slice none 0 0,.slice none 0 0,.int .i64 0] (0,0) _ rfl (by(with_reducible repeat(first|refine a9 ?_ _|refine U ?_|refine Z ?_ _));refine aN (cs:= #[.slice none 0 0,.slice none 0 0,.slice none 0 0,.int .i64 0]) ?_ 3 _ rfl;(with_reducible repeat(first|refine a9 ?_ _|refine U ?_|refine Z ?_ _));refine aN (cs:= #[.slice none 0 0,.slice none 0 0,.slice none 0 0,.int .i64 0]) ?_ 2 _ rfl;(with_reducible repeat(first|refine a9 ?_ _|refine U ?_|refine Z ?_ _));refine aN (cs:= #[.slice none 0 0,.slice none 0 0,.slice none 0 0,.int .i64 0]) ?_ 1 _ rfl;(with_reducible repeat(first|refine a9 ?_ _|refine U ?_|refine Z ?_ _));refine aN (cs:= #[.slice none 0 0,.slice none 0 0,.slice none 0 0,.int .i64 0]) ?_ 0 _ rfl;(with_reducible repeat(first|refine a9 ?_ _|refine U ?_|refine Z ?_ _));refine cS ?_ sN.out _;(with_reducible repeat(first|refine a9 ?_ _|refine U ?_|refine Z ?_ _));refine cS ?_ sN.out _;(with_reducible repeat(first|refine a9 ?_ _|refine U ?_|refine Z ?_ _));exact eZ.out) wd rfl (by kernel_rfl)) rfl ?_;exact⟨_,_,_,er,by first|exact Kd.cQ _ _ _ _ _|exact Kd.cY _ _ _ _ _|exact Kd.cZ _ _ _ _ _|exact Kd.cW _ _ _ _ _|exact Kd.cX _ _ _ _ _,by first|exact Kd.cQ _ _ _ _ _|exact Kd.cY _ _ _ _ _|exact Kd.cZ _ _ _ _ _|exact Kd.cW _ _ _ _ _|exact Kd.cX _ _ _ _ _,by first|exact Kd.cQ _ _ _ _ _|exact Kd.cY _ _ _ _ _|exact Kd.cZ _ _ _ _ _|exact Kd.cW _ _ _ _ _|exact Kd.cX _ _ _ _ _,be HB jR kF Bz⟩
   subst c21;rw[if_pos rfl]at H
   by_cases jF:0≤a2
   rotate_left
   ·
    rw[if_neg jF]at H;exact absurd H (by simp)
   rw[if_pos jF]at H;have a6A:=eq_true jF;have a6B:decide (0≤a2)=true:=decide_eq_true jF;clear jF
   by_cases c23:a2≤(aD.length:Int)
   rotate_left
   ·
    rw[if_neg c23]at H;exact absurd H (by simp)
   rw[if_pos c23]at H;have a6C:=eq_true c23;have a6D:decide (a2≤(aD.length:Int))=true:=decide_eq_true c23;clear c23;replace H:=He.mp H;obtain⟨wT,GX,H⟩:=H
   try dsimp only at H
   have L3:=Ah GX;clear GX;simp only[fc,oe]at H;obtain⟨rfl,rfl,rfl,rfl,rfl⟩:=H;have KQ:=jK.out;have KR:=tH.out;obtain⟨uy,uz,JG,JH⟩:=b0 eF;obtain⟨vA,vB,JI,JJ⟩:=b5 eF
   try go_wp2_with (first|((with_reducible refine ap (f:=18) rfl ?_);refine gL (some 28) rfl rfl Try.func18 (by kernel_rfl) rfl #[.agg #[.slice ag X.length ah,.slice ai J.length af],.slice A1 l1.length c1] rfl ?_;(with_reducible refine(oo.calls Hy _ _ X _ _ J _ _ l1 ju ko true _ ?aE ?aG ?aZ ?ab ?bT ?bc fR.out).mono ?_);(case aE=>exact cb cN HB);(case aG=>exact cR.out);(case aZ=>exact cb cI HB);(case ab=>exact ca.out);(case bT=>exact cb HR1 HB);(case bc=>exact kr.out);rintro e Cq ⟨a9t,a9u,rfl,ho0,ho1,hb⟩;refine⟨_,rfl, ?_⟩;have lR:=Ah (Kd.bD ho0 (bJ (aW HB jR kF)));have lq:=Ah (Kd.bD ho1 (bJ (aW HB jR kF)));replace eF:=nb eF hb;replace eZ:=nb eZ hb;replace HB:=Ah (aJ (aW HB jR kF) hb);(try clear hb ho0 ho1))|((with_reducible refine ao (N:=8) rfl ?_);(try(refine dM (by rfl) ?_;dsimp only));refine az 8 26 #[.slice none 0 0,.slice none 0 0] ?_;intro kG hg lD kg hb;replace lR:=nr lR hb;replace lq:=nr lq hb;have a6z:=gw hg (aW HB jR kF);have Bz:=gw hg (aW HB jR kF);replace HB:=Ah (aJ (aW HB jR kF) hb);have IL:=nn eF hg;have Lw:=nm eF hg;replace eF:=nb eF hb;have sN:=nn eZ hg;have n9:=nm eZ hg;replace eZ:=nb eZ hb;clear hb hg;obtain⟨cd,ce,zy⟩:=Kd.al lR.out;subst zy;have KM:=Lw.out;have KN:=IL.out;have Oa:=n9.out;have Ob:=sN.out;obtain⟨Dy,Dz⟩:=bN kg;obtain⟨E0,E1⟩:=bI kg;obtain⟨dR,dS,HI⟩:=Kd.al lq.out;subst HI))
   have aY:aC (Kd.R Kd.string 9 ((lD.setCell ⟨kG,0,none⟩ (.slice cd ju.length ce)).setCell ⟨kG,1,none⟩ (.slice dR ko.length dS)) w.heap.size (fun _=>True) (.slice cd ju.length ce) ju):=⟨by(with_reducible repeat(first|apply Kd.aw|apply Kd.ax|apply Kd.aa));exact Kd.aK (Kd.aA (p:=⟨kG,1,none⟩) (Kd.aA (p:=⟨kG,0,none⟩) (Kd.b7 lR.out kg.out (by decide)) (fun _ hk=>hk.2) (.slice cd ju.length ce)) (fun _ hk=>hk.2) (.slice dR ko.length dS)) (fun _ hk=>trivial)⟩;have aX:aC (Kd.R bS 64 ((lD.setCell ⟨kG,0,none⟩ (.slice cd ju.length ce)).setCell ⟨kG,1,none⟩ (.slice dR ko.length dS)) w.heap.size (fun _=>True) (.slice dR ko.length dS) ko):=⟨by(with_reducible repeat(first|apply Kd.aw|apply Kd.ax|apply Kd.aa));exact Kd.aK (Kd.aA (p:=⟨kG,1,none⟩) (Kd.aA (p:=⟨kG,0,none⟩) (Kd.b7 lq.out kg.out (by decide)) (fun _ hk=>hk.2) (.slice cd ju.length ce)) (fun _ hk=>hk.2) (.slice dR ko.length dS)) (fun _ hk=>trivial)⟩;have ae:aC (((lD.setCell ⟨kG,0,none⟩ (.slice cd ju.length ce)).setCell ⟨kG,1,none⟩ (.slice dR ko.length dS)).heap[By]?=some (.cells #[.slice ag X.length ah,.slice ai J.length af,.slice bP aD.length bQ,.int .i64 aI] 28 (0,0))):=⟨bf eF IL⟩;have aq:aC (((lD.setCell ⟨kG,0,none⟩ (.slice cd ju.length ce)).setCell ⟨kG,1,none⟩ (.slice dR ko.length dS)).heap[en]?=some (.cells #[.slice none 0 0,.slice none 0 0,.slice none 0 0,.int .i64 0] 28 (0,0))):=⟨bf eZ sN⟩;have bF:aC (((lD.setCell ⟨kG,0,none⟩ (.slice cd ju.length ce)).setCell ⟨kG,1,none⟩ (.slice dR ko.length dS)).heap[kG]?=some (.cells #[.slice cd ju.length ce,.slice dR ko.length dS] 26 (0,0))):=⟨by(with_reducible repeat(first|refine a9 ?_ _|refine U ?_|refine Z ?_ _));refine aN (cs:= #[.slice cd ju.length ce,.slice none 0 0]) ?_ 1 _ rfl;(with_reducible repeat(first|refine a9 ?_ _|refine U ?_|refine Z ?_ _));refine aN (cs:= #[.slice none 0 0,.slice none 0 0]) ?_ 0 _ rfl;(with_reducible repeat(first|refine a9 ?_ _|refine U ?_|refine Z ?_ _));exact kg.out⟩;have bO:aC (Below w.heap.size w ((lD.setCell ⟨kG,0,none⟩ (.slice cd ju.length ce)).setCell ⟨kG,1,none⟩ (.slice dR ko.length dS))):=⟨be HB jR kF Bz⟩;(try clear lR);(try clear lq);(try clear eF);(try clear eZ);(try clear kg);(try clear HB)
   generalize ((lD.setCell ⟨kG,0,none⟩ (.slice cd ju.length ce)).setCell ⟨kG,1,none⟩ (.slice dR ko.length dS))=Hu at aY aX ae aq bF bO⊢
   have lR:=aY;have lq:=aX;have eF:=ae;have eZ:=aq;have kg:=bF;have HB:=bO;clear aY aX ae aq bF bO;have aY:=Ah (Kd.aa lR.out);have aX:=Ah (Kd.aa lq.out);have ae:=Ah (U eF.out);have aq:=Ah (U eZ.out);have bF:=Ah (U kg.out);have bO:=Ah (ia HB.out);clear lR lq eF eZ kg HB;have lR:=aY;have lq:=aX;have eF:=ae;have eZ:=aq;have kg:=bF;have HB:=bO;clear aY aX ae aq bF bO;obtain⟨Xw,vZ,_,vk,_⟩:=info_parts ll;obtain⟨UZ,wM,wN⟩:=Ae (P:=t5) Value.string (⟨#[]⟩:ByteArray) 23 9 .i64 aat vZ vk bP bQ aD a2 (od) (od) eK.out;have Wm:=Ah (Kd.wj (h1:=fun _=>rfl) (wM _ (Kd.sM dr.out)));have a6E:=Ah wN;clear wM wN vZ vk;refine k9 (n:=10) (S:=fun w'=>w'.cell? ⟨kG,0,none⟩=some (.slice cd ju.length ce)∧w'.cell? ⟨kG,1,none⟩=some (.slice dR ko.length dS)∧w'.cell? ⟨By,0,none⟩=some (.slice ag X.length ah)∧w'.cell? ⟨By,1,none⟩=some (.slice ai J.length af)∧w'.cell? ⟨By,2,none⟩=some (.slice bP aD.length bQ)∧w'.cell? ⟨By,3,none⟩=some (.int .i64 aI)) (ds:=[]) #[false,false,false,false,false,false,false,false,false,false] (by kernel_rfl) rfl rfl ⟨(aQ kg.out 0).trans rfl,(aQ kg.out 1).trans rfl,(aQ eF.out 0).trans rfl,(aQ eF.out 1).trans rfl,(aQ eF.out 2).trans rfl,(aQ eF.out 3).trans rfl⟩ (fun hHeld=> ?_);refine kS ez.wA ez.vI (fun aU dT=> ?_)
   generalize Hu.drew=Hh at lR lq eF eZ kg HB Wm hHeld⊢
   refine b8 1 35 aU.out ?_;refine b8 3 37 aU.out ?_;refine b8 6 40 aU.out ?_;refine fZ 0 34 aU.out dT.out hHeld (hr:=by rintro w' ⟨s0,s1,s2,s3,s4,s5⟩;go_simp;with_reducible rfl) (h:= ?_);refine fZ 2 36 aU.out dT.out hHeld (hr:=by rintro w' ⟨s0,s1,s2,s3,s4,s5⟩;go_simp;with_reducible rfl) (h:= ?_);refine b8 4 38 aU.out ?_;refine e5 (i:=5) (N:=some 39) #[true,true,true,true,true,true,true,false,false,false] rfl rfl (dz aU.out (by kernel_rfl)) (by decide) (fun K hK=> ?_);refine iw Try.func19 (by kernel_rfl) rfl #[.slice bP (aD.take (a2:Int).toNat).length bQ] (by rfl) rfl rfl (by(try simp only[List.map_toArray,List.map_cons,List.map_nil]);first|done|(rw[show(aD.take (a2:Int).toNat).length=a2.toNat from(by rw[List.length_take];have h_:(a2:Int)≤(aD.length:Int):=od;omega)]<;>rfl)|rfl|(simp only[List.length_drop,List.length_take];rfl)) ?_
   with_reducible refine(nx.calls _ _ (aD.take (a2:Int).toNat) wT _ ?aE ?aG L3.out).mono ?_
   (case aE=>exact cb Wm HB);(case aG=>exact a6E.out);rintro e ub ⟨v663,rfl,ho0,hb⟩;refine⟨_,rfl, ?_⟩;have aY:=Ah (Kd.cV (rr lR.out) (Kd.ar ho0) hb);have aX:=Ah (Kd.eD (rr lq.out) hb);have ae:=Ah (Kd.bD (Kd.av ho0 (Kd.an (rr lR.out))) (bJ (be HB jR kF Bz)));have aq:=Ah (bb eF hb);have bF:=Ah (bb eZ hb);have bO:=Ah (bb kg hb);have bl:=Ah (aJ (be HB jR kF Bz) hb);clear lR lq eF eZ kg HB;have lR:=aY;have lq:=aX;have Wn:=ae;have eF:=aq;have eZ:=bF;have kg:=bO;have HB:=bl;clear aY aX ae aq bF bO bl;(try clear hb);(try clear hb2);(try clear hk);(try clear hi);(try clear ho0);obtain⟨gb,gc,wD⟩:=Kd.al Wn.out;(first|subst wD|(injection wD with dU fS dV;have fT:=dU.symm;have fU:=dV.symm;clear dU fS dV;subst fT;subst fU));refine hK.out _ _ ⟨(aQ kg.out 0).trans rfl,(aQ kg.out 1).trans rfl,(aQ eF.out 0).trans rfl,(aQ eF.out 1).trans rfl,(aQ eF.out 2).trans rfl,(aQ eF.out 3).trans rfl⟩ (fun hHeld=> ?_);clear hK K;refine ej (a':= ?_) ?_ ?_;rotate_left
   ·
    show aaa _ (some 39) _=_
    simp only[aaa,JM,jG,kt,dD,dP]
    rfl
   refine b8 7 41 aU.out ?_;refine e5 (i:=8) (N:=none) #[true,true,true,true,true,true,true,true,true,false] rfl rfl (dz aU.out (by kernel_rfl)) (by decide) (fun K hK=> ?_);have hs39:ub.cell? ⟨en,0,none⟩=some (.slice none 0 0):=(aQ eZ.out 0).trans rfl;have hfs39:=d5 eZ.out 0;have hns39_0:=jK.out;have hns39_2:=n9.out;have hms39_0:=tH.out;have hms39_2:=sN.out;have hs40:ub.cell? ⟨en,1,none⟩=some (.slice none 0 0):=(aQ eZ.out 1).trans rfl;have hfs40:=d5 eZ.out 1;have hns40_0:=jK.out;have hns40_2:=n9.out;have hms40_0:=tH.out;have hms40_2:=sN.out;have Xx:ub.cell? ⟨en,2,none⟩=some (.slice none 0 0):=(aQ eZ.out 2).trans rfl;have WV:=d5 eZ.out 2;have U6:=jK.out;have U7:=n9.out;have U8:=tH.out;have U9:=sN.out;have QQ:ub.cell? ⟨en,3,none⟩=some (.int .i64 0):=(aQ eZ.out 3).trans rfl;have Of:=d5 eZ.out 3;have UA:=jK.out;have UB:=n9.out;have UC:=tH.out;have UD:=sN.out;refine pJ (w1:= ?_) (by rfl) rfl ?_ ?_;rotate_left
   ·
    go_simp
    rfl
   refine hK.out _ _ ⟨((ay (p:=⟨en,_,none⟩) n9.out _).trans (((ay (p:=⟨en,_,none⟩) n9.out _).trans (((ay (p:=⟨en,_,none⟩) n9.out _).trans (((ay (p:=⟨en,_,none⟩) n9.out _).trans (hHeld.1)))))))),((ay (p:=⟨en,_,none⟩) n9.out _).trans (((ay (p:=⟨en,_,none⟩) n9.out _).trans (((ay (p:=⟨en,_,none⟩) n9.out _).trans (((ay (p:=⟨en,_,none⟩) n9.out _).trans (hHeld.2.1)))))))),((ay (p:=⟨en,_,none⟩) jK.out _).trans (((ay (p:=⟨en,_,none⟩) jK.out _).trans (((ay (p:=⟨en,_,none⟩) jK.out _).trans (((ay (p:=⟨en,_,none⟩) jK.out _).trans (hHeld.2.2.1)))))))),((ay (p:=⟨en,_,none⟩) jK.out _).trans (((ay (p:=⟨en,_,none⟩) jK.out _).trans (((ay (p:=⟨en,_,none⟩) jK.out _).trans (((ay (p:=⟨en,_,none⟩) jK.out _).trans (hHeld.2.2.2.1)))))))),((ay (p:=⟨en,_,none⟩) jK.out _).trans (((ay (p:=⟨en,_,none⟩) jK.out _).trans (((ay (p:=⟨en,_,none⟩) jK.out _).trans (((ay (p:=⟨en,_,none⟩) jK.out _).trans (hHeld.2.2.2.2.1)))))))),((ay (p:=⟨en,_,none⟩) jK.out _).trans (((ay (p:=⟨en,_,none⟩) jK.out _).trans (((ay (p:=⟨en,_,none⟩) jK.out _).trans (((ay (p:=⟨en,_,none⟩) jK.out _).trans (hHeld.2.2.2.2.2))))))))⟩ (fun hHeld=> ?_);clear hK K;refine b8 9 7 aU.out ?_;refine jp (k7 aU.out (by kernel_rfl)) ?_
   try go_wp2
   refine bodyPost_ret (gG rfl _ _ en 28 #[.slice cd ju.length ce,.slice dR ko.length dS,.slice gb wT.length gc,.int .i64 a2] (0,0) _ rfl (by(with_reducible repeat(first|refine a9 ?_ _|refine U ?_|refine Z ?_ _));refine aN (cs:= #[.slice cd ju.length ce,.slice dR ko.length dS,.slice gb wT.length gc,.int .i64 0]) ?_ 3 _ rfl;(with_reducible repeat(first|refine a9 ?_ _|refine U ?_|refine Z ?_ _));refine aN (cs:= #[.slice cd ju.length ce,.slice dR ko.length dS,.slice none 0 0,.int .i64 0]) ?_ 2 _ rfl;(with_reducible repeat(first|refine a9 ?_ _|refine U ?_|refine Z ?_ _));refine aN (cs:= #[.slice cd ju.length ce,.slice none 0 0,.slice none 0 0,.int .i64 0]) ?_ 1 _ rfl;(with_reducible repeat(first|refine a9 ?_ _|refine U ?_|refine Z ?_ _));refine aN (cs:= #[.slice none 0 0,.slice none 0 0,.slice none 0 0,.int .i64 0]) ?_ 0 _ rfl;(with_reducible repeat(first|refine a9 ?_ _|refine U ?_|refine Z ?_ _));exact eZ.out) wd rfl (by kernel_rfl)) rfl ?_;exact⟨_,_,_,er,by(with_reducible repeat(first|apply Kd.aw|apply Kd.ax|apply Kd.aa));exact Kd.aK (Kd.aA (p:=⟨en,3,none⟩) (Kd.aA (p:=⟨en,2,none⟩) (Kd.aA (p:=⟨en,1,none⟩) (Kd.aA (p:=⟨en,0,none⟩) (Kd.b7 lR.out eZ.out (by decide)) (fun _ hk=>hk.2) (.slice cd ju.length ce)) (fun _ hk=>hk.2) (.slice dR ko.length dS)) (fun _ hk=>hk.2) (.slice gb wT.length gc)) (fun _ hk=>hk.2) (.int .i64 a2)) (fun _ hk=>hk.1.2),by(with_reducible repeat(first|apply Kd.aw|apply Kd.ax|apply Kd.aa));exact Kd.aK (Kd.aA (p:=⟨en,3,none⟩) (Kd.aA (p:=⟨en,2,none⟩) (Kd.aA (p:=⟨en,1,none⟩) (Kd.aA (p:=⟨en,0,none⟩) (Kd.b7 lq.out eZ.out (by decide)) (fun _ hk=>hk.2) (.slice cd ju.length ce)) (fun _ hk=>hk.2) (.slice dR ko.length dS)) (fun _ hk=>hk.2) (.slice gb wT.length gc)) (fun _ hk=>hk.2) (.int .i64 a2)) (fun _ hk=>trivial),by(with_reducible repeat(first|apply Kd.aw|apply Kd.ax|apply Kd.aa));exact Kd.aK (Kd.aA (p:=⟨en,3,none⟩) (Kd.aA (p:=⟨en,2,none⟩) (Kd.aA (p:=⟨en,1,none⟩) (Kd.aA (p:=⟨en,0,none⟩) (Kd.b7 Wn.out eZ.out (by decide)) (fun _ hk=>hk.2) (.slice cd ju.length ce)) (fun _ hk=>hk.2) (.slice dR ko.length dS)) (fun _ hk=>hk.2) (.slice gb wT.length gc)) (fun _ hk=>hk.2) (.int .i64 a2)) (fun _ hk=>hk.1.2),be HB jR kF Bz⟩
def gW.l0:Nat→List Bool→List (S64)→List (S64)→Int→Int→Option ((List (S64)))
 |0,_,_,_,_,_=>none
 |k+1,x1,x5,x8,x9,it=>if it<x9 then(if 0≤it then(if it<(x8.length:Int)then(if it<(x1.length:Int)then(if dL false x1 it=true then(if x5.length<5864062014805 then(gW.l0 k x1 (x5++[(⟨(aH x8 it).f0,(aH x8 it).f1⟩:S64)]) x8 x9 (I0 (it+1)))else(none))else(gW.l0 k x1 x5 x8 x9 (I0 (it+1))))else(none))else(none))else(none))else(some x5)
def gW.f(k:Nat)(l0:List (S64))(l1:List Bool):Option ((List (S64))):=gW.l0 k l1 ([]:List (S64)) l0 (l0.length:Int) 0
theorem gW.bg:∀k,(∀y0 y1 y2 y3 y4,a8 (gW.l0 k y0 y1 y2 y3 y4) (gW.l0 (k+1) y0 y1 y2 y3 y4))
 |0=>fun _ _ _ _ _ r h=>by simp[gW.l0]at h
 |k+1=>by
  have bB:=gW.bg k
  ·
   intro y0 y1 y2 y3 y4;unfold gW.l0
   repeat' with_reducible first|exact bB _ _ _ _ _|exact a8.refl _|exact a8.none _|refine a8.ite ?_ ?_|refine a8.bind ?_ (fun _=> ?_)
theorem gW.mono:∀a0 a1 k,a8 (gW.f k a0 a1) (gW.f (k+1) a0 a1):=by
 intro a0 a1 k;have bB:=gW.bg k;unfold gW.f
 repeat' with_reducible first|exact bB _ _ _ _ _|exact a8.refl _|exact a8.none _|refine a8.ite ?_ ?_|refine a8.bind ?_ (fun _=> ?_)
set_option maxHeartbeats 8000000 in
set_option maxRecDepth 100000 in
theorem gW.calls(k:Nat)(A0:Option Addr)(c0:Nat)(l0:List (S64))(A1:Option Addr)(c1:Nat)(l1:List Bool)(r:List (S64))(w:World)(hr0:Kd.C bS w A0 l0.length l0)(hc0:l0.length≤c0)(hr1:Kd.C Kd.bool w A1 l1.length l1)(hc1:l1.length≤c1)(h:gW.f k l0 l1=some r):
 Calls t5 46 #[.slice A0 l0.length c0,.slice A1 l1.length c1] w fun e w'=>∃bh:Value,e= .returned (bh)∧Kd.R bS 64 w' w.heap.size (fun _=>True) bh r∧Below w.heap.size w w':=by
 have hu64:=aah;have d8:=Ah hr0;have gV:=Ah hc0;clear hr0 hc0;have HR1:=Ah hr1;have kr:=Ah hc1;clear hr1 hc1;have HB:=Ah (pv w.heap.size w);have H:(gW.l0 k l1 ([]:List (S64)) l0 (l0.length:Int) 0)=some r:=h;clear h;have H':=Ah H;clear H
 go_enter Try.func46,Try.ntmps46
 go_wp2
 go_loopg [5,10] k (fun kq v5 v10 w'=>∃ (bd:List (S64)) (ch:Int),v10= .int .i64 ch∧aC (gW.l0 kq l1 bd l0 (l0.length:Int) ch=some r)∧aC (kq≤k)∧aC (Kd.R bS 64 w' w.heap.size (fun _=>True) v5 bd)∧aC (Below w.heap.size w w'))
 case atStart=>exact⟨(([]:List (S64))),(0),e3,H',⟨mz _⟩,⟨by first|exact Kd.cQ _ _ _ _ _|exact Kd.cY _ _ _ _ _|exact Kd.cZ _ _ _ _ _|exact Kd.cW _ _ _ _ _|exact Kd.cX _ _ _ _ _⟩,⟨bs HB⟩⟩
 case round=>
  clear H'
  try clear c1
  try clear p2
  obtain⟨bd,ch,rfl,HA,bY,bH,HB⟩:=hrel
  cases gk with
  |zero=>exact absurd HA.out (by simp[gW.l0])
  |succ k1=>
   have H:=HA.out;clear HA;simp only[gW.l0]at H
   by_cases c3:ch<(l0.length:Int)
   rotate_left
   ·
    rw[if_neg c3]at H;have eb:decide (ch<(l0.length:Int))=false:=decide_eq_false c3;clear c3;obtain rfl:=fl H
    go_wp2
    go_ret
    exact⟨_,er,by(with_reducible repeat(first|apply Kd.aw|apply Kd.ax|apply Kd.aa));exact bH.out,bs HB⟩
   rw[if_pos c3]at H;have eb:decide (ch<(l0.length:Int))=true:=decide_eq_true c3;clear c3
   by_cases c4:0≤ch
   rotate_left
   ·
    rw[if_neg c4]at H;exact absurd H (by simp)
   rw[if_pos c4]at H;have fa:decide (0≤ch)=true:=decide_eq_true c4;clear c4
   by_cases c5:ch<(l0.length:Int)
   rotate_left
   ·
    rw[if_neg c5]at H;exact absurd H (by simp)
   rw[if_pos c5]at H;have gz:decide (ch<(l0.length:Int))=true:=decide_eq_true c5;clear c5
   by_cases c6:ch<(l1.length:Int)
   rotate_left
   ·
    rw[if_neg c6]at H;exact absurd H (by simp)
   rw[if_pos c6]at H;have hF:decide (ch<(l1.length:Int))=true:=decide_eq_true c6;clear c6;obtain⟨Yh,Qo⟩:∃b_:Bool,b_=(dL false l1 ch):=⟨_,rfl⟩
   replace H:(if Yh=true then(if bd.length<5864062014805 then(gW.l0 k1 l1 (bd++[(⟨(aH l0 ch).f0,(aH l0 ch).f1⟩:S64)]) l0 (l0.length:Int) (I0 (ch+1)))else(none))else(gW.l0 k1 l1 bd l0 (l0.length:Int) (I0 (ch+1))))=some r:=by rw[←Qo]at H;exact H
   have YG:=Ah Qo;clear Qo
   by_cases c8:Yh=true
   rotate_left
   ·
    replace c8:=dW.mpr c8;subst c8;rw[if_neg cg]at H;have H':=Ah H;clear H;have AK:0≤(ch:Int):=od;have AL:ch<(l0.length:Int):=od;obtain⟨a6F,Qp,xo,xp⟩:=g8 d8.out ch AK AL
    cases Qp
    replace xo:=(HB.out.cell (I1 w _ xo)).trans xo;replace xp:=(HB.out.cell (I1 w _ xp)).trans xp;replace AK:=eq_true AK;replace AL:=eq_true AL
    go_wp2_with (first|((with_reducible refine ao (N:=7) rfl ?_);refine az 7 64 #[.int .i64 0,.string (⟨#[]⟩:ByteArray)] ?_;intro l7 hg ly vl hb;replace bH:=Ah (Kd.eD (Kd.nz (rr bH.out) l7 (Nat.le_of_eq hg.symm)) hb);have Ft:=gw hg (bs HB);have Fu:=gw hg (bs HB);replace HB:=Ah (aJ (bs HB) hb);clear hb hg;obtain⟨qw,qx⟩:=bN vl;obtain⟨qy,qz⟩:=bI vl;have AM:0≤(ch:Int):=od;have AN:ch<(l1.length:Int):=od;obtain⟨Fv,Qq,kY⟩:=Kd.M9 HR1.out ch AM AN;(try rw[←YG.out]at kY);cases Qq;have ta:Fv.block≠l7:=aam (aav (by have:=I1 _ _ kY;first|rwa [n6]at this|exact this) Ft.out);have tb:Fv.block≠l7:=aam (aav (by have:=I1 _ _ kY;first|rwa [n6]at this|exact this) Ft.out);replace kY:=(HB.out.cell (I1 w _ kY)).trans kY;replace kY:=(ay (p:=⟨l7,0,none⟩) (by first|(rw[n6];exact ta)|(show(Addr.add _ _).block≠_;rw[n6];exact ta)|exact ta) (.int .i64 ((aH l0 ch).f0))).trans kY;replace kY:=(ay (p:=⟨l7,1,none⟩) (by first|(rw[n6];exact tb)|(show(Addr.add _ _).block≠_;rw[n6];exact tb)|exact tb) (.string ((aH l0 ch).f1))).trans kY;clear ta;clear tb;replace AM:=eq_true AM;replace AN:=eq_true AN))
    go_roundg k1
    case measure=>have:=bY.out;omega
    case rel=>exact⟨(bd),(I0 (ch+1)),e3,H',⟨by have:=bY.out;omega⟩,⟨by(with_reducible repeat(first|apply Kd.aw|apply Kd.ax|apply Kd.aa));exact Kd.aK (Kd.aA (p:=⟨l7,1,none⟩) (Kd.aA (p:=⟨l7,0,none⟩) (Kd.aK bH.out (fun k_ hk=>(⟨hk,hk.2⟩:_∧k_≠l7))) (fun _ hk=>hk.2) (.int .i64 ((aH l0 ch).f0))) (fun _ hk=>hk.2) (.string ((aH l0 ch).f1))) (fun _ hk=>trivial)⟩,⟨aM HB Fu⟩⟩
   subst c8;rw[if_pos rfl]at H
   by_cases c9:bd.length<5864062014805
   rotate_left
   ·
    rw[if_neg c9]at H;exact absurd H (by simp)
   rw[if_pos c9]at H;have a9w:=Ah c9;clear c9;obtain⟨YH,Fw⟩:∃y_:List (S64),y_=(bd++[(⟨(aH l0 ch).f0,(aH l0 ch).f1⟩:S64)]):=⟨_,rfl⟩
   replace H:(gW.l0 k1 l1 YH l0 (l0.length:Int) (I0 (ch+1)))=some r:=by first|(rw[Fw];with_reducible exact H)|(have ak:=(Ok _ _).symm.trans H;rw[Fw];with_reducible exact ak)|(have ak:=(Ok _ _).symm.trans H;with_reducible exact ak)|with_reducible exact H|(rw[Fw];exact H)|exact H
   have a6G:=Ah Fw;clear Fw;have H':=Ah H;clear H;have AK:0≤(ch:Int):=od;have AL:ch<(l0.length:Int):=od;obtain⟨a6F,Qp,xo,xp⟩:=g8 d8.out ch AK AL
   cases Qp
   replace xo:=(HB.out.cell (I1 w _ xo)).trans xo;replace xp:=(HB.out.cell (I1 w _ xp)).trans xp;replace AK:=eq_true AK;replace AL:=eq_true AL
   go_wp2_with (first|((with_reducible refine ao (N:=7) rfl ?_);refine az 7 64 #[.int .i64 0,.string (⟨#[]⟩:ByteArray)] ?_;intro l7 hg pq vl hb;replace bH:=Ah (Kd.eD (Kd.nz (rr bH.out) l7 (Nat.le_of_eq hg.symm)) hb);have Ft:=gw hg (bs HB);have Fu:=gw hg (bs HB);replace HB:=Ah (aJ (bs HB) hb);clear hb hg;obtain⟨jj,jk⟩:=bN vl;obtain⟨jl,jm⟩:=bI vl;have AM:0≤(ch:Int):=od;have AN:ch<(l1.length:Int):=od;obtain⟨Fv,Qq,kY⟩:=Kd.M9 HR1.out ch AM AN;(try rw[←YG.out]at kY);cases Qq;have ta:Fv.block≠l7:=aam (aav (by have:=I1 _ _ kY;first|rwa [n6]at this|exact this) Ft.out);have tb:Fv.block≠l7:=aam (aav (by have:=I1 _ _ kY;first|rwa [n6]at this|exact this) Ft.out);replace kY:=(HB.out.cell (I1 w _ kY)).trans kY;replace kY:=(ay (p:=⟨l7,0,none⟩) (by first|(rw[n6];exact ta)|(show(Addr.add _ _).block≠_;rw[n6];exact ta)|exact ta) (.int .i64 ((aH l0 ch).f0))).trans kY;replace kY:=(ay (p:=⟨l7,1,none⟩) (by first|(rw[n6];exact tb)|(show(Addr.add _ _).block≠_;rw[n6];exact tb)|exact tb) (.string ((aH l0 ch).f1))).trans kY;clear ta;clear tb;replace AM:=eq_true AM;replace AN:=eq_true AN)|((with_reducible refine mO (b:= .append) (xs:= #[.tmp 19,.tmp 21]) rfl ?_);at_builtin;refine Kd.tK bS (w0:=w) w.heap.size rfl (.tmp 19) (.tmp 21) 24 64 (.agg #[(.int .i64 0),(.string ⟨#[]⟩)]) 24 rfl Try.underlying24 pF rfl (by decide) (by omega) u5 bd (⟨(aH l0 ch).f0,(aH l0 ch).f1⟩:S64) [.int .i64 ((aH l0 ch).f0),.string ((aH l0 ch).f1)] (fun k_=>k_≠l7) (fun _=>False) rfl (by first|(go_simp;done)|(go_simp;rfl)) ?aP (fun _ hk=>hk.elim) ?aF ?aO ?aB ?aS ?aL ?_;(case aP=>exact xE _ _ _ (⟨(aH l0 ch).f0,(aH l0 ch).f1⟩:S64));(case aB=>exact(aM HB Fu));(case aF=>exact(fun k_ hk=>Kd.EG (g:=l7) (o:= .cells #[.int .i64 ((aH l0 ch).f0),.string ((aH l0 ch).f1)] 64 (0,0)) (by(with_reducible repeat(first|refine a9 ?_ _|refine U ?_|refine Z ?_ _));refine aN (cs:= #[.int .i64 ((aH l0 ch).f0),.string (⟨#[]⟩:ByteArray)]) ?_ 1 _ rfl;(with_reducible repeat(first|refine a9 ?_ _|refine U ?_|refine Z ?_ _));refine aN (cs:= #[.int .i64 0,.string (⟨#[]⟩:ByteArray)]) ?_ 0 _ rfl;(with_reducible repeat(first|refine a9 ?_ _|refine U ?_|refine Z ?_ _));exact vl.out) k_ hk));(case aO=>exact(by(with_reducible repeat(first|apply Kd.aw|apply Kd.ax|apply Kd.aa));exact Kd.aK (Kd.aA (p:=⟨l7,1,none⟩) (Kd.aA (p:=⟨l7,0,none⟩) (Kd.aK bH.out (fun k_ hk=>(⟨hk,hk.2⟩:_∧k_≠l7))) (fun _ hk=>hk.2) (.int .i64 ((aH l0 ch).f0))) (fun _ hk=>hk.2) (.string ((aH l0 ch).f1))) (fun _ hk=>hk.1.2)));(case aS=>exact(bJ (aM HB Fu)));(case aL=>have:=a9w.out;omega);intro v669 mu ho hb hg hat;rw[←a6G.out]at ho;replace vl:=Ah (fx (g:=l7) (o:= .cells #[.int .i64 ((aH l0 ch).f0),.string ((aH l0 ch).f1)] 64 (0,0)) (by(with_reducible repeat(first|refine a9 ?_ _|refine U ?_|refine Z ?_ _));refine aN (cs:= #[.int .i64 ((aH l0 ch).f0),.string (⟨#[]⟩:ByteArray)]) ?_ 1 _ rfl;(with_reducible repeat(first|refine a9 ?_ _|refine U ?_|refine Z ?_ _));refine aN (cs:= #[.int .i64 0,.string (⟨#[]⟩:ByteArray)]) ?_ 0 _ rfl;(with_reducible repeat(first|refine a9 ?_ _|refine U ?_|refine Z ?_ _));exact vl.out) hg (Kd.JO bH.out (fun _ hk=>hk.2)));replace HB:=Ah (hb);have a6H:=Ah (ho);clear bH;clear ho hb hg hat))
   go_roundg k1
   case measure=>have:=bY.out;omega
   case rel=>exact⟨(YH),(I0 (ch+1)),e3,H',⟨by have:=bY.out;omega⟩,rm a6H (fun _ hk=>trivial),⟨aM HB Fu⟩⟩
def fd.j0:Nat→List Bool→Bool→List ByteArray→List (S64)→Option (List ByteArray×(List (S64))×Bool)
 |0,_,_,_,_=>none
 |k+1,x1,x16,a2w,a2x=>if x16=true then(some (([]:List ByteArray),([]:List (S64)),false))else((gW.f k a2x x1).bind fun HY=>((eQ.f k a2w HY).bind fun Cg=>(some (Cg,([]:List (S64)),true))))
def fd.f(k:Nat)(X:List ByteArray)(J:List (S64))(l1:List Bool):Option (List ByteArray×(List (S64))×Bool):=(dC.f k X J).bind fun HZ=>(if HZ=true then(fd.j0 k l1 ((l1.length:Int) !=(J.length:Int)) X J)else(fd.j0 k l1 true X J))
theorem fd.bg:∀k,(∀y0 y1 y2 y3,a8 (fd.j0 k y0 y1 y2 y3) (fd.j0 (k+1) y0 y1 y2 y3))
 |0=>fun _ _ _ _ r h=>by simp[fd.j0]at h
 |k+1=>by
  have bB:=fd.bg k
  ·
   intro y0 y1 y2 y3;unfold fd.j0
   repeat' with_reducible first|exact bB _ _ _ _|exact dC.mono _ _ _|exact eQ.mono _ _ _|exact gW.mono _ _ _|exact a8.refl _|exact a8.none _|refine a8.ite ?_ ?_|refine a8.bind ?_ (fun _=> ?_)
theorem fd.mono:∀a0 a1 a2 k,a8 (fd.f k a0 a1 a2) (fd.f (k+1) a0 a1 a2):=by
 intro a0 a1 a2 k;have bB:=fd.bg k;unfold fd.f
 repeat' with_reducible first|exact bB _ _ _ _|exact dC.mono _ _ _|exact eQ.mono _ _ _|exact gW.mono _ _ _|exact a8.refl _|exact a8.none _|refine a8.ite ?_ ?_|refine a8.bind ?_ (fun _=> ?_)
def fd.T3:Bool×List (List Nat×List Nat):=(true,[([],[]),([0],[0]),([],[]),([2],[2]),([],[]),([3,4],[3,4]),([1,5,5],[1,5]),([6],[6]),([7,6,0,1,2,3,4,5,6,7],[7]),([8,0,1,2,3,4,5,6,7,8],[])])
def fd.B3:List Nat:=[0,1,0,4,0,28,63,127,255,511]
theorem fd.CW:fN .any (lh Try.f22 3)=fd.T3:=by kernel_rfl
theorem fd.Bw:ji fd.T3.2 fd.B3=true:=by kernel_rfl
set_option maxHeartbeats 8000000 in
set_option maxRecDepth 100000 in
theorem fd.calls(k:Nat)(ag:Option Addr)(ah:Nat)(X:List ByteArray)(ai:Option Addr)(af:Nat)(J:List (S64))(A1:Option Addr)(c1:Nat)(l1:List Bool)(r1:List ByteArray)(r2:List (S64))(r3:Bool)(w:World)(dG:Kd.C Kd.string w ag X.length X)(dH:X.length≤ah)(dI:Kd.C bS w ai J.length J)(dJ:J.length≤af)(hr1:Kd.C Kd.bool w A1 l1.length l1)(hc1:l1.length≤c1)(h:fd.f k X J l1=some (r1,r2,r3)):
 Calls t5 22 #[.agg #[.slice ag X.length ah,.slice ai J.length af],.slice A1 l1.length c1] w fun e w'=>∃bh eA:Value,e= .returned (.tuple #[.agg #[bh,eA],.bool r3])∧Kd.R Kd.string 9 w' w.heap.size (fun _=>True) bh r1∧Kd.R bS 64 w' w.heap.size (fun _=>True) eA r2∧Below w.heap.size w w':=by
 have kj:=aae;have cN:=Ah dG;have cR:=Ah dH;clear dG dH;have cI:=Ah dI;have ca:=Ah dJ;clear dI dJ;have HR1:=Ah hr1;have kr:=Ah hc1;clear hr1 hc1;have HB:=Ah (pv w.heap.size w);have H:((dC.f k X J).bind fun HZ=>(if HZ=true then(fd.j0 k l1 ((l1.length:Int) !=(J.length:Int)) X J)else(fd.j0 k l1 true X J)))=some (r1,r2,r3):=h;clear h;have Aa:=Ah H;clear H
 go_enter Try.func22,Try.ntmps22
 go_upto_region 1 with(first|((with_reducible refine ao (N:=2) rfl ?_);(try(refine dM (by rfl) ?_;dsimp only));refine az 2 26 #[.slice ag X.length ah,.slice ai J.length af] ?_;intro Ou hg w4 gZ hb;have GW671:=gw hg (bs HB);have pd:=gw hg (bs HB);replace HB:=Ah (aJ (bs HB) hb);clear hb hg)|((with_reducible refine ao (N:=4) rfl ?_);(try(refine dM (by rfl) ?_;dsimp only));refine az 4 26 #[.slice none 0 0,.slice none 0 0] ?_;intro ra hg w5 j6 hb;have GW672:=gw hg (aM HB pd);have sf:=gw hg (aM HB pd);replace HB:=Ah (aJ (aM HB pd) hb);have tI:=nn gZ hg;have DZ:=nm gZ hg;replace gZ:=nb gZ hb;clear hb hg))
 (try simp only[aaa,JM,jG,kt])
 go_cut [16] (fun v16 wc=>∃ (kq:Nat) (KV:Bool),v16= .bool KV∧aC (fd.j0 kq l1 KV X J=some (r1,r2,r3))∧aC (kq≤k)∧aC (wc.heap[Ou]?=some (.cells #[(.slice ag X.length ah),(.slice ai J.length af)] 26 (0,0)))∧aC (wc.heap[ra]?=some (.cells #[(.slice none 0 0),(.slice none 0 0)] 26 (0,0)))∧aC (Below w.heap.size w wc))
 case first=>
  have H:=Aa.out;clear Aa;replace H:=He.mp H;obtain⟨HZ,e9,H⟩:=H
  try dsimp only at H
  have A6:=Ah e9;clear e9
  by_cases c7:HZ=true
  rotate_left
  ·
   replace c7:=dW.mpr c7;subst c7;rw[if_neg cg]at H;have H':=Ah H;clear H;have a5R:=tI.out;have a5S:=DZ.out;obtain⟨la,lc⟩:=bN gZ;obtain⟨ld,lf⟩:=bI gZ
   go_wp2_with (first|((with_reducible refine ap (f:=45) rfl ?_);refine gL (some 7) rfl rfl Try.func45 (by kernel_rfl) rfl #[.agg #[.slice ag X.length ah,.slice ai J.length af]] rfl ?_;(with_reducible refine(dC.calls k _ _ X _ _ J false _ ?aE ?aG ?aZ ?ab A6.out).mono ?_);(case aE=>exact cb cN HB);(case aG=>exact cR.out);(case aZ=>exact cb cI HB);(case ab=>exact ca.out);rintro e pp ⟨rfl,hb⟩;refine⟨_,rfl, ?_⟩;replace gZ:=nb gZ hb;replace j6:=nb j6 hb;replace HB:=Ah (aJ (aW HB pd sf) hb);(try clear hb)))
   go_meet
   case rel=>exact⟨_,(true),e3,H',⟨by first|omega|exact mz _⟩,⟨bk gZ⟩,⟨bk j6⟩,⟨aW HB pd sf⟩⟩
  subst c7;rw[if_pos rfl]at H;have H':=Ah H;clear H;have QF:=tI.out;have QG:=DZ.out;obtain⟨pG,pH⟩:=bN gZ;obtain⟨qQ,pI⟩:=bI gZ
  go_wp2_with (first|((with_reducible refine ap (f:=45) rfl ?_);refine gL (some 7) rfl rfl Try.func45 (by kernel_rfl) rfl #[.agg #[.slice ag X.length ah,.slice ai J.length af]] rfl ?_;(with_reducible refine(dC.calls k _ _ X _ _ J true _ ?aE ?aG ?aZ ?ab A6.out).mono ?_);(case aE=>exact cb cN HB);(case aG=>exact cR.out);(case aZ=>exact cb cI HB);(case ab=>exact ca.out);rintro e pq ⟨rfl,hb⟩;refine⟨_,rfl, ?_⟩;replace gZ:=nb gZ hb;replace j6:=nb j6 hb;replace HB:=Ah (aJ (aW HB pd sf) hb);(try clear hb);obtain⟨jj,jk⟩:=bN gZ;obtain⟨jl,jm⟩:=bI gZ))
  go_meet
  case rel=>exact⟨_,(((l1.length:Int) !=(J.length:Int))),e3,H',⟨by first|omega|exact mz _⟩,⟨bk gZ⟩,⟨bk j6⟩,⟨aW HB pd sf⟩⟩
 case rest=>
  clear Aa
  try clear c1
  try clear c2
  try clear p2
  try clear c4
  try clear c7
  try clear c8
  try clear c12
  try clear jj jk
  try clear la lc
  try clear pG pH
  try clear jl jm
  try clear ld lf
  try clear qQ pI
  obtain⟨kq,KV,rfl,HA,HJ2,gZ,j6,HB⟩:=hcut
  cases kq with
  |zero=>exact absurd HA.out (by simp[fd.j0])
  |succ L9=>
   have H:=HA.out;clear HA;simp only[fd.j0]at H
   by_cases c15:KV=true
   ·
    subst c15;rw[if_pos rfl]at H;simp only[fc,oe]at H;obtain⟨rfl,rfl,rfl⟩:=H;have BZ:=DZ.out;have Ba:=tI.out;obtain⟨ox,oy⟩:=bN j6;obtain⟨oz,p7⟩:=bI j6
    go_wp2
    refine bodyPost_ret (gG rfl _ _ ra 26 #[.slice none 0 0,.slice none 0 0] (0,0) _ rfl (by(with_reducible repeat(first|refine a9 ?_ _|refine U ?_|refine Z ?_ _));refine aN (cs:= #[.slice none 0 0,.slice none 0 0]) ?_ 1 _ rfl;(with_reducible repeat(first|refine a9 ?_ _|refine U ?_|refine Z ?_ _));refine aN (cs:= #[.slice none 0 0,.slice none 0 0]) ?_ 0 _ rfl;(with_reducible repeat(first|refine a9 ?_ _|refine U ?_|refine Z ?_ _));exact j6.out) aae rfl (by kernel_rfl)) rfl ?_;exact⟨_,_,er,by first|exact Kd.cQ _ _ _ _ _|exact Kd.cY _ _ _ _ _|exact Kd.cZ _ _ _ _ _|exact Kd.cW _ _ _ _ _|exact Kd.cX _ _ _ _ _,by first|exact Kd.cQ _ _ _ _ _|exact Kd.cY _ _ _ _ _|exact Kd.cZ _ _ _ _ _|exact Kd.cW _ _ _ _ _|exact Kd.cX _ _ _ _ _,aW HB pd sf⟩
   replace c15:=dW.mpr c15;subst c15;rw[if_neg cg]at H;replace H:=He.mp H;obtain⟨HY,Gj,H⟩:=H
   try dsimp only at H
   have L5:=Ah Gj;clear Gj;replace H:=He.mp H;obtain⟨Cg,Gt,H⟩:=H
   try dsimp only at H
   have L6:=Ah Gt;clear Gt;simp only[fc,oe]at H;obtain⟨rfl,rfl,rfl⟩:=H
   try go_wp2
   have aY:=Ah (U gZ.out);have aX:=Ah (U j6.out);have ae:=Ah (ia HB.out);clear gZ j6 HB;have gZ:=aY;have j6:=aX;have HB:=ae;clear aY aX ae;refine k9 (n:=10) (S:=fun w'=>w'.cell? ⟨Ou,0,none⟩=some (.slice ag X.length ah)∧w'.cell? ⟨Ou,1,none⟩=some (.slice ai J.length af)) (ds:=[]) #[false,false,false,false,false,false,false,false,false,false] (by kernel_rfl) rfl rfl ⟨(aQ gZ.out 0).trans rfl,(aQ gZ.out 1).trans rfl⟩ (fun hHeld=> ?_);refine kS fd.CW fd.Bw (fun aU dT=> ?_)
   generalize wc.drew=np at gZ j6 HB hHeld⊢
   refine b8 0 18 aU.out ?_;refine b8 2 20 aU.out ?_;refine b8 4 22 aU.out ?_;refine fZ 1 19 aU.out dT.out hHeld (hr:=by rintro w' ⟨s0,s1⟩;go_simp;with_reducible rfl) (h:= ?_);refine fZ 3 21 aU.out dT.out hHeld (hr:=by rintro w' ⟨s0,s1⟩;go_simp;with_reducible rfl) (h:= ?_);refine e5 (i:=5) (N:=some 23) #[true,true,true,true,true,true,false,false,false,false] rfl rfl (dz aU.out (by kernel_rfl)) (by decide) (fun K hK=> ?_);refine iw Try.func46 (by kernel_rfl) rfl #[.slice ai J.length af,.slice A1 l1.length c1] (by rfl) rfl rfl (by(try simp only[List.map_toArray,List.map_cons,List.map_nil]);first|done|rfl|(simp only[List.length_drop,List.length_take];rfl)) ?_
   with_reducible refine(gW.calls L9 _ _ J _ _ l1 HY _ ?aE ?aG ?aZ ?ab L5.out).mono ?_
   (case aE=>exact cb cI HB);(case aG=>exact ca.out);(case aZ=>exact cb HR1 HB);(case ab=>exact kr.out);rintro e ir ⟨v675,rfl,ho0,hb⟩;refine⟨_,rfl, ?_⟩;have aY:=Ah (Kd.bD ho0 (bJ (aW HB pd sf)));have aX:=Ah (bb gZ hb);have ae:=Ah (bb j6 hb);have aq:=Ah (aJ (aW HB pd sf) hb);clear gZ j6 HB;have C0:=aY;have gZ:=aX;have j6:=ae;have HB:=aq;clear aY aX ae aq;(try clear hb);(try clear hb2);(try clear hk);(try clear hi);(try clear ho0);obtain⟨kk,km,KY⟩:=Kd.al C0.out;(first|subst KY|(injection KY with dU fS dV;have fT:=dU.symm;have fU:=dV.symm;clear dU fS dV;subst fT;subst fU));refine hK.out _ _ ⟨(aQ gZ.out 0).trans rfl,(aQ gZ.out 1).trans rfl⟩ (fun hHeld=> ?_);clear hK K;refine ej (a':= ?_) ?_ ?_;rotate_left
   ·
    show aaa _ (some 23) _=_
    simp only[aaa,JM,jG,kt,dD,dP]
    rfl
   refine e5 (i:=6) (N:=some 24) #[true,true,true,true,true,true,true,false,false,false] rfl rfl (dz aU.out (by kernel_rfl)) (by decide) (fun K hK=> ?_);refine iw Try.func28 (by kernel_rfl) rfl #[.slice ag X.length ah,.slice kk HY.length km] (by rfl) rfl rfl (by(try simp only[aab,aad,aaf]);first|done|rfl|(simp only[qh,bx];rfl)) ?_
   with_reducible refine(eQ.calls L9 _ _ X _ _ HY Cg _ ?aE ?aG ?aZ ?ab L6.out).mono ?_
   (case aE=>exact cb cN HB);(case aG=>exact cR.out);(case aZ=>exact bi C0);(case ab=>exact(Kd.b9 C0.out).2.1);rintro e sG ⟨v678,rfl,ho0,hb⟩;refine⟨_,rfl, ?_⟩;have aY:=Ah (Kd.eD (rr C0.out) hb);have aX:=Ah (Kd.bD ho0 (bJ (aW HB pd sf)));have ae:=Ah (bb gZ hb);have aq:=Ah (bb j6 hb);have bF:=Ah (aJ (aW HB pd sf) hb);clear C0 gZ j6 HB;have C0:=aY;have Wo:=aX;have gZ:=ae;have j6:=aq;have HB:=bF;clear aY aX ae aq bF;(try clear hb);(try clear hb2);(try clear hk);(try clear hi);(try clear ho0);obtain⟨Qr,Qs,YI⟩:=Kd.al Wo.out;(first|subst YI|(injection YI with dU fS dV;have fT:=dU.symm;have fU:=dV.symm;clear dU fS dV;subst fT;subst fU));refine hK.out _ _ ⟨(aQ gZ.out 0).trans rfl,(aQ gZ.out 1).trans rfl⟩ (fun hHeld=> ?_);clear hK K;refine ej (a':= ?_) ?_ ?_;rotate_left
   ·
    show aaa _ (some 24) _=_
    simp only[aaa,JM,jG,kt,dD,dP]
    rfl
   refine b8 7 25 aU.out ?_;refine e5 (i:=8) (N:=none) #[true,true,true,true,true,true,true,true,true,false] rfl rfl (dz aU.out (by kernel_rfl)) (by decide) (fun K hK=> ?_);have a7I:sG.cell? ⟨ra,0,none⟩=some (.slice none 0 0):=(aQ j6.out 0).trans rfl;have a4H:=d5 j6.out 0;have hns25_0:=tI.out;have hms25_0:=DZ.out;have a7J:sG.cell? ⟨ra,1,none⟩=some (.slice none 0 0):=(aQ j6.out 1).trans rfl;have a4I:=d5 j6.out 1;have hns26_0:=tI.out;have hms26_0:=DZ.out;refine pJ (w1:= ?_) (by rfl) rfl ?_ ?_;rotate_left
   ·
    go_simp
    rfl
   refine hK.out _ _ ⟨((ay (p:=⟨ra,_,none⟩) tI.out _).trans (((ay (p:=⟨ra,_,none⟩) tI.out _).trans (hHeld.1)))),((ay (p:=⟨ra,_,none⟩) tI.out _).trans (((ay (p:=⟨ra,_,none⟩) tI.out _).trans (hHeld.2))))⟩ (fun hHeld=> ?_);clear hK K;refine b8 9 5 aU.out ?_;refine jp (k7 aU.out (by kernel_rfl)) ?_
   try go_wp2
   refine bodyPost_ret (gG rfl _ _ ra 26 #[.slice Qr Cg.length Qs,.slice none 0 0] (0,0) _ rfl (by(with_reducible repeat(first|refine a9 ?_ _|refine U ?_|refine Z ?_ _));refine aN (cs:= #[.slice Qr Cg.length Qs,.slice none 0 0]) ?_ 1 _ rfl;(with_reducible repeat(first|refine a9 ?_ _|refine U ?_|refine Z ?_ _));refine aN (cs:= #[.slice none 0 0,.slice none 0 0]) ?_ 0 _ rfl;(with_reducible repeat(first|refine a9 ?_ _|refine U ?_|refine Z ?_ _));exact j6.out) aae rfl (by kernel_rfl)) rfl ?_;exact⟨_,_,er,by(with_reducible repeat(first|apply Kd.aw|apply Kd.ax|apply Kd.aa));exact Kd.aK (Kd.aA (p:=⟨ra,1,none⟩) (Kd.aA (p:=⟨ra,0,none⟩) (Kd.b7 Wo.out j6.out (by decide)) (fun _ hk=>hk.2) (.slice Qr Cg.length Qs)) (fun _ hk=>hk.2) (.slice none 0 0)) (fun _ hk=>trivial),by first|exact Kd.cQ _ _ _ _ _|exact Kd.cY _ _ _ _ _|exact Kd.cZ _ _ _ _ _|exact Kd.cW _ _ _ _ _|exact Kd.cX _ _ _ _ _,aW HB pd sf⟩
def f8.j0:Nat→List Bool→Int→Bool→List ByteArray→List (S64)→List ByteArray→Int→Option (List ByteArray×(List (S64))×List ByteArray×Int×Bool)
 |0,_,_,_,_,_,_,_=>none
 |k+1,x1,x2,AV,a2y,a2z,N7,x681003=>if AV=true then(some (([]:List ByteArray),([]:List (S64)),([]:List ByteArray),0,false))else((fd.f k a2y a2z x1).bind fun Ov=>(if Ov.2.2=true then((some (([]:List ByteArray):List ByteArray)).bind fun wU=>(if 0≤x2 then(if x2≤(N7.length:Int)then(if wU.length+(N7.take (x2:Int).toNat).length<8796093022208 then(some (Ov.1,Ov.2.1,(wU++(N7.take (x2:Int).toNat)),x2,true))else(none))else(none))else(none)))else(some (([]:List ByteArray),([]:List (S64)),([]:List ByteArray),0,false))))
def f8.f(k:Nat)(X:List ByteArray)(J:List (S64))(aD:List ByteArray)(aI:Int)(l1:List Bool)(a2:Int):Option (List ByteArray×(List (S64))×List ByteArray×Int×Bool):=(bo.f k X J aD aI).bind fun Ha=>(if Ha=true then((jI.f a2 aI (aD.length:Int)).bind fun Ch=>(f8.j0 k l1 a2 (!Ch) X J aD aI))else(f8.j0 k l1 a2 true X J aD aI))
theorem f8.bg:∀k,(∀y0 y1 y2 y3 y4 y5 y6,a8 (f8.j0 k y0 y1 y2 y3 y4 y5 y6) (f8.j0 (k+1) y0 y1 y2 y3 y4 y5 y6))
 |0=>fun _ _ _ _ _ _ _ r h=>by simp[f8.j0]at h
 |k+1=>by
  have bB:=f8.bg k
  ·
   intro y0 y1 y2 y3 y4 y5 y6;unfold f8.j0
   repeat' with_reducible first|exact bB _ _ _ _ _ _ _|exact fd.mono _ _ _ _|exact bo.mono _ _ _ _ _|exact a8.refl _|exact a8.none _|refine a8.ite ?_ ?_|refine a8.bind ?_ (fun _=> ?_)
theorem f8.mono:∀a0 a1 a2 a3 a4 a5 k,a8 (f8.f k a0 a1 a2 a3 a4 a5) (f8.f (k+1) a0 a1 a2 a3 a4 a5):=by
 intro a0 a1 a2 a3 a4 a5 k;have bB:=f8.bg k;unfold f8.f
 repeat' with_reducible first|exact bB _ _ _ _ _ _ _|exact fd.mono _ _ _ _|exact bo.mono _ _ _ _ _|exact a8.refl _|exact a8.none _|refine a8.ite ?_ ?_|refine a8.bind ?_ (fun _=> ?_)
def f8.T6:Bool×List (List Nat×List Nat):=(true,[([],[]),([],[]),([],[]),([2],[2]),([],[]),([3,4],[3,4]),([1,5],[1,5]),([],[]),([0,6,7],[0,6,7]),([8,6,0,1,2,3,4,5,6,7,8],[8]),([9,0,1,2,3,4,5,6,7,8,9],[])])
def f8.B6:List Nat:=[0,0,0,4,0,28,62,0,255,511,1023]
theorem f8.wA:fN .any (lh Try.f6 6)=f8.T6:=by kernel_rfl
theorem f8.vI:ji f8.T6.2 f8.B6=true:=by kernel_rfl
set_option maxHeartbeats 8000000 in
set_option maxRecDepth 100000 in
theorem f8.calls(k:Nat)(ag:Option Addr)(ah:Nat)(X:List ByteArray)(ai:Option Addr)(af:Nat)(J:List (S64))(bP:Option Addr)(bQ:Nat)(aD:List ByteArray)(aI:Int)(A1:Option Addr)(c1:Nat)(l1:List Bool)(a2:Int)(r1:List ByteArray)(r2:List (S64))(r3:List ByteArray)(r4:Int)(r5:Bool)(w:World)(dG:Kd.C Kd.string w ag X.length X)(dH:X.length≤ah)(dI:Kd.C bS w ai J.length J)(dJ:J.length≤af)(fp:Kd.C Kd.string w bP aD.length aD)(fq:aD.length≤bQ)(hr1:Kd.C Kd.bool w A1 l1.length l1)(hc1:l1.length≤c1)(h:f8.f k X J aD aI l1 a2=some (r1,r2,r3,r4,r5)):
 Calls Try.prog 6 #[.agg #[.slice ag X.length ah,.slice ai J.length af,.slice bP aD.length bQ,.int .i64 aI],.slice A1 l1.length c1,.int .i64 a2] w fun e w'=>∃bh eA ee:Value,e= .returned (.tuple #[.agg #[bh,eA,ee,.int .i64 r4],.bool r5])∧Kd.R Kd.string 9 w' w.heap.size (fun k_=>some k_≠(ee:Value).ownBlock) bh r1∧Kd.R bS 64 w' w.heap.size (fun _=>True) eA r2∧Kd.R Kd.string 9 w' w.heap.size (fun k_=>some k_≠(bh:Value).ownBlock) ee r3∧Below w.heap.size w w':=by
 have mE:=wd;have kj:=aae;have cN:=Ah dG;have cR:=Ah dH;clear dG dH;have cI:=Ah dI;have ca:=Ah dJ;clear dI dJ;have dr:=Ah fp;have eK:=Ah fq;clear fp fq;have HR1:=Ah hr1;have kr:=Ah hc1;clear hr1 hc1;have HB:=Ah (pv w.heap.size w);have H:((bo.f k X J aD aI).bind fun Ha=>(if Ha=true then((jI.f a2 aI (aD.length:Int)).bind fun Ch=>(f8.j0 k l1 a2 (!Ch) X J aD aI))else(f8.j0 k l1 a2 true X J aD aI)))=some (r1,r2,r3,r4,r5):=h;clear h;have Ab:=Ah H;clear H
 go_enter Try.func6,Try.ntmps6
 go_upto_region 1 with(first|((with_reducible refine ao (N:=3) rfl ?_);(try(refine dM (by rfl) ?_;dsimp only));refine az 3 28 #[.slice ag X.length ah,.slice ai J.length af,.slice bP aD.length bQ,.int .i64 aI] ?_;intro C1 hg w5 dd hb;have GW680:=gw hg (bs HB);have ik:=gw hg (bs HB);replace HB:=Ah (aJ (bs HB) hb);clear hb hg)|((with_reducible refine ao (N:=6) rfl ?_);(try(refine dM (by rfl) ?_;dsimp only));refine az 6 28 #[.slice none 0 0,.slice none 0 0,.slice none 0 0,.int .i64 0] ?_;intro eo hg w6 eG hb;have GW681:=gw hg (aM HB ik);have jZ:=gw hg (aM HB ik);replace HB:=Ah (aJ (aM HB ik) hb);have jL:=nn dd hg;have tJ:=nm dd hg;replace dd:=nb dd hb;clear hb hg))
 (try simp only[aaa,JM,jG,kt])
 go_cut [22] (fun v22 wc=>∃ (kq:Nat) (uF:Bool),v22= .bool uF∧aC (f8.j0 kq l1 a2 uF X J aD aI=some (r1,r2,r3,r4,r5))∧aC (kq≤k)∧aC (wc.heap[C1]?=some (.cells #[(.slice ag X.length ah),(.slice ai J.length af),(.slice bP aD.length bQ),.int .i64 aI] 28 (0,0)))∧aC (wc.heap[eo]?=some (.cells #[(.slice none 0 0),(.slice none 0 0),(.slice none 0 0),.int .i64 0] 28 (0,0)))∧aC (Below w.heap.size w wc))
 case first=>
  have H:=Ab.out;clear Ab;replace H:=He.mp H;obtain⟨Ha,jx,H⟩:=H
  try dsimp only at H
  have A7:=Ah jx;clear jx
  by_cases c8:Ha=true
  rotate_left
  ·
   replace c8:=dW.mpr c8;subst c8;rw[if_neg cg]at H;have H':=Ah H;clear H;have K1:=jL.out;have K2:=tJ.out;obtain⟨sT,tY,BI,BJ⟩:=b0 dd;obtain⟨sU,tZ,BK,BL⟩:=b5 dd
   go_wp2_with (first|((with_reducible refine ap (f:=20) rfl ?_);refine gL (some 11) rfl rfl Try.func20 (by kernel_rfl) rfl #[.agg #[.slice ag X.length ah,.slice ai J.length af,.slice bP aD.length bQ,.int .i64 aI]] rfl ?_;(with_reducible refine(bo.calls k _ _ X _ _ J _ _ aD aI false _ ?aE ?aG ?aZ ?ab ?bT ?bc A7.out).mono ?_);(case aE=>exact cb cN HB);(case aG=>exact cR.out);(case aZ=>exact cb cI HB);(case ab=>exact ca.out);(case bT=>exact cb dr HB);(case bc=>exact eK.out);rintro e w16 ⟨rfl,hb⟩;refine⟨_,rfl, ?_⟩;replace dd:=nb dd hb;replace eG:=nb eG hb;replace HB:=Ah (aJ (aW HB ik jZ) hb);(try clear hb)))
   go_meet
   case rel=>exact⟨_,(true),e3,H',⟨by first|omega|exact mz _⟩,⟨bk dd⟩,⟨bk eG⟩,⟨aW HB ik jZ⟩⟩
  subst c8;rw[if_pos rfl]at H;replace H:=He.mp H;obtain⟨Ch,lE,H⟩:=H
  try dsimp only at H
  have A9:=Ah lE;clear lE;have H':=Ah H;clear H;have F3:=jL.out;have F4:=tJ.out;obtain⟨jj,jk,o8,o9⟩:=b0 dd;obtain⟨jl,jm,oA,oB⟩:=b5 dd
  go_wp2_with (first|((with_reducible refine ap (f:=20) rfl ?_);refine gL (some 11) rfl rfl Try.func20 (by kernel_rfl) rfl #[.agg #[.slice ag X.length ah,.slice ai J.length af,.slice bP aD.length bQ,.int .i64 aI]] rfl ?_;(with_reducible refine(bo.calls k _ _ X _ _ J _ _ aD aI true _ ?aE ?aG ?aZ ?ab ?bT ?bc A7.out).mono ?_);(case aE=>exact cb cN HB);(case aG=>exact cR.out);(case aZ=>exact cb cI HB);(case ab=>exact ca.out);(case bT=>exact cb dr HB);(case bc=>exact eK.out);rintro e mu ⟨rfl,hb⟩;refine⟨_,rfl, ?_⟩;replace dd:=nb dd hb;replace eG:=nb eG hb;replace HB:=Ah (aJ (aW HB ik jZ) hb);(try clear hb);obtain⟨la,lc,o4,o5⟩:=b0 dd;obtain⟨ld,lf,o6,o7⟩:=b5 dd)|(go_at_call 21;(with_reducible refine(jI.calls a2 aI (aD.length:Int) Ch _ A9.out).mono ?_);rintro e w' ⟨rfl,⟨nd,rfl⟩⟩))
  go_meet
  case rel=>exact⟨_,(!Ch),e3,H',⟨by first|omega|exact mz _⟩,⟨bk dd⟩,⟨bk eG⟩,⟨aW HB ik jZ⟩⟩
 case rest=>
  clear Ab
  try clear c1
  try clear c2
  try clear p2
  try clear c6
  try clear c8
  try clear c10
  try clear c14
  try clear jj jk o8 o9
  try clear la lc o4 o5
  try clear sT tY BI BJ
  try clear jl jm oA oB
  try clear ld lf o6 o7
  try clear sU tZ BK BL
  obtain⟨kq,uF,rfl,HA,HJ3,dd,eG,HB⟩:=hcut
  cases kq with
  |zero=>exact absurd HA.out (by simp[f8.j0])
  |succ Hy=>
   have H:=HA.out;clear HA;simp only[f8.j0]at H
   by_cases c17:uF=true
   ·
    subst c17;rw[if_pos rfl]at H;simp only[fc,oe]at H;obtain⟨rfl,rfl,rfl,rfl,rfl⟩:=H;have Wf:=tJ.out;have Wg:=jL.out;obtain⟨qq,qr,Du,Dv⟩:=b0 eG;obtain⟨qt,qu,Dw,Dx⟩:=b5 eG
    go_wp2
    refine bodyPost_ret (gG rfl _ _ eo 28 #[.slice none 0 0,.slice none 0 0,.slice none 0 0,.int .i64 0] (0,0) _ rfl (by(with_reducible repeat(first|refine a9 ?_ _|refine U ?_|refine Z ?_ _));refine aN (cs:= #[.slice none 0 0,.slice none 0 0,.slice none 0 0,.int .i64 0]) ?_ 3 _ rfl;(with_reducible repeat(first|refine a9 ?_ _|refine U ?_|refine Z ?_ _));refine aN (cs:= #[.slice none 0 0,.slice none 0 0,.slice none 0 0,.int .i64 0]) ?_ 2 _ rfl;(with_reducible repeat(first|refine a9 ?_ _|refine U ?_|refine Z ?_ _));refine aN (cs:= #[.slice none 0 0,.slice none 0 0,.slice none 0 0,.int .i64 0]) ?_ 1 _ rfl;(with_reducible repeat(first|refine a9 ?_ _|refine U ?_|refine Z ?_ _));refine aN (cs:= #[.slice none 0 0,.slice none 0 0,.slice none 0 0,.int .i64 0]) ?_ 0 _ rfl;(with_reducible repeat(first|refine a9 ?_ _|refine U ?_|refine Z ?_ _));exact eG.out) wd rfl (by kernel_rfl)) rfl ?_;exact⟨_,_,_,er,by first|exact Kd.cQ _ _ _ _ _|exact Kd.cY _ _ _ _ _|exact Kd.cZ _ _ _ _ _|exact Kd.cW _ _ _ _ _|exact Kd.cX _ _ _ _ _,by first|exact Kd.cQ _ _ _ _ _|exact Kd.cY _ _ _ _ _|exact Kd.cZ _ _ _ _ _|exact Kd.cW _ _ _ _ _|exact Kd.cX _ _ _ _ _,by first|exact Kd.cQ _ _ _ _ _|exact Kd.cY _ _ _ _ _|exact Kd.cZ _ _ _ _ _|exact Kd.cW _ _ _ _ _|exact Kd.cX _ _ _ _ _,aW HB ik jZ⟩
   replace c17:=dW.mpr c17;subst c17;rw[if_neg cg]at H;replace H:=He.mp H;obtain⟨⟨jC,jv,a9x⟩,HX,H⟩:=H
   try dsimp only at H
   have fR:=Ah HX;clear HX
   by_cases c21:a9x=true
   rotate_left
   ·
    replace c21:=dW.mpr c21;subst c21;rw[if_neg cg]at H;simp only[fc,oe]at H;obtain⟨rfl,rfl,rfl,rfl,rfl⟩:=H;have VQ:=jL.out;have VR:=tJ.out;obtain⟨a1z,a1A,hcz46_2,hcz46_3⟩:=b0 dd;obtain⟨a1B,a1C,hfz46_2,hfz46_3⟩:=b5 dd
    go_wp2_with (first|((with_reducible refine ap (f:=22) rfl ?_);refine gL (some 28) rfl rfl Try.func22 (by kernel_rfl) rfl #[.agg #[.slice ag X.length ah,.slice ai J.length af],.slice A1 l1.length c1] rfl ?_;(with_reducible refine(fd.calls Hy _ _ X _ _ J _ _ l1 jC jv false _ ?aE ?aG ?aZ ?ab ?bT ?bc fR.out).mono ?_);(case aE=>exact cb cN HB);(case aG=>exact cR.out);(case aZ=>exact cb cI HB);(case ab=>exact ca.out);(case bT=>exact cb HR1 HB);(case bc=>exact kr.out);rintro e w47 ⟨a9y,a9z,rfl,ho0,ho1,hb⟩;refine⟨_,rfl, ?_⟩;have jr:=Ah (Kd.bD ho0 (bJ (aW HB ik jZ)));have ki:=Ah (Kd.bD ho1 (bJ (aW HB ik jZ)));replace dd:=nb dd hb;replace eG:=nb eG hb;replace HB:=Ah (aJ (aW HB ik jZ) hb);(try clear hb ho0 ho1))|((with_reducible refine ao (N:=8) rfl ?_);(try(refine dM (by rfl) ?_;dsimp only));refine az 8 26 #[.slice none 0 0,.slice none 0 0] ?_;intro kH hg w48 il hb;replace jr:=nr jr hb;replace ki:=nr ki hb;have a6I:=gw hg (aW HB ik jZ);have vm:=gw hg (aW HB ik jZ);replace HB:=Ah (aJ (aW HB ik jZ) hb);have IM:=nn dd hg;have Lx:=nm dd hg;replace dd:=nb dd hb;have sO:=nn eG hg;have nA:=nm eG hg;replace eG:=nb eG hb;clear hb hg;obtain⟨zl,zm,Q0⟩:=Kd.al jr.out;subst Q0;have Uv:=Lx.out;have Uw:=IM.out;have WB:=nA.out;have WC:=sO.out;obtain⟨E9,EA⟩:=bN il;obtain⟨EB,EC⟩:=bI il;obtain⟨Ao53,co53,a9A⟩:=Kd.al ki.out;subst a9A;obtain⟨a1T,a1U,a1V,a1W⟩:=b0 eG;obtain⟨a1X,a1Y,a1Z,a10⟩:=b5 eG))
    refine bodyPost_ret (gG rfl _ _ eo 28 #[.slice none 0 0,.slice none 0 0,.slice none 0 0,.int .i64 0] (0,0) _ rfl (by(with_reducible repeat(first|refine a9 ?_ _|refine U ?_|refine Z ?_ _));refine aN (cs:= #[.slice none 0 0,.slice none 0 0,.slice none 0 0,.int .i64 0]) ?_ 3 _ rfl;(with_reducible repeat(first|refine a9 ?_ _|refine U ?_|refine Z ?_ _));refine aN (cs:= #[.slice none 0 0,.slice none 0 0,.slice none 0 0,.int .i64 0]) ?_ 2 _ rfl;(with_reducible repeat(first|refine a9 ?_ _|refine U ?_|refine Z ?_ _));refine aN (cs:= #[.slice none 0 0,.slice none 0 0,.slice none 0 0,.int .i64 0]) ?_ 1 _ rfl;(with_reducible repeat(first|refine a9 ?_ _|refine U ?_|refine Z ?_ _));refine aN (cs:= #[.slice none 0 0,.slice none 0 0,.slice none 0 0,.int .i64 0]) ?_ 0 _ rfl;(with_reducible repeat(first|refine a9 ?_ _|refine U ?_|refine Z ?_ _));refine cS ?_ sO.out _;(with_reducible repeat(first|refine a9 ?_ _|refine U ?_|refine Z ?_ _));refine cS ?_ sO.out _;(with_reducible repeat(first|refine a9 ?_ _|refine U ?_|refine Z ?_ _));exact eG.out) wd rfl (by kernel_rfl)) rfl ?_;exact⟨_,_,_,er,by first|exact Kd.cQ _ _ _ _ _|exact Kd.cY _ _ _ _ _|exact Kd.cZ _ _ _ _ _|exact Kd.cW _ _ _ _ _|exact Kd.cX _ _ _ _ _,by first|exact Kd.cQ _ _ _ _ _|exact Kd.cY _ _ _ _ _|exact Kd.cZ _ _ _ _ _|exact Kd.cW _ _ _ _ _|exact Kd.cX _ _ _ _ _,by first|exact Kd.cQ _ _ _ _ _|exact Kd.cY _ _ _ _ _|exact Kd.cZ _ _ _ _ _|exact Kd.cW _ _ _ _ _|exact Kd.cX _ _ _ _ _,be HB ik jZ vm⟩
   subst c21;rw[if_pos rfl]at H;obtain⟨wU,Fx⟩:∃y_:List ByteArray,y_=(([]:List ByteArray)):=⟨_,rfl⟩
   replace H:(if 0≤a2 then(if a2≤(aD.length:Int)then(if wU.length+(aD.take (a2:Int).toNat).length<8796093022208 then(some (jC,jv,(wU++(aD.take (a2:Int).toNat)),a2,true))else(none))else(none))else(none))=some (r1,r2,r3,r4,r5):=by first|(rw[Fx];with_reducible exact H)|(have ak:=(Option.bind_some _ _).symm.trans H;rw[Fx];with_reducible exact ak)|(have ak:=(Option.bind_some _ _).symm.trans H;with_reducible exact ak)|with_reducible exact H|(rw[Fx];exact H)|exact H
   have Wp:=Ah Fx;clear Fx
   by_cases jF:0≤a2
   rotate_left
   ·
    rw[if_neg jF]at H;exact absurd H (by simp)
   rw[if_pos jF]at H;have a6A:=eq_true jF;have a6B:decide (0≤a2)=true:=decide_eq_true jF;clear jF
   by_cases c23:a2≤(aD.length:Int)
   rotate_left
   ·
    rw[if_neg c23]at H;exact absurd H (by simp)
   rw[if_pos c23]at H;have a6C:=eq_true c23;have a6D:decide (a2≤(aD.length:Int))=true:=decide_eq_true c23;clear c23
   by_cases c24:wU.length+(aD.take (a2:Int).toNat).length<8796093022208
   rotate_left
   ·
    rw[if_neg c24]at H;exact absurd H (by simp)
   rw[if_pos c24]at H;have a6J:=Ah c24;clear c24;obtain⟨Ci,Fy⟩:∃y_:List ByteArray,y_=(wU++(aD.take (a2:Int).toNat)):=⟨_,rfl⟩
   replace H:(some (jC,jv,Ci,a2,true))=some (r1,r2,r3,r4,r5):=by first|(rw[Fy];with_reducible exact H)|(have ak:=(Ok _ _).symm.trans H;rw[Fy];with_reducible exact ak)|(have ak:=(Ok _ _).symm.trans H;with_reducible exact ak)|with_reducible exact H|(rw[Fy];exact H)|exact H
   have a6K:=Ah Fy;clear Fy;simp only[fc,oe]at H;obtain⟨rfl,rfl,rfl,rfl,rfl⟩:=H;have KQ:=jL.out;have KR:=tJ.out;obtain⟨uy,uz,JG,JH⟩:=b0 dd;obtain⟨vA,vB,JI,JJ⟩:=b5 dd
   try go_wp2_with (first|((with_reducible refine ap (f:=22) rfl ?_);refine gL (some 28) rfl rfl Try.func22 (by kernel_rfl) rfl #[.agg #[.slice ag X.length ah,.slice ai J.length af],.slice A1 l1.length c1] rfl ?_;(with_reducible refine(fd.calls Hy _ _ X _ _ J _ _ l1 jC jv true _ ?aE ?aG ?aZ ?ab ?bT ?bc fR.out).mono ?_);(case aE=>exact cb cN HB);(case aG=>exact cR.out);(case aZ=>exact cb cI HB);(case ab=>exact ca.out);(case bT=>exact cb HR1 HB);(case bc=>exact kr.out);rintro e Cq ⟨a9y,a9z,rfl,ho0,ho1,hb⟩;refine⟨_,rfl, ?_⟩;have jr:=Ah (Kd.bD ho0 (bJ (aW HB ik jZ)));have ki:=Ah (Kd.bD ho1 (bJ (aW HB ik jZ)));replace dd:=nb dd hb;replace eG:=nb eG hb;replace HB:=Ah (aJ (aW HB ik jZ) hb);(try clear hb ho0 ho1))|((with_reducible refine ao (N:=8) rfl ?_);(try(refine dM (by rfl) ?_;dsimp only));refine az 8 26 #[.slice none 0 0,.slice none 0 0] ?_;intro kH hg lD il hb;replace jr:=nr jr hb;replace ki:=nr ki hb;have a6I:=gw hg (aW HB ik jZ);have vm:=gw hg (aW HB ik jZ);replace HB:=Ah (aJ (aW HB ik jZ) hb);have IM:=nn dd hg;have Lx:=nm dd hg;replace dd:=nb dd hb;have sO:=nn eG hg;have nA:=nm eG hg;replace eG:=nb eG hb;clear hb hg;obtain⟨cd,ce,zy⟩:=Kd.al jr.out;subst zy;have KM:=Lx.out;have KN:=IM.out;have Oa:=nA.out;have Ob:=sO.out;obtain⟨Dy,Dz⟩:=bN il;obtain⟨E0,E1⟩:=bI il;obtain⟨dR,dS,HI⟩:=Kd.al ki.out;subst HI))
   have aY:aC (Kd.R Kd.string 9 ((lD.setCell ⟨kH,0,none⟩ (.slice cd jC.length ce)).setCell ⟨kH,1,none⟩ (.slice dR jv.length dS)) w.heap.size (fun _=>True) (.slice cd jC.length ce) jC):=⟨by(with_reducible repeat(first|apply Kd.aw|apply Kd.ax|apply Kd.aa));exact Kd.aK (Kd.aA (p:=⟨kH,1,none⟩) (Kd.aA (p:=⟨kH,0,none⟩) (Kd.b7 jr.out il.out (by decide)) (fun _ hk=>hk.2) (.slice cd jC.length ce)) (fun _ hk=>hk.2) (.slice dR jv.length dS)) (fun _ hk=>trivial)⟩;have aX:aC (Kd.R bS 64 ((lD.setCell ⟨kH,0,none⟩ (.slice cd jC.length ce)).setCell ⟨kH,1,none⟩ (.slice dR jv.length dS)) w.heap.size (fun _=>True) (.slice dR jv.length dS) jv):=⟨by(with_reducible repeat(first|apply Kd.aw|apply Kd.ax|apply Kd.aa));exact Kd.aK (Kd.aA (p:=⟨kH,1,none⟩) (Kd.aA (p:=⟨kH,0,none⟩) (Kd.b7 ki.out il.out (by decide)) (fun _ hk=>hk.2) (.slice cd jC.length ce)) (fun _ hk=>hk.2) (.slice dR jv.length dS)) (fun _ hk=>trivial)⟩;have ae:aC (((lD.setCell ⟨kH,0,none⟩ (.slice cd jC.length ce)).setCell ⟨kH,1,none⟩ (.slice dR jv.length dS)).heap[C1]?=some (.cells #[.slice ag X.length ah,.slice ai J.length af,.slice bP aD.length bQ,.int .i64 aI] 28 (0,0))):=⟨bf dd IM⟩;have aq:aC (((lD.setCell ⟨kH,0,none⟩ (.slice cd jC.length ce)).setCell ⟨kH,1,none⟩ (.slice dR jv.length dS)).heap[eo]?=some (.cells #[.slice none 0 0,.slice none 0 0,.slice none 0 0,.int .i64 0] 28 (0,0))):=⟨bf eG sO⟩;have bF:aC (((lD.setCell ⟨kH,0,none⟩ (.slice cd jC.length ce)).setCell ⟨kH,1,none⟩ (.slice dR jv.length dS)).heap[kH]?=some (.cells #[.slice cd jC.length ce,.slice dR jv.length dS] 26 (0,0))):=⟨by(with_reducible repeat(first|refine a9 ?_ _|refine U ?_|refine Z ?_ _));refine aN (cs:= #[.slice cd jC.length ce,.slice none 0 0]) ?_ 1 _ rfl;(with_reducible repeat(first|refine a9 ?_ _|refine U ?_|refine Z ?_ _));refine aN (cs:= #[.slice none 0 0,.slice none 0 0]) ?_ 0 _ rfl;(with_reducible repeat(first|refine a9 ?_ _|refine U ?_|refine Z ?_ _));exact il.out⟩;have bO:aC (Below w.heap.size w ((lD.setCell ⟨kH,0,none⟩ (.slice cd jC.length ce)).setCell ⟨kH,1,none⟩ (.slice dR jv.length dS))):=⟨be HB ik jZ vm⟩;(try clear jr);(try clear ki);(try clear dd);(try clear eG);(try clear il);(try clear HB)
   generalize ((lD.setCell ⟨kH,0,none⟩ (.slice cd jC.length ce)).setCell ⟨kH,1,none⟩ (.slice dR jv.length dS))=Hu at aY aX ae aq bF bO⊢
   have jr:=aY;have ki:=aX;have dd:=ae;have eG:=aq;have il:=bF;have HB:=bO;clear aY aX ae aq bF bO;have aY:=Ah (Kd.aa jr.out);have aX:=Ah (Kd.aa ki.out);have ae:=Ah (U dd.out);have aq:=Ah (U eG.out);have bF:=Ah (U il.out);have bO:=Ah (ia HB.out);clear jr ki dd eG il HB;have jr:=aY;have ki:=aX;have dd:=ae;have eG:=aq;have il:=bF;have HB:=bO;clear aY aX ae aq bF bO;obtain⟨Xw,vZ,_,vk,_⟩:=info_parts ll;obtain⟨UZ,wM,wN⟩:=Ae (P:=t5) Value.string (⟨#[]⟩:ByteArray) 23 9 .i64 aat vZ vk bP bQ aD a2 (od) (od) eK.out;have Ow:=Ah (Kd.wj (h1:=fun _=>rfl) (wM _ (Kd.sM dr.out)));have HC695:=Ah wN;clear wM wN vZ vk;refine k9 (n:=11) (S:=fun w'=>w'.cell? ⟨kH,0,none⟩=some (.slice cd jC.length ce)∧w'.cell? ⟨kH,1,none⟩=some (.slice dR jv.length dS)∧w'.cell? ⟨C1,0,none⟩=some (.slice ag X.length ah)∧w'.cell? ⟨C1,1,none⟩=some (.slice ai J.length af)∧w'.cell? ⟨C1,2,none⟩=some (.slice bP aD.length bQ)∧w'.cell? ⟨C1,3,none⟩=some (.int .i64 aI)) (ds:=[]) #[false,false,false,false,false,false,false,false,false,false,false] (by kernel_rfl) rfl rfl ⟨(aQ il.out 0).trans rfl,(aQ il.out 1).trans rfl,(aQ dd.out 0).trans rfl,(aQ dd.out 1).trans rfl,(aQ dd.out 2).trans rfl,(aQ dd.out 3).trans rfl⟩ (fun hHeld=> ?_);refine kS f8.wA f8.vI (fun aU dT=> ?_)
   generalize Hu.drew=Hh at jr ki dd eG il HB Ow hHeld⊢
   refine b8 2 36 aU.out ?_;refine b8 4 38 aU.out ?_;refine b8 7 41 aU.out ?_;refine fZ 0 34 aU.out dT.out hHeld (hr:=by rintro w' ⟨s0,s1,s2,s3,s4,s5⟩;go_simp;with_reducible rfl) (h:= ?_);refine fZ 3 37 aU.out dT.out hHeld (hr:=by rintro w' ⟨s0,s1,s2,s3,s4,s5⟩;go_simp;with_reducible rfl) (h:= ?_);refine b8 5 39 aU.out ?_;refine e5 (i:=1) (N:=some 35) #[true,true,true,true,true,true,false,true,false,false,false] rfl rfl (dz aU.out (by kernel_rfl)) (by decide) (fun K hK=> ?_);refine Kd.Re Kd.string _ 9 ?hg (N:=35) ?hd (xs:=([]:List ByteArray)) (inner:=[]) (ok:=fun _=>True) (okp:=fun _=>True) ?hr ?hp (fun _ hk=>hk) trivial (Below.refl _ _) (Nat.le_refl _) (by simp) ?_;(case hd=>rfl);(case hg=>rfl);(case hr=>first|(go_simp;done)|(go_simp;rfl));(case hp=>exact(bv.none _ _));intro a9B ub oX hb gf gX;clear gf gX;(first|rw[←Wp.out]at oX|(simp only[Int.reduceToNat]at oX;rw[←Wp.out]at oX));have aY:=Ah (Kd.cV (rr jr.out) (Kd.ar oX) hb);have aX:=Ah (Kd.eD (rr ki.out) hb);have ae:=Ah (Kd.bD (Kd.av oX (Kd.an (rr jr.out))) (bJ (be HB ik jZ vm)));have aq:=Ah (bb dd hb);have bF:=Ah (bb eG hb);have bO:=Ah (bb il hb);have bl:=Ah (aJ (be HB ik jZ vm) hb);clear jr ki dd eG il HB;have jr:=aY;have ki:=aX;have C2:=ae;have dd:=aq;have eG:=bF;have il:=bO;have HB:=bl;clear aY aX ae aq bF bO bl hb oX;refine hK.out _ _ ⟨(aQ il.out 0).trans rfl,(aQ il.out 1).trans rfl,(aQ dd.out 0).trans rfl,(aQ dd.out 1).trans rfl,(aQ dd.out 2).trans rfl,(aQ dd.out 3).trans rfl⟩ (fun hHeld=> ?_);clear hK K;refine ej (a':= ?_) ?_ ?_;rotate_left
   ·
    show aaa _ (some 35) _=_
    simp only[aaa,JM,jG,kt,dD,dP]
    rfl
   refine e5 (i:=6) (N:=some 40) #[true,true,true,true,true,true,true,true,false,false,false] rfl rfl (dz aU.out (by kernel_rfl)) (by decide) (fun K hK=> ?_);refine Kd.RK Kd.string (w0:=w) w.heap.size (by rfl) (.tmp 35) (.tmp 39) 23 9 (.string ⟨#[]⟩) 16 rfl aat ll rfl (by decide) (by omega) a9B wU (aD.take (a2:Int).toNat) _ _ _ (fun k_=>some k_≠(.slice cd jC.length ce:Value).ownBlock) (fun _=>False) rfl rfl ?aO ?aR (fun _ _ h=>h) (fun _ h=>h.elim) ?aF ?aB ?aS ?aL ?_;(case aR=>first|(exact cbn Ow HB (show(aD.take (a2:Int).toNat).length=a2.toNat from(by rw[bx];have h_:(a2:Int)≤(aD.length:Int):=od;omega)))|(exact cb Ow HB));(case aB=>exact(be HB ik jZ vm));(case aF=>exact(fun k_ hk=>Kd.fresh' (Kd.an (rr jr.out)) k_ hk));(case aO=>exact(by(with_reducible repeat(first|apply Kd.aw|apply Kd.ax|apply Kd.aa));exact Kd.aK C2.out (fun _ hk=>hk.2)));(case aS=>exact(bJ (be HB ik jZ vm)));(case aL=>have:=a6J.out;have a9a:=(show(aD.take (a2:Int).toNat).length=a2.toNat from(by rw[bx];have h_:(a2:Int)≤(aD.length:Int):=od;omega));omega);intro v697 sH ho hb hg hat;rw[←a6K.out]at ho;have aY:=Ah (fx (bk dd) hg (Kd.fM C2.out dd.out (by decide)));have aX:=Ah (fx (bk eG) hg (Kd.fM C2.out eG.out (by decide)));have ae:=Ah (Kd.un (ok:=(fun _=>True)) (rr jr.out) hg hat);have aq:=Ah (Kd.o3 (rr ki.out) (Kd.o1 (rr C2.out)) (by decide) hg);have bF:=Ah (fx (bk il) hg (Kd.fM C2.out il.out (by decide)));have bO:=Ah (hb);have bl:=Ah (ho);clear dd eG jr ki il HB C2;have dd:=aY;have eG:=aX;have jr:=ae;have ki:=aq;have il:=bF;have HB:=bO;have Wq:=bl;clear aY aX ae aq bF bO bl ho hb hg hat;obtain⟨s7,s8,HF⟩:=Kd.al Wq.out;(first|subst HF|(injection HF with dU fS dV;have fT:=dU.symm;have fU:=dV.symm;clear dU fS dV;subst fT;subst fU));refine hK.out _ _ ⟨(aQ il.out 0).trans rfl,(aQ il.out 1).trans rfl,(aQ dd.out 0).trans rfl,(aQ dd.out 1).trans rfl,(aQ dd.out 2).trans rfl,(aQ dd.out 3).trans rfl⟩ (fun hHeld=> ?_);clear hK K;refine ej (a':= ?_) ?_ ?_;rotate_left
   ·
    show aaa _ (some 40) _=_
    simp only[aaa,JM,jG,kt,dD,dP]
    rfl
   refine b8 8 42 aU.out ?_;refine e5 (i:=9) (N:=none) #[true,true,true,true,true,true,true,true,true,true,false] rfl rfl (dz aU.out (by kernel_rfl)) (by decide) (fun K hK=> ?_);have Xx:sH.cell? ⟨eo,0,none⟩=some (.slice none 0 0):=(aQ eG.out 0).trans rfl;have WV:=d5 eG.out 0;have U6:=jL.out;have U7:=nA.out;have U8:=tJ.out;have U9:=sO.out;have QQ:sH.cell? ⟨eo,1,none⟩=some (.slice none 0 0):=(aQ eG.out 1).trans rfl;have Of:=d5 eG.out 1;have UA:=jL.out;have UB:=nA.out;have UC:=tJ.out;have UD:=sO.out;have a9b:sH.cell? ⟨eo,2,none⟩=some (.slice none 0 0):=(aQ eG.out 2).trans rfl;have a6b:=d5 eG.out 2;have a2d:=jL.out;have a2e:=nA.out;have a2f:=tJ.out;have a2g:=sO.out;have a9c:sH.cell? ⟨eo,3,none⟩=some (.int .i64 0):=(aQ eG.out 3).trans rfl;have a6c:=d5 eG.out 3;have a2h:=jL.out;have a2i:=nA.out;have a2j:=tJ.out;have a2k:=sO.out;refine pJ (w1:= ?_) (by rfl) rfl ?_ ?_;rotate_left
   ·
    go_simp
    rfl
   refine hK.out _ _ ⟨((ay (p:=⟨eo,_,none⟩) nA.out _).trans (((ay (p:=⟨eo,_,none⟩) nA.out _).trans (((ay (p:=⟨eo,_,none⟩) nA.out _).trans (((ay (p:=⟨eo,_,none⟩) nA.out _).trans (hHeld.1)))))))),((ay (p:=⟨eo,_,none⟩) nA.out _).trans (((ay (p:=⟨eo,_,none⟩) nA.out _).trans (((ay (p:=⟨eo,_,none⟩) nA.out _).trans (((ay (p:=⟨eo,_,none⟩) nA.out _).trans (hHeld.2.1)))))))),((ay (p:=⟨eo,_,none⟩) jL.out _).trans (((ay (p:=⟨eo,_,none⟩) jL.out _).trans (((ay (p:=⟨eo,_,none⟩) jL.out _).trans (((ay (p:=⟨eo,_,none⟩) jL.out _).trans (hHeld.2.2.1)))))))),((ay (p:=⟨eo,_,none⟩) jL.out _).trans (((ay (p:=⟨eo,_,none⟩) jL.out _).trans (((ay (p:=⟨eo,_,none⟩) jL.out _).trans (((ay (p:=⟨eo,_,none⟩) jL.out _).trans (hHeld.2.2.2.1)))))))),((ay (p:=⟨eo,_,none⟩) jL.out _).trans (((ay (p:=⟨eo,_,none⟩) jL.out _).trans (((ay (p:=⟨eo,_,none⟩) jL.out _).trans (((ay (p:=⟨eo,_,none⟩) jL.out _).trans (hHeld.2.2.2.2.1)))))))),((ay (p:=⟨eo,_,none⟩) jL.out _).trans (((ay (p:=⟨eo,_,none⟩) jL.out _).trans (((ay (p:=⟨eo,_,none⟩) jL.out _).trans (((ay (p:=⟨eo,_,none⟩) jL.out _).trans (hHeld.2.2.2.2.2))))))))⟩ (fun hHeld=> ?_);clear hK K;refine b8 10 7 aU.out ?_;refine jp (k7 aU.out (by kernel_rfl)) ?_
   try go_wp2
   refine bodyPost_ret (gG rfl _ _ eo 28 #[.slice cd jC.length ce,.slice dR jv.length dS,.slice s7 Ci.length s8,.int .i64 a2] (0,0) _ rfl (by(with_reducible repeat(first|refine a9 ?_ _|refine U ?_|refine Z ?_ _));refine aN (cs:= #[.slice cd jC.length ce,.slice dR jv.length dS,.slice s7 Ci.length s8,.int .i64 0]) ?_ 3 _ rfl;(with_reducible repeat(first|refine a9 ?_ _|refine U ?_|refine Z ?_ _));refine aN (cs:= #[.slice cd jC.length ce,.slice dR jv.length dS,.slice none 0 0,.int .i64 0]) ?_ 2 _ rfl;(with_reducible repeat(first|refine a9 ?_ _|refine U ?_|refine Z ?_ _));refine aN (cs:= #[.slice cd jC.length ce,.slice none 0 0,.slice none 0 0,.int .i64 0]) ?_ 1 _ rfl;(with_reducible repeat(first|refine a9 ?_ _|refine U ?_|refine Z ?_ _));refine aN (cs:= #[.slice none 0 0,.slice none 0 0,.slice none 0 0,.int .i64 0]) ?_ 0 _ rfl;(with_reducible repeat(first|refine a9 ?_ _|refine U ?_|refine Z ?_ _));exact eG.out) wd rfl (by kernel_rfl)) rfl ?_;exact⟨_,_,_,er,by(with_reducible repeat(first|apply Kd.aw|apply Kd.ax|apply Kd.aa));exact Kd.aK (Kd.aA (p:=⟨eo,3,none⟩) (Kd.aA (p:=⟨eo,2,none⟩) (Kd.aA (p:=⟨eo,1,none⟩) (Kd.aA (p:=⟨eo,0,none⟩) (Kd.b7 jr.out eG.out (by decide)) (fun _ hk=>hk.2) (.slice cd jC.length ce)) (fun _ hk=>hk.2) (.slice dR jv.length dS)) (fun _ hk=>hk.2) (.slice s7 Ci.length s8)) (fun _ hk=>hk.2) (.int .i64 a2)) (fun _ hk=>hk.1.2),by(with_reducible repeat(first|apply Kd.aw|apply Kd.ax|apply Kd.aa));exact Kd.aK (Kd.aA (p:=⟨eo,3,none⟩) (Kd.aA (p:=⟨eo,2,none⟩) (Kd.aA (p:=⟨eo,1,none⟩) (Kd.aA (p:=⟨eo,0,none⟩) (Kd.b7 ki.out eG.out (by decide)) (fun _ hk=>hk.2) (.slice cd jC.length ce)) (fun _ hk=>hk.2) (.slice dR jv.length dS)) (fun _ hk=>hk.2) (.slice s7 Ci.length s8)) (fun _ hk=>hk.2) (.int .i64 a2)) (fun _ hk=>trivial),by(with_reducible repeat(first|apply Kd.aw|apply Kd.ax|apply Kd.aa));exact Kd.aK (Kd.aA (p:=⟨eo,3,none⟩) (Kd.aA (p:=⟨eo,2,none⟩) (Kd.aA (p:=⟨eo,1,none⟩) (Kd.aA (p:=⟨eo,0,none⟩) (Kd.b7 Wq.out eG.out (by decide)) (fun _ hk=>hk.2) (.slice cd jC.length ce)) (fun _ hk=>hk.2) (.slice dR jv.length dS)) (fun _ hk=>hk.2) (.slice s7 Ci.length s8)) (fun _ hk=>hk.2) (.int .i64 a2)) (fun _ hk=>hk.1),be HB ik jZ vm⟩
def Dd.f(a0:Int):Option (Bool):=some true
set_option maxHeartbeats 8000000 in
set_option maxRecDepth 100000 in
theorem Dd.calls(a0:Int)(r:Bool)(w:World)(h:Dd.f a0=some r):
 Calls t5 25 #[.int .i64 a0] w fun e w'=>e= .returned (.bool r)∧cx w w':=by
 have H:(some true)=some r:=h;clear h;obtain rfl:=fl H
 go_enter Try.func25,Try.ntmps25
 go_wp2
 go_ret
 exact⟨by first|rfl|(simp;done)|(simp[*];done),by repeat(first|exact cx.refl _|apply cx.step)⟩
def gE.l0:Nat→List ByteArray→List (S64)→Int→Int→Option (List ByteArray)
 |0,_,_,_,_=>none
 |k+1,x5,iq,dq,iu=>if iu<dq then(if 0≤iu then(if iu<(iq.length:Int)then((Dd.f iu).bind fun Qt=>(if Qt=true then(if 0≤((aH iq iu).f0)then(if((aH iq iu).f0)<(x5.length:Int)then(gE.l0 k (x5.set (((aH iq iu).f0):Int).toNat ((aH iq iu).f1)) iq dq (I0 (iu+1)))else(none))else(none))else(gE.l0 k x5 iq dq (I0 (iu+1)))))else(none))else(none))else(some x5)
def gE.f(k:Nat)(X:List ByteArray)(J:List (S64)):Option (List ByteArray):=(nx.f X).bind fun Cj=>(gE.l0 k Cj J (J.length:Int) 0)
theorem gE.bg:∀k,(∀y0 y1 y2 y3,a8 (gE.l0 k y0 y1 y2 y3) (gE.l0 (k+1) y0 y1 y2 y3))
 |0=>fun _ _ _ _ r h=>by simp[gE.l0]at h
 |k+1=>by
  have bB:=gE.bg k
  ·
   intro y0 y1 y2 y3;unfold gE.l0
   repeat' with_reducible first|exact bB _ _ _ _|exact a8.refl _|exact a8.none _|refine a8.ite ?_ ?_|refine a8.bind ?_ (fun _=> ?_)
theorem gE.mono:∀a0 a1 k,a8 (gE.f k a0 a1) (gE.f (k+1) a0 a1):=by
 intro a0 a1 k;have bB:=gE.bg k;unfold gE.f
 repeat' with_reducible first|exact bB _ _ _ _|exact a8.refl _|exact a8.none _|refine a8.ite ?_ ?_|refine a8.bind ?_ (fun _=> ?_)
set_option maxHeartbeats 8000000 in
set_option maxRecDepth 100000 in
theorem gE.calls(k:Nat)(ag:Option Addr)(ah:Nat)(X:List ByteArray)(ai:Option Addr)(af:Nat)(J:List (S64))(r:List ByteArray)(w:World)(dG:Kd.C Kd.string w ag X.length X)(dH:X.length≤ah)(dI:Kd.C bS w ai J.length J)(dJ:J.length≤af)(h:gE.f k X J=some r):
 Calls t5 24 #[.agg #[.slice ag X.length ah,.slice ai J.length af],.func (.func 25) #[] #[]] w fun e w'=>∃bh:Value,e= .returned (bh)∧Kd.R Kd.string 9 w' w.heap.size (fun _=>True) bh r∧Below w.heap.size w w':=by
 have kj:=aae;have hu64:=aah;have cN:=Ah dG;have cR:=Ah dH;clear dG dH;have cI:=Ah dI;have ca:=Ah dJ;clear dI dJ;have HB:=Ah (pv w.heap.size w);have H:((nx.f X).bind fun Cj=>(gE.l0 k Cj J (J.length:Int) 0))=some r:=h;clear h;replace H:=He.mp H;obtain⟨Cj,de,H⟩:=H
 try dsimp only at H
 have A3:=Ah de;clear de;have H':=Ah H;clear H
 go_enter Try.func24,Try.ntmps24
 go_wp2_with (first|((with_reducible refine ao (N:=2) rfl ?_);refine az 2 26 #[.slice ag X.length ah,.slice ai J.length af] ?_;intro Ox hg w4 im hb;have GW699:=gw hg (bs HB);have oJ:=gw hg (bs HB);replace HB:=Ah (aJ (bs HB) hb);clear hb hg;obtain⟨EJ,JT⟩:=bN im;obtain⟨JV,JU⟩:=bI im)|((with_reducible refine ap (f:=19) rfl ?_);refine gL (some 10) rfl rfl Try.func19 (by kernel_rfl) rfl #[.slice ag X.length ah] rfl ?_;(with_reducible refine(nx.calls _ _ X Cj _ ?aE ?aG A3.out).mono ?_);(case aE=>exact cb cN HB);(case aG=>exact cR.out);rintro e w6 ⟨Qu,rfl,ho0,hb⟩;refine⟨_,rfl, ?_⟩;have a6L:=Ah (Kd.bD ho0 (bJ (aM HB oJ)));replace im:=nb im hb;replace HB:=Ah (aJ (aM HB oJ) hb);(try clear hb ho0);obtain⟨nD,nE⟩:=bN im;obtain⟨nF,nG⟩:=bI im))
 go_loopg [14] k (fun kq v14 w'=>∃ (bd:List ByteArray) (bu:Int),v14= .int .i64 bu∧aC (gE.l0 kq bd J (J.length:Int) bu=some r)∧aC (kq≤k)∧aC (Kd.R Kd.string 9 w' w.heap.size (fun _=>True) Qu bd)∧aC (w'.heap[Ox]?=some (.cells #[(.slice ag X.length ah),(.slice ai J.length af)] 26 (0,0)))∧aC (Below w.heap.size w w'))
 case atStart=>exact⟨(Cj),(0),e3,H',⟨mz _⟩,⟨rr a6L.out⟩,⟨bk im⟩,⟨aM HB oJ⟩⟩
 case round=>
  clear H'
  try clear c1
  try clear c2
  try clear p2
  try clear EJ JT
  try clear nD nE
  try clear JV JU
  try clear nF nG
  obtain⟨bd,bu,rfl,HA,bY,bH,im,HB⟩:=hrel
  cases gk with
  |zero=>exact absurd HA.out (by simp[gE.l0])
  |succ k1=>
   have H:=HA.out;clear HA;simp only[gE.l0]at H
   by_cases c8:bu<(J.length:Int)
   rotate_left
   ·
    rw[if_neg c8]at H;have ls:decide (bu<(J.length:Int))=false:=decide_eq_false c8;clear c8;obtain rfl:=fl H
    go_wp2
    go_ret
    exact⟨_,er,by(with_reducible repeat(first|apply Kd.aw|apply Kd.ax|apply Kd.aa));exact bH.out,aM HB oJ⟩
   rw[if_pos c8]at H;have ls:decide (bu<(J.length:Int))=true:=decide_eq_true c8;clear c8
   by_cases c9:0≤bu
   rotate_left
   ·
    rw[if_neg c9]at H;exact absurd H (by simp)
   rw[if_pos c9]at H;have qU:decide (0≤bu)=true:=decide_eq_true c9;clear c9
   by_cases c10:bu<(J.length:Int)
   rotate_left
   ·
    rw[if_neg c10]at H;exact absurd H (by simp)
   rw[if_pos c10]at H;have yM:decide (bu<(J.length:Int))=true:=decide_eq_true c10;clear c10;replace H:=He.mp H;obtain⟨Qt,uK,H⟩:=H
   try dsimp only at H
   have Hs:=Ah uK;clear uK
   by_cases c12:Qt=true
   rotate_left
   ·
    replace c12:=dW.mpr c12;subst c12;rw[if_neg cg]at H;have H':=Ah H;clear H;have AO:0≤(bu:Int):=od;have AP:bu<(J.length:Int):=od;obtain⟨Oy,Qv,xq,xr⟩:=g8 cI.out bu AO AP
    cases Qv
    replace xq:=(HB.out.cell (I1 w _ xq)).trans xq;replace xr:=(HB.out.cell (I1 w _ xr)).trans xr;replace AO:=eq_true AO;replace AP:=eq_true AP
    go_wp2_with (first|((with_reducible refine ao (N:=7) rfl ?_);refine az 7 64 #[.int .i64 0,.string (⟨#[]⟩:ByteArray)] ?_;intro uG hg sG lr hb;replace bH:=nr bH hb;have a6M:=gw hg (aM HB oJ);have Fz:=gw hg (aM HB oJ);replace HB:=Ah (aJ (aM HB oJ) hb);have Da:=nn im hg;have Ly:=nm im hg;replace im:=nb im hb;clear hb hg;have a6x:=Ly.out;have a6y:=Da.out;obtain⟨ML,MM⟩:=bN lr;obtain⟨MN,MO⟩:=bI lr)|((with_reducible refine qA (t:=19) rfl ?_);refine qL (some 21) rfl rfl Try.func25 (by kernel_rfl) rfl #[.int .i64 bu] rfl rfl (by(try simp only[aab,aad,aaf]);first|done|rfl|(simp only[qh,bx];rfl)) ?_;(with_reducible refine(Dd.calls bu false _ Hs.out).mono ?_);rintro e w' ⟨rfl,⟨nd,rfl⟩⟩;refine⟨_,rfl, ?_⟩))
    go_roundg k1
    case measure=>have:=bY.out;omega
    case rel=>exact⟨(bd),(I0 (bu+1)),e3,H',⟨by have:=bY.out;omega⟩,⟨by(with_reducible repeat(first|apply Kd.aw|apply Kd.ax|apply Kd.aa));exact Kd.aK (Kd.aA (p:=⟨uG,1,none⟩) (Kd.aA (p:=⟨uG,0,none⟩) (Kd.b7 bH.out lr.out (by decide)) (fun _ hk=>hk.2) (.int .i64 ((aH J bu).f0))) (fun _ hk=>hk.2) (.string ((aH J bu).f1))) (fun _ hk=>trivial)⟩,⟨bf im Da⟩,⟨aW HB oJ Fz⟩⟩
   subst c12;rw[if_pos rfl]at H
   by_cases c13:0≤((aH J bu).f0)
   rotate_left
   ·
    rw[if_neg c13]at H;exact absurd H (by simp)
   rw[if_pos c13]at H;have c13b0:decide (0≤((aH J bu).f0))=true:=decide_eq_true c13;clear c13
   by_cases c14:((aH J bu).f0)<(bd.length:Int)
   rotate_left
   ·
    rw[if_neg c14]at H;exact absurd H (by simp)
   rw[if_pos c14]at H;have Ea:decide (((aH J bu).f0)<(bd.length:Int))=true:=decide_eq_true c14;clear c14;obtain⟨Qw,G0⟩:∃y_:List ByteArray,y_=(bd.set (((aH J bu).f0):Int).toNat ((aH J bu).f1)):=⟨_,rfl⟩
   replace H:(gE.l0 k1 Qw J (J.length:Int) (I0 (bu+1)))=some r:=by first|(rw[G0];with_reducible exact H)|(have ak:=(Ok _ _).symm.trans H;rw[G0];with_reducible exact ak)|(have ak:=(Ok _ _).symm.trans H;with_reducible exact ak)|with_reducible exact H|(rw[G0];exact H)|exact H
   have a6N:=Ah G0;clear G0;have H':=Ah H;clear H;have AO:0≤(bu:Int):=od;have AP:bu<(J.length:Int):=od;obtain⟨Oy,Qv,xq,xr⟩:=g8 cI.out bu AO AP
   cases Qv
   replace xq:=(HB.out.cell (I1 w _ xq)).trans xq;replace xr:=(HB.out.cell (I1 w _ xr)).trans xr;replace AO:=eq_true AO;replace AP:=eq_true AP
   go_wp2_with (first|((with_reducible refine ao (N:=7) rfl ?_);refine az 7 64 #[.int .i64 0,.string (⟨#[]⟩:ByteArray)] ?_;intro uG hg w16 lr hb;replace bH:=nr bH hb;have a6M:=gw hg (aM HB oJ);have Fz:=gw hg (aM HB oJ);replace HB:=Ah (aJ (aM HB oJ) hb);have Da:=nn im hg;have Ly:=nm im hg;replace im:=nb im hb;clear hb hg;have hnb17:=Ly.out;have hnc17:=Da.out;obtain⟨B0,B2⟩:=bN lr;obtain⟨B9,BA⟩:=bI lr)|((with_reducible refine t8 (t:=64) (p:=7) rfl ?_);refine t7 (t:=64) (p:=7) (v:= ?vo_w19) (w1:=((w16.setCell ⟨uG,0,none⟩ (.int .i64 ((aH J bu).f0))).setCell ⟨uG,1,none⟩ (.string ((aH J bu).f1)))) ?hg ?ho ?hn ?hr ?_;(case ho=>rfl);(case hg=>rfl);(case hn=>rfl);(case hr=>first|(go_simp;done)|(go_simp;rfl));intro kR hw;have aY:aC (Kd.R Kd.string 9 kR w.heap.size (fun _=>True) Qu bd):=⟨(by rw[hw];exact(by(with_reducible repeat(first|apply Kd.aw|apply Kd.ax|apply Kd.aa));exact Kd.aK (Kd.aA (p:=⟨uG,1,none⟩) (Kd.aA (p:=⟨uG,0,none⟩) (Kd.b7 bH.out lr.out (by decide)) (fun _ hk=>hk.2) (.int .i64 ((aH J bu).f0))) (fun _ hk=>hk.2) (.string ((aH J bu).f1))) (fun _ hk=>trivial)))⟩;have aX:aC (kR.heap[Ox]?=some (.cells #[.slice ag X.length ah,.slice (some Oy) J.length af] 26 (0,0))):=⟨(by rw[hw];exact(bf im Da))⟩;have ae:aC (kR.heap[uG]?=some (.cells #[.int .i64 ((aH J bu).f0),.string ((aH J bu).f1)] 64 (0,0))):=⟨(by rw[hw];exact(by(with_reducible repeat(first|refine a9 ?_ _|refine U ?_|refine Z ?_ _));refine aN (cs:= #[.int .i64 ((aH J bu).f0),.string (⟨#[]⟩:ByteArray)]) ?_ 1 _ rfl;(with_reducible repeat(first|refine a9 ?_ _|refine U ?_|refine Z ?_ _));refine aN (cs:= #[.int .i64 0,.string (⟨#[]⟩:ByteArray)]) ?_ 0 _ rfl;(with_reducible repeat(first|refine a9 ?_ _|refine U ?_|refine Z ?_ _));exact lr.out))⟩;have aq:aC (Below w.heap.size w kR):=⟨(by rw[hw];exact(aW HB oJ Fz))⟩;clear hw;clear bH;clear im;clear lr;clear HB;have bH:=aY;have im:=aX;have lr:=ae;have HB:=aq;clear aY aX ae aq)|((with_reducible refine qA (t:=19) rfl ?_);refine qL (some 21) rfl rfl Try.func25 (by kernel_rfl) rfl #[.int .i64 bu] rfl rfl (by(try simp only[aab,aad,aaf]);first|done|rfl|(simp only[qh,bx];rfl)) ?_;(with_reducible refine(Dd.calls bu true _ Hs.out).mono ?_);rintro e w' ⟨rfl,⟨nd,rfl⟩⟩;refine⟨_,rfl, ?_⟩;(try(rw[D8 kR];generalize iC:World.drewN kR _=kR;have aY:aC (Kd.R Kd.string 9 kR w.heap.size (fun _=>True) Qu bd):=⟨by rw[←iC];exact(rr bH.out)⟩;have aX:aC (kR.heap[Ox]?=some (.cells #[.slice ag X.length ah,.slice (some Oy) J.length af] 26 (0,0))):=⟨by rw[←iC];exact(bk im)⟩;have ae:aC (kR.heap[uG]?=some (.cells #[.int .i64 ((aH J bu).f0),.string ((aH J bu).f1)] 64 (0,0))):=⟨by rw[←iC];exact(bk lr)⟩;have aq:aC (Below w.heap.size w kR):=⟨by rw[←iC];exact(aW HB oJ Fz)⟩;clear bH im lr HB iC;have bH:=aY;have im:=aX;have lr:=ae;have HB:=aq;clear aY aX ae aq));obtain⟨xP,xQ⟩:=bN lr;obtain⟨ut,uu⟩:=bI lr;have RH:0≤(((aH J bu).f0):Int):=od;have RI:(((aH J bu).f0):Int)<((bd.length:Int):Int):=od;obtain⟨Qx,jb,oK,YJ,a9C,cl15,YK⟩:=Kd.JP bH.out (by omega);(first|cases oK|(injection oK with lY AW AX;(first|subst lY|(injection lY with lY;subst lY));subst AX;clear AW));have a9D:=Ah YJ;have GG15:=Ah YK;clear YJ a9C YK;obtain⟨hx15_0,hf15_0⟩:=Kd.uq (⟨#[]⟩:ByteArray) bH.out (((aH J bu).f0):Int) RH RI;replace RH:=eq_true RH;replace RI:=eq_true RI;obtain⟨hy21_,hz21_⟩:=Kd.uq (⟨#[]⟩:ByteArray) bH.out (((aH J bu).f0):Int) (od) (od);have Qy:=Kd.JQ bH.out (((aH J bu).f0):Int) ((aH J bu).f1))|((with_reducible refine t8 (t:=9) (p:=27) rfl ?_);refine t7 (t:=9) (p:=27) (v:= ?vo_w22) (w1:=(kR.setCell ⟨Qx,(((aH J bu).f0):Int).toNat,none⟩ (.string ((aH J bu).f1)))) ?hg ?ho ?hn ?hr ?_;(case ho=>rfl);(case hg=>rfl);(case hn=>rfl);(case hr=>first|(go_simp;done)|(go_simp;rfl));intro pr hw;have hg:kR.grownBy pr (some Qx):=(by rw[hw];exact Qy.2);have sI:Kd.R Kd.string 9 pr w.heap.size (fun _=>True) (.slice (some ⟨Qx,0,none⟩) bd.length jb) Qw:=(by rw[hw,a6N.out];exact Qy.1);clear Qy;replace im:=Ah (fx (bk im) hg (Kd.fM bH.out im.out (by decide)));replace lr:=Ah (fx (bk lr) hg (Kd.fM bH.out lr.out (by decide)));replace bH:=Ah (sI);replace HB:=Ah ((by rw[hw];exact t9 (HB.out) a9D.out:Below w.heap.size w pr));clear hg hw sI))
   go_roundg k1
   case measure=>have:=bY.out;omega
   case rel=>exact⟨(Qw),(I0 (bu+1)),e3,H',⟨by have:=bY.out;omega⟩,⟨rr bH.out⟩,⟨bk im⟩,⟨aW HB oJ Fz⟩⟩
def py.f(k:Nat)(l0:List ByteArray)(l1:List (S64)):Option (List ByteArray):=(gE.f k l0 l1).bind fun Hb=>(some Hb)
theorem py.mono:∀a0 a1 k,a8 (py.f k a0 a1) (py.f (k+1) a0 a1):=by
 intro a0 a1 k;unfold py.f
 repeat' with_reducible first|exact gE.mono _ _ _|exact a8.refl _|exact a8.none _|refine a8.ite ?_ ?_|refine a8.bind ?_ (fun _=> ?_)
set_option maxHeartbeats 8000000 in
set_option maxRecDepth 100000 in
theorem py.calls(k:Nat)(A0:Option Addr)(c0:Nat)(l0:List ByteArray)(A1:Option Addr)(c1:Nat)(l1:List (S64))(r:List ByteArray)(w:World)(hr0:Kd.C Kd.string w A0 l0.length l0)(hc0:l0.length≤c0)(hr1:Kd.C bS w A1 l1.length l1)(hc1:l1.length≤c1)(h:py.f k l0 l1=some r):
 Calls t5 23 #[.slice A0 l0.length c0,.slice A1 l1.length c1] w fun e w'=>∃bh:Value,e= .returned (bh)∧Kd.R Kd.string 9 w' w.heap.size (fun _=>True) bh r∧Below w.heap.size w w':=by
 have kj:=aae;have d8:=Ah hr0;have gV:=Ah hc0;clear hr0 hc0;have HR1:=Ah hr1;have kr:=Ah hc1;clear hr1 hc1;have HB:=Ah (pv w.heap.size w);have H:((gE.f k l0 l1).bind fun Hb=>(some Hb))=some r:=h;clear h;replace H:=He.mp H;obtain⟨Hb,de,H⟩:=H
 try dsimp only at H
 have A3:=Ah de;clear de;obtain rfl:=fl H
 go_enter Try.func23,Try.ntmps23
 go_wp2_with (first|((with_reducible refine ap (f:=24) rfl ?_);refine gL (some 8) rfl rfl Try.func24 (by kernel_rfl) rfl #[.agg #[.slice A0 l0.length c0,.slice A1 l1.length c1],.func (.func 25) #[] #[]] rfl ?_;(with_reducible refine(gE.calls k _ _ l0 _ _ l1 Hb _ ?aE ?aG ?aZ ?ab A3.out).mono ?_);(case aE=>repeat(first|exact d8.out|(with_reducible refine Kd.jg ?_ _)|(with_reducible refine Kd.jh ?_ _)|(with_reducible refine Kd.jo ?_)));(case aG=>exact gV.out);(case aZ=>repeat(first|exact HR1.out|(with_reducible refine Kd.jg ?_ _)|(with_reducible refine Kd.jh ?_ _)|(with_reducible refine Kd.jo ?_)));(case ab=>exact kr.out);rintro e w4 ⟨v708,rfl,ho0,hb⟩;refine⟨_,rfl, ?_⟩;have a6O:=Ah (Kd.bD ho0 (bJ (bs HB)));replace HB:=Ah (aJ (bs HB) hb);(try clear hb ho0)))
 go_ret
 exact⟨_,er,by(with_reducible repeat(first|apply Kd.aw|apply Kd.ax|apply Kd.aa));exact a6O.out,bs HB⟩
def gF.f(k:Nat)(X:List ByteArray)(J:List (S64))(aD:List ByteArray)(aI:Int):Option (List ByteArray×Bool):=(db.f k X J aD aI).bind fun Hc=>(if Hc=true then((gE.f k X J).bind fun AQ=>((g7.f k aD).bind fun AR=>((py.f k AQ AR).bind fun Hd=>(some (Hd,true)))))else(some (([]:List ByteArray),false)))
theorem gF.mono:∀a0 a1 a2 a3 k,a8 (gF.f k a0 a1 a2 a3) (gF.f (k+1) a0 a1 a2 a3):=by
 intro a0 a1 a2 a3 k;unfold gF.f
 repeat' with_reducible first|exact db.mono _ _ _ _ _|exact py.mono _ _ _|exact gE.mono _ _ _|exact g7.mono _ _|exact a8.refl _|exact a8.none _|refine a8.ite ?_ ?_|refine a8.bind ?_ (fun _=> ?_)
def gF.T3:Bool×List (List Nat×List Nat):=(true,[([],[]),([0],[0]),([1],[1]),([],[]),([3],[3]),([4,2],[4]),([2,5,5],[2,5]),([6,6,0,1,2,3,4,5,6],[6]),([7,0,1,2,3,4,5,6,7],[])])
def gF.B3:List Nat:=[0,1,3,0,8,31,63,127,255]
theorem gF.CW:fN .any (lh Try.f7 3)=gF.T3:=by kernel_rfl
theorem gF.Bw:ji gF.T3.2 gF.B3=true:=by kernel_rfl
set_option maxHeartbeats 8000000 in
set_option maxRecDepth 100000 in
theorem gF.calls(k:Nat)(ag:Option Addr)(ah:Nat)(X:List ByteArray)(ai:Option Addr)(af:Nat)(J:List (S64))(bP:Option Addr)(bQ:Nat)(aD:List ByteArray)(aI:Int)(r1:List ByteArray)(r2:Bool)(w:World)(dG:Kd.C Kd.string w ag X.length X)(dH:X.length≤ah)(dI:Kd.C bS w ai J.length J)(dJ:J.length≤af)(fp:Kd.C Kd.string w bP aD.length aD)(fq:aD.length≤bQ)(h:gF.f k X J aD aI=some (r1,r2)):
 Calls t5 7 #[.agg #[.slice ag X.length ah,.slice ai J.length af,.slice bP aD.length bQ,.int .i64 aI]] w fun e w'=>∃bh:Value,e= .returned (.tuple #[bh,.bool r2])∧Kd.R Kd.string 9 w' w.heap.size (fun _=>True) bh r1∧Below w.heap.size w w':=by
 have mE:=wd;have kj:=aae;have cN:=Ah dG;have cR:=Ah dH;clear dG dH;have cI:=Ah dI;have ca:=Ah dJ;clear dI dJ;have dr:=Ah fp;have eK:=Ah fq;clear fp fq;have HB:=Ah (pv w.heap.size w);have H:((db.f k X J aD aI).bind fun Hc=>(if Hc=true then((gE.f k X J).bind fun AQ=>((g7.f k aD).bind fun AR=>((py.f k AQ AR).bind fun Hd=>(some (Hd,true)))))else(some (([]:List ByteArray),false))))=some (r1,r2):=h;clear h;replace H:=He.mp H;obtain⟨Hc,fR,H⟩:=H
 try dsimp only at H
 have A2:=Ah fR;clear fR
 by_cases c3:Hc=true
 rotate_left
 ·
  replace c3:=dW.mpr c3;subst c3;rw[if_neg cg]at H;simp only[fc,oe]at H;obtain⟨rfl,rfl⟩:=H
  go_enter Try.func7,Try.ntmps7
  go_wp2_with (first|((with_reducible refine ao (N:=1) rfl ?_);refine az 1 28 #[.slice ag X.length ah,.slice ai J.length af,.slice bP aD.length bQ,.int .i64 aI] ?_;intro G1 hg w16 fv hb;have a6P:=gw hg (bs HB);have rb:=gw hg (bs HB);replace HB:=Ah (aJ (bs HB) hb);clear hb hg;obtain⟨ox,oy,xL,xM⟩:=b0 fv;obtain⟨oz,p7,xN,xO⟩:=b5 fv)|((with_reducible refine ap (f:=11) rfl ?_);refine gL (some 5) rfl rfl Try.func11 (by kernel_rfl) rfl #[.agg #[.slice ag X.length ah,.slice ai J.length af,.slice bP aD.length bQ,.int .i64 aI]] rfl ?_;(with_reducible refine(db.calls k _ _ X _ _ J _ _ aD aI false _ ?aE ?aG ?aZ ?ab ?bT ?bc A2.out).mono ?_);(case aE=>exact cb cN HB);(case aG=>exact cR.out);(case aZ=>exact cb cI HB);(case ab=>exact ca.out);(case bT=>exact cb dr HB);(case bc=>exact eK.out);rintro e lz ⟨rfl,hb⟩;refine⟨_,rfl, ?_⟩;replace fv:=nb fv hb;replace HB:=Ah (aJ (aM HB rb) hb);(try clear hb)))
  go_ret2
  exact⟨_,er,by first|exact Kd.cQ _ _ _ _ _|exact Kd.cY _ _ _ _ _|exact Kd.cZ _ _ _ _ _|exact Kd.cW _ _ _ _ _|exact Kd.cX _ _ _ _ _,aM HB rb⟩
 subst c3;rw[if_pos rfl]at H;replace H:=He.mp H;obtain⟨AQ,ey,H⟩:=H
 try dsimp only at H
 have A4:=Ah ey;clear ey;replace H:=He.mp H;obtain⟨AR,lC,H⟩:=H
 try dsimp only at H
 have A5:=Ah lC;clear lC;replace H:=He.mp H;obtain⟨Hd,e9,H⟩:=H
 try dsimp only at H
 have A6:=Ah e9;clear e9;simp only[fc,oe]at H;obtain⟨rfl,rfl⟩:=H
 go_enter Try.func7,Try.ntmps7
 try go_wp2_with (first|((with_reducible refine ao (N:=1) rfl ?_);refine az 1 28 #[.slice ag X.length ah,.slice ai J.length af,.slice bP aD.length bQ,.int .i64 aI] ?_;intro G1 hg w7 fv hb;have a6P:=gw hg (bs HB);have rb:=gw hg (bs HB);replace HB:=Ah (aJ (bs HB) hb);clear hb hg;obtain⟨qN,qO,JR,NF⟩:=b0 fv;obtain⟨r8,qP,JS,NG⟩:=b5 fv)|((with_reducible refine ap (f:=11) rfl ?_);refine gL (some 5) rfl rfl Try.func11 (by kernel_rfl) rfl #[.agg #[.slice ag X.length ah,.slice ai J.length af,.slice bP aD.length bQ,.int .i64 aI]] rfl ?_;(with_reducible refine(db.calls k _ _ X _ _ J _ _ aD aI true _ ?aE ?aG ?aZ ?ab ?bT ?bc A2.out).mono ?_);(case aE=>exact cb cN HB);(case aG=>exact cR.out);(case aZ=>exact cb cI HB);(case ab=>exact ca.out);(case bT=>exact cb dr HB);(case bc=>exact eK.out);rintro e w9 ⟨rfl,hb⟩;refine⟨_,rfl, ?_⟩;replace fv:=nb fv hb;replace HB:=Ah (aJ (aM HB rb) hb);(try clear hb)))
 have aY:=Ah (U fv.out);have aX:=Ah (ia HB.out);clear fv HB;have fv:=aY;have HB:=aX;clear aY aX;refine k9 (n:=9) (S:=fun w'=>w'.cell? ⟨G1,0,none⟩=some (.slice ag X.length ah)∧w'.cell? ⟨G1,1,none⟩=some (.slice ai J.length af)∧w'.cell? ⟨G1,2,none⟩=some (.slice bP aD.length bQ)∧w'.cell? ⟨G1,3,none⟩=some (.int .i64 aI)) (ds:=[]) #[false,false,false,false,false,false,false,false,false] (by kernel_rfl) rfl rfl ⟨(aQ fv.out 0).trans rfl,(aQ fv.out 1).trans rfl,(aQ fv.out 2).trans rfl,(aQ fv.out 3).trans rfl⟩ (fun hHeld=> ?_);refine kS gF.CW gF.Bw (fun aU dT=> ?_)
 generalize w9.drew=pq at fv HB hHeld⊢
 refine b8 0 7 aU.out ?_;refine b8 3 10 aU.out ?_;refine fZ 1 8 aU.out dT.out hHeld (hr:=by rintro w' ⟨s0,s1,s2,s3⟩;go_simp;with_reducible rfl) (h:= ?_);refine fZ 4 11 aU.out dT.out hHeld (hr:=by rintro w' ⟨s0,s1,s2,s3⟩;go_simp;with_reducible rfl) (h:= ?_);refine e5 (i:=2) (N:=some 9) #[true,true,true,true,true,false,false,false,false] rfl rfl (dz aU.out (by kernel_rfl)) (by decide) (fun K hK=> ?_);refine iw Try.func24 (by kernel_rfl) rfl #[.agg #[.slice ag X.length ah,.slice ai J.length af],.func (.func 25) #[] #[]] (by rfl) rfl rfl (by(try simp only[List.map_toArray,List.map_cons,List.map_nil]);first|done|rfl|(simp only[List.length_drop,List.length_take];rfl)) ?_
 with_reducible refine(gE.calls k _ _ X _ _ J AQ _ ?aE ?aG ?aZ ?ab A4.out).mono ?_
 (case aE=>exact cb cN HB);(case aG=>exact cR.out);(case aZ=>exact cb cI HB);(case ab=>exact ca.out);rintro e sy ⟨v713,rfl,ho0,hb⟩;refine⟨_,rfl, ?_⟩;have aY:=Ah (Kd.bD ho0 (bJ (aM HB rb)));have aX:=Ah (bb fv hb);have ae:=Ah (aJ (aM HB rb) hb);clear fv HB;have sg:=aY;have fv:=aX;have HB:=ae;clear aY aX ae;(try clear hb);(try clear hb2);(try clear hk);(try clear hi);(try clear ho0);refine hK.out _ _ ⟨(aQ fv.out 0).trans rfl,(aQ fv.out 1).trans rfl,(aQ fv.out 2).trans rfl,(aQ fv.out 3).trans rfl⟩ (fun hHeld=> ?_);clear hK K;refine ej (a':= ?_) ?_ ?_;rotate_left
 ·
  show aaa _ (some 9) _=_
  simp only[aaa,JM,jG,kt,dD,dP]
  rfl
 refine e5 (i:=5) (N:=some 12) #[true,true,true,true,true,true,false,false,false] rfl rfl (dz aU.out (by kernel_rfl)) (by decide) (fun K hK=> ?_);refine iw Try.func26 (by kernel_rfl) rfl #[.slice bP aD.length bQ] (by rfl) rfl rfl (by(try simp only[aab,aad,aaf]);first|done|rfl|(simp only[qh,bx];rfl)) ?_
 with_reducible refine(g7.calls k _ _ aD AR _ ?aE ?aG A5.out).mono ?_
 (case aE=>exact cb dr HB);(case aG=>exact eK.out);rintro e mu ⟨v716,rfl,ho0,hb⟩;refine⟨_,rfl, ?_⟩;have aY:=Ah (Kd.eD (rr sg.out) hb);have aX:=Ah (Kd.bD ho0 (bJ (aM HB rb)));have ae:=Ah (bb fv hb);have aq:=Ah (aJ (aM HB rb) hb);clear sg fv HB;have sg:=aY;have C3:=aX;have fv:=ae;have HB:=aq;clear aY aX ae aq;(try clear hb);(try clear hb2);(try clear hk);(try clear hi);(try clear ho0);obtain⟨gK,g6,sk⟩:=Kd.al sg.out;(first|subst sk|(injection sk with dU fS dV;have fT:=dU.symm;have fU:=dV.symm;clear dU fS dV;subst fT;subst fU));obtain⟨e7,dw,nW⟩:=Kd.al C3.out;(first|subst nW|(injection nW with dU fS dV;have fT:=dU.symm;have fU:=dV.symm;clear dU fS dV;subst fT;subst fU));refine hK.out _ _ ⟨(aQ fv.out 0).trans rfl,(aQ fv.out 1).trans rfl,(aQ fv.out 2).trans rfl,(aQ fv.out 3).trans rfl⟩ (fun hHeld=> ?_);clear hK K;refine ej (a':= ?_) ?_ ?_;rotate_left
 ·
  show aaa _ (some 12) _=_
  simp only[aaa,JM,jG,kt,dD,dP]
  rfl
 refine e5 (i:=6) (N:=some 13) #[true,true,true,true,true,true,true,false,false] rfl rfl (dz aU.out (by kernel_rfl)) (by decide) (fun K hK=> ?_);refine iw Try.func23 (by kernel_rfl) rfl #[.slice gK AQ.length g6,.slice e7 AR.length dw] (by rfl) rfl rfl (by(try simp only[aab,aad,aaf]);first|done|rfl|(simp only[qh,bx];rfl)) ?_
 with_reducible refine(py.calls k _ _ AQ _ _ AR Hd _ ?aE ?aG ?aZ ?ab A6.out).mono ?_
 (case aE=>exact bi sg);(case aG=>exact(Kd.b9 sg.out).2.1);(case aZ=>exact bi C3);(case ab=>exact(Kd.b9 C3.out).2.1);rintro e jw ⟨v719,rfl,ho0,hb⟩;refine⟨_,rfl, ?_⟩;have aY:=Ah (Kd.cV (rr sg.out) (Kd.ar ho0) hb);have aX:=Ah (Kd.eD (rr C3.out) hb);have ae:=Ah (Kd.bD (Kd.av ho0 (Kd.an (rr sg.out))) (bJ (aM HB rb)));have aq:=Ah (bb fv hb);have bF:=Ah (aJ (aM HB rb) hb);clear sg C3 fv HB;have sg:=aY;have C3:=aX;have a6Q:=ae;have fv:=aq;have HB:=bF;clear aY aX ae aq bF;(try clear hb);(try clear hb2);(try clear hk);(try clear hi);(try clear ho0);refine hK.out _ _ ⟨(aQ fv.out 0).trans rfl,(aQ fv.out 1).trans rfl,(aQ fv.out 2).trans rfl,(aQ fv.out 3).trans rfl⟩ (fun hHeld=> ?_);clear hK K;refine ej (a':= ?_) ?_ ?_;rotate_left
 ·
  show aaa _ (some 13) _=_
  simp only[aaa,JM,jG,kt,dD,dP]
  rfl
 refine b8 7 2 aU.out ?_;refine b8 8 3 aU.out ?_;refine jp (k7 aU.out (by kernel_rfl)) ?_
 try go_wp2
 go_ret2
 exact⟨_,er,by(with_reducible repeat(first|apply Kd.aw|apply Kd.ax|apply Kd.aa));exact Kd.aK a6Q.out (fun _ hk=>trivial),aM HB rb⟩
end Go.Proofs.Ytfdpdocbpcnkaaa.G
