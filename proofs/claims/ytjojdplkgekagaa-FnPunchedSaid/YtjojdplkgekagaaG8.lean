-- Printed by a program of this session (drive.py, by way of the kit's print). Not trusted: Lean checks it.
import Derived.Test.YtjojdplkgekagaaG0
import Derived.Test.YtjojdplkgekagaaG3
import Derived.Test.YtjojdplkgekagaaG5
import Derived.Test.YtjojdplkgekagaaG6
open Bool renaming eq_false_iff→dn
open Go.Proofs.Try renaming underlying25→ua,prog→aad,underlying28→aaq,underlying56→abk
open Go.RowKit renaming wrap64→LS
open Go.World renaming block_lt_of_cell?→LA
open List renaming setIfInBounds_toArray→Ok,set_cons_zero→bY,set_cons_succ→dl
open Nat renaming le_refl→bx
open Option renaming bind_eq_some_iff→LT,bind_some→Mq
open Option.some renaming injEq→j4
open Prod.mk renaming injEq→ub
namespace Go.Proofs.Ytjojdplkgekagaa.G
open Go.RowKit Go.Proofs.YtjojdplkgekagaaW.PrintWords Go.Proofs.YtjojdplkgekagaaW.PrintLast Go.Proofs.YtjojdplkgekagaaW.PrintMore
attribute [local go_sem] um un uu uv ud ue uo uq
set_option linter.unusedVariables false
set_option linter.unusedSimpArgs false
mutual
def eh.j0:Nat→Int→Bool→List (a7)→Option ((List (aT))×Bool)
 |0,_,_,_=>none
 |k+1,x1,X1,Zz=>if X1=true then(some (([]:List (aT)),false))else(eh.l0 k x1 ([]:List (aT)) 0 Zz (Zz.length:Int) 0)
def eh.l0:Nat→Int→List (aT)→Int→List (a7)→Int→Int→Option ((List (aT))×Bool)
 |0,_,_,_,_,_,_=>none
 |k+1,x1,x6,x7,x20,fi,eN=>if eN<fi then(if 0≤eN then(if eN<(x20.length:Int)then(if((I x20 eN).f0)>x1 then(if x1>x7 then(if x6.length<8796093022208 then(eh.l0 k x1 (x6++[(⟨x7,LS (x1-x7)⟩:aT)]) (LS (((I x20 eN).f0)+((I x20 eN).f1))) x20 fi (LS (eN+1)))else(none))else(eh.l0 k x1 x6 (LS (((I x20 eN).f0)+((I x20 eN).f1))) x20 fi (LS (eN+1))))else(if((I x20 eN).f0)>x7 then(if x6.length<8796093022208 then(eh.l0 k x1 (x6++[(⟨x7,LS (((I x20 eN).f0)-x7)⟩:aT)]) (LS (((I x20 eN).f0)+((I x20 eN).f1))) x20 fi (LS (eN+1)))else(none))else(eh.l0 k x1 x6 (LS (((I x20 eN).f0)+((I x20 eN).f1))) x20 fi (LS (eN+1)))))else(none))else(none))else(if x7<x1 then(if x6.length<8796093022208 then(some ((x6++[(⟨x7,LS (x1-x7)⟩:aT)]),true))else(none))else(some (x6,true)))
end
def eh.f(k:Nat)(J:List (a7))(a1:Int):Option ((List (aT))×Bool):=(br.f k J).bind fun L5=>(if L5=true then((j7.f a1 0 200).bind fun G3=>(eh.j0 k a1 (!G3) J))else(eh.j0 k a1 true J))
theorem eh.dL:∀k,(∀y0 y1 y2,aG (eh.j0 k y0 y1 y2) (eh.j0 (k+1) y0 y1 y2))∧(∀y0 y1 y2 y3 y4 y5,aG (eh.l0 k y0 y1 y2 y3 y4 y5) (eh.l0 (k+1) y0 y1 y2 y3 y4 y5))
 |0=>⟨fun _ _ _ r h=>by simp[eh.j0]at h,fun _ _ _ _ _ _ r h=>by simp[eh.l0]at h⟩
 |k+1=>by
  obtain⟨bw,ih1⟩:=eh.dL k
  refine⟨?_, ?_⟩<;>intros<;>first|unfold eh.j0|unfold eh.l0
  all_goals repeat' first
   |(with_reducible exact bw _ _ _)
   |(with_reducible exact ih1 _ _ _ _ _ _)
   |(with_reducible exact br.mono _ _)
   |(with_reducible exact aG.refl _)
   |(with_reducible exact aG.none _)
   |(with_reducible refine aG.ite ?_ ?_)
   |(with_reducible refine aG.bind ?_ (fun _=> ?_))
   |exact bw _ _ _
   |exact ih1 _ _ _ _ _ _
   |exact br.mono _ _
   |exact aG.none _
   |refine aG.ite ?_ ?_
   |refine aG.bind ?_ (fun _=> ?_)
theorem eh.mono:∀a0 a1 k,aG (eh.f k a0 a1) (eh.f (k+1) a0 a1):=by
 intro a0 a1 k;obtain⟨bw,ih1⟩:=eh.dL k;unfold eh.f
 repeat' with_reducible first|exact bw _ _ _|exact ih1 _ _ _ _ _ _|exact br.mono _ _|exact aG.refl _|exact aG.none _|refine aG.ite ?_ ?_|refine aG.bind ?_ (fun _=> ?_)
set_option maxHeartbeats 8000000 in
set_option maxRecDepth 100000 in
theorem eh.calls(k:Nat)(bS:Option Addr)(bL:Nat)(J:List (a7))(a1:Int)(r1:List (aT))(r2:Bool)(w:World)(fT:Kd.C b7 w bS J.length J)(fU:J.length≤bL)(h:eh.f k J a1=some (r1,r2)):
 Calls aad 18 #[.agg #[.slice bS J.length bL],.int .i64 a1] w fun e w'=>∃da:Value,e= .returned (.tuple #[da,.bool r2])∧Kd.R bd 38 w' w.heap.size (fun _=>True) da r1∧Below w.heap.size w w':=by
 have kJ:=ua;have mA:=Try.underlying65;have Jh:=Try.underlying38;have cY:=Ah fT;have dw:=Ah fU;clear fT fU;have HB:=Ah (Below.refl w.heap.size w);have H:((br.f k J).bind fun L5=>(if L5=true then((j7.f a1 0 200).bind fun G3=>(eh.j0 k a1 (!G3) J))else(eh.j0 k a1 true J)))=some (r1,r2):=h;clear h;have ke:=Ah H;clear H
 go_enter Try.func18,Try.ntmps18
 go_upto_region 1 with(first|((with_reducible refine ax (N:=2) rfl ?_);refine bA 2 25 #[.slice bS J.length bL] ?_;intro a3r hg w4 fh hb;have GW624:=gw hg (bs HB);have ic:=gw hg (bs HB);replace HB:=Ah (aK (bs HB) hb);clear hb hg))
 (try simp only[Act.put,Ok,bY,dl])
 go_cut [18] (fun v18 wc=>∃ (kq:Nat) (xJ:Bool),v18= .bool xJ∧U (eh.j0 kq a1 xJ J=some (r1,r2))∧U (kq≤k)∧U (wc.heap[a3r]?=some (.cells #[(.slice bS J.length bL)] 25 (0,0)))∧U (Below w.heap.size w wc))
 case first=>
  have H:=ke.out;clear ke;replace H:=LT.mp H;obtain⟨L5,kX,H⟩:=H
  try dsimp only at H
  have A5:=Ah kX;clear kX
  by_cases c6:L5=true
  rotate_left
  ·
   replace c6:=dn.mpr c6;subst c6;rw[if_neg dV]at H;have H':=Ah H;clear H;have pH:=ap fh;have pI:=an fh
   go_wp2_with (first|((with_reducible refine bJ (f:=26) rfl ?_);refine gL (some 12) rfl rfl Try.func26 (by kernel_rfl) rfl #[.agg #[.slice bS J.length bL]] rfl ?_;(with_reducible refine(br.calls k _ _ J false _ ?a8 ?a9 A5.out).mono ?_);(case a8=>exact cb cY HB);(case a9=>exact dw.out);rintro e rg ⟨rfl,hb⟩;refine⟨_,rfl, ?_⟩;replace fh:=nb fh hb;replace HB:=Ah (aK (aH HB ic) hb);(try clear hb)))
   go_meet
   case rel=>exact⟨_,(true),e3,H',⟨by first|omega|exact bx _⟩,⟨bk fh⟩,⟨aH HB ic⟩⟩
  subst c6;rw[if_pos rfl]at H;replace H:=LT.mp H;obtain⟨G3,kb,H⟩:=H
  try dsimp only at H
  have A7:=Ah kb;clear kb;have H':=Ah H;clear H;have pJ:=ap fh;have qr:=an fh
  go_wp2_with (first|((with_reducible refine bJ (f:=26) rfl ?_);refine gL (some 12) rfl rfl Try.func26 (by kernel_rfl) rfl #[.agg #[.slice bS J.length bL]] rfl ?_;(with_reducible refine(br.calls k _ _ J true _ ?a8 ?a9 A5.out).mono ?_);(case a8=>exact cb cY HB);(case a9=>exact dw.out);rintro e w9 ⟨rfl,hb⟩;refine⟨_,rfl, ?_⟩;replace fh:=nb fh hb;replace HB:=Ah (aK (aH HB ic) hb);(try clear hb))|(go_at_call 40;(with_reducible refine(j7.calls a1 0 200 G3 _ A7.out).mono ?_);rintro e w' ⟨rfl,⟨nd,rfl⟩⟩))
  go_meet
  case rel=>exact⟨_,(!G3),e3,H',⟨by first|omega|exact bx _⟩,⟨bk fh⟩,⟨aH HB ic⟩⟩
 case rest=>
  clear ke
  try clear c1
  try clear c2
  try clear p2
  try clear c6
  try clear pH
  try clear pJ
  try clear pI
  try clear qr
  obtain⟨kq,xJ,rfl,HA,HJ2,fh,HB⟩:=hcut
  cases kq with
  |zero=>exact absurd HA.out (by simp[eh.j0])
  |succ kf=>
   have H:=HA.out;clear HA;simp only[eh.j0]at H
   by_cases c12:xJ=true
   ·
    subst c12;rw[if_pos rfl]at H;simp only[j4,ub]at H;obtain⟨rfl,rfl⟩:=H
    go_wp2
    go_ret2
    exact⟨_,er,by first|exact Kd.fk _ _ _ _ _|exact Kd.iI _ _ _ _ _|exact Kd.iJ _ _ _ _ _|exact Kd.iG _ _ _ _ _|exact Kd.iH _ _ _ _ _,aH HB ic⟩
   replace c12:=dn.mpr c12;subst c12;rw[if_neg dV]at H;have H':=Ah H;clear H;have yp:=ap fh;have yq:=an fh
   go_wp2
   go_loopg [6,7,22] kf (fun kq v6 v7 v22 w'=>∃ (q7:List (aT)) (ba:Int) (cO:Int),v7= .int .i64 ba∧v22= .int .i64 cO∧U (eh.l0 kq a1 q7 ba J (J.length:Int) cO=some (r1,r2))∧U (kq≤kf)∧U (Kd.R bd 38 w' w.heap.size (fun _=>True) v6 q7)∧U (w'.heap[a3r]?=some (.cells #[(.slice bS J.length bL)] 25 (0,0)))∧U (Below w.heap.size w w'))
   case atStart=>exact⟨(([]:List (aT))),(0),(0),e3,e3,H',⟨bx _⟩,⟨by first|exact Kd.fk _ _ _ _ _|exact Kd.iI _ _ _ _ _|exact Kd.iJ _ _ _ _ _|exact Kd.iG _ _ _ _ _|exact Kd.iH _ _ _ _ _⟩,⟨bk fh⟩,⟨aH HB ic⟩⟩
   case round=>
    clear H'
    try clear c1
    try clear c2
    try clear p2
    try clear c6
    try clear c12
    try clear pH
    try clear yp
    try clear pJ
    try clear pI
    try clear yq
    try clear qr
    try clear p2
    obtain⟨q7,ba,cO,rfl,rfl,HA,eg,kp,fh,HB⟩:=hrel
    cases gk with
    |zero=>exact absurd HA.out (by simp[eh.l0])
    |succ k2=>
     have H:=HA.out;clear HA;simp only[eh.l0]at H
     by_cases c14:cO<(J.length:Int)
     rotate_left
     ·
      rw[if_neg c14]at H;have pW:decide (cO<(J.length:Int))=false:=decide_eq_false c14;clear c14
      by_cases GG:ba<a1
      rotate_left
      ·
       rw[if_neg GG]at H;have c38b0:decide (ba<a1)=false:=decide_eq_false GG;clear GG;simp only[j4,ub]at H;obtain⟨rfl,rfl⟩:=H
       go_wp2
       go_ret2
       exact⟨_,er,by(with_reducible repeat(first|apply Kd.bG|apply Kd.bE|apply Kd.al));exact kp.out,aH HB ic⟩
      rw[if_pos GG]at H;have c38b0:decide (ba<a1)=true:=decide_eq_true GG;clear GG
      by_cases kZ:q7.length<8796093022208
      rotate_left
      ·
       rw[if_neg kZ]at H;exact absurd H (by simp)
      rw[if_pos kZ]at H;have LMc39:=Ah kZ;clear kZ;obtain⟨y627,JX⟩:∃y_:List (aT),y_=(q7++[(⟨ba,LS (a1-ba)⟩:aT)]):=⟨_,rfl⟩
      replace H:(some (y627,true))=some (r1,r2):=by first|(rw[JX];with_reducible exact H)|(have aX:=(Mq _ _).symm.trans H;rw[JX];with_reducible exact aX)|(have aX:=(Mq _ _).symm.trans H;with_reducible exact aX)|with_reducible exact H|(rw[JX];exact H)|exact H
      have Ny627:=Ah JX;clear JX;simp only[j4,ub]at H;obtain⟨rfl,rfl⟩:=H
      go_wp2_with (first|((with_reducible refine eS (b:= .append) (xs:= #[.tmp 52,.tmp 58]) rfl ?_);at_builtin;refine Kd.gX bd (w0:=w) w.heap.size rfl (.tmp 52) (.tmp 58) 28 38 (.agg #[(.int .i64 0),(.int .i64 0)]) 16 rfl aaq jN rfl (by decide) (by omega) u6 q7 (⟨ba,LS (a1-ba)⟩:aT) [.int .i64 ba,.int .i64 (LS (a1-ba))] (fun _=>True) (fun _=>False) rfl rfl ?aP (fun _ hk=>hk.elim) ?aF ?aO ?aB ?aS ?aL ?_;(case aP=>exact iE _ _ _ (⟨ba,LS (a1-ba)⟩:aT));(case aB=>exact(aH HB ic));(case aF=>exact(fun _ _=>trivial));(case aO=>exact(rr kp.out));(case aS=>exact(be (aH HB ic)));(case aL=>have:=LMc39.out;omega);intro v628 PS ho hb hg hat;rw[←Ny627.out]at ho;replace fh:=Ah (cX (bk fh) hg (Kd.eD kp.out fh.out (by decide)));replace HB:=Ah (hb);have HO629:=Ah (ho);clear kp;clear ho hb hg hat))
      go_ret2
      exact⟨_,er,by(with_reducible repeat(first|apply Kd.bG|apply Kd.bE|apply Kd.al));exact HO629.out,aH HB ic⟩
     rw[if_pos c14]at H;have pW:decide (cO<(J.length:Int))=true:=decide_eq_true c14;clear c14
     by_cases c15:0≤cO
     rotate_left
     ·
      rw[if_neg c15]at H;exact absurd H (by simp)
     rw[if_pos c15]at H;have Ic:decide (0≤cO)=true:=decide_eq_true c15;clear c15
     by_cases c16:cO<(J.length:Int)
     rotate_left
     ·
      rw[if_neg c16]at H;exact absurd H (by simp)
     rw[if_pos c16]at H;have IT:decide (cO<(J.length:Int))=true:=decide_eq_true c16;clear c16
     by_cases c17:((I J cO).f0)>a1
     ·
      rw[if_pos c17]at H;have Nd:decide (a1<((I J cO).f0))=true:=decide_eq_true c17;clear c17
      by_cases c18:a1>ba
      rotate_left
      ·
       rw[if_neg c18]at H;have IU:decide (ba<a1)=false:=decide_eq_false c18;clear c18;have H':=Ah H;clear H;have oW:0≤(cO:Int):=od;have oX:cO<(J.length:Int):=od;obtain⟨UG,Dg,oA,oB,oC,oD⟩:=f6 cY.out cO oW oX
       cases Dg
       replace oA:=(HB.out.cell (LA w _ oA)).trans oA;replace oB:=(HB.out.cell (LA w _ oB)).trans oB;replace oC:=(HB.out.cell (LA w _ oC)).trans oC;replace oD:=(HB.out.cell (LA w _ oD)).trans oD;replace oW:=eq_true oW;replace oX:=eq_true oX
       go_wp2_with (first|((with_reducible refine ax (N:=9) rfl ?_);refine bA 9 65 #[.int .i64 0,.int .i64 0,.int .i64 0,.bool false] ?_;intro lD hg AM ji hb;replace kp:=nr kp hb;have UH:=gw hg (aH HB ic);have tn:=gw hg (aH HB ic);replace HB:=Ah (aK (aH HB ic) hb);have t8:=nn fh hg;have Ai:=nm fh hg;replace fh:=nb fh hb;clear hb hg;have a1N:=Ai.out;have a1O:=t8.out;obtain⟨MF,ZQ,hcz27_2,hcz27_3⟩:=cA ji;obtain⟨MG,ZR,hfz27_2,hfz27_3⟩:=cB ji))
       go_roundg k2
       case measure=>have:=HJ2.out;have:=eg.out;omega
       case rel=>exact⟨(q7),(LS (((I J cO).f0)+((I J cO).f1))),(LS (cO+1)),e3,e3,H',⟨by have:=HJ2.out;have:=eg.out;omega⟩,⟨by(with_reducible repeat(first|apply Kd.bG|apply Kd.bE|apply Kd.al));exact Kd.aY (Kd.aQ (p:=⟨lD,3,none⟩) (Kd.aQ (p:=⟨lD,2,none⟩) (Kd.aQ (p:=⟨lD,1,none⟩) (Kd.aQ (p:=⟨lD,0,none⟩) (Kd.cl kp.out ji.out (by decide)) (fun _ hk=>hk.2) (.int .i64 ((I J cO).f0))) (fun _ hk=>hk.2) (.int .i64 ((I J cO).f1))) (fun _ hk=>hk.2) (.int .i64 ((I J cO).f2))) (fun _ hk=>hk.2) (.bool ((I J cO).f3))) (fun _ hk=>trivial)⟩,⟨bf fh t8⟩,⟨aW HB ic tn⟩⟩
      rw[if_pos c18]at H;have IU:decide (ba<a1)=true:=decide_eq_true c18;clear c18
      by_cases c19:q7.length<8796093022208
      rotate_left
      ·
       rw[if_neg c19]at H;exact absurd H (by simp)
      rw[if_pos c19]at H;have Nh:=Ah c19;clear c19;obtain⟨a6l,JY⟩:∃y_:List (aT),y_=(q7++[(⟨ba,LS (a1-ba)⟩:aT)]):=⟨_,rfl⟩
      replace H:(eh.l0 k2 a1 a6l (LS (((I J cO).f0)+((I J cO).f1))) J (J.length:Int) (LS (cO+1)))=some (r1,r2):=by first|(rw[JY];with_reducible exact H)|(have aX:=(Mq _ _).symm.trans H;rw[JY];with_reducible exact aX)|(have aX:=(Mq _ _).symm.trans H;with_reducible exact aX)|with_reducible exact H|(rw[JY];exact H)|exact H
      have Ny632:=Ah JY;clear JY;have H':=Ah H;clear H;have oW:0≤(cO:Int):=od;have oX:cO<(J.length:Int):=od;obtain⟨UG,Dg,oA,oB,oC,oD⟩:=f6 cY.out cO oW oX
      cases Dg
      replace oA:=(HB.out.cell (LA w _ oA)).trans oA;replace oB:=(HB.out.cell (LA w _ oB)).trans oB;replace oC:=(HB.out.cell (LA w _ oC)).trans oC;replace oD:=(HB.out.cell (LA w _ oD)).trans oD;replace oW:=eq_true oW;replace oX:=eq_true oX
      go_wp2_with (first|((with_reducible refine ax (N:=9) rfl ?_);refine bA 9 65 #[.int .i64 0,.int .i64 0,.int .i64 0,.bool false] ?_;intro lD hg vm ji hb;replace kp:=nr kp hb;have UH:=gw hg (aH HB ic);have tn:=gw hg (aH HB ic);replace HB:=Ah (aK (aH HB ic) hb);have t8:=nn fh hg;have Ai:=nm fh hg;replace fh:=nb fh hb;clear hb hg;have hnb21:=Ai.out;have hnc21:=t8.out;obtain⟨hcz22_0,hcz22_1,hcz22_2,hcz22_3⟩:=cA ji;obtain⟨hfz22_0,hfz22_1,hfz22_2,hfz22_3⟩:=cB ji)|((with_reducible refine eS (b:= .append) (xs:= #[.tmp 35,.tmp 41]) rfl ?_);at_builtin;refine Kd.gX bd (w0:=w) w.heap.size rfl (.tmp 35) (.tmp 41) 28 38 (.agg #[(.int .i64 0),(.int .i64 0)]) 16 rfl aaq jN rfl (by decide) (by omega) u6 q7 (⟨ba,LS (a1-ba)⟩:aT) [.int .i64 ba,.int .i64 (LS (a1-ba))] (fun _=>True) (fun _=>False) rfl (by first|(go_simp;done)|(go_simp;rfl)) ?aP (fun _ hk=>hk.elim) ?aF ?aO ?aB ?aS ?aL ?_;(case aP=>exact iE _ _ _ (⟨ba,LS (a1-ba)⟩:aT));(case aB=>exact(aW HB ic tn));(case aF=>exact(fun _ _=>trivial));(case aO=>exact(by(with_reducible repeat(first|apply Kd.bG|apply Kd.bE|apply Kd.al));exact Kd.aY (Kd.aQ (p:=⟨lD,3,none⟩) (Kd.aQ (p:=⟨lD,2,none⟩) (Kd.aQ (p:=⟨lD,1,none⟩) (Kd.aQ (p:=⟨lD,0,none⟩) (Kd.cl kp.out ji.out (by decide)) (fun _ hk=>hk.2) (.int .i64 ((I J cO).f0))) (fun _ hk=>hk.2) (.int .i64 ((I J cO).f1))) (fun _ hk=>hk.2) (.int .i64 ((I J cO).f2))) (fun _ hk=>hk.2) (.bool ((I J cO).f3))) (fun _ hk=>trivial)));(case aS=>exact(be (aW HB ic tn)));(case aL=>have:=Nh.out;omega);intro v633 re ho hb hg hat;rw[←Ny632.out]at ho;replace fh:=Ah (cX (bf fh t8) hg (Kd.eD kp.out fh.out (by decide)));replace ji:=Ah (cX (g:=lD) (o:= .cells #[.int .i64 ((I J cO).f0),.int .i64 ((I J cO).f1),.int .i64 ((I J cO).f2),.bool ((I J cO).f3)] 65 (0,0)) (by(with_reducible repeat(first|refine aD ?_ _|refine Z ?_|refine aC ?_ _));refine aj (cs:= #[.int .i64 ((I J cO).f0),.int .i64 ((I J cO).f1),.int .i64 ((I J cO).f2),.bool false]) ?_ 3 _ rfl;(with_reducible repeat(first|refine aD ?_ _|refine Z ?_|refine aC ?_ _));refine aj (cs:= #[.int .i64 ((I J cO).f0),.int .i64 ((I J cO).f1),.int .i64 0,.bool false]) ?_ 2 _ rfl;(with_reducible repeat(first|refine aD ?_ _|refine Z ?_|refine aC ?_ _));refine aj (cs:= #[.int .i64 ((I J cO).f0),.int .i64 0,.int .i64 0,.bool false]) ?_ 1 _ rfl;(with_reducible repeat(first|refine aD ?_ _|refine Z ?_|refine aC ?_ _));refine aj (cs:= #[.int .i64 0,.int .i64 0,.int .i64 0,.bool false]) ?_ 0 _ rfl;(with_reducible repeat(first|refine aD ?_ _|refine Z ?_|refine aC ?_ _));exact ji.out) hg (Kd.eD kp.out ji.out (by decide)));replace HB:=Ah (hb);have HO634:=Ah (ho);clear kp;clear ho hb hg hat;obtain⟨yj,hcz24_1,hcz24_2,hcz24_3⟩:=cA ji;obtain⟨yk,hfz24_1,hfz24_2,hfz24_3⟩:=cB ji))
      go_roundg k2
      case measure=>have:=HJ2.out;have:=eg.out;omega
      case rel=>exact⟨(a6l),(LS (((I J cO).f0)+((I J cO).f1))),(LS (cO+1)),e3,e3,H',⟨by have:=HJ2.out;have:=eg.out;omega⟩,⟨rr HO634.out⟩,⟨bk fh⟩,⟨aW HB ic tn⟩⟩
     rw[if_neg c17]at H;have Nd:decide (a1<((I J cO).f0))=false:=decide_eq_false c17;clear c17
     by_cases c28:((I J cO).f0)>ba
     rotate_left
     ·
      rw[if_neg c28]at H;have Sz:decide (ba<((I J cO).f0))=false:=decide_eq_false c28;clear c28;have H':=Ah H;clear H;have oW:0≤(cO:Int):=od;have oX:cO<(J.length:Int):=od;obtain⟨UG,Dg,oA,oB,oC,oD⟩:=f6 cY.out cO oW oX
      cases Dg
      replace oA:=(HB.out.cell (LA w _ oA)).trans oA;replace oB:=(HB.out.cell (LA w _ oB)).trans oB;replace oC:=(HB.out.cell (LA w _ oC)).trans oC;replace oD:=(HB.out.cell (LA w _ oD)).trans oD;replace oW:=eq_true oW;replace oX:=eq_true oX
      go_wp2_with (first|((with_reducible refine ax (N:=9) rfl ?_);refine bA 9 65 #[.int .i64 0,.int .i64 0,.int .i64 0,.bool false] ?_;intro lD hg Dw ji hb;replace kp:=nr kp hb;have UH:=gw hg (aH HB ic);have tn:=gw hg (aH HB ic);replace HB:=Ah (aK (aH HB ic) hb);have t8:=nn fh hg;have Ai:=nm fh hg;replace fh:=nb fh hb;clear hb hg;have I0:=Ai.out;have I1:=t8.out;obtain⟨EM,Z6,Z7,Z8⟩:=cA ji;obtain⟨EN,Z9,ZA,ZB⟩:=cB ji))
      go_roundg k2
      case measure=>have:=HJ2.out;have:=eg.out;omega
      case rel=>exact⟨(q7),(LS (((I J cO).f0)+((I J cO).f1))),(LS (cO+1)),e3,e3,H',⟨by have:=HJ2.out;have:=eg.out;omega⟩,⟨by(with_reducible repeat(first|apply Kd.bG|apply Kd.bE|apply Kd.al));exact Kd.aY (Kd.aQ (p:=⟨lD,3,none⟩) (Kd.aQ (p:=⟨lD,2,none⟩) (Kd.aQ (p:=⟨lD,1,none⟩) (Kd.aQ (p:=⟨lD,0,none⟩) (Kd.cl kp.out ji.out (by decide)) (fun _ hk=>hk.2) (.int .i64 ((I J cO).f0))) (fun _ hk=>hk.2) (.int .i64 ((I J cO).f1))) (fun _ hk=>hk.2) (.int .i64 ((I J cO).f2))) (fun _ hk=>hk.2) (.bool ((I J cO).f3))) (fun _ hk=>trivial)⟩,⟨bf fh t8⟩,⟨aW HB ic tn⟩⟩
     rw[if_pos c28]at H;have Sz:decide (ba<((I J cO).f0))=true:=decide_eq_true c28;clear c28
     by_cases kY:q7.length<8796093022208
     rotate_left
     ·
      rw[if_neg kY]at H;exact absurd H (by simp)
     rw[if_pos kY]at H;have LMc29:=Ah kY;clear kY;obtain⟨a6m,JZ⟩:∃y_:List (aT),y_=(q7++[(⟨ba,LS (((I J cO).f0)-ba)⟩:aT)]):=⟨_,rfl⟩
     replace H:(eh.l0 k2 a1 a6m (LS (((I J cO).f0)+((I J cO).f1))) J (J.length:Int) (LS (cO+1)))=some (r1,r2):=by first|(rw[JZ];with_reducible exact H)|(have aX:=(Mq _ _).symm.trans H;rw[JZ];with_reducible exact aX)|(have aX:=(Mq _ _).symm.trans H;with_reducible exact aX)|with_reducible exact H|(rw[JZ];exact H)|exact H
     have Ny635:=Ah JZ;clear JZ;have H':=Ah H;clear H;have oW:0≤(cO:Int):=od;have oX:cO<(J.length:Int):=od;obtain⟨UG,Dg,oA,oB,oC,oD⟩:=f6 cY.out cO oW oX
     cases Dg
     replace oA:=(HB.out.cell (LA w _ oA)).trans oA;replace oB:=(HB.out.cell (LA w _ oB)).trans oB;replace oC:=(HB.out.cell (LA w _ oC)).trans oC;replace oD:=(HB.out.cell (LA w _ oD)).trans oD;replace oW:=eq_true oW;replace oX:=eq_true oX
     go_wp2_with (first|((with_reducible refine ax (N:=9) rfl ?_);refine bA 9 65 #[.int .i64 0,.int .i64 0,.int .i64 0,.bool false] ?_;intro lD hg rb ji hb;replace kp:=nr kp hb;have UH:=gw hg (aH HB ic);have tn:=gw hg (aH HB ic);replace HB:=Ah (aK (aH HB ic) hb);have t8:=nn fh hg;have Ai:=nm fh hg;replace fh:=nb fh hb;clear hb hg;have a0L:=Ai.out;have a0M:=t8.out;obtain⟨qT,hcz32_1,hcz32_2,hcz32_3⟩:=cA ji;obtain⟨qU,hfz32_1,hfz32_2,hfz32_3⟩:=cB ji)|((with_reducible refine eS (b:= .append) (xs:= #[.tmp 35,.tmp 41]) rfl ?_);at_builtin;refine Kd.gX bd (w0:=w) w.heap.size rfl (.tmp 35) (.tmp 41) 28 38 (.agg #[(.int .i64 0),(.int .i64 0)]) 16 rfl aaq jN rfl (by decide) (by omega) u6 q7 (⟨ba,LS (((I J cO).f0)-ba)⟩:aT) [.int .i64 ba,.int .i64 (LS (((I J cO).f0)-ba))] (fun _=>True) (fun _=>False) rfl (by first|(go_simp;done)|(go_simp;rfl)) ?aP (fun _ hk=>hk.elim) ?aF ?aO ?aB ?aS ?aL ?_;(case aP=>exact iE _ _ _ (⟨ba,LS (((I J cO).f0)-ba)⟩:aT));(case aB=>exact(aW HB ic tn));(case aF=>exact(fun _ _=>trivial));(case aO=>exact(by(with_reducible repeat(first|apply Kd.bG|apply Kd.bE|apply Kd.al));exact Kd.aY (Kd.aQ (p:=⟨lD,3,none⟩) (Kd.aQ (p:=⟨lD,2,none⟩) (Kd.aQ (p:=⟨lD,1,none⟩) (Kd.aQ (p:=⟨lD,0,none⟩) (Kd.cl kp.out ji.out (by decide)) (fun _ hk=>hk.2) (.int .i64 ((I J cO).f0))) (fun _ hk=>hk.2) (.int .i64 ((I J cO).f1))) (fun _ hk=>hk.2) (.int .i64 ((I J cO).f2))) (fun _ hk=>hk.2) (.bool ((I J cO).f3))) (fun _ hk=>trivial)));(case aS=>exact(be (aW HB ic tn)));(case aL=>have:=LMc29.out;omega);intro v636 q9 ho hb hg hat;rw[←Ny635.out]at ho;replace fh:=Ah (cX (bf fh t8) hg (Kd.eD kp.out fh.out (by decide)));replace ji:=Ah (cX (g:=lD) (o:= .cells #[.int .i64 ((I J cO).f0),.int .i64 ((I J cO).f1),.int .i64 ((I J cO).f2),.bool ((I J cO).f3)] 65 (0,0)) (by(with_reducible repeat(first|refine aD ?_ _|refine Z ?_|refine aC ?_ _));refine aj (cs:= #[.int .i64 ((I J cO).f0),.int .i64 ((I J cO).f1),.int .i64 ((I J cO).f2),.bool false]) ?_ 3 _ rfl;(with_reducible repeat(first|refine aD ?_ _|refine Z ?_|refine aC ?_ _));refine aj (cs:= #[.int .i64 ((I J cO).f0),.int .i64 ((I J cO).f1),.int .i64 0,.bool false]) ?_ 2 _ rfl;(with_reducible repeat(first|refine aD ?_ _|refine Z ?_|refine aC ?_ _));refine aj (cs:= #[.int .i64 ((I J cO).f0),.int .i64 0,.int .i64 0,.bool false]) ?_ 1 _ rfl;(with_reducible repeat(first|refine aD ?_ _|refine Z ?_|refine aC ?_ _));refine aj (cs:= #[.int .i64 0,.int .i64 0,.int .i64 0,.bool false]) ?_ 0 _ rfl;(with_reducible repeat(first|refine aD ?_ _|refine Z ?_|refine aC ?_ _));exact ji.out) hg (Kd.eD kp.out ji.out (by decide)));replace HB:=Ah (hb);have HO637:=Ah (ho);clear kp;clear ho hb hg hat;obtain⟨hcz34_0,hcz34_1,hcz34_2,hcz34_3⟩:=cA ji;obtain⟨hfz34_0,hfz34_1,hfz34_2,hfz34_3⟩:=cB ji))
     go_roundg k2
     case measure=>have:=HJ2.out;have:=eg.out;omega
     case rel=>exact⟨(a6m),(LS (((I J cO).f0)+((I J cO).f1))),(LS (cO+1)),e3,e3,H',⟨by have:=HJ2.out;have:=eg.out;omega⟩,⟨rr HO637.out⟩,⟨bk fh⟩,⟨aW HB ic tn⟩⟩
def ie.j0:Nat→Int→Bool→List (a7)→Option ((List (a7))×(List (aT))×Bool)
 |0,_,_,_=>none
 |k+1,x1,X1,x639000=>if X1=true then(some (([]:List (a7)),([]:List (aT)),false))else((dJ.f k x639000).bind fun jk=>(if 0≤x1 then(if x1≤(jk.length:Int)then((fX.f k (jk.drop (x1:Int).toNat)).bind fun G4=>((dP.f k (jk.take (x1:Int).toNat)).bind fun zY=>(some (zY.1,G4,zY.2))))else(none))else(none)))
def ie.f(k:Nat)(J:List (a7))(a1:Int):Option ((List (a7))×(List (aT))×Bool):=(bh.f k J).bind fun L6=>(if L6=true then((hF.f a1 0 200).bind fun G5=>(ie.j0 k a1 (!G5) J))else(ie.j0 k a1 true J))
theorem ie.dL:∀k,(∀y0 y1 y2,aG (ie.j0 k y0 y1 y2) (ie.j0 (k+1) y0 y1 y2))
 |0=>fun _ _ _ r h=>by simp[ie.j0]at h
 |k+1=>by
  have bw:=ie.dL k
  ·
   intro y0 y1 y2;unfold ie.j0
   repeat' with_reducible first|exact bw _ _ _|exact dJ.mono _ _|exact bh.mono _ _|exact fX.mono _ _|exact dP.mono _ _|exact aG.refl _|exact aG.none _|refine aG.ite ?_ ?_|refine aG.bind ?_ (fun _=> ?_)
theorem ie.mono:∀a0 a1 k,aG (ie.f k a0 a1) (ie.f (k+1) a0 a1):=by
 intro a0 a1 k;have bw:=ie.dL k;unfold ie.f
 repeat' with_reducible first|exact bw _ _ _|exact dJ.mono _ _|exact bh.mono _ _|exact fX.mono _ _|exact dP.mono _ _|exact aG.refl _|exact aG.none _|refine aG.ite ?_ ?_|refine aG.bind ?_ (fun _=> ?_)
set_option maxHeartbeats 8000000 in
set_option maxRecDepth 100000 in
theorem ie.calls(k:Nat)(bS:Option Addr)(bL:Nat)(J:List (a7))(a1:Int)(r1:List (a7))(r2:List (aT))(r3:Bool)(w:World)(fT:Kd.C b7 w bS J.length J)(fU:J.length≤bL)(h:ie.f k J a1=some (r1,r2,r3)):
 Calls aad 19 #[.agg #[.slice bS J.length bL],.int .i64 a1] w fun e w'=>∃da sm:Value,e= .returned (.tuple #[.agg #[da],sm,.bool r3])∧Kd.R b7 65 w' w.heap.size (fun _=>True) da r1∧Kd.R bd 38 w' w.heap.size (fun _=>True) sm r2∧Below w.heap.size w w':=by
 have kJ:=ua;have cY:=Ah fT;have dw:=Ah fU;clear fT fU;have HB:=Ah (Below.refl w.heap.size w);have H:((bh.f k J).bind fun L6=>(if L6=true then((hF.f a1 0 200).bind fun G5=>(ie.j0 k a1 (!G5) J))else(ie.j0 k a1 true J)))=some (r1,r2,r3):=h;clear h;have ke:=Ah H;clear H
 go_enter Try.func19,Try.ntmps19
 go_upto_region 1 with(first|((with_reducible refine ax (N:=2) rfl ?_);refine bA 2 25 #[.slice bS J.length bL] ?_;intro gb638 hg w4 jU hb;have GW638:=gw hg (bs HB);have mW:=gw hg (bs HB);replace HB:=Ah (aK (bs HB) hb);clear hb hg)|((with_reducible refine ax (N:=4) rfl ?_);refine bA 4 25 #[.slice none 0 0] ?_;intro Ja hg w5 jj hb;have GW639:=gw hg (aH HB mW);have oM:=gw hg (aH HB mW);replace HB:=Ah (aK (aH HB mW) hb);have Lz:=nn jU hg;have M0:=nm jU hg;replace jU:=nb jU hb;clear hb hg))
 (try simp only[Act.put,Ok,bY,dl])
 go_cut [18] (fun v18 wc=>∃ (kq:Nat) (xJ:Bool),v18= .bool xJ∧U (ie.j0 kq a1 xJ J=some (r1,r2,r3))∧U (kq≤k)∧U (wc.heap[gb638]?=some (.cells #[(.slice bS J.length bL)] 25 (0,0)))∧U (wc.heap[Ja]?=some (.cells #[(.slice none 0 0)] 25 (0,0)))∧U (Below w.heap.size w wc))
 case first=>
  have H:=ke.out;clear ke;replace H:=LT.mp H;obtain⟨L6,iw,H⟩:=H
  try dsimp only at H
  have A6:=Ah iw;clear iw
  by_cases c7:L6=true
  rotate_left
  ·
   replace c7:=dn.mpr c7;subst c7;rw[if_neg dV]at H;have H':=Ah H;clear H;have T3:=Lz.out;have T5:=M0.out;have yp:=ap jU;have yq:=an jU
   go_wp2_with (first|((with_reducible refine bJ (f:=11) rfl ?_);refine gL (some 12) rfl rfl Try.func11 (by kernel_rfl) rfl #[.agg #[.slice bS J.length bL]] rfl ?_;(with_reducible refine(bh.calls k _ _ J false _ ?a8 ?a9 A6.out).mono ?_);(case a8=>exact cb cY HB);(case a9=>exact dw.out);rintro e PZ ⟨rfl,hb⟩;refine⟨_,rfl, ?_⟩;replace jU:=nb jU hb;replace jj:=nb jj hb;replace HB:=Ah (aK (aW HB mW oM) hb);(try clear hb)))
   go_meet
   case rel=>exact⟨_,(true),e3,H',⟨by first|omega|exact bx _⟩,⟨bk jU⟩,⟨bk jj⟩,⟨aW HB mW oM⟩⟩
  subst c7;rw[if_pos rfl]at H;replace H:=LT.mp H;obtain⟨G5,AP,H⟩:=H
  try dsimp only at H
  have A8:=Ah AP;clear AP;have H':=Ah H;clear H;have a5Y:=Lz.out;have a5Z:=M0.out;have pH:=ap jU;have pI:=an jU
  go_wp2_with (first|((with_reducible refine bJ (f:=11) rfl ?_);refine gL (some 12) rfl rfl Try.func11 (by kernel_rfl) rfl #[.agg #[.slice bS J.length bL]] rfl ?_;(with_reducible refine(bh.calls k _ _ J true _ ?a8 ?a9 A6.out).mono ?_);(case a8=>exact cb cY HB);(case a9=>exact dw.out);rintro e rg ⟨rfl,hb⟩;refine⟨_,rfl, ?_⟩;replace jU:=nb jU hb;replace jj:=nb jj hb;replace HB:=Ah (aK (aW HB mW oM) hb);(try clear hb))|(go_at_call 32;(with_reducible refine(hF.calls a1 0 200 G5 _ A8.out).mono ?_);rintro e w' ⟨rfl,⟨nd,rfl⟩⟩))
  go_meet
  case rel=>exact⟨_,(!G5),e3,H',⟨by first|omega|exact bx _⟩,⟨bk jU⟩,⟨bk jj⟩,⟨aW HB mW oM⟩⟩
 case rest=>
  clear ke
  try clear c1
  try clear p2
  try clear c7
  try clear c9
  try clear c11
  try clear c12
  try clear pH
  try clear yp
  try clear pI
  try clear yq
  obtain⟨kq,xJ,rfl,HA,HJ2,jU,jj,HB⟩:=hcut
  cases kq with
  |zero=>exact absurd HA.out (by simp[ie.j0])
  |succ kf=>
   have H:=HA.out;clear HA;simp only[ie.j0]at H
   by_cases c15:xJ=true
   ·
    subst c15;rw[if_pos rfl]at H;simp only[j4,ub]at H;obtain⟨rfl,rfl,rfl⟩:=H;have hnb16:=M0.out;have hnc16:=Lz.out;have qR:=ap jj;have qS:=an jj
    go_wp2
    refine bodyPost_ret (rj rfl _ _ Ja 25 #[.slice none 0 0] (0,0) _ rfl (by(with_reducible repeat(first|refine aD ?_ _|refine Z ?_|refine aC ?_ _));refine aj (cs:= #[.slice none 0 0]) ?_ 0 _ rfl;(with_reducible repeat(first|refine aD ?_ _|refine Z ?_|refine aC ?_ _));exact jj.out) ua rfl (by kernel_rfl)) rfl ?_;exact⟨_,_,er,by first|exact Kd.fk _ _ _ _ _|exact Kd.iI _ _ _ _ _|exact Kd.iJ _ _ _ _ _|exact Kd.iG _ _ _ _ _|exact Kd.iH _ _ _ _ _,by first|exact Kd.fk _ _ _ _ _|exact Kd.iI _ _ _ _ _|exact Kd.iJ _ _ _ _ _|exact Kd.iG _ _ _ _ _|exact Kd.iH _ _ _ _ _,aW HB mW oM⟩
   replace c15:=dn.mpr c15;subst c15;rw[if_neg dV]at H;replace H:=LT.mp H;obtain⟨jk,a6n,H⟩:=H
   try dsimp only at H
   have A18:=Ah a6n;clear a6n
   by_cases c19:0≤a1
   rotate_left
   ·
    rw[if_neg c19]at H;exact absurd H (by simp)
   rw[if_pos c19]at H;have a16:=eq_true c19;have c19b1:decide (0≤a1)=true:=decide_eq_true c19;clear c19
   by_cases c20:a1≤(jk.length:Int)
   rotate_left
   ·
    rw[if_neg c20]at H;exact absurd H (by simp)
   rw[if_pos c20]at H;have Nl:=eq_true c20;have c20b1:decide (a1≤(jk.length:Int))=true:=decide_eq_true c20;clear c20;obtain⟨AF,Jb⟩:∃y_:List (eW),y_=(jk.drop (a1:Int).toNat):=⟨_,rfl⟩
   replace H:((fX.f kf AF).bind fun G4=>((dP.f kf (jk.take (a1:Int).toNat)).bind fun zY=>(some (zY.1,G4,zY.2))))=some (r1,r2,r3):=by first|(rw[Jb];with_reducible exact H)|(have aX:=(Option.bind_some _ _).symm.trans H;rw[Jb];with_reducible exact aX)|(have aX:=(Option.bind_some _ _).symm.trans H;with_reducible exact aX)|with_reducible exact H|(rw[Jb];exact H)|exact H
   have a3s:=Ah Jb;clear Jb;replace H:=LT.mp H;obtain⟨G4,a6o,H⟩:=H
   try dsimp only at H
   have A21:=Ah a6o;clear a6o;have c22b0:=eq_true (od:0≤a1);have Sa:=eq_true (od:a1≤(jk.length:Int));obtain⟨L7,Jc⟩:∃y_:List (eW),y_=(jk.take (a1:Int).toNat):=⟨_,rfl⟩
   replace H:((dP.f kf L7).bind fun zY=>(some (zY.1,G4,zY.2)))=some (r1,r2,r3):=by first|(rw[Jc];with_reducible exact H)|(have aX:=(Mq _ _).symm.trans H;rw[Jc];with_reducible exact aX)|(have aX:=(Mq _ _).symm.trans H;with_reducible exact aX)|with_reducible exact H|(rw[Jc];exact H)|exact H
   have a3t:=Ah Jc;clear Jc;replace H:=LT.mp H;obtain⟨⟨G6,t659⟩,a6p,H⟩:=H
   try dsimp only at H
   have A24:=Ah a6p;clear a6p;simp only[j4,ub]at H;obtain⟨rfl,rfl,rfl⟩:=H;have Sx:=Lz.out;have Sy:=M0.out;have RY:=ap jU;have RZ:=an jU
   go_wp2_with (first|((with_reducible refine bJ (f:=23) rfl ?_);refine gL (some 21) rfl rfl Try.func23 (by kernel_rfl) rfl #[.agg #[.slice bS J.length bL]] rfl ?_;(with_reducible refine(dJ.calls kf _ _ J jk _ ?a8 ?a9 A18.out).mono ?_);(case a8=>exact cb cY HB);(case a9=>exact dw.out);rintro e xy ⟨v643,rfl,ho0,hb⟩;refine⟨_,rfl, ?_⟩;have tp:=Ah (Kd.dD ho0 (be (aW HB mW oM)));replace jU:=nb jU hb;replace jj:=nb jj hb;replace HB:=Ah (aK (aW HB mW oM) hb);(try clear hb ho0);obtain⟨rT,mH,Kp⟩:=Kd.bq tp.out;subst Kp;have X2:(a1:Int)≤((jk.length:Int):Int):=od;obtain⟨i028,a3u,_,a3v,_⟩:=info_parts Bz;have Rq:jk.length≤mH:=(Kd.af tp.out).2.1;have a6q:Kd.C gx _ rT jk.length jk:=(Kd.af tp.out).2.2;have q028:(0:Int)≤(a1:Int):=od;have hcut28:=wC (P:=aad) 56 71 .i64 abk a3u 3 a3v rT jk.length mH a1 q028 X2;have L8:=Kd.sD (m:=(a1:Int).toNat) (c:=mH) a6q (by omega) Rq;obtain⟨Pk,PF⟩:∃A1,A1=(if mH=(a1:Int).toNat then rT else(rT:Option Addr).map (·.add ((a1:Int).toNat*3))):=⟨_,rfl⟩;obtain⟨c28,hc28⟩:∃c1,c1=mH-(a1:Int).toNat:=⟨_,rfl⟩;have hy28:AF.length=jk.length-(a1:Int).toNat:=(by rw[a3s.out,List.length_drop]<;>omega);rw[show(jk).drop (a1:Int).toNat=AF from a3s.out.symm]at L8;replace L8:Kd.C gx _ Pk AF.length AF:=(by rw[PF];exact L8);rw[←hy28,←PF,←hc28]at hcut28;have tq:=Ah L8;have HC648:=Ah (show AF.length≤c28 from by rw[hy28,hc28];exact Nat.sub_le_sub_right Rq _);clear L8 a6q Rq a3u a3v hc28;have KY28:=Ah hy28;have KA28:=Ah PF;clear hy28 PF;have KL28:=Ah (show(a1:Int).toNat≤jk.length from by omega);replace X2:=eq_true X2)|((with_reducible refine bJ (f:=24) rfl ?_);refine gL (some 25) rfl rfl Try.func24 (by kernel_rfl) rfl #[.slice Pk AF.length c28] rfl ?_;(with_reducible refine(fX.calls kf _ _ AF G4 _ ?a8 ?a9 A21.out).mono ?_);(case a8=>repeat(first|exact(by repeat(first|(with_reducible exact tq.out)|(with_reducible refine Kd.jn ?_ _)|(with_reducible refine Kd.jo ?_ _)|(with_reducible refine Kd.js ?_)|exact tq.out))|(with_reducible refine Kd.jn ?_ _)|(with_reducible refine Kd.jo ?_ _)|(with_reducible refine Kd.js ?_)));(case a9=>exact HC648.out);rintro e rb ⟨v650,rfl,ho0,hb⟩;refine⟨_,rfl, ?_⟩;replace tp:=nr tp hb;have Jd:=Ah (Kd.dD ho0 (be (aW HB mW oM)));replace jU:=nb jU hb;replace jj:=nb jj hb;replace tq:=Ah (Kd.qQ (by repeat(first|(with_reducible exact tq.out)|(with_reducible refine Kd.jn ?_ _)|(with_reducible refine Kd.jo ?_ _)|(with_reducible refine Kd.js ?_)|exact tq.out)) hb);replace HB:=Ah (aK (aW HB mW oM) hb);(try clear hb ho0);have X3:(a1:Int)≤((jk.length:Int):Int):=od;obtain⟨i031,a3w,_,hsz31,_⟩:=info_parts Bz;have a0a:jk.length≤mH:=(Kd.af tp.out).2.1;have a6r:Kd.C gx _ rT jk.length jk:=(Kd.af tp.out).2.2;have hcut31:=Ed (P:=aad) 56 71 .i64 abk a3w rT jk.length mH a1 (od) X3 a0a;have Wf:=Kd.qm (m:=(a1:Int).toNat) a6r (by omega);have hy31:L7.length=(a1:Int).toNat:=(by rw[a3t.out,List.length_take];omega);rw[←a3t.out]at Wf;rw[←hy31]at hcut31;have zZ:=Ah Wf;have HC655:=Ah (show L7.length≤mH from by omega);clear Wf a6r a0a a3w hsz31;have KY31:=Ah hy31;clear hy31;have KL31:=Ah (show(a1:Int).toNat≤jk.length from by omega);replace X3:=eq_true X3)|((with_reducible refine bJ (f:=25) rfl ?_);refine gL (some 30) rfl rfl Try.func25 (by kernel_rfl) rfl #[.slice rT L7.length mH] rfl ?_;(with_reducible refine(dP.calls kf _ _ L7 G6 t659 _ ?a8 ?a9 A24.out).mono ?_);(case a8=>repeat(first|exact(by repeat(first|(with_reducible exact zZ.out)|(with_reducible refine Kd.jn ?_ _)|(with_reducible refine Kd.jo ?_ _)|(with_reducible refine Kd.js ?_)|exact zZ.out))|(with_reducible refine Kd.jn ?_ _)|(with_reducible refine Kd.jo ?_ _)|(with_reducible refine Kd.js ?_)));(case a9=>exact HC655.out);rintro e w32 ⟨v657,rfl,ho0,hb⟩;refine⟨_,rfl, ?_⟩;replace tp:=nr tp hb;replace Jd:=nr Jd hb;have OB:=Ah (Kd.dD ho0 (be (aW HB mW oM)));replace jU:=nb jU hb;replace jj:=nb jj hb;replace tq:=Ah (Kd.qQ (by repeat(first|(with_reducible exact tq.out)|(with_reducible refine Kd.jn ?_ _)|(with_reducible refine Kd.jo ?_ _)|(with_reducible refine Kd.js ?_)|exact tq.out)) hb);replace zZ:=Ah (Kd.qQ (by repeat(first|(with_reducible exact zZ.out)|(with_reducible refine Kd.jn ?_ _)|(with_reducible refine Kd.jo ?_ _)|(with_reducible refine Kd.js ?_)|exact zZ.out)) hb);replace HB:=Ah (aK (aW HB mW oM) hb);(try clear hb ho0))|((with_reducible refine ax (N:=9) rfl ?_);refine bA 9 25 #[.slice none 0 0] ?_;intro a3x hg q9 OC hb;replace tp:=nr tp hb;replace Jd:=nr Jd hb;replace OB:=nr OB hb;replace tq:=Ah (Kd.qQ (by repeat(first|(with_reducible exact tq.out)|(with_reducible refine Kd.jn ?_ _)|(with_reducible refine Kd.jo ?_ _)|(with_reducible refine Kd.js ?_)|exact tq.out)) hb);replace zZ:=Ah (Kd.qQ (by repeat(first|(with_reducible exact zZ.out)|(with_reducible refine Kd.jn ?_ _)|(with_reducible refine Kd.jo ?_ _)|(with_reducible refine Kd.js ?_)|exact zZ.out)) hb);have GW660:=gw hg (aW HB mW oM);have GE660:=gw hg (aW HB mW oM);replace HB:=Ah (aK (aW HB mW oM) hb);have NB638_660:=nn jU hg;have NB660_638:=nm jU hg;replace jU:=nb jU hb;have Y7:=nn jj hg;have NB660_639:=nm jj hg;replace jj:=nb jj hb;clear hb hg;obtain⟨FW,FX,UL⟩:=Kd.bq OB.out;subst UL;have hnb35:=NB660_638.out;have hnc35:=NB638_660.out;have I0:=NB660_639.out;have I1:=Y7.out;have EM:=ap OC;have EN:=an OC;have pE:=ap jj;have pF:=an jj))
   refine bodyPost_ret (rj rfl _ _ Ja 25 #[.slice FW G6.length FX] (0,0) _ rfl (by(with_reducible repeat(first|refine aD ?_ _|refine Z ?_|refine aC ?_ _));refine aj (cs:= #[.slice none 0 0]) ?_ 0 _ rfl;(with_reducible repeat(first|refine aD ?_ _|refine Z ?_|refine aC ?_ _));refine gc ?_ Y7.out _;(with_reducible repeat(first|refine aD ?_ _|refine Z ?_|refine aC ?_ _));exact jj.out) ua rfl (by kernel_rfl)) rfl ?_;exact⟨_,_,er,by(with_reducible repeat(first|apply Kd.bG|apply Kd.bE|apply Kd.al));exact Kd.aY (Kd.aQ (p:=⟨Ja,0,none⟩) (Kd.aQ (p:=⟨a3x,0,none⟩) (Kd.cl (Kd.cl OB.out OC.out (by decide)) jj.out (by decide)) (fun _ hk=>hk.1.2) (.slice FW G6.length FX)) (fun _ hk=>hk.2) (.slice FW G6.length FX)) (fun _ hk=>trivial),by(with_reducible repeat(first|apply Kd.bG|apply Kd.bE|apply Kd.al));exact Kd.aY (Kd.aQ (p:=⟨Ja,0,none⟩) (Kd.aQ (p:=⟨a3x,0,none⟩) (Kd.cl (Kd.cl Jd.out OC.out (by decide)) jj.out (by decide)) (fun _ hk=>hk.1.2) (.slice FW G6.length FX)) (fun _ hk=>hk.2) (.slice FW G6.length FX)) (fun _ hk=>trivial),bX HB mW oM GE660⟩
end Go.Proofs.Ytjojdplkgekagaa.G
