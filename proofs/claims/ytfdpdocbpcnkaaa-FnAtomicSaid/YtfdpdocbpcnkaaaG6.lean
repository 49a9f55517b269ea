-- Printed by a program of this session (drive.py, by way of the kit's print). Not trusted: Lean checks it.
import Derived.Test.YtfdpdocbpcnkaaaG0
import Derived.Test.YtfdpdocbpcnkaaaG1
import Derived.Test.YtfdpdocbpcnkaaaG2
import Derived.Test.YtfdpdocbpcnkaaaG5
open Bool renaming eq_false_iff→dW
open ByteArray renaming empty→bA
open Go.Act renaming put→aaa
open Go.Proofs.Try renaming prog→t5,underlying28→wd,underlying64→aah,func16→aas,underlying22→aaD,underlying24→aaE,func17→aba,underlying9→abe
open Go.RowKit renaming wrap64→I0
open Go.RowKit.Below renaming refl→pv
open Go.World renaming block_lt_of_cell?→I1
open List renaming setIfInBounds_toArray→JM,length_take→bx,set_cons_zero→jG,set_cons_succ→kt,length_drop→qh,map_toArray→aab,map_cons→aad,map_nil→aaf
open Nat renaming le_refl→mz,ne_of_lt→aam,ne_of_gt→aao
open Option renaming bind_eq_some_iff→He,bind_some→Ok
open Option.some renaming injEq→fc,inj→fl
open Prod.mk renaming injEq→oe
namespace Go.Proofs.Ytfdpdocbpcnkaaa.G
open Go.RowKit Go.Proofs.YtfdpdocbpcnkaaaW.PrintWords Go.Proofs.YtfdpdocbpcnkaaaW.PrintLast Go.Proofs.YtfdpdocbpcnkaaaW.PrintMore
attribute [local go_sem] tM tN tQ tR tA tB tO tP
set_option linter.unusedVariables false
set_option linter.unusedSimpArgs false
attribute [local go_sem high] NP
def iv.f(k:Nat)(l0:List Int):Option (List ByteArray×(List (S64))×List ByteArray×Int×List Bool×Int):=(cu.f k l0 0 0).bind fun iH=>((iS.f l0 iH.2.2.2.2.1 iH.2.2.2.2.2 20).bind fun rK=>(if rK.1=true then((gg.f k l0 rK.2.1 rK.2.2 (I0 ((iH.2.1.length:Int)+1))).bind fun rL=>((dj.f l0 rL.2.1 rL.2.2 4).bind fun rM=>((dj.f l0 rM.2.1 rM.2.2 2).bind fun Eo=>(some (iH.1,iH.2.1,iH.2.2.1,iH.2.2.2.1,rL.1,I0 ((I0 (iH.2.2.2.1+rM.1))-Eo.1))))))else((gg.f k l0 rK.2.1 rK.2.2 (iH.2.1.length:Int)).bind fun yQ=>((dj.f l0 yQ.2.1 yQ.2.2 4).bind fun yR=>((dj.f l0 yR.2.1 yR.2.2 2).bind fun Nz=>(some (iH.1,iH.2.1,iH.2.2.1,iH.2.2.2.1,yQ.1,I0 ((I0 (iH.2.2.2.1+yR.1))-Nz.1))))))))
theorem iv.mono:∀a0 k,a8 (iv.f k a0) (iv.f (k+1) a0):=by
 intro a0 k;unfold iv.f
 repeat' with_reducible first|exact gg.mono _ _ _ _ _|exact cu.mono _ _ _ _|exact a8.refl _|exact a8.none _|refine a8.ite ?_ ?_|refine a8.bind ?_ (fun _=> ?_)
def iv.T6:Bool×List (List Nat×List Nat):=(true,[([],[]),([],[]),([],[]),([1,2],[1,2]),([],[]),([4],[4]),([],[]),([6,3],[6]),([5,7],[5,7]),([],[]),([9,7],[9]),([8,10],[8,10]),([0,10,0],[0]),([3,12,0,1,2,3,12],[3]),([11,13,0,1,2,3,4,5,6,7,8,9,10,11,12,13],[11])])
def iv.B6:List Nat:=[0,0,0,6,0,16,0,78,254,0,718,2046,1743,5839,16383]
theorem iv.wA:fN .any (lh Try.f4 6)=iv.T6:=by kernel_rfl
theorem iv.vI:ji iv.T6.2 iv.B6=true:=by kernel_rfl
set_option maxHeartbeats 8000000 in
set_option maxRecDepth 100000 in
theorem iv.calls(k:Nat)(A0:Option Addr)(c0:Nat)(l0:List Int)(r1:List ByteArray)(r2:List (S64))(r3:List ByteArray)(r4:Int)(r5:List Bool)(r6:Int)(w:World)(hr0:Kd.C (Kd.int .u8) w A0 l0.length l0)(hc0:l0.length≤c0)(h:iv.f k l0=some (r1,r2,r3,r4,r5,r6)):
 Calls Try.prog 4 #[.slice A0 l0.length c0] w fun e w'=>∃bh eA ee YX:Value,e= .returned (.tuple #[.agg #[bh,eA,ee,.int .i64 r4],YX,.int .i64 r6])∧Kd.R Kd.string 9 w' w.heap.size (fun k_=>some k_≠(ee:Value).ownBlock) bh r1∧Kd.R bS 64 w' w.heap.size (fun _=>True) eA r2∧Kd.R Kd.string 9 w' w.heap.size (fun k_=>some k_≠(bh:Value).ownBlock) ee r3∧Kd.R Kd.bool 4 w' w.heap.size (fun _=>True) YX r5∧Below w.heap.size w w':=by
 have mE:=wd;have hu44:=Try.underlying44;have d8:=Ah hr0;have gV:=Ah hc0;clear hr0 hc0;have HB:=Ah (pv w.heap.size w);have H:((cu.f k l0 0 0).bind fun iH=>((iS.f l0 iH.2.2.2.2.1 iH.2.2.2.2.2 20).bind fun rK=>(if rK.1=true then((gg.f k l0 rK.2.1 rK.2.2 (I0 ((iH.2.1.length:Int)+1))).bind fun rL=>((dj.f l0 rL.2.1 rL.2.2 4).bind fun rM=>((dj.f l0 rM.2.1 rM.2.2 2).bind fun Eo=>(some (iH.1,iH.2.1,iH.2.2.1,iH.2.2.2.1,rL.1,I0 ((I0 (iH.2.2.2.1+rM.1))-Eo.1))))))else((gg.f k l0 rK.2.1 rK.2.2 (iH.2.1.length:Int)).bind fun yQ=>((dj.f l0 yQ.2.1 yQ.2.2 4).bind fun yR=>((dj.f l0 yR.2.1 yR.2.2 2).bind fun Nz=>(some (iH.1,iH.2.1,iH.2.2.1,iH.2.2.2.1,yQ.1,I0 ((I0 (iH.2.2.2.1+yR.1))-Nz.1)))))))))=some (r1,r2,r3,r4,r5,r6):=h;clear h;replace H:=He.mp H;obtain⟨⟨gT,gU,jA,kM,oP,oQ⟩,fR,H⟩:=H
 try dsimp only at H
 have A2:=Ah fR;clear fR;replace H:=He.mp H;obtain⟨⟨a7z,sp,sq⟩,de,H⟩:=H
 try dsimp only at H
 have A3:=Ah de;clear de
 by_cases c4:a7z=true
 ·
  subst c4;rw[if_pos rfl]at H;replace H:=He.mp H;obtain⟨⟨a7A,CD,CE⟩,lC,H⟩:=H
  try dsimp only at H
  have A5:=Ah lC;clear lC;replace H:=He.mp H;obtain⟨⟨a7B,CF,CG⟩,e9,H⟩:=H
  try dsimp only at H
  have A6:=Ah e9;clear e9;replace H:=He.mp H;obtain⟨⟨a7C,a7D,a7E⟩,jx,H⟩:=H
  try dsimp only at H
  have A7:=Ah jx;clear jx;simp only[fc,oe]at H;obtain⟨rfl,rfl,rfl,rfl,rfl,rfl⟩:=H
  go_enter Try.func4,Try.ntmps4
  try go_wp2_with (first|((with_reducible refine ao (N:=2) rfl ?_);refine az 2 28 #[.slice none 0 0,.slice none 0 0,.slice none 0 0,.int .i64 0] ?_;intro cO hg w8 cj hb;have a4E:=gw hg (bs HB);have gY:=gw hg (bs HB);replace HB:=Ah (aJ (bs HB) hb);clear hb hg)|((with_reducible refine ao (N:=10) rfl ?_);refine az 10 44 #[.slice A0 l0.length c0,.int .i64 0,.int .u64 0] ?_;intro dc hg w9 O0 hb;have a4F:=gw hg (aM HB gY);have O1:=gw hg (aM HB gY);replace HB:=Ah (aJ (aM HB gY) hb);have qm:=nn cj hg;have ei:=nm cj hg;replace cj:=nb cj hb;clear hb hg;have cy:=Ah (show I w w9 dc l0 0 0 from⟨_,_,(bk O0),O1.out,d8.out⟩))|((with_reducible refine ap (f:=13) rfl ?_);refine gL (some 12) rfl rfl Try.func13 (by kernel_rfl) rfl #[.pointer (some ⟨dc,0,none⟩)] rfl ?_;(with_reducible refine(cu.calls k dc l0 0 0 gT gU jA kM oP oQ w _ ?aE ?aG A2.out).mono ?_);(case aE=>exact I.eh cy ei);(case aG=>exact aM HB gY);rintro e pq ⟨a7F,a7G,a7H,rfl,ho0,ho1,ho2,hi,hb,hk⟩;refine⟨_,rfl, ?_⟩;replace cj:=Ah (aT.blk hk (g':=cO) (o:= .cells #[.slice none 0 0,.slice none 0 0,.slice none 0 0,.int .i64 0] 28 (0,0)) (bk cj) qm.out (by simp));have ff:=Ah (Kd.bD ho0 (bJ (aM HB gY)));have fg:=Ah (Kd.bD ho1 (bJ (aM HB gY)));have fh:=Ah (Kd.bD ho2 (bJ (aM HB gY)));replace HB:=Ah (hb);replace cy:=Ah (hi);(try clear hb hk hi ho0 ho1 ho2))|((with_reducible refine ao (N:=6) rfl ?_);refine az 6 28 #[.slice none 0 0,.slice none 0 0,.slice none 0 0,.int .i64 0] ?_;intro ka hg sy cw hb;replace ff:=nr ff hb;replace fg:=nr fg hb;replace fh:=nr fh hb;have a4G:=gw hg (aM HB gY);have pM:=gw hg (aM HB gY);replace HB:=Ah (aJ (aM HB gY) hb);have ov:=nn cj hg;have fA:=nm cj hg;replace cj:=nb cj hb;have fe:=Ah ((by rw[hg];exact aam (I.lt (show I w _ dc l0 oP oQ from I.eh cy ei)):dc≠ka));have qn:=Ah ((by rw[hg];exact aao (I.lt (show I w _ dc l0 oP oQ from I.eh cy ei)):ka≠dc));replace cy:=Ah (I.below (I.eh cy ei) hb);clear hb hg;obtain⟨ga,gC,pj⟩:=Kd.al ff.out;subst pj;have hnb13:=fA.out;have hnc13:=ov.out;have K1:=qn.out;have K2:=fe.out;obtain⟨sT,tY,BI,BJ⟩:=b0 cw;obtain⟨sU,tZ,BK,BL⟩:=b5 cw;obtain⟨jd,j9,vx⟩:=Kd.al fg.out;subst vx;obtain⟨iP,iQ,zS⟩:=Kd.al fh.out;subst zS)|((with_reducible refine ap (f:=14) rfl ?_);refine gL (some 18) rfl rfl Try.func14 (by kernel_rfl) rfl #[.pointer (some ⟨dc,0,none⟩),.int .i64 20] rfl ?_;(with_reducible refine(iS.calls dc l0 oP oQ 20 true sp sq w _ ?aE ?aG A3.out).mono ?_);(case aE=>exact I.bZ cy ei fe);(case aG=>exact aW HB gY pM);rintro e lz ⟨rfl,hi,hb,hk⟩;refine⟨_,rfl, ?_⟩;replace cj:=Ah (aT.blk hk (g':=cO) (o:= .cells #[.slice none 0 0,.slice none 0 0,.slice none 0 0,.int .i64 0] 28 (0,0)) (bf cj ov) qm.out (by simp));replace ff:=Ah (Kd.aK (Kd.cC (I.apart (show I w _ dc l0 oP oQ from I.bZ cy ei fe) (rf ff cw) (by decide)) hk (fun _ h=>h.2)) (fun _ h=>h.1));replace fg:=Ah (Kd.aK (Kd.cC (I.apart (show I w _ dc l0 oP oQ from I.bZ cy ei fe) (rf fg cw) (by decide)) hk (fun _ h=>h.2)) (fun _ h=>h.1));replace fh:=Ah (Kd.aK (Kd.cC (I.apart (show I w _ dc l0 oP oQ from I.bZ cy ei fe) (rf fh cw) (by decide)) hk (fun _ h=>h.2)) (fun _ h=>h.1));replace cw:=Ah (aT.blk hk (g':=ka) (o:= .cells #[.slice ga gT.length gC,.slice jd gU.length j9,.slice iP jA.length iQ,.int .i64 kM] 28 (0,0)) (by(with_reducible repeat(first|refine a9 ?_ _|refine U ?_|refine Z ?_ _));refine aN (cs:= #[.slice ga gT.length gC,.slice jd gU.length j9,.slice iP jA.length iQ,.int .i64 0]) ?_ 3 _ rfl;(with_reducible repeat(first|refine a9 ?_ _|refine U ?_|refine Z ?_ _));refine aN (cs:= #[.slice ga gT.length gC,.slice jd gU.length j9,.slice none 0 0,.int .i64 0]) ?_ 2 _ rfl;(with_reducible repeat(first|refine a9 ?_ _|refine U ?_|refine Z ?_ _));refine aN (cs:= #[.slice ga gT.length gC,.slice none 0 0,.slice none 0 0,.int .i64 0]) ?_ 1 _ rfl;(with_reducible repeat(first|refine a9 ?_ _|refine U ?_|refine Z ?_ _));refine aN (cs:= #[.slice none 0 0,.slice none 0 0,.slice none 0 0,.int .i64 0]) ?_ 0 _ rfl;(with_reducible repeat(first|refine a9 ?_ _|refine U ?_|refine Z ?_ _));exact cw.out) qn.out (by simp));replace HB:=Ah (hb);replace cy:=Ah (hi);(try clear hb hk hi)))
  have aY:=Ah (Kd.aa ff.out);have aX:=Ah (Kd.aa fg.out);have ae:=Ah (Kd.aa fh.out);have aq:=Ah (U cj.out);have bF:=Ah (U cw.out);have bO:=Ah (I.drew cy.out);have bl:=Ah (ia HB.out);clear ff fg fh cj cw cy HB;have ff:=aY;have fg:=aX;have fh:=ae;have cj:=aq;have cw:=bF;have cy:=bO;have HB:=bl;clear aY aX ae aq bF bO bl;refine k9 (n:=15) (S:=fun w'=>w'.cell? ⟨ka,0,none⟩=some (.slice ga gT.length gC)∧w'.cell? ⟨ka,1,none⟩=some (.slice jd gU.length j9)∧w'.cell? ⟨ka,2,none⟩=some (.slice iP jA.length iQ)∧w'.cell? ⟨ka,3,none⟩=some (.int .i64 kM)) (ds:=[]) #[false,false,false,false,false,false,false,false,false,false,false,false,false,false,false] (by kernel_rfl) rfl rfl ⟨(aQ cw.out 0).trans rfl,(aQ cw.out 1).trans rfl,(aQ cw.out 2).trans rfl,(aQ cw.out 3).trans rfl⟩ (fun hHeld=> ?_);refine kS iv.wA iv.vI (fun aU dT=> ?_)
  generalize lz.drew=kR at ff fg fh cj cw cy HB hHeld⊢
  refine b8 1 22 aU.out ?_;refine b8 2 23 aU.out ?_;refine b8 4 25 aU.out ?_;refine b8 6 27 aU.out ?_;refine b8 9 30 aU.out ?_;refine fZ 0 21 aU.out dT.out hHeld (hr:=by rintro w' ⟨s0,s1,s2,s3⟩;go_simp;with_reducible rfl) (h:= ?_);refine fZ 5 26 aU.out dT.out hHeld (hr:=by rintro w' ⟨s0,s1,s2,s3⟩;go_simp;with_reducible rfl) (h:= ?_);refine e5 (i:=3) (N:=some 24) #[true,true,true,true,true,true,true,false,false,true,false,false,false,false,false] rfl rfl (dz aU.out (by kernel_rfl)) (by decide) (fun K hK=> ?_);refine iw Try.func15 (by kernel_rfl) rfl #[.pointer (some ⟨dc,0,none⟩),.int .i64 (wrap64 ((gU.length:Int)+1))] (by rfl) rfl rfl (by(try simp only[List.map_toArray,List.map_cons,List.map_nil]);first|done|rfl|(simp only[List.length_drop,List.length_take];rfl)) ?_
  with_reducible refine(gg.calls k dc l0 sp sq (I0 ((gU.length:Int)+1)) a7A CD CE w _ ?aE ?aG A5.out).mono ?_
  (case aE=>exact I.bZ cy ei fe);(case aG=>exact aW HB gY pM);rintro e np ⟨v521,rfl,ho0,hi,hb,hk⟩;refine⟨_,rfl, ?_⟩;have aY:=Ah (aT.blk hk (g':=cO) (o:= .cells #[.slice none 0 0,.slice none 0 0,.slice none 0 0,.int .i64 0] 28 (0,0)) (bk cj) qm.out (by simp));have aX:=Ah (Kd.aK (Kd.cC (I.apart (show I w _ dc l0 sp sq from I.bZ cy ei fe) (rr ff.out) (by decide)) hk (fun _ h=>h.2)) (fun _ h=>h.1));have ae:=Ah (Kd.aK (Kd.cC (I.apart (show I w _ dc l0 sp sq from I.bZ cy ei fe) (rr fg.out) (by decide)) hk (fun _ h=>h.2)) (fun _ h=>h.1));have aq:=Ah (Kd.aK (Kd.cC (I.apart (show I w _ dc l0 sp sq from I.bZ cy ei fe) (rr fh.out) (by decide)) hk (fun _ h=>h.2)) (fun _ h=>h.1));have bF:=Ah (aT.blk hk (g':=ka) (o:= .cells #[.slice ga gT.length gC,.slice jd gU.length j9,.slice iP jA.length iQ,.int .i64 kM] 28 (0,0)) (bk cw) qn.out (by simp));have bO:=Ah (Kd.bD ho0 (bJ (aW HB gY pM)));have bl:=Ah (hb);have d3:=Ah (hi);clear cj ff fg fh cw HB cy;have cj:=aY;have ff:=aX;have fg:=ae;have fh:=aq;have cw:=bF;have yS:=bO;have HB:=bl;have cy:=d3;clear aY aX ae aq bF bO bl d3;(try clear hb);(try clear hb2);(try clear hk);(try clear hi);(try clear ho0);refine hK.out _ _ ⟨(aQ cw.out 0).trans rfl,(aQ cw.out 1).trans rfl,(aQ cw.out 2).trans rfl,(aQ cw.out 3).trans rfl⟩ (fun hHeld=> ?_);clear hK K;refine ej (a':= ?_) ?_ ?_;rotate_left
  ·
   show aaa _ (some 24) _=_
   simp only[aaa,JM,jG,kt,dD,dP]
   rfl
  refine e5 (i:=7) (N:=some 28) #[true,true,true,true,true,true,true,true,false,true,false,false,false,false,false] rfl rfl (dz aU.out (by kernel_rfl)) (by decide) (fun K hK=> ?_);refine iw aas (by kernel_rfl) rfl #[.pointer (some ⟨dc,0,none⟩),.int .i64 4] (by rfl) rfl rfl (by(try simp only[aab,aad,aaf]);first|done|rfl|(simp only[qh,bx];rfl)) ?_
  with_reducible refine(dj.calls dc l0 CD CE 4 a7B CF CG w _ ?aE ?aG A6.out).mono ?_
  (case aE=>exact I.bZ cy ei fe);(case aG=>exact aW HB gY pM);rintro e ir ⟨rfl,hi,hb,hk⟩;refine⟨_,rfl, ?_⟩;have aY:=Ah (aT.blk hk (g':=cO) (o:= .cells #[.slice none 0 0,.slice none 0 0,.slice none 0 0,.int .i64 0] 28 (0,0)) (bk cj) qm.out (by simp));have aX:=Ah (Kd.aK (Kd.cC (I.apart (show I w _ dc l0 CD CE from I.bZ cy ei fe) (rr ff.out) (by decide)) hk (fun _ h=>h.2)) (fun _ h=>h.1));have ae:=Ah (Kd.aK (Kd.cC (I.apart (show I w _ dc l0 CD CE from I.bZ cy ei fe) (rr fg.out) (by decide)) hk (fun _ h=>h.2)) (fun _ h=>h.1));have aq:=Ah (Kd.aK (Kd.cC (I.apart (show I w _ dc l0 CD CE from I.bZ cy ei fe) (rr fh.out) (by decide)) hk (fun _ h=>h.2)) (fun _ h=>h.1));have bF:=Ah (aT.blk hk (g':=ka) (o:= .cells #[.slice ga gT.length gC,.slice jd gU.length j9,.slice iP jA.length iQ,.int .i64 kM] 28 (0,0)) (bk cw) qn.out (by simp));have bO:=Ah (Kd.aK (Kd.cC (I.apart (show I w _ dc l0 CD CE from I.bZ cy ei fe) (rr yS.out) (by decide)) hk (fun _ h=>h.2)) (fun _ h=>h.1));have bl:=Ah (hb);have d3:=Ah (hi);clear cj ff fg fh cw yS HB cy;have cj:=aY;have ff:=aX;have fg:=ae;have fh:=aq;have cw:=bF;have yS:=bO;have HB:=bl;have cy:=d3;clear aY aX ae aq bF bO bl d3;(try clear hb);(try clear hb2);(try clear hk);(try clear hi);refine hK.out _ _ ⟨(aQ cw.out 0).trans rfl,(aQ cw.out 1).trans rfl,(aQ cw.out 2).trans rfl,(aQ cw.out 3).trans rfl⟩ (fun hHeld=> ?_);clear hK K;refine ej (a':= ?_) ?_ ?_;rotate_left
  ·
   show aaa _ (some 28) _=_
   simp only[aaa,JM,jG,kt,dD,dP]
   rfl
  refine b8 8 29 aU.out ?_;refine e5 (i:=10) (N:=some 31) #[true,true,true,true,true,true,true,true,true,true,true,false,false,false,false] rfl rfl (dz aU.out (by kernel_rfl)) (by decide) (fun K hK=> ?_);refine iw aas (by kernel_rfl) rfl #[.pointer (some ⟨dc,0,none⟩),.int .i64 2] (by rfl) rfl rfl (by(try simp only[aab,aad,aaf]);first|done|rfl|(simp only[qh,bx];rfl)) ?_
  with_reducible refine(dj.calls dc l0 CF CG 2 a7C a7D a7E w _ ?aE ?aG A7.out).mono ?_
  (case aE=>exact I.bZ cy ei fe);(case aG=>exact aW HB gY pM);rintro e pr ⟨rfl,hi,hb,hk⟩;refine⟨_,rfl, ?_⟩;have aY:=Ah (aT.blk hk (g':=cO) (o:= .cells #[.slice none 0 0,.slice none 0 0,.slice none 0 0,.int .i64 0] 28 (0,0)) (bk cj) qm.out (by simp));have aX:=Ah (Kd.aK (Kd.cC (I.apart (show I w _ dc l0 CF CG from I.bZ cy ei fe) (rr ff.out) (by decide)) hk (fun _ h=>h.2)) (fun _ h=>h.1));have ae:=Ah (Kd.aK (Kd.cC (I.apart (show I w _ dc l0 CF CG from I.bZ cy ei fe) (rr fg.out) (by decide)) hk (fun _ h=>h.2)) (fun _ h=>h.1));have aq:=Ah (Kd.aK (Kd.cC (I.apart (show I w _ dc l0 CF CG from I.bZ cy ei fe) (rr fh.out) (by decide)) hk (fun _ h=>h.2)) (fun _ h=>h.1));have bF:=Ah (aT.blk hk (g':=ka) (o:= .cells #[.slice ga gT.length gC,.slice jd gU.length j9,.slice iP jA.length iQ,.int .i64 kM] 28 (0,0)) (bk cw) qn.out (by simp));have bO:=Ah (Kd.aK (Kd.cC (I.apart (show I w _ dc l0 CF CG from I.bZ cy ei fe) (rr yS.out) (by decide)) hk (fun _ h=>h.2)) (fun _ h=>h.1));have bl:=Ah (hb);have d3:=Ah (hi);clear cj ff fg fh cw yS HB cy;have cj:=aY;have ff:=aX;have fg:=ae;have fh:=aq;have cw:=bF;have yS:=bO;have HB:=bl;have cy:=d3;clear aY aX ae aq bF bO bl d3;(try clear hb);(try clear hb2);(try clear hk);(try clear hi);refine hK.out _ _ ⟨(aQ cw.out 0).trans rfl,(aQ cw.out 1).trans rfl,(aQ cw.out 2).trans rfl,(aQ cw.out 3).trans rfl⟩ (fun hHeld=> ?_);clear hK K;refine ej (a':= ?_) ?_ ?_;rotate_left
  ·
   show aaa _ (some 31) _=_
   simp only[aaa,JM,jG,kt,dD,dP]
   rfl
  refine b8 11 32 aU.out ?_;refine e5 (i:=12) (N:=none) #[true,true,true,true,true,true,true,true,true,true,true,true,true,false,false] rfl rfl (dz aU.out (by kernel_rfl)) (by decide) (fun K hK=> ?_);have hs23:pr.cell? ⟨cO,0,none⟩=some (.slice none 0 0):=(aQ cj.out 0).trans rfl;have hfs23:=d5 cj.out 0;have hns23_1:=fA.out;have hms23_1:=ov.out;have hs24:pr.cell? ⟨cO,1,none⟩=some (.slice none 0 0):=(aQ cj.out 1).trans rfl;have hfs24:=d5 cj.out 1;have hns24_1:=fA.out;have hms24_1:=ov.out;have a7I:pr.cell? ⟨cO,2,none⟩=some (.slice none 0 0):=(aQ cj.out 2).trans rfl;have a4H:=d5 cj.out 2;have hns25_1:=fA.out;have hms25_1:=ov.out;have a7J:pr.cell? ⟨cO,3,none⟩=some (.int .i64 0):=(aQ cj.out 3).trans rfl;have a4I:=d5 cj.out 3;have hns26_1:=fA.out;have hms26_1:=ov.out;refine pJ (w1:= ?_) (by rfl) rfl ?_ ?_;rotate_left
  ·
   go_simp
   rfl
  refine hK.out _ _ ⟨((ay (p:=⟨cO,_,none⟩) fA.out _).trans (((ay (p:=⟨cO,_,none⟩) fA.out _).trans (((ay (p:=⟨cO,_,none⟩) fA.out _).trans (((ay (p:=⟨cO,_,none⟩) fA.out _).trans (hHeld.1)))))))),((ay (p:=⟨cO,_,none⟩) fA.out _).trans (((ay (p:=⟨cO,_,none⟩) fA.out _).trans (((ay (p:=⟨cO,_,none⟩) fA.out _).trans (((ay (p:=⟨cO,_,none⟩) fA.out _).trans (hHeld.2.1)))))))),((ay (p:=⟨cO,_,none⟩) fA.out _).trans (((ay (p:=⟨cO,_,none⟩) fA.out _).trans (((ay (p:=⟨cO,_,none⟩) fA.out _).trans (((ay (p:=⟨cO,_,none⟩) fA.out _).trans (hHeld.2.2.1)))))))),((ay (p:=⟨cO,_,none⟩) fA.out _).trans (((ay (p:=⟨cO,_,none⟩) fA.out _).trans (((ay (p:=⟨cO,_,none⟩) fA.out _).trans (((ay (p:=⟨cO,_,none⟩) fA.out _).trans (hHeld.2.2.2))))))))⟩ (fun hHeld=> ?_);clear hK K;refine b8 13 3 aU.out ?_;refine b8 14 4 aU.out ?_;refine jp (k7 aU.out (by kernel_rfl)) ?_
  try go_wp2
  refine bodyPost_ret (RV rfl _ _ cO 28 #[.slice ga gT.length gC,.slice jd gU.length j9,.slice iP jA.length iQ,.int .i64 kM] (0,0) _ rfl (by(with_reducible repeat(first|refine a9 ?_ _|refine U ?_|refine Z ?_ _));refine aN (cs:= #[.slice ga gT.length gC,.slice jd gU.length j9,.slice iP jA.length iQ,.int .i64 0]) ?_ 3 _ rfl;(with_reducible repeat(first|refine a9 ?_ _|refine U ?_|refine Z ?_ _));refine aN (cs:= #[.slice ga gT.length gC,.slice jd gU.length j9,.slice none 0 0,.int .i64 0]) ?_ 2 _ rfl;(with_reducible repeat(first|refine a9 ?_ _|refine U ?_|refine Z ?_ _));refine aN (cs:= #[.slice ga gT.length gC,.slice none 0 0,.slice none 0 0,.int .i64 0]) ?_ 1 _ rfl;(with_reducible repeat(first|refine a9 ?_ _|refine U ?_|refine Z ?_ _));refine aN (cs:= #[.slice none 0 0,.slice none 0 0,.slice none 0 0,.int .i64 0]) ?_ 0 _ rfl;(with_reducible repeat(first|refine a9 ?_ _|refine U ?_|refine Z ?_ _));exact cj.out) wd rfl (by kernel_rfl)) rfl ?_;exact⟨_,_,_,_,er,by(with_reducible repeat(first|apply Kd.aw|apply Kd.ax|apply Kd.aa));exact Kd.aK (Kd.aA (p:=⟨cO,3,none⟩) (Kd.aA (p:=⟨cO,2,none⟩) (Kd.aA (p:=⟨cO,1,none⟩) (Kd.aA (p:=⟨cO,0,none⟩) (Kd.b7 ff.out cj.out (by decide)) (fun _ hk=>hk.2) (.slice ga gT.length gC)) (fun _ hk=>hk.2) (.slice jd gU.length j9)) (fun _ hk=>hk.2) (.slice iP jA.length iQ)) (fun _ hk=>hk.2) (.int .i64 kM)) (fun _ hk=>hk.1),by(with_reducible repeat(first|apply Kd.aw|apply Kd.ax|apply Kd.aa));exact Kd.aK (Kd.aA (p:=⟨cO,3,none⟩) (Kd.aA (p:=⟨cO,2,none⟩) (Kd.aA (p:=⟨cO,1,none⟩) (Kd.aA (p:=⟨cO,0,none⟩) (Kd.b7 fg.out cj.out (by decide)) (fun _ hk=>hk.2) (.slice ga gT.length gC)) (fun _ hk=>hk.2) (.slice jd gU.length j9)) (fun _ hk=>hk.2) (.slice iP jA.length iQ)) (fun _ hk=>hk.2) (.int .i64 kM)) (fun _ hk=>trivial),by(with_reducible repeat(first|apply Kd.aw|apply Kd.ax|apply Kd.aa));exact Kd.aK (Kd.aA (p:=⟨cO,3,none⟩) (Kd.aA (p:=⟨cO,2,none⟩) (Kd.aA (p:=⟨cO,1,none⟩) (Kd.aA (p:=⟨cO,0,none⟩) (Kd.b7 fh.out cj.out (by decide)) (fun _ hk=>hk.2) (.slice ga gT.length gC)) (fun _ hk=>hk.2) (.slice jd gU.length j9)) (fun _ hk=>hk.2) (.slice iP jA.length iQ)) (fun _ hk=>hk.2) (.int .i64 kM)) (fun _ hk=>hk.1),by(with_reducible repeat(first|apply Kd.aw|apply Kd.ax|apply Kd.aa));exact Kd.aK (Kd.aA (p:=⟨cO,3,none⟩) (Kd.aA (p:=⟨cO,2,none⟩) (Kd.aA (p:=⟨cO,1,none⟩) (Kd.aA (p:=⟨cO,0,none⟩) (Kd.b7 yS.out cj.out (by decide)) (fun _ hk=>hk.2) (.slice ga gT.length gC)) (fun _ hk=>hk.2) (.slice jd gU.length j9)) (fun _ hk=>hk.2) (.slice iP jA.length iQ)) (fun _ hk=>hk.2) (.int .i64 kM)) (fun _ hk=>trivial),aW HB gY pM⟩
 replace c4:=dW.mpr c4;subst c4;rw[if_neg cg]at H;replace H:=He.mp H;obtain⟨⟨a7K,CH,CI⟩,Gf,H⟩:=H
 try dsimp only at H
 have R7:=Ah Gf;clear Gf;replace H:=He.mp H;obtain⟨⟨a7L,CJ,CK⟩,Gg,H⟩:=H
 try dsimp only at H
 have R8:=Ah Gg;clear Gg;replace H:=He.mp H;obtain⟨⟨a7M,a7N,a7O⟩,vt,H⟩:=H
 try dsimp only at H
 have Hn:=Ah vt;clear vt;simp only[fc,oe]at H;obtain⟨rfl,rfl,rfl,rfl,rfl,rfl⟩:=H
 go_enter Try.func4,Try.ntmps4
 try go_wp2_with (first|((with_reducible refine ao (N:=2) rfl ?_);refine az 2 28 #[.slice none 0 0,.slice none 0 0,.slice none 0 0,.int .i64 0] ?_;intro cO hg L2 cj hb;have a4E:=gw hg (bs HB);have gY:=gw hg (bs HB);replace HB:=Ah (aJ (bs HB) hb);clear hb hg)|((with_reducible refine ao (N:=10) rfl ?_);refine az 10 44 #[.slice A0 l0.length c0,.int .i64 0,.int .u64 0] ?_;intro dc hg Hr O0 hb;have a4F:=gw hg (aM HB gY);have O1:=gw hg (aM HB gY);replace HB:=Ah (aJ (aM HB gY) hb);have qm:=nn cj hg;have ei:=nm cj hg;replace cj:=nb cj hb;clear hb hg;have cy:=Ah (show I w Hr dc l0 0 0 from⟨_,_,(bk O0),O1.out,d8.out⟩))|((with_reducible refine ap (f:=13) rfl ?_);refine gL (some 12) rfl rfl Try.func13 (by kernel_rfl) rfl #[.pointer (some ⟨dc,0,none⟩)] rfl ?_;(with_reducible refine(cu.calls k dc l0 0 0 gT gU jA kM oP oQ w _ ?aE ?aG A2.out).mono ?_);(case aE=>exact I.eh cy ei);(case aG=>exact aM HB gY);rintro e w32 ⟨a7F,a7G,a7H,rfl,ho0,ho1,ho2,hi,hb,hk⟩;refine⟨_,rfl, ?_⟩;replace cj:=Ah (aT.blk hk (g':=cO) (o:= .cells #[.slice none 0 0,.slice none 0 0,.slice none 0 0,.int .i64 0] 28 (0,0)) (bk cj) qm.out (by simp));have ff:=Ah (Kd.bD ho0 (bJ (aM HB gY)));have fg:=Ah (Kd.bD ho1 (bJ (aM HB gY)));have fh:=Ah (Kd.bD ho2 (bJ (aM HB gY)));replace HB:=Ah (hb);replace cy:=Ah (hi);(try clear hb hk hi ho0 ho1 ho2))|((with_reducible refine ao (N:=6) rfl ?_);refine az 6 28 #[.slice none 0 0,.slice none 0 0,.slice none 0 0,.int .i64 0] ?_;intro ka hg mL cw hb;replace ff:=nr ff hb;replace fg:=nr fg hb;replace fh:=nr fh hb;have a4G:=gw hg (aM HB gY);have pM:=gw hg (aM HB gY);replace HB:=Ah (aJ (aM HB gY) hb);have ov:=nn cj hg;have fA:=nm cj hg;replace cj:=nb cj hb;have fe:=Ah ((by rw[hg];exact aam (I.lt (show I w _ dc l0 oP oQ from I.eh cy ei)):dc≠ka));have qn:=Ah ((by rw[hg];exact aao (I.lt (show I w _ dc l0 oP oQ from I.eh cy ei)):ka≠dc));replace cy:=Ah (I.below (I.eh cy ei) hb);clear hb hg;obtain⟨gM,gN,wC⟩:=Kd.al ff.out;subst wC;have a4J:=fA.out;have a4K:=ov.out;have hnb36:=qn.out;have hnc36:=fe.out;obtain⟨Tb,Tc,hcz37_2,hcz37_3⟩:=b0 cw;obtain⟨Td,Te,hfz37_2,hfz37_3⟩:=b5 cw;obtain⟨gb,gc,wD⟩:=Kd.al fg.out;subst wD;obtain⟨qX,qY,a7P⟩:=Kd.al fh.out;subst a7P)|((with_reducible refine ap (f:=14) rfl ?_);refine gL (some 18) rfl rfl Try.func14 (by kernel_rfl) rfl #[.pointer (some ⟨dc,0,none⟩),.int .i64 20] rfl ?_;(with_reducible refine(iS.calls dc l0 oP oQ 20 false sp sq w _ ?aE ?aG A3.out).mono ?_);(case aE=>exact I.bZ cy ei fe);(case aG=>exact aW HB gY pM);rintro e Cu ⟨rfl,hi,hb,hk⟩;refine⟨_,rfl, ?_⟩;replace cj:=Ah (aT.blk hk (g':=cO) (o:= .cells #[.slice none 0 0,.slice none 0 0,.slice none 0 0,.int .i64 0] 28 (0,0)) (bf cj ov) qm.out (by simp));replace ff:=Ah (Kd.aK (Kd.cC (I.apart (show I w _ dc l0 oP oQ from I.bZ cy ei fe) (rf ff cw) (by decide)) hk (fun _ h=>h.2)) (fun _ h=>h.1));replace fg:=Ah (Kd.aK (Kd.cC (I.apart (show I w _ dc l0 oP oQ from I.bZ cy ei fe) (rf fg cw) (by decide)) hk (fun _ h=>h.2)) (fun _ h=>h.1));replace fh:=Ah (Kd.aK (Kd.cC (I.apart (show I w _ dc l0 oP oQ from I.bZ cy ei fe) (rf fh cw) (by decide)) hk (fun _ h=>h.2)) (fun _ h=>h.1));replace cw:=Ah (aT.blk hk (g':=ka) (o:= .cells #[.slice gM gT.length gN,.slice gb gU.length gc,.slice qX jA.length qY,.int .i64 kM] 28 (0,0)) (by(with_reducible repeat(first|refine a9 ?_ _|refine U ?_|refine Z ?_ _));refine aN (cs:= #[.slice gM gT.length gN,.slice gb gU.length gc,.slice qX jA.length qY,.int .i64 0]) ?_ 3 _ rfl;(with_reducible repeat(first|refine a9 ?_ _|refine U ?_|refine Z ?_ _));refine aN (cs:= #[.slice gM gT.length gN,.slice gb gU.length gc,.slice none 0 0,.int .i64 0]) ?_ 2 _ rfl;(with_reducible repeat(first|refine a9 ?_ _|refine U ?_|refine Z ?_ _));refine aN (cs:= #[.slice gM gT.length gN,.slice none 0 0,.slice none 0 0,.int .i64 0]) ?_ 1 _ rfl;(with_reducible repeat(first|refine a9 ?_ _|refine U ?_|refine Z ?_ _));refine aN (cs:= #[.slice none 0 0,.slice none 0 0,.slice none 0 0,.int .i64 0]) ?_ 0 _ rfl;(with_reducible repeat(first|refine a9 ?_ _|refine U ?_|refine Z ?_ _));exact cw.out) qn.out (by simp));replace HB:=Ah (hb);replace cy:=Ah (hi);(try clear hb hk hi)))
 have aY:=Ah (Kd.aa ff.out);have aX:=Ah (Kd.aa fg.out);have ae:=Ah (Kd.aa fh.out);have aq:=Ah (U cj.out);have bF:=Ah (U cw.out);have bO:=Ah (I.drew cy.out);have bl:=Ah (ia HB.out);clear ff fg fh cj cw cy HB;have ff:=aY;have fg:=aX;have fh:=ae;have cj:=aq;have cw:=bF;have cy:=bO;have HB:=bl;clear aY aX ae aq bF bO bl;refine k9 (n:=15) (S:=fun w'=>w'.cell? ⟨ka,0,none⟩=some (.slice gM gT.length gN)∧w'.cell? ⟨ka,1,none⟩=some (.slice gb gU.length gc)∧w'.cell? ⟨ka,2,none⟩=some (.slice qX jA.length qY)∧w'.cell? ⟨ka,3,none⟩=some (.int .i64 kM)) (ds:=[]) #[false,false,false,false,false,false,false,false,false,false,false,false,false,false,false] (by kernel_rfl) rfl rfl ⟨(aQ cw.out 0).trans rfl,(aQ cw.out 1).trans rfl,(aQ cw.out 2).trans rfl,(aQ cw.out 3).trans rfl⟩ (fun hHeld=> ?_);refine kS iv.wA iv.vI (fun aU dT=> ?_)
 generalize Cu.drew=w41 at ff fg fh cj cw cy HB hHeld⊢
 refine b8 1 22 aU.out ?_;refine b8 2 23 aU.out ?_;refine b8 4 25 aU.out ?_;refine b8 6 27 aU.out ?_;refine b8 9 30 aU.out ?_;refine fZ 0 21 aU.out dT.out hHeld (hr:=by rintro w' ⟨s0,s1,s2,s3⟩;go_simp;with_reducible rfl) (h:= ?_);refine fZ 5 26 aU.out dT.out hHeld (hr:=by rintro w' ⟨s0,s1,s2,s3⟩;go_simp;with_reducible rfl) (h:= ?_);refine e5 (i:=3) (N:=some 24) #[true,true,true,true,true,true,true,false,false,true,false,false,false,false,false] rfl rfl (dz aU.out (by kernel_rfl)) (by decide) (fun K hK=> ?_);refine iw Try.func15 (by kernel_rfl) rfl #[.pointer (some ⟨dc,0,none⟩),.int .i64 (gU.length:Int)] (by rfl) rfl rfl (by(try simp only[List.map_toArray,List.map_cons,List.map_nil]);first|done|rfl|(simp only[List.length_drop,List.length_take];rfl)) ?_
 with_reducible refine(gg.calls k dc l0 sp sq (gU.length:Int) a7K CH CI w _ ?aE ?aG R7.out).mono ?_
 (case aE=>exact I.bZ cy ei fe);(case aG=>exact aW HB gY pM);rintro e w42 ⟨v532,rfl,ho0,hi,hb,hk⟩;refine⟨_,rfl, ?_⟩;have aY:=Ah (aT.blk hk (g':=cO) (o:= .cells #[.slice none 0 0,.slice none 0 0,.slice none 0 0,.int .i64 0] 28 (0,0)) (bk cj) qm.out (by simp));have aX:=Ah (Kd.aK (Kd.cC (I.apart (show I w _ dc l0 sp sq from I.bZ cy ei fe) (rr ff.out) (by decide)) hk (fun _ h=>h.2)) (fun _ h=>h.1));have ae:=Ah (Kd.aK (Kd.cC (I.apart (show I w _ dc l0 sp sq from I.bZ cy ei fe) (rr fg.out) (by decide)) hk (fun _ h=>h.2)) (fun _ h=>h.1));have aq:=Ah (Kd.aK (Kd.cC (I.apart (show I w _ dc l0 sp sq from I.bZ cy ei fe) (rr fh.out) (by decide)) hk (fun _ h=>h.2)) (fun _ h=>h.1));have bF:=Ah (aT.blk hk (g':=ka) (o:= .cells #[.slice gM gT.length gN,.slice gb gU.length gc,.slice qX jA.length qY,.int .i64 kM] 28 (0,0)) (bk cw) qn.out (by simp));have bO:=Ah (Kd.bD ho0 (bJ (aW HB gY pM)));have bl:=Ah (hb);have d3:=Ah (hi);clear cj ff fg fh cw HB cy;have cj:=aY;have ff:=aX;have fg:=ae;have fh:=aq;have cw:=bF;have yT:=bO;have HB:=bl;have cy:=d3;clear aY aX ae aq bF bO bl d3;(try clear hb);(try clear hb2);(try clear hk);(try clear hi);(try clear ho0);refine hK.out _ _ ⟨(aQ cw.out 0).trans rfl,(aQ cw.out 1).trans rfl,(aQ cw.out 2).trans rfl,(aQ cw.out 3).trans rfl⟩ (fun hHeld=> ?_);clear hK K;refine ej (a':= ?_) ?_ ?_;rotate_left
 ·
  show aaa _ (some 24) _=_
  simp only[aaa,JM,jG,kt,dD,dP]
  rfl
 refine e5 (i:=7) (N:=some 28) #[true,true,true,true,true,true,true,true,false,true,false,false,false,false,false] rfl rfl (dz aU.out (by kernel_rfl)) (by decide) (fun K hK=> ?_);refine iw aas (by kernel_rfl) rfl #[.pointer (some ⟨dc,0,none⟩),.int .i64 4] (by rfl) rfl rfl (by(try simp only[aab,aad,aaf]);first|done|rfl|(simp only[qh,bx];rfl)) ?_
 with_reducible refine(dj.calls dc l0 CH CI 4 a7L CJ CK w _ ?aE ?aG R8.out).mono ?_
 (case aE=>exact I.bZ cy ei fe);(case aG=>exact aW HB gY pM);rintro e YW ⟨rfl,hi,hb,hk⟩;refine⟨_,rfl, ?_⟩;have aY:=Ah (aT.blk hk (g':=cO) (o:= .cells #[.slice none 0 0,.slice none 0 0,.slice none 0 0,.int .i64 0] 28 (0,0)) (bk cj) qm.out (by simp));have aX:=Ah (Kd.aK (Kd.cC (I.apart (show I w _ dc l0 CH CI from I.bZ cy ei fe) (rr ff.out) (by decide)) hk (fun _ h=>h.2)) (fun _ h=>h.1));have ae:=Ah (Kd.aK (Kd.cC (I.apart (show I w _ dc l0 CH CI from I.bZ cy ei fe) (rr fg.out) (by decide)) hk (fun _ h=>h.2)) (fun _ h=>h.1));have aq:=Ah (Kd.aK (Kd.cC (I.apart (show I w _ dc l0 CH CI from I.bZ cy ei fe) (rr fh.out) (by decide)) hk (fun _ h=>h.2)) (fun _ h=>h.1));have bF:=Ah (aT.blk hk (g':=ka) (o:= .cells #[.slice gM gT.length gN,.slice gb gU.length gc,.slice qX jA.length qY,.int .i64 kM] 28 (0,0)) (bk cw) qn.out (by simp));have bO:=Ah (Kd.aK (Kd.cC (I.apart (show I w _ dc l0 CH CI from I.bZ cy ei fe) (rr yT.out) (by decide)) hk (fun _ h=>h.2)) (fun _ h=>h.1));have bl:=Ah (hb);have d3:=Ah (hi);clear cj ff fg fh cw yT HB cy;have cj:=aY;have ff:=aX;have fg:=ae;have fh:=aq;have cw:=bF;have yT:=bO;have HB:=bl;have cy:=d3;clear aY aX ae aq bF bO bl d3;(try clear hb);(try clear hb2);(try clear hk);(try clear hi);refine hK.out _ _ ⟨(aQ cw.out 0).trans rfl,(aQ cw.out 1).trans rfl,(aQ cw.out 2).trans rfl,(aQ cw.out 3).trans rfl⟩ (fun hHeld=> ?_);clear hK K;refine ej (a':= ?_) ?_ ?_;rotate_left
 ·
  show aaa _ (some 28) _=_
  simp only[aaa,JM,jG,kt,dD,dP]
  rfl
 refine b8 8 29 aU.out ?_;refine e5 (i:=10) (N:=some 31) #[true,true,true,true,true,true,true,true,true,true,true,false,false,false,false] rfl rfl (dz aU.out (by kernel_rfl)) (by decide) (fun K hK=> ?_);refine iw aas (by kernel_rfl) rfl #[.pointer (some ⟨dc,0,none⟩),.int .i64 2] (by rfl) rfl rfl (by(try simp only[aab,aad,aaf]);first|done|rfl|(simp only[qh,bx];rfl)) ?_
 with_reducible refine(dj.calls dc l0 CJ CK 2 a7M a7N a7O w _ ?aE ?aG Hn.out).mono ?_
 (case aE=>exact I.bZ cy ei fe);(case aG=>exact aW HB gY pM);rintro e Cv ⟨rfl,hi,hb,hk⟩;refine⟨_,rfl, ?_⟩;have aY:=Ah (aT.blk hk (g':=cO) (o:= .cells #[.slice none 0 0,.slice none 0 0,.slice none 0 0,.int .i64 0] 28 (0,0)) (bk cj) qm.out (by simp));have aX:=Ah (Kd.aK (Kd.cC (I.apart (show I w _ dc l0 CJ CK from I.bZ cy ei fe) (rr ff.out) (by decide)) hk (fun _ h=>h.2)) (fun _ h=>h.1));have ae:=Ah (Kd.aK (Kd.cC (I.apart (show I w _ dc l0 CJ CK from I.bZ cy ei fe) (rr fg.out) (by decide)) hk (fun _ h=>h.2)) (fun _ h=>h.1));have aq:=Ah (Kd.aK (Kd.cC (I.apart (show I w _ dc l0 CJ CK from I.bZ cy ei fe) (rr fh.out) (by decide)) hk (fun _ h=>h.2)) (fun _ h=>h.1));have bF:=Ah (aT.blk hk (g':=ka) (o:= .cells #[.slice gM gT.length gN,.slice gb gU.length gc,.slice qX jA.length qY,.int .i64 kM] 28 (0,0)) (bk cw) qn.out (by simp));have bO:=Ah (Kd.aK (Kd.cC (I.apart (show I w _ dc l0 CJ CK from I.bZ cy ei fe) (rr yT.out) (by decide)) hk (fun _ h=>h.2)) (fun _ h=>h.1));have bl:=Ah (hb);have d3:=Ah (hi);clear cj ff fg fh cw yT HB cy;have cj:=aY;have ff:=aX;have fg:=ae;have fh:=aq;have cw:=bF;have yT:=bO;have HB:=bl;have cy:=d3;clear aY aX ae aq bF bO bl d3;(try clear hb);(try clear hb2);(try clear hk);(try clear hi);refine hK.out _ _ ⟨(aQ cw.out 0).trans rfl,(aQ cw.out 1).trans rfl,(aQ cw.out 2).trans rfl,(aQ cw.out 3).trans rfl⟩ (fun hHeld=> ?_);clear hK K;refine ej (a':= ?_) ?_ ?_;rotate_left
 ·
  show aaa _ (some 31) _=_
  simp only[aaa,JM,jG,kt,dD,dP]
  rfl
 refine b8 11 32 aU.out ?_;refine e5 (i:=12) (N:=none) #[true,true,true,true,true,true,true,true,true,true,true,true,true,false,false] rfl rfl (dz aU.out (by kernel_rfl)) (by decide) (fun K hK=> ?_);have hs45:Cv.cell? ⟨cO,0,none⟩=some (.slice none 0 0):=(aQ cj.out 0).trans rfl;have hfs45:=d5 cj.out 0;have hns45_1:=fA.out;have hms45_1:=ov.out;have hs46:Cv.cell? ⟨cO,1,none⟩=some (.slice none 0 0):=(aQ cj.out 1).trans rfl;have hfs46:=d5 cj.out 1;have hns46_1:=fA.out;have hms46_1:=ov.out;have hs47:Cv.cell? ⟨cO,2,none⟩=some (.slice none 0 0):=(aQ cj.out 2).trans rfl;have hfs47:=d5 cj.out 2;have hns47_1:=fA.out;have hms47_1:=ov.out;have hs48:Cv.cell? ⟨cO,3,none⟩=some (.int .i64 0):=(aQ cj.out 3).trans rfl;have hfs48:=d5 cj.out 3;have hns48_1:=fA.out;have hms48_1:=ov.out;refine pJ (w1:= ?_) (by rfl) rfl ?_ ?_;rotate_left
 ·
  go_simp
  rfl
 refine hK.out _ _ ⟨((ay (p:=⟨cO,_,none⟩) fA.out _).trans (((ay (p:=⟨cO,_,none⟩) fA.out _).trans (((ay (p:=⟨cO,_,none⟩) fA.out _).trans (((ay (p:=⟨cO,_,none⟩) fA.out _).trans (hHeld.1)))))))),((ay (p:=⟨cO,_,none⟩) fA.out _).trans (((ay (p:=⟨cO,_,none⟩) fA.out _).trans (((ay (p:=⟨cO,_,none⟩) fA.out _).trans (((ay (p:=⟨cO,_,none⟩) fA.out _).trans (hHeld.2.1)))))))),((ay (p:=⟨cO,_,none⟩) fA.out _).trans (((ay (p:=⟨cO,_,none⟩) fA.out _).trans (((ay (p:=⟨cO,_,none⟩) fA.out _).trans (((ay (p:=⟨cO,_,none⟩) fA.out _).trans (hHeld.2.2.1)))))))),((ay (p:=⟨cO,_,none⟩) fA.out _).trans (((ay (p:=⟨cO,_,none⟩) fA.out _).trans (((ay (p:=⟨cO,_,none⟩) fA.out _).trans (((ay (p:=⟨cO,_,none⟩) fA.out _).trans (hHeld.2.2.2))))))))⟩ (fun hHeld=> ?_);clear hK K;refine b8 13 3 aU.out ?_;refine b8 14 4 aU.out ?_;refine jp (k7 aU.out (by kernel_rfl)) ?_
 try go_wp2
 refine bodyPost_ret (RV rfl _ _ cO 28 #[.slice gM gT.length gN,.slice gb gU.length gc,.slice qX jA.length qY,.int .i64 kM] (0,0) _ rfl (by(with_reducible repeat(first|refine a9 ?_ _|refine U ?_|refine Z ?_ _));refine aN (cs:= #[.slice gM gT.length gN,.slice gb gU.length gc,.slice qX jA.length qY,.int .i64 0]) ?_ 3 _ rfl;(with_reducible repeat(first|refine a9 ?_ _|refine U ?_|refine Z ?_ _));refine aN (cs:= #[.slice gM gT.length gN,.slice gb gU.length gc,.slice none 0 0,.int .i64 0]) ?_ 2 _ rfl;(with_reducible repeat(first|refine a9 ?_ _|refine U ?_|refine Z ?_ _));refine aN (cs:= #[.slice gM gT.length gN,.slice none 0 0,.slice none 0 0,.int .i64 0]) ?_ 1 _ rfl;(with_reducible repeat(first|refine a9 ?_ _|refine U ?_|refine Z ?_ _));refine aN (cs:= #[.slice none 0 0,.slice none 0 0,.slice none 0 0,.int .i64 0]) ?_ 0 _ rfl;(with_reducible repeat(first|refine a9 ?_ _|refine U ?_|refine Z ?_ _));exact cj.out) wd rfl (by kernel_rfl)) rfl ?_;exact⟨_,_,_,_,er,by(with_reducible repeat(first|apply Kd.aw|apply Kd.ax|apply Kd.aa));exact Kd.aK (Kd.aA (p:=⟨cO,3,none⟩) (Kd.aA (p:=⟨cO,2,none⟩) (Kd.aA (p:=⟨cO,1,none⟩) (Kd.aA (p:=⟨cO,0,none⟩) (Kd.b7 ff.out cj.out (by decide)) (fun _ hk=>hk.2) (.slice gM gT.length gN)) (fun _ hk=>hk.2) (.slice gb gU.length gc)) (fun _ hk=>hk.2) (.slice qX jA.length qY)) (fun _ hk=>hk.2) (.int .i64 kM)) (fun _ hk=>hk.1),by(with_reducible repeat(first|apply Kd.aw|apply Kd.ax|apply Kd.aa));exact Kd.aK (Kd.aA (p:=⟨cO,3,none⟩) (Kd.aA (p:=⟨cO,2,none⟩) (Kd.aA (p:=⟨cO,1,none⟩) (Kd.aA (p:=⟨cO,0,none⟩) (Kd.b7 fg.out cj.out (by decide)) (fun _ hk=>hk.2) (.slice gM gT.length gN)) (fun _ hk=>hk.2) (.slice gb gU.length gc)) (fun _ hk=>hk.2) (.slice qX jA.length qY)) (fun _ hk=>hk.2) (.int .i64 kM)) (fun _ hk=>trivial),by(with_reducible repeat(first|apply Kd.aw|apply Kd.ax|apply Kd.aa));exact Kd.aK (Kd.aA (p:=⟨cO,3,none⟩) (Kd.aA (p:=⟨cO,2,none⟩) (Kd.aA (p:=⟨cO,1,none⟩) (Kd.aA (p:=⟨cO,0,none⟩) (Kd.b7 fh.out cj.out (by decide)) (fun _ hk=>hk.2) (.slice gM gT.length gN)) (fun _ hk=>hk.2) (.slice gb gU.length gc)) (fun _ hk=>hk.2) (.slice qX jA.length qY)) (fun _ hk=>hk.2) (.int .i64 kM)) (fun _ hk=>hk.1),by(with_reducible repeat(first|apply Kd.aw|apply Kd.ax|apply Kd.aa));exact Kd.aK (Kd.aA (p:=⟨cO,3,none⟩) (Kd.aA (p:=⟨cO,2,none⟩) (Kd.aA (p:=⟨cO,1,none⟩) (Kd.aA (p:=⟨cO,0,none⟩) (Kd.b7 yT.out cj.out (by decide)) (fun _ hk=>hk.2) (.slice gM gT.length gN)) (fun _ hk=>hk.2) (.slice gb gU.length gc)) (fun _ hk=>hk.2) (.slice qX jA.length qY)) (fun _ hk=>hk.2) (.int .i64 kM)) (fun _ hk=>trivial),aW HB gY pM⟩
def jH.f(a0:Int)(a1:Int)(a2:Int):Option (Bool):=if a0≥a1 then(some (decide (a0≤a2)))else(some false)
set_option maxHeartbeats 8000000 in
set_option maxRecDepth 100000 in
theorem jH.calls(a0:Int)(a1:Int)(a2:Int)(r:Bool)(w:World)(h:jH.f a0 a1 a2=some r):
 Calls t5 17 #[.int .i64 a0,.int .i64 a1,.int .i64 a2] w fun e w'=>e= .returned (.bool r)∧cx w w':=by
 have H:(if a0≥a1 then(some (decide (a0≤a2)))else(some false))=some r:=h;clear h
 by_cases c4:a0≥a1
 ·
  rw[if_pos c4]at H;have fa:decide (a1≤a0)=true:=decide_eq_true c4;clear c4;obtain rfl:=fl H
  go_enter aba,Try.ntmps17
  go_wp2
  go_ret
  exact⟨by first|rfl|(simp;done)|(simp[*];done),by repeat(first|exact cx.refl _|apply cx.step)⟩
 ·
  rw[if_neg c4]at H;have fa:decide (a1≤a0)=false:=decide_eq_false c4;clear c4;obtain rfl:=fl H
  go_enter aba,Try.ntmps17
  go_wp2
  go_ret
  exact⟨by first|rfl|(simp;done)|(simp[*];done),by repeat(first|exact cx.refl _|apply cx.step)⟩
def D1.f(fk:Int)(iO:ByteArray)(cl:Int)(cq:ByteArray):Option (Bool):=some (fk==cl)
set_option maxHeartbeats 8000000 in
set_option maxRecDepth 100000 in
theorem D1.calls(fk:Int)(iO:ByteArray)(bW:Nat)(cl:Int)(cq:ByteArray)(r:Bool)(w:World)(g9:w.heap[bW]?=some (.cells #[.int .i64 cl,.string cq] 64 (0,0)))(h:D1.f fk iO cl cq=some r):
 Calls t5 53 #[.agg #[.int .i64 fk,.string iO],.pointer (some ⟨bW,0,none⟩)] w fun e w'=>e= .returned (.bool r)∧Below w.heap.size w w':=by
 have hu64:=aah;have yU:=Ah g9;clear g9;have HB:=Ah (pv w.heap.size w);have H:(some (fk==cl))=some r:=h;clear h;obtain rfl:=fl H
 go_enter Try.func53,Try.ntmps53
 go_wp2_with (first|((with_reducible refine ao (N:=2) rfl ?_);refine az 2 64 #[.int .i64 fk,.string iO] ?_;intro VW hg w3 VX hb;have GW543:=gw hg (bs HB);have a4L:=gw hg (bs HB);replace HB:=Ah (aJ (bs HB) hb);have Zh:=Ah ((by rw[hg];exact aam (gR (g:=bW) (o:= .cells #[.int .i64 cl,.string cq] 64 (0,0)) (bk yU)):bW≠VW));have Zi:=Ah ((by rw[hg];exact aao (gR (g:=bW) (o:= .cells #[.int .i64 cl,.string cq] 64 (0,0)) (bk yU)):VW≠bW));replace yU:=Ah (dF (g:=bW) (o:= .cells #[.int .i64 cl,.string cq] 64 (0,0)) (bk yU) hb);clear hb hg;have hnb4:=Zi.out;have hnc4:=Zh.out;obtain⟨EJ,JT⟩:=bN VX;obtain⟨JV,JU⟩:=bI VX;have xx:w3.cell? ⟨bW,0,none⟩=some (.int .i64 cl):=(aQ yU.out 0).trans rfl;have BT:w3.cell? ⟨bW,1,none⟩=some (.string cq):=(aQ yU.out 1).trans rfl;obtain⟨BV,BU⟩:=bI yU))
 go_ret
 exact⟨er,aM HB a4L⟩
def hO.l0:Nat→List (S64)→Int→Int→Int→ByteArray→Option (Int)
 |0,_,_,_,_,_=>none
 |k+1,x0,x7,x8,Tf,Tg=>if x8<x7 then(if 0≤x8 then(if x8<(x0.length:Int)then((D1.f ((aH x0 x8).f0) ((aH x0 x8).f1) Tf Tg).bind fun Pb=>(if Pb=true then(some x8)else(hO.l0 k x0 x7 (I0 (x8+1)) Tf Tg)))else(none))else(none))else(some (-1))
def hO.f(k:Nat)(l0:List (S64))(cl:Int)(cq:ByteArray):Option (Int):=hO.l0 k l0 (l0.length:Int) 0 cl cq
theorem hO.bg:∀k,(∀y0 y1 y2 y3 y4,a8 (hO.l0 k y0 y1 y2 y3 y4) (hO.l0 (k+1) y0 y1 y2 y3 y4))
 |0=>fun _ _ _ _ _ r h=>by simp[hO.l0]at h
 |k+1=>by
  have bB:=hO.bg k
  ·
   intro y0 y1 y2 y3 y4;unfold hO.l0
   repeat' with_reducible first|exact bB _ _ _ _ _|exact a8.refl _|exact a8.none _|refine a8.ite ?_ ?_|refine a8.bind ?_ (fun _=> ?_)
theorem hO.mono:∀a0 a1 a2 k,a8 (hO.f k a0 a1 a2) (hO.f (k+1) a0 a1 a2):=by
 intro a0 a1 a2 k;have bB:=hO.bg k;unfold hO.f
 repeat' with_reducible first|exact bB _ _ _ _ _|exact a8.refl _|exact a8.none _|refine a8.ite ?_ ?_|refine a8.bind ?_ (fun _=> ?_)
set_option maxHeartbeats 8000000 in
set_option maxRecDepth 100000 in
theorem hO.calls(k:Nat)(A0:Option Addr)(c0:Nat)(l0:List (S64))(bW:Nat)(cl:Int)(cq:ByteArray)(r:Int)(w:World)(hr0:Kd.C bS w A0 l0.length l0)(hc0:l0.length≤c0)(g9:w.heap[bW]?=some (.cells #[.int .i64 cl,.string cq] 64 (0,0)))(h:hO.f k l0 cl cq=some r):
 Calls t5 54 #[.slice A0 l0.length c0,.func (.func 53) #[] #[.pointer (some ⟨bW,0,none⟩)]] w fun e w'=>e= .returned (.int .i64 r)∧Below w.heap.size w w':=by
 have hu64:=aah;have d8:=Ah hr0;have gV:=Ah hc0;clear hr0 hc0;have tn:=Ah g9;clear g9;have HB:=Ah (pv w.heap.size w);have H:(hO.l0 k l0 (l0.length:Int) 0 cl cq)=some r:=h;clear h;have H':=Ah H;clear H
 go_enter Try.func54,Try.ntmps54
 go_wp2
 go_loopg [8] k (fun kq v8 w'=>∃ (au:Int),v8= .int .i64 au∧aC (hO.l0 kq l0 (l0.length:Int) au cl cq=some r)∧aC (kq≤k)∧aC (w'.heap[bW]?=some (.cells #[.int .i64 cl,.string cq] 64 (0,0)))∧aC (Below w.heap.size w w'))
 case atStart=>exact⟨(0),e3,H',⟨mz _⟩,⟨bk tn⟩,⟨bs HB⟩⟩
 case round=>
  clear H'
  try clear hx1
  try clear p2
  try clear g9
  obtain⟨au,rfl,HA,bY,tn,HB⟩:=hrel
  cases gk with
  |zero=>exact absurd HA.out (by simp[hO.l0])
  |succ k1=>
   have H:=HA.out;clear HA;simp only[hO.l0]at H
   by_cases c3:au<(l0.length:Int)
   rotate_left
   ·
    rw[if_neg c3]at H;have eb:decide (au<(l0.length:Int))=false:=decide_eq_false c3;clear c3;obtain rfl:=fl H
    go_wp2
    go_ret
    exact⟨er,bs HB⟩
   rw[if_pos c3]at H;have eb:decide (au<(l0.length:Int))=true:=decide_eq_true c3;clear c3
   by_cases c4:0≤au
   rotate_left
   ·
    rw[if_neg c4]at H;exact absurd H (by simp)
   rw[if_pos c4]at H;have fa:decide (0≤au)=true:=decide_eq_true c4;clear c4
   by_cases c5:au<(l0.length:Int)
   rotate_left
   ·
    rw[if_neg c5]at H;exact absurd H (by simp)
   rw[if_pos c5]at H;have gz:decide (au<(l0.length:Int))=true:=decide_eq_true c5;clear c5;replace H:=He.mp H;obtain⟨Pb,e9,H⟩:=H
   try dsimp only at H
   have A6:=Ah e9;clear e9
   by_cases c7:Pb=true
   ·
    subst c7;rw[if_pos rfl]at H;obtain rfl:=fl H;have zT:0≤(au:Int):=od;have zU:au<(l0.length:Int):=od;obtain⟨a4M,Pc,xa,xb⟩:=g8 d8.out au zT zU
    cases Pc
    replace xa:=(HB.out.cell (I1 w _ xa)).trans xa;replace xb:=(HB.out.cell (I1 w _ xb)).trans xb;replace zT:=eq_true zT;replace zU:=eq_true zU
    go_wp2_with (first|((with_reducible refine qA (t:=11) rfl ?_);refine qL (some 16) rfl rfl Try.func53 (by kernel_rfl) rfl #[.agg #[.int .i64 ((aH l0 au).f0),.string ((aH l0 au).f1)],.pointer (some ⟨bW,0,none⟩)] rfl rfl (by(try simp only[aab,aad,aaf]);first|done|rfl|(simp only[qh,bx];rfl)) ?_;(with_reducible refine(D1.calls ((aH l0 au).f0) ((aH l0 au).f1) bW cl cq true _ ?aE A6.out).mono ?_);(case aE=>(with_reducible repeat(first|refine a9 ?_ _|refine U ?_|refine Z ?_ _));exact tn.out);rintro e w8 ⟨rfl,hb⟩;refine⟨_,rfl, ?_⟩;replace tn:=Ah (dF (g:=bW) (o:= .cells #[.int .i64 cl,.string cq] 64 (0,0)) (bk tn) hb);replace HB:=Ah (aJ (bs HB) hb);(try clear hb)))
    go_ret
    exact⟨er,bs HB⟩
   replace c7:=dW.mpr c7;subst c7;rw[if_neg cg]at H;have H':=Ah H;clear H;have zT:0≤(au:Int):=od;have zU:au<(l0.length:Int):=od;obtain⟨a4M,Pc,xa,xb⟩:=g8 d8.out au zT zU
   cases Pc
   replace xa:=(HB.out.cell (I1 w _ xa)).trans xa;replace xb:=(HB.out.cell (I1 w _ xb)).trans xb;replace zT:=eq_true zT;replace zU:=eq_true zU
   go_wp2_with (first|((with_reducible refine qA (t:=11) rfl ?_);refine qL (some 16) rfl rfl Try.func53 (by kernel_rfl) rfl #[.agg #[.int .i64 ((aH l0 au).f0),.string ((aH l0 au).f1)],.pointer (some ⟨bW,0,none⟩)] rfl rfl (by(try simp only[aab,aad,aaf]);first|done|rfl|(simp only[qh,bx];rfl)) ?_;(with_reducible refine(D1.calls ((aH l0 au).f0) ((aH l0 au).f1) bW cl cq false _ ?aE A6.out).mono ?_);(case aE=>(with_reducible repeat(first|refine a9 ?_ _|refine U ?_|refine Z ?_ _));exact tn.out);rintro e w9 ⟨rfl,hb⟩;refine⟨_,rfl, ?_⟩;replace tn:=Ah (dF (g:=bW) (o:= .cells #[.int .i64 cl,.string cq] 64 (0,0)) (bk tn) hb);replace HB:=Ah (aJ (bs HB) hb);(try clear hb)))
   go_roundg k1
   case measure=>have:=bY.out;omega
   case rel=>exact⟨(I0 (au+1)),e3,H',⟨by have:=bY.out;omega⟩,⟨bk tn⟩,⟨bs HB⟩⟩
def oh.f(k:Nat)(l0:List (S64))(cl:Int)(cq:ByteArray):Option (Bool):=(hO.f k l0 cl cq).bind fun Gh=>(some (decide (Gh≥0)))
theorem oh.mono:∀a0 a1 a2 k,a8 (oh.f k a0 a1 a2) (oh.f (k+1) a0 a1 a2):=by
 intro a0 a1 a2 k;unfold oh.f
 repeat' with_reducible first|exact hO.mono _ _ _ _|exact a8.refl _|exact a8.none _|refine a8.ite ?_ ?_|refine a8.bind ?_ (fun _=> ?_)
set_option maxHeartbeats 8000000 in
set_option maxRecDepth 100000 in
theorem oh.calls(k:Nat)(A0:Option Addr)(c0:Nat)(l0:List (S64))(bW:Nat)(cl:Int)(cq:ByteArray)(r:Bool)(w:World)(hr0:Kd.C bS w A0 l0.length l0)(hc0:l0.length≤c0)(g9:w.heap[bW]?=some (.cells #[.int .i64 cl,.string cq] 64 (0,0)))(h:oh.f k l0 cl cq=some r):
 Calls t5 33 #[.slice A0 l0.length c0,.func (.func 53) #[] #[.pointer (some ⟨bW,0,none⟩)]] w fun e w'=>e= .returned (.bool r)∧Below w.heap.size w w':=by
 have d8:=Ah hr0;have gV:=Ah hc0;clear hr0 hc0;have O2:=Ah g9;clear g9;have HB:=Ah (pv w.heap.size w);have H:((hO.f k l0 cl cq).bind fun Gh=>(some (decide (Gh≥0))))=some r:=h;clear h;replace H:=He.mp H;obtain⟨Gh,de,H⟩:=H
 try dsimp only at H
 have A3:=Ah de;clear de;obtain rfl:=fl H
 go_enter Try.func33,Try.ntmps33
 go_wp2_with (first|((with_reducible refine ap (f:=54) rfl ?_);refine gL (some 7) rfl rfl Try.func54 (by kernel_rfl) rfl #[.slice A0 l0.length c0,.func (.func 53) #[] #[.pointer (some ⟨bW,0,none⟩)]] rfl ?_;(with_reducible refine(hO.calls k _ _ l0 bW cl cq Gh _ ?aE ?aG ?aZ A3.out).mono ?_);(case aE=>repeat(first|exact d8.out|(with_reducible refine Kd.jg ?_ _)|(with_reducible refine Kd.jh ?_ _)|(with_reducible refine Kd.jo ?_)));(case aG=>exact gV.out);(case aZ=>(with_reducible repeat(first|refine a9 ?_ _|refine U ?_|refine Z ?_ _));exact O2.out);rintro e w4 ⟨rfl,hb⟩;refine⟨_,rfl, ?_⟩;replace O2:=Ah (dF (g:=bW) (o:= .cells #[.int .i64 cl,.string cq] 64 (0,0)) (bk O2) hb);replace HB:=Ah (aJ (bs HB) hb);(try clear hb)))
 go_ret
 exact⟨er,bs HB⟩
def fo.l0:Nat→List (S64)→Int→List (S64)→Int→Int→Option (Bool)
 |0,_,_,_,_,_=>none
 |k+1,x0,x1,x7,x8,x9=>if x9<x8 then(if 0≤x9 then(if x9<(x7.length:Int)then((jH.f ((aH x7 x9).f0) 0 (I0 (x1-1))).bind fun Pd=>(if Pd=true then(if(((aH x7 x9).f1).size:Int)=8 then(if x9≤(x0.length:Int)then((oh.f k (x0.take (x9:Int).toNat) ((aH x7 x9).f0) ((aH x7 x9).f1)).bind fun Gi=>(if Gi=true then(some false)else(fo.l0 k x0 x1 x7 x8 (I0 (x9+1)))))else(none))else(some false))else(some false)))else(none))else(none))else((jH.f (x0.length:Int) 1 8).bind fun Pe=>(some Pe))
def fo.f(k:Nat)(l0:List (S64))(a1:Int):Option (Bool):=fo.l0 k l0 a1 l0 (l0.length:Int) 0
theorem fo.bg:∀k,(∀y0 y1 y2 y3 y4,a8 (fo.l0 k y0 y1 y2 y3 y4) (fo.l0 (k+1) y0 y1 y2 y3 y4))
 |0=>fun _ _ _ _ _ r h=>by simp[fo.l0]at h
 |k+1=>by
  have bB:=fo.bg k
  ·
   intro y0 y1 y2 y3 y4;unfold fo.l0
   repeat' with_reducible first|exact bB _ _ _ _ _|exact oh.mono _ _ _ _|exact a8.refl _|exact a8.none _|refine a8.ite ?_ ?_|refine a8.bind ?_ (fun _=> ?_)
theorem fo.mono:∀a0 a1 k,a8 (fo.f k a0 a1) (fo.f (k+1) a0 a1):=by
 intro a0 a1 k;have bB:=fo.bg k;unfold fo.f
 repeat' with_reducible first|exact bB _ _ _ _ _|exact oh.mono _ _ _ _|exact a8.refl _|exact a8.none _|refine a8.ite ?_ ?_|refine a8.bind ?_ (fun _=> ?_)
set_option maxHeartbeats 8000000 in
set_option maxRecDepth 100000 in
theorem fo.calls(k:Nat)(A0:Option Addr)(c0:Nat)(l0:List (S64))(a1:Int)(r:Bool)(w:World)(hr0:Kd.C bS w A0 l0.length l0)(hc0:l0.length≤c0)(h:fo.f k l0 a1=some r):
 Calls t5 32 #[.slice A0 l0.length c0,.int .i64 a1] w fun e w'=>e= .returned (.bool r)∧Below w.heap.size w w':=by
 have hu64:=aah;have d8:=Ah hr0;have gV:=Ah hc0;clear hr0 hc0;have HB:=Ah (pv w.heap.size w);have H:(fo.l0 k l0 a1 l0 (l0.length:Int) 0)=some r:=h;clear h;have H':=Ah H;clear H
 go_enter Try.func32,Try.ntmps32
 go_wp2
 go_loopg [9] k (fun kq v9 w'=>∃ (cG:Int),v9= .int .i64 cG∧aC (fo.l0 kq l0 a1 l0 (l0.length:Int) cG=some r)∧aC (kq≤k)∧aC (Below w.heap.size w w'))
 case atStart=>exact⟨(0),e3,H',⟨mz _⟩,⟨bs HB⟩⟩
 case round=>
  clear H'
  try clear p2
  obtain⟨cG,rfl,HA,bY,HB⟩:=hrel
  cases gk with
  |zero=>exact absurd HA.out (by simp[fo.l0])
  |succ k1=>
   have H:=HA.out;clear HA;simp only[fo.l0]at H
   by_cases c3:cG<(l0.length:Int)
   rotate_left
   ·
    rw[if_neg c3]at H;have eb:decide (cG<(l0.length:Int))=false:=decide_eq_false c3;clear c3;replace H:=He.mp H;obtain⟨Pe,vt,H⟩:=H
    try dsimp only at H
    have Hn:=Ah vt;clear vt;obtain rfl:=fl H
    go_wp2_with (first|((with_reducible refine ap (f:=17) rfl ?_);refine gL (some 36) rfl rfl aba (by kernel_rfl) rfl #[.int .i64 (l0.length:Int),.int .i64 1,.int .i64 8] rfl ?_;(with_reducible refine(jH.calls (l0.length:Int) 1 8 Pe _ Hn.out).mono ?_);rintro e w' ⟨rfl,⟨nd,rfl⟩⟩;refine⟨_,rfl, ?_⟩))
    go_ret
    exact⟨er,bs HB⟩
   rw[if_pos c3]at H;have eb:decide (cG<(l0.length:Int))=true:=decide_eq_true c3;clear c3
   by_cases c4:0≤cG
   rotate_left
   ·
    rw[if_neg c4]at H;exact absurd H (by simp)
   rw[if_pos c4]at H;have fa:decide (0≤cG)=true:=decide_eq_true c4;clear c4
   by_cases c5:cG<(l0.length:Int)
   rotate_left
   ·
    rw[if_neg c5]at H;exact absurd H (by simp)
   rw[if_pos c5]at H;have gz:decide (cG<(l0.length:Int))=true:=decide_eq_true c5;clear c5;replace H:=He.mp H;obtain⟨Pd,e9,H⟩:=H
   try dsimp only at H
   have A6:=Ah e9;clear e9
   by_cases c7:Pd=true
   rotate_left
   ·
    replace c7:=dW.mpr c7;subst c7;rw[if_neg cg]at H;obtain rfl:=fl H;have nY:0≤(cG:Int):=od;have nZ:cG<(l0.length:Int):=od;obtain⟨yV,zV,nB,nC⟩:=g8 d8.out cG nY nZ
    cases zV
    replace nB:=(HB.out.cell (I1 w _ nB)).trans nB;replace nC:=(HB.out.cell (I1 w _ nC)).trans nC;replace nY:=eq_true nY;replace nZ:=eq_true nZ
    go_wp2_with (first|((with_reducible refine ao (N:=6) rfl ?_);(try(refine dM (by rfl) ?_;dsimp only));refine az 6 64 #[.int .i64 0,.string (⟨#[]⟩:ByteArray)] ?_;intro rN hg Cq ie hb;have O3:=gw hg (bs HB);have pN:=gw hg (bs HB);replace HB:=Ah (aJ (bs HB) hb);clear hb hg;obtain⟨Dk,Ib⟩:=bN ie;obtain⟨Dl,Ic⟩:=bI ie)|((with_reducible refine ap (f:=17) rfl ?_);refine gL (some 18) rfl rfl aba (by kernel_rfl) rfl #[.int .i64 ((aH l0 cG).f0),.int .i64 0,.int .i64 (I0 (a1-1))] rfl ?_;(with_reducible refine(jH.calls ((aH l0 cG).f0) 0 (I0 (a1-1)) false _ A6.out).mono ?_);rintro e w' ⟨rfl,⟨nd,rfl⟩⟩;refine⟨_,rfl, ?_⟩))
    go_ret
    exact⟨er,aM HB pN⟩
   subst c7;rw[if_pos rfl]at H
   by_cases c8:(((aH l0 cG).f1).size:Int)=8
   rotate_left
   ·
    rw[if_neg c8]at H;have ls:((((aH l0 cG).f1).size:Int)==8)=false:=beq_eq_false_iff_ne.mpr c8;have G8:((((aH l0 cG).f1).size:Int) !=8)=true:=bne_iff_ne.mpr c8;obtain rfl:=fl H;have nY:0≤(cG:Int):=od;have nZ:cG<(l0.length:Int):=od;obtain⟨yV,zV,nB,nC⟩:=g8 d8.out cG nY nZ
    cases zV
    replace nB:=(HB.out.cell (I1 w _ nB)).trans nB;replace nC:=(HB.out.cell (I1 w _ nC)).trans nC;replace nY:=eq_true nY;replace nZ:=eq_true nZ
    go_wp2_with (first|((with_reducible refine ao (N:=6) rfl ?_);(try(refine dM (by rfl) ?_;dsimp only));refine az 6 64 #[.int .i64 0,.string (⟨#[]⟩:ByteArray)] ?_;intro rN hg AU ie hb;have O3:=gw hg (bs HB);have pN:=gw hg (bs HB);replace HB:=Ah (aJ (bs HB) hb);clear hb hg;obtain⟨uy,uz⟩:=bN ie;obtain⟨vA,vB⟩:=bI ie)|((with_reducible refine ap (f:=17) rfl ?_);refine gL (some 18) rfl rfl aba (by kernel_rfl) rfl #[.int .i64 ((aH l0 cG).f0),.int .i64 0,.int .i64 (I0 (a1-1))] rfl ?_;(with_reducible refine(jH.calls ((aH l0 cG).f0) 0 (I0 (a1-1)) true _ A6.out).mono ?_);rintro e w' ⟨rfl,⟨nd,rfl⟩⟩;refine⟨_,rfl, ?_⟩))
    go_ret
    exact⟨er,aM HB pN⟩
   rw[if_pos c8]at H;have ls:((((aH l0 cG).f1).size:Int)==8)=true:=beq_iff_eq.mpr c8;have G8:((((aH l0 cG).f1).size:Int) !=8)=false:=bne_eq_false_iff_eq.mpr c8;clear c8;have qU:=eq_true (od:0≤cG)
   by_cases c10:cG≤(l0.length:Int)
   rotate_left
   ·
    rw[if_neg c10]at H;exact absurd H (by simp)
   rw[if_pos c10]at H;have yM:=eq_true c10;have V7:decide (cG≤(l0.length:Int))=true:=decide_eq_true c10;clear c10;obtain⟨zW,Ep⟩:∃y_:List (S64),y_=(l0.take (cG:Int).toNat):=⟨_,rfl⟩
   replace H:((oh.f k1 zW ((aH l0 cG).f0) ((aH l0 cG).f1)).bind fun Gi=>(if Gi=true then(some false)else(fo.l0 k1 l0 a1 l0 (l0.length:Int) (I0 (cG+1)))))=some r:=by first|(rw[Ep];with_reducible exact H)|(have ak:=(Ok _ _).symm.trans H;rw[Ep];with_reducible exact ak)|(have ak:=(Ok _ _).symm.trans H;with_reducible exact ak)|with_reducible exact H|(rw[Ep];exact H)|exact H
   have K3:=Ah Ep;clear Ep;replace H:=He.mp H;obtain⟨Gi,uK,H⟩:=H
   try dsimp only at H
   have Hs:=Ah uK;clear uK
   by_cases c12:Gi=true
   ·
    subst c12;rw[if_pos rfl]at H;obtain rfl:=fl H;have nY:0≤(cG:Int):=od;have nZ:cG<(l0.length:Int):=od;obtain⟨yV,zV,nB,nC⟩:=g8 d8.out cG nY nZ
    cases zV
    replace nB:=(HB.out.cell (I1 w _ nB)).trans nB;replace nC:=(HB.out.cell (I1 w _ nC)).trans nC;replace nY:=eq_true nY;replace nZ:=eq_true nZ
    go_wp2_with (first|((with_reducible refine ao (N:=6) rfl ?_);(try(refine dM (by rfl) ?_;dsimp only));refine az 6 64 #[.int .i64 0,.string (⟨#[]⟩:ByteArray)] ?_;intro rN hg ly ie hb;have O3:=gw hg (bs HB);have pN:=gw hg (bs HB);replace HB:=Ah (aJ (bs HB) hb);clear hb hg;obtain⟨qw,qx⟩:=bN ie;obtain⟨qy,qz⟩:=bI ie)|((with_reducible refine t8 (t:=64) (p:=6) rfl ?_);refine t7 (t:=64) (p:=6) (v:= ?vo_w15) (w1:=((ly.setCell ⟨rN,0,none⟩ (.int .i64 ((aH l0 cG).f0))).setCell ⟨rN,1,none⟩ (.string ((aH l0 cG).f1)))) ?hg ?ho ?hn ?hr ?_;(case ho=>rfl);(case hg=>rfl);(case hn=>rfl);(case hr=>first|(go_simp;done)|(go_simp;rfl));intro jw hw;have aY:aC (jw.heap[rN]?=some (.cells #[.int .i64 ((aH l0 cG).f0),.string ((aH l0 cG).f1)] 64 (0,0))):=⟨(by rw[hw];exact(by(with_reducible repeat(first|refine a9 ?_ _|refine U ?_|refine Z ?_ _));refine aN (cs:= #[.int .i64 ((aH l0 cG).f0),.string (⟨#[]⟩:ByteArray)]) ?_ 1 _ rfl;(with_reducible repeat(first|refine a9 ?_ _|refine U ?_|refine Z ?_ _));refine aN (cs:= #[.int .i64 0,.string (⟨#[]⟩:ByteArray)]) ?_ 0 _ rfl;(with_reducible repeat(first|refine a9 ?_ _|refine U ?_|refine Z ?_ _));exact ie.out))⟩;have aX:aC (Below w.heap.size w jw):=⟨(by rw[hw];exact(aM HB pN))⟩;clear hw;clear ie;clear HB;have ie:=aY;have HB:=aX;clear aY aX;obtain⟨tU,tV⟩:=bN ie;obtain⟨tW,tX⟩:=bI ie)|((with_reducible refine ap (f:=17) rfl ?_);refine gL (some 18) rfl rfl aba (by kernel_rfl) rfl #[.int .i64 ((aH l0 cG).f0),.int .i64 0,.int .i64 (I0 (a1-1))] rfl ?_;(with_reducible refine(jH.calls ((aH l0 cG).f0) 0 (I0 (a1-1)) true _ A6.out).mono ?_);rintro e w' ⟨rfl,⟨nd,rfl⟩⟩;refine⟨_,rfl, ?_⟩;have R9:(cG:Int)≤((l0.length:Int):Int):=od;obtain⟨i017,VY,_,a4N,_⟩:=info_parts pF;have Th:l0.length≤c0:=gV.out;have XS:Kd.C bS _ (some yV) l0.length l0:=d8.out;have a2W:=EF (P:=t5) 24 64 .i64 aaE VY (some yV) l0.length c0 cG (od) R9 Th;have Pf:=Kd.BO (m:=(cG:Int).toNat) XS (by omega);have Pg:zW.length=(cG:Int).toNat:=(by rw[K3.out,bx];omega);rw[←K3.out]at Pf;rw[←Pg]at a2W;have O4:=Ah Pf;have O5:=Ah (show zW.length≤c0 from by omega);clear Pf XS Th VY a4N;have KY17:=Ah Pg;clear Pg;replace R9:=eq_true R9)|(go_at_call 33;(with_reducible refine(oh.calls k1 _ _ zW rN ((aH l0 cG).f0) ((aH l0 cG).f1) true _ ?aE ?aG ?aZ Hs.out).mono ?_);(case aE=>repeat(first|exact(Kd.lI O4.out (aM HB pN))|(with_reducible refine Kd.jg ?_ _)|(with_reducible refine Kd.jh ?_ _)|(with_reducible refine Kd.jo ?_)));(case aG=>exact O5.out);(case aZ=>(with_reducible repeat(first|refine a9 ?_ _|refine U ?_|refine Z ?_ _));exact ie.out);rintro e lz ⟨rfl,hb⟩;replace ie:=nb ie hb;replace HB:=Ah (aJ (aM HB pN) hb);(try clear hb)))
    go_ret
    exact⟨er,aM HB pN⟩
   replace c12:=dW.mpr c12;subst c12;rw[if_neg cg]at H;have H':=Ah H;clear H;have nY:0≤(cG:Int):=od;have nZ:cG<(l0.length:Int):=od;obtain⟨yV,zV,nB,nC⟩:=g8 d8.out cG nY nZ
   cases zV
   replace nB:=(HB.out.cell (I1 w _ nB)).trans nB;replace nC:=(HB.out.cell (I1 w _ nC)).trans nC;replace nY:=eq_true nY;replace nZ:=eq_true nZ
   go_wp2_with (first|((with_reducible refine ao (N:=6) rfl ?_);(try(refine dM (by rfl) ?_;dsimp only));refine az 6 64 #[.int .i64 0,.string (⟨#[]⟩:ByteArray)] ?_;intro rN hg kR ie hb;have O3:=gw hg (bs HB);have pN:=gw hg (bs HB);replace HB:=Ah (aJ (bs HB) hb);clear hb hg;obtain⟨xP,xQ⟩:=bN ie;obtain⟨ut,uu⟩:=bI ie)|((with_reducible refine t8 (t:=64) (p:=6) rfl ?_);refine t7 (t:=64) (p:=6) (v:= ?vo_w21) (w1:=((kR.setCell ⟨rN,0,none⟩ (.int .i64 ((aH l0 cG).f0))).setCell ⟨rN,1,none⟩ (.string ((aH l0 cG).f1)))) ?hg ?ho ?hn ?hr ?_;(case ho=>rfl);(case hg=>rfl);(case hn=>rfl);(case hr=>first|(go_simp;done)|(go_simp;rfl));intro ir hw;have aY:aC (ir.heap[rN]?=some (.cells #[.int .i64 ((aH l0 cG).f0),.string ((aH l0 cG).f1)] 64 (0,0))):=⟨(by rw[hw];exact(by(with_reducible repeat(first|refine a9 ?_ _|refine U ?_|refine Z ?_ _));refine aN (cs:= #[.int .i64 ((aH l0 cG).f0),.string (⟨#[]⟩:ByteArray)]) ?_ 1 _ rfl;(with_reducible repeat(first|refine a9 ?_ _|refine U ?_|refine Z ?_ _));refine aN (cs:= #[.int .i64 0,.string (⟨#[]⟩:ByteArray)]) ?_ 0 _ rfl;(with_reducible repeat(first|refine a9 ?_ _|refine U ?_|refine Z ?_ _));exact ie.out))⟩;have aX:aC (Below w.heap.size w ir):=⟨(by rw[hw];exact(aM HB pN))⟩;clear hw;clear ie;clear HB;have ie:=aY;have HB:=aX;clear aY aX;obtain⟨qC,qD⟩:=bN ie;obtain⟨qE,qF⟩:=bI ie)|((with_reducible refine ap (f:=17) rfl ?_);refine gL (some 18) rfl rfl aba (by kernel_rfl) rfl #[.int .i64 ((aH l0 cG).f0),.int .i64 0,.int .i64 (I0 (a1-1))] rfl ?_;(with_reducible refine(jH.calls ((aH l0 cG).f0) 0 (I0 (a1-1)) true _ A6.out).mono ?_);rintro e w' ⟨rfl,⟨nd,rfl⟩⟩;refine⟨_,rfl, ?_⟩;have RA:(cG:Int)≤((l0.length:Int):Int):=od;obtain⟨i023,VZ,_,a4O,_⟩:=info_parts pF;have Ti:l0.length≤c0:=gV.out;have XT:Kd.C bS _ (some yV) l0.length l0:=d8.out;have a2X:=EF (P:=t5) 24 64 .i64 aaE VZ (some yV) l0.length c0 cG (od) RA Ti;have Ph:=Kd.BO (m:=(cG:Int).toNat) XT (by omega);have Pi:zW.length=(cG:Int).toNat:=(by rw[K3.out,bx];omega);rw[←K3.out]at Ph;rw[←Pi]at a2X;have O4:=Ah Ph;have O5:=Ah (show zW.length≤c0 from by omega);clear Ph XT Ti VZ a4O;have KY23:=Ah Pi;clear Pi;replace RA:=eq_true RA)|(go_at_call 33;(with_reducible refine(oh.calls k1 _ _ zW rN ((aH l0 cG).f0) ((aH l0 cG).f1) false _ ?aE ?aG ?aZ Hs.out).mono ?_);(case aE=>repeat(first|exact(Kd.lI O4.out (aM HB pN))|(with_reducible refine Kd.jg ?_ _)|(with_reducible refine Kd.jh ?_ _)|(with_reducible refine Kd.jo ?_)));(case aG=>exact O5.out);(case aZ=>(with_reducible repeat(first|refine a9 ?_ _|refine U ?_|refine Z ?_ _));exact ie.out);rintro e ks ⟨rfl,hb⟩;replace ie:=nb ie hb;replace HB:=Ah (aJ (aM HB pN) hb);(try clear hb)))
   go_roundg k1
   case measure=>have:=bY.out;omega
   case rel=>exact⟨(I0 (cG+1)),e3,H',⟨by have:=bY.out;omega⟩,⟨aM HB pN⟩⟩
mutual
def dl.l0:Nat→List Int→List (S64)→Int→Int→Option (ByteArray)
 |0,_,_,_,_=>none
 |k+1,x3,dq,iu,mv=>if mv<iu then(if 0≤mv then(if mv<(dq.length:Int)then(if x3.length<140737488355328 then((some (x3++[((aH dq mv).f0) %256]:List Int)).bind fun wE=>(if wE.length+((aH dq mv).f1).size<140737488355328 then(dl.l0 k (wE++jf ((aH dq mv).f1)) dq iu (I0 (mv+1)))else(none)))else(none))else(none))else(none))else(dl.l1 k x3 0 x3 (x3.length:Int) 0)
def dl.l1:Nat→List Int→Int→List Int→Int→Int→Option (ByteArray)
 |0,_,_,_,_,_=>none
 |k+1,x3,x6,x29,x30,x31=>if x31<x30 then(if 0≤x31 then(if x31<(x29.length:Int)then(dl.l1 k x3 (Go.bits .xor .u8 x6 (rd x29 x31)) x29 x30 (I0 (x31+1)))else(none))else(none))else(if x3.length<140737488355328 then(some (strOfNums (x3++[x6])))else(none))
end
def dl.f(k:Nat)(l0:List (S64)):Option (ByteArray):=dl.l0 k (([((l0.length:Int)) %256]:List Int)) l0 (l0.length:Int) 0
theorem dl.bg:∀k,(∀y0 y1 y2 y3,a8 (dl.l0 k y0 y1 y2 y3) (dl.l0 (k+1) y0 y1 y2 y3))∧(∀y0 y1 y2 y3 y4,a8 (dl.l1 k y0 y1 y2 y3 y4) (dl.l1 (k+1) y0 y1 y2 y3 y4))
 |0=>⟨fun _ _ _ _ r h=>by simp[dl.l0]at h,fun _ _ _ _ _ r h=>by simp[dl.l1]at h⟩
 |k+1=>by
  obtain⟨bB,ih1⟩:=dl.bg k
  refine⟨?_, ?_⟩<;>intros<;>first|unfold dl.l0|unfold dl.l1
  all_goals repeat' first
   |(with_reducible exact bB _ _ _ _)
   |(with_reducible exact ih1 _ _ _ _ _)
   |(with_reducible exact a8.refl _)
   |(with_reducible exact a8.none _)
   |(with_reducible refine a8.ite ?_ ?_)
   |(with_reducible refine a8.bind ?_ (fun _=> ?_))
   |exact bB _ _ _ _
   |exact ih1 _ _ _ _ _
   |exact a8.none _
   |refine a8.ite ?_ ?_
   |refine a8.bind ?_ (fun _=> ?_)
theorem dl.mono:∀a0 k,a8 (dl.f k a0) (dl.f (k+1) a0):=by
 intro a0 k;obtain⟨bB,ih1⟩:=dl.bg k;unfold dl.f
 repeat' with_reducible first|exact bB _ _ _ _|exact ih1 _ _ _ _ _|exact a8.refl _|exact a8.none _|refine a8.ite ?_ ?_|refine a8.bind ?_ (fun _=> ?_)
def dl.T5:Bool×List (List Nat×List Nat):=(true,[([],[]),([],[]),([1],[1]),([2],[2]),([3],[3]),([0,4],[0,4]),([],[]),([6],[6]),([5,7,5],[5,7]),([8,8,0,1,2,3,4,5,6,7,8],[0,8])])
def dl.B5:List Nat:=[0,0,2,6,14,31,0,64,255,511]
theorem dl.Ki:fN .any (lh Try.f52 5)=dl.T5:=by kernel_rfl
theorem dl.K4:ji dl.T5.2 dl.B5=true:=by kernel_rfl
set_option maxHeartbeats 8000000 in
set_option maxRecDepth 100000 in
theorem dl.calls(k:Nat)(A0:Option Addr)(c0:Nat)(l0:List (S64))(r:ByteArray)(w:World)(hr0:Kd.C bS w A0 l0.length l0)(hc0:l0.length≤c0)(h:dl.f k l0=some r):
 Calls t5 52 #[.slice A0 l0.length c0] w fun e w'=>e= .returned (.string r)∧Below w.heap.size w w':=by
 have hu64:=aah;have d8:=Ah hr0;have gV:=Ah hc0;clear hr0 hc0;have HB:=Ah (pv w.heap.size w);have H:(dl.l0 k (([((l0.length:Int)) %256]:List Int)) l0 (l0.length:Int) 0)=some r:=h;clear h;obtain⟨XU,Er⟩:∃y_:List Int,y_=(([((l0.length:Int)) %256]:List Int)):=⟨_,rfl⟩
 replace H:(dl.l0 k XU l0 (l0.length:Int) 0)=some r:=by first|(rw[Er];with_reducible exact H)|(have ak:=(Ok _ _).symm.trans H;rw[Er];with_reducible exact ak)|(have ak:=(Ok _ _).symm.trans H;with_reducible exact ak)|with_reducible exact H|(rw[Er];exact H)|exact H
 have Va:=Ah Er;clear Er;have H':=Ah H;clear H
 go_enter Try.func52,Try.ntmps52
 go_wp2_with (first|((with_reducible refine ao (N:=12) rfl ?_);refine Kd.oC (Kd.int .u8) _ 5 ?hg (N:=12) ?hd (xs:=([((l0.length:Int)) %256]:List Int)) (inner:=[.int .u8 (((l0.length:Int)) %256)]) (ok:=fun _=>True) (okp:=fun _=>True) ?hr ?hp (fun _ hk=>hk) trivial (pv _ _) (mz _) (by simp) ?_;(case hd=>rfl);(case hg=>rfl);(case hr=>first|(go_simp;done)|(go_simp;rfl));(case hp=>exact(bv.one (show Kd.M (Kd.int .u8) _ _ _ (((l0.length:Int)) %256) [.int .u8 (((l0.length:Int)) %256)]from rfl) (bv.none _ _)));intro v559 w2 ho3 hb gf gX;clear gf gX;(first|rw[←Va.out]at ho3|(simp only[Int.reduceToNat]at ho3;rw[←Va.out]at ho3));have a4P:=Ah (Kd.bD ho3 (bJ (bs HB)));replace HB:=Ah (aJ (bs HB) hb);clear hb ho3))
 go_loopg [3,15] k (fun kq v3 v15 w'=>∃ (dy:List Int) (cv:Int),v15= .int .i64 cv∧aC (dl.l0 kq dy l0 (l0.length:Int) cv=some r)∧aC (kq≤k)∧aC (Kd.R (Kd.int .u8) 5 w' w.heap.size (fun _=>True) v3 dy)∧aC (Below w.heap.size w w'))
 case atStart=>exact⟨(XU),(0),e3,H',⟨mz _⟩,⟨rr a4P.out⟩,⟨bs HB⟩⟩
 case round=>
  clear H'
  try clear p2
  obtain⟨dy,cv,rfl,HA,bY,jB,HB⟩:=hrel
  cases gk with
  |zero=>exact absurd HA.out (by simp[dl.l0])
  |succ k1=>
   have H:=HA.out;clear HA;simp only[dl.l0]at H
   by_cases c4:cv<(l0.length:Int)
   rotate_left
   ·
    rw[if_neg c4]at H;have fa:decide (cv<(l0.length:Int))=false:=decide_eq_false c4;clear c4;have H':=Ah H;clear H;obtain⟨kI,jb,oK⟩:=Kd.al jB.out;subst oK
    go_wp2
    go_loopg [6,31] k1 (fun kq v6 v31 w'=>∃ (mH:Int) (nJ:Int),v6= .int .u8 mH∧v31= .int .i64 nJ∧aC (dl.l1 kq dy mH dy (dy.length:Int) nJ=some r)∧aC (kq≤k1)∧aC (Kd.R (Kd.int .u8) 5 w' w.heap.size (fun _=>True) (.slice kI dy.length jb) dy)∧aC (Kd.R (Kd.int .u8) 5 w' w.heap.size (fun _=>True) (.slice kI dy.length jb) dy)∧aC (Below w.heap.size w w'))
    case atStart=>exact⟨(0),(0),e3,e3,H',⟨mz _⟩,⟨rr jB.out⟩,⟨rr jB.out⟩,⟨bs HB⟩⟩
    case round=>
     clear H'
     try clear p2
     try clear c4
     try clear fa
     try clear c5
     try clear gz
     try clear p5
     try clear q5
     try clear hx5
     try clear c6
     try clear hF
     try clear p6
     try clear c7
     try clear c8
     try clear BB BC
     try clear BD BE
     try clear J8
     try clear J9
     try clear p2
     try clear Kj
     try clear Kk
     obtain⟨mH,nJ,rfl,rfl,HA,jE,jB,Vb,HB⟩:=hrel
     cases gk with
     |zero=>exact absurd HA.out (by simp[dl.l1])
     |succ k2=>
      have H:=HA.out;clear HA;simp only[dl.l1]at H
      by_cases c16:nJ<(dy.length:Int)
      ·
       rw[if_pos c16]at H;have vH:decide (nJ<(dy.length:Int))=true:=decide_eq_true c16;clear c16
       by_cases c17:0≤nJ
       rotate_left
       ·
        rw[if_neg c17]at H;exact absurd H (by simp)
       rw[if_pos c17]at H;have Jv:decide (0≤nJ)=true:=decide_eq_true c17;clear c17
       by_cases c18:nJ<(dy.length:Int)
       rotate_left
       ·
        rw[if_neg c18]at H;exact absurd H (by simp)
       rw[if_pos c18]at H;have K5:decide (nJ<(dy.length:Int))=true:=decide_eq_true c18;clear c18;have H':=Ah H;clear H;have Pj:0≤(nJ:Int):=od;have Pk:nJ<(dy.length:Int):=od;obtain⟨ad569,a7Q,hx569_0⟩:=Kd.BN (Kd.b9 Vb.out).2.2 nJ Pj Pk
       cases a7Q
       replace Pj:=eq_true Pj;replace Pk:=eq_true Pk
       go_wp2
       go_roundg k2
       case measure=>have:=bY.out;have:=jE.out;omega
       case rel=>exact⟨(Go.bits .xor .u8 mH (rd dy nJ)),(I0 (nJ+1)),e3,e3,H',⟨by have:=bY.out;have:=jE.out;omega⟩,⟨rr jB.out⟩,⟨rr Vb.out⟩,⟨bs HB⟩⟩
      rw[if_neg c16]at H;have vH:decide (nJ<(dy.length:Int))=false:=decide_eq_false c16;clear c16
      by_cases c19:dy.length<140737488355328
      rotate_left
      ·
       rw[if_neg c19]at H;exact absurd H (by simp)
      rw[if_pos c19]at H;have a4Q:=Ah c19;clear c19;obtain⟨a7R,Es⟩:∃y_:List Int,y_=(dy++[mH]):=⟨_,rfl⟩
      replace H:(some (strOfNums a7R))=some r:=by first|(rw[Es];with_reducible exact H)|(have ak:=(Ok _ _).symm.trans H;rw[Es];with_reducible exact ak)|(have ak:=(Ok _ _).symm.trans H;with_reducible exact ak)|with_reducible exact H|(rw[Es];exact H)|exact H
      have a4R:=Ah Es;clear Es;obtain rfl:=fl H
      go_wp2_with (first|((with_reducible refine mO (b:= .append) (xs:= #[.tmp 39,.tmp 41]) rfl ?_);at_builtin;refine Kd.tK (Kd.int .u8) (w0:=w) w.heap.size rfl (.tmp 39) (.tmp 41) 22 5 (.int .u8 0) 1 rfl aaD EO rfl (by decide) (by omega) (.slice kI dy.length jb) dy mH [.int .u8 mH] (fun _=>True) (fun _=>False) rfl rfl ?aP (fun _ hk=>hk.elim) ?aF ?aO ?aB ?aS ?aL ?_;(case aP=>exact rfl);(case aB=>exact(bs HB));(case aF=>exact(fun _ _=>trivial));(case aO=>exact(rr jB.out));(case aS=>exact(bJ (bs HB)));(case aL=>have:=a4Q.out;omega);intro v571 np ho hb hg hat;rw[←a4R.out]at ho;replace HB:=Ah (hb);have a4S:=Ah (ho);clear jB;clear ho hb hg hat;have hcv21:=Aj (P:=t5) aaD Try.underlying5 abe (Kd.tL a4S.out)))
      go_ret
      exact⟨er,bs HB⟩
   rw[if_pos c4]at H;have fa:decide (cv<(l0.length:Int))=true:=decide_eq_true c4;clear c4
   by_cases c5:0≤cv
   rotate_left
   ·
    rw[if_neg c5]at H;exact absurd H (by simp)
   rw[if_pos c5]at H;have gz:decide (0≤cv)=true:=decide_eq_true c5;clear c5
   by_cases c6:cv<(l0.length:Int)
   rotate_left
   ·
    rw[if_neg c6]at H;exact absurd H (by simp)
   rw[if_pos c6]at H;have hF:decide (cv<(l0.length:Int))=true:=decide_eq_true c6;clear c6
   by_cases c7:dy.length<140737488355328
   rotate_left
   ·
    rw[if_neg c7]at H;exact absurd H (by simp)
   rw[if_pos c7]at H;have a7S:=Ah c7;clear c7;obtain⟨wE,Et⟩:∃y_:List Int,y_=(dy++[((aH l0 cv).f0) %256]):=⟨_,rfl⟩
   replace H:(if wE.length+((aH l0 cv).f1).size<140737488355328 then(dl.l0 k1 (wE++jf ((aH l0 cv).f1)) l0 (l0.length:Int) (I0 (cv+1)))else(none))=some r:=by first|(rw[Et];with_reducible exact H)|(have ak:=(Ok _ _).symm.trans H;rw[Et];with_reducible exact ak)|(have ak:=(Ok _ _).symm.trans H;with_reducible exact ak)|with_reducible exact H|(rw[Et];exact H)|exact H
   have a4T:=Ah Et;clear Et
   by_cases c8:wE.length+((aH l0 cv).f1).size<140737488355328
   rotate_left
   ·
    rw[if_neg c8]at H;exact absurd H (by simp)
   rw[if_pos c8]at H;have Pl:=Ah c8;clear c8;obtain⟨Pm,Eu⟩:∃y_:List Int,y_=(wE++jf ((aH l0 cv).f1)):=⟨_,rfl⟩
   replace H:(dl.l0 k1 Pm l0 (l0.length:Int) (I0 (cv+1)))=some r:=by first|(rw[Eu];with_reducible exact H)|(have ak:=(Ok _ _).symm.trans H;rw[Eu];with_reducible exact ak)|(have ak:=(Ok _ _).symm.trans H;with_reducible exact ak)|with_reducible exact H|(rw[Eu];exact H)|exact H
   have a4U:=Ah Eu;clear Eu;have H':=Ah H;clear H;have Kj:0≤(cv:Int):=od;have Kk:cv<(l0.length:Int):=od;obtain⟨ad561,a7T,J8,J9⟩:=g8 d8.out cv Kj Kk
   cases a7T
   replace J8:=(HB.out.cell (I1 w _ J8)).trans J8;replace J9:=(HB.out.cell (I1 w _ J9)).trans J9;replace Kj:=eq_true Kj;replace Kk:=eq_true Kk
   try go_wp2_with (first|((with_reducible refine ao (N:=5) rfl ?_);refine az 5 64 #[.int .i64 0,.string (⟨#[]⟩:ByteArray)] ?_;intro pO hg w9 j2 hb;replace jB:=nr jB hb;have GW562:=gw hg (bs HB);have Be:=gw hg (bs HB);replace HB:=Ah (aJ (bs HB) hb);clear hb hg;obtain⟨BB,BC⟩:=bN j2;obtain⟨BD,BE⟩:=bI j2))
   have aY:aC (Kd.R (Kd.int .u8) 5 ((w9.setCell ⟨pO,0,none⟩ (.int .i64 ((aH l0 cv).f0))).setCell ⟨pO,1,none⟩ (.string ((aH l0 cv).f1))) w.heap.size (fun _=>True) u3 dy):=⟨by(with_reducible repeat(first|apply Kd.aw|apply Kd.ax|apply Kd.aa));exact Kd.aK (Kd.aA (p:=⟨pO,1,none⟩) (Kd.aA (p:=⟨pO,0,none⟩) (Kd.b7 jB.out j2.out (by decide)) (fun _ hk=>hk.2) (.int .i64 ((aH l0 cv).f0))) (fun _ hk=>hk.2) (.string ((aH l0 cv).f1))) (fun _ hk=>trivial)⟩;have aX:aC (((w9.setCell ⟨pO,0,none⟩ (.int .i64 ((aH l0 cv).f0))).setCell ⟨pO,1,none⟩ (.string ((aH l0 cv).f1))).heap[pO]?=some (.cells #[.int .i64 ((aH l0 cv).f0),.string ((aH l0 cv).f1)] 64 (0,0))):=⟨by(with_reducible repeat(first|refine a9 ?_ _|refine U ?_|refine Z ?_ _));refine aN (cs:= #[.int .i64 ((aH l0 cv).f0),.string (⟨#[]⟩:ByteArray)]) ?_ 1 _ rfl;(with_reducible repeat(first|refine a9 ?_ _|refine U ?_|refine Z ?_ _));refine aN (cs:= #[.int .i64 0,.string (⟨#[]⟩:ByteArray)]) ?_ 0 _ rfl;(with_reducible repeat(first|refine a9 ?_ _|refine U ?_|refine Z ?_ _));exact j2.out⟩;have ae:aC (Below w.heap.size w ((w9.setCell ⟨pO,0,none⟩ (.int .i64 ((aH l0 cv).f0))).setCell ⟨pO,1,none⟩ (.string ((aH l0 cv).f1)))):=⟨aM HB Be⟩;(try clear jB);(try clear j2);(try clear HB)
   generalize ((w9.setCell ⟨pO,0,none⟩ (.int .i64 ((aH l0 cv).f0))).setCell ⟨pO,1,none⟩ (.string ((aH l0 cv).f1)))=sy at aY aX ae⊢
   have jB:=aY;have j2:=aX;have HB:=ae;clear aY aX ae;have aY:=Ah (Kd.aa jB.out);have aX:=Ah (U j2.out);have ae:=Ah (ia HB.out);clear jB j2 HB;have jB:=aY;have j2:=aX;have HB:=ae;clear aY aX ae;refine k9 (n:=10) (S:=fun w'=>w'.cell? ⟨pO,0,none⟩=some (.int .i64 ((aH l0 cv).f0))∧w'.cell? ⟨pO,1,none⟩=some (.string ((aH l0 cv).f1))) (ds:=[]) #[false,false,false,false,false,false,false,false,false,false] (by kernel_rfl) rfl rfl ⟨(aQ j2.out 0).trans rfl,(aQ j2.out 1).trans rfl⟩ (fun hHeld=> ?_);refine kS dl.Ki dl.K4 (fun aU dT=> ?_)
   generalize sy.drew=mu at jB j2 HB hHeld⊢
   refine b8 0 19 aU.out ?_;refine b8 1 20 aU.out ?_;refine b8 6 25 aU.out ?_;refine fZ 2 21 aU.out dT.out hHeld (hr:=by rintro w' ⟨s0,s1⟩;go_simp;with_reducible rfl) (h:= ?_);refine b8 3 22 aU.out ?_;refine fZ 7 26 aU.out dT.out hHeld (hr:=by rintro w' ⟨s0,s1⟩;go_simp;with_reducible rfl) (h:= ?_);refine e5 (i:=4) (N:=some 23) #[true,true,true,true,true,false,true,true,false,false] rfl rfl (dz aU.out (by kernel_rfl)) (by decide) (fun K hK=> ?_);refine BQ (w1:= ?_) (v:= ?_) (by rfl) rfl ?_ ?_;rotate_left 2
   ·
    go_simp
    constructor
    ·
     rfl
    ·
     rfl
   refine hK.out _ _ ⟨(aQ (Z j2.out _) 0).trans rfl,(aQ (Z j2.out _) 1).trans rfl⟩ (fun hHeld=> ?_);clear hK K;refine ej (a':= ?_) ?_ ?_;rotate_left
   ·
    show aaa _ (some 23) _=_
    simp only[aaa,JM,jG,kt,dD,dP]
    rfl
   refine e5 (i:=5) (N:=some 24) #[true,true,true,true,true,true,true,true,false,false] rfl rfl (dz aU.out (by kernel_rfl)) (by decide) (fun K hK=> ?_);refine Kd.Af (Kd.int .u8) (w0:=w) w.heap.size (by rfl) (.tmp 19) (.tmp 23) 22 5 (.int .u8 0) 1 rfl aaD EO rfl (by decide) (by omega) u3 dy (((aH l0 cv).f0) %256) [.int .u8 (((aH l0 cv).f0) %256)] (fun _=>True) (fun _=>False) rfl rfl ?aP (fun _ hk=>hk.elim) ?aF ?aO ?aB ?aS ?aL ?_;(case aP=>exact rfl);(case aB=>exact(aM HB Be));(case aF=>exact(fun _ _=>trivial));(case aO=>exact(rr jB.out));(case aS=>exact(bJ (aM HB Be)));(case aL=>have:=a7S.out;omega);intro a7U ly ho hb hg hat;rw[←a4T.out]at ho;have aY:=Ah (fx (bk j2) hg (Kd.fM jB.out j2.out (by decide)));have aX:=Ah (hb);have ae:=Ah (ho);clear j2 HB jB;have j2:=aY;have HB:=aX;have O6:=ae;clear aY aX ae ho hb hg hat;refine hK.out _ _ ⟨(aQ j2.out 0).trans rfl,(aQ j2.out 1).trans rfl⟩ (fun hHeld=> ?_);clear hK K;refine ej (a':= ?_) ?_ ?_;rotate_left
   ·
    show aaa _ (some 24) _=_
    simp only[aaa,JM,jG,kt,dD,dP]
    rfl
   refine e5 (i:=8) (N:=some 27) #[true,true,true,true,true,true,true,true,true,false] rfl rfl (dz aU.out (by kernel_rfl)) (by decide) (fun K hK=> ?_);refine Yi (w0:=w) w.heap.size (by rfl) (.tmp 24) _ 22 9 5 rfl aaD abe EO a7U wE ((aH l0 cv).f1) rfl rfl ?aO ?aB ?aS ?aL ?_;(case aB=>exact(aM HB Be));(case aO=>exact(Kd.tL (rr O6.out)));(case aS=>exact(bJ (aM HB Be)));(case aL=>have:=Pl.out;omega);intro a7V pp ho0 hb hg;have ho:=Kd.SB (h1:=fun _=>rfl) (ok:=fun _=>True) ho0 (fun _ _=>trivial);clear ho0;have hat:=True.intro;rw[←a4U.out]at ho
   change Kd.R (Kd.int .u8) 5 pp w.heap.size (fun _=>True) a7V Pm at ho
   have aY:=Ah (fx (bk j2) hg (Kd.fM O6.out j2.out (by decide)));have aX:=Ah (hb);have ae:=Ah (ho);clear j2 HB O6;have j2:=aY;have HB:=aX;have a4V:=ae;clear aY aX ae ho hb hg hat;refine hK.out _ _ ⟨(aQ j2.out 0).trans rfl,(aQ j2.out 1).trans rfl⟩ (fun hHeld=> ?_);clear hK K;refine ej (a':= ?_) ?_ ?_;rotate_left
   ·
    show aaa _ (some 27) _=_
    simp only[aaa,JM,jG,kt,dD,dP]
    rfl
   refine b8 9 3 aU.out ?_;refine jp (k7 aU.out (by kernel_rfl)) ?_
   try go_wp2
   go_roundg k1
   case measure=>have:=bY.out;omega
   case rel=>exact⟨(Pm),(I0 (cv+1)),e3,H',⟨by have:=bY.out;omega⟩,⟨rr a4V.out⟩,⟨aM HB Be⟩⟩
def eP.l0:Nat→ByteArray→List (S64)→Int→Option ((List (S64))×Bool)
 |0,_,_,_=>none
 |k+1,x0,x4,x5=>if(I0 ((I0 (x5+8))+1))<(x0.size:Int)then(if 0≤x5 then(if x5<(x0.size:Int)then(if 0≤(I0 (x5+1))then(if(I0 (x5+1))≤(I0 ((I0 (x5+1))+8))then(if(I0 ((I0 (x5+1))+8))≤(x0.size:Int)then(if x4.length<5864062014805 then(eP.l0 k x0 (x4++[(⟨I0 (bt x0 x5),x0.extract ((I0 (x5+1)):Int).toNat ((I0 ((I0 (x5+1))+8)):Int).toNat⟩:S64)]) (I0 (x5+9)))else(none))else(none))else(none))else(none))else(none))else(none))else((fo.f k x4 32).bind fun Pn=>(if Pn=true then((dl.f k x4).bind fun uN=>(if uN.toList=x0.toList then(some (x4,true))else(some (([]:List (S64)),false))))else(some (([]:List (S64)),false))))
def eP.f(k:Nat)(a0:ByteArray):Option ((List (S64))×Bool):=if(a0.size:Int)>74 then(some (([]:List (S64)),false))else(eP.l0 k a0 (([]:List (S64))) 1)
theorem eP.bg:∀k,(∀y0 y1 y2,a8 (eP.l0 k y0 y1 y2) (eP.l0 (k+1) y0 y1 y2))
 |0=>fun _ _ _ r h=>by simp[eP.l0]at h
 |k+1=>by
  have bB:=eP.bg k
  ·
   intro y0 y1 y2;unfold eP.l0
   repeat' with_reducible first|exact bB _ _ _|exact fo.mono _ _ _|exact dl.mono _ _|exact a8.refl _|exact a8.none _|refine a8.ite ?_ ?_|refine a8.bind ?_ (fun _=> ?_)
theorem eP.mono:∀a0 k,a8 (eP.f k a0) (eP.f (k+1) a0):=by
 intro a0 k;have bB:=eP.bg k;unfold eP.f
 repeat' with_reducible first|exact bB _ _ _|exact fo.mono _ _ _|exact dl.mono _ _|exact a8.refl _|exact a8.none _|refine a8.ite ?_ ?_|refine a8.bind ?_ (fun _=> ?_)
def eP.T7:Bool×List (List Nat×List Nat):=(true,[([],[]),([],[]),([],[]),([1,2],[1,2]),([3],[3]),([],[]),([],[]),([6],[6]),([],[]),([8],[8]),([9],[9]),([5,7,10],[5,7,10]),([4,11],[4,11]),([12],[12]),([0,13],[0,13]),([14,14,0,1,2,3,4,5,6,7,8,9,10,11,12,13,14],[0,14])])
def eP.B7:List Nat:=[0,0,0,6,14,0,0,64,0,256,768,2016,4094,8190,16383,32767]
theorem eP.Po:fN .any (lh Try.f31 7)=eP.T7:=by kernel_rfl
theorem eP.O7:ji eP.T7.2 eP.B7=true:=by kernel_rfl
set_option maxHeartbeats 8000000 in
set_option maxRecDepth 100000 in
theorem eP.calls(k:Nat)(a0:ByteArray)(r1:List (S64))(r2:Bool)(w:World)(h:eP.f k a0=some (r1,r2)):
 Calls t5 31 #[.string a0] w fun e w'=>∃bh:Value,e= .returned (.tuple #[bh,.bool r2])∧Kd.R bS 64 w' w.heap.size (fun _=>True) bh r1∧Below w.heap.size w w':=by
 have hu64:=aah;have HB:=Ah (pv w.heap.size w);have H:(if(a0.size:Int)>74 then(some (([]:List (S64)),false))else(eP.l0 k a0 (([]:List (S64))) 1))=some (r1,r2):=h;clear h
 by_cases c2:(a0.size:Int)>74
 ·
  rw[if_pos c2]at H;have si:decide (74<(a0.size:Int))=true:=decide_eq_true c2;have vo:decide (74<a0.size)=true:=decide_eq_true (by omega);clear c2;simp only[fc,oe]at H;obtain⟨rfl,rfl⟩:=H
  go_enter Try.func31,Try.ntmps31
  go_wp2
  go_ret2
  exact⟨_,er,by first|exact Kd.cQ _ _ _ _ _|exact Kd.cY _ _ _ _ _|exact Kd.cZ _ _ _ _ _|exact Kd.cW _ _ _ _ _|exact Kd.cX _ _ _ _ _,bs HB⟩
 rw[if_neg c2]at H;have si:decide (74<(a0.size:Int))=false:=decide_eq_false c2;have vo:decide (74<a0.size)=false:=decide_eq_false (by omega);clear c2;obtain⟨XV,Ew⟩:∃y_:List (S64),y_=(([]:List (S64))):=⟨_,rfl⟩
 replace H:(eP.l0 k a0 XV 1)=some (r1,r2):=by first|(rw[Ew];with_reducible exact H)|(have ak:=(Ok _ _).symm.trans H;rw[Ew];with_reducible exact ak)|(have ak:=(Ok _ _).symm.trans H;with_reducible exact ak)|with_reducible exact H|(rw[Ew];exact H)|exact H
 have Vc:=Ah Ew;clear Ew;have H':=Ah H;clear H
 go_enter Try.func31,Try.ntmps31
 go_wp2_with (first|((with_reducible refine ao (N:=9) rfl ?_);refine Kd.oC bS _ 64 ?hg (N:=9) ?hd (xs:=([]:List (S64))) (inner:=[]) (ok:=fun _=>True) (okp:=fun _=>True) ?hr ?hp (fun _ hk=>hk) trivial (pv _ _) (mz _) (by simp) ?_;(case hd=>rfl);(case hg=>rfl);(case hr=>first|(go_simp;done)|(go_simp;rfl));(case hp=>exact(bv.none _ _));intro v574 w3 Ht hb gf gX;clear gf gX;(first|rw[←Vc.out]at Ht|(simp only[Int.reduceToNat]at Ht;rw[←Vc.out]at Ht));have a4W:=Ah (Kd.bD Ht (bJ (bs HB)));replace HB:=Ah (aJ (bs HB) hb);clear hb Ht))
 go_loopg [4,5] k (fun kq v4 v5 w'=>∃ (mj:List (S64)) (bd:Int),v5= .int .i64 bd∧aC (eP.l0 kq a0 mj bd=some (r1,r2))∧aC (kq≤k)∧aC (Kd.R bS 64 w' w.heap.size (fun _=>True) v4 mj)∧aC (Below w.heap.size w w'))
 case atStart=>exact⟨(XV),(1),e3,H',⟨mz _⟩,⟨rr a4W.out⟩,⟨bs HB⟩⟩
 case round=>
  clear H'
  try clear c2
  try clear si
  try clear vo
  try clear p2
  try clear c3
  obtain⟨mj,bd,rfl,HA,bY,da,HB⟩:=hrel
  cases gk with
  |zero=>exact absurd HA.out (by simp[eP.l0])
  |succ k1=>
   have H:=HA.out;clear HA;simp only[eP.l0]at H
   by_cases c5:(I0 ((I0 (bd+8))+1))<(a0.size:Int)
   rotate_left
   ·
    rw[if_neg c5]at H;have gz:decide ((I0 ((I0 (bd+8))+1))<(a0.size:Int))=false:=decide_eq_false c5;clear c5;replace H:=He.mp H;obtain⟨Pn,XW,H⟩:=H
    try dsimp only at H
    have RB:=Ah XW;clear XW
    by_cases c17:Pn=true
    rotate_left
    ·
     replace c17:=dW.mpr c17;subst c17;rw[if_neg cg]at H;simp only[fc,oe]at H;obtain⟨rfl,rfl⟩:=H;obtain⟨j7,ip,GG⟩:=Kd.al da.out;subst GG
     go_wp2_with (first|((with_reducible refine ap (f:=32) rfl ?_);refine gL (some 34) rfl rfl Try.func32 (by kernel_rfl) rfl #[.slice j7 mj.length ip,.int .i64 32] rfl ?_;(with_reducible refine(fo.calls k1 _ _ mj 32 false _ ?aE ?aG RB.out).mono ?_);(case aE=>exact bi da);(case aG=>exact(Kd.b9 da.out).2.1);rintro e Cq ⟨rfl,hb⟩;refine⟨_,rfl, ?_⟩;replace da:=nr da hb;replace HB:=Ah (aJ (bs HB) hb);(try clear hb)))
     go_ret2
     exact⟨_,er,by first|exact Kd.cQ _ _ _ _ _|exact Kd.cY _ _ _ _ _|exact Kd.cZ _ _ _ _ _|exact Kd.cW _ _ _ _ _|exact Kd.cX _ _ _ _ _,bs HB⟩
    subst c17;rw[if_pos rfl]at H;replace H:=He.mp H;obtain⟨uN,Gj,H⟩:=H
    try dsimp only at H
    have L5:=Ah Gj;clear Gj
    by_cases c19:uN.toList=a0.toList
    ·
     rw[if_pos c19]at H;have Bb:(uN.toList==a0.toList)=true:=beq_iff_eq.mpr c19;have Ee:(uN.toList !=a0.toList)=false:=bne_eq_false_iff_eq.mpr c19;clear c19;simp only[fc,oe]at H;obtain⟨rfl,rfl⟩:=H;obtain⟨uO,uP,Gk⟩:=Kd.al da.out;subst Gk
     go_wp2_with (first|((with_reducible refine ap (f:=32) rfl ?_);refine gL (some 34) rfl rfl Try.func32 (by kernel_rfl) rfl #[.slice uO mj.length uP,.int .i64 32] rfl ?_;(with_reducible refine(fo.calls k1 _ _ mj 32 true _ ?aE ?aG RB.out).mono ?_);(case aE=>exact bi da);(case aG=>exact(Kd.b9 da.out).2.1);rintro e ir ⟨rfl,hb⟩;refine⟨_,rfl, ?_⟩;replace da:=nr da hb;replace HB:=Ah (aJ (bs HB) hb);(try clear hb))|(go_at_call 52;(with_reducible refine(dl.calls k1 _ _ mj uN _ ?aE ?aG L5.out).mono ?_);(case aE=>exact bi da);(case aG=>exact(Kd.b9 da.out).2.1);rintro e pr ⟨rfl,hb⟩;replace da:=nr da hb;replace HB:=Ah (aJ (bs HB) hb);(try clear hb)))
     go_ret2
     exact⟨_,er,by(with_reducible repeat(first|apply Kd.aw|apply Kd.ax|apply Kd.aa));exact da.out,bs HB⟩
    rw[if_neg c19]at H;have Bb:(uN.toList==a0.toList)=false:=beq_eq_false_iff_ne.mpr c19;have Ee:(uN.toList !=a0.toList)=true:=bne_iff_ne.mpr c19;simp only[fc,oe]at H;obtain⟨rfl,rfl⟩:=H;obtain⟨a7W,a7X,a7Y⟩:=Kd.al da.out;subst a7Y
    go_wp2_with (first|((with_reducible refine ap (f:=32) rfl ?_);refine gL (some 34) rfl rfl Try.func32 (by kernel_rfl) rfl #[.slice a7W mj.length a7X,.int .i64 32] rfl ?_;(with_reducible refine(fo.calls k1 _ _ mj 32 true _ ?aE ?aG RB.out).mono ?_);(case aE=>exact bi da);(case aG=>exact(Kd.b9 da.out).2.1);rintro e ks ⟨rfl,hb⟩;refine⟨_,rfl, ?_⟩;replace da:=nr da hb;replace HB:=Ah (aJ (bs HB) hb);(try clear hb))|(go_at_call 52;(with_reducible refine(dl.calls k1 _ _ mj uN _ ?aE ?aG L5.out).mono ?_);(case aE=>exact bi da);(case aG=>exact(Kd.b9 da.out).2.1);rintro e AU ⟨rfl,hb⟩;replace da:=nr da hb;replace HB:=Ah (aJ (bs HB) hb);(try clear hb)))
    go_ret2
    exact⟨_,er,by first|exact Kd.cQ _ _ _ _ _|exact Kd.cY _ _ _ _ _|exact Kd.cZ _ _ _ _ _|exact Kd.cW _ _ _ _ _|exact Kd.cX _ _ _ _ _,bs HB⟩
   rw[if_pos c5]at H;have gz:decide ((I0 ((I0 (bd+8))+1))<(a0.size:Int))=true:=decide_eq_true c5;clear c5
   by_cases c6:0≤bd
   rotate_left
   ·
    rw[if_neg c6]at H;exact absurd H (by simp)
   rw[if_pos c6]at H;have hF:decide (0≤bd)=true:=decide_eq_true c6;clear c6
   by_cases c7:bd<(a0.size:Int)
   rotate_left
   ·
    rw[if_neg c7]at H;exact absurd H (by simp)
   rw[if_pos c7]at H;have lS:decide (bd<(a0.size:Int))=true:=decide_eq_true c7;clear c7;obtain⟨jy,Pp⟩:∃j_:Int,(I0 (bd+1))=j_:=⟨_,rfl⟩
   replace H:(if 0≤(jy)then(if(jy)≤(I0 ((jy)+8))then(if(I0 ((jy)+8))≤(a0.size:Int)then(if mj.length<5864062014805 then(eP.l0 k1 a0 (mj++[(⟨I0 (bt a0 bd),a0.extract ((jy):Int).toNat ((I0 ((jy)+8)):Int).toNat⟩:S64)]) (I0 (bd+9)))else(none))else(none))else(none))else(none))=some (r1,r2):=by first|(rw[Pp]at H;exact H)|(simp only[Pp]at H⊢;exact H)
   have hji9w:(IntKind.i64.wrap (bd+1))=jy:=(dD _).trans Pp
   by_cases c10:0≤(jy)
   rotate_left
   ·
    rw[if_neg c10]at H;exact absurd H (by simp)
   rw[if_pos c10]at H;have yM:=eq_true c10;have V7:decide (0≤(jy))=true:=decide_eq_true c10;clear c10
   by_cases c11:(jy)≤(I0 ((jy)+8))
   rotate_left
   ·
    rw[if_neg c11]at H;exact absurd H (by simp)
   rw[if_pos c11]at H;have yO:=eq_true c11;have c11b1:decide ((jy)≤(I0 ((jy)+8)))=true:=decide_eq_true c11
   by_cases c12:(I0 ((jy)+8))≤(a0.size:Int)
   rotate_left
   ·
    rw[if_neg c12]at H;exact absurd H (by simp)
   rw[if_pos c12]at H;have VF:=eq_true c12;have c12b1:decide ((I0 ((jy)+8))≤(a0.size:Int))=true:=decide_eq_true c12
   by_cases c13:mj.length<5864062014805
   rotate_left
   ·
    rw[if_neg c13]at H;exact absurd H (by simp)
   rw[if_pos c13]at H;have O8:=Ah c13;clear c13;obtain⟨XX,Ex⟩:∃y_:List (S64),y_=(mj++[(⟨I0 (bt a0 bd),a0.extract ((jy):Int).toNat ((I0 ((jy)+8)):Int).toNat⟩:S64)]):=⟨_,rfl⟩
   replace H:(eP.l0 k1 a0 XX (I0 (bd+9)))=some (r1,r2):=by first|(rw[Ex];with_reducible exact H)|(have ak:=(Ok _ _).symm.trans H;rw[Ex];with_reducible exact ak)|(have ak:=(Ok _ _).symm.trans H;with_reducible exact ak)|with_reducible exact H|(rw[Ex];exact H)|exact H
   have a4X:=Ah Ex;clear Ex;have H':=Ah H;clear H
   try go_wp2
   have aY:=Ah (Kd.aa da.out);have aX:=Ah (ia HB.out);clear da HB;have da:=aY;have HB:=aX;clear aY aX;have p8:0≤(bd:Int):=od;have q8:bd<(a0.size:Int):=od;have L1:=vF a0 bd;replace p8:=eq_true p8;replace q8:=eq_true q8;refine k9 (n:=16) (S:=fun w'=>True) (ds:=[]) #[false,false,false,false,false,false,false,false,false,false,false,false,false,false,false,false] (by kernel_rfl) rfl rfl trivial (fun hHeld=> ?_);refine kS eP.Po eP.O7 (fun aU dT=> ?_)
   generalize wr.drew=pp at da HB hHeld⊢
   refine b8 0 18 aU.out ?_;refine b8 1 19 aU.out ?_;refine b8 2 20 aU.out ?_;refine b8 5 23 aU.out ?_;refine b8 6 24 aU.out ?_;refine b8 7 25 aU.out ?_;refine b8 8 26 aU.out ?_;refine b8 9 27 aU.out ?_;refine b8 10 28 aU.out ?_;refine b8 11 29 aU.out ?_;refine yE (i:=3) (N:=some 21) (v:= ?_) (a':= ?_) #[true,true,true,true,false,true,true,true,true,true,true,true,false,false,false,false] rfl rfl (M3 aU.out dT.out (by kernel_rfl)) (fun _ _ _ h=>h) (Or.inl ⟨by rfl, ?_⟩) hHeld ?_ ?_;rotate_left
   ·
    intro w' _
    go_simp
    with_reducible rfl
   rotate_left
   ·
    simp only[aaa,JM,jG,kt,dD,dP]
    rfl
   refine b8 4 22 aU.out ?_;refine b8 12 30 aU.out ?_;refine e5 (i:=13) (N:=some 31) #[true,true,true,true,true,true,true,true,true,true,true,true,true,true,false,false] rfl rfl (dz aU.out (by kernel_rfl)) (by decide) (fun K hK=> ?_);refine BQ (w1:= ?_) (v:= ?_) (by rfl) rfl ?_ ?_;rotate_left 2
   ·
    go_simp
    constructor
    ·
     rfl
    ·
     rfl
   refine hK.out _ _ trivial (fun hHeld=> ?_);clear hK K;refine ej (a':= ?_) ?_ ?_;rotate_left
   ·
    show aaa _ (some 31) _=_
    simp only[aaa,JM,jG,kt,dD,dP]
    rfl
   refine e5 (i:=14) (N:=some 32) #[true,true,true,true,true,true,true,true,true,true,true,true,true,true,true,false] rfl rfl (dz aU.out (by kernel_rfl)) (by decide) (fun K hK=> ?_);refine Kd.Af bS (w0:=w) w.heap.size (by rfl) (.tmp 18) (.tmp 31) 24 64 (.agg #[(.int .i64 0),(.string ⟨#[]⟩)]) 24 rfl aaE pF rfl (by decide) (by omega) u4 mj (⟨I0 (bt a0 bd),a0.extract ((jy):Int).toNat ((I0 ((jy)+8)):Int).toNat⟩:S64) [.int .i64 (I0 (bt a0 bd)),.string (a0.extract ((jy):Int).toNat ((I0 ((jy)+8)):Int).toNat)] (fun _=>True) (fun _=>False) rfl rfl ?aP (fun _ hk=>hk.elim) ?aF ?aO ?aB ?aS ?aL ?_;(case aP=>exact xE _ _ _ (⟨I0 (bt a0 bd),a0.extract ((jy):Int).toNat ((I0 ((jy)+8)):Int).toNat⟩:S64));(case aB=>exact(bs HB));(case aF=>exact(fun _ _=>trivial));(case aO=>exact(rr da.out));(case aS=>exact(bJ (bs HB)));(case aL=>have:=O8.out;omega);intro v577 jw ho hb hg hat;rw[←a4X.out]at ho;have aY:=Ah (hb);have aX:=Ah (ho);clear HB da;have HB:=aY;have a4Y:=aX;clear aY aX ho hb hg hat;refine hK.out _ _ trivial (fun hHeld=> ?_);clear hK K;refine ej (a':= ?_) ?_ ?_;rotate_left
   ·
    show aaa _ (some 32) _=_
    simp only[aaa,JM,jG,kt,dD,dP]
    rfl
   refine b8 15 4 aU.out ?_;refine jp (k7 aU.out (by kernel_rfl)) ?_
   try go_wp2
   go_roundg k1
   case measure=>have:=bY.out;omega
   case rel=>exact⟨(XX),(I0 (bd+9)),e3,H',⟨by have:=bY.out;omega⟩,⟨rr a4Y.out⟩,⟨bs HB⟩⟩
def g7.l0:Nat→List (S64)→List ByteArray→Int→Int→Option ((List (S64)))
 |0,_,_,_,_=>none
 |k+1,x3,x9,it,gD=>if gD<it then(if 0≤gD then(if gD<(x9.length:Int)then((eP.f k (dL bA x9 gD)).bind fun Vd=>(if x3.length+Vd.1.length<5864062014805 then(g7.l0 k (x3++Vd.1) x9 it (I0 (gD+1)))else(none)))else(none))else(none))else(some x3)
def g7.f(k:Nat)(l0:List ByteArray):Option ((List (S64))):=g7.l0 k (([]:List (S64))) l0 (l0.length:Int) 0
theorem g7.bg:∀k,(∀y0 y1 y2 y3,a8 (g7.l0 k y0 y1 y2 y3) (g7.l0 (k+1) y0 y1 y2 y3))
 |0=>fun _ _ _ _ r h=>by simp[g7.l0]at h
 |k+1=>by
  have bB:=g7.bg k
  ·
   intro y0 y1 y2 y3;unfold g7.l0
   repeat' with_reducible first|exact bB _ _ _ _|exact eP.mono _ _|exact a8.refl _|exact a8.none _|refine a8.ite ?_ ?_|refine a8.bind ?_ (fun _=> ?_)
theorem g7.mono:∀a0 k,a8 (g7.f k a0) (g7.f (k+1) a0):=by
 intro a0 k;have bB:=g7.bg k;unfold g7.f
 repeat' with_reducible first|exact bB _ _ _ _|exact eP.mono _ _|exact a8.refl _|exact a8.none _|refine a8.ite ?_ ?_|refine a8.bind ?_ (fun _=> ?_)
set_option maxHeartbeats 8000000 in
set_option maxRecDepth 100000 in
theorem g7.calls(k:Nat)(A0:Option Addr)(c0:Nat)(l0:List ByteArray)(r:List (S64))(w:World)(hr0:Kd.C Kd.string w A0 l0.length l0)(hc0:l0.length≤c0)(h:g7.f k l0=some r):
 Calls t5 26 #[.slice A0 l0.length c0] w fun e w'=>∃bh:Value,e= .returned (bh)∧Kd.R bS 64 w' w.heap.size (fun _=>True) bh r∧Below w.heap.size w w':=by
 have d8:=Ah hr0;have gV:=Ah hc0;clear hr0 hc0;have HB:=Ah (pv w.heap.size w);have H:(g7.l0 k (([]:List (S64))) l0 (l0.length:Int) 0)=some r:=h;clear h;obtain⟨XY,Ey⟩:∃y_:List (S64),y_=(([]:List (S64))):=⟨_,rfl⟩
 replace H:(g7.l0 k XY l0 (l0.length:Int) 0)=some r:=by first|(rw[Ey];with_reducible exact H)|(have ak:=(Ok _ _).symm.trans H;rw[Ey];with_reducible exact ak)|(have ak:=(Ok _ _).symm.trans H;with_reducible exact ak)|with_reducible exact H|(rw[Ey];exact H)|exact H
 have Ve:=Ah Ey;clear Ey;have H':=Ah H;clear H
 go_enter Try.func26,Try.ntmps26
 go_wp2_with (first|((with_reducible refine ao (N:=8) rfl ?_);refine Kd.oC bS _ 64 ?hg (N:=8) ?hd (xs:=([]:List (S64))) (inner:=[]) (ok:=fun _=>True) (okp:=fun _=>True) ?hr ?hp (fun _ hk=>hk) trivial (pv _ _) (mz _) (by simp) ?_;(case hd=>rfl);(case hg=>rfl);(case hr=>first|(go_simp;done)|(go_simp;rfl));(case hp=>exact(bv.none _ _));intro v582 w2 ho3 hb gf gX;clear gf gX;(first|rw[←Ve.out]at ho3|(simp only[Int.reduceToNat]at ho3;rw[←Ve.out]at ho3));have a4Z:=Ah (Kd.bD ho3 (bJ (bs HB)));replace HB:=Ah (aJ (bs HB) hb);clear hb ho3))
 go_loopg [3,11] k (fun kq v3 v11 w'=>∃ (dy:List (S64)) (cA:Int),v11= .int .i64 cA∧aC (g7.l0 kq dy l0 (l0.length:Int) cA=some r)∧aC (kq≤k)∧aC (Kd.R bS 64 w' w.heap.size (fun _=>True) v3 dy)∧aC (Below w.heap.size w w'))
 case atStart=>exact⟨(XY),(0),e3,H',⟨mz _⟩,⟨rr a4Z.out⟩,⟨bs HB⟩⟩
 case round=>
  clear H'
  try clear c2
  try clear p2
  obtain⟨dy,cA,rfl,HA,bY,jB,HB⟩:=hrel
  cases gk with
  |zero=>exact absurd HA.out (by simp[g7.l0])
  |succ k1=>
   have H:=HA.out;clear HA;simp only[g7.l0]at H
   by_cases c4:cA<(l0.length:Int)
   rotate_left
   ·
    rw[if_neg c4]at H;have fa:decide (cA<(l0.length:Int))=false:=decide_eq_false c4;clear c4;obtain rfl:=fl H
    go_wp2
    go_ret
    exact⟨_,er,by(with_reducible repeat(first|apply Kd.aw|apply Kd.ax|apply Kd.aa));exact jB.out,bs HB⟩
   rw[if_pos c4]at H;have fa:decide (cA<(l0.length:Int))=true:=decide_eq_true c4;clear c4
   by_cases c5:0≤cA
   rotate_left
   ·
    rw[if_neg c5]at H;exact absurd H (by simp)
   rw[if_pos c5]at H;have gz:decide (0≤cA)=true:=decide_eq_true c5;clear c5
   by_cases c6:cA<(l0.length:Int)
   rotate_left
   ·
    rw[if_neg c6]at H;exact absurd H (by simp)
   rw[if_pos c6]at H;have hF:decide (cA<(l0.length:Int))=true:=decide_eq_true c6;clear c6;replace H:=He.mp H;obtain⟨⟨Gl,a7Z⟩,jx,H⟩:=H
   try dsimp only at H
   have A7:=Ah jx;clear jx
   by_cases c8:dy.length+Gl.length<5864062014805
   rotate_left
   ·
    rw[if_neg c8]at H;exact absurd H (by simp)
   rw[if_pos c8]at H;have Pl:=Ah c8;clear c8;obtain⟨XZ,Ez⟩:∃y_:List (S64),y_=(dy++Gl):=⟨_,rfl⟩
   replace H:(g7.l0 k1 XZ l0 (l0.length:Int) (I0 (cA+1)))=some r:=by first|(rw[Ez];with_reducible exact H)|(have ak:=(Ok _ _).symm.trans H;rw[Ez];with_reducible exact ak)|(have ak:=(Ok _ _).symm.trans H;with_reducible exact ak)|with_reducible exact H|(rw[Ez];exact H)|exact H
   have a40:=Ah Ez;clear Ez;have H':=Ah H;clear H;have Pq:0≤(cA:Int):=od;have Pr:cA<(l0.length:Int):=od;obtain⟨ad584,a70,N4⟩:=Kd.lH d8.out cA Pq Pr
   cases a70
   replace N4:=(HB.out.cell (I1 w _ N4)).trans N4;replace Pq:=eq_true Pq;replace Pr:=eq_true Pr
   go_wp2_with (first|((with_reducible refine ap (f:=31) rfl ?_);refine gL (some 17) rfl rfl Try.func31 (by kernel_rfl) rfl #[.string (dL bA l0 cA)] rfl ?_;(with_reducible refine(eP.calls k1 (dL bA l0 cA) Gl a7Z _ A7.out).mono ?_);rintro e w9 ⟨v587,rfl,ho0,hb⟩;refine⟨_,rfl, ?_⟩;have F0:=Ah (Kd.bD (Kd.av ho0 (Kd.an (rr jB.out))) (bJ (bs HB)));replace jB:=Ah (Kd.cV (rr jB.out) (Kd.ar ho0) hb);replace HB:=Ah (aJ (bs HB) hb);(try clear hb ho0);obtain⟨eB,eC,uH⟩:=Kd.al F0.out;subst uH)|((with_reducible refine mO (b:= .append) (xs:= #[.tmp 20,.tmp 21]) rfl ?_);at_builtin;refine Kd.wg bS (w0:=w) w.heap.size rfl (.tmp 20) (.tmp 21) 24 64 (.agg #[(.int .i64 0),(.string ⟨#[]⟩)]) 24 rfl aaE pF rfl (by decide) (by omega) u3 dy Gl _ _ _ (fun k_=>some k_≠(.slice eB Gl.length eC:Value).ownBlock) (fun _=>False) rfl rfl ?aO ?aR (fun _ _ h=>h) (fun _ h=>h.elim) ?aF ?aB ?aS ?aL ?_;(case aR=>exact bi F0);(case aB=>exact(bs HB));(case aF=>exact(fun k_ hk=>Kd.fresh' (Kd.an (rr F0.out)) k_ hk));(case aO=>exact(by(with_reducible repeat(first|apply Kd.aw|apply Kd.ax|apply Kd.aa));exact Kd.aK jB.out (fun _ hk=>hk.2)));(case aS=>exact(bJ (bs HB)));(case aL=>have:=Pl.out;omega);intro v590 pq ho hb hg hat;rw[←a40.out]at ho;replace F0:=Ah (Kd.un (ok:=(fun _=>True)) (rr F0.out) hg hat);replace HB:=Ah (hb);have a41:=Ah (ho);clear jB;clear ho hb hg hat))
   go_roundg k1
   case measure=>have:=bY.out;omega
   case rel=>exact⟨(XZ),(I0 (cA+1)),e3,H',⟨by have:=bY.out;omega⟩,rm a41 (fun _ hk=>trivial),⟨bs HB⟩⟩
def Cx.f(a0:ByteArray):Option (Bool):=some ((a0.size:Int) !=8)
set_option maxHeartbeats 8000000 in
set_option maxRecDepth 100000 in
theorem Cx.calls(a0:ByteArray)(r:Bool)(w:World)(h:Cx.f a0=some r):
 Calls t5 50 #[.string a0] w fun e w'=>e= .returned (.bool r)∧cx w w':=by
 have H:(some ((a0.size:Int) !=8))=some r:=h;clear h;obtain rfl:=fl H
 go_enter Try.func50,Try.ntmps50
 go_wp2
 go_ret
 exact⟨by first|rfl|(simp;done)|(simp[*];done),by repeat(first|exact cx.refl _|apply cx.step)⟩
def hG.l0:Nat→List ByteArray→Int→Int→Option (Int)
 |0,_,_,_=>none
 |k+1,x0,x7,x8=>if x8<x7 then(if 0≤x8 then(if x8<(x0.length:Int)then((Cx.f (dL bA x0 x8)).bind fun Ps=>(if Ps=true then(some x8)else(hG.l0 k x0 x7 (I0 (x8+1)))))else(none))else(none))else(some (-1))
def hG.f(k:Nat)(l0:List ByteArray):Option (Int):=hG.l0 k l0 (l0.length:Int) 0
theorem hG.bg:∀k,(∀y0 y1 y2,a8 (hG.l0 k y0 y1 y2) (hG.l0 (k+1) y0 y1 y2))
 |0=>fun _ _ _ r h=>by simp[hG.l0]at h
 |k+1=>by
  have bB:=hG.bg k
  ·
   intro y0 y1 y2;unfold hG.l0
   repeat' with_reducible first|exact bB _ _ _|exact a8.refl _|exact a8.none _|refine a8.ite ?_ ?_|refine a8.bind ?_ (fun _=> ?_)
theorem hG.mono:∀a0 k,a8 (hG.f k a0) (hG.f (k+1) a0):=by
 intro a0 k;have bB:=hG.bg k;unfold hG.f
 repeat' with_reducible first|exact bB _ _ _|exact a8.refl _|exact a8.none _|refine a8.ite ?_ ?_|refine a8.bind ?_ (fun _=> ?_)
set_option maxHeartbeats 8000000 in
set_option maxRecDepth 100000 in
theorem hG.calls(k:Nat)(A0:Option Addr)(c0:Nat)(l0:List ByteArray)(r:Int)(w:World)(hr0:Kd.C Kd.string w A0 l0.length l0)(hc0:l0.length≤c0)(h:hG.f k l0=some r):
 Calls t5 65 #[.slice A0 l0.length c0,.func (.func 50) #[] #[]] w fun e w'=>e= .returned (.int .i64 r)∧Below w.heap.size w w':=by
 have d8:=Ah hr0;have gV:=Ah hc0;clear hr0 hc0;have HB:=Ah (pv w.heap.size w);have H:(hG.l0 k l0 (l0.length:Int) 0)=some r:=h;clear h;have H':=Ah H;clear H
 go_enter Try.func65,Try.ntmps65
 go_wp2
 go_loopg [8] k (fun kq v8 w'=>∃ (au:Int),v8= .int .i64 au∧aC (hG.l0 kq l0 (l0.length:Int) au=some r)∧aC (kq≤k)∧aC (Below w.heap.size w w'))
 case atStart=>exact⟨(0),e3,H',⟨mz _⟩,⟨bs HB⟩⟩
 case round=>
  clear H'
  try clear p2
  obtain⟨au,rfl,HA,bY,HB⟩:=hrel
  cases gk with
  |zero=>exact absurd HA.out (by simp[hG.l0])
  |succ k1=>
   have H:=HA.out;clear HA;simp only[hG.l0]at H
   by_cases c3:au<(l0.length:Int)
   rotate_left
   ·
    rw[if_neg c3]at H;have eb:decide (au<(l0.length:Int))=false:=decide_eq_false c3;clear c3;obtain rfl:=fl H
    go_wp2
    go_ret
    exact⟨er,bs HB⟩
   rw[if_pos c3]at H;have eb:decide (au<(l0.length:Int))=true:=decide_eq_true c3;clear c3
   by_cases c4:0≤au
   rotate_left
   ·
    rw[if_neg c4]at H;exact absurd H (by simp)
   rw[if_pos c4]at H;have fa:decide (0≤au)=true:=decide_eq_true c4;clear c4
   by_cases c5:au<(l0.length:Int)
   rotate_left
   ·
    rw[if_neg c5]at H;exact absurd H (by simp)
   rw[if_pos c5]at H;have gz:decide (au<(l0.length:Int))=true:=decide_eq_true c5;clear c5;replace H:=He.mp H;obtain⟨Ps,e9,H⟩:=H
   try dsimp only at H
   have A6:=Ah e9;clear e9
   by_cases c7:Ps=true
   ·
    subst c7;rw[if_pos rfl]at H;obtain rfl:=fl H;have zX:0≤(au:Int):=od;have zY:au<(l0.length:Int):=od;obtain⟨a42,Pt,xc⟩:=Kd.lH d8.out au zX zY
    cases Pt
    replace xc:=(HB.out.cell (I1 w _ xc)).trans xc;replace zX:=eq_true zX;replace zY:=eq_true zY
    go_wp2_with (first|((with_reducible refine qA (t:=11) rfl ?_);refine qL (some 16) rfl rfl Try.func50 (by kernel_rfl) rfl #[.string (dL bA l0 au)] rfl rfl (by(try simp only[aab,aad,aaf]);first|done|rfl|(simp only[qh,bx];rfl)) ?_;(with_reducible refine(Cx.calls (dL bA l0 au) true _ A6.out).mono ?_);rintro e w' ⟨rfl,⟨nd,rfl⟩⟩;refine⟨_,rfl, ?_⟩))
    go_ret
    exact⟨er,bs HB⟩
   replace c7:=dW.mpr c7;subst c7;rw[if_neg cg]at H;have H':=Ah H;clear H;have zX:0≤(au:Int):=od;have zY:au<(l0.length:Int):=od;obtain⟨a42,Pt,xc⟩:=Kd.lH d8.out au zX zY
   cases Pt
   replace xc:=(HB.out.cell (I1 w _ xc)).trans xc;replace zX:=eq_true zX;replace zY:=eq_true zY
   go_wp2_with (first|((with_reducible refine qA (t:=11) rfl ?_);refine qL (some 16) rfl rfl Try.func50 (by kernel_rfl) rfl #[.string (dL bA l0 au)] rfl rfl (by(try simp only[aab,aad,aaf]);first|done|rfl|(simp only[qh,bx];rfl)) ?_;(with_reducible refine(Cx.calls (dL bA l0 au) false _ A6.out).mono ?_);rintro e w' ⟨rfl,⟨nd,rfl⟩⟩;refine⟨_,rfl, ?_⟩))
   go_roundg k1
   case measure=>have:=bY.out;omega
   case rel=>exact⟨(I0 (au+1)),e3,H',⟨by have:=bY.out;omega⟩,⟨bs HB⟩⟩
def pw.f(k:Nat)(l0:List ByteArray):Option (Bool):=(hG.f k l0).bind fun rt=>(some (decide (rt≥0)))
theorem pw.mono:∀a0 k,a8 (pw.f k a0) (pw.f (k+1) a0):=by
 intro a0 k;unfold pw.f
 repeat' with_reducible first|exact hG.mono _ _|exact a8.refl _|exact a8.none _|refine a8.ite ?_ ?_|refine a8.bind ?_ (fun _=> ?_)
set_option maxHeartbeats 8000000 in
set_option maxRecDepth 100000 in
theorem pw.calls(k:Nat)(A0:Option Addr)(c0:Nat)(l0:List ByteArray)(r:Bool)(w:World)(hr0:Kd.C Kd.string w A0 l0.length l0)(hc0:l0.length≤c0)(h:pw.f k l0=some r):
 Calls t5 49 #[.slice A0 l0.length c0,.func (.func 50) #[] #[]] w fun e w'=>e= .returned (.bool r)∧Below w.heap.size w w':=by
 have d8:=Ah hr0;have gV:=Ah hc0;clear hr0 hc0;have HB:=Ah (pv w.heap.size w);have H:((hG.f k l0).bind fun rt=>(some (decide (rt≥0))))=some r:=h;clear h;replace H:=He.mp H;obtain⟨rt,de,H⟩:=H
 try dsimp only at H
 have A3:=Ah de;clear de;obtain rfl:=fl H
 go_enter Try.func49,Try.ntmps49
 go_wp2_with (first|((with_reducible refine ap (f:=65) rfl ?_);refine gL (some 7) rfl rfl Try.func65 (by kernel_rfl) rfl #[.slice A0 l0.length c0,.func (.func 50) #[] #[]] rfl ?_;(with_reducible refine(hG.calls k _ _ l0 rt _ ?aE ?aG A3.out).mono ?_);(case aE=>repeat(first|exact d8.out|(with_reducible refine Kd.jg ?_ _)|(with_reducible refine Kd.jh ?_ _)|(with_reducible refine Kd.jo ?_)));(case aG=>exact gV.out);rintro e w4 ⟨rfl,hb⟩;refine⟨_,rfl, ?_⟩;replace HB:=Ah (aJ (bs HB) hb);(try clear hb)))
 go_ret
 exact⟨er,bs HB⟩
def we.f(fk:Int)(iO:ByteArray)(bC:List ByteArray)(dx:List (S64)):Option (Bool):=(jH.f fk 0 (I0 ((bC.length:Int)-1))).bind fun rt=>(if rt=true then(some ((iO.size:Int) !=8))else(some true))
set_option maxHeartbeats 8000000 in
set_option maxRecDepth 100000 in
theorem we.calls(fk:Int)(iO:ByteArray)(bW:Nat)(co:Option Addr)(cp:Nat)(bC:List ByteArray)(i7:Option Addr)(i8:Nat)(dx:List (S64))(r:Bool)(w:World)(ix:Kd.C Kd.string w co bC.length bC)(iy:bC.length≤cp)(rA:Kd.C bS w i7 dx.length dx)(rB:dx.length≤i8)(g9:w.heap[bW]?=some (.cells #[.slice co bC.length cp,.slice i7 dx.length i8] 26 (0,0)))(h:we.f fk iO bC dx=some r):
 Calls t5 51 #[.agg #[.int .i64 fk,.string iO],.pointer (some ⟨bW,0,none⟩)] w fun e w'=>e= .returned (.bool r)∧Below w.heap.size w w':=by
 have hu64:=aah;have kz:=Ah ix;have lL:=Ah iy;clear ix iy;have yG:=Ah rA;have yH:=Ah rB;clear rA rB;have oE:=Ah g9;clear g9;have HB:=Ah (pv w.heap.size w);have H:((jH.f fk 0 (I0 ((bC.length:Int)-1))).bind fun rt=>(if rt=true then(some ((iO.size:Int) !=8))else(some true)))=some r:=h;clear h;replace H:=He.mp H;obtain⟨rt,de,H⟩:=H
 try dsimp only at H
 have A3:=Ah de;clear de
 by_cases c4:rt=true
 ·
  subst c4;rw[if_pos rfl]at H;obtain rfl:=fl H
  go_enter Try.func51,Try.ntmps51
  go_wp2_with (first|((with_reducible refine ao (N:=2) rfl ?_);(try(refine dM (by rfl) ?_;dsimp only));refine az 2 64 #[.int .i64 fk,.string iO] ?_;intro F1 hg w5 F2 hb;have a43:=gw hg (bs HB);have O9:=gw hg (bs HB);replace HB:=Ah (aJ (bs HB) hb);have Lb:=Ah ((by rw[hg];exact aam (gR (g:=bW) (o:= .cells #[.slice co bC.length cp,.slice i7 dx.length i8] 26 (0,0)) (bk oE)):bW≠F1));have Lc:=Ah ((by rw[hg];exact aao (gR (g:=bW) (o:= .cells #[.slice co bC.length cp,.slice i7 dx.length i8] 26 (0,0)) (bk oE)):F1≠bW));replace oE:=Ah (dF (g:=bW) (o:= .cells #[.slice co bC.length cp,.slice i7 dx.length i8] 26 (0,0)) (bk oE) hb);clear hb hg;have Xa:=Lc.out;have Xb:=Lb.out;obtain⟨nD,nE⟩:=bN F2;obtain⟨nF,nG⟩:=bI F2;have qN:w5.cell? ⟨bW,0,none⟩=some (.slice co bC.length cp):=(aQ oE.out 0).trans rfl;have qO:w5.cell? ⟨bW,1,none⟩=some (.slice i7 dx.length i8):=(aQ oE.out 1).trans rfl;obtain⟨r8,qP⟩:=bI oE)|((with_reducible refine ap (f:=17) rfl ?_);refine gL (some 10) rfl rfl aba (by kernel_rfl) rfl #[.int .i64 fk,.int .i64 0,.int .i64 (I0 ((bC.length:Int)-1))] rfl ?_;(with_reducible refine(jH.calls fk 0 (I0 ((bC.length:Int)-1)) true _ A3.out).mono ?_);rintro e w' ⟨rfl,⟨nd,rfl⟩⟩;refine⟨_,rfl, ?_⟩))
  go_ret
  exact⟨er,aM HB O9⟩
 replace c4:=dW.mpr c4;subst c4;rw[if_neg cg]at H;obtain rfl:=fl H
 go_enter Try.func51,Try.ntmps51
 go_wp2_with (first|((with_reducible refine ao (N:=2) rfl ?_);(try(refine dM (by rfl) ?_;dsimp only));refine az 2 64 #[.int .i64 fk,.string iO] ?_;intro F1 hg w9 F2 hb;have a43:=gw hg (bs HB);have O9:=gw hg (bs HB);replace HB:=Ah (aJ (bs HB) hb);have Lb:=Ah ((by rw[hg];exact aam (gR (g:=bW) (o:= .cells #[.slice co bC.length cp,.slice i7 dx.length i8] 26 (0,0)) (bk oE)):bW≠F1));have Lc:=Ah ((by rw[hg];exact aao (gR (g:=bW) (o:= .cells #[.slice co bC.length cp,.slice i7 dx.length i8] 26 (0,0)) (bk oE)):F1≠bW));replace oE:=Ah (dF (g:=bW) (o:= .cells #[.slice co bC.length cp,.slice i7 dx.length i8] 26 (0,0)) (bk oE) hb);clear hb hg;have F3:=Lc.out;have F4:=Lb.out;obtain⟨jj,jk⟩:=bN F2;obtain⟨jl,jm⟩:=bI F2;have tS:w9.cell? ⟨bW,0,none⟩=some (.slice co bC.length cp):=(aQ oE.out 0).trans rfl;have tT:w9.cell? ⟨bW,1,none⟩=some (.slice i7 dx.length i8):=(aQ oE.out 1).trans rfl;obtain⟨sQ,sR⟩:=bI oE)|((with_reducible refine ap (f:=17) rfl ?_);refine gL (some 10) rfl rfl aba (by kernel_rfl) rfl #[.int .i64 fk,.int .i64 0,.int .i64 (I0 ((bC.length:Int)-1))] rfl ?_;(with_reducible refine(jH.calls fk 0 (I0 ((bC.length:Int)-1)) false _ A3.out).mono ?_);rintro e w' ⟨rfl,⟨nd,rfl⟩⟩;refine⟨_,rfl, ?_⟩))
 go_ret
 exact⟨er,aM HB O9⟩
def hH.l0:Nat→List (S64)→Int→Int→List ByteArray→List (S64)→Option (Int)
 |0,_,_,_,_,_=>none
 |k+1,x0,x7,x8,Tj,Tk=>if x8<x7 then(if 0≤x8 then(if x8<(x0.length:Int)then((we.f ((aH x0 x8).f0) ((aH x0 x8).f1) Tj Tk).bind fun Pu=>(if Pu=true then(some x8)else(hH.l0 k x0 x7 (I0 (x8+1)) Tj Tk)))else(none))else(none))else(some (-1))
def hH.f(k:Nat)(l0:List (S64))(bC:List ByteArray)(dx:List (S64)):Option (Int):=hH.l0 k l0 (l0.length:Int) 0 bC dx
theorem hH.bg:∀k,(∀y0 y1 y2 y3 y4,a8 (hH.l0 k y0 y1 y2 y3 y4) (hH.l0 (k+1) y0 y1 y2 y3 y4))
 |0=>fun _ _ _ _ _ r h=>by simp[hH.l0]at h
 |k+1=>by
  have bB:=hH.bg k
  ·
   intro y0 y1 y2 y3 y4;unfold hH.l0
   repeat' with_reducible first|exact bB _ _ _ _ _|exact a8.refl _|exact a8.none _|refine a8.ite ?_ ?_|refine a8.bind ?_ (fun _=> ?_)
theorem hH.mono:∀a0 a1 a2 k,a8 (hH.f k a0 a1 a2) (hH.f (k+1) a0 a1 a2):=by
 intro a0 a1 a2 k;have bB:=hH.bg k;unfold hH.f
 repeat' with_reducible first|exact bB _ _ _ _ _|exact a8.refl _|exact a8.none _|refine a8.ite ?_ ?_|refine a8.bind ?_ (fun _=> ?_)
set_option maxHeartbeats 8000000 in
set_option maxRecDepth 100000 in
theorem hH.calls(k:Nat)(A0:Option Addr)(c0:Nat)(l0:List (S64))(bW:Nat)(co:Option Addr)(cp:Nat)(bC:List ByteArray)(i7:Option Addr)(i8:Nat)(dx:List (S64))(r:Int)(w:World)(hr0:Kd.C bS w A0 l0.length l0)(hc0:l0.length≤c0)(ix:Kd.C Kd.string w co bC.length bC)(iy:bC.length≤cp)(rA:Kd.C bS w i7 dx.length dx)(rB:dx.length≤i8)(g9:w.heap[bW]?=some (.cells #[.slice co bC.length cp,.slice i7 dx.length i8] 26 (0,0)))(h:hH.f k l0 bC dx=some r):
 Calls t5 54 #[.slice A0 l0.length c0,.func (.func 51) #[] #[.pointer (some ⟨bW,0,none⟩)]] w fun e w'=>e= .returned (.int .i64 r)∧Below w.heap.size w w':=by
 have hu64:=aah;have d8:=Ah hr0;have gV:=Ah hc0;clear hr0 hc0;have kz:=Ah ix;have lL:=Ah iy;clear ix iy;have yG:=Ah rA;have yH:=Ah rB;clear rA rB;have tp:=Ah g9;clear g9;have HB:=Ah (pv w.heap.size w);have H:(hH.l0 k l0 (l0.length:Int) 0 bC dx)=some r:=h;clear h;have H':=Ah H;clear H
 go_enter Try.func54,Try.ntmps54
 go_wp2
 go_loopg [8] k (fun kq v8 w'=>∃ (au:Int),v8= .int .i64 au∧aC (hH.l0 kq l0 (l0.length:Int) au bC dx=some r)∧aC (kq≤k)∧aC (w'.heap[bW]?=some (.cells #[(.slice co bC.length cp),(.slice i7 dx.length i8)] 26 (0,0)))∧aC (Below w.heap.size w w'))
 case atStart=>exact⟨(0),e3,H',⟨mz _⟩,⟨bk tp⟩,⟨bs HB⟩⟩
 case round=>
  clear H'
  try clear c1
  try clear hx1
  try clear p2
  try clear g9
  obtain⟨au,rfl,HA,bY,tp,HB⟩:=hrel
  cases gk with
  |zero=>exact absurd HA.out (by simp[hH.l0])
  |succ k1=>
   have H:=HA.out;clear HA;simp only[hH.l0]at H
   by_cases c3:au<(l0.length:Int)
   rotate_left
   ·
    rw[if_neg c3]at H;have eb:decide (au<(l0.length:Int))=false:=decide_eq_false c3;clear c3;obtain rfl:=fl H
    go_wp2
    go_ret
    exact⟨er,bs HB⟩
   rw[if_pos c3]at H;have eb:decide (au<(l0.length:Int))=true:=decide_eq_true c3;clear c3
   by_cases c4:0≤au
   rotate_left
   ·
    rw[if_neg c4]at H;exact absurd H (by simp)
   rw[if_pos c4]at H;have fa:decide (0≤au)=true:=decide_eq_true c4;clear c4
   by_cases c5:au<(l0.length:Int)
   rotate_left
   ·
    rw[if_neg c5]at H;exact absurd H (by simp)
   rw[if_pos c5]at H;have gz:decide (au<(l0.length:Int))=true:=decide_eq_true c5;clear c5;replace H:=He.mp H;obtain⟨Pu,e9,H⟩:=H
   try dsimp only at H
   have A6:=Ah e9;clear e9
   by_cases c7:Pu=true
   ·
    subst c7;rw[if_pos rfl]at H;obtain rfl:=fl H;have zZ:0≤(au:Int):=od;have za:au<(l0.length:Int):=od;obtain⟨a44,Pv,xd,xe⟩:=g8 d8.out au zZ za
    cases Pv
    replace xd:=(HB.out.cell (I1 w _ xd)).trans xd;replace xe:=(HB.out.cell (I1 w _ xe)).trans xe;replace zZ:=eq_true zZ;replace za:=eq_true za
    go_wp2_with (first|((with_reducible refine qA (t:=11) rfl ?_);refine qL (some 16) rfl rfl Try.func51 (by kernel_rfl) rfl #[.agg #[.int .i64 ((aH l0 au).f0),.string ((aH l0 au).f1)],.pointer (some ⟨bW,0,none⟩)] rfl rfl (by(try simp only[aab,aad,aaf]);first|done|rfl|(simp only[qh,bx];rfl)) ?_;(with_reducible refine(we.calls ((aH l0 au).f0) ((aH l0 au).f1) bW co cp bC i7 i8 dx true _ ?aE ?aG ?aZ ?ab ?bT A6.out).mono ?_);(case aE=>exact cb kz HB);(case aG=>exact lL.out);(case aZ=>exact cb yG HB);(case ab=>exact yH.out);(case bT=>(with_reducible repeat(first|refine a9 ?_ _|refine U ?_|refine Z ?_ _));exact tp.out);rintro e w8 ⟨rfl,hb⟩;refine⟨_,rfl, ?_⟩;replace tp:=Ah (dF (g:=bW) (o:= .cells #[.slice co bC.length cp,.slice i7 dx.length i8] 26 (0,0)) (bk tp) hb);replace HB:=Ah (aJ (bs HB) hb);(try clear hb)))
    go_ret
    exact⟨er,bs HB⟩
   replace c7:=dW.mpr c7;subst c7;rw[if_neg cg]at H;have H':=Ah H;clear H;have zZ:0≤(au:Int):=od;have za:au<(l0.length:Int):=od;obtain⟨a44,Pv,xd,xe⟩:=g8 d8.out au zZ za
   cases Pv
   replace xd:=(HB.out.cell (I1 w _ xd)).trans xd;replace xe:=(HB.out.cell (I1 w _ xe)).trans xe;replace zZ:=eq_true zZ;replace za:=eq_true za
   go_wp2_with (first|((with_reducible refine qA (t:=11) rfl ?_);refine qL (some 16) rfl rfl Try.func51 (by kernel_rfl) rfl #[.agg #[.int .i64 ((aH l0 au).f0),.string ((aH l0 au).f1)],.pointer (some ⟨bW,0,none⟩)] rfl rfl (by(try simp only[aab,aad,aaf]);first|done|rfl|(simp only[qh,bx];rfl)) ?_;(with_reducible refine(we.calls ((aH l0 au).f0) ((aH l0 au).f1) bW co cp bC i7 i8 dx false _ ?aE ?aG ?aZ ?ab ?bT A6.out).mono ?_);(case aE=>exact cb kz HB);(case aG=>exact lL.out);(case aZ=>exact cb yG HB);(case ab=>exact yH.out);(case bT=>(with_reducible repeat(first|refine a9 ?_ _|refine U ?_|refine Z ?_ _));exact tp.out);rintro e w9 ⟨rfl,hb⟩;refine⟨_,rfl, ?_⟩;replace tp:=Ah (dF (g:=bW) (o:= .cells #[.slice co bC.length cp,.slice i7 dx.length i8] 26 (0,0)) (bk tp) hb);replace HB:=Ah (aJ (bs HB) hb);(try clear hb)))
   go_roundg k1
   case measure=>have:=bY.out;omega
   case rel=>exact⟨(I0 (au+1)),e3,H',⟨by have:=bY.out;omega⟩,⟨bk tp⟩,⟨bs HB⟩⟩
def qi.f(k:Nat)(l0:List (S64))(bC:List ByteArray)(dx:List (S64)):Option (Bool):=(hH.f k l0 bC dx).bind fun Gm=>(some (decide (Gm≥0)))
theorem qi.mono:∀a0 a1 a2 k,a8 (qi.f k a0 a1 a2) (qi.f (k+1) a0 a1 a2):=by
 intro a0 a1 a2 k;unfold qi.f
 repeat' with_reducible first|exact hH.mono _ _ _ _|exact a8.refl _|exact a8.none _|refine a8.ite ?_ ?_|refine a8.bind ?_ (fun _=> ?_)
set_option maxHeartbeats 8000000 in
set_option maxRecDepth 100000 in
theorem qi.calls(k:Nat)(A0:Option Addr)(c0:Nat)(l0:List (S64))(bW:Nat)(co:Option Addr)(cp:Nat)(bC:List ByteArray)(i7:Option Addr)(i8:Nat)(dx:List (S64))(r:Bool)(w:World)(hr0:Kd.C bS w A0 l0.length l0)(hc0:l0.length≤c0)(ix:Kd.C Kd.string w co bC.length bC)(iy:bC.length≤cp)(rA:Kd.C bS w i7 dx.length dx)(rB:dx.length≤i8)(g9:w.heap[bW]?=some (.cells #[.slice co bC.length cp,.slice i7 dx.length i8] 26 (0,0)))(h:qi.f k l0 bC dx=some r):
 Calls t5 33 #[.slice A0 l0.length c0,.func (.func 51) #[] #[.pointer (some ⟨bW,0,none⟩)]] w fun e w'=>e= .returned (.bool r)∧Below w.heap.size w w':=by
 have d8:=Ah hr0;have gV:=Ah hc0;clear hr0 hc0;have kz:=Ah ix;have lL:=Ah iy;clear ix iy;have yG:=Ah rA;have yH:=Ah rB;clear rA rB;have OA:=Ah g9;clear g9;have HB:=Ah (pv w.heap.size w);have H:((hH.f k l0 bC dx).bind fun Gm=>(some (decide (Gm≥0))))=some r:=h;clear h;replace H:=He.mp H;obtain⟨Gm,de,H⟩:=H
 try dsimp only at H
 have A3:=Ah de;clear de;obtain rfl:=fl H
 go_enter Try.func33,Try.ntmps33
 go_wp2_with (first|((with_reducible refine ap (f:=54) rfl ?_);refine gL (some 7) rfl rfl Try.func54 (by kernel_rfl) rfl #[.slice A0 l0.length c0,.func (.func 51) #[] #[.pointer (some ⟨bW,0,none⟩)]] rfl ?_;(with_reducible refine(hH.calls k _ _ l0 bW co cp bC i7 i8 dx Gm _ ?aE ?aG ?aZ ?ab ?bT ?bc ?jq A3.out).mono ?_);(case aE=>repeat(first|exact d8.out|(with_reducible refine Kd.jg ?_ _)|(with_reducible refine Kd.jh ?_ _)|(with_reducible refine Kd.jo ?_)));(case aG=>exact gV.out);(case aZ=>repeat(first|exact kz.out|(with_reducible refine Kd.jg ?_ _)|(with_reducible refine Kd.jh ?_ _)|(with_reducible refine Kd.jo ?_)));(case ab=>exact lL.out);(case bT=>repeat(first|exact yG.out|(with_reducible refine Kd.jg ?_ _)|(with_reducible refine Kd.jh ?_ _)|(with_reducible refine Kd.jo ?_)));(case bc=>exact yH.out);(case jq=>(with_reducible repeat(first|refine a9 ?_ _|refine U ?_|refine Z ?_ _));exact OA.out);rintro e w4 ⟨rfl,hb⟩;refine⟨_,rfl, ?_⟩;replace OA:=Ah (dF (g:=bW) (o:= .cells #[.slice co bC.length cp,.slice i7 dx.length i8] 26 (0,0)) (bk OA) hb);replace HB:=Ah (aJ (bs HB) hb);(try clear hb)))
 go_ret
 exact⟨er,bs HB⟩
def fV.j0:Nat→Bool→List ByteArray→List (S64)→Option (Bool)
 |0,_,_,_=>none
 |k+1,dq,Tl,Tm=>if dq=true then(some false)else((pw.f k Tl).bind fun Pw=>(if Pw=true then(some false)else((qi.f k Tm Tl Tm).bind fun Px=>(some (!Px)))))
def fV.f(k:Nat)(X:List ByteArray)(J:List (S64)):Option (Bool):=(jH.f (X.length:Int) 1 32).bind fun Gn=>(if Gn=true then(fV.j0 k (decide ((J.length:Int)>60)) X J)else(fV.j0 k true X J))
theorem fV.bg:∀k,(∀y0 y1 y2,a8 (fV.j0 k y0 y1 y2) (fV.j0 (k+1) y0 y1 y2))
 |0=>fun _ _ _ r h=>by simp[fV.j0]at h
 |k+1=>by
  have bB:=fV.bg k
  ·
   intro y0 y1 y2;unfold fV.j0
   repeat' with_reducible first|exact bB _ _ _|exact qi.mono _ _ _ _|exact pw.mono _ _|exact a8.refl _|exact a8.none _|refine a8.ite ?_ ?_|refine a8.bind ?_ (fun _=> ?_)
theorem fV.mono:∀a0 a1 k,a8 (fV.f k a0 a1) (fV.f (k+1) a0 a1):=by
 intro a0 a1 k;have bB:=fV.bg k;unfold fV.f
 repeat' with_reducible first|exact bB _ _ _|exact qi.mono _ _ _ _|exact pw.mono _ _|exact a8.refl _|exact a8.none _|refine a8.ite ?_ ?_|refine a8.bind ?_ (fun _=> ?_)
set_option maxHeartbeats 8000000 in
set_option maxRecDepth 100000 in
theorem fV.calls(k:Nat)(ag:Option Addr)(ah:Nat)(X:List ByteArray)(ai:Option Addr)(af:Nat)(J:List (S64))(r:Bool)(w:World)(dG:Kd.C Kd.string w ag X.length X)(dH:X.length≤ah)(dI:Kd.C bS w ai J.length J)(dJ:J.length≤af)(h:fV.f k X J=some r):
 Calls t5 30 #[.agg #[.slice ag X.length ah,.slice ai J.length af]] w fun e w'=>e= .returned (.bool r)∧Below w.heap.size w w':=by
 have kj:=Try.underlying26;have cN:=Ah dG;have cR:=Ah dH;clear dG dH;have cI:=Ah dI;have ca:=Ah dJ;clear dI dJ;have HB:=Ah (pv w.heap.size w);have H:((jH.f (X.length:Int) 1 32).bind fun Gn=>(if Gn=true then(fV.j0 k (decide ((J.length:Int)>60)) X J)else(fV.j0 k true X J)))=some r:=h;clear h;have nt:=Ah H;clear H
 go_enter Try.func30,Try.ntmps30
 go_upto_region 1 with(first|((with_reducible refine ao (N:=1) rfl ?_);(try(refine dM (by rfl) ?_;dsimp only));refine az 1 26 #[.slice ag X.length ah,.slice ai J.length af] ?_;intro Vf hg w3 l3 hb;have GW600:=gw hg (bs HB);have vK:=gw hg (bs HB);replace HB:=Ah (aJ (bs HB) hb);clear hb hg))
 (try simp only[aaa,JM,jG,kt])
 go_cut [13] (fun v13 wc=>∃ (kq:Nat) (bE:Bool),v13= .bool bE∧aC (fV.j0 kq bE X J=some r)∧aC (kq≤k)∧aC (wc.heap[Vf]?=some (.cells #[(.slice ag X.length ah),(.slice ai J.length af)] 26 (0,0)))∧aC (Below w.heap.size w wc))
 case first=>
  have H:=nt.out;clear nt;replace H:=He.mp H;obtain⟨Gn,ey,H⟩:=H
  try dsimp only at H
  have A4:=Ah ey;clear ey
  by_cases c5:Gn=true
  ·
   subst c5;rw[if_pos rfl]at H;have H':=Ah H;clear H;obtain⟨xx,BT⟩:=bN l3;obtain⟨BV,BU⟩:=bI l3
   go_wp2_with (first|((with_reducible refine ap (f:=17) rfl ?_);refine gL (some 6) rfl rfl aba (by kernel_rfl) rfl #[.int .i64 (X.length:Int),.int .i64 1,.int .i64 32] rfl ?_;(with_reducible refine(jH.calls (X.length:Int) 1 32 true _ A4.out).mono ?_);rintro e w' ⟨rfl,⟨nd,rfl⟩⟩;refine⟨_,rfl, ?_⟩))
   go_meet
   case rel=>exact⟨_,(decide ((J.length:Int)>60)),e3,H',⟨by first|omega|exact mz _⟩,⟨bk l3⟩,⟨aM HB vK⟩⟩
  replace c5:=dW.mpr c5;subst c5;rw[if_neg cg]at H;have H':=Ah H;clear H;obtain⟨nD,nE⟩:=bN l3;obtain⟨nF,nG⟩:=bI l3
  go_wp2_with (first|((with_reducible refine ap (f:=17) rfl ?_);refine gL (some 6) rfl rfl aba (by kernel_rfl) rfl #[.int .i64 (X.length:Int),.int .i64 1,.int .i64 32] rfl ?_;(with_reducible refine(jH.calls (X.length:Int) 1 32 false _ A4.out).mono ?_);rintro e w' ⟨rfl,⟨nd,rfl⟩⟩;refine⟨_,rfl, ?_⟩))
  go_meet
  case rel=>exact⟨_,(true),e3,H',⟨by first|omega|exact mz _⟩,⟨bk l3⟩,⟨aM HB vK⟩⟩
 case rest=>
  clear nt
  try clear c1
  try clear p2
  try clear c3
  try clear c5
  try clear xx BT
  try clear nD nE
  try clear BV BU
  try clear nF nG
  obtain⟨kq,bE,rfl,HA,pt,l3,HB⟩:=hcut
  cases kq with
  |zero=>exact absurd HA.out (by simp[fV.j0])
  |succ nu=>
   have H:=HA.out;clear HA;simp only[fV.j0]at H
   by_cases c8:bE=true
   ·
    subst c8;rw[if_pos rfl]at H;obtain rfl:=fl H
    go_wp2
    go_ret
    exact⟨er,aM HB vK⟩
   replace c8:=dW.mpr c8;subst c8;rw[if_neg cg]at H;replace H:=He.mp H;obtain⟨Pw,lE,H⟩:=H
   try dsimp only at H
   have A9:=Ah lE;clear lE
   by_cases c10:Pw=true
   ·
    subst c10;rw[if_pos rfl]at H;obtain rfl:=fl H;obtain⟨jj,jk⟩:=bN l3;obtain⟨jl,jm⟩:=bI l3
    go_wp2_with (first|((with_reducible refine ap (f:=49) rfl ?_);refine gL (some 16) rfl rfl Try.func49 (by kernel_rfl) rfl #[.slice ag X.length ah,.func (.func 50) #[] #[]] rfl ?_;(with_reducible refine(pw.calls nu _ _ X true _ ?aE ?aG A9.out).mono ?_);(case aE=>exact cb cN HB);(case aG=>exact cR.out);rintro e mu ⟨rfl,hb⟩;refine⟨_,rfl, ?_⟩;replace l3:=nb l3 hb;replace HB:=Ah (aJ (aM HB vK) hb);(try clear hb)))
    go_ret
    exact⟨er,aM HB vK⟩
   replace c10:=dW.mpr c10;subst c10;rw[if_neg cg]at H;replace H:=He.mp H;obtain⟨Px,GS,H⟩:=H
   try dsimp only at H
   have A13:=Ah GS;clear GS;obtain rfl:=fl H;obtain⟨qw,qx⟩:=bN l3;obtain⟨qy,qz⟩:=bI l3
   go_wp2_with (first|((with_reducible refine ap (f:=49) rfl ?_);refine gL (some 16) rfl rfl Try.func49 (by kernel_rfl) rfl #[.slice ag X.length ah,.func (.func 50) #[] #[]] rfl ?_;(with_reducible refine(pw.calls nu _ _ X false _ ?aE ?aG A9.out).mono ?_);(case aE=>exact cb cN HB);(case aG=>exact cR.out);rintro e jw ⟨rfl,hb⟩;refine⟨_,rfl, ?_⟩;replace l3:=nb l3 hb;replace HB:=Ah (aJ (aM HB vK) hb);(try clear hb);obtain⟨tU,tV⟩:=bN l3;obtain⟨tW,tX⟩:=bI l3)|(go_at_call 33;(with_reducible refine(qi.calls nu _ _ J Vf ag ah X ai af J Px _ ?aE ?aG ?aZ ?ab ?bT ?bc ?jq A13.out).mono ?_);(case aE=>exact cb cI HB);(case aG=>exact ca.out);(case aZ=>exact cb cN HB);(case ab=>exact cR.out);(case bT=>exact cb cI HB);(case bc=>exact ca.out);(case jq=>(with_reducible repeat(first|refine a9 ?_ _|refine U ?_|refine Z ?_ _));exact l3.out);rintro e uZ ⟨rfl,hb⟩;replace l3:=nb l3 hb;replace HB:=Ah (aJ (aM HB vK) hb);(try clear hb)))
   go_ret
   exact⟨er,aM HB vK⟩
def hX.l0:Nat→List (S64)→Int→Int→Int→ByteArray→Option (Int)
 |0,_,_,_,_,_=>none
 |k+1,x0,x7,x8,Tn,To=>if x8<x7 then(if 0≤x8 then(if x8<(x0.length:Int)then(if(Tn==((aH x0 x8).f0)&& (To.toList==(((aH x0 x8).f1).toList)))=true then(some x8)else(hX.l0 k x0 x7 (I0 (x8+1)) Tn To))else(none))else(none))else(some (-1))
def hX.f(k:Nat)(l0:List (S64))(cl:Int)(cq:ByteArray):Option (Int):=hX.l0 k l0 (l0.length:Int) 0 cl cq
theorem hX.bg:∀k,(∀y0 y1 y2 y3 y4,a8 (hX.l0 k y0 y1 y2 y3 y4) (hX.l0 (k+1) y0 y1 y2 y3 y4))
 |0=>fun _ _ _ _ _ r h=>by simp[hX.l0]at h
 |k+1=>by
  have bB:=hX.bg k
  ·
   intro y0 y1 y2 y3 y4;unfold hX.l0
   repeat' with_reducible first|exact bB _ _ _ _ _|exact a8.refl _|exact a8.none _|refine a8.ite ?_ ?_|refine a8.bind ?_ (fun _=> ?_)
theorem hX.mono:∀a0 a1 a2 k,a8 (hX.f k a0 a1 a2) (hX.f (k+1) a0 a1 a2):=by
 intro a0 a1 a2 k;have bB:=hX.bg k;unfold hX.f
 repeat' with_reducible first|exact bB _ _ _ _ _|exact a8.refl _|exact a8.none _|refine a8.ite ?_ ?_|refine a8.bind ?_ (fun _=> ?_)
set_option maxHeartbeats 8000000 in
set_option maxRecDepth 100000 in
theorem hX.calls(k:Nat)(A0:Option Addr)(c0:Nat)(l0:List (S64))(cl:Int)(cq:ByteArray)(r:Int)(w:World)(hr0:Kd.C bS w A0 l0.length l0)(hc0:l0.length≤c0)(h:hX.f k l0 cl cq=some r):
 Calls t5 55 #[.slice A0 l0.length c0,.agg #[.int .i64 cl,.string cq]] w fun e w'=>e= .returned (.int .i64 r)∧Below w.heap.size w w':=by
 have hu64:=aah;have d8:=Ah hr0;have gV:=Ah hc0;clear hr0 hc0;have HB:=Ah (pv w.heap.size w);have H:(hX.l0 k l0 (l0.length:Int) 0 cl cq)=some r:=h;clear h;have H':=Ah H;clear H
 go_enter Try.func55,Try.ntmps55
 go_wp2_with (first|((with_reducible refine ao (N:=3) rfl ?_);refine az 3 64 #[.int .i64 cl,.string cq] ?_;intro OB hg w3 tq hb;have Vg:=gw hg (bs HB);have Bf:=gw hg (bs HB);replace HB:=Ah (aJ (bs HB) hb);clear hb hg))
 repeat(go_quiet (first|((with_reducible refine ao (N:=3) rfl ?_);refine az 3 64 #[.int .i64 cl,.string cq] ?_;intro OB hg w3 tq hb;have Vg:=gw hg (bs HB);have Bf:=gw hg (bs HB);replace HB:=Ah (aJ (bs HB) hb);clear hb hg));try go_wp2_with (first|((with_reducible refine ao (N:=3) rfl ?_);refine az 3 64 #[.int .i64 cl,.string cq] ?_;intro OB hg w3 tq hb;have Vg:=gw hg (bs HB);have Bf:=gw hg (bs HB);replace HB:=Ah (aJ (bs HB) hb);clear hb hg)))
 go_loopg [8] k (fun kq v8 w'=>∃ (au:Int),v8= .int .i64 au∧aC (hX.l0 kq l0 (l0.length:Int) au cl cq=some r)∧aC (kq≤k)∧aC (w'.heap[OB]?=some (.cells #[.int .i64 cl,.string cq] 64 (0,0)))∧aC (Below w.heap.size w w'))
 case atStart=>exact⟨(0),e3,H',⟨mz _⟩,⟨bk tq⟩,⟨aM HB Bf⟩⟩
 case round=>
  clear H'
  try clear p2
  obtain⟨au,rfl,HA,bY,tq,HB⟩:=hrel
  cases gk with
  |zero=>exact absurd HA.out (by simp[hX.l0])
  |succ k1=>
   have H:=HA.out;clear HA;simp only[hX.l0]at H
   by_cases c4:au<(l0.length:Int)
   rotate_left
   ·
    rw[if_neg c4]at H;have fa:decide (au<(l0.length:Int))=false:=decide_eq_false c4;clear c4;obtain rfl:=fl H
    go_wp2
    repeat(go_quiet (fail);try go_wp2)
    go_ret
    exact⟨er,aM HB Bf⟩
   rw[if_pos c4]at H;have fa:decide (au<(l0.length:Int))=true:=decide_eq_true c4;clear c4
   by_cases c5:0≤au
   rotate_left
   ·
    rw[if_neg c5]at H;exact absurd H (by simp)
   rw[if_pos c5]at H;have gz:decide (0≤au)=true:=decide_eq_true c5;clear c5
   by_cases c6:au<(l0.length:Int)
   rotate_left
   ·
    rw[if_neg c6]at H;exact absurd H (by simp)
   rw[if_pos c6]at H;have hF:decide (au<(l0.length:Int))=true:=decide_eq_true c6;clear c6
   by_cases c7:(cl==((aH l0 au).f0)&& (cq.toList==(((aH l0 au).f1).toList)))=true
   ·
    rw[if_pos c7]at H;have lS:(cl==((aH l0 au).f0)&& (cq.toList==(((aH l0 au).f1).toList)))=true:=c7;(try(have sn:decide (cl=((aH l0 au).f0)&& (cq.toList==(((aH l0 au).f1).toList)))=true:=by simpa using c7));(try(have a71:(cl==((aH l0 au).f0)&& (cq.toList==(((aH l0 au).f1).toList)))=true:=by simpa using c7));clear c7;obtain rfl:=fl H;obtain⟨qN,qO⟩:=bN tq;obtain⟨r8,qP⟩:=bI tq;have zb:0≤(au:Int):=od;have zc:au<(l0.length:Int):=od;obtain⟨a45,Py,xf,xg⟩:=g8 d8.out au zb zc
    cases Py
    replace xf:=(HB.out.cell (I1 w _ xf)).trans xf;replace xg:=(HB.out.cell (I1 w _ xg)).trans xg;replace zb:=eq_true zb;replace zc:=eq_true zc
    go_wp2
    repeat(go_quiet (fail);try go_wp2)
    go_ret
    exact⟨er,aM HB Bf⟩
   rw[if_neg c7]at H
   have lS:(cl==((aH l0 au).f0)&& (cq.toList==(((aH l0 au).f1).toList)))=false:=by simpa using c7
   (try(have sn:decide (cl=((aH l0 au).f0)&& (cq.toList==(((aH l0 au).f1).toList)))=false:=by simpa using c7));(try(have a71:(cl==((aH l0 au).f0)&& (cq.toList==(((aH l0 au).f1).toList)))=false:=by simpa using c7));(try(have c7b3:¬(cl=((aH l0 au).f0)&& (cq.toList==(((aH l0 au).f1).toList))):=by simpa using c7));clear c7;have H':=Ah H;clear H;obtain⟨pG,pH⟩:=bN tq;obtain⟨qQ,pI⟩:=bI tq;have zb:0≤(au:Int):=od;have zc:au<(l0.length:Int):=od;obtain⟨a45,Py,xf,xg⟩:=g8 d8.out au zb zc
   cases Py
   replace xf:=(HB.out.cell (I1 w _ xf)).trans xf;replace xg:=(HB.out.cell (I1 w _ xg)).trans xg;replace zb:=eq_true zb;replace zc:=eq_true zc
   go_wp2
   repeat(go_quiet (fail);try go_wp2)
   go_roundg k1
   case measure=>have:=bY.out;omega
   case rel=>exact⟨(I0 (au+1)),e3,H',⟨by have:=bY.out;omega⟩,⟨bk tq⟩,⟨aM HB Bf⟩⟩
def pz.f(k:Nat)(l0:List (S64))(cl:Int)(cq:ByteArray):Option (Bool):=(hX.f k l0 cl cq).bind fun Gp=>(some (decide (Gp≥0)))
theorem pz.mono:∀a0 a1 a2 k,a8 (pz.f k a0 a1 a2) (pz.f (k+1) a0 a1 a2):=by
 intro a0 a1 a2 k;unfold pz.f
 repeat' with_reducible first|exact hX.mono _ _ _ _|exact a8.refl _|exact a8.none _|refine a8.ite ?_ ?_|refine a8.bind ?_ (fun _=> ?_)
set_option maxHeartbeats 8000000 in
set_option maxRecDepth 100000 in
theorem pz.calls(k:Nat)(A0:Option Addr)(c0:Nat)(l0:List (S64))(cl:Int)(cq:ByteArray)(r:Bool)(w:World)(hr0:Kd.C bS w A0 l0.length l0)(hc0:l0.length≤c0)(h:pz.f k l0 cl cq=some r):
 Calls t5 35 #[.slice A0 l0.length c0,.agg #[.int .i64 cl,.string cq]] w fun e w'=>e= .returned (.bool r)∧Below w.heap.size w w':=by
 have hu64:=aah;have d8:=Ah hr0;have gV:=Ah hc0;clear hr0 hc0;have HB:=Ah (pv w.heap.size w);have H:((hX.f k l0 cl cq).bind fun Gp=>(some (decide (Gp≥0))))=some r:=h;clear h;replace H:=He.mp H;obtain⟨Gp,de,H⟩:=H
 try dsimp only at H
 have A3:=Ah de;clear de;obtain rfl:=fl H
 go_enter Try.func35,Try.ntmps35
 go_wp2_with (first|((with_reducible refine ao (N:=3) rfl ?_);refine az 3 64 #[.int .i64 cl,.string cq] ?_;intro gb606 hg w4 K6 hb;have GW606:=gw hg (bs HB);have Vh:=gw hg (bs HB);replace HB:=Ah (aJ (bs HB) hb);clear hb hg;obtain⟨EJ,JT⟩:=bN K6;obtain⟨JV,JU⟩:=bI K6)|((with_reducible refine ap (f:=55) rfl ?_);refine gL (some 7) rfl rfl Try.func55 (by kernel_rfl) rfl #[.slice A0 l0.length c0,.agg #[.int .i64 cl,.string cq]] rfl ?_;(with_reducible refine(hX.calls k _ _ l0 cl cq Gp _ ?aE ?aG A3.out).mono ?_);(case aE=>exact cb d8 HB);(case aG=>exact gV.out);rintro e w6 ⟨rfl,hb⟩;refine⟨_,rfl, ?_⟩;replace K6:=nb K6 hb;replace HB:=Ah (aJ (aM HB Vh) hb);(try clear hb)))
 go_ret
 exact⟨er,aM HB Vh⟩
def ol.f(k:Nat)(fk:Int)(iO:ByteArray)(bC:List (S64)):Option (Bool):=(pz.f k bC fk iO).bind fun Gq=>(some (!Gq))
theorem ol.mono:∀a0 a1 a2 k,a8 (ol.f k a0 a1 a2) (ol.f (k+1) a0 a1 a2):=by
 intro a0 a1 a2 k;unfold ol.f
 repeat' with_reducible first|exact pz.mono _ _ _ _|exact a8.refl _|exact a8.none _|refine a8.ite ?_ ?_|refine a8.bind ?_ (fun _=> ?_)
set_option maxHeartbeats 8000000 in
set_option maxRecDepth 100000 in
theorem ol.calls(k:Nat)(fk:Int)(iO:ByteArray)(bW:Nat)(co:Option Addr)(cp:Nat)(bC:List (S64))(r:Bool)(w:World)(ix:Kd.C bS w co bC.length bC)(iy:bC.length≤cp)(g9:w.heap[bW]?=some (.cells #[.slice co bC.length cp] 24 (0,0)))(h:ol.f k fk iO bC=some r):
 Calls t5 34 #[.agg #[.int .i64 fk,.string iO],.pointer (some ⟨bW,0,none⟩)] w fun e w'=>e= .returned (.bool r)∧Below w.heap.size w w':=by
 have hu64:=aah;have kz:=Ah ix;have lL:=Ah iy;clear ix iy;have vL:=Ah g9;clear g9;have HB:=Ah (pv w.heap.size w);have H:((pz.f k bC fk iO).bind fun Gq=>(some (!Gq)))=some r:=h;clear h;replace H:=He.mp H;obtain⟨Gq,de,H⟩:=H
 try dsimp only at H
 have A3:=Ah de;clear de;obtain rfl:=fl H
 go_enter Try.func34,Try.ntmps34
 go_wp2_with (first|((with_reducible refine ao (N:=2) rfl ?_);refine az 2 64 #[.int .i64 fk,.string iO] ?_;intro Vi hg w4 K7 hb;have GW609:=gw hg (bs HB);have Vj:=gw hg (bs HB);replace HB:=Ah (aJ (bs HB) hb);have Zj:=Ah ((by rw[hg];exact aam (gR (g:=bW) (o:= .cells #[.slice co bC.length cp] 24 (0,0)) (bk vL)):bW≠Vi));have Zk:=Ah ((by rw[hg];exact aao (gR (g:=bW) (o:= .cells #[.slice co bC.length cp] 24 (0,0)) (bk vL)):Vi≠bW));replace vL:=Ah (dF (g:=bW) (o:= .cells #[.slice co bC.length cp] 24 (0,0)) (bk vL) hb);clear hb hg;have a72:=Zj.out;have a73:=Zk.out;have xx:w4.cell? ⟨bW,0,none⟩=some (.slice co bC.length cp):=(aQ vL.out 0).trans rfl;have BV:=Hg vL;obtain⟨nD,nE⟩:=bN K7;obtain⟨nF,nG⟩:=bI K7)|((with_reducible refine ap (f:=35) rfl ?_);refine gL (some 6) rfl rfl Try.func35 (by kernel_rfl) rfl #[.slice co bC.length cp,.agg #[.int .i64 fk,.string iO]] rfl ?_;(with_reducible refine(pz.calls k _ _ bC fk iO Gq _ ?aE ?aG A3.out).mono ?_);(case aE=>exact cb kz HB);(case aG=>exact lL.out);rintro e w8 ⟨rfl,hb⟩;refine⟨_,rfl, ?_⟩;replace vL:=Ah (dF (g:=bW) (o:= .cells #[.slice co bC.length cp] 24 (0,0)) (bk vL) hb);replace K7:=nb K7 hb;replace HB:=Ah (aJ (aM HB Vj) hb);(try clear hb)))
 go_ret
 exact⟨er,aM HB Vj⟩
end Go.Proofs.Ytfdpdocbpcnkaaa.G
