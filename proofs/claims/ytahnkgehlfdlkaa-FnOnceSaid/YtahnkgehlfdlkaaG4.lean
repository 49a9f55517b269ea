-- Printed by a program of this session (drive.py, by way of the kit's print). Not trusted: Lean checks it.
import Derived.Test.YtahnkgehlfdlkaaG0
import Derived.Test.YtahnkgehlfdlkaaG2
import Derived.Test.YtahnkgehlfdlkaaG3
open Bool renaming eq_false_iff→Q3,not_true→aa5,not_false→aa6
open Go.Proofs.Try renaming prog→sX,underlying28→aab,underlying26→aaG,underlying40→aaR,func9→aaY
open Go.RowKit renaming wrap64→Ee
open List renaming setIfInBounds_toArray→g7,set_cons_zero→aad,set_cons_succ→aae
open Nat renaming le_refl→eH,le_of_eq→aaq
open Option renaming bind_eq_some_iff→Hc,bind_some→N6
open Option.some renaming injEq→SY
open Prod.mk renaming injEq→cM
namespace Go.Proofs.Ytahnkgehlfdlkaa.G
open Go.RowKit Go.Proofs.YtahnkgehlfdlkaaW.PrintWords Go.Proofs.YtahnkgehlfdlkaaW.PrintLast Go.Proofs.YtahnkgehlfdlkaaW.PrintMore
attribute [local go_sem] xN xO xT xU xA xB xP xQ
set_option maxHeartbeats 8000000
set_option maxRecDepth 100000
set_option linter.unusedVariables false
set_option linter.unusedSimpArgs false
def rY.f(k:Nat)(aA:Int)(U:List (X))(aH:List (X))(bl:Int)(bO:List (aV))(av:Int)(bB:Int):Option (Int×(List (X))×(List (X))×Int×(List (aV))×Int×Bool):=(f9.f k aA U aH bl bO).bind fun Mi=>(if Mi=true then((m4.f k aA U aH bl bO).bind fun mA=>(if mA.2.2.2.2.length<3518437208883 then((some (mA.2.2.2.2++[(⟨1,mA.2.2.2.1,(⟨av,bB⟩:X),0⟩:aV)]:List (aV))).bind fun nV=>((f9.f k mA.1 mA.2.1 mA.2.2.1 (Ee (mA.2.2.2.1+1)) nV).bind fun EO=>(if EO=true then(some (mA.1,mA.2.1,mA.2.2.1,Ee (mA.2.2.2.1+1),nV,Ee ((Ee (mA.2.2.2.1+1))-1),true))else(some (0,([]:List (X)),([]:List (X)),0,([]:List (aV)),0,false)))))else(none)))else(some (0,([]:List (X)),([]:List (X)),0,([]:List (aV)),0,false)))
theorem rY.mono:∀a0 a1 a2 a3 a4 a5 a6 k,aG (rY.f k a0 a1 a2 a3 a4 a5 a6) (rY.f (k+1) a0 a1 a2 a3 a4 a5 a6):=by
 intro a0 a1 a2 a3 a4 a5 a6 k;unfold rY.f
 repeat' with_reducible first|exact f9.mono _ _ _ _ _ _|exact m4.mono _ _ _ _ _ _|exact aG.refl _|exact aG.none _|refine aG.ite ?_ ?_|refine aG.bind ?_ (fun _=> ?_)
theorem rY.calls(k:Nat)(aA:Int)(bH:Option Addr)(ay:Nat)(U:List (X))(bC:Option Addr)(bD:Nat)(aH:List (X))(bl:Int)(em:Option Addr)(en:Nat)(bO:List (aV))(av:Int)(bB:Int)(r1:Int)(r2:List (X))(r3:List (X))(r4:Int)(r5:List (aV))(r6:Int)(r7:Bool)(w:World)(fC:Kd.C ag w bH U.length U)(fD:U.length≤ay)(fE:Kd.C ag w bC aH.length aH)(fF:aH.length≤bD)(mh:Kd.C cV w em bO.length bO)(mi:bO.length≤en)(h:rY.f k aA U aH bl bO av bB=some (r1,r2,r3,r4,r5,r6,r7)):
 Calls Try.prog 49 #[.agg #[.int .i64 aA,.slice bH U.length ay,.slice bC aH.length bD,.int .i64 bl,.slice em bO.length en],.agg #[.int .i64 av,.int .i64 bB]] w fun e w'=>∃et eZ lm:Value,e= .returned (.tuple #[.agg #[.int .i64 r1,et,eZ,.int .i64 r4,lm],.int .i64 r6,.bool r7])∧Kd.R ag 38 w' w.heap.size (fun k_=>some k_≠(eZ:Value).ownBlock) et r2∧Kd.R ag 38 w' w.heap.size (fun k_=>some k_≠(et:Value).ownBlock) eZ r3∧Kd.R cV 40 w' w.heap.size (fun _=>True) lm r5∧Below w.heap.size w w':=by
 have uP:=aab;have lM:=Try.underlying38;have vt:=aaR;have cx:=Ah fC;have dv:=Ah fD;clear fC fD;have eV:=Ah fE;have eW:=Ah fF;clear fE fF;have ls:=Ah mh;have m8:=Ah mi;clear mh mi;have HB:=Ah (Below.refl w.heap.size w);have H:((f9.f k aA U aH bl bO).bind fun Mi=>(if Mi=true then((m4.f k aA U aH bl bO).bind fun mA=>(if mA.2.2.2.2.length<3518437208883 then((some (mA.2.2.2.2++[(⟨1,mA.2.2.2.1,(⟨av,bB⟩:X),0⟩:aV)]:List (aV))).bind fun nV=>((f9.f k mA.1 mA.2.1 mA.2.2.1 (Ee (mA.2.2.2.1+1)) nV).bind fun EO=>(if EO=true then(some (mA.1,mA.2.1,mA.2.2.1,Ee (mA.2.2.2.1+1),nV,Ee ((Ee (mA.2.2.2.1+1))-1),true))else(some (0,([]:List (X)),([]:List (X)),0,([]:List (aV)),0,false)))))else(none)))else(some (0,([]:List (X)),([]:List (X)),0,([]:List (aV)),0,false))))=some (r1,r2,r3,r4,r5,r6,r7):=h;clear h;replace H:=Hc.mp H;obtain⟨Mi,dz,H⟩:=H
 try dsimp only at H
 have A3:=Ah dz;clear dz
 by_cases c4:Mi=true
 rotate_left
 ·
  replace c4:=Q3.mpr c4;subst c4;rw[if_neg dc]at H;simp only[SY,cM]at H;obtain⟨rfl,rfl,rfl,rfl,rfl,rfl,rfl⟩:=H
  go_enter Try.func49,Try.ntmps49
  go_wp2_with (first|((with_reducible refine am (N:=2) rfl ?_);refine ar 2 28 #[.int .i64 aA,.slice bH U.length ay,.slice bC aH.length bD,.int .i64 bl,.slice em bO.length en] ?_;intro nQ hg SV cj hb;have GW338:=gw hg (bs HB);have iI:=gw hg (bs HB);replace HB:=Ah (aK (bs HB) hb);clear hb hg)|((with_reducible refine am (N:=3) rfl ?_);refine ar 3 38 #[.int .i64 av,.int .i64 bB] ?_;intro yC hg SM gh hb;have GW339:=gw hg (aQ HB iI);have kG:=gw hg (aQ HB iI);replace HB:=Ah (aK (aQ HB iI) hb);have IC:=nn cj hg;have ye:=nm cj hg;replace cj:=nb cj hb;clear hb hg)|((with_reducible refine am (N:=4) rfl ?_);refine ar 4 28 #[.int .i64 0,.slice none 0 0,.slice none 0 0,.int .i64 0,.slice none 0 0] ?_;intro fv hg qa gj hb;have GW340:=gw hg (aa HB iI kG);have nE:=gw hg (aa HB iI kG);replace HB:=Ah (aK (aa HB iI kG) hb);have iz:=nn cj hg;have rh:=nm cj hg;replace cj:=nb cj hb;have xH:=nn gh hg;have xI:=nm gh hg;replace gh:=nb gh hb;clear hb hg;have hnb57:=IC.out;have hnc57:=ye.out;have hnb58:=iz.out;have hnc58:=rh.out;obtain⟨hcz59_0,hcz59_1,hcz59_2,hcz59_3,hcz59_4⟩:=ah cj;obtain⟨hfz59_0,hfz59_1,hfz59_2,hfz59_3,hfz59_4⟩:=af cj)|((with_reducible refine bN (f:=9) rfl ?_);refine gL (some 8) rfl rfl aaY (by kernel_rfl) rfl #[.agg #[.int .i64 aA,.slice bH U.length ay,.slice bC aH.length bD,.int .i64 bl,.slice em bO.length en]] rfl ?_;(with_reducible refine(f9.calls k aA _ _ U _ _ aH bl _ _ bO false _ ?aJ ?aM ?ac ?au ?cI ?cW A3.out).mono ?_);(case aJ=>exact cb cx HB);(case aM=>exact dv.out);(case ac=>exact cb eV HB);(case au=>exact eW.out);(case cI=>exact cb ls HB);(case cW=>exact m8.out);rintro e w60 ⟨rfl,hb⟩;refine⟨_,rfl, ?_⟩;replace cj:=nb cj hb;replace gh:=nb gh hb;replace gj:=nb gj hb;replace HB:=Ah (aK (bF HB iI kG nE) hb);(try clear hb);have hnb61:=xI.out;have hnc61:=xH.out;obtain⟨hcz62_0,hcz62_1,hcz62_2,hcz62_3,hcz62_4⟩:=ah gj;obtain⟨hfz62_0,hfz62_1,hfz62_2,hfz62_3,hfz62_4⟩:=af gj))
  refine bodyPost_ret (Hs rfl _ _ fv 28 #[.int .i64 0,.slice none 0 0,.slice none 0 0,.int .i64 0,.slice none 0 0] (0,0) _ rfl (pb gj) aab rfl (by kernel_rfl)) rfl ?_;exact⟨_,_,_,er,by first|exact Kd.dG _ _ _ _ _|exact Kd.dY _ _ _ _ _|exact Kd.dZ _ _ _ _ _|exact Kd.dW _ _ _ _ _|exact Kd.dX _ _ _ _ _,by first|exact Kd.dG _ _ _ _ _|exact Kd.dY _ _ _ _ _|exact Kd.dZ _ _ _ _ _|exact Kd.dW _ _ _ _ _|exact Kd.dX _ _ _ _ _,by first|exact Kd.dG _ _ _ _ _|exact Kd.dY _ _ _ _ _|exact Kd.dZ _ _ _ _ _|exact Kd.dW _ _ _ _ _|exact Kd.dX _ _ _ _ _,bF HB iI kG nE⟩
 subst c4;rw[if_pos rfl]at H;replace H:=Hc.mp H;obtain⟨⟨oe,mv,mw,lh,uU⟩,lD,H⟩:=H
 try dsimp only at H
 have A5:=Ah lD;clear lD
 by_cases c6:uU.length<3518437208883
 rotate_left
 ·
  rw[if_neg c6]at H;exact absurd H (by simp)
 rw[if_pos c6]at H;have LMc6:=Ah c6;clear c6;obtain⟨nV,LD⟩:∃y_:List (aV),y_=(uU++[(⟨1,lh,(⟨av,bB⟩:X),0⟩:aV)]):=⟨_,rfl⟩
 replace H:((f9.f k oe mv mw (Ee (lh+1)) nV).bind fun EO=>(if EO=true then(some (oe,mv,mw,Ee (lh+1),nV,Ee ((Ee (lh+1))-1),true))else(some (0,([]:List (X)),([]:List (X)),0,([]:List (aV)),0,false))))=some (r1,r2,r3,r4,r5,r6,r7):=by first|(rw[LD];with_reducible exact H)|(have ai:=(N6 _ _).symm.trans H;rw[LD];with_reducible exact ai)|(have ai:=(N6 _ _).symm.trans H;with_reducible exact ai)|with_reducible exact H|(rw[LD];exact H)|exact H
 have Ny353:=Ah LD;clear LD;replace H:=Hc.mp H;obtain⟨EO,pt,H⟩:=H
 try dsimp only at H
 have A7:=Ah pt;clear pt
 by_cases c8:EO=true
 rotate_left
 ·
  replace c8:=Q3.mpr c8;subst c8;rw[if_neg dc]at H;simp only[SY,cM]at H;obtain⟨rfl,rfl,rfl,rfl,rfl,rfl,rfl⟩:=H
  go_enter Try.func49,Try.ntmps49
  go_wp2_with (first|((with_reducible refine am (N:=2) rfl ?_);refine ar 2 28 #[.int .i64 aA,.slice bH U.length ay,.slice bC aH.length bD,.int .i64 bl,.slice em bO.length en] ?_;intro nQ hg Zp cj hb;have GW338:=gw hg (bs HB);have iI:=gw hg (bs HB);replace HB:=Ah (aK (bs HB) hb);clear hb hg)|((with_reducible refine am (N:=3) rfl ?_);refine ar 3 38 #[.int .i64 av,.int .i64 bB] ?_;intro yC hg SY gh hb;have GW339:=gw hg (aQ HB iI);have kG:=gw hg (aQ HB iI);replace HB:=Ah (aK (aQ HB iI) hb);have IC:=nn cj hg;have ye:=nm cj hg;replace cj:=nb cj hb;clear hb hg)|((with_reducible refine am (N:=4) rfl ?_);refine ar 4 28 #[.int .i64 0,.slice none 0 0,.slice none 0 0,.int .i64 0,.slice none 0 0] ?_;intro fv hg SZ gj hb;have GW340:=gw hg (aa HB iI kG);have nE:=gw hg (aa HB iI kG);replace HB:=Ah (aK (aa HB iI kG) hb);have iz:=nn cj hg;have rh:=nm cj hg;replace cj:=nb cj hb;have xH:=nn gh hg;have xI:=nm gh hg;replace gh:=nb gh hb;clear hb hg;have Qh:=IC.out;have Qi:=ye.out;have hnb38:=iz.out;have hnc38:=rh.out;obtain⟨VK,hcz39_1,hcz39_2,hcz39_3,hcz39_4⟩:=ah cj;obtain⟨VL,hfz39_1,hfz39_2,hfz39_3,hfz39_4⟩:=af cj)|((with_reducible refine bN (f:=9) rfl ?_);refine gL (some 8) rfl rfl aaY (by kernel_rfl) rfl #[.agg #[.int .i64 aA,.slice bH U.length ay,.slice bC aH.length bD,.int .i64 bl,.slice em bO.length en]] rfl ?_;(with_reducible refine(f9.calls k aA _ _ U _ _ aH bl _ _ bO true _ ?aJ ?aM ?ac ?au ?cI ?cW A3.out).mono ?_);(case aJ=>exact cb cx HB);(case aM=>exact dv.out);(case ac=>exact cb eV HB);(case au=>exact eW.out);(case cI=>exact cb ls HB);(case cW=>exact m8.out);rintro e CP ⟨rfl,hb⟩;refine⟨_,rfl, ?_⟩;replace cj:=nb cj hb;replace gh:=nb gh hb;replace gj:=nb gj hb;replace HB:=Ah (aK (bF HB iI kG nE) hb);(try clear hb);obtain⟨Fb,Fc,VE,hcz41_3,hcz41_4⟩:=ah cj;obtain⟨Fd,Fe,VF,hfz41_3,hfz41_4⟩:=af cj)|((with_reducible refine bN (f:=51) rfl ?_);refine gL (some 12) rfl rfl Try.func51 (by kernel_rfl) rfl #[.agg #[.int .i64 aA,.slice bH U.length ay,.slice bC aH.length bD,.int .i64 bl,.slice em bO.length en]] rfl ?_;(with_reducible refine(m4.calls k aA _ _ U _ _ aH bl _ _ bO oe mv mw lh uU _ ?aJ ?aM ?ac ?au ?cI ?cW A5.out).mono ?_);(case aJ=>exact cb cx HB);(case aM=>exact dv.out);(case ac=>exact cb eV HB);(case au=>exact eW.out);(case cI=>exact cb ls HB);(case cW=>exact m8.out);rintro e SS ⟨v344,v347,v351,rfl,ho0,ho1,ho2,hb⟩;refine⟨_,rfl, ?_⟩;have oP:=Ah (Kd.bq (Kd.u1 ho0 (g:=yC) (o:= .cells #[.int .i64 av,.int .i64 bB] 38 (0,0)) (bk gh)) (bR (bF HB iI kG nE)));have oQ:=Ah (Kd.bq (Kd.u1 ho1 (g:=yC) (o:= .cells #[.int .i64 av,.int .i64 bB] 38 (0,0)) (bk gh)) (bR (bF HB iI kG nE)));have pj:=Ah (Kd.bq ho2 (bR (bF HB iI kG nE)));replace cj:=nb cj hb;replace gh:=nb gh hb;replace gj:=nb gj hb;replace HB:=Ah (aK (bF HB iI kG nE) hb);(try clear hb ho0 ho1 ho2);obtain⟨P6,P7,P8,P9,PA⟩:=ah cj;obtain⟨PS,PT,PU,PV,PX⟩:=af cj;obtain⟨gn,gZ,MT⟩:=Kd.ax oP.out;subst MT;obtain⟨rH,qY,MK⟩:=Kd.ax oQ.out;subst MK;obtain⟨rE,rF,ME⟩:=Kd.ax pj.out;subst ME;have hnb47:=xH.out;have hnc47:=xI.out;obtain⟨hcz48_0,hcz48_1⟩:=da gh;obtain⟨hfz48_0,hfz48_1⟩:=db gh)|((with_reducible refine iG (b:= .append) (xs:= #[.tmp 14,.tmp 19]) rfl ?_);at_builtin;refine Kd.jp cV (w0:=w) w.heap.size rfl (.tmp 14) (.tmp 19) 26 40 (.agg #[(.int .i64 0),(.int .i64 0),(.int .i64 0),(.int .i64 0),(.int .i64 0)]) 40 rfl aaG qF rfl (by decide) (by omega) (.slice rE uU.length rF) uU (⟨1,lh,(⟨av,bB⟩:X),0⟩:aV) [.int .i64 1,.int .i64 lh,.int .i64 av,.int .i64 bB,.int .i64 0] (fun _=>True) (fun _=>False) rfl (by first|(go_simp;done)|(go_simp;rfl)) ?aP (fun _ hk=>hk.elim) ?aF ?aO ?aB ?aS ?aL ?_;(case aP=>exact sj _ _ _ (⟨1,lh,(⟨av,bB⟩:X),0⟩:aV));(case aB=>exact(bF HB iI kG nE));(case aF=>exact(fun _ _=>trivial));(case aO=>exact(by(with_reducible repeat(first|apply Kd.al|apply Kd.ak|apply Kd.aY));exact Kd.aE (Kd.I (p:=⟨nQ,4,none⟩) (Kd.I (p:=⟨nQ,3,none⟩) (Kd.I (p:=⟨nQ,2,none⟩) (Kd.I (p:=⟨nQ,1,none⟩) (Kd.I (p:=⟨nQ,0,none⟩) (Kd.ao pj.out cj.out (by decide)) (fun _ hk=>hk.2) (.int .i64 oe)) (fun _ hk=>hk.2) (.slice gn mv.length gZ)) (fun _ hk=>hk.2) (.slice rH mw.length qY)) (fun _ hk=>hk.2) (.int .i64 lh)) (fun _ hk=>hk.2) (.slice rE uU.length rF)) (fun _ hk=>trivial)));(case aS=>exact(bR (bF HB iI kG nE)));(case aL=>have:=LMc6.out;omega);intro v354 w49 ho hb hg hat;rw[←Ny353.out]at ho;replace gh:=Ah (cC (bf gh ye) hg (Kd.cY pj.out gh.out (by decide)));replace gj:=Ah (cC (bf gj rh) hg (Kd.cY pj.out gj.out (by decide)));replace oP:=Ah (Kd.eD (rf oP cj) (Kd.dt (rf pj cj)) (by decide) hg);replace oQ:=Ah (Kd.eD (rf oQ cj) (Kd.dt (rf pj cj)) (by decide) hg);replace cj:=Ah (cC (g:=nQ) (o:= .cells #[.int .i64 oe,.slice gn mv.length gZ,.slice rH mw.length qY,.int .i64 lh,.slice rE uU.length rF] 28 (0,0)) (pb cj) hg (Kd.cY pj.out cj.out (by decide)));replace HB:=Ah (hb);have qx:=Ah (ho);clear pj;clear ho hb hg hat;obtain⟨zz,yQ,Z2⟩:=Kd.ax qx.out;subst Z2;obtain⟨Oc,Od,Oe,Of,Og⟩:=ah cj;obtain⟨Oh,Oi,Oj,Ol,Om⟩:=af cj)|((with_reducible refine bN (f:=9) rfl ?_);refine gL (some 27) rfl rfl aaY (by kernel_rfl) rfl #[.agg #[.int .i64 oe,.slice gn mv.length gZ,.slice rH mw.length qY,.int .i64 (Ee (lh+1)),.slice zz nV.length yQ]] rfl ?_;(with_reducible refine(f9.calls k oe _ _ mv _ _ mw (Ee (lh+1)) _ _ nV false _ ?aJ ?aM ?ac ?au ?cI ?cW A7.out).mono ?_);(case aJ=>refine(Kd.ab (e:=38) (base:=w.heap.size) (ok:=fun k_=>(some k_≠(.slice rH mw.length qY:Value).ownBlock∧k_≠yC)) (n:=mv.length) (c:=gZ) ?_).2.2;exact(rf oP cj));(case aM=>exact(Kd.ab oP.out).2.1);(case ac=>refine(Kd.ab (e:=38) (base:=w.heap.size) (ok:=fun k_=>(some k_≠(.slice gn mv.length gZ:Value).ownBlock∧k_≠yC)) (n:=mw.length) (c:=qY) ?_).2.2;exact(rf oQ cj));(case au=>exact(Kd.ab oQ.out).2.1);(case cI=>refine(Kd.ab (e:=40) (base:=w.heap.size) (ok:=fun k_=>True) (n:=nV.length) (c:=yQ) ?_).2.2;exact(rf qx cj));(case cW=>exact(Kd.ab qx.out).2.1);rintro e SL ⟨rfl,hb⟩;refine⟨_,rfl, ?_⟩;replace oP:=Ah (Kd.bW (rf oP cj) hb);replace oQ:=Ah (Kd.bW (rf oQ cj) hb);replace qx:=Ah (Kd.bW (rf qx cj) hb);replace cj:=Ah (bJ (g:=nQ) (o:= .cells #[.int .i64 oe,.slice gn mv.length gZ,.slice rH mw.length qY,.int .i64 (Ee (lh+1)),.slice zz nV.length yQ] 28 (0,0)) (pb cj) hb);replace gh:=Ah (bJ (bf gh ye) hb);replace gj:=Ah (bJ (bf gj rh) hb);replace HB:=Ah (aK (bF HB iI kG nE) hb);(try clear hb hk);obtain⟨Iq,Ir,Uu,Uv,Uw⟩:=ah gj;obtain⟨Is,Iu,Ux,Uy,Uz⟩:=af gj))
  refine bodyPost_ret (Hs rfl _ _ fv 28 #[.int .i64 0,.slice none 0 0,.slice none 0 0,.int .i64 0,.slice none 0 0] (0,0) _ rfl (pb gj) aab rfl (by kernel_rfl)) rfl ?_;exact⟨_,_,_,er,by first|exact Kd.dG _ _ _ _ _|exact Kd.dY _ _ _ _ _|exact Kd.dZ _ _ _ _ _|exact Kd.dW _ _ _ _ _|exact Kd.dX _ _ _ _ _,by first|exact Kd.dG _ _ _ _ _|exact Kd.dY _ _ _ _ _|exact Kd.dZ _ _ _ _ _|exact Kd.dW _ _ _ _ _|exact Kd.dX _ _ _ _ _,by first|exact Kd.dG _ _ _ _ _|exact Kd.dY _ _ _ _ _|exact Kd.dZ _ _ _ _ _|exact Kd.dW _ _ _ _ _|exact Kd.dX _ _ _ _ _,bF HB iI kG nE⟩
 subst c8;rw[if_pos rfl]at H;simp only[SY,cM]at H;obtain⟨rfl,rfl,rfl,rfl,rfl,rfl,rfl⟩:=H
 go_enter Try.func49,Try.ntmps49
 try go_wp2_with (first|((with_reducible refine am (N:=2) rfl ?_);refine ar 2 28 #[.int .i64 aA,.slice bH U.length ay,.slice bC aH.length bD,.int .i64 bl,.slice em bO.length en] ?_;intro nQ hg w9 cj hb;have GW338:=gw hg (bs HB);have iI:=gw hg (bs HB);replace HB:=Ah (aK (bs HB) hb);clear hb hg)|((with_reducible refine am (N:=3) rfl ?_);refine ar 3 38 #[.int .i64 av,.int .i64 bB] ?_;intro yC hg oq gh hb;have GW339:=gw hg (aQ HB iI);have kG:=gw hg (aQ HB iI);replace HB:=Ah (aK (aQ HB iI) hb);have IC:=nn cj hg;have ye:=nm cj hg;replace cj:=nb cj hb;clear hb hg)|((with_reducible refine am (N:=4) rfl ?_);refine ar 4 28 #[.int .i64 0,.slice none 0 0,.slice none 0 0,.int .i64 0,.slice none 0 0] ?_;intro fv hg NT gj hb;have GW340:=gw hg (aa HB iI kG);have nE:=gw hg (aa HB iI kG);replace HB:=Ah (aK (aa HB iI kG) hb);have iz:=nn cj hg;have rh:=nm cj hg;replace cj:=nb cj hb;have xH:=nn gh hg;have xI:=nm gh hg;replace gh:=nb gh hb;clear hb hg;have Ql:=IC.out;have Qm:=ye.out;have XO:=iz.out;have XP:=rh.out;obtain⟨yy,yz,hcz14_2,hcz14_3,hcz14_4⟩:=ah cj;obtain⟨z6,z7,hfz14_2,hfz14_3,hfz14_4⟩:=af cj)|((with_reducible refine bN (f:=9) rfl ?_);refine gL (some 8) rfl rfl aaY (by kernel_rfl) rfl #[.agg #[.int .i64 aA,.slice bH U.length ay,.slice bC aH.length bD,.int .i64 bl,.slice em bO.length en]] rfl ?_;(with_reducible refine(f9.calls k aA _ _ U _ _ aH bl _ _ bO true _ ?aJ ?aM ?ac ?au ?cI ?cW A3.out).mono ?_);(case aJ=>exact cb cx HB);(case aM=>exact dv.out);(case ac=>exact cb eV HB);(case au=>exact eW.out);(case cI=>exact cb ls HB);(case cW=>exact m8.out);rintro e NL ⟨rfl,hb⟩;refine⟨_,rfl, ?_⟩;replace cj:=nb cj hb;replace gh:=nb gh hb;replace gj:=nb gj hb;replace HB:=Ah (aK (bF HB iI kG nE) hb);(try clear hb);obtain⟨ql,qm,ro,Ag,Ai⟩:=ah cj;obtain⟨qn,qo,rt,Aj,Ak⟩:=af cj)|((with_reducible refine bN (f:=51) rfl ?_);refine gL (some 12) rfl rfl Try.func51 (by kernel_rfl) rfl #[.agg #[.int .i64 aA,.slice bH U.length ay,.slice bC aH.length bD,.int .i64 bl,.slice em bO.length en]] rfl ?_;(with_reducible refine(m4.calls k aA _ _ U _ _ aH bl _ _ bO oe mv mw lh uU _ ?aJ ?aM ?ac ?au ?cI ?cW A5.out).mono ?_);(case aJ=>exact cb cx HB);(case aM=>exact dv.out);(case ac=>exact cb eV HB);(case au=>exact eW.out);(case cI=>exact cb ls HB);(case cW=>exact m8.out);rintro e Ek ⟨v344,v347,v351,rfl,ho0,ho1,ho2,hb⟩;refine⟨_,rfl, ?_⟩;have oP:=Ah (Kd.bq (Kd.u1 ho0 (g:=yC) (o:= .cells #[.int .i64 av,.int .i64 bB] 38 (0,0)) (bk gh)) (bR (bF HB iI kG nE)));have oQ:=Ah (Kd.bq (Kd.u1 ho1 (g:=yC) (o:= .cells #[.int .i64 av,.int .i64 bB] 38 (0,0)) (bk gh)) (bR (bF HB iI kG nE)));have pj:=Ah (Kd.bq ho2 (bR (bF HB iI kG nE)));replace cj:=nb cj hb;replace gh:=nb gh hb;replace gj:=nb gj hb;replace HB:=Ah (aK (bF HB iI kG nE) hb);(try clear hb ho0 ho1 ho2);obtain⟨uy,uz,xi,xj,xk⟩:=ah cj;obtain⟨vA,vB,xl,xm,xn⟩:=af cj;obtain⟨fM,ex,Gi⟩:=Kd.ax oP.out;subst Gi;obtain⟨gX,gQ,Xm⟩:=Kd.ax oQ.out;subst Xm;obtain⟨rC,rD,wF⟩:=Kd.ax pj.out;subst wF;have hnb22:=xH.out;have hnc22:=xI.out;obtain⟨hcz23_0,hcz23_1⟩:=da gh;obtain⟨hfz23_0,hfz23_1⟩:=db gh)|((with_reducible refine iG (b:= .append) (xs:= #[.tmp 14,.tmp 19]) rfl ?_);at_builtin;refine Kd.jp cV (w0:=w) w.heap.size rfl (.tmp 14) (.tmp 19) 26 40 (.agg #[(.int .i64 0),(.int .i64 0),(.int .i64 0),(.int .i64 0),(.int .i64 0)]) 40 rfl aaG qF rfl (by decide) (by omega) (.slice rC uU.length rD) uU (⟨1,lh,(⟨av,bB⟩:X),0⟩:aV) [.int .i64 1,.int .i64 lh,.int .i64 av,.int .i64 bB,.int .i64 0] (fun _=>True) (fun _=>False) rfl (by first|(go_simp;done)|(go_simp;rfl)) ?aP (fun _ hk=>hk.elim) ?aF ?aO ?aB ?aS ?aL ?_;(case aP=>exact sj _ _ _ (⟨1,lh,(⟨av,bB⟩:X),0⟩:aV));(case aB=>exact(bF HB iI kG nE));(case aF=>exact(fun _ _=>trivial));(case aO=>exact(by(with_reducible repeat(first|apply Kd.al|apply Kd.ak|apply Kd.aY));exact Kd.aE (Kd.I (p:=⟨nQ,4,none⟩) (Kd.I (p:=⟨nQ,3,none⟩) (Kd.I (p:=⟨nQ,2,none⟩) (Kd.I (p:=⟨nQ,1,none⟩) (Kd.I (p:=⟨nQ,0,none⟩) (Kd.ao pj.out cj.out (by decide)) (fun _ hk=>hk.2) (.int .i64 oe)) (fun _ hk=>hk.2) (.slice fM mv.length ex)) (fun _ hk=>hk.2) (.slice gX mw.length gQ)) (fun _ hk=>hk.2) (.int .i64 lh)) (fun _ hk=>hk.2) (.slice rC uU.length rD)) (fun _ hk=>trivial)));(case aS=>exact(bR (bF HB iI kG nE)));(case aL=>have:=LMc6.out;omega);intro v354 Nb ho hb hg hat;rw[←Ny353.out]at ho;replace gh:=Ah (cC (bf gh ye) hg (Kd.cY pj.out gh.out (by decide)));replace gj:=Ah (cC (bf gj rh) hg (Kd.cY pj.out gj.out (by decide)));replace oP:=Ah (Kd.eD (rf oP cj) (Kd.dt (rf pj cj)) (by decide) hg);replace oQ:=Ah (Kd.eD (rf oQ cj) (Kd.dt (rf pj cj)) (by decide) hg);replace cj:=Ah (cC (g:=nQ) (o:= .cells #[.int .i64 oe,.slice fM mv.length ex,.slice gX mw.length gQ,.int .i64 lh,.slice rC uU.length rD] 28 (0,0)) (pb cj) hg (Kd.cY pj.out cj.out (by decide)));replace HB:=Ah (hb);have qx:=Ah (ho);clear pj;clear ho hb hg hat;obtain⟨iy,io,MU⟩:=Kd.ax qx.out;subst MU;obtain⟨FC,FD,hcz26_2,hcz26_3,hcz26_4⟩:=ah cj;obtain⟨FE,FF,hfz26_2,hfz26_3,hfz26_4⟩:=af cj)|((with_reducible refine bN (f:=9) rfl ?_);refine gL (some 27) rfl rfl aaY (by kernel_rfl) rfl #[.agg #[.int .i64 oe,.slice fM mv.length ex,.slice gX mw.length gQ,.int .i64 (Ee (lh+1)),.slice iy nV.length io]] rfl ?_;(with_reducible refine(f9.calls k oe _ _ mv _ _ mw (Ee (lh+1)) _ _ nV true _ ?aJ ?aM ?ac ?au ?cI ?cW A7.out).mono ?_);(case aJ=>refine(Kd.ab (e:=38) (base:=w.heap.size) (ok:=fun k_=>(some k_≠(.slice gX mw.length gQ:Value).ownBlock∧k_≠yC)) (n:=mv.length) (c:=ex) ?_).2.2;exact(rf oP cj));(case aM=>exact(Kd.ab oP.out).2.1);(case ac=>refine(Kd.ab (e:=38) (base:=w.heap.size) (ok:=fun k_=>(some k_≠(.slice fM mv.length ex:Value).ownBlock∧k_≠yC)) (n:=mw.length) (c:=gQ) ?_).2.2;exact(rf oQ cj));(case au=>exact(Kd.ab oQ.out).2.1);(case cI=>refine(Kd.ab (e:=40) (base:=w.heap.size) (ok:=fun k_=>True) (n:=nV.length) (c:=io) ?_).2.2;exact(rf qx cj));(case cW=>exact(Kd.ab qx.out).2.1);rintro e yW ⟨rfl,hb⟩;refine⟨_,rfl, ?_⟩;replace oP:=Ah (Kd.bW (rf oP cj) hb);replace oQ:=Ah (Kd.bW (rf oQ cj) hb);replace qx:=Ah (Kd.bW (rf qx cj) hb);replace cj:=Ah (bJ (g:=nQ) (o:= .cells #[.int .i64 oe,.slice fM mv.length ex,.slice gX mw.length gQ,.int .i64 (Ee (lh+1)),.slice iy nV.length io] 28 (0,0)) (pb cj) hb);replace gh:=Ah (bJ (bf gh ye) hb);replace gj:=Ah (bJ (bf gj rh) hb);replace HB:=Ah (aK (bF HB iI kG nE) hb);(try clear hb hk)))
 replace oP:=Ah (Kd.aY oP.out);replace oQ:=Ah (Kd.aY oQ.out);replace qx:=Ah (Kd.aY qx.out);replace cj:=Ah (bL cj.out);replace gh:=Ah (bL gh.out);replace gj:=Ah (bL gj.out);replace HB:=Ah (ln HB.out);refine nB (n:=7) (S:=fun w'=>w'.cell? ⟨nQ,0,none⟩=some (.int .i64 oe)∧w'.cell? ⟨nQ,1,none⟩=some (.slice fM mv.length ex)∧w'.cell? ⟨nQ,2,none⟩=some (.slice gX mw.length gQ)∧w'.cell? ⟨nQ,3,none⟩=some (.int .i64 (Ee (lh+1)))∧w'.cell? ⟨nQ,4,none⟩=some (.slice iy nV.length io)) (ds:=[]) #[false,false,false,false,false,false,false] (by kernel_rfl) rfl rfl ⟨(aI cj.out 0).trans rfl,(aI cj.out 1).trans rfl,(aI cj.out 2).trans rfl,(aI cj.out 3).trans rfl,(aI cj.out 4).trans rfl⟩ (fun hHeld=> ?_)
 generalize yW.drew=Hl at oP oQ qx cj gh gj HB hHeld⊢
 refine G7 (i:=1) (N:=some 31) (v:= ?_) (a':= ?_) #[false,true,false,false,false,false,false] rfl rfl (by kernel_rfl) (fun _ _ _ h=>h) (Or.inl ⟨by rfl, ?_⟩) ?_ ?_;rotate_left
 ·
  intro w'
  go_simp
  with_reducible rfl
 rotate_left
 ·
  simp only[Act.put,g7,aad,aae,lr,nu]
  rfl
 refine Je (i:=0) (N:=some 30) (v:= ?_) (a':= ?_) #[true,true,false,false,false,false,false] rfl rfl (by kernel_rfl) (fun _ _ _ h=>h) (Or.inl ⟨by rfl, ?_⟩) hHeld ?_ ?_;rotate_left
 ·
  rintro w' ⟨s0,s1,s2,s3,s4⟩
  go_simp
  with_reducible rfl
 rotate_left
 ·
  simp only[Act.put,g7,aad,aae,lr,nu]
  rfl
 refine Je (i:=2) (N:=some 32) (v:= ?_) (a':= ?_) #[true,true,true,false,false,false,false] rfl rfl (by kernel_rfl) (fun _ _ _ h=>h) (Or.inl ⟨by rfl, ?_⟩) hHeld ?_ ?_;rotate_left
 ·
  rintro w' ⟨s0,s1,s2,s3,s4⟩
  go_simp
  with_reducible rfl
 rotate_left
 ·
  simp only[Act.put,g7,aad,aae,lr,nu]
  rfl
 refine G7 (i:=3) (N:=some 33) (v:= ?_) (a':= ?_) #[true,true,true,true,false,false,false] rfl rfl (by kernel_rfl) (fun _ _ _ h=>h) (Or.inl ⟨by rfl, ?_⟩) ?_ ?_;rotate_left
 ·
  intro w'
  go_simp
  with_reducible rfl
 rotate_left
 ·
  simp only[Act.put,g7,aad,aae,lr,nu]
  rfl
 refine i3 (i:=4) (N:=none) #[true,true,true,true,true,false,false] rfl rfl (by kernel_rfl) (by decide) (fun K hK=> ?_);have hs29:Hl.cell? ⟨fv,0,none⟩=some (.int .i64 0):=(aI gj.out 0).trans rfl;have hfs29:=gT gj.out 0;have hns29_0:=iz.out;have hns29_1:=xH.out;have hms29_0:=rh.out;have hms29_1:=xI.out;have hs30:Hl.cell? ⟨fv,1,none⟩=some (.slice none 0 0):=(aI gj.out 1).trans rfl;have hfs30:=gT gj.out 1;have hns30_0:=iz.out;have hns30_1:=xH.out;have hms30_0:=rh.out;have hms30_1:=xI.out;have hs31:Hl.cell? ⟨fv,2,none⟩=some (.slice none 0 0):=(aI gj.out 2).trans rfl;have hfs31:=gT gj.out 2;have hns31_0:=iz.out;have hns31_1:=xH.out;have hms31_0:=rh.out;have hms31_1:=xI.out;have hs32:Hl.cell? ⟨fv,3,none⟩=some (.int .i64 0):=(aI gj.out 3).trans rfl;have hfs32:=gT gj.out 3;have hns32_0:=iz.out;have hns32_1:=xH.out;have hms32_0:=rh.out;have hms32_1:=xI.out;have hs33:Hl.cell? ⟨fv,4,none⟩=some (.slice none 0 0):=(aI gj.out 4).trans rfl;have hfs33:=gT gj.out 4;have hns33_0:=iz.out;have hns33_1:=xH.out;have hms33_0:=rh.out;have hms33_1:=xI.out;refine G8 (w1:= ?_) (by rfl) rfl ?_ ?_;rotate_left
 ·
  go_simp
  rfl
 refine hK.out _ _ ⟨((cJ (p:=⟨fv,_,none⟩) iz.out _).trans (((cJ (p:=⟨fv,_,none⟩) iz.out _).trans (((cJ (p:=⟨fv,_,none⟩) iz.out _).trans (((cJ (p:=⟨fv,_,none⟩) iz.out _).trans (((cJ (p:=⟨fv,_,none⟩) iz.out _).trans (hHeld.1)))))))))),((cJ (p:=⟨fv,_,none⟩) iz.out _).trans (((cJ (p:=⟨fv,_,none⟩) iz.out _).trans (((cJ (p:=⟨fv,_,none⟩) iz.out _).trans (((cJ (p:=⟨fv,_,none⟩) iz.out _).trans (((cJ (p:=⟨fv,_,none⟩) iz.out _).trans (hHeld.2.1)))))))))),((cJ (p:=⟨fv,_,none⟩) iz.out _).trans (((cJ (p:=⟨fv,_,none⟩) iz.out _).trans (((cJ (p:=⟨fv,_,none⟩) iz.out _).trans (((cJ (p:=⟨fv,_,none⟩) iz.out _).trans (((cJ (p:=⟨fv,_,none⟩) iz.out _).trans (hHeld.2.2.1)))))))))),((cJ (p:=⟨fv,_,none⟩) iz.out _).trans (((cJ (p:=⟨fv,_,none⟩) iz.out _).trans (((cJ (p:=⟨fv,_,none⟩) iz.out _).trans (((cJ (p:=⟨fv,_,none⟩) iz.out _).trans (((cJ (p:=⟨fv,_,none⟩) iz.out _).trans (hHeld.2.2.2.1)))))))))),((cJ (p:=⟨fv,_,none⟩) iz.out _).trans (((cJ (p:=⟨fv,_,none⟩) iz.out _).trans (((cJ (p:=⟨fv,_,none⟩) iz.out _).trans (((cJ (p:=⟨fv,_,none⟩) iz.out _).trans (((cJ (p:=⟨fv,_,none⟩) iz.out _).trans (hHeld.2.2.2.2))))))))))⟩ (fun hHeld=> ?_);clear hK K;refine G7 (i:=5) (N:=some 5) (v:= ?_) (a':= ?_) #[true,true,true,true,true,true,false] rfl rfl (by kernel_rfl) (fun _ _ _ h=>h) (Or.inl ⟨by rfl, ?_⟩) ?_ ?_;rotate_left
 ·
  intro w'
  go_simp
  with_reducible rfl
 rotate_left
 ·
  simp only[Act.put,g7,aad,aae,lr,nu]
  rfl
 refine G7 (i:=6) (N:=some 6) (v:= ?_) (a':= ?_) #[true,true,true,true,true,true,true] rfl rfl (by kernel_rfl) (fun _ _ _ h=>h) (Or.inl ⟨by rfl, ?_⟩) ?_ ?_;rotate_left
 ·
  intro w'
  go_simp
  with_reducible rfl
 rotate_left
 ·
  simp only[Act.put,g7,aad,aae,lr,nu]
  rfl
 refine m5 (by kernel_rfl) ?_
 try go_wp2
 refine bodyPost_ret (Hs rfl _ _ fv 28 #[.int .i64 oe,.slice fM mv.length ex,.slice gX mw.length gQ,.int .i64 (Ee (lh+1)),.slice iy nV.length io] (0,0) _ rfl (pb gj) aab rfl (by kernel_rfl)) rfl ?_;exact⟨_,_,_,er,by(with_reducible repeat(first|apply Kd.al|apply Kd.ak|apply Kd.aY));exact Kd.aE (Kd.I (p:=⟨fv,4,none⟩) (Kd.I (p:=⟨fv,3,none⟩) (Kd.I (p:=⟨fv,2,none⟩) (Kd.I (p:=⟨fv,1,none⟩) (Kd.I (p:=⟨fv,0,none⟩) (Kd.ao oP.out gj.out (by decide)) (fun _ hk=>hk.2) (.int .i64 oe)) (fun _ hk=>hk.2) (.slice fM mv.length ex)) (fun _ hk=>hk.2) (.slice gX mw.length gQ)) (fun _ hk=>hk.2) (.int .i64 (Ee (lh+1)))) (fun _ hk=>hk.2) (.slice iy nV.length io)) (fun _ hk=>hk.1.1),by(with_reducible repeat(first|apply Kd.al|apply Kd.ak|apply Kd.aY));exact Kd.aE (Kd.I (p:=⟨fv,4,none⟩) (Kd.I (p:=⟨fv,3,none⟩) (Kd.I (p:=⟨fv,2,none⟩) (Kd.I (p:=⟨fv,1,none⟩) (Kd.I (p:=⟨fv,0,none⟩) (Kd.ao oQ.out gj.out (by decide)) (fun _ hk=>hk.2) (.int .i64 oe)) (fun _ hk=>hk.2) (.slice fM mv.length ex)) (fun _ hk=>hk.2) (.slice gX mw.length gQ)) (fun _ hk=>hk.2) (.int .i64 (Ee (lh+1)))) (fun _ hk=>hk.2) (.slice iy nV.length io)) (fun _ hk=>hk.1.1),by(with_reducible repeat(first|apply Kd.al|apply Kd.ak|apply Kd.aY));exact Kd.aE (Kd.I (p:=⟨fv,4,none⟩) (Kd.I (p:=⟨fv,3,none⟩) (Kd.I (p:=⟨fv,2,none⟩) (Kd.I (p:=⟨fv,1,none⟩) (Kd.I (p:=⟨fv,0,none⟩) (Kd.ao qx.out gj.out (by decide)) (fun _ hk=>hk.2) (.int .i64 oe)) (fun _ hk=>hk.2) (.slice fM mv.length ex)) (fun _ hk=>hk.2) (.slice gX mw.length gQ)) (fun _ hk=>hk.2) (.int .i64 (Ee (lh+1)))) (fun _ hk=>hk.2) (.slice iy nV.length io)) (fun _ hk=>trivial),bF HB iI kG nE⟩
mutual
def g9.l0:Nat→List (aV)→List (aV)→List (aV)→Int→Int→Option ((List (aV)))
 |0,_,_,_,_,_=>none
 |k+1,x0,x3,x8,x9,i5=>if i5<x9 then(if 0≤i5 then(if i5<(x8.length:Int)then(if((J x8 i5).f0)=1 then(g9.l1 k x0 x3 x8 x9 i5 x0 (x0.length:Int) 0 ((J x8 i5).f0) ((J x8 i5).f1) ((J x8 i5).f2.f0) ((J x8 i5).f2.f1) ((J x8 i5).f3))else(g9.l0 k x0 x3 x8 x9 (Ee (i5+1))))else(none))else(none))else(some x3)
def g9.l1:Nat→List (aV)→List (aV)→List (aV)→Int→Int→List (aV)→Int→Int→Int→Int→Int→Int→Int→Option ((List (aV)))
 |0,_,_,_,_,_,_,_,_,_,_,_,_,_=>none
 |k+1,x0,x3,x8,x9,i5,fS,i4,dy,VM,Q0,VN,Q1,VO=>if dy<i4 then(if 0≤dy then(if dy<(fS.length:Int)then(if((J fS dy).f1)=Q0 then(g9.l1 k x0 x3 x8 x9 i5 fS i4 (Ee (dy+1)) VM Q0 VN Q1 ((J fS dy).f3))else(g9.l1 k x0 x3 x8 x9 i5 fS i4 (Ee (dy+1)) VM Q0 VN Q1 VO))else(none))else(none))else(if VO<Q1 then(if x3.length<3518437208883 then(g9.l0 k x0 (x3++[(⟨VM,Q0,(⟨VN,Q1⟩:X),VO⟩:aV)]) x8 x9 (Ee (i5+1)))else(none))else(g9.l0 k x0 x3 x8 x9 (Ee (i5+1))))
end
def g9.f(k:Nat)(l0:List (aV)):Option ((List (aV))):=g9.l0 k l0 ([]:List (aV)) l0 (l0.length:Int) 0
theorem g9.dh:∀k,(∀y0 y1 y2 y3 y4,aG (g9.l0 k y0 y1 y2 y3 y4) (g9.l0 (k+1) y0 y1 y2 y3 y4))∧(∀y0 y1 y2 y3 y4 y5 y6 y7 y8 y9 lC m3 n0,aG (g9.l1 k y0 y1 y2 y3 y4 y5 y6 y7 y8 y9 lC m3 n0) (g9.l1 (k+1) y0 y1 y2 y3 y4 y5 y6 y7 y8 y9 lC m3 n0))
 |0=>⟨fun _ _ _ _ _ r h=>by simp[g9.l0]at h,fun _ _ _ _ _ _ _ _ _ _ _ _ _ r h=>by simp[g9.l1]at h⟩
 |k+1=>by
  obtain⟨bz,ih1⟩:=g9.dh k
  refine⟨?_, ?_⟩<;>intros<;>first|unfold g9.l0|unfold g9.l1
  all_goals repeat' first
   |(with_reducible exact bz _ _ _ _ _)
   |(with_reducible exact ih1 _ _ _ _ _ _ _ _ _ _ _ _ _)
   |(with_reducible exact aG.refl _)
   |(with_reducible exact aG.none _)
   |(with_reducible refine aG.ite ?_ ?_)
   |(with_reducible refine aG.bind ?_ (fun _=> ?_))
   |exact bz _ _ _ _ _
   |exact ih1 _ _ _ _ _ _ _ _ _ _ _ _ _
   |exact aG.none _
   |refine aG.ite ?_ ?_
   |refine aG.bind ?_ (fun _=> ?_)
theorem g9.mono:∀a0 k,aG (g9.f k a0) (g9.f (k+1) a0):=by
 intro a0 k;obtain⟨bz,ih1⟩:=g9.dh k;unfold g9.f
 repeat' with_reducible first|exact bz _ _ _ _ _|exact ih1 _ _ _ _ _ _ _ _ _ _ _ _ _|exact aG.refl _|exact aG.none _|refine aG.ite ?_ ?_|refine aG.bind ?_ (fun _=> ?_)
theorem g9.calls(k:Nat)(A0:Option Addr)(c0:Nat)(l0:List (aV))(r:List (aV))(w:World)(hr0:Kd.C cV w A0 l0.length l0)(hc0:l0.length≤c0)(h:g9.f k l0=some r):
 Calls sX 59 #[.slice A0 l0.length c0] w fun e w'=>∃n3:Value,e= .returned (n3)∧Kd.R cV 40 w' w.heap.size (fun _=>True) n3 r∧Below w.heap.size w w':=by
 have vt:=aaR;have fg:=Ah hr0;have rU:=Ah hc0;clear hr0 hc0;have HB:=Ah (Below.refl w.heap.size w);have H:(g9.l0 k l0 ([]:List (aV)) l0 (l0.length:Int) 0)=some r:=h;clear h;have H':=Ah H;clear H
 go_enter Try.func59,Try.ntmps59
 go_wp2
 go_loopg [3,10] k (fun kq v3 v10 w'=>∃ (d9:List (aV)) (bG:Int),v10= .int .i64 bG∧Y (g9.l0 kq l0 d9 l0 (l0.length:Int) bG=some r)∧Y (kq≤k)∧Y (Kd.R cV 40 w' w.heap.size (fun _=>True) v3 d9)∧Y (Below w.heap.size w w'))
 case atStart=>exact⟨(([]:List (aV))),(0),e3,H',⟨eH _⟩,⟨by first|exact Kd.dG _ _ _ _ _|exact Kd.dY _ _ _ _ _|exact Kd.dZ _ _ _ _ _|exact Kd.dW _ _ _ _ _|exact Kd.dX _ _ _ _ _⟩,⟨bs HB⟩⟩
 case round=>
  clear H';obtain⟨d9,bG,rfl,HA,dC,ck,HB⟩:=hrel
  cases gk with
  |zero=>exact absurd HA.out (by simp[g9.l0])
  |succ k1=>
   have H:=HA.out;clear HA;simp only[g9.l0]at H
   by_cases c2:bG<(l0.length:Int)
   rotate_left
   ·
    rw[if_neg c2]at H;have sG:=f7 c2;clear c2;obtain rfl:=Option.some.inj H
    go_wp2
    go_ret
    exact⟨_,er,by(with_reducible repeat(first|apply Kd.al|apply Kd.ak|apply Kd.aY));exact ck.out,bs HB⟩
   rw[if_pos c2]at H;have sG:=bS c2;clear c2
   by_cases c3:0≤bG
   rotate_left
   ·
    rw[if_neg c3]at H;exact absurd H (by simp)
   rw[if_pos c3]at H;have iZ:=bS c3;clear c3
   by_cases c4:bG<(l0.length:Int)
   rotate_left
   ·
    rw[if_neg c4]at H;exact absurd H (by simp)
   rw[if_pos c4]at H;have ky:=bS c4;clear c4
   by_cases c5:((J l0 bG).f0)=1
   rotate_left
   ·
    rw[if_neg c5]at H;have o9:=jI c5;have Ru:=jJ c5;have H':=Ah H;clear H;have C9:0≤(bG:Int):=od;have CA:bG<(l0.length:Int):=od;obtain⟨XQ,Z3,Fo,Fp,Fq,Fr,Fs⟩:=jQ fg.out bG C9 CA
    cases Z3
    replace Fo:=hq HB Fo;replace Fp:=hq HB Fp;replace Fq:=hq HB Fq;replace Fr:=hq HB Fr;replace Fs:=hq HB Fs;replace C9:=eq_true C9;replace CA:=eq_true CA
    go_wp2_with (first|((with_reducible refine am (N:=5) rfl ?_);refine ar 5 40 #[.int .i64 0,.int .i64 0,.int .i64 0,.int .i64 0,.int .i64 0] ?_;intro nz hg n4 lK hb;replace ck:=Ah (Kd.bW (Kd.iq (rr ck.out) nz (aaq hg.symm)) hb);have GW358:=gw hg (bs HB);have qy:=gw hg (bs HB);replace HB:=Ah (aK (bs HB) hb);clear hb hg;obtain⟨FC,FD,hcz26_2,hcz26_3,hcz26_4⟩:=ah lK;obtain⟨FE,FF,hfz26_2,hfz26_3,hfz26_4⟩:=af lK))
    go_roundg k1
    case measure=>have:=dC.out;omega
    case rel=>exact⟨(d9),(Ee (bG+1)),e3,H',⟨by have:=dC.out;omega⟩,⟨by(with_reducible repeat(first|apply Kd.al|apply Kd.ak|apply Kd.aY));exact Kd.aE (Kd.I (p:=⟨nz,4,none⟩) (Kd.I (p:=⟨nz,3,none⟩) (Kd.I (p:=⟨nz,2,none⟩) (Kd.I (p:=⟨nz,1,none⟩) (Kd.I (p:=⟨nz,0,none⟩) (Kd.aE ck.out (fun k_ hk=>(⟨hk,hk.2⟩:_∧k_≠nz))) (fun _ hk=>hk.2) (.int .i64 ((J l0 bG).f0))) (fun _ hk=>hk.2) (.int .i64 ((J l0 bG).f1))) (fun _ hk=>hk.2) (.int .i64 ((J l0 bG).f2.f0))) (fun _ hk=>hk.2) (.int .i64 ((J l0 bG).f2.f1))) (fun _ hk=>hk.2) (.int .i64 ((J l0 bG).f3))) (fun _ hk=>trivial)⟩,⟨aQ HB qy⟩⟩
   rw[if_pos c5]at H;have o9:=jm c5;have Ru:=jn c5;clear c5;have H':=Ah H;clear H;have C9:0≤(bG:Int):=od;have CA:bG<(l0.length:Int):=od;obtain⟨XQ,Z3,Fo,Fp,Fq,Fr,Fs⟩:=jQ fg.out bG C9 CA
   cases Z3
   replace Fo:=hq HB Fo;replace Fp:=hq HB Fp;replace Fq:=hq HB Fq;replace Fr:=hq HB Fr;replace Fs:=hq HB Fs;replace C9:=eq_true C9;replace CA:=eq_true CA
   go_wp2_with (first|((with_reducible refine am (N:=5) rfl ?_);refine ar 5 40 #[.int .i64 0,.int .i64 0,.int .i64 0,.int .i64 0,.int .i64 0] ?_;intro nz hg w6 lK hb;replace ck:=Ah (Kd.bW (Kd.iq (rr ck.out) nz (aaq hg.symm)) hb);have GW358:=gw hg (bs HB);have qy:=gw hg (bs HB);replace HB:=Ah (aK (bs HB) hb);clear hb hg;obtain⟨pD,pE,uA,QH,QI⟩:=ah lK;obtain⟨pF,pG,uB,QJ,QK⟩:=af lK))
   go_loopg [19] k1 (fun kq v19 w'=>∃ (im:Int) (xJ:Int),v19= .int .i64 im∧Y (g9.l1 kq l0 d9 l0 (l0.length:Int) bG l0 (l0.length:Int) im ((J l0 bG).f0) ((J l0 bG).f1) ((J l0 bG).f2.f0) ((J l0 bG).f2.f1) xJ=some r)∧Y (kq≤k1)∧Y (Kd.R cV 40 w' w.heap.size (fun k_=>k_≠nz) u3 d9)∧Y (w'.heap[nz]?=some (.cells #[.int .i64 ((J l0 bG).f0),.int .i64 ((J l0 bG).f1),.int .i64 ((J l0 bG).f2.f0),.int .i64 ((J l0 bG).f2.f1),.int .i64 xJ] 40 (0,0)))∧Y (Below w.heap.size w w'))
   case atStart=>exact⟨(0),((J l0 bG).f3),e3,H',⟨eH _⟩,⟨by(with_reducible repeat(first|apply Kd.al|apply Kd.ak|apply Kd.aY));exact Kd.aE (Kd.I (p:=⟨nz,4,none⟩) (Kd.I (p:=⟨nz,3,none⟩) (Kd.I (p:=⟨nz,2,none⟩) (Kd.I (p:=⟨nz,1,none⟩) (Kd.I (p:=⟨nz,0,none⟩) (Kd.aE ck.out (fun k_ hk=>(⟨hk,hk.2⟩:_∧k_≠nz))) (fun _ hk=>hk.2) (.int .i64 ((J l0 bG).f0))) (fun _ hk=>hk.2) (.int .i64 ((J l0 bG).f1))) (fun _ hk=>hk.2) (.int .i64 ((J l0 bG).f2.f0))) (fun _ hk=>hk.2) (.int .i64 ((J l0 bG).f2.f1))) (fun _ hk=>hk.2) (.int .i64 ((J l0 bG).f3))) (fun _ hk=>hk.1.2)⟩,⟨by exact pb lK⟩,⟨aQ HB qy⟩⟩
   case round=>
    clear H'
    try clear c2
    try clear sG
    try clear p2
    try clear c3
    try clear iZ
    try clear p3
    try clear q3
    try clear hx3
    try clear c4
    try clear ky
    try clear c5
    try clear o9
    try clear Ru
    try clear pD pE uA QH QI
    try clear pF pG uB QJ QK
    try clear Fo
    try clear Fp
    try clear Fq
    try clear Fr
    try clear Fs
    try clear C9
    try clear CA
    obtain⟨im,xJ,rfl,HA,dF,ck,lK,HB⟩:=hrel
    cases gk with
    |zero=>exact absurd HA.out (by simp[g9.l1])
    |succ k2=>
     have H:=HA.out;clear HA;simp only[g9.l1]at H
     by_cases c8:im<(l0.length:Int)
     rotate_left
     ·
      rw[if_neg c8]at H;have qW:=f7 c8;clear c8
      by_cases c20:xJ<((J l0 bG).f2.f1)
      rotate_left
      ·
       rw[if_neg c20]at H;have BJ:=f7 c20;clear c20;have H':=Ah H;clear H;obtain⟨Cz,D0,Q2,Q3,Q4⟩:=ah lK;obtain⟨D1,D2,Q5,Q6,Q7⟩:=af lK
       go_wp2
       go_roundg k2
       case measure=>have:=dC.out;have:=dF.out;omega
       case rel=>exact⟨(d9),(Ee (bG+1)),e3,H',⟨by have:=dC.out;have:=dF.out;omega⟩,rm ck (fun _ hk=>trivial),⟨aQ HB qy⟩⟩
      rw[if_pos c20]at H;have BJ:=bS c20;clear c20
      by_cases c21:d9.length<3518437208883
      rotate_left
      ·
       rw[if_neg c21]at H;exact absurd H (by simp)
      rw[if_pos c21]at H;have LMc21:=Ah c21;clear c21;obtain⟨y361,LE⟩:∃y_:List (aV),y_=(d9++[(⟨((J l0 bG).f0),((J l0 bG).f1),(⟨((J l0 bG).f2.f0),((J l0 bG).f2.f1)⟩:X),xJ⟩:aV)]):=⟨_,rfl⟩
      replace H:(g9.l0 k2 l0 y361 l0 (l0.length:Int) (Ee (bG+1)))=some r:=by first|(rw[LE];with_reducible exact H)|(have ai:=(N6 _ _).symm.trans H;rw[LE];with_reducible exact ai)|(have ai:=(N6 _ _).symm.trans H;with_reducible exact ai)|with_reducible exact H|(rw[LE];exact H)|exact H
      have Ny361:=Ah LE;clear LE;have H':=Ah H;clear H;obtain⟨ut,uu,xb,yr,yt⟩:=ah lK;obtain⟨uw,ux,xc,yw,yx⟩:=af lK
      go_wp2_with (first|((with_reducible refine iG (b:= .append) (xs:= #[.tmp 38,.tmp 40]) rfl ?_);at_builtin;refine Kd.jp cV (w0:=w) w.heap.size rfl (.tmp 38) (.tmp 40) 26 40 (.agg #[(.int .i64 0),(.int .i64 0),(.int .i64 0),(.int .i64 0),(.int .i64 0)]) 40 rfl aaG qF rfl (by decide) (by omega) u3 d9 (⟨((J l0 bG).f0),((J l0 bG).f1),(⟨((J l0 bG).f2.f0),((J l0 bG).f2.f1)⟩:X),xJ⟩:aV) [.int .i64 ((J l0 bG).f0),.int .i64 ((J l0 bG).f1),.int .i64 ((J l0 bG).f2.f0),.int .i64 ((J l0 bG).f2.f1),.int .i64 xJ] (fun k_=>k_≠nz) (fun _=>False) rfl rfl ?aP (fun _ hk=>hk.elim) ?aF ?aO ?aB ?aS ?aL ?_;(case aP=>exact sj _ _ _ (⟨((J l0 bG).f0),((J l0 bG).f1),(⟨((J l0 bG).f2.f0),((J l0 bG).f2.f1)⟩:X),xJ⟩:aV));(case aB=>exact(aQ HB qy));(case aF=>exact(fun k_ hk=>Kd.jr (bk lK) k_ hk));(case aO=>exact(rr ck.out));(case aS=>exact(bR (aQ HB qy)));(case aL=>have:=LMc21.out;omega);intro v362 fV ho hb hg hat;rw[←Ny361.out]at ho;replace lK:=Ah (cC (bk lK) hg (Kd.jq ck.out (fun _ hk=>hk)));replace HB:=Ah (hb);have HO363:=Ah (ho);clear ck;clear ho hb hg hat))
      go_roundg k2
      case measure=>have:=dC.out;have:=dF.out;omega
      case rel=>exact⟨(y361),(Ee (bG+1)),e3,H',⟨by have:=dC.out;have:=dF.out;omega⟩,rm HO363 (fun _ hk=>trivial),⟨aQ HB qy⟩⟩
     rw[if_pos c8]at H;have qW:=bS c8;clear c8
     by_cases c9:0≤im
     rotate_left
     ·
      rw[if_neg c9]at H;exact absurd H (by simp)
     rw[if_pos c9]at H;have pO:=bS c9;clear c9
     by_cases c10:im<(l0.length:Int)
     rotate_left
     ·
      rw[if_neg c10]at H;exact absurd H (by simp)
     rw[if_pos c10]at H;have zV:=bS c10;clear c10
     by_cases c11:((J l0 im).f1)=((J l0 bG).f1)
     rotate_left
     ·
      rw[if_neg c11]at H;have BS:=jI c11;have c11b1:=jJ c11;have H':=Ah H;clear H;have EP:0≤(im:Int):=od;have EQ:im<(l0.length:Int):=od;obtain⟨XR,Z4,J5,J6,J7,J8,J9⟩:=jQ fg.out im EP EQ;obtain rfl:XQ=XR:=(by injection Z4);replace J5:=hq HB J5;replace J6:=hq HB J6;replace J7:=hq HB J7;replace J8:=hq HB J8;replace J9:=hq HB J9;replace EP:=eq_true EP;replace EQ:=eq_true EQ
      go_wp2_with (first|((with_reducible refine am (N:=7) rfl ?_);refine ar 7 40 #[.int .i64 0,.int .i64 0,.int .i64 0,.int .i64 0,.int .i64 0] ?_;intro qz hg w16 LF hb;replace ck:=Ah (Kd.bW (Kd.iq (rr ck.out) qz (aaq hg.symm)) hb);have GW360:=gw hg (aQ HB qy);have XS:=gw hg (aQ HB qy);replace HB:=Ah (aK (aQ HB qy) hb);have yf:=nn lK hg;have TM:=nm lK hg;replace lK:=nb lK hb;clear hb hg;have hnb17:=TM.out;have hnc17:=yf.out;obtain⟨uy,uz,xi,xj,xk⟩:=ah LF;obtain⟨vA,vB,xl,xm,xn⟩:=af LF;obtain⟨Ig,Ih,hcz19_2,hcz19_3,hcz19_4⟩:=ah lK;obtain⟨Ii,Ij,hfz19_2,hfz19_3,hfz19_4⟩:=af lK))
      go_roundg k2
      case measure=>have:=dC.out;have:=dF.out;omega
      case rel=>exact⟨(Ee (im+1)),(xJ),e3,H',⟨by have:=dC.out;have:=dF.out;omega⟩,⟨by(with_reducible repeat(first|apply Kd.al|apply Kd.ak|apply Kd.aY));exact Kd.aE (Kd.I (p:=⟨qz,4,none⟩) (Kd.I (p:=⟨qz,3,none⟩) (Kd.I (p:=⟨qz,2,none⟩) (Kd.I (p:=⟨qz,1,none⟩) (Kd.I (p:=⟨qz,0,none⟩) (Kd.aE ck.out (fun k_ hk=>(⟨hk,hk.2⟩:_∧k_≠qz))) (fun _ hk=>hk.2) (.int .i64 ((J l0 im).f0))) (fun _ hk=>hk.2) (.int .i64 ((J l0 im).f1))) (fun _ hk=>hk.2) (.int .i64 ((J l0 im).f2.f0))) (fun _ hk=>hk.2) (.int .i64 ((J l0 im).f2.f1))) (fun _ hk=>hk.2) (.int .i64 ((J l0 im).f3))) (fun _ hk=>hk.1.1)⟩,⟨bf lK yf⟩,⟨aa HB qy XS⟩⟩
     rw[if_pos c11]at H;have BS:=jm c11;have c11b1:=jn c11;clear c11;have H':=Ah H;clear H;have EP:0≤(im:Int):=od;have EQ:im<(l0.length:Int):=od;obtain⟨XR,Z4,J5,J6,J7,J8,J9⟩:=jQ fg.out im EP EQ;obtain rfl:XQ=XR:=(by injection Z4);replace J5:=hq HB J5;replace J6:=hq HB J6;replace J7:=hq HB J7;replace J8:=hq HB J8;replace J9:=hq HB J9;replace EP:=eq_true EP;replace EQ:=eq_true EQ
     go_wp2_with (first|((with_reducible refine am (N:=7) rfl ?_);refine ar 7 40 #[.int .i64 0,.int .i64 0,.int .i64 0,.int .i64 0,.int .i64 0] ?_;intro qz hg yX LF hb;replace ck:=Ah (Kd.bW (Kd.iq (rr ck.out) qz (aaq hg.symm)) hb);have GW360:=gw hg (aQ HB qy);have XS:=gw hg (aQ HB qy);replace HB:=Ah (aK (aQ HB qy) hb);have yf:=nn lK hg;have TM:=nm lK hg;replace lK:=nb lK hb;clear hb hg;have XO:=TM.out;have XP:=yf.out;obtain⟨yy,yz,hcz14_2,hcz14_3,hcz14_4⟩:=ah LF;obtain⟨z6,z7,hfz14_2,hfz14_3,hfz14_4⟩:=af LF;obtain⟨Aq,Ar,Pl,UX,UY⟩:=ah lK;obtain⟨As,At,Pm,UZ,Ua⟩:=af lK))
     go_roundg k2
     case measure=>have:=dC.out;have:=dF.out;omega
     case rel=>exact⟨(Ee (im+1)),((J l0 im).f3),e3,H',⟨by have:=dC.out;have:=dF.out;omega⟩,⟨by(with_reducible repeat(first|apply Kd.al|apply Kd.ak|apply Kd.aY));exact Kd.aE (Kd.I (p:=⟨nz,4,none⟩) (Kd.I (p:=⟨qz,4,none⟩) (Kd.I (p:=⟨qz,3,none⟩) (Kd.I (p:=⟨qz,2,none⟩) (Kd.I (p:=⟨qz,1,none⟩) (Kd.I (p:=⟨qz,0,none⟩) (Kd.aE (Kd.aE ck.out (fun k_ hk=>(⟨hk,hk.2⟩:_∧k_≠qz))) (fun k_ hk=>(⟨hk,hk.1.1⟩:_∧k_≠nz))) (fun _ hk=>hk.1.2) (.int .i64 ((J l0 im).f0))) (fun _ hk=>hk.1.2) (.int .i64 ((J l0 im).f1))) (fun _ hk=>hk.1.2) (.int .i64 ((J l0 im).f2.f0))) (fun _ hk=>hk.1.2) (.int .i64 ((J l0 im).f2.f1))) (fun _ hk=>hk.1.2) (.int .i64 ((J l0 im).f3))) (fun _ hk=>hk.2) (.int .i64 ((J l0 im).f3))) (fun _ hk=>hk.1.1.1)⟩,⟨by(with_reducible repeat(first|refine bo ?_ _|refine bL ?_|refine ba ?_ _));refine yi (cs:= #[.int .i64 ((J l0 bG).f0),.int .i64 ((J l0 bG).f1),.int .i64 ((J l0 bG).f2.f0),.int .i64 ((J l0 bG).f2.f1),.int .i64 xJ]) ?_ 4 _ rfl;(with_reducible repeat(first|refine bo ?_ _|refine bL ?_|refine ba ?_ _));refine bw ?_ yf.out _;(with_reducible repeat(first|refine bo ?_ _|refine bL ?_|refine ba ?_ _));refine bw ?_ yf.out _;(with_reducible repeat(first|refine bo ?_ _|refine bL ?_|refine ba ?_ _));refine bw ?_ yf.out _;(with_reducible repeat(first|refine bo ?_ _|refine bL ?_|refine ba ?_ _));refine bw ?_ yf.out _;(with_reducible repeat(first|refine bo ?_ _|refine bL ?_|refine ba ?_ _));refine bw ?_ yf.out _;exact bk lK⟩,⟨aa HB qy XS⟩⟩
mutual
def dM.j0:Nat→Int→Int→Bool→Int→List (X)→List (X)→Int→List (aV)→Option (Int×(List (X))×(List (X))×Int×(List (aV))×Bool)
 |0,_,_,_,_,_,_,_,_=>none
 |k+1,x1,x2,fS,so,sp,sq,sr,ss=>if fS=true then(some (0,([]:List (X)),([]:List (X)),0,([]:List (aV)),false))else(dM.j1 k x1 x2 so sp sq sr ss)
def dM.j1:Nat→Int→Int→Int→List (X)→List (X)→Int→List (aV)→Option (Int×(List (X))×(List (X))×Int×(List (aV))×Bool)
 |0,_,_,_,_,_,_,_=>none
 |k+1,x1,x2,so,sp,sq,sr,ss=>(m4.f k so sp sq sr ss).bind fun GS=>((g9.f k GS.2.2.2.2).bind fun dN=>(dM.l0 k x1 x2 dN (dN.length:Int) 0 GS.1 GS.2.1 GS.2.2.1 GS.2.2.2.1 GS.2.2.2.2))
def dM.l0:Nat→Int→Int→List (aV)→Int→Int→Int→List (X)→List (X)→Int→List (aV)→Option (Int×(List (X))×(List (X))×Int×(List (aV))×Bool)
 |0,_,_,_,_,_,_,_,_,_,_=>none
 |k+1,x1,x2,k6,x24,x25,so,sp,sq,sr,ss=>if x25<x24 then(dM.j3 k x1 x2 k6 x24 x25 so sp sq sr ss)else(some (0,([]:List (X)),([]:List (X)),0,([]:List (aV)),false))
def dM.j3:Nat→Int→Int→List (aV)→Int→Int→Int→List (X)→List (X)→Int→List (aV)→Option (Int×(List (X))×(List (X))×Int×(List (aV))×Bool)
 |0,_,_,_,_,_,_,_,_,_,_=>none
 |k+1,x1,x2,k6,x24,x25,so,sp,sq,sr,ss=>if 0≤x25 then(if x25<(k6.length:Int)then(if((J k6 x25).f1)=x1 then(dM.j4 k x1 x2 so sp sq sr ss ((J k6 x25).f0) ((J k6 x25).f1) ((J k6 x25).f2.f0) ((J k6 x25).f2.f1) ((J k6 x25).f3))else(dM.l0 k x1 x2 k6 x24 (Ee (x25+1)) so sp sq sr ss))else(none))else(none)
def dM.j4:Nat→Int→Int→Int→List (X)→List (X)→Int→List (aV)→Int→Int→Int→Int→Int→Option (Int×(List (X))×(List (X))×Int×(List (aV))×Bool)
 |0,_,_,_,_,_,_,_,_,_,_,_,_=>none
 |k+1,x1,x2,so,sp,sq,sr,ss,x383000,x383001,x383002,x383003,x383004=>if x2<(Ee (x383003-x383004))then(if ss.length<3518437208883 then((some (ss++[(⟨2,x1,(⟨0,0⟩:X),Ee (x383004+x2)⟩:aV)]:List (aV))).bind fun rM=>((f9.f k so sp sq sr rM).bind fun Mj=>(if Mj=true then(some (so,sp,sq,sr,rM,true))else(some (0,([]:List (X)),([]:List (X)),0,([]:List (aV)),false)))))else(none))else(if ss.length<3518437208883 then((some (ss++[(⟨2,x1,(⟨0,0⟩:X),x383003⟩:aV)]:List (aV))).bind fun rN=>((f9.f k so sp sq sr rN).bind fun Mk=>(if Mk=true then(some (so,sp,sq,sr,rN,true))else(some (0,([]:List (X)),([]:List (X)),0,([]:List (aV)),false)))))else(none))
end
def dM.f(k:Nat)(aA:Int)(U:List (X))(aH:List (X))(bl:Int)(bO:List (aV))(a1:Int)(a2:Int):Option (Int×(List (X))×(List (X))×Int×(List (aV))×Bool):=(f9.f k aA U aH bl bO).bind fun Ml=>(if Ml=true then(dM.j0 k a1 a2 (decide (a2<1)) aA U aH bl bO)else(dM.j0 k a1 a2 true aA U aH bl bO))
theorem dM.dh:∀k,(∀y0 y1 y2 y3 y4 y5 y6 y7,aG (dM.j0 k y0 y1 y2 y3 y4 y5 y6 y7) (dM.j0 (k+1) y0 y1 y2 y3 y4 y5 y6 y7))∧(∀y0 y1 y2 y3 y4 y5 y6,aG (dM.j1 k y0 y1 y2 y3 y4 y5 y6) (dM.j1 (k+1) y0 y1 y2 y3 y4 y5 y6))∧(∀y0 y1 y2 y3 y4 y5 y6 y7 y8 y9,aG (dM.l0 k y0 y1 y2 y3 y4 y5 y6 y7 y8 y9) (dM.l0 (k+1) y0 y1 y2 y3 y4 y5 y6 y7 y8 y9))∧(∀y0 y1 y2 y3 y4 y5 y6 y7 y8 y9,aG (dM.j3 k y0 y1 y2 y3 y4 y5 y6 y7 y8 y9) (dM.j3 (k+1) y0 y1 y2 y3 y4 y5 y6 y7 y8 y9))∧(∀y0 y1 y2 y3 y4 y5 y6 y7 y8 y9 lC m3,aG (dM.j4 k y0 y1 y2 y3 y4 y5 y6 y7 y8 y9 lC m3) (dM.j4 (k+1) y0 y1 y2 y3 y4 y5 y6 y7 y8 y9 lC m3))
 |0=>⟨fun _ _ _ _ _ _ _ _ r h=>by simp[dM.j0]at h,fun _ _ _ _ _ _ _ r h=>by simp[dM.j1]at h,fun _ _ _ _ _ _ _ _ _ _ r h=>by simp[dM.l0]at h,fun _ _ _ _ _ _ _ _ _ _ r h=>by simp[dM.j3]at h,fun _ _ _ _ _ _ _ _ _ _ _ _ r h=>by simp[dM.j4]at h⟩
 |k+1=>by
  obtain⟨bz,ih1,ih2,ih3,AF⟩:=dM.dh k
  refine⟨?_, ?_, ?_, ?_, ?_⟩<;>intros<;>first|unfold dM.j0|unfold dM.j1|unfold dM.l0|unfold dM.j3|unfold dM.j4
  all_goals repeat' first
   |(with_reducible exact bz _ _ _ _ _ _ _ _)
   |(with_reducible exact ih1 _ _ _ _ _ _ _)
   |(with_reducible exact ih2 _ _ _ _ _ _ _ _ _ _)
   |(with_reducible exact ih3 _ _ _ _ _ _ _ _ _ _)
   |(with_reducible exact AF _ _ _ _ _ _ _ _ _ _ _ _)
   |(with_reducible exact f9.mono _ _ _ _ _ _)
   |(with_reducible exact g9.mono _ _)
   |(with_reducible exact m4.mono _ _ _ _ _ _)
   |(with_reducible exact aG.refl _)
   |(with_reducible exact aG.none _)
   |(with_reducible refine aG.ite ?_ ?_)
   |(with_reducible refine aG.bind ?_ (fun _=> ?_))
   |exact bz _ _ _ _ _ _ _ _
   |exact ih1 _ _ _ _ _ _ _
   |exact ih2 _ _ _ _ _ _ _ _ _ _
   |exact ih3 _ _ _ _ _ _ _ _ _ _
   |exact AF _ _ _ _ _ _ _ _ _ _ _ _
   |exact f9.mono _ _ _ _ _ _
   |exact g9.mono _ _
   |exact m4.mono _ _ _ _ _ _
   |exact aG.none _
   |refine aG.ite ?_ ?_
   |refine aG.bind ?_ (fun _=> ?_)
theorem dM.mono:∀a0 a1 a2 a3 a4 a5 a6 k,aG (dM.f k a0 a1 a2 a3 a4 a5 a6) (dM.f (k+1) a0 a1 a2 a3 a4 a5 a6):=by
 intro a0 a1 a2 a3 a4 a5 a6 k;obtain⟨bz,ih1,ih2,ih3,AF⟩:=dM.dh k;unfold dM.f
 repeat' with_reducible first|exact bz _ _ _ _ _ _ _ _|exact ih1 _ _ _ _ _ _ _|exact ih2 _ _ _ _ _ _ _ _ _ _|exact ih3 _ _ _ _ _ _ _ _ _ _|exact AF _ _ _ _ _ _ _ _ _ _ _ _|exact f9.mono _ _ _ _ _ _|exact g9.mono _ _|exact m4.mono _ _ _ _ _ _|exact aG.refl _|exact aG.none _|refine aG.ite ?_ ?_|refine aG.bind ?_ (fun _=> ?_)
theorem dM.calls(k:Nat)(aA:Int)(bH:Option Addr)(ay:Nat)(U:List (X))(bC:Option Addr)(bD:Nat)(aH:List (X))(bl:Int)(em:Option Addr)(en:Nat)(bO:List (aV))(a1:Int)(a2:Int)(r1:Int)(r2:List (X))(r3:List (X))(r4:Int)(r5:List (aV))(r6:Bool)(w:World)(fC:Kd.C ag w bH U.length U)(fD:U.length≤ay)(fE:Kd.C ag w bC aH.length aH)(fF:aH.length≤bD)(mh:Kd.C cV w em bO.length bO)(mi:bO.length≤en)(h:dM.f k aA U aH bl bO a1 a2=some (r1,r2,r3,r4,r5,r6)):
 Calls Try.prog 50 #[.agg #[.int .i64 aA,.slice bH U.length ay,.slice bC aH.length bD,.int .i64 bl,.slice em bO.length en],.int .i64 a1,.int .i64 a2] w fun e w'=>∃et eZ lm:Value,e= .returned (.tuple #[.agg #[.int .i64 r1,et,eZ,.int .i64 r4,lm],.bool r6])∧Kd.R ag 38 w' w.heap.size (fun k_=>some k_≠(eZ:Value).ownBlock) et r2∧Kd.R ag 38 w' w.heap.size (fun k_=>some k_≠(et:Value).ownBlock) eZ r3∧Kd.R cV 40 w' w.heap.size (fun _=>True) lm r5∧Below w.heap.size w w':=by
 have uP:=aab;have vt:=aaR;have cx:=Ah fC;have dv:=Ah fD;clear fC fD;have eV:=Ah fE;have eW:=Ah fF;clear fE fF;have ls:=Ah mh;have m8:=Ah mi;clear mh mi;have HB:=Ah (Below.refl w.heap.size w);have H:((f9.f k aA U aH bl bO).bind fun Ml=>(if Ml=true then(dM.j0 k a1 a2 (decide (a2<1)) aA U aH bl bO)else(dM.j0 k a1 a2 true aA U aH bl bO)))=some (r1,r2,r3,r4,r5,r6):=h;clear h;have rW:=Ah H;clear H
 go_enter Try.func50,Try.ntmps50
 go_upto_region 1 with(first|((with_reducible refine am (N:=3) rfl ?_);refine ar 3 28 #[.int .i64 aA,.slice bH U.length ay,.slice bC aH.length bD,.int .i64 bl,.slice em bO.length en] ?_;intro yD hg w5 cN hb;have GW364:=gw hg (bs HB);have iN:=gw hg (bs HB);replace HB:=Ah (aK (bs HB) hb);clear hb hg)|((with_reducible refine am (N:=6) rfl ?_);refine ar 6 28 #[.int .i64 0,.slice none 0 0,.slice none 0 0,.int .i64 0,.slice none 0 0] ?_;intro iB hg w6 eE hb;have GW365:=gw hg (aQ HB iN);have ix:=gw hg (aQ HB iN);replace HB:=Ah (aK (aQ HB iN) hb);have F2:=nn cN hg;have ul:=nm cN hg;replace cN:=nb cN hb;clear hb hg))
 (try simp only[Act.put,g7,aad,aae])
 go_cut [17] (fun v17 wc=>∃ (kq:Nat) (R5:Bool),v17= .bool R5∧Y (dM.j0 kq a1 a2 R5 aA U aH bl bO=some (r1,r2,r3,r4,r5,r6))∧Y (kq≤k)∧Y (wc.heap[yD]?=some (.cells #[.int .i64 aA,(.slice bH U.length ay),(.slice bC aH.length bD),.int .i64 bl,(.slice em bO.length en)] 28 (0,0)))∧Y (wc.heap[iB]?=some (.cells #[.int .i64 0,(.slice none 0 0),(.slice none 0 0),.int .i64 0,(.slice none 0 0)] 28 (0,0)))∧Y (Below w.heap.size w wc))
 case first=>
  have H:=rW.out;clear rW;replace H:=Hc.mp H;obtain⟨Ml,pt,H⟩:=H
  try dsimp only at H
  have A7:=Ah pt;clear pt
  by_cases c8:Ml=true
  ·
   subst c8;rw[if_pos rfl]at H;have H':=Ah H;clear H;have hnb9:=F2.out;have hnc9:=ul.out;obtain⟨zJ,zK,zL,JA,JB⟩:=ah cN;obtain⟨zM,zN,zO,JC,JD⟩:=af cN
   go_wp2_with (first|((with_reducible refine bN (f:=9) rfl ?_);refine gL (some 12) rfl rfl aaY (by kernel_rfl) rfl #[.agg #[.int .i64 aA,.slice bH U.length ay,.slice bC aH.length bD,.int .i64 bl,.slice em bO.length en]] rfl ?_;(with_reducible refine(f9.calls k aA _ _ U _ _ aH bl _ _ bO true _ ?aJ ?aM ?ac ?au ?cI ?cW A7.out).mono ?_);(case aJ=>exact cb cx HB);(case aM=>exact dv.out);(case ac=>exact cb eV HB);(case au=>exact eW.out);(case cI=>exact cb ls HB);(case cW=>exact m8.out);rintro e NT ⟨rfl,hb⟩;refine⟨_,rfl, ?_⟩;replace cN:=nb cN hb;replace eE:=nb eE hb;replace HB:=Ah (aK (aa HB iN ix) hb);(try clear hb)))
   go_meet
   case rel=>exact⟨_,(decide (a2<1)),e3,H',⟨by first|omega|exact eH _⟩,⟨bk cN⟩,⟨bk eE⟩,⟨aa HB iN ix⟩⟩
  replace c8:=Q3.mpr c8;subst c8;rw[if_neg dc]at H;have H':=Ah H;clear H;have Ql:=F2.out;have Qm:=ul.out;obtain⟨pX,pY,rx,tq,tr⟩:=ah cN;obtain⟨pZ,pa,ry,tt,tu⟩:=af cN
  go_wp2_with (first|((with_reducible refine bN (f:=9) rfl ?_);refine gL (some 12) rfl rfl aaY (by kernel_rfl) rfl #[.agg #[.int .i64 aA,.slice bH U.length ay,.slice bC aH.length bD,.int .i64 bl,.slice em bO.length en]] rfl ?_;(with_reducible refine(f9.calls k aA _ _ U _ _ aH bl _ _ bO false _ ?aJ ?aM ?ac ?au ?cI ?cW A7.out).mono ?_);(case aJ=>exact cb cx HB);(case aM=>exact dv.out);(case ac=>exact cb eV HB);(case au=>exact eW.out);(case cI=>exact cb ls HB);(case cW=>exact m8.out);rintro e HX ⟨rfl,hb⟩;refine⟨_,rfl, ?_⟩;replace cN:=nb cN hb;replace eE:=nb eE hb;replace HB:=Ah (aK (aa HB iN ix) hb);(try clear hb)))
  go_meet
  case rel=>exact⟨_,(true),e3,H',⟨by first|omega|exact eH _⟩,⟨bk cN⟩,⟨bk eE⟩,⟨aa HB iN ix⟩⟩
 case rest=>
  clear rW
  try clear c1
  try clear p2
  try clear c5
  try clear c8
  try clear c9
  try clear c12
  try clear zJ zK zL JA JB
  try clear pX pY rx tq tr
  try clear zM zN zO JC JD
  try clear pZ pa ry tt tu
  obtain⟨kq,R5,rfl,HA,mX,cN,eE,HB⟩:=hcut
  cases kq with
  |zero=>exact absurd HA.out (by simp[dM.j0])
  |succ wn=>
   have H:=HA.out;clear HA;simp only[dM.j0]at H;have Z5:=Ah H;clear H
   go_upto_if 17 with(fail)
   go_cut [] (fun wc=>∃ (kq:Nat) (Sv:Int) (Sw:Int),Y (dM.j1 kq a1 a2 aA U aH bl bO=some (r1,r2,r3,r4,r5,r6))∧Y (kq≤wn)∧Y (wc.heap[yD]?=some (.cells #[.int .i64 aA,(.slice bH U.length ay),(.slice bC aH.length bD),.int .i64 bl,(.slice em bO.length en)] 28 (0,0)))∧Y (wc.heap[iB]?=some (.cells #[.int .i64 Sv,(.slice none 0 0),(.slice none 0 0),.int .i64 Sw,(.slice none 0 0)] 28 (0,0)))∧Y (Below w.heap.size w wc))
   case first=>
    have H:=Z5.out;clear Z5
    by_cases c16:R5=true
    rotate_left
    ·
     replace c16:=Q3.mpr c16;subst c16;rw[if_neg dc]at H;have H':=Ah H;clear H
     go_wp2
     go_meet
     case rel=>exact⟨_,(0),(0),H',⟨by have:=mX.out;first|omega|exact eH _⟩,⟨bk cN⟩,⟨bk eE⟩,⟨aa HB iN ix⟩⟩
    subst c16;rw[if_pos rfl]at H;simp only[SY,cM]at H;obtain⟨rfl,rfl,rfl,rfl,rfl,rfl⟩:=H;have hnb17:=ul.out;have hnc17:=F2.out;obtain⟨uy,uz,xi,xj,xk⟩:=ah eE;obtain⟨vA,vB,xl,xm,xn⟩:=af eE
    go_wp2
    refine bodyPost_ret (lT rfl _ _ iB 28 #[.int .i64 0,.slice none 0 0,.slice none 0 0,.int .i64 0,.slice none 0 0] (0,0) _ rfl (pb eE) aab rfl (by kernel_rfl)) rfl ?_;exact⟨_,_,_,er,by first|exact Kd.dG _ _ _ _ _|exact Kd.dY _ _ _ _ _|exact Kd.dZ _ _ _ _ _|exact Kd.dW _ _ _ _ _|exact Kd.dX _ _ _ _ _,by first|exact Kd.dG _ _ _ _ _|exact Kd.dY _ _ _ _ _|exact Kd.dZ _ _ _ _ _|exact Kd.dW _ _ _ _ _|exact Kd.dX _ _ _ _ _,by first|exact Kd.dG _ _ _ _ _|exact Kd.dY _ _ _ _ _|exact Kd.dZ _ _ _ _ _|exact Kd.dW _ _ _ _ _|exact Kd.dX _ _ _ _ _,aa HB iN ix⟩
   case rest=>
    clear Z5
    try clear c1
    try clear p2
    try clear c5
    try clear c8
    try clear c9
    try clear c12
    try clear c16
    try clear c17
    try clear zJ zK zL JA JB
    try clear pX pY rx tq tr
    try clear uy uz xi xj xk
    try clear zM zN zO JC JD
    try clear pZ pa ry tt tu
    try clear vA vB xl xm xn
    try clear p2
    obtain⟨kq,Sv,Sw,HA,S1,cN,eE,HB⟩:=hcut
    cases kq with
    |zero=>exact absurd HA.out (by simp[dM.j1])
    |succ S3=>
     have H:=HA.out;clear HA;simp only[dM.j1]at H;replace H:=Hc.mp H;obtain⟨⟨jv,iD,iE,jw,HM⟩,A190,H⟩:=H
     try dsimp only at H
     have A19:=Ah A190;clear A190;replace H:=Hc.mp H;obtain⟨dN,A200,H⟩:=H
     try dsimp only at H
     have kR:=Ah A200;clear A200;have H':=Ah H;clear H;have hnb21:=F2.out;have hnc21:=ul.out;obtain⟨ut,uu,xb,yr,yt⟩:=ah cN;obtain⟨uw,ux,xc,yw,yx⟩:=af cN
     go_wp2_with (first|((with_reducible refine bN (f:=51) rfl ?_);refine gL (some 20) rfl rfl Try.func51 (by kernel_rfl) rfl #[.agg #[.int .i64 aA,.slice bH U.length ay,.slice bC aH.length bD,.int .i64 bl,.slice em bO.length en]] rfl ?_;(with_reducible refine(m4.calls S3 aA _ _ U _ _ aH bl _ _ bO jv iD iE jw HM _ ?aJ ?aM ?ac ?au ?cI ?cW A19.out).mono ?_);(case aJ=>exact cb cx HB);(case aM=>exact dv.out);(case ac=>exact cb eV HB);(case au=>exact eW.out);(case cI=>exact cb ls HB);(case cW=>exact m8.out);rintro e fV ⟨v369,v372,v376,rfl,ho0,ho1,ho2,hb⟩;refine⟨_,rfl, ?_⟩;have R6:=Ah (Kd.bq ho0 (bR (aa HB iN ix)));have R7:=Ah (Kd.bq ho1 (bR (aa HB iN ix)));have DZ:=Ah (Kd.bq ho2 (bR (aa HB iN ix)));replace cN:=nb cN hb;replace eE:=nb eE hb;replace HB:=Ah (aK (aa HB iN ix) hb);(try clear hb ho0 ho1 ho2);obtain⟨Cz,D0,Q2,Q3,Q4⟩:=ah cN;obtain⟨D1,D2,Q5,Q6,Q7⟩:=af cN;obtain⟨iy,io,MU⟩:=Kd.ax R6.out;subst MU;obtain⟨jx,jy,HN⟩:=Kd.ax R7.out;subst HN;obtain⟨cT,cU,Lj⟩:=Kd.ax DZ.out;subst Lj)|((with_reducible refine bN (f:=59) rfl ?_);refine gL (some 23) rfl rfl Try.func59 (by kernel_rfl) rfl #[.slice cT HM.length cU] rfl ?_;(with_reducible refine(g9.calls S3 _ _ HM dN _ ?aJ ?aM kR.out).mono ?_);(case aJ=>exact rc DZ cN);(case aM=>exact(Kd.ab DZ.out).2.1);rintro e Hl ⟨v379,rfl,ho0,hb⟩;refine⟨_,rfl, ?_⟩;replace R6:=nf R6 cN hb;replace R7:=nf R7 cN hb;have HO380:=Ah (Kd.bq (Kd.bv ho0 (Kd.bZ (rf DZ cN))) (bR (aa HB iN ix)));replace DZ:=Ah (Kd.lJ (rf DZ cN) (Kd.br ho0) hb);replace cN:=Ah (bJ (g:=yD) (o:= .cells #[.int .i64 jv,.slice iy iD.length io,.slice jx iE.length jy,.int .i64 jw,.slice cT HM.length cU] 28 (0,0)) (pb cN) hb);replace eE:=Ah (bJ (bf eE ul) hb);replace HB:=Ah (aK (aa HB iN ix) hb);(try clear hb ho0);obtain⟨cz,d7,Xo⟩:=Kd.ax HO380.out;subst Xo))
     go_loopg [25] S3 (fun kq v25 w'=>∃ (dP:Int) (py:List (aV)) (ID:Int) (IE:Int) (rz:Value),v25= .int .i64 dP∧Y (dM.l0 kq a1 a2 dN (dN.length:Int) dP jv iD iE jw py=some (r1,r2,r3,r4,r5,r6))∧Y (kq≤S3)∧Y (Kd.R cV 40 w' w.heap.size (fun k_=>some k_≠(rz:Value).ownBlock) (.slice cz dN.length d7) dN)∧Y (Kd.R ag 38 w' w.heap.size (fun k_=>some k_≠((.slice jx iE.length jy):Value).ownBlock) (.slice iy iD.length io) iD)∧Y (Kd.R ag 38 w' w.heap.size (fun k_=>some k_≠((.slice iy iD.length io):Value).ownBlock) (.slice jx iE.length jy) iE)∧Y (Kd.R cV 40 w' w.heap.size (fun k_=>some k_≠((.slice cz dN.length d7):Value).ownBlock) rz py)∧Y (w'.heap[yD]?=some (.cells #[.int .i64 jv,(.slice iy iD.length io),(.slice jx iE.length jy),.int .i64 jw,rz] 28 (0,0)))∧Y (w'.heap[iB]?=some (.cells #[.int .i64 ID,(.slice none 0 0),(.slice none 0 0),.int .i64 IE,(.slice none 0 0)] 28 (0,0)))∧Y (Below w.heap.size w w'))
     case atStart=>exact⟨(0),(HM),(Sv),(Sw),(.slice cT HM.length cU),e3,H',⟨eH _⟩,rm HO380 (fun _ hk=>hk.2),⟨rr R6.out⟩,⟨rr R7.out⟩,rm DZ (fun _ hk=>hk.2),⟨bk cN⟩,⟨bk eE⟩,⟨aa HB iN ix⟩⟩
     case round=>
      clear H'
      try clear c1
      try clear c2
      try clear p2
      try clear c5
      try clear c8
      try clear c9
      try clear c12
      try clear c16
      try clear c17
      try clear c21
      try clear zJ zK zL JA JB
      try clear pX pY rx tq tr
      try clear uy uz xi xj xk
      try clear ut uu xb yr yt
      try clear Cz D0 Q2 Q3 Q4
      try clear zM zN zO JC JD
      try clear pZ pa ry tt tu
      try clear vA vB xl xm xn
      try clear uw ux xc yw yx
      try clear D1 D2 Q5 Q6 Q7
      try clear p2
      obtain⟨dP,py,ID,IE,rz,rfl,HA,pP,GT,je,jf,j5,cN,eE,HB⟩:=hrel
      cases gk with
      |zero=>exact absurd HA.out (by simp[dM.l0])
      |succ k3=>
       have H:=HA.out;clear HA;simp only[dM.l0]at H;have Z6:=Ah H;clear H
       go_upto_if 26 with(fail)
       go_cut [] (fun wc=>∃ (kq:Nat),Y (dM.j3 kq a1 a2 dN (dN.length:Int) dP jv iD iE jw py=some (r1,r2,r3,r4,r5,r6))∧Y (kq≤k3)∧Y (Kd.R cV 40 wc w.heap.size (fun k_=>some k_≠(rz:Value).ownBlock) (.slice cz dN.length d7) dN)∧Y (Kd.R ag 38 wc w.heap.size (fun k_=>some k_≠((.slice jx iE.length jy):Value).ownBlock) (.slice iy iD.length io) iD)∧Y (Kd.R ag 38 wc w.heap.size (fun k_=>some k_≠((.slice iy iD.length io):Value).ownBlock) (.slice jx iE.length jy) iE)∧Y (Kd.R cV 40 wc w.heap.size (fun k_=>some k_≠((.slice cz dN.length d7):Value).ownBlock) rz py)∧Y (wc.heap[yD]?=some (.cells #[.int .i64 jv,(.slice iy iD.length io),(.slice jx iE.length jy),.int .i64 jw,rz] 28 (0,0)))∧Y (wc.heap[iB]?=some (.cells #[.int .i64 ID,(.slice none 0 0),(.slice none 0 0),.int .i64 IE,(.slice none 0 0)] 28 (0,0)))∧Y (Below w.heap.size w wc))
       case first=>
        have H:=Z6.out;clear Z6
        by_cases c31:dP<(dN.length:Int)
        ·
         rw[if_pos c31]at H;have vR:=bS c31;clear c31;(first|rw[vR]|(simp only[lr,nu];rw[vR])|(simp only[c31b2,aa6,aa5])|skip);have H':=Ah H;clear H
         go_wp2
         go_meet
         case rel=>exact⟨_,H',⟨by have:=mX.out;have:=S1.out;have:=pP.out;first|omega|exact eH _⟩,⟨rr GT.out⟩,⟨rr je.out⟩,⟨rr jf.out⟩,⟨rr j5.out⟩,⟨bk cN⟩,⟨bk eE⟩,⟨aa HB iN ix⟩⟩
        rw[if_neg c31]at H;have vR:=f7 c31;clear c31;(first|rw[vR]|(simp only[lr,nu];rw[vR])|(simp only[c31b2,aa6,aa5])|skip);simp only[SY,cM]at H;obtain⟨rfl,rfl,rfl,rfl,rfl,rfl⟩:=H;have Qx:=ul.out;have Qy:=F2.out;obtain⟨Fj,Fk,Ix,Iy,Iz⟩:=ah eE;obtain⟨Fl,Fm,J0,J1,J2⟩:=af eE
        go_wp2
        refine bodyPost_ret (lT rfl _ _ iB 28 #[.int .i64 0,.slice none 0 0,.slice none 0 0,.int .i64 0,.slice none 0 0] (0,0) _ rfl (pb eE) aab rfl (by kernel_rfl)) rfl ?_;exact⟨_,_,_,er,by first|exact Kd.dG _ _ _ _ _|exact Kd.dY _ _ _ _ _|exact Kd.dZ _ _ _ _ _|exact Kd.dW _ _ _ _ _|exact Kd.dX _ _ _ _ _,by first|exact Kd.dG _ _ _ _ _|exact Kd.dY _ _ _ _ _|exact Kd.dZ _ _ _ _ _|exact Kd.dW _ _ _ _ _|exact Kd.dX _ _ _ _ _,by first|exact Kd.dG _ _ _ _ _|exact Kd.dY _ _ _ _ _|exact Kd.dZ _ _ _ _ _|exact Kd.dW _ _ _ _ _|exact Kd.dX _ _ _ _ _,aa HB iN ix⟩
       case rest=>
        clear Z6
        try clear c1
        try clear c2
        try clear p2
        try clear c3
        try clear c5
        try clear c8
        try clear c9
        try clear c12
        try clear c16
        try clear c17
        try clear c21
        try clear c31
        try clear vR
        try clear c32
        try clear zJ zK zL JA JB
        try clear pX pY rx tq tr
        try clear uy uz xi xj xk
        try clear ut uu xb yr yt
        try clear Cz D0 Q2 Q3 Q4
        try clear Fj Fk Ix Iy Iz
        try clear zM zN zO JC JD
        try clear pZ pa ry tt tu
        try clear vA vB xl xm xn
        try clear uw ux xc yw yx
        try clear D1 D2 Q5 Q6 Q7
        try clear Fl Fm J0 J1 J2
        try clear p2
        obtain⟨kq,HA,Z7,GT,je,jf,j5,cN,eE,HB⟩:=hcut
        cases kq with
        |zero=>exact absurd HA.out (by simp[dM.j3])
        |succ kj29=>
         have H:=HA.out;clear HA;simp only[dM.j3]at H
         by_cases c34:0≤dP
         rotate_left
         ·
          rw[if_neg c34]at H;exact absurd H (by simp)
         rw[if_pos c34]at H;have c34b0:=bS c34;clear c34
         by_cases tW:dP<(dN.length:Int)
         rotate_left
         ·
          rw[if_neg tW]at H;exact absurd H (by simp)
         rw[if_pos tW]at H;have c35b0:=bS tW;clear tW;have Z8:=Ah H;clear H;have S4:0≤(dP:Int):=od;have S5:dP<(dN.length:Int):=od;obtain⟨ad381,e381,hx381_0,hx381_1,hx381_2,hx381_3,hx381_4⟩:=jQ (Kd.ab GT.out).2.2 dP S4 S5
         cases e381
         replace S4:=eq_true S4;replace S5:=eq_true S5
         go_upto_if 32 with(first|((with_reducible refine am (N:=9) rfl ?_);refine ar 9 40 #[.int .i64 0,.int .i64 0,.int .i64 0,.int .i64 0,.int .i64 0] ?_;intro gW hg mK kY hb;replace GT:=Ah (Kd.bW (Kd.iq (rr GT.out) gW (aaq hg.symm)) hb);replace je:=nr je hb;replace jf:=nr jf hb;replace j5:=Ah (Kd.bW (Kd.iq (rr j5.out) gW (aaq hg.symm)) hb);have GW382:=gw hg (aa HB iN ix);have pJ:=gw hg (aa HB iN ix);replace HB:=Ah (aK (aa HB iN ix) hb);have OE:=nn cN hg;have F3:=nm cN hg;replace cN:=nb cN hb;have OF:=nn eE hg;have NB382_365:=nm eE hg;replace eE:=nb eE hb;clear hb hg;have hnb38:=F3.out;have hnc38:=OE.out;have Qr:=NB382_365.out;have Qs:=OF.out;obtain⟨hcz40_0,hcz40_1,hcz40_2,hcz40_3,hcz40_4⟩:=ah kY;obtain⟨hfz40_0,hfz40_1,hfz40_2,hfz40_3,hfz40_4⟩:=af kY))
         (try simp only[Act.put,g7,aad,aae])
         go_cut [] (fun wc=>∃ (kq:Nat),Y (dM.j4 kq a1 a2 jv iD iE jw py ((J dN dP).f0) ((J dN dP).f1) ((J dN dP).f2.f0) ((J dN dP).f2.f1) ((J dN dP).f3)=some (r1,r2,r3,r4,r5,r6))∧Y (kq≤kj29)∧Y (Kd.R ag 38 wc w.heap.size (fun k_=>some k_≠((.slice jx iE.length jy):Value).ownBlock) (.slice iy iD.length io) iD)∧Y (Kd.R ag 38 wc w.heap.size (fun k_=>some k_≠((.slice iy iD.length io):Value).ownBlock) (.slice jx iE.length jy) iE)∧Y (Kd.R cV 40 wc w.heap.size (fun k_=>k_≠gW) rz py)∧Y (wc.heap[yD]?=some (.cells #[.int .i64 jv,(.slice iy iD.length io),(.slice jx iE.length jy),.int .i64 jw,rz] 28 (0,0)))∧Y (wc.heap[iB]?=some (.cells #[.int .i64 ID,(.slice none 0 0),(.slice none 0 0),.int .i64 IE,(.slice none 0 0)] 28 (0,0)))∧Y (wc.heap[gW]?=some (.cells #[.int .i64 ((J dN dP).f0),.int .i64 ((J dN dP).f1),.int .i64 ((J dN dP).f2.f0),.int .i64 ((J dN dP).f2.f1),.int .i64 ((J dN dP).f3)] 40 (0,0)))∧Y (Below w.heap.size w wc))
         case first=>
          have H:=Z8.out;clear Z8
          by_cases yT:((J dN dP).f1)=a1
          rotate_left
          ·
           rw[if_neg yT]at H;have GU:=jI yT;have c41b1:=jJ yT;(first|rw[GU]|(simp only[lr,nu];rw[GU])|(simp only[c41b2,aa6,aa5])|skip);have H':=Ah H;clear H
           go_wp2
           go_roundg kj29
           case measure=>have:=mX.out;have:=S1.out;have:=pP.out;have:=Z7.out;omega
           case rel=>exact⟨(Ee (dP+1)),(py),(ID),(IE),(rz),e3,H',⟨by have:=mX.out;have:=S1.out;have:=pP.out;have:=Z7.out;omega⟩,⟨by(with_reducible repeat(first|apply Kd.al|apply Kd.ak|apply Kd.aY));exact Kd.aE (Kd.I (p:=⟨gW,4,none⟩) (Kd.I (p:=⟨gW,3,none⟩) (Kd.I (p:=⟨gW,2,none⟩) (Kd.I (p:=⟨gW,1,none⟩) (Kd.I (p:=⟨gW,0,none⟩) (Kd.aE GT.out (fun k_ hk=>(⟨hk,hk.2⟩:_∧k_≠gW))) (fun _ hk=>hk.2) (.int .i64 ((J dN dP).f0))) (fun _ hk=>hk.2) (.int .i64 ((J dN dP).f1))) (fun _ hk=>hk.2) (.int .i64 ((J dN dP).f2.f0))) (fun _ hk=>hk.2) (.int .i64 ((J dN dP).f2.f1))) (fun _ hk=>hk.2) (.int .i64 ((J dN dP).f3))) (fun _ hk=>hk.1.1)⟩,⟨by(with_reducible repeat(first|apply Kd.al|apply Kd.ak|apply Kd.aY));exact Kd.aE (Kd.I (p:=⟨gW,4,none⟩) (Kd.I (p:=⟨gW,3,none⟩) (Kd.I (p:=⟨gW,2,none⟩) (Kd.I (p:=⟨gW,1,none⟩) (Kd.I (p:=⟨gW,0,none⟩) (Kd.ao je.out kY.out (by decide)) (fun _ hk=>hk.2) (.int .i64 ((J dN dP).f0))) (fun _ hk=>hk.2) (.int .i64 ((J dN dP).f1))) (fun _ hk=>hk.2) (.int .i64 ((J dN dP).f2.f0))) (fun _ hk=>hk.2) (.int .i64 ((J dN dP).f2.f1))) (fun _ hk=>hk.2) (.int .i64 ((J dN dP).f3))) (fun _ hk=>hk.1)⟩,⟨by(with_reducible repeat(first|apply Kd.al|apply Kd.ak|apply Kd.aY));exact Kd.aE (Kd.I (p:=⟨gW,4,none⟩) (Kd.I (p:=⟨gW,3,none⟩) (Kd.I (p:=⟨gW,2,none⟩) (Kd.I (p:=⟨gW,1,none⟩) (Kd.I (p:=⟨gW,0,none⟩) (Kd.ao jf.out kY.out (by decide)) (fun _ hk=>hk.2) (.int .i64 ((J dN dP).f0))) (fun _ hk=>hk.2) (.int .i64 ((J dN dP).f1))) (fun _ hk=>hk.2) (.int .i64 ((J dN dP).f2.f0))) (fun _ hk=>hk.2) (.int .i64 ((J dN dP).f2.f1))) (fun _ hk=>hk.2) (.int .i64 ((J dN dP).f3))) (fun _ hk=>hk.1)⟩,⟨by(with_reducible repeat(first|apply Kd.al|apply Kd.ak|apply Kd.aY));exact Kd.aE (Kd.I (p:=⟨gW,4,none⟩) (Kd.I (p:=⟨gW,3,none⟩) (Kd.I (p:=⟨gW,2,none⟩) (Kd.I (p:=⟨gW,1,none⟩) (Kd.I (p:=⟨gW,0,none⟩) (Kd.aE j5.out (fun k_ hk=>(⟨hk,hk.2⟩:_∧k_≠gW))) (fun _ hk=>hk.2) (.int .i64 ((J dN dP).f0))) (fun _ hk=>hk.2) (.int .i64 ((J dN dP).f1))) (fun _ hk=>hk.2) (.int .i64 ((J dN dP).f2.f0))) (fun _ hk=>hk.2) (.int .i64 ((J dN dP).f2.f1))) (fun _ hk=>hk.2) (.int .i64 ((J dN dP).f3))) (fun _ hk=>hk.1.1)⟩,⟨bf cN OE⟩,⟨bf eE OF⟩,⟨bF HB iN ix pJ⟩⟩
          rw[if_pos yT]at H;have GU:=jm yT;have c41b1:=jn yT;clear yT;(first|rw[GU]|(simp only[lr,nu];rw[GU])|(simp only[c41b2,aa6,aa5])|skip);have H':=Ah H;clear H
          go_wp2
          go_meet
          case rel=>exact⟨_,H',⟨by have:=mX.out;have:=S1.out;have:=pP.out;have:=Z7.out;first|omega|exact eH _⟩,⟨by(with_reducible repeat(first|apply Kd.al|apply Kd.ak|apply Kd.aY));exact Kd.aE (Kd.I (p:=⟨gW,4,none⟩) (Kd.I (p:=⟨gW,3,none⟩) (Kd.I (p:=⟨gW,2,none⟩) (Kd.I (p:=⟨gW,1,none⟩) (Kd.I (p:=⟨gW,0,none⟩) (Kd.ao je.out kY.out (by decide)) (fun _ hk=>hk.2) (.int .i64 ((J dN dP).f0))) (fun _ hk=>hk.2) (.int .i64 ((J dN dP).f1))) (fun _ hk=>hk.2) (.int .i64 ((J dN dP).f2.f0))) (fun _ hk=>hk.2) (.int .i64 ((J dN dP).f2.f1))) (fun _ hk=>hk.2) (.int .i64 ((J dN dP).f3))) (fun _ hk=>hk.1)⟩,⟨by(with_reducible repeat(first|apply Kd.al|apply Kd.ak|apply Kd.aY));exact Kd.aE (Kd.I (p:=⟨gW,4,none⟩) (Kd.I (p:=⟨gW,3,none⟩) (Kd.I (p:=⟨gW,2,none⟩) (Kd.I (p:=⟨gW,1,none⟩) (Kd.I (p:=⟨gW,0,none⟩) (Kd.ao jf.out kY.out (by decide)) (fun _ hk=>hk.2) (.int .i64 ((J dN dP).f0))) (fun _ hk=>hk.2) (.int .i64 ((J dN dP).f1))) (fun _ hk=>hk.2) (.int .i64 ((J dN dP).f2.f0))) (fun _ hk=>hk.2) (.int .i64 ((J dN dP).f2.f1))) (fun _ hk=>hk.2) (.int .i64 ((J dN dP).f3))) (fun _ hk=>hk.1)⟩,⟨by(with_reducible repeat(first|apply Kd.al|apply Kd.ak|apply Kd.aY));exact Kd.aE (Kd.I (p:=⟨gW,4,none⟩) (Kd.I (p:=⟨gW,3,none⟩) (Kd.I (p:=⟨gW,2,none⟩) (Kd.I (p:=⟨gW,1,none⟩) (Kd.I (p:=⟨gW,0,none⟩) (Kd.aE j5.out (fun k_ hk=>(⟨hk,hk.2⟩:_∧k_≠gW))) (fun _ hk=>hk.2) (.int .i64 ((J dN dP).f0))) (fun _ hk=>hk.2) (.int .i64 ((J dN dP).f1))) (fun _ hk=>hk.2) (.int .i64 ((J dN dP).f2.f0))) (fun _ hk=>hk.2) (.int .i64 ((J dN dP).f2.f1))) (fun _ hk=>hk.2) (.int .i64 ((J dN dP).f3))) (fun _ hk=>hk.1.2)⟩,⟨bf cN OE⟩,⟨bf eE OF⟩,⟨by exact pb kY⟩,⟨bF HB iN ix pJ⟩⟩
         case rest=>
          clear Z8
          try clear c1
          try clear c2
          try clear p2
          try clear c3
          try clear p3
          try clear q3
          try clear hx3
          try clear c4
          try clear c5
          try clear p6
          try clear c8
          try clear c9
          try clear c12
          try clear c16
          try clear c17
          try clear c21
          try clear c31
          try clear vR
          try clear c32
          try clear c34
          try clear c34b0
          try clear tW
          try clear c35b0
          try clear Nc
          try clear p38
          try clear q38
          try clear hx38
          try clear c39
          try clear yT
          try clear GU
          try clear c41b1
          try clear zJ zK zL JA JB
          try clear pX pY rx tq tr
          try clear uy uz xi xj xk
          try clear ut uu xb yr yt
          try clear Cz D0 Q2 Q3 Q4
          try clear Fj Fk Ix Iy Iz
          try clear hcz40_0 hcz40_1 hcz40_2 hcz40_3 hcz40_4
          try clear zM zN zO JC JD
          try clear pZ pa ry tt tu
          try clear vA vB xl xm xn
          try clear uw ux xc yw yx
          try clear D1 D2 Q5 Q6 Q7
          try clear Fl Fm J0 J1 J2
          try clear hfz40_0 hfz40_1 hfz40_2 hfz40_3 hfz40_4
          try clear hx381_0
          try clear hx381_1
          try clear hx381_2
          try clear hx381_3
          try clear hx381_4
          try clear p2
          try clear S4
          try clear S5
          obtain⟨kq,HA,HJ35,je,jf,j5,cN,eE,kY,HB⟩:=hcut
          cases kq with
          |zero=>exact absurd HA.out (by simp[dM.j4])
          |succ HP=>
           have H:=HA.out;clear HA;simp only[dM.j4]at H;have H_:=Ah H;clear H;have hnb46:=F3.out;have hnc46:=OE.out;have hnb47:=NB382_365.out;have hnc47:=OF.out;obtain⟨hcz48_0,hcz48_1,hcz48_2,hcz48_3,hcz48_4⟩:=ah kY;obtain⟨hfz48_0,hfz48_1,hfz48_2,hfz48_3,hfz48_4⟩:=af kY;have GA:=F2.out;have GB:=ul.out;obtain⟨FO,FP,PB,PC,PD⟩:=ah cN;obtain⟨FX,FY,PY,PZ,Pa⟩:=af cN;have H:=H_.out;clear H_
           by_cases CS:a2<(Ee (((J dN dP).f2.f1)-((J dN dP).f3)))
           rotate_left
           ·
            rw[if_neg CS]at H;have c42b0:=f7 CS;clear CS
            by_cases uZ:py.length<3518437208883
            rotate_left
            ·
             rw[if_neg uZ]at H;exact absurd H (by simp)
            rw[if_pos uZ]at H;have LMc67:=Ah uZ;clear uZ;obtain⟨rN,LG⟩:∃y_:List (aV),y_=(py++[(⟨2,a1,(⟨0,0⟩:X),((J dN dP).f2.f1)⟩:aV)]):=⟨_,rfl⟩
            replace H:((f9.f HP jv iD iE jw rN).bind fun Mk=>(if Mk=true then(some (jv,iD,iE,jw,rN,true))else(some (0,([]:List (X)),([]:List (X)),0,([]:List (aV)),false))))=some (r1,r2,r3,r4,r5,r6):=by first|(rw[LG];with_reducible exact H)|(have ai:=(N6 _ _).symm.trans H;rw[LG];with_reducible exact ai)|(have ai:=(N6 _ _).symm.trans H;with_reducible exact ai)|with_reducible exact H|(rw[LG];exact H)|exact H
            have Ny387:=Ah LG;clear LG;replace H:=Hc.mp H;obtain⟨Mk,Bo,H⟩:=H
            try dsimp only at H
            have wg:=Ah Bo;clear Bo
            by_cases yU:Mk=true
            rotate_left
            ·
             replace yU:=Q3.mpr yU;subst yU;rw[if_neg dc]at H;simp only[SY,cM]at H;obtain⟨rfl,rfl,rfl,rfl,rfl,rfl⟩:=H
             go_wp2_with (first|((with_reducible refine iG (b:= .append) (xs:= #[.tmp 49,.tmp 53]) rfl ?_);at_builtin;refine Kd.jp cV (w0:=w) w.heap.size rfl (.tmp 49) (.tmp 53) 26 40 (.agg #[(.int .i64 0),(.int .i64 0),(.int .i64 0),(.int .i64 0),(.int .i64 0)]) 40 rfl aaG qF rfl (by decide) (by omega) rz py (⟨2,a1,(⟨0,0⟩:X),((J dN dP).f2.f1)⟩:aV) [.int .i64 2,.int .i64 a1,.int .i64 0,.int .i64 0,.int .i64 ((J dN dP).f2.f1)] (fun k_=>k_≠gW) (fun _=>False) rfl rfl ?aP (fun _ hk=>hk.elim) ?aF ?aO ?aB ?aS ?aL ?_;(case aP=>exact sj _ _ _ (⟨2,a1,(⟨0,0⟩:X),((J dN dP).f2.f1)⟩:aV));(case aB=>exact(bF HB iN ix pJ));(case aF=>exact(fun k_ hk=>Kd.jr (bk kY) k_ hk));(case aO=>exact(rr j5.out));(case aS=>exact(bR (bF HB iN ix pJ)));(case aL=>have:=LMc67.out;omega);intro v388 Zq ho hb hg hat;rw[←Ny387.out]at ho;replace je:=Ah (Kd.eD (rr je.out) (Kd.dt (rr j5.out)) (by decide) hg);replace jf:=Ah (Kd.eD (rr jf.out) (Kd.dt (rr j5.out)) (by decide) hg);replace cN:=Ah (cC (bk cN) hg (Kd.cY j5.out cN.out (by decide)));replace eE:=Ah (cC (bk eE) hg (Kd.cY j5.out eE.out (by decide)));replace kY:=Ah (cC (bk kY) hg (Kd.jq j5.out (fun _ hk=>hk)));replace HB:=Ah (hb);have uI:=Ah (ho);clear j5;clear ho hb hg hat;obtain⟨Mg,Mh,Z0⟩:=Kd.ax uI.out;subst Z0;obtain⟨hcz88_0,hcz88_1,hcz88_2,hcz88_3,hcz88_4⟩:=ah cN;obtain⟨hfz88_0,hfz88_1,hfz88_2,hfz88_3,hfz88_4⟩:=af cN)|((with_reducible refine bN (f:=9) rfl ?_);refine gL (some 57) rfl rfl aaY (by kernel_rfl) rfl #[.agg #[.int .i64 jv,.slice iy iD.length io,.slice jx iE.length jy,.int .i64 jw,.slice Mg rN.length Mh]] rfl ?_;(with_reducible refine(f9.calls HP jv _ _ iD _ _ iE jw _ _ rN false _ ?aJ ?aM ?ac ?au ?cI ?cW wg.out).mono ?_);(case aJ=>exact rc je cN);(case aM=>exact(Kd.ab je.out).2.1);(case ac=>exact rc jf cN);(case au=>exact(Kd.ab jf.out).2.1);(case cI=>exact rc uI cN);(case cW=>exact(Kd.ab uI.out).2.1);rintro e w89 ⟨rfl,hb⟩;refine⟨_,rfl, ?_⟩;replace je:=nf je cN hb;replace jf:=nf jf cN hb;replace uI:=nf uI cN hb;replace cN:=Ah (bJ (g:=yD) (o:= .cells #[.int .i64 jv,.slice iy iD.length io,.slice jx iE.length jy,.int .i64 jw,.slice Mg rN.length Mh] 28 (0,0)) (pb cN) hb);replace eE:=Ah (bJ (bf eE ul) hb);replace kY:=Ah (bJ (bf kY F3) hb);replace HB:=Ah (aK (bF HB iN ix pJ) hb);(try clear hb);obtain⟨UP,UQ,hcz90_2,hcz90_3,hcz90_4⟩:=ah eE;obtain⟨UR,US,hfz90_2,hfz90_3,hfz90_4⟩:=af eE))
             refine bodyPost_ret (lT rfl _ _ iB 28 #[.int .i64 0,.slice none 0 0,.slice none 0 0,.int .i64 0,.slice none 0 0] (0,0) _ rfl (pb eE) aab rfl (by kernel_rfl)) rfl ?_;exact⟨_,_,_,er,by first|exact Kd.dG _ _ _ _ _|exact Kd.dY _ _ _ _ _|exact Kd.dZ _ _ _ _ _|exact Kd.dW _ _ _ _ _|exact Kd.dX _ _ _ _ _,by first|exact Kd.dG _ _ _ _ _|exact Kd.dY _ _ _ _ _|exact Kd.dZ _ _ _ _ _|exact Kd.dW _ _ _ _ _|exact Kd.dX _ _ _ _ _,by first|exact Kd.dG _ _ _ _ _|exact Kd.dY _ _ _ _ _|exact Kd.dZ _ _ _ _ _|exact Kd.dW _ _ _ _ _|exact Kd.dX _ _ _ _ _,bF HB iN ix pJ⟩
            subst yU;rw[if_pos rfl]at H;simp only[SY,cM]at H;obtain⟨rfl,rfl,rfl,rfl,rfl,rfl⟩:=H
            go_wp2_with (first|((with_reducible refine iG (b:= .append) (xs:= #[.tmp 49,.tmp 53]) rfl ?_);at_builtin;refine Kd.jp cV (w0:=w) w.heap.size rfl (.tmp 49) (.tmp 53) 26 40 (.agg #[(.int .i64 0),(.int .i64 0),(.int .i64 0),(.int .i64 0),(.int .i64 0)]) 40 rfl aaG qF rfl (by decide) (by omega) rz py (⟨2,a1,(⟨0,0⟩:X),((J dN dP).f2.f1)⟩:aV) [.int .i64 2,.int .i64 a1,.int .i64 0,.int .i64 0,.int .i64 ((J dN dP).f2.f1)] (fun k_=>k_≠gW) (fun _=>False) rfl rfl ?aP (fun _ hk=>hk.elim) ?aF ?aO ?aB ?aS ?aL ?_;(case aP=>exact sj _ _ _ (⟨2,a1,(⟨0,0⟩:X),((J dN dP).f2.f1)⟩:aV));(case aB=>exact(bF HB iN ix pJ));(case aF=>exact(fun k_ hk=>Kd.jr (bk kY) k_ hk));(case aO=>exact(rr j5.out));(case aS=>exact(bR (bF HB iN ix pJ)));(case aL=>have:=LMc67.out;omega);intro v388 w75 ho hb hg hat;rw[←Ny387.out]at ho;replace je:=Ah (Kd.eD (rr je.out) (Kd.dt (rr j5.out)) (by decide) hg);replace jf:=Ah (Kd.eD (rr jf.out) (Kd.dt (rr j5.out)) (by decide) hg);replace cN:=Ah (cC (bk cN) hg (Kd.cY j5.out cN.out (by decide)));replace eE:=Ah (cC (bk eE) hg (Kd.cY j5.out eE.out (by decide)));replace kY:=Ah (cC (bk kY) hg (Kd.jq j5.out (fun _ hk=>hk)));replace HB:=Ah (hb);have uI:=Ah (ho);clear j5;clear ho hb hg hat;obtain⟨HQ,HS,eo76⟩:=Kd.ax uI.out;subst eo76;obtain⟨Uo,Up,Uq,hcz77_3,hcz77_4⟩:=ah cN;obtain⟨Ur,Us,Ut,hfz77_3,hfz77_4⟩:=af cN)|((with_reducible refine bN (f:=9) rfl ?_);refine gL (some 57) rfl rfl aaY (by kernel_rfl) rfl #[.agg #[.int .i64 jv,.slice iy iD.length io,.slice jx iE.length jy,.int .i64 jw,.slice HQ rN.length HS]] rfl ?_;(with_reducible refine(f9.calls HP jv _ _ iD _ _ iE jw _ _ rN true _ ?aJ ?aM ?ac ?au ?cI ?cW wg.out).mono ?_);(case aJ=>exact rc je cN);(case aM=>exact(Kd.ab je.out).2.1);(case ac=>exact rc jf cN);(case au=>exact(Kd.ab jf.out).2.1);(case cI=>exact rc uI cN);(case cW=>exact(Kd.ab uI.out).2.1);rintro e w78 ⟨rfl,hb⟩;refine⟨_,rfl, ?_⟩;replace je:=nf je cN hb;replace jf:=nf jf cN hb;replace uI:=nf uI cN hb;replace cN:=Ah (bJ (g:=yD) (o:= .cells #[.int .i64 jv,.slice iy iD.length io,.slice jx iE.length jy,.int .i64 jw,.slice HQ rN.length HS] 28 (0,0)) (pb cN) hb);replace eE:=Ah (bJ (bf eE ul) hb);replace kY:=Ah (bJ (bf kY F3) hb);replace HB:=Ah (aK (bF HB iN ix pJ) hb);(try clear hb);obtain⟨hcz79_0,hcz79_1,hcz79_2,hcz79_3,hcz79_4⟩:=ah cN;obtain⟨hfz79_0,hfz79_1,hfz79_2,hfz79_3,hfz79_4⟩:=af cN;obtain⟨hcz80_0,hcz80_1,hcz80_2,hcz80_3,hcz80_4⟩:=ah eE;obtain⟨hfz80_0,hfz80_1,hfz80_2,hfz80_3,hfz80_4⟩:=af eE))
            refine bodyPost_ret (lT rfl _ _ iB 28 #[.int .i64 jv,.slice iy iD.length io,.slice jx iE.length jy,.int .i64 jw,.slice HQ rN.length HS] (0,0) _ rfl (pb eE) aab rfl (by kernel_rfl)) rfl ?_;exact⟨_,_,_,er,by(with_reducible repeat(first|apply Kd.al|apply Kd.ak|apply Kd.aY));exact Kd.aE (Kd.I (p:=⟨iB,4,none⟩) (Kd.I (p:=⟨iB,3,none⟩) (Kd.I (p:=⟨iB,2,none⟩) (Kd.I (p:=⟨iB,1,none⟩) (Kd.I (p:=⟨iB,0,none⟩) (Kd.ao je.out eE.out (by decide)) (fun _ hk=>hk.2) (.int .i64 jv)) (fun _ hk=>hk.2) (.slice iy iD.length io)) (fun _ hk=>hk.2) (.slice jx iE.length jy)) (fun _ hk=>hk.2) (.int .i64 jw)) (fun _ hk=>hk.2) (.slice HQ rN.length HS)) (fun _ hk=>hk.1),by(with_reducible repeat(first|apply Kd.al|apply Kd.ak|apply Kd.aY));exact Kd.aE (Kd.I (p:=⟨iB,4,none⟩) (Kd.I (p:=⟨iB,3,none⟩) (Kd.I (p:=⟨iB,2,none⟩) (Kd.I (p:=⟨iB,1,none⟩) (Kd.I (p:=⟨iB,0,none⟩) (Kd.ao jf.out eE.out (by decide)) (fun _ hk=>hk.2) (.int .i64 jv)) (fun _ hk=>hk.2) (.slice iy iD.length io)) (fun _ hk=>hk.2) (.slice jx iE.length jy)) (fun _ hk=>hk.2) (.int .i64 jw)) (fun _ hk=>hk.2) (.slice HQ rN.length HS)) (fun _ hk=>hk.1),by(with_reducible repeat(first|apply Kd.al|apply Kd.ak|apply Kd.aY));exact Kd.aE (Kd.I (p:=⟨iB,4,none⟩) (Kd.I (p:=⟨iB,3,none⟩) (Kd.I (p:=⟨iB,2,none⟩) (Kd.I (p:=⟨iB,1,none⟩) (Kd.I (p:=⟨iB,0,none⟩) (Kd.ao uI.out eE.out (by decide)) (fun _ hk=>hk.2) (.int .i64 jv)) (fun _ hk=>hk.2) (.slice iy iD.length io)) (fun _ hk=>hk.2) (.slice jx iE.length jy)) (fun _ hk=>hk.2) (.int .i64 jw)) (fun _ hk=>hk.2) (.slice HQ rN.length HS)) (fun _ hk=>trivial),bF HB iN ix pJ⟩
           rw[if_pos CS]at H;have c42b0:=bS CS;clear CS
           by_cases sV:py.length<3518437208883
           rotate_left
           ·
            rw[if_neg sV]at H;exact absurd H (by simp)
           rw[if_pos sV]at H;have LMc43:=Ah sV;clear sV;obtain⟨rM,LH⟩:∃y_:List (aV),y_=(py++[(⟨2,a1,(⟨0,0⟩:X),Ee (((J dN dP).f3)+a2)⟩:aV)]):=⟨_,rfl⟩
           replace H:((f9.f HP jv iD iE jw rM).bind fun Mj=>(if Mj=true then(some (jv,iD,iE,jw,rM,true))else(some (0,([]:List (X)),([]:List (X)),0,([]:List (aV)),false))))=some (r1,r2,r3,r4,r5,r6):=by first|(rw[LH];with_reducible exact H)|(have ai:=(N6 _ _).symm.trans H;rw[LH];with_reducible exact ai)|(have ai:=(N6 _ _).symm.trans H;with_reducible exact ai)|with_reducible exact H|(rw[LH];exact H)|exact H
           have Ny383:=Ah LH;clear LH;replace H:=Hc.mp H;obtain⟨Mj,Mf,H⟩:=H
           try dsimp only at H
           have Sb:=Ah Mf;clear Mf
           by_cases pr:Mj=true
           rotate_left
           ·
            replace pr:=Q3.mpr pr;subst pr;rw[if_neg dc]at H;simp only[SY,cM]at H;obtain⟨rfl,rfl,rfl,rfl,rfl,rfl⟩:=H
            go_wp2_with (first|((with_reducible refine iG (b:= .append) (xs:= #[.tmp 49,.tmp 53]) rfl ?_);at_builtin;refine Kd.jp cV (w0:=w) w.heap.size rfl (.tmp 49) (.tmp 53) 26 40 (.agg #[(.int .i64 0),(.int .i64 0),(.int .i64 0),(.int .i64 0),(.int .i64 0)]) 40 rfl aaG qF rfl (by decide) (by omega) rz py (⟨2,a1,(⟨0,0⟩:X),Ee (((J dN dP).f3)+a2)⟩:aV) [.int .i64 2,.int .i64 a1,.int .i64 0,.int .i64 0,.int .i64 (Ee (((J dN dP).f3)+a2))] (fun k_=>k_≠gW) (fun _=>False) rfl rfl ?aP (fun _ hk=>hk.elim) ?aF ?aO ?aB ?aS ?aL ?_;(case aP=>exact sj _ _ _ (⟨2,a1,(⟨0,0⟩:X),Ee (((J dN dP).f3)+a2)⟩:aV));(case aB=>exact(bF HB iN ix pJ));(case aF=>exact(fun k_ hk=>Kd.jr (bk kY) k_ hk));(case aO=>exact(rr j5.out));(case aS=>exact(bR (bF HB iN ix pJ)));(case aL=>have:=LMc43.out;omega);intro v384 w62 ho hb hg hat;rw[←Ny383.out]at ho;replace je:=Ah (Kd.eD (rr je.out) (Kd.dt (rr j5.out)) (by decide) hg);replace jf:=Ah (Kd.eD (rr jf.out) (Kd.dt (rr j5.out)) (by decide) hg);replace cN:=Ah (cC (bk cN) hg (Kd.cY j5.out cN.out (by decide)));replace eE:=Ah (cC (bk eE) hg (Kd.cY j5.out eE.out (by decide)));replace kY:=Ah (cC (bk kY) hg (Kd.jq j5.out (fun _ hk=>hk)));replace HB:=Ah (hb);have uJ:=Ah (ho);clear j5;clear ho hb hg hat;obtain⟨C3,C4,Yf⟩:=Kd.ax uJ.out;subst Yf;obtain⟨hcz64_0,hcz64_1,hcz64_2,hcz64_3,hcz64_4⟩:=ah cN;obtain⟨hfz64_0,hfz64_1,hfz64_2,hfz64_3,hfz64_4⟩:=af cN)|((with_reducible refine bN (f:=9) rfl ?_);refine gL (some 57) rfl rfl aaY (by kernel_rfl) rfl #[.agg #[.int .i64 jv,.slice iy iD.length io,.slice jx iE.length jy,.int .i64 jw,.slice C3 rM.length C4]] rfl ?_;(with_reducible refine(f9.calls HP jv _ _ iD _ _ iE jw _ _ rM false _ ?aJ ?aM ?ac ?au ?cI ?cW Sb.out).mono ?_);(case aJ=>exact rc je cN);(case aM=>exact(Kd.ab je.out).2.1);(case ac=>exact rc jf cN);(case au=>exact(Kd.ab jf.out).2.1);(case cI=>exact rc uJ cN);(case cW=>exact(Kd.ab uJ.out).2.1);rintro e w65 ⟨rfl,hb⟩;refine⟨_,rfl, ?_⟩;replace je:=nf je cN hb;replace jf:=nf jf cN hb;replace uJ:=nf uJ cN hb;replace cN:=Ah (bJ (g:=yD) (o:= .cells #[.int .i64 jv,.slice iy iD.length io,.slice jx iE.length jy,.int .i64 jw,.slice C3 rM.length C4] 28 (0,0)) (pb cN) hb);replace eE:=Ah (bJ (bf eE ul) hb);replace kY:=Ah (bJ (bf kY F3) hb);replace HB:=Ah (aK (bF HB iN ix pJ) hb);(try clear hb);obtain⟨Pt,Pu,hcz66_2,hcz66_3,hcz66_4⟩:=ah eE;obtain⟨Pv,Pw,hfz66_2,hfz66_3,hfz66_4⟩:=af eE))
            refine bodyPost_ret (lT rfl _ _ iB 28 #[.int .i64 0,.slice none 0 0,.slice none 0 0,.int .i64 0,.slice none 0 0] (0,0) _ rfl (pb eE) aab rfl (by kernel_rfl)) rfl ?_;exact⟨_,_,_,er,by first|exact Kd.dG _ _ _ _ _|exact Kd.dY _ _ _ _ _|exact Kd.dZ _ _ _ _ _|exact Kd.dW _ _ _ _ _|exact Kd.dX _ _ _ _ _,by first|exact Kd.dG _ _ _ _ _|exact Kd.dY _ _ _ _ _|exact Kd.dZ _ _ _ _ _|exact Kd.dW _ _ _ _ _|exact Kd.dX _ _ _ _ _,by first|exact Kd.dG _ _ _ _ _|exact Kd.dY _ _ _ _ _|exact Kd.dZ _ _ _ _ _|exact Kd.dW _ _ _ _ _|exact Kd.dX _ _ _ _ _,bF HB iN ix pJ⟩
           subst pr;rw[if_pos rfl]at H;simp only[SY,cM]at H;obtain⟨rfl,rfl,rfl,rfl,rfl,rfl⟩:=H
           go_wp2_with (first|((with_reducible refine iG (b:= .append) (xs:= #[.tmp 49,.tmp 53]) rfl ?_);at_builtin;refine Kd.jp cV (w0:=w) w.heap.size rfl (.tmp 49) (.tmp 53) 26 40 (.agg #[(.int .i64 0),(.int .i64 0),(.int .i64 0),(.int .i64 0),(.int .i64 0)]) 40 rfl aaG qF rfl (by decide) (by omega) rz py (⟨2,a1,(⟨0,0⟩:X),Ee (((J dN dP).f3)+a2)⟩:aV) [.int .i64 2,.int .i64 a1,.int .i64 0,.int .i64 0,.int .i64 (Ee (((J dN dP).f3)+a2))] (fun k_=>k_≠gW) (fun _=>False) rfl rfl ?aP (fun _ hk=>hk.elim) ?aF ?aO ?aB ?aS ?aL ?_;(case aP=>exact sj _ _ _ (⟨2,a1,(⟨0,0⟩:X),Ee (((J dN dP).f3)+a2)⟩:aV));(case aB=>exact(bF HB iN ix pJ));(case aF=>exact(fun k_ hk=>Kd.jr (bk kY) k_ hk));(case aO=>exact(rr j5.out));(case aS=>exact(bR (bF HB iN ix pJ)));(case aL=>have:=LMc43.out;omega);intro v384 Nf ho hb hg hat;rw[←Ny383.out]at ho;replace je:=Ah (Kd.eD (rr je.out) (Kd.dt (rr j5.out)) (by decide) hg);replace jf:=Ah (Kd.eD (rr jf.out) (Kd.dt (rr j5.out)) (by decide) hg);replace cN:=Ah (cC (bk cN) hg (Kd.cY j5.out cN.out (by decide)));replace eE:=Ah (cC (bk eE) hg (Kd.cY j5.out eE.out (by decide)));replace kY:=Ah (cC (bk kY) hg (Kd.jq j5.out (fun _ hk=>hk)));replace HB:=Ah (hb);have uJ:=Ah (ho);clear j5;clear ho hb hg hat;obtain⟨sJ,sK,Rs⟩:=Kd.ax uJ.out;subst Rs;obtain⟨Iq,Ir,Uu,Uv,Uw⟩:=ah cN;obtain⟨Is,Iu,Ux,Uy,Uz⟩:=af cN)|((with_reducible refine bN (f:=9) rfl ?_);refine gL (some 57) rfl rfl aaY (by kernel_rfl) rfl #[.agg #[.int .i64 jv,.slice iy iD.length io,.slice jx iE.length jy,.int .i64 jw,.slice sJ rM.length sK]] rfl ?_;(with_reducible refine(f9.calls HP jv _ _ iD _ _ iE jw _ _ rM true _ ?aJ ?aM ?ac ?au ?cI ?cW Sb.out).mono ?_);(case aJ=>exact rc je cN);(case aM=>exact(Kd.ab je.out).2.1);(case ac=>exact rc jf cN);(case au=>exact(Kd.ab jf.out).2.1);(case cI=>exact rc uJ cN);(case cW=>exact(Kd.ab uJ.out).2.1);rintro e SV ⟨rfl,hb⟩;refine⟨_,rfl, ?_⟩;replace je:=nf je cN hb;replace jf:=nf jf cN hb;replace uJ:=nf uJ cN hb;replace cN:=Ah (bJ (g:=yD) (o:= .cells #[.int .i64 jv,.slice iy iD.length io,.slice jx iE.length jy,.int .i64 jw,.slice sJ rM.length sK] 28 (0,0)) (pb cN) hb);replace eE:=Ah (bJ (bf eE ul) hb);replace kY:=Ah (bJ (bf kY F3) hb);replace HB:=Ah (aK (bF HB iN ix pJ) hb);(try clear hb);obtain⟨hcz55_0,hcz55_1,hcz55_2,hcz55_3,hcz55_4⟩:=ah cN;obtain⟨hfz55_0,hfz55_1,hfz55_2,hfz55_3,hfz55_4⟩:=af cN;obtain⟨hcz56_0,hcz56_1,hcz56_2,hcz56_3,hcz56_4⟩:=ah eE;obtain⟨hfz56_0,hfz56_1,hfz56_2,hfz56_3,hfz56_4⟩:=af eE))
           refine bodyPost_ret (lT rfl _ _ iB 28 #[.int .i64 jv,.slice iy iD.length io,.slice jx iE.length jy,.int .i64 jw,.slice sJ rM.length sK] (0,0) _ rfl (pb eE) aab rfl (by kernel_rfl)) rfl ?_;exact⟨_,_,_,er,by(with_reducible repeat(first|apply Kd.al|apply Kd.ak|apply Kd.aY));exact Kd.aE (Kd.I (p:=⟨iB,4,none⟩) (Kd.I (p:=⟨iB,3,none⟩) (Kd.I (p:=⟨iB,2,none⟩) (Kd.I (p:=⟨iB,1,none⟩) (Kd.I (p:=⟨iB,0,none⟩) (Kd.ao je.out eE.out (by decide)) (fun _ hk=>hk.2) (.int .i64 jv)) (fun _ hk=>hk.2) (.slice iy iD.length io)) (fun _ hk=>hk.2) (.slice jx iE.length jy)) (fun _ hk=>hk.2) (.int .i64 jw)) (fun _ hk=>hk.2) (.slice sJ rM.length sK)) (fun _ hk=>hk.1),by(with_reducible repeat(first|apply Kd.al|apply Kd.ak|apply Kd.aY));exact Kd.aE (Kd.I (p:=⟨iB,4,none⟩) (Kd.I (p:=⟨iB,3,none⟩) (Kd.I (p:=⟨iB,2,none⟩) (Kd.I (p:=⟨iB,1,none⟩) (Kd.I (p:=⟨iB,0,none⟩) (Kd.ao jf.out eE.out (by decide)) (fun _ hk=>hk.2) (.int .i64 jv)) (fun _ hk=>hk.2) (.slice iy iD.length io)) (fun _ hk=>hk.2) (.slice jx iE.length jy)) (fun _ hk=>hk.2) (.int .i64 jw)) (fun _ hk=>hk.2) (.slice sJ rM.length sK)) (fun _ hk=>hk.1),by(with_reducible repeat(first|apply Kd.al|apply Kd.ak|apply Kd.aY));exact Kd.aE (Kd.I (p:=⟨iB,4,none⟩) (Kd.I (p:=⟨iB,3,none⟩) (Kd.I (p:=⟨iB,2,none⟩) (Kd.I (p:=⟨iB,1,none⟩) (Kd.I (p:=⟨iB,0,none⟩) (Kd.ao uJ.out eE.out (by decide)) (fun _ hk=>hk.2) (.int .i64 jv)) (fun _ hk=>hk.2) (.slice iy iD.length io)) (fun _ hk=>hk.2) (.slice jx iE.length jy)) (fun _ hk=>hk.2) (.int .i64 jw)) (fun _ hk=>hk.2) (.slice sJ rM.length sK)) (fun _ hk=>trivial),bF HB iN ix pJ⟩
end Go.Proofs.Ytahnkgehlfdlkaa.G
