-- Printed by a program of this session (drive.py, by way of the kit's print). Not trusted: Lean checks it.
import Derived.Test.YtahnkgehlfdlkaaG0
import Derived.Test.YtahnkgehlfdlkaaG2
open Bool renaming eq_false_iff→Q3
open Go.IntKind renaming u64→aam
open Go.Proofs.Try renaming prog→sX,underlying28→aab,underlying25→aah,underlying38→aap,underlying23→aau,func14→aaK,func9→aaY,func23→abH,func13→abI,func29→abP
open Go.RowKit renaming wrap64→Ee
open Go.RowKit.Below renaming refl→gR
open Int renaming reduceToNat→aaU
open List renaming setIfInBounds_toArray→g7,set_cons_zero→aad,set_cons_succ→aae,mem_cons→aal
open Nat renaming le_refl→eH,le_of_eq→aaq
open Option renaming bind_eq_some_iff→Hc,bind_some→N6
open Option.some renaming injEq→SY
open Prod.mk renaming injEq→cM
namespace Go.Proofs.Ytahnkgehlfdlkaa.G
open Go.RowKit Go.Proofs.YtahnkgehlfdlkaaW.PrintWords Go.Proofs.YtahnkgehlfdlkaaW.PrintLast Go.Proofs.YtahnkgehlfdlkaaW.PrintMore
attribute [local go_sem] xN xO xT xU xA xB xP xQ
set_option maxHeartbeats 8000000
set_option maxRecDepth 100000
set_option linter.unusedVariables false
set_option linter.unusedSimpArgs false
def ip.f(k:Nat)(a0:Int)(l1:List (X)):Option (Int×(List (X))×(List (X))):=(some (([]:List (X)):List (X))).bind fun wA=>(if wA.length+l1.length<8796093022208 then((dV.f k l1).bind fun uR=>(some (a0,(wA++l1),uR)))else(none))
theorem ip.mono:∀a0 a1 k,aG (ip.f k a0 a1) (ip.f (k+1) a0 a1):=by
 intro a0 a1 k;unfold ip.f
 repeat' with_reducible first|exact dV.mono _ _|exact aG.refl _|exact aG.none _|refine aG.ite ?_ ?_|refine aG.bind ?_ (fun _=> ?_)
theorem ip.calls(k:Nat)(a0:Int)(A1:Option Addr)(c1:Nat)(l1:List (X))(r1:Int)(r2:List (X))(r3:List (X))(w:World)(hr1:Kd.C ag w A1 l1.length l1)(hc1:l1.length≤c1)(h:ip.f k a0 l1=some (r1,r2,r3)):
 Calls Try.prog 19 #[.int .i64 a0,.slice A1 l1.length c1] w fun e w'=>∃et eZ:Value,e= .returned (.agg #[.int .i64 r1,et,eZ])∧Kd.R ag 38 w' w.heap.size (fun k_=>some k_≠(eZ:Value).ownBlock) et r2∧Kd.R ag 38 w' w.heap.size (fun k_=>some k_≠(et:Value).ownBlock) eZ r3∧Below w.heap.size w w':=by
 have o8:=aah;have HR1:=Ah hr1;have rV:=Ah hc1;clear hr1 hc1;have HB:=Ah (gR w.heap.size w);have H:((some (([]:List (X)):List (X))).bind fun wA=>(if wA.length+l1.length<8796093022208 then((dV.f k l1).bind fun uR=>(some (a0,(wA++l1),uR)))else(none)))=some (r1,r2,r3):=h;clear h;obtain⟨wA,KK⟩:∃y_:List (X),y_=(([]:List (X))):=⟨_,rfl⟩
 replace H:(if wA.length+l1.length<8796093022208 then((dV.f k l1).bind fun uR=>(some (a0,(wA++l1),uR)))else(none))=some (r1,r2,r3):=by first|(rw[KK];with_reducible exact H)|(have ai:=(N6 _ _).symm.trans H;rw[KK];with_reducible exact ai)|(have ai:=(N6 _ _).symm.trans H;with_reducible exact ai)|with_reducible exact H|(rw[KK];exact H)|exact H
 have Ny184:=Ah KK;clear KK
 by_cases c3:wA.length+l1.length<8796093022208
 rotate_left
 ·
  rw[if_neg c3]at H;exact absurd H (by simp)
 rw[if_pos c3]at H;have M9:=Ah c3;clear c3;obtain⟨Ra,KL⟩:∃y_:List (X),y_=(wA++l1):=⟨_,rfl⟩
 replace H:((dV.f k l1).bind fun uR=>(some (a0,Ra,uR)))=some (r1,r2,r3):=by first|(rw[KL];with_reducible exact H)|(have ai:=(N6 _ _).symm.trans H;rw[KL];with_reducible exact ai)|(have ai:=(N6 _ _).symm.trans H;with_reducible exact ai)|with_reducible exact H|(rw[KL];exact H)|exact H
 have Ny187:=Ah KL;clear KL;replace H:=Hc.mp H;obtain⟨uR,fc,H⟩:=H
 try dsimp only at H
 have A4:=Ah fc;clear fc;simp only[SY,cM]at H;obtain⟨rfl,rfl,rfl⟩:=H
 go_enter Try.func19,Try.ntmps19
 go_wp2_with (first|((with_reducible refine am (N:=4) rfl ?_);refine ar 4 25 #[.int .i64 0,.slice none 0 0,.slice none 0 0] ?_;intro DF hg w5 uG hb;have GW183:=gw hg (bs HB);have DG:=gw hg (bs HB);replace HB:=Ah (aK (bs HB) hb);clear hb hg)|((with_reducible refine am (N:=6) rfl ?_);refine Kd.vN ag _ 38 ?hg (N:=6) ?hd (xs:=([]:List (X))) (inner:=[]) (ok:=fun _=>True) (okp:=fun _=>True) ?hr ?hp (fun _ hk=>hk) trivial (gR _ _) (eH _) (by simp) ?_;(case hd=>rfl);(case hg=>rfl);(case hr=>first|(go_simp;done)|(go_simp;rfl));(case hp=>exact(cX.none _ _));intro v185 w6 wj hb mL m9;clear mL m9;(first|rw[←Ny184.out]at wj|(simp only[aaU]at wj;rw[←Ny184.out]at wj));have Wj:=Ah (Kd.bq wj (bR (aQ HB DG)));replace uG:=nb uG hb;replace HB:=Ah (aK (aQ HB DG) hb);clear hb wj)|((with_reducible refine iG (b:= .append) (xs:= #[.tmp 6,.tmp 7]) rfl ?_);at_builtin;refine Kd.AL ag (w0:=w) w.heap.size rfl (.tmp 6) (.tmp 7) 23 38 (.agg #[(.int .i64 0),(.int .i64 0)]) 16 rfl aau mb rfl (by decide) (by omega) v185 wA l1 _ _ _ (fun _=>True) (fun _=>False) rfl rfl ?aO ?aR (fun _ _ h=>h) (fun _ h=>h.elim) ?aF ?aB ?aS ?aL ?_;(case aR=>exact cb HR1 HB);(case aB=>exact(aQ HB DG));(case aF=>exact(fun _ _=>trivial));(case aO=>exact(rr Wj.out));(case aS=>exact(bR (aQ HB DG)));(case aL=>have:=M9.out;omega);intro v188 w8 ho hb hg hat;rw[←Ny187.out]at ho;replace uG:=Ah (cC (bk uG) hg (Kd.cY Wj.out uG.out (by decide)));replace HB:=Ah (hb);have KM:=Ah (ho);clear Wj;clear ho hb hg hat)|((with_reducible refine bN (f:=41) rfl ?_);refine gL (some 10) rfl rfl Try.func41 (by kernel_rfl) rfl #[.slice A1 l1.length c1] rfl ?_;(with_reducible refine(dV.calls k _ _ l1 uR _ ?aJ ?aM A4.out).mono ?_);(case aJ=>exact cb HR1 HB);(case aM=>exact rV.out);rintro e w9 ⟨v191,rfl,ho0,hb⟩;refine⟨_,rfl, ?_⟩;have HO192:=Ah (Kd.bq (Kd.bv ho0 (Kd.bZ (rr KM.out))) (bR (aQ HB DG)));replace KM:=Ah (Kd.lJ (rr KM.out) (Kd.br ho0) hb);replace uG:=nb uG hb;replace HB:=Ah (aK (aQ HB DG) hb);(try clear hb ho0);obtain⟨dd,de,tH⟩:=Kd.ax HO192.out;subst tH;obtain⟨dp,dq,tI⟩:=Kd.ax KM.out;subst tI;obtain⟨Ac,Ad,Fh⟩:=di uG;obtain⟨Ae,Af,Fi⟩:=dj uG))
 refine bodyPost_ret (results_cell_row rfl _ _ DF 25 #[.int .i64 a0,.slice dp Ra.length dq,.slice dd uR.length de] (0,0) _ rfl (pb uG) aah rfl (by kernel_rfl)) rfl ?_;exact⟨_,_,er,by(with_reducible repeat(first|apply Kd.al|apply Kd.ak|apply Kd.aY));exact Kd.aE (Kd.I (p:=⟨DF,2,none⟩) (Kd.I (p:=⟨DF,1,none⟩) (Kd.I (p:=⟨DF,0,none⟩) (Kd.ao KM.out uG.out (by decide)) (fun _ hk=>hk.2) (.int .i64 a0)) (fun _ hk=>hk.2) (.slice dp Ra.length dq)) (fun _ hk=>hk.2) (.slice dd uR.length de)) (fun _ hk=>hk.1.2),by(with_reducible repeat(first|apply Kd.al|apply Kd.ak|apply Kd.aY));exact Kd.aE (Kd.I (p:=⟨DF,2,none⟩) (Kd.I (p:=⟨DF,1,none⟩) (Kd.I (p:=⟨DF,0,none⟩) (Kd.ao HO192.out uG.out (by decide)) (fun _ hk=>hk.2) (.int .i64 a0)) (fun _ hk=>hk.2) (.slice dp Ra.length dq)) (fun _ hk=>hk.2) (.slice dd uR.length de)) (fun _ hk=>hk.1.2),aQ HB DG⟩
mutual
def d8.j0:Nat→Bool→Int→List (X)→List (X)→Int→Int→Option (Int×(List (X))×(List (X))×Bool)
 |0,_,_,_,_,_,_=>none
 |k+1,x20,vC,tv,xo,tw,vD=>if x20=true then(some (0,([]:List (X)),([]:List (X)),false))else(d8.l0 k ([]:List (X)) false tv (tv.length:Int) 0 vC tv xo tw vD)
def d8.l0:Nat→List (X)→Bool→List (X)→Int→Int→Int→List (X)→List (X)→Int→Int→Option (Int×(List (X))×(List (X))×Bool)
 |0,_,_,_,_,_,_,_,_,_,_=>none
 |k+1,x6,x7,k6,x24,x25,vC,tv,xo,tw,vD=>if x25<x24 then(if 0≤x25 then(if x25<(k6.length:Int)then(if(Ee (((aC k6 x25).f0)+((aC k6 x25).f1)))<tw then(if x6.length<8796093022208 then(d8.l0 k (x6++[(⟨(aC k6 x25).f0,(aC k6 x25).f1⟩:X)]) x7 k6 x24 (Ee (x25+1)) vC tv xo tw vD)else(none))else(if((aC k6 x25).f0)>(Ee (tw+vD))then(if x7=true then(if x6.length<8796093022208 then(d8.l0 k (x6++[(⟨(aC k6 x25).f0,(aC k6 x25).f1⟩:X)]) x7 k6 x24 (Ee (x25+1)) vC tv xo tw vD)else(none))else(if x6.length<8796093022208 then((some (x6++[(⟨tw,vD⟩:X)]:List (X))).bind fun Bv=>(if Bv.length<8796093022208 then(d8.l0 k (Bv++[(⟨(aC k6 x25).f0,(aC k6 x25).f1⟩:X)]) true k6 x24 (Ee (x25+1)) vC tv xo tw vD)else(none)))else(none)))else(if(Ee (((aC k6 x25).f0)+((aC k6 x25).f1)))=tw then(d8.l0 k x6 x7 k6 x24 (Ee (x25+1)) vC tv xo ((aC k6 x25).f0) (Ee (((aC k6 x25).f1)+vD)))else(if((aC k6 x25).f0)=(Ee (tw+vD))then(d8.l0 k x6 x7 k6 x24 (Ee (x25+1)) vC tv xo tw (Ee (vD+((aC k6 x25).f1))))else(some (0,([]:List (X)),([]:List (X)),false))))))else(none))else(none))else(if x7=true then(d8.j2 k x6 vC tv xo)else(if x6.length<8796093022208 then(d8.j2 k (x6++[(⟨tw,vD⟩:X)]) vC tv xo)else(none)))
def d8.j2:Nat→List (X)→Int→List (X)→List (X)→Option (Int×(List (X))×(List (X))×Bool)
 |0,_,_,_,_=>none
 |k+1,x6,vC,tv,xo=>(ip.f k vC x6).bind fun GJ=>((gb.f k GJ.1 GJ.2.1 GJ.2.2).bind fun YE=>(if YE=true then(some (GJ.1,GJ.2.1,GJ.2.2,true))else(some (0,([]:List (X)),([]:List (X)),false))))
end
def d8.f(k:Nat)(aA:Int)(U:List (X))(aH:List (X))(av:Int)(bB:Int):Option (Int×(List (X))×(List (X))×Bool):=(gb.f k aA U aH).bind fun t196=>(if t196=true then((ud.f av bB aA).bind fun Gr=>(d8.j0 k (!Gr) aA U aH av bB))else(d8.j0 k true aA U aH av bB))
theorem d8.dh:∀k,(∀y0 y1 y2 y3 y4 y5,aG (d8.j0 k y0 y1 y2 y3 y4 y5) (d8.j0 (k+1) y0 y1 y2 y3 y4 y5))∧(∀y0 y1 y2 y3 y4 y5 y6 y7 y8 y9,aG (d8.l0 k y0 y1 y2 y3 y4 y5 y6 y7 y8 y9) (d8.l0 (k+1) y0 y1 y2 y3 y4 y5 y6 y7 y8 y9))∧(∀y0 y1 y2 y3,aG (d8.j2 k y0 y1 y2 y3) (d8.j2 (k+1) y0 y1 y2 y3))
 |0=>⟨fun _ _ _ _ _ _ r h=>by simp[d8.j0]at h,fun _ _ _ _ _ _ _ _ _ _ r h=>by simp[d8.l0]at h,fun _ _ _ _ r h=>by simp[d8.j2]at h⟩
 |k+1=>by
  obtain⟨bz,ih1,ih2⟩:=d8.dh k
  refine⟨?_, ?_, ?_⟩<;>intros<;>first|unfold d8.j0|unfold d8.l0|unfold d8.j2
  all_goals repeat' first
   |(with_reducible exact bz _ _ _ _ _ _)
   |(with_reducible exact ih1 _ _ _ _ _ _ _ _ _ _)
   |(with_reducible exact ih2 _ _ _ _)
   |(with_reducible exact gb.mono _ _ _ _)
   |(with_reducible exact ip.mono _ _ _)
   |(with_reducible exact aG.refl _)
   |(with_reducible exact aG.none _)
   |(with_reducible refine aG.ite ?_ ?_)
   |(with_reducible refine aG.bind ?_ (fun _=> ?_))
   |exact bz _ _ _ _ _ _
   |exact ih1 _ _ _ _ _ _ _ _ _ _
   |exact ih2 _ _ _ _
   |exact gb.mono _ _ _ _
   |exact ip.mono _ _ _
   |exact aG.none _
   |refine aG.ite ?_ ?_
   |refine aG.bind ?_ (fun _=> ?_)
theorem d8.mono:∀a0 a1 a2 a3 a4 k,aG (d8.f k a0 a1 a2 a3 a4) (d8.f (k+1) a0 a1 a2 a3 a4):=by
 intro a0 a1 a2 a3 a4 k;obtain⟨bz,ih1,ih2⟩:=d8.dh k;unfold d8.f
 repeat' with_reducible first|exact bz _ _ _ _ _ _|exact ih1 _ _ _ _ _ _ _ _ _ _|exact ih2 _ _ _ _|exact gb.mono _ _ _ _|exact ip.mono _ _ _|exact aG.refl _|exact aG.none _|refine aG.ite ?_ ?_|refine aG.bind ?_ (fun _=> ?_)
theorem d8.calls(k:Nat)(aA:Int)(bH:Option Addr)(ay:Nat)(U:List (X))(bC:Option Addr)(bD:Nat)(aH:List (X))(av:Int)(bB:Int)(r1:Int)(r2:List (X))(r3:List (X))(r4:Bool)(w:World)(fC:Kd.C ag w bH U.length U)(fD:U.length≤ay)(fE:Kd.C ag w bC aH.length aH)(fF:aH.length≤bD)(h:d8.f k aA U aH av bB=some (r1,r2,r3,r4)):
 Calls Try.prog 20 #[.agg #[.int .i64 aA,.slice bH U.length ay,.slice bC aH.length bD],.agg #[.int .i64 av,.int .i64 bB]] w fun e w'=>∃et eZ:Value,e= .returned (.tuple #[.agg #[.int .i64 r1,et,eZ],.bool r4])∧Kd.R ag 38 w' w.heap.size (fun k_=>some k_≠(eZ:Value).ownBlock) et r2∧Kd.R ag 38 w' w.heap.size (fun k_=>some k_≠(et:Value).ownBlock) eZ r3∧Below w.heap.size w w':=by
 have o8:=aah;have lM:=aap;have cx:=Ah fC;have dv:=Ah fD;clear fC fD;have eV:=Ah fE;have eW:=Ah fF;clear fE fF;have HB:=Ah (gR w.heap.size w);have H:((gb.f k aA U aH).bind fun t196=>(if t196=true then((ud.f av bB aA).bind fun Gr=>(d8.j0 k (!Gr) aA U aH av bB))else(d8.j0 k true aA U aH av bB)))=some (r1,r2,r3,r4):=h;clear h;have El:=Ah H;clear H
 go_enter Try.func20,Try.ntmps20
 go_upto_region 1 with(first|((with_reducible refine am (N:=2) rfl ?_);refine ar 2 25 #[.int .i64 aA,.slice bH U.length ay,.slice bC aH.length bD] ?_;intro Wk hg w4 cg hb;have GW193:=gw hg (bs HB);have eL:=gw hg (bs HB);replace HB:=Ah (aK (bs HB) hb);clear hb hg)|((with_reducible refine am (N:=3) rfl ?_);refine ar 3 38 #[.int .i64 av,.int .i64 bB] ?_;intro oN hg w5 cS hb;have GW194:=gw hg (aQ HB eL);have ef:=gw hg (aQ HB eL);replace HB:=Ah (aK (aQ HB eL) hb);have qd:=nn cg hg;have tf:=nm cg hg;replace cg:=nb cg hb;clear hb hg)|((with_reducible refine am (N:=4) rfl ?_);refine ar 4 25 #[.int .i64 0,.slice none 0 0,.slice none 0 0] ?_;intro t2 hg w6 cy hb;have GW195:=gw hg (aa HB eL ef);have fH:=gw hg (aa HB eL ef);replace HB:=Ah (aK (aa HB eL ef) hb);have Cm:=nn cg hg;have Cn:=nm cg hg;replace cg:=nb cg hb;have ug:=nn cS hg;have rb:=nm cS hg;replace cS:=nb cS hb;clear hb hg))
 (try simp only[Act.put,g7,aad,aae])
 go_cut [20] (fun v20 wc=>∃ (kq:Nat) (Qp:Bool),v20= .bool Qp∧Y (d8.j0 kq Qp aA U aH av bB=some (r1,r2,r3,r4))∧Y (kq≤k)∧Y (wc.heap[Wk]?=some (.cells #[.int .i64 aA,(.slice bH U.length ay),(.slice bC aH.length bD)] 25 (0,0)))∧Y (wc.heap[oN]?=some (.cells #[.int .i64 av,.int .i64 bB] 38 (0,0)))∧Y (wc.heap[t2]?=some (.cells #[.int .i64 0,(.slice none 0 0),(.slice none 0 0)] 25 (0,0)))∧Y (Below w.heap.size w wc))
 case first=>
  have H:=El.out;clear El;replace H:=Hc.mp H;obtain⟨t196,pt,H⟩:=H
  try dsimp only at H
  have A7:=Ah pt;clear pt
  by_cases c8:t196=true
  rotate_left
  ·
   replace c8:=Q3.mpr c8;subst c8;rw[if_neg dc]at H;have H':=Ah H;clear H;have hnb18:=qd.out;have hnc18:=tf.out;have Js:=Cm.out;have Jt:=Cn.out;obtain⟨rp,rq,sm⟩:=di cg;obtain⟨ru,rv,sn⟩:=dj cg
   go_wp2_with (first|((with_reducible refine bN (f:=23) rfl ?_);refine gL (some 12) rfl rfl abH (by kernel_rfl) rfl #[.agg #[.int .i64 aA,.slice bH U.length ay,.slice bC aH.length bD]] rfl ?_;(with_reducible refine(gb.calls k aA _ _ U _ _ aH false _ ?aJ ?aM ?ac ?au A7.out).mono ?_);(case aJ=>exact cb cx HB);(case aM=>exact dv.out);(case ac=>exact cb eV HB);(case au=>exact eW.out);rintro e AH ⟨rfl,hb⟩;refine⟨_,rfl, ?_⟩;replace cg:=nb cg hb;replace cS:=nb cS hb;replace cy:=nb cy hb;replace HB:=Ah (aK (bF HB eL ef fH) hb);(try clear hb)))
   go_meet
   case rel=>exact⟨_,(true),e3,H',⟨by first|omega|exact eH _⟩,⟨bk cg⟩,⟨bk cS⟩,⟨bk cy⟩,⟨bF HB eL ef fH⟩⟩
  subst c8;rw[if_pos rfl]at H;replace H:=Hc.mp H;obtain⟨Gr,CW,H⟩:=H
  try dsimp only at H
  have A9:=Ah CW;clear CW;have H':=Ah H;clear H;have WO:=qd.out;have WQ:=tf.out;have Qa:=Cm.out;have Qb:=Cn.out;obtain⟨Ac,Ad,Fh⟩:=di cg;obtain⟨Ae,Af,Fi⟩:=dj cg
  go_wp2_with (first|((with_reducible refine bN (f:=23) rfl ?_);refine gL (some 12) rfl rfl abH (by kernel_rfl) rfl #[.agg #[.int .i64 aA,.slice bH U.length ay,.slice bC aH.length bD]] rfl ?_;(with_reducible refine(gb.calls k aA _ _ U _ _ aH true _ ?aJ ?aM ?ac ?au A7.out).mono ?_);(case aJ=>exact cb cx HB);(case aM=>exact dv.out);(case ac=>exact cb eV HB);(case au=>exact eW.out);rintro e Hg ⟨rfl,hb⟩;refine⟨_,rfl, ?_⟩;replace cg:=nb cg hb;replace cS:=nb cS hb;replace cy:=nb cy hb;replace HB:=Ah (aK (bF HB eL ef fH) hb);(try clear hb);have hnb14:=ug.out;have hnc14:=rb.out;obtain⟨Aq,Ar⟩:=da cS;obtain⟨As,At⟩:=db cS;obtain⟨ql,qm,ro⟩:=di cg;obtain⟨qn,qo,rt⟩:=dj cg)|(go_at_call 38;(with_reducible refine(ud.calls av bB aA Gr _ A9.out).mono ?_);rintro e Ek ⟨rfl,hb⟩;replace cg:=nb cg hb;replace cS:=nb cS hb;replace cy:=nb cy hb;replace HB:=Ah (aK (bF HB eL ef fH) hb);(try clear hb)))
  go_meet
  case rel=>exact⟨_,(!Gr),e3,H',⟨by first|omega|exact eH _⟩,⟨bk cg⟩,⟨bk cS⟩,⟨bk cy⟩,⟨bF HB eL ef fH⟩⟩
 case rest=>
  clear El
  try clear c1
  try clear c2
  try clear p2
  try clear c8
  try clear c10
  try clear c11
  try clear c14
  try clear c18
  try clear c19
  try clear c20
  try clear Ac Ad Fh
  try clear Aq Ar
  try clear ql qm ro
  try clear rp rq sm
  try clear Ae Af Fi
  try clear As At
  try clear qn qo rt
  try clear ru rv sn
  obtain⟨kq,Qp,rfl,HA,HJ2,cg,cS,cy,HB⟩:=hcut
  cases kq with
  |zero=>exact absurd HA.out (by simp[d8.j0])
  |succ Hi=>
   have H:=HA.out;clear HA;simp only[d8.j0]at H
   by_cases n5:Qp=true
   ·
    subst n5;rw[if_pos rfl]at H;simp only[SY,cM]at H;obtain⟨rfl,rfl,rfl,rfl⟩:=H;have hnb23:=Cn.out;have hnc23:=Cm.out;have hnb24:=rb.out;have hnc24:=ug.out;obtain⟨Pn,Po,Pp⟩:=di cy;obtain⟨Pq,Pr,Ps⟩:=dj cy
    go_wp2
    refine bodyPost_ret (lT rfl _ _ t2 25 #[.int .i64 0,.slice none 0 0,.slice none 0 0] (0,0) _ rfl (pb cy) aah rfl (by kernel_rfl)) rfl ?_;exact⟨_,_,er,by first|exact Kd.dG _ _ _ _ _|exact Kd.dY _ _ _ _ _|exact Kd.dZ _ _ _ _ _|exact Kd.dW _ _ _ _ _|exact Kd.dX _ _ _ _ _,by first|exact Kd.dG _ _ _ _ _|exact Kd.dY _ _ _ _ _|exact Kd.dZ _ _ _ _ _|exact Kd.dW _ _ _ _ _|exact Kd.dX _ _ _ _ _,bF HB eL ef fH⟩
   replace n5:=Q3.mpr n5;subst n5;rw[if_neg dc]at H;have H':=Ah H;clear H;have hnb26:=qd.out;have hnc26:=tf.out;have hnb27:=Cm.out;have hnc27:=Cn.out;obtain⟨Cx,Ff,hcz28_2⟩:=di cg;obtain⟨Cy,Fg,hfz28_2⟩:=dj cg
   go_wp2
   go_loopg [6,7,25] Hi (fun kq v6 v7 v25 w'=>∃ (an:List (X)) (zo:Bool) (ch:Int) (kT:Int) (jo:Int) (AR:Int),v7= .bool zo∧v25= .int .i64 ch∧Y (d8.l0 kq an zo U (U.length:Int) ch aA U aH kT jo=some (r1,r2,r3,r4))∧Y (kq≤Hi)∧Y (Kd.R ag 38 w' w.heap.size (fun k_=>k_≠oN) v6 an)∧Y (w'.heap[Wk]?=some (.cells #[.int .i64 aA,(.slice bH U.length ay),(.slice bC aH.length bD)] 25 (0,0)))∧Y (w'.heap[oN]?=some (.cells #[.int .i64 kT,.int .i64 jo] 38 (0,0)))∧Y (w'.heap[t2]?=some (.cells #[.int .i64 AR,(.slice none 0 0),(.slice none 0 0)] 25 (0,0)))∧Y (Below w.heap.size w w'))
   case atStart=>exact⟨(([]:List (X))),(false),(0),(av),(bB),(0),e3,e3,H',⟨eH _⟩,⟨by first|exact Kd.dG _ _ _ _ _|exact Kd.dY _ _ _ _ _|exact Kd.dZ _ _ _ _ _|exact Kd.dW _ _ _ _ _|exact Kd.dX _ _ _ _ _⟩,⟨bk cg⟩,⟨bk cS⟩,⟨bk cy⟩,⟨bF HB eL ef fH⟩⟩
   case round=>
    clear H'
    try clear c1
    try clear c2
    try clear p2
    try clear c8
    try clear c10
    try clear c11
    try clear c14
    try clear c18
    try clear c19
    try clear c20
    try clear n5
    try clear c23
    try clear c24
    try clear AI
    try clear wi
    try clear Ac Ad Fh
    try clear Aq Ar
    try clear ql qm ro
    try clear rp rq sm
    try clear Pn Po Pp
    try clear Cx Ff hcz28_2
    try clear Ae Af Fi
    try clear As At
    try clear qn qo rt
    try clear ru rv sn
    try clear Pq Pr Ps
    try clear Cy Fg hfz28_2
    try clear p2
    obtain⟨an,zo,ch,kT,jo,AR,rfl,rfl,HA,dF,az,cg,cS,cy,HB⟩:=hrel
    cases gk with
    |zero=>exact absurd HA.out (by simp[d8.l0])
    |succ k2=>
     have H:=HA.out;clear HA;simp only[d8.l0]at H
     by_cases kQ:ch<(U.length:Int)
     rotate_left
     ·
      rw[if_neg kQ]at H;have BG:=f7 kQ;clear kQ;have YF:=Ah H;clear H
      go_upto_if 96 with(fail)
      go_cut [6] (fun v6 wc=>∃ (kq:Nat) (DH:List (X)),Y (d8.j2 kq DH aA U aH=some (r1,r2,r3,r4))∧Y (kq≤k2)∧Y (Kd.R ag 38 wc w.heap.size (fun k_=>k_≠oN) v6 DH)∧Y (wc.heap[Wk]?=some (.cells #[.int .i64 aA,(.slice bH U.length ay),(.slice bC aH.length bD)] 25 (0,0)))∧Y (wc.heap[oN]?=some (.cells #[.int .i64 kT,.int .i64 jo] 38 (0,0)))∧Y (wc.heap[t2]?=some (.cells #[.int .i64 AR,(.slice none 0 0),(.slice none 0 0)] 25 (0,0)))∧Y (Below w.heap.size w wc))
      case first=>
       have H:=YF.out;clear YF
       by_cases yY:zo=true
       ·
        subst yY;rw[if_pos rfl]at H;have H':=Ah H;clear H
        go_wp2
        go_meet
        case rel=>exact⟨_,(an),H',⟨by have:=HJ2.out;have:=dF.out;first|omega|exact eH _⟩,⟨rr az.out⟩,⟨bk cg⟩,⟨bk cS⟩,⟨bk cy⟩,⟨bF HB eL ef fH⟩⟩
       replace yY:=Q3.mpr yY;subst yY;rw[if_neg dc]at H
       by_cases NX:an.length<8796093022208
       rotate_left
       ·
        rw[if_neg NX]at H;exact absurd H (by simp)
       rw[if_pos NX]at H;have LMc98:=Ah NX;clear NX;obtain⟨y212,KN⟩:∃y_:List (X),y_=(an++[(⟨kT,jo⟩:X)]):=⟨_,rfl⟩
       replace H:(d8.j2 k2 y212 aA U aH)=some (r1,r2,r3,r4):=by first|(rw[KN];with_reducible exact H)|(have ai:=(N6 _ _).symm.trans H;rw[KN];with_reducible exact ai)|(have ai:=(N6 _ _).symm.trans H;with_reducible exact ai)|with_reducible exact H|(rw[KN];exact H)|exact H
       have Ny212:=Ah KN;clear KN;have H':=Ah H;clear H;have hnb99:=tf.out;have hnc99:=qd.out;have hnb100:=ug.out;have hnc100:=rb.out;obtain⟨hcz101_0,hcz101_1⟩:=da cS;obtain⟨hfz101_0,hfz101_1⟩:=db cS
       go_wp2_with (first|((with_reducible refine iG (b:= .append) (xs:= #[.tmp 97,.tmp 99]) rfl ?_);at_builtin;refine Kd.jp ag (w0:=w) w.heap.size rfl (.tmp 97) (.tmp 99) 23 38 (.agg #[(.int .i64 0),(.int .i64 0)]) 16 rfl aau mb rfl (by decide) (by omega) u6 an (⟨kT,jo⟩:X) [.int .i64 kT,.int .i64 jo] (fun k_=>k_≠oN) (fun _=>False) rfl rfl ?aP (fun _ hk=>hk.elim) ?aF ?aO ?aB ?aS ?aL ?_;(case aP=>exact nA _ _ _ (⟨kT,jo⟩:X));(case aB=>exact(bF HB eL ef fH));(case aF=>exact(fun k_ hk=>Kd.jr (bk cS) k_ hk));(case aO=>exact(rr az.out));(case aS=>exact(bR (bF HB eL ef fH)));(case aL=>have:=LMc98.out;omega);intro v213 w102 ho hb hg hat;rw[←Ny212.out]at ho;replace cg:=Ah (cC (bk cg) hg (Kd.cY az.out cg.out (by decide)));replace cS:=Ah (cC (bk cS) hg (Kd.jq az.out (fun _ hk=>hk)));replace cy:=Ah (cC (bk cy) hg (Kd.cY az.out cy.out (by decide)));replace HB:=Ah (hb);have HO214:=Ah (ho);clear az;clear ho hb hg hat))
       go_meet
       case rel=>exact⟨_,(y212),H',⟨by have:=HJ2.out;have:=dF.out;first|omega|exact eH _⟩,⟨rr HO214.out⟩,⟨bk cg⟩,⟨bk cS⟩,⟨bk cy⟩,⟨bF HB eL ef fH⟩⟩
      case rest=>
       clear YF
       try clear c1
       try clear p1
       try clear q1
       try clear hx1
       try clear c2
       try clear p2
       try clear c3
       try clear c4
       try clear c5
       try clear c6
       try clear p6
       try clear c7
       try clear c8
       try clear c9
       try clear c10
       try clear c11
       try clear c14
       try clear c18
       try clear c19
       try clear ST
       try clear SU
       try clear hx19
       try clear c20
       try clear n5
       try clear c23
       try clear c24
       try clear AI
       try clear wi
       try clear kQ
       try clear BG
       try clear hP
       try clear sy
       try clear c31
       try clear vR
       try clear c32
       try clear Qq
       try clear oC
       try clear tW
       try clear yV
       try clear c37
       try clear c39
       try clear c40
       try clear sV
       try clear c43b0
       try clear Ej
       try clear pr
       try clear NY
       try clear c48
       try clear c49
       try clear c51
       try clear c52
       try clear ot
       try clear nX
       try clear we
       try clear c59
       try clear uY
       try clear c62
       try clear c63
       try clear p64
       try clear CX
       try clear c68b0
       try clear c68b1
       try clear c70
       try clear NQ
       try clear c72
       try clear c74
       try clear c75
       try clear CY
       try clear c77b0
       try clear c77b1
       try clear NZ
       try clear c80
       try clear NS
       try clear CT
       try clear CU
       try clear c87
       try clear c88
       try clear c89
       try clear c91
       try clear c92
       try clear c94
       try clear yY
       try clear NX
       try clear c99
       try clear c100
       try clear hcz101_0 hcz101_1
       try clear Ac Ad Fh
       try clear Aq Ar
       try clear ql qm ro
       try clear rp rq sm
       try clear Pn Po Pp
       try clear Cx Ff hcz28_2
       try clear FI FJ
       try clear Fb Fc
       try clear FO FP
       try clear Iq Ir
       try clear UJ UK
       try clear hcz64_0 hcz64_1
       try clear Pt Pu
       try clear hcz73_0 hcz73_1
       try clear Ow Ox
       try clear UD UE
       try clear hcz85_0 hcz85_1
       try clear UP UQ
       try clear Ub Uc
       try clear Ia Ib Ic
       try clear hfz101_0 hfz101_1
       try clear Ae Af Fi
       try clear As At
       try clear qn qo rt
       try clear ru rv sn
       try clear Pq Pr Ps
       try clear Cy Fg hfz28_2
       try clear FS FT
       try clear Fd Fe
       try clear FX FY
       try clear Is Iu
       try clear UN UO
       try clear hfz64_0 hfz64_1
       try clear Pv Pw
       try clear hfz73_0 hfz73_1
       try clear Oy Oz
       try clear UF UG
       try clear hfz85_0 hfz85_1
       try clear UR US
       try clear Ud Ue
       try clear Id Ie If
       try clear oz
       try clear pA
       try clear mU
       try clear p2
       try clear mV
       obtain⟨kq,DH,HA,HJ95,az,cg,cS,cy,HB⟩:=hcut
       cases kq with
       |zero=>exact absurd HA.out (by simp[d8.j2])
       |succ Rb=>
        have H:=HA.out;clear HA;simp only[d8.j2]at H;replace H:=Hc.mp H;obtain⟨⟨wB,wC,wD⟩,A1030,H⟩:=H
        try dsimp only at H
        have A103:=Ah A1030;clear A1030;replace H:=Hc.mp H;obtain⟨YE,A1040,H⟩:=H
        try dsimp only at H
        have A104:=Ah A1040;clear A1040
        by_cases c105:YE=true
        rotate_left
        ·
         replace c105:=Q3.mpr c105;subst c105;rw[if_neg dc]at H;simp only[SY,cM]at H;obtain⟨rfl,rfl,rfl,rfl⟩:=H;have hnb122:=qd.out;have hnc122:=tf.out;have hnb123:=Cm.out;have hnc123:=Cn.out;obtain⟨hcz124_0,hcz124_1,hcz124_2⟩:=di cg;obtain⟨hfz124_0,hfz124_1,hfz124_2⟩:=dj cg;obtain⟨Ao125,co125,eo125⟩:=Kd.ax az.out;subst eo125
         go_wp2_with (first|((with_reducible refine bN (f:=19) rfl ?_);refine gL (some 104) rfl rfl Try.func19 (by kernel_rfl) rfl #[.int .i64 aA,.slice Ao125 DH.length co125] rfl ?_;(with_reducible refine(ip.calls Rb aA _ _ DH wB wC wD _ ?aJ ?aM A103.out).mono ?_);(case aJ=>exact df az);(case aM=>exact(Kd.ab az.out).2.1);rintro e w126 ⟨v217,v220,rfl,ho0,ho1,hb⟩;refine⟨_,rfl, ?_⟩;have qI:=Ah (Kd.bq (Kd.u1 (Kd.bv ho0 (Kd.bZ (rr az.out))) (g:=oN) (o:= .cells #[.int .i64 kT,.int .i64 jo] 38 (0,0)) (bk cS)) (bR (bF HB eL ef fH)));have qJ:=Ah (Kd.bq (Kd.u1 (Kd.bv ho1 (Kd.bZ (rr az.out))) (g:=oN) (o:= .cells #[.int .i64 kT,.int .i64 jo] 38 (0,0)) (bk cS)) (bR (bF HB eL ef fH)));replace az:=Ah (Kd.aE (Kd.cv (Kd.cv (Kd.gt (rr az.out) hb) (Kd.br ho0)) (Kd.br ho1)) (fun _ h_=>h_.1));replace cg:=nb cg hb;replace cS:=nb cS hb;replace cy:=nb cy hb;replace HB:=Ah (aK (bF HB eL ef fH) hb);(try clear hb ho0 ho1))|((with_reducible refine am (N:=10) rfl ?_);refine ar 10 25 #[.int .i64 0,.slice none 0 0,.slice none 0 0] ?_;intro Wl hg w127 nO hb;replace az:=nr az hb;replace qI:=nr qI hb;replace qJ:=nr qJ hb;have GW222:=gw hg (bF HB eL ef fH);have KO:=gw hg (bF HB eL ef fH);replace HB:=Ah (aK (bF HB eL ef fH) hb);have I6:=nn cg hg;have TC:=nm cg hg;replace cg:=nb cg hb;have I7:=nn cS hg;have TD:=nm cS hg;replace cS:=nb cS hb;have I8:=nn cy hg;have TE:=nm cy hg;replace cy:=nb cy hb;clear hb hg;have hnb128:=TC.out;have hnc128:=I6.out;have hnb129:=TD.out;have hnc129:=I7.out;have hnb130:=TE.out;have hnc130:=I8.out;obtain⟨hcz131_0,hcz131_1,hcz131_2⟩:=di nO;obtain⟨hfz131_0,hfz131_1,hfz131_2⟩:=dj nO;obtain⟨Ao132,co132,eo132⟩:=Kd.ax qI.out;subst eo132;obtain⟨Ao133,co133,eo133⟩:=Kd.ax qJ.out;subst eo133)|((with_reducible refine bN (f:=23) rfl ?_);refine gL (some 106) rfl rfl abH (by kernel_rfl) rfl #[.agg #[.int .i64 wB,.slice Ao132 wC.length co132,.slice Ao133 wD.length co133]] rfl ?_;(with_reducible refine(gb.calls Rb wB _ _ wC _ _ wD false _ ?aJ ?aM ?ac ?au A104.out).mono ?_);(case aJ=>exact rc qI nO);(case aM=>exact(Kd.ab qI.out).2.1);(case ac=>exact rc qJ nO);(case au=>exact(Kd.ab qJ.out).2.1);rintro e w134 ⟨rfl,hb⟩;refine⟨_,rfl, ?_⟩;replace az:=nf az nO hb;replace qI:=nf qI nO hb;replace qJ:=nf qJ nO hb;replace cg:=Ah (bJ (bf cg I6) hb);replace cS:=Ah (bJ (bf cS I7) hb);replace cy:=Ah (bJ (bf cy I8) hb);replace nO:=Ah (bJ (g:=Wl) (o:= .cells #[.int .i64 wB,.slice Ao132 wC.length co132,.slice Ao133 wD.length co133] 25 (0,0)) (pb nO) hb);replace HB:=Ah (aK (be HB eL ef fH KO) hb);(try clear hb);have hnb135:=rb.out;have hnc135:=ug.out;obtain⟨hcz136_0,hcz136_1,hcz136_2⟩:=di cy;obtain⟨hfz136_0,hfz136_1,hfz136_2⟩:=dj cy))
         refine bodyPost_ret (lT rfl _ _ t2 25 #[.int .i64 0,.slice none 0 0,.slice none 0 0] (0,0) _ rfl (pb cy) aah rfl (by kernel_rfl)) rfl ?_;exact⟨_,_,er,by first|exact Kd.dG _ _ _ _ _|exact Kd.dY _ _ _ _ _|exact Kd.dZ _ _ _ _ _|exact Kd.dW _ _ _ _ _|exact Kd.dX _ _ _ _ _,by first|exact Kd.dG _ _ _ _ _|exact Kd.dY _ _ _ _ _|exact Kd.dZ _ _ _ _ _|exact Kd.dW _ _ _ _ _|exact Kd.dX _ _ _ _ _,be HB eL ef fH KO⟩
        subst c105;rw[if_pos rfl]at H;simp only[SY,cM]at H;obtain⟨rfl,rfl,rfl,rfl⟩:=H;have Vm:=qd.out;have Vn:=tf.out;have hnb107:=Cm.out;have hnc107:=Cn.out;obtain⟨hcz108_0,hcz108_1,hcz108_2⟩:=di cg;obtain⟨hfz108_0,hfz108_1,hfz108_2⟩:=dj cg;obtain⟨KP,KQ,Wm⟩:=Kd.ax az.out;subst Wm
        go_wp2_with (first|((with_reducible refine bN (f:=19) rfl ?_);refine gL (some 104) rfl rfl Try.func19 (by kernel_rfl) rfl #[.int .i64 aA,.slice KP DH.length KQ] rfl ?_;(with_reducible refine(ip.calls Rb aA _ _ DH wB wC wD _ ?aJ ?aM A103.out).mono ?_);(case aJ=>exact df az);(case aM=>exact(Kd.ab az.out).2.1);rintro e w110 ⟨v217,v220,rfl,ho0,ho1,hb⟩;refine⟨_,rfl, ?_⟩;have qI:=Ah (Kd.bq (Kd.u1 (Kd.bv ho0 (Kd.bZ (rr az.out))) (g:=oN) (o:= .cells #[.int .i64 kT,.int .i64 jo] 38 (0,0)) (bk cS)) (bR (bF HB eL ef fH)));have qJ:=Ah (Kd.bq (Kd.u1 (Kd.bv ho1 (Kd.bZ (rr az.out))) (g:=oN) (o:= .cells #[.int .i64 kT,.int .i64 jo] 38 (0,0)) (bk cS)) (bR (bF HB eL ef fH)));replace az:=Ah (Kd.aE (Kd.cv (Kd.cv (Kd.gt (rr az.out) hb) (Kd.br ho0)) (Kd.br ho1)) (fun _ h_=>h_.1));replace cg:=nb cg hb;replace cS:=nb cS hb;replace cy:=nb cy hb;replace HB:=Ah (aK (bF HB eL ef fH) hb);(try clear hb ho0 ho1))|((with_reducible refine am (N:=10) rfl ?_);refine ar 10 25 #[.int .i64 0,.slice none 0 0,.slice none 0 0] ?_;intro Wl hg w111 nO hb;replace az:=nr az hb;replace qI:=nr qI hb;replace qJ:=nr qJ hb;have GW222:=gw hg (bF HB eL ef fH);have KO:=gw hg (bF HB eL ef fH);replace HB:=Ah (aK (bF HB eL ef fH) hb);have I6:=nn cg hg;have TC:=nm cg hg;replace cg:=nb cg hb;have I7:=nn cS hg;have TD:=nm cS hg;replace cS:=nb cS hb;have I8:=nn cy hg;have TE:=nm cy hg;replace cy:=nb cy hb;clear hb hg;have hnb112:=TC.out;have hnc112:=I6.out;have hnb113:=TD.out;have hnc113:=I7.out;have hnb114:=TE.out;have hnc114:=I8.out;obtain⟨hcz115_0,hcz115_1,hcz115_2⟩:=di nO;obtain⟨hfz115_0,hfz115_1,hfz115_2⟩:=dj nO;obtain⟨BK,BL,Wn⟩:=Kd.ax qI.out;subst Wn;obtain⟨BM,BN,Wo⟩:=Kd.ax qJ.out;subst Wo)|((with_reducible refine bN (f:=23) rfl ?_);refine gL (some 106) rfl rfl abH (by kernel_rfl) rfl #[.agg #[.int .i64 wB,.slice BK wC.length BL,.slice BM wD.length BN]] rfl ?_;(with_reducible refine(gb.calls Rb wB _ _ wC _ _ wD true _ ?aJ ?aM ?ac ?au A104.out).mono ?_);(case aJ=>exact rc qI nO);(case aM=>exact(Kd.ab qI.out).2.1);(case ac=>exact rc qJ nO);(case au=>exact(Kd.ab qJ.out).2.1);rintro e w118 ⟨rfl,hb⟩;refine⟨_,rfl, ?_⟩;replace az:=nf az nO hb;replace qI:=nf qI nO hb;replace qJ:=nf qJ nO hb;replace cg:=Ah (bJ (bf cg I6) hb);replace cS:=Ah (bJ (bf cS I7) hb);replace cy:=Ah (bJ (bf cy I8) hb);replace nO:=Ah (bJ (g:=Wl) (o:= .cells #[.int .i64 wB,.slice BK wC.length BL,.slice BM wD.length BN] 25 (0,0)) (pb nO) hb);replace HB:=Ah (aK (be HB eL ef fH KO) hb);(try clear hb);obtain⟨hcz119_0,hcz119_1,hcz119_2⟩:=di nO;obtain⟨hfz119_0,hfz119_1,hfz119_2⟩:=dj nO;have hnb120:=rb.out;have hnc120:=ug.out;obtain⟨hcz121_0,hcz121_1,hcz121_2⟩:=di cy;obtain⟨hfz121_0,hfz121_1,hfz121_2⟩:=dj cy))
        refine bodyPost_ret (lT rfl _ _ t2 25 #[.int .i64 wB,.slice BK wC.length BL,.slice BM wD.length BN] (0,0) _ rfl (pb cy) aah rfl (by kernel_rfl)) rfl ?_;exact⟨_,_,er,by(with_reducible repeat(first|apply Kd.al|apply Kd.ak|apply Kd.aY));exact Kd.aE (Kd.I (p:=⟨t2,2,none⟩) (Kd.I (p:=⟨t2,1,none⟩) (Kd.I (p:=⟨t2,0,none⟩) (Kd.ao qI.out cy.out (by decide)) (fun _ hk=>hk.2) (.int .i64 wB)) (fun _ hk=>hk.2) (.slice BK wC.length BL)) (fun _ hk=>hk.2) (.slice BM wD.length BN)) (fun _ hk=>hk.1.1.1),by(with_reducible repeat(first|apply Kd.al|apply Kd.ak|apply Kd.aY));exact Kd.aE (Kd.I (p:=⟨t2,2,none⟩) (Kd.I (p:=⟨t2,1,none⟩) (Kd.I (p:=⟨t2,0,none⟩) (Kd.ao qJ.out cy.out (by decide)) (fun _ hk=>hk.2) (.int .i64 wB)) (fun _ hk=>hk.2) (.slice BK wC.length BL)) (fun _ hk=>hk.2) (.slice BM wD.length BN)) (fun _ hk=>hk.1.1.1),be HB eL ef fH KO⟩
     rw[if_pos kQ]at H;have BG:=bS kQ;clear kQ
     by_cases hP:0≤ch
     rotate_left
     ·
      rw[if_neg hP]at H;exact absurd H (by simp)
     rw[if_pos hP]at H;have sy:=bS hP;clear hP
     by_cases c31:ch<(U.length:Int)
     rotate_left
     ·
      rw[if_neg c31]at H;exact absurd H (by simp)
     rw[if_pos c31]at H;have vR:=bS c31;clear c31
     by_cases c32:(Ee (((aC U ch).f0)+((aC U ch).f1)))<kT
     ·
      rw[if_pos c32]at H;have Qq:=bS c32;clear c32
      by_cases oC:an.length<8796093022208
      rotate_left
      ·
       rw[if_neg oC]at H;exact absurd H (by simp)
      rw[if_pos oC]at H;have K5:=Ah oC;clear oC;obtain⟨y200,KR⟩:∃y_:List (X),y_=(an++[(⟨(aC U ch).f0,(aC U ch).f1⟩:X)]):=⟨_,rfl⟩
      replace H:(d8.l0 k2 y200 zo U (U.length:Int) (Ee (ch+1)) aA U aH kT jo)=some (r1,r2,r3,r4):=by first|(rw[KR];with_reducible exact H)|(have ai:=(N6 _ _).symm.trans H;rw[KR];with_reducible exact ai)|(have ai:=(N6 _ _).symm.trans H;with_reducible exact ai)|with_reducible exact H|(rw[KR];exact H)|exact H
      have Ny200:=Ah KR;clear KR;have H':=Ah H;clear H;have mU:0≤(ch:Int):=od;have mV:ch<(U.length:Int):=od;obtain⟨KS,wE,oz,pA⟩:=eA cx.out ch mU mV
      cases wE
      replace oz:=hq HB oz;replace pA:=hq HB pA;replace mU:=eq_true mU;replace mV:=eq_true mV
      go_wp2_with (first|((with_reducible refine am (N:=9) rfl ?_);refine ar 9 38 #[.int .i64 0,.int .i64 0] ?_;intro iu hg Zp kE hb;replace az:=Ah (Kd.bW (Kd.iq (rr az.out) iu (aaq hg.symm)) hb);have KT:=gw hg (bF HB eL ef fH);have oO:=gw hg (bF HB eL ef fH);replace HB:=Ah (aK (bF HB eL ef fH) hb);have ow:=nn cg hg;have uh:=nm cg hg;replace cg:=nb cg hb;have nL:=nn cS hg;have ui:=nm cS hg;replace cS:=nb cS hb;have oH:=nn cy hg;have uj:=nm cy hg;replace cy:=nb cy hb;clear hb hg;have WU:=uh.out;have WV:=ow.out;have hnb36:=ui.out;have hnc36:=nL.out;have Qh:=uj.out;have Qi:=oH.out;obtain⟨FI,FJ⟩:=da kE;obtain⟨FS,FT⟩:=db kE;have Qr:=tf.out;have Qs:=qd.out;have KU:=ug.out;have KV:=rb.out;obtain⟨Fb,Fc⟩:=da cS;obtain⟨Fd,Fe⟩:=db cS)|((with_reducible refine iG (b:= .append) (xs:= #[.tmp 39,.tmp 41]) rfl ?_);at_builtin;refine Kd.jp ag (w0:=w) w.heap.size rfl (.tmp 39) (.tmp 41) 23 38 (.agg #[(.int .i64 0),(.int .i64 0)]) 16 rfl aau mb rfl (by decide) (by omega) u6 an (⟨(aC U ch).f0,(aC U ch).f1⟩:X) [.int .i64 ((aC U ch).f0),.int .i64 ((aC U ch).f1)] (fun k_=>k_≠oN∧k_≠iu) (fun _=>False) rfl (by first|(go_simp;done)|(go_simp;rfl)) ?aP (fun _ hk=>hk.elim) ?aF ?aO ?aB ?aS ?aL ?_;(case aP=>exact nA _ _ _ (⟨(aC U ch).f0,(aC U ch).f1⟩:X));(case aB=>exact(be HB eL ef fH oO));(case aF=>exact(fun k_ hk=>⟨Kd.jr (bf cS nL) k_ hk,Kd.jr (g:=iu) (o:= .cells #[.int .i64 ((aC U ch).f0),.int .i64 ((aC U ch).f1)] 38 (0,0)) (pb kE) k_ hk⟩));(case aO=>exact(by(with_reducible repeat(first|apply Kd.al|apply Kd.ak|apply Kd.aY));exact Kd.aE (Kd.I (p:=⟨iu,1,none⟩) (Kd.I (p:=⟨iu,0,none⟩) (Kd.aE az.out (fun k_ hk=>(⟨hk,hk.2⟩:_∧k_≠iu))) (fun _ hk=>hk.2) (.int .i64 ((aC U ch).f0))) (fun _ hk=>hk.2) (.int .i64 ((aC U ch).f1))) (fun _ hk=>⟨hk.1.1,hk.1.2⟩)));(case aS=>exact(bR (be HB eL ef fH oO)));(case aL=>have:=K5.out;omega);intro v201 SS ho hb hg hat;rw[←Ny200.out]at ho;replace cg:=Ah (cC (bf cg ow) hg (Kd.cY az.out cg.out (by decide)));replace cS:=Ah (cC (bf cS nL) hg (Kd.jq az.out (fun _ hk=>hk.1)));replace cy:=Ah (cC (bf cy oH) hg (Kd.cY az.out cy.out (by decide)));replace kE:=Ah (cC (g:=iu) (o:= .cells #[.int .i64 ((aC U ch).f0),.int .i64 ((aC U ch).f1)] 38 (0,0)) (pb kE) hg (Kd.jq az.out (fun _ hk=>hk.2)));replace HB:=Ah (hb);have HO202:=Ah (ho);clear az;clear ho hb hg hat))
      go_roundg k2
      case measure=>have:=HJ2.out;have:=dF.out;omega
      case rel=>exact⟨(y200),(zo),(Ee (ch+1)),(kT),(jo),(AR),e3,e3,H',⟨by have:=HJ2.out;have:=dF.out;omega⟩,rm HO202 (fun _ hk=>hk.1),⟨bk cg⟩,⟨bk cS⟩,⟨bk cy⟩,⟨be HB eL ef fH oO⟩⟩
     rw[if_neg c32]at H;have Qq:=f7 c32;clear c32
     by_cases sV:((aC U ch).f0)>(Ee (kT+jo))
     ·
      rw[if_pos sV]at H;have c43b0:=bS sV;clear sV
      by_cases Ej:zo=true
      ·
       subst Ej;rw[if_pos rfl]at H
       by_cases pr:an.length<8796093022208
       rotate_left
       ·
        rw[if_neg pr]at H;exact absurd H (by simp)
       rw[if_pos pr]at H;have LMc45:=Ah pr;clear pr;obtain⟨y203,KW⟩:∃y_:List (X),y_=(an++[(⟨(aC U ch).f0,(aC U ch).f1⟩:X)]):=⟨_,rfl⟩
       replace H:(d8.l0 k2 y203 true U (U.length:Int) (Ee (ch+1)) aA U aH kT jo)=some (r1,r2,r3,r4):=by first|(rw[KW];with_reducible exact H)|(have ai:=(N6 _ _).symm.trans H;rw[KW];with_reducible exact ai)|(have ai:=(N6 _ _).symm.trans H;with_reducible exact ai)|with_reducible exact H|(rw[KW];exact H)|exact H
       have Ny203:=Ah KW;clear KW;have H':=Ah H;clear H;have mU:0≤(ch:Int):=od;have mV:ch<(U.length:Int):=od;obtain⟨KS,wE,oz,pA⟩:=eA cx.out ch mU mV
       cases wE
       replace oz:=hq HB oz;replace pA:=hq HB pA;replace mU:=eq_true mU;replace mV:=eq_true mV
       go_wp2_with (first|((with_reducible refine am (N:=9) rfl ?_);refine ar 9 38 #[.int .i64 0,.int .i64 0] ?_;intro iu hg Hf kE hb;replace az:=Ah (Kd.bW (Kd.iq (rr az.out) iu (aaq hg.symm)) hb);have KT:=gw hg (bF HB eL ef fH);have oO:=gw hg (bF HB eL ef fH);replace HB:=Ah (aK (bF HB eL ef fH) hb);have ow:=nn cg hg;have uh:=nm cg hg;replace cg:=nb cg hb;have nL:=nn cS hg;have ui:=nm cS hg;replace cS:=nb cS hb;have oH:=nn cy hg;have uj:=nm cy hg;replace cy:=nb cy hb;clear hb hg;have hnb47:=uh.out;have hnc47:=ow.out;have hnb48:=ui.out;have hnc48:=nL.out;have GA:=uj.out;have GB:=oH.out;obtain⟨FO,FP⟩:=da kE;obtain⟨FX,FY⟩:=db kE;have Qj:=tf.out;have Qk:=qd.out;have hnb52:=ug.out;have hnc52:=rb.out;obtain⟨Iq,Ir⟩:=da cS;obtain⟨Is,Iu⟩:=db cS)|((with_reducible refine iG (b:= .append) (xs:= #[.tmp 58,.tmp 60]) rfl ?_);at_builtin;refine Kd.jp ag (w0:=w) w.heap.size rfl (.tmp 58) (.tmp 60) 23 38 (.agg #[(.int .i64 0),(.int .i64 0)]) 16 rfl aau mb rfl (by decide) (by omega) u6 an (⟨(aC U ch).f0,(aC U ch).f1⟩:X) [.int .i64 ((aC U ch).f0),.int .i64 ((aC U ch).f1)] (fun k_=>k_≠oN∧k_≠iu) (fun _=>False) rfl (by first|(go_simp;done)|(go_simp;rfl)) ?aP (fun _ hk=>hk.elim) ?aF ?aO ?aB ?aS ?aL ?_;(case aP=>exact nA _ _ _ (⟨(aC U ch).f0,(aC U ch).f1⟩:X));(case aB=>exact(be HB eL ef fH oO));(case aF=>exact(fun k_ hk=>⟨Kd.jr (bf cS nL) k_ hk,Kd.jr (g:=iu) (o:= .cells #[.int .i64 ((aC U ch).f0),.int .i64 ((aC U ch).f1)] 38 (0,0)) (pb kE) k_ hk⟩));(case aO=>exact(by(with_reducible repeat(first|apply Kd.al|apply Kd.ak|apply Kd.aY));exact Kd.aE (Kd.I (p:=⟨iu,1,none⟩) (Kd.I (p:=⟨iu,0,none⟩) (Kd.aE az.out (fun k_ hk=>(⟨hk,hk.2⟩:_∧k_≠iu))) (fun _ hk=>hk.2) (.int .i64 ((aC U ch).f0))) (fun _ hk=>hk.2) (.int .i64 ((aC U ch).f1))) (fun _ hk=>⟨hk.1.1,hk.1.2⟩)));(case aS=>exact(bR (be HB eL ef fH oO)));(case aL=>have:=LMc45.out;omega);intro v204 SV ho hb hg hat;rw[←Ny203.out]at ho;replace cg:=Ah (cC (bf cg ow) hg (Kd.cY az.out cg.out (by decide)));replace cS:=Ah (cC (bf cS nL) hg (Kd.jq az.out (fun _ hk=>hk.1)));replace cy:=Ah (cC (bf cy oH) hg (Kd.cY az.out cy.out (by decide)));replace kE:=Ah (cC (g:=iu) (o:= .cells #[.int .i64 ((aC U ch).f0),.int .i64 ((aC U ch).f1)] 38 (0,0)) (pb kE) hg (Kd.jq az.out (fun _ hk=>hk.2)));replace HB:=Ah (hb);have HO205:=Ah (ho);clear az;clear ho hb hg hat))
       go_roundg k2
       case measure=>have:=HJ2.out;have:=dF.out;omega
       case rel=>exact⟨(y203),(true),(Ee (ch+1)),(kT),(jo),(AR),e3,e3,H',⟨by have:=HJ2.out;have:=dF.out;omega⟩,rm HO205 (fun _ hk=>hk.1),⟨bk cg⟩,⟨bk cS⟩,⟨bk cy⟩,⟨be HB eL ef fH oO⟩⟩
      replace Ej:=Q3.mpr Ej;subst Ej;rw[if_neg dc]at H
      by_cases ot:an.length<8796093022208
      rotate_left
      ·
       rw[if_neg ot]at H;exact absurd H (by simp)
      rw[if_pos ot]at H;have LMc55:=Ah ot;clear ot;obtain⟨Bv,KX⟩:∃y_:List (X),y_=(an++[(⟨kT,jo⟩:X)]):=⟨_,rfl⟩
      replace H:(if Bv.length<8796093022208 then(d8.l0 k2 (Bv++[(⟨(aC U ch).f0,(aC U ch).f1⟩:X)]) true U (U.length:Int) (Ee (ch+1)) aA U aH kT jo)else(none))=some (r1,r2,r3,r4):=by first|(rw[KX];with_reducible exact H)|(have ai:=(N6 _ _).symm.trans H;rw[KX];with_reducible exact ai)|(have ai:=(N6 _ _).symm.trans H;with_reducible exact ai)|with_reducible exact H|(rw[KX];exact H)|exact H
      have Ny206:=Ah KX;clear KX
      by_cases nX:Bv.length<8796093022208
      rotate_left
      ·
       rw[if_neg nX]at H;exact absurd H (by simp)
      rw[if_pos nX]at H;have LMc56:=Ah nX;clear nX;obtain⟨y209,KY⟩:∃y_:List (X),y_=(Bv++[(⟨(aC U ch).f0,(aC U ch).f1⟩:X)]):=⟨_,rfl⟩
      replace H:(d8.l0 k2 y209 true U (U.length:Int) (Ee (ch+1)) aA U aH kT jo)=some (r1,r2,r3,r4):=by first|(rw[KY];with_reducible exact H)|(have ai:=(N6 _ _).symm.trans H;rw[KY];with_reducible exact ai)|(have ai:=(N6 _ _).symm.trans H;with_reducible exact ai)|with_reducible exact H|(rw[KY];exact H)|exact H
      have Ny209:=Ah KY;clear KY;have H':=Ah H;clear H;have mU:0≤(ch:Int):=od;have mV:ch<(U.length:Int):=od;obtain⟨KS,wE,oz,pA⟩:=eA cx.out ch mU mV
      cases wE
      replace oz:=hq HB oz;replace pA:=hq HB pA;replace mU:=eq_true mU;replace mV:=eq_true mV
      go_wp2_with (first|((with_reducible refine am (N:=9) rfl ?_);refine ar 9 38 #[.int .i64 0,.int .i64 0] ?_;intro iu hg w57 kE hb;replace az:=Ah (Kd.bW (Kd.iq (rr az.out) iu (aaq hg.symm)) hb);have KT:=gw hg (bF HB eL ef fH);have oO:=gw hg (bF HB eL ef fH);replace HB:=Ah (aK (bF HB eL ef fH) hb);have ow:=nn cg hg;have uh:=nm cg hg;replace cg:=nb cg hb;have nL:=nn cS hg;have ui:=nm cS hg;replace cS:=nb cS hb;have oH:=nn cy hg;have uj:=nm cy hg;replace cy:=nb cy hb;clear hb hg;have hnb58:=uh.out;have hnc58:=ow.out;have hnb59:=ui.out;have hnc59:=nL.out;have hnb60:=uj.out;have hnc60:=oH.out;obtain⟨UJ,UK⟩:=da kE;obtain⟨UN,UO⟩:=db kE;have GC:=tf.out;have GD:=qd.out;have WB:=ug.out;have WC:=rb.out;obtain⟨hcz64_0,hcz64_1⟩:=da cS;obtain⟨hfz64_0,hfz64_1⟩:=db cS)|((with_reducible refine iG (b:= .append) (xs:= #[.tmp 54,.tmp 56]) rfl ?_);at_builtin;refine Kd.jp ag (w0:=w) w.heap.size rfl (.tmp 54) (.tmp 56) 23 38 (.agg #[(.int .i64 0),(.int .i64 0)]) 16 rfl aau mb rfl (by decide) (by omega) u6 an (⟨kT,jo⟩:X) [.int .i64 kT,.int .i64 jo] (fun k_=>k_≠oN∧k_≠iu) (fun _=>False) rfl (by first|(go_simp;done)|(go_simp;rfl)) ?aP (fun _ hk=>hk.elim) ?aF ?aO ?aB ?aS ?aL ?_;(case aP=>exact nA _ _ _ (⟨kT,jo⟩:X));(case aB=>exact(be HB eL ef fH oO));(case aF=>exact(fun k_ hk=>⟨Kd.jr (bf cS nL) k_ hk,Kd.jr (g:=iu) (o:= .cells #[.int .i64 ((aC U ch).f0),.int .i64 ((aC U ch).f1)] 38 (0,0)) (pb kE) k_ hk⟩));(case aO=>exact(by(with_reducible repeat(first|apply Kd.al|apply Kd.ak|apply Kd.aY));exact Kd.aE (Kd.I (p:=⟨iu,1,none⟩) (Kd.I (p:=⟨iu,0,none⟩) (Kd.aE az.out (fun k_ hk=>(⟨hk,hk.2⟩:_∧k_≠iu))) (fun _ hk=>hk.2) (.int .i64 ((aC U ch).f0))) (fun _ hk=>hk.2) (.int .i64 ((aC U ch).f1))) (fun _ hk=>⟨hk.1.1,hk.1.2⟩)));(case aS=>exact(bR (be HB eL ef fH oO)));(case aL=>have:=LMc55.out;omega);intro v207 w65 ho hb hg hat;rw[←Ny206.out]at ho;replace cg:=Ah (cC (bf cg ow) hg (Kd.cY az.out cg.out (by decide)));replace cS:=Ah (cC (bf cS nL) hg (Kd.jq az.out (fun _ hk=>hk.1)));replace cy:=Ah (cC (bf cy oH) hg (Kd.cY az.out cy.out (by decide)));replace kE:=Ah (cC (g:=iu) (o:= .cells #[.int .i64 ((aC U ch).f0),.int .i64 ((aC U ch).f1)] 38 (0,0)) (pb kE) hg (Kd.jq az.out (fun _ hk=>hk.2)));replace HB:=Ah (hb);have GK:=Ah (ho);clear az;clear ho hb hg hat;obtain⟨Pt,Pu⟩:=da kE;obtain⟨Pv,Pw⟩:=db kE)|((with_reducible refine iG (b:= .append) (xs:= #[.tmp 58,.tmp 60]) rfl ?_);at_builtin;refine Kd.jp ag (w0:=w) w.heap.size rfl (.tmp 58) (.tmp 60) 23 38 (.agg #[(.int .i64 0),(.int .i64 0)]) 16 rfl aau mb rfl (by decide) (by omega) v207 Bv (⟨(aC U ch).f0,(aC U ch).f1⟩:X) [.int .i64 ((aC U ch).f0),.int .i64 ((aC U ch).f1)] (fun k_=>k_≠oN∧k_≠iu) (fun _=>False) rfl rfl ?aP (fun _ hk=>hk.elim) ?aF ?aO ?aB ?aS ?aL ?_;(case aP=>exact nA _ _ _ (⟨(aC U ch).f0,(aC U ch).f1⟩:X));(case aB=>exact(be HB eL ef fH oO));(case aF=>exact(fun k_ hk=>⟨Kd.jr (bk cS) k_ hk,Kd.jr (bk kE) k_ hk⟩));(case aO=>exact(rr GK.out));(case aS=>exact(bR (be HB eL ef fH oO)));(case aL=>have:=LMc56.out;omega);intro v210 w67 ho hb hg hat;rw[←Ny209.out]at ho;replace cg:=Ah (cC (bk cg) hg (Kd.cY GK.out cg.out (by decide)));replace cS:=Ah (cC (bk cS) hg (Kd.jq GK.out (fun _ hk=>hk.1)));replace cy:=Ah (cC (bk cy) hg (Kd.cY GK.out cy.out (by decide)));replace kE:=Ah (cC (bk kE) hg (Kd.jq GK.out (fun _ hk=>hk.2)));replace HB:=Ah (hb);have HO211:=Ah (ho);clear GK;clear ho hb hg hat))
      go_roundg k2
      case measure=>have:=HJ2.out;have:=dF.out;omega
      case rel=>exact⟨(y209),(true),(Ee (ch+1)),(kT),(jo),(AR),e3,e3,H',⟨by have:=HJ2.out;have:=dF.out;omega⟩,rm HO211 (fun _ hk=>hk.1),⟨bk cg⟩,⟨bk cS⟩,⟨bk cy⟩,⟨be HB eL ef fH oO⟩⟩
     rw[if_neg sV]at H;have c43b0:=f7 sV;clear sV
     by_cases CX:(Ee (((aC U ch).f0)+((aC U ch).f1)))=kT
     ·
      rw[if_pos CX]at H;have c68b0:=jm CX;have c68b1:=jn CX;clear CX;have H':=Ah H;clear H;have mU:0≤(ch:Int):=od;have mV:ch<(U.length:Int):=od;obtain⟨KS,wE,oz,pA⟩:=eA cx.out ch mU mV
      cases wE
      replace oz:=hq HB oz;replace pA:=hq HB pA;replace mU:=eq_true mU;replace mV:=eq_true mV
      go_wp2_with (first|((with_reducible refine am (N:=9) rfl ?_);refine ar 9 38 #[.int .i64 0,.int .i64 0] ?_;intro iu hg w69 kE hb;replace az:=Ah (Kd.bW (Kd.iq (rr az.out) iu (aaq hg.symm)) hb);have KT:=gw hg (bF HB eL ef fH);have oO:=gw hg (bF HB eL ef fH);replace HB:=Ah (aK (bF HB eL ef fH) hb);have ow:=nn cg hg;have uh:=nm cg hg;replace cg:=nb cg hb;have nL:=nn cS hg;have ui:=nm cS hg;replace cS:=nb cS hb;have oH:=nn cy hg;have uj:=nm cy hg;replace cy:=nb cy hb;clear hb hg;have hnb70:=uh.out;have hnc70:=ow.out;have Wp:=ui.out;have Wq:=nL.out;have hnb72:=uj.out;have hnc72:=oH.out;obtain⟨hcz73_0,hcz73_1⟩:=da kE;obtain⟨hfz73_0,hfz73_1⟩:=db kE;have hnb74:=tf.out;have hnc74:=qd.out;have QW:=ug.out;have QX:=rb.out;obtain⟨Ow,Ox⟩:=da cS;obtain⟨Oy,Oz⟩:=db cS))
      go_roundg k2
      case measure=>have:=HJ2.out;have:=dF.out;omega
      case rel=>exact⟨(an),(zo),(Ee (ch+1)),((aC U ch).f0),(Ee (((aC U ch).f1)+jo)),(AR),e3,e3,H',⟨by have:=HJ2.out;have:=dF.out;omega⟩,⟨by(with_reducible repeat(first|apply Kd.al|apply Kd.ak|apply Kd.aY));exact Kd.aE (Kd.I (p:=⟨oN,1,none⟩) (Kd.I (p:=⟨oN,0,none⟩) (Kd.I (p:=⟨iu,1,none⟩) (Kd.I (p:=⟨iu,0,none⟩) (Kd.aE (Kd.aE az.out (fun k_ hk=>(⟨hk,hk.2⟩:_∧k_≠iu))) (fun k_ hk=>(⟨hk,hk.1.1⟩:_∧k_≠oN))) (fun _ hk=>hk.1.2) (.int .i64 ((aC U ch).f0))) (fun _ hk=>hk.1.2) (.int .i64 ((aC U ch).f1))) (fun _ hk=>hk.2) (.int .i64 ((aC U ch).f0))) (fun _ hk=>hk.2) (.int .i64 (Ee (((aC U ch).f1)+jo)))) (fun _ hk=>hk.1.1.1)⟩,⟨by(with_reducible repeat(first|refine bo ?_ _|refine bL ?_|refine ba ?_ _));refine bw ?_ qd.out _;(with_reducible repeat(first|refine bo ?_ _|refine bL ?_|refine ba ?_ _));refine bw ?_ qd.out _;(with_reducible repeat(first|refine bo ?_ _|refine bL ?_|refine ba ?_ _));refine bw ?_ ow.out _;(with_reducible repeat(first|refine bo ?_ _|refine bL ?_|refine ba ?_ _));refine bw ?_ ow.out _;exact bk cg⟩,⟨by(with_reducible repeat(first|refine bo ?_ _|refine bL ?_|refine ba ?_ _));refine yi (cs:= #[.int .i64 ((aC U ch).f0),.int .i64 jo]) ?_ 1 _ rfl;(with_reducible repeat(first|refine bo ?_ _|refine bL ?_|refine ba ?_ _));refine yi (cs:= #[.int .i64 kT,.int .i64 jo]) ?_ 0 _ rfl;(with_reducible repeat(first|refine bo ?_ _|refine bL ?_|refine ba ?_ _));refine bw ?_ nL.out _;(with_reducible repeat(first|refine bo ?_ _|refine bL ?_|refine ba ?_ _));refine bw ?_ nL.out _;exact bk cS⟩,⟨by(with_reducible repeat(first|refine bo ?_ _|refine bL ?_|refine ba ?_ _));refine bw ?_ rb.out _;(with_reducible repeat(first|refine bo ?_ _|refine bL ?_|refine ba ?_ _));refine bw ?_ rb.out _;(with_reducible repeat(first|refine bo ?_ _|refine bL ?_|refine ba ?_ _));refine bw ?_ oH.out _;(with_reducible repeat(first|refine bo ?_ _|refine bL ?_|refine ba ?_ _));refine bw ?_ oH.out _;exact bk cy⟩,⟨be HB eL ef fH oO⟩⟩
     rw[if_neg CX]at H;have c68b0:=jI CX;have c68b1:=jJ CX
     by_cases CY:((aC U ch).f0)=(Ee (kT+jo))
     rotate_left
     ·
      rw[if_neg CY]at H;have c77b0:=jI CY;have c77b1:=jJ CY;simp only[SY,cM]at H;obtain⟨rfl,rfl,rfl,rfl⟩:=H;have mU:0≤(ch:Int):=od;have mV:ch<(U.length:Int):=od;obtain⟨KS,wE,oz,pA⟩:=eA cx.out ch mU mV
      cases wE
      replace oz:=hq HB oz;replace pA:=hq HB pA;replace mU:=eq_true mU;replace mV:=eq_true mV
      go_wp2_with (first|((with_reducible refine am (N:=9) rfl ?_);refine ar 9 38 #[.int .i64 0,.int .i64 0] ?_;intro iu hg Zq kE hb;replace az:=Ah (Kd.bW (Kd.iq (rr az.out) iu (aaq hg.symm)) hb);have KT:=gw hg (bF HB eL ef fH);have oO:=gw hg (bF HB eL ef fH);replace HB:=Ah (aK (bF HB eL ef fH) hb);have ow:=nn cg hg;have uh:=nm cg hg;replace cg:=nb cg hb;have nL:=nn cS hg;have ui:=nm cS hg;replace cS:=nb cS hb;have oH:=nn cy hg;have uj:=nm cy hg;replace cy:=nb cy hb;clear hb hg;have hnb87:=uh.out;have hnc87:=ow.out;have hnb88:=ui.out;have hnc88:=nL.out;have hnb89:=uj.out;have hnc89:=oH.out;obtain⟨UP,UQ⟩:=da kE;obtain⟨UR,US⟩:=db kE;have hnb91:=tf.out;have hnc91:=qd.out;have Qd:=ug.out;have Qe:=rb.out;obtain⟨Ub,Uc⟩:=da cS;obtain⟨Ud,Ue⟩:=db cS;have hnb94:=Cn.out;have hnc94:=Cm.out;obtain⟨Ia,Ib,Ic⟩:=di cy;obtain⟨Id,Ie,If⟩:=dj cy))
      refine bodyPost_ret (lT rfl _ _ t2 25 #[.int .i64 0,.slice none 0 0,.slice none 0 0] (0,0) _ rfl (AD cy oH) aah rfl (by kernel_rfl)) rfl ?_;exact⟨_,_,er,by first|exact Kd.dG _ _ _ _ _|exact Kd.dY _ _ _ _ _|exact Kd.dZ _ _ _ _ _|exact Kd.dW _ _ _ _ _|exact Kd.dX _ _ _ _ _,by first|exact Kd.dG _ _ _ _ _|exact Kd.dY _ _ _ _ _|exact Kd.dZ _ _ _ _ _|exact Kd.dW _ _ _ _ _|exact Kd.dX _ _ _ _ _,be HB eL ef fH oO⟩
     rw[if_pos CY]at H;have c77b0:=jm CY;have c77b1:=jn CY;clear CY;have H':=Ah H;clear H;have mU:0≤(ch:Int):=od;have mV:ch<(U.length:Int):=od;obtain⟨KS,wE,oz,pA⟩:=eA cx.out ch mU mV
     cases wE
     replace oz:=hq HB oz;replace pA:=hq HB pA;replace mU:=eq_true mU;replace mV:=eq_true mV
     go_wp2_with (first|((with_reducible refine am (N:=9) rfl ?_);refine ar 9 38 #[.int .i64 0,.int .i64 0] ?_;intro iu hg w78 kE hb;replace az:=Ah (Kd.bW (Kd.iq (rr az.out) iu (aaq hg.symm)) hb);have KT:=gw hg (bF HB eL ef fH);have oO:=gw hg (bF HB eL ef fH);replace HB:=Ah (aK (bF HB eL ef fH) hb);have ow:=nn cg hg;have uh:=nm cg hg;replace cg:=nb cg hb;have nL:=nn cS hg;have ui:=nm cS hg;replace cS:=nb cS hb;have oH:=nn cy hg;have uj:=nm cy hg;replace cy:=nb cy hb;clear hb hg;have hnb79:=uh.out;have hnc79:=ow.out;have hnb80:=ui.out;have hnc80:=nL.out;have WF:=uj.out;have WG:=oH.out;obtain⟨UD,UE⟩:=da kE;obtain⟨UF,UG⟩:=db kE;have hnb83:=tf.out;have hnc83:=qd.out;have hnb84:=ug.out;have hnc84:=rb.out;obtain⟨hcz85_0,hcz85_1⟩:=da cS;obtain⟨hfz85_0,hfz85_1⟩:=db cS))
     go_roundg k2
     case measure=>have:=HJ2.out;have:=dF.out;omega
     case rel=>exact⟨(an),(zo),(Ee (ch+1)),(kT),(Ee (jo+((aC U ch).f1))),(AR),e3,e3,H',⟨by have:=HJ2.out;have:=dF.out;omega⟩,⟨by(with_reducible repeat(first|apply Kd.al|apply Kd.ak|apply Kd.aY));exact Kd.aE (Kd.I (p:=⟨oN,1,none⟩) (Kd.I (p:=⟨iu,1,none⟩) (Kd.I (p:=⟨iu,0,none⟩) (Kd.aE (Kd.aE az.out (fun k_ hk=>(⟨hk,hk.2⟩:_∧k_≠iu))) (fun k_ hk=>(⟨hk,hk.1.1⟩:_∧k_≠oN))) (fun _ hk=>hk.1.2) (.int .i64 ((aC U ch).f0))) (fun _ hk=>hk.1.2) (.int .i64 ((aC U ch).f1))) (fun _ hk=>hk.2) (.int .i64 (Ee (jo+((aC U ch).f1))))) (fun _ hk=>hk.1.1.1)⟩,⟨by(with_reducible repeat(first|refine bo ?_ _|refine bL ?_|refine ba ?_ _));refine bw ?_ qd.out _;(with_reducible repeat(first|refine bo ?_ _|refine bL ?_|refine ba ?_ _));refine bw ?_ ow.out _;(with_reducible repeat(first|refine bo ?_ _|refine bL ?_|refine ba ?_ _));refine bw ?_ ow.out _;exact bk cg⟩,⟨by(with_reducible repeat(first|refine bo ?_ _|refine bL ?_|refine ba ?_ _));refine yi (cs:= #[.int .i64 kT,.int .i64 jo]) ?_ 1 _ rfl;(with_reducible repeat(first|refine bo ?_ _|refine bL ?_|refine ba ?_ _));refine bw ?_ nL.out _;(with_reducible repeat(first|refine bo ?_ _|refine bL ?_|refine ba ?_ _));refine bw ?_ nL.out _;exact bk cS⟩,⟨by(with_reducible repeat(first|refine bo ?_ _|refine bL ?_|refine ba ?_ _));refine bw ?_ rb.out _;(with_reducible repeat(first|refine bo ?_ _|refine bL ?_|refine ba ?_ _));refine bw ?_ oH.out _;(with_reducible repeat(first|refine bo ?_ _|refine bL ?_|refine ba ?_ _));refine bw ?_ oH.out _;exact bk cy⟩,⟨be HB eL ef fH oO⟩⟩
def gz.l0:Nat→List (aV)→Int→Int→Int→List (X)→List (X)→Option (Int×(List (X))×(List (X))×Int×(List (aV))×Bool)
 |0,_,_,_,_,_,_=>none
 |k+1,x34,Zr,CZ,Uf,Ug,Uh=>if CZ<Zr then(if 0≤CZ then(if CZ<(x34.length:Int)then(if((J x34 CZ).f0)=1 then((d8.f k Uf Ug Uh ((J x34 CZ).f2.f0) ((J x34 CZ).f2.f1)).bind fun Qt=>(if Qt.2.2.2=true then(gz.l0 k x34 Zr (Ee (CZ+1)) Qt.1 Qt.2.1 Qt.2.2.1)else(some (0,([]:List (X)),([]:List (X)),0,([]:List (aV)),false))))else(gz.l0 k x34 Zr (Ee (CZ+1)) Uf Ug Uh))else(none))else(none))else(some (Uf,Ug,Uh,1,([]:List (aV)),true))
def gz.f(k:Nat)(aA:Int)(U:List (X))(aH:List (X))(bl:Int)(bO:List (aV))(l1:List (aV)):Option (Int×(List (X))×(List (X))×Int×(List (aV))×Bool):=(f9.f k aA U aH bl bO).bind fun t226=>(if t226=true then((cD.f k aA U aH l1).bind fun Wr=>(if Wr.2=true then((ip.f k aA U).bind fun DI=>(gz.l0 k l1 (l1.length:Int) 0 DI.1 DI.2.1 DI.2.2))else(some (0,([]:List (X)),([]:List (X)),0,([]:List (aV)),false))))else(some (0,([]:List (X)),([]:List (X)),0,([]:List (aV)),false)))
theorem gz.dh:∀k,(∀y0 y1 y2 y3 y4 y5,aG (gz.l0 k y0 y1 y2 y3 y4 y5) (gz.l0 (k+1) y0 y1 y2 y3 y4 y5))
 |0=>fun _ _ _ _ _ _ r h=>by simp[gz.l0]at h
 |k+1=>by
  have bz:=gz.dh k
  ·
   intro y0 y1 y2 y3 y4 y5;unfold gz.l0
   repeat' with_reducible first|exact bz _ _ _ _ _ _|exact d8.mono _ _ _ _ _ _|exact f9.mono _ _ _ _ _ _|exact cD.mono _ _ _ _ _|exact ip.mono _ _ _|exact aG.refl _|exact aG.none _|refine aG.ite ?_ ?_|refine aG.bind ?_ (fun _=> ?_)
theorem gz.mono:∀a0 a1 a2 a3 a4 a5 k,aG (gz.f k a0 a1 a2 a3 a4 a5) (gz.f (k+1) a0 a1 a2 a3 a4 a5):=by
 intro a0 a1 a2 a3 a4 a5 k;have bz:=gz.dh k;unfold gz.f
 repeat' with_reducible first|exact bz _ _ _ _ _ _|exact d8.mono _ _ _ _ _ _|exact f9.mono _ _ _ _ _ _|exact cD.mono _ _ _ _ _|exact ip.mono _ _ _|exact aG.refl _|exact aG.none _|refine aG.ite ?_ ?_|refine aG.bind ?_ (fun _=> ?_)
theorem gz.calls(k:Nat)(aA:Int)(bH:Option Addr)(ay:Nat)(U:List (X))(bC:Option Addr)(bD:Nat)(aH:List (X))(bl:Int)(em:Option Addr)(en:Nat)(bO:List (aV))(A1:Option Addr)(c1:Nat)(l1:List (aV))(r1:Int)(r2:List (X))(r3:List (X))(r4:Int)(r5:List (aV))(r6:Bool)(w:World)(fC:Kd.C ag w bH U.length U)(fD:U.length≤ay)(fE:Kd.C ag w bC aH.length aH)(fF:aH.length≤bD)(mh:Kd.C cV w em bO.length bO)(mi:bO.length≤en)(hr1:Kd.C cV w A1 l1.length l1)(hc1:l1.length≤c1)(h:gz.f k aA U aH bl bO l1=some (r1,r2,r3,r4,r5,r6)):
 Calls Try.prog 6 #[.agg #[.int .i64 aA,.slice bH U.length ay,.slice bC aH.length bD,.int .i64 bl,.slice em bO.length en],.slice A1 l1.length c1] w fun e w'=>∃et eZ lm:Value,e= .returned (.tuple #[.agg #[.int .i64 r1,et,eZ,.int .i64 r4,lm],.bool r6])∧Kd.R ag 38 w' w.heap.size (fun k_=>some k_≠(eZ:Value).ownBlock) et r2∧Kd.R ag 38 w' w.heap.size (fun k_=>some k_≠(et:Value).ownBlock) eZ r3∧Kd.R cV 40 w' w.heap.size (fun _=>True) lm r5∧Below w.heap.size w w':=by
 have uP:=aab;have o8:=aah;have vt:=Try.underlying40;have lM:=aap;have cx:=Ah fC;have dv:=Ah fD;clear fC fD;have eV:=Ah fE;have eW:=Ah fF;clear fE fF;have ls:=Ah mh;have m8:=Ah mi;clear mh mi;have HR1:=Ah hr1;have rV:=Ah hc1;clear hr1 hc1;have HB:=Ah (gR w.heap.size w);have H:((f9.f k aA U aH bl bO).bind fun t226=>(if t226=true then((cD.f k aA U aH l1).bind fun Wr=>(if Wr.2=true then((ip.f k aA U).bind fun DI=>(gz.l0 k l1 (l1.length:Int) 0 DI.1 DI.2.1 DI.2.2))else(some (0,([]:List (X)),([]:List (X)),0,([]:List (aV)),false))))else(some (0,([]:List (X)),([]:List (X)),0,([]:List (aV)),false))))=some (r1,r2,r3,r4,r5,r6):=h;clear h;replace H:=Hc.mp H;obtain⟨t226,dz,H⟩:=H
 try dsimp only at H
 have A3:=Ah dz;clear dz
 by_cases c4:t226=true
 rotate_left
 ·
  replace c4:=Q3.mpr c4;subst c4;rw[if_neg dc]at H;simp only[SY,cM]at H;obtain⟨rfl,rfl,rfl,rfl,rfl,rfl⟩:=H
  go_enter Try.func6,Try.ntmps6
  go_wp2_with (first|((with_reducible refine am (N:=2) rfl ?_);refine ar 2 28 #[.int .i64 aA,.slice bH U.length ay,.slice bC aH.length bD,.int .i64 bl,.slice em bO.length en] ?_;intro Ws hg Zs dw hb;have GW224:=gw hg (bs HB);have fu:=gw hg (bs HB);replace HB:=Ah (aK (bs HB) hb);clear hb hg)|((with_reducible refine am (N:=4) rfl ?_);refine ar 4 28 #[.int .i64 0,.slice none 0 0,.slice none 0 0,.int .i64 0,.slice none 0 0] ?_;intro pe hg w91 f5 hb;have GW225:=gw hg (aQ HB fu);have i9:=gw hg (aQ HB fu);replace HB:=Ah (aK (aQ HB fu) hb);have Co:=nn dw hg;have Cp:=nm dw hg;replace dw:=nb dw hb;clear hb hg;have Qd:=Co.out;have Qe:=Cp.out;obtain⟨Ub,Uc,hcz93_2,hcz93_3,hcz93_4⟩:=ah dw;obtain⟨Ud,Ue,hfz93_2,hfz93_3,hfz93_4⟩:=af dw)|((with_reducible refine bN (f:=9) rfl ?_);refine gL (some 14) rfl rfl aaY (by kernel_rfl) rfl #[.agg #[.int .i64 aA,.slice bH U.length ay,.slice bC aH.length bD,.int .i64 bl,.slice em bO.length en]] rfl ?_;(with_reducible refine(f9.calls k aA _ _ U _ _ aH bl _ _ bO false _ ?aJ ?aM ?ac ?au ?cI ?cW A3.out).mono ?_);(case aJ=>exact cb cx HB);(case aM=>exact dv.out);(case ac=>exact cb eV HB);(case au=>exact eW.out);(case cI=>exact cb ls HB);(case cW=>exact m8.out);rintro e w94 ⟨rfl,hb⟩;refine⟨_,rfl, ?_⟩;replace dw:=nb dw hb;replace f5:=nb f5 hb;replace HB:=Ah (aK (aa HB fu i9) hb);(try clear hb);obtain⟨Ia,Ib,Ic,hcz95_3,hcz95_4⟩:=ah f5;obtain⟨Id,Ie,If,hfz95_3,hfz95_4⟩:=af f5))
  refine bodyPost_ret (lT rfl _ _ pe 28 #[.int .i64 0,.slice none 0 0,.slice none 0 0,.int .i64 0,.slice none 0 0] (0,0) _ rfl (pb f5) aab rfl (by kernel_rfl)) rfl ?_;exact⟨_,_,_,er,by first|exact Kd.dG _ _ _ _ _|exact Kd.dY _ _ _ _ _|exact Kd.dZ _ _ _ _ _|exact Kd.dW _ _ _ _ _|exact Kd.dX _ _ _ _ _,by first|exact Kd.dG _ _ _ _ _|exact Kd.dY _ _ _ _ _|exact Kd.dZ _ _ _ _ _|exact Kd.dW _ _ _ _ _|exact Kd.dX _ _ _ _ _,by first|exact Kd.dG _ _ _ _ _|exact Kd.dY _ _ _ _ _|exact Kd.dZ _ _ _ _ _|exact Kd.dW _ _ _ _ _|exact Kd.dX _ _ _ _ _,aa HB fu i9⟩
 subst c4;rw[if_pos rfl]at H;replace H:=Hc.mp H;obtain⟨⟨t227,t228⟩,lD,H⟩:=H
 try dsimp only at H
 have A5:=Ah lD;clear lD
 by_cases c6:t228=true
 rotate_left
 ·
  replace c6:=Q3.mpr c6;subst c6;rw[if_neg dc]at H;simp only[SY,cM]at H;obtain⟨rfl,rfl,rfl,rfl,rfl,rfl⟩:=H
  go_enter Try.func6,Try.ntmps6
  go_wp2_with (first|((with_reducible refine am (N:=2) rfl ?_);refine ar 2 28 #[.int .i64 aA,.slice bH U.length ay,.slice bC aH.length bD,.int .i64 bl,.slice em bO.length en] ?_;intro Ws hg w82 dw hb;have GW224:=gw hg (bs HB);have fu:=gw hg (bs HB);replace HB:=Ah (aK (bs HB) hb);clear hb hg)|((with_reducible refine am (N:=4) rfl ?_);refine ar 4 28 #[.int .i64 0,.slice none 0 0,.slice none 0 0,.int .i64 0,.slice none 0 0] ?_;intro pe hg w83 f5 hb;have GW225:=gw hg (aQ HB fu);have i9:=gw hg (aQ HB fu);replace HB:=Ah (aK (aQ HB fu) hb);have Co:=nn dw hg;have Cp:=nm dw hg;replace dw:=nb dw hb;clear hb hg;have hnb84:=Co.out;have hnc84:=Cp.out;obtain⟨hcz85_0,hcz85_1,hcz85_2,hcz85_3,hcz85_4⟩:=ah dw;obtain⟨hfz85_0,hfz85_1,hfz85_2,hfz85_3,hfz85_4⟩:=af dw)|((with_reducible refine bN (f:=9) rfl ?_);refine gL (some 14) rfl rfl aaY (by kernel_rfl) rfl #[.agg #[.int .i64 aA,.slice bH U.length ay,.slice bC aH.length bD,.int .i64 bl,.slice em bO.length en]] rfl ?_;(with_reducible refine(f9.calls k aA _ _ U _ _ aH bl _ _ bO true _ ?aJ ?aM ?ac ?au ?cI ?cW A3.out).mono ?_);(case aJ=>exact cb cx HB);(case aM=>exact dv.out);(case ac=>exact cb eV HB);(case au=>exact eW.out);(case cI=>exact cb ls HB);(case cW=>exact m8.out);rintro e Zq ⟨rfl,hb⟩;refine⟨_,rfl, ?_⟩;replace dw:=nb dw hb;replace f5:=nb f5 hb;replace HB:=Ah (aK (aa HB fu i9) hb);(try clear hb);obtain⟨hcz87_0,hcz87_1,hcz87_2,hcz87_3,hcz87_4⟩:=ah dw;obtain⟨hfz87_0,hfz87_1,hfz87_2,hfz87_3,hfz87_4⟩:=af dw)|((with_reducible refine bN (f:=18) rfl ?_);refine gL (some 21) rfl rfl Try.func18 (by kernel_rfl) rfl #[.agg #[.int .i64 aA,.slice bH U.length ay,.slice bC aH.length bD],.slice A1 l1.length c1] rfl ?_;(with_reducible refine(cD.calls k aA _ _ U _ _ aH _ _ l1 t227 false _ ?aJ ?aM ?ac ?au ?cI ?cW A5.out).mono ?_);(case aJ=>exact cb cx HB);(case aM=>exact dv.out);(case ac=>exact cb eV HB);(case au=>exact eW.out);(case cI=>exact cb HR1 HB);(case cW=>exact rV.out);rintro e w88 ⟨rfl,hb⟩;refine⟨_,rfl, ?_⟩;replace dw:=nb dw hb;replace f5:=nb f5 hb;replace HB:=Ah (aK (aa HB fu i9) hb);(try clear hb);obtain⟨Ui,Uj,Uk,hcz89_3,hcz89_4⟩:=ah f5;obtain⟨Ul,Um,Un,hfz89_3,hfz89_4⟩:=af f5))
  refine bodyPost_ret (lT rfl _ _ pe 28 #[.int .i64 0,.slice none 0 0,.slice none 0 0,.int .i64 0,.slice none 0 0] (0,0) _ rfl (pb f5) aab rfl (by kernel_rfl)) rfl ?_;exact⟨_,_,_,er,by first|exact Kd.dG _ _ _ _ _|exact Kd.dY _ _ _ _ _|exact Kd.dZ _ _ _ _ _|exact Kd.dW _ _ _ _ _|exact Kd.dX _ _ _ _ _,by first|exact Kd.dG _ _ _ _ _|exact Kd.dY _ _ _ _ _|exact Kd.dZ _ _ _ _ _|exact Kd.dW _ _ _ _ _|exact Kd.dX _ _ _ _ _,by first|exact Kd.dG _ _ _ _ _|exact Kd.dY _ _ _ _ _|exact Kd.dZ _ _ _ _ _|exact Kd.dW _ _ _ _ _|exact Kd.dX _ _ _ _ _,aa HB fu i9⟩
 subst c6;rw[if_pos rfl]at H;replace H:=Hc.mp H;obtain⟨⟨t229,MA,t233⟩,pt,H⟩:=H
 try dsimp only at H
 have A7:=Ah pt;clear pt;have H':=Ah H;clear H
 go_enter Try.func6,Try.ntmps6
 go_wp2_with (first|((with_reducible refine am (N:=2) rfl ?_);refine ar 2 28 #[.int .i64 aA,.slice bH U.length ay,.slice bC aH.length bD,.int .i64 bl,.slice em bO.length en] ?_;intro Ws hg w8 dw hb;have GW224:=gw hg (bs HB);have fu:=gw hg (bs HB);replace HB:=Ah (aK (bs HB) hb);clear hb hg)|((with_reducible refine am (N:=4) rfl ?_);refine ar 4 28 #[.int .i64 0,.slice none 0 0,.slice none 0 0,.int .i64 0,.slice none 0 0] ?_;intro pe hg w9 f5 hb;have GW225:=gw hg (aQ HB fu);have i9:=gw hg (aQ HB fu);replace HB:=Ah (aK (aQ HB fu) hb);have Co:=nn dw hg;have Cp:=nm dw hg;replace dw:=nb dw hb;clear hb hg;have WO:=Co.out;have WQ:=Cp.out;obtain⟨qh,qi,us,yp,yq⟩:=ah dw;obtain⟨qj,qk,uv,yu,yv⟩:=af dw)|((with_reducible refine bN (f:=9) rfl ?_);refine gL (some 14) rfl rfl aaY (by kernel_rfl) rfl #[.agg #[.int .i64 aA,.slice bH U.length ay,.slice bC aH.length bD,.int .i64 bl,.slice em bO.length en]] rfl ?_;(with_reducible refine(f9.calls k aA _ _ U _ _ aH bl _ _ bO true _ ?aJ ?aM ?ac ?au ?cI ?cW A3.out).mono ?_);(case aJ=>exact cb cx HB);(case aM=>exact dv.out);(case ac=>exact cb eV HB);(case au=>exact eW.out);(case cI=>exact cb ls HB);(case cW=>exact m8.out);rintro e yX ⟨rfl,hb⟩;refine⟨_,rfl, ?_⟩;replace dw:=nb dw hb;replace f5:=nb f5 hb;replace HB:=Ah (aK (aa HB fu i9) hb);(try clear hb);obtain⟨pX,pY,rx,tq,tr⟩:=ah dw;obtain⟨pZ,pa,ry,tt,tu⟩:=af dw)|((with_reducible refine bN (f:=18) rfl ?_);refine gL (some 21) rfl rfl Try.func18 (by kernel_rfl) rfl #[.agg #[.int .i64 aA,.slice bH U.length ay,.slice bC aH.length bD],.slice A1 l1.length c1] rfl ?_;(with_reducible refine(cD.calls k aA _ _ U _ _ aH _ _ l1 t227 true _ ?aJ ?aM ?ac ?au ?cI ?cW A5.out).mono ?_);(case aJ=>exact cb cx HB);(case aM=>exact dv.out);(case ac=>exact cb eV HB);(case au=>exact eW.out);(case cI=>exact cb HR1 HB);(case cW=>exact rV.out);rintro e HX ⟨rfl,hb⟩;refine⟨_,rfl, ?_⟩;replace dw:=nb dw hb;replace f5:=nb f5 hb;replace HB:=Ah (aK (aa HB fu i9) hb);(try clear hb);obtain⟨Aq,Ar,Pl,UX,UY⟩:=ah dw;obtain⟨As,At,Pm,UZ,Ua⟩:=af dw)|((with_reducible refine bN (f:=19) rfl ?_);refine gL (some 33) rfl rfl Try.func19 (by kernel_rfl) rfl #[.int .i64 aA,.slice bH U.length ay] rfl ?_;(with_reducible refine(ip.calls k aA _ _ U t229 MA t233 _ ?aJ ?aM A7.out).mono ?_);(case aJ=>exact cb cx HB);(case aM=>exact dv.out);rintro e w16 ⟨v231,v234,rfl,ho0,ho1,hb⟩;refine⟨_,rfl, ?_⟩;have Qu:=Ah (Kd.bq ho0 (bR (aa HB fu i9)));have Qv:=Ah (Kd.bq ho1 (bR (aa HB fu i9)));replace dw:=nb dw hb;replace f5:=nb f5 hb;replace HB:=Ah (aK (aa HB fu i9) hb);(try clear hb ho0 ho1))|((with_reducible refine am (N:=8) rfl ?_);refine ar 8 25 #[.int .i64 0,.slice none 0 0,.slice none 0 0] ?_;intro t6 hg Ek hZ hb;replace Qu:=nr Qu hb;replace Qv:=nr Qv hb;have GW236:=gw hg (aa HB fu i9);have lu:=gw hg (aa HB fu i9);replace HB:=Ah (aK (aa HB fu i9) hb);have AS:=nn dw hg;have O6:=nm dw hg;replace dw:=nb dw hb;have AT:=nn f5 hg;have O7:=nm f5 hg;replace f5:=nb f5 hb;clear hb hg;have hnb18:=O6.out;have hnc18:=AS.out;have Js:=O7.out;have Jt:=AT.out;obtain⟨rp,rq,sm⟩:=di hZ;obtain⟨ru,rv,sn⟩:=dj hZ;obtain⟨rC,rD,wF⟩:=Kd.ax Qu.out;subst wF;obtain⟨uQ,mD,Gp⟩:=Kd.ax Qv.out;subst Gp))
 go_loopg [36] k (fun kq v36 w'=>∃ (gV:Int) (O8:Int) (O9:Int) (tg:Int) (pU:List (X)) (ox:List (X)) (Iv:Value) (Iw:Value),v36= .int .i64 gV∧Y (gz.l0 kq l1 (l1.length:Int) gV tg pU ox=some (r1,r2,r3,r4,r5,r6))∧Y (kq≤k)∧Y (Kd.R ag 38 w' w.heap.size (fun k_=>some k_≠(Iw:Value).ownBlock) Iv pU)∧Y (Kd.R ag 38 w' w.heap.size (fun k_=>some k_≠(Iv:Value).ownBlock) Iw ox)∧Y (w'.heap[Ws]?=some (.cells #[.int .i64 aA,(.slice bH U.length ay),(.slice bC aH.length bD),.int .i64 bl,(.slice em bO.length en)] 28 (0,0)))∧Y (w'.heap[pe]?=some (.cells #[.int .i64 O8,(.slice none 0 0),(.slice none 0 0),.int .i64 O9,(.slice none 0 0)] 28 (0,0)))∧Y (w'.heap[t6]?=some (.cells #[.int .i64 tg,Iv,Iw] 25 (0,0)))∧Y (Below w.heap.size w w'))
 case atStart=>exact⟨(0),(0),(0),(t229),(MA),(t233),(.slice rC MA.length rD),(.slice uQ t233.length mD),e3,H',⟨eH _⟩,⟨by(with_reducible repeat(first|apply Kd.al|apply Kd.ak|apply Kd.aY));exact Kd.aE (Kd.I (p:=⟨t6,2,none⟩) (Kd.I (p:=⟨t6,1,none⟩) (Kd.I (p:=⟨t6,0,none⟩) (Kd.ao Qu.out hZ.out (by decide)) (fun _ hk=>hk.2) (.int .i64 t229)) (fun _ hk=>hk.2) (.slice rC MA.length rD)) (fun _ hk=>hk.2) (.slice uQ t233.length mD)) (fun _ hk=>hk.1)⟩,⟨by(with_reducible repeat(first|apply Kd.al|apply Kd.ak|apply Kd.aY));exact Kd.aE (Kd.I (p:=⟨t6,2,none⟩) (Kd.I (p:=⟨t6,1,none⟩) (Kd.I (p:=⟨t6,0,none⟩) (Kd.ao Qv.out hZ.out (by decide)) (fun _ hk=>hk.2) (.int .i64 t229)) (fun _ hk=>hk.2) (.slice rC MA.length rD)) (fun _ hk=>hk.2) (.slice uQ t233.length mD)) (fun _ hk=>hk.1)⟩,⟨bf dw AS⟩,⟨bf f5 AT⟩,⟨by exact pb hZ⟩,⟨bF HB fu i9 lu⟩⟩
 case round=>
  clear H'
  try clear c1
  try clear p2
  try clear c4
  try clear c6
  try clear c9
  try clear c10
  try clear c18
  try clear c19
  try clear qh qi us yp yq
  try clear pX pY rx tq tr
  try clear Aq Ar Pl UX UY
  try clear rp rq sm
  try clear qj qk uv yu yv
  try clear pZ pa ry tt tu
  try clear As At Pm UZ Ua
  try clear ru rv sn
  obtain⟨gV,O8,O9,tg,pU,ox,Iv,Iw,rfl,HA,dC,lU,lV,dw,f5,hZ,HB⟩:=hrel
  cases gk with
  |zero=>exact absurd HA.out (by simp[gz.l0])
  |succ k1=>
   have H:=HA.out;clear HA;simp only[gz.l0]at H
   by_cases c23:gV<(l1.length:Int)
   rotate_left
   ·
    rw[if_neg c23]at H;have Qw:=f7 c23;clear c23;simp only[SY,cM]at H;obtain⟨rfl,rfl,rfl,rfl,rfl,rfl⟩:=H;have QW:=O6.out;have QX:=AS.out;have hnb76:=O7.out;have hnc76:=AT.out;obtain⟨Uo,Up,Uq⟩:=di hZ;obtain⟨Ur,Us,Ut⟩:=dj hZ;obtain⟨YG,YH,eo78⟩:=Kd.ax lV.out;subst eo78;obtain⟨YI,YJ,eo79⟩:=Kd.ax lU.out;subst eo79;have hnb80:=Cp.out;have hnc80:=Co.out;obtain⟨hcz81_0,hcz81_1,hcz81_2,hcz81_3,hcz81_4⟩:=ah f5;obtain⟨hfz81_0,hfz81_1,hfz81_2,hfz81_3,hfz81_4⟩:=af f5
    go_wp2
    refine bodyPost_ret (lT rfl _ _ pe 28 #[.int .i64 tg,.slice YI pU.length YJ,.slice YG ox.length YH,.int .i64 1,.slice none 0 0] (0,0) _ rfl (pb f5) aab rfl (by kernel_rfl)) rfl ?_;exact⟨_,_,_,er,by(with_reducible repeat(first|apply Kd.al|apply Kd.ak|apply Kd.aY));exact Kd.aE (Kd.I (p:=⟨pe,4,none⟩) (Kd.I (p:=⟨pe,3,none⟩) (Kd.I (p:=⟨pe,2,none⟩) (Kd.I (p:=⟨pe,1,none⟩) (Kd.I (p:=⟨pe,0,none⟩) (Kd.ao lU.out f5.out (by decide)) (fun _ hk=>hk.2) (.int .i64 tg)) (fun _ hk=>hk.2) (.slice YI pU.length YJ)) (fun _ hk=>hk.2) (.slice YG ox.length YH)) (fun _ hk=>hk.2) (.int .i64 1)) (fun _ hk=>hk.2) (.slice none 0 0)) (fun _ hk=>hk.1),by(with_reducible repeat(first|apply Kd.al|apply Kd.ak|apply Kd.aY));exact Kd.aE (Kd.I (p:=⟨pe,4,none⟩) (Kd.I (p:=⟨pe,3,none⟩) (Kd.I (p:=⟨pe,2,none⟩) (Kd.I (p:=⟨pe,1,none⟩) (Kd.I (p:=⟨pe,0,none⟩) (Kd.ao lV.out f5.out (by decide)) (fun _ hk=>hk.2) (.int .i64 tg)) (fun _ hk=>hk.2) (.slice YI pU.length YJ)) (fun _ hk=>hk.2) (.slice YG ox.length YH)) (fun _ hk=>hk.2) (.int .i64 1)) (fun _ hk=>hk.2) (.slice none 0 0)) (fun _ hk=>hk.1),by first|exact Kd.dG _ _ _ _ _|exact Kd.dY _ _ _ _ _|exact Kd.dZ _ _ _ _ _|exact Kd.dW _ _ _ _ _|exact Kd.dX _ _ _ _ _,bF HB fu i9 lu⟩
   rw[if_pos c23]at H;have Qw:=bS c23;clear c23
   by_cases c24:0≤gV
   rotate_left
   ·
    rw[if_neg c24]at H;exact absurd H (by simp)
   rw[if_pos c24]at H;have BF:=bS c24;clear c24
   by_cases tV:gV<(l1.length:Int)
   rotate_left
   ·
    rw[if_neg tV]at H;exact absurd H (by simp)
   rw[if_pos tV]at H;have Qc:=bS tV;clear tV
   by_cases AI:((J l1 gV).f0)=1
   rotate_left
   ·
    rw[if_neg AI]at H;have c26b0:=jI AI;have c26b1:=jJ AI;have H':=Ah H;clear H;have wG:0≤(gV:Int):=od;have wH:gV<(l1.length:Int):=od;obtain⟨ad237,e237,Au,Av,Aw,Ax,Ay⟩:=jQ HR1.out gV wG wH
    cases e237
    replace Au:=hq HB Au;replace Av:=hq HB Av;replace Aw:=hq HB Aw;replace Ax:=hq HB Ax;replace Ay:=hq HB Ay;replace wG:=eq_true wG;replace wH:=eq_true wH
    go_wp2_with (first|((with_reducible refine am (N:=10) rfl ?_);refine ar 10 40 #[.int .i64 0,.int .i64 0,.int .i64 0,.int .i64 0,.int .i64 0] ?_;intro sD hg w70 iW hb;replace lU:=nr lU hb;replace lV:=nr lV hb;have GW238:=gw hg (bF HB fu i9 lu);have pf:=gw hg (bF HB fu i9 lu);replace HB:=Ah (aK (bF HB fu i9 lu) hb);have AU:=nn dw hg;have I9:=nm dw hg;replace dw:=nb dw hb;have AV:=nn f5 hg;have IA:=nm f5 hg;replace f5:=nb f5 hb;have AW:=nn hZ hg;have IB:=nm hZ hg;replace hZ:=nb hZ hb;clear hb hg;have Wp:=I9.out;have Wq:=AU.out;have hnb72:=IA.out;have hnc72:=AV.out;have hnb73:=IB.out;have hnc73:=AW.out;obtain⟨hcz74_0,hcz74_1,hcz74_2,hcz74_3,hcz74_4⟩:=ah iW;obtain⟨hfz74_0,hfz74_1,hfz74_2,hfz74_3,hfz74_4⟩:=af iW))
    go_roundg k1
    case measure=>have:=dC.out;omega
    case rel=>exact⟨(Ee (gV+1)),(O8),(O9),(tg),(pU),(ox),(Iv),(Iw),e3,H',⟨by have:=dC.out;omega⟩,⟨by(with_reducible repeat(first|apply Kd.al|apply Kd.ak|apply Kd.aY));exact Kd.aE (Kd.I (p:=⟨sD,4,none⟩) (Kd.I (p:=⟨sD,3,none⟩) (Kd.I (p:=⟨sD,2,none⟩) (Kd.I (p:=⟨sD,1,none⟩) (Kd.I (p:=⟨sD,0,none⟩) (Kd.ao lU.out iW.out (by decide)) (fun _ hk=>hk.2) (.int .i64 ((J l1 gV).f0))) (fun _ hk=>hk.2) (.int .i64 ((J l1 gV).f1))) (fun _ hk=>hk.2) (.int .i64 ((J l1 gV).f2.f0))) (fun _ hk=>hk.2) (.int .i64 ((J l1 gV).f2.f1))) (fun _ hk=>hk.2) (.int .i64 ((J l1 gV).f3))) (fun _ hk=>hk.1)⟩,⟨by(with_reducible repeat(first|apply Kd.al|apply Kd.ak|apply Kd.aY));exact Kd.aE (Kd.I (p:=⟨sD,4,none⟩) (Kd.I (p:=⟨sD,3,none⟩) (Kd.I (p:=⟨sD,2,none⟩) (Kd.I (p:=⟨sD,1,none⟩) (Kd.I (p:=⟨sD,0,none⟩) (Kd.ao lV.out iW.out (by decide)) (fun _ hk=>hk.2) (.int .i64 ((J l1 gV).f0))) (fun _ hk=>hk.2) (.int .i64 ((J l1 gV).f1))) (fun _ hk=>hk.2) (.int .i64 ((J l1 gV).f2.f0))) (fun _ hk=>hk.2) (.int .i64 ((J l1 gV).f2.f1))) (fun _ hk=>hk.2) (.int .i64 ((J l1 gV).f3))) (fun _ hk=>hk.1)⟩,⟨bf dw AU⟩,⟨bf f5 AV⟩,⟨bf hZ AW⟩,⟨be HB fu i9 lu pf⟩⟩
   rw[if_pos AI]at H;have c26b0:=jm AI;have c26b1:=jn AI;clear AI;replace H:=Hc.mp H;obtain⟨⟨zp,zq,Bw,t246⟩,A270,H⟩:=H
   try dsimp only at H
   have A27:=Ah A270;clear A270
   by_cases c28:t246=true
   rotate_left
   ·
    replace c28:=Q3.mpr c28;subst c28;rw[if_neg dc]at H;simp only[SY,cM]at H;obtain⟨rfl,rfl,rfl,rfl,rfl,rfl⟩:=H;have wG:0≤(gV:Int):=od;have wH:gV<(l1.length:Int):=od;obtain⟨ad237,e237,Au,Av,Aw,Ax,Ay⟩:=jQ HR1.out gV wG wH
    cases e237
    replace Au:=hq HB Au;replace Av:=hq HB Av;replace Aw:=hq HB Aw;replace Ax:=hq HB Ax;replace Ay:=hq HB Ay;replace wG:=eq_true wG;replace wH:=eq_true wH
    go_wp2_with (first|((with_reducible refine am (N:=10) rfl ?_);refine ar 10 40 #[.int .i64 0,.int .i64 0,.int .i64 0,.int .i64 0,.int .i64 0] ?_;intro sD hg w49 iW hb;replace lU:=nr lU hb;replace lV:=nr lV hb;have GW238:=gw hg (bF HB fu i9 lu);have pf:=gw hg (bF HB fu i9 lu);replace HB:=Ah (aK (bF HB fu i9 lu) hb);have AU:=nn dw hg;have I9:=nm dw hg;replace dw:=nb dw hb;have AV:=nn f5 hg;have IA:=nm f5 hg;replace f5:=nb f5 hb;have AW:=nn hZ hg;have IB:=nm hZ hg;replace hZ:=nb hZ hb;clear hb hg;have W9:=I9.out;have WA:=AU.out;have Qj:=IA.out;have Qk:=AV.out;have hnb52:=IB.out;have hnc52:=AW.out;obtain⟨Iq,Ir,Uu,Uv,Uw⟩:=ah iW;obtain⟨Is,Iu,Ux,Uy,Uz⟩:=af iW;have hnb54:=O6.out;have hnc54:=AS.out;have hnb55:=O7.out;have hnc55:=AT.out;obtain⟨hcz56_0,hcz56_1,hcz56_2⟩:=di hZ;obtain⟨hfz56_0,hfz56_1,hfz56_2⟩:=dj hZ;obtain⟨Dv,zr,MB⟩:=Kd.ax lU.out;subst MB;obtain⟨yJ,wI,Rc⟩:=Kd.ax lV.out;subst Rc)|((with_reducible refine bN (f:=20) rfl ?_);refine gL (some 47) rfl rfl Try.func20 (by kernel_rfl) rfl #[.agg #[.int .i64 tg,.slice Dv pU.length zr,.slice yJ ox.length wI],.agg #[.int .i64 ((J l1 gV).f2.f0),.int .i64 ((J l1 gV).f2.f1)]] rfl ?_;(with_reducible refine(d8.calls k1 tg _ _ pU _ _ ox ((J l1 gV).f2.f0) ((J l1 gV).f2.f1) zp zq Bw false _ ?aJ ?aM ?ac ?au A27.out).mono ?_);(case aJ=>refine(Kd.ab (e:=38) (base:=w.heap.size) (ok:=fun k_=>some k_≠(.slice yJ ox.length wI:Value).ownBlock) (n:=pU.length) (c:=zr) ?_).2.2;exact(rf lU iW));(case aM=>exact(Kd.ab lU.out).2.1);(case ac=>refine(Kd.ab (e:=38) (base:=w.heap.size) (ok:=fun k_=>some k_≠(.slice Dv pU.length zr:Value).ownBlock) (n:=ox.length) (c:=wI) ?_).2.2;exact(rf lV iW));(case au=>exact(Kd.ab lV.out).2.1);rintro e w59 ⟨v241,v244,rfl,ho0,ho1,hb⟩;refine⟨_,rfl, ?_⟩;have BO:=Ah (Kd.bq (Kd.bv (Kd.bv ho0 (Kd.bZ (rf lU iW))) (Kd.bZ (rf lV iW))) (bR (be HB fu i9 lu pf)));have BP:=Ah (Kd.bq (Kd.bv (Kd.bv ho1 (Kd.bZ (rf lU iW))) (Kd.bZ (rf lV iW))) (bR (be HB fu i9 lu pf)));replace lU:=Ah (Kd.aE (Kd.cv (Kd.cv (Kd.gt (rf lU iW) hb) (Kd.br ho0)) (Kd.br ho1)) (fun _ h_=>h_.1));replace lV:=Ah (Kd.aE (Kd.cv (Kd.cv (Kd.gt (rf lV iW) hb) (Kd.br ho0)) (Kd.br ho1)) (fun _ h_=>h_.1));replace dw:=Ah (bJ (bf dw AU) hb);replace f5:=Ah (bJ (bf f5 AV) hb);replace hZ:=Ah (bJ (bf hZ AW) hb);replace iW:=Ah (bJ (g:=sD) (o:= .cells #[.int .i64 ((J l1 gV).f0),.int .i64 ((J l1 gV).f1),.int .i64 ((J l1 gV).f2.f0),.int .i64 ((J l1 gV).f2.f1),.int .i64 ((J l1 gV).f3)] 40 (0,0)) (pb iW) hb);replace HB:=Ah (aK (be HB fu i9 lu pf) hb);(try clear hb hk ho0 ho1))|((with_reducible refine am (N:=11) rfl ?_);refine ar 11 25 #[.int .i64 0,.slice none 0 0,.slice none 0 0] ?_;intro DJ hg w60 DK hb;replace lU:=nr lU hb;replace lV:=nr lV hb;replace BO:=nr BO hb;replace BP:=nr BP hb;have GW247:=gw hg (be HB fu i9 lu pf);have Wt:=gw hg (be HB fu i9 lu pf);replace HB:=Ah (aK (be HB fu i9 lu pf) hb);have F0:=nn dw hg;have TF:=nm dw hg;replace dw:=nb dw hb;have Cq:=nn f5 hg;have TG:=nm f5 hg;replace f5:=nb f5 hb;have F1:=nn hZ hg;have TH:=nm hZ hg;replace hZ:=nb hZ hb;have TI:=nn iW hg;have TJ:=nm iW hg;replace iW:=nb iW hb;clear hb hg;have hnb61:=TF.out;have hnc61:=F0.out;have GC:=TG.out;have GD:=Cq.out;have WB:=TH.out;have WC:=F1.out;have WD:=TJ.out;have WE:=TI.out;obtain⟨On,Oo,Oq⟩:=di DK;obtain⟨Ot,Ou,Ov⟩:=dj DK;obtain⟨YK,YL,YM⟩:=Kd.ax BO.out;subst YM;obtain⟨Dw,Dx,MC⟩:=Kd.ax BP.out;subst MC;have hnb68:=Cp.out;have hnc68:=Co.out;obtain⟨hcz69_0,hcz69_1,hcz69_2,hcz69_3,hcz69_4⟩:=ah f5;obtain⟨hfz69_0,hfz69_1,hfz69_2,hfz69_3,hfz69_4⟩:=af f5))
    refine bodyPost_ret (lT rfl _ _ pe 28 #[.int .i64 0,.slice none 0 0,.slice none 0 0,.int .i64 0,.slice none 0 0] (0,0) _ rfl (AD f5 Cq) aab rfl (by kernel_rfl)) rfl ?_;exact⟨_,_,_,er,by first|exact Kd.dG _ _ _ _ _|exact Kd.dY _ _ _ _ _|exact Kd.dZ _ _ _ _ _|exact Kd.dW _ _ _ _ _|exact Kd.dX _ _ _ _ _,by first|exact Kd.dG _ _ _ _ _|exact Kd.dY _ _ _ _ _|exact Kd.dZ _ _ _ _ _|exact Kd.dW _ _ _ _ _|exact Kd.dX _ _ _ _ _,by first|exact Kd.dG _ _ _ _ _|exact Kd.dY _ _ _ _ _|exact Kd.dZ _ _ _ _ _|exact Kd.dW _ _ _ _ _|exact Kd.dX _ _ _ _ _,lA HB fu i9 lu pf Wt⟩
   subst c28;rw[if_pos rfl]at H;have H':=Ah H;clear H;have wG:0≤(gV:Int):=od;have wH:gV<(l1.length:Int):=od;obtain⟨ad237,e237,Au,Av,Aw,Ax,Ay⟩:=jQ HR1.out gV wG wH
   cases e237
   replace Au:=hq HB Au;replace Av:=hq HB Av;replace Aw:=hq HB Aw;replace Ax:=hq HB Ax;replace Ay:=hq HB Ay;replace wG:=eq_true wG;replace wH:=eq_true wH
   go_wp2_with (first|((with_reducible refine am (N:=10) rfl ?_);refine ar 10 40 #[.int .i64 0,.int .i64 0,.int .i64 0,.int .i64 0,.int .i64 0] ?_;intro sD hg NV iW hb;replace lU:=nr lU hb;replace lV:=nr lV hb;have GW238:=gw hg (bF HB fu i9 lu);have pf:=gw hg (bF HB fu i9 lu);replace HB:=Ah (aK (bF HB fu i9 lu) hb);have AU:=nn dw hg;have I9:=nm dw hg;replace dw:=nb dw hb;have AV:=nn f5 hg;have IA:=nm f5 hg;replace f5:=nb f5 hb;have AW:=nn hZ hg;have IB:=nm hZ hg;replace hZ:=nb hZ hb;clear hb hg;have hnb30:=I9.out;have hnc30:=AU.out;have hnb31:=IA.out;have hnc31:=AV.out;have Qx:=IB.out;have Qy:=AW.out;obtain⟨Fj,Fk,Ix,Iy,Iz⟩:=ah iW;obtain⟨Fl,Fm,J0,J1,J2⟩:=af iW;have hnb34:=O6.out;have hnc34:=AS.out;have WU:=O7.out;have WV:=AT.out;obtain⟨P0,P1,P2⟩:=di hZ;obtain⟨PM,PN,PO⟩:=dj hZ;obtain⟨zs,yK,MD⟩:=Kd.ax lU.out;subst MD;obtain⟨oA,mT,Do⟩:=Kd.ax lV.out;subst Do)|((with_reducible refine bN (f:=20) rfl ?_);refine gL (some 47) rfl rfl Try.func20 (by kernel_rfl) rfl #[.agg #[.int .i64 tg,.slice zs pU.length yK,.slice oA ox.length mT],.agg #[.int .i64 ((J l1 gV).f2.f0),.int .i64 ((J l1 gV).f2.f1)]] rfl ?_;(with_reducible refine(d8.calls k1 tg _ _ pU _ _ ox ((J l1 gV).f2.f0) ((J l1 gV).f2.f1) zp zq Bw true _ ?aJ ?aM ?ac ?au A27.out).mono ?_);(case aJ=>refine(Kd.ab (e:=38) (base:=w.heap.size) (ok:=fun k_=>some k_≠(.slice oA ox.length mT:Value).ownBlock) (n:=pU.length) (c:=yK) ?_).2.2;exact(rf lU iW));(case aM=>exact(Kd.ab lU.out).2.1);(case ac=>refine(Kd.ab (e:=38) (base:=w.heap.size) (ok:=fun k_=>some k_≠(.slice zs pU.length yK:Value).ownBlock) (n:=ox.length) (c:=mT) ?_).2.2;exact(rf lV iW));(case au=>exact(Kd.ab lV.out).2.1);rintro e NN ⟨v241,v244,rfl,ho0,ho1,hb⟩;refine⟨_,rfl, ?_⟩;have BO:=Ah (Kd.bq (Kd.bv (Kd.bv ho0 (Kd.bZ (rf lU iW))) (Kd.bZ (rf lV iW))) (bR (be HB fu i9 lu pf)));have BP:=Ah (Kd.bq (Kd.bv (Kd.bv ho1 (Kd.bZ (rf lU iW))) (Kd.bZ (rf lV iW))) (bR (be HB fu i9 lu pf)));replace lU:=Ah (Kd.aE (Kd.cv (Kd.cv (Kd.gt (rf lU iW) hb) (Kd.br ho0)) (Kd.br ho1)) (fun _ h_=>h_.1));replace lV:=Ah (Kd.aE (Kd.cv (Kd.cv (Kd.gt (rf lV iW) hb) (Kd.br ho0)) (Kd.br ho1)) (fun _ h_=>h_.1));replace dw:=Ah (bJ (bf dw AU) hb);replace f5:=Ah (bJ (bf f5 AV) hb);replace hZ:=Ah (bJ (bf hZ AW) hb);replace iW:=Ah (bJ (g:=sD) (o:= .cells #[.int .i64 ((J l1 gV).f0),.int .i64 ((J l1 gV).f1),.int .i64 ((J l1 gV).f2.f0),.int .i64 ((J l1 gV).f2.f1),.int .i64 ((J l1 gV).f3)] 40 (0,0)) (pb iW) hb);replace HB:=Ah (aK (be HB fu i9 lu pf) hb);(try clear hb hk ho0 ho1))|((with_reducible refine am (N:=11) rfl ?_);refine ar 11 25 #[.int .i64 0,.slice none 0 0,.slice none 0 0] ?_;intro DJ hg CP DK hb;replace lU:=nr lU hb;replace lV:=nr lV hb;replace BO:=nr BO hb;replace BP:=nr BP hb;have GW247:=gw hg (be HB fu i9 lu pf);have Wt:=gw hg (be HB fu i9 lu pf);replace HB:=Ah (aK (be HB fu i9 lu pf) hb);have F0:=nn dw hg;have TF:=nm dw hg;replace dw:=nb dw hb;have Cq:=nn f5 hg;have TG:=nm f5 hg;replace f5:=nb f5 hb;have F1:=nn hZ hg;have TH:=nm hZ hg;replace hZ:=nb hZ hb;have TI:=nn iW hg;have TJ:=nm iW hg;replace iW:=nb iW hb;clear hb hg;have Jw:=TF.out;have Jx:=F0.out;have hnb42:=TG.out;have hnc42:=Cq.out;have hnb43:=TH.out;have hnc43:=F1.out;have hnb44:=TJ.out;have hnc44:=TI.out;obtain⟨FL,FM,FN⟩:=di DK;obtain⟨FU,FV,FW⟩:=dj DK;obtain⟨rE,rF,ME⟩:=Kd.ax BO.out;subst ME;obtain⟨yL,yM,YN⟩:=Kd.ax BP.out;subst YN;obtain⟨hcz48_0,hcz48_1,hcz48_2⟩:=di hZ;obtain⟨hfz48_0,hfz48_1,hfz48_2⟩:=dj hZ))
   go_roundg k1
   case measure=>have:=dC.out;omega
   case rel=>exact⟨(Ee (gV+1)),(O8),(O9),(zp),(zq),(Bw),(.slice rE zq.length rF),(.slice yL Bw.length yM),e3,H',⟨by have:=dC.out;omega⟩,⟨by(with_reducible repeat(first|apply Kd.al|apply Kd.ak|apply Kd.aY));exact Kd.aE (Kd.I (p:=⟨t6,2,none⟩) (Kd.I (p:=⟨t6,1,none⟩) (Kd.I (p:=⟨t6,0,none⟩) (Kd.I (p:=⟨DJ,2,none⟩) (Kd.I (p:=⟨DJ,1,none⟩) (Kd.I (p:=⟨DJ,0,none⟩) (Kd.ao (Kd.ao BO.out DK.out (by decide)) hZ.out (by decide)) (fun _ hk=>hk.1.2) (.int .i64 zp)) (fun _ hk=>hk.1.2) (.slice rE zq.length rF)) (fun _ hk=>hk.1.2) (.slice yL Bw.length yM)) (fun _ hk=>hk.2) (.int .i64 zp)) (fun _ hk=>hk.2) (.slice rE zq.length rF)) (fun _ hk=>hk.2) (.slice yL Bw.length yM)) (fun _ hk=>hk.1.1.1.1)⟩,⟨by(with_reducible repeat(first|apply Kd.al|apply Kd.ak|apply Kd.aY));exact Kd.aE (Kd.I (p:=⟨t6,2,none⟩) (Kd.I (p:=⟨t6,1,none⟩) (Kd.I (p:=⟨t6,0,none⟩) (Kd.I (p:=⟨DJ,2,none⟩) (Kd.I (p:=⟨DJ,1,none⟩) (Kd.I (p:=⟨DJ,0,none⟩) (Kd.ao (Kd.ao BP.out DK.out (by decide)) hZ.out (by decide)) (fun _ hk=>hk.1.2) (.int .i64 zp)) (fun _ hk=>hk.1.2) (.slice rE zq.length rF)) (fun _ hk=>hk.1.2) (.slice yL Bw.length yM)) (fun _ hk=>hk.2) (.int .i64 zp)) (fun _ hk=>hk.2) (.slice rE zq.length rF)) (fun _ hk=>hk.2) (.slice yL Bw.length yM)) (fun _ hk=>hk.1.1.1.1)⟩,⟨by(with_reducible repeat(first|refine bo ?_ _|refine bL ?_|refine ba ?_ _));refine bw ?_ AS.out _;(with_reducible repeat(first|refine bo ?_ _|refine bL ?_|refine ba ?_ _));refine bw ?_ AS.out _;(with_reducible repeat(first|refine bo ?_ _|refine bL ?_|refine ba ?_ _));refine bw ?_ AS.out _;(with_reducible repeat(first|refine bo ?_ _|refine bL ?_|refine ba ?_ _));refine bw ?_ F0.out _;(with_reducible repeat(first|refine bo ?_ _|refine bL ?_|refine ba ?_ _));refine bw ?_ F0.out _;(with_reducible repeat(first|refine bo ?_ _|refine bL ?_|refine ba ?_ _));refine bw ?_ F0.out _;exact bk dw⟩,⟨by(with_reducible repeat(first|refine bo ?_ _|refine bL ?_|refine ba ?_ _));refine bw ?_ AT.out _;(with_reducible repeat(first|refine bo ?_ _|refine bL ?_|refine ba ?_ _));refine bw ?_ AT.out _;(with_reducible repeat(first|refine bo ?_ _|refine bL ?_|refine ba ?_ _));refine bw ?_ AT.out _;(with_reducible repeat(first|refine bo ?_ _|refine bL ?_|refine ba ?_ _));refine bw ?_ Cq.out _;(with_reducible repeat(first|refine bo ?_ _|refine bL ?_|refine ba ?_ _));refine bw ?_ Cq.out _;(with_reducible repeat(first|refine bo ?_ _|refine bL ?_|refine ba ?_ _));refine bw ?_ Cq.out _;exact bk f5⟩,⟨by(with_reducible repeat(first|refine bo ?_ _|refine bL ?_|refine ba ?_ _));refine yi (cs:= #[.int .i64 zp,.slice rE zq.length rF,.slice oA ox.length mT]) ?_ 2 _ rfl;(with_reducible repeat(first|refine bo ?_ _|refine bL ?_|refine ba ?_ _));refine yi (cs:= #[.int .i64 zp,.slice zs pU.length yK,.slice oA ox.length mT]) ?_ 1 _ rfl;(with_reducible repeat(first|refine bo ?_ _|refine bL ?_|refine ba ?_ _));refine yi (cs:= #[.int .i64 tg,.slice zs pU.length yK,.slice oA ox.length mT]) ?_ 0 _ rfl;(with_reducible repeat(first|refine bo ?_ _|refine bL ?_|refine ba ?_ _));refine bw ?_ F1.out _;(with_reducible repeat(first|refine bo ?_ _|refine bL ?_|refine ba ?_ _));refine bw ?_ F1.out _;(with_reducible repeat(first|refine bo ?_ _|refine bL ?_|refine ba ?_ _));refine bw ?_ F1.out _;exact bk hZ⟩,⟨lA HB fu i9 lu pf Wt⟩⟩
def Z(w0 W:World)(g:Nat)(f0:List Int)(f1:Int)(f2:Int):Prop:=∃A0 c0,W.heap[g]?=some (.cells #[.slice A0 f0.length c0,.int .i64 f1,.int .u64 f2] 47 (0,0))∧w0.heap.size≤g∧Kd.C (Kd.int .u8) w0 A0 f0.length f0
theorem Z.grown {w0 W:World}{g:Nat}{f0:List Int}{f1:Int}{f2:Int}{W1:World}{row:Option Nat}(h:Z w0 W g f0 f1 f2)(hw:W.grownBy W1 row)(hne:some g≠row):Z w0 W1 g f0 f1 f2:=by
 obtain⟨A0,c0,hb,hg,hr0⟩:=h;exact⟨A0,c0,cC hb hw hne,hg,hr0⟩
theorem Z.own_neN {w0 W:World}{g:Nat}{f0:List Int}{f1:Int}{f2:Int}{α:Type}{d:Kd α}{e:Nat}{base:Nat}{ok:Nat→Prop}{v:Value}{xs:List α}(h:Z w0 W g f0 f1 f2)(ho:Kd.N d e W base ok v xs)(ht:e≠47):some g≠v.ownBlock:=by
 obtain⟨A0,c0,hb,hg,hr0⟩:=h;exact Kd.N_ne ho hb ht
theorem Z.fresh {w0 W:World}{g:Nat}{f0:List Int}{f1:Int}{f2:Int}(h:Z w0 W g f0 f1 f2):∀k,W.heap.size≤k→k≠g:=by
 obtain⟨A0,c0,hb,hg,hr0⟩:=h;exact Kd.jr hb
theorem Z.kept {w0 W:World}{g:Nat}{f0:List Int}{f1:Int}{f2:Int}{W1:World}{S:Nat→Prop}(h:Z w0 W g f0 f1 f2)(hk:dU W W1 S)(hne:¬S g):Z w0 W1 g f0 f1 f2:=by
 obtain⟨A0,c0,hb,hg,hr0⟩:=h;exact⟨A0,c0,pW hb hk hne,hg,hr0⟩
theorem Z.Ca {w0 W0 W:World}{g:Nat}{f0:List Int}{f1:Int}{f2:Int}{l:List Nat}(h:Y (Z w0 W0 g f0 f1 f2))(hl:¬(g∈l))[s:lB l W0 W]:Z w0 W g f0 f1 f2:=Z.kept h.out (S:=fun k=>k∈l) s.out hl
theorem Z.i6 {w0 W0 W:World}{g:Nat}{f0:List Int}{f1:Int}{f2:Int}(h:Y (Z w0 W0 g f0 f1 f2))[s:lB [] W0 W]:Z w0 W g f0 f1 f2:=Z.Ca (l:=[]) h (fun h=>by cases h)
theorem Z.iS {w0 W0 W:World}{g a:Nat}{f0:List Int}{f1:Int}{f2:Int}(h:Y (Z w0 W0 g f0 f1 f2))(ha:Y (g≠a))[s:lB [a] W0 W]:Z w0 W g f0 f1 f2:=Z.Ca (l:=[a]) h (fun h=>(aal.1 h).elim ha.out (fun h=>by cases h))
theorem Z.dB {w0 W0 W:World}{g a b:Nat}{f0:List Int}{f1:Int}{f2:Int}(h:Y (Z w0 W0 g f0 f1 f2))(ha:Y (g≠a))(hb:Y (g≠b))[s:lB [a,b] W0 W]:Z w0 W g f0 f1 f2:=Z.Ca (l:=[a,b]) h (fun h=>(aal.1 h).elim ha.out (fun h=>(aal.1 h).elim hb.out (fun h=>by cases h)))
theorem Z.iq3 {w0 W0 W:World}{g a b c:Nat}{f0:List Int}{f1:Int}{f2:Int}(h:Y (Z w0 W0 g f0 f1 f2))(ha:Y (g≠a))(hb:Y (g≠b))(hc:Y (g≠c))[s:lB [a,b,c] W0 W]:Z w0 W g f0 f1 f2:=Z.Ca (l:=[a,b,c]) h (fun h=>(aal.1 h).elim ha.out (fun h=>(aal.1 h).elim hb.out (fun h=>(aal.1 h).elim hc.out (fun h=>by cases h))))
theorem Z.iq4 {w0 W0 W:World}{g a b c d:Nat}{f0:List Int}{f1:Int}{f2:Int}(h:Y (Z w0 W0 g f0 f1 f2))(ha:Y (g≠a))(hb:Y (g≠b))(hc:Y (g≠c))(hd:Y (g≠d))[s:lB [a,b,c,d] W0 W]:Z w0 W g f0 f1 f2:=Z.Ca (l:=[a,b,c,d]) h (fun h=>(aal.1 h).elim ha.out (fun h=>(aal.1 h).elim hb.out (fun h=>(aal.1 h).elim hc.out (fun h=>(aal.1 h).elim hd.out (fun h=>by cases h)))))
theorem Z.iq5 {w0 W0 W:World}{g a b c d e:Nat}{f0:List Int}{f1:Int}{f2:Int}(h:Y (Z w0 W0 g f0 f1 f2))(ha:Y (g≠a))(hb:Y (g≠b))(hc:Y (g≠c))(hd:Y (g≠d))(he:Y (g≠e))[s:lB [a,b,c,d,e] W0 W]:Z w0 W g f0 f1 f2:=Z.Ca (l:=[a,b,c,d,e]) h (fun h=>(aal.1 h).elim ha.out (fun h=>(aal.1 h).elim hb.out (fun h=>(aal.1 h).elim hc.out (fun h=>(aal.1 h).elim hd.out (fun h=>(aal.1 h).elim he.out (fun h=>by cases h))))))
theorem Z.iq6 {w0 W0 W:World}{g a b c d e f:Nat}{f0:List Int}{f1:Int}{f2:Int}(h:Y (Z w0 W0 g f0 f1 f2))(ha:Y (g≠a))(hb:Y (g≠b))(hc:Y (g≠c))(hd:Y (g≠d))(he:Y (g≠e))(hf:Y (g≠f))[s:lB [a,b,c,d,e,f] W0 W]:Z w0 W g f0 f1 f2:=Z.Ca (l:=[a,b,c,d,e,f]) h (fun h=>(aal.1 h).elim ha.out (fun h=>(aal.1 h).elim hb.out (fun h=>(aal.1 h).elim hc.out (fun h=>(aal.1 h).elim hd.out (fun h=>(aal.1 h).elim he.out (fun h=>(aal.1 h).elim hf.out (fun h=>by cases h)))))))
theorem Z.iq7 {w0 W0 W:World}{g a b c d e f m:Nat}{f0:List Int}{f1:Int}{f2:Int}(h:Y (Z w0 W0 g f0 f1 f2))(ha:Y (g≠a))(hb:Y (g≠b))(hc:Y (g≠c))(hd:Y (g≠d))(he:Y (g≠e))(hf:Y (g≠f))(hm:Y (g≠m))[s:lB [a,b,c,d,e,f,m] W0 W]:Z w0 W g f0 f1 f2:=Z.Ca (l:=[a,b,c,d,e,f,m]) h (fun h=>(aal.1 h).elim ha.out (fun h=>(aal.1 h).elim hb.out (fun h=>(aal.1 h).elim hc.out (fun h=>(aal.1 h).elim hd.out (fun h=>(aal.1 h).elim he.out (fun h=>(aal.1 h).elim hf.out (fun h=>(aal.1 h).elim hm.out (fun h=>by cases h))))))))
theorem Z.below {w0 W:World}{g:Nat}{f0:List Int}{f1:Int}{f2:Int}{W1:World}(h:Z w0 W g f0 f1 f2)(hw:Below W.heap.size W W1):Z w0 W1 g f0 f1 f2:=h.grown (grown_of_below hw none) (by simp)
theorem Z.alloc {w0 W:World}{g:Nat}{f0:List Int}{f1:Int}{f2:Int}(h:Z w0 W g f0 f1 f2)(o:Obj):Z w0 (W.alloc o) g f0 f1 f2:=h.below (oF (gR _ _) o)
theorem Z.drewN {w0 W:World}{g:Nat}{f0:List Int}{f1:Int}{f2:Int}(h:Z w0 W g f0 f1 f2)(m:Nat):Z w0 (W.drewN m) g f0 f1 f2:=h
theorem Z.drew {w0 W:World}{g:Nat}{f0:List Int}{f1:Int}{f2:Int}(h:Z w0 W g f0 f1 f2):Z w0 W.drew g f0 f1 f2:=h
theorem Z.at_ {w0 W:World}{g:Nat}{f0:List Int}{f1:Int}{f2:Int}{w':World}{m:Nat}(hq:W.drewN m=w')(h:Z w0 W g f0 f1 f2):Z w0 w' g f0 f1 f2:=by subst hq;exact Z.drewN h m
theorem Z.apart {w0 W:World}{g:Nat}{f0:List Int}{f1:Int}{f2:Int}{α:Type}{d:Kd α}{e:Nat}{base:Nat}{ok:Nat→Prop}{v:Value}{xs:List α}(h:Z w0 W g f0 f1 f2)(ho:d.R e W base ok v xs)(ht:∀q,q∈e::d.E→q≠47):d.R e W base (fun k=>ok k∧k≠g) v xs:=by
 obtain⟨A0,c0,hb,hg,hr0⟩:=h;exact Kd.ao ho hb ht
theorem Z.own_ne {w0 W:World}{g:Nat}{f0:List Int}{f1:Int}{f2:Int}{α:Type}{d:Kd α}{e:Nat}{base:Nat}{ok:Nat→Prop}{v:Value}{xs:List α}(h:Z w0 W g f0 f1 f2)(ho:d.R e W base ok v xs)(ht:e≠47):some g≠v.ownBlock:=by
 obtain⟨A0,c0,hb,hg,hr0⟩:=h;exact Kd.cY ho hb ht
theorem Z.apartQ {w0 W:World}{g:Nat}{f0:List Int}{f1:Int}{f2:Int}{α:Type}{d:Kd α}{e:Nat}{base:Nat}{ok:Nat→Prop}{v:Value}{xs:List α}(h:Z w0 W g f0 f1 f2)(ho:d.Q e W base ok v xs)(ht:∀q,q∈e::d.E→q≠47):d.Q e W base (fun k=>ok k∧k≠g) v xs:=by
 obtain⟨A0,c0,hb,hg,hr0⟩:=h;exact Kd.Q_types ho hb ht
theorem Z.own_neQ {w0 W:World}{g:Nat}{f0:List Int}{f1:Int}{f2:Int}{α:Type}{d:Kd α}{e:Nat}{base:Nat}{ok:Nat→Prop}{v:Value}{xs:List α}(h:Z w0 W g f0 f1 f2)(ho:d.Q e W base ok v xs)(ht:e≠47):some g≠v.ownBlock:=by
 obtain⟨A0,c0,hb,hg,hr0⟩:=h;exact Kd.Q_ne ho hb ht
theorem Z.apartS {w0 W:World}{g:Nat}{f0:List Int}{f1:Int}{f2:Int}{α:Type}{d:Kd α}{e:Nat}{base:Nat}{ok:Nat→Prop}{v:Value}{xs:List α}(h:Z w0 W g f0 f1 f2)(ho:d.S e W base ok v xs)(ht:∀q,q∈e::d.E→q≠47):d.S e W base (fun k=>ok k∧k≠g) v xs:=by
 obtain⟨A0,c0,hb,hg,hr0⟩:=h;exact Kd.S_types ho hb ht
theorem Z.own_neS {w0 W:World}{g:Nat}{f0:List Int}{f1:Int}{f2:Int}{α:Type}{d:Kd α}{e:Nat}{base:Nat}{ok:Nat→Prop}{v:Value}{xs:List α}(h:Z w0 W g f0 f1 f2)(ho:d.S e W base ok v xs)(ht:e≠47):some g≠v.ownBlock:=by
 obtain⟨A0,c0,hb,hg,hr0⟩:=h;exact Kd.S_ne ho hb ht
theorem Z.lt {w0 W:World}{g:Nat}{f0:List Int}{f1:Int}{f2:Int}(h:Z w0 W g f0 f1 f2):g<W.heap.size:=by
 obtain⟨A0,c0,hb,hg,hr0⟩:=h;exact gr hb
theorem Z.ge {w0 W:World}{g:Nat}{f0:List Int}{f1:Int}{f2:Int}(h:Z w0 W g f0 f1 f2):w0.heap.size≤g:=by
 obtain⟨A0,c0,hb,hg,hr0⟩:=h;exact hg
theorem Z.ne_blk {w0 W:World}{g:Nat}{f0:List Int}{f1:Int}{f2:Int}{a:Nat}{cs:Array Value}{t:TypeId}{fr:Nat×Nat}(h:Z w0 W g f0 f1 f2)(hb2:W.heap[a]?=some (.cells cs t fr))(ht:t≠47):g≠a:=by
 obtain⟨A0,c0,hb,hg,hr0⟩:=h;rintro rfl;rw[hb]at hb2
 injection hb2 with hb2
 injection hb2 with _ ht2
 exact ht ht2.symm
theorem Z.far {w0 W:World}{g:Nat}{f0:List Int}{f1:Int}{f2:Int}{p:Addr}(h:Z w0 W g f0 f1 f2)(hne:g≠p.block)(u:Value):Z w0 (W.setCell p u) g f0 f1 f2:=by
 obtain⟨A0,c0,hb,hg,hr0⟩:=h;exact⟨A0,c0,bw hb hne u,hg,hr0⟩
theorem OA {W:World}{g:Nat}{A0:Option Addr}{c0:Nat}{f0:List Int}{f1:Int}{f2:Int}(h:W.heap[g]?=some (.cells #[.slice A0 f0.length c0,.int .i64 f1,.int .u64 f2] 47 (0,0))):W.cell? ⟨g,0,none⟩=some (.slice A0 f0.length c0):=(aI h 0).trans rfl
theorem OB {W:World}{g:Nat}{A0:Option Addr}{c0:Nat}{f0:List Int}{f1:Int}{f2:Int}(h:W.heap[g]?=some (.cells #[.slice A0 f0.length c0,.int .i64 f1,.int .u64 f2] 47 (0,0))):W.cell? ⟨g,1,none⟩=some (.int .i64 f1):=(aI h 1).trans rfl
theorem Z.Qz {w0 W:World}{g:Nat}{f0:List Int}{f1:Int}{f2:Int}(h:Z w0 W g f0 f1 f2)(x:Int):Z w0 (W.setCell ⟨g,1,none⟩ (.int .i64 x)) g f0 x f2:=by
 obtain⟨A0,c0,hb,hg,hr0⟩:=h;exact⟨A0,c0,by simpa using OS hb 1 (.int .i64 x),hg,hr0⟩
theorem OC {W:World}{g:Nat}{A0:Option Addr}{c0:Nat}{f0:List Int}{f1:Int}{f2:Int}(h:W.heap[g]?=some (.cells #[.slice A0 f0.length c0,.int .i64 f1,.int .u64 f2] 47 (0,0))):W.cell? ⟨g,2,none⟩=some (.int .u64 f2):=(aI h 2).trans rfl
theorem Z.R0 {w0 W:World}{g:Nat}{f0:List Int}{f1:Int}{f2:Int}(h:Z w0 W g f0 f1 f2)(x:Int):Z w0 (W.setCell ⟨g,2,none⟩ (.int .u64 x)) g f0 f1 x:=by
 obtain⟨A0,c0,hb,hg,hr0⟩:=h;exact⟨A0,c0,by simpa using OS hb 2 (.int .u64 x),hg,hr0⟩
theorem Z.new(w0 W:World)(A0:Option Addr)(c0:Nat)(f0:List Int)(f1:Int)(f2:Int)(hB:Below w0.heap.size w0 W)(hr0:Kd.C (Kd.int .u8) w0 A0 f0.length f0):Z w0 (W.alloc (.cells #[.slice A0 f0.length c0,.int .i64 f1,.int .u64 f2] 47)) W.heap.size f0 f1 f2:=⟨A0,c0,by simpa using heap_alloc_new W _,hB.size,hr0⟩
def uc.f(aq:List Int)(dA:Int)(eR:Int):Option (Int×Int×Int):=if dA<(aq.length:Int)then(if 0≤dA then(if(Ee (dA+1))≤(aq.length:Int)then(some (Ee (rd aq dA),Ee (dA+1),aam.wrap ((aam.wrap ((aam.wrap (eR*6364136223846793005))+(aam.wrap (Ee (rd aq dA)))))+1442695040888963407)))else(some (Ee (Go.bits .and .u64 ((aam.wrap ((aam.wrap ((aam.wrap (eR*6364136223846793005))+(aam.wrap (Ee (rd aq dA)))))+1442695040888963407))/1099511627776) 255),Ee (dA+1),aam.wrap ((aam.wrap ((aam.wrap (eR*6364136223846793005))+(aam.wrap (Ee (rd aq dA)))))+1442695040888963407))))else(none))else(if(Ee (dA+1))≤(aq.length:Int)then(some (0,Ee (dA+1),aam.wrap ((aam.wrap ((aam.wrap (eR*6364136223846793005))))+1442695040888963407)))else(some (Ee (Go.bits .and .u64 ((aam.wrap ((aam.wrap ((aam.wrap (eR*6364136223846793005))))+1442695040888963407))/1099511627776) 255),Ee (dA+1),aam.wrap ((aam.wrap ((aam.wrap (eR*6364136223846793005))))+1442695040888963407))))
theorem uc.calls(g:Nat)(aq:List Int)(dA:Int)(eR:Int)(r1:Int)(r2:Int)(r3:Int)(w0 w:World)(hI:Z w0 w g aq dA eR)(hB:Below w0.heap.size w0 w)(h:uc.f aq dA eR=some (r1,r2,r3)):
 Calls sX 29 #[.pointer (some ⟨g,0,none⟩)] w fun e w'=>e= .returned (.int .i64 r1)∧Z w0 w' g aq r2 r3∧Below w0.heap.size w0 w'∧bK w w' g none:=by
 have HI0:=Ah hI;have HK:=Ah (bK.refl w g none);have HL:=Ah hB.size;clear hI;have HW0:=Ah hB.size;have HB:=Ah hB;clear hB;have H:(if dA<(aq.length:Int)then(if 0≤dA then(if(Ee (dA+1))≤(aq.length:Int)then(some (Ee (rd aq dA),Ee (dA+1),aam.wrap ((aam.wrap ((aam.wrap (eR*6364136223846793005))+(aam.wrap (Ee (rd aq dA)))))+1442695040888963407)))else(some (Ee (Go.bits .and .u64 ((aam.wrap ((aam.wrap ((aam.wrap (eR*6364136223846793005))+(aam.wrap (Ee (rd aq dA)))))+1442695040888963407))/1099511627776) 255),Ee (dA+1),aam.wrap ((aam.wrap ((aam.wrap (eR*6364136223846793005))+(aam.wrap (Ee (rd aq dA)))))+1442695040888963407))))else(none))else(if(Ee (dA+1))≤(aq.length:Int)then(some (0,Ee (dA+1),aam.wrap ((aam.wrap ((aam.wrap (eR*6364136223846793005))))+1442695040888963407)))else(some (Ee (Go.bits .and .u64 ((aam.wrap ((aam.wrap ((aam.wrap (eR*6364136223846793005))))+1442695040888963407))/1099511627776) 255),Ee (dA+1),aam.wrap ((aam.wrap ((aam.wrap (eR*6364136223846793005))))+1442695040888963407)))))=some (r1,r2,r3):=h;clear h
 by_cases c2:dA<(aq.length:Int)
 rotate_left
 ·
  rw[if_neg c2]at H;have sG:=f7 c2;clear c2
  by_cases c7:(Ee (dA+1))≤(aq.length:Int)
  ·
   rw[if_pos c7]at H;have tJ:=bS c7;clear c7;simp only[SY,cM]at H;obtain⟨rfl,rfl,rfl⟩:=H;obtain⟨ASz8_0,cSz8_0,Gs,hgz8,HSz8_0⟩:=HI0.out;have sv:=OA Gs;have sw:=OB Gs;have D8:=OC Gs;have sx:=gT Gs 1;have D9:=gT Gs 2;clear Gs hgz8
   go_enter abP,Try.ntmps29
   go_wp2
   repeat(go_quiet (fail);try go_wp2)
   go_ret
   exact⟨er,by repeat(first|(with_reducible first|exact HI0.out|apply Z.alloc|apply Z.drewN|apply Z.drew|apply Z.Qz|apply Z.R0)|exact HI0.out),by repeat(first|(with_reducible first|exact HB.out|apply oF|apply td|apply ln|refine ue ?_ (Z.ge HI0.out))|exact HB.out),by repeat(first|(with_reducible first|exact HK.out|apply bK.Lh|apply Nw|apply Eu|apply Nx)|exact HK.out)⟩
  rw[if_neg c7]at H;have tJ:=f7 c7;clear c7;simp only[SY,cM]at H;obtain⟨rfl,rfl,rfl⟩:=H;obtain⟨ASz9_0,cSz9_0,Gt,hgz9,HSz9_0⟩:=HI0.out;have qp:=OA Gt;have qq:=OB Gt;have st:=OC Gt;have qr:=gT Gt 1;have su:=gT Gt 2;clear Gt hgz9
  go_enter abP,Try.ntmps29
  go_wp2
  repeat(go_quiet (fail);try go_wp2)
  go_ret
  exact⟨er,by repeat(first|(with_reducible first|exact HI0.out|apply Z.alloc|apply Z.drewN|apply Z.drew|apply Z.Qz|apply Z.R0)|exact HI0.out),by repeat(first|(with_reducible first|exact HB.out|apply oF|apply td|apply ln|refine ue ?_ (Z.ge HI0.out))|exact HB.out),by repeat(first|(with_reducible first|exact HK.out|apply bK.Lh|apply Nw|apply Eu|apply Nx)|exact HK.out)⟩
 rw[if_pos c2]at H;have sG:=bS c2;clear c2
 by_cases c3:0≤dA
 rotate_left
 ·
  rw[if_neg c3]at H;exact absurd H (by simp)
 rw[if_pos c3]at H;have iZ:=bS c3;clear c3
 by_cases c4:(Ee (dA+1))≤(aq.length:Int)
 ·
  rw[if_pos c4]at H;have ky:=bS c4;clear c4;simp only[SY,cM]at H;obtain⟨rfl,rfl,rfl⟩:=H;obtain⟨ASz5_0,cSz5_0,Gu,hgz5,HSz5_0⟩:=HI0.out;have G3:=OA Gu;have JX:=OB Gu;have JY:=OC Gu;have JZ:=gT Gu 1;have Ja:=gT Gu 2;clear Gu hgz5;have Dy:0≤(dA:Int):=od;have Dz:dA<(aq.length:Int):=od;obtain⟨ad248,e248,J3⟩:=Kd.JU HSz5_0 dA Dy Dz
  cases e248
  replace J3:=Hp HB.out J3;replace Dy:=eq_true Dy;replace Dz:=eq_true Dz
  go_enter abP,Try.ntmps29
  go_wp2
  repeat(go_quiet (fail);try go_wp2)
  go_ret
  exact⟨er,by repeat(first|(with_reducible first|exact HI0.out|apply Z.alloc|apply Z.drewN|apply Z.drew|apply Z.Qz|apply Z.R0)|exact HI0.out),by repeat(first|(with_reducible first|exact HB.out|apply oF|apply td|apply ln|refine ue ?_ (Z.ge HI0.out))|exact HB.out),by repeat(first|(with_reducible first|exact HK.out|apply bK.Lh|apply Nw|apply Eu|apply Nx)|exact HK.out)⟩
 rw[if_neg c4]at H;have ky:=f7 c4;clear c4;simp only[SY,cM]at H;obtain⟨rfl,rfl,rfl⟩:=H;obtain⟨ASz6_0,cSz6_0,Gv,hgz6,HSz6_0⟩:=HI0.out;have B4:=OA Gv;have B5:=OB Gv;have G4:=OC Gv;have B7:=gT Gv 1;have G5:=gT Gv 2;clear Gv hgz6;have Dy:0≤(dA:Int):=od;have Dz:dA<(aq.length:Int):=od;obtain⟨ad248,e248,J3⟩:=Kd.JU HSz6_0 dA Dy Dz
 cases e248
 replace J3:=Hp HB.out J3;replace Dy:=eq_true Dy;replace Dz:=eq_true Dz
 go_enter abP,Try.ntmps29
 go_wp2
 repeat(go_quiet (fail);try go_wp2)
 go_ret
 exact⟨er,by repeat(first|(with_reducible first|exact HI0.out|apply Z.alloc|apply Z.drewN|apply Z.drew|apply Z.Qz|apply Z.R0)|exact HI0.out),by repeat(first|(with_reducible first|exact HB.out|apply oF|apply td|apply ln|refine ue ?_ (Z.ge HI0.out))|exact HB.out),by repeat(first|(with_reducible first|exact HK.out|apply bK.Lh|apply Nw|apply Eu|apply Nx)|exact HK.out)⟩
def fR.f(aq:List Int)(dA:Int)(eR:Int)(a1:Int):Option (Int×Int×Int):=if a1≤1 then(some (0,dA,eR))else((uc.f aq dA eR).bind fun t7=>(if a1>200 then((uc.f aq t7.2.1 t7.2.2).bind fun DL=>(if a1=0 then(none)else(some (Int.tmod (Ee ((Ee (t7.1*256))+DL.1)) a1,DL.2.1,DL.2.2))))else(if a1=0 then(none)else(some (Int.tmod t7.1 a1,t7.2.1,t7.2.2)))))
theorem fR.calls(g:Nat)(aq:List Int)(dA:Int)(eR:Int)(a1:Int)(r1:Int)(r2:Int)(r3:Int)(w0 w:World)(hI:Z w0 w g aq dA eR)(hB:Below w0.heap.size w0 w)(h:fR.f aq dA eR a1=some (r1,r2,r3)):
 Calls sX 14 #[.pointer (some ⟨g,0,none⟩),.int .i64 a1] w fun e w'=>e= .returned (.int .i64 r1)∧Z w0 w' g aq r2 r3∧Below w0.heap.size w0 w'∧bK w w' g none:=by
 have HI0:=Ah hI;have HK:=Ah (bK.refl w g none);have HL:=Ah hB.size;clear hI;have HW0:=Ah hB.size;have HB:=Ah hB;clear hB;have H:(if a1≤1 then(some (0,dA,eR))else((uc.f aq dA eR).bind fun t7=>(if a1>200 then((uc.f aq t7.2.1 t7.2.2).bind fun DL=>(if a1=0 then(none)else(some (Int.tmod (Ee ((Ee (t7.1*256))+DL.1)) a1,DL.2.1,DL.2.2))))else(if a1=0 then(none)else(some (Int.tmod t7.1 a1,t7.2.1,t7.2.2))))))=some (r1,r2,r3):=h;clear h
 by_cases c3:a1≤1
 ·
  rw[if_pos c3]at H;have iZ:=bS c3;clear c3;simp only[SY,cM]at H;obtain⟨rfl,rfl,rfl⟩:=H
  go_enter aaK,Try.ntmps14
  go_wp2
  go_ret
  exact⟨er,Z.i6 HI0,bs HB,jl HK⟩
 rw[if_neg c3]at H;have iZ:=f7 c3;clear c3;replace H:=Hc.mp H;obtain⟨⟨t249,YO,YP⟩,fc,H⟩:=H
 try dsimp only at H
 have A4:=Ah fc;clear fc
 by_cases c5:a1>200
 rotate_left
 ·
  rw[if_neg c5]at H;have o9:=f7 c5;clear c5
  by_cases c10:a1=0
  ·
   rw[if_pos c10]at H;exact absurd H (by simp)
  rw[if_neg c10]at H;have zV:=jI c10;have c10b1:=jJ c10;simp only[SY,cM]at H;obtain⟨rfl,rfl,rfl⟩:=H
  go_enter aaK,Try.ntmps14
  go_wp2_with (first|((with_reducible refine bN (f:=29) rfl ?_);refine gL (some 9) rfl rfl abP (by kernel_rfl) rfl #[.pointer (some ⟨g,0,none⟩)] rfl ?_;(with_reducible refine(uc.calls g aq dA eR t249 YO YP w0 _ ?aJ ?aM A4.out).mono ?_);(case aJ=>exact Z.i6 HI0);(case aM=>exact bs HB);rintro e NT ⟨rfl,hi,hb,hk⟩;refine⟨_,rfl, ?_⟩;replace HK:=Ah (bK.trans (jl HK) hk (.inl rfl));replace HB:=Ah (hb);replace HI0:=Ah (hi);(try clear hb hk hi)))
  go_ret
  exact⟨er,Z.i6 HI0,bs HB,jl HK⟩
 rw[if_pos c5]at H;have o9:=bS c5;clear c5;replace H:=Hc.mp H;obtain⟨⟨t252,t253,t254⟩,sW,H⟩:=H
 try dsimp only at H
 have A6:=Ah sW;clear sW
 by_cases c7:a1=0
 ·
  rw[if_pos c7]at H;exact absurd H (by simp)
 rw[if_neg c7]at H;have tJ:=jI c7;have Gm:=jJ c7;simp only[SY,cM]at H;obtain⟨rfl,rfl,rfl⟩:=H
 go_enter aaK,Try.ntmps14
 go_wp2_with (first|((with_reducible refine bN (f:=29) rfl ?_);refine gL (some 9) rfl rfl abP (by kernel_rfl) rfl #[.pointer (some ⟨g,0,none⟩)] rfl ?_;(with_reducible refine(uc.calls g aq dA eR t249 YO YP w0 _ ?aJ ?aM A4.out).mono ?_);(case aJ=>exact Z.i6 HI0);(case aM=>exact bs HB);rintro e w8 ⟨rfl,hi,hb,hk⟩;refine⟨_,rfl, ?_⟩;replace HK:=Ah (bK.trans (jl HK) hk (.inl rfl));replace HB:=Ah (hb);replace HI0:=Ah (hi);(try clear hb hk hi))|((with_reducible refine bN (f:=29) rfl ?_);refine gL (some 15) rfl rfl abP (by kernel_rfl) rfl #[.pointer (some ⟨g,0,none⟩)] rfl ?_;(with_reducible refine(uc.calls g aq YO YP t252 t253 t254 w0 _ ?aJ ?aM A6.out).mono ?_);(case aJ=>exact Z.i6 HI0);(case aM=>exact bs HB);rintro e w9 ⟨rfl,hi,hb,hk⟩;refine⟨_,rfl, ?_⟩;replace HK:=Ah (bK.trans (jl HK) hk (.inl rfl));replace HB:=Ah (hb);replace HI0:=Ah (hi);(try clear hb hk hi)))
 go_ret
 exact⟨er,Z.i6 HI0,bs HB,jl HK⟩
def nI.f(aq:List Int)(dA:Int)(eR:Int)(a1:Int):Option (Bool×Int×Int):=(fR.f aq dA eR a1).bind fun DM=>(some ((DM.1==0),DM.2.1,DM.2.2))
theorem nI.calls(g:Nat)(aq:List Int)(dA:Int)(eR:Int)(a1:Int)(r1:Bool)(r2:Int)(r3:Int)(w0 w:World)(hI:Z w0 w g aq dA eR)(hB:Below w0.heap.size w0 w)(h:nI.f aq dA eR a1=some (r1,r2,r3)):
 Calls sX 13 #[.pointer (some ⟨g,0,none⟩),.int .i64 a1] w fun e w'=>e= .returned (.bool r1)∧Z w0 w' g aq r2 r3∧Below w0.heap.size w0 w'∧bK w w' g none:=by
 have HI0:=Ah hI;have HK:=Ah (bK.refl w g none);have HL:=Ah hB.size;clear hI;have HW0:=Ah hB.size;have HB:=Ah hB;clear hB;have H:((fR.f aq dA eR a1).bind fun DM=>(some ((DM.1==0),DM.2.1,DM.2.2)))=some (r1,r2,r3):=h;clear h;replace H:=Hc.mp H;obtain⟨⟨t255,t256,t257⟩,dz,H⟩:=H
 try dsimp only at H
 have A3:=Ah dz;clear dz;simp only[SY,cM]at H;obtain⟨rfl,rfl,rfl⟩:=H
 go_enter abI,Try.ntmps13
 go_wp2_with (first|((with_reducible refine bN (f:=14) rfl ?_);refine gL (some 7) rfl rfl aaK (by kernel_rfl) rfl #[.pointer (some ⟨g,0,none⟩),.int .i64 a1] rfl ?_;(with_reducible refine(fR.calls g aq dA eR a1 t255 t256 t257 w0 _ ?aJ ?aM A3.out).mono ?_);(case aJ=>exact Z.i6 HI0);(case aM=>exact bs HB);rintro e w4 ⟨rfl,hi,hb,hk⟩;refine⟨_,rfl, ?_⟩;replace HK:=Ah (bK.trans (jl HK) hk (.inl rfl));replace HB:=Ah (hb);replace HI0:=Ah (hi);(try clear hb hk hi)))
 go_ret
 exact⟨er,Z.i6 HI0,bs HB,jl HK⟩
def wv.f(aq:List Int)(dA:Int)(eR:Int)(l1:List Int):Option (Int×Int×Int):=(fR.f aq dA eR (l1.length:Int)).bind fun vU=>(if 0≤vU.1 then(if vU.1<(l1.length:Int)then(some (rd l1 vU.1,vU.2.1,vU.2.2))else(none))else(none))
theorem wv.calls(g:Nat)(aq:List Int)(dA:Int)(eR:Int)(A1:Option Addr)(c1:Nat)(l1:List Int)(r1:Int)(r2:Int)(r3:Int)(w0 w:World)(hI:Z w0 w g aq dA eR)(hB:Below w0.heap.size w0 w)(hr1:Kd.C (Kd.int .i64) w A1 l1.length l1)(hc1:l1.length≤c1)(hf1:∀ad,A1=some ad→0<l1.length→ad.block≠g)(h:wv.f aq dA eR l1=some (r1,r2,r3)):
 Calls sX 46 #[.pointer (some ⟨g,0,none⟩),.slice A1 l1.length c1] w fun e w'=>e= .returned (.int .i64 r1)∧Z w0 w' g aq r2 r3∧Below w0.heap.size w0 w'∧bK w w' g none:=by
 have HR1:=Ah hr1;have rV:=Ah hc1;clear hr1 hc1;have HI0:=Ah hI;have HK:=Ah (bK.refl w g none);have HL:=Ah hB.size;clear hI;have HW0:=Ah hB.size;have HB:=Ah hB;clear hB;have H:((fR.f aq dA eR (l1.length:Int)).bind fun vU=>(if 0≤vU.1 then(if vU.1<(l1.length:Int)then(some (rd l1 vU.1,vU.2.1,vU.2.2))else(none))else(none)))=some (r1,r2,r3):=h;clear h;replace H:=Hc.mp H;obtain⟨⟨Gw,t259,t260⟩,dz,H⟩:=H
 try dsimp only at H
 have A3:=Ah dz;clear dz
 by_cases c4:0≤Gw
 rotate_left
 ·
  rw[if_neg c4]at H;exact absurd H (by simp)
 rw[if_pos c4]at H;have ky:=bS c4;clear c4
 by_cases c5:Gw<(l1.length:Int)
 rotate_left
 ·
  rw[if_neg c5]at H;exact absurd H (by simp)
 rw[if_pos c5]at H;have o9:=bS c5;clear c5;simp only[SY,cM]at H;obtain⟨rfl,rfl,rfl⟩:=H
 go_enter Try.func46,Try.ntmps46
 go_wp2_with (first|((with_reducible refine bN (f:=14) rfl ?_);refine gL (some 9) rfl rfl aaK (by kernel_rfl) rfl #[.pointer (some ⟨g,0,none⟩),.int .i64 (l1.length:Int)] rfl ?_;(with_reducible refine(fR.calls g aq dA eR (l1.length:Int) Gw t259 t260 w0 _ ?aJ ?aM A3.out).mono ?_);(case aJ=>exact Z.i6 HI0);(case aM=>exact bs HB);rintro e w6 ⟨rfl,hi,hb,hk⟩;refine⟨_,rfl, ?_⟩;replace HK:=Ah (bK.trans (jl HK) hk (.inl rfl));replace HB:=Ah (hb);replace HI0:=Ah (hi);(try clear hb hk hi);have YQ:0≤(Gw:Int):=od;have YR:Gw<(l1.length:Int):=od;obtain⟨ad261,e261,hx261_0⟩:=Kd.JU HR1.out Gw YQ YR;cases e261;replace hx261_0:=T2 HK.out hx261_0 (by first|(rw[bi];exact hf1 _ rfl (by omega))|exact hf1 _ rfl (by omega)|exact hf1 ad261 rfl (by omega));replace YQ:=eq_true YQ;replace YR:=eq_true YR))
 go_ret
 exact⟨er,Z.i6 HI0,bs HB,jl HK⟩
def Cc.f(aq:List Int)(dA:Int)(eR:Int)(a1:Int):Option (Int×Int×Int):=if a1<1 then(some (0,dA,eR))else((fR.f aq dA eR a1).bind fun DN=>(some (DN.1,DN.2.1,DN.2.2)))
theorem Cc.calls(g:Nat)(aq:List Int)(dA:Int)(eR:Int)(a1:Int)(r1:Int)(r2:Int)(r3:Int)(w0 w:World)(hI:Z w0 w g aq dA eR)(hB:Below w0.heap.size w0 w)(h:Cc.f aq dA eR a1=some (r1,r2,r3)):
 Calls sX 47 #[.pointer (some ⟨g,0,none⟩),.int .i64 a1] w fun e w'=>e= .returned (.int .i64 r1)∧Z w0 w' g aq r2 r3∧Below w0.heap.size w0 w'∧bK w w' g none:=by
 have HI0:=Ah hI;have HK:=Ah (bK.refl w g none);have HL:=Ah hB.size;clear hI;have HW0:=Ah hB.size;have HB:=Ah hB;clear hB;have H:(if a1<1 then(some (0,dA,eR))else((fR.f aq dA eR a1).bind fun DN=>(some (DN.1,DN.2.1,DN.2.2))))=some (r1,r2,r3):=h;clear h
 by_cases c3:a1<1
 ·
  rw[if_pos c3]at H;have iZ:=bS c3;clear c3;simp only[SY,cM]at H;obtain⟨rfl,rfl,rfl⟩:=H
  go_enter Try.func47,Try.ntmps47
  go_wp2
  go_ret
  exact⟨er,Z.i6 HI0,bs HB,jl HK⟩
 rw[if_neg c3]at H;have iZ:=f7 c3;clear c3;replace H:=Hc.mp H;obtain⟨⟨t262,t263,t264⟩,fc,H⟩:=H
 try dsimp only at H
 have A4:=Ah fc;clear fc;simp only[SY,cM]at H;obtain⟨rfl,rfl,rfl⟩:=H
 go_enter Try.func47,Try.ntmps47
 go_wp2_with (first|((with_reducible refine bN (f:=14) rfl ?_);refine gL (some 9) rfl rfl aaK (by kernel_rfl) rfl #[.pointer (some ⟨g,0,none⟩),.int .i64 a1] rfl ?_;(with_reducible refine(fR.calls g aq dA eR a1 t262 t263 t264 w0 _ ?aJ ?aM A4.out).mono ?_);(case aJ=>exact Z.i6 HI0);(case aM=>exact bs HB);rintro e w5 ⟨rfl,hi,hb,hk⟩;refine⟨_,rfl, ?_⟩;replace HK:=Ah (bK.trans (jl HK) hk (.inl rfl));replace HB:=Ah (hb);replace HI0:=Ah (hi);(try clear hb hk hi)))
 go_ret
 exact⟨er,Z.i6 HI0,bs HB,jl HK⟩
mutual
def eS.j0:Nat→Int→List (ga)→Int→List Int→Int→Int→Option ((List (ga))×Int×Int)
 |0,_,_,_,_,_,_=>none
 |k+1,x1,x5,x6,x1000,BQ,BR=>eS.l0 k x1 x5 x6 x1000 BQ BR
def eS.l0:Nat→Int→List (ga)→Int→List Int→Int→Int→Option ((List (ga))×Int×Int)
 |0,_,_,_,_,_,_=>none
 |k+1,x1,x5,x6,x1000,BQ,BR=>if x6>0 then((wv.f x1000 BQ BR (([1,1,2,2,2]:List Int))).bind fun DO=>((Cc.f x1000 DO.2.1 DO.2.2 x1).bind fun zX=>((fR.f x1000 zX.2.1 zX.2.2 5).bind fun zY=>((fR.f x1000 zY.2.1 zY.2.2 5).bind fun zZ=>((fR.f x1000 zZ.2.1 zZ.2.2 3).bind fun za=>((nI.f x1000 za.2.1 za.2.2 12).bind fun vV=>(if vV.1=true then(eS.j2 k x1 x5 x6 x1000 vV.2.1 vV.2.2 3 zX.1 (Ee (1+zY.1)) (Ee (1+zZ.1)) (Ee (1+za.1)))else(eS.j2 k x1 x5 x6 x1000 vV.2.1 vV.2.2 DO.1 zX.1 (Ee (1+zY.1)) (Ee (1+zZ.1)) (Ee (1+za.1))))))))))else(some (x5,BQ,BR))
def eS.j2:Nat→Int→List (ga)→Int→List Int→Int→Int→Int→Int→Int→Int→Int→Option ((List (ga))×Int×Int)
 |0,_,_,_,_,_,_,_,_,_,_,_=>none
 |k+1,x1,x5,x6,x1000,BQ,BR,x293000,x293001,x293002,x293003,x293004=>(nI.f x1000 BQ BR 40).bind fun KZ=>(if KZ.1=true then((fR.f x1000 KZ.2.1 KZ.2.2 5).bind fun Wu=>((wv.f x1000 Wu.2.1 Wu.2.2 (([(-1),x1]:List Int))).bind fun DP=>(if x5.length<3518437208883 then(eS.l0 k x1 (x5++[(⟨Wu.1,(⟨DP.1,x293002⟩:X),x293003,x293004⟩:ga)]) (Ee (x6-1)) x1000 DP.2.1 DP.2.2)else(none))))else(if x5.length<3518437208883 then(eS.l0 k x1 (x5++[(⟨x293000,(⟨x293001,x293002⟩:X),x293003,x293004⟩:ga)]) (Ee (x6-1)) x1000 KZ.2.1 KZ.2.2)else(none)))
end
def eS.f(k:Nat)(aq:List Int)(dA:Int)(eR:Int)(a1:Int):Option ((List (ga))×Int×Int):=(fR.f aq dA eR 24).bind fun DQ=>((nI.f aq DQ.2.1 DQ.2.2 12).bind fun vW=>(if vW.1=true then((fR.f aq vW.2.1 vW.2.2 22).bind fun DS=>(eS.j0 k a1 ([]:List (ga)) (Ee (100+DS.1)) aq DS.2.1 DS.2.2))else(eS.j0 k a1 ([]:List (ga)) DQ.1 aq vW.2.1 vW.2.2)))
theorem eS.dh:∀k,(∀y0 y1 y2 y3 y4 y5,aG (eS.j0 k y0 y1 y2 y3 y4 y5) (eS.j0 (k+1) y0 y1 y2 y3 y4 y5))∧(∀y0 y1 y2 y3 y4 y5,aG (eS.l0 k y0 y1 y2 y3 y4 y5) (eS.l0 (k+1) y0 y1 y2 y3 y4 y5))∧(∀y0 y1 y2 y3 y4 y5 y6 y7 y8 y9 lC,aG (eS.j2 k y0 y1 y2 y3 y4 y5 y6 y7 y8 y9 lC) (eS.j2 (k+1) y0 y1 y2 y3 y4 y5 y6 y7 y8 y9 lC))
 |0=>⟨fun _ _ _ _ _ _ r h=>by simp[eS.j0]at h,fun _ _ _ _ _ _ r h=>by simp[eS.l0]at h,fun _ _ _ _ _ _ _ _ _ _ _ r h=>by simp[eS.j2]at h⟩
 |k+1=>by
  obtain⟨bz,ih1,ih2⟩:=eS.dh k
  refine⟨?_, ?_, ?_⟩<;>intros<;>first|unfold eS.j0|unfold eS.l0|unfold eS.j2
  all_goals repeat' first
   |(with_reducible exact bz _ _ _ _ _ _)
   |(with_reducible exact ih1 _ _ _ _ _ _)
   |(with_reducible exact ih2 _ _ _ _ _ _ _ _ _ _ _)
   |(with_reducible exact aG.refl _)
   |(with_reducible exact aG.none _)
   |(with_reducible refine aG.ite ?_ ?_)
   |(with_reducible refine aG.bind ?_ (fun _=> ?_))
   |exact bz _ _ _ _ _ _
   |exact ih1 _ _ _ _ _ _
   |exact ih2 _ _ _ _ _ _ _ _ _ _ _
   |exact aG.none _
   |refine aG.ite ?_ ?_
   |refine aG.bind ?_ (fun _=> ?_)
theorem eS.mono:∀a0 a1 a2 a3 k,aG (eS.f k a0 a1 a2 a3) (eS.f (k+1) a0 a1 a2 a3):=by
 intro a0 a1 a2 a3 k;obtain⟨bz,ih1,ih2⟩:=eS.dh k;unfold eS.f
 repeat' with_reducible first|exact bz _ _ _ _ _ _|exact ih1 _ _ _ _ _ _|exact ih2 _ _ _ _ _ _ _ _ _ _ _|exact aG.refl _|exact aG.none _|refine aG.ite ?_ ?_|refine aG.bind ?_ (fun _=> ?_)
theorem eS.calls(k:Nat)(g:Nat)(aq:List Int)(dA:Int)(eR:Int)(a1:Int)(r1:List (ga))(r2:Int)(r3:Int)(w0 w:World)(hI:Z w0 w g aq dA eR)(hB:Below w0.heap.size w0 w)(h:eS.f k aq dA eR a1=some (r1,r2,r3)):
 Calls sX 27 #[.pointer (some ⟨g,0,none⟩),.int .i64 a1] w fun e w'=>∃n3:Value,e= .returned (n3)∧Kd.R sS 82 w' w.heap.size (fun _=>True) n3 r1∧Z w0 w' g aq r2 r3∧Below w0.heap.size w0 w'∧bK w w' g none:=by
 have lM:=aap;have hu82:=Try.underlying82;have HI0:=Ah hI;have HK:=Ah (bK.refl w g none);have HL:=Ah hB.size;clear hI;have HW0:=Ah hB.size;have HB:=Ah hB;clear hB;have H:((fR.f aq dA eR 24).bind fun DQ=>((nI.f aq DQ.2.1 DQ.2.2 12).bind fun vW=>(if vW.1=true then((fR.f aq vW.2.1 vW.2.2 22).bind fun DS=>(eS.j0 k a1 ([]:List (ga)) (Ee (100+DS.1)) aq DS.2.1 DS.2.2))else(eS.j0 k a1 ([]:List (ga)) DQ.1 aq vW.2.1 vW.2.2))))=some (r1,r2,r3):=h;clear h;replace H:=Hc.mp H;obtain⟨⟨t265,t266,t267⟩,dz,H⟩:=H
 try dsimp only at H
 have A3:=Ah dz;clear dz;replace H:=Hc.mp H;obtain⟨⟨t268,YS,YT⟩,fc,H⟩:=H
 try dsimp only at H
 have A4:=Ah fc;clear fc;have Em:=Ah H;clear H
 go_enter Try.func27,Try.ntmps27
 go_upto_if 11 with(first|((with_reducible refine bN (f:=14) rfl ?_);refine gL (some 9) rfl rfl aaK (by kernel_rfl) rfl #[.pointer (some ⟨g,0,none⟩),.int .i64 24] rfl ?_;(with_reducible refine(fR.calls g aq dA eR 24 t265 t266 t267 w0 _ ?aJ ?aM A3.out).mono ?_);(case aJ=>exact Z.i6 HI0);(case aM=>exact bs HB);rintro e w6 ⟨rfl,hi,hb,hk⟩;refine⟨_,rfl, ?_⟩;replace HK:=Ah (bK.trans (jl HK) hk (.inl rfl));replace HB:=Ah (hb);replace HI0:=Ah (hi);(try clear hb hk hi))|((with_reducible refine bN (f:=13) rfl ?_);refine gL (some 11) rfl rfl abI (by kernel_rfl) rfl #[.pointer (some ⟨g,0,none⟩),.int .i64 12] rfl ?_;(with_reducible refine(nI.calls g aq t266 t267 12 t268 YS YT w0 _ ?aJ ?aM A4.out).mono ?_);(case aJ=>exact Z.i6 HI0);(case aM=>exact bs HB);rintro e w7 ⟨rfl,hi,hb,hk⟩;refine⟨_,rfl, ?_⟩;replace HK:=Ah (bK.trans (jl HK) hk (.inl rfl));replace HB:=Ah (hb);replace HI0:=Ah (hi);(try clear hb hk hi)))
 (try simp only[Act.put,g7,aad,aae])
 go_cut [6] (fun v6 wc=>∃ (kq:Nat) (wJ:Int) (Px:Int) (Py:Int),v6= .int .i64 wJ∧Y (eS.j0 kq a1 ([]:List (ga)) wJ aq Px Py=some (r1,r2,r3))∧Y (kq≤k)∧Y (Kd.R sS 82 wc w.heap.size (fun _=>True) (.slice none 0 0) ([]:List (ga)))∧Y (Z w0 wc g aq Px Py)∧Y (bK w wc g none)∧Y (Below w0.heap.size w0 wc))
 case first=>
  have H:=Em.out;clear Em
  by_cases c8:t268=true
  rotate_left
  ·
   replace c8:=Q3.mpr c8;subst c8;rw[if_neg dc]at H;have H':=Ah H;clear H
   go_wp2
   go_meet
   case rel=>exact⟨_,(t265),(YS),(YT),e3,H',⟨by first|omega|exact eH _⟩,⟨by first|exact Kd.dG _ _ _ _ _|exact Kd.dY _ _ _ _ _|exact Kd.dZ _ _ _ _ _|exact Kd.dW _ _ _ _ _|exact Kd.dX _ _ _ _ _⟩,⟨Z.i6 HI0⟩,⟨jl HK⟩,⟨bs HB⟩⟩
  subst c8;rw[if_pos rfl]at H;replace H:=Hc.mp H;obtain⟨⟨t271,t272,t273⟩,CW,H⟩:=H
  try dsimp only at H
  have A9:=Ah CW;clear CW;have H':=Ah H;clear H
  go_wp2_with (first|((with_reducible refine bN (f:=14) rfl ?_);refine gL (some 13) rfl rfl aaK (by kernel_rfl) rfl #[.pointer (some ⟨g,0,none⟩),.int .i64 22] rfl ?_;(with_reducible refine(fR.calls g aq YS YT 22 t271 t272 t273 w0 _ ?aJ ?aM A9.out).mono ?_);(case aJ=>exact Z.i6 HI0);(case aM=>exact bs HB);rintro e oq ⟨rfl,hi,hb,hk⟩;refine⟨_,rfl, ?_⟩;replace HK:=Ah (bK.trans (jl HK) hk (.inl rfl));replace HB:=Ah (hb);replace HI0:=Ah (hi);(try clear hb hk hi)))
  go_meet
  case rel=>exact⟨_,(Ee (100+t271)),(t272),(t273),e3,H',⟨by first|omega|exact eH _⟩,⟨by first|exact Kd.dG _ _ _ _ _|exact Kd.dY _ _ _ _ _|exact Kd.dZ _ _ _ _ _|exact Kd.dW _ _ _ _ _|exact Kd.dX _ _ _ _ _⟩,⟨Z.i6 HI0⟩,⟨jl HK⟩,⟨bs HB⟩⟩
 case rest=>
  clear Em
  try clear c1
  try clear c2
  try clear p2
  try clear p6
  try clear c8
  obtain⟨kq,wJ,Px,Py,rfl,HA,En,bg,HI0,HK,HB⟩:=hcut
  cases kq with
  |zero=>exact absurd HA.out (by simp[eS.j0])
  |succ Zt=>
   have H:=HA.out;clear HA;simp only[eS.j0]at H;have H':=Ah H;clear H
   go_wp2
   go_loopg [5,6] Zt (fun kq v5 v6 w'=>∃ (rG:List (ga)) (an:Int) (D3:Int) (D4:Int),v6= .int .i64 an∧Y (eS.l0 kq a1 rG an aq D3 D4=some (r1,r2,r3))∧Y (kq≤Zt)∧Y (Kd.R sS 82 w' w.heap.size (fun _=>True) v5 rG)∧Y (Z w0 w' g aq D3 D4)∧Y (bK w w' g none)∧Y (Below w0.heap.size w0 w'))
   case atStart=>exact⟨(([]:List (ga))),(wJ),(Px),(Py),e3,H',⟨eH _⟩,⟨rr bg.out⟩,⟨Z.i6 HI0⟩,⟨jl HK⟩,⟨bs HB⟩⟩
   case round=>
    clear H'
    try clear c1
    try clear c2
    try clear p2
    try clear p6
    try clear c8
    try clear p2
    try clear p6
    obtain⟨rG,an,D3,D4,rfl,HA,dF,bg,HI0,HK,HB⟩:=hrel
    cases gk with
    |zero=>exact absurd HA.out (by simp[eS.l0])
    |succ k2=>
     have H:=HA.out;clear HA;simp only[eS.l0]at H
     by_cases c11:an>0
     rotate_left
     ·
      rw[if_neg c11]at H;have BS:=f7 c11;clear c11;simp only[SY,cM]at H;obtain⟨rfl,rfl,rfl⟩:=H
      go_wp2
      go_ret
      exact⟨_,er,by(with_reducible repeat(first|apply Kd.al|apply Kd.ak|apply Kd.aY));exact bg.out,Z.i6 HI0,bs HB,jl HK⟩
     rw[if_pos c11]at H;have BS:=bS c11;clear c11;obtain⟨YU,Ka⟩:∃y_:List Int,y_=(([1,1,2,2,2]:List Int)):=⟨_,rfl⟩
     replace H:((wv.f aq D3 D4 YU).bind fun DO=>((Cc.f aq DO.2.1 DO.2.2 a1).bind fun zX=>((fR.f aq zX.2.1 zX.2.2 5).bind fun zY=>((fR.f aq zY.2.1 zY.2.2 5).bind fun zZ=>((fR.f aq zZ.2.1 zZ.2.2 3).bind fun za=>((nI.f aq za.2.1 za.2.2 12).bind fun vV=>(if vV.1=true then(eS.j2 k2 a1 rG an aq vV.2.1 vV.2.2 3 zX.1 (Ee (1+zY.1)) (Ee (1+zZ.1)) (Ee (1+za.1)))else(eS.j2 k2 a1 rG an aq vV.2.1 vV.2.2 DO.1 zX.1 (Ee (1+zY.1)) (Ee (1+zZ.1)) (Ee (1+za.1))))))))))=some (r1,r2,r3):=by first|(rw[Ka];with_reducible exact H)|(have ai:=(N6 _ _).symm.trans H;rw[Ka];with_reducible exact ai)|(have ai:=(N6 _ _).symm.trans H;with_reducible exact ai)|with_reducible exact H|(rw[Ka];exact H)|exact H
     have Ny274:=Ah Ka;clear Ka;replace H:=Hc.mp H;obtain⟨⟨Rd,Re,Rf⟩,MF,H⟩:=H
     try dsimp only at H
     have Na:=Ah MF;clear MF;replace H:=Hc.mp H;obtain⟨⟨sI,Rg,Rh⟩,Bx,H⟩:=H
     try dsimp only at H
     have wk:=Ah Bx;clear Bx;replace H:=Hc.mp H;obtain⟨⟨nS,Ri,Rj⟩,Lz,H⟩:=H
     try dsimp only at H
     have Zk:=Ah Lz;clear Lz;replace H:=Hc.mp H;obtain⟨⟨nT,Rk,Rl⟩,yI,H⟩:=H
     try dsimp only at H
     have Zu:=Ah yI;clear yI;replace H:=Hc.mp H;obtain⟨⟨nU,Gx,Gy⟩,A160,H⟩:=H
     try dsimp only at H
     have A16:=Ah A160;clear A160;replace H:=Hc.mp H;obtain⟨⟨t293,E0,E1⟩,A170,H⟩:=H
     try dsimp only at H
     have A17:=Ah A170;clear A170;have YV:=Ah H;clear H
     go_upto_if 37 with(first|((with_reducible refine am (N:=20) rfl ?_);refine Kd.vN (Kd.int .i64) _ 3 ?hg (N:=20) ?hd (xs:=([1,1,2,2,2]:List Int)) (inner:=[.int .i64 1,.int .i64 1,.int .i64 2,.int .i64 2,.int .i64 2]) (ok:=fun _=>True) (okp:=fun _=>True) ?hr ?hp (fun _ hk=>hk) trivial (gR _ _) (eH _) (by simp) ?_;(case hd=>rfl);(case hg=>rfl);(case hr=>first|(go_simp;done)|(go_simp;rfl));(case hp=>exact(cX.one (show Kd.M (Kd.int .i64) _ _ _ 1 [.int .i64 1]from rfl) (cX.one (show Kd.M (Kd.int .i64) _ _ _ 1 [.int .i64 1]from rfl) (cX.one (show Kd.M (Kd.int .i64) _ _ _ 2 [.int .i64 2]from rfl) (cX.one (show Kd.M (Kd.int .i64) _ _ _ 2 [.int .i64 2]from rfl) (cX.one (show Kd.M (Kd.int .i64) _ _ _ 2 [.int .i64 2]from rfl) (cX.none _ _)))))));intro v275 NW MG hb mL m9;clear mL m9;(first|rw[←Ny274.out]at MG|(simp only[aaU]at MG;rw[←Ny274.out]at MG));replace bg:=nr bg hb;have pI:=Ah (Kd.bq MG (lG (w:=w) (g:=g) (row:=none) (jl HK)));replace HK:=Ah (bK.trans (jl HK) (bK.of_below hb g none) (.inl rfl));replace HB:=Ah (aK (bs HB) hb);replace HI0:=Ah (Z.below (Z.i6 HI0) hb);clear hb MG;obtain⟨rC,rD,wF⟩:=Kd.ax pI.out;subst wF)|((with_reducible refine bN (f:=46) rfl ?_);refine gL (some 21) rfl rfl Try.func46 (by kernel_rfl) rfl #[.pointer (some ⟨g,0,none⟩),.slice rC YU.length rD] rfl ?_;(with_reducible refine(wv.calls g aq D3 D4 _ _ YU Rd Re Rf w0 _ ?aJ ?aM ?ac ?au ?cI Na.out).mono ?_);(case aJ=>exact Z.i6 HI0);(case aM=>exact bs HB);(case ac=>exact df pI);(case au=>exact(Kd.ab pI.out).2.1);(case cI=>exact far_slice (Z.own_ne HI0.out pI.out (by decide)));rintro e HY ⟨rfl,hi,hb,hk⟩;refine⟨_,rfl, ?_⟩;replace bg:=Ah (Kd.aE (Kd.dK (Z.apart (show Z w0 _ g aq D3 D4 from Z.i6 HI0) (rr bg.out) (by decide)) hk (fun _ h=>h.2)) (fun _ h=>h.1));replace pI:=Ah (Kd.aE (Kd.dK (Z.apart (show Z w0 _ g aq D3 D4 from Z.i6 HI0) (rr pI.out) (by decide)) hk (fun _ h=>h.2)) (fun _ h=>h.1));replace HK:=Ah (bK.trans (jl HK) hk (.inl rfl));replace HB:=Ah (hb);replace HI0:=Ah (hi);(try clear hb hk hi))|((with_reducible refine bN (f:=47) rfl ?_);refine gL (some 24) rfl rfl Try.func47 (by kernel_rfl) rfl #[.pointer (some ⟨g,0,none⟩),.int .i64 a1] rfl ?_;(with_reducible refine(Cc.calls g aq Re Rf a1 sI Rg Rh w0 _ ?aJ ?aM wk.out).mono ?_);(case aJ=>exact Z.i6 HI0);(case aM=>exact bs HB);rintro e fV ⟨rfl,hi,hb,hk⟩;refine⟨_,rfl, ?_⟩;replace bg:=Ah (Kd.aE (Kd.dK (Z.apart (show Z w0 _ g aq Re Rf from Z.i6 HI0) (rr bg.out) (by decide)) hk (fun _ h=>h.2)) (fun _ h=>h.1));replace pI:=Ah (Kd.aE (Kd.dK (Z.apart (show Z w0 _ g aq Re Rf from Z.i6 HI0) (rr pI.out) (by decide)) hk (fun _ h=>h.2)) (fun _ h=>h.1));replace HK:=Ah (bK.trans (jl HK) hk (.inl rfl));replace HB:=Ah (hb);replace HI0:=Ah (hi);(try clear hb hk hi))|((with_reducible refine bN (f:=14) rfl ?_);refine gL (some 26) rfl rfl aaK (by kernel_rfl) rfl #[.pointer (some ⟨g,0,none⟩),.int .i64 5] rfl ?_;(with_reducible refine(fR.calls g aq Rg Rh 5 nS Ri Rj w0 _ ?aJ ?aM Zk.out).mono ?_);(case aJ=>exact Z.i6 HI0);(case aM=>exact bs HB);rintro e Nb ⟨rfl,hi,hb,hk⟩;refine⟨_,rfl, ?_⟩;replace bg:=Ah (Kd.aE (Kd.dK (Z.apart (show Z w0 _ g aq Rg Rh from Z.i6 HI0) (rr bg.out) (by decide)) hk (fun _ h=>h.2)) (fun _ h=>h.1));replace pI:=Ah (Kd.aE (Kd.dK (Z.apart (show Z w0 _ g aq Rg Rh from Z.i6 HI0) (rr pI.out) (by decide)) hk (fun _ h=>h.2)) (fun _ h=>h.1));replace HK:=Ah (bK.trans (jl HK) hk (.inl rfl));replace HB:=Ah (hb);replace HI0:=Ah (hi);(try clear hb hk hi))|((with_reducible refine bN (f:=14) rfl ?_);refine gL (some 30) rfl rfl aaK (by kernel_rfl) rfl #[.pointer (some ⟨g,0,none⟩),.int .i64 5] rfl ?_;(with_reducible refine(fR.calls g aq Ri Rj 5 nT Rk Rl w0 _ ?aJ ?aM Zu.out).mono ?_);(case aJ=>exact Z.i6 HI0);(case aM=>exact bs HB);rintro e n4 ⟨rfl,hi,hb,hk⟩;refine⟨_,rfl, ?_⟩;replace bg:=Ah (Kd.aE (Kd.dK (Z.apart (show Z w0 _ g aq Ri Rj from Z.i6 HI0) (rr bg.out) (by decide)) hk (fun _ h=>h.2)) (fun _ h=>h.1));replace pI:=Ah (Kd.aE (Kd.dK (Z.apart (show Z w0 _ g aq Ri Rj from Z.i6 HI0) (rr pI.out) (by decide)) hk (fun _ h=>h.2)) (fun _ h=>h.1));replace HK:=Ah (bK.trans (jl HK) hk (.inl rfl));replace HB:=Ah (hb);replace HI0:=Ah (hi);(try clear hb hk hi))|((with_reducible refine bN (f:=14) rfl ?_);refine gL (some 33) rfl rfl aaK (by kernel_rfl) rfl #[.pointer (some ⟨g,0,none⟩),.int .i64 3] rfl ?_;(with_reducible refine(fR.calls g aq Rk Rl 3 nU Gx Gy w0 _ ?aJ ?aM A16.out).mono ?_);(case aJ=>exact Z.i6 HI0);(case aM=>exact bs HB);rintro e Cb ⟨rfl,hi,hb,hk⟩;refine⟨_,rfl, ?_⟩;replace bg:=Ah (Kd.aE (Kd.dK (Z.apart (show Z w0 _ g aq Rk Rl from Z.i6 HI0) (rr bg.out) (by decide)) hk (fun _ h=>h.2)) (fun _ h=>h.1));replace pI:=Ah (Kd.aE (Kd.dK (Z.apart (show Z w0 _ g aq Rk Rl from Z.i6 HI0) (rr pI.out) (by decide)) hk (fun _ h=>h.2)) (fun _ h=>h.1));replace HK:=Ah (bK.trans (jl HK) hk (.inl rfl));replace HB:=Ah (hb);replace HI0:=Ah (hi);(try clear hb hk hi))|((with_reducible refine am (N:=7) rfl ?_);refine ar 7 82 #[.int .i64 0,.int .i64 0,.int .i64 0,.int .i64 0,.int .i64 0] ?_;intro jg hg yW jh hb;replace bg:=Ah (Kd.bW (Kd.iq (rr bg.out) jg (aaq hg.symm)) hb);replace pI:=nr pI hb;replace HB:=Ah (aK (bs HB) hb);have qu:=Ah ((by rw[hg];exact(lG (w:=w) (g:=g) (row:=none) (jl HK)):w.heap.size≤jg));have uH:=Ah ((Nat.le_trans HW0.out (by rw[hg];exact(lG (w:=w) (g:=g) (row:=none) (jl HK)):w.heap.size≤jg):w0.heap.size≤jg));replace HK:=Ah (bK.trans (jl HK) (bK.of_below hb g none) (.inl rfl));have ma:=Ah ((by rw[hg];exact Nat.ne_of_lt (Z.lt (show Z w0 _ g aq Gx Gy from Z.i6 HI0)):g≠jg));have z8:=Ah ((by rw[hg];exact Nat.ne_of_gt (Z.lt (show Z w0 _ g aq Gx Gy from Z.i6 HI0)):jg≠g));replace HI0:=Ah (Z.below (Z.i6 HI0) hb);clear hb hg;have hnb28:=z8.out;have hnc28:=ma.out;obtain⟨V0,V1,V2,V3,V4⟩:=ah jh;obtain⟨V5,V6,V7,V8,V9⟩:=af jh)|((with_reducible refine bN (f:=13) rfl ?_);refine gL (some 37) rfl rfl abI (by kernel_rfl) rfl #[.pointer (some ⟨g,0,none⟩),.int .i64 12] rfl ?_;(with_reducible refine(nI.calls g aq Gx Gy 12 t293 E0 E1 w0 _ ?aJ ?aM A17.out).mono ?_);(case aJ=>exact Z.iS HI0 ma);(case aM=>exact aQ HB uH);rintro e w30 ⟨rfl,hi,hb,hk⟩;refine⟨_,rfl, ?_⟩;replace bg:=Ah (Kd.aE (Kd.dK (Z.apart (show Z w0 _ g aq Gx Gy from Z.iS HI0 ma) (by(with_reducible repeat(first|apply Kd.al|apply Kd.ak|apply Kd.aY));exact(Kd.aE (Kd.I (p:=⟨jg,4,none⟩) (Kd.I (p:=⟨jg,3,none⟩) (Kd.I (p:=⟨jg,2,none⟩) (Kd.I (p:=⟨jg,1,none⟩) (Kd.I (p:=⟨jg,0,none⟩) (Kd.aE bg.out (fun k_ hk=>(⟨hk,hk.2⟩:_∧k_≠jg))) (fun _ hk=>hk.2) (.int .i64 Rd)) (fun _ hk=>hk.2) (.int .i64 sI)) (fun _ hk=>hk.2) (.int .i64 (Ee (1+nS)))) (fun _ hk=>hk.2) (.int .i64 (Ee (1+nT)))) (fun _ hk=>hk.2) (.int .i64 (Ee (1+nU)))) (fun _ h_=>h_.1))) (by decide)) hk (fun _ h=>h.2)) (fun _ h=>h.1));replace pI:=Ah (Kd.aE (Kd.dK (Z.apart (show Z w0 _ g aq Gx Gy from Z.iS HI0 ma) (rf pI jh) (by decide)) hk (fun _ h=>h.2)) (fun _ h=>h.1));replace jh:=Ah (bK.blk hk (g':=jg) (o:= .cells #[.int .i64 Rd,.int .i64 sI,.int .i64 (Ee (1+nS)),.int .i64 (Ee (1+nT)),.int .i64 (Ee (1+nU))] 82 (0,0)) (pb jh) z8.out (by simp));replace HK:=Ah (bK.trans (gy HK qu) hk (.inl rfl));replace HB:=Ah (hb);replace HI0:=Ah (hi);(try clear hb hk hi)))
     (try simp only[Act.put,g7,aad,aae])
     go_cut [] (fun wc=>∃ (kq:Nat) (wz:Int),Y (eS.j2 kq a1 rG an aq E0 E1 wz sI (Ee (1+nS)) (Ee (1+nT)) (Ee (1+nU))=some (r1,r2,r3))∧Y (kq≤k2)∧Y (Kd.R sS 82 wc w.heap.size (fun k_=>k_≠jg) u5 rG)∧Y (wc.heap[jg]?=some (.cells #[.int .i64 wz,.int .i64 sI,.int .i64 (Ee (1+nS)),.int .i64 (Ee (1+nT)),.int .i64 (Ee (1+nU))] 82 (0,0)))∧Y (Z w0 wc g aq E0 E1)∧Y (bK w wc g none)∧Y (Below w0.heap.size w0 wc))
     case first=>
      have H:=YV.out;clear YV
      by_cases c31:t293=true
      rotate_left
      ·
       replace c31:=Q3.mpr c31;subst c31;rw[if_neg dc]at H;have H':=Ah H;clear H
       go_wp2
       go_meet
       case rel=>exact⟨_,(Rd),H',⟨by have:=En.out;have:=dF.out;first|omega|exact eH _⟩,rm bg (fun _ hk=>hk.2),⟨bk jh⟩,⟨Z.iS HI0 ma⟩,⟨gy HK qu⟩,⟨aQ HB uH⟩⟩
      subst c31;rw[if_pos rfl]at H;have H':=Ah H;clear H;have Qx:=z8.out;have Qy:=ma.out;obtain⟨Fj,Fk,Ix,Iy,Iz⟩:=ah jh;obtain⟨Fl,Fm,J0,J1,J2⟩:=af jh
      go_wp2
      go_meet
      case rel=>exact⟨_,(3),H',⟨by have:=En.out;have:=dF.out;first|omega|exact eH _⟩,⟨by(with_reducible repeat(first|apply Kd.al|apply Kd.ak|apply Kd.aY));exact Kd.aE (Kd.I (p:=⟨jg,0,none⟩) (Kd.aE bg.out (fun k_ hk=>(⟨hk,hk.2⟩:_∧k_≠jg))) (fun _ hk=>hk.2) (.int .i64 3)) (fun _ hk=>hk.1.2)⟩,⟨by exact pb jh⟩,⟨Z.iS HI0 ma⟩,⟨gy HK qu⟩,⟨aQ HB uH⟩⟩
     case rest=>
      clear YV
      try clear c1
      try clear c2
      try clear p2
      try clear c3
      try clear c4
      try clear p6
      try clear c8
      try clear c11
      try clear BS
      try clear c13
      try clear c14
      try clear wi
      try clear c28
      try clear c31
      try clear c32
      try clear V0 V1 V2 V3 V4
      try clear Fj Fk Ix Iy Iz
      try clear V5 V6 V7 V8 V9
      try clear Fl Fm J0 J1 J2
      try clear p2
      try clear p6
      obtain⟨kq,wz,HA,Rm,bg,jh,HI0,HK,HB⟩:=hcut
      cases kq with
      |zero=>exact absurd HA.out (by simp[eS.j2])
      |succ MH=>
       have H:=HA.out;clear HA;simp only[eS.j2]at H;replace H:=Hc.mp H;obtain⟨⟨t296,Gz,H0⟩,MI,H⟩:=H
       try dsimp only at H
       have SW:=Ah MI;clear MI
       by_cases tW:t296=true
       rotate_left
       ·
        replace tW:=Q3.mpr tW;subst tW;rw[if_neg dc]at H
        by_cases c49:rG.length<3518437208883
        rotate_left
        ·
         rw[if_neg c49]at H;exact absurd H (by simp)
        rw[if_pos c49]at H;have LMc49:=Ah c49;clear c49;obtain⟨y311,Kb⟩:∃y_:List (ga),y_=(rG++[(⟨wz,(⟨sI,(Ee (1+nS))⟩:X),(Ee (1+nT)),(Ee (1+nU))⟩:ga)]):=⟨_,rfl⟩
        replace H:(eS.l0 MH a1 y311 (Ee (an-1)) aq Gz H0)=some (r1,r2,r3):=by first|(rw[Kb];with_reducible exact H)|(have ai:=(N6 _ _).symm.trans H;rw[Kb];with_reducible exact ai)|(have ai:=(N6 _ _).symm.trans H;with_reducible exact ai)|with_reducible exact H|(rw[Kb];exact H)|exact H
        have Ny311:=Ah Kb;clear Kb;have H':=Ah H;clear H
        go_wp2_with (first|((with_reducible refine bN (f:=13) rfl ?_);refine gL (some 40) rfl rfl abI (by kernel_rfl) rfl #[.pointer (some ⟨g,0,none⟩),.int .i64 40] rfl ?_;(with_reducible refine(nI.calls g aq E0 E1 40 false Gz H0 w0 _ ?aJ ?aM SW.out).mono ?_);(case aJ=>exact Z.iS HI0 ma);(case aM=>exact aQ HB uH);rintro e w50 ⟨rfl,hi,hb,hk⟩;refine⟨_,rfl, ?_⟩;replace bg:=Ah (Kd.aE (Kd.dK (Z.apart (show Z w0 _ g aq E0 E1 from Z.iS HI0 ma) (rr bg.out) (by decide)) hk (fun _ h=>h.2)) (fun _ h=>h.1));replace jh:=Ah (bK.blk hk (g':=jg) (o:= .cells #[.int .i64 wz,.int .i64 sI,.int .i64 (Ee (1+nS)),.int .i64 (Ee (1+nT)),.int .i64 (Ee (1+nU))] 82 (0,0)) (bk jh) z8.out (by simp));replace HK:=Ah (bK.trans (gy HK qu) hk (.inl rfl));replace HB:=Ah (hb);replace HI0:=Ah (hi);(try clear hb hk hi);have Qj:=z8.out;have Qk:=ma.out;obtain⟨PE,PF,PG,hcz52_3,hcz52_4⟩:=ah jh;obtain⟨Pb,Pc,Pd,hfz52_3,hfz52_4⟩:=af jh)|((with_reducible refine iG (b:= .append) (xs:= #[.tmp 50,.tmp 52]) rfl ?_);at_builtin;refine Kd.jp sS w.heap.size rfl (.tmp 50) (.tmp 52) 65 82 (.agg #[(.int .i64 0),(.int .i64 0),(.int .i64 0),(.int .i64 0),(.int .i64 0)]) 40 rfl Try.underlying65 Vl rfl (by decide) (by omega) u5 rG (⟨wz,(⟨sI,(Ee (1+nS))⟩:X),(Ee (1+nT)),(Ee (1+nU))⟩:ga) [.int .i64 wz,.int .i64 sI,.int .i64 (Ee (1+nS)),.int .i64 (Ee (1+nT)),.int .i64 (Ee (1+nU))] (fun k_=>k_≠jg) (fun _=>False) rfl rfl ?aP (fun _ hk=>hk.elim) ?aF ?aO (gR _ _) ?aS ?aL ?_;(case aP=>exact k82_mkM _ _ _ (⟨wz,(⟨sI,(Ee (1+nS))⟩:X),(Ee (1+nT)),(Ee (1+nU))⟩:ga));(case aF=>exact(fun k_ hk=>Kd.jr (bk jh) k_ hk));(case aO=>exact(rr bg.out));(case aS=>exact(lG (w:=w) (g:=g) (row:=none) (gy HK qu)));(case aL=>have:=LMc49.out;omega);intro v312 w53 ho hb hg hat;rw[←Ny311.out]at ho;replace jh:=Ah (cC (bk jh) hg (Kd.jq bg.out (fun _ hk=>hk)));replace HB:=Ah (Sl (aQ HB uH) HL.out hb);replace HI0:=Ah (Z.grown (Z.iS HI0 ma) hg (Z.own_ne HI0.out bg.out (by decide)));replace HK:=Ah (bK.trans (gy HK qu) (bK.IV hg g) (Kd.Ts bg.out));have HO313:=Ah (ho);clear bg;clear ho hb hg hat))
        go_roundg MH
        case measure=>have:=En.out;have:=dF.out;have:=Rm.out;omega
        case rel=>exact⟨(y311),(Ee (an-1)),(Gz),(H0),e3,H',⟨by have:=En.out;have:=dF.out;have:=Rm.out;omega⟩,rm HO313 (fun _ hk=>trivial),⟨Z.iS HI0 ma⟩,⟨gy HK qu⟩,⟨aQ HB uH⟩⟩
       subst tW;rw[if_pos rfl]at H;replace H:=Hc.mp H;obtain⟨⟨qX,yN,H1⟩,Lm,H⟩:=H
       try dsimp only at H
       have Zg:=Ah Lm;clear Lm;obtain⟨YW,Ke⟩:∃y_:List Int,y_=(([(-1),a1]:List Int)):=⟨_,rfl⟩
       replace H:((wv.f aq yN H1 YW).bind fun DP=>(if rG.length<3518437208883 then(eS.l0 MH a1 (rG++[(⟨qX,(⟨DP.1,(Ee (1+nS))⟩:X),(Ee (1+nT)),(Ee (1+nU))⟩:ga)]) (Ee (an-1)) aq DP.2.1 DP.2.2)else(none)))=some (r1,r2,r3):=by first|(rw[Ke];with_reducible exact H)|(have ai:=(N6 _ _).symm.trans H;rw[Ke];with_reducible exact ai)|(have ai:=(N6 _ _).symm.trans H;with_reducible exact ai)|with_reducible exact H|(rw[Ke];exact H)|exact H
       have Ny302:=Ah Ke;clear Ke;replace H:=Hc.mp H;obtain⟨⟨zt,YX,YY⟩,A370,H⟩:=H
       try dsimp only at H
       have A37:=Ah A370;clear A370
       by_cases Nc:rG.length<3518437208883
       rotate_left
       ·
        rw[if_neg Nc]at H;exact absurd H (by simp)
       rw[if_pos Nc]at H;have LMc38:=Ah Nc;clear Nc;obtain⟨y308,Kf⟩:∃y_:List (ga),y_=(rG++[(⟨qX,(⟨zt,(Ee (1+nS))⟩:X),(Ee (1+nT)),(Ee (1+nU))⟩:ga)]):=⟨_,rfl⟩
       replace H:(eS.l0 MH a1 y308 (Ee (an-1)) aq YX YY)=some (r1,r2,r3):=by first|(rw[Kf];with_reducible exact H)|(have ai:=(N6 _ _).symm.trans H;rw[Kf];with_reducible exact ai)|(have ai:=(N6 _ _).symm.trans H;with_reducible exact ai)|with_reducible exact H|(rw[Kf];exact H)|exact H
       have Ny308:=Ah Kf;clear Kf;have H':=Ah H;clear H
       go_wp2_with (first|((with_reducible refine bN (f:=13) rfl ?_);refine gL (some 40) rfl rfl abI (by kernel_rfl) rfl #[.pointer (some ⟨g,0,none⟩),.int .i64 40] rfl ?_;(with_reducible refine(nI.calls g aq E0 E1 40 true Gz H0 w0 _ ?aJ ?aM SW.out).mono ?_);(case aJ=>exact Z.iS HI0 ma);(case aM=>exact aQ HB uH);rintro e NN ⟨rfl,hi,hb,hk⟩;refine⟨_,rfl, ?_⟩;replace bg:=Ah (Kd.aE (Kd.dK (Z.apart (show Z w0 _ g aq E0 E1 from Z.iS HI0 ma) (rr bg.out) (by decide)) hk (fun _ h=>h.2)) (fun _ h=>h.1));replace jh:=Ah (bK.blk hk (g':=jg) (o:= .cells #[.int .i64 wz,.int .i64 sI,.int .i64 (Ee (1+nS)),.int .i64 (Ee (1+nT)),.int .i64 (Ee (1+nU))] 82 (0,0)) (bk jh) z8.out (by simp));replace HK:=Ah (bK.trans (gy HK qu) hk (.inl rfl));replace HB:=Ah (hb);replace HI0:=Ah (hi);(try clear hb hk hi))|((with_reducible refine bN (f:=14) rfl ?_);refine gL (some 42) rfl rfl aaK (by kernel_rfl) rfl #[.pointer (some ⟨g,0,none⟩),.int .i64 5] rfl ?_;(with_reducible refine(fR.calls g aq Gz H0 5 qX yN H1 w0 _ ?aJ ?aM Zg.out).mono ?_);(case aJ=>exact Z.iS HI0 ma);(case aM=>exact aQ HB uH);rintro e CP ⟨rfl,hi,hb,hk⟩;refine⟨_,rfl, ?_⟩;replace bg:=Ah (Kd.aE (Kd.dK (Z.apart (show Z w0 _ g aq Gz H0 from Z.iS HI0 ma) (rr bg.out) (by decide)) hk (fun _ h=>h.2)) (fun _ h=>h.1));replace jh:=Ah (bK.blk hk (g':=jg) (o:= .cells #[.int .i64 wz,.int .i64 sI,.int .i64 (Ee (1+nS)),.int .i64 (Ee (1+nT)),.int .i64 (Ee (1+nU))] 82 (0,0)) (bk jh) z8.out (by simp));replace HK:=Ah (bK.trans (gy HK qu) hk (.inl rfl));replace HB:=Ah (hb);replace HI0:=Ah (hi);(try clear hb hk hi);have Jw:=z8.out;have Jx:=ma.out;obtain⟨VA,VB,hcz42_2,hcz42_3,hcz42_4⟩:=ah jh;obtain⟨VC,VD,hfz42_2,hfz42_3,hfz42_4⟩:=af jh)|((with_reducible refine am (N:=46) rfl ?_);refine Kd.vN (Kd.int .i64) _ 3 ?hg (N:=46) ?hd (xs:=([(-1),a1]:List Int)) (inner:=[.int .i64 (-1),.int .i64 a1]) (ok:=fun _=>True) (okp:=fun _=>True) ?hr ?hp (fun _ hk=>hk) trivial (gR _ _) (eH _) (by simp) ?_;(case hd=>rfl);(case hg=>rfl);(case hr=>first|(go_simp;done)|(go_simp;rfl));(case hp=>exact(cX.one (show Kd.M (Kd.int .i64) _ _ _ (-1) [.int .i64 (-1)]from rfl) (cX.one (show Kd.M (Kd.int .i64) _ _ _ a1 [.int .i64 a1]from rfl) (cX.none _ _))));intro v303 Ze MJ hb mL m9;clear mL m9;(first|rw[←Ny302.out]at MJ|(simp only[aaU]at MJ;rw[←Ny302.out]at MJ));replace bg:=Ah (Kd.bW (by(with_reducible repeat(first|apply Kd.al|apply Kd.ak|apply Kd.aY));exact(Kd.aE (Kd.I (p:=⟨jg,0,none⟩) (Kd.aE bg.out (fun k_ hk=>(⟨hk,hk⟩:_∧k_≠jg))) (fun _ hk=>hk.2) (.int .i64 qX)) (fun _ h_=>h_.1))) hb);have BT:=Ah (Kd.bq MJ (lG (w:=w) (g:=g) (row:=none) (gy HK qu)));replace jh:=Ah (bJ (g:=jg) (o:= .cells #[.int .i64 qX,.int .i64 sI,.int .i64 (Ee (1+nS)),.int .i64 (Ee (1+nT)),.int .i64 (Ee (1+nU))] 82 (0,0)) (pb jh) hb);replace HK:=Ah (bK.trans (gy HK qu) (bK.of_below hb g none) (.inl rfl));replace HB:=Ah (aK (aQ HB uH) hb);replace HI0:=Ah (Z.below (show Z w0 (CP.setCell ⟨jg,0,none⟩ (.int .i64 qX)) g aq yN H1 from Z.iS HI0 ma) hb);clear hb MJ;obtain⟨rH,qY,MK⟩:=Kd.ax BT.out;subst MK)|((with_reducible refine bN (f:=46) rfl ?_);refine gL (some 47) rfl rfl Try.func46 (by kernel_rfl) rfl #[.pointer (some ⟨g,0,none⟩),.slice rH YW.length qY] rfl ?_;(with_reducible refine(wv.calls g aq yN H1 _ _ YW zt YX YY w0 _ ?aJ ?aM ?ac ?au ?cI A37.out).mono ?_);(case aJ=>exact Z.iS HI0 ma);(case aM=>exact aQ HB uH);(case ac=>exact df BT);(case au=>exact(Kd.ab BT.out).2.1);(case cI=>exact far_slice (Z.own_ne HI0.out BT.out (by decide)));rintro e Hf ⟨rfl,hi,hb,hk⟩;refine⟨_,rfl, ?_⟩;replace bg:=Ah (Kd.aE (Kd.dK (Z.apart (show Z w0 _ g aq yN H1 from Z.iS HI0 ma) (rr bg.out) (by decide)) hk (fun _ h=>h.2)) (fun _ h=>h.1));replace jh:=Ah (bK.blk hk (g':=jg) (o:= .cells #[.int .i64 qX,.int .i64 sI,.int .i64 (Ee (1+nS)),.int .i64 (Ee (1+nT)),.int .i64 (Ee (1+nU))] 82 (0,0)) (bk jh) z8.out (by simp));replace BT:=Ah (Kd.aE (Kd.dK (Z.apart (show Z w0 _ g aq yN H1 from Z.iS HI0 ma) (rr BT.out) (by decide)) hk (fun _ h=>h.2)) (fun _ h=>h.1));replace HK:=Ah (bK.trans (gy HK qu) hk (.inl rfl));replace HB:=Ah (hb);replace HI0:=Ah (hi);(try clear hb hk hi);obtain⟨hcz47_0,hcz47_1,hcz47_2,hcz47_3,hcz47_4⟩:=ah jh;obtain⟨hfz47_0,hfz47_1,hfz47_2,hfz47_3,hfz47_4⟩:=af jh)|((with_reducible refine iG (b:= .append) (xs:= #[.tmp 50,.tmp 52]) rfl ?_);at_builtin;refine Kd.jp sS w.heap.size rfl (.tmp 50) (.tmp 52) 65 82 (.agg #[(.int .i64 0),(.int .i64 0),(.int .i64 0),(.int .i64 0),(.int .i64 0)]) 40 rfl Try.underlying65 Vl rfl (by decide) (by omega) u5 rG (⟨qX,(⟨zt,(Ee (1+nS))⟩:X),(Ee (1+nT)),(Ee (1+nU))⟩:ga) [.int .i64 qX,.int .i64 zt,.int .i64 (Ee (1+nS)),.int .i64 (Ee (1+nT)),.int .i64 (Ee (1+nU))] (fun k_=>k_≠jg) (fun _=>False) rfl (by first|(go_simp;done)|(go_simp;rfl)) ?aP (fun _ hk=>hk.elim) ?aF ?aO (gR _ _) ?aS ?aL ?_;(case aP=>exact k82_mkM _ _ _ (⟨qX,(⟨zt,(Ee (1+nS))⟩:X),(Ee (1+nT)),(Ee (1+nU))⟩:ga));(case aF=>exact(fun k_ hk=>Kd.jr (g:=jg) (o:= .cells #[.int .i64 qX,.int .i64 zt,.int .i64 (Ee (1+nS)),.int .i64 (Ee (1+nT)),.int .i64 (Ee (1+nU))] 82 (0,0)) (pb jh) k_ hk));(case aO=>exact(by(with_reducible repeat(first|apply Kd.al|apply Kd.ak|apply Kd.aY));exact Kd.aE (Kd.I (p:=⟨jg,1,none⟩) (Kd.aE bg.out (fun k_ hk=>(⟨hk,hk⟩:_∧k_≠jg))) (fun _ hk=>hk.2) (.int .i64 zt)) (fun _ hk=>hk.1)));(case aS=>exact(lG (w:=w) (g:=g) (row:=none) (gy HK qu)));(case aL=>have:=LMc38.out;omega);intro v309 AJ ho hb hg hat;rw[←Ny308.out]at ho;replace BT:=Ah (Kd.eD (rf BT jh) (Kd.dt (by(with_reducible repeat(first|apply Kd.al|apply Kd.ak|apply Kd.aY));exact(Kd.aE (Kd.I (p:=⟨jg,1,none⟩) (Kd.aE bg.out (fun k_ hk=>(⟨hk,hk⟩:_∧k_≠jg))) (fun _ hk=>hk.2) (.int .i64 zt)) (fun _ h_=>h_.1)))) (by decide) hg);replace jh:=Ah (cC (g:=jg) (o:= .cells #[.int .i64 qX,.int .i64 zt,.int .i64 (Ee (1+nS)),.int .i64 (Ee (1+nT)),.int .i64 (Ee (1+nU))] 82 (0,0)) (pb jh) hg (Kd.jq bg.out (fun _ hk=>hk)));replace HB:=Ah (Sl (aQ HB uH) HL.out hb);replace HI0:=Ah (Z.grown (Z.iS HI0 ma) hg (Z.own_ne HI0.out bg.out (by decide)));replace HK:=Ah (bK.trans (gy HK qu) (bK.IV hg g) (Kd.Ts bg.out));have HO310:=Ah (ho);clear bg;clear ho hb hg hat))
       go_roundg MH
       case measure=>have:=En.out;have:=dF.out;have:=Rm.out;omega
       case rel=>exact⟨(y308),(Ee (an-1)),(YX),(YY),e3,H',⟨by have:=En.out;have:=dF.out;have:=Rm.out;omega⟩,rm HO310 (fun _ hk=>trivial),⟨Z.iS HI0 ma⟩,⟨gy HK qu⟩,⟨aQ HB uH⟩⟩
def px.f(k:Nat)(a0:Int):Option (Int×(List (X))×(List (X))×Int×(List (aV))×Bool):=(n8.f a0 1 400).bind fun ML=>(if ML=true then((ip.f k a0 ([]:List (X))).bind fun DT=>(some (DT.1,DT.2.1,DT.2.2,1,([]:List (aV)),true)))else(some (0,([]:List (X)),([]:List (X)),0,([]:List (aV)),false)))
theorem px.mono:∀a0 k,aG (px.f k a0) (px.f (k+1) a0):=by
 intro a0 k;unfold px.f
 repeat' with_reducible first|exact ip.mono _ _ _|exact aG.refl _|exact aG.none _|refine aG.ite ?_ ?_|refine aG.bind ?_ (fun _=> ?_)
theorem px.calls(k:Nat)(a0:Int)(r1:Int)(r2:List (X))(r3:List (X))(r4:Int)(r5:List (aV))(r6:Bool)(w:World)(h:px.f k a0=some (r1,r2,r3,r4,r5,r6)):
 Calls Try.prog 48 #[.int .i64 a0] w fun e w'=>∃et eZ lm:Value,e= .returned (.tuple #[.agg #[.int .i64 r1,et,eZ,.int .i64 r4,lm],.bool r6])∧Kd.R ag 38 w' w.heap.size (fun k_=>some k_≠(eZ:Value).ownBlock) et r2∧Kd.R ag 38 w' w.heap.size (fun k_=>some k_≠(et:Value).ownBlock) eZ r3∧Kd.R cV 40 w' w.heap.size (fun _=>True) lm r5∧Below w.heap.size w w':=by
 have uP:=aab;have HB:=Ah (gR w.heap.size w);have H:((n8.f a0 1 400).bind fun ML=>(if ML=true then((ip.f k a0 ([]:List (X))).bind fun DT=>(some (DT.1,DT.2.1,DT.2.2,1,([]:List (aV)),true)))else(some (0,([]:List (X)),([]:List (X)),0,([]:List (aV)),false))))=some (r1,r2,r3,r4,r5,r6):=h;clear h;replace H:=Hc.mp H;obtain⟨ML,kR,H⟩:=H
 try dsimp only at H
 have A2:=Ah kR;clear kR
 by_cases c3:ML=true
 rotate_left
 ·
  replace c3:=Q3.mpr c3;subst c3;rw[if_neg dc]at H;simp only[SY,cM]at H;obtain⟨rfl,rfl,rfl,rfl,rfl,rfl⟩:=H
  go_enter Try.func48,Try.ntmps48
  go_wp2_with (first|((with_reducible refine am (N:=2) rfl ?_);refine ar 2 28 #[.int .i64 0,.slice none 0 0,.slice none 0 0,.int .i64 0,.slice none 0 0] ?_;intro qv hg oq pg hb;have GW314:=gw hg (bs HB);have BU:=gw hg (bs HB);replace HB:=Ah (aK (bs HB) hb);clear hb hg)|((with_reducible refine bN (f:=40) rfl ?_);refine gL (some 5) rfl rfl Try.func40 (by kernel_rfl) rfl #[.int .i64 a0,.int .i64 1,.int .i64 400] rfl ?_;(with_reducible refine(n8.calls a0 1 400 false _ A2.out).mono ?_);rintro e w' ⟨rfl,⟨nd,rfl⟩⟩;refine⟨_,rfl, ?_⟩;(try(rw[Et oq];generalize lR:World.drewN oq _=oq;have gR:Y (oq.heap[qv]?=some (.cells #[.int .i64 0,.slice none 0 0,.slice none 0 0,.int .i64 0,.slice none 0 0] 28 (0,0))):=⟨by rw[←lR];exact(bk pg)⟩;have g7:Y (Below w.heap.size w oq):=⟨by rw[←lR];exact(aQ HB BU)⟩;clear pg HB lR;have pg:=gR;have HB:=g7;clear gR g7));obtain⟨qh,qi,us,yp,yq⟩:=ah pg;obtain⟨qj,qk,uv,yu,yv⟩:=af pg))
  refine bodyPost_ret (lT rfl _ _ qv 28 #[.int .i64 0,.slice none 0 0,.slice none 0 0,.int .i64 0,.slice none 0 0] (0,0) _ rfl (pb pg) aab rfl (by kernel_rfl)) rfl ?_;exact⟨_,_,_,er,by first|exact Kd.dG _ _ _ _ _|exact Kd.dY _ _ _ _ _|exact Kd.dZ _ _ _ _ _|exact Kd.dW _ _ _ _ _|exact Kd.dX _ _ _ _ _,by first|exact Kd.dG _ _ _ _ _|exact Kd.dY _ _ _ _ _|exact Kd.dZ _ _ _ _ _|exact Kd.dW _ _ _ _ _|exact Kd.dX _ _ _ _ _,by first|exact Kd.dG _ _ _ _ _|exact Kd.dY _ _ _ _ _|exact Kd.dZ _ _ _ _ _|exact Kd.dW _ _ _ _ _|exact Kd.dX _ _ _ _ _,aQ HB BU⟩
 subst c3;rw[if_pos rfl]at H;replace H:=Hc.mp H;obtain⟨⟨Rn,Ro,Rp⟩,fc,H⟩:=H
 try dsimp only at H
 have A4:=Ah fc;clear fc;simp only[SY,cM]at H;obtain⟨rfl,rfl,rfl,rfl,rfl,rfl⟩:=H
 go_enter Try.func48,Try.ntmps48
 go_wp2_with (first|((with_reducible refine am (N:=2) rfl ?_);refine ar 2 28 #[.int .i64 0,.slice none 0 0,.slice none 0 0,.int .i64 0,.slice none 0 0] ?_;intro qv hg w5 pg hb;have GW314:=gw hg (bs HB);have BU:=gw hg (bs HB);replace HB:=Ah (aK (bs HB) hb);clear hb hg)|((with_reducible refine bN (f:=40) rfl ?_);refine gL (some 5) rfl rfl Try.func40 (by kernel_rfl) rfl #[.int .i64 a0,.int .i64 1,.int .i64 400] rfl ?_;(with_reducible refine(n8.calls a0 1 400 true _ A2.out).mono ?_);rintro e w' ⟨rfl,⟨nd,rfl⟩⟩;refine⟨_,rfl, ?_⟩;(try(rw[Et w5];generalize lR:World.drewN w5 _=w5;have gR:Y (w5.heap[qv]?=some (.cells #[.int .i64 0,.slice none 0 0,.slice none 0 0,.int .i64 0,.slice none 0 0] 28 (0,0))):=⟨by rw[←lR];exact(bk pg)⟩;have g7:Y (Below w.heap.size w w5):=⟨by rw[←lR];exact(aQ HB BU)⟩;clear pg HB lR;have pg:=gR;have HB:=g7;clear gR g7)))|((with_reducible refine bN (f:=19) rfl ?_);refine gL (some 9) rfl rfl Try.func19 (by kernel_rfl) rfl #[.int .i64 a0,.slice none 0 0] rfl ?_;(refine(ip.calls k a0 _ _ ([]:List (X)) Rn Ro Rp _ ?aJ ?aM A4.out).mono ?_);(case aJ=>exact Kd.Vz _ _);(case aM=>exact eH _);rintro e w6 ⟨v318,v321,rfl,ho0,ho1,hb⟩;refine⟨_,rfl, ?_⟩;have HO319:=Ah (Kd.bq ho0 (bR (aQ HB BU)));have HO322:=Ah (Kd.bq ho1 (bR (aQ HB BU)));replace pg:=nb pg hb;replace HB:=Ah (aK (aQ HB BU) hb);(try clear hb ho0 ho1);obtain⟨wl,wm,Zv⟩:=Kd.ax HO322.out;subst Zv;obtain⟨tY,tZ,Nd⟩:=Kd.ax HO319.out;subst Nd;obtain⟨qp,qq,st,Fz,G0⟩:=ah pg;obtain⟨sA,qr,su,G1,G2⟩:=af pg))
 refine bodyPost_ret (lT rfl _ _ qv 28 #[.int .i64 Rn,.slice tY Ro.length tZ,.slice wl Rp.length wm,.int .i64 1,.slice none 0 0] (0,0) _ rfl (pb pg) aab rfl (by kernel_rfl)) rfl ?_;exact⟨_,_,_,er,by(with_reducible repeat(first|apply Kd.al|apply Kd.ak|apply Kd.aY));exact Kd.aE (Kd.I (p:=⟨qv,4,none⟩) (Kd.I (p:=⟨qv,3,none⟩) (Kd.I (p:=⟨qv,2,none⟩) (Kd.I (p:=⟨qv,1,none⟩) (Kd.I (p:=⟨qv,0,none⟩) (Kd.ao HO319.out pg.out (by decide)) (fun _ hk=>hk.2) (.int .i64 Rn)) (fun _ hk=>hk.2) (.slice tY Ro.length tZ)) (fun _ hk=>hk.2) (.slice wl Rp.length wm)) (fun _ hk=>hk.2) (.int .i64 1)) (fun _ hk=>hk.2) (.slice none 0 0)) (fun _ hk=>hk.1),by(with_reducible repeat(first|apply Kd.al|apply Kd.ak|apply Kd.aY));exact Kd.aE (Kd.I (p:=⟨qv,4,none⟩) (Kd.I (p:=⟨qv,3,none⟩) (Kd.I (p:=⟨qv,2,none⟩) (Kd.I (p:=⟨qv,1,none⟩) (Kd.I (p:=⟨qv,0,none⟩) (Kd.ao HO322.out pg.out (by decide)) (fun _ hk=>hk.2) (.int .i64 Rn)) (fun _ hk=>hk.2) (.slice tY Ro.length tZ)) (fun _ hk=>hk.2) (.slice wl Rp.length wm)) (fun _ hk=>hk.2) (.int .i64 1)) (fun _ hk=>hk.2) (.slice none 0 0)) (fun _ hk=>hk.1),by first|exact Kd.dG _ _ _ _ _|exact Kd.dY _ _ _ _ _|exact Kd.dZ _ _ _ _ _|exact Kd.dW _ _ _ _ _|exact Kd.dX _ _ _ _ _,aQ HB BU⟩
def m4.f(k:Nat)(aA:Int)(U:List (X))(aH:List (X))(bl:Int)(bO:List (aV)):Option (Int×(List (X))×(List (X))×Int×(List (aV))):=(ip.f k aA U).bind fun DU=>((some (([]:List (aV)):List (aV))).bind fun wK=>(if wK.length+bO.length<3518437208883 then(some (DU.1,DU.2.1,DU.2.2,bl,(wK++bO)))else(none)))
theorem m4.mono:∀a0 a1 a2 a3 a4 k,aG (m4.f k a0 a1 a2 a3 a4) (m4.f (k+1) a0 a1 a2 a3 a4):=by
 intro a0 a1 a2 a3 a4 k;unfold m4.f
 repeat' with_reducible first|exact ip.mono _ _ _|exact aG.refl _|exact aG.none _|refine aG.ite ?_ ?_|refine aG.bind ?_ (fun _=> ?_)
theorem m4.calls(k:Nat)(aA:Int)(bH:Option Addr)(ay:Nat)(U:List (X))(bC:Option Addr)(bD:Nat)(aH:List (X))(bl:Int)(em:Option Addr)(en:Nat)(bO:List (aV))(r1:Int)(r2:List (X))(r3:List (X))(r4:Int)(r5:List (aV))(w:World)(fC:Kd.C ag w bH U.length U)(fD:U.length≤ay)(fE:Kd.C ag w bC aH.length aH)(fF:aH.length≤bD)(mh:Kd.C cV w em bO.length bO)(mi:bO.length≤en)(h:m4.f k aA U aH bl bO=some (r1,r2,r3,r4,r5)):
 Calls Try.prog 51 #[.agg #[.int .i64 aA,.slice bH U.length ay,.slice bC aH.length bD,.int .i64 bl,.slice em bO.length en]] w fun e w'=>∃et eZ lm:Value,e= .returned (.agg #[.int .i64 r1,et,eZ,.int .i64 r4,lm])∧Kd.R ag 38 w' w.heap.size (fun k_=>some k_≠(eZ:Value).ownBlock) et r2∧Kd.R ag 38 w' w.heap.size (fun k_=>some k_≠(et:Value).ownBlock) eZ r3∧Kd.R cV 40 w' w.heap.size (fun _=>True) lm r5∧Below w.heap.size w w':=by
 have uP:=aab;have o8:=aah;have cx:=Ah fC;have dv:=Ah fD;clear fC fD;have eV:=Ah fE;have eW:=Ah fF;clear fE fF;have ls:=Ah mh;have m8:=Ah mi;clear mh mi;have HB:=Ah (gR w.heap.size w);have H:((ip.f k aA U).bind fun DU=>((some (([]:List (aV)):List (aV))).bind fun wK=>(if wK.length+bO.length<3518437208883 then(some (DU.1,DU.2.1,DU.2.2,bl,(wK++bO)))else(none))))=some (r1,r2,r3,r4,r5):=h;clear h;replace H:=Hc.mp H;obtain⟨⟨By,Bz,C0⟩,kR,H⟩:=H
 try dsimp only at H
 have A2:=Ah kR;clear kR;obtain⟨wK,Kg⟩:∃y_:List (aV),y_=(([]:List (aV))):=⟨_,rfl⟩
 replace H:(if wK.length+bO.length<3518437208883 then(some (By,Bz,C0,bl,(wK++bO)))else(none))=some (r1,r2,r3,r4,r5):=by first|(rw[Kg];with_reducible exact H)|(have ai:=(N6 _ _).symm.trans H;rw[Kg];with_reducible exact ai)|(have ai:=(N6 _ _).symm.trans H;with_reducible exact ai)|with_reducible exact H|(rw[Kg];exact H)|exact H
 have Ny332:=Ah Kg;clear Kg
 by_cases c3:wK.length+bO.length<3518437208883
 rotate_left
 ·
  rw[if_neg c3]at H;exact absurd H (by simp)
 rw[if_pos c3]at H;have M9:=Ah c3;clear c3;obtain⟨C1,Kh⟩:∃y_:List (aV),y_=(wK++bO):=⟨_,rfl⟩
 replace H:(some (By,Bz,C0,bl,C1))=some (r1,r2,r3,r4,r5):=by first|(rw[Kh];with_reducible exact H)|(have ai:=(N6 _ _).symm.trans H;rw[Kh];with_reducible exact ai)|(have ai:=(N6 _ _).symm.trans H;with_reducible exact ai)|with_reducible exact H|(rw[Kh];exact H)|exact H
 have Ny335:=Ah Kh;clear Kh;simp only[SY,cM]at H;obtain⟨rfl,rfl,rfl,rfl,rfl⟩:=H
 go_enter Try.func51,Try.ntmps51
 go_wp2_with (first|((with_reducible refine am (N:=1) rfl ?_);refine ar 1 28 #[.int .i64 aA,.slice bH U.length ay,.slice bC aH.length bD,.int .i64 bl,.slice em bO.length en] ?_;intro R1 hg w4 mR hb;have GW323:=gw hg (bs HB);have vX:=gw hg (bs HB);replace HB:=Ah (aK (bs HB) hb);clear hb hg)|((with_reducible refine am (N:=2) rfl ?_);refine ar 2 28 #[.int .i64 0,.slice none 0 0,.slice none 0 0,.int .i64 0,.slice none 0 0] ?_;intro qK hg w5 t8 hb;have GW324:=gw hg (aQ HB vX);have BV:=gw hg (aQ HB vX);replace HB:=Ah (aK (aQ HB vX) hb);have NB323_324:=nn mR hg;have TK:=nm mR hg;replace mR:=nb mR hb;clear hb hg;have Xs:=NB323_324.out;have Xt:=TK.out;obtain⟨pD,pE,uA,QH,QI⟩:=ah mR;obtain⟨pF,pG,uB,QJ,QK⟩:=af mR)|((with_reducible refine bN (f:=19) rfl ?_);refine gL (some 9) rfl rfl Try.func19 (by kernel_rfl) rfl #[.int .i64 aA,.slice bH U.length ay] rfl ?_;(with_reducible refine(ip.calls k aA _ _ U By Bz C0 _ ?aJ ?aM A2.out).mono ?_);(case aJ=>exact cb cx HB);(case aM=>exact dv.out);rintro e w8 ⟨v327,v330,rfl,ho0,ho1,hb⟩;refine⟨_,rfl, ?_⟩;have GL:=Ah (Kd.bq ho0 (bR (aa HB vX BV)));have GM:=Ah (Kd.bq ho1 (bR (aa HB vX BV)));replace mR:=nb mR hb;replace t8:=nb t8 hb;replace HB:=Ah (aK (aa HB vX BV) hb);(try clear hb ho0 ho1);obtain⟨qp,qq,st,Fz,G0⟩:=ah mR;obtain⟨sA,qr,su,G1,G2⟩:=af mR;obtain⟨dd,de,tH⟩:=Kd.ax GL.out;subst tH;obtain⟨dp,dq,tI⟩:=Kd.ax GM.out;subst tI)|((with_reducible refine am (N:=11) rfl ?_);refine Kd.vN cV _ 40 ?hg (N:=11) ?hd (xs:=([]:List (aV))) (inner:=[]) (ok:=fun _=>True) (okp:=fun _=>True) ?hr ?hp (fun _ hk=>hk) trivial (gR _ _) (eH _) (by simp) ?_;(case hd=>rfl);(case hg=>rfl);(case hr=>first|(go_simp;done)|(go_simp;rfl));(case hp=>exact(cX.none _ _));intro v333 yX wL hb mL m9;clear mL m9;(first|rw[←Ny332.out]at wL|(simp only[aaU]at wL;rw[←Ny332.out]at wL));replace GL:=nf GL mR hb;replace GM:=nf GM mR hb;have GN:=Ah (Kd.bq wL (bR (aa HB vX BV)));replace mR:=Ah (bJ (g:=R1) (o:= .cells #[.int .i64 By,.slice dd Bz.length de,.slice dp C0.length dq,.int .i64 bl,.slice em bO.length en] 28 (0,0)) (pb mR) hb);replace t8:=Ah (bJ (bf t8 TK) hb);replace HB:=Ah (aK (aa HB vX BV) hb);clear hb wL;obtain⟨yy,yz,hcz14_2,hcz14_3,hcz14_4⟩:=ah mR;obtain⟨z6,z7,hfz14_2,hfz14_3,hfz14_4⟩:=af mR)|((with_reducible refine iG (b:= .append) (xs:= #[.tmp 11,.tmp 13]) rfl ?_);at_builtin;refine Kd.AL cV (w0:=w) w.heap.size rfl (.tmp 11) (.tmp 13) 26 40 (.agg #[(.int .i64 0),(.int .i64 0),(.int .i64 0),(.int .i64 0),(.int .i64 0)]) 40 rfl Try.underlying26 qF rfl (by decide) (by omega) v333 wK bO _ _ _ (fun _=>True) (fun _=>False) rfl rfl ?aO ?aR (fun _ _ h=>h) (fun _ h=>h.elim) ?aF ?aB ?aS ?aL ?_;(case aR=>exact cb ls HB);(case aB=>exact(aa HB vX BV));(case aF=>exact(fun _ _=>trivial));(case aO=>exact(rr GN.out));(case aS=>exact(bR (aa HB vX BV)));(case aL=>have:=M9.out;omega);intro v336 NL ho hb hg hat;rw[←Ny335.out]at ho;replace mR:=Ah (cC (bk mR) hg (Kd.cY GN.out mR.out (by decide)));replace t8:=Ah (cC (bk t8) hg (Kd.cY GN.out t8.out (by decide)));replace GL:=Ah (Kd.eD (rr GL.out) (Kd.dt (rr GN.out)) (by decide) hg);replace GM:=Ah (Kd.eD (rr GM.out) (Kd.dt (rr GN.out)) (by decide) hg);replace HB:=Ah (hb);have HO337:=Ah (ho);clear GN;clear ho hb hg hat;obtain⟨zu,zv,YZ⟩:=Kd.ax HO337.out;subst YZ;obtain⟨qf,sk,xZ,Tx,Ty⟩:=ah mR;obtain⟨qg,sl,xa,Tz,U0⟩:=af mR;obtain⟨uy,uz,xi,xj,xk⟩:=ah t8;obtain⟨vA,vB,xl,xm,xn⟩:=af t8))
 refine bodyPost_ret (results_cell_row rfl _ _ qK 28 #[.int .i64 By,.slice dd Bz.length de,.slice dp C0.length dq,.int .i64 bl,.slice zu C1.length zv] (0,0) _ rfl (AD t8 TK) aab rfl (by kernel_rfl)) rfl ?_;exact⟨_,_,_,er,by(with_reducible repeat(first|apply Kd.al|apply Kd.ak|apply Kd.aY));exact Kd.aE (Kd.I (p:=⟨qK,4,none⟩) (Kd.I (p:=⟨qK,3,none⟩) (Kd.I (p:=⟨qK,2,none⟩) (Kd.I (p:=⟨qK,1,none⟩) (Kd.I (p:=⟨qK,0,none⟩) (Kd.I (p:=⟨R1,4,none⟩) (Kd.ao (Kd.ao GL.out mR.out (by decide)) t8.out (by decide)) (fun _ hk=>hk.1.2) (.slice zu C1.length zv)) (fun _ hk=>hk.2) (.int .i64 By)) (fun _ hk=>hk.2) (.slice dd Bz.length de)) (fun _ hk=>hk.2) (.slice dp C0.length dq)) (fun _ hk=>hk.2) (.int .i64 bl)) (fun _ hk=>hk.2) (.slice zu C1.length zv)) (fun _ hk=>hk.1.1),by(with_reducible repeat(first|apply Kd.al|apply Kd.ak|apply Kd.aY));exact Kd.aE (Kd.I (p:=⟨qK,4,none⟩) (Kd.I (p:=⟨qK,3,none⟩) (Kd.I (p:=⟨qK,2,none⟩) (Kd.I (p:=⟨qK,1,none⟩) (Kd.I (p:=⟨qK,0,none⟩) (Kd.I (p:=⟨R1,4,none⟩) (Kd.ao (Kd.ao GM.out mR.out (by decide)) t8.out (by decide)) (fun _ hk=>hk.1.2) (.slice zu C1.length zv)) (fun _ hk=>hk.2) (.int .i64 By)) (fun _ hk=>hk.2) (.slice dd Bz.length de)) (fun _ hk=>hk.2) (.slice dp C0.length dq)) (fun _ hk=>hk.2) (.int .i64 bl)) (fun _ hk=>hk.2) (.slice zu C1.length zv)) (fun _ hk=>hk.1.1),by(with_reducible repeat(first|apply Kd.al|apply Kd.ak|apply Kd.aY));exact Kd.aE (Kd.I (p:=⟨qK,4,none⟩) (Kd.I (p:=⟨qK,3,none⟩) (Kd.I (p:=⟨qK,2,none⟩) (Kd.I (p:=⟨qK,1,none⟩) (Kd.I (p:=⟨qK,0,none⟩) (Kd.I (p:=⟨R1,4,none⟩) (Kd.ao (Kd.ao HO337.out mR.out (by decide)) t8.out (by decide)) (fun _ hk=>hk.1.2) (.slice zu C1.length zv)) (fun _ hk=>hk.2) (.int .i64 By)) (fun _ hk=>hk.2) (.slice dd Bz.length de)) (fun _ hk=>hk.2) (.slice dp C0.length dq)) (fun _ hk=>hk.2) (.int .i64 bl)) (fun _ hk=>hk.2) (.slice zu C1.length zv)) (fun _ hk=>trivial),aa HB vX BV⟩
end Go.Proofs.Ytahnkgehlfdlkaa.G
