-- Printed by a program of this session (drive.py, by way of the kit's print). Not trusted: Lean checks it.
import Derived.Test.YtjojdplkgekagaaG0
import Derived.Test.YtjojdplkgekagaaG3
open Bool renaming eq_false_iff→dn
open Go.Act renaming put→aab
open Go.IntKind renaming u64→aah
open Go.Proofs.Try renaming underlying25→ua,underlying23→aac,prog→aad,func21→aar,underlying65→aay,func26→abh,func43→abF
open Go.RowKit renaming wrap64→LS
open Go.RowKit.Below renaming refl→aaa
open Go.Value renaming ownBlock→aae
open Go.World renaming block_lt_of_cell?→LA,cell?→aaH,frozen?→aaL
open List renaming setIfInBounds_toArray→Ok,length_take→ao,set_cons_zero→bY,set_cons_succ→dl,length_drop→gy,map_toArray→aag,mem_cons→aam,map_cons→aan,map_nil→aas
open Nat renaming le_refl→bx,le_of_eq→aaj,le_trans→aax,ne_of_lt→aaI,ne_of_gt→aaJ,sub_le_sub_right→aaR
open Option renaming bind_eq_some_iff→LT,bind_some→Mq
open Option.some renaming inj→iz,injEq→j4
open Prod.mk renaming injEq→ub
namespace Go.Proofs.Ytjojdplkgekagaa.G
open Go.RowKit Go.Proofs.YtjojdplkgekagaaW.PrintWords Go.Proofs.YtjojdplkgekagaaW.PrintLast Go.Proofs.YtjojdplkgekagaaW.PrintMore
attribute [local go_sem] um un uu uv ud ue uo uq
set_option linter.unusedVariables false
set_option linter.unusedSimpArgs false
def gM.j0:Nat→Int→Int→Bool→List (a7)→Option ((List (a7))×(List (aT))×Bool)
 |0,_,_,_,_=>none
 |k+1,x1,x2,x20,x194000=>if x20=true then(some (([]:List (a7)),([]:List (aT)),false))else((dC.f k x194000 x1 x2).bind fun SV=>((br.f k SV.1).bind fun Ub=>(if Ub=true then((bl.f k SV.2).bind fun Uc=>(some (SV.1,Uc,true)))else(some (([]:List (a7)),([]:List (aT)),false)))))
def gM.f(k:Nat)(J:List (a7))(a1:Int)(a2:Int):Option ((List (a7))×(List (aT))×Bool):=(br.f k J).bind fun Ju=>(if Ju=true then((sr.f a1 a2).bind fun t196=>(gM.j0 k a1 a2 (!t196) J))else(gM.j0 k a1 a2 true J))
theorem gM.dL:∀k,(∀y0 y1 y2 y3,aG (gM.j0 k y0 y1 y2 y3) (gM.j0 (k+1) y0 y1 y2 y3))
 |0=>fun _ _ _ _ r h=>by simp[gM.j0]at h
 |k+1=>by
  have bw:=gM.dL k
  ·
   intro y0 y1 y2 y3;unfold gM.j0
   repeat' with_reducible first|exact bw _ _ _ _|exact br.mono _ _|exact dC.mono _ _ _ _|exact bl.mono _ _|exact aG.refl _|exact aG.none _|refine aG.ite ?_ ?_|refine aG.bind ?_ (fun _=> ?_)
theorem gM.mono:∀a0 a1 a2 k,aG (gM.f k a0 a1 a2) (gM.f (k+1) a0 a1 a2):=by
 intro a0 a1 a2 k;have bw:=gM.dL k;unfold gM.f
 repeat' with_reducible first|exact bw _ _ _ _|exact br.mono _ _|exact dC.mono _ _ _ _|exact bl.mono _ _|exact aG.refl _|exact aG.none _|refine aG.ite ?_ ?_|refine aG.bind ?_ (fun _=> ?_)
set_option maxHeartbeats 8000000 in
set_option maxRecDepth 100000 in
theorem gM.calls(k:Nat)(bS:Option Addr)(bL:Nat)(J:List (a7))(a1:Int)(a2:Int)(r1:List (a7))(r2:List (aT))(r3:Bool)(w:World)(fT:Kd.C b7 w bS J.length J)(fU:J.length≤bL)(h:gM.f k J a1 a2=some (r1,r2,r3)):
 Calls aad 6 #[.agg #[.slice bS J.length bL],.int .i64 a1,.int .i64 a2] w fun e w'=>∃da sm:Value,e= .returned (.tuple #[.agg #[da],sm,.bool r3])∧Kd.R b7 65 w' w.heap.size (fun _=>True) da r1∧Kd.R bd 38 w' w.heap.size (fun _=>True) sm r2∧Below w.heap.size w w':=by
 have kJ:=ua;have cY:=Ah fT;have dw:=Ah fU;clear fT fU;have HB:=Ah (aaa w.heap.size w);have H:((br.f k J).bind fun Ju=>(if Ju=true then((sr.f a1 a2).bind fun t196=>(gM.j0 k a1 a2 (!t196) J))else(gM.j0 k a1 a2 true J)))=some (r1,r2,r3):=h;clear h;have Du:=Ah H;clear H
 go_enter Try.func6,Try.ntmps6
 go_upto_region 1 with(first|((with_reducible refine ax (N:=3) rfl ?_);refine bA 3 25 #[.slice bS J.length bL] ?_;intro gb193 hg w5 fq hb;have GW193:=gw hg (bs HB);have jX:=gw hg (bs HB);replace HB:=Ah (aK (bs HB) hb);clear hb hg)|((with_reducible refine ax (N:=6) rfl ?_);refine bA 6 25 #[.slice none 0 0] ?_;intro zD hg w6 g6 hb;have GW194:=gw hg (aH HB jX);have kC:=gw hg (aH HB jX);replace HB:=Ah (aK (aH HB jX) hb);have E5:=nn fq hg;have E6:=nm fq hg;replace fq:=nb fq hb;clear hb hg))
 (try simp only[aab,Ok,bY,dl])
 go_cut [20] (fun v20 wc=>∃ (kq:Nat) (NG:Bool),v20= .bool NG∧U (gM.j0 kq a1 a2 NG J=some (r1,r2,r3))∧U (kq≤k)∧U (wc.heap[gb193]?=some (.cells #[(.slice bS J.length bL)] 25 (0,0)))∧U (wc.heap[zD]?=some (.cells #[(.slice none 0 0)] 25 (0,0)))∧U (Below w.heap.size w wc))
 case first=>
  have H:=Du.out;clear Du;replace H:=LT.mp H;obtain⟨Ju,kb,H⟩:=H
  try dsimp only at H
  have A7:=Ah kb;clear kb
  by_cases c8:Ju=true
  rotate_left
  ·
   replace c8:=dn.mpr c8;subst c8;rw[if_neg dV]at H;have H':=Ah H;clear H;have a1m:=E5.out;have a1n:=E6.out;have yh:=ap fq;have yi:=an fq
   go_wp2_with (first|((with_reducible refine bJ (f:=26) rfl ?_);refine gL (some 13) rfl rfl abh (by kernel_rfl) rfl #[.agg #[.slice bS J.length bL]] rfl ?_;(with_reducible refine(br.calls k _ _ J false _ ?a8 ?a9 A7.out).mono ?_);(case a8=>exact cb cY HB);(case a9=>exact dw.out);rintro e LG ⟨rfl,hb⟩;refine⟨_,rfl, ?_⟩;replace fq:=nb fq hb;replace g6:=nb g6 hb;replace HB:=Ah (aK (aW HB jX kC) hb);(try clear hb)))
   go_meet
   case rel=>exact⟨_,(true),e3,H',⟨by first|omega|exact bx _⟩,⟨bk fq⟩,⟨bk g6⟩,⟨aW HB jX kC⟩⟩
  subst c8;rw[if_pos rfl]at H;replace H:=LT.mp H;obtain⟨t196,AL,H⟩:=H
  try dsimp only at H
  have A9:=Ah AL;clear AL;have H':=Ah H;clear H;have SW:=E5.out;have SX:=E6.out;have lx:=ap fq;have ly:=an fq
  go_wp2_with (first|((with_reducible refine bJ (f:=26) rfl ?_);refine gL (some 13) rfl rfl abh (by kernel_rfl) rfl #[.agg #[.slice bS J.length bL]] rfl ?_;(with_reducible refine(br.calls k _ _ J true _ ?a8 ?a9 A7.out).mono ?_);(case a8=>exact cb cY HB);(case a9=>exact dw.out);rintro e G9 ⟨rfl,hb⟩;refine⟨_,rfl, ?_⟩;replace fq:=nb fq hb;replace g6:=nb g6 hb;replace HB:=Ah (aK (aW HB jX kC) hb);(try clear hb))|(go_at_call 27;(with_reducible refine(sr.calls a1 a2 t196 _ A9.out).mono ?_);rintro e w' ⟨rfl,⟨nd,rfl⟩⟩))
  go_meet
  case rel=>exact⟨_,(!t196),e3,H',⟨by first|omega|exact bx _⟩,⟨bk fq⟩,⟨bk g6⟩,⟨aW HB jX kC⟩⟩
 case rest=>
  clear Du
  try clear c1
  try clear c2
  try clear p2
  try clear c6
  try clear c8
  try clear c10
  try clear c13
  try clear lx
  try clear yh
  try clear ly
  try clear yi
  obtain⟨kq,NG,rfl,HA,Wl,fq,g6,HB⟩:=hcut
  cases kq with
  |zero=>exact absurd HA.out (by simp[gM.j0])
  |succ xx=>
   have H:=HA.out;clear HA;simp only[gM.j0]at H
   by_cases c16:NG=true
   ·
    subst c16;rw[if_pos rfl]at H;simp only[j4,ub]at H;obtain⟨rfl,rfl,rfl⟩:=H;have zE:=E6.out;have zF:=E5.out;have sA:=ap g6;have sB:=an g6
    go_wp2
    refine bodyPost_ret (rj rfl _ _ zD 25 #[.slice none 0 0] (0,0) _ rfl (by(with_reducible repeat(first|refine aD ?_ _|refine Z ?_|refine aC ?_ _));refine aj (cs:= #[.slice none 0 0]) ?_ 0 _ rfl;(with_reducible repeat(first|refine aD ?_ _|refine Z ?_|refine aC ?_ _));exact g6.out) ua rfl (by kernel_rfl)) rfl ?_;exact⟨_,_,er,by first|exact Kd.fk _ _ _ _ _|exact Kd.iI _ _ _ _ _|exact Kd.iJ _ _ _ _ _|exact Kd.iG _ _ _ _ _|exact Kd.iH _ _ _ _ _,by first|exact Kd.fk _ _ _ _ _|exact Kd.iI _ _ _ _ _|exact Kd.iJ _ _ _ _ _|exact Kd.iG _ _ _ _ _|exact Kd.iH _ _ _ _ _,aW HB jX kC⟩
   replace c16:=dn.mpr c16;subst c16;rw[if_neg dV]at H;replace H:=LT.mp H;obtain⟨⟨sY,t198⟩,Jv,H⟩:=H
   try dsimp only at H
   have PQ:=Ah Jv;clear Jv;replace H:=LT.mp H;obtain⟨Ub,Jw,H⟩:=H
   try dsimp only at H
   have fo:=Ah Jw;clear Jw
   by_cases c21:Ub=true
   rotate_left
   ·
    replace c21:=dn.mpr c21;subst c21;rw[if_neg dV]at H;simp only[j4,ub]at H;obtain⟨rfl,rfl,rfl⟩:=H;have I0:=E5.out;have I1:=E6.out;have EM:=ap fq;have EN:=an fq
    go_wp2_with (first|((with_reducible refine bJ (f:=28) rfl ?_);refine gL (some 27) rfl rfl Try.func28 (by kernel_rfl) rfl #[.slice bS J.length bL,.int .i64 a1,.int .i64 a2] rfl ?_;(with_reducible refine(dC.calls xx _ _ J a1 a2 sY t198 _ ?a8 ?a9 PQ.out).mono ?_);(case a8=>exact cb cY HB);(case a9=>exact dw.out);rintro e PR ⟨v199,v201,rfl,ho0,ho1,hb⟩;refine⟨_,rfl, ?_⟩;have kD:=Ah (Kd.dD ho0 (be (aW HB jX kC)));have m5:=Ah (Kd.dD ho1 (be (aW HB jX kC)));replace fq:=nb fq hb;replace g6:=nb g6 hb;replace HB:=Ah (aK (aW HB jX kC) hb);(try clear hb ho0 ho1);obtain⟨nj,nk,OZ⟩:=Kd.bq kD.out;subst OZ)|((with_reducible refine ax (N:=11) rfl ?_);refine bA 11 25 #[.slice none 0 0] ?_;intro NH hg PS ju hb;replace kD:=nr kD hb;replace m5:=nr m5 hb;have GW203:=gw hg (aW HB jX kC);have CB:=gw hg (aW HB jX kC);replace HB:=Ah (aK (aW HB jX kC) hb);have GW:=nn fq hg;have QA:=nm fq hg;replace fq:=nb fq hb;have E7:=nn g6 hg;have GX:=nm g6 hg;replace g6:=nb g6 hb;clear hb hg;have hnb41:=QA.out;have hnc41:=GW.out;have NI:=GX.out;have NJ:=E7.out;have Yy:=ap ju;have Yz:=an ju)|((with_reducible refine bJ (f:=26) rfl ?_);refine gL (some 33) rfl rfl abh (by kernel_rfl) rfl #[.agg #[.slice nj sY.length nk]] rfl ?_;(with_reducible refine(br.calls xx _ _ sY false _ ?a8 ?a9 fo.out).mono ?_);(case a8=>exact rc kD ju);(case a9=>exact(Kd.af kD.out).2.1);rintro e PT ⟨rfl,hb⟩;refine⟨_,rfl, ?_⟩;replace kD:=nf kD ju hb;replace m5:=nf m5 ju hb;replace fq:=Ah (cC (bf fq GW) hb);replace g6:=Ah (cC (bf g6 E7) hb);replace ju:=Ah (cC (g:=NH) (o:= .cells #[.slice nj sY.length nk] 25 (0,0)) (by(with_reducible repeat(first|refine aD ?_ _|refine Z ?_|refine aC ?_ _));refine aj (cs:= #[.slice none 0 0]) ?_ 0 _ rfl;(with_reducible repeat(first|refine aD ?_ _|refine Z ?_|refine aC ?_ _));exact ju.out) hb);replace HB:=Ah (aK (bX HB jX kC CB) hb);(try clear hb);have Z0:=ap g6;have Z1:=an g6))
    refine bodyPost_ret (rj rfl _ _ zD 25 #[.slice none 0 0] (0,0) _ rfl (by(with_reducible repeat(first|refine aD ?_ _|refine Z ?_|refine aC ?_ _));refine aj (cs:= #[.slice none 0 0]) ?_ 0 _ rfl;(with_reducible repeat(first|refine aD ?_ _|refine Z ?_|refine aC ?_ _));exact g6.out) ua rfl (by kernel_rfl)) rfl ?_;exact⟨_,_,er,by first|exact Kd.fk _ _ _ _ _|exact Kd.iI _ _ _ _ _|exact Kd.iJ _ _ _ _ _|exact Kd.iG _ _ _ _ _|exact Kd.iH _ _ _ _ _,by first|exact Kd.fk _ _ _ _ _|exact Kd.iI _ _ _ _ _|exact Kd.iJ _ _ _ _ _|exact Kd.iG _ _ _ _ _|exact Kd.iH _ _ _ _ _,bX HB jX kC CB⟩
   subst c21;rw[if_pos rfl]at H;replace H:=LT.mp H;obtain⟨Uc,Cl,H⟩:=H
   try dsimp only at H
   have PU:=Ah Cl;clear Cl;simp only[j4,ub]at H;obtain⟨rfl,rfl,rfl⟩:=H;have SY:=E5.out;have SZ:=E6.out;have yj:=ap fq;have yk:=an fq
   try go_wp2_with (first|((with_reducible refine bJ (f:=28) rfl ?_);refine gL (some 27) rfl rfl Try.func28 (by kernel_rfl) rfl #[.slice bS J.length bL,.int .i64 a1,.int .i64 a2] rfl ?_;(with_reducible refine(dC.calls xx _ _ J a1 a2 sY t198 _ ?a8 ?a9 PQ.out).mono ?_);(case a8=>exact cb cY HB);(case a9=>exact dw.out);rintro e AM ⟨v199,v201,rfl,ho0,ho1,hb⟩;refine⟨_,rfl, ?_⟩;have kD:=Ah (Kd.dD ho0 (be (aW HB jX kC)));have m5:=Ah (Kd.dD ho1 (be (aW HB jX kC)));replace fq:=nb fq hb;replace g6:=nb g6 hb;replace HB:=Ah (aK (aW HB jX kC) hb);(try clear hb ho0 ho1);obtain⟨tz,sZ,xU⟩:=Kd.bq kD.out;subst xU)|((with_reducible refine ax (N:=11) rfl ?_);refine bA 11 25 #[.slice none 0 0] ?_;intro NH hg xy ju hb;replace kD:=nr kD hb;replace m5:=nr m5 hb;have GW203:=gw hg (aW HB jX kC);have CB:=gw hg (aW HB jX kC);replace HB:=Ah (aK (aW HB jX kC) hb);have GW:=nn fq hg;have QA:=nm fq hg;replace fq:=nb fq hb;have E7:=nn g6 hg;have GX:=nm g6 hg;replace g6:=nb g6 hb;clear hb hg;have Eu:=QA.out;have Ew:=GW.out;have NA:=GX.out;have NB:=E7.out;have o6:=ap ju;have o7:=an ju)|((with_reducible refine bJ (f:=26) rfl ?_);refine gL (some 33) rfl rfl abh (by kernel_rfl) rfl #[.agg #[.slice tz sY.length sZ]] rfl ?_;(with_reducible refine(br.calls xx _ _ sY true _ ?a8 ?a9 fo.out).mono ?_);(case a8=>exact rc kD ju);(case a9=>exact(Kd.af kD.out).2.1);rintro e Dv ⟨rfl,hb⟩;refine⟨_,rfl, ?_⟩;replace kD:=nf kD ju hb;replace m5:=nf m5 ju hb;replace fq:=Ah (cC (bf fq GW) hb);replace g6:=Ah (cC (bf g6 E7) hb);replace ju:=Ah (cC (g:=NH) (o:= .cells #[.slice tz sY.length sZ] 25 (0,0)) (by(with_reducible repeat(first|refine aD ?_ _|refine Z ?_|refine aC ?_ _));refine aj (cs:= #[.slice none 0 0]) ?_ 0 _ rfl;(with_reducible repeat(first|refine aD ?_ _|refine Z ?_|refine aC ?_ _));exact ju.out) hb);replace HB:=Ah (aK (bX HB jX kC CB) hb);(try clear hb)))
   have aa:=Ah (Kd.al kD.out);have ab:=Ah (Kd.al m5.out);have ac:=Ah (Z fq.out);have ae:=Ah (Z g6.out);have bK:=Ah (Z ju.out);have bP:=Ah (fO HB.out);clear kD m5 fq g6 ju HB;have kD:=aa;have m5:=ab;have fq:=ac;have g6:=ae;have ju:=bK;have HB:=bP;clear aa ab ac ae bK bP;obtain⟨Ao33,co33,a4u⟩:=Kd.bq m5.out;(first|subst a4u|(injection a4u with kc oc kd;have oe:=kc.symm;have oh:=kd.symm;clear kc oc kd;subst oe;subst oh));refine iY (n:=6) (S:=fun w'=>w'.cell? ⟨NH,0,none⟩=some (.slice tz sY.length sZ)) (ds:=[]) #[false,false,false,false,false,false] (by kernel_rfl) rfl rfl ((bC ju.out 0).trans rfl) (fun hHeld=> ?_)
   generalize Dv.drew=w32 at kD m5 fq g6 ju HB hHeld⊢
   refine Hx (i:=1) (N:=some 37) (v:= ?_) (a':= ?_) #[false,true,false,false,false,false] rfl rfl (by kernel_rfl) (fun _ _ _ h=>h) (Or.inl ⟨by rfl, ?_⟩) ?_ ?_;rotate_left
   ·
    intro w'
    go_simp
    with_reducible rfl
   rotate_left
   ·
    simp only[aab,Ok,bY,dl,cz,dS]
    rfl
   refine sH (i:=0) (N:=some 36) (v:= ?_) (a':= ?_) #[true,true,false,false,false,false] rfl rfl (by kernel_rfl) (fun _ _ _ h=>h) (Or.inl ⟨by rfl, ?_⟩) hHeld ?_ ?_;rotate_left
   ·
    intro w' s0
    go_simp
    with_reducible rfl
   rotate_left
   ·
    simp only[aab,Ok,bY,dl,cz,dS]
    rfl
   refine ga (i:=2) (N:=some 38) #[true,true,true,false,false,false] rfl rfl (by kernel_rfl) (by decide) (fun K hK=> ?_);refine il Try.func29 (by kernel_rfl) rfl #[.slice Ao33 t198.length co33] (by rfl) rfl rfl (by(try simp only[aag,aan,aas]);first|done|rfl|(simp only[gy,ao];rfl)) ?_
   with_reducible refine(bl.calls xx _ _ t198 Uc _ ?a8 ?a9 PU.out).mono ?_
   (case a8=>exact fB m5);(case a9=>exact(Kd.af m5.out).2.1);rintro e LH ⟨v206,rfl,ho0,hb⟩;refine⟨_,rfl, ?_⟩;have aa:=Ah (Kd.eO (rr kD.out) hb);have ab:=Ah (Kd.eO (rr m5.out) hb);have ac:=Ah (Kd.dD ho0 (be (bX HB jX kC CB)));have ae:=Ah (bb fq hb);have bK:=Ah (bb g6 hb);have bP:=Ah (bb ju hb);have ew:=Ah (aK (bX HB jX kC CB) hb);clear kD m5 fq g6 ju HB;have kD:=aa;have m5:=ab;have HO207:=ac;have fq:=ae;have g6:=bK;have ju:=bP;have HB:=ew;clear aa ab ac ae bK bP ew;(try clear hb);(try clear hb2);(try clear hk);(try clear hi);(try clear ho0);refine hK.out _ _ ((bC ju.out 0).trans rfl) (fun hHeld=> ?_);clear hK K;refine hU (a':= ?_) ?_ ?_;rotate_left
   ·
    show aab _ (some 38) _=_
    simp only[aab,Ok,bY,dl,cz,dS]
    rfl
   refine ga (i:=3) (N:=none) #[true,true,true,true,false,false] rfl rfl (by kernel_rfl) (by decide) (fun K hK=> ?_);have hs35:LH.cell? ⟨zD,0,none⟩=some (.slice none 0 0):=(bC g6.out 0).trans rfl;have hfs35:=ff g6.out 0;have hns35_0:=E5.out;have hns35_2:=GX.out;have hms35_0:=E6.out;have hms35_2:=E7.out;refine oG (w1:= ?_) (by rfl) rfl ?_ ?_;rotate_left
   ·
    go_simp
    rfl
   refine hK.out _ _ (((ex (p:=⟨zD,_,none⟩) GX.out _).trans (hHeld))) (fun hHeld=> ?_);clear hK K;refine Hx (i:=4) (N:=some 7) (v:= ?_) (a':= ?_) #[true,true,true,true,true,false] rfl rfl (by kernel_rfl) (fun _ _ _ h=>h) (Or.inl ⟨by rfl, ?_⟩) ?_ ?_;rotate_left
   ·
    intro w'
    go_simp
    with_reducible rfl
   rotate_left
   ·
    simp only[aab,Ok,bY,dl,cz,dS]
    rfl
   refine Hx (i:=5) (N:=some 8) (v:= ?_) (a':= ?_) #[true,true,true,true,true,true] rfl rfl (by kernel_rfl) (fun _ _ _ h=>h) (Or.inl ⟨by rfl, ?_⟩) ?_ ?_;rotate_left
   ·
    intro w'
    go_simp
    with_reducible rfl
   rotate_left
   ·
    simp only[aab,Ok,bY,dl,cz,dS]
    rfl
   refine i9 (by kernel_rfl) ?_
   try go_wp2
   refine bodyPost_ret (rj rfl _ _ zD 25 #[.slice tz sY.length sZ] (0,0) _ rfl (by(with_reducible repeat(first|refine aD ?_ _|refine Z ?_|refine aC ?_ _));refine aj (cs:= #[.slice none 0 0]) ?_ 0 _ rfl;(with_reducible repeat(first|refine aD ?_ _|refine Z ?_|refine aC ?_ _));exact g6.out) ua rfl (by kernel_rfl)) rfl ?_;exact⟨_,_,er,by(with_reducible repeat(first|apply Kd.bG|apply Kd.bE|apply Kd.al));exact Kd.aY (Kd.aQ (p:=⟨zD,0,none⟩) (Kd.cl kD.out g6.out (by decide)) (fun _ hk=>hk.2) (.slice tz sY.length sZ)) (fun _ hk=>trivial),by(with_reducible repeat(first|apply Kd.bG|apply Kd.bE|apply Kd.al));exact Kd.aY (Kd.aQ (p:=⟨zD,0,none⟩) (Kd.cl HO207.out g6.out (by decide)) (fun _ hk=>hk.2) (.slice tz sY.length sZ)) (fun _ hk=>trivial),bX HB jX kC CB⟩
def gW.l0:Nat→List (a7)→Int→Int→Int→Int→Bool→Option ((List (a7)))
 |0,_,_,_,_,_,_=>none
 |k+1,x0,x5,ME,Qt,Qu,Qv=>if x5<(x0.length:Int)then(if 0≤x5 then(if((I x0 x5).f0)<ME then(gW.l0 k x0 (LS (x5+1)) ME Qt Qu Qv)else(if x5≤(x0.length:Int)then((some (x0.take (x5:Int).toNat:List (a7))).bind fun sa=>(if([]:List (a7)).length+sa.length<4398046511104 then((some (([]:List (a7))++sa:List (a7))).bind fun rJ=>(if rJ.length<4398046511104 then((some (rJ++[(⟨ME,Qt,Qu,Qv⟩:a7)]:List (a7))).bind fun mZ=>((some (x0.drop (x5:Int).toNat:List (a7))).bind fun hX=>(if mZ.length+hX.length<4398046511104 then(some (mZ++hX))else(none))))else(none)))else(none)))else(none)))else(none))else(if 0≤x5 then(if x5≤(x0.length:Int)then((some (x0.take (x5:Int).toNat:List (a7))).bind fun sb=>(if([]:List (a7)).length+sb.length<4398046511104 then((some (([]:List (a7))++sb:List (a7))).bind fun rK=>(if rK.length<4398046511104 then((some (rK++[(⟨ME,Qt,Qu,Qv⟩:a7)]:List (a7))).bind fun ma=>((some (x0.drop (x5:Int).toNat:List (a7))).bind fun hY=>(if ma.length+hY.length<4398046511104 then(some (ma++hY))else(none))))else(none)))else(none)))else(none))else(none))
def gW.f(k:Nat)(l0:List (a7))(cU:Int)(d7:Int)(cM:Int)(dE:Bool):Option ((List (a7))):=gW.l0 k l0 0 cU d7 cM dE
theorem gW.dL:∀k,(∀y0 y1 y2 y3 y4 y5,aG (gW.l0 k y0 y1 y2 y3 y4 y5) (gW.l0 (k+1) y0 y1 y2 y3 y4 y5))
 |0=>fun _ _ _ _ _ _ r h=>by simp[gW.l0]at h
 |k+1=>by
  have bw:=gW.dL k
  ·
   intro y0 y1 y2 y3 y4 y5;unfold gW.l0
   repeat' with_reducible first|exact bw _ _ _ _ _ _|exact aG.refl _|exact aG.none _|refine aG.ite ?_ ?_|refine aG.bind ?_ (fun _=> ?_)
theorem gW.mono:∀a0 a1 a2 a3 a4 k,aG (gW.f k a0 a1 a2 a3 a4) (gW.f (k+1) a0 a1 a2 a3 a4):=by
 intro a0 a1 a2 a3 a4 k;have bw:=gW.dL k;unfold gW.f
 repeat' with_reducible first|exact bw _ _ _ _ _ _|exact aG.refl _|exact aG.none _|refine aG.ite ?_ ?_|refine aG.bind ?_ (fun _=> ?_)
set_option maxHeartbeats 8000000 in
set_option maxRecDepth 100000 in
theorem gW.calls(k:Nat)(A0:Option Addr)(c0:Nat)(l0:List (a7))(cU:Int)(d7:Int)(cM:Int)(dE:Bool)(r:List (a7))(w:World)(hr0:Kd.C b7 w A0 l0.length l0)(hc0:l0.length≤c0)(h:gW.f k l0 cU d7 cM dE=some r):
 Calls aad 35 #[.slice A0 l0.length c0,.agg #[.int .i64 cU,.int .i64 d7,.int .i64 cM,.bool dE]] w fun e w'=>∃da:Value,e= .returned (da)∧Kd.R b7 65 w' w.heap.size (fun _=>True) da r∧Below w.heap.size w w':=by
 have mA:=aay;have gV:=Ah hr0;have lG:=Ah hc0;clear hr0 hc0;have HB:=Ah (aaa w.heap.size w);have H:(gW.l0 k l0 0 cU d7 cM dE)=some r:=h;clear h;have H':=Ah H;clear H
 go_enter Try.func35,Try.ntmps35
 go_wp2_with (first|((with_reducible refine ax (N:=3) rfl ?_);refine bA 3 65 #[.int .i64 cU,.int .i64 d7,.int .i64 cM,.bool dE] ?_;intro jQ hg w3 dG hb;have a1o:=gw hg (bs HB);have ft:=gw hg (bs HB);replace HB:=Ah (aK (bs HB) hb);clear hb hg))
 repeat(go_quiet (first|((with_reducible refine ax (N:=3) rfl ?_);refine bA 3 65 #[.int .i64 cU,.int .i64 d7,.int .i64 cM,.bool dE] ?_;intro jQ hg w3 dG hb;have a1o:=gw hg (bs HB);have ft:=gw hg (bs HB);replace HB:=Ah (aK (bs HB) hb);clear hb hg));try go_wp2_with (first|((with_reducible refine ax (N:=3) rfl ?_);refine bA 3 65 #[.int .i64 cU,.int .i64 d7,.int .i64 cM,.bool dE] ?_;intro jQ hg w3 dG hb;have a1o:=gw hg (bs HB);have ft:=gw hg (bs HB);replace HB:=Ah (aK (bs HB) hb);clear hb hg)))
 go_loopg [5] k (fun kq v5 w'=>∃ (aA:Int),v5= .int .i64 aA∧U (gW.l0 kq l0 aA cU d7 cM dE=some r)∧U (kq≤k)∧U (w'.heap[jQ]?=some (.cells #[.int .i64 cU,.int .i64 d7,.int .i64 cM,.bool dE] 65 (0,0)))∧U (Below w.heap.size w w'))
 case atStart=>exact⟨(0),e3,H',⟨bx _⟩,⟨bk dG⟩,⟨aH HB ft⟩⟩
 case round=>
  clear H'
  try clear p2
  try clear c3
  obtain⟨aA,rfl,HA,bU,dG,HB⟩:=hrel
  cases gk with
  |zero=>exact absurd HA.out (by simp[gW.l0])
  |succ k1=>
   have H:=HA.out;clear HA;simp only[gW.l0]at H
   by_cases c4:aA<(l0.length:Int)
   rotate_left
   ·
    rw[if_neg c4]at H;have jb:decide (aA<(l0.length:Int))=false:=decide_eq_false c4;clear c4
    by_cases ks:0≤aA
    rotate_left
    ·
     rw[if_neg ks]at H;exact absurd H (by simp)
    rw[if_pos ks]at H;have c22b0:=eq_true ks;have c22b1:decide (0≤aA)=true:=decide_eq_true ks;clear ks
    by_cases c23:aA≤(l0.length:Int)
    rotate_left
    ·
     rw[if_neg c23]at H;exact absurd H (by simp)
    rw[if_pos c23]at H;have Sa:=eq_true c23;have c23b1:decide (aA≤(l0.length:Int))=true:=decide_eq_true c23;clear c23;obtain⟨sb,I4⟩:∃y_:List (a7),y_=(l0.take (aA:Int).toNat):=⟨_,rfl⟩
    replace H:(if([]:List (a7)).length+sb.length<4398046511104 then((some (([]:List (a7))++sb:List (a7))).bind fun rK=>(if rK.length<4398046511104 then((some (rK++[(⟨cU,d7,cM,dE⟩:a7)]:List (a7))).bind fun ma=>((some (l0.drop (aA:Int).toNat:List (a7))).bind fun hY=>(if ma.length+hY.length<4398046511104 then(some (ma++hY))else(none))))else(none)))else(none))=some r:=by first|(rw[I4];with_reducible exact H)|(have aX:=(Option.bind_some _ _).symm.trans H;rw[I4];with_reducible exact aX)|(have aX:=(Option.bind_some _ _).symm.trans H;with_reducible exact aX)|with_reducible exact H|(rw[I4];exact H)|exact H
    have a1p:=Ah I4;clear I4
    by_cases c24:([]:List (a7)).length+sb.length<4398046511104
    rotate_left
    ·
     rw[if_neg c24]at H;exact absurd H (by simp)
    rw[if_pos c24]at H;have Sb:=Ah c24;clear c24;obtain⟨rK,I5⟩:∃y_:List (a7),y_=(([]:List (a7))++sb):=⟨_,rfl⟩
    replace H:(if rK.length<4398046511104 then((some (rK++[(⟨cU,d7,cM,dE⟩:a7)]:List (a7))).bind fun ma=>((some (l0.drop (aA:Int).toNat:List (a7))).bind fun hY=>(if ma.length+hY.length<4398046511104 then(some (ma++hY))else(none))))else(none))=some r:=by first|(rw[I5];with_reducible exact H)|(have aX:=(Option.bind_some _ _).symm.trans H;rw[I5];with_reducible exact aX)|(have aX:=(Option.bind_some _ _).symm.trans H;with_reducible exact aX)|with_reducible exact H|(rw[I5];exact H)|exact H
    have Sc:=Ah I5;clear I5
    by_cases ix:rK.length<4398046511104
    rotate_left
    ·
     rw[if_neg ix]at H;exact absurd H (by simp)
    rw[if_pos ix]at H;have Sd:=Ah ix;clear ix;obtain⟨ma,I6⟩:∃y_:List (a7),y_=(rK++[(⟨cU,d7,cM,dE⟩:a7)]):=⟨_,rfl⟩
    replace H:((some (l0.drop (aA:Int).toNat:List (a7))).bind fun hY=>(if ma.length+hY.length<4398046511104 then(some (ma++hY))else(none)))=some r:=by first|(rw[I6];with_reducible exact H)|(have aX:=(Option.bind_some _ _).symm.trans H;rw[I6];with_reducible exact aX)|(have aX:=(Option.bind_some _ _).symm.trans H;with_reducible exact aX)|with_reducible exact H|(rw[I6];exact H)|exact H
    have Se:=Ah I6;clear I6;have Sf:=eq_true (od:0≤aA);have c27b0:=eq_true (od:aA≤(l0.length:Int));obtain⟨hY,I7⟩:∃y_:List (a7),y_=(l0.drop (aA:Int).toNat):=⟨_,rfl⟩
    replace H:(if ma.length+hY.length<4398046511104 then(some (ma++hY))else(none))=some r:=by first|(rw[I7];with_reducible exact H)|(have aX:=(Mq _ _).symm.trans H;rw[I7];with_reducible exact aX)|(have aX:=(Mq _ _).symm.trans H;with_reducible exact aX)|with_reducible exact H|(rw[I7];exact H)|exact H
    have F0:=Ah I7;clear I7
    by_cases c28:ma.length+hY.length<4398046511104
    rotate_left
    ·
     rw[if_neg c28]at H;exact absurd H (by simp)
    rw[if_pos c28]at H;have Sg:=Ah c28;clear c28;obtain⟨y241,I8⟩:∃y_:List (a7),y_=(ma++hY):=⟨_,rfl⟩
    replace H:(some y241)=some r:=by first|(rw[I8];with_reducible exact H)|(have aX:=(Mq _ _).symm.trans H;rw[I8];with_reducible exact aX)|(have aX:=(Mq _ _).symm.trans H;with_reducible exact aX)|with_reducible exact H|(rw[I8];exact H)|exact H
    have Sh:=Ah I8;clear I8;obtain rfl:=iz H;have om:(aA:Int)≤((l0.length:Int):Int):=od;obtain⟨a4v,zG,_,F1,_⟩:=info_parts gF;have wT:l0.length≤c0:=lG.out;have zk:Kd.C b7 _ A0 l0.length l0:=gV.out;have Hg:=Ed (P:=aad) 23 65 .i64 aac zG A0 l0.length c0 aA (od) om wT;have rL:=Kd.qm (m:=(aA:Int).toNat) zk (by omega);have hy29:sb.length=(aA:Int).toNat:=(by rw[a1p.out,ao];omega);rw[←a1p.out]at rL;rw[←hy29]at Hg;have Si:=Ah rL;have HC230:=Ah (show sb.length≤c0 from by omega);clear rL zk wT zG F1;have a4w:=Ah hy29;clear hy29;replace om:=eq_true om
    go_wp2_with (first|((with_reducible refine eS (b:= .append) (xs:= #[.tmp 23,.tmp 26]) rfl ?_);at_builtin;refine Kd.nN b7 (w0:=w) w.heap.size rfl (.tmp 23) (.tmp 26) 23 65 (.agg #[(.int .i64 0),(.int .i64 0),(.int .i64 0),(.bool false)]) 32 rfl aac gF rfl (by decide) (by omega) (.slice none 0 0) ([]:List (a7)) sb _ _ _ (fun k_=>k_≠jQ) (fun _=>False) rfl rfl ?aO ?aR (fun _ _ h=>h) (fun _ h=>h.elim) ?aF ?aB ?aS ?aL ?_;(case aR=>exact cb Si HB);(case aB=>exact(aH HB ft));(case aF=>exact(fun k_ hk=>Kd.gE (bk dG) k_ hk));(case aO=>exact((Kd.fk _ _ _ _ (fun k_=>k_≠jQ))));(case aS=>exact(be (aH HB ft)));(case aL=>have:=Sb.out;omega);intro v232 rb ho hb hg hat;rw[←Sc.out]at ho;replace dG:=Ah (cX (bk dG) hg (by simp[aae]));replace HB:=Ah (hb);have tR:=Ah (ho);clear ho hb hg hat;obtain⟨H9,Qw,Qx,Qy⟩:=cA dG;obtain⟨HC,Qz,R0,R1⟩:=cB dG)|((with_reducible refine eS (b:= .append) (xs:= #[.tmp 28,.tmp 30]) rfl ?_);at_builtin;refine Kd.gX b7 (w0:=w) w.heap.size rfl (.tmp 28) (.tmp 30) 23 65 (.agg #[(.int .i64 0),(.int .i64 0),(.int .i64 0),(.bool false)]) 32 rfl aac gF rfl (by decide) (by omega) v232 rK (⟨cU,d7,cM,dE⟩:a7) [.int .i64 cU,.int .i64 d7,.int .i64 cM,.bool dE] (fun k_=>k_≠jQ) (fun _=>False) rfl rfl ?aP (fun _ hk=>hk.elim) ?aF ?aO ?aB ?aS ?aL ?_;(case aP=>exact jp _ _ _ (⟨cU,d7,cM,dE⟩:a7));(case aB=>exact(aH HB ft));(case aF=>exact(fun k_ hk=>Kd.gE (bk dG) k_ hk));(case aO=>exact(rr tR.out));(case aS=>exact(be (aH HB ft)));(case aL=>have:=Sd.out;omega);intro Jx w32 ho hb hg hat;rw[←Se.out]at ho;replace dG:=Ah (cX (bk dG) hg (Kd.bF tR.out (fun _ hk=>hk)));replace HB:=Ah (hb);have tS:=Ah (ho);clear tR;clear ho hb hg hat;have uY:(aA:Int)≤((l0.length:Int):Int):=od;obtain⟨a4x,zH,_,zI,_⟩:=info_parts gF;have tB:l0.length≤c0:=lG.out;have zl:Kd.C b7 _ A0 l0.length l0:=gV.out;have Jy:(0:Int)≤(aA:Int):=od;have Hh:=wC (P:=aad) 23 65 .i64 aac zH 4 zI A0 l0.length c0 aA Jy uY;have nB:=Kd.sD (m:=(aA:Int).toNat) (c:=c0) zl (by omega) tB;obtain⟨LI,pq⟩:∃A1,A1=(if c0=(aA:Int).toNat then A0 else(A0:Option Addr).map (·.add ((aA:Int).toNat*4))):=⟨_,rfl⟩;obtain⟨jd,u0⟩:∃c1,c1=c0-(aA:Int).toNat:=⟨_,rfl⟩;have pt:hY.length=l0.length-(aA:Int).toNat:=(by rw[F0.out,gy]<;>omega);rw[show(l0).drop (aA:Int).toNat=hY from F0.out.symm]at nB;replace nB:Kd.C b7 _ LI hY.length hY:=(by rw[pq];exact nB);rw[←pt,←pq,←u0]at Hh;have I9:=Ah nB;have a1q:=Ah (show hY.length≤jd from by rw[pt,u0];exact aaR tB _);clear nB zl tB zH zI u0;have a4y:=Ah pt;have a4z:=Ah pq;clear pt pq;replace uY:=eq_true uY)|((with_reducible refine eS (b:= .append) (xs:= #[.tmp 32,.tmp 35]) rfl ?_);at_builtin;refine Kd.nN b7 (w0:=w) w.heap.size rfl (.tmp 32) (.tmp 35) 23 65 (.agg #[(.int .i64 0),(.int .i64 0),(.int .i64 0),(.bool false)]) 32 rfl aac gF rfl (by decide) (by omega) Jx ma hY _ _ _ (fun k_=>k_≠jQ) (fun _=>False) rfl rfl ?aO ?aR (fun _ _ h=>h) (fun _ h=>h.elim) ?aF ?aB ?aS ?aL ?_;(case aR=>exact cb I9 HB);(case aB=>exact(aH HB ft));(case aF=>exact(fun k_ hk=>Kd.gE (bk dG) k_ hk));(case aO=>exact(rr tS.out));(case aS=>exact(be (aH HB ft)));(case aL=>have:=Sg.out;omega);intro a4A LH ho hb hg hat;rw[←Sh.out]at ho;replace dG:=Ah (cX (bk dG) hg (Kd.bF tS.out (fun _ hk=>hk)));replace HB:=Ah (hb);have Sj:=Ah (ho);clear tS;clear ho hb hg hat))
    repeat(go_quiet (first|((with_reducible refine eS (b:= .append) (xs:= #[.tmp 23,.tmp 26]) rfl ?_);at_builtin;refine Kd.nN b7 (w0:=w) w.heap.size rfl (.tmp 23) (.tmp 26) 23 65 (.agg #[(.int .i64 0),(.int .i64 0),(.int .i64 0),(.bool false)]) 32 rfl aac gF rfl (by decide) (by omega) (.slice none 0 0) ([]:List (a7)) sb _ _ _ (fun k_=>k_≠jQ) (fun _=>False) rfl rfl ?aO ?aR (fun _ _ h=>h) (fun _ h=>h.elim) ?aF ?aB ?aS ?aL ?_;(case aR=>exact cb Si HB);(case aB=>exact(aH HB ft));(case aF=>exact(fun k_ hk=>Kd.gE (bk dG) k_ hk));(case aO=>exact((Kd.fk _ _ _ _ (fun k_=>k_≠jQ))));(case aS=>exact(be (aH HB ft)));(case aL=>have:=Sb.out;omega);intro v232 rb ho hb hg hat;rw[←Sc.out]at ho;replace dG:=Ah (cX (bk dG) hg (by simp[aae]));replace HB:=Ah (hb);have tR:=Ah (ho);clear ho hb hg hat;obtain⟨H9,Qw,Qx,Qy⟩:=cA dG;obtain⟨HC,Qz,R0,R1⟩:=cB dG)|((with_reducible refine eS (b:= .append) (xs:= #[.tmp 28,.tmp 30]) rfl ?_);at_builtin;refine Kd.gX b7 (w0:=w) w.heap.size rfl (.tmp 28) (.tmp 30) 23 65 (.agg #[(.int .i64 0),(.int .i64 0),(.int .i64 0),(.bool false)]) 32 rfl aac gF rfl (by decide) (by omega) v232 rK (⟨cU,d7,cM,dE⟩:a7) [.int .i64 cU,.int .i64 d7,.int .i64 cM,.bool dE] (fun k_=>k_≠jQ) (fun _=>False) rfl rfl ?aP (fun _ hk=>hk.elim) ?aF ?aO ?aB ?aS ?aL ?_;(case aP=>exact jp _ _ _ (⟨cU,d7,cM,dE⟩:a7));(case aB=>exact(aH HB ft));(case aF=>exact(fun k_ hk=>Kd.gE (bk dG) k_ hk));(case aO=>exact(rr tR.out));(case aS=>exact(be (aH HB ft)));(case aL=>have:=Sd.out;omega);intro Jx w32 ho hb hg hat;rw[←Se.out]at ho;replace dG:=Ah (cX (bk dG) hg (Kd.bF tR.out (fun _ hk=>hk)));replace HB:=Ah (hb);have tS:=Ah (ho);clear tR;clear ho hb hg hat;have uY:(aA:Int)≤((l0.length:Int):Int):=od;obtain⟨a4x,zH,_,zI,_⟩:=info_parts gF;have tB:l0.length≤c0:=lG.out;have zl:Kd.C b7 _ A0 l0.length l0:=gV.out;have Jy:(0:Int)≤(aA:Int):=od;have Hh:=wC (P:=aad) 23 65 .i64 aac zH 4 zI A0 l0.length c0 aA Jy uY;have nB:=Kd.sD (m:=(aA:Int).toNat) (c:=c0) zl (by omega) tB;obtain⟨LI,pq⟩:∃A1,A1=(if c0=(aA:Int).toNat then A0 else(A0:Option Addr).map (·.add ((aA:Int).toNat*4))):=⟨_,rfl⟩;obtain⟨jd,u0⟩:∃c1,c1=c0-(aA:Int).toNat:=⟨_,rfl⟩;have pt:hY.length=l0.length-(aA:Int).toNat:=(by rw[F0.out,gy]<;>omega);rw[show(l0).drop (aA:Int).toNat=hY from F0.out.symm]at nB;replace nB:Kd.C b7 _ LI hY.length hY:=(by rw[pq];exact nB);rw[←pt,←pq,←u0]at Hh;have I9:=Ah nB;have a1q:=Ah (show hY.length≤jd from by rw[pt,u0];exact aaR tB _);clear nB zl tB zH zI u0;have a4y:=Ah pt;have a4z:=Ah pq;clear pt pq;replace uY:=eq_true uY)|((with_reducible refine eS (b:= .append) (xs:= #[.tmp 32,.tmp 35]) rfl ?_);at_builtin;refine Kd.nN b7 (w0:=w) w.heap.size rfl (.tmp 32) (.tmp 35) 23 65 (.agg #[(.int .i64 0),(.int .i64 0),(.int .i64 0),(.bool false)]) 32 rfl aac gF rfl (by decide) (by omega) Jx ma hY _ _ _ (fun k_=>k_≠jQ) (fun _=>False) rfl rfl ?aO ?aR (fun _ _ h=>h) (fun _ h=>h.elim) ?aF ?aB ?aS ?aL ?_;(case aR=>exact cb I9 HB);(case aB=>exact(aH HB ft));(case aF=>exact(fun k_ hk=>Kd.gE (bk dG) k_ hk));(case aO=>exact(rr tS.out));(case aS=>exact(be (aH HB ft)));(case aL=>have:=Sg.out;omega);intro a4A LH ho hb hg hat;rw[←Sh.out]at ho;replace dG:=Ah (cX (bk dG) hg (Kd.bF tS.out (fun _ hk=>hk)));replace HB:=Ah (hb);have Sj:=Ah (ho);clear tS;clear ho hb hg hat));try go_wp2_with (first|((with_reducible refine eS (b:= .append) (xs:= #[.tmp 23,.tmp 26]) rfl ?_);at_builtin;refine Kd.nN b7 (w0:=w) w.heap.size rfl (.tmp 23) (.tmp 26) 23 65 (.agg #[(.int .i64 0),(.int .i64 0),(.int .i64 0),(.bool false)]) 32 rfl aac gF rfl (by decide) (by omega) (.slice none 0 0) ([]:List (a7)) sb _ _ _ (fun k_=>k_≠jQ) (fun _=>False) rfl rfl ?aO ?aR (fun _ _ h=>h) (fun _ h=>h.elim) ?aF ?aB ?aS ?aL ?_;(case aR=>exact cb Si HB);(case aB=>exact(aH HB ft));(case aF=>exact(fun k_ hk=>Kd.gE (bk dG) k_ hk));(case aO=>exact((Kd.fk _ _ _ _ (fun k_=>k_≠jQ))));(case aS=>exact(be (aH HB ft)));(case aL=>have:=Sb.out;omega);intro v232 rb ho hb hg hat;rw[←Sc.out]at ho;replace dG:=Ah (cX (bk dG) hg (by simp[aae]));replace HB:=Ah (hb);have tR:=Ah (ho);clear ho hb hg hat;obtain⟨H9,Qw,Qx,Qy⟩:=cA dG;obtain⟨HC,Qz,R0,R1⟩:=cB dG)|((with_reducible refine eS (b:= .append) (xs:= #[.tmp 28,.tmp 30]) rfl ?_);at_builtin;refine Kd.gX b7 (w0:=w) w.heap.size rfl (.tmp 28) (.tmp 30) 23 65 (.agg #[(.int .i64 0),(.int .i64 0),(.int .i64 0),(.bool false)]) 32 rfl aac gF rfl (by decide) (by omega) v232 rK (⟨cU,d7,cM,dE⟩:a7) [.int .i64 cU,.int .i64 d7,.int .i64 cM,.bool dE] (fun k_=>k_≠jQ) (fun _=>False) rfl rfl ?aP (fun _ hk=>hk.elim) ?aF ?aO ?aB ?aS ?aL ?_;(case aP=>exact jp _ _ _ (⟨cU,d7,cM,dE⟩:a7));(case aB=>exact(aH HB ft));(case aF=>exact(fun k_ hk=>Kd.gE (bk dG) k_ hk));(case aO=>exact(rr tR.out));(case aS=>exact(be (aH HB ft)));(case aL=>have:=Sd.out;omega);intro Jx w32 ho hb hg hat;rw[←Se.out]at ho;replace dG:=Ah (cX (bk dG) hg (Kd.bF tR.out (fun _ hk=>hk)));replace HB:=Ah (hb);have tS:=Ah (ho);clear tR;clear ho hb hg hat;have uY:(aA:Int)≤((l0.length:Int):Int):=od;obtain⟨a4x,zH,_,zI,_⟩:=info_parts gF;have tB:l0.length≤c0:=lG.out;have zl:Kd.C b7 _ A0 l0.length l0:=gV.out;have Jy:(0:Int)≤(aA:Int):=od;have Hh:=wC (P:=aad) 23 65 .i64 aac zH 4 zI A0 l0.length c0 aA Jy uY;have nB:=Kd.sD (m:=(aA:Int).toNat) (c:=c0) zl (by omega) tB;obtain⟨LI,pq⟩:∃A1,A1=(if c0=(aA:Int).toNat then A0 else(A0:Option Addr).map (·.add ((aA:Int).toNat*4))):=⟨_,rfl⟩;obtain⟨jd,u0⟩:∃c1,c1=c0-(aA:Int).toNat:=⟨_,rfl⟩;have pt:hY.length=l0.length-(aA:Int).toNat:=(by rw[F0.out,gy]<;>omega);rw[show(l0).drop (aA:Int).toNat=hY from F0.out.symm]at nB;replace nB:Kd.C b7 _ LI hY.length hY:=(by rw[pq];exact nB);rw[←pt,←pq,←u0]at Hh;have I9:=Ah nB;have a1q:=Ah (show hY.length≤jd from by rw[pt,u0];exact aaR tB _);clear nB zl tB zH zI u0;have a4y:=Ah pt;have a4z:=Ah pq;clear pt pq;replace uY:=eq_true uY)|((with_reducible refine eS (b:= .append) (xs:= #[.tmp 32,.tmp 35]) rfl ?_);at_builtin;refine Kd.nN b7 (w0:=w) w.heap.size rfl (.tmp 32) (.tmp 35) 23 65 (.agg #[(.int .i64 0),(.int .i64 0),(.int .i64 0),(.bool false)]) 32 rfl aac gF rfl (by decide) (by omega) Jx ma hY _ _ _ (fun k_=>k_≠jQ) (fun _=>False) rfl rfl ?aO ?aR (fun _ _ h=>h) (fun _ h=>h.elim) ?aF ?aB ?aS ?aL ?_;(case aR=>exact cb I9 HB);(case aB=>exact(aH HB ft));(case aF=>exact(fun k_ hk=>Kd.gE (bk dG) k_ hk));(case aO=>exact(rr tS.out));(case aS=>exact(be (aH HB ft)));(case aL=>have:=Sg.out;omega);intro a4A LH ho hb hg hat;rw[←Sh.out]at ho;replace dG:=Ah (cX (bk dG) hg (Kd.bF tS.out (fun _ hk=>hk)));replace HB:=Ah (hb);have Sj:=Ah (ho);clear tS;clear ho hb hg hat)))
    go_ret
    exact⟨_,er,by(with_reducible repeat(first|apply Kd.bG|apply Kd.bE|apply Kd.al));exact Kd.aY Sj.out (fun _ hk=>trivial),aH HB ft⟩
   rw[if_pos c4]at H;have jb:decide (aA<(l0.length:Int))=true:=decide_eq_true c4;clear c4
   by_cases c5:0≤aA
   rotate_left
   ·
    rw[if_neg c5]at H;exact absurd H (by simp)
   rw[if_pos c5]at H;have oP:decide (0≤aA)=true:=decide_eq_true c5;clear c5
   by_cases c6:((I l0 aA).f0)<cU
   ·
    rw[if_pos c6]at H;have rM:decide (((I l0 aA).f0)<cU)=true:=decide_eq_true c6;clear c6;have H':=Ah H;clear H;have Cm:0≤(aA:Int):=od;have Cn:aA<(l0.length:Int):=od;obtain⟨oH,e209,Aq,Ar,As,At⟩:=f6 gV.out aA Cm Cn
    cases e209
    replace Aq:=(HB.out.cell (LA w _ Aq)).trans Aq;replace Ar:=(HB.out.cell (LA w _ Ar)).trans Ar;replace As:=(HB.out.cell (LA w _ As)).trans As;replace At:=(HB.out.cell (LA w _ At)).trans At;replace Cm:=eq_true Cm;replace Cn:=eq_true Cn;obtain⟨qp,hcz7_1,hcz7_2,hcz7_3⟩:=cA dG;obtain⟨qq,hfz7_1,hfz7_2,hfz7_3⟩:=cB dG
    go_wp2
    repeat(go_quiet (fail);try go_wp2)
    go_roundg k1
    case measure=>have:=bU.out;omega
    case rel=>exact⟨(LS (aA+1)),e3,H',⟨by have:=bU.out;omega⟩,⟨bk dG⟩,⟨aH HB ft⟩⟩
   rw[if_neg c6]at H;have rM:decide (((I l0 aA).f0)<cU)=false:=decide_eq_false c6;clear c6;have nC:=eq_true (od:0≤aA)
   by_cases c9:aA≤(l0.length:Int)
   rotate_left
   ·
    rw[if_neg c9]at H;exact absurd H (by simp)
   rw[if_pos c9]at H;have u1:=eq_true c9;have c9b1:decide (aA≤(l0.length:Int))=true:=decide_eq_true c9;clear c9;obtain⟨sa,IA⟩:∃y_:List (a7),y_=(l0.take (aA:Int).toNat):=⟨_,rfl⟩
   replace H:(if([]:List (a7)).length+sa.length<4398046511104 then((some (([]:List (a7))++sa:List (a7))).bind fun rJ=>(if rJ.length<4398046511104 then((some (rJ++[(⟨cU,d7,cM,dE⟩:a7)]:List (a7))).bind fun mZ=>((some (l0.drop (aA:Int).toNat:List (a7))).bind fun hX=>(if mZ.length+hX.length<4398046511104 then(some (mZ++hX))else(none))))else(none)))else(none))=some r:=by first|(rw[IA];with_reducible exact H)|(have aX:=(Option.bind_some _ _).symm.trans H;rw[IA];with_reducible exact aX)|(have aX:=(Option.bind_some _ _).symm.trans H;with_reducible exact aX)|with_reducible exact H|(rw[IA];exact H)|exact H
   have a1r:=Ah IA;clear IA
   by_cases c10:([]:List (a7)).length+sa.length<4398046511104
   rotate_left
   ·
    rw[if_neg c10]at H;exact absurd H (by simp)
   rw[if_pos c10]at H;have Sk:=Ah c10;clear c10;obtain⟨rJ,IB⟩:∃y_:List (a7),y_=(([]:List (a7))++sa):=⟨_,rfl⟩
   replace H:(if rJ.length<4398046511104 then((some (rJ++[(⟨cU,d7,cM,dE⟩:a7)]:List (a7))).bind fun mZ=>((some (l0.drop (aA:Int).toNat:List (a7))).bind fun hX=>(if mZ.length+hX.length<4398046511104 then(some (mZ++hX))else(none))))else(none))=some r:=by first|(rw[IB];with_reducible exact H)|(have aX:=(Option.bind_some _ _).symm.trans H;rw[IB];with_reducible exact aX)|(have aX:=(Option.bind_some _ _).symm.trans H;with_reducible exact aX)|with_reducible exact H|(rw[IB];exact H)|exact H
   have Sl:=Ah IB;clear IB
   by_cases c11:rJ.length<4398046511104
   rotate_left
   ·
    rw[if_neg c11]at H;exact absurd H (by simp)
   rw[if_pos c11]at H;have Sm:=Ah c11;clear c11;obtain⟨mZ,IC⟩:∃y_:List (a7),y_=(rJ++[(⟨cU,d7,cM,dE⟩:a7)]):=⟨_,rfl⟩
   replace H:((some (l0.drop (aA:Int).toNat:List (a7))).bind fun hX=>(if mZ.length+hX.length<4398046511104 then(some (mZ++hX))else(none)))=some r:=by first|(rw[IC];with_reducible exact H)|(have aX:=(Option.bind_some _ _).symm.trans H;rw[IC];with_reducible exact aX)|(have aX:=(Option.bind_some _ _).symm.trans H;with_reducible exact aX)|with_reducible exact H|(rw[IC];exact H)|exact H
   have Sn:=Ah IC;clear IC;have jR:=eq_true (od:0≤aA);have ww:=eq_true (od:aA≤(l0.length:Int));obtain⟨hX,ID⟩:∃y_:List (a7),y_=(l0.drop (aA:Int).toNat):=⟨_,rfl⟩
   replace H:(if mZ.length+hX.length<4398046511104 then(some (mZ++hX))else(none))=some r:=by first|(rw[ID];with_reducible exact H)|(have aX:=(Mq _ _).symm.trans H;rw[ID];with_reducible exact aX)|(have aX:=(Mq _ _).symm.trans H;with_reducible exact aX)|with_reducible exact H|(rw[ID];exact H)|exact H
   have F2:=Ah ID;clear ID
   by_cases c14:mZ.length+hX.length<4398046511104
   rotate_left
   ·
    rw[if_neg c14]at H;exact absurd H (by simp)
   rw[if_pos c14]at H;have IE:=Ah c14;clear c14;obtain⟨y224,IF⟩:∃y_:List (a7),y_=(mZ++hX):=⟨_,rfl⟩
   replace H:(some y224)=some r:=by first|(rw[IF];with_reducible exact H)|(have aX:=(Mq _ _).symm.trans H;rw[IF];with_reducible exact aX)|(have aX:=(Mq _ _).symm.trans H;with_reducible exact aX)|with_reducible exact H|(rw[IF];exact H)|exact H
   have So:=Ah IF;clear IF;obtain rfl:=iz H;have Cm:0≤(aA:Int):=od;have Cn:aA<(l0.length:Int):=od;obtain⟨oH,e209,Aq,Ar,As,At⟩:=f6 gV.out aA Cm Cn
   cases e209
   replace Aq:=(HB.out.cell (LA w _ Aq)).trans Aq;replace Ar:=(HB.out.cell (LA w _ Ar)).trans Ar;replace As:=(HB.out.cell (LA w _ As)).trans As;replace At:=(HB.out.cell (LA w _ At)).trans At;replace Cm:=eq_true Cm;replace Cn:=eq_true Cn;obtain⟨wU,Au,Av,Aw⟩:=cA dG;obtain⟨wV,Ax,Ay,Az⟩:=cB dG;have q16:(aA:Int)≤((l0.length:Int):Int):=od;obtain⟨i016,a1s,_,hsz16,_⟩:=info_parts gF;have Z2:l0.length≤c0:=lG.out;have a4B:Kd.C b7 _ (some oH) l0.length l0:=gV.out;have hcut16:=Ed (P:=aad) 23 65 .i64 aac a1s (some oH) l0.length c0 aA (od) q16 Z2;have Ud:=Kd.qm (m:=(aA:Int).toNat) a4B (by omega);have Ue:sa.length=(aA:Int).toNat:=(by rw[a1r.out,ao];omega);rw[←a1r.out]at Ud;rw[←Ue]at hcut16;have Sp:=Ah Ud;have HC213:=Ah (show sa.length≤c0 from by omega);clear Ud a4B Z2 a1s hsz16;have KY16:=Ah Ue;clear Ue;replace q16:=eq_true q16
   go_wp2_with (first|((with_reducible refine eS (b:= .append) (xs:= #[.tmp 23,.tmp 26]) rfl ?_);at_builtin;refine Kd.nN b7 (w0:=w) w.heap.size rfl (.tmp 23) (.tmp 26) 23 65 (.agg #[(.int .i64 0),(.int .i64 0),(.int .i64 0),(.bool false)]) 32 rfl aac gF rfl (by decide) (by omega) (.slice none 0 0) ([]:List (a7)) sa _ _ _ (fun k_=>k_≠jQ) (fun _=>False) rfl rfl ?aO ?aR (fun _ _ h=>h) (fun _ h=>h.elim) ?aF ?aB ?aS ?aL ?_;(case aR=>exact cb Sp HB);(case aB=>exact(aH HB ft));(case aF=>exact(fun k_ hk=>Kd.gE (bk dG) k_ hk));(case aO=>exact((Kd.fk _ _ _ _ (fun k_=>k_≠jQ))));(case aS=>exact(be (aH HB ft)));(case aL=>have:=Sk.out;omega);intro Jz xz ho hb hg hat;rw[←Sl.out]at ho;replace dG:=Ah (cX (bk dG) hg (by simp[aae]));replace HB:=Ah (hb);have tT:=Ah (ho);clear ho hb hg hat;obtain⟨sA,EO,EP,HD⟩:=cA dG;obtain⟨sB,EQ,ER,HE⟩:=cB dG)|((with_reducible refine eS (b:= .append) (xs:= #[.tmp 28,.tmp 30]) rfl ?_);at_builtin;refine Kd.gX b7 (w0:=w) w.heap.size rfl (.tmp 28) (.tmp 30) 23 65 (.agg #[(.int .i64 0),(.int .i64 0),(.int .i64 0),(.bool false)]) 32 rfl aac gF rfl (by decide) (by omega) Jz rJ (⟨cU,d7,cM,dE⟩:a7) [.int .i64 cU,.int .i64 d7,.int .i64 cM,.bool dE] (fun k_=>k_≠jQ) (fun _=>False) rfl rfl ?aP (fun _ hk=>hk.elim) ?aF ?aO ?aB ?aS ?aL ?_;(case aP=>exact jp _ _ _ (⟨cU,d7,cM,dE⟩:a7));(case aB=>exact(aH HB ft));(case aF=>exact(fun k_ hk=>Kd.gE (bk dG) k_ hk));(case aO=>exact(rr tT.out));(case aS=>exact(be (aH HB ft)));(case aL=>have:=Sm.out;omega);intro v218 jl ho hb hg hat;rw[←Sn.out]at ho;replace dG:=Ah (cX (bk dG) hg (Kd.bF tT.out (fun _ hk=>hk)));replace HB:=Ah (hb);have tU:=Ah (ho);clear tT;clear ho hb hg hat;have oo:(aA:Int)≤((l0.length:Int):Int):=od;obtain⟨Uf,tV,_,tW,_⟩:=info_parts gF;have nU:l0.length≤c0:=lG.out;have u2:Kd.C b7 _ (some oH) l0.length l0:=gV.out;have Co:(0:Int)≤(aA:Int):=od;have C4:=wC (P:=aad) 23 65 .i64 aac tV 4 tW (some oH) l0.length c0 aA Co oo;have kK:=Kd.sD (m:=(aA:Int).toNat) (c:=c0) u2 (by omega) nU;obtain⟨fo,mB⟩:∃A1,A1=(if c0=(aA:Int).toNat then(some oH)else((some oH):Option Addr).map (·.add ((aA:Int).toNat*4))):=⟨_,rfl⟩;obtain⟨c20,oQ⟩:∃c1,c1=c0-(aA:Int).toNat:=⟨_,rfl⟩;have mC:hX.length=l0.length-(aA:Int).toNat:=(by rw[F2.out,gy]<;>omega);rw[show(l0).drop (aA:Int).toNat=hX from F2.out.symm]at kK;replace kK:Kd.C b7 _ fo hX.length hX:=(by rw[mB];exact kK);rw[←mC,←mB,←oQ]at C4;have IG:=Ah kK;have a1t:=Ah (show hX.length≤c20 from by rw[mC,oQ];exact aaR nU _);clear kK u2 nU tV tW oQ;have Oa:=Ah mC;have Ob:=Ah mB;clear mC mB;replace oo:=eq_true oo)|((with_reducible refine eS (b:= .append) (xs:= #[.tmp 32,.tmp 35]) rfl ?_);at_builtin;refine Kd.nN b7 (w0:=w) w.heap.size rfl (.tmp 32) (.tmp 35) 23 65 (.agg #[(.int .i64 0),(.int .i64 0),(.int .i64 0),(.bool false)]) 32 rfl aac gF rfl (by decide) (by omega) v218 mZ hX _ _ _ (fun k_=>k_≠jQ) (fun _=>False) rfl rfl ?aO ?aR (fun _ _ h=>h) (fun _ h=>h.elim) ?aF ?aB ?aS ?aL ?_;(case aR=>exact cb IG HB);(case aB=>exact(aH HB ft));(case aF=>exact(fun k_ hk=>Kd.gE (bk dG) k_ hk));(case aO=>exact(rr tU.out));(case aS=>exact(be (aH HB ft)));(case aL=>have:=IE.out;omega);intro a4C ot ho hb hg hat;rw[←So.out]at ho;replace dG:=Ah (cX (bk dG) hg (Kd.bF tU.out (fun _ hk=>hk)));replace HB:=Ah (hb);have Sq:=Ah (ho);clear tU;clear ho hb hg hat))
   repeat(go_quiet (first|((with_reducible refine eS (b:= .append) (xs:= #[.tmp 23,.tmp 26]) rfl ?_);at_builtin;refine Kd.nN b7 (w0:=w) w.heap.size rfl (.tmp 23) (.tmp 26) 23 65 (.agg #[(.int .i64 0),(.int .i64 0),(.int .i64 0),(.bool false)]) 32 rfl aac gF rfl (by decide) (by omega) (.slice none 0 0) ([]:List (a7)) sa _ _ _ (fun k_=>k_≠jQ) (fun _=>False) rfl rfl ?aO ?aR (fun _ _ h=>h) (fun _ h=>h.elim) ?aF ?aB ?aS ?aL ?_;(case aR=>exact cb Sp HB);(case aB=>exact(aH HB ft));(case aF=>exact(fun k_ hk=>Kd.gE (bk dG) k_ hk));(case aO=>exact((Kd.fk _ _ _ _ (fun k_=>k_≠jQ))));(case aS=>exact(be (aH HB ft)));(case aL=>have:=Sk.out;omega);intro Jz xz ho hb hg hat;rw[←Sl.out]at ho;replace dG:=Ah (cX (bk dG) hg (by simp[aae]));replace HB:=Ah (hb);have tT:=Ah (ho);clear ho hb hg hat;obtain⟨sA,EO,EP,HD⟩:=cA dG;obtain⟨sB,EQ,ER,HE⟩:=cB dG)|((with_reducible refine eS (b:= .append) (xs:= #[.tmp 28,.tmp 30]) rfl ?_);at_builtin;refine Kd.gX b7 (w0:=w) w.heap.size rfl (.tmp 28) (.tmp 30) 23 65 (.agg #[(.int .i64 0),(.int .i64 0),(.int .i64 0),(.bool false)]) 32 rfl aac gF rfl (by decide) (by omega) Jz rJ (⟨cU,d7,cM,dE⟩:a7) [.int .i64 cU,.int .i64 d7,.int .i64 cM,.bool dE] (fun k_=>k_≠jQ) (fun _=>False) rfl rfl ?aP (fun _ hk=>hk.elim) ?aF ?aO ?aB ?aS ?aL ?_;(case aP=>exact jp _ _ _ (⟨cU,d7,cM,dE⟩:a7));(case aB=>exact(aH HB ft));(case aF=>exact(fun k_ hk=>Kd.gE (bk dG) k_ hk));(case aO=>exact(rr tT.out));(case aS=>exact(be (aH HB ft)));(case aL=>have:=Sm.out;omega);intro v218 jl ho hb hg hat;rw[←Sn.out]at ho;replace dG:=Ah (cX (bk dG) hg (Kd.bF tT.out (fun _ hk=>hk)));replace HB:=Ah (hb);have tU:=Ah (ho);clear tT;clear ho hb hg hat;have oo:(aA:Int)≤((l0.length:Int):Int):=od;obtain⟨Uf,tV,_,tW,_⟩:=info_parts gF;have nU:l0.length≤c0:=lG.out;have u2:Kd.C b7 _ (some oH) l0.length l0:=gV.out;have Co:(0:Int)≤(aA:Int):=od;have C4:=wC (P:=aad) 23 65 .i64 aac tV 4 tW (some oH) l0.length c0 aA Co oo;have kK:=Kd.sD (m:=(aA:Int).toNat) (c:=c0) u2 (by omega) nU;obtain⟨fo,mB⟩:∃A1,A1=(if c0=(aA:Int).toNat then(some oH)else((some oH):Option Addr).map (·.add ((aA:Int).toNat*4))):=⟨_,rfl⟩;obtain⟨c20,oQ⟩:∃c1,c1=c0-(aA:Int).toNat:=⟨_,rfl⟩;have mC:hX.length=l0.length-(aA:Int).toNat:=(by rw[F2.out,gy]<;>omega);rw[show(l0).drop (aA:Int).toNat=hX from F2.out.symm]at kK;replace kK:Kd.C b7 _ fo hX.length hX:=(by rw[mB];exact kK);rw[←mC,←mB,←oQ]at C4;have IG:=Ah kK;have a1t:=Ah (show hX.length≤c20 from by rw[mC,oQ];exact aaR nU _);clear kK u2 nU tV tW oQ;have Oa:=Ah mC;have Ob:=Ah mB;clear mC mB;replace oo:=eq_true oo)|((with_reducible refine eS (b:= .append) (xs:= #[.tmp 32,.tmp 35]) rfl ?_);at_builtin;refine Kd.nN b7 (w0:=w) w.heap.size rfl (.tmp 32) (.tmp 35) 23 65 (.agg #[(.int .i64 0),(.int .i64 0),(.int .i64 0),(.bool false)]) 32 rfl aac gF rfl (by decide) (by omega) v218 mZ hX _ _ _ (fun k_=>k_≠jQ) (fun _=>False) rfl rfl ?aO ?aR (fun _ _ h=>h) (fun _ h=>h.elim) ?aF ?aB ?aS ?aL ?_;(case aR=>exact cb IG HB);(case aB=>exact(aH HB ft));(case aF=>exact(fun k_ hk=>Kd.gE (bk dG) k_ hk));(case aO=>exact(rr tU.out));(case aS=>exact(be (aH HB ft)));(case aL=>have:=IE.out;omega);intro a4C ot ho hb hg hat;rw[←So.out]at ho;replace dG:=Ah (cX (bk dG) hg (Kd.bF tU.out (fun _ hk=>hk)));replace HB:=Ah (hb);have Sq:=Ah (ho);clear tU;clear ho hb hg hat));try go_wp2_with (first|((with_reducible refine eS (b:= .append) (xs:= #[.tmp 23,.tmp 26]) rfl ?_);at_builtin;refine Kd.nN b7 (w0:=w) w.heap.size rfl (.tmp 23) (.tmp 26) 23 65 (.agg #[(.int .i64 0),(.int .i64 0),(.int .i64 0),(.bool false)]) 32 rfl aac gF rfl (by decide) (by omega) (.slice none 0 0) ([]:List (a7)) sa _ _ _ (fun k_=>k_≠jQ) (fun _=>False) rfl rfl ?aO ?aR (fun _ _ h=>h) (fun _ h=>h.elim) ?aF ?aB ?aS ?aL ?_;(case aR=>exact cb Sp HB);(case aB=>exact(aH HB ft));(case aF=>exact(fun k_ hk=>Kd.gE (bk dG) k_ hk));(case aO=>exact((Kd.fk _ _ _ _ (fun k_=>k_≠jQ))));(case aS=>exact(be (aH HB ft)));(case aL=>have:=Sk.out;omega);intro Jz xz ho hb hg hat;rw[←Sl.out]at ho;replace dG:=Ah (cX (bk dG) hg (by simp[aae]));replace HB:=Ah (hb);have tT:=Ah (ho);clear ho hb hg hat;obtain⟨sA,EO,EP,HD⟩:=cA dG;obtain⟨sB,EQ,ER,HE⟩:=cB dG)|((with_reducible refine eS (b:= .append) (xs:= #[.tmp 28,.tmp 30]) rfl ?_);at_builtin;refine Kd.gX b7 (w0:=w) w.heap.size rfl (.tmp 28) (.tmp 30) 23 65 (.agg #[(.int .i64 0),(.int .i64 0),(.int .i64 0),(.bool false)]) 32 rfl aac gF rfl (by decide) (by omega) Jz rJ (⟨cU,d7,cM,dE⟩:a7) [.int .i64 cU,.int .i64 d7,.int .i64 cM,.bool dE] (fun k_=>k_≠jQ) (fun _=>False) rfl rfl ?aP (fun _ hk=>hk.elim) ?aF ?aO ?aB ?aS ?aL ?_;(case aP=>exact jp _ _ _ (⟨cU,d7,cM,dE⟩:a7));(case aB=>exact(aH HB ft));(case aF=>exact(fun k_ hk=>Kd.gE (bk dG) k_ hk));(case aO=>exact(rr tT.out));(case aS=>exact(be (aH HB ft)));(case aL=>have:=Sm.out;omega);intro v218 jl ho hb hg hat;rw[←Sn.out]at ho;replace dG:=Ah (cX (bk dG) hg (Kd.bF tT.out (fun _ hk=>hk)));replace HB:=Ah (hb);have tU:=Ah (ho);clear tT;clear ho hb hg hat;have oo:(aA:Int)≤((l0.length:Int):Int):=od;obtain⟨Uf,tV,_,tW,_⟩:=info_parts gF;have nU:l0.length≤c0:=lG.out;have u2:Kd.C b7 _ (some oH) l0.length l0:=gV.out;have Co:(0:Int)≤(aA:Int):=od;have C4:=wC (P:=aad) 23 65 .i64 aac tV 4 tW (some oH) l0.length c0 aA Co oo;have kK:=Kd.sD (m:=(aA:Int).toNat) (c:=c0) u2 (by omega) nU;obtain⟨fo,mB⟩:∃A1,A1=(if c0=(aA:Int).toNat then(some oH)else((some oH):Option Addr).map (·.add ((aA:Int).toNat*4))):=⟨_,rfl⟩;obtain⟨c20,oQ⟩:∃c1,c1=c0-(aA:Int).toNat:=⟨_,rfl⟩;have mC:hX.length=l0.length-(aA:Int).toNat:=(by rw[F2.out,gy]<;>omega);rw[show(l0).drop (aA:Int).toNat=hX from F2.out.symm]at kK;replace kK:Kd.C b7 _ fo hX.length hX:=(by rw[mB];exact kK);rw[←mC,←mB,←oQ]at C4;have IG:=Ah kK;have a1t:=Ah (show hX.length≤c20 from by rw[mC,oQ];exact aaR nU _);clear kK u2 nU tV tW oQ;have Oa:=Ah mC;have Ob:=Ah mB;clear mC mB;replace oo:=eq_true oo)|((with_reducible refine eS (b:= .append) (xs:= #[.tmp 32,.tmp 35]) rfl ?_);at_builtin;refine Kd.nN b7 (w0:=w) w.heap.size rfl (.tmp 32) (.tmp 35) 23 65 (.agg #[(.int .i64 0),(.int .i64 0),(.int .i64 0),(.bool false)]) 32 rfl aac gF rfl (by decide) (by omega) v218 mZ hX _ _ _ (fun k_=>k_≠jQ) (fun _=>False) rfl rfl ?aO ?aR (fun _ _ h=>h) (fun _ h=>h.elim) ?aF ?aB ?aS ?aL ?_;(case aR=>exact cb IG HB);(case aB=>exact(aH HB ft));(case aF=>exact(fun k_ hk=>Kd.gE (bk dG) k_ hk));(case aO=>exact(rr tU.out));(case aS=>exact(be (aH HB ft)));(case aL=>have:=IE.out;omega);intro a4C ot ho hb hg hat;rw[←So.out]at ho;replace dG:=Ah (cX (bk dG) hg (Kd.bF tU.out (fun _ hk=>hk)));replace HB:=Ah (hb);have Sq:=Ah (ho);clear tU;clear ho hb hg hat)))
   go_ret
   exact⟨_,er,by(with_reducible repeat(first|apply Kd.bG|apply Kd.bE|apply Kd.al));exact Kd.aY Sq.out (fun _ hk=>trivial),aH HB ft⟩
def dK.l0:Nat→List (a7)→List (a7)→Int→Int→Option ((List (a7)))
 |0,_,_,_,_=>none
 |k+1,x3,x7,x8,x9=>if x9<x8 then(if 0≤x9 then(if x9<(x7.length:Int)then(if(LS ((x3.length:Int)-1))≥0 then(if 0≤(LS ((x3.length:Int)-1))then(if(LS ((x3.length:Int)-1))<(x3.length:Int)then((ss.f ((I x3 (LS ((x3.length:Int)-1))).f0) ((I x3 (LS ((x3.length:Int)-1))).f1) ((I x3 (LS ((x3.length:Int)-1))).f2) ((I x3 (LS ((x3.length:Int)-1))).f3) ((I x7 x9).f0) ((I x7 x9).f1) ((I x7 x9).f2) ((I x7 x9).f3)).bind fun K0=>(if K0=true then(dK.l0 k (x3.set ((LS ((x3.length:Int)-1)):Int).toNat (⟨(I x3 (LS ((x3.length:Int)-1))).f0,LS (((I x3 (LS ((x3.length:Int)-1))).f1)+((I x7 x9).f1)),(I x3 (LS ((x3.length:Int)-1))).f2,(I x3 (LS ((x3.length:Int)-1))).f3⟩:a7)) x7 x8 (LS (x9+1)))else(if x3.length<4398046511104 then(dK.l0 k (x3++[(⟨(I x7 x9).f0,(I x7 x9).f1,(I x7 x9).f2,(I x7 x9).f3⟩:a7)]) x7 x8 (LS (x9+1)))else(none))))else(none))else(none))else(if x3.length<4398046511104 then(dK.l0 k (x3++[(⟨(I x7 x9).f0,(I x7 x9).f1,(I x7 x9).f2,(I x7 x9).f3⟩:a7)]) x7 x8 (LS (x9+1)))else(none)))else(none))else(none))else(some x3)
def dK.f(k:Nat)(l0:List (a7)):Option ((List (a7))):=dK.l0 k ([]:List (a7)) l0 (l0.length:Int) 0
theorem dK.dL:∀k,(∀y0 y1 y2 y3,aG (dK.l0 k y0 y1 y2 y3) (dK.l0 (k+1) y0 y1 y2 y3))
 |0=>fun _ _ _ _ r h=>by simp[dK.l0]at h
 |k+1=>by
  have bw:=dK.dL k
  ·
   intro y0 y1 y2 y3;unfold dK.l0
   repeat' with_reducible first|exact bw _ _ _ _|exact aG.refl _|exact aG.none _|refine aG.ite ?_ ?_|refine aG.bind ?_ (fun _=> ?_)
theorem dK.mono:∀a0 k,aG (dK.f k a0) (dK.f (k+1) a0):=by
 intro a0 k;have bw:=dK.dL k;unfold dK.f
 repeat' with_reducible first|exact bw _ _ _ _|exact aG.refl _|exact aG.none _|refine aG.ite ?_ ?_|refine aG.bind ?_ (fun _=> ?_)
def dK.T6:Bool×List (List Nat×List Nat):=(true,[([],[]),([0],[0]),([1],[1]),([2],[2]),([2],[2]),([3,4,2],[2,3,4]),([5,2],[2,5]),([2],[2]),([6,7,2,2],[2,6,7]),([2,8],[2,8])])
def dK.B6:List Nat:=[0,1,3,7,7,31,63,7,255,511]
theorem dK.Cp:gH .any (nY Try.f36 6)=dK.T6:=by kernel_rfl
theorem dK.CC:kx dK.T6.2 dK.B6=true:=by kernel_rfl
def dK.T7:Bool×List (List Nat×List Nat):=(true,[([],[]),([],[]),([0,1],[0,1]),([2],[2]),([3],[3]),([],[]),([5],[5]),([4,6],[4,6]),([0,1,0,1,2,3,4,5,6,7],[0,1]),([8,0,1,2,3,4,5,6,7],[8]),([9,7,0,1,2,3,4,5,6,7],[7,9])])
def dK.B7:List Nat:=[0,0,3,7,15,0,32,127,255,511,1023]
theorem dK.Cq:gH .any (nY Try.f36 7)=dK.T7:=by kernel_rfl
theorem dK.CD:kx dK.T7.2 dK.B7=true:=by kernel_rfl
set_option maxHeartbeats 8000000 in
set_option maxRecDepth 100000 in
theorem dK.calls(k:Nat)(A0:Option Addr)(c0:Nat)(l0:List (a7))(r:List (a7))(w:World)(hr0:Kd.C b7 w A0 l0.length l0)(hc0:l0.length≤c0)(h:dK.f k l0=some r):
 Calls aad 36 #[.slice A0 l0.length c0] w fun e w'=>∃da:Value,e= .returned (.agg #[da])∧Kd.R b7 65 w' w.heap.size (fun _=>True) da r∧Below w.heap.size w w':=by
 have kJ:=ua;have mA:=aay;have gV:=Ah hr0;have lG:=Ah hc0;clear hr0 hc0;have HB:=Ah (aaa w.heap.size w);have H:(dK.l0 k ([]:List (a7)) l0 (l0.length:Int) 0)=some r:=h;clear h;have H':=Ah H;clear H
 go_enter Try.func36,Try.ntmps36
 go_wp2_with (first|((with_reducible refine ax (N:=2) rfl ?_);refine bA 2 25 #[.slice none 0 0] ?_;intro F3 hg w2 eH hb;have GW244:=gw hg (bs HB);have kE:=gw hg (bs HB);replace HB:=Ah (aK (bs HB) hb);clear hb hg))
 go_loopg [3,9] k (fun kq v3 v9 w'=>∃ (ar:List (a7)) (aJ:Int),v9= .int .i64 aJ∧U (dK.l0 kq ar l0 (l0.length:Int) aJ=some r)∧U (kq≤k)∧U (Kd.R b7 65 w' w.heap.size (fun _=>True) v3 ar)∧U (w'.heap[F3]?=some (.cells #[(.slice none 0 0)] 25 (0,0)))∧U (Below w.heap.size w w'))
 case atStart=>exact⟨(([]:List (a7))),(0),e3,H',⟨bx _⟩,⟨by first|exact Kd.fk _ _ _ _ _|exact Kd.iI _ _ _ _ _|exact Kd.iJ _ _ _ _ _|exact Kd.iG _ _ _ _ _|exact Kd.iH _ _ _ _ _⟩,⟨bk eH⟩,⟨aH HB kE⟩⟩
 case round=>
  clear H'
  try clear p2
  obtain⟨ar,aJ,rfl,HA,bU,au,eH,HB⟩:=hrel
  cases gk with
  |zero=>exact absurd HA.out (by simp[dK.l0])
  |succ k1=>
   have H:=HA.out;clear HA;simp only[dK.l0]at H
   by_cases c3:aJ<(l0.length:Int)
   rotate_left
   ·
    rw[if_neg c3]at H;have iN:decide (aJ<(l0.length:Int))=false:=decide_eq_false c3;clear c3;obtain rfl:=iz H;obtain⟨Fa,Fb,Ug⟩:=Kd.bq au.out;subst Ug;have Z3:=ap eH;have Z4:=an eH
    go_wp2
    refine bodyPost_ret (results_cell_row rfl _ _ F3 25 #[.slice Fa ar.length Fb] (0,0) _ rfl (by(with_reducible repeat(first|refine aD ?_ _|refine Z ?_|refine aC ?_ _));refine aj (cs:= #[.slice none 0 0]) ?_ 0 _ rfl;(with_reducible repeat(first|refine aD ?_ _|refine Z ?_|refine aC ?_ _));exact eH.out) ua rfl (by kernel_rfl)) rfl ?_;exact⟨_,er,by(with_reducible repeat(first|apply Kd.bG|apply Kd.bE|apply Kd.al));exact Kd.aY (Kd.aQ (p:=⟨F3,0,none⟩) (Kd.cl au.out eH.out (by decide)) (fun _ hk=>hk.2) (.slice Fa ar.length Fb)) (fun _ hk=>trivial),aH HB kE⟩
   rw[if_pos c3]at H;have iN:decide (aJ<(l0.length:Int))=true:=decide_eq_true c3;clear c3
   by_cases c4:0≤aJ
   rotate_left
   ·
    rw[if_neg c4]at H;exact absurd H (by simp)
   rw[if_pos c4]at H;have jb:decide (0≤aJ)=true:=decide_eq_true c4;clear c4
   by_cases c5:aJ<(l0.length:Int)
   rotate_left
   ·
    rw[if_neg c5]at H;exact absurd H (by simp)
   rw[if_pos c5]at H;have oP:decide (aJ<(l0.length:Int))=true:=decide_eq_true c5;clear c5
   by_cases c6:(LS ((ar.length:Int)-1))≥0
   rotate_left
   ·
    rw[if_neg c6]at H;have rM:decide (0≤(LS ((ar.length:Int)-1)))=false:=decide_eq_false c6;clear c6
    by_cases c32:ar.length<4398046511104
    rotate_left
    ·
     rw[if_neg c32]at H;exact absurd H (by simp)
    rw[if_pos c32]at H;have NK:=Ah c32;clear c32;obtain⟨a4D,IH⟩:∃y_:List (a7),y_=(ar++[(⟨(I l0 aJ).f0,(I l0 aJ).f1,(I l0 aJ).f2,(I l0 aJ).f3⟩:a7)]):=⟨_,rfl⟩
    replace H:(dK.l0 k1 a4D l0 (l0.length:Int) (LS (aJ+1)))=some r:=by first|(rw[IH];with_reducible exact H)|(have aX:=(Mq _ _).symm.trans H;rw[IH];with_reducible exact aX)|(have aX:=(Mq _ _).symm.trans H;with_reducible exact aX)|with_reducible exact H|(rw[IH];exact H)|exact H
    have Ny254:=Ah IH;clear IH;have H':=Ah H;clear H;have u4:0≤(aJ:Int):=od;have u5:aJ<(l0.length:Int):=od;obtain⟨a1u,e245,tC,tD,tE,tF⟩:=f6 gV.out aJ u4 u5
    cases e245
    replace tC:=(HB.out.cell (LA w _ tC)).trans tC;replace tD:=(HB.out.cell (LA w _ tD)).trans tD;replace tE:=(HB.out.cell (LA w _ tE)).trans tE;replace tF:=(HB.out.cell (LA w _ tF)).trans tF;replace u4:=eq_true u4;replace u5:=eq_true u5
    try go_wp2_with (first|((with_reducible refine ax (N:=5) rfl ?_);refine bA 5 65 #[.int .i64 0,.int .i64 0,.int .i64 0,.bool false] ?_;intro cK hg q9 dY hb;replace au:=Ah (Kd.eO (Kd.gD (rr au.out) cK (aaj hg.symm)) hb);have a1v:=gw hg (aH HB kE);have pT:=gw hg (aH HB kE);replace HB:=Ah (aK (aH HB kE) hb);have yH:=nn eH hg;have GY:=nm eH hg;replace eH:=nb eH hb;clear hb hg;have Sr:=GY.out;have Ss:=yH.out;obtain⟨R2,hcz35_1,hcz35_2,hcz35_3⟩:=cA dY;obtain⟨R3,hfz35_1,hfz35_2,hfz35_3⟩:=cB dY;obtain⟨a4E,a4F,eo36⟩:=Kd.bq au.out;subst eo36))
    have aa:U (Kd.R b7 65 ((((q9.setCell ⟨cK,0,none⟩ (.int .i64 ((I l0 aJ).f0))).setCell ⟨cK,1,none⟩ (.int .i64 ((I l0 aJ).f1))).setCell ⟨cK,2,none⟩ (.int .i64 ((I l0 aJ).f2))).setCell ⟨cK,3,none⟩ (.bool ((I l0 aJ).f3))) w.heap.size (fun k_=>k_≠cK) (.slice a4E ar.length a4F) ar):=⟨by(with_reducible repeat(first|apply Kd.bG|apply Kd.bE|apply Kd.al));exact Kd.aY (Kd.aQ (p:=⟨cK,3,none⟩) (Kd.aQ (p:=⟨cK,2,none⟩) (Kd.aQ (p:=⟨cK,1,none⟩) (Kd.aQ (p:=⟨cK,0,none⟩) (Kd.aY au.out (fun k_ hk=>(⟨hk,hk.2⟩:_∧k_≠cK))) (fun _ hk=>hk.2) (.int .i64 ((I l0 aJ).f0))) (fun _ hk=>hk.2) (.int .i64 ((I l0 aJ).f1))) (fun _ hk=>hk.2) (.int .i64 ((I l0 aJ).f2))) (fun _ hk=>hk.2) (.bool ((I l0 aJ).f3))) (fun _ hk=>hk.1.2)⟩;have ab:U (((((q9.setCell ⟨cK,0,none⟩ (.int .i64 ((I l0 aJ).f0))).setCell ⟨cK,1,none⟩ (.int .i64 ((I l0 aJ).f1))).setCell ⟨cK,2,none⟩ (.int .i64 ((I l0 aJ).f2))).setCell ⟨cK,3,none⟩ (.bool ((I l0 aJ).f3))).heap[F3]?=some (.cells #[.slice none 0 0] 25 (0,0))):=⟨bf eH yH⟩;have ac:U (((((q9.setCell ⟨cK,0,none⟩ (.int .i64 ((I l0 aJ).f0))).setCell ⟨cK,1,none⟩ (.int .i64 ((I l0 aJ).f1))).setCell ⟨cK,2,none⟩ (.int .i64 ((I l0 aJ).f2))).setCell ⟨cK,3,none⟩ (.bool ((I l0 aJ).f3))).heap[cK]?=some (.cells #[.int .i64 ((I l0 aJ).f0),.int .i64 ((I l0 aJ).f1),.int .i64 ((I l0 aJ).f2),.bool ((I l0 aJ).f3)] 65 (0,0))):=⟨by(with_reducible repeat(first|refine aD ?_ _|refine Z ?_|refine aC ?_ _));refine aj (cs:= #[.int .i64 ((I l0 aJ).f0),.int .i64 ((I l0 aJ).f1),.int .i64 ((I l0 aJ).f2),.bool false]) ?_ 3 _ rfl;(with_reducible repeat(first|refine aD ?_ _|refine Z ?_|refine aC ?_ _));refine aj (cs:= #[.int .i64 ((I l0 aJ).f0),.int .i64 ((I l0 aJ).f1),.int .i64 0,.bool false]) ?_ 2 _ rfl;(with_reducible repeat(first|refine aD ?_ _|refine Z ?_|refine aC ?_ _));refine aj (cs:= #[.int .i64 ((I l0 aJ).f0),.int .i64 0,.int .i64 0,.bool false]) ?_ 1 _ rfl;(with_reducible repeat(first|refine aD ?_ _|refine Z ?_|refine aC ?_ _));refine aj (cs:= #[.int .i64 0,.int .i64 0,.int .i64 0,.bool false]) ?_ 0 _ rfl;(with_reducible repeat(first|refine aD ?_ _|refine Z ?_|refine aC ?_ _));exact dY.out⟩;have ae:U (Below w.heap.size w ((((q9.setCell ⟨cK,0,none⟩ (.int .i64 ((I l0 aJ).f0))).setCell ⟨cK,1,none⟩ (.int .i64 ((I l0 aJ).f1))).setCell ⟨cK,2,none⟩ (.int .i64 ((I l0 aJ).f2))).setCell ⟨cK,3,none⟩ (.bool ((I l0 aJ).f3)))):=⟨aW HB kE pT⟩;(try clear au);(try clear eH);(try clear dY);(try clear HB)
    generalize ((((q9.setCell ⟨cK,0,none⟩ (.int .i64 ((I l0 aJ).f0))).setCell ⟨cK,1,none⟩ (.int .i64 ((I l0 aJ).f1))).setCell ⟨cK,2,none⟩ (.int .i64 ((I l0 aJ).f2))).setCell ⟨cK,3,none⟩ (.bool ((I l0 aJ).f3)))=PV at aa ab ac ae⊢
    have au:=aa;have eH:=ab;have dY:=ac;have HB:=ae;clear aa ab ac ae;have aa:=Ah (Kd.al au.out);have ab:=Ah (Z eH.out);have ac:=Ah (Z dY.out);have ae:=Ah (fO HB.out);clear au eH dY HB;have au:=aa;have eH:=ab;have dY:=ac;have HB:=ae;clear aa ab ac ae;refine iY (n:=10) (S:=fun w'=>True) (ds:=[]) #[false,false,false,false,false,false,false,false,false,false] (by kernel_rfl) rfl rfl trivial (fun hHeld=> ?_);refine ig dK.Cp dK.CC (fun X cV=> ?_)
    generalize PV.drew=PR at au eH dY HB hHeld⊢
    refine aN 0 16 X.out ?_;refine aN 1 17 X.out ?_;refine aN 2 18 X.out ?_;refine bz 3 19 X.out ?_;refine bz 4 20 X.out ?_;refine bz 5 21 X.out ?_;refine bz 6 22 X.out ?_;refine bz 7 23 X.out ?_;refine bz 8 24 X.out ?_;refine aN 9 25 X.out ?_;refine i9 (iD X.out (by kernel_rfl)) ?_;obtain⟨hcz39_0,hcz39_1,hcz39_2,hcz39_3⟩:=cA dY;obtain⟨hfz39_0,hfz39_1,hfz39_2,hfz39_3⟩:=cB dY
    try go_wp2_with (first|((with_reducible refine eS (b:= .append) (xs:= #[.tmp 36,.tmp 38]) rfl ?_);at_builtin;refine Kd.gX b7 (w0:=w) w.heap.size rfl (.tmp 36) (.tmp 38) 23 65 (.agg #[(.int .i64 0),(.int .i64 0),(.int .i64 0),(.bool false)]) 32 rfl aac gF rfl (by decide) (by omega) (.slice a4E ar.length a4F) ar (⟨(I l0 aJ).f0,(I l0 aJ).f1,(I l0 aJ).f2,(I l0 aJ).f3⟩:a7) [.int .i64 ((I l0 aJ).f0),.int .i64 ((I l0 aJ).f1),.int .i64 ((I l0 aJ).f2),.bool ((I l0 aJ).f3)] (fun k_=>k_≠cK) (fun _=>False) rfl rfl ?aP (fun _ hk=>hk.elim) ?aF ?aO ?aB ?aS ?aL ?_;(case aP=>exact jp _ _ _ (⟨(I l0 aJ).f0,(I l0 aJ).f1,(I l0 aJ).f2,(I l0 aJ).f3⟩:a7));(case aB=>exact(aW HB kE pT));(case aF=>exact(fun k_ hk=>Kd.gE (bk dY) k_ hk));(case aO=>exact(rr au.out));(case aS=>exact(be (aW HB kE pT)));(case aL=>have:=NK.out;omega);intro v255 PS ho hb hg hat;rw[←Ny254.out]at ho;replace eH:=Ah (cX (bk eH) hg (Kd.eD au.out eH.out (by decide)));replace dY:=Ah (cX (bk dY) hg (Kd.bF au.out (fun _ hk=>hk)));replace HB:=Ah (hb);have HO256:=Ah (ho);clear au;clear ho hb hg hat))
    go_roundg k1
    case measure=>have:=bU.out;omega
    case rel=>exact⟨(a4D),(LS (aJ+1)),e3,H',⟨by have:=bU.out;omega⟩,rm HO256 (fun _ hk=>trivial),⟨bk eH⟩,⟨aW HB kE pT⟩⟩
   rw[if_pos c6]at H;have rM:decide (0≤(LS ((ar.length:Int)-1)))=true:=decide_eq_true c6;clear c6;obtain⟨cE,Fc⟩:∃j_:Int,(LS ((ar.length:Int)-1))=j_:=⟨_,rfl⟩
   replace H:(if 0≤(cE)then(if(cE)<(ar.length:Int)then((ss.f ((I ar (cE)).f0) ((I ar (cE)).f1) ((I ar (cE)).f2) ((I ar (cE)).f3) ((I l0 aJ).f0) ((I l0 aJ).f1) ((I l0 aJ).f2) ((I l0 aJ).f3)).bind fun K0=>(if K0=true then(dK.l0 k1 (ar.set ((cE):Int).toNat (⟨(I ar (cE)).f0,LS (((I ar (cE)).f1)+((I l0 aJ).f1)),(I ar (cE)).f2,(I ar (cE)).f3⟩:a7)) l0 (l0.length:Int) (LS (aJ+1)))else(if ar.length<4398046511104 then(dK.l0 k1 (ar++[(⟨(I l0 aJ).f0,(I l0 aJ).f1,(I l0 aJ).f2,(I l0 aJ).f3⟩:a7)]) l0 (l0.length:Int) (LS (aJ+1)))else(none))))else(none))else(none))=some r:=by first|(rw[Fc]at H;exact H)|(simp only[Fc]at H⊢;exact H)
   (try rw[Fc]at rM);have hji7w:(IntKind.i64.wrap ((ar.length:Int)-1))=cE:=(cz _).trans Fc
   by_cases c8:0≤(cE)
   rotate_left
   ·
    rw[if_neg c8]at H;exact absurd H (by simp)
   rw[if_pos c8]at H;have nC:decide (0≤(cE))=true:=decide_eq_true c8;clear c8
   by_cases c9:(cE)<(ar.length:Int)
   rotate_left
   ·
    rw[if_neg c9]at H;exact absurd H (by simp)
   rw[if_pos c9]at H;have u1:decide ((cE)<(ar.length:Int))=true:=decide_eq_true c9;clear c9;replace H:=LT.mp H;obtain⟨K0,u7,H⟩:=H
   try dsimp only at H
   have yA:=Ah u7;clear u7
   by_cases c11:K0=true
   rotate_left
   ·
    replace c11:=dn.mpr c11;subst c11;rw[if_neg dV]at H
    by_cases ks:ar.length<4398046511104
    rotate_left
    ·
     rw[if_neg ks]at H;exact absurd H (by simp)
    rw[if_pos ks]at H;have LMc22:=Ah ks;clear ks;obtain⟨a4G,II⟩:∃y_:List (a7),y_=(ar++[(⟨(I l0 aJ).f0,(I l0 aJ).f1,(I l0 aJ).f2,(I l0 aJ).f3⟩:a7)]):=⟨_,rfl⟩
    replace H:(dK.l0 k1 a4G l0 (l0.length:Int) (LS (aJ+1)))=some r:=by first|(rw[II];with_reducible exact H)|(have aX:=(Mq _ _).symm.trans H;rw[II];with_reducible exact aX)|(have aX:=(Mq _ _).symm.trans H;with_reducible exact aX)|with_reducible exact H|(rw[II];exact H)|exact H
    have Ny251:=Ah II;clear II;have H':=Ah H;clear H;have u4:0≤(aJ:Int):=od;have u5:aJ<(l0.length:Int):=od;obtain⟨a1u,e245,tC,tD,tE,tF⟩:=f6 gV.out aJ u4 u5
    cases e245
    replace tC:=(HB.out.cell (LA w _ tC)).trans tC;replace tD:=(HB.out.cell (LA w _ tD)).trans tD;replace tE:=(HB.out.cell (LA w _ tE)).trans tE;replace tF:=(HB.out.cell (LA w _ tF)).trans tF;replace u4:=eq_true u4;replace u5:=eq_true u5
    try go_wp2_with (first|((with_reducible refine ax (N:=5) rfl ?_);refine bA 5 65 #[.int .i64 0,.int .i64 0,.int .i64 0,.bool false] ?_;intro cK hg re dY hb;replace au:=Ah (Kd.eO (Kd.gD (rr au.out) cK (aaj hg.symm)) hb);have a1v:=gw hg (aH HB kE);have pT:=gw hg (aH HB kE);replace HB:=Ah (aK (aH HB kE) hb);have yH:=nn eH hg;have GY:=nm eH hg;replace eH:=nb eH hb;clear hb hg;have NL:=GY.out;have NM:=yH.out;obtain⟨R4,hcz25_1,hcz25_2,hcz25_3⟩:=cA dY;obtain⟨R5,hfz25_1,hfz25_2,hfz25_3⟩:=cB dY;obtain⟨tz,sZ,xU⟩:=Kd.bq au.out;subst xU))
    have aa:U (Kd.R b7 65 ((((re.setCell ⟨cK,0,none⟩ (.int .i64 ((I l0 aJ).f0))).setCell ⟨cK,1,none⟩ (.int .i64 ((I l0 aJ).f1))).setCell ⟨cK,2,none⟩ (.int .i64 ((I l0 aJ).f2))).setCell ⟨cK,3,none⟩ (.bool ((I l0 aJ).f3))) w.heap.size (fun k_=>k_≠cK) (.slice tz ar.length sZ) ar):=⟨by(with_reducible repeat(first|apply Kd.bG|apply Kd.bE|apply Kd.al));exact Kd.aY (Kd.aQ (p:=⟨cK,3,none⟩) (Kd.aQ (p:=⟨cK,2,none⟩) (Kd.aQ (p:=⟨cK,1,none⟩) (Kd.aQ (p:=⟨cK,0,none⟩) (Kd.aY au.out (fun k_ hk=>(⟨hk,hk.2⟩:_∧k_≠cK))) (fun _ hk=>hk.2) (.int .i64 ((I l0 aJ).f0))) (fun _ hk=>hk.2) (.int .i64 ((I l0 aJ).f1))) (fun _ hk=>hk.2) (.int .i64 ((I l0 aJ).f2))) (fun _ hk=>hk.2) (.bool ((I l0 aJ).f3))) (fun _ hk=>hk.1.2)⟩;have ab:U (((((re.setCell ⟨cK,0,none⟩ (.int .i64 ((I l0 aJ).f0))).setCell ⟨cK,1,none⟩ (.int .i64 ((I l0 aJ).f1))).setCell ⟨cK,2,none⟩ (.int .i64 ((I l0 aJ).f2))).setCell ⟨cK,3,none⟩ (.bool ((I l0 aJ).f3))).heap[F3]?=some (.cells #[.slice none 0 0] 25 (0,0))):=⟨bf eH yH⟩;have ac:U (((((re.setCell ⟨cK,0,none⟩ (.int .i64 ((I l0 aJ).f0))).setCell ⟨cK,1,none⟩ (.int .i64 ((I l0 aJ).f1))).setCell ⟨cK,2,none⟩ (.int .i64 ((I l0 aJ).f2))).setCell ⟨cK,3,none⟩ (.bool ((I l0 aJ).f3))).heap[cK]?=some (.cells #[.int .i64 ((I l0 aJ).f0),.int .i64 ((I l0 aJ).f1),.int .i64 ((I l0 aJ).f2),.bool ((I l0 aJ).f3)] 65 (0,0))):=⟨by(with_reducible repeat(first|refine aD ?_ _|refine Z ?_|refine aC ?_ _));refine aj (cs:= #[.int .i64 ((I l0 aJ).f0),.int .i64 ((I l0 aJ).f1),.int .i64 ((I l0 aJ).f2),.bool false]) ?_ 3 _ rfl;(with_reducible repeat(first|refine aD ?_ _|refine Z ?_|refine aC ?_ _));refine aj (cs:= #[.int .i64 ((I l0 aJ).f0),.int .i64 ((I l0 aJ).f1),.int .i64 0,.bool false]) ?_ 2 _ rfl;(with_reducible repeat(first|refine aD ?_ _|refine Z ?_|refine aC ?_ _));refine aj (cs:= #[.int .i64 ((I l0 aJ).f0),.int .i64 0,.int .i64 0,.bool false]) ?_ 1 _ rfl;(with_reducible repeat(first|refine aD ?_ _|refine Z ?_|refine aC ?_ _));refine aj (cs:= #[.int .i64 0,.int .i64 0,.int .i64 0,.bool false]) ?_ 0 _ rfl;(with_reducible repeat(first|refine aD ?_ _|refine Z ?_|refine aC ?_ _));exact dY.out⟩;have ae:U (Below w.heap.size w ((((re.setCell ⟨cK,0,none⟩ (.int .i64 ((I l0 aJ).f0))).setCell ⟨cK,1,none⟩ (.int .i64 ((I l0 aJ).f1))).setCell ⟨cK,2,none⟩ (.int .i64 ((I l0 aJ).f2))).setCell ⟨cK,3,none⟩ (.bool ((I l0 aJ).f3)))):=⟨aW HB kE pT⟩;(try clear au);(try clear eH);(try clear dY);(try clear HB)
    generalize ((((re.setCell ⟨cK,0,none⟩ (.int .i64 ((I l0 aJ).f0))).setCell ⟨cK,1,none⟩ (.int .i64 ((I l0 aJ).f1))).setCell ⟨cK,2,none⟩ (.int .i64 ((I l0 aJ).f2))).setCell ⟨cK,3,none⟩ (.bool ((I l0 aJ).f3)))=xy at aa ab ac ae⊢
    have au:=aa;have eH:=ab;have dY:=ac;have HB:=ae;clear aa ab ac ae;have aa:=Ah (Kd.al au.out);have ab:=Ah (Z eH.out);have ac:=Ah (Z dY.out);have ae:=Ah (fO HB.out);clear au eH dY HB;have au:=aa;have eH:=ab;have dY:=ac;have HB:=ae;clear aa ab ac ae;have Cr:0≤((cE):Int):=od;have Cs:(cE)<(ar.length:Int):=od;obtain⟨mw,e247,B0,B1,B2,B3⟩:=f6 (Kd.af au.out).2.2 (cE) Cr Cs
    cases e247
    replace Cr:=eq_true Cr;replace Cs:=eq_true Cs;refine iY (n:=10) (S:=fun w'=>w'.cell? ⟨cK,0,none⟩=some (.int .i64 ((I l0 aJ).f0))∧w'.cell? ⟨cK,1,none⟩=some (.int .i64 ((I l0 aJ).f1))∧w'.cell? ⟨cK,2,none⟩=some (.int .i64 ((I l0 aJ).f2))∧w'.cell? ⟨cK,3,none⟩=some (.bool ((I l0 aJ).f3))∧w'.cell? (mw.add (((cE)).toNat*4))=some (.int .i64 ((I ar (cE)).f0))∧w'.cell? ⟨(mw.add (((cE)).toNat*4)).block,(mw.add (((cE)).toNat*4)).off+1,none⟩=some (.int .i64 ((I ar (cE)).f1))∧w'.cell? ⟨(mw.add (((cE)).toNat*4)).block,(mw.add (((cE)).toNat*4)).off+2,none⟩=some (.int .i64 ((I ar (cE)).f2))∧w'.cell? ⟨(mw.add (((cE)).toNat*4)).block,(mw.add (((cE)).toNat*4)).off+3,none⟩=some (.bool ((I ar (cE)).f3))) (ds:=[]) #[false,false,false,false,false,false,false,false,false,false] (by kernel_rfl) rfl rfl ⟨(bC dY.out 0).trans rfl,(bC dY.out 1).trans rfl,(bC dY.out 2).trans rfl,(bC dY.out 3).trans rfl,B0,B1,B2,B3⟩ (fun hHeld=> ?_);refine ig dK.Cp dK.CC (fun X cV=> ?_)
    generalize xy.drew=GB at au eH dY HB B0 B1 B2 B3 hHeld⊢
    refine aN 0 16 X.out ?_;refine aN 1 17 X.out ?_;refine aN 2 18 X.out ?_;refine aN 3 19 X.out ?_;refine aN 4 20 X.out ?_;refine aN 5 21 X.out ?_;refine eF 6 22 X.out cV.out hHeld (hr:=by rintro w' ⟨s0,s1,s2,s3,s4,s5,s6,s7⟩;go_simp;with_reducible rfl) (h:= ?_);refine eF 7 23 X.out cV.out hHeld (hr:=by rintro w' ⟨s0,s1,s2,s3,s4,s5,s6,s7⟩;go_simp;with_reducible rfl) (h:= ?_);refine ga (i:=8) (N:=some 24) #[true,true,true,true,true,true,true,true,true,false] rfl rfl (fy X.out (by kernel_rfl)) (by decide) (fun K hK=> ?_);refine il Try.func45 (by kernel_rfl) rfl #[.agg #[.int .i64 ((I ar (cE)).f0),.int .i64 ((I ar (cE)).f1),.int .i64 ((I ar (cE)).f2),.bool ((I ar (cE)).f3)],.agg #[.int .i64 ((I l0 aJ).f0),.int .i64 ((I l0 aJ).f1),.int .i64 ((I l0 aJ).f2),.bool ((I l0 aJ).f3)]] (by rfl) rfl rfl (by(try simp only[List.map_toArray,List.map_cons,List.map_nil]);first|done|(simp only[Fc];rfl)|rfl|(simp only[List.length_drop,List.length_take];rfl)) ?_
    with_reducible refine(ss.calls ((I ar (cE)).f0) ((I ar (cE)).f1) ((I ar (cE)).f2) ((I ar (cE)).f3) ((I l0 aJ).f0) ((I l0 aJ).f1) ((I l0 aJ).f2) ((I l0 aJ).f3) false _ yA.out).mono ?_
    rintro e LJ ⟨rfl,hb⟩;have rN:=(hb.cell (LA _ _ (hHeld.2.2.2.2.1))).trans (hHeld.2.2.2.2.1);have Ct:=(hb.cell (LA _ _ (hHeld.2.2.2.2.2.1))).trans (hHeld.2.2.2.2.2.1);have Cu:=(hb.cell (LA _ _ (hHeld.2.2.2.2.2.2.1))).trans (hHeld.2.2.2.2.2.2.1);have Cv:=(hb.cell (LA _ _ (hHeld.2.2.2.2.2.2.2))).trans (hHeld.2.2.2.2.2.2.2);refine⟨_,rfl, ?_⟩;have aa:=Ah (Kd.eO (rr au.out) hb);have ab:=Ah (bb eH hb);have ac:=Ah (bb dY hb);have ae:=Ah (aK (aW HB kE pT) hb);clear au eH dY HB;have au:=aa;have eH:=ab;have dY:=ac;have HB:=ae;clear aa ab ac ae;(try clear hb);(try clear hb2);(try clear hk);(try clear hi);refine hK.out _ _ ⟨(bC dY.out 0).trans rfl,(bC dY.out 1).trans rfl,(bC dY.out 2).trans rfl,(bC dY.out 3).trans rfl,rN,Ct,Cu,Cv⟩ (fun hHeld=> ?_);clear hK K;refine hU (a':= ?_) ?_ ?_;rotate_left
    ·
     show aab _ (some 24) _=_
     simp only[aab,Ok,bY,dl,cz,dS]
     rfl
    refine aN 9 25 X.out ?_;refine i9 (iD X.out (by kernel_rfl)) ?_;obtain⟨o6,hcz30_1,hcz30_2,hcz30_3⟩:=cA dY;obtain⟨o7,hfz30_1,hfz30_2,hfz30_3⟩:=cB dY
    try go_wp2_with (first|((with_reducible refine eS (b:= .append) (xs:= #[.tmp 36,.tmp 38]) rfl ?_);at_builtin;refine Kd.gX b7 (w0:=w) w.heap.size rfl (.tmp 36) (.tmp 38) 23 65 (.agg #[(.int .i64 0),(.int .i64 0),(.int .i64 0),(.bool false)]) 32 rfl aac gF rfl (by decide) (by omega) (.slice (some mw) ar.length sZ) ar (⟨(I l0 aJ).f0,(I l0 aJ).f1,(I l0 aJ).f2,(I l0 aJ).f3⟩:a7) [.int .i64 ((I l0 aJ).f0),.int .i64 ((I l0 aJ).f1),.int .i64 ((I l0 aJ).f2),.bool ((I l0 aJ).f3)] (fun k_=>k_≠cK) (fun _=>False) rfl rfl ?aP (fun _ hk=>hk.elim) ?aF ?aO ?aB ?aS ?aL ?_;(case aP=>exact jp _ _ _ (⟨(I l0 aJ).f0,(I l0 aJ).f1,(I l0 aJ).f2,(I l0 aJ).f3⟩:a7));(case aB=>exact(aW HB kE pT));(case aF=>exact(fun k_ hk=>Kd.gE (bk dY) k_ hk));(case aO=>exact(rr au.out));(case aS=>exact(be (aW HB kE pT)));(case aL=>have:=LMc22.out;omega);intro v252 Dv ho hb hg hat;rw[←Ny251.out]at ho;replace eH:=Ah (cX (bk eH) hg (Kd.eD au.out eH.out (by decide)));replace dY:=Ah (cX (bk dY) hg (Kd.bF au.out (fun _ hk=>hk)));replace HB:=Ah (hb);have HO253:=Ah (ho);clear au;clear ho hb hg hat))
    go_roundg k1
    case measure=>have:=bU.out;omega
    case rel=>exact⟨(a4G),(LS (aJ+1)),e3,H',⟨by have:=bU.out;omega⟩,rm HO253 (fun _ hk=>trivial),⟨bk eH⟩,⟨aW HB kE pT⟩⟩
   subst c11;rw[if_pos rfl]at H;obtain⟨a4H,IJ⟩:∃y_:List (a7),y_=(ar.set ((cE):Int).toNat (⟨(I ar (cE)).f0,LS (((I ar (cE)).f1)+((I l0 aJ).f1)),(I ar (cE)).f2,(I ar (cE)).f3⟩:a7)):=⟨_,rfl⟩
   replace H:(dK.l0 k1 a4H l0 (l0.length:Int) (LS (aJ+1)))=some r:=by first|(rw[IJ];with_reducible exact H)|(have aX:=(Mq _ _).symm.trans H;rw[IJ];with_reducible exact aX)|(have aX:=(Mq _ _).symm.trans H;with_reducible exact aX)|with_reducible exact H|(rw[IJ];exact H)|exact H
   have Ny250:=Ah IJ;clear IJ;have H':=Ah H;clear H;have u4:0≤(aJ:Int):=od;have u5:aJ<(l0.length:Int):=od;obtain⟨a1u,e245,tC,tD,tE,tF⟩:=f6 gV.out aJ u4 u5
   cases e245
   replace tC:=(HB.out.cell (LA w _ tC)).trans tC;replace tD:=(HB.out.cell (LA w _ tD)).trans tD;replace tE:=(HB.out.cell (LA w _ tE)).trans tE;replace tF:=(HB.out.cell (LA w _ tF)).trans tF;replace u4:=eq_true u4;replace u5:=eq_true u5
   try go_wp2_with (first|((with_reducible refine ax (N:=5) rfl ?_);refine bA 5 65 #[.int .i64 0,.int .i64 0,.int .i64 0,.bool false] ?_;intro cK hg nJ dY hb;replace au:=Ah (Kd.eO (Kd.gD (rr au.out) cK (aaj hg.symm)) hb);have a1v:=gw hg (aH HB kE);have pT:=gw hg (aH HB kE);replace HB:=Ah (aK (aH HB kE) hb);have yH:=nn eH hg;have GY:=nm eH hg;replace eH:=nb eH hb;clear hb hg;have NN:=GY.out;have NO:=yH.out;obtain⟨wU,Au,Av,Aw⟩:=cA dY;obtain⟨wV,Ax,Ay,Az⟩:=cB dY;obtain⟨Ao16,co16,eo16⟩:=Kd.bq au.out;subst eo16))
   have aa:U (Kd.R b7 65 ((((nJ.setCell ⟨cK,0,none⟩ (.int .i64 ((I l0 aJ).f0))).setCell ⟨cK,1,none⟩ (.int .i64 ((I l0 aJ).f1))).setCell ⟨cK,2,none⟩ (.int .i64 ((I l0 aJ).f2))).setCell ⟨cK,3,none⟩ (.bool ((I l0 aJ).f3))) w.heap.size (fun k_=>k_≠cK) (.slice Ao16 ar.length co16) ar):=⟨by(with_reducible repeat(first|apply Kd.bG|apply Kd.bE|apply Kd.al));exact Kd.aY (Kd.aQ (p:=⟨cK,3,none⟩) (Kd.aQ (p:=⟨cK,2,none⟩) (Kd.aQ (p:=⟨cK,1,none⟩) (Kd.aQ (p:=⟨cK,0,none⟩) (Kd.aY au.out (fun k_ hk=>(⟨hk,hk.2⟩:_∧k_≠cK))) (fun _ hk=>hk.2) (.int .i64 ((I l0 aJ).f0))) (fun _ hk=>hk.2) (.int .i64 ((I l0 aJ).f1))) (fun _ hk=>hk.2) (.int .i64 ((I l0 aJ).f2))) (fun _ hk=>hk.2) (.bool ((I l0 aJ).f3))) (fun _ hk=>hk.1.2)⟩;have ab:U (((((nJ.setCell ⟨cK,0,none⟩ (.int .i64 ((I l0 aJ).f0))).setCell ⟨cK,1,none⟩ (.int .i64 ((I l0 aJ).f1))).setCell ⟨cK,2,none⟩ (.int .i64 ((I l0 aJ).f2))).setCell ⟨cK,3,none⟩ (.bool ((I l0 aJ).f3))).heap[F3]?=some (.cells #[.slice none 0 0] 25 (0,0))):=⟨bf eH yH⟩;have ac:U (((((nJ.setCell ⟨cK,0,none⟩ (.int .i64 ((I l0 aJ).f0))).setCell ⟨cK,1,none⟩ (.int .i64 ((I l0 aJ).f1))).setCell ⟨cK,2,none⟩ (.int .i64 ((I l0 aJ).f2))).setCell ⟨cK,3,none⟩ (.bool ((I l0 aJ).f3))).heap[cK]?=some (.cells #[.int .i64 ((I l0 aJ).f0),.int .i64 ((I l0 aJ).f1),.int .i64 ((I l0 aJ).f2),.bool ((I l0 aJ).f3)] 65 (0,0))):=⟨by(with_reducible repeat(first|refine aD ?_ _|refine Z ?_|refine aC ?_ _));refine aj (cs:= #[.int .i64 ((I l0 aJ).f0),.int .i64 ((I l0 aJ).f1),.int .i64 ((I l0 aJ).f2),.bool false]) ?_ 3 _ rfl;(with_reducible repeat(first|refine aD ?_ _|refine Z ?_|refine aC ?_ _));refine aj (cs:= #[.int .i64 ((I l0 aJ).f0),.int .i64 ((I l0 aJ).f1),.int .i64 0,.bool false]) ?_ 2 _ rfl;(with_reducible repeat(first|refine aD ?_ _|refine Z ?_|refine aC ?_ _));refine aj (cs:= #[.int .i64 ((I l0 aJ).f0),.int .i64 0,.int .i64 0,.bool false]) ?_ 1 _ rfl;(with_reducible repeat(first|refine aD ?_ _|refine Z ?_|refine aC ?_ _));refine aj (cs:= #[.int .i64 0,.int .i64 0,.int .i64 0,.bool false]) ?_ 0 _ rfl;(with_reducible repeat(first|refine aD ?_ _|refine Z ?_|refine aC ?_ _));exact dY.out⟩;have ae:U (Below w.heap.size w ((((nJ.setCell ⟨cK,0,none⟩ (.int .i64 ((I l0 aJ).f0))).setCell ⟨cK,1,none⟩ (.int .i64 ((I l0 aJ).f1))).setCell ⟨cK,2,none⟩ (.int .i64 ((I l0 aJ).f2))).setCell ⟨cK,3,none⟩ (.bool ((I l0 aJ).f3)))):=⟨aW HB kE pT⟩;(try clear au);(try clear eH);(try clear dY);(try clear HB)
   generalize ((((nJ.setCell ⟨cK,0,none⟩ (.int .i64 ((I l0 aJ).f0))).setCell ⟨cK,1,none⟩ (.int .i64 ((I l0 aJ).f1))).setCell ⟨cK,2,none⟩ (.int .i64 ((I l0 aJ).f2))).setCell ⟨cK,3,none⟩ (.bool ((I l0 aJ).f3)))=xz at aa ab ac ae⊢
   have au:=aa;have eH:=ab;have dY:=ac;have HB:=ae;clear aa ab ac ae;have aa:=Ah (Kd.al au.out);have ab:=Ah (Z eH.out);have ac:=Ah (Z dY.out);have ae:=Ah (fO HB.out);clear au eH dY HB;have au:=aa;have eH:=ab;have dY:=ac;have HB:=ae;clear aa ab ac ae;have Cr:0≤((cE):Int):=od;have Cs:(cE)<(ar.length:Int):=od;obtain⟨mw,e247,B0,B1,B2,B3⟩:=f6 (Kd.af au.out).2.2 (cE) Cr Cs
   cases e247
   replace Cr:=eq_true Cr;replace Cs:=eq_true Cs;refine iY (n:=10) (S:=fun w'=>w'.cell? ⟨cK,0,none⟩=some (.int .i64 ((I l0 aJ).f0))∧w'.cell? ⟨cK,1,none⟩=some (.int .i64 ((I l0 aJ).f1))∧w'.cell? ⟨cK,2,none⟩=some (.int .i64 ((I l0 aJ).f2))∧w'.cell? ⟨cK,3,none⟩=some (.bool ((I l0 aJ).f3))∧w'.cell? (mw.add (((cE)).toNat*4))=some (.int .i64 ((I ar (cE)).f0))∧w'.cell? ⟨(mw.add (((cE)).toNat*4)).block,(mw.add (((cE)).toNat*4)).off+1,none⟩=some (.int .i64 ((I ar (cE)).f1))∧w'.cell? ⟨(mw.add (((cE)).toNat*4)).block,(mw.add (((cE)).toNat*4)).off+2,none⟩=some (.int .i64 ((I ar (cE)).f2))∧w'.cell? ⟨(mw.add (((cE)).toNat*4)).block,(mw.add (((cE)).toNat*4)).off+3,none⟩=some (.bool ((I ar (cE)).f3))) (ds:=[]) #[false,false,false,false,false,false,false,false,false,false] (by kernel_rfl) rfl rfl ⟨(bC dY.out 0).trans rfl,(bC dY.out 1).trans rfl,(bC dY.out 2).trans rfl,(bC dY.out 3).trans rfl,B0,B1,B2,B3⟩ (fun hHeld=> ?_);refine ig dK.Cp dK.CC (fun X cV=> ?_)
   generalize xz.drew=Wh at au eH dY HB B0 B1 B2 B3 hHeld⊢
   refine aN 0 16 X.out ?_;refine aN 1 17 X.out ?_;refine aN 2 18 X.out ?_;refine aN 3 19 X.out ?_;refine aN 4 20 X.out ?_;refine aN 5 21 X.out ?_;refine eF 6 22 X.out cV.out hHeld (hr:=by rintro w' ⟨s0,s1,s2,s3,s4,s5,s6,s7⟩;go_simp;with_reducible rfl) (h:= ?_);refine eF 7 23 X.out cV.out hHeld (hr:=by rintro w' ⟨s0,s1,s2,s3,s4,s5,s6,s7⟩;go_simp;with_reducible rfl) (h:= ?_);refine ga (i:=8) (N:=some 24) #[true,true,true,true,true,true,true,true,true,false] rfl rfl (fy X.out (by kernel_rfl)) (by decide) (fun K hK=> ?_);refine il Try.func45 (by kernel_rfl) rfl #[.agg #[.int .i64 ((I ar (cE)).f0),.int .i64 ((I ar (cE)).f1),.int .i64 ((I ar (cE)).f2),.bool ((I ar (cE)).f3)],.agg #[.int .i64 ((I l0 aJ).f0),.int .i64 ((I l0 aJ).f1),.int .i64 ((I l0 aJ).f2),.bool ((I l0 aJ).f3)]] (by rfl) rfl rfl (by(try simp only[List.map_toArray,List.map_cons,List.map_nil]);first|done|(simp only[Fc];rfl)|rfl|(simp only[List.length_drop,List.length_take];rfl)) ?_
   with_reducible refine(ss.calls ((I ar (cE)).f0) ((I ar (cE)).f1) ((I ar (cE)).f2) ((I ar (cE)).f3) ((I l0 aJ).f0) ((I l0 aJ).f1) ((I l0 aJ).f2) ((I l0 aJ).f3) true _ yA.out).mono ?_
   rintro e jl ⟨rfl,hb⟩;have rN:=(hb.cell (LA _ _ (hHeld.2.2.2.2.1))).trans (hHeld.2.2.2.2.1);have Ct:=(hb.cell (LA _ _ (hHeld.2.2.2.2.2.1))).trans (hHeld.2.2.2.2.2.1);have Cu:=(hb.cell (LA _ _ (hHeld.2.2.2.2.2.2.1))).trans (hHeld.2.2.2.2.2.2.1);have Cv:=(hb.cell (LA _ _ (hHeld.2.2.2.2.2.2.2))).trans (hHeld.2.2.2.2.2.2.2);refine⟨_,rfl, ?_⟩;have aa:=Ah (Kd.eO (rr au.out) hb);have ab:=Ah (bb eH hb);have ac:=Ah (bb dY hb);have ae:=Ah (aK (aW HB kE pT) hb);clear au eH dY HB;have au:=aa;have eH:=ab;have dY:=ac;have HB:=ae;clear aa ab ac ae;(try clear hb);(try clear hb2);(try clear hk);(try clear hi);refine hK.out _ _ ⟨(bC dY.out 0).trans rfl,(bC dY.out 1).trans rfl,(bC dY.out 2).trans rfl,(bC dY.out 3).trans rfl,rN,Ct,Cu,Cv⟩ (fun hHeld=> ?_);clear hK K;refine hU (a':= ?_) ?_ ?_;rotate_left
   ·
    show aab _ (some 24) _=_
    simp only[aab,Ok,bY,dl,cz,dS]
    rfl
   refine aN 9 25 X.out ?_;refine i9 (iD X.out (by kernel_rfl)) ?_
   try go_wp2
   have aa:=Ah (Kd.al au.out);have ab:=Ah (Z eH.out);have ac:=Ah (Z dY.out);have ae:=Ah (fO HB.out);clear au eH dY HB;have au:=aa;have eH:=ab;have dY:=ac;have HB:=ae;clear aa ab ac ae;have Uh:0≤((cE):Int):=od;have Ui:(cE)<(ar.length:Int):=od;obtain⟨ad249,e249,R6,R7,R8,R9⟩:=f6 (Kd.af au.out).2.2 (cE) Uh Ui;obtain rfl:mw=ad249:=(by injection e249);replace Uh:=eq_true Uh;replace Ui:=eq_true Ui;have PW:0≤((cE):Int):=od;have PX:((cE):Int)<((ar.length:Int):Int):=od;obtain⟨sc,Uj,Oc,a4I,gl12,cl12,a4J⟩:=Kd.nW au.out (by omega);(first|cases Oc|(injection Oc with dB iV iW;(first|subst dB|(injection dB with dB;subst dB));subst iW;clear iV));have GB12:=Ah a4I;have GG12:=Ah a4J;clear a4I gl12 a4J;(first|simp only[db]at B0|skip);(first|simp only[db]at B1|skip);(first|simp only[db]at B2|skip);(first|simp only[db]at B3|skip);(first|simp only[db]at R6|skip);(first|simp only[db]at R7|skip);(first|simp only[db]at R8|skip);(first|simp only[db]at R9|skip);obtain⟨ce12,hcl12,a4K,IK,IL⟩:=Kd.hJ au.out rW ((cE):Int) PW PX;obtain rfl:=uf a4K;have hx12_0:aaH _ ⟨sc,((cE):Int).toNat*4,none⟩=some (.int .i64 ((I ar (cE)).f0)):=IK 0 _ rfl;have hx12_1:aaH _ ⟨sc,((cE):Int).toNat*4+1,none⟩=some (.int .i64 ((I ar (cE)).f1)):=IK 1 _ rfl;have hx12_2:aaH _ ⟨sc,((cE):Int).toNat*4+2,none⟩=some (.int .i64 ((I ar (cE)).f2)):=IK 2 _ rfl;have hx12_3:aaH _ ⟨sc,((cE):Int).toNat*4+3,none⟩=some (.bool ((I ar (cE)).f3)):=IK 3 _ rfl;have hf12_0:aaL _ ⟨sc,((cE):Int).toNat*4,none⟩=false:=IL 0;have hf12_1:aaL _ ⟨sc,((cE):Int).toNat*4+1,none⟩=false:=IL 1;have hf12_2:aaL _ ⟨sc,((cE):Int).toNat*4+2,none⟩=false:=IL 2;have hf12_3:aaL _ ⟨sc,((cE):Int).toNat*4+3,none⟩=false:=IL 3;clear hcl12 IK IL a4K;replace PW:=eq_true PW;replace PX:=eq_true PX;obtain⟨ce21,IM,K1,F4,NP⟩:=Kd.hJ au.out rW ((cE):Int) (od) (by have h_:((cE):Int)<((ar.length:Int):Int):=od;first|exact h_|(have e_:=(Kd.af au.out).1;omega)|simpa using h_);obtain rfl:=uf K1;have zm:=(Kd.lT au.out ((cE):Int) (od) (by have h_:((cE):Int)<((ar.length:Int):Int):=od;first|exact h_|(have e_:=(Kd.af au.out).1;omega)|simpa using h_) (seg:=[.int .i64 (LS (((I ar (cE)).f1)+((I l0 aJ).f1)))]) (j:=1) IM F4 (show 2≤4 from by decide) (x':=(⟨(I ar (cE)).f0,LS (((I ar (cE)).f1)+((I l0 aJ).f1)),(I ar (cE)).f2,(I ar (cE)).f3⟩:a7)) (jp _ _ _ (⟨(I ar (cE)).f0,LS (((I ar (cE)).f1)+((I l0 aJ).f1)),(I ar (cE)).f2,(I ar (cE)).f3⟩:a7)) (fun _ hk=>hk)).1;rw[←Ny250.out]at zm;have a4L:=Ah zm;clear IM F4 NP K1 zm;refine iY (n:=11) (S:=fun w'=>w'.cell? ⟨cK,0,none⟩=some (.int .i64 ((I l0 aJ).f0))∧w'.cell? ⟨cK,1,none⟩=some (.int .i64 ((I l0 aJ).f1))∧w'.cell? ⟨cK,2,none⟩=some (.int .i64 ((I l0 aJ).f2))∧w'.cell? ⟨cK,3,none⟩=some (.bool ((I l0 aJ).f3))∧w'.cell? ⟨sc,(((cE)).toNat*4),none⟩=some (.int .i64 ((I ar (cE)).f0))∧w'.cell? ⟨sc,(((cE)).toNat*4)+1,none⟩=some (.int .i64 ((I ar (cE)).f1))∧w'.cell? ⟨sc,(((cE)).toNat*4)+2,none⟩=some (.int .i64 ((I ar (cE)).f2))∧w'.cell? ⟨sc,(((cE)).toNat*4)+3,none⟩=some (.bool ((I ar (cE)).f3))) (ds:=[10]) #[false,false,false,false,false,false,false,false,false,false,false] (by kernel_rfl) rfl rfl ⟨(bC dY.out 0).trans rfl,(bC dY.out 1).trans rfl,(bC dY.out 2).trans rfl,(bC dY.out 3).trans rfl,R6,R7,R8,R9⟩ (fun hHeld=> ?_);refine ig dK.Cq dK.CD (fun X cV=> ?_)
   generalize jl.drew=vm at au eH dY HB GG12 a4L hf12_0 hf12_1 hf12_2 hf12_3 hx12_0 hx12_1 hx12_2 hx12_3 B0 B1 B2 B3 R6 R7 R8 R9 hHeld⊢
   refine aN 0 26 X.out ?_;refine aN 1 27 X.out ?_;refine aN 2 28 X.out ?_;refine aN 3 29 X.out ?_;refine aN 5 31 X.out ?_;refine eF 4 30 X.out cV.out hHeld (hr:=by rintro w' ⟨s0,s1,s2,s3,s4,s5,s6,s7⟩;go_simp;with_reducible rfl) (h:= ?_);refine eF 6 32 X.out cV.out hHeld (hr:=by rintro w' ⟨s0,s1,s2,s3,s4,s5,s6,s7⟩;go_simp;with_reducible rfl) (h:= ?_);refine aN 7 33 X.out ?_;refine aN 8 34 X.out ?_;refine aN 9 35 X.out ?_;refine Hy (i:=10) (N:=none) #[true,true,true,true,true,true,true,true,true,true,true] rfl rfl (fy X.out (by kernel_rfl)) (by decide) (fun K hK=> ?_);refine oG (w1:= ?_) (by rfl) rfl ?_ ?_;rotate_left
   ·
    go_simp
    rfl
   refine hK.out _ _ ?_;clear hK K;refine i9 (iD X.out (by kernel_rfl)) ?_
   try go_wp2
   go_roundg k1
   case measure=>have:=bU.out;omega
   case rel=>exact⟨(a4H),(LS (aJ+1)),e3,H',⟨by have:=bU.out;omega⟩,⟨by(with_reducible repeat(first|apply Kd.bG|apply Kd.bE|apply Kd.al));exact Kd.aY a4L.out (fun _ hk=>trivial)⟩,⟨by(with_reducible repeat(first|refine aD ?_ _|refine Z ?_|refine aC ?_ _));refine gc ?_ (by have h_:=Kd.eD au.out eH.out (by decide);intro e_;exact h_ (by rw[e_];rfl)) _;(with_reducible repeat(first|refine aD ?_ _|refine Z ?_|refine aC ?_ _));exact eH.out⟩,⟨bX HB GB12 kE pT⟩⟩
mutual
def eY.j0:Nat→Int→Int→Bool→List (a7)→Option ((List (a7))×Bool)
 |0,_,_,_,_=>none
 |k+1,x1,x2,eN,x258000=>if eN=true then(some (([]:List (a7)),false))else((dC.f k x258000 x1 x2).bind fun St=>(eY.l0 k x2 St.1 0 St.2 (St.2.length:Int) 0))
def eY.l0:Nat→Int→List (a7)→Int→List (a7)→Int→Int→Option ((List (a7))×Bool)
 |0,_,_,_,_,_,_=>none
 |k+1,x2,x8,cG,x32,xo,x34=>if x34<xo then(if 0≤x34 then(if x34<(x32.length:Int)then((gW.f k x8 ((I x32 x34).f0) ((I x32 x34).f1) ((I x32 x34).f2) false).bind fun Od=>(eY.l0 k x2 Od (LS (cG+((I x32 x34).f1))) x32 xo (LS (x34+1))))else(none))else(none))else((dK.f k x8).bind fun sd=>(if cG=x2 then((br.f k sd).bind fun Uk=>(if Uk=true then(some (sd,true))else(some (([]:List (a7)),false))))else(some (([]:List (a7)),false))))
end
def eY.f(k:Nat)(J:List (a7))(a1:Int)(a2:Int):Option ((List (a7))×Bool):=(br.f k J).bind fun K2=>(if K2=true then((sr.f a1 a2).bind fun Fd=>(eY.j0 k a1 a2 (!Fd) J))else(eY.j0 k a1 a2 true J))
theorem eY.dL:∀k,(∀y0 y1 y2 y3,aG (eY.j0 k y0 y1 y2 y3) (eY.j0 (k+1) y0 y1 y2 y3))∧(∀y0 y1 y2 y3 y4 y5,aG (eY.l0 k y0 y1 y2 y3 y4 y5) (eY.l0 (k+1) y0 y1 y2 y3 y4 y5))
 |0=>⟨fun _ _ _ _ r h=>by simp[eY.j0]at h,fun _ _ _ _ _ _ r h=>by simp[eY.l0]at h⟩
 |k+1=>by
  obtain⟨bw,ih1⟩:=eY.dL k
  refine⟨?_, ?_⟩<;>intros<;>first|unfold eY.j0|unfold eY.l0
  all_goals repeat' first
   |(with_reducible exact bw _ _ _ _)
   |(with_reducible exact ih1 _ _ _ _ _ _)
   |(with_reducible exact br.mono _ _)
   |(with_reducible exact dC.mono _ _ _ _)
   |(with_reducible exact dK.mono _ _)
   |(with_reducible exact gW.mono _ _ _ _ _ _)
   |(with_reducible exact aG.refl _)
   |(with_reducible exact aG.none _)
   |(with_reducible refine aG.ite ?_ ?_)
   |(with_reducible refine aG.bind ?_ (fun _=> ?_))
   |exact bw _ _ _ _
   |exact ih1 _ _ _ _ _ _
   |exact br.mono _ _
   |exact dC.mono _ _ _ _
   |exact dK.mono _ _
   |exact gW.mono _ _ _ _ _ _
   |exact aG.none _
   |refine aG.ite ?_ ?_
   |refine aG.bind ?_ (fun _=> ?_)
theorem eY.mono:∀a0 a1 a2 k,aG (eY.f k a0 a1 a2) (eY.f (k+1) a0 a1 a2):=by
 intro a0 a1 a2 k;obtain⟨bw,ih1⟩:=eY.dL k;unfold eY.f
 repeat' with_reducible first|exact bw _ _ _ _|exact ih1 _ _ _ _ _ _|exact br.mono _ _|exact dC.mono _ _ _ _|exact dK.mono _ _|exact gW.mono _ _ _ _ _ _|exact aG.refl _|exact aG.none _|refine aG.ite ?_ ?_|refine aG.bind ?_ (fun _=> ?_)
set_option maxHeartbeats 8000000 in
set_option maxRecDepth 100000 in
theorem eY.calls(k:Nat)(bS:Option Addr)(bL:Nat)(J:List (a7))(a1:Int)(a2:Int)(r1:List (a7))(r2:Bool)(w:World)(fT:Kd.C b7 w bS J.length J)(fU:J.length≤bL)(h:eY.f k J a1 a2=some (r1,r2)):
 Calls aad 15 #[.agg #[.slice bS J.length bL],.int .i64 a1,.int .i64 a2] w fun e w'=>∃da:Value,e= .returned (.tuple #[.agg #[da],.bool r2])∧Kd.R b7 65 w' w.heap.size (fun _=>True) da r1∧Below w.heap.size w w':=by
 have kJ:=ua;have mA:=aay;have cY:=Ah fT;have dw:=Ah fU;clear fT fU;have HB:=Ah (aaa w.heap.size w);have H:((br.f k J).bind fun K2=>(if K2=true then((sr.f a1 a2).bind fun Fd=>(eY.j0 k a1 a2 (!Fd) J))else(eY.j0 k a1 a2 true J)))=some (r1,r2):=h;clear h;have Du:=Ah H;clear H
 go_enter Try.func15,Try.ntmps15
 go_upto_region 1 with(first|((with_reducible refine ax (N:=3) rfl ?_);refine bA 3 25 #[.slice bS J.length bL] ?_;intro a1w hg w5 f8 hb;have GW257:=gw hg (bs HB);have gY:=gw hg (bs HB);replace HB:=Ah (aK (bs HB) hb);clear hb hg)|((with_reducible refine ax (N:=6) rfl ?_);refine bA 6 25 #[.slice none 0 0] ?_;intro CE hg w6 ek hb;have GW258:=gw hg (aH HB gY);have gp:=gw hg (aH HB gY);replace HB:=Ah (aK (aH HB gY) hb);have AZ:=nn f8 hg;have Aa:=nm f8 hg;replace f8:=nb f8 hb;clear hb hg))
 (try simp only[aab,Ok,bY,dl])
 go_cut [22] (fun v22 wc=>∃ (kq:Nat) (NQ:Bool),v22= .bool NQ∧U (eY.j0 kq a1 a2 NQ J=some (r1,r2))∧U (kq≤k)∧U (wc.heap[a1w]?=some (.cells #[(.slice bS J.length bL)] 25 (0,0)))∧U (wc.heap[CE]?=some (.cells #[(.slice none 0 0)] 25 (0,0)))∧U (Below w.heap.size w wc))
 case first=>
  have H:=Du.out;clear Du;replace H:=LT.mp H;obtain⟨K2,kb,H⟩:=H
  try dsimp only at H
  have A7:=Ah kb;clear kb
  by_cases c8:K2=true
  rotate_left
  ·
   replace c8:=dn.mpr c8;subst c8;rw[if_neg dV]at H;have H':=Ah H;clear H;have a1m:=AZ.out;have a1n:=Aa.out;have yh:=ap f8;have yi:=an f8
   go_wp2_with (first|((with_reducible refine bJ (f:=26) rfl ?_);refine gL (some 15) rfl rfl abh (by kernel_rfl) rfl #[.agg #[.slice bS J.length bL]] rfl ?_;(with_reducible refine(br.calls k _ _ J false _ ?a8 ?a9 A7.out).mono ?_);(case a8=>exact cb cY HB);(case a9=>exact dw.out);rintro e LG ⟨rfl,hb⟩;refine⟨_,rfl, ?_⟩;replace f8:=nb f8 hb;replace ek:=nb ek hb;replace HB:=Ah (aK (aW HB gY gp) hb);(try clear hb)))
   go_meet
   case rel=>exact⟨_,(true),e3,H',⟨by first|omega|exact bx _⟩,⟨bk f8⟩,⟨bk ek⟩,⟨aW HB gY gp⟩⟩
  subst c8;rw[if_pos rfl]at H;replace H:=LT.mp H;obtain⟨Fd,AL,H⟩:=H
  try dsimp only at H
  have A9:=Ah AL;clear AL;have H':=Ah H;clear H;have SW:=AZ.out;have SX:=Aa.out;have lx:=ap f8;have ly:=an f8
  go_wp2_with (first|((with_reducible refine bJ (f:=26) rfl ?_);refine gL (some 15) rfl rfl abh (by kernel_rfl) rfl #[.agg #[.slice bS J.length bL]] rfl ?_;(with_reducible refine(br.calls k _ _ J true _ ?a8 ?a9 A7.out).mono ?_);(case a8=>exact cb cY HB);(case a9=>exact dw.out);rintro e G9 ⟨rfl,hb⟩;refine⟨_,rfl, ?_⟩;replace f8:=nb f8 hb;replace ek:=nb ek hb;replace HB:=Ah (aK (aW HB gY gp) hb);(try clear hb))|(go_at_call 27;(with_reducible refine(sr.calls a1 a2 Fd _ A9.out).mono ?_);rintro e w' ⟨rfl,⟨nd,rfl⟩⟩))
  go_meet
  case rel=>exact⟨_,(!Fd),e3,H',⟨by first|omega|exact bx _⟩,⟨bk f8⟩,⟨bk ek⟩,⟨aW HB gY gp⟩⟩
 case rest=>
  clear Du
  try clear c1
  try clear c2
  try clear p2
  try clear c8
  try clear c10
  try clear c13
  try clear c15
  try clear lx
  try clear yh
  try clear ly
  try clear yi
  obtain⟨kq,NQ,rfl,HA,Wl,f8,ek,HB⟩:=hcut
  cases kq with
  |zero=>exact absurd HA.out (by simp[eY.j0])
  |succ xx=>
   have H:=HA.out;clear HA;simp only[eY.j0]at H
   by_cases c16:NQ=true
   ·
    subst c16;rw[if_pos rfl]at H;simp only[j4,ub]at H;obtain⟨rfl,rfl⟩:=H;have zE:=Aa.out;have zF:=AZ.out;have sA:=ap ek;have sB:=an ek
    go_wp2
    refine bodyPost_ret (mm rfl _ _ CE 25 #[.slice none 0 0] (0,0) _ rfl (by(with_reducible repeat(first|refine aD ?_ _|refine Z ?_|refine aC ?_ _));refine aj (cs:= #[.slice none 0 0]) ?_ 0 _ rfl;(with_reducible repeat(first|refine aD ?_ _|refine Z ?_|refine aC ?_ _));exact ek.out) ua rfl (by kernel_rfl)) rfl ?_;exact⟨_,er,by first|exact Kd.fk _ _ _ _ _|exact Kd.iI _ _ _ _ _|exact Kd.iJ _ _ _ _ _|exact Kd.iG _ _ _ _ _|exact Kd.iH _ _ _ _ _,aW HB gY gp⟩
   replace c16:=dn.mpr c16;subst c16;rw[if_neg dV]at H;replace H:=LT.mp H;obtain⟨⟨a4M,dk⟩,Jv,H⟩:=H
   try dsimp only at H
   have PQ:=Ah Jv;clear Jv;have H':=Ah H;clear H;have hnb20:=AZ.out;have hnc20:=Aa.out;have RA:=ap f8;have RB:=an f8
   go_wp2_with (first|((with_reducible refine bJ (f:=28) rfl ?_);refine gL (some 29) rfl rfl Try.func28 (by kernel_rfl) rfl #[.slice bS J.length bL,.int .i64 a1,.int .i64 a2] rfl ?_;(with_reducible refine(dC.calls xx _ _ J a1 a2 a4M dk _ ?a8 ?a9 PQ.out).mono ?_);(case a8=>exact cb cY HB);(case a9=>exact dw.out);rintro e kt ⟨v263,v265,rfl,ho0,ho1,hb⟩;refine⟨_,rfl, ?_⟩;have HO264:=Ah (Kd.dD ho0 (be (aW HB gY gp)));have a1x:=Ah (Kd.dD ho1 (be (aW HB gY gp)));replace f8:=nb f8 hb;replace ek:=nb ek hb;replace HB:=Ah (aK (aW HB gY gp) hb);(try clear hb ho0 ho1);obtain⟨Oe,mb,Fe⟩:=Kd.bq a1x.out;subst Fe))
   go_loopg [8,10,34] xx (fun kq v8 v10 v34 w'=>∃ (se:List (a7)) (wx:Int) (de:Int),v10= .int .i64 wx∧v34= .int .i64 de∧U (eY.l0 kq a2 se wx dk (dk.length:Int) de=some (r1,r2))∧U (kq≤xx)∧U (Kd.R b7 65 w' w.heap.size (fun k_=>some k_≠((.slice Oe dk.length mb):Value).ownBlock) v8 se)∧U (Kd.R b7 65 w' w.heap.size (fun k_=>some k_≠(v8:Value).ownBlock) (.slice Oe dk.length mb) dk)∧U (w'.heap[a1w]?=some (.cells #[(.slice bS J.length bL)] 25 (0,0)))∧U (w'.heap[CE]?=some (.cells #[(.slice none 0 0)] 25 (0,0)))∧U (Below w.heap.size w w'))
   case atStart=>exact⟨(a4M),(0),(0),e3,e3,H',⟨bx _⟩,⟨rr HO264.out⟩,⟨rr a1x.out⟩,⟨bk f8⟩,⟨bk ek⟩,⟨aW HB gY gp⟩⟩
   case round=>
    clear H'
    try clear c1
    try clear c2
    try clear p2
    try clear c8
    try clear c10
    try clear c13
    try clear c15
    try clear c16
    try clear c17
    try clear c20
    try clear lx
    try clear yh
    try clear sA
    try clear RA
    try clear ly
    try clear yi
    try clear sB
    try clear RB
    try clear p2
    obtain⟨se,wx,de,rfl,rfl,HA,eg,cq,jY,f8,ek,HB⟩:=hrel
    cases gk with
    |zero=>exact absurd HA.out (by simp[eY.l0])
    |succ k2=>
     have H:=HA.out;clear HA;simp only[eY.l0]at H
     by_cases c24:de<(dk.length:Int)
     ·
      rw[if_pos c24]at H;have lU:decide (de<(dk.length:Int))=true:=decide_eq_true c24;clear c24
      by_cases ix:0≤de
      rotate_left
      ·
       rw[if_neg ix]at H;exact absurd H (by simp)
      rw[if_pos ix]at H;have F5:decide (0≤de)=true:=decide_eq_true ix;clear ix
      by_cases i3:de<(dk.length:Int)
      rotate_left
      ·
       rw[if_neg i3]at H;exact absurd H (by simp)
      rw[if_pos i3]at H;have Sf:decide (de<(dk.length:Int))=true:=decide_eq_true i3;clear i3;replace H:=LT.mp H;obtain⟨Od,pl,H⟩:=H
      try dsimp only at H
      have xq:=Ah pl;clear pl;have H':=Ah H;clear H;have Ul:0≤(de:Int):=od;have Um:de<(dk.length:Int):=od;obtain⟨ad267,e267,hx267_0,hx267_1,hx267_2,hx267_3⟩:=f6 (Kd.af jY.out).2.2 de Ul Um
      cases e267
      replace Ul:=eq_true Ul;replace Um:=eq_true Um
      go_wp2_with (first|((with_reducible refine ax (N:=12) rfl ?_);refine bA 12 65 #[.int .i64 0,.int .i64 0,.int .i64 0,.bool false] ?_;intro gq hg GB IN hb;replace cq:=Ah (Kd.eO (Kd.gD (rr cq.out) gq (aaj hg.symm)) hb);replace jY:=Ah (Kd.eO (Kd.gD (rr jY.out) gq (aaj hg.symm)) hb);have GW268:=gw hg (aW HB gY gp);have Su:=gw hg (aW HB gY gp);replace HB:=Ah (aK (aW HB gY gp) hb);have Y3:=nn f8 hg;have NB268_257:=nm f8 hg;replace f8:=nb f8 hb;have Y4:=nn ek hg;have NB268_258:=nm ek hg;replace ek:=nb ek hb;clear hb hg;have NA:=NB268_257.out;have NB:=Y3.out;have a1y:=NB268_258.out;have a1z:=Y4.out;obtain⟨H9,Qw,Qx,Qy⟩:=cA IN;obtain⟨HC,Qz,R0,R1⟩:=cB IN;obtain⟨Ao32,a4N,eo32⟩:=Kd.bq cq.out;subst eo32)|((with_reducible refine bJ (f:=35) rfl ?_);refine gL (some 45) rfl rfl Try.func35 (by kernel_rfl) rfl #[.slice Ao32 se.length a4N,.agg #[.int .i64 ((I dk de).f0),.int .i64 ((I dk de).f1),.int .i64 ((I dk de).f2),.bool false]] rfl ?_;(with_reducible refine(gW.calls k2 _ _ se ((I dk de).f0) ((I dk de).f1) ((I dk de).f2) false Od _ ?a8 ?a9 xq.out).mono ?_);(case a8=>refine(Kd.af (e:=65) (base:=w.heap.size) (ok:=fun k_=>(some k_≠(.slice (some ad267) dk.length mb:Value).ownBlock∧k_≠gq)) (n:=se.length) (c:=a4N) ?_).2.2;exact(by(with_reducible repeat(first|apply Kd.bG|apply Kd.bE|apply Kd.al));exact(Kd.aY (Kd.aQ (p:=⟨gq,3,none⟩) (Kd.aQ (p:=⟨gq,3,none⟩) (Kd.aQ (p:=⟨gq,2,none⟩) (Kd.aQ (p:=⟨gq,1,none⟩) (Kd.aQ (p:=⟨gq,0,none⟩) (Kd.aY cq.out (fun k_ hk=>(⟨hk,hk.2⟩:_∧k_≠gq))) (fun _ hk=>hk.2) (.int .i64 ((I dk de).f0))) (fun _ hk=>hk.2) (.int .i64 ((I dk de).f1))) (fun _ hk=>hk.2) (.int .i64 ((I dk de).f2))) (fun _ hk=>hk.2) (.bool ((I dk de).f3))) (fun _ hk=>hk.2) (.bool false)) (fun _ h_=>h_.1))));(case a9=>exact(Kd.af cq.out).2.1);rintro e q9 ⟨v270,rfl,ho0,hb⟩;refine⟨_,rfl, ?_⟩;have HO271:=Ah (Kd.dD (Kd.qn (Kd.ec (Kd.ec ho0 (Kd.dU (by(with_reducible repeat(first|apply Kd.bG|apply Kd.bE|apply Kd.al));exact(Kd.aY (Kd.aQ (p:=⟨gq,3,none⟩) (Kd.aQ (p:=⟨gq,3,none⟩) (Kd.aQ (p:=⟨gq,2,none⟩) (Kd.aQ (p:=⟨gq,1,none⟩) (Kd.aQ (p:=⟨gq,0,none⟩) (Kd.aY cq.out (fun k_ hk=>(⟨hk,hk.2⟩:_∧k_≠gq))) (fun _ hk=>hk.2) (.int .i64 ((I dk de).f0))) (fun _ hk=>hk.2) (.int .i64 ((I dk de).f1))) (fun _ hk=>hk.2) (.int .i64 ((I dk de).f2))) (fun _ hk=>hk.2) (.bool ((I dk de).f3))) (fun _ hk=>hk.2) (.bool false)) (fun _ h_=>h_.1))))) (Kd.dU (by(with_reducible repeat(first|apply Kd.bG|apply Kd.bE|apply Kd.al));exact(Kd.aY (Kd.aQ (p:=⟨gq,3,none⟩) (Kd.aQ (p:=⟨gq,3,none⟩) (Kd.aQ (p:=⟨gq,2,none⟩) (Kd.aQ (p:=⟨gq,1,none⟩) (Kd.aQ (p:=⟨gq,0,none⟩) (Kd.aY jY.out (fun k_ hk=>(⟨hk,hk.2⟩:_∧k_≠gq))) (fun _ hk=>hk.2) (.int .i64 ((I dk de).f0))) (fun _ hk=>hk.2) (.int .i64 ((I dk de).f1))) (fun _ hk=>hk.2) (.int .i64 ((I dk de).f2))) (fun _ hk=>hk.2) (.bool ((I dk de).f3))) (fun _ hk=>hk.2) (.bool false)) (fun _ h_=>h_.1))))) (g:=gq) (o:= .cells #[.int .i64 ((I dk de).f0),.int .i64 ((I dk de).f1),.int .i64 ((I dk de).f2),.bool false] 65 (0,0)) (by(with_reducible repeat(first|refine aD ?_ _|refine Z ?_|refine aC ?_ _));refine aj (cs:= #[.int .i64 ((I dk de).f0),.int .i64 ((I dk de).f1),.int .i64 ((I dk de).f2),.bool ((I dk de).f3)]) ?_ 3 _ rfl;(with_reducible repeat(first|refine aD ?_ _|refine Z ?_|refine aC ?_ _));refine aj (cs:= #[.int .i64 ((I dk de).f0),.int .i64 ((I dk de).f1),.int .i64 ((I dk de).f2),.bool false]) ?_ 3 _ rfl;(with_reducible repeat(first|refine aD ?_ _|refine Z ?_|refine aC ?_ _));refine aj (cs:= #[.int .i64 ((I dk de).f0),.int .i64 ((I dk de).f1),.int .i64 0,.bool false]) ?_ 2 _ rfl;(with_reducible repeat(first|refine aD ?_ _|refine Z ?_|refine aC ?_ _));refine aj (cs:= #[.int .i64 ((I dk de).f0),.int .i64 0,.int .i64 0,.bool false]) ?_ 1 _ rfl;(with_reducible repeat(first|refine aD ?_ _|refine Z ?_|refine aC ?_ _));refine aj (cs:= #[.int .i64 0,.int .i64 0,.int .i64 0,.bool false]) ?_ 0 _ rfl;(with_reducible repeat(first|refine aD ?_ _|refine Z ?_|refine aC ?_ _));exact IN.out)) (be (bX HB gY gp Su)));replace cq:=Ah (Kd.eZ (by(with_reducible repeat(first|apply Kd.bG|apply Kd.bE|apply Kd.al));exact(Kd.aY (Kd.aQ (p:=⟨gq,3,none⟩) (Kd.aQ (p:=⟨gq,3,none⟩) (Kd.aQ (p:=⟨gq,2,none⟩) (Kd.aQ (p:=⟨gq,1,none⟩) (Kd.aQ (p:=⟨gq,0,none⟩) (Kd.aY cq.out (fun k_ hk=>(⟨hk,hk.2⟩:_∧k_≠gq))) (fun _ hk=>hk.2) (.int .i64 ((I dk de).f0))) (fun _ hk=>hk.2) (.int .i64 ((I dk de).f1))) (fun _ hk=>hk.2) (.int .i64 ((I dk de).f2))) (fun _ hk=>hk.2) (.bool ((I dk de).f3))) (fun _ hk=>hk.2) (.bool false)) (fun _ h_=>h_.1))) (Kd.eX ho0) hb);replace jY:=Ah (Kd.eZ (by(with_reducible repeat(first|apply Kd.bG|apply Kd.bE|apply Kd.al));exact(Kd.aY (Kd.aQ (p:=⟨gq,3,none⟩) (Kd.aQ (p:=⟨gq,3,none⟩) (Kd.aQ (p:=⟨gq,2,none⟩) (Kd.aQ (p:=⟨gq,1,none⟩) (Kd.aQ (p:=⟨gq,0,none⟩) (Kd.aY jY.out (fun k_ hk=>(⟨hk,hk.2⟩:_∧k_≠gq))) (fun _ hk=>hk.2) (.int .i64 ((I dk de).f0))) (fun _ hk=>hk.2) (.int .i64 ((I dk de).f1))) (fun _ hk=>hk.2) (.int .i64 ((I dk de).f2))) (fun _ hk=>hk.2) (.bool ((I dk de).f3))) (fun _ hk=>hk.2) (.bool false)) (fun _ h_=>h_.1))) (Kd.eX ho0) hb);replace f8:=Ah (cC (bf f8 Y3) hb);replace ek:=Ah (cC (bf ek Y4) hb);replace IN:=Ah (cC (g:=gq) (o:= .cells #[.int .i64 ((I dk de).f0),.int .i64 ((I dk de).f1),.int .i64 ((I dk de).f2),.bool false] 65 (0,0)) (by(with_reducible repeat(first|refine aD ?_ _|refine Z ?_|refine aC ?_ _));refine aj (cs:= #[.int .i64 ((I dk de).f0),.int .i64 ((I dk de).f1),.int .i64 ((I dk de).f2),.bool ((I dk de).f3)]) ?_ 3 _ rfl;(with_reducible repeat(first|refine aD ?_ _|refine Z ?_|refine aC ?_ _));refine aj (cs:= #[.int .i64 ((I dk de).f0),.int .i64 ((I dk de).f1),.int .i64 ((I dk de).f2),.bool false]) ?_ 3 _ rfl;(with_reducible repeat(first|refine aD ?_ _|refine Z ?_|refine aC ?_ _));refine aj (cs:= #[.int .i64 ((I dk de).f0),.int .i64 ((I dk de).f1),.int .i64 0,.bool false]) ?_ 2 _ rfl;(with_reducible repeat(first|refine aD ?_ _|refine Z ?_|refine aC ?_ _));refine aj (cs:= #[.int .i64 ((I dk de).f0),.int .i64 0,.int .i64 0,.bool false]) ?_ 1 _ rfl;(with_reducible repeat(first|refine aD ?_ _|refine Z ?_|refine aC ?_ _));refine aj (cs:= #[.int .i64 0,.int .i64 0,.int .i64 0,.bool false]) ?_ 0 _ rfl;(with_reducible repeat(first|refine aD ?_ _|refine Z ?_|refine aC ?_ _));exact IN.out) hb);replace HB:=Ah (aK (bX HB gY gp Su) hb);(try clear hb hk ho0)))
      go_roundg k2
      case measure=>have:=Wl.out;have:=eg.out;omega
      case rel=>exact⟨(Od),(LS (wx+((I dk de).f1))),(LS (de+1)),e3,e3,H',⟨by have:=Wl.out;have:=eg.out;omega⟩,rm HO271 (fun _ hk=>hk.1.2),rm jY (fun _ hk=>hk.2),⟨bk f8⟩,⟨bk ek⟩,⟨bX HB gY gp Su⟩⟩
     rw[if_neg c24]at H;have lU:decide (de<(dk.length:Int))=false:=decide_eq_false c24;clear c24;replace H:=LT.mp H;obtain⟨sd,a4O,H⟩:=H
     try dsimp only at H
     have Wm:=Ah a4O;clear a4O
     by_cases AN:wx=a2
     rotate_left
     ·
      rw[if_neg AN]at H;have Sv:(wx==a2)=false:=beq_eq_false_iff_ne.mpr AN;have c35b1:(wx !=a2)=true:=bne_iff_ne.mpr AN;simp only[j4,ub]at H;obtain⟨rfl,rfl⟩:=H;obtain⟨Of,Og,Un⟩:=Kd.bq cq.out;subst Un
      go_wp2_with (first|((with_reducible refine bJ (f:=36) rfl ?_);refine gL (some 48) rfl rfl Try.func36 (by kernel_rfl) rfl #[.slice Of se.length Og] rfl ?_;(with_reducible refine(dK.calls k2 _ _ se sd _ ?a8 ?a9 Wm.out).mono ?_);(case a8=>exact fB cq);(case a9=>exact(Kd.af cq.out).2.1);rintro e Wn ⟨a4P,rfl,ho0,hb⟩;refine⟨_,rfl, ?_⟩;have lW:=Ah (Kd.dD (Kd.ec (Kd.ec ho0 (Kd.dU (rr cq.out))) (Kd.dU (rr jY.out))) (be (aW HB gY gp)));replace cq:=Ah (Kd.eZ (rr cq.out) (Kd.eX ho0) hb);replace jY:=Ah (Kd.eZ (rr jY.out) (Kd.eX ho0) hb);replace f8:=nb f8 hb;replace ek:=nb ek hb;replace HB:=Ah (aK (aW HB gY gp) hb);(try clear hb ho0))|((with_reducible refine ax (N:=13) rfl ?_);refine bA 13 25 #[.slice none 0 0] ?_;intro NR hg GA km hb;replace cq:=nr cq hb;replace jY:=nr jY hb;replace lW:=nr lW hb;have a1A:=gw hg (aW HB gY gp);have CF:=gw hg (aW HB gY gp);replace HB:=Ah (aK (aW HB gY gp) hb);have Ab:=nn f8 hg;have GZ:=nm f8 hg;replace f8:=nb f8 hb;have yI:=nn ek hg;have Ga:=nm ek hg;replace ek:=nb ek hb;clear hb hg;obtain⟨Ao62,co62,eo62⟩:=Kd.bq lW.out;subst eo62;have a0Q:=GZ.out;have a0R:=Ab.out;have SN:=Ga.out;have SO:=yI.out;have uw:=ap km;have uz:=an km;have hnb66:=Aa.out;have hnc66:=AZ.out;have hcz67_0:=ap ek;have hfz67_0:=an ek))
      refine bodyPost_ret (mm rfl _ _ CE 25 #[.slice none 0 0] (0,0) _ rfl (by(with_reducible repeat(first|refine aD ?_ _|refine Z ?_|refine aC ?_ _));refine aj (cs:= #[.slice none 0 0]) ?_ 0 _ rfl;(with_reducible repeat(first|refine aD ?_ _|refine Z ?_|refine aC ?_ _));refine gc ?_ yI.out _;(with_reducible repeat(first|refine aD ?_ _|refine Z ?_|refine aC ?_ _));exact ek.out) ua rfl (by kernel_rfl)) rfl ?_;exact⟨_,er,by first|exact Kd.fk _ _ _ _ _|exact Kd.iI _ _ _ _ _|exact Kd.iJ _ _ _ _ _|exact Kd.iG _ _ _ _ _|exact Kd.iH _ _ _ _ _,bX HB gY gp CF⟩
     rw[if_pos AN]at H;have Sv:(wx==a2)=true:=beq_iff_eq.mpr AN;have c35b1:(wx !=a2)=false:=bne_eq_false_iff_eq.mpr AN;clear AN;replace H:=LT.mp H;obtain⟨Uk,a4Q,H⟩:=H
     try dsimp only at H
     have A36:=Ah a4Q;clear a4Q
     by_cases c37:Uk=true
     rotate_left
     ·
      replace c37:=dn.mpr c37;subst c37;rw[if_neg dV]at H;simp only[j4,ub]at H;obtain⟨rfl,rfl⟩:=H;obtain⟨Ao49,co49,eo49⟩:=Kd.bq cq.out;subst eo49
      go_wp2_with (first|((with_reducible refine bJ (f:=36) rfl ?_);refine gL (some 48) rfl rfl Try.func36 (by kernel_rfl) rfl #[.slice Ao49 se.length co49] rfl ?_;(with_reducible refine(dK.calls k2 _ _ se sd _ ?a8 ?a9 Wm.out).mono ?_);(case a8=>exact fB cq);(case a9=>exact(Kd.af cq.out).2.1);rintro e w50 ⟨a4P,rfl,ho0,hb⟩;refine⟨_,rfl, ?_⟩;have lW:=Ah (Kd.dD (Kd.ec (Kd.ec ho0 (Kd.dU (rr cq.out))) (Kd.dU (rr jY.out))) (be (aW HB gY gp)));replace cq:=Ah (Kd.eZ (rr cq.out) (Kd.eX ho0) hb);replace jY:=Ah (Kd.eZ (rr jY.out) (Kd.eX ho0) hb);replace f8:=nb f8 hb;replace ek:=nb ek hb;replace HB:=Ah (aK (aW HB gY gp) hb);(try clear hb ho0))|((with_reducible refine ax (N:=13) rfl ?_);refine bA 13 25 #[.slice none 0 0] ?_;intro NR hg Wj km hb;replace cq:=nr cq hb;replace jY:=nr jY hb;replace lW:=nr lW hb;have a1A:=gw hg (aW HB gY gp);have CF:=gw hg (aW HB gY gp);replace HB:=Ah (aK (aW HB gY gp) hb);have Ab:=nn f8 hg;have GZ:=nm f8 hg;replace f8:=nb f8 hb;have yI:=nn ek hg;have Ga:=nm ek hg;replace ek:=nb ek hb;clear hb hg;obtain⟨Ao52,co52,eo52⟩:=Kd.bq lW.out;subst eo52;have a1B:=GZ.out;have a1C:=Ab.out;have hnb54:=Ga.out;have hnc54:=yI.out;have ry:=ap km;have rz:=an km)|(go_at_call 26;(with_reducible refine(br.calls k2 _ _ sd false _ ?a8 ?a9 A36.out).mono ?_);(case a8=>exact rc lW km);(case a9=>exact(Kd.af lW.out).2.1);rintro e w56 ⟨rfl,hb⟩;replace cq:=nf cq km hb;replace jY:=nf jY km hb;replace lW:=nf lW km hb;replace f8:=Ah (cC (bf f8 Ab) hb);replace ek:=Ah (cC (bf ek yI) hb);replace km:=Ah (cC (g:=NR) (o:= .cells #[.slice Ao52 sd.length co52] 25 (0,0)) (by(with_reducible repeat(first|refine aD ?_ _|refine Z ?_|refine aC ?_ _));refine aj (cs:= #[.slice none 0 0]) ?_ 0 _ rfl;(with_reducible repeat(first|refine aD ?_ _|refine Z ?_|refine aC ?_ _));exact km.out) hb);replace HB:=Ah (aK (bX HB gY gp CF) hb);(try clear hb);have a1D:=Aa.out;have a1E:=AZ.out;have hcz58_0:=ap ek;have hfz58_0:=an ek))
      refine bodyPost_ret (mm rfl _ _ CE 25 #[.slice none 0 0] (0,0) _ rfl (by(with_reducible repeat(first|refine aD ?_ _|refine Z ?_|refine aC ?_ _));refine aj (cs:= #[.slice none 0 0]) ?_ 0 _ rfl;(with_reducible repeat(first|refine aD ?_ _|refine Z ?_|refine aC ?_ _));exact ek.out) ua rfl (by kernel_rfl)) rfl ?_;exact⟨_,er,by first|exact Kd.fk _ _ _ _ _|exact Kd.iI _ _ _ _ _|exact Kd.iJ _ _ _ _ _|exact Kd.iG _ _ _ _ _|exact Kd.iH _ _ _ _ _,bX HB gY gp CF⟩
     subst c37;rw[if_pos rfl]at H;simp only[j4,ub]at H;obtain⟨rfl,rfl⟩:=H;obtain⟨K3,K4,Oh⟩:=Kd.bq cq.out;subst Oh
     go_wp2_with (first|((with_reducible refine bJ (f:=36) rfl ?_);refine gL (some 48) rfl rfl Try.func36 (by kernel_rfl) rfl #[.slice K3 se.length K4] rfl ?_;(with_reducible refine(dK.calls k2 _ _ se sd _ ?a8 ?a9 Wm.out).mono ?_);(case a8=>exact fB cq);(case a9=>exact(Kd.af cq.out).2.1);rintro e w39 ⟨a4P,rfl,ho0,hb⟩;refine⟨_,rfl, ?_⟩;have lW:=Ah (Kd.dD (Kd.ec (Kd.ec ho0 (Kd.dU (rr cq.out))) (Kd.dU (rr jY.out))) (be (aW HB gY gp)));replace cq:=Ah (Kd.eZ (rr cq.out) (Kd.eX ho0) hb);replace jY:=Ah (Kd.eZ (rr jY.out) (Kd.eX ho0) hb);replace f8:=nb f8 hb;replace ek:=nb ek hb;replace HB:=Ah (aK (aW HB gY gp) hb);(try clear hb ho0))|((with_reducible refine ax (N:=13) rfl ?_);refine bA 13 25 #[.slice none 0 0] ?_;intro NR hg PS km hb;replace cq:=nr cq hb;replace jY:=nr jY hb;replace lW:=nr lW hb;have a1A:=gw hg (aW HB gY gp);have CF:=gw hg (aW HB gY gp);replace HB:=Ah (aK (aW HB gY gp) hb);have Ab:=nn f8 hg;have GZ:=nm f8 hg;replace f8:=nb f8 hb;have yI:=nn ek hg;have Ga:=nm ek hg;replace ek:=nb ek hb;clear hb hg;obtain⟨Fa,Fb,Ug⟩:=Kd.bq lW.out;subst Ug;have NI:=GZ.out;have NJ:=Ab.out;have a1F:=Ga.out;have a1G:=yI.out;have hcz44_0:=ap km;have hfz44_0:=an km)|(go_at_call 26;(with_reducible refine(br.calls k2 _ _ sd true _ ?a8 ?a9 A36.out).mono ?_);(case a8=>exact rc lW km);(case a9=>exact(Kd.af lW.out).2.1);rintro e PY ⟨rfl,hb⟩;replace cq:=nf cq km hb;replace jY:=nf jY km hb;replace lW:=nf lW km hb;replace f8:=Ah (cC (bf f8 Ab) hb);replace ek:=Ah (cC (bf ek yI) hb);replace km:=Ah (cC (g:=NR) (o:= .cells #[.slice Fa sd.length Fb] 25 (0,0)) (by(with_reducible repeat(first|refine aD ?_ _|refine Z ?_|refine aC ?_ _));refine aj (cs:= #[.slice none 0 0]) ?_ 0 _ rfl;(with_reducible repeat(first|refine aD ?_ _|refine Z ?_|refine aC ?_ _));exact km.out) hb);replace HB:=Ah (aK (bX HB gY gp CF) hb);(try clear hb);have hcz46_0:=ap km;have hfz46_0:=an km;have a1H:=Aa.out;have a1I:=AZ.out;have hcz48_0:=ap ek;have hfz48_0:=an ek))
     refine bodyPost_ret (mm rfl _ _ CE 25 #[.slice Fa sd.length Fb] (0,0) _ rfl (by(with_reducible repeat(first|refine aD ?_ _|refine Z ?_|refine aC ?_ _));refine aj (cs:= #[.slice none 0 0]) ?_ 0 _ rfl;(with_reducible repeat(first|refine aD ?_ _|refine Z ?_|refine aC ?_ _));exact ek.out) ua rfl (by kernel_rfl)) rfl ?_;exact⟨_,er,by(with_reducible repeat(first|apply Kd.bG|apply Kd.bE|apply Kd.al));exact Kd.aY (Kd.aQ (p:=⟨CE,0,none⟩) (Kd.cl lW.out ek.out (by decide)) (fun _ hk=>hk.2) (.slice Fa sd.length Fb)) (fun _ hk=>trivial),bX HB gY gp CF⟩
def Y(w0 W:World)(g:Nat)(f0:List Int)(f1:Int)(f2:Int):Prop:=∃A0 c0,W.heap[g]?=some (.cells #[.slice A0 f0.length c0,.int .i64 f1,.int .u64 f2] 52 (0,0))∧w0.heap.size≤g∧Kd.C (Kd.int .u8) w0 A0 f0.length f0
theorem Y.grown {w0 W:World}{g:Nat}{f0:List Int}{f1:Int}{f2:Int}{W1:World}{row:Option Nat}(h:Y w0 W g f0 f1 f2)(hw:W.grownBy W1 row)(hne:some g≠row):Y w0 W1 g f0 f1 f2:=by
 obtain⟨A0,c0,hb,hg,hr0⟩:=h;exact⟨A0,c0,cX hb hw hne,hg,hr0⟩
theorem Y.own_neN {w0 W:World}{g:Nat}{f0:List Int}{f1:Int}{f2:Int}{α:Type}{d:Kd α}{e:Nat}{base:Nat}{ok:Nat→Prop}{v:Value}{xs:List α}(h:Y w0 W g f0 f1 f2)(ho:Kd.N d e W base ok v xs)(ht:e≠52):some g≠v.ownBlock:=by
 obtain⟨A0,c0,hb,hg,hr0⟩:=h;exact Kd.N_ne ho hb ht
theorem Y.fresh {w0 W:World}{g:Nat}{f0:List Int}{f1:Int}{f2:Int}(h:Y w0 W g f0 f1 f2):∀k,W.heap.size≤k→k≠g:=by
 obtain⟨A0,c0,hb,hg,hr0⟩:=h;exact Kd.gE hb
theorem Y.kept {w0 W:World}{g:Nat}{f0:List Int}{f1:Int}{f2:Int}{W1:World}{S:Nat→Prop}(h:Y w0 W g f0 f1 f2)(hk:gG W W1 S)(hne:¬S g):Y w0 W1 g f0 f1 f2:=by
 obtain⟨A0,c0,hb,hg,hr0⟩:=h;exact⟨A0,c0,blk_kept hb hk hne,hg,hr0⟩
theorem Y.AO {w0 W0 W:World}{g:Nat}{f0:List Int}{f1:Int}{f2:Int}{l:List Nat}(h:U (Y w0 W0 g f0 f1 f2))(hl:¬(g∈l))[s:iu l W0 W]:Y w0 W g f0 f1 f2:=Y.kept h.out (S:=fun k=>k∈l) s.out hl
theorem Y.mL {w0 W0 W:World}{g:Nat}{f0:List Int}{f1:Int}{f2:Int}(h:U (Y w0 W0 g f0 f1 f2))[s:iu [] W0 W]:Y w0 W g f0 f1 f2:=Y.AO (l:=[]) h (fun h=>by cases h)
theorem Y.iC {w0 W0 W:World}{g a:Nat}{f0:List Int}{f1:Int}{f2:Int}(h:U (Y w0 W0 g f0 f1 f2))(ha:U (g≠a))[s:iu [a] W0 W]:Y w0 W g f0 f1 f2:=Y.AO (l:=[a]) h (fun h=>(aam.1 h).elim ha.out (fun h=>by cases h))
theorem Y.eE {w0 W0 W:World}{g a b:Nat}{f0:List Int}{f1:Int}{f2:Int}(h:U (Y w0 W0 g f0 f1 f2))(ha:U (g≠a))(hb:U (g≠b))[s:iu [a,b] W0 W]:Y w0 W g f0 f1 f2:=Y.AO (l:=[a,b]) h (fun h=>(aam.1 h).elim ha.out (fun h=>(aam.1 h).elim hb.out (fun h=>by cases h)))
theorem Y.iQ {w0 W0 W:World}{g a b c:Nat}{f0:List Int}{f1:Int}{f2:Int}(h:U (Y w0 W0 g f0 f1 f2))(ha:U (g≠a))(hb:U (g≠b))(hc:U (g≠c))[s:iu [a,b,c] W0 W]:Y w0 W g f0 f1 f2:=Y.AO (l:=[a,b,c]) h (fun h=>(aam.1 h).elim ha.out (fun h=>(aam.1 h).elim hb.out (fun h=>(aam.1 h).elim hc.out (fun h=>by cases h))))
theorem Y.gK {w0 W0 W:World}{g a b c d:Nat}{f0:List Int}{f1:Int}{f2:Int}(h:U (Y w0 W0 g f0 f1 f2))(ha:U (g≠a))(hb:U (g≠b))(hc:U (g≠c))(hd:U (g≠d))[s:iu [a,b,c,d] W0 W]:Y w0 W g f0 f1 f2:=Y.AO (l:=[a,b,c,d]) h (fun h=>(aam.1 h).elim ha.out (fun h=>(aam.1 h).elim hb.out (fun h=>(aam.1 h).elim hc.out (fun h=>(aam.1 h).elim hd.out (fun h=>by cases h)))))
theorem Y.iq5 {w0 W0 W:World}{g a b c d e:Nat}{f0:List Int}{f1:Int}{f2:Int}(h:U (Y w0 W0 g f0 f1 f2))(ha:U (g≠a))(hb:U (g≠b))(hc:U (g≠c))(hd:U (g≠d))(he:U (g≠e))[s:iu [a,b,c,d,e] W0 W]:Y w0 W g f0 f1 f2:=Y.AO (l:=[a,b,c,d,e]) h (fun h=>(aam.1 h).elim ha.out (fun h=>(aam.1 h).elim hb.out (fun h=>(aam.1 h).elim hc.out (fun h=>(aam.1 h).elim hd.out (fun h=>(aam.1 h).elim he.out (fun h=>by cases h))))))
theorem Y.iq6 {w0 W0 W:World}{g a b c d e f:Nat}{f0:List Int}{f1:Int}{f2:Int}(h:U (Y w0 W0 g f0 f1 f2))(ha:U (g≠a))(hb:U (g≠b))(hc:U (g≠c))(hd:U (g≠d))(he:U (g≠e))(hf:U (g≠f))[s:iu [a,b,c,d,e,f] W0 W]:Y w0 W g f0 f1 f2:=Y.AO (l:=[a,b,c,d,e,f]) h (fun h=>(aam.1 h).elim ha.out (fun h=>(aam.1 h).elim hb.out (fun h=>(aam.1 h).elim hc.out (fun h=>(aam.1 h).elim hd.out (fun h=>(aam.1 h).elim he.out (fun h=>(aam.1 h).elim hf.out (fun h=>by cases h)))))))
theorem Y.iq7 {w0 W0 W:World}{g a b c d e f m:Nat}{f0:List Int}{f1:Int}{f2:Int}(h:U (Y w0 W0 g f0 f1 f2))(ha:U (g≠a))(hb:U (g≠b))(hc:U (g≠c))(hd:U (g≠d))(he:U (g≠e))(hf:U (g≠f))(hm:U (g≠m))[s:iu [a,b,c,d,e,f,m] W0 W]:Y w0 W g f0 f1 f2:=Y.AO (l:=[a,b,c,d,e,f,m]) h (fun h=>(aam.1 h).elim ha.out (fun h=>(aam.1 h).elim hb.out (fun h=>(aam.1 h).elim hc.out (fun h=>(aam.1 h).elim hd.out (fun h=>(aam.1 h).elim he.out (fun h=>(aam.1 h).elim hf.out (fun h=>(aam.1 h).elim hm.out (fun h=>by cases h))))))))
theorem Y.below {w0 W:World}{g:Nat}{f0:List Int}{f1:Int}{f2:Int}{W1:World}(h:Y w0 W g f0 f1 f2)(hw:Below W.heap.size W W1):Y w0 W1 g f0 f1 f2:=h.grown (X7 hw none) (by simp)
theorem Y.alloc {w0 W:World}{g:Nat}{f0:List Int}{f1:Int}{f2:Int}(h:Y w0 W g f0 f1 f2)(o:Obj):Y w0 (W.alloc o) g f0 f1 f2:=h.below (jH (aaa _ _) o)
theorem Y.drewN {w0 W:World}{g:Nat}{f0:List Int}{f1:Int}{f2:Int}(h:Y w0 W g f0 f1 f2)(m:Nat):Y w0 (W.drewN m) g f0 f1 f2:=h
theorem Y.drew {w0 W:World}{g:Nat}{f0:List Int}{f1:Int}{f2:Int}(h:Y w0 W g f0 f1 f2):Y w0 W.drew g f0 f1 f2:=h
theorem Y.at_ {w0 W:World}{g:Nat}{f0:List Int}{f1:Int}{f2:Int}{w':World}{m:Nat}(hq:W.drewN m=w')(h:Y w0 W g f0 f1 f2):Y w0 w' g f0 f1 f2:=by subst hq;exact Y.drewN h m
theorem Y.apart {w0 W:World}{g:Nat}{f0:List Int}{f1:Int}{f2:Int}{α:Type}{d:Kd α}{e:Nat}{base:Nat}{ok:Nat→Prop}{v:Value}{xs:List α}(h:Y w0 W g f0 f1 f2)(ho:d.R e W base ok v xs)(ht:∀q,q∈e::d.E→q≠52):d.R e W base (fun k=>ok k∧k≠g) v xs:=by
 obtain⟨A0,c0,hb,hg,hr0⟩:=h;exact Kd.cl ho hb ht
theorem Y.own_ne {w0 W:World}{g:Nat}{f0:List Int}{f1:Int}{f2:Int}{α:Type}{d:Kd α}{e:Nat}{base:Nat}{ok:Nat→Prop}{v:Value}{xs:List α}(h:Y w0 W g f0 f1 f2)(ho:d.R e W base ok v xs)(ht:e≠52):some g≠v.ownBlock:=by
 obtain⟨A0,c0,hb,hg,hr0⟩:=h;exact Kd.eD ho hb ht
theorem Y.apartQ {w0 W:World}{g:Nat}{f0:List Int}{f1:Int}{f2:Int}{α:Type}{d:Kd α}{e:Nat}{base:Nat}{ok:Nat→Prop}{v:Value}{xs:List α}(h:Y w0 W g f0 f1 f2)(ho:d.Q e W base ok v xs)(ht:∀q,q∈e::d.E→q≠52):d.Q e W base (fun k=>ok k∧k≠g) v xs:=by
 obtain⟨A0,c0,hb,hg,hr0⟩:=h;exact Kd.Q_types ho hb ht
theorem Y.own_neQ {w0 W:World}{g:Nat}{f0:List Int}{f1:Int}{f2:Int}{α:Type}{d:Kd α}{e:Nat}{base:Nat}{ok:Nat→Prop}{v:Value}{xs:List α}(h:Y w0 W g f0 f1 f2)(ho:d.Q e W base ok v xs)(ht:e≠52):some g≠v.ownBlock:=by
 obtain⟨A0,c0,hb,hg,hr0⟩:=h;exact Kd.Q_ne ho hb ht
theorem Y.apartS {w0 W:World}{g:Nat}{f0:List Int}{f1:Int}{f2:Int}{α:Type}{d:Kd α}{e:Nat}{base:Nat}{ok:Nat→Prop}{v:Value}{xs:List α}(h:Y w0 W g f0 f1 f2)(ho:d.S e W base ok v xs)(ht:∀q,q∈e::d.E→q≠52):d.S e W base (fun k=>ok k∧k≠g) v xs:=by
 obtain⟨A0,c0,hb,hg,hr0⟩:=h;exact Kd.S_types ho hb ht
theorem Y.own_neS {w0 W:World}{g:Nat}{f0:List Int}{f1:Int}{f2:Int}{α:Type}{d:Kd α}{e:Nat}{base:Nat}{ok:Nat→Prop}{v:Value}{xs:List α}(h:Y w0 W g f0 f1 f2)(ho:d.S e W base ok v xs)(ht:e≠52):some g≠v.ownBlock:=by
 obtain⟨A0,c0,hb,hg,hr0⟩:=h;exact Kd.S_ne ho hb ht
theorem Y.lt {w0 W:World}{g:Nat}{f0:List Int}{f1:Int}{f2:Int}(h:Y w0 W g f0 f1 f2):g<W.heap.size:=by
 obtain⟨A0,c0,hb,hg,hr0⟩:=h;exact jr hb
theorem Y.ge {w0 W:World}{g:Nat}{f0:List Int}{f1:Int}{f2:Int}(h:Y w0 W g f0 f1 f2):w0.heap.size≤g:=by
 obtain⟨A0,c0,hb,hg,hr0⟩:=h;exact hg
theorem Y.ne_blk {w0 W:World}{g:Nat}{f0:List Int}{f1:Int}{f2:Int}{a:Nat}{cs:Array Value}{t:TypeId}{fr:Nat×Nat}(h:Y w0 W g f0 f1 f2)(hb2:W.heap[a]?=some (.cells cs t fr))(ht:t≠52):g≠a:=by
 obtain⟨A0,c0,hb,hg,hr0⟩:=h;rintro rfl;rw[hb]at hb2
 injection hb2 with hb2
 injection hb2 with _ ht2
 exact ht ht2.symm
theorem Y.far {w0 W:World}{g:Nat}{f0:List Int}{f1:Int}{f2:Int}{p:Addr}(h:Y w0 W g f0 f1 f2)(hne:g≠p.block)(u:Value):Y w0 (W.setCell p u) g f0 f1 f2:=by
 obtain⟨A0,c0,hb,hg,hr0⟩:=h;exact⟨A0,c0,gc hb hne u,hg,hr0⟩
theorem Lv {W:World}{g:Nat}{A0:Option Addr}{c0:Nat}{f0:List Int}{f1:Int}{f2:Int}(h:W.heap[g]?=some (.cells #[.slice A0 f0.length c0,.int .i64 f1,.int .u64 f2] 52 (0,0))):W.cell? ⟨g,0,none⟩=some (.slice A0 f0.length c0):=(bC h 0).trans rfl
theorem Lw {W:World}{g:Nat}{A0:Option Addr}{c0:Nat}{f0:List Int}{f1:Int}{f2:Int}(h:W.heap[g]?=some (.cells #[.slice A0 f0.length c0,.int .i64 f1,.int .u64 f2] 52 (0,0))):W.cell? ⟨g,1,none⟩=some (.int .i64 f1):=(bC h 1).trans rfl
theorem Y.NS {w0 W:World}{g:Nat}{f0:List Int}{f1:Int}{f2:Int}(h:Y w0 W g f0 f1 f2)(x:Int):Y w0 (W.setCell ⟨g,1,none⟩ (.int .i64 x)) g f0 x f2:=by
 obtain⟨A0,c0,hb,hg,hr0⟩:=h;exact⟨A0,c0,by simpa using MA hb 1 (.int .i64 x),hg,hr0⟩
theorem Lx {W:World}{g:Nat}{A0:Option Addr}{c0:Nat}{f0:List Int}{f1:Int}{f2:Int}(h:W.heap[g]?=some (.cells #[.slice A0 f0.length c0,.int .i64 f1,.int .u64 f2] 52 (0,0))):W.cell? ⟨g,2,none⟩=some (.int .u64 f2):=(bC h 2).trans rfl
theorem Y.NT {w0 W:World}{g:Nat}{f0:List Int}{f1:Int}{f2:Int}(h:Y w0 W g f0 f1 f2)(x:Int):Y w0 (W.setCell ⟨g,2,none⟩ (.int .u64 x)) g f0 f1 x:=by
 obtain⟨A0,c0,hb,hg,hr0⟩:=h;exact⟨A0,c0,by simpa using MA hb 2 (.int .u64 x),hg,hr0⟩
theorem Y.new(w0 W:World)(A0:Option Addr)(c0:Nat)(f0:List Int)(f1:Int)(f2:Int)(hB:Below w0.heap.size w0 W)(hr0:Kd.C (Kd.int .u8) w0 A0 f0.length f0):Y w0 (W.alloc (.cells #[.slice A0 f0.length c0,.int .i64 f1,.int .u64 f2] 52)) W.heap.size f0 f1 f2:=⟨A0,c0,by simpa using heap_alloc_new W _,hB.size,hr0⟩
def sp.f(av:List Int)(ci:Int)(eA:Int):Option (Int×Int×Int):=if ci<(av.length:Int)then(if 0≤ci then(if(LS (ci+1))≤(av.length:Int)then(some (LS (rd av ci),LS (ci+1),aah.wrap ((aah.wrap ((aah.wrap (eA*6364136223846793005))+(aah.wrap (LS (rd av ci)))))+1442695040888963407)))else(some (LS (Go.bits .and .u64 ((aah.wrap ((aah.wrap ((aah.wrap (eA*6364136223846793005))+(aah.wrap (LS (rd av ci)))))+1442695040888963407))/1099511627776) 255),LS (ci+1),aah.wrap ((aah.wrap ((aah.wrap (eA*6364136223846793005))+(aah.wrap (LS (rd av ci)))))+1442695040888963407))))else(none))else(if(LS (ci+1))≤(av.length:Int)then(some (0,LS (ci+1),aah.wrap ((aah.wrap ((aah.wrap (eA*6364136223846793005))))+1442695040888963407)))else(some (LS (Go.bits .and .u64 ((aah.wrap ((aah.wrap ((aah.wrap (eA*6364136223846793005))))+1442695040888963407))/1099511627776) 255),LS (ci+1),aah.wrap ((aah.wrap ((aah.wrap (eA*6364136223846793005))))+1442695040888963407))))
set_option maxHeartbeats 8000000 in
set_option maxRecDepth 100000 in
theorem sp.calls(g:Nat)(av:List Int)(ci:Int)(eA:Int)(r1:Int)(r2:Int)(r3:Int)(w0 w:World)(hI:Y w0 w g av ci eA)(hB:Below w0.heap.size w0 w)(h:sp.f av ci eA=some (r1,r2,r3)):
 Calls aad 43 #[.pointer (some ⟨g,0,none⟩)] w fun e w'=>e= .returned (.int .i64 r1)∧Y w0 w' g av r2 r3∧Below w0.heap.size w0 w'∧aM w w' g none:=by
 have HI0:=Ah hI;have HK:=Ah (aM.refl w g none);have HL:=Ah hB.size;clear hI;have HW0:=Ah hB.size;have HB:=Ah hB;clear hB;have H:(if ci<(av.length:Int)then(if 0≤ci then(if(LS (ci+1))≤(av.length:Int)then(some (LS (rd av ci),LS (ci+1),aah.wrap ((aah.wrap ((aah.wrap (eA*6364136223846793005))+(aah.wrap (LS (rd av ci)))))+1442695040888963407)))else(some (LS (Go.bits .and .u64 ((aah.wrap ((aah.wrap ((aah.wrap (eA*6364136223846793005))+(aah.wrap (LS (rd av ci)))))+1442695040888963407))/1099511627776) 255),LS (ci+1),aah.wrap ((aah.wrap ((aah.wrap (eA*6364136223846793005))+(aah.wrap (LS (rd av ci)))))+1442695040888963407))))else(none))else(if(LS (ci+1))≤(av.length:Int)then(some (0,LS (ci+1),aah.wrap ((aah.wrap ((aah.wrap (eA*6364136223846793005))))+1442695040888963407)))else(some (LS (Go.bits .and .u64 ((aah.wrap ((aah.wrap ((aah.wrap (eA*6364136223846793005))))+1442695040888963407))/1099511627776) 255),LS (ci+1),aah.wrap ((aah.wrap ((aah.wrap (eA*6364136223846793005))))+1442695040888963407)))))=some (r1,r2,r3):=h;clear h
 by_cases c2:ci<(av.length:Int)
 rotate_left
 ·
  rw[if_neg c2]at H;have rO:decide (ci<(av.length:Int))=false:=decide_eq_false c2;clear c2
  by_cases c7:(LS (ci+1))≤(av.length:Int)
  ·
   rw[if_pos c7]at H;have zn:decide ((LS (ci+1))≤(av.length:Int))=true:=decide_eq_true c7;clear c7;simp only[j4,ub]at H;obtain⟨rfl,rfl,rfl⟩:=H;obtain⟨ASz8_0,cSz8_0,Ff,hgz8,HSz8_0⟩:=HI0.out;have pJ:=Lv Ff;have Ry:=Lw Ff;have Rz:=Lx Ff;have S0:=ff Ff 1;have S1:=ff Ff 2;clear Ff hgz8
   go_enter abF,Try.ntmps43
   go_wp2
   repeat(go_quiet (fail);try go_wp2)
   go_ret
   exact⟨er,by repeat(first|(with_reducible first|exact HI0.out|apply Y.alloc|apply Y.drewN|apply Y.drew|apply Y.NS|apply Y.NT)|exact HI0.out),by repeat(first|(with_reducible first|exact HB.out|apply jH|apply k5|apply fO|refine cF ?_ (Y.ge HI0.out))|exact HB.out),by repeat(first|(with_reducible first|exact HK.out|apply aM.Je|apply Le|apply vq|apply Lf)|exact HK.out)⟩
  rw[if_neg c7]at H;have zn:decide ((LS (ci+1))≤(av.length:Int))=false:=decide_eq_false c7;clear c7;simp only[j4,ub]at H;obtain⟨rfl,rfl,rfl⟩:=H;obtain⟨ASz9_0,cSz9_0,Fg,hgz9,HSz9_0⟩:=HI0.out;have vI:=Lv Fg;have wi:=Lw Fg;have Ek:=Lx Fg;have wj:=ff Fg 1;have El:=ff Fg 2;clear Fg hgz9
  go_enter abF,Try.ntmps43
  go_wp2
  repeat(go_quiet (fail);try go_wp2)
  go_ret
  exact⟨er,by repeat(first|(with_reducible first|exact HI0.out|apply Y.alloc|apply Y.drewN|apply Y.drew|apply Y.NS|apply Y.NT)|exact HI0.out),by repeat(first|(with_reducible first|exact HB.out|apply jH|apply k5|apply fO|refine cF ?_ (Y.ge HI0.out))|exact HB.out),by repeat(first|(with_reducible first|exact HK.out|apply aM.Je|apply Le|apply vq|apply Lf)|exact HK.out)⟩
 rw[if_pos c2]at H;have rO:decide (ci<(av.length:Int))=true:=decide_eq_true c2;clear c2
 by_cases c3:0≤ci
 rotate_left
 ·
  rw[if_neg c3]at H;exact absurd H (by simp)
 rw[if_pos c3]at H;have iN:decide (0≤ci)=true:=decide_eq_true c3;clear c3
 by_cases c4:(LS (ci+1))≤(av.length:Int)
 ·
  rw[if_pos c4]at H;have jb:decide ((LS (ci+1))≤(av.length:Int))=true:=decide_eq_true c4;clear c4;simp only[j4,ub]at H;obtain⟨rfl,rfl,rfl⟩:=H;obtain⟨ASz5_0,cSz5_0,Fh,hgz5,HSz5_0⟩:=HI0.out;have Em:=Lv Fh;have hcz5_1:=Lw Fh;have hcz5_2:=Lx Fh;have hfz5_1:=ff Fh 1;have hfz5_2:=ff Fh 2;clear Fh hgz5;have Cw:0≤(ci:Int):=od;have Cx:ci<(av.length:Int):=od;obtain⟨ad277,Uo,HF⟩:=Kd.Rt HSz5_0 ci Cw Cx
  cases Uo
  replace HF:=GI HB.out HF;replace Cw:=eq_true Cw;replace Cx:=eq_true Cx
  go_enter abF,Try.ntmps43
  go_wp2
  repeat(go_quiet (fail);try go_wp2)
  go_ret
  exact⟨er,by repeat(first|(with_reducible first|exact HI0.out|apply Y.alloc|apply Y.drewN|apply Y.drew|apply Y.NS|apply Y.NT)|exact HI0.out),by repeat(first|(with_reducible first|exact HB.out|apply jH|apply k5|apply fO|refine cF ?_ (Y.ge HI0.out))|exact HB.out),by repeat(first|(with_reducible first|exact HK.out|apply aM.Je|apply Le|apply vq|apply Lf)|exact HK.out)⟩
 rw[if_neg c4]at H;have jb:decide ((LS (ci+1))≤(av.length:Int))=false:=decide_eq_false c4;clear c4;simp only[j4,ub]at H;obtain⟨rfl,rfl,rfl⟩:=H;obtain⟨ASz6_0,cSz6_0,Fi,hgz6,HSz6_0⟩:=HI0.out;have C5:=Lv Fi;have S3:=Lw Fi;have S4:=Lx Fi;have S5:=ff Fi 1;have S6:=ff Fi 2;clear Fi hgz6;have Cw:0≤(ci:Int):=od;have Cx:ci<(av.length:Int):=od;obtain⟨ad277,Uo,HF⟩:=Kd.Rt HSz6_0 ci Cw Cx
 cases Uo
 replace HF:=GI HB.out HF;replace Cw:=eq_true Cw;replace Cx:=eq_true Cx
 go_enter abF,Try.ntmps43
 go_wp2
 repeat(go_quiet (fail);try go_wp2)
 go_ret
 exact⟨er,by repeat(first|(with_reducible first|exact HI0.out|apply Y.alloc|apply Y.drewN|apply Y.drew|apply Y.NS|apply Y.NT)|exact HI0.out),by repeat(first|(with_reducible first|exact HB.out|apply jH|apply k5|apply fO|refine cF ?_ (Y.ge HI0.out))|exact HB.out),by repeat(first|(with_reducible first|exact HK.out|apply aM.Je|apply Le|apply vq|apply Lf)|exact HK.out)⟩
def ct.f(av:List Int)(ci:Int)(eA:Int)(a1:Int):Option (Int×Int×Int):=if a1≤1 then(some (0,ci,eA))else((sp.f av ci eA).bind fun qx=>(if a1>200 then((sp.f av qx.2.1 qx.2.2).bind fun CG=>(if a1=0 then(none)else(some (Int.tmod (LS ((LS (qx.1*256))+CG.1)) a1,CG.2.1,CG.2.2))))else(if a1=0 then(none)else(some (Int.tmod qx.1 a1,qx.2.1,qx.2.2)))))
set_option maxHeartbeats 8000000 in
set_option maxRecDepth 100000 in
theorem ct.calls(g:Nat)(av:List Int)(ci:Int)(eA:Int)(a1:Int)(r1:Int)(r2:Int)(r3:Int)(w0 w:World)(hI:Y w0 w g av ci eA)(hB:Below w0.heap.size w0 w)(h:ct.f av ci eA a1=some (r1,r2,r3)):
 Calls aad 21 #[.pointer (some ⟨g,0,none⟩),.int .i64 a1] w fun e w'=>e= .returned (.int .i64 r1)∧Y w0 w' g av r2 r3∧Below w0.heap.size w0 w'∧aM w w' g none:=by
 have HI0:=Ah hI;have HK:=Ah (aM.refl w g none);have HL:=Ah hB.size;clear hI;have HW0:=Ah hB.size;have HB:=Ah hB;clear hB;have H:(if a1≤1 then(some (0,ci,eA))else((sp.f av ci eA).bind fun qx=>(if a1>200 then((sp.f av qx.2.1 qx.2.2).bind fun CG=>(if a1=0 then(none)else(some (Int.tmod (LS ((LS (qx.1*256))+CG.1)) a1,CG.2.1,CG.2.2))))else(if a1=0 then(none)else(some (Int.tmod qx.1 a1,qx.2.1,qx.2.2))))))=some (r1,r2,r3):=h;clear h
 by_cases c3:a1≤1
 ·
  rw[if_pos c3]at H;have iN:decide (a1≤1)=true:=decide_eq_true c3;clear c3;simp only[j4,ub]at H;obtain⟨rfl,rfl,rfl⟩:=H
  go_enter aar,Try.ntmps21
  go_wp2
  go_ret
  exact⟨er,Y.mL HI0,bs HB,mJ HK⟩
 rw[if_neg c3]at H;have iN:decide (a1≤1)=false:=decide_eq_false c3;clear c3;replace H:=LT.mp H;obtain⟨⟨a4R,Up,Uq⟩,iv,H⟩:=H
 try dsimp only at H
 have A4:=Ah iv;clear iv
 by_cases c5:a1>200
 rotate_left
 ·
  rw[if_neg c5]at H;have oP:decide (200<a1)=false:=decide_eq_false c5;clear c5
  by_cases c10:a1=0
  ·
   rw[if_pos c10]at H;exact absurd H (by simp)
  rw[if_neg c10]at H;have nZ:(a1==0)=false:=beq_eq_false_iff_ne.mpr c10;have c10b1:(a1 !=0)=true:=bne_iff_ne.mpr c10;simp only[j4,ub]at H;obtain⟨rfl,rfl,rfl⟩:=H
  go_enter aar,Try.ntmps21
  go_wp2_with (first|((with_reducible refine bJ (f:=43) rfl ?_);refine gL (some 9) rfl rfl abF (by kernel_rfl) rfl #[.pointer (some ⟨g,0,none⟩)] rfl ?_;(with_reducible refine(sp.calls g av ci eA a4R Up Uq w0 _ ?a8 ?a9 A4.out).mono ?_);(case a8=>exact Y.mL HI0);(case a9=>exact bs HB);rintro e rg ⟨rfl,hi,hb,hk⟩;refine⟨_,rfl, ?_⟩;replace HK:=Ah (aM.trans (mJ HK) hk (.inl rfl));replace HB:=Ah (hb);replace HI0:=Ah (hi);(try clear hb hk hi)))
  go_ret
  exact⟨er,Y.mL HI0,bs HB,mJ HK⟩
 rw[if_pos c5]at H;have oP:decide (200<a1)=true:=decide_eq_true c5;clear c5;replace H:=LT.mp H;obtain⟨⟨t281,t282,t283⟩,iw,H⟩:=H
 try dsimp only at H
 have A6:=Ah iw;clear iw
 by_cases c7:a1=0
 ·
  rw[if_pos c7]at H;exact absurd H (by simp)
 rw[if_neg c7]at H;have zn:(a1==0)=false:=beq_eq_false_iff_ne.mpr c7;have c7b1:(a1 !=0)=true:=bne_iff_ne.mpr c7;simp only[j4,ub]at H;obtain⟨rfl,rfl,rfl⟩:=H
 go_enter aar,Try.ntmps21
 go_wp2_with (first|((with_reducible refine bJ (f:=43) rfl ?_);refine gL (some 9) rfl rfl abF (by kernel_rfl) rfl #[.pointer (some ⟨g,0,none⟩)] rfl ?_;(with_reducible refine(sp.calls g av ci eA a4R Up Uq w0 _ ?a8 ?a9 A4.out).mono ?_);(case a8=>exact Y.mL HI0);(case a9=>exact bs HB);rintro e w8 ⟨rfl,hi,hb,hk⟩;refine⟨_,rfl, ?_⟩;replace HK:=Ah (aM.trans (mJ HK) hk (.inl rfl));replace HB:=Ah (hb);replace HI0:=Ah (hi);(try clear hb hk hi))|((with_reducible refine bJ (f:=43) rfl ?_);refine gL (some 15) rfl rfl abF (by kernel_rfl) rfl #[.pointer (some ⟨g,0,none⟩)] rfl ?_;(with_reducible refine(sp.calls g av Up Uq t281 t282 t283 w0 _ ?a8 ?a9 A6.out).mono ?_);(case a8=>exact Y.mL HI0);(case a9=>exact bs HB);rintro e w9 ⟨rfl,hi,hb,hk⟩;refine⟨_,rfl, ?_⟩;replace HK:=Ah (aM.trans (mJ HK) hk (.inl rfl));replace HB:=Ah (hb);replace HI0:=Ah (hi);(try clear hb hk hi)))
 go_ret
 exact⟨er,Y.mL HI0,bs HB,mJ HK⟩
def mj.f(av:List Int)(ci:Int)(eA:Int)(a1:Int):Option (Bool×Int×Int):=(ct.f av ci eA a1).bind fun CH=>(some ((CH.1==0),CH.2.1,CH.2.2))
set_option maxHeartbeats 8000000 in
set_option maxRecDepth 100000 in
theorem mj.calls(g:Nat)(av:List Int)(ci:Int)(eA:Int)(a1:Int)(r1:Bool)(r2:Int)(r3:Int)(w0 w:World)(hI:Y w0 w g av ci eA)(hB:Below w0.heap.size w0 w)(h:mj.f av ci eA a1=some (r1,r2,r3)):
 Calls aad 33 #[.pointer (some ⟨g,0,none⟩),.int .i64 a1] w fun e w'=>e= .returned (.bool r1)∧Y w0 w' g av r2 r3∧Below w0.heap.size w0 w'∧aM w w' g none:=by
 have HI0:=Ah hI;have HK:=Ah (aM.refl w g none);have HL:=Ah hB.size;clear hI;have HW0:=Ah hB.size;have HB:=Ah hB;clear hB;have H:((ct.f av ci eA a1).bind fun CH=>(some ((CH.1==0),CH.2.1,CH.2.2)))=some (r1,r2,r3):=h;clear h;replace H:=LT.mp H;obtain⟨⟨t284,t285,t286⟩,nK,H⟩:=H
 try dsimp only at H
 have A3:=Ah nK;clear nK;simp only[j4,ub]at H;obtain⟨rfl,rfl,rfl⟩:=H
 go_enter Try.func33,Try.ntmps33
 go_wp2_with (first|((with_reducible refine bJ (f:=21) rfl ?_);refine gL (some 7) rfl rfl aar (by kernel_rfl) rfl #[.pointer (some ⟨g,0,none⟩),.int .i64 a1] rfl ?_;(with_reducible refine(ct.calls g av ci eA a1 t284 t285 t286 w0 _ ?a8 ?a9 A3.out).mono ?_);(case a8=>exact Y.mL HI0);(case a9=>exact bs HB);rintro e w4 ⟨rfl,hi,hb,hk⟩;refine⟨_,rfl, ?_⟩;replace HK:=Ah (aM.trans (mJ HK) hk (.inl rfl));replace HB:=Ah (hb);replace HI0:=Ah (hi);(try clear hb hk hi)))
 go_ret
 exact⟨er,Y.mL HI0,bs HB,mJ HK⟩
def ow.f(av:List Int)(ci:Int)(eA:Int)(l1:List Int):Option (Int×Int×Int):=(ct.f av ci eA (l1.length:Int)).bind fun tX=>(if 0≤tX.1 then(if tX.1<(l1.length:Int)then(some (rd l1 tX.1,tX.2.1,tX.2.2))else(none))else(none))
set_option maxHeartbeats 8000000 in
set_option maxRecDepth 100000 in
theorem ow.calls(g:Nat)(av:List Int)(ci:Int)(eA:Int)(A1:Option Addr)(c1:Nat)(l1:List Int)(r1:Int)(r2:Int)(r3:Int)(w0 w:World)(hI:Y w0 w g av ci eA)(hB:Below w0.heap.size w0 w)(hr1:Kd.C (Kd.int .i64) w A1 l1.length l1)(hc1:l1.length≤c1)(hf1:∀ad,A1=some ad→0<l1.length→ad.block≠g)(h:ow.f av ci eA l1=some (r1,r2,r3)):
 Calls aad 46 #[.pointer (some ⟨g,0,none⟩),.slice A1 l1.length c1] w fun e w'=>e= .returned (.int .i64 r1)∧Y w0 w' g av r2 r3∧Below w0.heap.size w0 w'∧aM w w' g none:=by
 have HR1:=Ah hr1;have PO:=Ah hc1;clear hr1 hc1;have HI0:=Ah hI;have HK:=Ah (aM.refl w g none);have HL:=Ah hB.size;clear hI;have HW0:=Ah hB.size;have HB:=Ah hB;clear hB;have H:((ct.f av ci eA (l1.length:Int)).bind fun tX=>(if 0≤tX.1 then(if tX.1<(l1.length:Int)then(some (rd l1 tX.1,tX.2.1,tX.2.2))else(none))else(none)))=some (r1,r2,r3):=h;clear h;replace H:=LT.mp H;obtain⟨⟨zo,t288,t289⟩,nK,H⟩:=H
 try dsimp only at H
 have A3:=Ah nK;clear nK
 by_cases c4:0≤zo
 rotate_left
 ·
  rw[if_neg c4]at H;exact absurd H (by simp)
 rw[if_pos c4]at H;have jb:decide (0≤zo)=true:=decide_eq_true c4;clear c4
 by_cases c5:zo<(l1.length:Int)
 rotate_left
 ·
  rw[if_neg c5]at H;exact absurd H (by simp)
 rw[if_pos c5]at H;have oP:decide (zo<(l1.length:Int))=true:=decide_eq_true c5;clear c5;simp only[j4,ub]at H;obtain⟨rfl,rfl,rfl⟩:=H
 go_enter Try.func46,Try.ntmps46
 go_wp2_with (first|((with_reducible refine bJ (f:=21) rfl ?_);refine gL (some 9) rfl rfl aar (by kernel_rfl) rfl #[.pointer (some ⟨g,0,none⟩),.int .i64 (l1.length:Int)] rfl ?_;(with_reducible refine(ct.calls g av ci eA (l1.length:Int) zo t288 t289 w0 _ ?a8 ?a9 A3.out).mono ?_);(case a8=>exact Y.mL HI0);(case a9=>exact bs HB);rintro e w6 ⟨rfl,hi,hb,hk⟩;refine⟨_,rfl, ?_⟩;replace HK:=Ah (aM.trans (mJ HK) hk (.inl rfl));replace HB:=Ah (hb);replace HI0:=Ah (hi);(try clear hb hk hi);have Ur:0≤(zo:Int):=od;have Us:zo<(l1.length:Int):=od;obtain⟨ad290,e290,Z5⟩:=Kd.Rt HR1.out zo Ur Us;cases e290;replace Z5:=o4 HK.out Z5 (by first|(rw[cf];exact hf1 _ rfl (by omega))|exact hf1 _ rfl (by omega)|exact hf1 ad290 rfl (by omega));replace Ur:=eq_true Ur;replace Us:=eq_true Us))
 go_ret
 exact⟨er,Y.mL HI0,bs HB,mJ HK⟩
def yD.f(av:List Int)(ci:Int)(eA:Int):Option (Int×Int×Int×Bool×Int×Int):=(ct.f av ci eA 30).bind fun CI=>((ct.f av CI.2.1 CI.2.2 6).bind fun wy=>((ct.f av wy.2.1 wy.2.2 60).bind fun wz=>((mj.f av wz.2.1 wz.2.2 2).bind fun xA=>((mj.f av xA.2.1 xA.2.2 30).bind fun tY=>(if tY.1=true then((ow.f av tY.2.1 tY.2.2 (([(-1),198,200]:List Int))).bind fun tZ=>(some (tZ.1,LS (1+wy.1),wz.1,xA.1,tZ.2.1,tZ.2.2)))else(some (CI.1,LS (1+wy.1),wz.1,xA.1,tY.2.1,tY.2.2)))))))
set_option maxHeartbeats 8000000 in
set_option maxRecDepth 100000 in
theorem yD.calls(g:Nat)(av:List Int)(ci:Int)(eA:Int)(r1:Int)(r2:Int)(r3:Int)(r4:Bool)(r5:Int)(r6:Int)(w0 w:World)(hI:Y w0 w g av ci eA)(hB:Below w0.heap.size w0 w)(h:yD.f av ci eA=some (r1,r2,r3,r4,r5,r6)):
 Calls aad 41 #[.pointer (some ⟨g,0,none⟩)] w fun e w'=>e= .returned (.agg #[.int .i64 r1,.int .i64 r2,.int .i64 r3,.bool r4])∧Y w0 w' g av r5 r6∧Below w0.heap.size w0 w'∧aM w w' g none:=by
 have mA:=aay;have HI0:=Ah hI;have HK:=Ah (aM.refl w g none);have HL:=Ah hB.size;clear hI;have HW0:=Ah hB.size;have HB:=Ah hB;clear hB;have H:((ct.f av ci eA 30).bind fun CI=>((ct.f av CI.2.1 CI.2.2 6).bind fun wy=>((ct.f av wy.2.1 wy.2.2 60).bind fun wz=>((mj.f av wz.2.1 wz.2.2 2).bind fun xA=>((mj.f av xA.2.1 xA.2.2 30).bind fun tY=>(if tY.1=true then((ow.f av tY.2.1 tY.2.2 (([(-1),198,200]:List Int))).bind fun tZ=>(some (tZ.1,LS (1+wy.1),wz.1,xA.1,tZ.2.1,tZ.2.2)))else(some (CI.1,LS (1+wy.1),wz.1,xA.1,tY.2.1,tY.2.2))))))))=some (r1,r2,r3,r4,r5,r6):=h;clear h;replace H:=LT.mp H;obtain⟨⟨oR,Oi,Oj⟩,fo,H⟩:=H
 try dsimp only at H
 have A2:=Ah fo;clear fo;replace H:=LT.mp H;obtain⟨⟨nl,Ol,Om⟩,nK,H⟩:=H
 try dsimp only at H
 have A3:=Ah nK;clear nK;replace H:=LT.mp H;obtain⟨⟨sf,On,Oo⟩,iv,H⟩:=H
 try dsimp only at H
 have A4:=Ah iv;clear iv;replace H:=LT.mp H;obtain⟨⟨zp,zq,zr⟩,kX,H⟩:=H
 try dsimp only at H
 have A5:=Ah kX;clear kX;replace H:=LT.mp H;obtain⟨⟨t305,K5,K6⟩,iw,H⟩:=H
 try dsimp only at H
 have A6:=Ah iw;clear iw
 by_cases c7:t305=true
 rotate_left
 ·
  replace c7:=dn.mpr c7;subst c7;rw[if_neg dV]at H;simp only[j4,ub]at H;obtain⟨rfl,rfl,rfl,rfl,rfl,rfl⟩:=H
  go_enter Try.func41,Try.ntmps41
  go_wp2_with (first|((with_reducible refine ax (N:=2) rfl ?_);refine bA 2 65 #[.int .i64 0,.int .i64 0,.int .i64 0,.bool false] ?_;intro jv hg Wo gP hb;replace HB:=Ah (aK (bs HB) hb);have kn:=Ah ((by rw[hg];exact(gn (w:=w) (g:=g) (row:=none) (mJ HK)):w.heap.size≤jv));have my:=Ah ((aax HW0.out (by rw[hg];exact(gn (w:=w) (g:=g) (row:=none) (mJ HK)):w.heap.size≤jv):w0.heap.size≤jv));replace HK:=Ah (aM.trans (mJ HK) (aM.of_below hb g none) (.inl rfl));have jq:=Ah ((by rw[hg];exact aaI (Y.lt (show Y w0 _ g av ci eA from Y.mL HI0)):g≠jv));have pG:=Ah ((by rw[hg];exact aaJ (Y.lt (show Y w0 _ g av ci eA from Y.mL HI0)):jv≠g));replace HI0:=Ah (Y.below (Y.mL HI0) hb);clear hb hg)|((with_reducible refine bJ (f:=21) rfl ?_);refine gL (some 5) rfl rfl aar (by kernel_rfl) rfl #[.pointer (some ⟨g,0,none⟩),.int .i64 30] rfl ?_;(with_reducible refine(ct.calls g av ci eA 30 oR Oi Oj w0 _ ?a8 ?a9 A2.out).mono ?_);(case a8=>exact Y.iC HI0 jq);(case a9=>exact aH HB my);rintro e xy ⟨rfl,hi,hb,hk⟩;refine⟨_,rfl, ?_⟩;replace gP:=Ah (aM.blk hk (g':=jv) (o:= .cells #[.int .i64 0,.int .i64 0,.int .i64 0,.bool false] 65 (0,0)) (bk gP) pG.out (by simp));replace HK:=Ah (aM.trans (nI HK kn) hk (.inl rfl));replace HB:=Ah (hb);replace HI0:=Ah (hi);(try clear hb hk hi))|((with_reducible refine bJ (f:=21) rfl ?_);refine gL (some 7) rfl rfl aar (by kernel_rfl) rfl #[.pointer (some ⟨g,0,none⟩),.int .i64 6] rfl ?_;(with_reducible refine(ct.calls g av Oi Oj 6 nl Ol Om w0 _ ?a8 ?a9 A3.out).mono ?_);(case a8=>exact Y.iC HI0 jq);(case a9=>exact aH HB my);rintro e GB ⟨rfl,hi,hb,hk⟩;refine⟨_,rfl, ?_⟩;replace gP:=Ah (aM.blk hk (g':=jv) (o:= .cells #[.int .i64 0,.int .i64 0,.int .i64 0,.bool false] 65 (0,0)) (bk gP) pG.out (by simp));replace HK:=Ah (aM.trans (nI HK kn) hk (.inl rfl));replace HB:=Ah (hb);replace HI0:=Ah (hi);(try clear hb hk hi))|((with_reducible refine bJ (f:=21) rfl ?_);refine gL (some 10) rfl rfl aar (by kernel_rfl) rfl #[.pointer (some ⟨g,0,none⟩),.int .i64 60] rfl ?_;(with_reducible refine(ct.calls g av Ol Om 60 sf On Oo w0 _ ?a8 ?a9 A4.out).mono ?_);(case a8=>exact Y.iC HI0 jq);(case a9=>exact aH HB my);rintro e LJ ⟨rfl,hi,hb,hk⟩;refine⟨_,rfl, ?_⟩;replace gP:=Ah (aM.blk hk (g':=jv) (o:= .cells #[.int .i64 0,.int .i64 0,.int .i64 0,.bool false] 65 (0,0)) (bk gP) pG.out (by simp));replace HK:=Ah (aM.trans (nI HK kn) hk (.inl rfl));replace HB:=Ah (hb);replace HI0:=Ah (hi);(try clear hb hk hi))|((with_reducible refine bJ (f:=33) rfl ?_);refine gL (some 12) rfl rfl Try.func33 (by kernel_rfl) rfl #[.pointer (some ⟨g,0,none⟩),.int .i64 2] rfl ?_;(with_reducible refine(mj.calls g av On Oo 2 zp zq zr w0 _ ?a8 ?a9 A5.out).mono ?_);(case a8=>exact Y.iC HI0 jq);(case a9=>exact aH HB my);rintro e rb ⟨rfl,hi,hb,hk⟩;refine⟨_,rfl, ?_⟩;replace gP:=Ah (aM.blk hk (g':=jv) (o:= .cells #[.int .i64 0,.int .i64 0,.int .i64 0,.bool false] 65 (0,0)) (bk gP) pG.out (by simp));replace HK:=Ah (aM.trans (nI HK kn) hk (.inl rfl));replace HB:=Ah (hb);replace HI0:=Ah (hi);(try clear hb hk hi))|((with_reducible refine ax (N:=3) rfl ?_);refine bA 3 65 #[.int .i64 0,.int .i64 0,.int .i64 0,.bool false] ?_;intro pU hg Dv mz hb;replace HB:=Ah (aK (aH HB my) hb);have zJ:=Ah ((by rw[hg];exact(gn (w:=w) (g:=g) (row:=none) (nI HK kn)):w.heap.size≤pU));have CJ:=Ah ((aax HW0.out (by rw[hg];exact(gn (w:=w) (g:=g) (row:=none) (nI HK kn)):w.heap.size≤pU):w0.heap.size≤pU));replace HK:=Ah (aM.trans (nI HK kn) (aM.of_below hb g none) (.inl rfl));have E8:=nn gP hg;have QB:=nm gP hg;replace gP:=nb gP hb;have vE:=Ah ((by rw[hg];exact aaI (Y.lt (show Y w0 _ g av zq zr from Y.iC HI0 jq)):g≠pU));have ES:=Ah ((by rw[hg];exact aaJ (Y.lt (show Y w0 _ g av zq zr from Y.iC HI0 jq)):pU≠g));replace HI0:=Ah (Y.below (Y.iC HI0 jq) hb);clear hb hg;have hnb32:=QB.out;have hnc32:=E8.out;have hnb33:=ES.out;have hnc33:=vE.out;obtain⟨hcz34_0,hcz34_1,hcz34_2,hcz34_3⟩:=cA mz;obtain⟨hfz34_0,hfz34_1,hfz34_2,hfz34_3⟩:=cB mz)|((with_reducible refine bJ (f:=33) rfl ?_);refine gL (some 15) rfl rfl Try.func33 (by kernel_rfl) rfl #[.pointer (some ⟨g,0,none⟩),.int .i64 30] rfl ?_;(with_reducible refine(mj.calls g av zq zr 30 false K5 K6 w0 _ ?a8 ?a9 A6.out).mono ?_);(case a8=>exact Y.eE HI0 jq vE);(case a9=>exact aW HB my CJ);rintro e Dw ⟨rfl,hi,hb,hk⟩;refine⟨_,rfl, ?_⟩;replace gP:=Ah (aM.blk hk (g':=jv) (o:= .cells #[.int .i64 0,.int .i64 0,.int .i64 0,.bool false] 65 (0,0)) (bf gP E8) pG.out (by simp));replace mz:=Ah (aM.blk hk (g':=pU) (o:= .cells #[.int .i64 oR,.int .i64 (LS (1+nl)),.int .i64 sf,.bool zp] 65 (0,0)) (by(with_reducible repeat(first|refine aD ?_ _|refine Z ?_|refine aC ?_ _));refine aj (cs:= #[.int .i64 oR,.int .i64 (LS (1+nl)),.int .i64 sf,.bool false]) ?_ 3 _ rfl;(with_reducible repeat(first|refine aD ?_ _|refine Z ?_|refine aC ?_ _));refine aj (cs:= #[.int .i64 oR,.int .i64 (LS (1+nl)),.int .i64 0,.bool false]) ?_ 2 _ rfl;(with_reducible repeat(first|refine aD ?_ _|refine Z ?_|refine aC ?_ _));refine aj (cs:= #[.int .i64 oR,.int .i64 0,.int .i64 0,.bool false]) ?_ 1 _ rfl;(with_reducible repeat(first|refine aD ?_ _|refine Z ?_|refine aC ?_ _));refine aj (cs:= #[.int .i64 0,.int .i64 0,.int .i64 0,.bool false]) ?_ 0 _ rfl;(with_reducible repeat(first|refine aD ?_ _|refine Z ?_|refine aC ?_ _));exact mz.out) ES.out (by simp));replace HK:=Ah (aM.trans (hZ HK kn zJ) hk (.inl rfl));replace HB:=Ah (hb);replace HI0:=Ah (hi);(try clear hb hk hi);obtain⟨hcz36_0,hcz36_1,hcz36_2,hcz36_3⟩:=cA mz;obtain⟨hfz36_0,hfz36_1,hfz36_2,hfz36_3⟩:=cB mz;have SG:=pG.out;have SH:=jq.out;obtain⟨pE,hcz38_1,hcz38_2,hcz38_3⟩:=cA gP;obtain⟨pF,hfz38_1,hfz38_2,hfz38_3⟩:=cB gP))
  refine bodyPost_ret (results_cell_row rfl _ _ jv 65 #[.int .i64 oR,.int .i64 (LS (1+nl)),.int .i64 sf,.bool zp] (0,0) _ rfl (by(with_reducible repeat(first|refine aD ?_ _|refine Z ?_|refine aC ?_ _));refine aj (cs:= #[.int .i64 oR,.int .i64 (LS (1+nl)),.int .i64 sf,.bool false]) ?_ 3 _ rfl;(with_reducible repeat(first|refine aD ?_ _|refine Z ?_|refine aC ?_ _));refine aj (cs:= #[.int .i64 oR,.int .i64 (LS (1+nl)),.int .i64 0,.bool false]) ?_ 2 _ rfl;(with_reducible repeat(first|refine aD ?_ _|refine Z ?_|refine aC ?_ _));refine aj (cs:= #[.int .i64 oR,.int .i64 0,.int .i64 0,.bool false]) ?_ 1 _ rfl;(with_reducible repeat(first|refine aD ?_ _|refine Z ?_|refine aC ?_ _));refine aj (cs:= #[.int .i64 0,.int .i64 0,.int .i64 0,.bool false]) ?_ 0 _ rfl;(with_reducible repeat(first|refine aD ?_ _|refine Z ?_|refine aC ?_ _));exact gP.out) aay rfl (by kernel_rfl)) rfl ?_;exact⟨er,Y.eE HI0 jq vE,aW HB my CJ,hZ HK kn zJ⟩
 subst c7;rw[if_pos rfl]at H;obtain⟨Ut,IP⟩:∃y_:List Int,y_=(([(-1),198,200]:List Int)):=⟨_,rfl⟩
 replace H:((ow.f av K5 K6 Ut).bind fun tZ=>(some (tZ.1,LS (1+nl),sf,zp,tZ.2.1,tZ.2.2)))=some (r1,r2,r3,r4,r5,r6):=by first|(rw[IP];with_reducible exact H)|(have aX:=(Mq _ _).symm.trans H;rw[IP];with_reducible exact aX)|(have aX:=(Mq _ _).symm.trans H;with_reducible exact aX)|with_reducible exact H|(rw[IP];exact H)|exact H
 have a1J:=Ah IP;clear IP;replace H:=LT.mp H;obtain⟨⟨K7,t312,t313⟩,AP,H⟩:=H
 try dsimp only at H
 have A8:=Ah AP;clear AP;simp only[j4,ub]at H;obtain⟨rfl,rfl,rfl,rfl,rfl,rfl⟩:=H
 go_enter Try.func41,Try.ntmps41
 go_wp2_with (first|((with_reducible refine ax (N:=2) rfl ?_);refine bA 2 65 #[.int .i64 0,.int .i64 0,.int .i64 0,.bool false] ?_;intro jv hg w9 gP hb;replace HB:=Ah (aK (bs HB) hb);have kn:=Ah ((by rw[hg];exact(gn (w:=w) (g:=g) (row:=none) (mJ HK)):w.heap.size≤jv));have my:=Ah ((aax HW0.out (by rw[hg];exact(gn (w:=w) (g:=g) (row:=none) (mJ HK)):w.heap.size≤jv):w0.heap.size≤jv));replace HK:=Ah (aM.trans (mJ HK) (aM.of_below hb g none) (.inl rfl));have jq:=Ah ((by rw[hg];exact aaI (Y.lt (show Y w0 _ g av ci eA from Y.mL HI0)):g≠jv));have pG:=Ah ((by rw[hg];exact aaJ (Y.lt (show Y w0 _ g av ci eA from Y.mL HI0)):jv≠g));replace HI0:=Ah (Y.below (Y.mL HI0) hb);clear hb hg)|((with_reducible refine bJ (f:=21) rfl ?_);refine gL (some 5) rfl rfl aar (by kernel_rfl) rfl #[.pointer (some ⟨g,0,none⟩),.int .i64 30] rfl ?_;(with_reducible refine(ct.calls g av ci eA 30 oR Oi Oj w0 _ ?a8 ?a9 A2.out).mono ?_);(case a8=>exact Y.iC HI0 jq);(case a9=>exact aH HB my);rintro e AQ ⟨rfl,hi,hb,hk⟩;refine⟨_,rfl, ?_⟩;replace gP:=Ah (aM.blk hk (g':=jv) (o:= .cells #[.int .i64 0,.int .i64 0,.int .i64 0,.bool false] 65 (0,0)) (bk gP) pG.out (by simp));replace HK:=Ah (aM.trans (nI HK kn) hk (.inl rfl));replace HB:=Ah (hb);replace HI0:=Ah (hi);(try clear hb hk hi))|((with_reducible refine bJ (f:=21) rfl ?_);refine gL (some 7) rfl rfl aar (by kernel_rfl) rfl #[.pointer (some ⟨g,0,none⟩),.int .i64 6] rfl ?_;(with_reducible refine(ct.calls g av Oi Oj 6 nl Ol Om w0 _ ?a8 ?a9 A3.out).mono ?_);(case a8=>exact Y.iC HI0 jq);(case a9=>exact aH HB my);rintro e rg ⟨rfl,hi,hb,hk⟩;refine⟨_,rfl, ?_⟩;replace gP:=Ah (aM.blk hk (g':=jv) (o:= .cells #[.int .i64 0,.int .i64 0,.int .i64 0,.bool false] 65 (0,0)) (bk gP) pG.out (by simp));replace HK:=Ah (aM.trans (nI HK kn) hk (.inl rfl));replace HB:=Ah (hb);replace HI0:=Ah (hi);(try clear hb hk hi))|((with_reducible refine bJ (f:=21) rfl ?_);refine gL (some 10) rfl rfl aar (by kernel_rfl) rfl #[.pointer (some ⟨g,0,none⟩),.int .i64 60] rfl ?_;(with_reducible refine(ct.calls g av Ol Om 60 sf On Oo w0 _ ?a8 ?a9 A4.out).mono ?_);(case a8=>exact Y.iC HI0 jq);(case a9=>exact aH HB my);rintro e G9 ⟨rfl,hi,hb,hk⟩;refine⟨_,rfl, ?_⟩;replace gP:=Ah (aM.blk hk (g':=jv) (o:= .cells #[.int .i64 0,.int .i64 0,.int .i64 0,.bool false] 65 (0,0)) (bk gP) pG.out (by simp));replace HK:=Ah (aM.trans (nI HK kn) hk (.inl rfl));replace HB:=Ah (hb);replace HI0:=Ah (hi);(try clear hb hk hi))|((with_reducible refine bJ (f:=33) rfl ?_);refine gL (some 12) rfl rfl Try.func33 (by kernel_rfl) rfl #[.pointer (some ⟨g,0,none⟩),.int .i64 2] rfl ?_;(with_reducible refine(mj.calls g av On Oo 2 zp zq zr w0 _ ?a8 ?a9 A5.out).mono ?_);(case a8=>exact Y.iC HI0 jq);(case a9=>exact aH HB my);rintro e nJ ⟨rfl,hi,hb,hk⟩;refine⟨_,rfl, ?_⟩;replace gP:=Ah (aM.blk hk (g':=jv) (o:= .cells #[.int .i64 0,.int .i64 0,.int .i64 0,.bool false] 65 (0,0)) (bk gP) pG.out (by simp));replace HK:=Ah (aM.trans (nI HK kn) hk (.inl rfl));replace HB:=Ah (hb);replace HI0:=Ah (hi);(try clear hb hk hi))|((with_reducible refine ax (N:=3) rfl ?_);refine bA 3 65 #[.int .i64 0,.int .i64 0,.int .i64 0,.bool false] ?_;intro pU hg PZ mz hb;replace HB:=Ah (aK (aH HB my) hb);have zJ:=Ah ((by rw[hg];exact(gn (w:=w) (g:=g) (row:=none) (nI HK kn)):w.heap.size≤pU));have CJ:=Ah ((aax HW0.out (by rw[hg];exact(gn (w:=w) (g:=g) (row:=none) (nI HK kn)):w.heap.size≤pU):w0.heap.size≤pU));replace HK:=Ah (aM.trans (nI HK kn) (aM.of_below hb g none) (.inl rfl));have E8:=nn gP hg;have QB:=nm gP hg;replace gP:=nb gP hb;have vE:=Ah ((by rw[hg];exact aaI (Y.lt (show Y w0 _ g av zq zr from Y.iC HI0 jq)):g≠pU));have ES:=Ah ((by rw[hg];exact aaJ (Y.lt (show Y w0 _ g av zq zr from Y.iC HI0 jq)):pU≠g));replace HI0:=Ah (Y.below (Y.iC HI0 jq) hb);clear hb hg;have SE:=QB.out;have SF:=E8.out;have hnb16:=ES.out;have hnc16:=vE.out;obtain⟨qR,hcz17_1,hcz17_2,hcz17_3⟩:=cA mz;obtain⟨qS,hfz17_1,hfz17_2,hfz17_3⟩:=cB mz)|((with_reducible refine bJ (f:=33) rfl ?_);refine gL (some 15) rfl rfl Try.func33 (by kernel_rfl) rfl #[.pointer (some ⟨g,0,none⟩),.int .i64 30] rfl ?_;(with_reducible refine(mj.calls g av zq zr 30 true K5 K6 w0 _ ?a8 ?a9 A6.out).mono ?_);(case a8=>exact Y.eE HI0 jq vE);(case a9=>exact aW HB my CJ);rintro e Wh ⟨rfl,hi,hb,hk⟩;refine⟨_,rfl, ?_⟩;replace gP:=Ah (aM.blk hk (g':=jv) (o:= .cells #[.int .i64 0,.int .i64 0,.int .i64 0,.bool false] 65 (0,0)) (bf gP E8) pG.out (by simp));replace mz:=Ah (aM.blk hk (g':=pU) (o:= .cells #[.int .i64 oR,.int .i64 (LS (1+nl)),.int .i64 sf,.bool zp] 65 (0,0)) (by(with_reducible repeat(first|refine aD ?_ _|refine Z ?_|refine aC ?_ _));refine aj (cs:= #[.int .i64 oR,.int .i64 (LS (1+nl)),.int .i64 sf,.bool false]) ?_ 3 _ rfl;(with_reducible repeat(first|refine aD ?_ _|refine Z ?_|refine aC ?_ _));refine aj (cs:= #[.int .i64 oR,.int .i64 (LS (1+nl)),.int .i64 0,.bool false]) ?_ 2 _ rfl;(with_reducible repeat(first|refine aD ?_ _|refine Z ?_|refine aC ?_ _));refine aj (cs:= #[.int .i64 oR,.int .i64 0,.int .i64 0,.bool false]) ?_ 1 _ rfl;(with_reducible repeat(first|refine aD ?_ _|refine Z ?_|refine aC ?_ _));refine aj (cs:= #[.int .i64 0,.int .i64 0,.int .i64 0,.bool false]) ?_ 0 _ rfl;(with_reducible repeat(first|refine aD ?_ _|refine Z ?_|refine aC ?_ _));exact mz.out) ES.out (by simp));replace HK:=Ah (aM.trans (hZ HK kn zJ) hk (.inl rfl));replace HB:=Ah (hb);replace HI0:=Ah (hi);(try clear hb hk hi))|((with_reducible refine ax (N:=17) rfl ?_);refine Kd.wm (Kd.int .i64) _ 3 ?hg (N:=17) ?hd (xs:=([(-1),198,200]:List Int)) (inner:=[.int .i64 (-1),.int .i64 198,.int .i64 200]) (ok:=fun _=>True) (okp:=fun _=>True) ?hr ?hp (fun _ hk=>hk) trivial (aaa _ _) (bx _) (by simp) ?_;(case hd=>rfl);(case hg=>rfl);(case hr=>first|(go_simp;done)|(go_simp;rfl));(case hp=>exact(cj.one (show Kd.M (Kd.int .i64) _ _ _ (-1) [.int .i64 (-1)]from rfl) (cj.one (show Kd.M (Kd.int .i64) _ _ _ 198 [.int .i64 198]from rfl) (cj.one (show Kd.M (Kd.int .i64) _ _ _ 200 [.int .i64 200]from rfl) (cj.none _ _)))));intro v309 jl K8 hb lJ l8;clear lJ l8;(first|rw[←a1J.out]at K8|(simp only[Int.reduceToNat]at K8;rw[←a1J.out]at K8));have F6:=Ah (Kd.dD K8 (gn (w:=w) (g:=g) (row:=none) (hZ HK kn zJ)));replace gP:=nb gP hb;replace mz:=nb mz hb;replace HK:=Ah (aM.trans (hZ HK kn zJ) (aM.of_below hb g none) (.inl rfl));replace HB:=Ah (aK (aW HB my CJ) hb);replace HI0:=Ah (Y.below (Y.eE HI0 jq vE) hb);clear hb K8;obtain⟨gI,fv,nD⟩:=Kd.bq F6.out;subst nD)|((with_reducible refine bJ (f:=46) rfl ?_);refine gL (some 18) rfl rfl Try.func46 (by kernel_rfl) rfl #[.pointer (some ⟨g,0,none⟩),.slice gI Ut.length fv] rfl ?_;(with_reducible refine(ow.calls g av K5 K6 _ _ Ut K7 t312 t313 w0 _ ?a8 ?a9 ?dm ?qu ?Sw A8.out).mono ?_);(case a8=>exact Y.eE HI0 jq vE);(case a9=>exact aW HB my CJ);(case dm=>exact fB F6);(case qu=>exact(Kd.af F6.out).2.1);(case Sw=>exact XZ (Y.own_ne HI0.out F6.out (by decide)));rintro e kt ⟨rfl,hi,hb,hk⟩;refine⟨_,rfl, ?_⟩;replace gP:=Ah (aM.blk hk (g':=jv) (o:= .cells #[.int .i64 0,.int .i64 0,.int .i64 0,.bool false] 65 (0,0)) (bk gP) pG.out (by simp));replace mz:=Ah (aM.blk hk (g':=pU) (o:= .cells #[.int .i64 oR,.int .i64 (LS (1+nl)),.int .i64 sf,.bool zp] 65 (0,0)) (bk mz) ES.out (by simp));replace F6:=Ah (Kd.aY (Kd.gO (Y.apart (show Y w0 _ g av K5 K6 from Y.eE HI0 jq vE) (rr F6.out) (by decide)) hk (fun _ h=>h.2)) (fun _ h=>h.1));replace HK:=Ah (aM.trans (hZ HK kn zJ) hk (.inl rfl));replace HB:=Ah (hb);replace HI0:=Ah (hi);(try clear hb hk hi);obtain⟨mO,RC,RD,hcz23_3⟩:=cA mz;obtain⟨mP,RE,RF,hfz23_3⟩:=cB mz;have NL:=pG.out;have NM:=jq.out;obtain⟨R4,hcz25_1,hcz25_2,hcz25_3⟩:=cA gP;obtain⟨R5,hfz25_1,hfz25_2,hfz25_3⟩:=cB gP))
 refine bodyPost_ret (results_cell_row rfl _ _ jv 65 #[.int .i64 K7,.int .i64 (LS (1+nl)),.int .i64 sf,.bool zp] (0,0) _ rfl (by(with_reducible repeat(first|refine aD ?_ _|refine Z ?_|refine aC ?_ _));refine aj (cs:= #[.int .i64 K7,.int .i64 (LS (1+nl)),.int .i64 sf,.bool false]) ?_ 3 _ rfl;(with_reducible repeat(first|refine aD ?_ _|refine Z ?_|refine aC ?_ _));refine aj (cs:= #[.int .i64 K7,.int .i64 (LS (1+nl)),.int .i64 0,.bool false]) ?_ 2 _ rfl;(with_reducible repeat(first|refine aD ?_ _|refine Z ?_|refine aC ?_ _));refine aj (cs:= #[.int .i64 K7,.int .i64 0,.int .i64 0,.bool false]) ?_ 1 _ rfl;(with_reducible repeat(first|refine aD ?_ _|refine Z ?_|refine aC ?_ _));refine aj (cs:= #[.int .i64 0,.int .i64 0,.int .i64 0,.bool false]) ?_ 0 _ rfl;(with_reducible repeat(first|refine aD ?_ _|refine Z ?_|refine aC ?_ _));refine gc ?_ E8.out _;(with_reducible repeat(first|refine aD ?_ _|refine Z ?_|refine aC ?_ _));exact gP.out) aay rfl (by kernel_rfl)) rfl ?_;exact⟨er,Y.eE HI0 jq vE,aW HB my CJ,hZ HK kn zJ⟩
mutual
def eR.j0:Nat→Bool→List (a7)→Int→Int→Int→Bool→Option ((List (a7))×Bool)
 |0,_,_,_,_,_,_=>none
 |k+1,gh,wW,wX,vF,tG,B5=>if gh=true then(some (([]:List (a7)),false))else(eR.l0 k wW (wW.length:Int) 0 wW wX vF tG B5)
def eR.l0:Nat→List (a7)→Int→Int→List (a7)→Int→Int→Int→Bool→Option ((List (a7))×Bool)
 |0,_,_,_,_,_,_,_,_=>none
 |k+1,lF,x20,fi,wW,wX,vF,tG,B5=>if fi<x20 then(if 0≤fi then(if fi<(lF.length:Int)then(if((I lF fi).f0)<(LS (wX+vF))then(if wX<(LS (((I lF fi).f0)+((I lF fi).f1)))then(some (([]:List (a7)),false))else(if((I lF fi).f2)<(LS (tG+vF))then(if tG<(LS (((I lF fi).f2)+((I lF fi).f1)))then(some (([]:List (a7)),false))else(eR.l0 k lF x20 (LS (fi+1)) wW wX vF tG B5))else(eR.l0 k lF x20 (LS (fi+1)) wW wX vF tG B5)))else(if((I lF fi).f2)<(LS (tG+vF))then(if tG<(LS (((I lF fi).f2)+((I lF fi).f1)))then(some (([]:List (a7)),false))else(eR.l0 k lF x20 (LS (fi+1)) wW wX vF tG B5))else(eR.l0 k lF x20 (LS (fi+1)) wW wX vF tG B5)))else(none))else(none))else((gW.f k wW wX vF tG B5).bind fun zs=>((dK.f k zs).bind fun rP=>((br.f k rP).bind fun Uu=>(if Uu=true then(some (rP,true))else(some (([]:List (a7)),false))))))
end
def eR.f(k:Nat)(J:List (a7))(cU:Int)(d7:Int)(cM:Int)(dE:Bool):Option ((List (a7))×Bool):=(br.f k J).bind fun K9=>(if K9=true then((oy.f cU d7 cM dE).bind fun Fj=>(eR.j0 k (!Fj) J cU d7 cM dE))else(eR.j0 k true J cU d7 cM dE))
theorem eR.dL:∀k,(∀y0 y1 y2 y3 y4 y5,aG (eR.j0 k y0 y1 y2 y3 y4 y5) (eR.j0 (k+1) y0 y1 y2 y3 y4 y5))∧(∀y0 y1 y2 y3 y4 y5 y6 y7,aG (eR.l0 k y0 y1 y2 y3 y4 y5 y6 y7) (eR.l0 (k+1) y0 y1 y2 y3 y4 y5 y6 y7))
 |0=>⟨fun _ _ _ _ _ _ r h=>by simp[eR.j0]at h,fun _ _ _ _ _ _ _ _ r h=>by simp[eR.l0]at h⟩
 |k+1=>by
  obtain⟨bw,ih1⟩:=eR.dL k
  refine⟨?_, ?_⟩<;>intros<;>first|unfold eR.j0|unfold eR.l0
  all_goals repeat' first
   |(with_reducible exact bw _ _ _ _ _ _)
   |(with_reducible exact ih1 _ _ _ _ _ _ _ _)
   |(with_reducible exact br.mono _ _)
   |(with_reducible exact dK.mono _ _)
   |(with_reducible exact gW.mono _ _ _ _ _ _)
   |(with_reducible exact aG.refl _)
   |(with_reducible exact aG.none _)
   |(with_reducible refine aG.ite ?_ ?_)
   |(with_reducible refine aG.bind ?_ (fun _=> ?_))
   |exact bw _ _ _ _ _ _
   |exact ih1 _ _ _ _ _ _ _ _
   |exact br.mono _ _
   |exact dK.mono _ _
   |exact gW.mono _ _ _ _ _ _
   |exact aG.none _
   |refine aG.ite ?_ ?_
   |refine aG.bind ?_ (fun _=> ?_)
theorem eR.mono:∀a0 a1 a2 a3 a4 k,aG (eR.f k a0 a1 a2 a3 a4) (eR.f (k+1) a0 a1 a2 a3 a4):=by
 intro a0 a1 a2 a3 a4 k;obtain⟨bw,ih1⟩:=eR.dL k;unfold eR.f
 repeat' with_reducible first|exact bw _ _ _ _ _ _|exact ih1 _ _ _ _ _ _ _ _|exact br.mono _ _|exact dK.mono _ _|exact gW.mono _ _ _ _ _ _|exact aG.refl _|exact aG.none _|refine aG.ite ?_ ?_|refine aG.bind ?_ (fun _=> ?_)
set_option maxHeartbeats 8000000 in
set_option maxRecDepth 100000 in
theorem eR.calls(k:Nat)(bS:Option Addr)(bL:Nat)(J:List (a7))(cU:Int)(d7:Int)(cM:Int)(dE:Bool)(r1:List (a7))(r2:Bool)(w:World)(fT:Kd.C b7 w bS J.length J)(fU:J.length≤bL)(h:eR.f k J cU d7 cM dE=some (r1,r2)):
 Calls aad 42 #[.agg #[.slice bS J.length bL],.agg #[.int .i64 cU,.int .i64 d7,.int .i64 cM,.bool dE]] w fun e w'=>∃da:Value,e= .returned (.tuple #[.agg #[da],.bool r2])∧Kd.R b7 65 w' w.heap.size (fun _=>True) da r1∧Below w.heap.size w w':=by
 have kJ:=ua;have mA:=aay;have cY:=Ah fT;have dw:=Ah fU;clear fT fU;have HB:=Ah (aaa w.heap.size w);have H:((br.f k J).bind fun K9=>(if K9=true then((oy.f cU d7 cM dE).bind fun Fj=>(eR.j0 k (!Fj) J cU d7 cM dE))else(eR.j0 k true J cU d7 cM dE)))=some (r1,r2):=h;clear h;have ke:=Ah H;clear H
 go_enter Try.func42,Try.ntmps42
 go_upto_region 1 with(first|((with_reducible refine ax (N:=2) rfl ?_);refine bA 2 25 #[.slice bS J.length bL] ?_;intro a1K hg w4 d4 hb;have GW314:=gw hg (bs HB);have eI:=gw hg (bs HB);replace HB:=Ah (aK (bs HB) hb);clear hb hg)|((with_reducible refine ax (N:=3) rfl ?_);refine bA 3 65 #[.int .i64 cU,.int .i64 d7,.int .i64 cM,.bool dE] ?_;intro F7 hg w5 ch hb;have GW315:=gw hg (aH HB eI);have eT:=gw hg (aH HB eI);replace HB:=Ah (aK (aH HB eI) hb);have rp:=nn d4 hg;have rq:=nm d4 hg;replace d4:=nb d4 hb;clear hb hg)|((with_reducible refine ax (N:=4) rfl ?_);refine bA 4 25 #[.slice none 0 0] ?_;intro xB hg w6 cw hb;have GW316:=gw hg (aW HB eI eT);have el:=gw hg (aW HB eI eT);replace HB:=Ah (aK (aW HB eI eT) hb);have vt:=nn d4 hg;have vu:=nm d4 hg;replace d4:=nb d4 hb;have sy:=nn ch hg;have t0:=nm ch hg;replace ch:=nb ch hb;clear hb hg))
 (try simp only[aab,Ok,bY,dl])
 go_cut [16] (fun v16 wc=>∃ (kq:Nat) (NU:Bool),v16= .bool NU∧U (eR.j0 kq NU J cU d7 cM dE=some (r1,r2))∧U (kq≤k)∧U (wc.heap[a1K]?=some (.cells #[(.slice bS J.length bL)] 25 (0,0)))∧U (wc.heap[F7]?=some (.cells #[.int .i64 cU,.int .i64 d7,.int .i64 cM,.bool dE] 65 (0,0)))∧U (wc.heap[xB]?=some (.cells #[(.slice none 0 0)] 25 (0,0)))∧U (Below w.heap.size w wc))
 case first=>
  have H:=ke.out;clear ke;replace H:=LT.mp H;obtain⟨K9,kb,H⟩:=H
  try dsimp only at H
  have A7:=Ah kb;clear kb
  by_cases c8:K9=true
  rotate_left
  ·
   replace c8:=dn.mpr c8;subst c8;rw[if_neg dV]at H;have H':=Ah H;clear H;have zE:=rp.out;have zF:=rq.out;have NV:=vt.out;have NW:=vu.out;have yl:=ap d4;have ym:=an d4
   go_wp2_with (first|((with_reducible refine bJ (f:=26) rfl ?_);refine gL (some 10) rfl rfl abh (by kernel_rfl) rfl #[.agg #[.slice bS J.length bL]] rfl ?_;(with_reducible refine(br.calls k _ _ J false _ ?a8 ?a9 A7.out).mono ?_);(case a8=>exact cb cY HB);(case a9=>exact dw.out);rintro e vm ⟨rfl,hb⟩;refine⟨_,rfl, ?_⟩;replace d4:=nb d4 hb;replace ch:=nb ch hb;replace cw:=nb cw hb;replace HB:=Ah (aK (bX HB eI eT el) hb);(try clear hb)))
   go_meet
   case rel=>exact⟨_,(true),e3,H',⟨by first|omega|exact bx _⟩,⟨bk d4⟩,⟨bk ch⟩,⟨bk cw⟩,⟨bX HB eI eT el⟩⟩
  subst c8;rw[if_pos rfl]at H;replace H:=LT.mp H;obtain⟨Fj,AL,H⟩:=H
  try dsimp only at H
  have A9:=Ah AL;clear AL;have H':=Ah H;clear H;have SW:=rp.out;have SX:=rq.out;have a1L:=vt.out;have a1M:=vu.out;have yn:=ap d4;have yo:=an d4
  go_wp2_with (first|((with_reducible refine bJ (f:=26) rfl ?_);refine gL (some 10) rfl rfl abh (by kernel_rfl) rfl #[.agg #[.slice bS J.length bL]] rfl ?_;(with_reducible refine(br.calls k _ _ J true _ ?a8 ?a9 A7.out).mono ?_);(case a8=>exact cb cY HB);(case a9=>exact dw.out);rintro e nJ ⟨rfl,hb⟩;refine⟨_,rfl, ?_⟩;replace d4:=nb d4 hb;replace ch:=nb ch hb;replace cw:=nb cw hb;replace HB:=Ah (aK (bX HB eI eT el) hb);(try clear hb);have NN:=sy.out;have NO:=t0.out;obtain⟨wU,Au,Av,Aw⟩:=cA ch;obtain⟨wV,Ax,Ay,Az⟩:=cB ch)|(go_at_call 34;(with_reducible refine(oy.calls cU d7 cM dE Fj _ A9.out).mono ?_);rintro e w16 ⟨rfl,hb⟩;replace d4:=nb d4 hb;replace ch:=nb ch hb;replace cw:=nb cw hb;replace HB:=Ah (aK (bX HB eI eT el) hb);(try clear hb)))
  go_meet
  case rel=>exact⟨_,(!Fj),e3,H',⟨by first|omega|exact bx _⟩,⟨bk d4⟩,⟨bk ch⟩,⟨bk cw⟩,⟨bX HB eI eT el⟩⟩
 case rest=>
  clear ke
  try clear c1
  try clear c2
  try clear p2
  try clear c4
  try clear c8
  try clear c10
  try clear c11
  try clear c14
  try clear c17
  try clear c18
  try clear yn
  try clear wU Au Av Aw
  try clear yl
  try clear yo
  try clear wV Ax Ay Az
  try clear ym
  obtain⟨kq,NU,rfl,HA,HJ2,d4,ch,cw,HB⟩:=hcut
  cases kq with
  |zero=>exact absurd HA.out (by simp[eR.j0])
  |succ kf=>
   have H:=HA.out;clear HA;simp only[eR.j0]at H
   by_cases c21:NU=true
   ·
    subst c21;rw[if_pos rfl]at H;simp only[j4,ub]at H;obtain⟨rfl,rfl⟩:=H;have z7:=vu.out;have z8:=vt.out;have SY:=t0.out;have SZ:=sy.out;have yj:=ap cw;have yk:=an cw
    go_wp2
    refine bodyPost_ret (mm rfl _ _ xB 25 #[.slice none 0 0] (0,0) _ rfl (by(with_reducible repeat(first|refine aD ?_ _|refine Z ?_|refine aC ?_ _));refine aj (cs:= #[.slice none 0 0]) ?_ 0 _ rfl;(with_reducible repeat(first|refine aD ?_ _|refine Z ?_|refine aC ?_ _));exact cw.out) ua rfl (by kernel_rfl)) rfl ?_;exact⟨_,er,by first|exact Kd.fk _ _ _ _ _|exact Kd.iI _ _ _ _ _|exact Kd.iJ _ _ _ _ _|exact Kd.iG _ _ _ _ _|exact Kd.iH _ _ _ _ _,bX HB eI eT el⟩
   replace c21:=dn.mpr c21;subst c21;rw[if_neg dV]at H;have H':=Ah H;clear H;have Sx:=rp.out;have Sy:=rq.out;have a1N:=vt.out;have a1O:=vu.out;have MF:=ap d4;have MG:=an d4
   go_wp2
   go_loopg [21] kf (fun kq v21 w'=>∃ (df:Int),v21= .int .i64 df∧U (eR.l0 kq J (J.length:Int) df J cU d7 cM dE=some (r1,r2))∧U (kq≤kf)∧U (w'.heap[a1K]?=some (.cells #[(.slice bS J.length bL)] 25 (0,0)))∧U (w'.heap[F7]?=some (.cells #[.int .i64 cU,.int .i64 d7,.int .i64 cM,.bool dE] 65 (0,0)))∧U (w'.heap[xB]?=some (.cells #[(.slice none 0 0)] 25 (0,0)))∧U (Below w.heap.size w w'))
   case atStart=>exact⟨(0),e3,H',⟨bx _⟩,⟨bk d4⟩,⟨bk ch⟩,⟨bk cw⟩,⟨bX HB eI eT el⟩⟩
   case round=>
    clear H'
    try clear c1
    try clear c2
    try clear p2
    try clear c4
    try clear c8
    try clear c10
    try clear c11
    try clear c14
    try clear c17
    try clear c18
    try clear c21
    try clear ks
    try clear c23
    try clear ix
    try clear i3
    try clear yn
    try clear wU Au Av Aw
    try clear yl
    try clear yj
    try clear MF
    try clear yo
    try clear wV Ax Ay Az
    try clear ym
    try clear yk
    try clear MG
    try clear p2
    obtain⟨df,rfl,HA,eg,d4,ch,cw,HB⟩:=hrel
    cases gk with
    |zero=>exact absurd HA.out (by simp[eR.l0])
    |succ k2=>
     have H:=HA.out;clear HA;simp only[eR.l0]at H
     by_cases c28:df<(J.length:Int)
     rotate_left
     ·
      rw[if_neg c28]at H;have Sz:decide (df<(J.length:Int))=false:=decide_eq_false c28;clear c28;replace H:=LT.mp H;obtain⟨zs,a4S,H⟩:=H
      try dsimp only at H
      have A99:=Ah a4S;clear a4S;replace H:=LT.mp H;obtain⟨rP,a1P,H⟩:=H
      try dsimp only at H
      have u7:=Ah a1P;clear a1P;replace H:=LT.mp H;obtain⟨Uu,a1Q,H⟩:=H
      try dsimp only at H
      have a4T:=Ah a1Q;clear a1Q
      by_cases Fk:Uu=true
      rotate_left
      ·
       replace Fk:=dn.mpr Fk;subst Fk;rw[if_neg dV]at H;simp only[j4,ub]at H;obtain⟨rfl,rfl⟩:=H;have hnb120:=rp.out;have hnc120:=rq.out;have hnb121:=vt.out;have hnc121:=vu.out;have hcz122_0:=ap d4;have hfz122_0:=an d4;have hnb123:=sy.out;have hnc123:=t0.out;obtain⟨hcz124_0,hcz124_1,hcz124_2,hcz124_3⟩:=cA ch;obtain⟨hfz124_0,hfz124_1,hfz124_2,hfz124_3⟩:=cB ch
       go_wp2_with (first|((with_reducible refine bJ (f:=35) rfl ?_);refine gL (some 68) rfl rfl Try.func35 (by kernel_rfl) rfl #[.slice bS J.length bL,.agg #[.int .i64 cU,.int .i64 d7,.int .i64 cM,.bool dE]] rfl ?_;(with_reducible refine(gW.calls k2 _ _ J cU d7 cM dE zs _ ?a8 ?a9 A99.out).mono ?_);(case a8=>exact cb cY HB);(case a9=>exact dw.out);rintro e w125 ⟨v322,rfl,ho0,hb⟩;refine⟨_,rfl, ?_⟩;have l9:=Ah (Kd.dD (Kd.qn ho0 (g:=F7) (o:= .cells #[.int .i64 cU,.int .i64 d7,.int .i64 cM,.bool dE] 65 (0,0)) (bk ch)) (be (bX HB eI eT el)));replace d4:=nb d4 hb;replace ch:=nb ch hb;replace cw:=nb cw hb;replace HB:=Ah (aK (bX HB eI eT el) hb);(try clear hb ho0);obtain⟨Ao126,co126,eo126⟩:=Kd.bq l9.out;subst eo126)|((with_reducible refine bJ (f:=36) rfl ?_);refine gL (some 69) rfl rfl Try.func36 (by kernel_rfl) rfl #[.slice Ao126 zs.length co126] rfl ?_;(with_reducible refine(dK.calls k2 _ _ zs rP _ ?a8 ?a9 u7.out).mono ?_);(case a8=>exact fB l9);(case a9=>exact(Kd.af l9.out).2.1);rintro e w127 ⟨v325,rfl,ho0,hb⟩;refine⟨_,rfl, ?_⟩;have na:=Ah (Kd.dD (Kd.qn (Kd.ec ho0 (Kd.dU (rr l9.out))) (g:=F7) (o:= .cells #[.int .i64 cU,.int .i64 d7,.int .i64 cM,.bool dE] 65 (0,0)) (bk ch)) (be (bX HB eI eT el)));replace l9:=Ah (Kd.eZ (rr l9.out) (Kd.eX ho0) hb);replace d4:=nb d4 hb;replace ch:=nb ch hb;replace cw:=nb cw hb;replace HB:=Ah (aK (bX HB eI eT el) hb);(try clear hb ho0))|((with_reducible refine ax (N:=8) rfl ?_);refine bA 8 25 #[.slice none 0 0] ?_;intro T0 hg a3H n0 hb;replace l9:=nr l9 hb;replace na:=nr na hb;have GW327:=gw hg (bX HB eI eT el);have IQ:=gw hg (bX HB eI eT el);replace HB:=Ah (aK (bX HB eI eT el) hb);have Gb:=nn d4 hg;have QC:=nm d4 hg;replace d4:=nb d4 hb;have Gc:=nn ch hg;have QD:=nm ch hg;replace ch:=nb ch hb;have Gd:=nn cw hg;have QE:=nm cw hg;replace cw:=nb cw hb;clear hb hg;obtain⟨a1R,a1S,eo129⟩:=Kd.bq na.out;subst eo129;have hnb130:=QC.out;have hnc130:=Gb.out;have hnb131:=QD.out;have hnc131:=Gc.out;have hnb132:=QE.out;have hnc132:=Gd.out;have hcz133_0:=ap n0;have hfz133_0:=an n0)|((with_reducible refine bJ (f:=26) rfl ?_);refine gL (some 71) rfl rfl abh (by kernel_rfl) rfl #[.agg #[.slice a1R rP.length a1S]] rfl ?_;(with_reducible refine(br.calls k2 _ _ rP false _ ?a8 ?a9 a4T.out).mono ?_);(case a8=>exact rc na n0);(case a9=>exact(Kd.af na.out).2.1);rintro e w134 ⟨rfl,hb⟩;refine⟨_,rfl, ?_⟩;replace l9:=nf l9 n0 hb;replace na:=nf na n0 hb;replace d4:=Ah (cC (bf d4 Gb) hb);replace ch:=Ah (cC (bf ch Gc) hb);replace cw:=Ah (cC (bf cw Gd) hb);replace n0:=Ah (cC (g:=T0) (o:= .cells #[.slice a1R rP.length a1S] 25 (0,0)) (by(with_reducible repeat(first|refine aD ?_ _|refine Z ?_|refine aC ?_ _));refine aj (cs:= #[.slice none 0 0]) ?_ 0 _ rfl;(with_reducible repeat(first|refine aD ?_ _|refine Z ?_|refine aC ?_ _));exact n0.out) hb);replace HB:=Ah (aK (dc HB eI eT el IQ) hb);(try clear hb);have hcz135_0:=ap cw;have hfz135_0:=an cw))
       refine bodyPost_ret (mm rfl _ _ xB 25 #[.slice none 0 0] (0,0) _ rfl (by(with_reducible repeat(first|refine aD ?_ _|refine Z ?_|refine aC ?_ _));refine aj (cs:= #[.slice none 0 0]) ?_ 0 _ rfl;(with_reducible repeat(first|refine aD ?_ _|refine Z ?_|refine aC ?_ _));exact cw.out) ua rfl (by kernel_rfl)) rfl ?_;exact⟨_,er,by first|exact Kd.fk _ _ _ _ _|exact Kd.iI _ _ _ _ _|exact Kd.iJ _ _ _ _ _|exact Kd.iG _ _ _ _ _|exact Kd.iH _ _ _ _ _,dc HB eI eT el IQ⟩
      subst Fk;rw[if_pos rfl]at H;simp only[j4,ub]at H;obtain⟨rfl,rfl⟩:=H;have hnb103:=rp.out;have hnc103:=rq.out;have hnb104:=vt.out;have hnc104:=vu.out;have hcz105_0:=ap d4;have hfz105_0:=an d4;have hnb106:=sy.out;have hnc106:=t0.out;obtain⟨hcz107_0,hcz107_1,hcz107_2,hcz107_3⟩:=cA ch;obtain⟨hfz107_0,hfz107_1,hfz107_2,hfz107_3⟩:=cB ch
      go_wp2_with (first|((with_reducible refine bJ (f:=35) rfl ?_);refine gL (some 68) rfl rfl Try.func35 (by kernel_rfl) rfl #[.slice bS J.length bL,.agg #[.int .i64 cU,.int .i64 d7,.int .i64 cM,.bool dE]] rfl ?_;(with_reducible refine(gW.calls k2 _ _ J cU d7 cM dE zs _ ?a8 ?a9 A99.out).mono ?_);(case a8=>exact cb cY HB);(case a9=>exact dw.out);rintro e w108 ⟨v322,rfl,ho0,hb⟩;refine⟨_,rfl, ?_⟩;have l9:=Ah (Kd.dD (Kd.qn ho0 (g:=F7) (o:= .cells #[.int .i64 cU,.int .i64 d7,.int .i64 cM,.bool dE] 65 (0,0)) (bk ch)) (be (bX HB eI eT el)));replace d4:=nb d4 hb;replace ch:=nb ch hb;replace cw:=nb cw hb;replace HB:=Ah (aK (bX HB eI eT el) hb);(try clear hb ho0);obtain⟨Ao109,co109,eo109⟩:=Kd.bq l9.out;subst eo109)|((with_reducible refine bJ (f:=36) rfl ?_);refine gL (some 69) rfl rfl Try.func36 (by kernel_rfl) rfl #[.slice Ao109 zs.length co109] rfl ?_;(with_reducible refine(dK.calls k2 _ _ zs rP _ ?a8 ?a9 u7.out).mono ?_);(case a8=>exact fB l9);(case a9=>exact(Kd.af l9.out).2.1);rintro e w110 ⟨v325,rfl,ho0,hb⟩;refine⟨_,rfl, ?_⟩;have na:=Ah (Kd.dD (Kd.qn (Kd.ec ho0 (Kd.dU (rr l9.out))) (g:=F7) (o:= .cells #[.int .i64 cU,.int .i64 d7,.int .i64 cM,.bool dE] 65 (0,0)) (bk ch)) (be (bX HB eI eT el)));replace l9:=Ah (Kd.eZ (rr l9.out) (Kd.eX ho0) hb);replace d4:=nb d4 hb;replace ch:=nb ch hb;replace cw:=nb cw hb;replace HB:=Ah (aK (bX HB eI eT el) hb);(try clear hb ho0))|((with_reducible refine ax (N:=8) rfl ?_);refine bA 8 25 #[.slice none 0 0] ?_;intro T0 hg w111 n0 hb;replace l9:=nr l9 hb;replace na:=nr na hb;have GW327:=gw hg (bX HB eI eT el);have IQ:=gw hg (bX HB eI eT el);replace HB:=Ah (aK (bX HB eI eT el) hb);have Gb:=nn d4 hg;have QC:=nm d4 hg;replace d4:=nb d4 hb;have Gc:=nn ch hg;have QD:=nm ch hg;replace ch:=nb ch hb;have Gd:=nn cw hg;have QE:=nm cw hg;replace cw:=nb cw hb;clear hb hg;obtain⟨NX,NY,eo112⟩:=Kd.bq na.out;subst eo112;have hnb113:=QC.out;have hnc113:=Gb.out;have hnb114:=QD.out;have hnc114:=Gc.out;have hnb115:=QE.out;have hnc115:=Gd.out;have hcz116_0:=ap n0;have hfz116_0:=an n0)|((with_reducible refine bJ (f:=26) rfl ?_);refine gL (some 71) rfl rfl abh (by kernel_rfl) rfl #[.agg #[.slice NX rP.length NY]] rfl ?_;(with_reducible refine(br.calls k2 _ _ rP true _ ?a8 ?a9 a4T.out).mono ?_);(case a8=>exact rc na n0);(case a9=>exact(Kd.af na.out).2.1);rintro e w117 ⟨rfl,hb⟩;refine⟨_,rfl, ?_⟩;replace l9:=nf l9 n0 hb;replace na:=nf na n0 hb;replace d4:=Ah (cC (bf d4 Gb) hb);replace ch:=Ah (cC (bf ch Gc) hb);replace cw:=Ah (cC (bf cw Gd) hb);replace n0:=Ah (cC (g:=T0) (o:= .cells #[.slice NX rP.length NY] 25 (0,0)) (by(with_reducible repeat(first|refine aD ?_ _|refine Z ?_|refine aC ?_ _));refine aj (cs:= #[.slice none 0 0]) ?_ 0 _ rfl;(with_reducible repeat(first|refine aD ?_ _|refine Z ?_|refine aC ?_ _));exact n0.out) hb);replace HB:=Ah (aK (dc HB eI eT el IQ) hb);(try clear hb);have hcz118_0:=ap n0;have hfz118_0:=an n0;have Ak:=ap cw;have Al:=an cw))
      refine bodyPost_ret (mm rfl _ _ xB 25 #[.slice NX rP.length NY] (0,0) _ rfl (by(with_reducible repeat(first|refine aD ?_ _|refine Z ?_|refine aC ?_ _));refine aj (cs:= #[.slice none 0 0]) ?_ 0 _ rfl;(with_reducible repeat(first|refine aD ?_ _|refine Z ?_|refine aC ?_ _));exact cw.out) ua rfl (by kernel_rfl)) rfl ?_;exact⟨_,er,by(with_reducible repeat(first|apply Kd.bG|apply Kd.bE|apply Kd.al));exact Kd.aY (Kd.aQ (p:=⟨xB,0,none⟩) (Kd.cl na.out cw.out (by decide)) (fun _ hk=>hk.2) (.slice NX rP.length NY)) (fun _ hk=>trivial),dc HB eI eT el IQ⟩
     rw[if_pos c28]at H;have Sz:decide (df<(J.length:Int))=true:=decide_eq_true c28;clear c28
     by_cases kY:0≤df
     rotate_left
     ·
      rw[if_neg kY]at H;exact absurd H (by simp)
     rw[if_pos kY]at H;have c29b0:decide (0≤df)=true:=decide_eq_true kY;clear kY
     by_cases ra:df<(J.length:Int)
     rotate_left
     ·
      rw[if_neg ra]at H;exact absurd H (by simp)
     rw[if_pos ra]at H;have a1T:decide (df<(J.length:Int))=true:=decide_eq_true ra;clear ra
     by_cases c31:((I J df).f0)<(LS (cU+d7))
     rotate_left
     ·
      rw[if_neg c31]at H;have NZ:decide (((I J df).f0)<(LS (cU+d7)))=false:=decide_eq_false c31;clear c31
      by_cases ka:((I J df).f2)<(LS (cM+d7))
      rotate_left
      ·
       rw[if_neg ka]at H;have tO:decide (((I J df).f2)<(LS (cM+d7)))=false:=decide_eq_false ka;clear ka;have H':=Ah H;clear H;have jV:0≤(df:Int):=od;have jW:df<(J.length:Int):=od;obtain⟨F8,rQ,jJ,jK,jL,jM⟩:=f6 cY.out df jV jW
       cases rQ
       replace jJ:=(HB.out.cell (LA w _ jJ)).trans jJ;replace jK:=(HB.out.cell (LA w _ jK)).trans jK;replace jL:=(HB.out.cell (LA w _ jL)).trans jL;replace jM:=(HB.out.cell (LA w _ jM)).trans jM;replace jV:=eq_true jV;replace jW:=eq_true jW
       go_wp2_with (first|((with_reducible refine ax (N:=7) rfl ?_);refine bA 7 65 #[.int .i64 0,.int .i64 0,.int .i64 0,.bool false] ?_;intro F9 hg w91 lX hb;have FA:=gw hg (bX HB eI eT el);have qy:=gw hg (bX HB eI eT el);replace HB:=Ah (aK (bX HB eI eT el) hb);have mo:=nn d4 hg;have qF:=nm d4 hg;replace d4:=nb d4 hb;have mq:=nn ch hg;have qG:=nm ch hg;replace ch:=nb ch hb;have ii:=nn cw hg;have qH:=nm cw hg;replace cw:=nb cw hb;clear hb hg;have hnb92:=qF.out;have hnc92:=mo.out;have hnb93:=qG.out;have hnc93:=mq.out;have hnb94:=qH.out;have hnc94:=ii.out;obtain⟨hcz95_0,hcz95_1,hcz95_2,hcz95_3⟩:=cA lX;obtain⟨hfz95_0,hfz95_1,hfz95_2,hfz95_3⟩:=cB lX;have hnb96:=rq.out;have hnc96:=rp.out;have hnb97:=sy.out;have hnc97:=t0.out;obtain⟨hcz98_0,hcz98_1,hcz98_2,hcz98_3⟩:=cA ch;obtain⟨hfz98_0,hfz98_1,hfz98_2,hfz98_3⟩:=cB ch))
       go_roundg k2
       case measure=>have:=HJ2.out;have:=eg.out;omega
       case rel=>exact⟨(LS (df+1)),e3,H',⟨by have:=HJ2.out;have:=eg.out;omega⟩,⟨bf d4 mo⟩,⟨bf ch mq⟩,⟨bf cw ii⟩,⟨dc HB eI eT el qy⟩⟩
      rw[if_pos ka]at H;have tO:decide (((I J df).f2)<(LS (cM+d7)))=true:=decide_eq_true ka;clear ka
      by_cases c72:cM<(LS (((I J df).f2)+((I J df).f1)))
      rotate_left
      ·
       rw[if_neg c72]at H;have c72b0:decide (cM<(LS (((I J df).f2)+((I J df).f1))))=false:=decide_eq_false c72;clear c72;have H':=Ah H;clear H;have jV:0≤(df:Int):=od;have jW:df<(J.length:Int):=od;obtain⟨F8,rQ,jJ,jK,jL,jM⟩:=f6 cY.out df jV jW
       cases rQ
       replace jJ:=(HB.out.cell (LA w _ jJ)).trans jJ;replace jK:=(HB.out.cell (LA w _ jK)).trans jK;replace jL:=(HB.out.cell (LA w _ jL)).trans jL;replace jM:=(HB.out.cell (LA w _ jM)).trans jM;replace jV:=eq_true jV;replace jW:=eq_true jW
       go_wp2_with (first|((with_reducible refine ax (N:=7) rfl ?_);refine bA 7 65 #[.int .i64 0,.int .i64 0,.int .i64 0,.bool false] ?_;intro F9 hg w83 lX hb;have FA:=gw hg (bX HB eI eT el);have qy:=gw hg (bX HB eI eT el);replace HB:=Ah (aK (bX HB eI eT el) hb);have mo:=nn d4 hg;have qF:=nm d4 hg;replace d4:=nb d4 hb;have mq:=nn ch hg;have qG:=nm ch hg;replace ch:=nb ch hb;have ii:=nn cw hg;have qH:=nm cw hg;replace cw:=nb cw hb;clear hb hg;have a04:=qF.out;have a05:=mo.out;have hnb85:=qG.out;have hnc85:=mq.out;have hnb86:=qH.out;have hnc86:=ii.out;obtain⟨ux,wM,hcz87_2,hcz87_3⟩:=cA lX;obtain⟨vA,wQ,hfz87_2,hfz87_3⟩:=cB lX;have hnb88:=rq.out;have hnc88:=rp.out;have a06:=sy.out;have a07:=t0.out;obtain⟨hcz90_0,hcz90_1,hcz90_2,hcz90_3⟩:=cA ch;obtain⟨hfz90_0,hfz90_1,hfz90_2,hfz90_3⟩:=cB ch))
       go_roundg k2
       case measure=>have:=HJ2.out;have:=eg.out;omega
       case rel=>exact⟨(LS (df+1)),e3,H',⟨by have:=HJ2.out;have:=eg.out;omega⟩,⟨bf d4 mo⟩,⟨bf ch mq⟩,⟨bf cw ii⟩,⟨dc HB eI eT el qy⟩⟩
      rw[if_pos c72]at H;have c72b0:decide (cM<(LS (((I J df).f2)+((I J df).f1))))=true:=decide_eq_true c72;clear c72;simp only[j4,ub]at H;obtain⟨rfl,rfl⟩:=H;have jV:0≤(df:Int):=od;have jW:df<(J.length:Int):=od;obtain⟨F8,rQ,jJ,jK,jL,jM⟩:=f6 cY.out df jV jW
      cases rQ
      replace jJ:=(HB.out.cell (LA w _ jJ)).trans jJ;replace jK:=(HB.out.cell (LA w _ jK)).trans jK;replace jL:=(HB.out.cell (LA w _ jL)).trans jL;replace jM:=(HB.out.cell (LA w _ jM)).trans jM;replace jV:=eq_true jV;replace jW:=eq_true jW
      go_wp2_with (first|((with_reducible refine ax (N:=7) rfl ?_);refine bA 7 65 #[.int .i64 0,.int .i64 0,.int .i64 0,.bool false] ?_;intro F9 hg Dx lX hb;have FA:=gw hg (bX HB eI eT el);have qy:=gw hg (bX HB eI eT el);replace HB:=Ah (aK (bX HB eI eT el) hb);have mo:=nn d4 hg;have qF:=nm d4 hg;replace d4:=nb d4 hb;have mq:=nn ch hg;have qG:=nm ch hg;replace ch:=nb ch hb;have ii:=nn cw hg;have qH:=nm cw hg;replace cw:=nb cw hb;clear hb hg;have hnb74:=qF.out;have hnc74:=mo.out;have a0U:=qG.out;have a0V:=mq.out;have a0W:=qH.out;have a0X:=ii.out;obtain⟨wK,wL,hcz77_2,hcz77_3⟩:=cA lX;obtain⟨wO,wP,hfz77_2,hfz77_3⟩:=cB lX;have a0Y:=rq.out;have a0Z:=rp.out;have a00:=sy.out;have a01:=t0.out;obtain⟨hcz80_0,hcz80_1,hcz80_2,hcz80_3⟩:=cA ch;obtain⟨hfz80_0,hfz80_1,hfz80_2,hfz80_3⟩:=cB ch;have hnb81:=vu.out;have hnc81:=vt.out;have hcz82_0:=ap cw;have hfz82_0:=an cw))
      refine bodyPost_ret (mm rfl _ _ xB 25 #[.slice none 0 0] (0,0) _ rfl (by(with_reducible repeat(first|refine aD ?_ _|refine Z ?_|refine aC ?_ _));refine aj (cs:= #[.slice none 0 0]) ?_ 0 _ rfl;(with_reducible repeat(first|refine aD ?_ _|refine Z ?_|refine aC ?_ _));refine gc ?_ ii.out _;(with_reducible repeat(first|refine aD ?_ _|refine Z ?_|refine aC ?_ _));refine gc ?_ ii.out _;(with_reducible repeat(first|refine aD ?_ _|refine Z ?_|refine aC ?_ _));refine gc ?_ ii.out _;(with_reducible repeat(first|refine aD ?_ _|refine Z ?_|refine aC ?_ _));refine gc ?_ ii.out _;(with_reducible repeat(first|refine aD ?_ _|refine Z ?_|refine aC ?_ _));exact cw.out) ua rfl (by kernel_rfl)) rfl ?_;exact⟨_,er,by first|exact Kd.fk _ _ _ _ _|exact Kd.iI _ _ _ _ _|exact Kd.iJ _ _ _ _ _|exact Kd.iG _ _ _ _ _|exact Kd.iH _ _ _ _ _,dc HB eI eT el qy⟩
     rw[if_pos c31]at H;have NZ:decide (((I J df).f0)<(LS (cU+d7)))=true:=decide_eq_true c31;clear c31
     by_cases c32:cU<(LS (((I J df).f0)+((I J df).f1)))
     ·
      rw[if_pos c32]at H;have Na:decide (cU<(LS (((I J df).f0)+((I J df).f1))))=true:=decide_eq_true c32;clear c32;simp only[j4,ub]at H;obtain⟨rfl,rfl⟩:=H;have jV:0≤(df:Int):=od;have jW:df<(J.length:Int):=od;obtain⟨F8,rQ,jJ,jK,jL,jM⟩:=f6 cY.out df jV jW
      cases rQ
      replace jJ:=(HB.out.cell (LA w _ jJ)).trans jJ;replace jK:=(HB.out.cell (LA w _ jK)).trans jK;replace jL:=(HB.out.cell (LA w _ jL)).trans jL;replace jM:=(HB.out.cell (LA w _ jM)).trans jM;replace jV:=eq_true jV;replace jW:=eq_true jW
      go_wp2_with (first|((with_reducible refine ax (N:=7) rfl ?_);refine bA 7 65 #[.int .i64 0,.int .i64 0,.int .i64 0,.bool false] ?_;intro F9 hg q9 lX hb;have FA:=gw hg (bX HB eI eT el);have qy:=gw hg (bX HB eI eT el);replace HB:=Ah (aK (bX HB eI eT el) hb);have mo:=nn d4 hg;have qF:=nm d4 hg;replace d4:=nb d4 hb;have mq:=nn ch hg;have qG:=nm ch hg;replace ch:=nb ch hb;have ii:=nn cw hg;have qH:=nm cw hg;replace cw:=nb cw hb;clear hb hg;have Sr:=qF.out;have Ss:=mo.out;have hnb35:=qG.out;have hnc35:=mq.out;have I0:=qH.out;have I1:=ii.out;obtain⟨EM,Z6,Z7,Z8⟩:=cA lX;obtain⟨EN,Z9,ZA,ZB⟩:=cB lX;have a1U:=rq.out;have a1V:=rp.out;have N8:=sy.out;have N9:=t0.out;obtain⟨nS,RG,RH,ZC⟩:=cA ch;obtain⟨nT,RI,RJ,ZD⟩:=cB ch;have hnb41:=vu.out;have hnc41:=vt.out;have Z3:=ap cw;have Z4:=an cw))
      refine bodyPost_ret (mm rfl _ _ xB 25 #[.slice none 0 0] (0,0) _ rfl (by(with_reducible repeat(first|refine aD ?_ _|refine Z ?_|refine aC ?_ _));refine aj (cs:= #[.slice none 0 0]) ?_ 0 _ rfl;(with_reducible repeat(first|refine aD ?_ _|refine Z ?_|refine aC ?_ _));refine gc ?_ ii.out _;(with_reducible repeat(first|refine aD ?_ _|refine Z ?_|refine aC ?_ _));refine gc ?_ ii.out _;(with_reducible repeat(first|refine aD ?_ _|refine Z ?_|refine aC ?_ _));refine gc ?_ ii.out _;(with_reducible repeat(first|refine aD ?_ _|refine Z ?_|refine aC ?_ _));refine gc ?_ ii.out _;(with_reducible repeat(first|refine aD ?_ _|refine Z ?_|refine aC ?_ _));exact cw.out) ua rfl (by kernel_rfl)) rfl ?_;exact⟨_,er,by first|exact Kd.fk _ _ _ _ _|exact Kd.iI _ _ _ _ _|exact Kd.iJ _ _ _ _ _|exact Kd.iG _ _ _ _ _|exact Kd.iH _ _ _ _ _,dc HB eI eT el qy⟩
     rw[if_neg c32]at H;have Na:decide (cU<(LS (((I J df).f0)+((I J df).f1))))=false:=decide_eq_false c32;clear c32
     by_cases GC:((I J df).f2)<(LS (cM+d7))
     rotate_left
     ·
      rw[if_neg GC]at H;have c43b0:decide (((I J df).f2)<(LS (cM+d7)))=false:=decide_eq_false GC;clear GC;have H':=Ah H;clear H;have jV:0≤(df:Int):=od;have jW:df<(J.length:Int):=od;obtain⟨F8,rQ,jJ,jK,jL,jM⟩:=f6 cY.out df jV jW
      cases rQ
      replace jJ:=(HB.out.cell (LA w _ jJ)).trans jJ;replace jK:=(HB.out.cell (LA w _ jK)).trans jK;replace jL:=(HB.out.cell (LA w _ jL)).trans jL;replace jM:=(HB.out.cell (LA w _ jM)).trans jM;replace jV:=eq_true jV;replace jW:=eq_true jW
      go_wp2_with (first|((with_reducible refine ax (N:=7) rfl ?_);refine bA 7 65 #[.int .i64 0,.int .i64 0,.int .i64 0,.bool false] ?_;intro F9 hg w63 lX hb;have FA:=gw hg (bX HB eI eT el);have qy:=gw hg (bX HB eI eT el);replace HB:=Ah (aK (bX HB eI eT el) hb);have mo:=nn d4 hg;have qF:=nm d4 hg;replace d4:=nb d4 hb;have mq:=nn ch hg;have qG:=nm ch hg;replace ch:=nb ch hb;have ii:=nn cw hg;have qH:=nm cw hg;replace cw:=nb cw hb;clear hb hg;have SN:=qF.out;have SO:=mo.out;have hnb65:=qG.out;have hnc65:=mq.out;have hnb66:=qH.out;have hnc66:=ii.out;obtain⟨hcz67_0,hcz67_1,hcz67_2,hcz67_3⟩:=cA lX;obtain⟨hfz67_0,hfz67_1,hfz67_2,hfz67_3⟩:=cB lX;have hnb68:=rq.out;have hnc68:=rp.out;have hnb69:=sy.out;have hnc69:=t0.out;obtain⟨hcz70_0,hcz70_1,hcz70_2,hcz70_3⟩:=cA ch;obtain⟨hfz70_0,hfz70_1,hfz70_2,hfz70_3⟩:=cB ch))
      go_roundg k2
      case measure=>have:=HJ2.out;have:=eg.out;omega
      case rel=>exact⟨(LS (df+1)),e3,H',⟨by have:=HJ2.out;have:=eg.out;omega⟩,⟨bf d4 mo⟩,⟨bf ch mq⟩,⟨bf cw ii⟩,⟨dc HB eI eT el qy⟩⟩
     rw[if_pos GC]at H;have c43b0:decide (((I J df).f2)<(LS (cM+d7)))=true:=decide_eq_true GC;clear GC
     by_cases lI:cM<(LS (((I J df).f2)+((I J df).f1)))
     rotate_left
     ·
      rw[if_neg lI]at H;have c44b0:decide (cM<(LS (((I J df).f2)+((I J df).f1))))=false:=decide_eq_false lI;clear lI;have H':=Ah H;clear H;have jV:0≤(df:Int):=od;have jW:df<(J.length:Int):=od;obtain⟨F8,rQ,jJ,jK,jL,jM⟩:=f6 cY.out df jV jW
      cases rQ
      replace jJ:=(HB.out.cell (LA w _ jJ)).trans jJ;replace jK:=(HB.out.cell (LA w _ jK)).trans jK;replace jL:=(HB.out.cell (LA w _ jL)).trans jL;replace jM:=(HB.out.cell (LA w _ jM)).trans jM;replace jV:=eq_true jV;replace jW:=eq_true jW
      go_wp2_with (first|((with_reducible refine ax (N:=7) rfl ?_);refine bA 7 65 #[.int .i64 0,.int .i64 0,.int .i64 0,.bool false] ?_;intro F9 hg w55 lX hb;have FA:=gw hg (bX HB eI eT el);have qy:=gw hg (bX HB eI eT el);replace HB:=Ah (aK (bX HB eI eT el) hb);have mo:=nn d4 hg;have qF:=nm d4 hg;replace d4:=nb d4 hb;have mq:=nn ch hg;have qG:=nm ch hg;replace ch:=nb ch hb;have ii:=nn cw hg;have qH:=nm cw hg;replace cw:=nb cw hb;clear hb hg;have hnb56:=qF.out;have hnc56:=mo.out;have a1D:=qG.out;have a1E:=mq.out;have hnb58:=qH.out;have hnc58:=ii.out;obtain⟨hcz59_0,hcz59_1,hcz59_2,hcz59_3⟩:=cA lX;obtain⟨hfz59_0,hfz59_1,hfz59_2,hfz59_3⟩:=cB lX;have hnb60:=rq.out;have hnc60:=rp.out;have hnb61:=sy.out;have hnc61:=t0.out;obtain⟨hcz62_0,hcz62_1,hcz62_2,hcz62_3⟩:=cA ch;obtain⟨hfz62_0,hfz62_1,hfz62_2,hfz62_3⟩:=cB ch))
      go_roundg k2
      case measure=>have:=HJ2.out;have:=eg.out;omega
      case rel=>exact⟨(LS (df+1)),e3,H',⟨by have:=HJ2.out;have:=eg.out;omega⟩,⟨bf d4 mo⟩,⟨bf ch mq⟩,⟨bf cw ii⟩,⟨dc HB eI eT el qy⟩⟩
     rw[if_pos lI]at H;have c44b0:decide (cM<(LS (((I J df).f2)+((I J df).f1))))=true:=decide_eq_true lI;clear lI;simp only[j4,ub]at H;obtain⟨rfl,rfl⟩:=H;have jV:0≤(df:Int):=od;have jW:df<(J.length:Int):=od;obtain⟨F8,rQ,jJ,jK,jL,jM⟩:=f6 cY.out df jV jW
     cases rQ
     replace jJ:=(HB.out.cell (LA w _ jJ)).trans jJ;replace jK:=(HB.out.cell (LA w _ jK)).trans jK;replace jL:=(HB.out.cell (LA w _ jL)).trans jL;replace jM:=(HB.out.cell (LA w _ jM)).trans jM;replace jV:=eq_true jV;replace jW:=eq_true jW
     go_wp2_with (first|((with_reducible refine ax (N:=7) rfl ?_);refine bA 7 65 #[.int .i64 0,.int .i64 0,.int .i64 0,.bool false] ?_;intro F9 hg PY lX hb;have FA:=gw hg (bX HB eI eT el);have qy:=gw hg (bX HB eI eT el);replace HB:=Ah (aK (bX HB eI eT el) hb);have mo:=nn d4 hg;have qF:=nm d4 hg;replace d4:=nb d4 hb;have mq:=nn ch hg;have qG:=nm ch hg;replace ch:=nb ch hb;have ii:=nn cw hg;have qH:=nm cw hg;replace cw:=nb cw hb;clear hb hg;have hnb46:=qF.out;have hnc46:=mo.out;have a1H:=qG.out;have a1I:=mq.out;have SI:=qH.out;have SJ:=ii.out;obtain⟨hcz49_0,hcz49_1,hcz49_2,hcz49_3⟩:=cA lX;obtain⟨hfz49_0,hfz49_1,hfz49_2,hfz49_3⟩:=cB lX;have hnb50:=rq.out;have hnc50:=rp.out;have hnb51:=sy.out;have hnc51:=t0.out;obtain⟨ZE,hcz52_1,hcz52_2,hcz52_3⟩:=cA ch;obtain⟨ZF,hfz52_1,hfz52_2,hfz52_3⟩:=cB ch;have a1B:=vu.out;have a1C:=vt.out;have hcz54_0:=ap cw;have hfz54_0:=an cw))
     refine bodyPost_ret (mm rfl _ _ xB 25 #[.slice none 0 0] (0,0) _ rfl (by(with_reducible repeat(first|refine aD ?_ _|refine Z ?_|refine aC ?_ _));refine aj (cs:= #[.slice none 0 0]) ?_ 0 _ rfl;(with_reducible repeat(first|refine aD ?_ _|refine Z ?_|refine aC ?_ _));refine gc ?_ ii.out _;(with_reducible repeat(first|refine aD ?_ _|refine Z ?_|refine aC ?_ _));refine gc ?_ ii.out _;(with_reducible repeat(first|refine aD ?_ _|refine Z ?_|refine aC ?_ _));refine gc ?_ ii.out _;(with_reducible repeat(first|refine aD ?_ _|refine Z ?_|refine aC ?_ _));refine gc ?_ ii.out _;(with_reducible repeat(first|refine aD ?_ _|refine Z ?_|refine aC ?_ _));exact cw.out) ua rfl (by kernel_rfl)) rfl ?_;exact⟨_,er,by first|exact Kd.fk _ _ _ _ _|exact Kd.iI _ _ _ _ _|exact Kd.iJ _ _ _ _ _|exact Kd.iG _ _ _ _ _|exact Kd.iH _ _ _ _ _,dc HB eI eT el qy⟩
end Go.Proofs.Ytjojdplkgekagaa.G
