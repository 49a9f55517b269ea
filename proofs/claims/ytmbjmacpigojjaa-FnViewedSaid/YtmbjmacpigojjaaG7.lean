-- Printed by a program of this session (drive.py, by way of the kit's print). Not trusted: Lean checks it.
import Derived.Test.YtmbjmacpigojjaaG0
import Derived.Test.YtmbjmacpigojjaaG1
import Derived.Test.YtmbjmacpigojjaaG2
import Derived.Test.YtmbjmacpigojjaaG3
import Derived.Test.YtmbjmacpigojjaaG5
import Derived.Test.YtmbjmacpigojjaaG6
open Bool renaming eq_false_iff→i1
open ByteArray renaming empty→JZ
open Go.Act renaming put→aab
open Go.Proofs.Try renaming prog→tP,underlying28→aaa,underlying37→aah,underlying26→aam,underlying23→aas,func20→aa0,func12→abe
open Go.RowKit renaming wrap64→IH
open Go.RowKit.Below renaming refl→qB
open Go.World renaming block_lt_of_cell?→cy,drewN→abM
open List renaming setIfInBounds_toArray→Ok,length_take→fu,set_cons_zero→mr,set_cons_succ→mQ,length_drop→qC,map_toArray→aac,map_cons→aad,map_nil→aaf
open Nat renaming le_refl→lQ
open Option renaming bind_eq_some_iff→Hz,bind_some→aV
open Option.some renaming inj→ec,injEq→kD
open Prod.mk renaming injEq→o7
namespace Go.Proofs.Ytmbjmacpigojjaa.G
open Go.RowKit Go.Proofs.YtmbjmacpigojjaaW.PrintWords Go.Proofs.YtmbjmacpigojjaaW.PrintLast Go.Proofs.YtmbjmacpigojjaaW.PrintMore
attribute [local go_sem] uf ug uk ul uV uW uh ui
set_option linter.unusedVariables false
set_option linter.unusedSimpArgs false
attribute [local go_sem high] Ou
def gD.j0:Nat→List (aQ)→Bool→List ByteArray→List (aQ)→List ByteArray→Int→Option (List ByteArray×(List (aQ))×List ByteArray×Int×Bool)
 |0,_,_,_,_,_,_=>none
 |k+1,x1,x24,x617000,x617001,x617002,x617003=>if x24=true then(some (([]:List ByteArray),([]:List (aQ)),([]:List ByteArray),0,false))else((kw.f x617000 x617001 x617002 x617003).bind fun GN=>((eH.f k x1).bind fun Dc=>(if GN.2.2.1.length<8796093022208 then(some (GN.1,GN.2.1,(GN.2.2.1++[Dc]),GN.2.2.2,true))else(none))))
def gD.f(k:Nat)(aG:List ByteArray)(aD:List (aQ))(aK:List ByteArray)(aN:Int)(l1:List (aQ)):Option (List ByteArray×(List (aQ))×List ByteArray×Int×Bool):=(dv.f k aG aD aK aN).bind fun Hj=>(if Hj=true then((fZ.f k l1 (aG.length:Int)).bind fun Hk=>(if Hk=true then(gD.j0 k l1 ((aK.length:Int)==40) aG aD aK aN)else(gD.j0 k l1 true aG aD aK aN)))else(gD.j0 k l1 true aG aD aK aN))
theorem gD.cW:∀k,(∀y0 y1 y2 y3 y4 y5,aE (gD.j0 k y0 y1 y2 y3 y4 y5) (gD.j0 (k+1) y0 y1 y2 y3 y4 y5))
 |0=>fun _ _ _ _ _ _ r h=>by simp[gD.j0]at h
 |k+1=>by
  have be:=gD.cW k
  ·
   intro y0 y1 y2 y3 y4 y5;unfold gD.j0
   repeat' with_reducible first|exact be _ _ _ _ _ _|exact dv.mono _ _ _ _ _|exact fZ.mono _ _ _|exact eH.mono _ _|exact aE.refl _|exact aE.none _|refine aE.ite ?_ ?_|refine aE.bind ?_ (fun _=> ?_)
theorem gD.mono:∀a0 a1 a2 a3 a4 k,aE (gD.f k a0 a1 a2 a3 a4) (gD.f (k+1) a0 a1 a2 a3 a4):=by
 intro a0 a1 a2 a3 a4 k;have be:=gD.cW k;unfold gD.f
 repeat' with_reducible first|exact be _ _ _ _ _ _|exact dv.mono _ _ _ _ _|exact fZ.mono _ _ _|exact eH.mono _ _|exact aE.refl _|exact aE.none _|refine aE.ite ?_ ?_|refine aE.bind ?_ (fun _=> ?_)
def gD.T4:Bool×List (List Nat×List Nat):=(true,[([],[]),([0],[0]),([],[]),([2],[2]),([3],[3]),([1,4,3],[1,4]),([0,1,2,3,4,5],[]),([6,5,5,0,1,2,3,4,5],[5,6])])
def gD.B4:List Nat:=[0,1,0,4,12,31,63,127]
theorem gD.Gk:gh .any (mz Try.f5 4)=gD.T4:=by kernel_rfl
theorem gD.FS:kc gD.T4.2 gD.B4=true:=by kernel_rfl
set_option maxHeartbeats 8000000 in
set_option maxRecDepth 100000 in
theorem gD.calls(k:Nat)(b0:Option Addr)(b5:Nat)(aG:List ByteArray)(b7:Option Addr)(ay:Nat)(aD:List (aQ))(bV:Option Addr)(bR:Nat)(aK:List ByteArray)(aN:Int)(A1:Option Addr)(c1:Nat)(l1:List (aQ))(r1:List ByteArray)(r2:List (aQ))(r3:List ByteArray)(r4:Int)(r5:Bool)(w:World)(eV:Kd.C Kd.string w b0 aG.length aG)(eW:aG.length≤b5)(eX:Kd.C bL w b7 aD.length aD)(eY:aD.length≤ay)(gS:Kd.C Kd.string w bV aK.length aK)(gT:aK.length≤bR)(hr1:Kd.C bL w A1 l1.length l1)(hc1:l1.length≤c1)(h:gD.f k aG aD aK aN l1=some (r1,r2,r3,r4,r5)):
 Calls Try.prog 5 #[.agg #[.slice b0 aG.length b5,.slice b7 aD.length ay,.slice bV aK.length bR,.int .i64 aN],.slice A1 l1.length c1] w fun e w'=>∃cM fD ew:Value,e= .returned (.tuple #[.agg #[cM,fD,ew,.int .i64 r4],.bool r5])∧Kd.R Kd.string 9 w' w.heap.size (fun k_=>some k_≠(ew:Value).ownBlock) cM r1∧Kd.R bL 37 w' w.heap.size (fun _=>True) fD r2∧Kd.R Kd.string 9 w' w.heap.size (fun k_=>some k_≠(cM:Value).ownBlock) ew r3∧Below w.heap.size w w':=by
 have me:=aaa;have dY:=Ah eV;have dj:=Ah eW;clear eV eW;have dS:=Ah eX;have dt:=Ah eY;clear eX eY;have eQ:=Ah gS;have ef:=Ah gT;clear gS gT;have HR1:=Ah hr1;have nK:=Ah hc1;clear hr1 hc1;have HB:=Ah (qB w.heap.size w);have H:((dv.f k aG aD aK aN).bind fun Hj=>(if Hj=true then((fZ.f k l1 (aG.length:Int)).bind fun Hk=>(if Hk=true then(gD.j0 k l1 ((aK.length:Int)==40) aG aD aK aN)else(gD.j0 k l1 true aG aD aK aN)))else(gD.j0 k l1 true aG aD aK aN)))=some (r1,r2,r3,r4,r5):=h;clear h;have Br:=Ah H;clear H
 go_enter Try.func5,Try.ntmps5
 go_upto_region 1 with(first|((with_reducible refine bC (N:=2) rfl ?_);(try(refine fS (by rfl) ?_;dsimp only));refine bK 2 28 #[.slice b0 aG.length b5,.slice b7 aD.length ay,.slice bV aK.length bR,.int .i64 aN] ?_;intro ZY hg w4 fJ hb;have GW616:=gw hg (bs HB);have k8:=gw hg (bs HB);replace HB:=Ah (aT (bs HB) hb);clear hb hg)|((with_reducible refine bC (N:=4) rfl ?_);(try(refine fS (by rfl) ?_;dsimp only));refine bK 4 28 #[.slice none 0 0,.slice none 0 0,.slice none 0 0,.int .i64 0] ?_;intro nh hg w5 gJ hb;have GW617:=gw hg (aZ HB k8);have lI:=gw hg (aZ HB k8);replace HB:=Ah (aT (aZ HB k8) hb);have EI:=nn fJ hg;have EJ:=nm fJ hg;replace fJ:=nb fJ hb;clear hb hg))
 (try simp only[aab,Ok,mr,mQ])
 go_cut [24] (fun v24 wc=>∃ (kq:Nat) (jI:Bool),v24= .bool jI∧a9 (gD.j0 kq l1 jI aG aD aK aN=some (r1,r2,r3,r4,r5))∧a9 (kq≤k)∧a9 (wc.heap[ZY]?=some (.cells #[(.slice b0 aG.length b5),(.slice b7 aD.length ay),(.slice bV aK.length bR),.int .i64 aN] 28 (0,0)))∧a9 (wc.heap[nh]?=some (.cells #[(.slice none 0 0),(.slice none 0 0),(.slice none 0 0),.int .i64 0] 28 (0,0)))∧a9 (Below w.heap.size w wc))
 case first=>
  have H:=Br.out;clear Br;replace H:=Hz.mp H;obtain⟨Hj,gF,H⟩:=H
  try dsimp only at H
  have A6:=Ah gF;clear gF
  by_cases c7:Hj=true
  rotate_left
  ·
   replace c7:=i1.mpr c7;subst c7;rw[if_neg dO]at H;have H':=Ah H;clear H;have FT:=EI.out;have FU:=EJ.out;obtain⟨kd,ke,mU,mV⟩:=b9 fJ;obtain⟨kf,kg,mW,mX⟩:=bA fJ
   go_wp2_with (first|((with_reducible refine ar (f:=20) rfl ?_);refine gL (some 8) rfl rfl aa0 (by kernel_rfl) rfl #[.agg #[.slice b0 aG.length b5,.slice b7 aD.length ay,.slice bV aK.length bR,.int .i64 aN]] rfl ?_;(with_reducible refine(dv.calls k _ _ aG _ _ aD _ _ aK aN false _ ?aI ?aJ ?af ?ak ?bN ?bc A6.out).mono ?_);(case aI=>exact cb dY HB);(case aJ=>exact dj.out);(case af=>exact cb dS HB);(case ak=>exact dt.out);(case bN=>exact cb eQ HB);(case bc=>exact ef.out);rintro e tM ⟨rfl,hb⟩;refine⟨_,rfl, ?_⟩;replace fJ:=nb fJ hb;replace gJ:=nb gJ hb;replace HB:=Ah (aT (aj HB k8 lI) hb);(try clear hb)))
   go_meet
   case rel=>exact⟨_,(true),e3,H',⟨by first|omega|exact lQ _⟩,⟨bk fJ⟩,⟨bk gJ⟩,⟨aj HB k8 lI⟩⟩
  subst c7;rw[if_pos rfl]at H;replace H:=Hz.mp H;obtain⟨Hk,lz,H⟩:=H
  try dsimp only at H
  have A8:=Ah lz;clear lz
  by_cases c9:Hk=true
  rotate_left
  ·
   replace c9:=i1.mpr c9;subst c9;rw[if_neg dO]at H;have H':=Ah H;clear H;have zf:=EI.out;have zg:=EJ.out;obtain⟨oG,oH,tW,tX⟩:=b9 fJ;obtain⟨oI,oJ,tY,tZ⟩:=bA fJ
   go_wp2_with (first|((with_reducible refine ar (f:=20) rfl ?_);refine gL (some 8) rfl rfl aa0 (by kernel_rfl) rfl #[.agg #[.slice b0 aG.length b5,.slice b7 aD.length ay,.slice bV aK.length bR,.int .i64 aN]] rfl ?_;(with_reducible refine(dv.calls k _ _ aG _ _ aD _ _ aK aN true _ ?aI ?aJ ?af ?ak ?bN ?bc A6.out).mono ?_);(case aI=>exact cb dY HB);(case aJ=>exact dj.out);(case af=>exact cb dS HB);(case ak=>exact dt.out);(case bN=>exact cb eQ HB);(case bc=>exact ef.out);rintro e jO ⟨rfl,hb⟩;refine⟨_,rfl, ?_⟩;replace fJ:=nb fJ hb;replace gJ:=nb gJ hb;replace HB:=Ah (aT (aj HB k8 lI) hb);(try clear hb);obtain⟨m5,m6,pT,pU⟩:=b9 fJ;obtain⟨m7,m8,pV,pW⟩:=bA fJ)|(go_at_call 21;(with_reducible refine(fZ.calls k _ _ l1 (aG.length:Int) false _ ?aI ?aJ A8.out).mono ?_);(case aI=>exact cb HR1 HB);(case aJ=>exact nK.out);rintro e py ⟨rfl,hb⟩;replace fJ:=nb fJ hb;replace gJ:=nb gJ hb;replace HB:=Ah (aT (aj HB k8 lI) hb);(try clear hb)))
   go_meet
   case rel=>exact⟨_,(true),e3,H',⟨by first|omega|exact lQ _⟩,⟨bk fJ⟩,⟨bk gJ⟩,⟨aj HB k8 lI⟩⟩
  subst c9;rw[if_pos rfl]at H;have H':=Ah H;clear H;have Kb:=EI.out;have Ke:=EJ.out;obtain⟨jC,jD,l4,l5⟩:=b9 fJ;obtain⟨jE,jF,l6,l7⟩:=bA fJ
  go_wp2_with (first|((with_reducible refine ar (f:=20) rfl ?_);refine gL (some 8) rfl rfl aa0 (by kernel_rfl) rfl #[.agg #[.slice b0 aG.length b5,.slice b7 aD.length ay,.slice bV aK.length bR,.int .i64 aN]] rfl ?_;(with_reducible refine(dv.calls k _ _ aG _ _ aD _ _ aK aN true _ ?aI ?aJ ?af ?ak ?bN ?bc A6.out).mono ?_);(case aI=>exact cb dY HB);(case aJ=>exact dj.out);(case af=>exact cb dS HB);(case ak=>exact dt.out);(case bN=>exact cb eQ HB);(case bc=>exact ef.out);rintro e lP ⟨rfl,hb⟩;refine⟨_,rfl, ?_⟩;replace fJ:=nb fJ hb;replace gJ:=nb gJ hb;replace HB:=Ah (aT (aj HB k8 lI) hb);(try clear hb);obtain⟨pX,pY,rQ,rR⟩:=b9 fJ;obtain⟨pZ,pa,rS,rT⟩:=bA fJ)|(go_at_call 21;(with_reducible refine(fZ.calls k _ _ l1 (aG.length:Int) true _ ?aI ?aJ A8.out).mono ?_);(case aI=>exact cb HR1 HB);(case aJ=>exact nK.out);rintro e pM ⟨rfl,hb⟩;replace fJ:=nb fJ hb;replace gJ:=nb gJ hb;replace HB:=Ah (aT (aj HB k8 lI) hb);(try clear hb);obtain⟨CC,CD,Nn,No⟩:=b9 fJ;obtain⟨CE,CF,Np,Nq⟩:=bA fJ))
  go_meet
  case rel=>exact⟨_,(((aK.length:Int)==40)),e3,H',⟨by first|omega|exact lQ _⟩,⟨bk fJ⟩,⟨bk gJ⟩,⟨aj HB k8 lI⟩⟩
 case rest=>
  clear Br
  try clear c1
  try clear c2
  try clear p2
  try clear c5
  try clear c7
  try clear c9
  try clear c10
  try clear c16
  try clear c20
  try clear c21
  try clear jC jD l4 l5
  try clear pX pY rQ rR
  try clear CC CD Nn No
  try clear oG oH tW tX
  try clear m5 m6 pT pU
  try clear kd ke mU mV
  try clear jE jF l6 l7
  try clear pZ pa rS rT
  try clear CE CF Np Nq
  try clear oI oJ tY tZ
  try clear m7 m8 pV pW
  try clear kf kg mW mX
  obtain⟨kq,jI,rfl,HA,HJ2,fJ,gJ,HB⟩:=hcut
  cases kq with
  |zero=>exact absurd HA.out (by simp[gD.j0])
  |succ S3=>
   have H:=HA.out;clear HA;simp only[gD.j0]at H
   by_cases c24:jI=true
   ·
    subst c24;rw[if_pos rfl]at H;simp only[kD,o7]at H;obtain⟨rfl,rfl,rfl,rfl,rfl⟩:=H;have P8:=EJ.out;have P9:=EI.out;obtain⟨z4,z5,Nr,Ns⟩:=b9 gJ;obtain⟨z6,z7,Nt,Nu⟩:=bA gJ
    go_wp2
    refine bodyPost_ret (iJ rfl _ _ nh 28 #[.slice none 0 0,.slice none 0 0,.slice none 0 0,.int .i64 0] (0,0) _ rfl (by(with_reducible repeat(first|refine aC ?_ _|refine U ?_|refine X ?_ _));refine aU (cs:= #[.slice none 0 0,.slice none 0 0,.slice none 0 0,.int .i64 0]) ?_ 3 _ rfl;(with_reducible repeat(first|refine aC ?_ _|refine U ?_|refine X ?_ _));refine aU (cs:= #[.slice none 0 0,.slice none 0 0,.slice none 0 0,.int .i64 0]) ?_ 2 _ rfl;(with_reducible repeat(first|refine aC ?_ _|refine U ?_|refine X ?_ _));refine aU (cs:= #[.slice none 0 0,.slice none 0 0,.slice none 0 0,.int .i64 0]) ?_ 1 _ rfl;(with_reducible repeat(first|refine aC ?_ _|refine U ?_|refine X ?_ _));refine aU (cs:= #[.slice none 0 0,.slice none 0 0,.slice none 0 0,.int .i64 0]) ?_ 0 _ rfl;(with_reducible repeat(first|refine aC ?_ _|refine U ?_|refine X ?_ _));exact gJ.out) aaa rfl (by kernel_rfl)) rfl ?_;exact⟨_,_,_,er,by first|exact Kd.dr _ _ _ _ _|exact Kd.e8 _ _ _ _ _|exact Kd.e9 _ _ _ _ _|exact Kd.e5 _ _ _ _ _|exact Kd.e7 _ _ _ _ _,by first|exact Kd.dr _ _ _ _ _|exact Kd.e8 _ _ _ _ _|exact Kd.e9 _ _ _ _ _|exact Kd.e5 _ _ _ _ _|exact Kd.e7 _ _ _ _ _,by first|exact Kd.dr _ _ _ _ _|exact Kd.e8 _ _ _ _ _|exact Kd.e9 _ _ _ _ _|exact Kd.e5 _ _ _ _ _|exact Kd.e7 _ _ _ _ _,aj HB k8 lI⟩
   replace c24:=i1.mpr c24;subst c24;rw[if_neg dO]at H;replace H:=Hz.mp H;obtain⟨⟨iv,jz,kQ,mP⟩,Aa,H⟩:=H
   try dsimp only at H
   have S4:=Ah Aa;clear Aa;replace H:=Hz.mp H;obtain⟨Dc,xq,H⟩:=H
   try dsimp only at H
   have S5:=Ah xq;clear xq
   by_cases m0:kQ.length<8796093022208
   rotate_left
   ·
    rw[if_neg m0]at H;exact absurd H (by simp)
   rw[if_pos m0]at H;have FV:=Ah m0;clear m0;obtain⟨wU,GO⟩:∃y_:List ByteArray,y_=(kQ++[Dc]):=⟨_,rfl⟩
   replace H:(some (iv,jz,wU,mP,true))=some (r1,r2,r3,r4,r5):=by first|(rw[GO];with_reducible exact H)|(have bB:=(aV _ _).symm.trans H;rw[GO];with_reducible exact bB)|(have bB:=(aV _ _).symm.trans H;with_reducible exact bB)|with_reducible exact H|(rw[GO];exact H)|exact H
   have Ny632:=Ah GO;clear GO;simp only[kD,o7]at H;obtain⟨rfl,rfl,rfl,rfl,rfl⟩:=H;have PA:=EI.out;have PB:=EJ.out;obtain⟨WH,WI,hcz31_2,hcz31_3⟩:=b9 fJ;obtain⟨WJ,WK,hfz31_2,hfz31_3⟩:=bA fJ
   try go_wp2_with (first|((with_reducible refine ar (f:=22) rfl ?_);refine gL (some 27) rfl rfl Try.func22 (by kernel_rfl) rfl #[.agg #[.slice b0 aG.length b5,.slice b7 aD.length ay,.slice bV aK.length bR,.int .i64 aN]] rfl ?_;(with_reducible refine(kw.calls _ _ aG _ _ aD _ _ aK aN iv jz kQ mP _ ?aI ?aJ ?af ?ak ?bN ?bc S4.out).mono ?_);(case aI=>exact cb dY HB);(case aJ=>exact dj.out);(case af=>exact cb dS HB);(case ak=>exact dt.out);(case bN=>exact cb eQ HB);(case bc=>exact ef.out);rintro e w32 ⟨v621,v624,v627,rfl,ho0,ho1,ho2,hb⟩;refine⟨_,rfl, ?_⟩;have ma:=Ah (Kd.b8 ho0 (bF (aj HB k8 lI)));have nB:=Ah (Kd.b8 ho1 (bF (aj HB k8 lI)));have mH:=Ah (Kd.b8 ho2 (bF (aj HB k8 lI)));replace fJ:=nb fJ hb;replace gJ:=nb gJ hb;replace HB:=Ah (aT (aj HB k8 lI) hb);(try clear hb ho0 ho1 ho2))|((with_reducible refine bC (N:=6) rfl ?_);(try(refine fS (by rfl) ?_;dsimp only));refine bK 6 28 #[.slice none 0 0,.slice none 0 0,.slice none 0 0,.int .i64 0] ?_;intro fG hg kC gO hb;replace ma:=nr ma hb;replace nB:=nr nB hb;replace mH:=nr mH hb;have GW630:=gw hg (aj HB k8 lI);have GP:=gw hg (aj HB k8 lI);replace HB:=Ah (aT (aj HB k8 lI) hb);have MY:=nn fJ hg;have TD:=nm fJ hg;replace fJ:=nb fJ hb;have Il:=nn gJ hg;have TE:=nm gJ hg;replace gJ:=nb gJ hb;clear hb hg;obtain⟨g8,g9,xy⟩:=Kd.ao ma.out;subst xy;have hnb35:=TD.out;have hnc35:=MY.out;have hnb36:=TE.out;have hnc36:=Il.out;obtain⟨tS,tT,wm,wn⟩:=b9 gO;obtain⟨tU,tV,wo,wq⟩:=bA gO;obtain⟨i6,i7,Gr⟩:=Kd.ao nB.out;subst Gr;obtain⟨mm,mo,eo39⟩:=Kd.ao mH.out;subst eo39))
   have an:a9 (Kd.R Kd.string 9 ((((kC.setCell ⟨fG,0,none⟩ (.slice g8 iv.length g9)).setCell ⟨fG,1,none⟩ (.slice i6 jz.length i7)).setCell ⟨fG,2,none⟩ (.slice mm kQ.length mo)).setCell ⟨fG,3,none⟩ (.int .i64 mP)) w.heap.size (fun k_=>some k_≠(.slice mm kQ.length mo:Value).ownBlock) (.slice g8 iv.length g9) iv):=⟨by(with_reducible repeat(first|apply Kd.ah|apply Kd.ai|apply Kd.aY));exact Kd.aH (Kd.I (p:=⟨fG,3,none⟩) (Kd.I (p:=⟨fG,2,none⟩) (Kd.I (p:=⟨fG,1,none⟩) (Kd.I (p:=⟨fG,0,none⟩) (Kd.al ma.out gO.out (by decide)) (fun _ hk=>hk.2) (.slice g8 iv.length g9)) (fun _ hk=>hk.2) (.slice i6 jz.length i7)) (fun _ hk=>hk.2) (.slice mm kQ.length mo)) (fun _ hk=>hk.2) (.int .i64 mP)) (fun _ hk=>hk.1)⟩;have am:a9 (Kd.R bL 37 ((((kC.setCell ⟨fG,0,none⟩ (.slice g8 iv.length g9)).setCell ⟨fG,1,none⟩ (.slice i6 jz.length i7)).setCell ⟨fG,2,none⟩ (.slice mm kQ.length mo)).setCell ⟨fG,3,none⟩ (.int .i64 mP)) w.heap.size (fun _=>True) (.slice i6 jz.length i7) jz):=⟨by(with_reducible repeat(first|apply Kd.ah|apply Kd.ai|apply Kd.aY));exact Kd.aH (Kd.I (p:=⟨fG,3,none⟩) (Kd.I (p:=⟨fG,2,none⟩) (Kd.I (p:=⟨fG,1,none⟩) (Kd.I (p:=⟨fG,0,none⟩) (Kd.al nB.out gO.out (by decide)) (fun _ hk=>hk.2) (.slice g8 iv.length g9)) (fun _ hk=>hk.2) (.slice i6 jz.length i7)) (fun _ hk=>hk.2) (.slice mm kQ.length mo)) (fun _ hk=>hk.2) (.int .i64 mP)) (fun _ hk=>trivial)⟩;have aw:a9 (Kd.R Kd.string 9 ((((kC.setCell ⟨fG,0,none⟩ (.slice g8 iv.length g9)).setCell ⟨fG,1,none⟩ (.slice i6 jz.length i7)).setCell ⟨fG,2,none⟩ (.slice mm kQ.length mo)).setCell ⟨fG,3,none⟩ (.int .i64 mP)) w.heap.size (fun k_=>some k_≠(.slice g8 iv.length g9:Value).ownBlock) (.slice mm kQ.length mo) kQ):=⟨by(with_reducible repeat(first|apply Kd.ah|apply Kd.ai|apply Kd.aY));exact Kd.aH (Kd.I (p:=⟨fG,3,none⟩) (Kd.I (p:=⟨fG,2,none⟩) (Kd.I (p:=⟨fG,1,none⟩) (Kd.I (p:=⟨fG,0,none⟩) (Kd.al mH.out gO.out (by decide)) (fun _ hk=>hk.2) (.slice g8 iv.length g9)) (fun _ hk=>hk.2) (.slice i6 jz.length i7)) (fun _ hk=>hk.2) (.slice mm kQ.length mo)) (fun _ hk=>hk.2) (.int .i64 mP)) (fun _ hk=>hk.1)⟩;have bI:a9 (((((kC.setCell ⟨fG,0,none⟩ (.slice g8 iv.length g9)).setCell ⟨fG,1,none⟩ (.slice i6 jz.length i7)).setCell ⟨fG,2,none⟩ (.slice mm kQ.length mo)).setCell ⟨fG,3,none⟩ (.int .i64 mP)).heap[ZY]?=some (.cells #[.slice b0 aG.length b5,.slice b7 aD.length ay,.slice bV aK.length bR,.int .i64 aN] 28 (0,0))):=⟨bf fJ MY⟩;have bj:a9 (((((kC.setCell ⟨fG,0,none⟩ (.slice g8 iv.length g9)).setCell ⟨fG,1,none⟩ (.slice i6 jz.length i7)).setCell ⟨fG,2,none⟩ (.slice mm kQ.length mo)).setCell ⟨fG,3,none⟩ (.int .i64 mP)).heap[nh]?=some (.cells #[.slice none 0 0,.slice none 0 0,.slice none 0 0,.int .i64 0] 28 (0,0))):=⟨bf gJ Il⟩;have bv:a9 (((((kC.setCell ⟨fG,0,none⟩ (.slice g8 iv.length g9)).setCell ⟨fG,1,none⟩ (.slice i6 jz.length i7)).setCell ⟨fG,2,none⟩ (.slice mm kQ.length mo)).setCell ⟨fG,3,none⟩ (.int .i64 mP)).heap[fG]?=some (.cells #[.slice g8 iv.length g9,.slice i6 jz.length i7,.slice mm kQ.length mo,.int .i64 mP] 28 (0,0))):=⟨by(with_reducible repeat(first|refine aC ?_ _|refine U ?_|refine X ?_ _));refine aU (cs:= #[.slice g8 iv.length g9,.slice i6 jz.length i7,.slice mm kQ.length mo,.int .i64 0]) ?_ 3 _ rfl;(with_reducible repeat(first|refine aC ?_ _|refine U ?_|refine X ?_ _));refine aU (cs:= #[.slice g8 iv.length g9,.slice i6 jz.length i7,.slice none 0 0,.int .i64 0]) ?_ 2 _ rfl;(with_reducible repeat(first|refine aC ?_ _|refine U ?_|refine X ?_ _));refine aU (cs:= #[.slice g8 iv.length g9,.slice none 0 0,.slice none 0 0,.int .i64 0]) ?_ 1 _ rfl;(with_reducible repeat(first|refine aC ?_ _|refine U ?_|refine X ?_ _));refine aU (cs:= #[.slice none 0 0,.slice none 0 0,.slice none 0 0,.int .i64 0]) ?_ 0 _ rfl;(with_reducible repeat(first|refine aC ?_ _|refine U ?_|refine X ?_ _));exact gO.out⟩;have cR:a9 (Below w.heap.size w ((((kC.setCell ⟨fG,0,none⟩ (.slice g8 iv.length g9)).setCell ⟨fG,1,none⟩ (.slice i6 jz.length i7)).setCell ⟨fG,2,none⟩ (.slice mm kQ.length mo)).setCell ⟨fG,3,none⟩ (.int .i64 mP))):=⟨br HB k8 lI GP⟩;(try clear ma);(try clear nB);(try clear mH);(try clear fJ);(try clear gJ);(try clear gO);(try clear HB)
   generalize ((((kC.setCell ⟨fG,0,none⟩ (.slice g8 iv.length g9)).setCell ⟨fG,1,none⟩ (.slice i6 jz.length i7)).setCell ⟨fG,2,none⟩ (.slice mm kQ.length mo)).setCell ⟨fG,3,none⟩ (.int .i64 mP))=Dp at an am aw bI bj bv cR⊢
   have ma:=an;have nB:=am;have mH:=aw;have fJ:=bI;have gJ:=bj;have gO:=bv;have HB:=cR;clear an am aw bI bj bv cR;have an:=Ah (Kd.aY ma.out);have am:=Ah (Kd.aY nB.out);have aw:=Ah (Kd.aY mH.out);have bI:=Ah (U fJ.out);have bj:=Ah (U gJ.out);have bv:=Ah (U gO.out);have cR:=Ah (jg HB.out);clear ma nB mH fJ gJ gO HB;have ma:=an;have nB:=am;have mH:=aw;have fJ:=bI;have gJ:=bj;have gO:=bv;have HB:=cR;clear an am aw bI bj bv cR;refine la (n:=8) (S:=fun w'=>w'.cell? ⟨fG,0,none⟩=some (.slice g8 iv.length g9)∧w'.cell? ⟨fG,1,none⟩=some (.slice i6 jz.length i7)∧w'.cell? ⟨fG,2,none⟩=some (.slice mm kQ.length mo)∧w'.cell? ⟨fG,3,none⟩=some (.int .i64 mP)) (ds:=[7]) #[false,false,false,false,false,false,false,false] (by kernel_rfl) rfl rfl ⟨(ab gO.out 0).trans rfl,(ab gO.out 1).trans rfl,(ab gO.out 2).trans rfl,(ab gO.out 3).trans rfl⟩ (fun hHeld=> ?_);refine m4 gD.Gk gD.FS (fun ac eh=> ?_)
   generalize Dp.drew=w41 at ma nB mH fJ gJ gO HB hHeld⊢
   refine bZ 0 28 ac.out ?_;refine bZ 2 30 ac.out ?_;refine gy 1 29 ac.out eh.out hHeld (hr:=by rintro w' ⟨s0,s1,s2,s3⟩;go_simp;with_reducible rfl) (h:= ?_);refine fw (i:=3) (N:=some 31) #[true,true,true,true,false,false,false,false] rfl rfl (ff ac.out (by kernel_rfl)) (by decide) (fun K hK=> ?_);refine kI Try.func23 (by kernel_rfl) rfl #[.slice A1 l1.length c1] (by rfl) rfl rfl (by(try simp only[aac,aad,aaf]);first|done|rfl|(simp only[qC,fu];rfl)) ?_
   with_reducible refine(eH.calls S3 _ _ l1 Dc _ ?aI ?aJ S5.out).mono ?_
   (case aI=>exact cb HR1 HB);(case aJ=>exact nK.out);rintro e w42 ⟨rfl,hb⟩;refine⟨_,rfl, ?_⟩;have an:=Ah (Kd.fT (rr ma.out) hb);have am:=Ah (Kd.fT (rr nB.out) hb);have aw:=Ah (Kd.fT (rr mH.out) hb);have bI:=Ah (bb fJ hb);have bj:=Ah (bb gJ hb);have bv:=Ah (bb gO hb);have cR:=Ah (aT (br HB k8 lI GP) hb);clear ma nB mH fJ gJ gO HB;have ma:=an;have nB:=am;have mH:=aw;have fJ:=bI;have gJ:=bj;have gO:=bv;have HB:=cR;clear an am aw bI bj bv cR;(try clear hb);(try clear hb2);(try clear hk);(try clear hi);refine hK.out _ _ ⟨(ab gO.out 0).trans rfl,(ab gO.out 1).trans rfl,(ab gO.out 2).trans rfl,(ab gO.out 3).trans rfl⟩ (fun hHeld=> ?_);clear hK K;refine gN (a':= ?_) ?_ ?_;rotate_left
   ·
    show aab _ (some 31) _=_
    simp only[aab,Ok,mr,mQ,eK,eT]
    rfl
   refine fw (i:=4) (N:=some 32) #[true,true,true,true,true,false,false,false] rfl rfl (ff ac.out (by kernel_rfl)) (by decide) (fun K hK=> ?_);refine zQ (w1:= ?_) (v:= ?_) (by rfl) rfl ?_ ?_;rotate_left 2
   ·
    go_simp
    constructor
    ·
     rfl
    ·
     rfl
   refine hK.out _ _ ⟨(ab (X gO.out _) 0).trans rfl,(ab (X gO.out _) 1).trans rfl,(ab (X gO.out _) 2).trans rfl,(ab (X gO.out _) 3).trans rfl⟩ (fun hHeld=> ?_);clear hK K;refine gN (a':= ?_) ?_ ?_;rotate_left
   ·
    show aab _ (some 32) _=_
    simp only[aab,Ok,mr,mQ,eK,eT]
    rfl
   refine fw (i:=5) (N:=some 33) #[true,true,true,true,true,true,false,false] rfl rfl (ff ac.out (by kernel_rfl)) (by decide) (fun K hK=> ?_);refine Kd.yZ Kd.string (w0:=w) w.heap.size (by rfl) (.tmp 29) (.tmp 32) 23 9 (.string ⟨#[]⟩) 16 rfl aas mB rfl (by decide) (by omega) (.slice mm kQ.length mo) kQ Dc [.string Dc] (fun k_=>some k_≠(.slice g8 iv.length g9:Value).ownBlock) (fun _=>False) rfl rfl ?aP (fun _ hk=>hk.elim) ?aF ?aO ?aB ?aS ?aL ?_;(case aP=>exact rfl);(case aB=>exact(br HB k8 lI GP));(case aF=>exact(fun k_ hk=>Kd.fresh' (Kd.Z (rr ma.out)) k_ hk));(case aO=>exact(rr mH.out));(case aS=>exact(bF (br HB k8 lI GP)));(case aL=>have:=FV.out;omega);intro v633 S0 ho hb hg hat;rw[←Ny632.out]at ho;have an:=Ah (hH (bk fJ) hg (Kd.gY mH.out fJ.out (by decide)));have am:=Ah (hH (bk gJ) hg (Kd.gY mH.out gJ.out (by decide)));have aw:=Ah (Kd.uj (ok:=(fun _=>True)) (by(with_reducible repeat(first|apply Kd.ah|apply Kd.ai|apply Kd.aY));exact Kd.aH ma.out (fun _ hk=>⟨trivial,hk⟩)) hg hat);have bI:=Ah (Kd.nT (rr nB.out) (Kd.nS (rr mH.out)) (by decide) hg);have bj:=Ah (hH (bk gO) hg (Kd.gY mH.out gO.out (by decide)));have bv:=Ah (hb);have cR:=Ah (ho);clear fJ gJ ma nB gO HB mH;have fJ:=an;have gJ:=am;have ma:=aw;have nB:=bI;have gO:=bj;have HB:=bv;have ZZ:=cR;clear an am aw bI bj bv cR ho hb hg hat;obtain⟨mL,mM,DF⟩:=Kd.ao ZZ.out;(first|subst DF|(injection DF with dy gA dz;have gB:=dy.symm;have gC:=dz.symm;clear dy gA dz;subst gB;subst gC));refine hK.out _ _ ⟨(ab gO.out 0).trans rfl,(ab gO.out 1).trans rfl,(ab gO.out 2).trans rfl,(ab gO.out 3).trans rfl⟩ (fun hHeld=> ?_);clear hK K;refine gN (a':= ?_) ?_ ?_;rotate_left
   ·
    show aab _ (some 33) _=_
    simp only[aab,Ok,mr,mQ,eK,eT]
    rfl
   refine bZ 6 34 ac.out ?_;refine CQ (i:=7) (N:=none) #[true,true,true,true,true,true,true,true] rfl rfl (ff ac.out (by kernel_rfl)) (by decide) (fun K hK=> ?_);have hs45:S0.cell? ⟨fG,2,none⟩=some (.slice mm kQ.length mo):=(ab gO.out 2).trans rfl;have hfs45:=ee gO.out 2;have hns45_0:=MY.out;have hns45_1:=Il.out;have hms45_0:=TD.out;have hms45_1:=TE.out;refine ra (w1:= ?_) (by rfl) rfl ?_ ?_;rotate_left
   ·
    go_simp
    rfl
   refine hK.out _ _ ?_;clear hK K;refine kj (l3 ac.out (by kernel_rfl)) ?_;obtain⟨hcz46_0,hcz46_1,hcz46_2,hcz46_3⟩:=b9 gO;obtain⟨hfz46_0,hfz46_1,hfz46_2,hfz46_3⟩:=bA gO;obtain⟨wt,wu,wv,ww⟩:=b9 gJ;obtain⟨wx,wy,wz,x2⟩:=bA gJ
   try go_wp2
   refine bodyPost_ret (iJ rfl _ _ nh 28 #[.slice g8 iv.length g9,.slice i6 jz.length i7,.slice mL wU.length mM,.int .i64 mP] (0,0) _ rfl (by(with_reducible repeat(first|refine aC ?_ _|refine U ?_|refine X ?_ _));refine aU (cs:= #[.slice g8 iv.length g9,.slice i6 jz.length i7,.slice mL wU.length mM,.int .i64 0]) ?_ 3 _ rfl;(with_reducible repeat(first|refine aC ?_ _|refine U ?_|refine X ?_ _));refine aU (cs:= #[.slice g8 iv.length g9,.slice i6 jz.length i7,.slice none 0 0,.int .i64 0]) ?_ 2 _ rfl;(with_reducible repeat(first|refine aC ?_ _|refine U ?_|refine X ?_ _));refine aU (cs:= #[.slice g8 iv.length g9,.slice none 0 0,.slice none 0 0,.int .i64 0]) ?_ 1 _ rfl;(with_reducible repeat(first|refine aC ?_ _|refine U ?_|refine X ?_ _));refine aU (cs:= #[.slice none 0 0,.slice none 0 0,.slice none 0 0,.int .i64 0]) ?_ 0 _ rfl;(with_reducible repeat(first|refine aC ?_ _|refine U ?_|refine X ?_ _));refine dD ?_ Il.out _;(with_reducible repeat(first|refine aC ?_ _|refine U ?_|refine X ?_ _));exact gJ.out) aaa rfl (by kernel_rfl)) rfl ?_;exact⟨_,_,_,er,by(with_reducible repeat(first|apply Kd.ah|apply Kd.ai|apply Kd.aY));exact Kd.aH (Kd.I (p:=⟨nh,3,none⟩) (Kd.I (p:=⟨nh,2,none⟩) (Kd.I (p:=⟨nh,1,none⟩) (Kd.I (p:=⟨nh,0,none⟩) (Kd.I (p:=⟨fG,2,none⟩) (Kd.al (Kd.al ma.out gO.out (by decide)) gJ.out (by decide)) (fun _ hk=>hk.1.2) (.slice mL wU.length mM)) (fun _ hk=>hk.2) (.slice g8 iv.length g9)) (fun _ hk=>hk.2) (.slice i6 jz.length i7)) (fun _ hk=>hk.2) (.slice mL wU.length mM)) (fun _ hk=>hk.2) (.int .i64 mP)) (fun _ hk=>hk.1.1.2),by(with_reducible repeat(first|apply Kd.ah|apply Kd.ai|apply Kd.aY));exact Kd.aH (Kd.I (p:=⟨nh,3,none⟩) (Kd.I (p:=⟨nh,2,none⟩) (Kd.I (p:=⟨nh,1,none⟩) (Kd.I (p:=⟨nh,0,none⟩) (Kd.I (p:=⟨fG,2,none⟩) (Kd.al (Kd.al nB.out gO.out (by decide)) gJ.out (by decide)) (fun _ hk=>hk.1.2) (.slice mL wU.length mM)) (fun _ hk=>hk.2) (.slice g8 iv.length g9)) (fun _ hk=>hk.2) (.slice i6 jz.length i7)) (fun _ hk=>hk.2) (.slice mL wU.length mM)) (fun _ hk=>hk.2) (.int .i64 mP)) (fun _ hk=>trivial),by(with_reducible repeat(first|apply Kd.ah|apply Kd.ai|apply Kd.aY));exact Kd.aH (Kd.I (p:=⟨nh,3,none⟩) (Kd.I (p:=⟨nh,2,none⟩) (Kd.I (p:=⟨nh,1,none⟩) (Kd.I (p:=⟨nh,0,none⟩) (Kd.I (p:=⟨fG,2,none⟩) (Kd.al (Kd.al ZZ.out gO.out (by decide)) gJ.out (by decide)) (fun _ hk=>hk.1.2) (.slice mL wU.length mM)) (fun _ hk=>hk.2) (.slice g8 iv.length g9)) (fun _ hk=>hk.2) (.slice i6 jz.length i7)) (fun _ hk=>hk.2) (.slice mL wU.length mM)) (fun _ hk=>hk.2) (.int .i64 mP)) (fun _ hk=>hk.1.1),br HB k8 lI GP⟩
def fY.l0:Nat→List ByteArray→List ByteArray→Int→Int→Option (Bool)
 |0,_,_,_,_=>none
 |k+1,x0,x1,kv,de=>if de<kv then(if 0≤de then(if de<(x0.length:Int)then(if de<(x1.length:Int)then(if(dN JZ x0 de).toList=(dN JZ x1 de).toList then(fY.l0 k x0 x1 kv (IH (de+1)))else(some false))else(none))else(none))else(none))else(some true)
def fY.f(k:Nat)(l0:List ByteArray)(l1:List ByteArray):Option (Bool):=if(l0.length:Int)=(l1.length:Int)then(fY.l0 k l0 l1 (l0.length:Int) 0)else(some false)
theorem fY.cW:∀k,(∀y0 y1 y2 y3,aE (fY.l0 k y0 y1 y2 y3) (fY.l0 (k+1) y0 y1 y2 y3))
 |0=>fun _ _ _ _ r h=>by simp[fY.l0]at h
 |k+1=>by
  have be:=fY.cW k
  ·
   intro y0 y1 y2 y3;unfold fY.l0
   repeat' with_reducible first|exact be _ _ _ _|exact aE.refl _|exact aE.none _|refine aE.ite ?_ ?_|refine aE.bind ?_ (fun _=> ?_)
theorem fY.mono:∀a0 a1 k,aE (fY.f k a0 a1) (fY.f (k+1) a0 a1):=by
 intro a0 a1 k;have be:=fY.cW k;unfold fY.f
 repeat' with_reducible first|exact be _ _ _ _|exact aE.refl _|exact aE.none _|refine aE.ite ?_ ?_|refine aE.bind ?_ (fun _=> ?_)
set_option maxHeartbeats 8000000 in
set_option maxRecDepth 100000 in
theorem fY.calls(k:Nat)(A0:Option Addr)(c0:Nat)(l0:List ByteArray)(A1:Option Addr)(c1:Nat)(l1:List ByteArray)(r:Bool)(w:World)(hr0:Kd.C Kd.string w A0 l0.length l0)(hc0:l0.length≤c0)(hr1:Kd.C Kd.string w A1 l1.length l1)(hc1:l1.length≤c1)(h:fY.f k l0 l1=some r):
 Calls tP 11 #[.slice A0 l0.length c0,.slice A1 l1.length c1] w fun e w'=>e= .returned (.bool r)∧dE w w':=by
 have dU:=Ah hr0;have gK:=Ah hc0;clear hr0 hc0;have HR1:=Ah hr1;have nK:=Ah hc1;clear hr1 hc1;have H:(if(l0.length:Int)=(l1.length:Int)then(fY.l0 k l0 l1 (l0.length:Int) 0)else(some false))=some r:=h;clear h
 by_cases c3:(l0.length:Int)=(l1.length:Int)
 rotate_left
 ·
  rw[if_neg c3]at H;have f9:((l0.length:Int)==(l1.length:Int))=false:=beq_eq_false_iff_ne.mpr c3;have mJ:((l0.length:Int) !=(l1.length:Int))=true:=bne_iff_ne.mpr c3
  have u0:(l0.length==l1.length)=false:=by first|simpa using c3|(simp at c3⊢;omega)
  obtain rfl:=ec H
  go_enter Try.func11,Try.ntmps11
  go_wp2
  repeat(go_quiet (fail);try go_wp2)
  go_ret
  exact⟨e3,by repeat(first|exact dE.refl _|apply dE.step)⟩
 rw[if_pos c3]at H;have f9:((l0.length:Int)==(l1.length:Int))=true:=beq_iff_eq.mpr c3;have mJ:((l0.length:Int) !=(l1.length:Int))=false:=bne_eq_false_iff_eq.mpr c3
 have u0:(l0.length==l1.length)=true:=by first|simpa using c3|(simp at c3⊢;omega)
 clear c3;have H':=Ah H;clear H
 go_enter Try.func11,Try.ntmps11
 go_wp2
 repeat(go_quiet (fail);try go_wp2)
 go_loopg [13] k (fun kq v13 w'=>∃ (az:Int),v13= .int .i64 az∧a9 (fY.l0 kq l0 l1 (l0.length:Int) az=some r)∧a9 (kq≤k)∧dE w w')
 case atStart=>exact⟨(0),e3,H',⟨lQ _⟩,by repeat(first|exact dE.refl _|apply dE.step)⟩
 case round=>
  clear H'
  try clear c1
  try clear p2
  try clear c3
  try clear f9
  try clear mJ
  try clear u0
  obtain⟨az,rfl,HA,cN,⟨m1,rfl⟩⟩:=hrel
  cases gk with
  |zero=>exact absurd HA.out (by simp[fY.l0])
  |succ k1=>
   have H:=HA.out;clear HA;simp only[fY.l0]at H
   by_cases c4:az<(l0.length:Int)
   rotate_left
   ·
    rw[if_neg c4]at H;have gt:decide (az<(l0.length:Int))=false:=decide_eq_false c4;clear c4;obtain rfl:=ec H
    go_wp2
    repeat(go_quiet (fail);try go_wp2)
    go_ret
    exact⟨e3,by repeat(first|exact dE.refl _|apply dE.step)⟩
   rw[if_pos c4]at H;have gt:decide (az<(l0.length:Int))=true:=decide_eq_true c4;clear c4
   by_cases c5:0≤az
   rotate_left
   ·
    rw[if_neg c5]at H;exact absurd H (by simp)
   rw[if_pos c5]at H;have iV:decide (0≤az)=true:=decide_eq_true c5;clear c5
   by_cases c6:az<(l0.length:Int)
   rotate_left
   ·
    rw[if_neg c6]at H;exact absurd H (by simp)
   rw[if_pos c6]at H;have iG:decide (az<(l0.length:Int))=true:=decide_eq_true c6;clear c6
   by_cases c7:az<(l1.length:Int)
   rotate_left
   ·
    rw[if_neg c7]at H;exact absurd H (by simp)
   rw[if_pos c7]at H;have lu:decide (az<(l1.length:Int))=true:=decide_eq_true c7;clear c7
   by_cases c8:(dN JZ l0 az).toList=(dN JZ l1 az).toList
   rotate_left
   ·
    rw[if_neg c8]at H;have ls:((dN JZ l0 az).toList==(dN JZ l1 az).toList)=false:=beq_eq_false_iff_ne.mpr c8;have Ad:((dN JZ l0 az).toList !=(dN JZ l1 az).toList)=true:=bne_iff_ne.mpr c8;obtain rfl:=ec H;have BV:0≤(az:Int):=od;have BW:az<(l0.length:Int):=od;obtain⟨ad635,Re,hx635_0⟩:=Kd.jR dU.out az BV BW
    cases Re
    replace BV:=eq_true BV;replace BW:=eq_true BW;have BX:0≤(az:Int):=od;have BY:az<(l1.length:Int):=od;obtain⟨ad636,Rf,hx636_0⟩:=Kd.jR HR1.out az BX BY
    cases Rf
    replace BX:=eq_true BX;replace BY:=eq_true BY
    go_wp2
    repeat(go_quiet (fail);try go_wp2)
    go_ret
    exact⟨e3,by repeat(first|exact dE.refl _|apply dE.step)⟩
   rw[if_pos c8]at H;have ls:((dN JZ l0 az).toList==(dN JZ l1 az).toList)=true:=beq_iff_eq.mpr c8;have Ad:((dN JZ l0 az).toList !=(dN JZ l1 az).toList)=false:=bne_eq_false_iff_eq.mpr c8;clear c8;have H':=Ah H;clear H;have BV:0≤(az:Int):=od;have BW:az<(l0.length:Int):=od;obtain⟨ad635,Re,hx635_0⟩:=Kd.jR dU.out az BV BW
   cases Re
   replace BV:=eq_true BV;replace BW:=eq_true BW;have BX:0≤(az:Int):=od;have BY:az<(l1.length:Int):=od;obtain⟨ad636,Rf,hx636_0⟩:=Kd.jR HR1.out az BX BY
   cases Rf
   replace BX:=eq_true BX;replace BY:=eq_true BY
   go_wp2
   repeat(go_quiet (fail);try go_wp2)
   go_roundg k1
   case measure=>have:=cN.out;omega
   case rel=>exact⟨(IH (az+1)),e3,H',⟨by have:=cN.out;omega⟩,by repeat(first|exact dE.refl _|apply dE.step)⟩
def i9.l0:Nat→List (aQ)→List (aQ)→Int→Int→Option (Bool)
 |0,_,_,_,_=>none
 |k+1,x0,x1,kv,de=>if de<kv then(if 0≤de then(if de<(x0.length:Int)then(if de<(x1.length:Int)then(if(!(((aM x0 de).f0)==((aM x1 de).f0))||(!((((aM x0 de).f1).toList)==(((aM x1 de).f1).toList))))=true then(some false)else(i9.l0 k x0 x1 kv (IH (de+1))))else(none))else(none))else(none))else(some true)
def i9.f(k:Nat)(l0:List (aQ))(l1:List (aQ)):Option (Bool):=if(l0.length:Int)=(l1.length:Int)then(i9.l0 k l0 l1 (l0.length:Int) 0)else(some false)
theorem i9.cW:∀k,(∀y0 y1 y2 y3,aE (i9.l0 k y0 y1 y2 y3) (i9.l0 (k+1) y0 y1 y2 y3))
 |0=>fun _ _ _ _ r h=>by simp[i9.l0]at h
 |k+1=>by
  have be:=i9.cW k
  ·
   intro y0 y1 y2 y3;unfold i9.l0
   repeat' with_reducible first|exact be _ _ _ _|exact aE.refl _|exact aE.none _|refine aE.ite ?_ ?_|refine aE.bind ?_ (fun _=> ?_)
theorem i9.mono:∀a0 a1 k,aE (i9.f k a0 a1) (i9.f (k+1) a0 a1):=by
 intro a0 a1 k;have be:=i9.cW k;unfold i9.f
 repeat' with_reducible first|exact be _ _ _ _|exact aE.refl _|exact aE.none _|refine aE.ite ?_ ?_|refine aE.bind ?_ (fun _=> ?_)
set_option maxHeartbeats 8000000 in
set_option maxRecDepth 100000 in
theorem i9.calls(k:Nat)(A0:Option Addr)(c0:Nat)(l0:List (aQ))(A1:Option Addr)(c1:Nat)(l1:List (aQ))(r:Bool)(w:World)(hr0:Kd.C bL w A0 l0.length l0)(hc0:l0.length≤c0)(hr1:Kd.C bL w A1 l1.length l1)(hc1:l1.length≤c1)(h:i9.f k l0 l1=some r):
 Calls tP 17 #[.slice A0 l0.length c0,.slice A1 l1.length c1] w fun e w'=>e= .returned (.bool r)∧dE w w':=by
 have jt:=aah;have dU:=Ah hr0;have gK:=Ah hc0;clear hr0 hc0;have HR1:=Ah hr1;have nK:=Ah hc1;clear hr1 hc1;have H:(if(l0.length:Int)=(l1.length:Int)then(i9.l0 k l0 l1 (l0.length:Int) 0)else(some false))=some r:=h;clear h
 by_cases c3:(l0.length:Int)=(l1.length:Int)
 rotate_left
 ·
  rw[if_neg c3]at H;have f9:((l0.length:Int)==(l1.length:Int))=false:=beq_eq_false_iff_ne.mpr c3;have mJ:((l0.length:Int) !=(l1.length:Int))=true:=bne_iff_ne.mpr c3
  have u0:(l0.length==l1.length)=false:=by first|simpa using c3|(simp at c3⊢;omega)
  obtain rfl:=ec H
  go_enter Try.func17,Try.ntmps17
  go_wp2
  repeat(go_quiet (fail);try go_wp2)
  go_ret
  exact⟨e3,by repeat(first|exact dE.refl _|apply dE.step)⟩
 rw[if_pos c3]at H;have f9:((l0.length:Int)==(l1.length:Int))=true:=beq_iff_eq.mpr c3;have mJ:((l0.length:Int) !=(l1.length:Int))=false:=bne_eq_false_iff_eq.mpr c3
 have u0:(l0.length==l1.length)=true:=by first|simpa using c3|(simp at c3⊢;omega)
 clear c3;have H':=Ah H;clear H
 go_enter Try.func17,Try.ntmps17
 go_wp2
 repeat(go_quiet (fail);try go_wp2)
 go_loopg [13] k (fun kq v13 w'=>∃ (az:Int),v13= .int .i64 az∧a9 (i9.l0 kq l0 l1 (l0.length:Int) az=some r)∧a9 (kq≤k)∧dE w w')
 case atStart=>exact⟨(0),e3,H',⟨lQ _⟩,by repeat(first|exact dE.refl _|apply dE.step)⟩
 case round=>
  clear H'
  try clear c1
  try clear p2
  try clear c3
  try clear f9
  try clear mJ
  try clear u0
  obtain⟨az,rfl,HA,cN,⟨m1,rfl⟩⟩:=hrel
  cases gk with
  |zero=>exact absurd HA.out (by simp[i9.l0])
  |succ k1=>
   have H:=HA.out;clear HA;simp only[i9.l0]at H
   by_cases c4:az<(l0.length:Int)
   rotate_left
   ·
    rw[if_neg c4]at H;have gt:decide (az<(l0.length:Int))=false:=decide_eq_false c4;clear c4;obtain rfl:=ec H
    go_wp2
    repeat(go_quiet (fail);try go_wp2)
    go_ret
    exact⟨e3,by repeat(first|exact dE.refl _|apply dE.step)⟩
   rw[if_pos c4]at H;have gt:decide (az<(l0.length:Int))=true:=decide_eq_true c4;clear c4
   by_cases c5:0≤az
   rotate_left
   ·
    rw[if_neg c5]at H;exact absurd H (by simp)
   rw[if_pos c5]at H;have iV:decide (0≤az)=true:=decide_eq_true c5;clear c5
   by_cases c6:az<(l0.length:Int)
   rotate_left
   ·
    rw[if_neg c6]at H;exact absurd H (by simp)
   rw[if_pos c6]at H;have iG:decide (az<(l0.length:Int))=true:=decide_eq_true c6;clear c6
   by_cases c7:az<(l1.length:Int)
   rotate_left
   ·
    rw[if_neg c7]at H;exact absurd H (by simp)
   rw[if_pos c7]at H;have lu:decide (az<(l1.length:Int))=true:=decide_eq_true c7;clear c7
   by_cases c8:(!(((aM l0 az).f0)==((aM l1 az).f0))||(!((((aM l0 az).f1).toList)==(((aM l1 az).f1).toList))))=true
   ·
    rw[if_pos c8]at H;have ls:(!(((aM l0 az).f0)==((aM l1 az).f0))||(!((((aM l0 az).f1).toList)==(((aM l1 az).f1).toList))))=true:=c8;clear c8;obtain rfl:=ec H;have BZ:0≤(az:Int):=od;have Ba:az<(l0.length:Int):=od;obtain⟨ad637,Rg,hx637_0,hx637_1⟩:=iA dU.out az BZ Ba
    cases Rg
    replace BZ:=eq_true BZ;replace Ba:=eq_true Ba;have Bb:0≤(az:Int):=od;have Bc:az<(l1.length:Int):=od;obtain⟨ad638,Rh,hx638_0,hx638_1⟩:=iA HR1.out az Bb Bc
    cases Rh
    replace Bb:=eq_true Bb;replace Bc:=eq_true Bc
    go_wp2
    repeat(go_quiet (fail);try go_wp2)
    go_ret
    exact⟨e3,by repeat(first|exact dE.refl _|apply dE.step)⟩
   rw[if_neg c8]at H
   have ls:(!(((aM l0 az).f0)==((aM l1 az).f0))||(!((((aM l0 az).f1).toList)==(((aM l1 az).f1).toList))))=false:=by simpa using c8
   clear c8;have H':=Ah H;clear H;have BZ:0≤(az:Int):=od;have Ba:az<(l0.length:Int):=od;obtain⟨ad637,Rg,hx637_0,hx637_1⟩:=iA dU.out az BZ Ba
   cases Rg
   replace BZ:=eq_true BZ;replace Ba:=eq_true Ba;have Bb:0≤(az:Int):=od;have Bc:az<(l1.length:Int):=od;obtain⟨ad638,Rh,hx638_0,hx638_1⟩:=iA HR1.out az Bb Bc
   cases Rh
   replace Bb:=eq_true Bb;replace Bc:=eq_true Bc
   go_wp2
   repeat(go_quiet (fail);try go_wp2)
   go_roundg k1
   case measure=>have:=cN.out;omega
   case rel=>exact⟨(IH (az+1)),e3,H',⟨by have:=cN.out;omega⟩,by repeat(first|exact dE.refl _|apply dE.step)⟩
def pQ.f(k:Nat)(aG:List ByteArray)(aD:List (aQ))(aK:List ByteArray)(aN:Int)(cL:List ByteArray)(fC:List (aQ))(pL:List ByteArray)(pv:Int):Option (Bool):=if aN=pv then((fY.f k aK pL).bind fun Hl=>(if Hl=true then((fY.f k aG cL).bind fun Hm=>(if Hm=true then((i9.f k aD fC).bind fun Hn=>(some Hn))else(some false)))else(some false)))else(some false)
theorem pQ.mono:∀a0 a1 a2 a3 a4 a5 a6 a7 k,aE (pQ.f k a0 a1 a2 a3 a4 a5 a6 a7) (pQ.f (k+1) a0 a1 a2 a3 a4 a5 a6 a7):=by
 intro a0 a1 a2 a3 a4 a5 a6 a7 k;unfold pQ.f
 repeat' with_reducible first|exact fY.mono _ _ _|exact i9.mono _ _ _|exact aE.refl _|exact aE.none _|refine aE.ite ?_ ?_|refine aE.bind ?_ (fun _=> ?_)
set_option maxHeartbeats 8000000 in
set_option maxRecDepth 100000 in
theorem pQ.calls(k:Nat)(b0:Option Addr)(b5:Nat)(aG:List ByteArray)(b7:Option Addr)(ay:Nat)(aD:List (aQ))(bV:Option Addr)(bR:Nat)(aK:List ByteArray)(aN:Int)(fL:Option Addr)(fM:Nat)(cL:List ByteArray)(ik:Option Addr)(il:Nat)(fC:List (aQ))(Dd:Option Addr)(De:Nat)(pL:List ByteArray)(pv:Int)(r:Bool)(w:World)(eV:Kd.C Kd.string w b0 aG.length aG)(eW:aG.length≤b5)(eX:Kd.C bL w b7 aD.length aD)(eY:aD.length≤ay)(gS:Kd.C Kd.string w bV aK.length aK)(gT:aK.length≤bR)(lf:Kd.C Kd.string w fL cL.length cL)(lg:cL.length≤fM)(sn:Kd.C bL w ik fC.length fC)(so:fC.length≤il)(Za:Kd.C Kd.string w Dd pL.length pL)(Zb:pL.length≤De)(h:pQ.f k aG aD aK aN cL fC pL pv=some r):
 Calls tP 7 #[.agg #[.slice b0 aG.length b5,.slice b7 aD.length ay,.slice bV aK.length bR,.int .i64 aN],.agg #[.slice fL cL.length fM,.slice ik fC.length il,.slice Dd pL.length De,.int .i64 pv]] w fun e w'=>e= .returned (.bool r)∧Below w.heap.size w w':=by
 have me:=aaa;have dY:=Ah eV;have dj:=Ah eW;clear eV eW;have dS:=Ah eX;have dt:=Ah eY;clear eX eY;have eQ:=Ah gS;have ef:=Ah gT;clear gS gT;have ot:=Ah lf;have ou:=Ah lg;clear lf lg;have AJ:=Ah sn;have AK:=Ah so;clear sn so;have Ps:=Ah Za;have Pt:=Ah Zb;clear Za Zb;have HB:=Ah (qB w.heap.size w);have H:(if aN=pv then((fY.f k aK pL).bind fun Hl=>(if Hl=true then((fY.f k aG cL).bind fun Hm=>(if Hm=true then((i9.f k aD fC).bind fun Hn=>(some Hn))else(some false)))else(some false)))else(some false))=some r:=h;clear h
 by_cases c3:aN=pv
 rotate_left
 ·
  rw[if_neg c3]at H;have f9:(aN==pv)=false:=beq_eq_false_iff_ne.mpr c3;have mJ:(aN !=pv)=true:=bne_iff_ne.mpr c3;obtain rfl:=ec H
  go_enter Try.func7,Try.ntmps7
  go_wp2_with (first|((with_reducible refine bC (N:=2) rfl ?_);refine bK 2 28 #[.slice b0 aG.length b5,.slice b7 aD.length ay,.slice bV aK.length bR,.int .i64 aN] ?_;intro Pu hg nL jL hb;have Pv:=gw hg (bs HB);have jq:=gw hg (bs HB);replace HB:=Ah (aT (bs HB) hb);clear hb hg)|((with_reducible refine bC (N:=3) rfl ?_);refine bK 3 28 #[.slice fL cL.length fM,.slice ik fC.length il,.slice Dd pL.length De,.int .i64 pv] ?_;intro Pw hg Bs sp hb;have Px:=gw hg (aZ HB jq);have qp:=gw hg (aZ HB jq);replace HB:=Ah (aT (aZ HB jq) hb);have yn:=nn jL hg;have yo:=nm jL hg;replace jL:=nb jL hb;clear hb hg;have Jy:=yn.out;have Jz:=yo.out;obtain⟨EU,EV,Ng,Nh⟩:=b9 jL;obtain⟨EW,EX,Nl,Nm⟩:=bA jL;obtain⟨rM,rN,um,un⟩:=b9 sp;obtain⟨rO,rP,uo,uq⟩:=bA sp))
  go_ret
  exact⟨er,aj HB jq qp⟩
 rw[if_pos c3]at H;have f9:(aN==pv)=true:=beq_iff_eq.mpr c3;have mJ:(aN !=pv)=false:=bne_eq_false_iff_eq.mpr c3;clear c3;replace H:=Hz.mp H;obtain⟨Hl,ek,H⟩:=H
 try dsimp only at H
 have A4:=Ah ek;clear ek
 by_cases c5:Hl=true
 rotate_left
 ·
  replace c5:=i1.mpr c5;subst c5;rw[if_neg dO]at H;obtain rfl:=ec H
  go_enter Try.func7,Try.ntmps7
  go_wp2_with (first|((with_reducible refine bC (N:=2) rfl ?_);refine bK 2 28 #[.slice b0 aG.length b5,.slice b7 aD.length ay,.slice bV aK.length bR,.int .i64 aN] ?_;intro Pu hg ly jL hb;have Pv:=gw hg (bs HB);have jq:=gw hg (bs HB);replace HB:=Ah (aT (bs HB) hb);clear hb hg)|((with_reducible refine bC (N:=3) rfl ?_);refine bK 3 28 #[.slice fL cL.length fM,.slice ik fC.length il,.slice Dd pL.length De,.int .i64 pv] ?_;intro Pw hg py sp hb;have Px:=gw hg (aZ HB jq);have qp:=gw hg (aZ HB jq);replace HB:=Ah (aT (aZ HB jq) hb);have yn:=nn jL hg;have yo:=nm jL hg;replace jL:=nb jL hb;clear hb hg;have FT:=yn.out;have FU:=yo.out;obtain⟨kd,ke,mU,mV⟩:=b9 jL;obtain⟨kf,kg,mW,mX⟩:=bA jL;obtain⟨WX,WY,WZ,Wa⟩:=b9 sp;obtain⟨Wb,Wc,Wd,We⟩:=bA sp)|(go_at_call 11;(with_reducible refine(fY.calls k _ _ aK _ _ pL false _ ?aI ?aJ ?af ?ak A4.out).mono ?_);(case aI=>exact cb eQ HB);(case aJ=>exact ef.out);(case af=>exact cb Ps HB);(case ak=>exact Pt.out);rintro e w' ⟨rfl,⟨nd,rfl⟩⟩))
  go_ret
  exact⟨er,aj HB jq qp⟩
 subst c5;rw[if_pos rfl]at H;replace H:=Hz.mp H;obtain⟨Hm,gF,H⟩:=H
 try dsimp only at H
 have A6:=Ah gF;clear gF
 by_cases c7:Hm=true
 rotate_left
 ·
  replace c7:=i1.mpr c7;subst c7;rw[if_neg dO]at H;obtain rfl:=ec H
  go_enter Try.func7,Try.ntmps7
  go_wp2_with (first|((with_reducible refine bC (N:=2) rfl ?_);refine bK 2 28 #[.slice b0 aG.length b5,.slice b7 aD.length ay,.slice bV aK.length bR,.int .i64 aN] ?_;intro Pu hg pM jL hb;have Pv:=gw hg (bs HB);have jq:=gw hg (bs HB);replace HB:=Ah (aT (bs HB) hb);clear hb hg)|((with_reducible refine bC (N:=3) rfl ?_);refine bK 3 28 #[.slice fL cL.length fM,.slice ik fC.length il,.slice Dd pL.length De,.int .i64 pv] ?_;intro Pw hg jN sp hb;have Px:=gw hg (aZ HB jq);have qp:=gw hg (aZ HB jq);replace HB:=Ah (aT (aZ HB jq) hb);have yn:=nn jL hg;have yo:=nm jL hg;replace jL:=nb jL hb;clear hb hg;have zf:=yn.out;have zg:=yo.out;obtain⟨oG,oH,tW,tX⟩:=b9 jL;obtain⟨oI,oJ,tY,tZ⟩:=bA jL;obtain⟨JN,JO,WD,WE⟩:=b9 sp;obtain⟨JP,JQ,WF,WG⟩:=bA sp)|(go_at_call 11;(with_reducible refine(fY.calls k _ _ aK _ _ pL true _ ?aI ?aJ ?af ?ak A4.out).mono ?_);(case aI=>exact cb eQ HB);(case aJ=>exact ef.out);(case af=>exact cb Ps HB);(case ak=>exact Pt.out);rintro e w' ⟨rfl,⟨nd,rfl⟩⟩)|(go_at_call 11;(with_reducible refine(fY.calls k _ _ aG _ _ cL false _ ?aI ?aJ ?af ?ak A6.out).mono ?_);(case aI=>repeat(first|exact(Kd.mT dY.out (aj HB jq qp))|(with_reducible refine Kd.ji ?_ _)|(with_reducible refine Kd.jj ?_ _)|(with_reducible refine Kd.jm ?_)));(case aJ=>exact dj.out);(case af=>repeat(first|exact(Kd.mT ot.out (aj HB jq qp))|(with_reducible refine Kd.ji ?_ _)|(with_reducible refine Kd.jj ?_ _)|(with_reducible refine Kd.jm ?_)));(case ak=>exact ou.out);rintro e w' ⟨rfl,⟨nd,rfl⟩⟩))
  go_ret
  exact⟨er,aj HB jq qp⟩
 subst c7;rw[if_pos rfl]at H;replace H:=Hz.mp H;obtain⟨Hn,lz,H⟩:=H
 try dsimp only at H
 have A8:=Ah lz;clear lz;obtain rfl:=ec H
 go_enter Try.func7,Try.ntmps7
 go_wp2_with (first|((with_reducible refine bC (N:=2) rfl ?_);refine bK 2 28 #[.slice b0 aG.length b5,.slice b7 aD.length ay,.slice bV aK.length bR,.int .i64 aN] ?_;intro Pu hg w9 jL hb;have Pv:=gw hg (bs HB);have jq:=gw hg (bs HB);replace HB:=Ah (aT (bs HB) hb);clear hb hg)|((with_reducible refine bC (N:=3) rfl ?_);refine bK 3 28 #[.slice fL cL.length fM,.slice ik fC.length il,.slice Dd pL.length De,.int .i64 pv] ?_;intro Pw hg wY sp hb;have Px:=gw hg (aZ HB jq);have qp:=gw hg (aZ HB jq);replace HB:=Ah (aT (aZ HB jq) hb);have yn:=nn jL hg;have yo:=nm jL hg;replace jL:=nb jL hb;clear hb hg;have YU:=yn.out;have YV:=yo.out;obtain⟨JJ,JK,WT,WU⟩:=b9 jL;obtain⟨JL,JM,WV,WW⟩:=bA jL;obtain⟨pX,pY,rQ,rR⟩:=b9 sp;obtain⟨pZ,pa,rS,rT⟩:=bA sp)|(go_at_call 11;(with_reducible refine(fY.calls k _ _ aK _ _ pL true _ ?aI ?aJ ?af ?ak A4.out).mono ?_);(case aI=>exact cb eQ HB);(case aJ=>exact ef.out);(case af=>exact cb Ps HB);(case ak=>exact Pt.out);rintro e w' ⟨rfl,⟨nd,rfl⟩⟩)|(go_at_call 11;(with_reducible refine(fY.calls k _ _ aG _ _ cL true _ ?aI ?aJ ?af ?ak A6.out).mono ?_);(case aI=>repeat(first|exact(Kd.mT dY.out (aj HB jq qp))|(with_reducible refine Kd.ji ?_ _)|(with_reducible refine Kd.jj ?_ _)|(with_reducible refine Kd.jm ?_)));(case aJ=>exact dj.out);(case af=>repeat(first|exact(Kd.mT ot.out (aj HB jq qp))|(with_reducible refine Kd.ji ?_ _)|(with_reducible refine Kd.jj ?_ _)|(with_reducible refine Kd.jm ?_)));(case ak=>exact ou.out);rintro e w' ⟨rfl,⟨nd,rfl⟩⟩)|(go_at_call 17;(with_reducible refine(i9.calls k _ _ aD _ _ fC Hn _ ?aI ?aJ ?af ?ak A8.out).mono ?_);(case aI=>repeat(first|exact(Kd.mT dS.out (aj HB jq qp))|(with_reducible refine Kd.ji ?_ _)|(with_reducible refine Kd.jj ?_ _)|(with_reducible refine Kd.jm ?_)));(case aJ=>exact dt.out);(case af=>repeat(first|exact(Kd.mT AJ.out (aj HB jq qp))|(with_reducible refine Kd.ji ?_ _)|(with_reducible refine Kd.jj ?_ _)|(with_reducible refine Kd.jm ?_)));(case ak=>exact AK.out);rintro e w' ⟨rfl,⟨nd,rfl⟩⟩))
 go_ret
 exact⟨er,aj HB jq qp⟩
def EQ.f(a0:Int):Option (Bool):=some true
set_option maxHeartbeats 8000000 in
set_option maxRecDepth 100000 in
theorem EQ.calls(a0:Int)(r:Bool)(w:World)(h:EQ.f a0=some r):
 Calls tP 30 #[.int .i64 a0] w fun e w'=>e= .returned (.bool r)∧dE w w':=by
 have H:(some true)=some r:=h;clear h;obtain rfl:=ec H
 go_enter Try.func30,Try.ntmps30
 go_wp2
 go_ret
 exact⟨by first|rfl|(simp;done)|(simp[*];done),by repeat(first|exact dE.refl _|apply dE.step)⟩
def gb.l0:Nat→List ByteArray→List (aQ)→Int→Int→Option (List ByteArray)
 |0,_,_,_,_=>none
 |k+1,x5,kv,de,o3=>if o3<de then(if 0≤o3 then(if o3<(kv.length:Int)then((EQ.f o3).bind fun Ri=>(if Ri=true then(if 0≤((aM kv o3).f0)then(if((aM kv o3).f0)<(x5.length:Int)then(gb.l0 k (x5.set (((aM kv o3).f0):Int).toNat ((aM kv o3).f1)) kv de (IH (o3+1)))else(none))else(none))else(gb.l0 k x5 kv de (IH (o3+1)))))else(none))else(none))else(some x5)
def gb.f(k:Nat)(aG:List ByteArray)(aD:List (aQ)):Option (List ByteArray):=(mR.f aG).bind fun Df=>(gb.l0 k Df aD (aD.length:Int) 0)
theorem gb.cW:∀k,(∀y0 y1 y2 y3,aE (gb.l0 k y0 y1 y2 y3) (gb.l0 (k+1) y0 y1 y2 y3))
 |0=>fun _ _ _ _ r h=>by simp[gb.l0]at h
 |k+1=>by
  have be:=gb.cW k
  ·
   intro y0 y1 y2 y3;unfold gb.l0
   repeat' with_reducible first|exact be _ _ _ _|exact aE.refl _|exact aE.none _|refine aE.ite ?_ ?_|refine aE.bind ?_ (fun _=> ?_)
theorem gb.mono:∀a0 a1 k,aE (gb.f k a0 a1) (gb.f (k+1) a0 a1):=by
 intro a0 a1 k;have be:=gb.cW k;unfold gb.f
 repeat' with_reducible first|exact be _ _ _ _|exact aE.refl _|exact aE.none _|refine aE.ite ?_ ?_|refine aE.bind ?_ (fun _=> ?_)
set_option maxHeartbeats 8000000 in
set_option maxRecDepth 100000 in
theorem gb.calls(k:Nat)(b0:Option Addr)(b5:Nat)(aG:List ByteArray)(b7:Option Addr)(ay:Nat)(aD:List (aQ))(r:List ByteArray)(w:World)(eV:Kd.C Kd.string w b0 aG.length aG)(eW:aG.length≤b5)(eX:Kd.C bL w b7 aD.length aD)(eY:aD.length≤ay)(h:gb.f k aG aD=some r):
 Calls tP 29 #[.agg #[.slice b0 aG.length b5,.slice b7 aD.length ay],.func (.func 30) #[] #[]] w fun e w'=>∃cM:Value,e= .returned (cM)∧Kd.R Kd.string 9 w' w.heap.size (fun _=>True) cM r∧Below w.heap.size w w':=by
 have nG:=aam;have jt:=aah;have dY:=Ah eV;have dj:=Ah eW;clear eV eW;have dS:=Ah eX;have dt:=Ah eY;clear eX eY;have HB:=Ah (qB w.heap.size w);have H:((mR.f aG).bind fun Df=>(gb.l0 k Df aD (aD.length:Int) 0))=some r:=h;clear h;replace H:=Hz.mp H;obtain⟨Df,fH,H⟩:=H
 try dsimp only at H
 have A3:=Ah fH;clear fH;have H':=Ah H;clear H
 go_enter Try.func29,Try.ntmps29
 go_wp2_with (first|((with_reducible refine bC (N:=2) rfl ?_);refine bK 2 26 #[.slice b0 aG.length b5,.slice b7 aD.length ay] ?_;intro Py hg w4 jM hb;have GW644:=gw hg (bs HB);have pm:=gw hg (bs HB);replace HB:=Ah (aT (bs HB) hb);clear hb hg;obtain⟨Jj,Jk⟩:=cH jM;obtain⟨OI,Jl⟩:=cD jM)|((with_reducible refine ar (f:=34) rfl ?_);refine gL (some 10) rfl rfl Try.func34 (by kernel_rfl) rfl #[.slice b0 aG.length b5] rfl ?_;(with_reducible refine(mR.calls _ _ aG Df _ ?aI ?aJ A3.out).mono ?_);(case aI=>exact cb dY HB);(case aJ=>exact dj.out);rintro e w6 ⟨Rj,rfl,ho0,hb⟩;refine⟨_,rfl, ?_⟩;have HO647:=Ah (Kd.b8 ho0 (bF (aZ HB pm)));replace jM:=nb jM hb;replace HB:=Ah (aT (aZ HB pm) hb);(try clear hb ho0);obtain⟨oM,oN⟩:=cH jM;obtain⟨oO,oP⟩:=cD jM))
 go_loopg [14] k (fun kq v14 w'=>∃ (dT:List ByteArray) (fj:Int),v14= .int .i64 fj∧a9 (gb.l0 kq dT aD (aD.length:Int) fj=some r)∧a9 (kq≤k)∧a9 (Kd.R Kd.string 9 w' w.heap.size (fun _=>True) Rj dT)∧a9 (w'.heap[Py]?=some (.cells #[(.slice b0 aG.length b5),(.slice b7 aD.length ay)] 26 (0,0)))∧a9 (Below w.heap.size w w'))
 case atStart=>exact⟨(Df),(0),e3,H',⟨lQ _⟩,⟨rr HO647.out⟩,⟨bk jM⟩,⟨aZ HB pm⟩⟩
 case round=>
  clear H'
  try clear c2
  try clear p2
  try clear c3
  try clear Jj Jk
  try clear oM oN
  try clear OI Jl
  try clear oO oP
  obtain⟨dT,fj,rfl,HA,cN,cV,jM,HB⟩:=hrel
  cases gk with
  |zero=>exact absurd HA.out (by simp[gb.l0])
  |succ k1=>
   have H:=HA.out;clear HA;simp only[gb.l0]at H
   by_cases c8:fj<(aD.length:Int)
   rotate_left
   ·
    rw[if_neg c8]at H;have ls:decide (fj<(aD.length:Int))=false:=decide_eq_false c8;clear c8;obtain rfl:=ec H
    go_wp2
    go_ret
    exact⟨_,er,by(with_reducible repeat(first|apply Kd.ah|apply Kd.ai|apply Kd.aY));exact cV.out,aZ HB pm⟩
   rw[if_pos c8]at H;have ls:decide (fj<(aD.length:Int))=true:=decide_eq_true c8;clear c8
   by_cases c9:0≤fj
   rotate_left
   ·
    rw[if_neg c9]at H;exact absurd H (by simp)
   rw[if_pos c9]at H;have tx:decide (0≤fj)=true:=decide_eq_true c9;clear c9
   by_cases c10:fj<(aD.length:Int)
   rotate_left
   ·
    rw[if_neg c10]at H;exact absurd H (by simp)
   rw[if_pos c10]at H;have Cc:decide (fj<(aD.length:Int))=true:=decide_eq_true c10;clear c10;replace H:=Hz.mp H;obtain⟨Ri,Gz,H⟩:=H
   try dsimp only at H
   have I9:=Ah Gz;clear Gz
   by_cases c12:Ri=true
   rotate_left
   ·
    replace c12:=i1.mpr c12;subst c12;rw[if_neg dO]at H;have H':=Ah H;clear H;have Be:0≤(fj:Int):=od;have Bf:fj<(aD.length:Int):=od;obtain⟨Pz,Rk,zM,zN⟩:=iA dS.out fj Be Bf
    cases Rk
    replace zM:=(HB.out.cell (cy w _ zM)).trans zM;replace zN:=(HB.out.cell (cy w _ zN)).trans zN;replace Be:=eq_true Be;replace Bf:=eq_true Bf
    go_wp2_with (first|((with_reducible refine bC (N:=7) rfl ?_);refine bK 7 37 #[.int .i64 0,.string (⟨#[]⟩:ByteArray)] ?_;intro vy hg tM mb hb;replace cV:=nr cV hb;have GW649:=gw hg (aZ HB pm);have GQ:=gw hg (aZ HB pm);replace HB:=Ah (aT (aZ HB pm) hb);have EK:=nn jM hg;have MZ:=nm jM hg;replace jM:=nb jM hb;clear hb hg;have hnb24:=MZ.out;have hnc24:=EK.out;obtain⟨Vw,Vx⟩:=cH mb;obtain⟨Vy,Vz⟩:=cD mb)|((with_reducible refine tQ (t:=19) rfl ?_);refine tb (some 21) rfl rfl Try.func30 (by kernel_rfl) rfl #[.int .i64 fj] rfl rfl (by(try simp only[aac,aad,aaf]);first|done|rfl|(simp only[qC,fu];rfl)) ?_;(with_reducible refine(EQ.calls fj false _ I9.out).mono ?_);rintro e w' ⟨rfl,⟨nd,rfl⟩⟩;refine⟨_,rfl, ?_⟩))
    go_roundg k1
    case measure=>have:=cN.out;omega
    case rel=>exact⟨(dT),(IH (fj+1)),e3,H',⟨by have:=cN.out;omega⟩,⟨by(with_reducible repeat(first|apply Kd.ah|apply Kd.ai|apply Kd.aY));exact Kd.aH (Kd.I (p:=⟨vy,1,none⟩) (Kd.I (p:=⟨vy,0,none⟩) (Kd.al cV.out mb.out (by decide)) (fun _ hk=>hk.2) (.int .i64 ((aM aD fj).f0))) (fun _ hk=>hk.2) (.string ((aM aD fj).f1))) (fun _ hk=>trivial)⟩,⟨bf jM EK⟩,⟨aj HB pm GQ⟩⟩
   subst c12;rw[if_pos rfl]at H
   by_cases c13:0≤((aM aD fj).f0)
   rotate_left
   ·
    rw[if_neg c13]at H;exact absurd H (by simp)
   rw[if_pos c13]at H;have c13b0:decide (0≤((aM aD fj).f0))=true:=decide_eq_true c13;clear c13
   by_cases c14:((aM aD fj).f0)<(dT.length:Int)
   rotate_left
   ·
    rw[if_neg c14]at H;exact absurd H (by simp)
   rw[if_pos c14]at H;have KP:decide (((aM aD fj).f0)<(dT.length:Int))=true:=decide_eq_true c14;clear c14;obtain⟨Rl,GR⟩:∃y_:List ByteArray,y_=(dT.set (((aM aD fj).f0):Int).toNat ((aM aD fj).f1)):=⟨_,rfl⟩
   replace H:(gb.l0 k1 Rl aD (aD.length:Int) (IH (fj+1)))=some r:=by first|(rw[GR];with_reducible exact H)|(have bB:=(aV _ _).symm.trans H;rw[GR];with_reducible exact bB)|(have bB:=(aV _ _).symm.trans H;with_reducible exact bB)|with_reducible exact H|(rw[GR];exact H)|exact H
   have Ny651:=Ah GR;clear GR;have H':=Ah H;clear H;have Be:0≤(fj:Int):=od;have Bf:fj<(aD.length:Int):=od;obtain⟨Pz,Rk,zM,zN⟩:=iA dS.out fj Be Bf
   cases Rk
   replace zM:=(HB.out.cell (cy w _ zM)).trans zM;replace zN:=(HB.out.cell (cy w _ zN)).trans zN;replace Be:=eq_true Be;replace Bf:=eq_true Bf
   go_wp2_with (first|((with_reducible refine bC (N:=7) rfl ?_);refine bK 7 37 #[.int .i64 0,.string (⟨#[]⟩:ByteArray)] ?_;intro vy hg w16 mb hb;replace cV:=nr cV hb;have GW649:=gw hg (aZ HB pm);have GQ:=gw hg (aZ HB pm);replace HB:=Ah (aT (aZ HB pm) hb);have EK:=nn jM hg;have MZ:=nm jM hg;replace jM:=nb jM hb;clear hb hg;have hnb17:=MZ.out;have hnc17:=EK.out;obtain⟨JN,JO⟩:=cH mb;obtain⟨JP,JQ⟩:=cD mb)|((with_reducible refine ye (t:=37) (p:=7) rfl ?_);refine yd (t:=37) (p:=7) (v:= ?vo_w19) (w1:=((w16.setCell ⟨vy,0,none⟩ (.int .i64 ((aM aD fj).f0))).setCell ⟨vy,1,none⟩ (.string ((aM aD fj).f1)))) ?hg ?ho ?hn ?hr ?_;(case ho=>rfl);(case hg=>rfl);(case hn=>rfl);(case hr=>first|(go_simp;done)|(go_simp;rfl));intro ly hw;have an:a9 (Kd.R Kd.string 9 ly w.heap.size (fun _=>True) Rj dT):=⟨(by rw[hw];exact(by(with_reducible repeat(first|apply Kd.ah|apply Kd.ai|apply Kd.aY));exact Kd.aH (Kd.I (p:=⟨vy,1,none⟩) (Kd.I (p:=⟨vy,0,none⟩) (Kd.al cV.out mb.out (by decide)) (fun _ hk=>hk.2) (.int .i64 ((aM aD fj).f0))) (fun _ hk=>hk.2) (.string ((aM aD fj).f1))) (fun _ hk=>trivial)))⟩;have am:a9 (ly.heap[Py]?=some (.cells #[.slice b0 aG.length b5,.slice (some Pz) aD.length ay] 26 (0,0))):=⟨(by rw[hw];exact(bf jM EK))⟩;have aw:a9 (ly.heap[vy]?=some (.cells #[.int .i64 ((aM aD fj).f0),.string ((aM aD fj).f1)] 37 (0,0))):=⟨(by rw[hw];exact(by(with_reducible repeat(first|refine aC ?_ _|refine U ?_|refine X ?_ _));refine aU (cs:= #[.int .i64 ((aM aD fj).f0),.string (⟨#[]⟩:ByteArray)]) ?_ 1 _ rfl;(with_reducible repeat(first|refine aC ?_ _|refine U ?_|refine X ?_ _));refine aU (cs:= #[.int .i64 0,.string (⟨#[]⟩:ByteArray)]) ?_ 0 _ rfl;(with_reducible repeat(first|refine aC ?_ _|refine U ?_|refine X ?_ _));exact mb.out))⟩;have bI:a9 (Below w.heap.size w ly):=⟨(by rw[hw];exact(aj HB pm GQ))⟩;clear hw;clear cV;clear jM;clear mb;clear HB;have cV:=an;have jM:=am;have mb:=aw;have HB:=bI;clear an am aw bI)|((with_reducible refine tQ (t:=19) rfl ?_);refine tb (some 21) rfl rfl Try.func30 (by kernel_rfl) rfl #[.int .i64 fj] rfl rfl (by(try simp only[aac,aad,aaf]);first|done|rfl|(simp only[qC,fu];rfl)) ?_;(with_reducible refine(EQ.calls fj true _ I9.out).mono ?_);rintro e w' ⟨rfl,⟨nd,rfl⟩⟩;refine⟨_,rfl, ?_⟩;(try(rw[C0 ly];generalize gp:abM ly _=ly;have an:a9 (Kd.R Kd.string 9 ly w.heap.size (fun _=>True) Rj dT):=⟨by rw[←gp];exact(rr cV.out)⟩;have am:a9 (ly.heap[Py]?=some (.cells #[.slice b0 aG.length b5,.slice (some Pz) aD.length ay] 26 (0,0))):=⟨by rw[←gp];exact(bk jM)⟩;have aw:a9 (ly.heap[vy]?=some (.cells #[.int .i64 ((aM aD fj).f0),.string ((aM aD fj).f1)] 37 (0,0))):=⟨by rw[←gp];exact(bk mb)⟩;have bI:a9 (Below w.heap.size w ly):=⟨by rw[←gp];exact(aj HB pm GQ)⟩;clear cV jM mb HB gp;have cV:=an;have jM:=am;have mb:=aw;have HB:=bI;clear an am aw bI));obtain⟨J7,J8⟩:=cH mb;obtain⟨J9,JA⟩:=cD mb;have Ln:0≤(((aM aD fj).f0):Int):=od;have Lo:(((aM aD fj).f0):Int)<((dT.length:Int):Int):=od;obtain⟨Rm,mO,uC,a1o,gl15,cl15,a1p⟩:=Kd.OA cV.out (by omega);(first|cases uC|(injection uC with q9 IC ID;(first|subst q9|(injection q9 with q9;subst q9));subst ID;clear IC));have GB15:=Ah a1o;have GG15:=Ah a1p;clear a1o gl15 a1p;obtain⟨hx15_0,hf15_0⟩:=Kd.C9 (⟨#[]⟩:ByteArray) cV.out (((aM aD fj).f0):Int) Ln Lo;replace Ln:=eq_true Ln;replace Lo:=eq_true Lo;obtain⟨hy21_,hz21_⟩:=Kd.C9 (⟨#[]⟩:ByteArray) cV.out (((aM aD fj).f0):Int) (od) (od);have Rn:=Kd.OD cV.out (((aM aD fj).f0):Int) ((aM aD fj).f1))|((with_reducible refine ye (t:=9) (p:=27) rfl ?_);refine yd (t:=9) (p:=27) (v:= ?vo_w22) (w1:=(ly.setCell ⟨Rm,(((aM aD fj).f0):Int).toNat,none⟩ (.string ((aM aD fj).f1)))) ?hg ?ho ?hn ?hr ?_;(case ho=>rfl);(case hg=>rfl);(case hn=>rfl);(case hr=>first|(go_simp;done)|(go_simp;rfl));intro Bp hw;have hg:ly.grownBy Bp (some Rm):=(by rw[hw];exact Rn.2);have yU:Kd.R Kd.string 9 Bp w.heap.size (fun _=>True) (.slice (some ⟨Rm,0,none⟩) dT.length mO) Rl:=(by rw[hw,Ny651.out];exact Rn.1);clear Rn;replace jM:=Ah (hH (bk jM) hg (Kd.gY cV.out jM.out (by decide)));replace mb:=Ah (hH (bk mb) hg (Kd.gY cV.out mb.out (by decide)));replace cV:=Ah (yU);replace HB:=Ah ((by rw[hw];exact wd (HB.out) GB15.out:Below w.heap.size w Bp));clear hg hw yU))
   go_roundg k1
   case measure=>have:=cN.out;omega
   case rel=>exact⟨(Rl),(IH (fj+1)),e3,H',⟨by have:=cN.out;omega⟩,⟨rr cV.out⟩,⟨bk jM⟩,⟨aj HB pm GQ⟩⟩
def ms.f(k:Nat)(l0:List ByteArray)(l1:List (aQ)):Option (List ByteArray):=(gb.f k l0 l1).bind fun Ho=>(some Ho)
theorem ms.mono:∀a0 a1 k,aE (ms.f k a0 a1) (ms.f (k+1) a0 a1):=by
 intro a0 a1 k;unfold ms.f
 repeat' with_reducible first|exact gb.mono _ _ _|exact aE.refl _|exact aE.none _|refine aE.ite ?_ ?_|refine aE.bind ?_ (fun _=> ?_)
set_option maxHeartbeats 8000000 in
set_option maxRecDepth 100000 in
theorem ms.calls(k:Nat)(A0:Option Addr)(c0:Nat)(l0:List ByteArray)(A1:Option Addr)(c1:Nat)(l1:List (aQ))(r:List ByteArray)(w:World)(hr0:Kd.C Kd.string w A0 l0.length l0)(hc0:l0.length≤c0)(hr1:Kd.C bL w A1 l1.length l1)(hc1:l1.length≤c1)(h:ms.f k l0 l1=some r):
 Calls tP 28 #[.slice A0 l0.length c0,.slice A1 l1.length c1] w fun e w'=>∃cM:Value,e= .returned (cM)∧Kd.R Kd.string 9 w' w.heap.size (fun _=>True) cM r∧Below w.heap.size w w':=by
 have nG:=aam;have dU:=Ah hr0;have gK:=Ah hc0;clear hr0 hc0;have HR1:=Ah hr1;have nK:=Ah hc1;clear hr1 hc1;have HB:=Ah (qB w.heap.size w);have H:((gb.f k l0 l1).bind fun Ho=>(some Ho))=some r:=h;clear h;replace H:=Hz.mp H;obtain⟨Ho,fH,H⟩:=H
 try dsimp only at H
 have A3:=Ah fH;clear fH;obtain rfl:=ec H
 go_enter Try.func28,Try.ntmps28
 go_wp2_with (first|((with_reducible refine ar (f:=29) rfl ?_);refine gL (some 8) rfl rfl Try.func29 (by kernel_rfl) rfl #[.agg #[.slice A0 l0.length c0,.slice A1 l1.length c1],.func (.func 30) #[] #[]] rfl ?_;(with_reducible refine(gb.calls k _ _ l0 _ _ l1 Ho _ ?aI ?aJ ?af ?ak A3.out).mono ?_);(case aI=>repeat(first|exact dU.out|(with_reducible refine Kd.ji ?_ _)|(with_reducible refine Kd.jj ?_ _)|(with_reducible refine Kd.jm ?_)));(case aJ=>exact gK.out);(case af=>repeat(first|exact HR1.out|(with_reducible refine Kd.ji ?_ _)|(with_reducible refine Kd.jj ?_ _)|(with_reducible refine Kd.jm ?_)));(case ak=>exact nK.out);rintro e w4 ⟨v653,rfl,ho0,hb⟩;refine⟨_,rfl, ?_⟩;have HO654:=Ah (Kd.b8 ho0 (bF (bs HB)));replace HB:=Ah (aT (bs HB) hb);(try clear hb ho0)))
 go_ret
 exact⟨_,er,by(with_reducible repeat(first|apply Kd.ah|apply Kd.ai|apply Kd.aY));exact HO654.out,bs HB⟩
def gM.f(k:Nat)(aG:List ByteArray)(aD:List (aQ))(aK:List ByteArray)(aN:Int):Option (List ByteArray×Bool):=(dv.f k aG aD aK aN).bind fun Hp=>(if Hp=true then((gb.f k aG aD).bind fun Bg=>((fy.f k aK).bind fun Bh=>((ms.f k Bg Bh).bind fun Hq=>(some (Hq,true)))))else(some (([]:List ByteArray),false)))
theorem gM.mono:∀a0 a1 a2 a3 k,aE (gM.f k a0 a1 a2 a3) (gM.f (k+1) a0 a1 a2 a3):=by
 intro a0 a1 a2 a3 k;unfold gM.f
 repeat' with_reducible first|exact dv.mono _ _ _ _ _|exact ms.mono _ _ _|exact gb.mono _ _ _|exact fy.mono _ _|exact aE.refl _|exact aE.none _|refine aE.ite ?_ ?_|refine aE.bind ?_ (fun _=> ?_)
def gM.T3:Bool×List (List Nat×List Nat):=(true,[([],[]),([0],[0]),([1],[1]),([],[]),([3],[3]),([4,2],[4]),([2,5,5],[2,5]),([6,6,0,1,2,3,4,5,6],[6]),([7,0,1,2,3,4,5,6,7],[])])
def gM.B3:List Nat:=[0,1,3,0,8,31,63,127,255]
theorem gM.DK:gh .any (mz Try.f8 3)=gM.T3:=by kernel_rfl
theorem gM.Co:kc gM.T3.2 gM.B3=true:=by kernel_rfl
set_option maxHeartbeats 8000000 in
set_option maxRecDepth 100000 in
theorem gM.calls(k:Nat)(b0:Option Addr)(b5:Nat)(aG:List ByteArray)(b7:Option Addr)(ay:Nat)(aD:List (aQ))(bV:Option Addr)(bR:Nat)(aK:List ByteArray)(aN:Int)(r1:List ByteArray)(r2:Bool)(w:World)(eV:Kd.C Kd.string w b0 aG.length aG)(eW:aG.length≤b5)(eX:Kd.C bL w b7 aD.length aD)(eY:aD.length≤ay)(gS:Kd.C Kd.string w bV aK.length aK)(gT:aK.length≤bR)(h:gM.f k aG aD aK aN=some (r1,r2)):
 Calls tP 8 #[.agg #[.slice b0 aG.length b5,.slice b7 aD.length ay,.slice bV aK.length bR,.int .i64 aN]] w fun e w'=>∃cM:Value,e= .returned (.tuple #[cM,.bool r2])∧Kd.R Kd.string 9 w' w.heap.size (fun _=>True) cM r1∧Below w.heap.size w w':=by
 have me:=aaa;have nG:=aam;have dY:=Ah eV;have dj:=Ah eW;clear eV eW;have dS:=Ah eX;have dt:=Ah eY;clear eX eY;have eQ:=Ah gS;have ef:=Ah gT;clear gS gT;have HB:=Ah (qB w.heap.size w);have H:((dv.f k aG aD aK aN).bind fun Hp=>(if Hp=true then((gb.f k aG aD).bind fun Bg=>((fy.f k aK).bind fun Bh=>((ms.f k Bg Bh).bind fun Hq=>(some (Hq,true)))))else(some (([]:List ByteArray),false))))=some (r1,r2):=h;clear h;replace H:=Hz.mp H;obtain⟨Hp,fX,H⟩:=H
 try dsimp only at H
 have A2:=Ah fX;clear fX
 by_cases c3:Hp=true
 rotate_left
 ·
  replace c3:=i1.mpr c3;subst c3;rw[if_neg dO]at H;simp only[kD,o7]at H;obtain⟨rfl,rfl⟩:=H
  go_enter Try.func8,Try.ntmps8
  go_wp2_with (first|((with_reducible refine bC (N:=1) rfl ?_);refine bK 1 28 #[.slice b0 aG.length b5,.slice b7 aD.length ay,.slice bV aK.length bR,.int .i64 aN] ?_;intro GS hg w16 gr hb;have GW655:=gw hg (bs HB);have sq:=gw hg (bs HB);replace HB:=Ah (aT (bs HB) hb);clear hb hg;obtain⟨oG,oH,tW,tX⟩:=b9 gr;obtain⟨oI,oJ,tY,tZ⟩:=bA gr)|((with_reducible refine ar (f:=20) rfl ?_);refine gL (some 5) rfl rfl aa0 (by kernel_rfl) rfl #[.agg #[.slice b0 aG.length b5,.slice b7 aD.length ay,.slice bV aK.length bR,.int .i64 aN]] rfl ?_;(with_reducible refine(dv.calls k _ _ aG _ _ aD _ _ aK aN false _ ?aI ?aJ ?af ?ak ?bN ?bc A2.out).mono ?_);(case aI=>exact cb dY HB);(case aJ=>exact dj.out);(case af=>exact cb dS HB);(case ak=>exact dt.out);(case bN=>exact cb eQ HB);(case bc=>exact ef.out);rintro e jO ⟨rfl,hb⟩;refine⟨_,rfl, ?_⟩;replace gr:=nb gr hb;replace HB:=Ah (aT (aZ HB sq) hb);(try clear hb)))
  go_ret2
  exact⟨_,er,by first|exact Kd.dr _ _ _ _ _|exact Kd.e8 _ _ _ _ _|exact Kd.e9 _ _ _ _ _|exact Kd.e5 _ _ _ _ _|exact Kd.e7 _ _ _ _ _,aZ HB sq⟩
 subst c3;rw[if_pos rfl]at H;replace H:=Hz.mp H;obtain⟨Bg,ek,H⟩:=H
 try dsimp only at H
 have A4:=Ah ek;clear ek;replace H:=Hz.mp H;obtain⟨Bh,px,H⟩:=H
 try dsimp only at H
 have A5:=Ah px;clear px;replace H:=Hz.mp H;obtain⟨Hq,gF,H⟩:=H
 try dsimp only at H
 have A6:=Ah gF;clear gF;simp only[kD,o7]at H;obtain⟨rfl,rfl⟩:=H
 go_enter Try.func8,Try.ntmps8
 try go_wp2_with (first|((with_reducible refine bC (N:=1) rfl ?_);refine bK 1 28 #[.slice b0 aG.length b5,.slice b7 aD.length ay,.slice bV aK.length bR,.int .i64 aN] ?_;intro GS hg w7 gr hb;have GW655:=gw hg (bs HB);have sq:=gw hg (bs HB);replace HB:=Ah (aT (bs HB) hb);clear hb hg;obtain⟨vE,vF,OJ,XY⟩:=b9 gr;obtain⟨xM,vG,OK,XZ⟩:=bA gr)|((with_reducible refine ar (f:=20) rfl ?_);refine gL (some 5) rfl rfl aa0 (by kernel_rfl) rfl #[.agg #[.slice b0 aG.length b5,.slice b7 aD.length ay,.slice bV aK.length bR,.int .i64 aN]] rfl ?_;(with_reducible refine(dv.calls k _ _ aG _ _ aD _ _ aK aN true _ ?aI ?aJ ?af ?ak ?bN ?bc A2.out).mono ?_);(case aI=>exact cb dY HB);(case aJ=>exact dj.out);(case af=>exact cb dS HB);(case ak=>exact dt.out);(case bN=>exact cb eQ HB);(case bc=>exact ef.out);rintro e w9 ⟨rfl,hb⟩;refine⟨_,rfl, ?_⟩;replace gr:=nb gr hb;replace HB:=Ah (aT (aZ HB sq) hb);(try clear hb)))
 have an:=Ah (U gr.out);have am:=Ah (jg HB.out);clear gr HB;have gr:=an;have HB:=am;clear an am;refine la (n:=9) (S:=fun w'=>w'.cell? ⟨GS,0,none⟩=some (.slice b0 aG.length b5)∧w'.cell? ⟨GS,1,none⟩=some (.slice b7 aD.length ay)∧w'.cell? ⟨GS,2,none⟩=some (.slice bV aK.length bR)∧w'.cell? ⟨GS,3,none⟩=some (.int .i64 aN)) (ds:=[]) #[false,false,false,false,false,false,false,false,false] (by kernel_rfl) rfl rfl ⟨(ab gr.out 0).trans rfl,(ab gr.out 1).trans rfl,(ab gr.out 2).trans rfl,(ab gr.out 3).trans rfl⟩ (fun hHeld=> ?_);refine m4 gM.DK gM.Co (fun ac eh=> ?_)
 generalize w9.drew=wY at gr HB hHeld⊢
 refine bZ 0 7 ac.out ?_;refine bZ 3 10 ac.out ?_;refine gy 1 8 ac.out eh.out hHeld (hr:=by rintro w' ⟨s0,s1,s2,s3⟩;go_simp;with_reducible rfl) (h:= ?_);refine gy 4 11 ac.out eh.out hHeld (hr:=by rintro w' ⟨s0,s1,s2,s3⟩;go_simp;with_reducible rfl) (h:= ?_);refine fw (i:=2) (N:=some 9) #[true,true,true,true,true,false,false,false,false] rfl rfl (ff ac.out (by kernel_rfl)) (by decide) (fun K hK=> ?_);refine kI Try.func29 (by kernel_rfl) rfl #[.agg #[.slice b0 aG.length b5,.slice b7 aD.length ay],.func (.func 30) #[] #[]] (by rfl) rfl rfl (by(try simp only[List.map_toArray,List.map_cons,List.map_nil]);first|done|rfl|(simp only[List.length_drop,List.length_take];rfl)) ?_
 with_reducible refine(gb.calls k _ _ aG _ _ aD Bg _ ?aI ?aJ ?af ?ak A4.out).mono ?_
 (case aI=>exact cb dY HB);(case aJ=>exact dj.out);(case af=>exact cb dS HB);(case ak=>exact dt.out);rintro e uP ⟨v658,rfl,ho0,hb⟩;refine⟨_,rfl, ?_⟩;have an:=Ah (Kd.b8 ho0 (bF (aZ HB sq)));have am:=Ah (bb gr hb);have aw:=Ah (aT (aZ HB sq) hb);clear gr HB;have tm:=an;have gr:=am;have HB:=aw;clear an am aw;(try clear hb);(try clear hb2);(try clear hk);(try clear hi);(try clear ho0);refine hK.out _ _ ⟨(ab gr.out 0).trans rfl,(ab gr.out 1).trans rfl,(ab gr.out 2).trans rfl,(ab gr.out 3).trans rfl⟩ (fun hHeld=> ?_);clear hK K;refine gN (a':= ?_) ?_ ?_;rotate_left
 ·
  show aab _ (some 9) _=_
  simp only[aab,Ok,mr,mQ,eK,eT]
  rfl
 refine fw (i:=5) (N:=some 12) #[true,true,true,true,true,true,false,false,false] rfl rfl (ff ac.out (by kernel_rfl)) (by decide) (fun K hK=> ?_);refine kI Try.func31 (by kernel_rfl) rfl #[.slice bV aK.length bR] (by rfl) rfl rfl (by(try simp only[aac,aad,aaf]);first|done|rfl|(simp only[qC,fu];rfl)) ?_
 with_reducible refine(fy.calls k _ _ aK Bh _ ?aI ?aJ A5.out).mono ?_
 (case aI=>exact cb eQ HB);(case aJ=>exact ef.out);rintro e lP ⟨v661,rfl,ho0,hb⟩;refine⟨_,rfl, ?_⟩;have an:=Ah (Kd.fT (rr tm.out) hb);have am:=Ah (Kd.b8 ho0 (bF (aZ HB sq)));have aw:=Ah (bb gr hb);have bI:=Ah (aT (aZ HB sq) hb);clear tm gr HB;have tm:=an;have Cu:=am;have gr:=aw;have HB:=bI;clear an am aw bI;(try clear hb);(try clear hb2);(try clear hk);(try clear hi);(try clear ho0);obtain⟨bx,bu,nE⟩:=Kd.ao tm.out;(first|subst nE|(injection nE with dy gA dz;have gB:=dy.symm;have gC:=dz.symm;clear dy gA dz;subst gB;subst gC));obtain⟨g6,g7,qt⟩:=Kd.ao Cu.out;(first|subst qt|(injection qt with dy gA dz;have gB:=dy.symm;have gC:=dz.symm;clear dy gA dz;subst gB;subst gC));refine hK.out _ _ ⟨(ab gr.out 0).trans rfl,(ab gr.out 1).trans rfl,(ab gr.out 2).trans rfl,(ab gr.out 3).trans rfl⟩ (fun hHeld=> ?_);clear hK K;refine gN (a':= ?_) ?_ ?_;rotate_left
 ·
  show aab _ (some 12) _=_
  simp only[aab,Ok,mr,mQ,eK,eT]
  rfl
 refine fw (i:=6) (N:=some 13) #[true,true,true,true,true,true,true,false,false] rfl rfl (ff ac.out (by kernel_rfl)) (by decide) (fun K hK=> ?_);refine kI Try.func28 (by kernel_rfl) rfl #[.slice bx Bg.length bu,.slice g6 Bh.length g7] (by rfl) rfl rfl (by(try simp only[aac,aad,aaf]);first|done|rfl|(simp only[qC,fu];rfl)) ?_
 with_reducible refine(ms.calls k _ _ Bg _ _ Bh Hq _ ?aI ?aJ ?af ?ak A6.out).mono ?_
 (case aI=>exact bd tm);(case aJ=>exact(Kd.aq tm.out).2.1);(case af=>exact bd Cu);(case ak=>exact(Kd.aq Cu.out).2.1);rintro e jN ⟨v664,rfl,ho0,hb⟩;refine⟨_,rfl, ?_⟩;have an:=Ah (Kd.aX (rr tm.out) (Kd.a8 ho0) hb);have am:=Ah (Kd.fT (rr Cu.out) hb);have aw:=Ah (Kd.b8 (Kd.aA ho0 (Kd.Z (rr tm.out))) (bF (aZ HB sq)));have bI:=Ah (bb gr hb);have bj:=Ah (aT (aZ HB sq) hb);clear tm Cu gr HB;have tm:=an;have Cu:=am;have HO665:=aw;have gr:=bI;have HB:=bj;clear an am aw bI bj;(try clear hb);(try clear hb2);(try clear hk);(try clear hi);(try clear ho0);refine hK.out _ _ ⟨(ab gr.out 0).trans rfl,(ab gr.out 1).trans rfl,(ab gr.out 2).trans rfl,(ab gr.out 3).trans rfl⟩ (fun hHeld=> ?_);clear hK K;refine gN (a':= ?_) ?_ ?_;rotate_left
 ·
  show aab _ (some 13) _=_
  simp only[aab,Ok,mr,mQ,eK,eT]
  rfl
 refine bZ 7 2 ac.out ?_;refine bZ 8 3 ac.out ?_;refine kj (l3 ac.out (by kernel_rfl)) ?_
 try go_wp2
 go_ret2
 exact⟨_,er,by(with_reducible repeat(first|apply Kd.ah|apply Kd.ai|apply Kd.aY));exact Kd.aH HO665.out (fun _ hk=>trivial),aZ HB sq⟩
def pR.f(k:Nat)(aG:List ByteArray)(aD:List (aQ))(aK:List ByteArray)(aN:Int):Option (List ByteArray×(List (aQ))×List ByteArray×Int×Bool):=(dv.f k aG aD aK aN).bind fun Hr=>(if Hr=true then((kw.f aG aD aK aN).bind fun vz=>(some (vz.1,vz.2.1,vz.2.2.1,(vz.2.2.1.length:Int),true)))else(some (([]:List ByteArray),([]:List (aQ)),([]:List ByteArray),0,false)))
theorem pR.mono:∀a0 a1 a2 a3 k,aE (pR.f k a0 a1 a2 a3) (pR.f (k+1) a0 a1 a2 a3):=by
 intro a0 a1 a2 a3 k;unfold pR.f
 repeat' with_reducible first|exact dv.mono _ _ _ _ _|exact aE.refl _|exact aE.none _|refine aE.ite ?_ ?_|refine aE.bind ?_ (fun _=> ?_)
set_option maxHeartbeats 8000000 in
set_option maxRecDepth 100000 in
theorem pR.calls(k:Nat)(b0:Option Addr)(b5:Nat)(aG:List ByteArray)(b7:Option Addr)(ay:Nat)(aD:List (aQ))(bV:Option Addr)(bR:Nat)(aK:List ByteArray)(aN:Int)(r1:List ByteArray)(r2:List (aQ))(r3:List ByteArray)(r4:Int)(r5:Bool)(w:World)(eV:Kd.C Kd.string w b0 aG.length aG)(eW:aG.length≤b5)(eX:Kd.C bL w b7 aD.length aD)(eY:aD.length≤ay)(gS:Kd.C Kd.string w bV aK.length aK)(gT:aK.length≤bR)(h:pR.f k aG aD aK aN=some (r1,r2,r3,r4,r5)):
 Calls Try.prog 9 #[.agg #[.slice b0 aG.length b5,.slice b7 aD.length ay,.slice bV aK.length bR,.int .i64 aN]] w fun e w'=>∃cM fD ew:Value,e= .returned (.tuple #[.agg #[cM,fD,ew,.int .i64 r4],.bool r5])∧Kd.R Kd.string 9 w' w.heap.size (fun k_=>some k_≠(ew:Value).ownBlock) cM r1∧Kd.R bL 37 w' w.heap.size (fun _=>True) fD r2∧Kd.R Kd.string 9 w' w.heap.size (fun k_=>some k_≠(cM:Value).ownBlock) ew r3∧Below w.heap.size w w':=by
 have me:=aaa;have dY:=Ah eV;have dj:=Ah eW;clear eV eW;have dS:=Ah eX;have dt:=Ah eY;clear eX eY;have eQ:=Ah gS;have ef:=Ah gT;clear gS gT;have HB:=Ah (qB w.heap.size w);have H:((dv.f k aG aD aK aN).bind fun Hr=>(if Hr=true then((kw.f aG aD aK aN).bind fun vz=>(some (vz.1,vz.2.1,vz.2.2.1,(vz.2.2.1.length:Int),true)))else(some (([]:List ByteArray),([]:List (aQ)),([]:List ByteArray),0,false))))=some (r1,r2,r3,r4,r5):=h;clear h;replace H:=Hz.mp H;obtain⟨Hr,fX,H⟩:=H
 try dsimp only at H
 have A2:=Ah fX;clear fX
 by_cases c3:Hr=true
 rotate_left
 ·
  replace c3:=i1.mpr c3;subst c3;rw[if_neg dO]at H;simp only[kD,o7]at H;obtain⟨rfl,rfl,rfl,rfl,rfl⟩:=H
  go_enter Try.func9,Try.ntmps9
  go_wp2_with (first|((with_reducible refine bC (N:=1) rfl ?_);refine bK 1 28 #[.slice b0 aG.length b5,.slice b7 aD.length ay,.slice bV aK.length bR,.int .i64 aN] ?_;intro gb666 hg py jr hb;have GW666:=gw hg (bs HB);have mc:=gw hg (bs HB);replace HB:=Ah (aT (bs HB) hb);clear hb hg)|((with_reducible refine bC (N:=2) rfl ?_);refine bK 2 28 #[.slice none 0 0,.slice none 0 0,.slice none 0 0,.int .i64 0] ?_;intro ov hg yS ll hb;have GW667:=gw hg (aZ HB mc);have rj:=gw hg (aZ HB mc);replace HB:=Ah (aT (aZ HB mc) hb);have Ma:=nn jr hg;have Mb:=nm jr hg;replace jr:=nb jr hb;clear hb hg;have hnb22:=Ma.out;have hnc22:=Mb.out;obtain⟨WX,WY,WZ,Wa⟩:=b9 jr;obtain⟨Wb,Wc,Wd,We⟩:=bA jr)|((with_reducible refine ar (f:=20) rfl ?_);refine gL (some 6) rfl rfl aa0 (by kernel_rfl) rfl #[.agg #[.slice b0 aG.length b5,.slice b7 aD.length ay,.slice bV aK.length bR,.int .i64 aN]] rfl ?_;(with_reducible refine(dv.calls k _ _ aG _ _ aD _ _ aK aN false _ ?aI ?aJ ?af ?ak ?bN ?bc A2.out).mono ?_);(case aI=>exact cb dY HB);(case aJ=>exact dj.out);(case af=>exact cb dS HB);(case ak=>exact dt.out);(case bN=>exact cb eQ HB);(case bc=>exact ef.out);rintro e nL ⟨rfl,hb⟩;refine⟨_,rfl, ?_⟩;replace jr:=nb jr hb;replace ll:=nb ll hb;replace HB:=Ah (aT (aj HB mc rj) hb);(try clear hb);obtain⟨Vw,Vx,hcz25_2,hcz25_3⟩:=b9 ll;obtain⟨Vy,Vz,hfz25_2,hfz25_3⟩:=bA ll))
  refine bodyPost_ret (iJ rfl _ _ ov 28 #[.slice none 0 0,.slice none 0 0,.slice none 0 0,.int .i64 0] (0,0) _ rfl (by(with_reducible repeat(first|refine aC ?_ _|refine U ?_|refine X ?_ _));refine aU (cs:= #[.slice none 0 0,.slice none 0 0,.slice none 0 0,.int .i64 0]) ?_ 3 _ rfl;(with_reducible repeat(first|refine aC ?_ _|refine U ?_|refine X ?_ _));refine aU (cs:= #[.slice none 0 0,.slice none 0 0,.slice none 0 0,.int .i64 0]) ?_ 2 _ rfl;(with_reducible repeat(first|refine aC ?_ _|refine U ?_|refine X ?_ _));refine aU (cs:= #[.slice none 0 0,.slice none 0 0,.slice none 0 0,.int .i64 0]) ?_ 1 _ rfl;(with_reducible repeat(first|refine aC ?_ _|refine U ?_|refine X ?_ _));refine aU (cs:= #[.slice none 0 0,.slice none 0 0,.slice none 0 0,.int .i64 0]) ?_ 0 _ rfl;(with_reducible repeat(first|refine aC ?_ _|refine U ?_|refine X ?_ _));exact ll.out) aaa rfl (by kernel_rfl)) rfl ?_;exact⟨_,_,_,er,by first|exact Kd.dr _ _ _ _ _|exact Kd.e8 _ _ _ _ _|exact Kd.e9 _ _ _ _ _|exact Kd.e5 _ _ _ _ _|exact Kd.e7 _ _ _ _ _,by first|exact Kd.dr _ _ _ _ _|exact Kd.e8 _ _ _ _ _|exact Kd.e9 _ _ _ _ _|exact Kd.e5 _ _ _ _ _|exact Kd.e7 _ _ _ _ _,by first|exact Kd.dr _ _ _ _ _|exact Kd.e8 _ _ _ _ _|exact Kd.e9 _ _ _ _ _|exact Kd.e5 _ _ _ _ _|exact Kd.e7 _ _ _ _ _,aj HB mc rj⟩
 subst c3;rw[if_pos rfl]at H;replace H:=Hz.mp H;obtain⟨⟨tJ,uF,ny,La⟩,ek,H⟩:=H
 try dsimp only at H
 have A4:=Ah ek;clear ek;simp only[kD,o7]at H;obtain⟨rfl,rfl,rfl,rfl,rfl⟩:=H
 go_enter Try.func9,Try.ntmps9
 go_wp2_with (first|((with_reducible refine bC (N:=1) rfl ?_);refine bK 1 28 #[.slice b0 aG.length b5,.slice b7 aD.length ay,.slice bV aK.length bR,.int .i64 aN] ?_;intro gb666 hg w5 jr hb;have GW666:=gw hg (bs HB);have mc:=gw hg (bs HB);replace HB:=Ah (aT (bs HB) hb);clear hb hg)|((with_reducible refine bC (N:=2) rfl ?_);refine bK 2 28 #[.slice none 0 0,.slice none 0 0,.slice none 0 0,.int .i64 0] ?_;intro ov hg w6 ll hb;have GW667:=gw hg (aZ HB mc);have rj:=gw hg (aZ HB mc);replace HB:=Ah (aT (aZ HB mc) hb);have Ma:=nn jr hg;have Mb:=nm jr hg;replace jr:=nb jr hb;clear hb hg;have a0V:=Ma.out;have a0W:=Mb.out;obtain⟨vE,vF,OJ,XY⟩:=b9 jr;obtain⟨xM,vG,OK,XZ⟩:=bA jr)|((with_reducible refine ar (f:=20) rfl ?_);refine gL (some 6) rfl rfl aa0 (by kernel_rfl) rfl #[.agg #[.slice b0 aG.length b5,.slice b7 aD.length ay,.slice bV aK.length bR,.int .i64 aN]] rfl ?_;(with_reducible refine(dv.calls k _ _ aG _ _ aD _ _ aK aN true _ ?aI ?aJ ?af ?ak ?bN ?bc A2.out).mono ?_);(case aI=>exact cb dY HB);(case aJ=>exact dj.out);(case af=>exact cb dS HB);(case ak=>exact dt.out);(case bN=>exact cb eQ HB);(case bc=>exact ef.out);rintro e w9 ⟨rfl,hb⟩;refine⟨_,rfl, ?_⟩;replace jr:=nb jr hb;replace ll:=nb ll hb;replace HB:=Ah (aT (aj HB mc rj) hb);(try clear hb);obtain⟨Ec,Ed,W9,WA⟩:=b9 jr;obtain⟨Ee,Ef,WB,WC⟩:=bA jr)|((with_reducible refine ar (f:=22) rfl ?_);refine gL (some 10) rfl rfl Try.func22 (by kernel_rfl) rfl #[.agg #[.slice b0 aG.length b5,.slice b7 aD.length ay,.slice bV aK.length bR,.int .i64 aN]] rfl ?_;(with_reducible refine(kw.calls _ _ aG _ _ aD _ _ aK aN tJ uF ny La _ ?aI ?aJ ?af ?ak ?bN ?bc A4.out).mono ?_);(case aI=>exact cb dY HB);(case aJ=>exact dj.out);(case af=>exact cb dS HB);(case ak=>exact dt.out);(case bN=>exact cb eQ HB);(case bc=>exact ef.out);rintro e uP ⟨v670,v673,v676,rfl,ho0,ho1,ho2,hb⟩;refine⟨_,rfl, ?_⟩;have L3:=Ah (Kd.b8 ho0 (bF (aj HB mc rj)));have L4:=Ah (Kd.b8 ho1 (bF (aj HB mc rj)));have L5:=Ah (Kd.b8 ho2 (bF (aj HB mc rj)));replace jr:=nb jr hb;replace ll:=nb ll hb;replace HB:=Ah (aT (aj HB mc rj) hb);(try clear hb ho0 ho1 ho2))|((with_reducible refine bC (N:=4) rfl ?_);refine bK 4 28 #[.slice none 0 0,.slice none 0 0,.slice none 0 0,.int .i64 0] ?_;intro ow hg lP GT hb;replace L3:=nr L3 hb;replace L4:=nr L4 hb;replace L5:=nr L5 hb;have GW679:=gw hg (aj HB mc rj);have GE679:=gw hg (aj HB mc rj);replace HB:=Ah (aT (aj HB mc rj) hb);have NB666_679:=nn jr hg;have NB679_666:=nm jr hg;replace jr:=nb jr hb;have C7:=nn ll hg;have NB679_667:=nm ll hg;replace ll:=nb ll hb;clear hb hg;obtain⟨bx,bu,nE⟩:=Kd.ao L3.out;subst nE;have hnb14:=NB679_666.out;have hnc14:=NB666_679.out;have KR:=NB679_667.out;have KS:=C7.out;obtain⟨vA,vB,Wx,Wy⟩:=b9 GT;obtain⟨vC,vD,Wz,X0⟩:=bA GT;obtain⟨cZ,ca,wD⟩:=Kd.ao L4.out;subst wD;obtain⟨qz,r7,H8⟩:=Kd.ao L5.out;subst H8;obtain⟨m5,m6,pT,pU⟩:=b9 ll;obtain⟨m7,m8,pV,pW⟩:=bA ll))
 refine bodyPost_ret (iJ rfl _ _ ov 28 #[.slice bx tJ.length bu,.slice cZ uF.length ca,.slice qz ny.length r7,.int .i64 (ny.length:Int)] (0,0) _ rfl (by(with_reducible repeat(first|refine aC ?_ _|refine U ?_|refine X ?_ _));refine aU (cs:= #[.slice bx tJ.length bu,.slice cZ uF.length ca,.slice qz ny.length r7,.int .i64 0]) ?_ 3 _ rfl;(with_reducible repeat(first|refine aC ?_ _|refine U ?_|refine X ?_ _));refine aU (cs:= #[.slice bx tJ.length bu,.slice cZ uF.length ca,.slice none 0 0,.int .i64 0]) ?_ 2 _ rfl;(with_reducible repeat(first|refine aC ?_ _|refine U ?_|refine X ?_ _));refine aU (cs:= #[.slice bx tJ.length bu,.slice none 0 0,.slice none 0 0,.int .i64 0]) ?_ 1 _ rfl;(with_reducible repeat(first|refine aC ?_ _|refine U ?_|refine X ?_ _));refine aU (cs:= #[.slice none 0 0,.slice none 0 0,.slice none 0 0,.int .i64 0]) ?_ 0 _ rfl;(with_reducible repeat(first|refine aC ?_ _|refine U ?_|refine X ?_ _));refine dD ?_ C7.out _;(with_reducible repeat(first|refine aC ?_ _|refine U ?_|refine X ?_ _));refine dD ?_ C7.out _;(with_reducible repeat(first|refine aC ?_ _|refine U ?_|refine X ?_ _));refine dD ?_ C7.out _;(with_reducible repeat(first|refine aC ?_ _|refine U ?_|refine X ?_ _));refine dD ?_ C7.out _;(with_reducible repeat(first|refine aC ?_ _|refine U ?_|refine X ?_ _));refine dD ?_ C7.out _;(with_reducible repeat(first|refine aC ?_ _|refine U ?_|refine X ?_ _));exact ll.out) aaa rfl (by kernel_rfl)) rfl ?_;exact⟨_,_,_,er,by(with_reducible repeat(first|apply Kd.ah|apply Kd.ai|apply Kd.aY));exact Kd.aH (Kd.I (p:=⟨ov,3,none⟩) (Kd.I (p:=⟨ov,2,none⟩) (Kd.I (p:=⟨ov,1,none⟩) (Kd.I (p:=⟨ov,0,none⟩) (Kd.I (p:=⟨ow,3,none⟩) (Kd.I (p:=⟨ow,3,none⟩) (Kd.I (p:=⟨ow,2,none⟩) (Kd.I (p:=⟨ow,1,none⟩) (Kd.I (p:=⟨ow,0,none⟩) (Kd.al (Kd.al L3.out GT.out (by decide)) ll.out (by decide)) (fun _ hk=>hk.1.2) (.slice bx tJ.length bu)) (fun _ hk=>hk.1.2) (.slice cZ uF.length ca)) (fun _ hk=>hk.1.2) (.slice qz ny.length r7)) (fun _ hk=>hk.1.2) (.int .i64 La)) (fun _ hk=>hk.1.2) (.int .i64 (ny.length:Int))) (fun _ hk=>hk.2) (.slice bx tJ.length bu)) (fun _ hk=>hk.2) (.slice cZ uF.length ca)) (fun _ hk=>hk.2) (.slice qz ny.length r7)) (fun _ hk=>hk.2) (.int .i64 (ny.length:Int))) (fun _ hk=>hk.1.1),by(with_reducible repeat(first|apply Kd.ah|apply Kd.ai|apply Kd.aY));exact Kd.aH (Kd.I (p:=⟨ov,3,none⟩) (Kd.I (p:=⟨ov,2,none⟩) (Kd.I (p:=⟨ov,1,none⟩) (Kd.I (p:=⟨ov,0,none⟩) (Kd.I (p:=⟨ow,3,none⟩) (Kd.I (p:=⟨ow,3,none⟩) (Kd.I (p:=⟨ow,2,none⟩) (Kd.I (p:=⟨ow,1,none⟩) (Kd.I (p:=⟨ow,0,none⟩) (Kd.al (Kd.al L4.out GT.out (by decide)) ll.out (by decide)) (fun _ hk=>hk.1.2) (.slice bx tJ.length bu)) (fun _ hk=>hk.1.2) (.slice cZ uF.length ca)) (fun _ hk=>hk.1.2) (.slice qz ny.length r7)) (fun _ hk=>hk.1.2) (.int .i64 La)) (fun _ hk=>hk.1.2) (.int .i64 (ny.length:Int))) (fun _ hk=>hk.2) (.slice bx tJ.length bu)) (fun _ hk=>hk.2) (.slice cZ uF.length ca)) (fun _ hk=>hk.2) (.slice qz ny.length r7)) (fun _ hk=>hk.2) (.int .i64 (ny.length:Int))) (fun _ hk=>trivial),by(with_reducible repeat(first|apply Kd.ah|apply Kd.ai|apply Kd.aY));exact Kd.aH (Kd.I (p:=⟨ov,3,none⟩) (Kd.I (p:=⟨ov,2,none⟩) (Kd.I (p:=⟨ov,1,none⟩) (Kd.I (p:=⟨ov,0,none⟩) (Kd.I (p:=⟨ow,3,none⟩) (Kd.I (p:=⟨ow,3,none⟩) (Kd.I (p:=⟨ow,2,none⟩) (Kd.I (p:=⟨ow,1,none⟩) (Kd.I (p:=⟨ow,0,none⟩) (Kd.al (Kd.al L5.out GT.out (by decide)) ll.out (by decide)) (fun _ hk=>hk.1.2) (.slice bx tJ.length bu)) (fun _ hk=>hk.1.2) (.slice cZ uF.length ca)) (fun _ hk=>hk.1.2) (.slice qz ny.length r7)) (fun _ hk=>hk.1.2) (.int .i64 La)) (fun _ hk=>hk.1.2) (.int .i64 (ny.length:Int))) (fun _ hk=>hk.2) (.slice bx tJ.length bu)) (fun _ hk=>hk.2) (.slice cZ uF.length ca)) (fun _ hk=>hk.2) (.slice qz ny.length r7)) (fun _ hk=>hk.2) (.int .i64 (ny.length:Int))) (fun _ hk=>hk.1.1),br HB mc rj GE679⟩
def kF.f(k:Nat)(aG:List ByteArray)(aD:List (aQ))(aK:List ByteArray)(aN:Int):Option (List ByteArray×(List (aQ))×List ByteArray×Int×Bool):=(dv.f k aG aD aK aN).bind fun Hs=>(if Hs=true then((kw.f aG aD aK aN).bind fun qq=>(if 0≤aN then(if aN≤(aK.length:Int)then((fy.f k (aK.take (aN:Int).toNat)).bind fun tK=>(if qq.2.1.length+tK.length<5864062014805 then((some (qq.2.1++tK:List (aQ))).bind fun lx=>((gc.f k qq.1 lx).bind fun Bi=>(if Bi=true then(some (qq.1,lx,qq.2.2.1,qq.2.2.2,true))else(some (([]:List ByteArray),([]:List (aQ)),([]:List ByteArray),0,false)))))else(none)))else(none))else(none)))else(some (([]:List ByteArray),([]:List (aQ)),([]:List ByteArray),0,false)))
theorem kF.mono:∀a0 a1 a2 a3 k,aE (kF.f k a0 a1 a2 a3) (kF.f (k+1) a0 a1 a2 a3):=by
 intro a0 a1 a2 a3 k;unfold kF.f
 repeat' with_reducible first|exact gc.mono _ _ _|exact dv.mono _ _ _ _ _|exact fy.mono _ _|exact aE.refl _|exact aE.none _|refine aE.ite ?_ ?_|refine aE.bind ?_ (fun _=> ?_)
def kF.T4:Bool×List (List Nat×List Nat):=(true,[([],[]),([0],[0]),([1],[1]),([],[]),([3],[3]),([],[]),([5],[5]),([4,6],[4,6]),([7],[7]),([2,8,8],[2,8]),([0,1,2,3,4,5,6,7,8,9],[]),([10,0,1,2,3,4,5,6,7,8,9],[10]),([11,9,9,0,1,2,3,4,5,6,7,8,9],[9,11])])
def kF.B4:List Nat:=[0,1,3,0,8,0,32,120,248,511,1023,2047,4095]
theorem kF.Gk:gh .any (mz Try.f10 4)=kF.T4:=by kernel_rfl
theorem kF.FS:kc kF.T4.2 kF.B4=true:=by kernel_rfl
set_option maxHeartbeats 8000000 in
set_option maxRecDepth 100000 in
theorem kF.calls(k:Nat)(b0:Option Addr)(b5:Nat)(aG:List ByteArray)(b7:Option Addr)(ay:Nat)(aD:List (aQ))(bV:Option Addr)(bR:Nat)(aK:List ByteArray)(aN:Int)(r1:List ByteArray)(r2:List (aQ))(r3:List ByteArray)(r4:Int)(r5:Bool)(w:World)(eV:Kd.C Kd.string w b0 aG.length aG)(eW:aG.length≤b5)(eX:Kd.C bL w b7 aD.length aD)(eY:aD.length≤ay)(gS:Kd.C Kd.string w bV aK.length aK)(gT:aK.length≤bR)(h:kF.f k aG aD aK aN=some (r1,r2,r3,r4,r5)):
 Calls Try.prog 10 #[.agg #[.slice b0 aG.length b5,.slice b7 aD.length ay,.slice bV aK.length bR,.int .i64 aN]] w fun e w'=>∃cM fD ew:Value,e= .returned (.tuple #[.agg #[cM,fD,ew,.int .i64 r4],.bool r5])∧Kd.R Kd.string 9 w' w.heap.size (fun k_=>some k_≠(ew:Value).ownBlock) cM r1∧Kd.R bL 37 w' w.heap.size (fun _=>True) fD r2∧Kd.R Kd.string 9 w' w.heap.size (fun k_=>some k_≠(cM:Value).ownBlock) ew r3∧Below w.heap.size w w':=by
 have me:=aaa;have nG:=aam;have dY:=Ah eV;have dj:=Ah eW;clear eV eW;have dS:=Ah eX;have dt:=Ah eY;clear eX eY;have eQ:=Ah gS;have ef:=Ah gT;clear gS gT;have HB:=Ah (qB w.heap.size w);have H:((dv.f k aG aD aK aN).bind fun Hs=>(if Hs=true then((kw.f aG aD aK aN).bind fun qq=>(if 0≤aN then(if aN≤(aK.length:Int)then((fy.f k (aK.take (aN:Int).toNat)).bind fun tK=>(if qq.2.1.length+tK.length<5864062014805 then((some (qq.2.1++tK:List (aQ))).bind fun lx=>((gc.f k qq.1 lx).bind fun Bi=>(if Bi=true then(some (qq.1,lx,qq.2.2.1,qq.2.2.2,true))else(some (([]:List ByteArray),([]:List (aQ)),([]:List ByteArray),0,false)))))else(none)))else(none))else(none)))else(some (([]:List ByteArray),([]:List (aQ)),([]:List ByteArray),0,false))))=some (r1,r2,r3,r4,r5):=h;clear h;replace H:=Hz.mp H;obtain⟨Hs,fX,H⟩:=H
 try dsimp only at H
 have A2:=Ah fX;clear fX
 by_cases c3:Hs=true
 rotate_left
 ·
  replace c3:=i1.mpr c3;subst c3;rw[if_neg dO]at H;simp only[kD,o7]at H;obtain⟨rfl,rfl,rfl,rfl,rfl⟩:=H
  go_enter Try.func10,Try.ntmps10
  go_wp2_with (first|((with_reducible refine bC (N:=1) rfl ?_);refine bK 1 28 #[.slice b0 aG.length b5,.slice b7 aD.length ay,.slice bV aK.length bR,.int .i64 aN] ?_;intro Cv hg Rv et hb;have GW680:=gw hg (bs HB);have jX:=gw hg (bs HB);replace HB:=Ah (aT (bs HB) hb);clear hb hg)|((with_reducible refine bC (N:=2) rfl ?_);refine bK 2 28 #[.slice none 0 0,.slice none 0 0,.slice none 0 0,.int .i64 0] ?_;intro nC hg w63 gX hb;have GW681:=gw hg (aZ HB jX);have lm:=gw hg (aZ HB jX);replace HB:=Ah (aT (aZ HB jX) hb);have Mc:=nn et hg;have Md:=nm et hg;replace et:=nb et hb;clear hb hg;have hnb64:=Mc.out;have hnc64:=Md.out;obtain⟨hcz65_0,hcz65_1,hcz65_2,hcz65_3⟩:=b9 et;obtain⟨hfz65_0,hfz65_1,hfz65_2,hfz65_3⟩:=bA et)|((with_reducible refine ar (f:=20) rfl ?_);refine gL (some 6) rfl rfl aa0 (by kernel_rfl) rfl #[.agg #[.slice b0 aG.length b5,.slice b7 aD.length ay,.slice bV aK.length bR,.int .i64 aN]] rfl ?_;(with_reducible refine(dv.calls k _ _ aG _ _ aD _ _ aK aN false _ ?aI ?aJ ?af ?ak ?bN ?bc A2.out).mono ?_);(case aI=>exact cb dY HB);(case aJ=>exact dj.out);(case af=>exact cb dS HB);(case ak=>exact dt.out);(case bN=>exact cb eQ HB);(case bc=>exact ef.out);rintro e w66 ⟨rfl,hb⟩;refine⟨_,rfl, ?_⟩;replace et:=nb et hb;replace gX:=nb gX hb;replace HB:=Ah (aT (aj HB jX lm) hb);(try clear hb);obtain⟨hcz67_0,hcz67_1,hcz67_2,hcz67_3⟩:=b9 gX;obtain⟨hfz67_0,hfz67_1,hfz67_2,hfz67_3⟩:=bA gX))
  refine bodyPost_ret (iJ rfl _ _ nC 28 #[.slice none 0 0,.slice none 0 0,.slice none 0 0,.int .i64 0] (0,0) _ rfl (by(with_reducible repeat(first|refine aC ?_ _|refine U ?_|refine X ?_ _));refine aU (cs:= #[.slice none 0 0,.slice none 0 0,.slice none 0 0,.int .i64 0]) ?_ 3 _ rfl;(with_reducible repeat(first|refine aC ?_ _|refine U ?_|refine X ?_ _));refine aU (cs:= #[.slice none 0 0,.slice none 0 0,.slice none 0 0,.int .i64 0]) ?_ 2 _ rfl;(with_reducible repeat(first|refine aC ?_ _|refine U ?_|refine X ?_ _));refine aU (cs:= #[.slice none 0 0,.slice none 0 0,.slice none 0 0,.int .i64 0]) ?_ 1 _ rfl;(with_reducible repeat(first|refine aC ?_ _|refine U ?_|refine X ?_ _));refine aU (cs:= #[.slice none 0 0,.slice none 0 0,.slice none 0 0,.int .i64 0]) ?_ 0 _ rfl;(with_reducible repeat(first|refine aC ?_ _|refine U ?_|refine X ?_ _));exact gX.out) aaa rfl (by kernel_rfl)) rfl ?_;exact⟨_,_,_,er,by first|exact Kd.dr _ _ _ _ _|exact Kd.e8 _ _ _ _ _|exact Kd.e9 _ _ _ _ _|exact Kd.e5 _ _ _ _ _|exact Kd.e7 _ _ _ _ _,by first|exact Kd.dr _ _ _ _ _|exact Kd.e8 _ _ _ _ _|exact Kd.e9 _ _ _ _ _|exact Kd.e5 _ _ _ _ _|exact Kd.e7 _ _ _ _ _,by first|exact Kd.dr _ _ _ _ _|exact Kd.e8 _ _ _ _ _|exact Kd.e9 _ _ _ _ _|exact Kd.e5 _ _ _ _ _|exact Kd.e7 _ _ _ _ _,aj HB jX lm⟩
 subst c3;rw[if_pos rfl]at H;replace H:=Hz.mp H;obtain⟨⟨hG,k5,j9,kR⟩,ek,H⟩:=H
 try dsimp only at H
 have A4:=Ah ek;clear ek
 by_cases c5:0≤aN
 rotate_left
 ·
  rw[if_neg c5]at H;exact absurd H (by simp)
 rw[if_pos c5]at H;have iV:=eq_true c5;have a00:decide (0≤aN)=true:=decide_eq_true c5;clear c5
 by_cases c6:aN≤(aK.length:Int)
 rotate_left
 ·
  rw[if_neg c6]at H;exact absurd H (by simp)
 rw[if_pos c6]at H;have iG:=eq_true c6;have rt:decide (aN≤(aK.length:Int))=true:=decide_eq_true c6;clear c6;replace H:=Hz.mp H;obtain⟨tK,nO,H⟩:=H
 try dsimp only at H
 have A7:=Ah nO;clear nO
 by_cases c8:k5.length+tK.length<5864062014805
 rotate_left
 ·
  rw[if_neg c8]at H;exact absurd H (by simp)
 rw[if_pos c8]at H;have HX:=Ah c8;clear c8;obtain⟨lx,GU⟩:∃y_:List (aQ),y_=(k5++tK):=⟨_,rfl⟩
 replace H:((gc.f k hG lx).bind fun Bi=>(if Bi=true then(some (hG,lx,j9,kR,true))else(some (([]:List ByteArray),([]:List (aQ)),([]:List ByteArray),0,false))))=some (r1,r2,r3,r4,r5):=by first|(rw[GU];with_reducible exact H)|(have bB:=(aV _ _).symm.trans H;rw[GU];with_reducible exact bB)|(have bB:=(aV _ _).symm.trans H;with_reducible exact bB)|with_reducible exact H|(rw[GU];exact H)|exact H
 have Ny698:=Ah GU;clear GU;replace H:=Hz.mp H;obtain⟨Bi,m3,H⟩:=H
 try dsimp only at H
 have A9:=Ah m3;clear m3;have H_:=Ah H;clear H
 go_enter Try.func10,Try.ntmps10
 try go_wp2_with (first|((with_reducible refine bC (N:=1) rfl ?_);refine bK 1 28 #[.slice b0 aG.length b5,.slice b7 aD.length ay,.slice bV aK.length bR,.int .i64 aN] ?_;intro Cv hg uP et hb;have GW680:=gw hg (bs HB);have jX:=gw hg (bs HB);replace HB:=Ah (aT (bs HB) hb);clear hb hg)|((with_reducible refine bC (N:=2) rfl ?_);refine bK 2 28 #[.slice none 0 0,.slice none 0 0,.slice none 0 0,.int .i64 0] ?_;intro nC hg lP gX hb;have GW681:=gw hg (aZ HB jX);have lm:=gw hg (aZ HB jX);replace HB:=Ah (aT (aZ HB jX) hb);have Mc:=nn et hg;have Md:=nm et hg;replace et:=nb et hb;clear hb hg;have hnb13:=Mc.out;have hnc13:=Md.out;obtain⟨sM,sN,xH,xI⟩:=b9 et;obtain⟨sO,sP,xJ,xK⟩:=bA et)|((with_reducible refine ar (f:=20) rfl ?_);refine gL (some 6) rfl rfl aa0 (by kernel_rfl) rfl #[.agg #[.slice b0 aG.length b5,.slice b7 aD.length ay,.slice bV aK.length bR,.int .i64 aN]] rfl ?_;(with_reducible refine(dv.calls k _ _ aG _ _ aD _ _ aK aN true _ ?aI ?aJ ?af ?ak ?bN ?bc A2.out).mono ?_);(case aI=>exact cb dY HB);(case aJ=>exact dj.out);(case af=>exact cb dS HB);(case ak=>exact dt.out);(case bN=>exact cb eQ HB);(case bc=>exact ef.out);rintro e jN ⟨rfl,hb⟩;refine⟨_,rfl, ?_⟩;replace et:=nb et hb;replace gX:=nb gX hb;replace HB:=Ah (aT (aj HB jX lm) hb);(try clear hb);obtain⟨vA,vB,Wx,Wy⟩:=b9 et;obtain⟨vC,vD,Wz,X0⟩:=bA et)|((with_reducible refine ar (f:=22) rfl ?_);refine gL (some 10) rfl rfl Try.func22 (by kernel_rfl) rfl #[.agg #[.slice b0 aG.length b5,.slice b7 aD.length ay,.slice bV aK.length bR,.int .i64 aN]] rfl ?_;(with_reducible refine(kw.calls _ _ aG _ _ aD _ _ aK aN hG k5 j9 kR _ ?aI ?aJ ?af ?ak ?bN ?bc A4.out).mono ?_);(case aI=>exact cb dY HB);(case aJ=>exact dj.out);(case af=>exact cb dS HB);(case ak=>exact dt.out);(case bN=>exact cb eQ HB);(case bc=>exact ef.out);rintro e Lm ⟨v684,v687,v690,rfl,ho0,ho1,ho2,hb⟩;refine⟨_,rfl, ?_⟩;have js:=Ah (Kd.b8 ho0 (bF (aj HB jX lm)));have lJ:=Ah (Kd.b8 ho1 (bF (aj HB jX lm)));have lK:=Ah (Kd.b8 ho2 (bF (aj HB jX lm)));replace et:=nb et hb;replace gX:=nb gX hb;replace HB:=Ah (aT (aj HB jX lm) hb);(try clear hb ho0 ho1 ho2))|((with_reducible refine bC (N:=4) rfl ?_);refine bK 4 28 #[.slice none 0 0,.slice none 0 0,.slice none 0 0,.int .i64 0] ?_;intro fK hg jO eu hb;replace js:=nr js hb;replace lJ:=nr lJ hb;replace lK:=nr lK hb;have GW693:=gw hg (aj HB jX lm);have wA:=gw hg (aj HB jX lm);replace HB:=Ah (aT (aj HB jX lm) hb);have EL:=nn et hg;have TF:=nm et hg;replace et:=nb et hb;have EM:=nn gX hg;have TG:=nm gX hg;replace gX:=nb gX hb;clear hb hg;obtain⟨gu,gv,RA⟩:=Kd.ao js.out;subst RA;have YD:=TF.out;have YE:=EL.out;have FT:=TG.out;have FU:=EM.out;obtain⟨kd,ke,mU,mV⟩:=b9 eu;obtain⟨kf,kg,mW,mX⟩:=bA eu;obtain⟨kt,ku,RP⟩:=Kd.ao lJ.out;subst RP;obtain⟨hU,hX,Ro⟩:=Kd.ao lK.out;subst Ro))
 have an:a9 (Kd.R Kd.string 9 ((((jO.setCell ⟨fK,0,none⟩ (.slice gu hG.length gv)).setCell ⟨fK,1,none⟩ (.slice kt k5.length ku)).setCell ⟨fK,2,none⟩ (.slice hU j9.length hX)).setCell ⟨fK,3,none⟩ (.int .i64 kR)) w.heap.size (fun k_=>some k_≠(.slice hU j9.length hX:Value).ownBlock) (.slice gu hG.length gv) hG):=⟨by(with_reducible repeat(first|apply Kd.ah|apply Kd.ai|apply Kd.aY));exact Kd.aH (Kd.I (p:=⟨fK,3,none⟩) (Kd.I (p:=⟨fK,2,none⟩) (Kd.I (p:=⟨fK,1,none⟩) (Kd.I (p:=⟨fK,0,none⟩) (Kd.al js.out eu.out (by decide)) (fun _ hk=>hk.2) (.slice gu hG.length gv)) (fun _ hk=>hk.2) (.slice kt k5.length ku)) (fun _ hk=>hk.2) (.slice hU j9.length hX)) (fun _ hk=>hk.2) (.int .i64 kR)) (fun _ hk=>hk.1)⟩;have am:a9 (Kd.R bL 37 ((((jO.setCell ⟨fK,0,none⟩ (.slice gu hG.length gv)).setCell ⟨fK,1,none⟩ (.slice kt k5.length ku)).setCell ⟨fK,2,none⟩ (.slice hU j9.length hX)).setCell ⟨fK,3,none⟩ (.int .i64 kR)) w.heap.size (fun _=>True) (.slice kt k5.length ku) k5):=⟨by(with_reducible repeat(first|apply Kd.ah|apply Kd.ai|apply Kd.aY));exact Kd.aH (Kd.I (p:=⟨fK,3,none⟩) (Kd.I (p:=⟨fK,2,none⟩) (Kd.I (p:=⟨fK,1,none⟩) (Kd.I (p:=⟨fK,0,none⟩) (Kd.al lJ.out eu.out (by decide)) (fun _ hk=>hk.2) (.slice gu hG.length gv)) (fun _ hk=>hk.2) (.slice kt k5.length ku)) (fun _ hk=>hk.2) (.slice hU j9.length hX)) (fun _ hk=>hk.2) (.int .i64 kR)) (fun _ hk=>trivial)⟩;have aw:a9 (Kd.R Kd.string 9 ((((jO.setCell ⟨fK,0,none⟩ (.slice gu hG.length gv)).setCell ⟨fK,1,none⟩ (.slice kt k5.length ku)).setCell ⟨fK,2,none⟩ (.slice hU j9.length hX)).setCell ⟨fK,3,none⟩ (.int .i64 kR)) w.heap.size (fun k_=>some k_≠(.slice gu hG.length gv:Value).ownBlock) (.slice hU j9.length hX) j9):=⟨by(with_reducible repeat(first|apply Kd.ah|apply Kd.ai|apply Kd.aY));exact Kd.aH (Kd.I (p:=⟨fK,3,none⟩) (Kd.I (p:=⟨fK,2,none⟩) (Kd.I (p:=⟨fK,1,none⟩) (Kd.I (p:=⟨fK,0,none⟩) (Kd.al lK.out eu.out (by decide)) (fun _ hk=>hk.2) (.slice gu hG.length gv)) (fun _ hk=>hk.2) (.slice kt k5.length ku)) (fun _ hk=>hk.2) (.slice hU j9.length hX)) (fun _ hk=>hk.2) (.int .i64 kR)) (fun _ hk=>hk.1)⟩;have bI:a9 (((((jO.setCell ⟨fK,0,none⟩ (.slice gu hG.length gv)).setCell ⟨fK,1,none⟩ (.slice kt k5.length ku)).setCell ⟨fK,2,none⟩ (.slice hU j9.length hX)).setCell ⟨fK,3,none⟩ (.int .i64 kR)).heap[Cv]?=some (.cells #[.slice b0 aG.length b5,.slice b7 aD.length ay,.slice bV aK.length bR,.int .i64 aN] 28 (0,0))):=⟨bf et EL⟩;have bj:a9 (((((jO.setCell ⟨fK,0,none⟩ (.slice gu hG.length gv)).setCell ⟨fK,1,none⟩ (.slice kt k5.length ku)).setCell ⟨fK,2,none⟩ (.slice hU j9.length hX)).setCell ⟨fK,3,none⟩ (.int .i64 kR)).heap[nC]?=some (.cells #[.slice none 0 0,.slice none 0 0,.slice none 0 0,.int .i64 0] 28 (0,0))):=⟨bf gX EM⟩;have bv:a9 (((((jO.setCell ⟨fK,0,none⟩ (.slice gu hG.length gv)).setCell ⟨fK,1,none⟩ (.slice kt k5.length ku)).setCell ⟨fK,2,none⟩ (.slice hU j9.length hX)).setCell ⟨fK,3,none⟩ (.int .i64 kR)).heap[fK]?=some (.cells #[.slice gu hG.length gv,.slice kt k5.length ku,.slice hU j9.length hX,.int .i64 kR] 28 (0,0))):=⟨by(with_reducible repeat(first|refine aC ?_ _|refine U ?_|refine X ?_ _));refine aU (cs:= #[.slice gu hG.length gv,.slice kt k5.length ku,.slice hU j9.length hX,.int .i64 0]) ?_ 3 _ rfl;(with_reducible repeat(first|refine aC ?_ _|refine U ?_|refine X ?_ _));refine aU (cs:= #[.slice gu hG.length gv,.slice kt k5.length ku,.slice none 0 0,.int .i64 0]) ?_ 2 _ rfl;(with_reducible repeat(first|refine aC ?_ _|refine U ?_|refine X ?_ _));refine aU (cs:= #[.slice gu hG.length gv,.slice none 0 0,.slice none 0 0,.int .i64 0]) ?_ 1 _ rfl;(with_reducible repeat(first|refine aC ?_ _|refine U ?_|refine X ?_ _));refine aU (cs:= #[.slice none 0 0,.slice none 0 0,.slice none 0 0,.int .i64 0]) ?_ 0 _ rfl;(with_reducible repeat(first|refine aC ?_ _|refine U ?_|refine X ?_ _));exact eu.out⟩;have cR:a9 (Below w.heap.size w ((((jO.setCell ⟨fK,0,none⟩ (.slice gu hG.length gv)).setCell ⟨fK,1,none⟩ (.slice kt k5.length ku)).setCell ⟨fK,2,none⟩ (.slice hU j9.length hX)).setCell ⟨fK,3,none⟩ (.int .i64 kR))):=⟨br HB jX lm wA⟩;(try clear js);(try clear lJ);(try clear lK);(try clear et);(try clear gX);(try clear eu);(try clear HB)
 generalize ((((jO.setCell ⟨fK,0,none⟩ (.slice gu hG.length gv)).setCell ⟨fK,1,none⟩ (.slice kt k5.length ku)).setCell ⟨fK,2,none⟩ (.slice hU j9.length hX)).setCell ⟨fK,3,none⟩ (.int .i64 kR))=Bs at an am aw bI bj bv cR⊢
 have js:=an;have lJ:=am;have lK:=aw;have et:=bI;have gX:=bj;have eu:=bv;have HB:=cR;clear an am aw bI bj bv cR;have an:=Ah (Kd.aY js.out);have am:=Ah (Kd.aY lJ.out);have aw:=Ah (Kd.aY lK.out);have bI:=Ah (U et.out);have bj:=Ah (U gX.out);have bv:=Ah (U eu.out);have cR:=Ah (jg HB.out);clear js lJ lK et gX eu HB;have js:=an;have lJ:=am;have lK:=aw;have et:=bI;have gX:=bj;have eu:=bv;have HB:=cR;clear an am aw bI bj bv cR;obtain⟨i027,Zc,_,Zd,_⟩:=info_parts mB;obtain⟨hcut27,a1q,a1r⟩:=yY (P:=tP) Value.string (⟨#[]⟩:ByteArray) 23 9 .i64 aas Zc Zd bV bR aK aN (od) (od) ef.out;have Ze:=Ah (Kd.uU (h1:=fun _=>rfl) (a1q _ (Kd.sH eQ.out)));have HC694:=Ah a1r;clear a1q a1r Zc Zd;refine la (n:=13) (S:=fun w'=>w'.cell? ⟨fK,0,none⟩=some (.slice gu hG.length gv)∧w'.cell? ⟨fK,1,none⟩=some (.slice kt k5.length ku)∧w'.cell? ⟨fK,2,none⟩=some (.slice hU j9.length hX)∧w'.cell? ⟨fK,3,none⟩=some (.int .i64 kR)∧w'.cell? ⟨Cv,0,none⟩=some (.slice b0 aG.length b5)∧w'.cell? ⟨Cv,1,none⟩=some (.slice b7 aD.length ay)∧w'.cell? ⟨Cv,2,none⟩=some (.slice bV aK.length bR)∧w'.cell? ⟨Cv,3,none⟩=some (.int .i64 aN)) (ds:=[12]) #[false,false,false,false,false,false,false,false,false,false,false,false,false] (by kernel_rfl) rfl rfl ⟨(ab eu.out 0).trans rfl,(ab eu.out 1).trans rfl,(ab eu.out 2).trans rfl,(ab eu.out 3).trans rfl,(ab et.out 0).trans rfl,(ab et.out 1).trans rfl,(ab et.out 2).trans rfl,(ab et.out 3).trans rfl⟩ (fun hHeld=> ?_);refine m4 kF.Gk kF.FS (fun ac eh=> ?_)
 generalize Bs.drew=rA at js lJ lK et gX eu HB Ze hHeld⊢
 refine bZ 0 11 ac.out ?_;refine bZ 1 12 ac.out ?_;refine bZ 3 14 ac.out ?_;refine bZ 5 16 ac.out ?_;refine gy 2 13 ac.out eh.out hHeld (hr:=by rintro w' ⟨s0,s1,s2,s3,s4,s5,s6,s7⟩;go_simp;with_reducible rfl) (h:= ?_);refine gy 4 15 ac.out eh.out hHeld (hr:=by rintro w' ⟨s0,s1,s2,s3,s4,s5,s6,s7⟩;go_simp;with_reducible rfl) (h:= ?_);refine gy 6 17 ac.out eh.out hHeld (hr:=by rintro w' ⟨s0,s1,s2,s3,s4,s5,s6,s7⟩;go_simp;with_reducible rfl) (h:= ?_);refine bZ 7 18 ac.out ?_;refine fw (i:=8) (N:=some 19) #[true,true,true,true,true,true,true,true,true,false,false,false,false] rfl rfl (ff ac.out (by kernel_rfl)) (by decide) (fun K hK=> ?_);refine kI Try.func31 (by kernel_rfl) rfl #[.slice bV (aK.take (aN:Int).toNat).length bR] (by rfl) rfl rfl (by(try simp only[List.map_toArray,List.map_cons,List.map_nil]);first|done|(rw[show(aK.take (aN:Int).toNat).length=aN.toNat from(by rw[List.length_take];have h_:(aN:Int)≤(aK.length:Int):=od;omega)]<;>rfl)|rfl|(simp only[List.length_drop,List.length_take];rfl)) ?_
 with_reducible refine(fy.calls k _ _ (aK.take (aN:Int).toNat) tK _ ?aI ?aJ A7.out).mono ?_
 (case aI=>exact cb Ze HB);(case aJ=>exact HC694.out);rintro e I4 ⟨v696,rfl,ho0,hb⟩;refine⟨_,rfl, ?_⟩;have an:=Ah (Kd.fT (rr js.out) hb);have am:=Ah (Kd.aX (rr lJ.out) (Kd.a8 ho0) hb);have aw:=Ah (Kd.fT (rr lK.out) hb);have bI:=Ah (Kd.b8 (Kd.aA ho0 (Kd.Z (rr lJ.out))) (bF (br HB jX lm wA)));have bj:=Ah (bb et hb);have bv:=Ah (bb gX hb);have cR:=Ah (bb eu hb);have en:=Ah (aT (br HB jX lm wA) hb);clear js lJ lK et gX eu HB;have js:=an;have lJ:=am;have lK:=aw;have tn:=bI;have et:=bj;have gX:=bv;have eu:=cR;have HB:=en;clear an am aw bI bj bv cR en;(try clear hb);(try clear hb2);(try clear hk);(try clear hi);(try clear ho0);obtain⟨d8,d9,Cz⟩:=Kd.ao tn.out;(first|subst Cz|(injection Cz with dy gA dz;have gB:=dy.symm;have gC:=dz.symm;clear dy gA dz;subst gB;subst gC));refine hK.out _ _ ⟨(ab eu.out 0).trans rfl,(ab eu.out 1).trans rfl,(ab eu.out 2).trans rfl,(ab eu.out 3).trans rfl,(ab et.out 0).trans rfl,(ab et.out 1).trans rfl,(ab et.out 2).trans rfl,(ab et.out 3).trans rfl⟩ (fun hHeld=> ?_);clear hK K;refine gN (a':= ?_) ?_ ?_;rotate_left
 ·
  show aab _ (some 19) _=_
  simp only[aab,Ok,mr,mQ,eK,eT]
  rfl
 refine fw (i:=9) (N:=some 20) #[true,true,true,true,true,true,true,true,true,true,false,false,false] rfl rfl (ff ac.out (by kernel_rfl)) (by decide) (fun K hK=> ?_);refine Kd.SM bL (w0:=w) w.heap.size (by rfl) (.tmp 13) (.tmp 19) 24 37 (.agg #[(.int .i64 0),(.string ⟨#[]⟩)]) 24 rfl Try.underlying24 pb rfl (by decide) (by omega) (.slice kt k5.length ku) k5 tK _ _ _ (fun k_=>some k_≠(.slice d8 tK.length d9:Value).ownBlock) (fun _=>False) rfl rfl ?aO ?aR (fun _ _ h=>h) (fun _ h=>h.elim) ?aF ?aB ?aS ?aL ?_;(case aR=>exact bd tn);(case aB=>exact(br HB jX lm wA));(case aF=>exact(fun k_ hk=>Kd.fresh' (Kd.Z (rr tn.out)) k_ hk));(case aO=>exact(by(with_reducible repeat(first|apply Kd.ah|apply Kd.ai|apply Kd.aY));exact Kd.aH lJ.out (fun _ hk=>hk.2)));(case aS=>exact(bF (br HB jX lm wA)));(case aL=>have:=HX.out;omega);intro v699 I6 ho hb hg hat;rw[←Ny698.out]at ho;have an:=Ah (hH (bk et) hg (Kd.gY lJ.out et.out (by decide)));have am:=Ah (hH (bk gX) hg (Kd.gY lJ.out gX.out (by decide)));have aw:=Ah (Kd.nT (rr js.out) (Kd.nS (rr lJ.out)) (by decide) hg);have bI:=Ah (Kd.nT (rr lK.out) (Kd.nS (rr lJ.out)) (by decide) hg);have bj:=Ah (hH (bk eu) hg (Kd.gY lJ.out eu.out (by decide)));have bv:=Ah (Kd.uj (ok:=(fun _=>True)) (rr tn.out) hg hat);have cR:=Ah (hb);have en:=Ah (ho);clear et gX js lK eu tn HB lJ;have et:=an;have gX:=am;have js:=aw;have lK:=bI;have eu:=bj;have tn:=bv;have HB:=cR;have tp:=en;clear an am aw bI bj bv cR en ho hb hg hat;obtain⟨ja,jb,u1⟩:=Kd.ao tp.out;(first|subst u1|(injection u1 with dy gA dz;have gB:=dy.symm;have gC:=dz.symm;clear dy gA dz;subst gB;subst gC));refine hK.out _ _ ⟨(ab eu.out 0).trans rfl,(ab eu.out 1).trans rfl,(ab eu.out 2).trans rfl,(ab eu.out 3).trans rfl,(ab et.out 0).trans rfl,(ab et.out 1).trans rfl,(ab et.out 2).trans rfl,(ab et.out 3).trans rfl⟩ (fun hHeld=> ?_);clear hK K;refine gN (a':= ?_) ?_ ?_;rotate_left
 ·
  show aab _ (some 20) _=_
  simp only[aab,Ok,mr,mQ,eK,eT]
  rfl
 refine bZ 10 21 ac.out ?_;refine bZ 11 22 ac.out ?_;refine CQ (i:=12) (N:=none) #[true,true,true,true,true,true,true,true,true,true,true,true,true] rfl rfl (ff ac.out (by kernel_rfl)) (by decide) (fun K hK=> ?_);have hs32:I6.cell? ⟨fK,1,none⟩=some (.slice kt k5.length ku):=(ab eu.out 1).trans rfl;have hfs32:=ee eu.out 1;have hns32_0:=EL.out;have hns32_1:=EM.out;have hms32_0:=TF.out;have hms32_1:=TG.out;have H:=H_.out;clear H_
 by_cases c10:Bi=true
 rotate_left
 ·
  replace c10:=i1.mpr c10;subst c10;rw[if_neg dO]at H;simp only[kD,o7]at H;obtain⟨rfl,rfl,rfl,rfl,rfl⟩:=H;refine ra (w1:= ?_) (by rfl) rfl ?_ ?_;rotate_left
  ·
   go_simp
   rfl
  refine hK.out _ _ ?_;clear hK K;refine kj (l3 ac.out (by kernel_rfl)) ?_;obtain⟨hcz59_0,hcz59_1,hcz59_2,hcz59_3⟩:=b9 eu;obtain⟨hfz59_0,hfz59_1,hfz59_2,hfz59_3⟩:=bA eu
  try go_wp2_with (first|((with_reducible refine ar (f:=32) rfl ?_);refine gL (some 25) rfl rfl Try.func32 (by kernel_rfl) rfl #[.agg #[.slice gu hG.length gv,.slice ja lx.length jb]] rfl ?_;(with_reducible refine(gc.calls k _ _ hG _ _ lx false _ ?aI ?aJ ?af ?ak A9.out).mono ?_);(case aI=>exact rc js eu);(case aJ=>exact(Kd.aq js.out).2.1);(case af=>exact rc tp eu);(case ak=>exact(Kd.aq tp.out).2.1);rintro e w60 ⟨rfl,hb⟩;refine⟨_,rfl, ?_⟩;replace js:=nf js eu hb;replace lK:=nf lK eu hb;replace tn:=nf tn eu hb;replace tp:=nf tp eu hb;replace et:=Ah (cS (bf et EL) hb);replace gX:=Ah (cS (bf gX EM) hb);replace eu:=Ah (cS (g:=fK) (o:= .cells #[.slice gu hG.length gv,.slice ja lx.length jb,.slice hU j9.length hX,.int .i64 kR] 28 (0,0)) (by(with_reducible repeat(first|refine aC ?_ _|refine U ?_|refine X ?_ _));refine aU (cs:= #[.slice gu hG.length gv,.slice kt k5.length ku,.slice hU j9.length hX,.int .i64 kR]) ?_ 1 _ rfl;(with_reducible repeat(first|refine aC ?_ _|refine U ?_|refine X ?_ _));exact eu.out) hb);replace HB:=Ah (aT (br HB jX lm wA) hb);(try clear hb);obtain⟨hcz61_0,hcz61_1,hcz61_2,hcz61_3⟩:=b9 gX;obtain⟨hfz61_0,hfz61_1,hfz61_2,hfz61_3⟩:=bA gX))
  refine bodyPost_ret (iJ rfl _ _ nC 28 #[.slice none 0 0,.slice none 0 0,.slice none 0 0,.int .i64 0] (0,0) _ rfl (by(with_reducible repeat(first|refine aC ?_ _|refine U ?_|refine X ?_ _));refine aU (cs:= #[.slice none 0 0,.slice none 0 0,.slice none 0 0,.int .i64 0]) ?_ 3 _ rfl;(with_reducible repeat(first|refine aC ?_ _|refine U ?_|refine X ?_ _));refine aU (cs:= #[.slice none 0 0,.slice none 0 0,.slice none 0 0,.int .i64 0]) ?_ 2 _ rfl;(with_reducible repeat(first|refine aC ?_ _|refine U ?_|refine X ?_ _));refine aU (cs:= #[.slice none 0 0,.slice none 0 0,.slice none 0 0,.int .i64 0]) ?_ 1 _ rfl;(with_reducible repeat(first|refine aC ?_ _|refine U ?_|refine X ?_ _));refine aU (cs:= #[.slice none 0 0,.slice none 0 0,.slice none 0 0,.int .i64 0]) ?_ 0 _ rfl;(with_reducible repeat(first|refine aC ?_ _|refine U ?_|refine X ?_ _));exact gX.out) aaa rfl (by kernel_rfl)) rfl ?_;exact⟨_,_,_,er,by first|exact Kd.dr _ _ _ _ _|exact Kd.e8 _ _ _ _ _|exact Kd.e9 _ _ _ _ _|exact Kd.e5 _ _ _ _ _|exact Kd.e7 _ _ _ _ _,by first|exact Kd.dr _ _ _ _ _|exact Kd.e8 _ _ _ _ _|exact Kd.e9 _ _ _ _ _|exact Kd.e5 _ _ _ _ _|exact Kd.e7 _ _ _ _ _,by first|exact Kd.dr _ _ _ _ _|exact Kd.e8 _ _ _ _ _|exact Kd.e9 _ _ _ _ _|exact Kd.e5 _ _ _ _ _|exact Kd.e7 _ _ _ _ _,br HB jX lm wA⟩
 subst c10;rw[if_pos rfl]at H;simp only[kD,o7]at H;obtain⟨rfl,rfl,rfl,rfl,rfl⟩:=H;refine ra (w1:= ?_) (by rfl) rfl ?_ ?_;rotate_left
 ·
  go_simp
  rfl
 refine hK.out _ _ ?_;clear hK K;refine kj (l3 ac.out (by kernel_rfl)) ?_;obtain⟨EY,EZ,hcz33_2,hcz33_3⟩:=b9 eu;obtain⟨Ea,Eb,hfz33_2,hfz33_3⟩:=bA eu
 try go_wp2_with (first|((with_reducible refine ar (f:=32) rfl ?_);refine gL (some 25) rfl rfl Try.func32 (by kernel_rfl) rfl #[.agg #[.slice gu hG.length gv,.slice ja lx.length jb]] rfl ?_;(with_reducible refine(gc.calls k _ _ hG _ _ lx true _ ?aI ?aJ ?af ?ak A9.out).mono ?_);(case aI=>exact rc js eu);(case aJ=>exact(Kd.aq js.out).2.1);(case af=>exact rc tp eu);(case ak=>exact(Kd.aq tp.out).2.1);rintro e S7 ⟨rfl,hb⟩;refine⟨_,rfl, ?_⟩;replace js:=nf js eu hb;replace lK:=nf lK eu hb;replace tn:=nf tn eu hb;replace tp:=nf tp eu hb;replace et:=Ah (cS (bf et EL) hb);replace gX:=Ah (cS (bf gX EM) hb);replace eu:=Ah (cS (g:=fK) (o:= .cells #[.slice gu hG.length gv,.slice ja lx.length jb,.slice hU j9.length hX,.int .i64 kR] 28 (0,0)) (by(with_reducible repeat(first|refine aC ?_ _|refine U ?_|refine X ?_ _));refine aU (cs:= #[.slice gu hG.length gv,.slice kt k5.length ku,.slice hU j9.length hX,.int .i64 kR]) ?_ 1 _ rfl;(with_reducible repeat(first|refine aC ?_ _|refine U ?_|refine X ?_ _));exact eu.out) hb);replace HB:=Ah (aT (br HB jX lm wA) hb);(try clear hb);obtain⟨ur,ut,uu,uv⟩:=b9 eu;obtain⟨uw,ux,uy,uz⟩:=bA eu;obtain⟨Wj,Wk,Wl,Wm⟩:=b9 gX;obtain⟨Wn,Wo,Wp,Wq⟩:=bA gX))
 refine bodyPost_ret (iJ rfl _ _ nC 28 #[.slice gu hG.length gv,.slice ja lx.length jb,.slice hU j9.length hX,.int .i64 kR] (0,0) _ rfl (by(with_reducible repeat(first|refine aC ?_ _|refine U ?_|refine X ?_ _));refine aU (cs:= #[.slice gu hG.length gv,.slice ja lx.length jb,.slice hU j9.length hX,.int .i64 0]) ?_ 3 _ rfl;(with_reducible repeat(first|refine aC ?_ _|refine U ?_|refine X ?_ _));refine aU (cs:= #[.slice gu hG.length gv,.slice ja lx.length jb,.slice none 0 0,.int .i64 0]) ?_ 2 _ rfl;(with_reducible repeat(first|refine aC ?_ _|refine U ?_|refine X ?_ _));refine aU (cs:= #[.slice gu hG.length gv,.slice none 0 0,.slice none 0 0,.int .i64 0]) ?_ 1 _ rfl;(with_reducible repeat(first|refine aC ?_ _|refine U ?_|refine X ?_ _));refine aU (cs:= #[.slice none 0 0,.slice none 0 0,.slice none 0 0,.int .i64 0]) ?_ 0 _ rfl;(with_reducible repeat(first|refine aC ?_ _|refine U ?_|refine X ?_ _));exact gX.out) aaa rfl (by kernel_rfl)) rfl ?_;exact⟨_,_,_,er,by(with_reducible repeat(first|apply Kd.ah|apply Kd.ai|apply Kd.aY));exact Kd.aH (Kd.I (p:=⟨nC,3,none⟩) (Kd.I (p:=⟨nC,2,none⟩) (Kd.I (p:=⟨nC,1,none⟩) (Kd.I (p:=⟨nC,0,none⟩) (Kd.al js.out gX.out (by decide)) (fun _ hk=>hk.2) (.slice gu hG.length gv)) (fun _ hk=>hk.2) (.slice ja lx.length jb)) (fun _ hk=>hk.2) (.slice hU j9.length hX)) (fun _ hk=>hk.2) (.int .i64 kR)) (fun _ hk=>hk.1),by(with_reducible repeat(first|apply Kd.ah|apply Kd.ai|apply Kd.aY));exact Kd.aH (Kd.I (p:=⟨nC,3,none⟩) (Kd.I (p:=⟨nC,2,none⟩) (Kd.I (p:=⟨nC,1,none⟩) (Kd.I (p:=⟨nC,0,none⟩) (Kd.al tp.out gX.out (by decide)) (fun _ hk=>hk.2) (.slice gu hG.length gv)) (fun _ hk=>hk.2) (.slice ja lx.length jb)) (fun _ hk=>hk.2) (.slice hU j9.length hX)) (fun _ hk=>hk.2) (.int .i64 kR)) (fun _ hk=>trivial),by(with_reducible repeat(first|apply Kd.ah|apply Kd.ai|apply Kd.aY));exact Kd.aH (Kd.I (p:=⟨nC,3,none⟩) (Kd.I (p:=⟨nC,2,none⟩) (Kd.I (p:=⟨nC,1,none⟩) (Kd.I (p:=⟨nC,0,none⟩) (Kd.al lK.out gX.out (by decide)) (fun _ hk=>hk.2) (.slice gu hG.length gv)) (fun _ hk=>hk.2) (.slice ja lx.length jb)) (fun _ hk=>hk.2) (.slice hU j9.length hX)) (fun _ hk=>hk.2) (.int .i64 kR)) (fun _ hk=>hk.1),br HB jX lm wA⟩
def iO.l0:Nat→List ByteArray→List ByteArray→Int→Int→Option (Bool)
 |0,_,_,_,_=>none
 |k+1,x0,x1,kv,de=>if de<kv then(if 0≤de then(if de<(x0.length:Int)then(if de<(x1.length:Int)then(if(dN JZ x0 de).toList=(dN JZ x1 de).toList then(iO.l0 k x0 x1 kv (IH (de+1)))else(some false))else(none))else(none))else(none))else(some true)
def iO.f(k:Nat)(l0:List ByteArray)(l1:List ByteArray):Option (Bool):=if(l0.length:Int)=(l1.length:Int)then(iO.l0 k l0 l1 (l0.length:Int) 0)else(some false)
theorem iO.cW:∀k,(∀y0 y1 y2 y3,aE (iO.l0 k y0 y1 y2 y3) (iO.l0 (k+1) y0 y1 y2 y3))
 |0=>fun _ _ _ _ r h=>by simp[iO.l0]at h
 |k+1=>by
  have be:=iO.cW k
  ·
   intro y0 y1 y2 y3;unfold iO.l0
   repeat' with_reducible first|exact be _ _ _ _|exact aE.refl _|exact aE.none _|refine aE.ite ?_ ?_|refine aE.bind ?_ (fun _=> ?_)
theorem iO.mono:∀a0 a1 k,aE (iO.f k a0 a1) (iO.f (k+1) a0 a1):=by
 intro a0 a1 k;have be:=iO.cW k;unfold iO.f
 repeat' with_reducible first|exact be _ _ _ _|exact aE.refl _|exact aE.none _|refine aE.ite ?_ ?_|refine aE.bind ?_ (fun _=> ?_)
set_option maxHeartbeats 8000000 in
set_option maxRecDepth 100000 in
theorem iO.calls(k:Nat)(A0:Option Addr)(c0:Nat)(l0:List ByteArray)(A1:Option Addr)(c1:Nat)(l1:List ByteArray)(r:Bool)(w:World)(hr0:Kd.C Kd.string w A0 l0.length l0)(hc0:l0.length≤c0)(hr1:Kd.C Kd.string w A1 l1.length l1)(hc1:l1.length≤c1)(h:iO.f k l0 l1=some r):
 Calls tP 33 #[.slice A0 l0.length c0,.slice A1 l1.length c1] w fun e w'=>e= .returned (.bool r)∧dE w w':=by
 have dU:=Ah hr0;have gK:=Ah hc0;clear hr0 hc0;have HR1:=Ah hr1;have nK:=Ah hc1;clear hr1 hc1;have H:(if(l0.length:Int)=(l1.length:Int)then(iO.l0 k l0 l1 (l0.length:Int) 0)else(some false))=some r:=h;clear h
 by_cases c3:(l0.length:Int)=(l1.length:Int)
 rotate_left
 ·
  rw[if_neg c3]at H;have f9:((l0.length:Int)==(l1.length:Int))=false:=beq_eq_false_iff_ne.mpr c3;have mJ:((l0.length:Int) !=(l1.length:Int))=true:=bne_iff_ne.mpr c3
  have u0:(l0.length==l1.length)=false:=by first|simpa using c3|(simp at c3⊢;omega)
  obtain rfl:=ec H
  go_enter Try.func33,Try.ntmps33
  go_wp2
  repeat(go_quiet (fail);try go_wp2)
  go_ret
  exact⟨e3,by repeat(first|exact dE.refl _|apply dE.step)⟩
 rw[if_pos c3]at H;have f9:((l0.length:Int)==(l1.length:Int))=true:=beq_iff_eq.mpr c3;have mJ:((l0.length:Int) !=(l1.length:Int))=false:=bne_eq_false_iff_eq.mpr c3
 have u0:(l0.length==l1.length)=true:=by first|simpa using c3|(simp at c3⊢;omega)
 clear c3;have H':=Ah H;clear H
 go_enter Try.func33,Try.ntmps33
 go_wp2
 repeat(go_quiet (fail);try go_wp2)
 go_loopg [13] k (fun kq v13 w'=>∃ (az:Int),v13= .int .i64 az∧a9 (iO.l0 kq l0 l1 (l0.length:Int) az=some r)∧a9 (kq≤k)∧dE w w')
 case atStart=>exact⟨(0),e3,H',⟨lQ _⟩,by repeat(first|exact dE.refl _|apply dE.step)⟩
 case round=>
  clear H'
  try clear c1
  try clear p2
  try clear c3
  try clear f9
  try clear mJ
  try clear u0
  obtain⟨az,rfl,HA,cN,⟨m1,rfl⟩⟩:=hrel
  cases gk with
  |zero=>exact absurd HA.out (by simp[iO.l0])
  |succ k1=>
   have H:=HA.out;clear HA;simp only[iO.l0]at H
   by_cases c4:az<(l0.length:Int)
   rotate_left
   ·
    rw[if_neg c4]at H;have gt:decide (az<(l0.length:Int))=false:=decide_eq_false c4;clear c4;obtain rfl:=ec H
    go_wp2
    repeat(go_quiet (fail);try go_wp2)
    go_ret
    exact⟨e3,by repeat(first|exact dE.refl _|apply dE.step)⟩
   rw[if_pos c4]at H;have gt:decide (az<(l0.length:Int))=true:=decide_eq_true c4;clear c4
   by_cases c5:0≤az
   rotate_left
   ·
    rw[if_neg c5]at H;exact absurd H (by simp)
   rw[if_pos c5]at H;have iV:decide (0≤az)=true:=decide_eq_true c5;clear c5
   by_cases c6:az<(l0.length:Int)
   rotate_left
   ·
    rw[if_neg c6]at H;exact absurd H (by simp)
   rw[if_pos c6]at H;have iG:decide (az<(l0.length:Int))=true:=decide_eq_true c6;clear c6
   by_cases c7:az<(l1.length:Int)
   rotate_left
   ·
    rw[if_neg c7]at H;exact absurd H (by simp)
   rw[if_pos c7]at H;have lu:decide (az<(l1.length:Int))=true:=decide_eq_true c7;clear c7
   by_cases c8:(dN JZ l0 az).toList=(dN JZ l1 az).toList
   rotate_left
   ·
    rw[if_neg c8]at H;have ls:((dN JZ l0 az).toList==(dN JZ l1 az).toList)=false:=beq_eq_false_iff_ne.mpr c8;have Ad:((dN JZ l0 az).toList !=(dN JZ l1 az).toList)=true:=bne_iff_ne.mpr c8;obtain rfl:=ec H;have Bj:0≤(az:Int):=od;have Bk:az<(l0.length:Int):=od;obtain⟨ad702,Rp,hx702_0⟩:=Kd.jR dU.out az Bj Bk
    cases Rp
    replace Bj:=eq_true Bj;replace Bk:=eq_true Bk;have Bl:0≤(az:Int):=od;have Bm:az<(l1.length:Int):=od;obtain⟨ad703,Rq,hx703_0⟩:=Kd.jR HR1.out az Bl Bm
    cases Rq
    replace Bl:=eq_true Bl;replace Bm:=eq_true Bm
    go_wp2
    repeat(go_quiet (fail);try go_wp2)
    go_ret
    exact⟨e3,by repeat(first|exact dE.refl _|apply dE.step)⟩
   rw[if_pos c8]at H;have ls:((dN JZ l0 az).toList==(dN JZ l1 az).toList)=true:=beq_iff_eq.mpr c8;have Ad:((dN JZ l0 az).toList !=(dN JZ l1 az).toList)=false:=bne_eq_false_iff_eq.mpr c8;clear c8;have H':=Ah H;clear H;have Bj:0≤(az:Int):=od;have Bk:az<(l0.length:Int):=od;obtain⟨ad702,Rp,hx702_0⟩:=Kd.jR dU.out az Bj Bk
   cases Rp
   replace Bj:=eq_true Bj;replace Bk:=eq_true Bk;have Bl:0≤(az:Int):=od;have Bm:az<(l1.length:Int):=od;obtain⟨ad703,Rq,hx703_0⟩:=Kd.jR HR1.out az Bl Bm
   cases Rq
   replace Bl:=eq_true Bl;replace Bm:=eq_true Bm
   go_wp2
   repeat(go_quiet (fail);try go_wp2)
   go_roundg k1
   case measure=>have:=cN.out;omega
   case rel=>exact⟨(IH (az+1)),e3,H',⟨by have:=cN.out;omega⟩,by repeat(first|exact dE.refl _|apply dE.step)⟩
def lR.f(k:Nat)(aG:List ByteArray)(aD:List (aQ))(aK:List ByteArray)(aN:Int):Option (List ByteArray×(List (aQ))×List ByteArray×Int×Bool):=(dv.f k aG aD aK aN).bind fun Ht=>(if Ht=true then((gb.f k aG aD).bind fun im=>(if 0≤aN then(if aN≤(aK.length:Int)then((fy.f k (aK.take (aN:Int).toNat)).bind fun pw=>((ms.f k im pw).bind fun nz=>((iO.f k nz im).bind fun Hu=>(if Hu=true then((mR.f (aK.drop (aN:Int).toNat)).bind fun wV=>(some (im,([]:List (aQ)),wV,0,true)))else(some (([]:List ByteArray),([]:List (aQ)),([]:List ByteArray),0,false))))))else(none))else(none)))else(some (([]:List ByteArray),([]:List (aQ)),([]:List ByteArray),0,false)))
theorem lR.mono:∀a0 a1 a2 a3 k,aE (lR.f k a0 a1 a2 a3) (lR.f (k+1) a0 a1 a2 a3):=by
 intro a0 a1 a2 a3 k;unfold lR.f
 repeat' with_reducible first|exact dv.mono _ _ _ _ _|exact ms.mono _ _ _|exact gb.mono _ _ _|exact fy.mono _ _|exact iO.mono _ _ _|exact aE.refl _|exact aE.none _|refine aE.ite ?_ ?_|refine aE.bind ?_ (fun _=> ?_)
set_option maxHeartbeats 8000000 in
set_option maxRecDepth 100000 in
theorem lR.calls(k:Nat)(b0:Option Addr)(b5:Nat)(aG:List ByteArray)(b7:Option Addr)(ay:Nat)(aD:List (aQ))(bV:Option Addr)(bR:Nat)(aK:List ByteArray)(aN:Int)(r1:List ByteArray)(r2:List (aQ))(r3:List ByteArray)(r4:Int)(r5:Bool)(w:World)(eV:Kd.C Kd.string w b0 aG.length aG)(eW:aG.length≤b5)(eX:Kd.C bL w b7 aD.length aD)(eY:aD.length≤ay)(gS:Kd.C Kd.string w bV aK.length aK)(gT:aK.length≤bR)(h:lR.f k aG aD aK aN=some (r1,r2,r3,r4,r5)):
 Calls Try.prog 12 #[.agg #[.slice b0 aG.length b5,.slice b7 aD.length ay,.slice bV aK.length bR,.int .i64 aN]] w fun e w'=>∃cM fD ew:Value,e= .returned (.tuple #[.agg #[cM,fD,ew,.int .i64 r4],.bool r5])∧Kd.R Kd.string 9 w' w.heap.size (fun k_=>some k_≠(ew:Value).ownBlock) cM r1∧Kd.R bL 37 w' w.heap.size (fun _=>True) fD r2∧Kd.R Kd.string 9 w' w.heap.size (fun k_=>some k_≠(cM:Value).ownBlock) ew r3∧Below w.heap.size w w':=by
 have me:=aaa;have nG:=aam;have dY:=Ah eV;have dj:=Ah eW;clear eV eW;have dS:=Ah eX;have dt:=Ah eY;clear eX eY;have eQ:=Ah gS;have ef:=Ah gT;clear gS gT;have HB:=Ah (qB w.heap.size w);have H:((dv.f k aG aD aK aN).bind fun Ht=>(if Ht=true then((gb.f k aG aD).bind fun im=>(if 0≤aN then(if aN≤(aK.length:Int)then((fy.f k (aK.take (aN:Int).toNat)).bind fun pw=>((ms.f k im pw).bind fun nz=>((iO.f k nz im).bind fun Hu=>(if Hu=true then((mR.f (aK.drop (aN:Int).toNat)).bind fun wV=>(some (im,([]:List (aQ)),wV,0,true)))else(some (([]:List ByteArray),([]:List (aQ)),([]:List ByteArray),0,false))))))else(none))else(none)))else(some (([]:List ByteArray),([]:List (aQ)),([]:List ByteArray),0,false))))=some (r1,r2,r3,r4,r5):=h;clear h;replace H:=Hz.mp H;obtain⟨Ht,fX,H⟩:=H
 try dsimp only at H
 have A2:=Ah fX;clear fX
 by_cases c3:Ht=true
 rotate_left
 ·
  replace c3:=i1.mpr c3;subst c3;rw[if_neg dO]at H;simp only[kD,o7]at H;obtain⟨rfl,rfl,rfl,rfl,rfl⟩:=H
  go_enter abe,Try.ntmps12
  go_wp2_with (first|((with_reducible refine bC (N:=1) rfl ?_);refine bK 1 28 #[.slice b0 aG.length b5,.slice b7 aD.length ay,.slice bV aK.length bR,.int .i64 aN] ?_;intro L6 hg w48 ei hb;have Zf:=gw hg (bs HB);have iF:=gw hg (bs HB);replace HB:=Ah (aT (bs HB) hb);clear hb hg)|((with_reducible refine bC (N:=2) rfl ?_);refine bK 2 28 #[.slice none 0 0,.slice none 0 0,.slice none 0 0,.int .i64 0] ?_;intro ox hg SC gm hb;have Zg:=gw hg (aZ HB iF);have k9:=gw hg (aZ HB iF);replace HB:=Ah (aT (aZ HB iF) hb);have EN:=nn ei hg;have EO:=nm ei hg;replace ei:=nb ei hb;clear hb hg;have hnb50:=EN.out;have hnc50:=EO.out;obtain⟨hcz51_0,hcz51_1,hcz51_2,hcz51_3⟩:=b9 ei;obtain⟨hfz51_0,hfz51_1,hfz51_2,hfz51_3⟩:=bA ei)|((with_reducible refine ar (f:=20) rfl ?_);refine gL (some 6) rfl rfl aa0 (by kernel_rfl) rfl #[.agg #[.slice b0 aG.length b5,.slice b7 aD.length ay,.slice bV aK.length bR,.int .i64 aN]] rfl ?_;(with_reducible refine(dv.calls k _ _ aG _ _ aD _ _ aK aN false _ ?aI ?aJ ?af ?ak ?bN ?bc A2.out).mono ?_);(case aI=>exact cb dY HB);(case aJ=>exact dj.out);(case af=>exact cb dS HB);(case ak=>exact dt.out);(case bN=>exact cb eQ HB);(case bc=>exact ef.out);rintro e w52 ⟨rfl,hb⟩;refine⟨_,rfl, ?_⟩;replace ei:=nb ei hb;replace gm:=nb gm hb;replace HB:=Ah (aT (aj HB iF k9) hb);(try clear hb);obtain⟨X1,X2,hcz53_2,hcz53_3⟩:=b9 gm;obtain⟨X3,X4,hfz53_2,hfz53_3⟩:=bA gm))
  refine bodyPost_ret (iJ rfl _ _ ox 28 #[.slice none 0 0,.slice none 0 0,.slice none 0 0,.int .i64 0] (0,0) _ rfl (by(with_reducible repeat(first|refine aC ?_ _|refine U ?_|refine X ?_ _));refine aU (cs:= #[.slice none 0 0,.slice none 0 0,.slice none 0 0,.int .i64 0]) ?_ 3 _ rfl;(with_reducible repeat(first|refine aC ?_ _|refine U ?_|refine X ?_ _));refine aU (cs:= #[.slice none 0 0,.slice none 0 0,.slice none 0 0,.int .i64 0]) ?_ 2 _ rfl;(with_reducible repeat(first|refine aC ?_ _|refine U ?_|refine X ?_ _));refine aU (cs:= #[.slice none 0 0,.slice none 0 0,.slice none 0 0,.int .i64 0]) ?_ 1 _ rfl;(with_reducible repeat(first|refine aC ?_ _|refine U ?_|refine X ?_ _));refine aU (cs:= #[.slice none 0 0,.slice none 0 0,.slice none 0 0,.int .i64 0]) ?_ 0 _ rfl;(with_reducible repeat(first|refine aC ?_ _|refine U ?_|refine X ?_ _));exact gm.out) aaa rfl (by kernel_rfl)) rfl ?_;exact⟨_,_,_,er,by first|exact Kd.dr _ _ _ _ _|exact Kd.e8 _ _ _ _ _|exact Kd.e9 _ _ _ _ _|exact Kd.e5 _ _ _ _ _|exact Kd.e7 _ _ _ _ _,by first|exact Kd.dr _ _ _ _ _|exact Kd.e8 _ _ _ _ _|exact Kd.e9 _ _ _ _ _|exact Kd.e5 _ _ _ _ _|exact Kd.e7 _ _ _ _ _,by first|exact Kd.dr _ _ _ _ _|exact Kd.e8 _ _ _ _ _|exact Kd.e9 _ _ _ _ _|exact Kd.e5 _ _ _ _ _|exact Kd.e7 _ _ _ _ _,aj HB iF k9⟩
 subst c3;rw[if_pos rfl]at H;replace H:=Hz.mp H;obtain⟨im,ek,H⟩:=H
 try dsimp only at H
 have A4:=Ah ek;clear ek
 by_cases c5:0≤aN
 rotate_left
 ·
  rw[if_neg c5]at H;exact absurd H (by simp)
 rw[if_pos c5]at H;have iV:=eq_true c5;have a00:decide (0≤aN)=true:=decide_eq_true c5;clear c5
 by_cases c6:aN≤(aK.length:Int)
 rotate_left
 ·
  rw[if_neg c6]at H;exact absurd H (by simp)
 rw[if_pos c6]at H;have iG:=eq_true c6;have rt:decide (aN≤(aK.length:Int))=true:=decide_eq_true c6;clear c6;replace H:=Hz.mp H;obtain⟨pw,nO,H⟩:=H
 try dsimp only at H
 have A7:=Ah nO;clear nO;replace H:=Hz.mp H;obtain⟨nz,lz,H⟩:=H
 try dsimp only at H
 have A8:=Ah lz;clear lz;replace H:=Hz.mp H;obtain⟨Hu,m3,H⟩:=H
 try dsimp only at H
 have A9:=Ah m3;clear m3
 by_cases c10:Hu=true
 rotate_left
 ·
  replace c10:=i1.mpr c10;subst c10;rw[if_neg dO]at H;simp only[kD,o7]at H;obtain⟨rfl,rfl,rfl,rfl,rfl⟩:=H
  go_enter abe,Try.ntmps12
  go_wp2_with (first|((with_reducible refine bC (N:=1) rfl ?_);refine bK 1 28 #[.slice b0 aG.length b5,.slice b7 aD.length ay,.slice bV aK.length bR,.int .i64 aN] ?_;intro L6 hg kC ei hb;have Zf:=gw hg (bs HB);have iF:=gw hg (bs HB);replace HB:=Ah (aT (bs HB) hb);clear hb hg)|((with_reducible refine bC (N:=2) rfl ?_);refine bK 2 28 #[.slice none 0 0,.slice none 0 0,.slice none 0 0,.int .i64 0] ?_;intro ox hg S7 gm hb;have Zg:=gw hg (aZ HB iF);have k9:=gw hg (aZ HB iF);replace HB:=Ah (aT (aZ HB iF) hb);have EN:=nn ei hg;have EO:=nm ei hg;replace ei:=nb ei hb;clear hb hg;have hnb35:=EN.out;have hnc35:=EO.out;obtain⟨Wj,Wk,Wl,Wm⟩:=b9 ei;obtain⟨Wn,Wo,Wp,Wq⟩:=bA ei)|((with_reducible refine ar (f:=20) rfl ?_);refine gL (some 6) rfl rfl aa0 (by kernel_rfl) rfl #[.agg #[.slice b0 aG.length b5,.slice b7 aD.length ay,.slice bV aK.length bR,.int .i64 aN]] rfl ?_;(with_reducible refine(dv.calls k _ _ aG _ _ aD _ _ aK aN true _ ?aI ?aJ ?af ?ak ?bN ?bc A2.out).mono ?_);(case aI=>exact cb dY HB);(case aJ=>exact dj.out);(case af=>exact cb dS HB);(case ak=>exact dt.out);(case bN=>exact cb eQ HB);(case bc=>exact ef.out);rintro e S6 ⟨rfl,hb⟩;refine⟨_,rfl, ?_⟩;replace ei:=nb ei hb;replace gm:=nb gm hb;replace HB:=Ah (aT (aj HB iF k9) hb);(try clear hb);obtain⟨hcz38_0,hcz38_1,hcz38_2,hcz38_3⟩:=b9 ei;obtain⟨hfz38_0,hfz38_1,hfz38_2,hfz38_3⟩:=bA ei)|((with_reducible refine ar (f:=29) rfl ?_);refine gL (some 11) rfl rfl Try.func29 (by kernel_rfl) rfl #[.agg #[.slice b0 aG.length b5,.slice b7 aD.length ay],.func (.func 30) #[] #[]] rfl ?_;(with_reducible refine(gb.calls k _ _ aG _ _ aD im _ ?aI ?aJ ?af ?ak A4.out).mono ?_);(case aI=>exact cb dY HB);(case aJ=>exact dj.out);(case af=>exact cb dS HB);(case ak=>exact dt.out);rintro e Bq ⟨v708,rfl,ho0,hb⟩;refine⟨_,rfl, ?_⟩;have iU:=Ah (Kd.b8 ho0 (bF (aj HB iF k9)));replace ei:=nb ei hb;replace gm:=nb gm hb;replace HB:=Ah (aT (aj HB iF k9) hb);(try clear hb ho0);obtain⟨hcz40_0,hcz40_1,hcz40_2,hcz40_3⟩:=b9 ei;obtain⟨hfz40_0,hfz40_1,hfz40_2,hfz40_3⟩:=bA ei;obtain⟨i041,Zh,_,Zi,_⟩:=info_parts mB;obtain⟨hcut41,a1s,a1t⟩:=yY (P:=tP) Value.string (⟨#[]⟩:ByteArray) 23 9 .i64 aas Zh Zi bV bR aK aN (od) (od) ef.out;have Q0:=Ah (Kd.uU (h1:=fun _=>rfl) (a1s _ (Kd.sH eQ.out)));have Q1:=Ah a1t;clear a1s a1t Zh Zi)|((with_reducible refine ar (f:=31) rfl ?_);refine Ek (some 18) rfl rfl Try.func31 (by kernel_rfl) rfl #[.slice bV (aK.take (aN:Int).toNat).length bR] rfl (by(try simp only[aac,aad,aaf]);first|done|(rw[show(aK.take (aN:Int).toNat).length=aN.toNat from(by rw[fu];have h_:(aN:Int)≤(aK.length:Int):=od;omega)]<;>rfl)|rfl|(simp only[qC,fu];rfl)) ?_;(with_reducible refine(fy.calls k _ _ (aK.take (aN:Int).toNat) pw _ ?aI ?aJ A7.out).mono ?_);(case aI=>exact cb Q0 HB);(case aJ=>exact Q1.out);rintro e w42 ⟨v712,rfl,ho0,hb⟩;refine⟨_,rfl, ?_⟩;replace iU:=nr iU hb;have mI:=Ah (Kd.b8 ho0 (bF (aj HB iF k9)));replace ei:=nb ei hb;replace gm:=nb gm hb;replace HB:=Ah (aT (aj HB iF k9) hb);(try clear hb ho0);obtain⟨DX,BG,R6⟩:=Kd.ao iU.out;subst R6;obtain⟨mL,mM,DF⟩:=Kd.ao mI.out;subst DF)|((with_reducible refine ar (f:=28) rfl ?_);refine gL (some 19) rfl rfl Try.func28 (by kernel_rfl) rfl #[.slice DX im.length BG,.slice mL pw.length mM] rfl ?_;(with_reducible refine(ms.calls k _ _ im _ _ pw nz _ ?aI ?aJ ?af ?ak A8.out).mono ?_);(case aI=>exact bd iU);(case aJ=>exact(Kd.aq iU.out).2.1);(case af=>exact bd mI);(case ak=>exact(Kd.aq mI.out).2.1);rintro e sC ⟨v715,rfl,ho0,hb⟩;refine⟨_,rfl, ?_⟩;replace mI:=nr mI hb;have ni:=Ah (Kd.b8 (Kd.aA ho0 (Kd.Z (rr iU.out))) (bF (aj HB iF k9)));replace iU:=Ah (Kd.aX (rr iU.out) (Kd.a8 ho0) hb);replace ei:=nb ei hb;replace gm:=nb gm hb;replace HB:=Ah (aT (aj HB iF k9) hb);(try clear hb ho0);obtain⟨LV,LW,R7⟩:=Kd.ao ni.out;subst R7)|((with_reducible refine ar (f:=33) rfl ?_);refine gL (some 21) rfl rfl Try.func33 (by kernel_rfl) rfl #[.slice LV nz.length LW,.slice DX im.length BG] rfl ?_;(with_reducible refine(iO.calls k _ _ nz _ _ im false _ ?aI ?aJ ?af ?ak A9.out).mono ?_);(case aI=>exact bd ni);(case aJ=>exact(Kd.aq ni.out).2.1);(case af=>exact bd iU);(case ak=>exact(Kd.aq iU.out).2.1);rintro e w' ⟨rfl,⟨nd,rfl⟩⟩;refine⟨_,rfl, ?_⟩;(try(rw[C0 sC];generalize gp:abM sC _=sC;have an:a9 (Kd.R Kd.string 9 sC w.heap.size (fun k_=>some k_≠(.slice LV nz.length LW:Value).ownBlock) (.slice DX im.length BG) im):=⟨by rw[←gp];exact(by(with_reducible repeat(first|apply Kd.ah|apply Kd.ai|apply Kd.aY));exact Kd.aH iU.out (fun _ hk=>hk.2))⟩;have am:a9 (Kd.R bL 37 sC w.heap.size (fun _=>True) (.slice mL pw.length mM) pw):=⟨by rw[←gp];exact(rr mI.out)⟩;have aw:a9 (Kd.R Kd.string 9 sC w.heap.size (fun k_=>some k_≠(.slice DX im.length BG:Value).ownBlock) (.slice LV nz.length LW) nz):=⟨by rw[←gp];exact(by(with_reducible repeat(first|apply Kd.ah|apply Kd.ai|apply Kd.aY));exact Kd.aH ni.out (fun _ hk=>hk.2))⟩;have bI:a9 (sC.heap[L6]?=some (.cells #[.slice b0 aG.length b5,.slice b7 aD.length ay,.slice bV aK.length bR,.int .i64 aN] 28 (0,0))):=⟨by rw[←gp];exact(bk ei)⟩;have bj:a9 (sC.heap[ox]?=some (.cells #[.slice none 0 0,.slice none 0 0,.slice none 0 0,.int .i64 0] 28 (0,0))):=⟨by rw[←gp];exact(bk gm)⟩;have bv:a9 (Below w.heap.size w sC):=⟨by rw[←gp];exact(aj HB iF k9)⟩;clear iU mI ni ei gm HB gp;have iU:=an;have mI:=am;have ni:=aw;have ei:=bI;have gm:=bj;have HB:=bv;clear an am aw bI bj bv));obtain⟨wt,wu,wv,ww⟩:=b9 gm;obtain⟨wx,wy,wz,x2⟩:=bA gm))
  refine bodyPost_ret (iJ rfl _ _ ox 28 #[.slice none 0 0,.slice none 0 0,.slice none 0 0,.int .i64 0] (0,0) _ rfl (by(with_reducible repeat(first|refine aC ?_ _|refine U ?_|refine X ?_ _));refine aU (cs:= #[.slice none 0 0,.slice none 0 0,.slice none 0 0,.int .i64 0]) ?_ 3 _ rfl;(with_reducible repeat(first|refine aC ?_ _|refine U ?_|refine X ?_ _));refine aU (cs:= #[.slice none 0 0,.slice none 0 0,.slice none 0 0,.int .i64 0]) ?_ 2 _ rfl;(with_reducible repeat(first|refine aC ?_ _|refine U ?_|refine X ?_ _));refine aU (cs:= #[.slice none 0 0,.slice none 0 0,.slice none 0 0,.int .i64 0]) ?_ 1 _ rfl;(with_reducible repeat(first|refine aC ?_ _|refine U ?_|refine X ?_ _));refine aU (cs:= #[.slice none 0 0,.slice none 0 0,.slice none 0 0,.int .i64 0]) ?_ 0 _ rfl;(with_reducible repeat(first|refine aC ?_ _|refine U ?_|refine X ?_ _));exact gm.out) aaa rfl (by kernel_rfl)) rfl ?_;exact⟨_,_,_,er,by first|exact Kd.dr _ _ _ _ _|exact Kd.e8 _ _ _ _ _|exact Kd.e9 _ _ _ _ _|exact Kd.e5 _ _ _ _ _|exact Kd.e7 _ _ _ _ _,by first|exact Kd.dr _ _ _ _ _|exact Kd.e8 _ _ _ _ _|exact Kd.e9 _ _ _ _ _|exact Kd.e5 _ _ _ _ _|exact Kd.e7 _ _ _ _ _,by first|exact Kd.dr _ _ _ _ _|exact Kd.e8 _ _ _ _ _|exact Kd.e9 _ _ _ _ _|exact Kd.e5 _ _ _ _ _|exact Kd.e7 _ _ _ _ _,aj HB iF k9⟩
 subst c10;rw[if_pos rfl]at H;have zd:=eq_true (od:0≤aN);have P2:=eq_true (od:aN≤(aK.length:Int));replace H:=Hz.mp H;obtain⟨wV,Hb,H⟩:=H
 try dsimp only at H
 have SI:=Ah Hb;clear Hb;simp only[kD,o7]at H;obtain⟨rfl,rfl,rfl,rfl,rfl⟩:=H
 go_enter abe,Try.ntmps12
 go_wp2_with (first|((with_reducible refine bC (N:=1) rfl ?_);refine bK 1 28 #[.slice b0 aG.length b5,.slice b7 aD.length ay,.slice bV aK.length bR,.int .i64 aN] ?_;intro L6 hg pM ei hb;have Zf:=gw hg (bs HB);have iF:=gw hg (bs HB);replace HB:=Ah (aT (bs HB) hb);clear hb hg)|((with_reducible refine bC (N:=2) rfl ?_);refine bK 2 28 #[.slice none 0 0,.slice none 0 0,.slice none 0 0,.int .i64 0] ?_;intro ox hg jN gm hb;have Zg:=gw hg (aZ HB iF);have k9:=gw hg (aZ HB iF);replace HB:=Ah (aT (aZ HB iF) hb);have EN:=nn ei hg;have EO:=nm ei hg;replace ei:=nb ei hb;clear hb hg;have zf:=EN.out;have zg:=EO.out;obtain⟨oG,oH,tW,tX⟩:=b9 ei;obtain⟨oI,oJ,tY,tZ⟩:=bA ei)|((with_reducible refine ar (f:=20) rfl ?_);refine gL (some 6) rfl rfl aa0 (by kernel_rfl) rfl #[.agg #[.slice b0 aG.length b5,.slice b7 aD.length ay,.slice bV aK.length bR,.int .i64 aN]] rfl ?_;(with_reducible refine(dv.calls k _ _ aG _ _ aD _ _ aK aN true _ ?aI ?aJ ?af ?ak ?bN ?bc A2.out).mono ?_);(case aI=>exact cb dY HB);(case aJ=>exact dj.out);(case af=>exact cb dS HB);(case ak=>exact dt.out);(case bN=>exact cb eQ HB);(case bc=>exact ef.out);rintro e jO ⟨rfl,hb⟩;refine⟨_,rfl, ?_⟩;replace ei:=nb ei hb;replace gm:=nb gm hb;replace HB:=Ah (aT (aj HB iF k9) hb);(try clear hb);obtain⟨m5,m6,pT,pU⟩:=b9 ei;obtain⟨m7,m8,pV,pW⟩:=bA ei)|((with_reducible refine ar (f:=29) rfl ?_);refine gL (some 11) rfl rfl Try.func29 (by kernel_rfl) rfl #[.agg #[.slice b0 aG.length b5,.slice b7 aD.length ay],.func (.func 30) #[] #[]] rfl ?_;(with_reducible refine(gb.calls k _ _ aG _ _ aD im _ ?aI ?aJ ?af ?ak A4.out).mono ?_);(case aI=>exact cb dY HB);(case aJ=>exact dj.out);(case af=>exact cb dS HB);(case ak=>exact dt.out);rintro e py ⟨v708,rfl,ho0,hb⟩;refine⟨_,rfl, ?_⟩;have iU:=Ah (Kd.b8 ho0 (bF (aj HB iF k9)));replace ei:=nb ei hb;replace gm:=nb gm hb;replace HB:=Ah (aT (aj HB iF k9) hb);(try clear hb ho0);obtain⟨JB,JC,hcz21_2,hcz21_3⟩:=b9 ei;obtain⟨JD,JE,hfz21_2,hfz21_3⟩:=bA ei;obtain⟨i022,Zj,_,Zk,_⟩:=info_parts mB;obtain⟨hcut22,a1u,a1v⟩:=yY (P:=tP) Value.string (⟨#[]⟩:ByteArray) 23 9 .i64 aas Zj Zk bV bR aK aN (od) (od) ef.out;have Q0:=Ah (Kd.uU (h1:=fun _=>rfl) (a1u _ (Kd.sH eQ.out)));have Q1:=Ah a1v;clear a1u a1v Zj Zk)|((with_reducible refine ar (f:=31) rfl ?_);refine Ek (some 18) rfl rfl Try.func31 (by kernel_rfl) rfl #[.slice bV (aK.take (aN:Int).toNat).length bR] rfl (by(try simp only[aac,aad,aaf]);first|done|(rw[show(aK.take (aN:Int).toNat).length=aN.toNat from(by rw[fu];have h_:(aN:Int)≤(aK.length:Int):=od;omega)]<;>rfl)|rfl|(simp only[qC,fu];rfl)) ?_;(with_reducible refine(fy.calls k _ _ (aK.take (aN:Int).toNat) pw _ ?aI ?aJ A7.out).mono ?_);(case aI=>exact cb Q0 HB);(case aJ=>exact Q1.out);rintro e tM ⟨v712,rfl,ho0,hb⟩;refine⟨_,rfl, ?_⟩;replace iU:=nr iU hb;have mI:=Ah (Kd.b8 ho0 (bF (aj HB iF k9)));replace ei:=nb ei hb;replace gm:=nb gm hb;replace HB:=Ah (aT (aj HB iF k9) hb);(try clear hb ho0);obtain⟨hU,hX,Ro⟩:=Kd.ao iU.out;subst Ro;obtain⟨bq,bp,ss⟩:=Kd.ao mI.out;subst ss)|((with_reducible refine ar (f:=28) rfl ?_);refine gL (some 19) rfl rfl Try.func28 (by kernel_rfl) rfl #[.slice hU im.length hX,.slice bq pw.length bp] rfl ?_;(with_reducible refine(ms.calls k _ _ im _ _ pw nz _ ?aI ?aJ ?af ?ak A8.out).mono ?_);(case aI=>exact bd iU);(case aJ=>exact(Kd.aq iU.out).2.1);(case af=>exact bd mI);(case ak=>exact(Kd.aq mI.out).2.1);rintro e rA ⟨v715,rfl,ho0,hb⟩;refine⟨_,rfl, ?_⟩;replace mI:=nr mI hb;have ni:=Ah (Kd.b8 (Kd.aA ho0 (Kd.Z (rr iU.out))) (bF (aj HB iF k9)));replace iU:=Ah (Kd.aX (rr iU.out) (Kd.a8 ho0) hb);replace ei:=nb ei hb;replace gm:=nb gm hb;replace HB:=Ah (aT (aj HB iF k9) hb);(try clear hb ho0);obtain⟨DT,DU,H5⟩:=Kd.ao ni.out;subst H5)|((with_reducible refine ar (f:=33) rfl ?_);refine gL (some 21) rfl rfl Try.func33 (by kernel_rfl) rfl #[.slice DT nz.length DU,.slice hU im.length hX] rfl ?_;(with_reducible refine(iO.calls k _ _ nz _ _ im true _ ?aI ?aJ ?af ?ak A9.out).mono ?_);(case aI=>exact bd ni);(case aJ=>exact(Kd.aq ni.out).2.1);(case af=>exact bd iU);(case ak=>exact(Kd.aq iU.out).2.1);rintro e w' ⟨rfl,⟨nd,rfl⟩⟩;refine⟨_,rfl, ?_⟩;(try(rw[C0 rA];generalize gp:abM rA _=rA;have an:a9 (Kd.R Kd.string 9 rA w.heap.size (fun k_=>some k_≠(.slice DT nz.length DU:Value).ownBlock) (.slice hU im.length hX) im):=⟨by rw[←gp];exact(by(with_reducible repeat(first|apply Kd.ah|apply Kd.ai|apply Kd.aY));exact Kd.aH iU.out (fun _ hk=>hk.2))⟩;have am:a9 (Kd.R bL 37 rA w.heap.size (fun _=>True) (.slice bq pw.length bp) pw):=⟨by rw[←gp];exact(rr mI.out)⟩;have aw:a9 (Kd.R Kd.string 9 rA w.heap.size (fun k_=>some k_≠(.slice hU im.length hX:Value).ownBlock) (.slice DT nz.length DU) nz):=⟨by rw[←gp];exact(by(with_reducible repeat(first|apply Kd.ah|apply Kd.ai|apply Kd.aY));exact Kd.aH ni.out (fun _ hk=>hk.2))⟩;have bI:a9 (rA.heap[L6]?=some (.cells #[.slice b0 aG.length b5,.slice b7 aD.length ay,.slice bV aK.length bR,.int .i64 aN] 28 (0,0))):=⟨by rw[←gp];exact(bk ei)⟩;have bj:a9 (rA.heap[ox]?=some (.cells #[.slice none 0 0,.slice none 0 0,.slice none 0 0,.int .i64 0] 28 (0,0))):=⟨by rw[←gp];exact(bk gm)⟩;have bv:a9 (Below w.heap.size w rA):=⟨by rw[←gp];exact(aj HB iF k9)⟩;clear iU mI ni ei gm HB gp;have iU:=an;have mI:=am;have ni:=aw;have ei:=bI;have gm:=bj;have HB:=bv;clear an am aw bI bj bv));obtain⟨rM,rN,um,un⟩:=b9 ei;obtain⟨rO,rP,uo,uq⟩:=bA ei;obtain⟨i029,Zl,_,Zm,_⟩:=info_parts mB;obtain⟨I3,hcut29,a1w,a1x⟩:=SS (P:=tP) Value.string (⟨#[]⟩:ByteArray) 23 9 .i64 aas Zl Zm bV bR aK aN (od) (od) ef.out;have HR718:=Ah (Kd.uU (h1:=fun _=>rfl) (a1w _ (Kd.sH eQ.out)));have HC718:=Ah a1x;clear a1w a1x Zl Zm)|((with_reducible refine ar (f:=34) rfl ?_);refine Ek (some 31) rfl rfl Try.func34 (by kernel_rfl) rfl #[.slice I3 (aK.drop (aN:Int).toNat).length (bR-aN.toNat)] rfl (by(try simp only[aac,aad,aaf]);first|done|(rw[show(aK.drop (aN:Int).toNat).length=(aK.length-aN.toNat)from qC]<;>rfl)|rfl|(simp only[qC,fu];rfl)) ?_;(with_reducible refine(mR.calls _ _ (aK.drop (aN:Int).toNat) wV _ ?aI ?aJ SI.out).mono ?_);(case aI=>exact cb HR718 HB);(case aJ=>exact HC718.out);rintro e Ll ⟨v720,rfl,ho0,hb⟩;refine⟨_,rfl, ?_⟩;replace mI:=nr mI hb;have Zn:=Ah (Kd.b8 (Kd.aA (Kd.aA ho0 (Kd.Z (rr iU.out))) (Kd.Z (rr ni.out))) (bF (aj HB iF k9)));replace iU:=Ah (Kd.aX (rr iU.out) (Kd.a8 ho0) hb);replace ni:=Ah (Kd.aX (rr ni.out) (Kd.a8 ho0) hb);replace ei:=nb ei hb;replace gm:=nb gm hb;replace HB:=Ah (aT (aj HB iF k9) hb);(try clear hb ho0);obtain⟨ja,jb,u1⟩:=Kd.ao Zn.out;subst u1;obtain⟨hcz32_0,hcz32_1,hcz32_2,hcz32_3⟩:=b9 gm;obtain⟨hfz32_0,hfz32_1,hfz32_2,hfz32_3⟩:=bA gm))
 refine bodyPost_ret (iJ rfl _ _ ox 28 #[.slice hU im.length hX,.slice none 0 0,.slice ja wV.length jb,.int .i64 0] (0,0) _ rfl (by(with_reducible repeat(first|refine aC ?_ _|refine U ?_|refine X ?_ _));refine aU (cs:= #[.slice hU im.length hX,.slice none 0 0,.slice ja wV.length jb,.int .i64 0]) ?_ 3 _ rfl;(with_reducible repeat(first|refine aC ?_ _|refine U ?_|refine X ?_ _));refine aU (cs:= #[.slice hU im.length hX,.slice none 0 0,.slice none 0 0,.int .i64 0]) ?_ 2 _ rfl;(with_reducible repeat(first|refine aC ?_ _|refine U ?_|refine X ?_ _));refine aU (cs:= #[.slice hU im.length hX,.slice none 0 0,.slice none 0 0,.int .i64 0]) ?_ 1 _ rfl;(with_reducible repeat(first|refine aC ?_ _|refine U ?_|refine X ?_ _));refine aU (cs:= #[.slice none 0 0,.slice none 0 0,.slice none 0 0,.int .i64 0]) ?_ 0 _ rfl;(with_reducible repeat(first|refine aC ?_ _|refine U ?_|refine X ?_ _));exact gm.out) aaa rfl (by kernel_rfl)) rfl ?_;exact⟨_,_,_,er,by(with_reducible repeat(first|apply Kd.ah|apply Kd.ai|apply Kd.aY));exact Kd.aH (Kd.I (p:=⟨ox,3,none⟩) (Kd.I (p:=⟨ox,2,none⟩) (Kd.I (p:=⟨ox,1,none⟩) (Kd.I (p:=⟨ox,0,none⟩) (Kd.al iU.out gm.out (by decide)) (fun _ hk=>hk.2) (.slice hU im.length hX)) (fun _ hk=>hk.2) (.slice none 0 0)) (fun _ hk=>hk.2) (.slice ja wV.length jb)) (fun _ hk=>hk.2) (.int .i64 0)) (fun _ hk=>hk.1.2),by first|exact Kd.dr _ _ _ _ _|exact Kd.e8 _ _ _ _ _|exact Kd.e9 _ _ _ _ _|exact Kd.e5 _ _ _ _ _|exact Kd.e7 _ _ _ _ _,by(with_reducible repeat(first|apply Kd.ah|apply Kd.ai|apply Kd.aY));exact Kd.aH (Kd.I (p:=⟨ox,3,none⟩) (Kd.I (p:=⟨ox,2,none⟩) (Kd.I (p:=⟨ox,1,none⟩) (Kd.I (p:=⟨ox,0,none⟩) (Kd.al Zn.out gm.out (by decide)) (fun _ hk=>hk.2) (.slice hU im.length hX)) (fun _ hk=>hk.2) (.slice none 0 0)) (fun _ hk=>hk.2) (.slice ja wV.length jb)) (fun _ hk=>hk.2) (.int .i64 0)) (fun _ hk=>hk.1.1.2),aj HB iF k9⟩
def qE.f(k:Nat)(l0:List Int):Option ((List (aQ))):=(fx.f k l0 0 0 4).bind fun Q2=>(some Q2.1)
theorem qE.mono:∀a0 k,aE (qE.f k a0) (qE.f (k+1) a0):=by
 intro a0 k;unfold qE.f
 repeat' with_reducible first|exact fx.mono _ _ _ _ _|exact aE.refl _|exact aE.none _|refine aE.ite ?_ ?_|refine aE.bind ?_ (fun _=> ?_)
set_option maxHeartbeats 8000000 in
set_option maxRecDepth 100000 in
theorem qE.calls(k:Nat)(A0:Option Addr)(c0:Nat)(l0:List Int)(r:List (aQ))(w:World)(hr0:Kd.C (Kd.int .u8) w A0 l0.length l0)(hc0:l0.length≤c0)(h:qE.f k l0=some r):
 Calls tP 13 #[.slice A0 l0.length c0] w fun e w'=>∃cM:Value,e= .returned (cM)∧Kd.R bL 37 w' w.heap.size (fun _=>True) cM r∧Below w.heap.size w w':=by
 have hu50:=Try.underlying50;have dU:=Ah hr0;have gK:=Ah hc0;clear hr0 hc0;have HB:=Ah (qB w.heap.size w);have H:((fx.f k l0 0 0 4).bind fun Q2=>(some Q2.1))=some r:=h;clear h;replace H:=Hz.mp H;obtain⟨⟨t723,t726,t727⟩,fX,H⟩:=H
 try dsimp only at H
 have A2:=Ah fX;clear fX;obtain rfl:=ec H
 go_enter Try.func13,Try.ntmps13
 go_wp2_with (first|((with_reducible refine bC (N:=6) rfl ?_);refine bK 6 50 #[.slice A0 l0.length c0,.int .i64 0,.int .u64 0] ?_;intro Q3 hg w3 BK722 hb;have GW722:=gw hg (bs HB);have GE722:=gw hg (bs HB);replace HB:=Ah (aT (bs HB) hb);clear hb hg;have Zo:=Ah (show J w w3 Q3 l0 0 0 from⟨_,_,(bk BK722),GE722.out,dU.out⟩))|((with_reducible refine ar (f:=19) rfl ?_);refine gL (some 8) rfl rfl Try.func19 (by kernel_rfl) rfl #[.pointer (some ⟨Q3,0,none⟩),.int .i64 4] rfl ?_;(with_reducible refine(fx.calls k Q3 l0 0 0 4 t723 t726 t727 w _ ?aI ?aJ A2.out).mono ?_);(case aI=>exact J.fE Zo);(case aJ=>exact bs HB);rintro e w4 ⟨v724,rfl,ho0,hi,hb,hk⟩;refine⟨_,rfl, ?_⟩;have HO725:=Ah (Kd.b8 ho0 (bF (bs HB)));replace HB:=Ah (hb);replace Zo:=Ah (hi);(try clear hb hk hi ho0)))
 go_ret
 exact⟨_,er,by(with_reducible repeat(first|apply Kd.ah|apply Kd.ai|apply Kd.aY));exact HO725.out,bs HB⟩
def mt.f(k:Nat)(l0:List (aQ)):Option (ByteArray×Bool):=(fZ.f k l0 32).bind fun Hv=>(if Hv=true then((eH.f k l0).bind fun Hw=>(some (Hw,true)))else(some ((⟨#[]⟩:ByteArray),false)))
theorem mt.mono:∀a0 k,aE (mt.f k a0) (mt.f (k+1) a0):=by
 intro a0 k;unfold mt.f
 repeat' with_reducible first|exact fZ.mono _ _ _|exact eH.mono _ _|exact aE.refl _|exact aE.none _|refine aE.ite ?_ ?_|refine aE.bind ?_ (fun _=> ?_)
set_option maxHeartbeats 8000000 in
set_option maxRecDepth 100000 in
theorem mt.calls(k:Nat)(A0:Option Addr)(c0:Nat)(l0:List (aQ))(r1:ByteArray)(r2:Bool)(w:World)(hr0:Kd.C bL w A0 l0.length l0)(hc0:l0.length≤c0)(h:mt.f k l0=some (r1,r2)):
 Calls tP 14 #[.slice A0 l0.length c0] w fun e w'=>e= .returned (.tuple #[.string r1,.bool r2])∧Below w.heap.size w w':=by
 have dU:=Ah hr0;have gK:=Ah hc0;clear hr0 hc0;have HB:=Ah (qB w.heap.size w);have H:((fZ.f k l0 32).bind fun Hv=>(if Hv=true then((eH.f k l0).bind fun Hw=>(some (Hw,true)))else(some ((⟨#[]⟩:ByteArray),false))))=some (r1,r2):=h;clear h;replace H:=Hz.mp H;obtain⟨Hv,fX,H⟩:=H
 try dsimp only at H
 have A2:=Ah fX;clear fX
 by_cases c3:Hv=true
 rotate_left
 ·
  replace c3:=i1.mpr c3;subst c3;rw[if_neg dO]at H;simp only[kD,o7]at H;obtain⟨rfl,rfl⟩:=H
  go_enter Try.func14,Try.ntmps14
  go_wp2_with (first|((with_reducible refine ar (f:=21) rfl ?_);refine gL (some 5) rfl rfl Try.func21 (by kernel_rfl) rfl #[.slice A0 l0.length c0,.int .i64 32] rfl ?_;(with_reducible refine(fZ.calls k _ _ l0 32 false _ ?aI ?aJ A2.out).mono ?_);(case aI=>repeat(first|exact dU.out|(with_reducible refine Kd.ji ?_ _)|(with_reducible refine Kd.jj ?_ _)|(with_reducible refine Kd.jm ?_)));(case aJ=>exact gK.out);rintro e w7 ⟨rfl,hb⟩;refine⟨_,rfl, ?_⟩;replace HB:=Ah (aT (bs HB) hb);(try clear hb)))
  go_ret2
  exact⟨er,bs HB⟩
 subst c3;rw[if_pos rfl]at H;replace H:=Hz.mp H;obtain⟨Hw,ek,H⟩:=H
 try dsimp only at H
 have A4:=Ah ek;clear ek;simp only[kD,o7]at H;obtain⟨rfl,rfl⟩:=H
 go_enter Try.func14,Try.ntmps14
 go_wp2_with (first|((with_reducible refine ar (f:=21) rfl ?_);refine gL (some 5) rfl rfl Try.func21 (by kernel_rfl) rfl #[.slice A0 l0.length c0,.int .i64 32] rfl ?_;(with_reducible refine(fZ.calls k _ _ l0 32 true _ ?aI ?aJ A2.out).mono ?_);(case aI=>repeat(first|exact dU.out|(with_reducible refine Kd.ji ?_ _)|(with_reducible refine Kd.jj ?_ _)|(with_reducible refine Kd.jm ?_)));(case aJ=>exact gK.out);rintro e w5 ⟨rfl,hb⟩;refine⟨_,rfl, ?_⟩;replace HB:=Ah (aT (bs HB) hb);(try clear hb))|((with_reducible refine ar (f:=23) rfl ?_);refine gL (some 8) rfl rfl Try.func23 (by kernel_rfl) rfl #[.slice A0 l0.length c0] rfl ?_;(with_reducible refine(eH.calls k _ _ l0 Hw _ ?aI ?aJ A4.out).mono ?_);(case aI=>exact cb dU HB);(case aJ=>exact gK.out);rintro e w6 ⟨rfl,hb⟩;refine⟨_,rfl, ?_⟩;replace HB:=Ah (aT (bs HB) hb);(try clear hb)))
 go_ret2
 exact⟨er,bs HB⟩
def mu.f(k:Nat)(l0:List (aQ)):Option (ByteArray×Bool):=(eI.f k l0 32).bind fun Hx=>(if Hx=true then((ey.f k l0).bind fun Hy=>(some (Hy,true)))else(some ((⟨#[]⟩:ByteArray),false)))
theorem mu.mono:∀a0 k,aE (mu.f k a0) (mu.f (k+1) a0):=by
 intro a0 k;unfold mu.f
 repeat' with_reducible first|exact ey.mono _ _|exact eI.mono _ _ _|exact aE.refl _|exact aE.none _|refine aE.ite ?_ ?_|refine aE.bind ?_ (fun _=> ?_)
set_option maxHeartbeats 8000000 in
set_option maxRecDepth 100000 in
theorem mu.calls(k:Nat)(A0:Option Addr)(c0:Nat)(l0:List (aQ))(r1:ByteArray)(r2:Bool)(w:World)(hr0:Kd.C bL w A0 l0.length l0)(hc0:l0.length≤c0)(h:mu.f k l0=some (r1,r2)):
 Calls tP 15 #[.slice A0 l0.length c0] w fun e w'=>e= .returned (.tuple #[.string r1,.bool r2])∧Below w.heap.size w w':=by
 have dU:=Ah hr0;have gK:=Ah hc0;clear hr0 hc0;have HB:=Ah (qB w.heap.size w);have H:((eI.f k l0 32).bind fun Hx=>(if Hx=true then((ey.f k l0).bind fun Hy=>(some (Hy,true)))else(some ((⟨#[]⟩:ByteArray),false))))=some (r1,r2):=h;clear h;replace H:=Hz.mp H;obtain⟨Hx,fX,H⟩:=H
 try dsimp only at H
 have A2:=Ah fX;clear fX
 by_cases c3:Hx=true
 rotate_left
 ·
  replace c3:=i1.mpr c3;subst c3;rw[if_neg dO]at H;simp only[kD,o7]at H;obtain⟨rfl,rfl⟩:=H
  go_enter Try.func15,Try.ntmps15
  go_wp2_with (first|((with_reducible refine ar (f:=25) rfl ?_);refine gL (some 5) rfl rfl Try.func25 (by kernel_rfl) rfl #[.slice A0 l0.length c0,.int .i64 32] rfl ?_;(with_reducible refine(eI.calls k _ _ l0 32 false _ ?aI ?aJ A2.out).mono ?_);(case aI=>repeat(first|exact dU.out|(with_reducible refine Kd.ji ?_ _)|(with_reducible refine Kd.jj ?_ _)|(with_reducible refine Kd.jm ?_)));(case aJ=>exact gK.out);rintro e w7 ⟨rfl,hb⟩;refine⟨_,rfl, ?_⟩;replace HB:=Ah (aT (bs HB) hb);(try clear hb)))
  go_ret2
  exact⟨er,bs HB⟩
 subst c3;rw[if_pos rfl]at H;replace H:=Hz.mp H;obtain⟨Hy,ek,H⟩:=H
 try dsimp only at H
 have A4:=Ah ek;clear ek;simp only[kD,o7]at H;obtain⟨rfl,rfl⟩:=H
 go_enter Try.func15,Try.ntmps15
 go_wp2_with (first|((with_reducible refine ar (f:=25) rfl ?_);refine gL (some 5) rfl rfl Try.func25 (by kernel_rfl) rfl #[.slice A0 l0.length c0,.int .i64 32] rfl ?_;(with_reducible refine(eI.calls k _ _ l0 32 true _ ?aI ?aJ A2.out).mono ?_);(case aI=>repeat(first|exact dU.out|(with_reducible refine Kd.ji ?_ _)|(with_reducible refine Kd.jj ?_ _)|(with_reducible refine Kd.jm ?_)));(case aJ=>exact gK.out);rintro e w5 ⟨rfl,hb⟩;refine⟨_,rfl, ?_⟩;replace HB:=Ah (aT (bs HB) hb);(try clear hb))|((with_reducible refine ar (f:=27) rfl ?_);refine gL (some 8) rfl rfl Try.func27 (by kernel_rfl) rfl #[.slice A0 l0.length c0] rfl ?_;(with_reducible refine(ey.calls k _ _ l0 Hy _ ?aI ?aJ A4.out).mono ?_);(case aI=>exact cb dU HB);(case aJ=>exact gK.out);rintro e w6 ⟨rfl,hb⟩;refine⟨_,rfl, ?_⟩;replace HB:=Ah (aT (bs HB) hb);(try clear hb)))
 go_ret2
 exact⟨er,bs HB⟩
end Go.Proofs.Ytmbjmacpigojjaa.G
