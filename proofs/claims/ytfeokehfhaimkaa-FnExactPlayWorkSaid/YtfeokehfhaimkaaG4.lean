-- Printed by a program of this session (drive.py, by way of the kit's print). Not trusted: Lean checks it.
import Derived.Test.YtfeokehfhaimkaaG0
import Derived.Test.YtfeokehfhaimkaaG1
import Derived.Test.YtfeokehfhaimkaaG2
import Derived.Test.YtfeokehfhaimkaaG3
open Bool renaming eq_false_iff→PT
open Go.Proofs renaming ltOf→abq
open Go.Proofs.Try renaming prog→Uf,underlying29→cp,underlying45→fk,underlying26→ig,underlying66→aay,underlying47→aaB,func35→aaK,func92→aaT,func40→aa7,func75→aa8,ntmps75→abN
open Go.RowKit renaming wrap64→Gj
open Go.RowKit.Below renaming refl→Ud
open Go.World renaming block_lt_of_cell?→Gk
open List renaming length_take→Ja,length_drop→SI,map_toArray→dl,map_cons→dV,map_nil→lK,replicate→aat
open Nat renaming le_refl→QQ,add_zero→dH,mul_one→fl,le_of_eq→aaf,le_trans→aav
open Option renaming bind_eq_some_iff→Gl,bind_some→Gm
open Option.some renaming inj→Gn,injEq→Jh
open Prod.mk renaming injEq→Ue
namespace Go.Proofs.Ytfeokehfhaimkaa.G
open Go.RowKit Go.Proofs.YtfeokehfhaimkaaW.PrintWords Go.Proofs.YtfeokehfhaimkaaW.PrintLast Go.Proofs.YtfeokehfhaimkaaW.PrintMore
attribute [local go_sem] zO zP zX zY zE zG zQ zR
set_option maxHeartbeats 8000000
set_option maxRecDepth 100000
set_option linter.unusedVariables false
set_option linter.unusedSimpArgs false
attribute [local go_sem high] YH
def jw.l0:Nat→List (aJ)→Int→Int→Int→List (Y)→List (Y)→Option (Int×(List (Y))×(List (Y))×Int×(List (aJ))×Bool)
 |0,_,_,_,_,_,_=>none
 |k+1,x34,x35,DT,Wk,Wl,Wm=>if DT<x35 then(if 0≤DT then(if DT<(x34.length:Int)then(if((U x34 DT).f0)=1 then((dC.f k Wk Wl Wm ((U x34 DT).f2.f0) ((U x34 DT).f2.f1)).bind fun Sx=>(if Sx.2.2.2=true then(jw.l0 k x34 x35 (Gj (DT+1)) Sx.1 Sx.2.1 Sx.2.2.1)else(some (0,([]:List (Y)),([]:List (Y)),0,([]:List (aJ)),false))))else(jw.l0 k x34 x35 (Gj (DT+1)) Wk Wl Wm))else(none))else(none))else(some (Wk,Wl,Wm,1,([]:List (aJ)),true))
def jw.f(k:Nat)(aA:Int)(X:List (Y))(aC:List (Y))(aV:Int)(aU:List (aJ))(l1:List (aJ)):Option (Int×(List (Y))×(List (Y))×Int×(List (aJ))×Bool):=(eM.f k aA X aC aV aU).bind fun O6=>(if O6=true then((br.f k aA X aC l1).bind fun Yj=>(if Yj.2=true then((j8.f k aA X).bind fun El=>(jw.l0 k l1 (l1.length:Int) 0 El.1 El.2.1 El.2.2))else(some (0,([]:List (Y)),([]:List (Y)),0,([]:List (aJ)),false))))else(some (0,([]:List (Y)),([]:List (Y)),0,([]:List (aJ)),false)))
theorem jw.cQ:∀k,(∀y0 y1 y2 y3 y4 y5,aG (jw.l0 k y0 y1 y2 y3 y4 y5) (jw.l0 (k+1) y0 y1 y2 y3 y4 y5))
 |0=>fun _ _ _ _ _ _ r h=>by simp[jw.l0]at h
 |k+1=>by
  have bS:=jw.cQ k
  ·
   intro y0 y1 y2 y3 y4 y5;unfold jw.l0
   repeat' with_reducible first|exact bS _ _ _ _ _ _|exact dC.mono _ _ _ _ _ _|exact eM.mono _ _ _ _ _ _|exact br.mono _ _ _ _ _|exact j8.mono _ _ _|exact aG.refl _|exact aG.none _|refine aG.ite ?_ ?_|refine aG.bind ?_ (fun _=> ?_)
theorem jw.mono:∀a0 a1 a2 a3 a4 a5 k,aG (jw.f k a0 a1 a2 a3 a4 a5) (jw.f (k+1) a0 a1 a2 a3 a4 a5):=by
 intro a0 a1 a2 a3 a4 a5 k;have bS:=jw.cQ k;unfold jw.f
 repeat' with_reducible first|exact bS _ _ _ _ _ _|exact dC.mono _ _ _ _ _ _|exact eM.mono _ _ _ _ _ _|exact br.mono _ _ _ _ _|exact j8.mono _ _ _|exact aG.refl _|exact aG.none _|refine aG.ite ?_ ?_|refine aG.bind ?_ (fun _=> ?_)
theorem jw.calls(k:Nat)(aA:Int)(af:Option Addr)(aa:Nat)(X:List (Y))(ab:Option Addr)(ac:Nat)(aC:List (Y))(aV:Int)(bG:Option Addr)(bH:Nat)(aU:List (aJ))(A1:Option Addr)(c1:Nat)(l1:List (aJ))(r1:Int)(r2:List (Y))(r3:List (Y))(r4:Int)(r5:List (aJ))(r6:Bool)(w:World)(dO:Kd.C aT w af X.length X)(dP:X.length≤aa)(dQ:Kd.C aT w ab aC.length aC)(dR:aC.length≤ac)(gu:Kd.C b8 w bG aU.length aU)(gy:aU.length≤bH)(hr1:Kd.C b8 w A1 l1.length l1)(hc1:l1.length≤c1)(h:jw.f k aA X aC aV aU l1=some (r1,r2,r3,r4,r5,r6)):
 Calls Try.prog 19 #[.agg #[.int .i64 aA,.slice af X.length aa,.slice ab aC.length ac,.int .i64 aV,.slice bG aU.length bH],.slice A1 l1.length c1] w fun e w'=>∃df da kH:Value,e= .returned (.tuple #[.agg #[.int .i64 r1,df,da,.int .i64 r4,kH],.bool r6])∧Kd.R aT 45 w' w.heap.size (fun k_=>some k_≠(da:Value).ownBlock) df r2∧Kd.R aT 45 w' w.heap.size (fun k_=>some k_≠(df:Value).ownBlock) da r3∧Kd.R b8 66 w' w.heap.size (fun _=>True) kH r5∧Below w.heap.size w w':=by
 have sn:=cp;have mL:=ig;have u7:=aay;have jT:=fk;have bo:=Ah dO;have cU:=Ah dP;clear dO dP;have cn:=Ah dQ;have co:=Ah dR;clear dQ dR;have fF:=Ah gu;have fL:=Ah gy;clear gu gy;have HR1:=Ah hr1;have qn:=Ah hc1;clear hr1 hc1;have HB:=Ah (Ud w.heap.size w);have H:((eM.f k aA X aC aV aU).bind fun O6=>(if O6=true then((br.f k aA X aC l1).bind fun Yj=>(if Yj.2=true then((j8.f k aA X).bind fun El=>(jw.l0 k l1 (l1.length:Int) 0 El.1 El.2.1 El.2.2))else(some (0,([]:List (Y)),([]:List (Y)),0,([]:List (aJ)),false))))else(some (0,([]:List (Y)),([]:List (Y)),0,([]:List (aJ)),false))))=some (r1,r2,r3,r4,r5,r6):=h;clear h;replace H:=Gl.mp H;obtain⟨O6,dj,H⟩:=H
 try dsimp only at H
 have A3:=Ah dj;clear dj
 by_cases c4:O6=true
 rotate_left
 ·
  replace c4:=PT.mpr c4;subst c4;rw[if_neg dr]at H;simp only[Jh,Ue]at H;obtain⟨rfl,rfl,rfl,rfl,rfl,rfl⟩:=H
  go_enter Try.func19,Try.ntmps19
  go_wp2_with (first|((with_reducible refine ag (N:=2) rfl ?_);refine an 2 29 #[.int .i64 aA,.slice af X.length aa,.slice ab aC.length ac,.int .i64 aV,.slice bG aU.length bH] ?_;intro Yk hg w90 dS hb;have GW301:=gw hg (bs HB);have eQ:=gw hg (bs HB);replace HB:=Ah (aH (bs HB) hb);clear hb hg)|((with_reducible refine ag (N:=4) rfl ?_);refine an 4 29 #[.int .i64 0,.slice none 0 0,.slice none 0 0,.int .i64 0,.slice none 0 0] ?_;intro pz hg w91 dz hb;have GW302:=gw hg (aM HB eQ);have g5:=gw hg (aM HB eQ);replace HB:=Ah (aH (aM HB eQ) hb);have Do:=nn dS hg;have Dp:=nm dS hg;replace dS:=nb dS hb;clear hb hg;have Sn:=Do.out;have So:=Dp.out;obtain⟨Wn,Wo,hcz93_2,hcz93_3,hcz93_4⟩:=aj dS;obtain⟨Wp,Wq,hfz93_2,hfz93_3,hfz93_4⟩:=ai dS)|((with_reducible refine bY (f:=35) rfl ?_);refine gL (some 14) rfl rfl aaK (by kernel_rfl) rfl #[.agg #[.int .i64 aA,.slice af X.length aa,.slice ab aC.length ac,.int .i64 aV,.slice bG aU.length bH]] rfl ?_;(with_reducible refine(eM.calls k aA _ _ X _ _ aC aV _ _ aU false _ ?aZ ?ae ?ay ?bI ?cq ?d7 A3.out).mono ?_);(case aZ=>exact cb bo HB);(case ae=>exact cU.out);(case ay=>exact cb cn HB);(case bI=>exact co.out);(case cq=>exact cb fF HB);(case d7=>exact fL.out);rintro e w94 ⟨rfl,hb⟩;refine⟨_,rfl, ?_⟩;replace dS:=nb dS hb;replace dz:=nb dz hb;replace HB:=Ah (aH (am HB eQ g5) hb);(try clear hb);obtain⟨Wr,Ws,Wt,hcz95_3,hcz95_4⟩:=aj dz;obtain⟨Wu,Wv,Ww,hfz95_3,hfz95_4⟩:=ai dz))
  refine bodyPost_ret (iU rfl _ _ pz 29 #[.int .i64 0,.slice none 0 0,.slice none 0 0,.int .i64 0,.slice none 0 0] (0,0) _ rfl (pb dz) cp rfl (by kernel_rfl)) rfl ?_;exact⟨_,_,_,er,by first|exact Kd.be _ _ _ _ _|exact Kd.ce _ _ _ _ _|exact Kd.cf _ _ _ _ _|exact Kd.cZ _ _ _ _ _|exact Kd.ca _ _ _ _ _,by first|exact Kd.be _ _ _ _ _|exact Kd.ce _ _ _ _ _|exact Kd.cf _ _ _ _ _|exact Kd.cZ _ _ _ _ _|exact Kd.ca _ _ _ _ _,by first|exact Kd.be _ _ _ _ _|exact Kd.ce _ _ _ _ _|exact Kd.cf _ _ _ _ _|exact Kd.cZ _ _ _ _ _|exact Kd.ca _ _ _ _ _,am HB eQ g5⟩
 subst c4;rw[if_pos rfl]at H;replace H:=Gl.mp H;obtain⟨⟨t304,t305⟩,kI,H⟩:=H
 try dsimp only at H
 have A5:=Ah kI;clear kI
 by_cases c6:t305=true
 rotate_left
 ·
  replace c6:=PT.mpr c6;subst c6;rw[if_neg dr]at H;simp only[Jh,Ue]at H;obtain⟨rfl,rfl,rfl,rfl,rfl,rfl⟩:=H
  go_enter Try.func19,Try.ntmps19
  go_wp2_with (first|((with_reducible refine ag (N:=2) rfl ?_);refine an 2 29 #[.int .i64 aA,.slice af X.length aa,.slice ab aC.length ac,.int .i64 aV,.slice bG aU.length bH] ?_;intro Yk hg w82 dS hb;have GW301:=gw hg (bs HB);have eQ:=gw hg (bs HB);replace HB:=Ah (aH (bs HB) hb);clear hb hg)|((with_reducible refine ag (N:=4) rfl ?_);refine an 4 29 #[.int .i64 0,.slice none 0 0,.slice none 0 0,.int .i64 0,.slice none 0 0] ?_;intro pz hg w83 dz hb;have GW302:=gw hg (aM HB eQ);have g5:=gw hg (aM HB eQ);replace HB:=Ah (aH (aM HB eQ) hb);have Do:=nn dS hg;have Dp:=nm dS hg;replace dS:=nb dS hb;clear hb hg;have hnb84:=Do.out;have hnc84:=Dp.out;obtain⟨hcz85_0,hcz85_1,hcz85_2,hcz85_3,hcz85_4⟩:=aj dS;obtain⟨hfz85_0,hfz85_1,hfz85_2,hfz85_3,hfz85_4⟩:=ai dS)|((with_reducible refine bY (f:=35) rfl ?_);refine gL (some 14) rfl rfl aaK (by kernel_rfl) rfl #[.agg #[.int .i64 aA,.slice af X.length aa,.slice ab aC.length ac,.int .i64 aV,.slice bG aU.length bH]] rfl ?_;(with_reducible refine(eM.calls k aA _ _ X _ _ aC aV _ _ aU true _ ?aZ ?ae ?ay ?bI ?cq ?d7 A3.out).mono ?_);(case aZ=>exact cb bo HB);(case ae=>exact cU.out);(case ay=>exact cb cn HB);(case bI=>exact co.out);(case cq=>exact cb fF HB);(case d7=>exact fL.out);rintro e w86 ⟨rfl,hb⟩;refine⟨_,rfl, ?_⟩;replace dS:=nb dS hb;replace dz:=nb dz hb;replace HB:=Ah (aH (am HB eQ g5) hb);(try clear hb);obtain⟨hcz87_0,hcz87_1,hcz87_2,hcz87_3,hcz87_4⟩:=aj dS;obtain⟨hfz87_0,hfz87_1,hfz87_2,hfz87_3,hfz87_4⟩:=ai dS)|((with_reducible refine bY (f:=37) rfl ?_);refine gL (some 21) rfl rfl Try.func37 (by kernel_rfl) rfl #[.agg #[.int .i64 aA,.slice af X.length aa,.slice ab aC.length ac],.slice A1 l1.length c1] rfl ?_;(with_reducible refine(br.calls k aA _ _ X _ _ aC _ _ l1 t304 false _ ?aZ ?ae ?ay ?bI ?cq ?d7 A5.out).mono ?_);(case aZ=>exact cb bo HB);(case ae=>exact cU.out);(case ay=>exact cb cn HB);(case bI=>exact co.out);(case cq=>exact cb HR1 HB);(case d7=>exact qn.out);rintro e w88 ⟨rfl,hb⟩;refine⟨_,rfl, ?_⟩;replace dS:=nb dS hb;replace dz:=nb dz hb;replace HB:=Ah (aH (am HB eQ g5) hb);(try clear hb);obtain⟨hcz89_0,hcz89_1,hcz89_2,hcz89_3,hcz89_4⟩:=aj dz;obtain⟨hfz89_0,hfz89_1,hfz89_2,hfz89_3,hfz89_4⟩:=ai dz))
  refine bodyPost_ret (iU rfl _ _ pz 29 #[.int .i64 0,.slice none 0 0,.slice none 0 0,.int .i64 0,.slice none 0 0] (0,0) _ rfl (pb dz) cp rfl (by kernel_rfl)) rfl ?_;exact⟨_,_,_,er,by first|exact Kd.be _ _ _ _ _|exact Kd.ce _ _ _ _ _|exact Kd.cf _ _ _ _ _|exact Kd.cZ _ _ _ _ _|exact Kd.ca _ _ _ _ _,by first|exact Kd.be _ _ _ _ _|exact Kd.ce _ _ _ _ _|exact Kd.cf _ _ _ _ _|exact Kd.cZ _ _ _ _ _|exact Kd.ca _ _ _ _ _,by first|exact Kd.be _ _ _ _ _|exact Kd.ce _ _ _ _ _|exact Kd.cf _ _ _ _ _|exact Kd.cZ _ _ _ _ _|exact Kd.ca _ _ _ _ _,am HB eQ g5⟩
 subst c6;rw[if_pos rfl]at H;replace H:=Gl.mp H;obtain⟨⟨Tu,O7,O8⟩,kJ,H⟩:=H
 try dsimp only at H
 have A7:=Ah kJ;clear kJ;have H':=Ah H;clear H
 go_enter Try.func19,Try.ntmps19
 go_wp2_with (first|((with_reducible refine ag (N:=2) rfl ?_);refine an 2 29 #[.int .i64 aA,.slice af X.length aa,.slice ab aC.length ac,.int .i64 aV,.slice bG aU.length bH] ?_;intro Yk hg w8 dS hb;have GW301:=gw hg (bs HB);have eQ:=gw hg (bs HB);replace HB:=Ah (aH (bs HB) hb);clear hb hg)|((with_reducible refine ag (N:=4) rfl ?_);refine an 4 29 #[.int .i64 0,.slice none 0 0,.slice none 0 0,.int .i64 0,.slice none 0 0] ?_;intro pz hg w9 dz hb;have GW302:=gw hg (aM HB eQ);have g5:=gw hg (aM HB eQ);replace HB:=Ah (aH (aM HB eQ) hb);have Do:=nn dS hg;have Dp:=nm dS hg;replace dS:=nb dS hb;clear hb hg;have IW:=Do.out;have IX:=Dp.out;obtain⟨oO,oP,qx,sK,sL⟩:=aj dS;obtain⟨oQ,oR,qy,sM,sN⟩:=ai dS)|((with_reducible refine bY (f:=35) rfl ?_);refine gL (some 14) rfl rfl aaK (by kernel_rfl) rfl #[.agg #[.int .i64 aA,.slice af X.length aa,.slice ab aC.length ac,.int .i64 aV,.slice bG aU.length bH]] rfl ?_;(with_reducible refine(eM.calls k aA _ _ X _ _ aC aV _ _ aU true _ ?aZ ?ae ?ay ?bI ?cq ?d7 A3.out).mono ?_);(case aZ=>exact cb bo HB);(case ae=>exact cU.out);(case ay=>exact cb cn HB);(case bI=>exact co.out);(case cq=>exact cb fF HB);(case d7=>exact fL.out);rintro e ef ⟨rfl,hb⟩;refine⟨_,rfl, ?_⟩;replace dS:=nb dS hb;replace dz:=nb dz hb;replace HB:=Ah (aH (am HB eQ g5) hb);(try clear hb);obtain⟨oK,oL,qz,sS,sT⟩:=aj dS;obtain⟨oM,oN,r8,sU,sV⟩:=ai dS)|((with_reducible refine bY (f:=37) rfl ?_);refine gL (some 21) rfl rfl Try.func37 (by kernel_rfl) rfl #[.agg #[.int .i64 aA,.slice af X.length aa,.slice ab aC.length ac],.slice A1 l1.length c1] rfl ?_;(with_reducible refine(br.calls k aA _ _ X _ _ aC _ _ l1 t304 true _ ?aZ ?ae ?ay ?bI ?cq ?d7 A5.out).mono ?_);(case aZ=>exact cb bo HB);(case ae=>exact cU.out);(case ay=>exact cb cn HB);(case bI=>exact co.out);(case cq=>exact cb HR1 HB);(case d7=>exact qn.out);rintro e eL ⟨rfl,hb⟩;refine⟨_,rfl, ?_⟩;replace dS:=nb dS hb;replace dz:=nb dz hb;replace HB:=Ah (aH (am HB eQ g5) hb);(try clear hb);obtain⟨um,un,CI,EK,EL⟩:=aj dS;obtain⟨uo,uq,CJ,EM,EN⟩:=ai dS)|((with_reducible refine bY (f:=34) rfl ?_);refine gL (some 33) rfl rfl Try.func34 (by kernel_rfl) rfl #[.int .i64 aA,.slice af X.length aa] rfl ?_;(with_reducible refine(j8.calls k aA _ _ X Tu O7 O8 _ ?aZ ?ae A7.out).mono ?_);(case aZ=>exact cb bo HB);(case ae=>exact cU.out);rintro e w16 ⟨v308,v311,rfl,ho0,ho1,hb⟩;refine⟨_,rfl, ?_⟩;have Sy:=Ah (Kd.bR ho0 (bE (am HB eQ g5)));have Sz:=Ah (Kd.bR ho1 (bE (am HB eQ g5)));replace dS:=nb dS hb;replace dz:=nb dz hb;replace HB:=Ah (aH (am HB eQ g5) hb);(try clear hb ho0 ho1))|((with_reducible refine ag (N:=8) rfl ?_);refine an 8 26 #[.int .i64 0,.slice none 0 0,.slice none 0 0] ?_;intro tl hg de ft hb;replace Sy:=nr Sy hb;replace Sz:=nr Sz hb;have GW313:=gw hg (am HB eQ g5);have lD:=gw hg (am HB eQ g5);replace HB:=Ah (aH (am HB eQ g5) hb);have By:=nn dS hg;have QW:=nm dS hg;replace dS:=nb dS hb;have Bz:=nn dz hg;have QX:=nm dz hg;replace dz:=nb dz hb;clear hb hg;have T0:=QW.out;have T2:=By.out;have MB:=QX.out;have MC:=Bz.out;obtain⟨pn,po,qY⟩:=dE ft;obtain⟨pp,pq,qZ⟩:=dF ft;obtain⟨gQ,gR,o7⟩:=Kd.az Sy.out;subst o7;obtain⟨Ai,mz,yk⟩:=Kd.az Sz.out;subst yk))
 go_loopg [36] k (fun kq v36 w'=>∃ (fG:Int) (QY:Int) (QZ:Int) (uX:Int) (pk:List (Y)) (pG:List (Y)) (Ko:Value) (Kp:Value),v36= .int .i64 fG∧Z (jw.l0 kq l1 (l1.length:Int) fG uX pk pG=some (r1,r2,r3,r4,r5,r6))∧Z (kq≤k)∧Z (Kd.R aT 45 w' w.heap.size (fun k_=>some k_≠(Kp:Value).ownBlock) Ko pk)∧Z (Kd.R aT 45 w' w.heap.size (fun k_=>some k_≠(Ko:Value).ownBlock) Kp pG)∧Z (w'.heap[Yk]?=some (.cells #[.int .i64 aA,(.slice af X.length aa),(.slice ab aC.length ac),.int .i64 aV,(.slice bG aU.length bH)] 29 (0,0)))∧Z (w'.heap[pz]?=some (.cells #[.int .i64 QY,(.slice none 0 0),(.slice none 0 0),.int .i64 QZ,(.slice none 0 0)] 29 (0,0)))∧Z (w'.heap[tl]?=some (.cells #[.int .i64 uX,Ko,Kp] 26 (0,0)))∧Z (Below w.heap.size w w'))
 case atStart=>exact⟨(0),(0),(0),(Tu),(O7),(O8),(.slice gQ O7.length gR),(.slice Ai O8.length mz),e3,H',⟨QQ _⟩,⟨by(with_reducible repeat(first|apply Kd.bd|apply Kd.bZ|apply Kd.bQ));exact Kd.ax (Kd.aK (p:=⟨tl,2,none⟩) (Kd.aK (p:=⟨tl,1,none⟩) (Kd.aK (p:=⟨tl,0,none⟩) (Kd.dU Sy.out ft.out (by decide)) (fun _ hk=>hk.2) (.int .i64 Tu)) (fun _ hk=>hk.2) (.slice gQ O7.length gR)) (fun _ hk=>hk.2) (.slice Ai O8.length mz)) (fun _ hk=>hk.1)⟩,⟨by(with_reducible repeat(first|apply Kd.bd|apply Kd.bZ|apply Kd.bQ));exact Kd.ax (Kd.aK (p:=⟨tl,2,none⟩) (Kd.aK (p:=⟨tl,1,none⟩) (Kd.aK (p:=⟨tl,0,none⟩) (Kd.dU Sz.out ft.out (by decide)) (fun _ hk=>hk.2) (.int .i64 Tu)) (fun _ hk=>hk.2) (.slice gQ O7.length gR)) (fun _ hk=>hk.2) (.slice Ai O8.length mz)) (fun _ hk=>hk.1)⟩,⟨bf dS By⟩,⟨bf dz Bz⟩,⟨by exact pb ft⟩,⟨aw HB eQ g5 lD⟩⟩
 case round=>
  clear H'
  try clear c1
  try clear p2
  try clear c3
  try clear c4
  try clear c6
  try clear c10
  try clear c18
  try clear c19
  try clear oO oP qx sK sL
  try clear oK oL qz sS sT
  try clear um un CI EK EL
  try clear pn po qY
  try clear oQ oR qy sM sN
  try clear oM oN r8 sU sV
  try clear uo uq CJ EM EN
  try clear pp pq qZ
  obtain⟨fG,QY,QZ,uX,pk,pG,Ko,Kp,rfl,HA,bi,ka,kb,dS,dz,ft,HB⟩:=hrel
  cases gk with
  |zero=>exact absurd HA.out (by simp[jw.l0])
  |succ k1=>
   have H:=HA.out;clear HA;simp only[jw.l0]at H
   by_cases c23:fG<(l1.length:Int)
   rotate_left
   ·
    rw[if_neg c23]at H;have c23b0:=dn c23;clear c23;simp only[Jh,Ue]at H;obtain⟨rfl,rfl,rfl,rfl,rfl,rfl⟩:=H;have YU:=QW.out;have YV:=By.out;have hnb76:=QX.out;have hnc76:=Bz.out;obtain⟨hcz77_0,hcz77_1,hcz77_2⟩:=dE ft;obtain⟨hfz77_0,hfz77_1,hfz77_2⟩:=dF ft;obtain⟨a0g,a0h,eo78⟩:=Kd.az kb.out;subst eo78;obtain⟨a0i,a0j,eo79⟩:=Kd.az ka.out;subst eo79;have hnb80:=Dp.out;have hnc80:=Do.out;obtain⟨hcz81_0,hcz81_1,hcz81_2,hcz81_3,hcz81_4⟩:=aj dz;obtain⟨hfz81_0,hfz81_1,hfz81_2,hfz81_3,hfz81_4⟩:=ai dz
    go_wp2
    refine bodyPost_ret (iU rfl _ _ pz 29 #[.int .i64 uX,.slice a0i pk.length a0j,.slice a0g pG.length a0h,.int .i64 1,.slice none 0 0] (0,0) _ rfl (pb dz) cp rfl (by kernel_rfl)) rfl ?_;exact⟨_,_,_,er,by(with_reducible repeat(first|apply Kd.bd|apply Kd.bZ|apply Kd.bQ));exact Kd.ax (Kd.aK (p:=⟨pz,4,none⟩) (Kd.aK (p:=⟨pz,3,none⟩) (Kd.aK (p:=⟨pz,2,none⟩) (Kd.aK (p:=⟨pz,1,none⟩) (Kd.aK (p:=⟨pz,0,none⟩) (Kd.dU ka.out dz.out (by decide)) (fun _ hk=>hk.2) (.int .i64 uX)) (fun _ hk=>hk.2) (.slice a0i pk.length a0j)) (fun _ hk=>hk.2) (.slice a0g pG.length a0h)) (fun _ hk=>hk.2) (.int .i64 1)) (fun _ hk=>hk.2) (.slice none 0 0)) (fun _ hk=>hk.1),by(with_reducible repeat(first|apply Kd.bd|apply Kd.bZ|apply Kd.bQ));exact Kd.ax (Kd.aK (p:=⟨pz,4,none⟩) (Kd.aK (p:=⟨pz,3,none⟩) (Kd.aK (p:=⟨pz,2,none⟩) (Kd.aK (p:=⟨pz,1,none⟩) (Kd.aK (p:=⟨pz,0,none⟩) (Kd.dU kb.out dz.out (by decide)) (fun _ hk=>hk.2) (.int .i64 uX)) (fun _ hk=>hk.2) (.slice a0i pk.length a0j)) (fun _ hk=>hk.2) (.slice a0g pG.length a0h)) (fun _ hk=>hk.2) (.int .i64 1)) (fun _ hk=>hk.2) (.slice none 0 0)) (fun _ hk=>hk.1),by first|exact Kd.be _ _ _ _ _|exact Kd.ce _ _ _ _ _|exact Kd.cf _ _ _ _ _|exact Kd.cZ _ _ _ _ _|exact Kd.ca _ _ _ _ _,aw HB eQ g5 lD⟩
   rw[if_pos c23]at H;have c23b0:=bJ c23;clear c23
   by_cases c24:0≤fG
   rotate_left
   ·
    rw[if_neg c24]at H;exact absurd H (by simp)
   rw[if_pos c24]at H;have IV:=bJ c24;clear c24
   by_cases tB:fG<(l1.length:Int)
   rotate_left
   ·
    rw[if_neg tB]at H;exact absurd H (by simp)
   rw[if_pos tB]at H;have Sm:=bJ tB;clear tB
   by_cases BP:((U l1 fG).f0)=1
   rotate_left
   ·
    rw[if_neg BP]at H;have c26b0:=fS BP;have c26b1:=fT BP;have H':=Ah H;clear H;have xA:0≤(fG:Int):=od;have xB:fG<(l1.length:Int):=od;obtain⟨ad314,e314,CK,CL,CM,CN,CO⟩:=eC HR1.out fG xA xB
    cases e314
    replace CK:=hq HB CK;replace CL:=hq HB CL;replace CM:=hq HB CM;replace CN:=hq HB CN;replace CO:=hq HB CO;replace xA:=eq_true xA;replace xB:=eq_true xB
    go_wp2_with (first|((with_reducible refine ag (N:=10) rfl ?_);refine an 10 66 #[.int .i64 0,.int .i64 0,.int .i64 0,.int .i64 0,.int .i64 0] ?_;intro sd hg w70 gz hb;replace ka:=nr ka hb;replace kb:=nr kb hb;have GW315:=gw hg (aw HB eQ g5 lD);have qA:=gw hg (aw HB eQ g5 lD);replace HB:=Ah (aH (aw HB eQ g5 lD) hb);have C0:=nn dS hg;have Jr:=nm dS hg;replace dS:=nb dS hb;have C2:=nn dz hg;have Js:=nm dz hg;replace dz:=nb dz hb;have C3:=nn ft hg;have Jt:=nm ft hg;replace ft:=nb ft hb;clear hb hg;have T3:=Jr.out;have T4:=C0.out;have hnb72:=Js.out;have hnc72:=C2.out;have hnb73:=Jt.out;have hnc73:=C3.out;obtain⟨hcz74_0,hcz74_1,hcz74_2,hcz74_3,hcz74_4⟩:=aj gz;obtain⟨hfz74_0,hfz74_1,hfz74_2,hfz74_3,hfz74_4⟩:=ai gz))
    go_roundg k1
    case measure=>have:=bi.out;omega
    case rel=>exact⟨(Gj (fG+1)),(QY),(QZ),(uX),(pk),(pG),(Ko),(Kp),e3,H',⟨by have:=bi.out;omega⟩,⟨by(with_reducible repeat(first|apply Kd.bd|apply Kd.bZ|apply Kd.bQ));exact Kd.ax (Kd.aK (p:=⟨sd,4,none⟩) (Kd.aK (p:=⟨sd,3,none⟩) (Kd.aK (p:=⟨sd,2,none⟩) (Kd.aK (p:=⟨sd,1,none⟩) (Kd.aK (p:=⟨sd,0,none⟩) (Kd.dU ka.out gz.out (by decide)) (fun _ hk=>hk.2) (.int .i64 ((U l1 fG).f0))) (fun _ hk=>hk.2) (.int .i64 ((U l1 fG).f1))) (fun _ hk=>hk.2) (.int .i64 ((U l1 fG).f2.f0))) (fun _ hk=>hk.2) (.int .i64 ((U l1 fG).f2.f1))) (fun _ hk=>hk.2) (.int .i64 ((U l1 fG).f3))) (fun _ hk=>hk.1)⟩,⟨by(with_reducible repeat(first|apply Kd.bd|apply Kd.bZ|apply Kd.bQ));exact Kd.ax (Kd.aK (p:=⟨sd,4,none⟩) (Kd.aK (p:=⟨sd,3,none⟩) (Kd.aK (p:=⟨sd,2,none⟩) (Kd.aK (p:=⟨sd,1,none⟩) (Kd.aK (p:=⟨sd,0,none⟩) (Kd.dU kb.out gz.out (by decide)) (fun _ hk=>hk.2) (.int .i64 ((U l1 fG).f0))) (fun _ hk=>hk.2) (.int .i64 ((U l1 fG).f1))) (fun _ hk=>hk.2) (.int .i64 ((U l1 fG).f2.f0))) (fun _ hk=>hk.2) (.int .i64 ((U l1 fG).f2.f1))) (fun _ hk=>hk.2) (.int .i64 ((U l1 fG).f3))) (fun _ hk=>hk.1)⟩,⟨bf dS C0⟩,⟨bf dz C2⟩,⟨bf ft C3⟩,⟨bq HB eQ g5 lD qA⟩⟩
   rw[if_pos BP]at H;have c26b0:=fU BP;have c26b1:=fV BP;clear BP;replace H:=Gl.mp H;obtain⟨⟨Ak,Al,D0,t323⟩,A270,H⟩:=H
   try dsimp only at H
   have A27:=Ah A270;clear A270
   by_cases c28:t323=true
   rotate_left
   ·
    replace c28:=PT.mpr c28;subst c28;rw[if_neg dr]at H;simp only[Jh,Ue]at H;obtain⟨rfl,rfl,rfl,rfl,rfl,rfl⟩:=H;have xA:0≤(fG:Int):=od;have xB:fG<(l1.length:Int):=od;obtain⟨ad314,e314,CK,CL,CM,CN,CO⟩:=eC HR1.out fG xA xB
    cases e314
    replace CK:=hq HB CK;replace CL:=hq HB CL;replace CM:=hq HB CM;replace CN:=hq HB CN;replace CO:=hq HB CO;replace xA:=eq_true xA;replace xB:=eq_true xB
    go_wp2_with (first|((with_reducible refine ag (N:=10) rfl ?_);refine an 10 66 #[.int .i64 0,.int .i64 0,.int .i64 0,.int .i64 0,.int .i64 0] ?_;intro sd hg w49 gz hb;replace ka:=nr ka hb;replace kb:=nr kb hb;have GW315:=gw hg (aw HB eQ g5 lD);have qA:=gw hg (aw HB eQ g5 lD);replace HB:=Ah (aH (aw HB eQ g5 lD) hb);have C0:=nn dS hg;have Jr:=nm dS hg;replace dS:=nb dS hb;have C2:=nn dz hg;have Js:=nm dz hg;replace dz:=nb dz hb;have C3:=nn ft hg;have Jt:=nm ft hg;replace ft:=nb ft hb;clear hb hg;have hnb50:=Jr.out;have hnc50:=C0.out;have Ye:=Js.out;have Yf:=C2.out;have hnb52:=Jt.out;have hnc52:=C3.out;obtain⟨RK,RL,hcz53_2,hcz53_3,hcz53_4⟩:=aj gz;obtain⟨RM,RN,hfz53_2,hfz53_3,hfz53_4⟩:=ai gz;have hnb54:=QW.out;have hnc54:=By.out;have hnb55:=QX.out;have hnc55:=Bz.out;obtain⟨hcz56_0,hcz56_1,hcz56_2⟩:=dE ft;obtain⟨hfz56_0,hfz56_1,hfz56_2⟩:=dF ft;obtain⟨O9,FR,a0k⟩:=Kd.az ka.out;subst a0k;obtain⟨yl,xC,Tv⟩:=Kd.az kb.out;subst Tv)|((with_reducible refine bY (f:=38) rfl ?_);refine gL (some 47) rfl rfl Try.func38 (by kernel_rfl) rfl #[.agg #[.int .i64 uX,.slice O9 pk.length FR,.slice yl pG.length xC],.agg #[.int .i64 ((U l1 fG).f2.f0),.int .i64 ((U l1 fG).f2.f1)]] rfl ?_;(with_reducible refine(dC.calls k1 uX _ _ pk _ _ pG ((U l1 fG).f2.f0) ((U l1 fG).f2.f1) Ak Al D0 false _ ?aZ ?ae ?ay ?bI A27.out).mono ?_);(case aZ=>refine(Kd.aY (e:=45) (base:=w.heap.size) (ok:=fun k_=>some k_≠(.slice yl pG.length xC:Value).ownBlock) (n:=pk.length) (c:=FR) ?_).2.2;exact(rf ka gz));(case ae=>exact(Kd.aY ka.out).2.1);(case ay=>refine(Kd.aY (e:=45) (base:=w.heap.size) (ok:=fun k_=>some k_≠(.slice O9 pk.length FR:Value).ownBlock) (n:=pG.length) (c:=xC) ?_).2.2;exact(rf kb gz));(case bI=>exact(Kd.aY kb.out).2.1);rintro e w59 ⟨v318,v321,rfl,ho0,ho1,hb⟩;refine⟨_,rfl, ?_⟩;have Ch:=Ah (Kd.bR (Kd.k9 (Kd.k9 ho0 (Kd.i4 (rf ka gz))) (Kd.i4 (rf kb gz))) (bE (bq HB eQ g5 lD qA)));have Ci:=Ah (Kd.bR (Kd.k9 (Kd.k9 ho1 (Kd.i4 (rf ka gz))) (Kd.i4 (rf kb gz))) (bE (bq HB eQ g5 lD qA)));replace ka:=Ah (Kd.ax (Kd.nl (Kd.nl (Kd.yY (rf ka gz) hb) (Kd.jK ho0)) (Kd.jK ho1)) (fun _ h_=>h_.1));replace kb:=Ah (Kd.ax (Kd.nl (Kd.nl (Kd.yY (rf kb gz) hb) (Kd.jK ho0)) (Kd.jK ho1)) (fun _ h_=>h_.1));replace dS:=Ah (bT (bf dS C0) hb);replace dz:=Ah (bT (bf dz C2) hb);replace ft:=Ah (bT (bf ft C3) hb);replace gz:=Ah (bT (g:=sd) (o:= .cells #[.int .i64 ((U l1 fG).f0),.int .i64 ((U l1 fG).f1),.int .i64 ((U l1 fG).f2.f0),.int .i64 ((U l1 fG).f2.f1),.int .i64 ((U l1 fG).f3)] 66 (0,0)) (pb gz) hb);replace HB:=Ah (aH (bq HB eQ g5 lD qA) hb);(try clear hb hk ho0 ho1))|((with_reducible refine ag (N:=11) rfl ?_);refine an 11 26 #[.int .i64 0,.slice none 0 0,.slice none 0 0] ?_;intro Em hg w60 En hb;replace ka:=nr ka hb;replace kb:=nr kb hb;replace Ch:=nr Ch hb;replace Ci:=nr Ci hb;have GW324:=gw hg (bq HB eQ g5 lD qA);have Yl:=gw hg (bq HB eQ g5 lD qA);replace HB:=Ah (aH (bq HB eQ g5 lD qA) hb);have Gq:=nn dS hg;have V5:=nm dS hg;replace dS:=nb dS hb;have Dq:=nn dz hg;have V6:=nm dz hg;replace dz:=nb dz hb;have Gr:=nn ft hg;have V7:=nm ft hg;replace ft:=nb ft hb;have V8:=nn gz hg;have V9:=nm gz hg;replace gz:=nb gz hb;clear hb hg;have hnb61:=V5.out;have hnc61:=Gq.out;have MM:=V6.out;have MN:=Dq.out;have hnb63:=V7.out;have hnc63:=Gr.out;have hnb64:=V9.out;have hnc64:=V8.out;obtain⟨hcz65_0,hcz65_1,hcz65_2⟩:=dE En;obtain⟨hfz65_0,hfz65_1,hfz65_2⟩:=dF En;obtain⟨Ao66,co66,eo66⟩:=Kd.az Ch.out;subst eo66;obtain⟨Tw,Tx,a0l⟩:=Kd.az Ci.out;subst a0l;have hnb68:=Dp.out;have hnc68:=Do.out;obtain⟨hcz69_0,hcz69_1,hcz69_2,hcz69_3,hcz69_4⟩:=aj dz;obtain⟨hfz69_0,hfz69_1,hfz69_2,hfz69_3,hfz69_4⟩:=ai dz))
    refine bodyPost_ret (iU rfl _ _ pz 29 #[.int .i64 0,.slice none 0 0,.slice none 0 0,.int .i64 0,.slice none 0 0] (0,0) _ rfl (B4 dz Dq) cp rfl (by kernel_rfl)) rfl ?_;exact⟨_,_,_,er,by first|exact Kd.be _ _ _ _ _|exact Kd.ce _ _ _ _ _|exact Kd.cf _ _ _ _ _|exact Kd.cZ _ _ _ _ _|exact Kd.ca _ _ _ _ _,by first|exact Kd.be _ _ _ _ _|exact Kd.ce _ _ _ _ _|exact Kd.cf _ _ _ _ _|exact Kd.cZ _ _ _ _ _|exact Kd.ca _ _ _ _ _,by first|exact Kd.be _ _ _ _ _|exact Kd.ce _ _ _ _ _|exact Kd.cf _ _ _ _ _|exact Kd.cZ _ _ _ _ _|exact Kd.ca _ _ _ _ _,xX HB eQ g5 lD qA Yl⟩
   subst c28;rw[if_pos rfl]at H;have H':=Ah H;clear H;have xA:0≤(fG:Int):=od;have xB:fG<(l1.length:Int):=od;obtain⟨ad314,e314,CK,CL,CM,CN,CO⟩:=eC HR1.out fG xA xB
   cases e314
   replace CK:=hq HB CK;replace CL:=hq HB CL;replace CM:=hq HB CM;replace CN:=hq HB CN;replace CO:=hq HB CO;replace xA:=eq_true xA;replace xB:=eq_true xB
   go_wp2_with (first|((with_reducible refine ag (N:=10) rfl ?_);refine an 10 66 #[.int .i64 0,.int .i64 0,.int .i64 0,.int .i64 0,.int .i64 0] ?_;intro sd hg DJ gz hb;replace ka:=nr ka hb;replace kb:=nr kb hb;have GW315:=gw hg (aw HB eQ g5 lD);have qA:=gw hg (aw HB eQ g5 lD);replace HB:=Ah (aH (aw HB eQ g5 lD) hb);have C0:=nn dS hg;have Jr:=nm dS hg;replace dS:=nb dS hb;have C2:=nn dz hg;have Js:=nm dz hg;replace dz:=nb dz hb;have C3:=nn ft hg;have Jt:=nm ft hg;replace ft:=nb ft hb;clear hb hg;have hnb30:=Jr.out;have hnc30:=C0.out;have hnb31:=Js.out;have hnc31:=C2.out;have MO:=Jt.out;have MP:=C3.out;obtain⟨EO,EP,Hh,Hi,Hj⟩:=aj gz;obtain⟨EQ,ER,Hk,Hl,Hm⟩:=ai gz;have IY:=QW.out;have IZ:=By.out;have MF:=QX.out;have MG:=Bz.out;obtain⟨EA,EB,HL⟩:=dE ft;obtain⟨EG,EH,HY⟩:=dF ft;obtain⟨Ty,OA,eo37⟩:=Kd.az ka.out;subst eo37;obtain⟨nH,lW,Ag⟩:=Kd.az kb.out;subst Ag)|((with_reducible refine bY (f:=38) rfl ?_);refine gL (some 47) rfl rfl Try.func38 (by kernel_rfl) rfl #[.agg #[.int .i64 uX,.slice Ty pk.length OA,.slice nH pG.length lW],.agg #[.int .i64 ((U l1 fG).f2.f0),.int .i64 ((U l1 fG).f2.f1)]] rfl ?_;(with_reducible refine(dC.calls k1 uX _ _ pk _ _ pG ((U l1 fG).f2.f0) ((U l1 fG).f2.f1) Ak Al D0 true _ ?aZ ?ae ?ay ?bI A27.out).mono ?_);(case aZ=>refine(Kd.aY (e:=45) (base:=w.heap.size) (ok:=fun k_=>some k_≠(.slice nH pG.length lW:Value).ownBlock) (n:=pk.length) (c:=OA) ?_).2.2;exact(rf ka gz));(case ae=>exact(Kd.aY ka.out).2.1);(case ay=>refine(Kd.aY (e:=45) (base:=w.heap.size) (ok:=fun k_=>some k_≠(.slice Ty pk.length OA:Value).ownBlock) (n:=pG.length) (c:=lW) ?_).2.2;exact(rf kb gz));(case bI=>exact(Kd.aY kb.out).2.1);rintro e Pr ⟨v318,v321,rfl,ho0,ho1,hb⟩;refine⟨_,rfl, ?_⟩;have Ch:=Ah (Kd.bR (Kd.k9 (Kd.k9 ho0 (Kd.i4 (rf ka gz))) (Kd.i4 (rf kb gz))) (bE (bq HB eQ g5 lD qA)));have Ci:=Ah (Kd.bR (Kd.k9 (Kd.k9 ho1 (Kd.i4 (rf ka gz))) (Kd.i4 (rf kb gz))) (bE (bq HB eQ g5 lD qA)));replace ka:=Ah (Kd.ax (Kd.nl (Kd.nl (Kd.yY (rf ka gz) hb) (Kd.jK ho0)) (Kd.jK ho1)) (fun _ h_=>h_.1));replace kb:=Ah (Kd.ax (Kd.nl (Kd.nl (Kd.yY (rf kb gz) hb) (Kd.jK ho0)) (Kd.jK ho1)) (fun _ h_=>h_.1));replace dS:=Ah (bT (bf dS C0) hb);replace dz:=Ah (bT (bf dz C2) hb);replace ft:=Ah (bT (bf ft C3) hb);replace gz:=Ah (bT (g:=sd) (o:= .cells #[.int .i64 ((U l1 fG).f0),.int .i64 ((U l1 fG).f1),.int .i64 ((U l1 fG).f2.f0),.int .i64 ((U l1 fG).f2.f1),.int .i64 ((U l1 fG).f3)] 66 (0,0)) (pb gz) hb);replace HB:=Ah (aH (bq HB eQ g5 lD qA) hb);(try clear hb hk ho0 ho1))|((with_reducible refine ag (N:=11) rfl ?_);refine an 11 26 #[.int .i64 0,.slice none 0 0,.slice none 0 0] ?_;intro Em hg UP En hb;replace ka:=nr ka hb;replace kb:=nr kb hb;replace Ch:=nr Ch hb;replace Ci:=nr Ci hb;have GW324:=gw hg (bq HB eQ g5 lD qA);have Yl:=gw hg (bq HB eQ g5 lD qA);replace HB:=Ah (aH (bq HB eQ g5 lD qA) hb);have Gq:=nn dS hg;have V5:=nm dS hg;replace dS:=nb dS hb;have Dq:=nn dz hg;have V6:=nm dz hg;replace dz:=nb dz hb;have Gr:=nn ft hg;have V7:=nm ft hg;replace ft:=nb ft hb;have V8:=nn gz hg;have V9:=nm gz hg;replace gz:=nb gz hb;clear hb hg;have MJ:=V5.out;have MK:=Gq.out;have hnb42:=V6.out;have hnc42:=Dq.out;have hnb43:=V7.out;have hnc43:=Gr.out;have Yc:=V9.out;have Yd:=V8.out;obtain⟨HM,HU,HV⟩:=dE En;obtain⟨HZ,Ha,Hb⟩:=dF En;obtain⟨rP,rQ,OB⟩:=Kd.az Ch.out;subst OB;obtain⟨rR,rS,OC⟩:=Kd.az Ci.out;subst OC;obtain⟨hcz48_0,hcz48_1,hcz48_2⟩:=dE ft;obtain⟨hfz48_0,hfz48_1,hfz48_2⟩:=dF ft))
   go_roundg k1
   case measure=>have:=bi.out;omega
   case rel=>exact⟨(Gj (fG+1)),(QY),(QZ),(Ak),(Al),(D0),(.slice rP Al.length rQ),(.slice rR D0.length rS),e3,H',⟨by have:=bi.out;omega⟩,⟨by(with_reducible repeat(first|apply Kd.bd|apply Kd.bZ|apply Kd.bQ));exact Kd.ax (Kd.aK (p:=⟨tl,2,none⟩) (Kd.aK (p:=⟨tl,1,none⟩) (Kd.aK (p:=⟨tl,0,none⟩) (Kd.aK (p:=⟨Em,2,none⟩) (Kd.aK (p:=⟨Em,1,none⟩) (Kd.aK (p:=⟨Em,0,none⟩) (Kd.dU (Kd.dU Ch.out En.out (by decide)) ft.out (by decide)) (fun _ hk=>hk.1.2) (.int .i64 Ak)) (fun _ hk=>hk.1.2) (.slice rP Al.length rQ)) (fun _ hk=>hk.1.2) (.slice rR D0.length rS)) (fun _ hk=>hk.2) (.int .i64 Ak)) (fun _ hk=>hk.2) (.slice rP Al.length rQ)) (fun _ hk=>hk.2) (.slice rR D0.length rS)) (fun _ hk=>hk.1.1.1.1)⟩,⟨by(with_reducible repeat(first|apply Kd.bd|apply Kd.bZ|apply Kd.bQ));exact Kd.ax (Kd.aK (p:=⟨tl,2,none⟩) (Kd.aK (p:=⟨tl,1,none⟩) (Kd.aK (p:=⟨tl,0,none⟩) (Kd.aK (p:=⟨Em,2,none⟩) (Kd.aK (p:=⟨Em,1,none⟩) (Kd.aK (p:=⟨Em,0,none⟩) (Kd.dU (Kd.dU Ci.out En.out (by decide)) ft.out (by decide)) (fun _ hk=>hk.1.2) (.int .i64 Ak)) (fun _ hk=>hk.1.2) (.slice rP Al.length rQ)) (fun _ hk=>hk.1.2) (.slice rR D0.length rS)) (fun _ hk=>hk.2) (.int .i64 Ak)) (fun _ hk=>hk.2) (.slice rP Al.length rQ)) (fun _ hk=>hk.2) (.slice rR D0.length rS)) (fun _ hk=>hk.1.1.1.1)⟩,⟨by(with_reducible repeat(first|refine ex ?_ _|refine cY ?_|refine ew ?_ _));refine gY ?_ By.out _;(with_reducible repeat(first|refine ex ?_ _|refine cY ?_|refine ew ?_ _));refine gY ?_ By.out _;(with_reducible repeat(first|refine ex ?_ _|refine cY ?_|refine ew ?_ _));refine gY ?_ By.out _;(with_reducible repeat(first|refine ex ?_ _|refine cY ?_|refine ew ?_ _));refine gY ?_ Gq.out _;(with_reducible repeat(first|refine ex ?_ _|refine cY ?_|refine ew ?_ _));refine gY ?_ Gq.out _;(with_reducible repeat(first|refine ex ?_ _|refine cY ?_|refine ew ?_ _));refine gY ?_ Gq.out _;exact bk dS⟩,⟨by(with_reducible repeat(first|refine ex ?_ _|refine cY ?_|refine ew ?_ _));refine gY ?_ Bz.out _;(with_reducible repeat(first|refine ex ?_ _|refine cY ?_|refine ew ?_ _));refine gY ?_ Bz.out _;(with_reducible repeat(first|refine ex ?_ _|refine cY ?_|refine ew ?_ _));refine gY ?_ Bz.out _;(with_reducible repeat(first|refine ex ?_ _|refine cY ?_|refine ew ?_ _));refine gY ?_ Dq.out _;(with_reducible repeat(first|refine ex ?_ _|refine cY ?_|refine ew ?_ _));refine gY ?_ Dq.out _;(with_reducible repeat(first|refine ex ?_ _|refine cY ?_|refine ew ?_ _));refine gY ?_ Dq.out _;exact bk dz⟩,⟨by(with_reducible repeat(first|refine ex ?_ _|refine cY ?_|refine ew ?_ _));refine zV (cs:= #[.int .i64 Ak,.slice rP Al.length rQ,.slice nH pG.length lW]) ?_ 2 _ rfl;(with_reducible repeat(first|refine ex ?_ _|refine cY ?_|refine ew ?_ _));refine zV (cs:= #[.int .i64 Ak,.slice Ty pk.length OA,.slice nH pG.length lW]) ?_ 1 _ rfl;(with_reducible repeat(first|refine ex ?_ _|refine cY ?_|refine ew ?_ _));refine zV (cs:= #[.int .i64 uX,.slice Ty pk.length OA,.slice nH pG.length lW]) ?_ 0 _ rfl;(with_reducible repeat(first|refine ex ?_ _|refine cY ?_|refine ew ?_ _));refine gY ?_ Gr.out _;(with_reducible repeat(first|refine ex ?_ _|refine cY ?_|refine ew ?_ _));refine gY ?_ Gr.out _;(with_reducible repeat(first|refine ex ?_ _|refine cY ?_|refine ew ?_ _));refine gY ?_ Gr.out _;exact bk ft⟩,⟨xX HB eQ g5 lD qA Yl⟩⟩
def Je.f(aA:Int)(bN:Int):Option (Int×Int):=some (aA,bN)
theorem Je.calls(aA:Int)(bN:Int)(r1:Int)(r2:Int)(w:World)(h:Je.f aA bN=some (r1,r2)):
 Calls Uf 39 #[.agg #[.int .i64 aA,.int .i64 bN]] w fun e w'=>e= .returned (.agg #[.int .i64 r1,.int .i64 r2])∧Below w.heap.size w w':=by
 have hu54:=Try.underlying54;have jT:=fk;have HB:=Ah (Ud w.heap.size w);have H:(some (aA,bN))=some (r1,r2):=h;clear h;simp only[Jh,Ue]at H;obtain⟨rfl,rfl⟩:=H
 go_enter Try.func39,Try.ntmps39
 go_wp2_with (first|((with_reducible refine ag (N:=1) rfl ?_);refine an 1 54 #[.int .i64 aA,.int .i64 bN] ?_;intro gb411 hg w2 ya hb;have GW411:=gw hg (bs HB);have Eo:=gw hg (bs HB);replace HB:=Ah (aH (bs HB) hb);clear hb hg)|((with_reducible refine ag (N:=2) rfl ?_);refine an 2 45 #[.int .i64 0,.int .i64 0] ?_;intro gb412 hg w3 Ep hb;have GW412:=gw hg (aM HB Eo);have T5:=gw hg (aM HB Eo);replace HB:=Ah (aH (aM HB Eo) hb);have NB411_412:=nn ya hg;have NB412_411:=nm ya hg;replace ya:=nb ya hb;clear hb hg)|((with_reducible refine ag (N:=3) rfl ?_);refine an 3 45 #[.int .i64 0,.int .i64 0] ?_;intro gb413 hg w4 BK413 hb;have GW413:=gw hg (am HB Eo T5);have GE413:=gw hg (am HB Eo T5);replace HB:=Ah (aH (am HB Eo T5) hb);have NB411_413:=nn ya hg;have NB413_411:=nm ya hg;replace ya:=nb ya hb;have NB412_413:=nn Ep hg;have NB413_412:=nm Ep hg;replace Ep:=nb Ep hb;clear hb hg;have hnb5:=NB411_412.out;have hnc5:=NB412_411.out;have Nw:=NB411_413.out;have Nx:=NB413_411.out;obtain⟨pr,pt⟩:=cg ya;obtain⟨pu,pv⟩:=ch ya;have a0m:=NB413_412.out;have a0n:=NB412_413.out;obtain⟨rD,rE⟩:=cg BK413;obtain⟨rF,rG⟩:=ch BK413;obtain⟨tY,tZ⟩:=cg Ep;obtain⟨ta,tb⟩:=ch Ep))
 refine bodyPost_ret (results_cell_row rfl _ _ gb412 45 #[.int .i64 aA,.int .i64 bN] (0,0) _ rfl (B4 Ep NB412_413) fk rfl (by kernel_rfl)) rfl ?_;exact⟨er,aw HB Eo T5 GE413⟩
def QE.f(aA:Int)(bN:Int)(eI:Int)(aV:Int)(iG:Int):Option (Int×Int×Int×Int×Int):=(Je.f bN eI).bind fun MQ=>(some (aA,MQ.1,MQ.2,aV,iG))
theorem QE.calls(aA:Int)(bN:Int)(eI:Int)(aV:Int)(iG:Int)(r1:Int)(r2:Int)(r3:Int)(r4:Int)(r5:Int)(w:World)(h:QE.f aA bN eI aV iG=some (r1,r2,r3,r4,r5)):
 Calls Uf 21 #[.agg #[.int .i64 aA,.int .i64 bN,.int .i64 eI,.int .i64 aV,.int .i64 iG]] w fun e w'=>e= .returned (.agg #[.int .i64 r1,.int .i64 r2,.int .i64 r3,.int .i64 r4,.int .i64 r5])∧Below w.heap.size w w':=by
 have hu56:=Try.underlying56;have a0o:=aaB;have hu54:=Try.underlying54;have jT:=fk;have HB:=Ah (Ud w.heap.size w);have H:((Je.f bN eI).bind fun MQ=>(some (aA,MQ.1,MQ.2,aV,iG)))=some (r1,r2,r3,r4,r5):=h;clear h;replace H:=Gl.mp H;obtain⟨⟨t417,t418⟩,lq,H⟩:=H
 try dsimp only at H
 have A2:=Ah lq;clear lq;simp only[Jh,Ue]at H;obtain⟨rfl,rfl,rfl,rfl,rfl⟩:=H
 go_enter Try.func21,Try.ntmps21
 go_wp2_with (first|((with_reducible refine ag (N:=1) rfl ?_);refine an 1 56 #[.int .i64 aA,.int .i64 bN,.int .i64 eI,.int .i64 aV,.int .i64 iG] ?_;intro gb414 hg w3 se hb;have GW414:=gw hg (bs HB);have Cj:=gw hg (bs HB);replace HB:=Ah (aH (bs HB) hb);clear hb hg)|((with_reducible refine ag (N:=2) rfl ?_);refine an 2 47 #[.int .i64 0,.int .i64 0,.int .i64 0,.int .i64 0,.int .i64 0] ?_;intro gb415 hg w4 AO hb;have GW415:=gw hg (aM HB Cj);have MR:=gw hg (aM HB Cj);replace HB:=Ah (aH (aM HB Cj) hb);have NB414_415:=nn se hg;have NB415_414:=nm se hg;replace se:=nb se hb;clear hb hg)|((with_reducible refine ag (N:=3) rfl ?_);refine an 3 47 #[.int .i64 0,.int .i64 0,.int .i64 0,.int .i64 0,.int .i64 0] ?_;intro gb416 hg w5 Ia hb;have GW416:=gw hg (am HB Cj MR);have GE416:=gw hg (am HB Cj MR);replace HB:=Ah (aH (am HB Cj MR) hb);have NB414_416:=nn se hg;have NB416_414:=nm se hg;replace se:=nb se hb;have VA:=nn AO hg;have NB416_415:=nm AO hg;replace AO:=nb AO hb;clear hb hg;have Nw:=NB414_415.out;have Nx:=NB415_414.out;have hnb7:=NB414_416.out;have hnc7:=NB416_414.out;obtain⟨r9,rA,CV,ST,SU⟩:=aj se;obtain⟨rB,rC,CW,SV,SW⟩:=ai se;have a0p:=NB416_415.out;have a0q:=VA.out;obtain⟨tY,tZ,ur,ES,ET⟩:=aj Ia;obtain⟨ta,tb,us,EU,EV⟩:=ai Ia)|((with_reducible refine bY (f:=39) rfl ?_);refine gL (some 9) rfl rfl Try.func39 (by kernel_rfl) rfl #[.agg #[.int .i64 bN,.int .i64 eI]] rfl ?_;(with_reducible refine(Je.calls bN eI t417 t418 _ A2.out).mono ?_);rintro e kF ⟨rfl,hb⟩;refine⟨_,rfl, ?_⟩;replace se:=Ah (bT (bf se NB414_416) hb);replace AO:=Ah (bT (bf AO VA) hb);replace Ia:=Ah (bT (g:=gb416) (o:= .cells #[.int .i64 aA,.int .i64 0,.int .i64 0,.int .i64 0,.int .i64 0] 47 (0,0)) (pb Ia) hb);replace HB:=Ah (aH (aw HB Cj MR GE416) hb);(try clear hb);obtain⟨tQ,tR,yJ,Wx,Wy⟩:=aj Ia;obtain⟨tS,tT,yK,Wz,X0⟩:=ai Ia;obtain⟨oK,oL,qz,sS,sT⟩:=aj se;obtain⟨oM,oN,r8,sU,sV⟩:=ai se;obtain⟨sG,sH,E6,H9,HG⟩:=aj AO;obtain⟨sI,sJ,E7,HH,HI⟩:=ai AO))
 refine bodyPost_ret (results_cell_row rfl _ _ gb415 47 #[.int .i64 aA,.int .i64 t417,.int .i64 t418,.int .i64 aV,.int .i64 iG] (0,0) _ rfl (B4 AO VA) aaB rfl (by kernel_rfl)) rfl ?_;exact⟨er,aw HB Cj MR GE416⟩
def ii.l0:Nat→List (kE)→List (bg)→Int→Option ((List (bg)))
 |0,_,_,_=>none
 |k+1,x0,x3,x4=>if x4<(x0.length:Int)then(if 0≤x4 then((QE.f ((np x0 x4).f0) ((np x0 x4).f1.f0) ((np x0 x4).f1.f1) ((np x0 x4).f2) ((np x0 x4).f3)).bind fun MS=>(if x4<(x3.length:Int)then(ii.l0 k x0 (x3.set (x4:Int).toNat (⟨MS.1,(⟨MS.2.1,MS.2.2.1⟩:Y),MS.2.2.2.1,MS.2.2.2.2⟩:bg)) (Gj (x4+1)))else(none)))else(none))else(some x3)
def ii.f(k:Nat)(l0:List (kE)):Option ((List (bg))):=if 0≤(l0.length:Int)then(if((l0.length:Int):Int).toNat≤7036874417766 then(ii.l0 k l0 (aat ((l0.length:Int):Int).toNat lH) 0)else(none))else(none)
theorem ii.cQ:∀k,(∀y0 y1 y2,aG (ii.l0 k y0 y1 y2) (ii.l0 (k+1) y0 y1 y2))
 |0=>fun _ _ _ r h=>by simp[ii.l0]at h
 |k+1=>by
  have bS:=ii.cQ k
  ·
   intro y0 y1 y2;unfold ii.l0
   repeat' with_reducible first|exact bS _ _ _|exact aG.refl _|exact aG.none _|refine aG.ite ?_ ?_|refine aG.bind ?_ (fun _=> ?_)
theorem ii.mono:∀a0 k,aG (ii.f k a0) (ii.f (k+1) a0):=by
 intro a0 k;have bS:=ii.cQ k;unfold ii.f
 repeat' with_reducible first|exact bS _ _ _|exact aG.refl _|exact aG.none _|refine aG.ite ?_ ?_|refine aG.bind ?_ (fun _=> ?_)
theorem ii.calls(k:Nat)(A0:Option Addr)(c0:Nat)(l0:List (kE))(r:List (bg))(w:World)(hr0:Kd.C rj w A0 l0.length l0)(hc0:l0.length≤c0)(h:ii.f k l0=some r):
 Calls Uf 6 #[.slice A0 l0.length c0] w fun e w'=>∃lI:Value,e= .returned (lI)∧Kd.R e5 47 w' w.heap.size (fun _=>True) lI r∧Below w.heap.size w w':=by
 have hu56:=Try.underlying56;have a0o:=aaB;have cX:=Ah hr0;have oE:=Ah hc0;clear hr0 hc0;have HB:=Ah (Ud w.heap.size w);have H:(if 0≤(l0.length:Int)then(if((l0.length:Int):Int).toNat≤7036874417766 then(ii.l0 k l0 (aat ((l0.length:Int):Int).toNat lH) 0)else(none))else(none))=some r:=h;clear h
 by_cases c2:0≤(l0.length:Int)
 rotate_left
 ·
  rw[if_neg c2]at H;exact absurd H (by simp)
 rw[if_pos c2]at H;have vJ:=eq_true c2;have Tz:=bJ c2;clear c2
 by_cases c3:((l0.length:Int):Int).toNat≤7036874417766
 rotate_left
 ·
  rw[if_neg c3]at H;exact absurd H (by simp)
 rw[if_pos c3]at H;have dc:=eq_true c3;have jr:=bJ c3;clear c3;obtain⟨y419,MT⟩:∃y_:List (bg),y_=(aat ((l0.length:Int):Int).toNat lH):=⟨_,rfl⟩
 replace H:(ii.l0 k l0 y419 0)=some r:=by first|(rw[MT];with_reducible exact H)|(have aq:=(Gm _ _).symm.trans H;rw[MT];with_reducible exact aq)|(have aq:=(Gm _ _).symm.trans H;with_reducible exact aq)|with_reducible exact H|(rw[MT];exact H)|exact H
 have Ny419:=Ah MT;clear MT;have H':=Ah H;clear H
 go_enter Try.func6,Try.ntmps6
 go_wp2_with (first|((with_reducible refine ag (N:=7) rfl ?_);refine Kd.R_make e5 _ 47 rfl (N:=7) rfl 33 _ _ rfl (l0.length:Int) rfl rfl Try.underlying33 (.agg #[(.int .i64 0),(.int .i64 0),(.int .i64 0),(.int .i64 0),(.int .i64 0)]) 40 info47 rfl (by decide) (by omega) lH (ok:=fun _=>True) (okp:=fun _=>True) (E0 _ _ _ lH) (fun _ hk=>hk) trivial (od) (aav (Nat.mul_le_mul_right _ (od:(l0.length:Int).toNat≤7036874417766)) (by omega)) (Ud _ _) (QQ _) ?_;intro v420 w4 qN hb i9 hX;clear i9 hX;(first|rw[←Ny419.out]at qN|(simp only[Int.reduceToNat]at qN;rw[←Ny419.out]at qN));have HO421:=Ah (Kd.bR qN (bE (bs HB)));replace HB:=Ah (aH (bs HB) hb);clear hb qN))
 go_loopg [4] k (fun kq v4 w'=>∃ (bx:List (bg)) (eX:Int),v4= .int .i64 eX∧Z (ii.l0 kq l0 bx eX=some r)∧Z (kq≤k)∧Z (Kd.R e5 47 w' w.heap.size (fun _=>True) v420 bx)∧Z (Below w.heap.size w w'))
 case atStart=>exact⟨(y419),(0),e3,H',⟨QQ _⟩,⟨rr HO421.out⟩,⟨bs HB⟩⟩
 case round=>
  clear H'
  try clear c2
  try clear vJ
  try clear Tz
  try clear p2
  try clear c3
  try clear dc
  try clear jr
  obtain⟨bx,eX,rfl,HA,bi,bu,HB⟩:=hrel
  cases gk with
  |zero=>exact absurd HA.out (by simp[ii.l0])
  |succ k1=>
   have H:=HA.out;clear HA;simp only[ii.l0]at H
   by_cases c6:eX<(l0.length:Int)
   rotate_left
   ·
    rw[if_neg c6]at H;have o6:=dn c6;clear c6;obtain rfl:=Gn H
    go_wp2
    go_ret
    exact⟨_,er,by(with_reducible repeat(first|apply Kd.bd|apply Kd.bZ|apply Kd.bQ));exact bu.out,bs HB⟩
   rw[if_pos c6]at H;have o6:=bJ c6;clear c6
   by_cases c7:0≤eX
   rotate_left
   ·
    rw[if_neg c7]at H;exact absurd H (by simp)
   rw[if_pos c7]at H;have pY:=bJ c7;clear c7;replace H:=Gl.mp H;obtain⟨⟨Is,Iu,Iv,Iw,Ix⟩,Ps,H⟩:=H
   try dsimp only at H
   have A8:=Ah Ps;clear Ps
   by_cases c9:eX<(bx.length:Int)
   rotate_left
   ·
    rw[if_neg c9]at H;exact absurd H (by simp)
   rw[if_pos c9]at H;have sk:=bJ c9;clear c9;obtain⟨a0r,MU⟩:∃y_:List (bg),y_=(bx.set (eX:Int).toNat (⟨Is,(⟨Iu,Iv⟩:Y),Iw,Ix⟩:bg)):=⟨_,rfl⟩
   replace H:(ii.l0 k1 l0 a0r (Gj (eX+1)))=some r:=by first|(rw[MU];with_reducible exact H)|(have aq:=(Gm _ _).symm.trans H;rw[MU];with_reducible exact aq)|(have aq:=(Gm _ _).symm.trans H;with_reducible exact aq)|with_reducible exact H|(rw[MU];exact H)|exact H
   have Ny428:=Ah MU;clear MU;have H':=Ah H;clear H;have a0s:0≤(eX:Int):=od;have a0t:eX<(l0.length:Int):=od;obtain⟨ad422,e422,hx422_0,hx422_1,hx422_2,hx422_3,hx422_4⟩:=at_T56 cX.out eX a0s a0t
   cases e422
   replace hx422_0:=hq HB hx422_0;replace hx422_1:=hq HB hx422_1;replace hx422_2:=hq HB hx422_2;replace hx422_3:=hq HB hx422_3;replace hx422_4:=hq HB hx422_4;replace a0s:=eq_true a0s;replace a0t:=eq_true a0t
   go_wp2_with (first|((with_reducible refine bY (f:=21) rfl ?_);refine gL (some 20) rfl rfl Try.func21 (by kernel_rfl) rfl #[.agg #[.int .i64 ((np l0 eX).f0),.int .i64 ((np l0 eX).f1.f0),.int .i64 ((np l0 eX).f1.f1),.int .i64 ((np l0 eX).f2),.int .i64 ((np l0 eX).f3)]] rfl ?_;(with_reducible refine(QE.calls ((np l0 eX).f0) ((np l0 eX).f1.f0) ((np l0 eX).f1.f1) ((np l0 eX).f2) ((np l0 eX).f3) Is Iu Iv Iw Ix _ A8.out).mono ?_);rintro e kF ⟨rfl,hb⟩;refine⟨_,rfl, ?_⟩;replace bu:=nr bu hb;replace HB:=Ah (aH (bs HB) hb);(try clear hb);have p10:0≤(eX:Int):=od;have q10:(eX:Int)<((bx.length:Int):Int):=od;obtain⟨pZ,gP,qk,gb10,gl10,cl10,HG10⟩:=Kd.wM bu.out (by omega);(first|cases qk|(injection qk with eH nN nO;(first|subst eH|(injection eH with eH;subst eH));subst nO;clear nN));have OF:=Ah gb10;have GG10:=Ah HG10;clear gb10 gl10 HG10;obtain⟨ce10,T7,OG,yb,AP⟩:=Kd.gt bu.out lH (eX:Int) p10 q10;obtain rfl:=uW OG;have hx10_0:kF.cell? ⟨pZ,(eX:Int).toNat*5,none⟩=some (.int .i64 ((ar bx eX).f0)):=yb 0 _ rfl;have hx10_1:kF.cell? ⟨pZ,(eX:Int).toNat*5+1,none⟩=some (.int .i64 ((ar bx eX).f1.f0)):=yb 1 _ rfl;have hx10_2:kF.cell? ⟨pZ,(eX:Int).toNat*5+2,none⟩=some (.int .i64 ((ar bx eX).f1.f1)):=yb 2 _ rfl;have hx10_3:kF.cell? ⟨pZ,(eX:Int).toNat*5+3,none⟩=some (.int .i64 ((ar bx eX).f2)):=yb 3 _ rfl;have hx10_4:kF.cell? ⟨pZ,(eX:Int).toNat*5+4,none⟩=some (.int .i64 ((ar bx eX).f3)):=yb 4 _ rfl;have hf10_0:kF.frozen? ⟨pZ,(eX:Int).toNat*5,none⟩=false:=AP 0;have hf10_1:kF.frozen? ⟨pZ,(eX:Int).toNat*5+1,none⟩=false:=AP 1;have hf10_2:kF.frozen? ⟨pZ,(eX:Int).toNat*5+2,none⟩=false:=AP 2;have hf10_3:kF.frozen? ⟨pZ,(eX:Int).toNat*5+3,none⟩=false:=AP 3;have hf10_4:kF.frozen? ⟨pZ,(eX:Int).toNat*5+4,none⟩=false:=AP 4;clear T7 yb AP OG;replace p10:=eq_true p10;replace q10:=eq_true q10;have HX12:=Ah (show Kd.R e5 47 kF w.heap.size (fun _=>True) (.slice (some ⟨pZ,0,none⟩) bx.length gP) bx from(rr bu.out));obtain⟨ce12,hcl12,hM12,Er,Ib⟩:=Kd.gt HX12.out lH (eX:Int) (od) (by have h_:(eX:Int)<((bx.length:Int):Int):=od;first|exact h_|(have e_:=(Kd.aY bu.out).1;omega)|simpa using h_);obtain rfl:=uW hM12;have a0u:=Kd.nD HX12.out (eX:Int) (od) (by have h_:(eX:Int)<((bx.length:Int):Int):=od;first|exact h_|(have e_:=(Kd.aY bu.out).1;omega)|simpa using h_) (seg:=[.int .i64 Is,.int .i64 Iu,.int .i64 Iv,.int .i64 Iw,.int .i64 Ix]) (j:=0) hcl12 Er (show 5≤5 from by decide) (x':=(⟨Is,(⟨Iu,Iv⟩:Y),Iw,Ix⟩:bg)) (E0 _ _ _ (⟨Is,(⟨Iu,Iv⟩:Y),Iw,Ix⟩:bg)) (fun _ hk=>hk);have hx12_0:=Er 0 _ rfl;(try simp only[show(e5).sz=5 from rfl,fl,dH]at hx12_0);have hf12_0:=Ib 0;(try simp only[show(e5).sz=5 from rfl,fl,dH]at hf12_0);have hx12_1:=Er 1 _ rfl;(try simp only[show(e5).sz=5 from rfl,fl,dH]at hx12_1);have hf12_1:=Ib 1;(try simp only[show(e5).sz=5 from rfl,fl,dH]at hf12_1);have hx12_2:=Er 2 _ rfl;(try simp only[show(e5).sz=5 from rfl,fl,dH]at hx12_2);have hf12_2:=Ib 2;(try simp only[show(e5).sz=5 from rfl,fl,dH]at hf12_2);have hx12_3:=Er 3 _ rfl;(try simp only[show(e5).sz=5 from rfl,fl,dH]at hx12_3);have hf12_3:=Ib 3;(try simp only[show(e5).sz=5 from rfl,fl,dH]at hf12_3);have hx12_4:=Er 4 _ rfl;(try simp only[show(e5).sz=5 from rfl,fl,dH]at hx12_4);have hf12_4:=Ib 4;(try simp only[show(e5).sz=5 from rfl,fl,dH]at hf12_4);clear hcl12 Er Ib hM12)|((with_reducible refine n8 (t:=47) (p:=21) rfl ?_);refine n7 (t:=47) (p:=21) (v:= ?vo_w13) (w1:=(((((kF.setCell ⟨pZ,(eX:Int).toNat*5,none⟩ (.int .i64 Is)).setCell ⟨pZ,(eX:Int).toNat*5+1,none⟩ (.int .i64 Iu)).setCell ⟨pZ,(eX:Int).toNat*5+2,none⟩ (.int .i64 Iv)).setCell ⟨pZ,(eX:Int).toNat*5+3,none⟩ (.int .i64 Iw)).setCell ⟨pZ,(eX:Int).toNat*5+4,none⟩ (.int .i64 Ix))) ?hg ?ho ?hn ?hr ?_;(case ho=>rfl);(case hg=>rfl);(case hn=>rfl);(case hr=>first|(go_simp;done)|(go_simp;rfl));intro pd hw;have hg:kF.grownBy pd (some pZ):=(by rw[hw];exact a0u.2);have eB:Kd.R e5 47 pd w.heap.size (fun _=>True) (.slice (some ⟨pZ,0,none⟩) bx.length gP) a0r:=(by rw[hw,Ny428.out];exact a0u.1);clear a0u;replace bu:=Ah (eB);replace HB:=Ah ((by rw[hw];exact fJ (fJ (fJ (fJ (fJ (HB.out) OF.out) OF.out) OF.out) OF.out) OF.out:Below w.heap.size w pd));clear hg hw eB))
   go_roundg k1
   case measure=>have:=bi.out;omega
   case rel=>exact⟨(a0r),(Gj (eX+1)),e3,H',⟨by have:=bi.out;omega⟩,⟨rr bu.out⟩,⟨bs HB⟩⟩
def jH.f(a0:Int)(a1:Int)(a2:Int):Option (Bool):=if a0≥a1 then(some (decide (a0≤a2)))else(some false)
theorem jH.calls(a0:Int)(a1:Int)(a2:Int)(r:Bool)(w:World)(h:jH.f a0 a1 a2=some r):
 Calls Uf 40 #[.int .i64 a0,.int .i64 a1,.int .i64 a2] w fun e w'=>e= .returned (.bool r)∧bU w w':=by
 have H:(if a0≥a1 then(some (decide (a0≤a2)))else(some false))=some r:=h;clear h
 by_cases c4:a0≥a1
 ·
  rw[if_pos c4]at H;have fB:=bJ c4;clear c4;obtain rfl:=Gn H
  go_enter aa7,Try.ntmps40
  go_wp2
  go_ret
  exact⟨by first|rfl|(simp;done)|(simp[*];done),by repeat(first|exact bU.refl _|apply bU.step)⟩
 ·
  rw[if_neg c4]at H;have fB:=dn c4;clear c4;obtain rfl:=Gn H
  go_enter aa7,Try.ntmps40
  go_wp2
  go_ret
  exact⟨by first|rfl|(simp;done)|(simp[*];done),by repeat(first|exact bU.refl _|apply bU.step)⟩
def mq.f(l0:List (Y)):Option (List (Y)):=if l0.length*16≤140737488355328 then some l0 else none
set_option maxRecDepth 100000 in
theorem mq.calls(A0:Option Addr)(c0:Nat)(l0:List (Y))(r:List (Y))(w:World)(hr0:Kd.C aT w A0 l0.length l0)(hc0:l0.length≤c0)(h:mq.f l0=some r):
 Calls Uf 57 #[.slice A0 l0.length c0] w fun e w'=>∃lI:Value,e= .returned (lI)∧Kd.R aT 45 w' w.heap.size (fun _=>True) lI r∧Below w.heap.size w w':=by
 have hus:=Try.underlying24;have huu:∀w,Sem.run Uf (underlying 24) w= .ok (TypeDesc.slice 45) w:=run_underlying hus
 have hee:∀ (w:World) (a:Option Addr) (n c n' c':Nat),(binOp .eql 24 (.slice a n c) (.slice none n' c')).run Uf w= .ok (.bool a.isNone) w:=fun w a n c n' c'=>Lib.run_eql_slice_nil w _ _ a n c n' c' hus
 unfold mq.f at h
 by_cases hl:l0.length*16≤140737488355328
 ·rw[if_pos hl]at h
  obtain rfl:=Gn h;have hR:=Z.mk hr0;have hL:=Z.mk hl;clear hr0 h hl
  rcases A0 with _|ad
  ·have h0:l0=[]:=by
    rcases Nat.eq_zero_or_pos l0.length with h0|h0
    ·exact List.eq_nil_of_length_eq_zero h0
    ·obtain⟨ad,h,_⟩:=hR.out.2.2 h0
     cases h
   subst h0
   go_enter Try.func57,Try.ntmps57
   go_wp2
   go_ret
   exact⟨_,rfl,Kd.be _ _ _ _ _,Ud _ _⟩
  ·go_enter Try.func57,Try.ntmps57
   go_wp2_with (first
    |((with_reducible refine ag (N:=5) rfl ?_);refine Kd.yW aT _ 45 ?hg (N:=5) ?hd (xs:=([]:List (Y))) (inner:=[]) (ok:=fun _=>True) (okp:=fun _=>True) ?hr ?hp (fun _ hk=>hk) trivial (Ud _ _) (QQ _) (by simp) ?_;(case hd=>rfl);(case hg=>rfl);(case hr=>first|(go_simp;done)|(go_simp;rfl));(case hp=>exact(cA.none _ _));intro a0v w4 qN hb i9 hX;clear i9 hX;have fI:=Z.mk (Kd.bR qN (QQ _));have eU:=Z.mk hb;clear qN hb)
    |((with_reducible refine ik (b:= .append) (xs:= #[.tmp 5,.tmp 6]) rfl ?_);at_builtin;refine Kd.Br aT (w0:=w) w.heap.size rfl (.tmp 5) (.tmp 6) 24 45 (.agg #[(.int .i64 0),(.int .i64 0)]) 16 rfl hus mG rfl (by decide) (by omega) a0v ([]:List (Y)) l0 _ _ _ (fun _=>True) (fun _=>False) rfl rfl ?aO ?aR (fun _ _ h=>h) (fun _ h=>h.elim) ?aF ?aB ?aS ?aL ?_;(case aR=>exact Kd.iV hR.out eU.out);(case aB=>exact eU.out);(case aF=>exact(fun _ _=>trivial));(case aO=>exact fI.out);(case aS=>exact eU.out.size);(case aL=>have:=hL.out;simp only[List.length_nil,Nat.zero_add];omega);intro v394 w6 ho hb hg hat;rw[List.nil_append]at ho;have m0_:=Z.mk ho;have m1_:=Z.mk hb;clear fI eU ho hb hg hat))
   go_ret
   exact⟨_,rfl,m0_.out,m1_.out⟩
 ·rw[if_neg hl]at h
  cases h
def il.l0:Nat→Int→List Int→Int→Int→Option (Int)
 |0,_,_,_,_=>none
 |k+1,x3,x6,x7,x8=>if x8<x7 then(if 0≤x8 then(if x8<(x6.length:Int)then(if(rd x6 x8)=x3 then(il.l0 k x3 x6 x7 (Gj (x8+1)))else(some (rd x6 x8)))else(none))else(none))else(some x3)
def il.f(k:Nat)(l0:List Int):Option (Int):=il.l0 k 0 l0 (l0.length:Int) 0
theorem il.cQ:∀k,(∀y0 y1 y2 y3,aG (il.l0 k y0 y1 y2 y3) (il.l0 (k+1) y0 y1 y2 y3))
 |0=>fun _ _ _ _ r h=>by simp[il.l0]at h
 |k+1=>by
  have bS:=il.cQ k
  ·
   intro y0 y1 y2 y3;unfold il.l0
   repeat' with_reducible first|exact bS _ _ _ _|exact aG.refl _|exact aG.none _|refine aG.ite ?_ ?_|refine aG.bind ?_ (fun _=> ?_)
theorem il.mono:∀a0 k,aG (il.f k a0) (il.f (k+1) a0):=by
 intro a0 k;have bS:=il.cQ k;unfold il.f
 repeat' with_reducible first|exact bS _ _ _ _|exact aG.refl _|exact aG.none _|refine aG.ite ?_ ?_|refine aG.bind ?_ (fun _=> ?_)
theorem il.calls(k:Nat)(A0:Option Addr)(c0:Nat)(l0:List Int)(r:Int)(w:World)(hr0:Kd.C (Kd.int .i64) w A0 l0.length l0)(hc0:l0.length≤c0)(h:il.f k l0=some r):
 Calls Uf 74 #[.slice A0 l0.length c0] w fun e w'=>e= .returned (.int .i64 r)∧bU w w':=by
 have cX:=Ah hr0;have oE:=Ah hc0;clear hr0 hc0;have H:(il.l0 k 0 l0 (l0.length:Int) 0)=some r:=h;clear h;have H':=Ah H;clear H
 go_enter Try.func74,Try.ntmps74
 go_wp2
 go_loopg [8] k (fun kq v8 w'=>∃ (dT:Int),v8= .int .i64 dT∧Z (il.l0 kq 0 l0 (l0.length:Int) dT=some r)∧Z (kq≤k)∧bU w w')
 case atStart=>exact⟨(0),e3,H',⟨QQ _⟩,by repeat(first|exact bU.refl _|apply bU.step)⟩
 case round=>
  clear H';obtain⟨dT,rfl,HA,bi,⟨m1,rfl⟩⟩:=hrel
  cases gk with
  |zero=>exact absurd HA.out (by simp[il.l0])
  |succ k1=>
   have H:=HA.out;clear HA;simp only[il.l0]at H
   by_cases c2:dT<(l0.length:Int)
   rotate_left
   ·
    rw[if_neg c2]at H;have vJ:=dn c2;clear c2;obtain rfl:=Gn H
    go_wp2
    go_ret
    exact⟨e3,by repeat(first|exact bU.refl _|apply bU.step)⟩
   rw[if_pos c2]at H;have vJ:=bJ c2;clear c2
   by_cases c3:0≤dT
   rotate_left
   ·
    rw[if_neg c3]at H;exact absurd H (by simp)
   rw[if_pos c3]at H;have dc:=bJ c3;clear c3
   by_cases c4:dT<(l0.length:Int)
   rotate_left
   ·
    rw[if_neg c4]at H;exact absurd H (by simp)
   rw[if_pos c4]at H;have fB:=bJ c4;clear c4
   by_cases c5:(rd l0 dT)=0
   rotate_left
   ·
    rw[if_neg c5]at H;have kV:=fS c5;have vL:=fT c5;obtain rfl:=Gn H;have FS:0≤(dT:Int):=od;have FT:dT<(l0.length:Int):=od;obtain⟨ad431,a0w,hx431_0⟩:=Kd.at_int cX.out dT FS FT
    cases a0w
    replace FS:=eq_true FS;replace FT:=eq_true FT
    go_wp2
    go_ret
    exact⟨e3,by repeat(first|exact bU.refl _|apply bU.step)⟩
   rw[if_pos c5]at H;have kV:=fU c5;have vL:=fV c5;clear c5;have H':=Ah H;clear H;have FS:0≤(dT:Int):=od;have FT:dT<(l0.length:Int):=od;obtain⟨ad431,a0w,hx431_0⟩:=Kd.at_int cX.out dT FS FT
   cases a0w
   replace FS:=eq_true FS;replace FT:=eq_true FT
   go_wp2
   go_roundg k1
   case measure=>have:=bi.out;omega
   case rel=>exact⟨(Gj (dT+1)),e3,H',⟨by have:=bi.out;omega⟩,by repeat(first|exact bU.refl _|apply bU.step)⟩
def cmp_isNaN_int.f(a0:Int):Option (Bool):=some (a0 !=a0)
theorem cmp_isNaN_int.calls(a0:Int)(r:Bool)(w:World)(h:cmp_isNaN_int.f a0=some r):
 Calls Uf 92 #[.int .i64 a0] w fun e w'=>e= .returned (.bool r)∧bU w w':=by
 have H:(some (a0 !=a0))=some r:=h;clear h;obtain rfl:=Gn H
 go_enter aaT,Try.ntmps92
 go_wp2
 go_ret
 exact⟨by first|rfl|(simp;done)|(simp[*];done),by repeat(first|exact bU.refl _|apply bU.step)⟩
def cmp_Compare_int.f(a0:Int)(a1:Int):Option (Int):=(cmp_isNaN_int.f a0).bind fun OH=>((cmp_isNaN_int.f a1).bind fun D1=>(if OH=true then(if D1=true then(some 0)else(some (-1)))else(if D1=true then(some 1)else(if a0<a1 then(some (-1))else(if a0>a1 then(some 1)else(some 0))))))
theorem cmp_Compare_int.calls(a0:Int)(a1:Int)(r:Int)(w:World)(h:cmp_Compare_int.f a0 a1=some r):
 Calls Uf 75 #[.int .i64 a0,.int .i64 a1] w fun e w'=>e= .returned (.int .i64 r)∧bU w w':=by
 have H:((cmp_isNaN_int.f a0).bind fun OH=>((cmp_isNaN_int.f a1).bind fun D1=>(if OH=true then(if D1=true then(some 0)else(some (-1)))else(if D1=true then(some 1)else(if a0<a1 then(some (-1))else(if a0>a1 then(some 1)else(some 0)))))))=some r:=h;clear h;replace H:=Gl.mp H;obtain⟨OH,dj,H⟩:=H
 try dsimp only at H
 have A3:=Ah dj;clear dj;replace H:=Gl.mp H;obtain⟨D1,eJ,H⟩:=H
 try dsimp only at H
 have A4:=Ah eJ;clear eJ
 by_cases c5:OH=true
 ·
  subst c5;rw[if_pos rfl]at H
  by_cases c6:D1=true
  ·
   subst c6;rw[if_pos rfl]at H;obtain rfl:=Gn H
   go_enter aa8,abN
   go_wp2_with (first|((with_reducible refine bY (f:=92) rfl ?_);refine gL (some 8) rfl rfl aaT (by kernel_rfl) rfl #[.int .i64 a0] rfl ?_;(with_reducible refine(cmp_isNaN_int.calls a0 true _ A3.out).mono ?_);rintro e w' ⟨rfl,⟨nd,rfl⟩⟩;refine⟨_,rfl, ?_⟩)|((with_reducible refine bY (f:=92) rfl ?_);refine gL (some 10) rfl rfl aaT (by kernel_rfl) rfl #[.int .i64 a1] rfl ?_;(with_reducible refine(cmp_isNaN_int.calls a1 true _ A4.out).mono ?_);rintro e w' ⟨rfl,⟨nd,rfl⟩⟩;refine⟨_,rfl, ?_⟩))
   go_ret
   exact⟨e3,by repeat(first|exact bU.refl _|apply bU.step)⟩
  replace c6:=PT.mpr c6;subst c6;rw[if_neg dr]at H;obtain rfl:=Gn H
  go_enter aa8,abN
  go_wp2_with (first|((with_reducible refine bY (f:=92) rfl ?_);refine gL (some 8) rfl rfl aaT (by kernel_rfl) rfl #[.int .i64 a0] rfl ?_;(with_reducible refine(cmp_isNaN_int.calls a0 true _ A3.out).mono ?_);rintro e w' ⟨rfl,⟨nd,rfl⟩⟩;refine⟨_,rfl, ?_⟩)|((with_reducible refine bY (f:=92) rfl ?_);refine gL (some 10) rfl rfl aaT (by kernel_rfl) rfl #[.int .i64 a1] rfl ?_;(with_reducible refine(cmp_isNaN_int.calls a1 false _ A4.out).mono ?_);rintro e w' ⟨rfl,⟨nd,rfl⟩⟩;refine⟨_,rfl, ?_⟩))
  go_ret
  exact⟨e3,by repeat(first|exact bU.refl _|apply bU.step)⟩
 replace c5:=PT.mpr c5;subst c5;rw[if_neg dr]at H
 by_cases c7:D1=true
 ·
  subst c7;rw[if_pos rfl]at H;obtain rfl:=Gn H
  go_enter aa8,abN
  go_wp2_with (first|((with_reducible refine bY (f:=92) rfl ?_);refine gL (some 8) rfl rfl aaT (by kernel_rfl) rfl #[.int .i64 a0] rfl ?_;(with_reducible refine(cmp_isNaN_int.calls a0 false _ A3.out).mono ?_);rintro e w' ⟨rfl,⟨nd,rfl⟩⟩;refine⟨_,rfl, ?_⟩)|((with_reducible refine bY (f:=92) rfl ?_);refine gL (some 10) rfl rfl aaT (by kernel_rfl) rfl #[.int .i64 a1] rfl ?_;(with_reducible refine(cmp_isNaN_int.calls a1 true _ A4.out).mono ?_);rintro e w' ⟨rfl,⟨nd,rfl⟩⟩;refine⟨_,rfl, ?_⟩))
  go_ret
  exact⟨e3,by repeat(first|exact bU.refl _|apply bU.step)⟩
 replace c7:=PT.mpr c7;subst c7;rw[if_neg dr]at H
 by_cases c8:a0<a1
 ·
  rw[if_pos c8]at H;have rO:=bJ c8;clear c8;obtain rfl:=Gn H
  go_enter aa8,abN
  go_wp2_with (first|((with_reducible refine bY (f:=92) rfl ?_);refine gL (some 8) rfl rfl aaT (by kernel_rfl) rfl #[.int .i64 a0] rfl ?_;(with_reducible refine(cmp_isNaN_int.calls a0 false _ A3.out).mono ?_);rintro e w' ⟨rfl,⟨nd,rfl⟩⟩;refine⟨_,rfl, ?_⟩)|((with_reducible refine bY (f:=92) rfl ?_);refine gL (some 10) rfl rfl aaT (by kernel_rfl) rfl #[.int .i64 a1] rfl ?_;(with_reducible refine(cmp_isNaN_int.calls a1 false _ A4.out).mono ?_);rintro e w' ⟨rfl,⟨nd,rfl⟩⟩;refine⟨_,rfl, ?_⟩))
  go_ret
  exact⟨e3,by repeat(first|exact bU.refl _|apply bU.step)⟩
 rw[if_neg c8]at H;have rO:=dn c8;clear c8
 by_cases c9:a0>a1
 ·
  rw[if_pos c9]at H;have sk:=bJ c9;clear c9;obtain rfl:=Gn H
  go_enter aa8,abN
  go_wp2_with (first|((with_reducible refine bY (f:=92) rfl ?_);refine gL (some 8) rfl rfl aaT (by kernel_rfl) rfl #[.int .i64 a0] rfl ?_;(with_reducible refine(cmp_isNaN_int.calls a0 false _ A3.out).mono ?_);rintro e w' ⟨rfl,⟨nd,rfl⟩⟩;refine⟨_,rfl, ?_⟩)|((with_reducible refine bY (f:=92) rfl ?_);refine gL (some 10) rfl rfl aaT (by kernel_rfl) rfl #[.int .i64 a1] rfl ?_;(with_reducible refine(cmp_isNaN_int.calls a1 false _ A4.out).mono ?_);rintro e w' ⟨rfl,⟨nd,rfl⟩⟩;refine⟨_,rfl, ?_⟩))
  go_ret
  exact⟨e3,by repeat(first|exact bU.refl _|apply bU.step)⟩
 rw[if_neg c9]at H;have sk:=dn c9;clear c9;obtain rfl:=Gn H
 go_enter aa8,abN
 go_wp2_with (first|((with_reducible refine bY (f:=92) rfl ?_);refine gL (some 8) rfl rfl aaT (by kernel_rfl) rfl #[.int .i64 a0] rfl ?_;(with_reducible refine(cmp_isNaN_int.calls a0 false _ A3.out).mono ?_);rintro e w' ⟨rfl,⟨nd,rfl⟩⟩;refine⟨_,rfl, ?_⟩)|((with_reducible refine bY (f:=92) rfl ?_);refine gL (some 10) rfl rfl aaT (by kernel_rfl) rfl #[.int .i64 a1] rfl ?_;(with_reducible refine(cmp_isNaN_int.calls a1 false _ A4.out).mono ?_);rintro e w' ⟨rfl,⟨nd,rfl⟩⟩;refine⟨_,rfl, ?_⟩))
 go_ret
 exact⟨e3,by repeat(first|exact bU.refl _|apply bU.step)⟩
def mo.f(k:Nat)(aA:Int)(bN:Int)(aN:Int)(aQ:Int):Option (Int):=(cmp_Compare_int.f bN aQ).bind fun ow=>((cmp_Compare_int.f aA aN).bind fun ox=>((il.f k (([ow,ox]:List Int))).bind fun uE=>(some uE)))
theorem mo.mono:∀a0 a1 a2 a3 k,aG (mo.f k a0 a1 a2 a3) (mo.f (k+1) a0 a1 a2 a3):=by
 intro a0 a1 a2 a3 k;unfold mo.f
 repeat' with_reducible first|exact il.mono _ _|exact aG.refl _|exact aG.none _|refine aG.ite ?_ ?_|refine aG.bind ?_ (fun _=> ?_)
def mo.T1:Bool×List (List Nat×List Nat):=(true,[([],[]),([0],[0]),([],[]),([2],[2]),([1,3],[1,3]),([],[]),([5],[5]),([],[]),([7],[7]),([6,8,4],[6,8]),([4,9],[4,9]),([10,9],[10]),([11,11,0,1,2,3,4,5,6,7,8,9,10,11],[11])])
def mo.B1:List Nat:=[0,1,0,4,15,0,32,0,128,511,1023,2047,4095]
theorem mo.D2:i5 .any (uw Try.f59 1)=mo.T1:=by kernel_rfl
theorem mo.Ck:pm mo.T1.2 mo.B1=true:=by kernel_rfl
theorem mo.calls(k:Nat)(aA:Int)(bN:Int)(aN:Int)(aQ:Int)(r:Int)(w:World)(h:mo.f k aA bN aN aQ=some r):
 Calls Uf 59 #[.agg #[.int .i64 aA,.int .i64 bN],.agg #[.int .i64 aN,.int .i64 aQ]] w fun e w'=>e= .returned (.int .i64 r)∧Below w.heap.size w w':=by
 have jT:=fk;have HB:=Ah (Ud w.heap.size w);have H:((cmp_Compare_int.f bN aQ).bind fun ow=>((cmp_Compare_int.f aA aN).bind fun ox=>((il.f k (([ow,ox]:List Int))).bind fun uE=>(some uE))))=some r:=h;clear h;replace H:=Gl.mp H;obtain⟨ow,dj,H⟩:=H
 try dsimp only at H
 have A3:=Ah dj;clear dj;replace H:=Gl.mp H;obtain⟨ox,eJ,H⟩:=H
 try dsimp only at H
 have A4:=Ah eJ;clear eJ;obtain⟨FU,wY⟩:∃y_:List Int,y_=(([ow,ox]:List Int)):=⟨_,rfl⟩
 replace H:((il.f k FU).bind fun uE=>(some uE))=some r:=by first|(rw[wY];with_reducible exact H)|(have aq:=(Gm _ _).symm.trans H;rw[wY];with_reducible exact aq)|(have aq:=(Gm _ _).symm.trans H;with_reducible exact aq)|with_reducible exact H|(rw[wY];exact H)|exact H
 have MV:=Ah wY;clear wY;replace H:=Gl.mp H;obtain⟨uE,kI,H⟩:=H
 try dsimp only at H
 have A5:=Ah kI;clear kI;obtain rfl:=Gn H
 go_enter Try.func59,Try.ntmps59
 try go_wp2_with (first|((with_reducible refine ag (N:=2) rfl ?_);refine an 2 45 #[.int .i64 aA,.int .i64 bN] ?_;intro MW hg w6 ga hb;have GW434:=gw hg (bs HB);have tm:=gw hg (bs HB);replace HB:=Ah (aH (bs HB) hb);clear hb hg)|((with_reducible refine ag (N:=3) rfl ?_);refine an 3 45 #[.int .i64 aN,.int .i64 aQ] ?_;intro MX hg w7 jM hb;have GW435:=gw hg (aM HB tm);have Es:=gw hg (aM HB tm);replace HB:=Ah (aH (aM HB tm) hb);have NB434_435:=nn ga hg;have NB435_434:=nm ga hg;replace ga:=nb ga hb;clear hb hg))
 replace ga:=Ah (cY ga.out);replace jM:=Ah (cY jM.out);replace HB:=Ah (j7 HB.out);refine mt (n:=13) (S:=fun w'=>w'.cell? ⟨MW,0,none⟩=some (.int .i64 aA)∧w'.cell? ⟨MW,1,none⟩=some (.int .i64 bN)∧w'.cell? ⟨MX,0,none⟩=some (.int .i64 aN)∧w'.cell? ⟨MX,1,none⟩=some (.int .i64 aQ)) (ds:=[]) #[false,false,false,false,false,false,false,false,false,false,false,false,false] (by kernel_rfl) rfl rfl ⟨(aE ga.out 0).trans rfl,(aE ga.out 1).trans rfl,(aE jM.out 0).trans rfl,(aE jM.out 1).trans rfl⟩ (fun hHeld=> ?_);refine na mo.D2 mo.Ck (fun aI cz=> ?_)
 generalize w7.drew=w8 at ga jM HB hHeld⊢
 refine b6 0 5 aI.out ?_;refine b6 2 7 aI.out ?_;refine b6 5 10 aI.out ?_;refine b6 7 12 aI.out ?_;refine dv 1 6 aI.out cz.out hHeld (hr:=by rintro w' ⟨s0,s1,s2,s3⟩;go_simp;with_reducible rfl) (h:= ?_);refine dv 3 8 aI.out cz.out hHeld (hr:=by rintro w' ⟨s0,s1,s2,s3⟩;go_simp;with_reducible rfl) (h:= ?_);refine dv 6 11 aI.out cz.out hHeld (hr:=by rintro w' ⟨s0,s1,s2,s3⟩;go_simp;with_reducible rfl) (h:= ?_);refine dv 8 13 aI.out cz.out hHeld (hr:=by rintro w' ⟨s0,s1,s2,s3⟩;go_simp;with_reducible rfl) (h:= ?_);refine fv (i:=4) (N:=some 9) #[true,true,true,true,true,true,true,true,true,false,false,false,false] rfl rfl (gJ aI.out (by kernel_rfl)) (by decide) (fun K hK=> ?_);refine gZ Try.func75 (by kernel_rfl) rfl #[.int .i64 bN,.int .i64 aQ] (by rfl) rfl rfl (by(try simp only[List.map_toArray,List.map_cons,List.map_nil]);first|done|rfl|(simp only[List.length_drop,List.length_take];rfl)) ?_
 with_reducible refine(cmp_Compare_int.calls bN aQ ow _ A3.out).mono ?_
 rintro e w' ⟨rfl,⟨nd,rfl⟩⟩;refine⟨_,rfl, ?_⟩;refine hK.out _ _ ⟨(aE ga.out 0).trans rfl,(aE ga.out 1).trans rfl,(aE jM.out 0).trans rfl,(aE jM.out 1).trans rfl⟩ (fun hHeld=> ?_);clear hK K;refine nq 9 ?_;refine fv (i:=9) (N:=some 14) #[true,true,true,true,true,true,true,true,true,true,false,false,false] rfl rfl (gJ aI.out (by kernel_rfl)) (by decide) (fun K hK=> ?_);refine gZ aa8 (by kernel_rfl) rfl #[.int .i64 aA,.int .i64 aN] (by rfl) rfl rfl (by(try simp only[dl,dV,lK]);first|done|rfl|(simp only[SI,Ja];rfl)) ?_
 with_reducible refine(cmp_Compare_int.calls aA aN ox _ A4.out).mono ?_
 rintro e w' ⟨rfl,⟨nd,rfl⟩⟩;refine⟨_,rfl, ?_⟩;refine hK.out _ _ ⟨(aE ga.out 0).trans rfl,(aE ga.out 1).trans rfl,(aE jM.out 0).trans rfl,(aE jM.out 1).trans rfl⟩ (fun hHeld=> ?_);clear hK K;refine nq 14 ?_;refine fv (i:=10) (N:=some 15) #[true,true,true,true,true,true,true,true,true,true,true,false,false] rfl rfl (gJ aI.out (by kernel_rfl)) (by decide) (fun K hK=> ?_);refine Kd.Dn (Kd.int .i64) _ 3 ?hg (N:=15) ?hd (xs:=([ow,ox]:List Int)) (inner:=[.int .i64 ow,.int .i64 ox]) (ok:=fun _=>True) (okp:=fun _=>True) ?hr ?hp (fun _ hk=>hk) trivial (Ud _ _) (QQ _) (by simp) ?_;(case hd=>rfl);(case hg=>rfl);(case hr=>first|(go_simp;done)|(go_simp;rfl));(case hp=>exact(cA.one (show Kd.M (Kd.int .i64) _ _ _ ow [.int .i64 ow]from rfl) (cA.one (show Kd.M (Kd.int .i64) _ _ _ ox [.int .i64 ox]from rfl) (cA.none _ _))));intro v439 w9 xD hb i9 hX;clear i9 hX;(first|rw[←MV.out]at xD|(simp only[Int.reduceToNat]at xD;rw[←MV.out]at xD));have Et:=Ah (Kd.bR xD (bE (am HB tm Es)));replace ga:=Ah (bb ga hb);replace jM:=Ah (bb jM hb);replace HB:=Ah (aH (am HB tm Es) hb);clear hb xD;obtain⟨u0,u5,Aj⟩:=Kd.az Et.out;(first|subst Aj|(injection Aj with cR dw cS;have dx:=cR.symm;have dy:=cS.symm;clear cR dw cS;subst dx;subst dy));refine hK.out _ _ ⟨(aE ga.out 0).trans rfl,(aE ga.out 1).trans rfl,(aE jM.out 0).trans rfl,(aE jM.out 1).trans rfl⟩ (fun hHeld=> ?_);clear hK K;refine nq 15 ?_;refine fv (i:=11) (N:=some 16) #[true,true,true,true,true,true,true,true,true,true,true,true,false] rfl rfl (gJ aI.out (by kernel_rfl)) (by decide) (fun K hK=> ?_);refine gZ Try.func74 (by kernel_rfl) rfl #[.slice u0 FU.length u5] (by rfl) rfl rfl (by(try simp only[dl,dV,lK]);first|done|rfl|(simp only[SI,Ja];rfl)) ?_
 with_reducible refine(il.calls k _ _ FU uE _ ?aZ ?ae A5.out).mono ?_
 (case aZ=>exact jF Et);(case ae=>exact(Kd.aY Et.out).2.1);rintro e w' ⟨rfl,⟨nd,rfl⟩⟩;refine⟨_,rfl, ?_⟩;refine hK.out _ _ ⟨(aE ga.out 0).trans rfl,(aE ga.out 1).trans rfl,(aE jM.out 0).trans rfl,(aE jM.out 1).trans rfl⟩ (fun hHeld=> ?_);clear hK K;refine nq 16 ?_;refine b6 12 4 aI.out ?_;refine jn (kO aI.out (by kernel_rfl)) ?_
 try go_wp2
 go_ret
 exact⟨er,am HB tm Es⟩
theorem mo.exact(k:Nat)(aA:Int)(bN:Int)(aN:Int)(aQ:Int)(r:Int)(w:World)(h:mo.f k aA bN aN aQ=some r):
 Calls Uf 59 #[.agg #[.int .i64 aA,.int .i64 bN],.agg #[.int .i64 aN,.int .i64 aQ]] w fun e w'=>e= .returned (.int .i64 r)∧Below w.heap.size w w'∧w.drawn≤w'.drawn:=by
 have DR:=Ah (QQ w.drawn);have jT:=fk;have HB:=Ah (Ud w.heap.size w);have H:((cmp_Compare_int.f bN aQ).bind fun ow=>((cmp_Compare_int.f aA aN).bind fun ox=>((il.f k (([ow,ox]:List Int))).bind fun uE=>(some uE))))=some r:=h;clear h;replace H:=Gl.mp H;obtain⟨ow,dj,H⟩:=H
 try dsimp only at H
 have A3:=Ah dj;clear dj;replace H:=Gl.mp H;obtain⟨ox,eJ,H⟩:=H
 try dsimp only at H
 have A4:=Ah eJ;clear eJ;obtain⟨FU,wY⟩:∃y_:List Int,y_=(([ow,ox]:List Int)):=⟨_,rfl⟩
 replace H:((il.f k FU).bind fun uE=>(some uE))=some r:=by first|(rw[wY];with_reducible exact H)|(have aq:=(Gm _ _).symm.trans H;rw[wY];with_reducible exact aq)|(have aq:=(Gm _ _).symm.trans H;with_reducible exact aq)|with_reducible exact H|(rw[wY];exact H)|exact H
 have MV:=Ah wY;clear wY;replace H:=Gl.mp H;obtain⟨uE,kI,H⟩:=H
 try dsimp only at H
 have A5:=Ah kI;clear kI;obtain rfl:=Gn H
 go_enter Try.func59,Try.ntmps59
 try go_wp2_with (first|((with_reducible refine ag (N:=2) rfl ?_);refine box_eventD ?hg (N:=2) ?hd (cs:= #[.int .i64 aA,.int .i64 bN]) (t:=45) ?hr ?_;(case hd=>rfl);(case hg=>rfl);(case hr=>first|(go_simp;done)|(go_simp;rfl));intro MW hg w6 hbox hb D3;replace DR:=Ah (aav DR.out (aaf D3.symm));clear D3;have ga:=Ah (hbox);have GW434:=gw hg (bs HB);have tm:=gw hg (bs HB);replace HB:=Ah (aH (bs HB) hb);clear hb hbox hg)|((with_reducible refine ag (N:=3) rfl ?_);refine box_eventD ?hg (N:=3) ?hd (cs:= #[.int .i64 aN,.int .i64 aQ]) (t:=45) ?hr ?_;(case hd=>rfl);(case hg=>rfl);(case hr=>first|(go_simp;done)|(go_simp;rfl));intro MX hg w7 hbox hb D3;replace DR:=Ah (aav DR.out (aaf D3.symm));clear D3;have jM:=Ah (hbox);have GW435:=gw hg (aM HB tm);have Es:=gw hg (aM HB tm);replace HB:=Ah (aH (aM HB tm) hb);have NB434_435:=nn ga hg;have NB435_434:=nm ga hg;replace ga:=nb ga hb;clear hb hbox hg))
 replace ga:=Ah (cY ga.out);replace jM:=Ah (cY jM.out);replace HB:=Ah (j7 HB.out);refine mt (n:=13) (S:=fun w'=>w'.cell? ⟨MW,0,none⟩=some (.int .i64 aA)∧w'.cell? ⟨MW,1,none⟩=some (.int .i64 bN)∧w'.cell? ⟨MX,0,none⟩=some (.int .i64 aN)∧w'.cell? ⟨MX,1,none⟩=some (.int .i64 aQ)) (ds:=[]) #[false,false,false,false,false,false,false,false,false,false,false,false,false] (by kernel_rfl) rfl rfl ⟨(aE ga.out 0).trans rfl,(aE ga.out 1).trans rfl,(aE jM.out 0).trans rfl,(aE jM.out 1).trans rfl⟩ (fun hHeld=> ?_);refine na mo.D2 mo.Ck (fun aI cz=> ?_);have Pt:w.drawn≤(w7.drew).drawn:=aav DR.out (Nat.le_succ _);replace DR:=Ah Pt;clear Pt
 generalize w7.drew=w8 at DR ga jM HB hHeld⊢
 refine b6 0 5 aI.out ?_;refine b6 2 7 aI.out ?_;refine b6 5 10 aI.out ?_;refine b6 7 12 aI.out ?_;refine dv 1 6 aI.out cz.out hHeld (hr:=by rintro w' ⟨s0,s1,s2,s3⟩;go_simp;with_reducible rfl) (h:= ?_);refine dv 3 8 aI.out cz.out hHeld (hr:=by rintro w' ⟨s0,s1,s2,s3⟩;go_simp;with_reducible rfl) (h:= ?_);refine dv 6 11 aI.out cz.out hHeld (hr:=by rintro w' ⟨s0,s1,s2,s3⟩;go_simp;with_reducible rfl) (h:= ?_);refine dv 8 13 aI.out cz.out hHeld (hr:=by rintro w' ⟨s0,s1,s2,s3⟩;go_simp;with_reducible rfl) (h:= ?_);refine fv (i:=4) (N:=some 9) #[true,true,true,true,true,true,true,true,true,false,false,false,false] rfl rfl (gJ aI.out (by kernel_rfl)) (by decide) (fun K hK=> ?_);refine gZ Try.func75 (by kernel_rfl) rfl #[.int .i64 bN,.int .i64 aQ] (by rfl) rfl rfl (by(try simp only[List.map_toArray,List.map_cons,List.map_nil]);first|done|rfl|(simp only[List.length_drop,List.length_take];rfl)) ?_
 with_reducible refine(cmp_Compare_int.calls bN aQ ow _ A3.out).mono ?_
 rintro e w' ⟨rfl,⟨nd,rfl⟩⟩;refine⟨_,rfl, ?_⟩;refine hK.out _ _ ⟨(aE ga.out 0).trans rfl,(aE ga.out 1).trans rfl,(aE jM.out 0).trans rfl,(aE jM.out 1).trans rfl⟩ (fun hHeld=> ?_);clear hK K;refine nq 9 ?_;refine fv (i:=9) (N:=some 14) #[true,true,true,true,true,true,true,true,true,true,false,false,false] rfl rfl (gJ aI.out (by kernel_rfl)) (by decide) (fun K hK=> ?_);refine gZ aa8 (by kernel_rfl) rfl #[.int .i64 aA,.int .i64 aN] (by rfl) rfl rfl (by(try simp only[dl,dV,lK]);first|done|rfl|(simp only[SI,Ja];rfl)) ?_
 with_reducible refine(cmp_Compare_int.calls aA aN ox _ A4.out).mono ?_
 rintro e w' ⟨rfl,⟨nd,rfl⟩⟩;refine⟨_,rfl, ?_⟩;refine hK.out _ _ ⟨(aE ga.out 0).trans rfl,(aE ga.out 1).trans rfl,(aE jM.out 0).trans rfl,(aE jM.out 1).trans rfl⟩ (fun hHeld=> ?_);clear hK K;refine nq 14 ?_;refine fv (i:=10) (N:=some 15) #[true,true,true,true,true,true,true,true,true,true,true,false,false] rfl rfl (gJ aI.out (by kernel_rfl)) (by decide) (fun K hK=> ?_);refine Kd.R_lit_stepD (Kd.int .i64) _ 3 ?hg (N:=15) ?hd (xs:=([ow,ox]:List Int)) (inner:=[.int .i64 ow,.int .i64 ox]) (ok:=fun _=>True) (okp:=fun _=>True) ?hr ?hp (fun _ hk=>hk) trivial (Ud _ _) (QQ _) (by simp) ?_;(case hd=>rfl);(case hg=>rfl);(case hr=>first|(go_simp;done)|(go_simp;rfl));(case hp=>exact(cA.one (show Kd.M (Kd.int .i64) _ _ _ ow [.int .i64 ow]from rfl) (cA.one (show Kd.M (Kd.int .i64) _ _ _ ox [.int .i64 ox]from rfl) (cA.none _ _))));intro v439 w9 xD hb i9 hX D3
 have Pt:w.drawn≤w9.drawn:=by have fa:=DR.out;rw[D3];simp only[World.drewN];omega
 replace DR:=Ah Pt;clear Pt D3 i9 hX;(first|rw[←MV.out]at xD|(simp only[Int.reduceToNat]at xD;rw[←MV.out]at xD));have Et:=Ah (Kd.bR xD (bE (am HB tm Es)));replace ga:=Ah (bb ga hb);replace jM:=Ah (bb jM hb);replace HB:=Ah (aH (am HB tm Es) hb);clear hb xD;obtain⟨u0,u5,Aj⟩:=Kd.az Et.out;(first|subst Aj|(injection Aj with cR dw cS;have dx:=cR.symm;have dy:=cS.symm;clear cR dw cS;subst dx;subst dy));refine hK.out _ _ ⟨(aE ga.out 0).trans rfl,(aE ga.out 1).trans rfl,(aE jM.out 0).trans rfl,(aE jM.out 1).trans rfl⟩ (fun hHeld=> ?_);clear hK K;refine nq 15 ?_;refine fv (i:=11) (N:=some 16) #[true,true,true,true,true,true,true,true,true,true,true,true,false] rfl rfl (gJ aI.out (by kernel_rfl)) (by decide) (fun K hK=> ?_);refine gZ Try.func74 (by kernel_rfl) rfl #[.slice u0 FU.length u5] (by rfl) rfl rfl (by(try simp only[dl,dV,lK]);first|done|rfl|(simp only[SI,Ja];rfl)) ?_
 with_reducible refine(il.calls k _ _ FU uE _ ?aZ ?ae A5.out).mono ?_
 (case aZ=>exact jF Et);(case ae=>exact(Kd.aY Et.out).2.1);rintro e w' ⟨rfl,⟨nd,rfl⟩⟩;refine⟨_,rfl, ?_⟩;refine hK.out _ _ ⟨(aE ga.out 0).trans rfl,(aE ga.out 1).trans rfl,(aE jM.out 0).trans rfl,(aE jM.out 1).trans rfl⟩ (fun hHeld=> ?_);clear hK K;refine nq 16 ?_;refine b6 12 4 aI.out ?_;refine jn (kO aI.out (by kernel_rfl)) ?_
 try go_wp2
 go_ret
 exact⟨er,am HB tm Es,by have fa:=DR.out;first|exact fa|(simp only[World.drewN];omega)⟩
def CP(x y:Y):Bool:=decide (x.f1<y.f1∨x.f1=y.f1∧x.f0≤y.f0)
def tG.f(l0:List Y):Option (List Y):=if l0.length≤1048576 then some (l0.mergeSort CP)else none
def yQ(a b:Int):Int:=if a<b then -1 else if a>b then 1 else 0
def zS(x y:Y):Int:=if yQ x.f1 y.f1=0 then yQ x.f0 y.f0 else yQ x.f1 y.f1
theorem cmpInts_eq(a b:Int):cmp_Compare_int.f a b=some (yQ a b):=by
 unfold cmp_Compare_int.f cmp_isNaN_int.f yQ
 have e:(a !=a)=false:=by simp
 have e2:(b !=b)=false:=by simp
 rw[e,e2];simp only[Gm,Bool.false_eq_true,if_false]
 by_cases h1:a<b
 ·rw[if_pos h1,if_pos h1]
 ·rw[if_neg h1,if_neg h1]
  by_cases h2:a>b
  ·rw[if_pos h2,if_pos h2]
  ·rw[if_neg h2,if_neg h2]
theorem cmpOr_eq(a b:Int):il.f 3 [a,b]=some (if a=0 then b else a):=by
 have w1:Gj (0+1)=1:=by unfold Gj;omega
 have w2:Gj (1+1)=2:=by unfold Gj;omega
 unfold il.f;have l:(([a,b]:List Int).length:Int)=2:=rfl;rw[l,il.l0,if_pos (by decide),if_pos (by decide),l,if_pos (by decide),show rd [a,b] 0=a from rfl]
 by_cases h:a=0
 ·rw[if_pos h,if_pos h,w1,il.l0,if_pos (by decide),if_pos (by decide),l,if_pos (by decide),show rd [a,b] 1=b from rfl]
  by_cases h2:b=0
  ·rw[if_pos h2,w2,il.l0,if_neg (by decide),h2]
  ·rw[if_neg h2]
 ·rw[if_neg h,if_neg h]
theorem cmpSizes_eq(x y:Y):mo.f 3 x.f0 x.f1 y.f0 y.f1=some (zS x y):=by
 unfold mo.f;rw[cmpInts_eq,Gm,cmpInts_eq,Gm,cmpOr_eq,Gm]
 rfl
theorem cmpInts_lt(a b:Int):yQ a b<0↔a<b:=by
 unfold yQ
 split
 ·omega
 ·split<;>omega
theorem cmpInts_zero(a b:Int):yQ a b=0↔a=b:=by
 unfold yQ
 split
 ·omega
 ·split<;>omega
theorem Jf(x y:Y):abq zS x y=decide (x.f1<y.f1∨x.f1=y.f1∧x.f0<y.f0):=by
 unfold abq zS;refine decide_eq_decide.2 ?_
 by_cases h:yQ x.f1 y.f1=0
 ·rw[if_pos h,cmpInts_lt]
  have:=(cmpInts_zero _ _).1 h
  omega
 ·rw[if_neg h,cmpInts_lt]
  have:x.f1≠y.f1:=fun e=>h ((cmpInts_zero _ _).2 e)
  omega
def KQ(x:Y):List Value:=[.int .i64 x.f0,.int .i64 x.f1]
instance:Inhabited Y:=⟨z45⟩
theorem swoSizes:Go.Sort.SWO (abq zS) where
 irrefl x:=by rw[Jf];simp
 trans x y z h1 h2:=by rw[Jf]at *;simp only[decide_eq_true_eq]at *;omega
 ntrans x y z h1 h2:=by rw[Jf]at *;simp only[decide_eq_false_iff_not]at *;omega
theorem totSizes(x y:Y)(h1:Go.Proofs.ltOf zS x y=false)(h2:Go.Proofs.ltOf zS y x=false):x=y:=by
 rw[Jf]at *;simp only[decide_eq_false_iff_not]at *;obtain⟨a,b⟩:=x;obtain⟨c,d⟩:=y;simp only at *;rw[show a=c by omega,show b=d by omega]
theorem leSizes_eq:(fun x y=> !(abq zS) y x)=CP:=by
 funext x y
 rw[Jf];unfold CP;rw[Bool.eq_iff_iff,Bool.not_eq_true',decide_eq_false_iff_not,decide_eq_true_iff]
 omega
set_option maxRecDepth 100000 in
theorem tG.calls(dG:Nat→Prop)(fd:Value)(l0:List Y)(r:List Y)(w0 w:World)(hB:Below w0.heap.size w0 w)(ho0:Kd.R aT 45 w w0.heap.size dG fd l0)(h:tG.f l0=some r):
 Calls Uf 58 #[fd,.func (.func 59) #[] #[]] w fun e w'=>e= .returned (.tuple #[])∧Kd.R aT 45 w' w0.heap.size (fun k_=>(dG k_∨w.heap.size≤k_)) fd r∧Below w0.heap.size w0 w'∧ap w w' (fun k_=>dG k_):=by
 unfold tG.f at h
 by_cases hl0:l0.length≤1048576
 case neg=>rw[if_neg hl0]at h;cases h
 rw[if_pos hl0]at h;obtain rfl:=Gn h
 rcases holdsK_of_R (d:=aT) KQ (fun _=>rfl) (by decide) (fun hm=>qT hm) ho0 with⟨rfl,rfl⟩|⟨g,cap,cur,rfl,hb,hok,hlt,hg,hc,hm,hs,hH⟩
 ·refine(Go.Proofs.AnyF.slices_SortFunc_none Go.Proofs.Ytfeokehfhaimkaa.Srt.sortEx none 0 _ w).mono fun e w' hp=> ?_
  obtain⟨rfl,rfl⟩:=hp;exact⟨rfl,by simpa using Kd.be _ _ _ _ _,hB,ap.refl _ _⟩
 ·have eg:∀args w,(callFunc 59 args).run Uf w= .ok (.enter 59 args) w:=Go.Proofs.enters_of Try.func59 (by kernel_rfl) rfl
  have hcmp:Go.Proofs.CmpLays Uf 59 #[] KQ 2 zS g 0 l0.toArray.size w:=fun m os dk _ x y=>
   (mo.exact 3 x.f0 x.f1 y.f0 y.f1 _ _ (cmpSizes_eq x y)).mono fun e w' hp=>⟨hp.1,grow_of_below hp.2.1 hp.2.2⟩
  have hm':cap≤9223372036854775807:=hm
  have hsz:l0.toArray.size<4611686018427387904:=by
   rw[List.size_toArray]
   omega
  have hcon:=Go.Proofs.AnyQ.slices_SortFunc_total Go.Proofs.Ytfeokehfhaimkaa.Srt.sortEx 2 Try.isAgg45 Try.sizeOf45 KQ (fun _=>rfl) (fun x v hv=>by simp[KQ]at hv;rcases hv with rfl|rfl<;>rfl) zS swoSizes 59 #[] g 0 cap l0.toArray w eg hcmp hH hlt hsz totSizes
  refine Calls.mono (show Calls Uf 58 #[.slice (some ⟨g,0,none⟩) l0.length cap,.func (.func 59) #[] #[]] w _ from hcon) fun e w' hp=> ?_
  obtain⟨rfl,n,os,rfl⟩:=hp;rw[leSizes_eq];have:=R_of_sort (d:=aT) KQ (fun _=>rfl) (by decide) (fun W base ok x=>ls W base ok x) hB hb hok hlt hg hc hm hs (l0.mergeSort CP).toArray (by simp) n os;have h1:=this.1
  simp at h1
  exact⟨rfl,h1,this.2.1,this.2.2⟩
def zD.f(a0:Int)(l1:List (Y)):Option (Int×(List (Y))×(List (Y))):=(mq.f l1).bind fun rT=>((tG.f rT).bind fun OI=>(some (a0,l1,OI)))
theorem zD.calls(a0:Int)(pf:Nat→Prop)(A1:Option Addr)(c1:Nat)(l1:List (Y))(r1:Int)(r2:List (Y))(r3:List (Y))(w:World)(hs1:Kd.V aT 45 w w.heap.size (fun k_=>pf k_) (.slice A1 l1.length c1) l1)(h:zD.f a0 l1=some (r1,r2,r3)):
 Calls Try.prog 41 #[.int .i64 a0,.slice A1 l1.length c1] w fun e w'=>∃df da:Value,e= .returned (.agg #[.int .i64 r1,df,da])∧Kd.V aT 45 w' w.heap.size (fun k_=>(pf k_∨w.heap.size≤k_)∧some k_≠(da:Value).ownBlock) df r2∧Kd.R aT 45 w' w.heap.size (fun k_=>(w.heap.size≤k_)) da r3∧Below w.heap.size w w':=by
 have mL:=ig;have nP:=Ah (show Kd.V aT 45 w w.heap.size (fun k_=>(pf k_∨w.heap.size≤k_)) (.slice A1 l1.length c1) l1 from Kd.IK hs1 (fun k_ hk=> .inl hk));have HB:=Ah (Ud w.heap.size w);have H:((mq.f l1).bind fun rT=>((tG.f rT).bind fun OI=>(some (a0,l1,OI))))=some (r1,r2,r3):=h;clear h;replace H:=Gl.mp H;obtain⟨rT,dj,H⟩:=H
 try dsimp only at H
 have A3:=Ah dj;clear dj;replace H:=Gl.mp H;obtain⟨OI,eJ,H⟩:=H
 try dsimp only at H
 have A4:=Ah eJ;clear eJ;simp only[Jh,Ue]at H;obtain⟨rfl,rfl,rfl⟩:=H
 go_enter Try.func41,Try.ntmps41
 go_wp2_with (first|((with_reducible refine ag (N:=4) rfl ?_);refine an 4 26 #[.int .i64 0,.slice none 0 0,.slice none 0 0] ?_;intro yc hg w5 AQ hb;replace nP:=Ah (Kd.V_below (Kd.V_elderB (by(with_reducible repeat(first|apply Kd.Vu|apply Kd.Vv|apply Kd.Xu));exact nP.out) yc (aaf hg.symm)) hb);have GW442:=gw hg (bs HB);have MY:=gw hg (bs HB);replace HB:=Ah (aH (bs HB) hb);clear hb hg)|((with_reducible refine bY (f:=57) rfl ?_);refine gL (some 7) rfl rfl Try.func57 (by kernel_rfl) rfl #[.slice A1 l1.length c1] rfl ?_;(with_reducible refine(mq.calls _ _ l1 rT _ ?aZ ?ae A3.out).mono ?_);(case aZ=>repeat(first|exact(Kd.V_reads' nP.out).2.2|(with_reducible refine Kd.tO ?_ _)|(with_reducible refine Kd.tP ?_ _)|(with_reducible refine Kd.th ?_)));(case ae=>exact(Kd.V_reads' nP.out).2.1);rintro e w6 ⟨v444,rfl,ho0,hb⟩;refine⟨_,rfl, ?_⟩;replace nP:=Ah (Kd.V_elder' (by(with_reducible repeat(first|apply Kd.Vu|apply Kd.Vv|apply Kd.Xu));exact nP.out) (Kd.jK ho0) hb);have Ic:=Ah (Kd.bR (Kd.R_newM (M:=fun k_=>(w.heap.size≤k_)) ho0 (bE (aM HB MY)) (fun k_ h_=>h_)) (bE (aM HB MY)));replace AQ:=nb AQ hb;replace HB:=Ah (aH (aM HB MY) hb);(try clear hb ho0);obtain⟨qO,nM,GX⟩:=Kd.az Ic.out;subst GX)|((with_reducible refine bY (f:=58) rfl ?_);refine gL (some 9) rfl rfl Try.func58 (by kernel_rfl) rfl #[.slice qO rT.length nM,.func (.func 59) #[] #[]] rfl ?_;(with_reducible refine(tG.calls (fun k_=>some k_=(.slice qO rT.length nM:Value).ownBlock) (.slice qO rT.length nM) rT OI w _ ?aZ ?ae A4.out).mono ?_);(case aZ=>repeat(first|(with_reducible first|exact HB.out|apply mr|apply qS|apply j7|refine fJ ?_ MY.out)|exact HB.out));(case ae=>exact Kd.vu rfl Ic.out);rintro e w8 ⟨rfl,hy0,hb,hkp⟩;refine⟨_,rfl, ?_⟩;replace nP:=Ah (Kd.IK (ok':=fun k_=>(pf k_∨w.heap.size≤k_)∧some k_≠(.slice qO rT.length nM:Value).ownBlock∧k_≠yc) (Kd.V_keptB (nP.out) hkp (fun k_ dg hs_=>(dg.2) hs_)) (fun k_ dg=>⟨dg.1.1.1,dg.1.2,dg.1.1.2⟩));replace AQ:=Ah (nh (bk AQ) hkp (fun hs_=>(fun e_=>(Kd.dX Ic.out AQ.out (by decide)) e_) hs_));replace Ic:=Ah (Kd.EZ rfl hy0 (fun k_ e_=>Ic.out.1 k_ e_));replace HB:=Ah (hb);(try clear hb hkp hy0);obtain⟨rD,rE,wN⟩:=dE AQ;obtain⟨rF,rG,wO⟩:=dF AQ))
 refine bodyPost_ret (results_cell_row rfl _ _ yc 26 #[.int .i64 a0,.slice A1 l1.length c1,.slice qO rT.length nM] (0,0) _ rfl (pb AQ) ig rfl (by kernel_rfl)) rfl ?_;exact⟨_,_,er,by(with_reducible repeat(first|apply Kd.Vu|apply Kd.Vv|apply Kd.Xu));exact Kd.IK (Kd.YF (p:=⟨yc,2,none⟩) (Kd.YF (p:=⟨yc,1,none⟩) (Kd.YF (p:=⟨yc,0,none⟩) (Kd.IK nP.out (fun k_ hk=>(⟨hk,hk.2.2⟩:_∧k_≠yc))) (fun _ hk=>hk.2) (.int .i64 a0)) (fun _ hk=>hk.2) (.slice A1 l1.length c1)) (fun _ hk=>hk.2) (.slice qO rT.length nM)) (fun _ hk=>⟨hk.1.1,hk.1.2.1⟩),by(with_reducible repeat(first|apply Kd.bd|apply Kd.bZ|apply Kd.bQ));exact Kd.ax (Kd.aK (p:=⟨yc,2,none⟩) (Kd.aK (p:=⟨yc,1,none⟩) (Kd.aK (p:=⟨yc,0,none⟩) (Kd.dU Ic.out AQ.out (by decide)) (fun _ hk=>hk.2) (.int .i64 a0)) (fun _ hk=>hk.2) (.slice A1 l1.length c1)) (fun _ hk=>hk.2) (.slice qO rT.length nM)) (fun _ hk=>hk.1.1),aM HB MY⟩
def n5.f(aA:Int)(bN:Int)(a1:Int):Option (Bool):=(jH.f aA 0 (Gj (a1-1))).bind fun OJ=>(if OJ=true then((jH.f bN 1 (Gj (a1-aA))).bind fun FV=>(some FV))else(some false))
theorem n5.calls(aA:Int)(bN:Int)(a1:Int)(r:Bool)(w:World)(h:n5.f aA bN a1=some r):
 Calls Uf 65 #[.agg #[.int .i64 aA,.int .i64 bN],.int .i64 a1] w fun e w'=>e= .returned (.bool r)∧Below w.heap.size w w':=by
 have jT:=fk;have HB:=Ah (Ud w.heap.size w);have H:((jH.f aA 0 (Gj (a1-1))).bind fun OJ=>(if OJ=true then((jH.f bN 1 (Gj (a1-aA))).bind fun FV=>(some FV))else(some false)))=some r:=h;clear h;replace H:=Gl.mp H;obtain⟨OJ,dj,H⟩:=H
 try dsimp only at H
 have A3:=Ah dj;clear dj
 by_cases c4:OJ=true
 rotate_left
 ·
  replace c4:=PT.mpr c4;subst c4;rw[if_neg dr]at H;obtain rfl:=Gn H
  go_enter Try.func65,Try.ntmps65
  go_wp2_with (first|((with_reducible refine ag (N:=2) rfl ?_);refine an 2 45 #[.int .i64 aA,.int .i64 bN] ?_;intro gb456 hg w8 MZ hb;have GW456:=gw hg (bs HB);have Ym:=gw hg (bs HB);replace HB:=Ah (aH (bs HB) hb);clear hb hg;obtain⟨rD,rE⟩:=cg MZ;obtain⟨rF,rG⟩:=ch MZ)|((with_reducible refine bY (f:=40) rfl ?_);refine gL (some 9) rfl rfl aa7 (by kernel_rfl) rfl #[.int .i64 aA,.int .i64 0,.int .i64 (Gj (a1-1))] rfl ?_;(with_reducible refine(jH.calls aA 0 (Gj (a1-1)) false _ A3.out).mono ?_);rintro e w' ⟨rfl,⟨nd,rfl⟩⟩;refine⟨_,rfl, ?_⟩))
  go_ret
  exact⟨er,aM HB Ym⟩
 subst c4;rw[if_pos rfl]at H;replace H:=Gl.mp H;obtain⟨FV,kI,H⟩:=H
 try dsimp only at H
 have A5:=Ah kI;clear kI;obtain rfl:=Gn H
 go_enter Try.func65,Try.ntmps65
 go_wp2_with (first|((with_reducible refine ag (N:=2) rfl ?_);refine an 2 45 #[.int .i64 aA,.int .i64 bN] ?_;intro gb456 hg w6 MZ hb;have GW456:=gw hg (bs HB);have Ym:=gw hg (bs HB);replace HB:=Ah (aH (bs HB) hb);clear hb hg;obtain⟨pr,pt⟩:=cg MZ;obtain⟨pu,pv⟩:=ch MZ)|((with_reducible refine bY (f:=40) rfl ?_);refine gL (some 9) rfl rfl aa7 (by kernel_rfl) rfl #[.int .i64 aA,.int .i64 0,.int .i64 (Gj (a1-1))] rfl ?_;(with_reducible refine(jH.calls aA 0 (Gj (a1-1)) true _ A3.out).mono ?_);rintro e w' ⟨rfl,⟨nd,rfl⟩⟩;refine⟨_,rfl, ?_⟩)|(go_at_call 40;(with_reducible refine(jH.calls bN 1 (Gj (a1-aA)) FV _ A5.out).mono ?_);rintro e w' ⟨rfl,⟨nd,rfl⟩⟩))
 go_ret
 exact⟨er,aM HB Ym⟩
def jj.l0:Nat→List (Y)→List (Y)→Int→Int→Option (Bool)
 |0,_,_,_,_=>none
 |k+1,x0,x1,xn,iv=>if iv<xn then(if 0≤iv then(if iv<(x0.length:Int)then(if iv<(x1.length:Int)then(if(!(((aD x0 iv).f0)==((aD x1 iv).f0))||(!(((aD x0 iv).f1)==((aD x1 iv).f1))))=true then(some false)else(jj.l0 k x0 x1 xn (Gj (iv+1))))else(none))else(none))else(none))else(some true)
def jj.f(k:Nat)(l0:List (Y))(l1:List (Y)):Option (Bool):=if(l0.length:Int)=(l1.length:Int)then(jj.l0 k l0 l1 (l0.length:Int) 0)else(some false)
theorem jj.cQ:∀k,(∀y0 y1 y2 y3,aG (jj.l0 k y0 y1 y2 y3) (jj.l0 (k+1) y0 y1 y2 y3))
 |0=>fun _ _ _ _ r h=>by simp[jj.l0]at h
 |k+1=>by
  have bS:=jj.cQ k
  ·
   intro y0 y1 y2 y3;unfold jj.l0
   repeat' with_reducible first|exact bS _ _ _ _|exact aG.refl _|exact aG.none _|refine aG.ite ?_ ?_|refine aG.bind ?_ (fun _=> ?_)
theorem jj.mono:∀a0 a1 k,aG (jj.f k a0 a1) (jj.f (k+1) a0 a1):=by
 intro a0 a1 k;have bS:=jj.cQ k;unfold jj.f
 repeat' with_reducible first|exact bS _ _ _ _|exact aG.refl _|exact aG.none _|refine aG.ite ?_ ?_|refine aG.bind ?_ (fun _=> ?_)
theorem jj.calls(k:Nat)(A0:Option Addr)(c0:Nat)(l0:List (Y))(A1:Option Addr)(c1:Nat)(l1:List (Y))(r:Bool)(w:World)(hr0:Kd.C aT w A0 l0.length l0)(hc0:l0.length≤c0)(hr1:Kd.C aT w A1 l1.length l1)(hc1:l1.length≤c1)(h:jj.f k l0 l1=some r):
 Calls Uf 76 #[.slice A0 l0.length c0,.slice A1 l1.length c1] w fun e w'=>e= .returned (.bool r)∧bU w w':=by
 have jT:=fk;have cX:=Ah hr0;have oE:=Ah hc0;clear hr0 hc0;have HR1:=Ah hr1;have qn:=Ah hc1;clear hr1 hc1;have H:(if(l0.length:Int)=(l1.length:Int)then(jj.l0 k l0 l1 (l0.length:Int) 0)else(some false))=some r:=h;clear h
 by_cases c3:(l0.length:Int)=(l1.length:Int)
 rotate_left
 ·
  rw[if_neg c3]at H;have dc:=fS c3;have jr:=fT c3
  have qG:(l0.length==l1.length)=false:=by first|simpa using c3|(simp at c3⊢;omega)
  obtain rfl:=Gn H
  go_enter Try.func76,Try.ntmps76
  go_wp2
  repeat(go_quiet (fail);try go_wp2)
  go_ret
  exact⟨e3,by repeat(first|exact bU.refl _|apply bU.step)⟩
 rw[if_pos c3]at H;have dc:=fU c3;have jr:=fV c3
 have qG:(l0.length==l1.length)=true:=by first|simpa using c3|(simp at c3⊢;omega)
 clear c3;have H':=Ah H;clear H
 go_enter Try.func76,Try.ntmps76
 go_wp2
 repeat(go_quiet (fail);try go_wp2)
 go_loopg [13] k (fun kq v13 w'=>∃ (cL:Int),v13= .int .i64 cL∧Z (jj.l0 kq l0 l1 (l0.length:Int) cL=some r)∧Z (kq≤k)∧bU w w')
 case atStart=>exact⟨(0),e3,H',⟨QQ _⟩,by repeat(first|exact bU.refl _|apply bU.step)⟩
 case round=>
  clear H'
  try clear c1
  try clear p2
  try clear c3
  try clear dc
  try clear jr
  try clear qG
  obtain⟨cL,rfl,HA,bi,⟨m1,rfl⟩⟩:=hrel
  cases gk with
  |zero=>exact absurd HA.out (by simp[jj.l0])
  |succ k1=>
   have H:=HA.out;clear HA;simp only[jj.l0]at H
   by_cases c4:cL<(l0.length:Int)
   rotate_left
   ·
    rw[if_neg c4]at H;have fB:=dn c4;clear c4;obtain rfl:=Gn H
    go_wp2
    repeat(go_quiet (fail);try go_wp2)
    go_ret
    exact⟨e3,by repeat(first|exact bU.refl _|apply bU.step)⟩
   rw[if_pos c4]at H;have fB:=bJ c4;clear c4
   by_cases c5:0≤cL
   rotate_left
   ·
    rw[if_neg c5]at H;exact absurd H (by simp)
   rw[if_pos c5]at H;have kV:=bJ c5;clear c5
   by_cases c6:cL<(l0.length:Int)
   rotate_left
   ·
    rw[if_neg c6]at H;exact absurd H (by simp)
   rw[if_pos c6]at H;have o6:=bJ c6;clear c6
   by_cases c7:cL<(l1.length:Int)
   rotate_left
   ·
    rw[if_neg c7]at H;exact absurd H (by simp)
   rw[if_pos c7]at H;have pY:=bJ c7;clear c7
   by_cases c8:(!(((aD l0 cL).f0)==((aD l1 cL).f0))||(!(((aD l0 cL).f1)==((aD l1 cL).f1))))=true
   ·
    rw[if_pos c8]at H;have rO:(!(((aD l0 cL).f0)==((aD l1 cL).f0))||(!(((aD l0 cL).f1)==((aD l1 cL).f1))))=true:=c8;clear c8;obtain rfl:=Gn H;have FW:0≤(cL:Int):=od;have FX:cL<(l0.length:Int):=od;obtain⟨ad459,a0x,hx459_0,hx459_1⟩:=dN cX.out cL FW FX
    cases a0x
    replace FW:=eq_true FW;replace FX:=eq_true FX;have FY:0≤(cL:Int):=od;have FZ:cL<(l1.length:Int):=od;obtain⟨ad460,a0y,hx460_0,hx460_1⟩:=dN HR1.out cL FY FZ
    cases a0y
    replace FY:=eq_true FY;replace FZ:=eq_true FZ
    go_wp2
    repeat(go_quiet (fail);try go_wp2)
    go_ret
    exact⟨e3,by repeat(first|exact bU.refl _|apply bU.step)⟩
   rw[if_neg c8]at H
   have rO:(!(((aD l0 cL).f0)==((aD l1 cL).f0))||(!(((aD l0 cL).f1)==((aD l1 cL).f1))))=false:=by simpa using c8
   clear c8;have H':=Ah H;clear H;have FW:0≤(cL:Int):=od;have FX:cL<(l0.length:Int):=od;obtain⟨ad459,a0x,hx459_0,hx459_1⟩:=dN cX.out cL FW FX
   cases a0x
   replace FW:=eq_true FW;replace FX:=eq_true FX;have FY:0≤(cL:Int):=od;have FZ:cL<(l1.length:Int):=od;obtain⟨ad460,a0y,hx460_0,hx460_1⟩:=dN HR1.out cL FY FZ
   cases a0y
   replace FY:=eq_true FY;replace FZ:=eq_true FZ
   go_wp2
   repeat(go_quiet (fail);try go_wp2)
   go_roundg k1
   case measure=>have:=bi.out;omega
   case rel=>exact⟨(Gj (cL+1)),e3,H',⟨by have:=bi.out;omega⟩,by repeat(first|exact bU.refl _|apply bU.step)⟩
mutual
def cV.j0:Nat→Bool→Int→List (Y)→List (Y)→Option (Bool)
 |0,_,_,_,_=>none
 |k+1,BL,Hn,yR,Kq=>if BL=true then(some false)else(cV.l0 k yR (yR.length:Int) 0 Hn yR Kq)
def cV.l0:Nat→List (Y)→Int→Int→Int→List (Y)→List (Y)→Option (Bool)
 |0,_,_,_,_,_,_=>none
 |k+1,JT,eD,fz,Hn,yR,Kq=>if fz<eD then(if 0≤fz then(if fz<(JT.length:Int)then((n5.f ((aD JT fz).f0) ((aD JT fz).f1) Hn).bind fun a0z=>(if a0z=true then(if fz>0 then(if 0≤(Gj (fz-1))then(if(Gj (fz-1))<(yR.length:Int)then(if((aD JT fz).f0)≤(Gj (((aD yR (Gj (fz-1))).f0)+((aD yR (Gj (fz-1))).f1)))then(some false)else(cV.l0 k JT eD (Gj (fz+1)) Hn yR Kq))else(none))else(none))else(cV.l0 k JT eD (Gj (fz+1)) Hn yR Kq))else(some false)))else(none))else(none))else((zD.f Hn yR).bind fun bt468=>((jj.f k bt468.2.2 Kq).bind fun a0A=>(some a0A)))
end
def cV.f(k:Nat)(aA:Int)(X:List (Y))(aC:List (Y)):Option (Bool):=(jH.f aA 1 400).bind fun OK=>(if OK=true then(cV.j0 k (decide ((X.length:Int)>60)) aA X aC)else(cV.j0 k true aA X aC))
theorem cV.cQ:∀k,(∀y0 y1 y2 y3,aG (cV.j0 k y0 y1 y2 y3) (cV.j0 (k+1) y0 y1 y2 y3))∧(∀y0 y1 y2 y3 y4 y5,aG (cV.l0 k y0 y1 y2 y3 y4 y5) (cV.l0 (k+1) y0 y1 y2 y3 y4 y5))
 |0=>⟨fun _ _ _ _ r h=>by simp[cV.j0]at h,fun _ _ _ _ _ _ r h=>by simp[cV.l0]at h⟩
 |k+1=>by
  obtain⟨bS,ih1⟩:=cV.cQ k
  refine⟨?_, ?_⟩<;>intros<;>first|unfold cV.j0|unfold cV.l0
  all_goals repeat' first
   |(with_reducible exact bS _ _ _ _)
   |(with_reducible exact ih1 _ _ _ _ _ _)
   |(with_reducible exact jj.mono _ _ _)
   |(with_reducible exact aG.refl _)
   |(with_reducible exact aG.none _)
   |(with_reducible refine aG.ite ?_ ?_)
   |(with_reducible refine aG.bind ?_ (fun _=> ?_))
   |exact bS _ _ _ _
   |exact ih1 _ _ _ _ _ _
   |exact jj.mono _ _ _
   |exact aG.none _
   |refine aG.ite ?_ ?_
   |refine aG.bind ?_ (fun _=> ?_)
theorem cV.mono:∀a0 a1 a2 k,aG (cV.f k a0 a1 a2) (cV.f (k+1) a0 a1 a2):=by
 intro a0 a1 a2 k;obtain⟨bS,ih1⟩:=cV.cQ k;unfold cV.f
 repeat' with_reducible first|exact bS _ _ _ _|exact ih1 _ _ _ _ _ _|exact jj.mono _ _ _|exact aG.refl _|exact aG.none _|refine aG.ite ?_ ?_|refine aG.bind ?_ (fun _=> ?_)
def cV.T6:Bool×List (List Nat×List Nat):=(true,[([],[]),([],[]),([1],[1]),([0,2],[0,2]),([3],[3]),([4,3],[4]),([5],[5]),([6,5],[5,6]),([7,5,5],[5,7]),([8],[8]),([9,8],[8,9]),([8],[8]),([11,8],[8,11]),([8],[8]),([13,8],[8,13]),([12,14,8],[8,12,14]),([15,8],[8,15]),([16,8],[8,16]),([8],[8]),([18,8],[8,18]),([8],[8]),([20,8],[8,20]),([19,21,8],[8,19,21]),([22,8],[8,22]),([23,8],[8,23]),([17,24,8],[8,17,24]),([10,25,8],[8,10,25]),([8,26,5],[5,8,26]),([5,27],[5,27])])
def cV.B6:List Nat:=[0,0,2,7,15,31,63,127,255,511,1023,511,2559,511,8703,31231,63999,129535,511,262655,511,1049087,3932671,8126975,16515583,33552895,67108863,134217727,268435455]
theorem cV.sm:i5 .any (uw Try.f61 6)=cV.T6:=by kernel_rfl
theorem cV.sb:pm cV.T6.2 cV.B6=true:=by kernel_rfl
def cV.T9:Bool×List (List Nat×List Nat):=(true,[([],[]),([0],[0]),([],[]),([2],[2]),([1,3],[1,3]),([4],[4]),([],[]),([6],[6]),([5,7,4],[5,7]),([8,8,0,1,2,3,4,5,6,7,8],[8])])
def cV.B9:List Nat:=[0,1,0,4,15,31,0,64,255,511]
theorem cV.a0B:i5 .any (uw Try.f61 9)=cV.T9:=by kernel_rfl
theorem cV.Yn:pm cV.T9.2 cV.B9=true:=by kernel_rfl
theorem cV.calls(k:Nat)(aA:Int)(af:Option Addr)(aa:Nat)(X:List (Y))(ab:Option Addr)(ac:Nat)(aC:List (Y))(r:Bool)(w:World)(dO:Kd.C aT w af X.length X)(dP:X.length≤aa)(dQ:Kd.C aT w ab aC.length aC)(dR:aC.length≤ac)(h:cV.f k aA X aC=some r):
 Calls Uf 61 #[.agg #[.int .i64 aA,.slice af X.length aa,.slice ab aC.length ac]] w fun e w'=>e= .returned (.bool r)∧Below w.heap.size w w':=by
 have mL:=ig;have jT:=fk;have bo:=Ah dO;have cU:=Ah dP;clear dO dP;have cn:=Ah dQ;have co:=Ah dR;clear dQ dR;have HB:=Ah (Ud w.heap.size w);have H:((jH.f aA 1 400).bind fun OK=>(if OK=true then(cV.j0 k (decide ((X.length:Int)>60)) aA X aC)else(cV.j0 k true aA X aC)))=some r:=h;clear h;have HC2:=Ah H;clear H
 go_enter Try.func61,Try.ntmps61
 go_upto_region 1 with(first|((with_reducible refine ag (N:=1) rfl ?_);(try(refine ev (by rfl) ?_;dsimp only));refine an 1 26 #[.int .i64 aA,.slice af X.length aa,.slice ab aC.length ac] ?_;intro mv hg w3 cB hb;have GW461:=gw hg (bs HB);have ir:=gw hg (bs HB);replace HB:=Ah (aH (bs HB) hb);clear hb hg))
 (try simp only[Act.put,List.setIfInBounds_toArray,List.set_cons_zero,List.set_cons_succ])
 go_cut [14] (fun v14 wc=>∃ (kq:Nat) (TA:Bool),v14= .bool TA∧Z (cV.j0 kq TA aA X aC=some r)∧Z (kq≤k)∧Z (wc.heap[mv]?=some (.cells #[.int .i64 aA,(.slice af X.length aa),(.slice ab aC.length ac)] 26 (0,0)))∧Z (Below w.heap.size w wc))
 case first=>
  have H:=HC2.out;clear HC2;replace H:=Gl.mp H;obtain⟨OK,eJ,H⟩:=H
  try dsimp only at H
  have A4:=Ah eJ;clear eJ
  by_cases c5:OK=true
  ·
   subst c5;rw[if_pos rfl]at H;have H':=Ah H;clear H;obtain⟨AG,AH,Ea⟩:=dE cB;obtain⟨AI,AJ,Eb⟩:=dF cB
   go_wp2_with (first|((with_reducible refine bY (f:=40) rfl ?_);refine gL (some 7) rfl rfl aa7 (by kernel_rfl) rfl #[.int .i64 aA,.int .i64 1,.int .i64 400] rfl ?_;(with_reducible refine(jH.calls aA 1 400 true _ A4.out).mono ?_);rintro e w' ⟨rfl,⟨nd,rfl⟩⟩;refine⟨_,rfl, ?_⟩))
   go_meet
   case rel=>exact⟨_,(decide ((X.length:Int)>60)),e3,H',⟨by first|omega|exact QQ _⟩,⟨bk cB⟩,⟨aM HB ir⟩⟩
  replace c5:=PT.mpr c5;subst c5;rw[if_neg dr]at H;have H':=Ah H;clear H;obtain⟨pr,pt,yU⟩:=dE cB;obtain⟨pu,pv,yV⟩:=dF cB
  go_wp2_with (first|((with_reducible refine bY (f:=40) rfl ?_);refine gL (some 7) rfl rfl aa7 (by kernel_rfl) rfl #[.int .i64 aA,.int .i64 1,.int .i64 400] rfl ?_;(with_reducible refine(jH.calls aA 1 400 false _ A4.out).mono ?_);rintro e w' ⟨rfl,⟨nd,rfl⟩⟩;refine⟨_,rfl, ?_⟩))
  go_meet
  case rel=>exact⟨_,(true),e3,H',⟨by first|omega|exact QQ _⟩,⟨bk cB⟩,⟨aM HB ir⟩⟩
 case rest=>
  clear HC2
  try clear p2
  try clear c4
  try clear c5
  try clear c6
  try clear AG AH Ea
  try clear pr pt yU
  try clear AI AJ Eb
  try clear pu pv yV
  obtain⟨kq,TA,rfl,HA,UW,cB,HB⟩:=hcut
  cases kq with
  |zero=>exact absurd HA.out (by simp[cV.j0])
  |succ kj1=>
   have H:=HA.out;clear HA;simp only[cV.j0]at H
   by_cases c8:TA=true
   ·
    subst c8;rw[if_pos rfl]at H;obtain rfl:=Gn H
    go_wp2
    go_ret
    exact⟨er,aM HB ir⟩
   replace c8:=PT.mpr c8;subst c8;rw[if_neg dr]at H;have H':=Ah H;clear H;obtain⟨rD,rE,wN⟩:=dE cB;obtain⟨rF,rG,wO⟩:=dF cB
   go_wp2
   go_loopg [18] kj1 (fun kq v18 w'=>∃ (cM:Int),v18= .int .i64 cM∧Z (cV.l0 kq X (X.length:Int) cM aA X aC=some r)∧Z (kq≤kj1)∧Z (w'.heap[mv]?=some (.cells #[.int .i64 aA,(.slice af X.length aa),(.slice ab aC.length ac)] 26 (0,0)))∧Z (Below w.heap.size w w'))
   case atStart=>exact⟨(0),e3,H',⟨QQ _⟩,⟨bk cB⟩,⟨aM HB ir⟩⟩
   case round=>
    clear H'
    try clear p2
    try clear c4
    try clear c5
    try clear c6
    try clear c8
    try clear AG AH Ea
    try clear pr pt yU
    try clear rD rE wN
    try clear AI AJ Eb
    try clear pu pv yV
    try clear rF rG wO
    try clear p2
    obtain⟨cM,rfl,HA,eE,cB,HB⟩:=hrel
    cases gk with
    |zero=>exact absurd HA.out (by simp[cV.l0])
    |succ k2=>
     have H:=HA.out;clear HA;simp only[cV.l0]at H
     by_cases c10:cM<(X.length:Int)
     rotate_left
     ·
      rw[if_neg c10]at H;have Ma:=dn c10;clear c10;replace H:=Gl.mp H;obtain⟨⟨t468,t469,a0C⟩,OL,H⟩:=H
      try dsimp only at H
      have UX:=Ah OL;clear OL;replace H:=Gl.mp H;obtain⟨a0A,A450,H⟩:=H
      try dsimp only at H
      have A45:=Ah A450;clear A450;obtain rfl:=Gn H
      try go_wp2
      replace cB:=Ah (cY cB.out);replace HB:=Ah (j7 HB.out);refine mt (n:=10) (S:=fun w'=>w'.cell? ⟨mv,0,none⟩=some (.int .i64 aA)∧w'.cell? ⟨mv,1,none⟩=some (.slice af X.length aa)∧w'.cell? ⟨mv,2,none⟩=some (.slice ab aC.length ac)) (ds:=[]) #[false,false,false,false,false,false,false,false,false,false] (by kernel_rfl) rfl rfl ⟨(aE cB.out 0).trans rfl,(aE cB.out 1).trans rfl,(aE cB.out 2).trans rfl⟩ (fun hHeld=> ?_);refine na cV.a0B cV.Yn (fun aI cz=> ?_)
      generalize wr.drew=w46 at cB HB hHeld⊢
      refine b6 0 53 aI.out ?_;refine b6 2 55 aI.out ?_;refine b6 6 59 aI.out ?_;refine dv 1 54 aI.out cz.out hHeld (hr:=by rintro w' ⟨s0,s1,s2⟩;go_simp;with_reducible rfl) (h:= ?_);refine dv 3 56 aI.out cz.out hHeld (hr:=by rintro w' ⟨s0,s1,s2⟩;go_simp;with_reducible rfl) (h:= ?_);refine dv 7 60 aI.out cz.out hHeld (hr:=by rintro w' ⟨s0,s1,s2⟩;go_simp;with_reducible rfl) (h:= ?_);refine fv (i:=4) (N:=some 57) #[true,true,true,true,true,false,true,true,false,false] rfl rfl (gJ aI.out (by kernel_rfl)) (by decide) (fun K hK=> ?_);refine gZ Try.func41 (by kernel_rfl) rfl #[.int .i64 aA,.slice af X.length aa] (by rfl) rfl rfl (by(try simp only[List.map_toArray,List.map_cons,List.map_nil]);first|done|rfl|(simp only[List.length_drop,List.length_take];rfl)) ?_
      with_reducible refine(zD.calls aA (fun k_=>k_<w.heap.size) _ _ X t468 t469 a0C _ ?aZ UX.out).mono ?_
      (case aZ=>exact Kd.V_mk cU.out (Kd.KV (Kd.C_F Vk bo.out) (aM HB ir)));rintro e w47 ⟨v470,v473,rfl,ho0,ho1,hb⟩;obtain⟨AoV_,coV_,eoV_⟩:=Kd.V_slice ho0;subst eoV_
      have hfd_:∀ (t:Int) (A A':Option Addr) (n c n' c':Nat) (w':World),(Instr.field 26 (.agg #[.int .i64 t,.slice A n c,.slice A' n' c']) 2).run Uf w'= .ok (.slice A' n' c') w':=fun _ _ _ _ _ _ _ _=>by kernel_rfl
      refine⟨_,rfl, ?_⟩;have HO471:=Ah (Kd.V_lower (Kd.IK (ok':=fun k_=>some k_≠(v473:Value).ownBlock∧k_≠mv) ho0 (fun k_ dg=>⟨dg.2,Or.elim dg.1 (fun hs_=>fun e_=>Nat.not_le.2 hs_ (by rw[e_];exact GW461.out)) (fun uS=>(Kd.jm (bk cB) k_ uS))⟩)) (bE (aM HB ir)));have Yo:=Ah (Kd.bR (Kd.ax (ok':=fun k_=>True) ho1 (fun _ dg=>trivial)) (bE (aM HB ir)));replace cB:=Ah (bb cB hb);replace HB:=Ah (aH (aM HB ir) hb);(try clear hb);(try clear hb2);(try clear hk);(try clear hi);(try clear ho0);(try clear ho1);obtain⟨Iy,Iz,U0⟩:=Kd.az Yo.out;(first|subst U0|(injection U0 with cR dw cS;have dx:=cR.symm;have dy:=cS.symm;clear cR dw cS;subst dx;subst dy));refine hK.out _ _ ⟨(aE cB.out 0).trans rfl,(aE cB.out 1).trans rfl,(aE cB.out 2).trans rfl⟩ (fun hHeld=> ?_);clear hK K;refine nq 57 ?_;refine b6 5 58 aI.out ?_;refine fv (i:=8) (N:=some 61) #[true,true,true,true,true,true,true,true,true,false] rfl rfl (gJ aI.out (by kernel_rfl)) (by decide) (fun K hK=> ?_);refine gZ Try.func76 (by kernel_rfl) rfl #[.slice Iy a0C.length Iz,.slice ab aC.length ac] (by rfl) rfl rfl (by(try simp only[dl,dV,lK]);first|done|rfl|(simp only[SI,Ja];rfl)) ?_
      with_reducible refine(jj.calls k2 _ _ a0C _ _ aC a0A _ ?aZ ?ae ?ay ?bI A45.out).mono ?_
      (case aZ=>exact jF Yo);(case ae=>exact(Kd.aY Yo.out).2.1);(case ay=>exact cb cn HB);(case bI=>exact co.out);rintro e w' ⟨rfl,⟨nd,rfl⟩⟩;refine⟨_,rfl, ?_⟩;refine hK.out _ _ ⟨(aE cB.out 0).trans rfl,(aE cB.out 1).trans rfl,(aE cB.out 2).trans rfl⟩ (fun hHeld=> ?_);clear hK K;refine nq 61 ?_;refine b6 9 2 aI.out ?_;refine jn (kO aI.out (by kernel_rfl)) ?_
      try go_wp2
      go_ret
      exact⟨er,aM HB ir⟩
     rw[if_pos c10]at H;have Ma:=bJ c10;clear c10
     by_cases c11:0≤cM
     rotate_left
     ·
      rw[if_neg c11]at H;exact absurd H (by simp)
     rw[if_pos c11]at H;have Mb:=bJ c11;clear c11
     by_cases c12:cM<(X.length:Int)
     rotate_left
     ·
      rw[if_neg c12]at H;exact absurd H (by simp)
     rw[if_pos c12]at H;have sc:=bJ c12;clear c12;replace H:=Gl.mp H;obtain⟨a0z,A130,H⟩:=H
     try dsimp only at H
     have Pu:=Ah A130;clear A130
     by_cases c14:a0z=true
     rotate_left
     ·
      replace c14:=PT.mpr c14;subst c14;rw[if_neg dr]at H;obtain rfl:=Gn H;have rU:0≤(cM:Int):=od;have rV:cM<(X.length:Int):=od;obtain⟨kg,Fa,wF,wG⟩:=dN bo.out cM rU rV
      cases Fa
      replace wF:=hq HB wF;replace wG:=hq HB wG;replace rU:=eq_true rU;replace rV:=eq_true rV
      try go_wp2_with (first|((with_reducible refine ag (N:=4) rfl ?_);(try(refine ev (by rfl) ?_;dsimp only));refine an 4 45 #[.int .i64 0,.int .i64 0] ?_;intro fA hg DU e9 hb;have Yp:=gw hg (aM HB ir);have rI:=gw hg (aM HB ir);replace HB:=Ah (aH (aM HB ir) hb);have vY:=nn cB hg;have Dr:=nm cB hg;replace cB:=nb cB hb;clear hb hg;have Mc:=Dr.out;have Md:=vY.out;obtain⟨hcz40_0,hcz40_1⟩:=cg e9;obtain⟨hfz40_0,hfz40_1⟩:=ch e9))
      have fI:Z (((DU.setCell ⟨fA,0,none⟩ (.int .i64 ((aD X cM).f0))).setCell ⟨fA,1,none⟩ (.int .i64 ((aD X cM).f1))).heap[mv]?=some (.cells #[.int .i64 aA,.slice (some kg) X.length aa,.slice ab aC.length ac] 26 (0,0))):=⟨bf cB vY⟩;have eU:Z (((DU.setCell ⟨fA,0,none⟩ (.int .i64 ((aD X cM).f0))).setCell ⟨fA,1,none⟩ (.int .i64 ((aD X cM).f1))).heap[fA]?=some (.cells #[.int .i64 ((aD X cM).f0),.int .i64 ((aD X cM).f1)] 45 (0,0))):=⟨by exact pb e9⟩;have ie:Z (Below w.heap.size w ((DU.setCell ⟨fA,0,none⟩ (.int .i64 ((aD X cM).f0))).setCell ⟨fA,1,none⟩ (.int .i64 ((aD X cM).f1)))):=⟨am HB ir rI⟩;(try clear cB);(try clear e9);(try clear HB)
      generalize ((DU.setCell ⟨fA,0,none⟩ (.int .i64 ((aD X cM).f0))).setCell ⟨fA,1,none⟩ (.int .i64 ((aD X cM).f1)))=Pv at fI eU ie⊢
      have cB:=fI;have e9:=eU;have HB:=ie;clear fI eU ie;replace cB:=Ah (cY cB.out);replace e9:=Ah (cY e9.out);replace HB:=Ah (j7 HB.out);refine mt (n:=29) (S:=fun w'=>w'.cell? ⟨fA,0,none⟩=some (.int .i64 ((aD X cM).f0))∧w'.cell? ⟨fA,1,none⟩=some (.int .i64 ((aD X cM).f1))∧w'.cell? ⟨mv,0,none⟩=some (.int .i64 aA)∧w'.cell? ⟨mv,1,none⟩=some (.slice (some kg) X.length aa)∧w'.cell? ⟨mv,2,none⟩=some (.slice ab aC.length ac)) (ds:=[]) #[false,false,false,false,false,false,false,false,false,false,false,false,false,false,false,false,false,false,false,false,false,false,false,false,false,false,false,false,false] (by kernel_rfl) rfl rfl ⟨(aE e9.out 0).trans rfl,(aE e9.out 1).trans rfl,(aE cB.out 0).trans rfl,(aE cB.out 1).trans rfl,(aE cB.out 2).trans rfl⟩ (fun hHeld=> ?_);refine na cV.sm cV.sb (fun aI cz=> ?_)
      generalize Pv.drew=Pm at cB e9 HB hHeld⊢
      refine b6 1 24 aI.out ?_;refine dv 0 23 aI.out cz.out hHeld (hr:=by rintro w' ⟨s0,s1,s2,s3,s4⟩;go_simp;with_reducible rfl) (h:= ?_);refine dv 2 25 aI.out cz.out hHeld (hr:=by rintro w' ⟨s0,s1,s2,s3,s4⟩;go_simp;with_reducible rfl) (h:= ?_);refine fv (i:=3) (N:=some 26) #[true,true,true,true,false,false,false,false,false,false,false,false,false,false,false,false,false,false,false,false,false,false,false,false,false,false,false,false,false] rfl rfl (gJ aI.out (by kernel_rfl)) (by decide) (fun K hK=> ?_);refine gZ Try.func65 (by kernel_rfl) rfl #[.agg #[.int .i64 ((aD X cM).f0),.int .i64 ((aD X cM).f1)],.int .i64 aA] (by rfl) rfl rfl (by(try simp only[List.map_toArray,List.map_cons,List.map_nil]);first|done|rfl|(simp only[List.length_drop,List.length_take];rfl)) ?_
      with_reducible refine(n5.calls ((aD X cM).f0) ((aD X cM).f1) aA false _ Pu.out).mono ?_
      rintro e w43 ⟨rfl,hb⟩;refine⟨_,rfl, ?_⟩;replace cB:=Ah (bb cB hb);replace e9:=Ah (bb e9 hb);replace HB:=Ah (aH (am HB ir rI) hb);(try clear hb);(try clear hb2);(try clear hk);(try clear hi);refine hK.out _ _ ⟨(aE e9.out 0).trans rfl,(aE e9.out 1).trans rfl,(aE cB.out 0).trans rfl,(aE cB.out 1).trans rfl,(aE cB.out 2).trans rfl⟩ (fun hHeld=> ?_);clear hK K;refine nq 26 ?_;refine b6 4 27 aI.out ?_;refine b6 5 28 aI.out ?_;refine cK 6 29 aI.out ?_;refine cK 7 30 aI.out ?_;refine cK 8 31 aI.out ?_;refine cK 9 32 aI.out ?_;refine cK 10 33 aI.out ?_;refine cK 11 34 aI.out ?_;refine cK 12 35 aI.out ?_;refine cK 13 36 aI.out ?_;refine cK 14 37 aI.out ?_;refine cK 15 38 aI.out ?_;refine cK 16 39 aI.out ?_;refine cK 17 40 aI.out ?_;refine cK 18 41 aI.out ?_;refine cK 19 42 aI.out ?_;refine cK 20 43 aI.out ?_;refine cK 21 44 aI.out ?_;refine cK 22 45 aI.out ?_;refine cK 23 46 aI.out ?_;refine cK 24 47 aI.out ?_;refine cK 25 48 aI.out ?_;refine cK 26 49 aI.out ?_;refine cK 27 50 aI.out ?_;refine b6 28 51 aI.out ?_;refine jn (kO aI.out (by kernel_rfl)) ?_
      try go_wp2
      go_ret
      exact⟨er,am HB ir rI⟩
     subst c14;rw[if_pos rfl]at H
     by_cases c15:cM>0
     rotate_left
     ·
      rw[if_neg c15]at H;have Ee:=dn c15;clear c15;have H':=Ah H;clear H;have rU:0≤(cM:Int):=od;have rV:cM<(X.length:Int):=od;obtain⟨kg,Fa,wF,wG⟩:=dN bo.out cM rU rV
      cases Fa
      replace wF:=hq HB wF;replace wG:=hq HB wG;replace rU:=eq_true rU;replace rV:=eq_true rV
      try go_wp2_with (first|((with_reducible refine ag (N:=4) rfl ?_);(try(refine ev (by rfl) ?_;dsimp only));refine an 4 45 #[.int .i64 0,.int .i64 0] ?_;intro fA hg w32 e9 hb;have Yp:=gw hg (aM HB ir);have rI:=gw hg (aM HB ir);replace HB:=Ah (aH (aM HB ir) hb);have vY:=nn cB hg;have Dr:=nm cB hg;replace cB:=nb cB hb;clear hb hg;have hnb33:=Dr.out;have hnc33:=vY.out;obtain⟨RO,RP⟩:=cg e9;obtain⟨RQ,RR⟩:=ch e9))
      have fI:Z (((w32.setCell ⟨fA,0,none⟩ (.int .i64 ((aD X cM).f0))).setCell ⟨fA,1,none⟩ (.int .i64 ((aD X cM).f1))).heap[mv]?=some (.cells #[.int .i64 aA,.slice (some kg) X.length aa,.slice ab aC.length ac] 26 (0,0))):=⟨bf cB vY⟩;have eU:Z (((w32.setCell ⟨fA,0,none⟩ (.int .i64 ((aD X cM).f0))).setCell ⟨fA,1,none⟩ (.int .i64 ((aD X cM).f1))).heap[fA]?=some (.cells #[.int .i64 ((aD X cM).f0),.int .i64 ((aD X cM).f1)] 45 (0,0))):=⟨by exact pb e9⟩;have ie:Z (Below w.heap.size w ((w32.setCell ⟨fA,0,none⟩ (.int .i64 ((aD X cM).f0))).setCell ⟨fA,1,none⟩ (.int .i64 ((aD X cM).f1)))):=⟨am HB ir rI⟩;(try clear cB);(try clear e9);(try clear HB)
      generalize ((w32.setCell ⟨fA,0,none⟩ (.int .i64 ((aD X cM).f0))).setCell ⟨fA,1,none⟩ (.int .i64 ((aD X cM).f1)))=Pw at fI eU ie⊢
      have cB:=fI;have e9:=eU;have HB:=ie;clear fI eU ie;replace cB:=Ah (cY cB.out);replace e9:=Ah (cY e9.out);replace HB:=Ah (j7 HB.out);refine mt (n:=29) (S:=fun w'=>w'.cell? ⟨fA,0,none⟩=some (.int .i64 ((aD X cM).f0))∧w'.cell? ⟨fA,1,none⟩=some (.int .i64 ((aD X cM).f1))∧w'.cell? ⟨mv,0,none⟩=some (.int .i64 aA)∧w'.cell? ⟨mv,1,none⟩=some (.slice (some kg) X.length aa)∧w'.cell? ⟨mv,2,none⟩=some (.slice ab aC.length ac)) (ds:=[]) #[false,false,false,false,false,false,false,false,false,false,false,false,false,false,false,false,false,false,false,false,false,false,false,false,false,false,false,false,false] (by kernel_rfl) rfl rfl ⟨(aE e9.out 0).trans rfl,(aE e9.out 1).trans rfl,(aE cB.out 0).trans rfl,(aE cB.out 1).trans rfl,(aE cB.out 2).trans rfl⟩ (fun hHeld=> ?_);refine na cV.sm cV.sb (fun aI cz=> ?_)
      generalize Pw.drew=UY at cB e9 HB hHeld⊢
      refine b6 1 24 aI.out ?_;refine dv 0 23 aI.out cz.out hHeld (hr:=by rintro w' ⟨s0,s1,s2,s3,s4⟩;go_simp;with_reducible rfl) (h:= ?_);refine dv 2 25 aI.out cz.out hHeld (hr:=by rintro w' ⟨s0,s1,s2,s3,s4⟩;go_simp;with_reducible rfl) (h:= ?_);refine fv (i:=3) (N:=some 26) #[true,true,true,true,false,false,false,false,false,false,false,false,false,false,false,false,false,false,false,false,false,false,false,false,false,false,false,false,false] rfl rfl (gJ aI.out (by kernel_rfl)) (by decide) (fun K hK=> ?_);refine gZ Try.func65 (by kernel_rfl) rfl #[.agg #[.int .i64 ((aD X cM).f0),.int .i64 ((aD X cM).f1)],.int .i64 aA] (by rfl) rfl rfl (by(try simp only[List.map_toArray,List.map_cons,List.map_nil]);first|done|rfl|(simp only[List.length_drop,List.length_take];rfl)) ?_
      with_reducible refine(n5.calls ((aD X cM).f0) ((aD X cM).f1) aA true _ Pu.out).mono ?_
      rintro e mc ⟨rfl,hb⟩;refine⟨_,rfl, ?_⟩;replace cB:=Ah (bb cB hb);replace e9:=Ah (bb e9 hb);replace HB:=Ah (aH (am HB ir rI) hb);(try clear hb);(try clear hb2);(try clear hk);(try clear hi);refine hK.out _ _ ⟨(aE e9.out 0).trans rfl,(aE e9.out 1).trans rfl,(aE cB.out 0).trans rfl,(aE cB.out 1).trans rfl,(aE cB.out 2).trans rfl⟩ (fun hHeld=> ?_);clear hK K;refine nq 26 ?_;refine b6 4 27 aI.out ?_;refine b6 5 28 aI.out ?_;refine b6 6 29 aI.out ?_;refine b6 7 30 aI.out ?_;refine b6 8 31 aI.out ?_;refine cK 9 32 aI.out ?_;refine cK 10 33 aI.out ?_;refine cK 11 34 aI.out ?_;refine cK 12 35 aI.out ?_;refine cK 13 36 aI.out ?_;refine cK 14 37 aI.out ?_;refine cK 15 38 aI.out ?_;refine cK 16 39 aI.out ?_;refine cK 17 40 aI.out ?_;refine cK 18 41 aI.out ?_;refine cK 19 42 aI.out ?_;refine cK 20 43 aI.out ?_;refine cK 21 44 aI.out ?_;refine cK 22 45 aI.out ?_;refine cK 23 46 aI.out ?_;refine cK 24 47 aI.out ?_;refine cK 25 48 aI.out ?_;refine cK 26 49 aI.out ?_;refine b6 27 50 aI.out ?_;refine b6 28 51 aI.out ?_;refine jn (kO aI.out (by kernel_rfl)) ?_
      try go_wp2
      go_roundg k2
      case measure=>have:=UW.out;have:=eE.out;omega
      case rel=>exact⟨(Gj (cM+1)),e3,H',⟨by have:=UW.out;have:=eE.out;omega⟩,⟨bk cB⟩,⟨am HB ir rI⟩⟩
     rw[if_pos c15]at H;have Ee:=bJ c15;clear c15;obtain⟨eF,AR⟩:∃j_:Int,(Gj (cM-1))=j_:=⟨_,rfl⟩
     replace H:(if 0≤(eF)then(if(eF)<(X.length:Int)then(if((aD X cM).f0)≤(Gj (((aD X (eF)).f0)+((aD X (eF)).f1)))then(some false)else(cV.l0 k2 X (X.length:Int) (Gj (cM+1)) aA X aC))else(none))else(none))=some r:=by first|(rw[AR]at H;exact H)|(simp only[AR]at H⊢;exact H)
     (try rw[AR]at Pu);have hji16w:(IntKind.i64.wrap (cM-1))=eF:=(kP _).trans AR
     by_cases c17:0≤(eF)
     rotate_left
     ·
      rw[if_neg c17]at H;exact absurd H (by simp)
     rw[if_pos c17]at H;have Yq:=bJ c17;clear c17
     by_cases c18:(eF)<(X.length:Int)
     rotate_left
     ·
      rw[if_neg c18]at H;exact absurd H (by simp)
     rw[if_pos c18]at H;have Ls:=bJ c18;clear c18
     by_cases c19:((aD X cM).f0)≤(Gj (((aD X (eF)).f0)+((aD X (eF)).f1)))
     ·
      rw[if_pos c19]at H;have YN:=bJ c19;clear c19;obtain rfl:=Gn H;have rU:0≤(cM:Int):=od;have rV:cM<(X.length:Int):=od;obtain⟨kg,Fa,wF,wG⟩:=dN bo.out cM rU rV
      cases Fa
      replace wF:=hq HB wF;replace wG:=hq HB wG;replace rU:=eq_true rU;replace rV:=eq_true rV
      try go_wp2_with (first|((with_reducible refine ag (N:=4) rfl ?_);(try(refine ev (by rfl) ?_;dsimp only));refine an 4 45 #[.int .i64 0,.int .i64 0] ?_;intro fA hg iH e9 hb;have Yp:=gw hg (aM HB ir);have rI:=gw hg (aM HB ir);replace HB:=Ah (aH (aM HB ir) hb);have vY:=nn cB hg;have Dr:=nm cB hg;replace cB:=nb cB hb;clear hb hg;have hnb21:=Dr.out;have hnc21:=vY.out;obtain⟨tU,tV⟩:=cg e9;obtain⟨tW,tX⟩:=ch e9))
      have fI:Z (((iH.setCell ⟨fA,0,none⟩ (.int .i64 ((aD X cM).f0))).setCell ⟨fA,1,none⟩ (.int .i64 ((aD X cM).f1))).heap[mv]?=some (.cells #[.int .i64 aA,.slice (some kg) X.length aa,.slice ab aC.length ac] 26 (0,0))):=⟨bf cB vY⟩;have eU:Z (((iH.setCell ⟨fA,0,none⟩ (.int .i64 ((aD X cM).f0))).setCell ⟨fA,1,none⟩ (.int .i64 ((aD X cM).f1))).heap[fA]?=some (.cells #[.int .i64 ((aD X cM).f0),.int .i64 ((aD X cM).f1)] 45 (0,0))):=⟨by exact pb e9⟩;have ie:Z (Below w.heap.size w ((iH.setCell ⟨fA,0,none⟩ (.int .i64 ((aD X cM).f0))).setCell ⟨fA,1,none⟩ (.int .i64 ((aD X cM).f1)))):=⟨am HB ir rI⟩;(try clear cB);(try clear e9);(try clear HB)
      generalize ((iH.setCell ⟨fA,0,none⟩ (.int .i64 ((aD X cM).f0))).setCell ⟨fA,1,none⟩ (.int .i64 ((aD X cM).f1)))=kG at fI eU ie⊢
      have cB:=fI;have e9:=eU;have HB:=ie;clear fI eU ie;replace cB:=Ah (cY cB.out);replace e9:=Ah (cY e9.out);replace HB:=Ah (j7 HB.out);have Fb:0≤((eF):Int):=od;have Fc:(eF)<(X.length:Int):=od;obtain⟨Yr,a0D,zx,zy⟩:=dN bo.out (eF) Fb Fc;have zz:=zy;have AA:=zx;obtain rfl:kg=Yr:=(by injection a0D);replace zx:=hq HB zx;replace zy:=hq HB zy;replace Fb:=eq_true Fb;replace Fc:=eq_true Fc;have Fd:0≤((eF):Int):=od;have Fe:(eF)<(X.length:Int):=od;obtain⟨Ys,a0E,AB,AC⟩:=dN bo.out (eF) Fd Fe;have AD:=AC;have AE:=AB;obtain rfl:kg=Ys:=(by injection a0E);replace AB:=hq HB AB;replace AC:=hq HB AC;replace Fd:=eq_true Fd;replace Fe:=eq_true Fe;refine mt (n:=29) (S:=fun w'=>w'.cell? ⟨fA,0,none⟩=some (.int .i64 ((aD X cM).f0))∧w'.cell? ⟨fA,1,none⟩=some (.int .i64 ((aD X cM).f1))∧w'.cell? ⟨mv,0,none⟩=some (.int .i64 aA)∧w'.cell? ⟨mv,1,none⟩=some (.slice (some kg) X.length aa)∧w'.cell? ⟨mv,2,none⟩=some (.slice ab aC.length ac)∧w'.cell? (kg.add (((eF)).toNat*2))=some (.int .i64 ((aD X (eF)).f0))∧w'.cell? ⟨(kg.add (((eF)).toNat*2)).block,(kg.add (((eF)).toNat*2)).off+1,none⟩=some (.int .i64 ((aD X (eF)).f1))∧w'.cell? (kg.add (((eF)).toNat*2))=some (.int .i64 ((aD X (eF)).f0))∧w'.cell? ⟨(kg.add (((eF)).toNat*2)).block,(kg.add (((eF)).toNat*2)).off+1,none⟩=some (.int .i64 ((aD X (eF)).f1))) (ds:=[]) #[false,false,false,false,false,false,false,false,false,false,false,false,false,false,false,false,false,false,false,false,false,false,false,false,false,false,false,false,false] (by kernel_rfl) rfl rfl ⟨(aE e9.out 0).trans rfl,(aE e9.out 1).trans rfl,(aE cB.out 0).trans rfl,(aE cB.out 1).trans rfl,(aE cB.out 2).trans rfl,((HB.out.cell (Gk w _ AA)).trans AA),((HB.out.cell (Gk w _ zz)).trans zz),((HB.out.cell (Gk w _ AE)).trans AE),((HB.out.cell (Gk w _ AD)).trans AD)⟩ (fun hHeld=> ?_);refine na cV.sm cV.sb (fun aI cz=> ?_)
      generalize kG.drew=mA at cB e9 HB zx zy AB AC hHeld⊢
      refine b6 1 24 aI.out ?_;refine dv 0 23 aI.out cz.out hHeld (hr:=by rintro w' ⟨s0,s1,s2,s3,s4,s5,s6,s7,s8⟩;go_simp;with_reducible rfl) (h:= ?_);refine dv 2 25 aI.out cz.out hHeld (hr:=by rintro w' ⟨s0,s1,s2,s3,s4,s5,s6,s7,s8⟩;go_simp;with_reducible rfl) (h:= ?_);refine fv (i:=3) (N:=some 26) #[true,true,true,true,false,false,false,false,false,false,false,false,false,false,false,false,false,false,false,false,false,false,false,false,false,false,false,false,false] rfl rfl (gJ aI.out (by kernel_rfl)) (by decide) (fun K hK=> ?_);refine gZ Try.func65 (by kernel_rfl) rfl #[.agg #[.int .i64 ((aD X cM).f0),.int .i64 ((aD X cM).f1)],.int .i64 aA] (by rfl) rfl rfl (by(try simp only[List.map_toArray,List.map_cons,List.map_nil]);first|done|rfl|(simp only[List.length_drop,List.length_take];rfl)) ?_
      with_reducible refine(n5.calls ((aD X cM).f0) ((aD X cM).f1) aA true _ Pu.out).mono ?_
      rintro e ek ⟨rfl,hb⟩;refine⟨_,rfl, ?_⟩;replace cB:=Ah (bb cB hb);replace e9:=Ah (bb e9 hb);replace HB:=Ah (aH (am HB ir rI) hb);(try clear hb);(try clear hb2);(try clear hk);(try clear hi);refine hK.out _ _ ⟨(aE e9.out 0).trans rfl,(aE e9.out 1).trans rfl,(aE cB.out 0).trans rfl,(aE cB.out 1).trans rfl,(aE cB.out 2).trans rfl,((HB.out.cell (World.block_lt_of_cell? w _ AA)).trans AA),((HB.out.cell (World.block_lt_of_cell? w _ zz)).trans zz),((HB.out.cell (World.block_lt_of_cell? w _ AE)).trans AE),((HB.out.cell (World.block_lt_of_cell? w _ AD)).trans AD)⟩ (fun hHeld=> ?_);clear hK K;refine nq 26 ?_;refine b6 4 27 aI.out ?_;refine b6 5 28 aI.out ?_;refine b6 6 29 aI.out ?_;refine b6 7 30 aI.out ?_;refine b6 8 31 aI.out ?_;refine b6 9 32 aI.out ?_;refine b6 11 34 aI.out ?_;refine b6 13 36 aI.out ?_;refine b6 14 37 aI.out ?_;refine b6 18 41 aI.out ?_;refine b6 20 43 aI.out ?_;refine b6 21 44 aI.out ?_;refine dv 10 33 aI.out cz.out hHeld (hr:=by rintro w' ⟨s0,s1,s2,s3,s4,s5,s6,s7,s8⟩;go_simp;with_reducible rfl) (h:= ?_);refine dv 12 35 aI.out cz.out hHeld (hr:=by rintro w' ⟨s0,s1,s2,s3,s4,s5,s6,s7,s8⟩;go_simp;with_reducible rfl) (h:= ?_);refine b6 15 38 aI.out ?_;refine b6 16 39 aI.out ?_;refine dv 17 40 aI.out cz.out hHeld (hr:=by rintro w' ⟨s0,s1,s2,s3,s4,s5,s6,s7,s8⟩;go_simp;with_reducible rfl) (h:= ?_);refine dv 19 42 aI.out cz.out hHeld (hr:=by rintro w' ⟨s0,s1,s2,s3,s4,s5,s6,s7,s8⟩;go_simp;with_reducible rfl) (h:= ?_);refine b6 22 45 aI.out ?_;refine b6 23 46 aI.out ?_;refine dv 24 47 aI.out cz.out hHeld (hr:=by rintro w' ⟨s0,s1,s2,s3,s4,s5,s6,s7,s8⟩;go_simp;with_reducible rfl) (h:= ?_);refine b6 25 48 aI.out ?_;refine b6 26 49 aI.out ?_;refine b6 27 50 aI.out ?_;refine b6 28 51 aI.out ?_;refine jn (kO aI.out (by kernel_rfl)) ?_
      try go_wp2
      go_ret
      exact⟨by first|rfl|(simp[mC,mD]<;>rfl)|(simp only[←AR];first|rfl|(simp[mC,mD]<;>rfl))|(simp[*,mC,mD]<;>rfl),am HB ir rI⟩
     rw[if_neg c19]at H;have YN:=dn c19;clear c19;have H':=Ah H;clear H;have rU:0≤(cM:Int):=od;have rV:cM<(X.length:Int):=od;obtain⟨kg,Fa,wF,wG⟩:=dN bo.out cM rU rV
     cases Fa
     replace wF:=hq HB wF;replace wG:=hq HB wG;replace rU:=eq_true rU;replace rV:=eq_true rV
     try go_wp2_with (first|((with_reducible refine ag (N:=4) rfl ?_);(try(refine ev (by rfl) ?_;dsimp only));refine an 4 45 #[.int .i64 0,.int .i64 0] ?_;intro fA hg GZ e9 hb;have Yp:=gw hg (aM HB ir);have rI:=gw hg (aM HB ir);replace HB:=Ah (aH (aM HB ir) hb);have vY:=nn cB hg;have Dr:=nm cB hg;replace cB:=nb cB hb;clear hb hg;have hnb27:=Dr.out;have hnc27:=vY.out;obtain⟨zr,CG⟩:=cg e9;obtain⟨zs,CH⟩:=ch e9))
     have fI:Z (((GZ.setCell ⟨fA,0,none⟩ (.int .i64 ((aD X cM).f0))).setCell ⟨fA,1,none⟩ (.int .i64 ((aD X cM).f1))).heap[mv]?=some (.cells #[.int .i64 aA,.slice (some kg) X.length aa,.slice ab aC.length ac] 26 (0,0))):=⟨bf cB vY⟩;have eU:Z (((GZ.setCell ⟨fA,0,none⟩ (.int .i64 ((aD X cM).f0))).setCell ⟨fA,1,none⟩ (.int .i64 ((aD X cM).f1))).heap[fA]?=some (.cells #[.int .i64 ((aD X cM).f0),.int .i64 ((aD X cM).f1)] 45 (0,0))):=⟨by exact pb e9⟩;have ie:Z (Below w.heap.size w ((GZ.setCell ⟨fA,0,none⟩ (.int .i64 ((aD X cM).f0))).setCell ⟨fA,1,none⟩ (.int .i64 ((aD X cM).f1)))):=⟨am HB ir rI⟩;(try clear cB);(try clear e9);(try clear HB)
     generalize ((GZ.setCell ⟨fA,0,none⟩ (.int .i64 ((aD X cM).f0))).setCell ⟨fA,1,none⟩ (.int .i64 ((aD X cM).f1)))=DJ at fI eU ie⊢
     have cB:=fI;have e9:=eU;have HB:=ie;clear fI eU ie;replace cB:=Ah (cY cB.out);replace e9:=Ah (cY e9.out);replace HB:=Ah (j7 HB.out);have Fb:0≤((eF):Int):=od;have Fc:(eF)<(X.length:Int):=od;obtain⟨Yr,a0D,zx,zy⟩:=dN bo.out (eF) Fb Fc;have zz:=zy;have AA:=zx;obtain rfl:kg=Yr:=(by injection a0D);replace zx:=hq HB zx;replace zy:=hq HB zy;replace Fb:=eq_true Fb;replace Fc:=eq_true Fc;have Fd:0≤((eF):Int):=od;have Fe:(eF)<(X.length:Int):=od;obtain⟨Ys,a0E,AB,AC⟩:=dN bo.out (eF) Fd Fe;have AD:=AC;have AE:=AB;obtain rfl:kg=Ys:=(by injection a0E);replace AB:=hq HB AB;replace AC:=hq HB AC;replace Fd:=eq_true Fd;replace Fe:=eq_true Fe;refine mt (n:=29) (S:=fun w'=>w'.cell? ⟨fA,0,none⟩=some (.int .i64 ((aD X cM).f0))∧w'.cell? ⟨fA,1,none⟩=some (.int .i64 ((aD X cM).f1))∧w'.cell? ⟨mv,0,none⟩=some (.int .i64 aA)∧w'.cell? ⟨mv,1,none⟩=some (.slice (some kg) X.length aa)∧w'.cell? ⟨mv,2,none⟩=some (.slice ab aC.length ac)∧w'.cell? (kg.add (((eF)).toNat*2))=some (.int .i64 ((aD X (eF)).f0))∧w'.cell? ⟨(kg.add (((eF)).toNat*2)).block,(kg.add (((eF)).toNat*2)).off+1,none⟩=some (.int .i64 ((aD X (eF)).f1))∧w'.cell? (kg.add (((eF)).toNat*2))=some (.int .i64 ((aD X (eF)).f0))∧w'.cell? ⟨(kg.add (((eF)).toNat*2)).block,(kg.add (((eF)).toNat*2)).off+1,none⟩=some (.int .i64 ((aD X (eF)).f1))) (ds:=[]) #[false,false,false,false,false,false,false,false,false,false,false,false,false,false,false,false,false,false,false,false,false,false,false,false,false,false,false,false,false] (by kernel_rfl) rfl rfl ⟨(aE e9.out 0).trans rfl,(aE e9.out 1).trans rfl,(aE cB.out 0).trans rfl,(aE cB.out 1).trans rfl,(aE cB.out 2).trans rfl,((HB.out.cell (Gk w _ AA)).trans AA),((HB.out.cell (Gk w _ zz)).trans zz),((HB.out.cell (Gk w _ AE)).trans AE),((HB.out.cell (Gk w _ AD)).trans AD)⟩ (fun hHeld=> ?_);refine na cV.sm cV.sb (fun aI cz=> ?_)
     generalize DJ.drew=w30 at cB e9 HB zx zy AB AC hHeld⊢
     refine b6 1 24 aI.out ?_;refine dv 0 23 aI.out cz.out hHeld (hr:=by rintro w' ⟨s0,s1,s2,s3,s4,s5,s6,s7,s8⟩;go_simp;with_reducible rfl) (h:= ?_);refine dv 2 25 aI.out cz.out hHeld (hr:=by rintro w' ⟨s0,s1,s2,s3,s4,s5,s6,s7,s8⟩;go_simp;with_reducible rfl) (h:= ?_);refine fv (i:=3) (N:=some 26) #[true,true,true,true,false,false,false,false,false,false,false,false,false,false,false,false,false,false,false,false,false,false,false,false,false,false,false,false,false] rfl rfl (gJ aI.out (by kernel_rfl)) (by decide) (fun K hK=> ?_);refine gZ Try.func65 (by kernel_rfl) rfl #[.agg #[.int .i64 ((aD X cM).f0),.int .i64 ((aD X cM).f1)],.int .i64 aA] (by rfl) rfl rfl (by(try simp only[List.map_toArray,List.map_cons,List.map_nil]);first|done|rfl|(simp only[List.length_drop,List.length_take];rfl)) ?_
     with_reducible refine(n5.calls ((aD X cM).f0) ((aD X cM).f1) aA true _ Pu.out).mono ?_
     rintro e Px ⟨rfl,hb⟩;refine⟨_,rfl, ?_⟩;replace cB:=Ah (bb cB hb);replace e9:=Ah (bb e9 hb);replace HB:=Ah (aH (am HB ir rI) hb);(try clear hb);(try clear hb2);(try clear hk);(try clear hi);refine hK.out _ _ ⟨(aE e9.out 0).trans rfl,(aE e9.out 1).trans rfl,(aE cB.out 0).trans rfl,(aE cB.out 1).trans rfl,(aE cB.out 2).trans rfl,((HB.out.cell (World.block_lt_of_cell? w _ AA)).trans AA),((HB.out.cell (World.block_lt_of_cell? w _ zz)).trans zz),((HB.out.cell (World.block_lt_of_cell? w _ AE)).trans AE),((HB.out.cell (World.block_lt_of_cell? w _ AD)).trans AD)⟩ (fun hHeld=> ?_);clear hK K;refine nq 26 ?_;refine b6 4 27 aI.out ?_;refine b6 5 28 aI.out ?_;refine b6 6 29 aI.out ?_;refine b6 7 30 aI.out ?_;refine b6 8 31 aI.out ?_;refine b6 9 32 aI.out ?_;refine b6 11 34 aI.out ?_;refine b6 13 36 aI.out ?_;refine b6 14 37 aI.out ?_;refine b6 18 41 aI.out ?_;refine b6 20 43 aI.out ?_;refine b6 21 44 aI.out ?_;refine dv 10 33 aI.out cz.out hHeld (hr:=by rintro w' ⟨s0,s1,s2,s3,s4,s5,s6,s7,s8⟩;go_simp;with_reducible rfl) (h:= ?_);refine dv 12 35 aI.out cz.out hHeld (hr:=by rintro w' ⟨s0,s1,s2,s3,s4,s5,s6,s7,s8⟩;go_simp;with_reducible rfl) (h:= ?_);refine b6 15 38 aI.out ?_;refine b6 16 39 aI.out ?_;refine dv 17 40 aI.out cz.out hHeld (hr:=by rintro w' ⟨s0,s1,s2,s3,s4,s5,s6,s7,s8⟩;go_simp;with_reducible rfl) (h:= ?_);refine dv 19 42 aI.out cz.out hHeld (hr:=by rintro w' ⟨s0,s1,s2,s3,s4,s5,s6,s7,s8⟩;go_simp;with_reducible rfl) (h:= ?_);refine b6 22 45 aI.out ?_;refine b6 23 46 aI.out ?_;refine dv 24 47 aI.out cz.out hHeld (hr:=by rintro w' ⟨s0,s1,s2,s3,s4,s5,s6,s7,s8⟩;go_simp;with_reducible rfl) (h:= ?_);refine b6 25 48 aI.out ?_;refine b6 26 49 aI.out ?_;refine b6 27 50 aI.out ?_;refine b6 28 51 aI.out ?_;refine jn (kO aI.out (by kernel_rfl)) ?_
     try go_wp2
     go_roundg k2
     case measure=>have:=UW.out;have:=eE.out;omega
     case rel=>exact⟨(Gj (cM+1)),e3,H',⟨by have:=UW.out;have:=eE.out;omega⟩,⟨bk cB⟩,⟨am HB ir rI⟩⟩
def yA.f(aA:Int)(bN:Int)(aN:Int)(aQ:Int):Option (Bool):=if aA<(Gj (aN+aQ))then(some (decide (aN<(Gj (aA+bN)))))else(some false)
theorem yA.calls(aA:Int)(bN:Int)(aN:Int)(aQ:Int)(r:Bool)(w:World)(h:yA.f aA bN aN aQ=some r):
 Calls Uf 63 #[.agg #[.int .i64 aA,.int .i64 bN],.agg #[.int .i64 aN,.int .i64 aQ]] w fun e w'=>e= .returned (.bool r)∧Below w.heap.size w w':=by
 have jT:=fk;have HB:=Ah (Ud w.heap.size w);have H:(if aA<(Gj (aN+aQ))then(some (decide (aN<(Gj (aA+bN)))))else(some false))=some r:=h;clear h
 by_cases c3:aA<(Gj (aN+aQ))
 ·
  rw[if_pos c3]at H;have dc:=bJ c3;clear c3;obtain rfl:=Gn H
  go_enter Try.func63,Try.ntmps63
  go_wp2_with (first|((with_reducible refine ag (N:=2) rfl ?_);refine an 2 45 #[.int .i64 aA,.int .i64 bN] ?_;intro gb476 hg w4 tn hb;have GW476:=gw hg (bs HB);have AS:=gw hg (bs HB);replace HB:=Ah (aH (bs HB) hb);clear hb hg)|((with_reducible refine ag (N:=3) rfl ?_);refine an 3 45 #[.int .i64 aN,.int .i64 aQ] ?_;intro gb477 hg w5 Me hb;have GW477:=gw hg (aM HB AS);have Yt:=gw hg (aM HB AS);replace HB:=Ah (aH (aM HB AS) hb);have VB:=nn tn hg;have VC:=nm tn hg;replace tn:=nb tn hb;clear hb hg;have Nw:=VB.out;have Nx:=VC.out;obtain⟨pr,pt⟩:=cg tn;obtain⟨pu,pv⟩:=ch tn;obtain⟨r9,rA⟩:=cg Me;obtain⟨rB,rC⟩:=ch Me))
  go_ret
  exact⟨er,am HB AS Yt⟩
 rw[if_neg c3]at H;have dc:=dn c3;clear c3;obtain rfl:=Gn H
 go_enter Try.func63,Try.ntmps63
 go_wp2_with (first|((with_reducible refine ag (N:=2) rfl ?_);refine an 2 45 #[.int .i64 aA,.int .i64 bN] ?_;intro gb476 hg w9 tn hb;have GW476:=gw hg (bs HB);have AS:=gw hg (bs HB);replace HB:=Ah (aH (bs HB) hb);clear hb hg)|((with_reducible refine ag (N:=3) rfl ?_);refine an 3 45 #[.int .i64 aN,.int .i64 aQ] ?_;intro gb477 hg lp Me hb;have GW477:=gw hg (aM HB AS);have Yt:=gw hg (aM HB AS);replace HB:=Ah (aH (aM HB AS) hb);have VB:=nn tn hg;have VC:=nm tn hg;replace tn:=nb tn hb;clear hb hg;have Sk:=VB.out;have Sl:=VC.out;obtain⟨tQ,tR⟩:=cg tn;obtain⟨tS,tT⟩:=ch tn;obtain⟨oK,oL⟩:=cg Me;obtain⟨oM,oN⟩:=ch Me))
 go_ret
 exact⟨er,am HB AS Yt⟩
def Dg.f(aA:Int)(bN:Int)(eI:Int)(aV:Int)(iG:Int)(aN:Int)(aQ:Int)(av:Int)(au:Int)(b7:Int):Option (Bool):=(yA.f av au eI aV).bind fun xE=>(some xE)
theorem Dg.calls(aA:Int)(bN:Int)(eI:Int)(aV:Int)(iG:Int)(cT:Nat)(aN:Int)(aQ:Int)(av:Int)(au:Int)(b7:Int)(r:Bool)(w:World)(lE:w.heap[cT]?=some (.cells #[.int .i64 aN,.int .i64 aQ,.int .i64 av,.int .i64 au,.int .i64 b7] 66 (0,0)))(h:Dg.f aA bN eI aV iG aN aQ av au b7=some r):
 Calls Uf 62 #[.agg #[.int .i64 aA,.int .i64 bN,.int .i64 eI,.int .i64 aV,.int .i64 iG],.pointer (some ⟨cT,0,none⟩)] w fun e w'=>e= .returned (.bool r)∧Below w.heap.size w w':=by
 have u7:=aay;have jT:=fk;have bO:=Ah lE;clear lE;have HB:=Ah (Ud w.heap.size w);have H:((yA.f av au eI aV).bind fun xE=>(some xE))=some r:=h;clear h;replace H:=Gl.mp H;obtain⟨xE,dj,H⟩:=H
 try dsimp only at H
 have A3:=Ah dj;clear dj;obtain rfl:=Gn H
 go_enter Try.func62,Try.ntmps62
 go_wp2_with (first|((with_reducible refine ag (N:=2) rfl ?_);refine an 2 66 #[.int .i64 aA,.int .i64 bN,.int .i64 eI,.int .i64 aV,.int .i64 iG] ?_;intro Mf hg w4 AT hb;have GW479:=gw hg (bs HB);have Mg:=gw hg (bs HB);replace HB:=Ah (aH (bs HB) hb);have VD:=Ah ((by rw[hg];exact Nat.ne_of_lt (pP (g:=cT) (o:= .cells #[.int .i64 aN,.int .i64 aQ,.int .i64 av,.int .i64 au,.int .i64 b7] 66 (0,0)) (bk bO)):cT≠Mf));have VE:=Ah ((by rw[hg];exact Nat.ne_of_gt (pP (g:=cT) (o:= .cells #[.int .i64 aN,.int .i64 aQ,.int .i64 av,.int .i64 au,.int .i64 b7] 66 (0,0)) (bk bO)):Mf≠cT));replace bO:=Ah (bT (g:=cT) (o:= .cells #[.int .i64 aN,.int .i64 aQ,.int .i64 av,.int .i64 au,.int .i64 b7] 66 (0,0)) (bk bO) hb);clear hb hg;have hnb5:=VD.out;have hnc5:=VE.out;have AG:w4.cell? ⟨cT,0,none⟩=some (.int .i64 aN):=(aE bO.out 0).trans rfl;have AH:w4.cell? ⟨cT,1,none⟩=some (.int .i64 aQ):=(aE bO.out 1).trans rfl;have Ea:w4.cell? ⟨cT,2,none⟩=some (.int .i64 av):=(aE bO.out 2).trans rfl;have Xw:w4.cell? ⟨cT,3,none⟩=some (.int .i64 au):=(aE bO.out 3).trans rfl;have Xx:w4.cell? ⟨cT,4,none⟩=some (.int .i64 b7):=(aE bO.out 4).trans rfl;obtain⟨AI,AJ,Eb,Xy,Xz⟩:=ai bO;obtain⟨pr,pt,yU,SP,SQ⟩:=aj AT;obtain⟨pu,pv,yV,SR,SS⟩:=ai AT)|((with_reducible refine bY (f:=63) rfl ?_);refine gL (some 8) rfl rfl Try.func63 (by kernel_rfl) rfl #[.agg #[.int .i64 av,.int .i64 au],.agg #[.int .i64 eI,.int .i64 aV]] rfl ?_;(with_reducible refine(yA.calls av au eI aV xE _ A3.out).mono ?_);rintro e w8 ⟨rfl,hb⟩;refine⟨_,rfl, ?_⟩;replace bO:=Ah (bT (g:=cT) (o:= .cells #[.int .i64 aN,.int .i64 aQ,.int .i64 av,.int .i64 au,.int .i64 b7] 66 (0,0)) (bk bO) hb);replace AT:=nb AT hb;replace HB:=Ah (aH (aM HB Mg) hb);(try clear hb)))
 go_ret
 exact⟨er,aM HB Mg⟩
def jv.l0:Nat→List (aJ)→Int→Int→Int→Int→Int→Int→Int→Option (Int)
 |0,_,_,_,_,_,_,_,_=>none
 |k+1,x0,x7,x8,Kr,Ks,Kt,Ku,Kv=>if x8<x7 then(if 0≤x8 then(if x8<(x0.length:Int)then((Dg.f ((U x0 x8).f0) ((U x0 x8).f1) ((U x0 x8).f2.f0) ((U x0 x8).f2.f1) ((U x0 x8).f3) Kr Ks Kt Ku Kv).bind fun Ff=>(if Ff=true then(some x8)else(jv.l0 k x0 x7 (Gj (x8+1)) Kr Ks Kt Ku Kv)))else(none))else(none))else(some (-1))
def jv.f(k:Nat)(l0:List (aJ))(aN:Int)(aQ:Int)(av:Int)(au:Int)(b7:Int):Option (Int):=jv.l0 k l0 (l0.length:Int) 0 aN aQ av au b7
theorem jv.cQ:∀k,(∀y0 y1 y2 y3 y4 y5 y6 y7,aG (jv.l0 k y0 y1 y2 y3 y4 y5 y6 y7) (jv.l0 (k+1) y0 y1 y2 y3 y4 y5 y6 y7))
 |0=>fun _ _ _ _ _ _ _ _ r h=>by simp[jv.l0]at h
 |k+1=>by
  have bS:=jv.cQ k
  ·
   intro y0 y1 y2 y3 y4 y5 y6 y7;unfold jv.l0
   repeat' with_reducible first|exact bS _ _ _ _ _ _ _ _|exact aG.refl _|exact aG.none _|refine aG.ite ?_ ?_|refine aG.bind ?_ (fun _=> ?_)
theorem jv.mono:∀a0 a1 a2 a3 a4 a5 k,aG (jv.f k a0 a1 a2 a3 a4 a5) (jv.f (k+1) a0 a1 a2 a3 a4 a5):=by
 intro a0 a1 a2 a3 a4 a5 k;have bS:=jv.cQ k;unfold jv.f
 repeat' with_reducible first|exact bS _ _ _ _ _ _ _ _|exact aG.refl _|exact aG.none _|refine aG.ite ?_ ?_|refine aG.bind ?_ (fun _=> ?_)
theorem jv.calls(k:Nat)(A0:Option Addr)(c0:Nat)(l0:List (aJ))(cT:Nat)(aN:Int)(aQ:Int)(av:Int)(au:Int)(b7:Int)(r:Int)(w:World)(hr0:Kd.C b8 w A0 l0.length l0)(hc0:l0.length≤c0)(lE:w.heap[cT]?=some (.cells #[.int .i64 aN,.int .i64 aQ,.int .i64 av,.int .i64 au,.int .i64 b7] 66 (0,0)))(h:jv.f k l0 aN aQ av au b7=some r):
 Calls Uf 77 #[.slice A0 l0.length c0,.func (.func 62) #[] #[.pointer (some ⟨cT,0,none⟩)]] w fun e w'=>e= .returned (.int .i64 r)∧Below w.heap.size w w':=by
 have u7:=aay;have cX:=Ah hr0;have oE:=Ah hc0;clear hr0 hc0;have oT:=Ah lE;clear lE;have HB:=Ah (Ud w.heap.size w);have H:(jv.l0 k l0 (l0.length:Int) 0 aN aQ av au b7)=some r:=h;clear h;have H':=Ah H;clear H
 go_enter Try.func77,Try.ntmps77
 go_wp2
 go_loopg [8] k (fun kq v8 w'=>∃ (dT:Int),v8= .int .i64 dT∧Z (jv.l0 kq l0 (l0.length:Int) dT aN aQ av au b7=some r)∧Z (kq≤k)∧Z (w'.heap[cT]?=some (.cells #[.int .i64 aN,.int .i64 aQ,.int .i64 av,.int .i64 au,.int .i64 b7] 66 (0,0)))∧Z (Below w.heap.size w w'))
 case atStart=>exact⟨(0),e3,H',⟨QQ _⟩,⟨bk oT⟩,⟨bs HB⟩⟩
 case round=>
  clear H'
  try clear hx1
  try clear p2
  try clear lE
  obtain⟨dT,rfl,HA,bi,oT,HB⟩:=hrel
  cases gk with
  |zero=>exact absurd HA.out (by simp[jv.l0])
  |succ k1=>
   have H:=HA.out;clear HA;simp only[jv.l0]at H
   by_cases c3:dT<(l0.length:Int)
   rotate_left
   ·
    rw[if_neg c3]at H;have dc:=dn c3;clear c3;obtain rfl:=Gn H
    go_wp2
    go_ret
    exact⟨er,bs HB⟩
   rw[if_pos c3]at H;have dc:=bJ c3;clear c3
   by_cases c4:0≤dT
   rotate_left
   ·
    rw[if_neg c4]at H;exact absurd H (by simp)
   rw[if_pos c4]at H;have fB:=bJ c4;clear c4
   by_cases c5:dT<(l0.length:Int)
   rotate_left
   ·
    rw[if_neg c5]at H;exact absurd H (by simp)
   rw[if_pos c5]at H;have kV:=bJ c5;clear c5;replace H:=Gl.mp H;obtain⟨Ff,tE,H⟩:=H
   try dsimp only at H
   have A6:=Ah tE;clear tE
   by_cases c7:Ff=true
   ·
    subst c7;rw[if_pos rfl]at H;obtain rfl:=Gn H;have rW:0≤(dT:Int):=od;have rX:dT<(l0.length:Int):=od;obtain⟨Yu,Fg,wH,wI,Kw,Kx,Ky⟩:=eC cX.out dT rW rX
    cases Fg
    replace wH:=hq HB wH;replace wI:=hq HB wI;replace Kw:=hq HB Kw;replace Kx:=hq HB Kx;replace Ky:=hq HB Ky;replace rW:=eq_true rW;replace rX:=eq_true rX
    go_wp2_with (first|((with_reducible refine QR (t:=11) rfl ?_);refine SM (some 16) rfl rfl Try.func62 (by kernel_rfl) rfl #[.agg #[.int .i64 ((U l0 dT).f0),.int .i64 ((U l0 dT).f1),.int .i64 ((U l0 dT).f2.f0),.int .i64 ((U l0 dT).f2.f1),.int .i64 ((U l0 dT).f3)],.pointer (some ⟨cT,0,none⟩)] rfl rfl (by(try simp only[dl,dV,lK]);first|done|rfl|(simp only[SI,Ja];rfl)) ?_;(with_reducible refine(Dg.calls ((U l0 dT).f0) ((U l0 dT).f1) ((U l0 dT).f2.f0) ((U l0 dT).f2.f1) ((U l0 dT).f3) cT aN aQ av au b7 true _ ?aZ A6.out).mono ?_);(case aZ=>exact bk oT);rintro e w8 ⟨rfl,hb⟩;refine⟨_,rfl, ?_⟩;replace oT:=Ah (bT (g:=cT) (o:= .cells #[.int .i64 aN,.int .i64 aQ,.int .i64 av,.int .i64 au,.int .i64 b7] 66 (0,0)) (bk oT) hb);replace HB:=Ah (aH (bs HB) hb);(try clear hb)))
    go_ret
    exact⟨er,bs HB⟩
   replace c7:=PT.mpr c7;subst c7;rw[if_neg dr]at H;have H':=Ah H;clear H;have rW:0≤(dT:Int):=od;have rX:dT<(l0.length:Int):=od;obtain⟨Yu,Fg,wH,wI,Kw,Kx,Ky⟩:=eC cX.out dT rW rX
   cases Fg
   replace wH:=hq HB wH;replace wI:=hq HB wI;replace Kw:=hq HB Kw;replace Kx:=hq HB Kx;replace Ky:=hq HB Ky;replace rW:=eq_true rW;replace rX:=eq_true rX
   go_wp2_with (first|((with_reducible refine QR (t:=11) rfl ?_);refine SM (some 16) rfl rfl Try.func62 (by kernel_rfl) rfl #[.agg #[.int .i64 ((U l0 dT).f0),.int .i64 ((U l0 dT).f1),.int .i64 ((U l0 dT).f2.f0),.int .i64 ((U l0 dT).f2.f1),.int .i64 ((U l0 dT).f3)],.pointer (some ⟨cT,0,none⟩)] rfl rfl (by(try simp only[dl,dV,lK]);first|done|rfl|(simp only[SI,Ja];rfl)) ?_;(with_reducible refine(Dg.calls ((U l0 dT).f0) ((U l0 dT).f1) ((U l0 dT).f2.f0) ((U l0 dT).f2.f1) ((U l0 dT).f3) cT aN aQ av au b7 false _ ?aZ A6.out).mono ?_);(case aZ=>exact bk oT);rintro e w9 ⟨rfl,hb⟩;refine⟨_,rfl, ?_⟩;replace oT:=Ah (bT (g:=cT) (o:= .cells #[.int .i64 aN,.int .i64 aQ,.int .i64 av,.int .i64 au,.int .i64 b7] 66 (0,0)) (bk oT) hb);replace HB:=Ah (aH (bs HB) hb);(try clear hb)))
   go_roundg k1
   case measure=>have:=bi.out;omega
   case rel=>exact⟨(Gj (dT+1)),e3,H',⟨by have:=bi.out;omega⟩,⟨bk oT⟩,⟨bs HB⟩⟩
def qq.f(k:Nat)(l0:List (aJ))(aN:Int)(aQ:Int)(av:Int)(au:Int)(b7:Int):Option (Bool):=(jv.f k l0 aN aQ av au b7).bind fun rY=>(some (decide (rY≥0)))
theorem qq.mono:∀a0 a1 a2 a3 a4 a5 k,aG (qq.f k a0 a1 a2 a3 a4 a5) (qq.f (k+1) a0 a1 a2 a3 a4 a5):=by
 intro a0 a1 a2 a3 a4 a5 k;unfold qq.f
 repeat' with_reducible first|exact jv.mono _ _ _ _ _ _ _|exact aG.refl _|exact aG.none _|refine aG.ite ?_ ?_|refine aG.bind ?_ (fun _=> ?_)
theorem qq.calls(k:Nat)(A0:Option Addr)(c0:Nat)(l0:List (aJ))(cT:Nat)(aN:Int)(aQ:Int)(av:Int)(au:Int)(b7:Int)(r:Bool)(w:World)(hr0:Kd.C b8 w A0 l0.length l0)(hc0:l0.length≤c0)(lE:w.heap[cT]?=some (.cells #[.int .i64 aN,.int .i64 aQ,.int .i64 av,.int .i64 au,.int .i64 b7] 66 (0,0)))(h:qq.f k l0 aN aQ av au b7=some r):
 Calls Uf 66 #[.slice A0 l0.length c0,.func (.func 62) #[] #[.pointer (some ⟨cT,0,none⟩)]] w fun e w'=>e= .returned (.bool r)∧Below w.heap.size w w':=by
 have cX:=Ah hr0;have oE:=Ah hc0;clear hr0 hc0;have bV:=Ah lE;clear lE;have HB:=Ah (Ud w.heap.size w);have H:((jv.f k l0 aN aQ av au b7).bind fun rY=>(some (decide (rY≥0))))=some r:=h;clear h;replace H:=Gl.mp H;obtain⟨rY,dj,H⟩:=H
 try dsimp only at H
 have A3:=Ah dj;clear dj;obtain rfl:=Gn H
 go_enter Try.func66,Try.ntmps66
 go_wp2_with (first|((with_reducible refine bY (f:=77) rfl ?_);refine gL (some 7) rfl rfl Try.func77 (by kernel_rfl) rfl #[.slice A0 l0.length c0,.func (.func 62) #[] #[.pointer (some ⟨cT,0,none⟩)]] rfl ?_;(with_reducible refine(jv.calls k _ _ l0 cT aN aQ av au b7 rY _ ?aZ ?ae ?ay A3.out).mono ?_);(case aZ=>repeat(first|exact cX.out|(with_reducible refine Kd.tO ?_ _)|(with_reducible refine Kd.tP ?_ _)|(with_reducible refine Kd.th ?_)));(case ae=>exact oE.out);(case ay=>exact bk bV);rintro e w4 ⟨rfl,hb⟩;refine⟨_,rfl, ?_⟩;replace bV:=Ah (bT (g:=cT) (o:= .cells #[.int .i64 aN,.int .i64 aQ,.int .i64 av,.int .i64 au,.int .i64 b7] 66 (0,0)) (bk bV) hb);replace HB:=Ah (aH (bs HB) hb);(try clear hb)))
 go_ret
 exact⟨er,bs HB⟩
def Dh.f(aA:Int)(bN:Int)(aN:Int)(aQ:Int)(av:Int)(au:Int)(b7:Int):Option (Bool):=(yA.f av au aA bN).bind fun xE=>(some xE)
theorem Dh.calls(aA:Int)(bN:Int)(cT:Nat)(aN:Int)(aQ:Int)(av:Int)(au:Int)(b7:Int)(r:Bool)(w:World)(lE:w.heap[cT]?=some (.cells #[.int .i64 aN,.int .i64 aQ,.int .i64 av,.int .i64 au,.int .i64 b7] 66 (0,0)))(h:Dh.f aA bN aN aQ av au b7=some r):
 Calls Uf 64 #[.agg #[.int .i64 aA,.int .i64 bN],.pointer (some ⟨cT,0,none⟩)] w fun e w'=>e= .returned (.bool r)∧Below w.heap.size w w':=by
 have jT:=fk;have bO:=Ah lE;clear lE;have HB:=Ah (Ud w.heap.size w);have H:((yA.f av au aA bN).bind fun xE=>(some xE))=some r:=h;clear h;replace H:=Gl.mp H;obtain⟨xE,dj,H⟩:=H
 try dsimp only at H
 have A3:=Ah dj;clear dj;obtain rfl:=Gn H
 go_enter Try.func64,Try.ntmps64
 go_wp2_with (first|((with_reducible refine ag (N:=2) rfl ?_);refine an 2 45 #[.int .i64 aA,.int .i64 bN] ?_;intro Mf hg w4 AT hb;have GW479:=gw hg (bs HB);have Mg:=gw hg (bs HB);replace HB:=Ah (aH (bs HB) hb);have VD:=Ah ((by rw[hg];exact Nat.ne_of_lt (pP (g:=cT) (o:= .cells #[.int .i64 aN,.int .i64 aQ,.int .i64 av,.int .i64 au,.int .i64 b7] 66 (0,0)) (bk bO)):cT≠Mf));have VE:=Ah ((by rw[hg];exact Nat.ne_of_gt (pP (g:=cT) (o:= .cells #[.int .i64 aN,.int .i64 aQ,.int .i64 av,.int .i64 au,.int .i64 b7] 66 (0,0)) (bk bO)):Mf≠cT));replace bO:=Ah (bT (g:=cT) (o:= .cells #[.int .i64 aN,.int .i64 aQ,.int .i64 av,.int .i64 au,.int .i64 b7] 66 (0,0)) (bk bO) hb);clear hb hg;have hnb5:=VD.out;have hnc5:=VE.out;have AG:w4.cell? ⟨cT,0,none⟩=some (.int .i64 aN):=(aE bO.out 0).trans rfl;have AH:w4.cell? ⟨cT,1,none⟩=some (.int .i64 aQ):=(aE bO.out 1).trans rfl;have Ea:w4.cell? ⟨cT,2,none⟩=some (.int .i64 av):=(aE bO.out 2).trans rfl;have Xw:w4.cell? ⟨cT,3,none⟩=some (.int .i64 au):=(aE bO.out 3).trans rfl;have Xx:w4.cell? ⟨cT,4,none⟩=some (.int .i64 b7):=(aE bO.out 4).trans rfl;obtain⟨AI,AJ,Eb,Xy,Xz⟩:=ai bO;obtain⟨pr,pt⟩:=cg AT;obtain⟨pu,pv⟩:=ch AT)|((with_reducible refine bY (f:=63) rfl ?_);refine gL (some 7) rfl rfl Try.func63 (by kernel_rfl) rfl #[.agg #[.int .i64 av,.int .i64 au],.agg #[.int .i64 aA,.int .i64 bN]] rfl ?_;(with_reducible refine(yA.calls av au aA bN xE _ A3.out).mono ?_);rintro e w8 ⟨rfl,hb⟩;refine⟨_,rfl, ?_⟩;replace bO:=Ah (bT (g:=cT) (o:= .cells #[.int .i64 aN,.int .i64 aQ,.int .i64 av,.int .i64 au,.int .i64 b7] 66 (0,0)) (bk bO) hb);replace AT:=nb AT hb;replace HB:=Ah (aH (aM HB Mg) hb);(try clear hb)))
 go_ret
 exact⟨er,aM HB Mg⟩
end Go.Proofs.Ytfeokehfhaimkaa.G
