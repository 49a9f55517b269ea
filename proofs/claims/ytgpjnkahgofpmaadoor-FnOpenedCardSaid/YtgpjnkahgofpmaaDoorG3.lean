-- Printed by a program of this session (drive.py, by way of the kit's print). Not trusted: Lean checks it.
import Derived.Test.YtgpjnkahgofpmaaDoorG0
import Derived.Test.YtgpjnkahgofpmaaDoorG2
open Bool renaming eq_false_iff→iK,not_false→aaD
open Go.IntKind renaming u64→aal
open Go.Proofs.Tryd renaming underlying25→aac,prog→aaf,underlying36→aan,func20→aaG,underlying22→aaS,func28→aaV,func23→abb,func31→abg,func27→abu,func38→abS
open Go.RowKit renaming wrap64→F5
open Go.RowKit.Below renaming refl→aag
open Go.World renaming cell?→aav,frozen?→aax,drewN→abf
open Int renaming tmod→GW,tdiv→aQ
open List renaming length_take→ca,length_drop→fF,map_toArray→fT,map_cons→gJ,map_nil→j5,setIfInBounds_toArray→aab,set_cons_zero→aai,set_cons_succ→aaj,mem_cons→aaq,replicate→aaA
open Nat renaming ne_of_lt→ek,le_refl→kV,le_trans→aaI,ne_of_gt→aaY,zero_add→abh
open Option renaming bind_eq_some_iff→Ok,bind_some→zD
open Option.some renaming inj→qE,injEq→aaa
open Prod.mk renaming injEq→aad
namespace Go.Proofs.YtgpjnkahgofpmaaDoor.G
open Go.RowKit Go.Proofs.YtgpjnkahgofpmaaDoorW.PrintWords Go.Proofs.YtgpjnkahgofpmaaDoorW.PrintLast Go.Proofs.YtgpjnkahgofpmaaDoorW.PrintMore
attribute [local go_sem] uM uN uS uT u9 uA uO uP
set_option maxHeartbeats 8000000
set_option maxRecDepth 100000
set_option linter.unusedVariables false
set_option linter.unusedSimpArgs false
def dj.j0:Nat→ByteArray→Int→Bool→List (aK)→Int→Int→Int→Option ((List (aK))×Int×Int×Int×Bool)
 |0,_,_,_,_,_,_,_=>none
 |k+1,x1,x6,x32,Zt,Zu,Zv,Zw=>if x32=true then(some (([]:List (aK)),0,0,0,false))else((rq.f Zt Zu Zv Zw).bind fun o7=>((dd.f k o7.2.2.1 o7.2.2.2 x1 0).bind fun ik=>(if x6=0 then(none)else(if 0≤(GW o7.2.1 x6)then(if(GW o7.2.1 x6)<(o7.1.length:Int)then(some ((o7.1.set ((GW o7.2.1 x6):Int).toNat (⟨o7.2.2.1,o7.2.2.2,x1,ik⟩:aK)),F5 (o7.2.1+1),F5 ((F5 (aQ (F5 (o7.2.1+1)) x6))+1),o7.2.2.2,true))else(none))else(none)))))
def dj.f(k:Nat)(U:List (aK))(aA:Int)(aD:Int)(aE:Int)(a1:ByteArray):Option ((List (aK))×Int×Int×Int×Bool):=(aw.f k U aA aD aE).bind fun EE=>(if EE=true then(if(a1.size:Int)>12 then(dj.j0 k a1 (U.length:Int) true U aA aD aE)else(if(F5 (aA-aE))=(U.length:Int)then(dj.j0 k a1 (U.length:Int) true U aA aD aE)else(dj.j0 k a1 (U.length:Int) (aA==10000000) U aA aD aE)))else(dj.j0 k a1 (U.length:Int) true U aA aD aE))
theorem dj.eC:∀k,(∀y0 y1 y2 y3 y4 y5 y6,aJ (dj.j0 k y0 y1 y2 y3 y4 y5 y6) (dj.j0 (k+1) y0 y1 y2 y3 y4 y5 y6))
 |0=>fun _ _ _ _ _ _ _ r h=>by simp[dj.j0]at h
 |k+1=>by
  have cj:=dj.eC k
  ·
   intro y0 y1 y2 y3 y4 y5 y6;unfold dj.j0
   repeat' with_reducible first|exact cj _ _ _ _ _ _ _|exact aw.mono _ _ _ _ _|exact dd.mono _ _ _ _ _|exact aJ.refl _|exact aJ.none _|refine aJ.ite ?_ ?_|refine aJ.bind ?_ (fun _=> ?_)
theorem dj.mono:∀a0 a1 a2 a3 a4 k,aJ (dj.f k a0 a1 a2 a3 a4) (dj.f (k+1) a0 a1 a2 a3 a4):=by
 intro a0 a1 a2 a3 a4 k;have cj:=dj.eC k;unfold dj.f
 repeat' with_reducible first|exact cj _ _ _ _ _ _ _|exact aw.mono _ _ _ _ _|exact dd.mono _ _ _ _ _|exact aJ.refl _|exact aJ.none _|refine aJ.ite ?_ ?_|refine aJ.bind ?_ (fun _=> ?_)
def dj.T7:Bool×List (List Nat×List Nat):=(true,[([],[]),([0],[0]),([],[]),([2],[2]),([],[]),([3,4],[3,4]),([],[]),([1,5,0,1,2,3,4,5,6],[1,5]),([7,6,0,1,2,3,4,5,6],[6,7])])
def dj.B7:List Nat:=[0,1,0,4,0,28,0,127,255]
theorem dj.yN:dt .any (gN Tryd.f6 7)=dj.T7:=by kernel_rfl
theorem dj.xi:fh dj.T7.2 dj.B7=true:=by kernel_rfl
theorem dj.calls(k:Nat)(cf:Option Addr)(cA:Nat)(U:List (aK))(aA:Int)(aD:Int)(aE:Int)(a1:ByteArray)(r1:List (aK))(r2:Int)(r3:Int)(r4:Int)(r5:Bool)(w:World)(iB:Kd.C bD w cf U.length U)(iC:U.length≤cA)(h:dj.f k U aA aD aE a1=some (r1,r2,r3,r4,r5)):
 Calls aaf 6 #[.agg #[.slice cf U.length cA,.int .i64 aA,.int .i64 aD,.int .i64 aE],.string a1] w fun e w'=>∃fA:Value,e= .returned (.tuple #[.agg #[fA,.int .i64 r2,.int .i64 r3,.int .i64 r4],.bool r5])∧Kd.R bD 36 w' w.heap.size (fun _=>True) fA r1∧Below w.heap.size w w':=by
 have lP:=aac;have kH:=aan;have fl:=Ah iB;have iT:=Ah iC;clear iB iC;have HB:=Ah (aag w.heap.size w);have H:((aw.f k U aA aD aE).bind fun EE=>(if EE=true then(if(a1.size:Int)>12 then(dj.j0 k a1 (U.length:Int) true U aA aD aE)else(if(F5 (aA-aE))=(U.length:Int)then(dj.j0 k a1 (U.length:Int) true U aA aD aE)else(dj.j0 k a1 (U.length:Int) (aA==10000000) U aA aD aE)))else(dj.j0 k a1 (U.length:Int) true U aA aD aE)))=some (r1,r2,r3,r4,r5):=h;clear h;have mG:=Ah H;clear H
 go_enter Tryd.func6,Tryd.ntmps6
 go_upto_region 2 with(first|((with_reducible refine bY (N:=2) rfl ?_);(try(refine fV (by rfl) ?_;dsimp only));refine br 2 25 #[.slice cf U.length cA,.int .i64 aA,.int .i64 aD,.int .i64 aE] ?_;intro o8 hg w4 dR hb;have GW145:=gw hg (bs HB);have jL:=gw hg (bs HB);replace HB:=Ah (aM (bs HB) hb);clear hb hg)|((with_reducible refine bY (N:=4) rfl ?_);(try(refine fV (by rfl) ?_;dsimp only));refine br 4 25 #[.slice none 0 0,.int .i64 0,.int .i64 0,.int .i64 0] ?_;intro nK hg w5 fJ hb;have GW146:=gw hg (aX HB jL);have kf:=gw hg (aX HB jL);replace HB:=Ah (aM (aX HB jL) hb);have wl:=nn dR hg;have oo:=nm dR hg;replace dR:=nb dR hb;clear hb hg;have UB:=wl.out;have UC:=oo.out;obtain⟨vD,vE,vF,vG⟩:=aT dR;obtain⟨vH,vI,vJ,vK⟩:=aU dR))
 (try simp only[Act.put,aab,aai,aaj])
 go_cut [32] (fun v32 wc=>∃ (kq:Nat) (H7:Bool),v32= .bool H7∧Z (dj.j0 kq a1 (U.length:Int) H7 U aA aD aE=some (r1,r2,r3,r4,r5))∧Z (kq≤k)∧Z (wc.heap[o8]?=some (.cells #[(.slice cf U.length cA),.int .i64 aA,.int .i64 aD,.int .i64 aE] 25 (0,0)))∧Z (wc.heap[nK]?=some (.cells #[(.slice none 0 0),.int .i64 0,.int .i64 0,.int .i64 0] 25 (0,0)))∧Z (Below w.heap.size w wc))
 case first=>
  have H:=mG.out;clear mG;replace H:=Ok.mp H;obtain⟨EE,mX,H⟩:=H
  try dsimp only at H
  have A8:=Ah mX;clear mX
  by_cases c9:EE=true
  rotate_left
  ·
   replace c9:=iK.mpr c9;subst c9;rw[if_neg dM]at H;have H':=Ah H;clear H;have S8:=wl.out;have S9:=oo.out;obtain⟨xC,xD,xE,xF⟩:=aT dR;obtain⟨xG,xH,xI,xJ⟩:=aU dR
   go_wp2_with (first|((with_reducible refine bU (f:=23) rfl ?_);refine gL (some 12) rfl rfl abb (by kernel_rfl) rfl #[.agg #[.slice cf U.length cA,.int .i64 aA,.int .i64 aD,.int .i64 aE]] rfl ?_;(with_reducible refine(aw.calls k _ _ U aA aD aE false _ ?aa ?ab A8.out).mono ?_);(case aa=>exact cb fl HB);(case ab=>exact iT.out);rintro e NG ⟨rfl,hb⟩;refine⟨_,rfl, ?_⟩;replace dR:=nb dR hb;replace fJ:=nb fJ hb;replace HB:=Ah (aM (an HB jL kf) hb);(try clear hb)))
   go_meet
   case rel=>exact⟨_,(true),e3,H',⟨by first|omega|exact kV _⟩,⟨bk dR⟩,⟨bk fJ⟩,⟨an HB jL kf⟩⟩
  subst c9;rw[if_pos rfl]at H
  by_cases c10:(a1.size:Int)>12
  ·
   rw[if_pos c10]at H;have iU:=bV c10;have AP:decide (12<a1.size)=true:=decide_eq_true (by omega);clear c10;(first|rw[iU]|(simp only[fx,gg];rw[iU])|(simp only[L6,aaD,Bool.not_true])|skip);have H':=Ah H;clear H;have L7:=wl.out;have L8:=oo.out;obtain⟨sL,sM,sN,sO⟩:=aT dR;obtain⟨sP,sQ,sR,sS⟩:=aU dR
   go_wp2_with (first|((with_reducible refine bU (f:=23) rfl ?_);refine gL (some 12) rfl rfl abb (by kernel_rfl) rfl #[.agg #[.slice cf U.length cA,.int .i64 aA,.int .i64 aD,.int .i64 aE]] rfl ?_;(with_reducible refine(aw.calls k _ _ U aA aD aE true _ ?aa ?ab A8.out).mono ?_);(case aa=>exact cb fl HB);(case ab=>exact iT.out);rintro e lX ⟨rfl,hb⟩;refine⟨_,rfl, ?_⟩;replace dR:=nb dR hb;replace fJ:=nb fJ hb;replace HB:=Ah (aM (an HB jL kf) hb);(try clear hb)))
   go_meet
   case rel=>exact⟨_,(true),e3,H',⟨by first|omega|exact kV _⟩,⟨bk dR⟩,⟨bk fJ⟩,⟨an HB jL kf⟩⟩
  rw[if_neg c10]at H;have iU:=ev c10;have AP:decide (12<a1.size)=false:=decide_eq_false (by omega);clear c10;(first|rw[iU]|(simp only[fx,gg];rw[iU])|(simp only[L6,aaD,Bool.not_true])|skip)
  by_cases c14:(F5 (aA-aE))=(U.length:Int)
  rotate_left
  ·
   rw[if_neg c14]at H;have vl:=g9 c14;have D2:=gA c14;have H':=Ah H;clear H;have L9:=wl.out;have LA:=oo.out;obtain⟨ou,ov,ow,ox⟩:=aT dR;obtain⟨oy,oz,p7,p8⟩:=aU dR
   go_wp2_with (first|((with_reducible refine bU (f:=23) rfl ?_);refine gL (some 12) rfl rfl abb (by kernel_rfl) rfl #[.agg #[.slice cf U.length cA,.int .i64 aA,.int .i64 aD,.int .i64 aE]] rfl ?_;(with_reducible refine(aw.calls k _ _ U aA aD aE true _ ?aa ?ab A8.out).mono ?_);(case aa=>exact cb fl HB);(case ab=>exact iT.out);rintro e oe ⟨rfl,hb⟩;refine⟨_,rfl, ?_⟩;replace dR:=nb dR hb;replace fJ:=nb fJ hb;replace HB:=Ah (aM (an HB jL kf) hb);(try clear hb);obtain⟨qb,qc,qd,qe⟩:=aT dR;obtain⟨qf,qg,qh,qi⟩:=aU dR))
   go_meet
   case rel=>exact⟨_,((aA==10000000)),e3,H',⟨by first|omega|exact kV _⟩,⟨bk dR⟩,⟨bk fJ⟩,⟨an HB jL kf⟩⟩
  rw[if_pos c14]at H;have vl:=lV c14;have D2:=lW c14;clear c14;have H':=Ah H;clear H;have Kg:=wl.out;have Kh:=oo.out;obtain⟨mf,mg,mh,mi⟩:=aT dR;obtain⟨mj,ml,mm,mo⟩:=aU dR
  go_wp2_with (first|((with_reducible refine bU (f:=23) rfl ?_);refine gL (some 12) rfl rfl abb (by kernel_rfl) rfl #[.agg #[.slice cf U.length cA,.int .i64 aA,.int .i64 aD,.int .i64 aE]] rfl ?_;(with_reducible refine(aw.calls k _ _ U aA aD aE true _ ?aa ?ab A8.out).mono ?_);(case aa=>exact cb fl HB);(case ab=>exact iT.out);rintro e z7 ⟨rfl,hb⟩;refine⟨_,rfl, ?_⟩;replace dR:=nb dR hb;replace fJ:=nb fJ hb;replace HB:=Ah (aM (an HB jL kf) hb);(try clear hb);obtain⟨zc,zd,ze,zf⟩:=aT dR;obtain⟨zg,zh,zk,zl⟩:=aU dR))
  go_meet
  case rel=>exact⟨_,(true),e3,H',⟨by first|omega|exact kV _⟩,⟨bk dR⟩,⟨bk fJ⟩,⟨an HB jL kf⟩⟩
 case rest=>
  clear mG
  try clear c1
  try clear c2
  try clear p2
  try clear c6
  try clear p6
  try clear c9
  try clear c10
  try clear iU
  try clear AP
  try clear c11
  try clear c14
  try clear vl
  try clear D2
  try clear c15
  try clear c19
  try clear c23
  try clear sL sM sN sO
  try clear mf mg mh mi
  try clear zc zd ze zf
  try clear ou ov ow ox
  try clear qb qc qd qe
  try clear xC xD xE xF
  try clear vD vE vF vG
  try clear sP sQ sR sS
  try clear mj ml mm mo
  try clear zg zh zk zl
  try clear oy oz p7 p8
  try clear qf qg qh qi
  try clear xG xH xI xJ
  try clear vH vI vJ vK
  obtain⟨kq,H7,rfl,HA,HJ2,dR,fJ,HB⟩:=hcut
  cases kq with
  |zero=>exact absurd HA.out (by simp[dj.j0])
  |succ zA=>
   have H:=HA.out;clear HA;simp only[dj.j0]at H
   by_cases iY:H7=true
   ·
    subst iY;rw[if_pos rfl]at H;simp only[aaa,aad]at H;obtain⟨rfl,rfl,rfl,rfl,rfl⟩:=H;have SA:=oo.out;have SB:=wl.out;obtain⟨uU,uV,uW,uX⟩:=aT fJ;obtain⟨uY,uZ,ua,ub⟩:=aU fJ
    go_wp2
    refine bodyPost_ret (gC rfl _ _ nK 25 #[.slice none 0 0,.int .i64 0,.int .i64 0,.int .i64 0] (0,0) _ rfl (pb fJ) aac rfl (by kernel_rfl)) rfl ?_;exact⟨_,er,by first|exact Kd.kA _ _ _ _ _|exact Kd.lm _ _ _ _ _|exact Kd.ln _ _ _ _ _|exact Kd.lh _ _ _ _ _|exact Kd.ll _ _ _ _ _,an HB jL kf⟩
   replace iY:=iK.mpr iY;subst iY;rw[if_neg dM]at H;replace H:=Ok.mp H;obtain⟨⟨t148,lR,t152,hU⟩,EF,H⟩:=H
   try dsimp only at H
   have FV:=Ah EF;clear EF;replace H:=Ok.mp H;obtain⟨ik,EG,H⟩:=H
   try dsimp only at H
   have iJ:=Ah EG;clear EG
   by_cases c31:(U.length:Int)=0
   ·
    rw[if_pos c31]at H;exact absurd H (by simp)
   rw[if_neg c31]at H;have a3x:=g9 c31;have a3y:=gA c31
   have a3z:¬(U=[]):=fun h_=>c31 (by rw[h_];rfl)
   obtain⟨bx,pR⟩:∃j_:Int,(GW lR (U.length:Int))=j_:=⟨_,rfl⟩
   replace H:(if 0≤(bx)then(if(bx)<(t148.length:Int)then(some ((t148.set ((bx):Int).toNat (⟨t152,hU,a1,ik⟩:aK)),F5 (lR+1),F5 ((F5 (aQ (F5 (lR+1)) (U.length:Int)))+1),hU,true))else(none))else(none))=some (r1,r2,r3,r4,r5):=by first|(rw[pR]at H;exact H)|(simp only[pR]at H⊢;exact H)
   (try rw[pR]at FV);(try rw[pR]at iJ)
   by_cases kR:0≤(bx)
   rotate_left
   ·
    rw[if_neg kR]at H;exact absurd H (by simp)
   rw[if_pos kR]at H;have H4:=bV kR;clear kR
   by_cases c34:(bx)<(t148.length:Int)
   rotate_left
   ·
    rw[if_neg c34]at H;exact absurd H (by simp)
   rw[if_pos c34]at H;have xj:=bV c34;clear c34;obtain⟨UD,D3⟩:∃y_:List (aK),y_=(t148.set ((bx):Int).toNat (⟨t152,hU,a1,ik⟩:aK)):=⟨_,rfl⟩
   replace H:(some (UD,F5 (lR+1),F5 ((F5 (aQ (F5 (lR+1)) (U.length:Int)))+1),hU,true))=some (r1,r2,r3,r4,r5):=by first|(rw[D3];with_reducible exact H)|(have cL:=(zD _ _).symm.trans H;rw[D3];with_reducible exact cL)|(have cL:=(zD _ _).symm.trans H;with_reducible exact cL)|with_reducible exact H|(rw[D3];exact H)|exact H
   have a3A:=Ah D3;clear D3;simp only[aaa,aad]at H;obtain⟨rfl,rfl,rfl,rfl,rfl⟩:=H;have SC:=wl.out;have SD:=oo.out;obtain⟨sU,sV,sW,sX⟩:=aT dR;obtain⟨sY,sZ,sa,sb⟩:=aU dR
   try go_wp2_with (first|((with_reducible refine bU (f:=24) rfl ?_);refine gL (some 35) rfl rfl Tryd.func24 (by kernel_rfl) rfl #[.agg #[.slice cf U.length cA,.int .i64 aA,.int .i64 aD,.int .i64 aE]] rfl ?_;(with_reducible refine(rq.calls _ _ U aA aD aE t148 lR t152 hU _ ?aa ?ab FV.out).mono ?_);(case aa=>exact cb fl HB);(case ab=>exact iT.out);rintro e NN ⟨Tn,rfl,ho0,hb⟩;refine⟨_,rfl, ?_⟩;have gD:=Ah (Kd.eZ ho0 (eo (an HB jL kf)));replace dR:=nb dR hb;replace fJ:=nb fJ hb;replace HB:=Ah (aM (an HB jL kf) hb);(try clear hb ho0);obtain⟨M0,wC,a5I⟩:=Kd.dI gD.out;subst a5I;obtain⟨Ou,Ov,Ow,Ox⟩:=aT dR;obtain⟨Oy,Oz,P0,P1⟩:=aU dR)|((with_reducible refine bY (N:=7) rfl ?_);(try(refine fV (by rfl) ?_;dsimp only));refine br 7 36 #[.int .i64 0,.int .i64 0,.string (⟨#[]⟩:ByteArray),.int .i64 0] ?_;intro hF hg w41 kB hb;replace gD:=Ah (Kd.bB (Kd.e8 (rf gD dR) hF (Nat.le_of_eq hg.symm)) hb);have GW154:=gw hg (an HB jL kf);have H8:=gw hg (an HB jL kf);replace HB:=Ah (aM (an HB jL kf) hb);have Iq:=Ah ((NE dR hg:o8≠hF));have XW:=Ah ((Vg dR hg:hF≠o8));replace dR:=Ah (bq (g:=o8) (o:= .cells #[.slice M0 t148.length wC,.int .i64 lR,.int .i64 t152,.int .i64 hU] 25 (0,0)) (pb dR) hb);have Ir:=Ah ((by rw[hg];exact ek (j7 (g:=nK) (o:= .cells #[.slice none 0 0,.int .i64 0,.int .i64 0,.int .i64 0] 25 (0,0)) (bf fJ oo)):nK≠hF));have XX:=Ah ((by rw[hg];exact aaY (j7 (g:=nK) (o:= .cells #[.slice none 0 0,.int .i64 0,.int .i64 0,.int .i64 0] 25 (0,0)) (bf fJ oo)):hF≠nK));replace fJ:=Ah (bq (bf fJ oo) hb);clear hb hg;have a3B:=XW.out;have a3C:=Iq.out;have hnb43:=XX.out;have hnc43:=Ir.out;obtain⟨Zx,Zy,Zz,a0a⟩:=aT kB;obtain⟨a0b,a0c,a0d,a0e⟩:=aU kB)|((with_reducible refine bU (f:=12) rfl ?_);refine gL (some 43) rfl rfl Tryd.func12 (by kernel_rfl) rfl #[.agg #[.int .i64 t152,.int .i64 hU,.string a1,.int .i64 0]] rfl ?_;(with_reducible refine(dd.calls zA t152 hU a1 0 ik _ iJ.out).mono ?_);rintro e wZ ⟨rfl,hb⟩;refine⟨_,rfl, ?_⟩;replace gD:=Ah (Kd.bB (by(with_reducible repeat(first|apply Kd.bK|apply Kd.bL|apply Kd.au));exact(Kd.am (Kd.aH (p:=⟨hF,3,none⟩) (Kd.aH (p:=⟨hF,2,none⟩) (Kd.aH (p:=⟨hF,1,none⟩) (Kd.aH (p:=⟨hF,0,none⟩) (Kd.am gD.out (fun k_ hk=>(⟨hk,hk.2⟩:_∧k_≠hF))) (fun _ hk=>hk.2) (.int .i64 t152)) (fun _ hk=>hk.2) (.int .i64 hU)) (fun _ hk=>hk.2) (.string a1)) (fun _ hk=>hk.2) (.int .i64 0)) (fun _ h_=>h_.1))) hb);replace dR:=Ah (bq (bf dR Iq) hb);replace fJ:=Ah (bq (bf fJ Ir) hb);replace kB:=Ah (bq (g:=hF) (o:= .cells #[.int .i64 t152,.int .i64 hU,.string a1,.int .i64 0] 36 (0,0)) (pb kB) hb);replace HB:=Ah (aM (d9 HB jL kf H8) hb);(try clear hb hk);obtain⟨hcz46_0,hcz46_1,hcz46_2,hcz46_3⟩:=aT kB;obtain⟨hfz46_0,hfz46_1,hfz46_2,hfz46_3⟩:=aU kB))
   have bj:Z (Kd.R bD 36 (wZ.setCell ⟨hF,3,none⟩ (.int .i64 ik)) w.heap.size (fun k_=>k_≠hF) (.slice M0 t148.length wC) t148):=⟨by(with_reducible repeat(first|apply Kd.bK|apply Kd.bL|apply Kd.au));exact Kd.am (Kd.aH (p:=⟨hF,3,none⟩) (Kd.am gD.out (fun k_ hk=>(⟨hk,hk.2⟩:_∧k_≠hF))) (fun _ hk=>hk.2) (.int .i64 ik)) (fun _ hk=>hk.1.2)⟩;have be:Z ((wZ.setCell ⟨hF,3,none⟩ (.int .i64 ik)).heap[o8]?=some (.cells #[.slice M0 t148.length wC,.int .i64 lR,.int .i64 t152,.int .i64 hU] 25 (0,0))):=⟨bf dR Iq⟩;have cU:Z ((wZ.setCell ⟨hF,3,none⟩ (.int .i64 ik)).heap[nK]?=some (.cells #[.slice none 0 0,.int .i64 0,.int .i64 0,.int .i64 0] 25 (0,0))):=⟨bf fJ Ir⟩;have dh:Z ((wZ.setCell ⟨hF,3,none⟩ (.int .i64 ik)).heap[hF]?=some (.cells #[.int .i64 t152,.int .i64 hU,.string a1,.int .i64 ik] 36 (0,0))):=⟨by exact pb kB⟩;have di:Z (Below w.heap.size w (wZ.setCell ⟨hF,3,none⟩ (.int .i64 ik))):=⟨d9 HB jL kf H8⟩;(try clear gD);(try clear dR);(try clear fJ);(try clear kB);(try clear HB)
   generalize (wZ.setCell ⟨hF,3,none⟩ (.int .i64 ik))=IF at bj be cU dh di⊢
   have gD:=bj;have dR:=be;have fJ:=cU;have kB:=dh;have HB:=di;clear bj be cU dh di;replace gD:=Ah (Kd.au gD.out);replace dR:=Ah (aZ dR.out);replace fJ:=Ah (aZ fJ.out);replace kB:=Ah (aZ kB.out);replace HB:=Ah (bc HB.out);have p35:0≤((bx):Int):=od;have rh:((bx):Int)<((t148.length:Int):Int):=od;obtain⟨ch,EH,yO,EI,M1,a5J,EJ⟩:=Kd.qu gD.out (by omega);(first|cases yO|(injection yO with eX kN kO;(first|subst eX|(injection eX with eX;subst eX));subst kO;clear kN));have tb:=Ah EI;have M2:=Ah EJ;clear EI M1 EJ;obtain⟨a5K,LB,EK,pS,pT⟩:=Kd.kc gD.out gr ((bx):Int) p35 rh;obtain rfl:=kX EK;have KM:aav _ ⟨ch,((bx):Int).toNat*4,none⟩=some (.int .i64 ((J t148 (bx)).f0)):=pS 0 _ rfl;have KN:aav _ ⟨ch,((bx):Int).toNat*4+1,none⟩=some (.int .i64 ((J t148 (bx)).f1)):=pS 1 _ rfl;have KO:aav _ ⟨ch,((bx):Int).toNat*4+2,none⟩=some (.string ((J t148 (bx)).f2)):=pS 2 _ rfl;have KP:aav _ ⟨ch,((bx):Int).toNat*4+3,none⟩=some (.int .i64 ((J t148 (bx)).f3)):=pS 3 _ rfl;have KQ:aax _ ⟨ch,((bx):Int).toNat*4,none⟩=false:=pT 0;have KR:aax _ ⟨ch,((bx):Int).toNat*4+1,none⟩=false:=pT 1;have KS:aax _ ⟨ch,((bx):Int).toNat*4+2,none⟩=false:=pT 2;have KT:aax _ ⟨ch,((bx):Int).toNat*4+3,none⟩=false:=pT 3;clear LB pS pT EK;replace p35:=eq_true p35;replace rh:=eq_true rh;obtain⟨a5L,H9,EL,vm,xk⟩:=Kd.kc gD.out gr ((bx):Int) (od) (by have h_:((bx):Int)<((t148.length:Int):Int):=od;first|exact h_|(have e_:=(Kd.cM gD.out).1;omega)|simpa using h_);obtain rfl:=kX EL;have M3:=(Kd.su gD.out ((bx):Int) (od) (by have h_:((bx):Int)<((t148.length:Int):Int):=od;first|exact h_|(have e_:=(Kd.cM gD.out).1;omega)|simpa using h_) (seg:=[.int .i64 t152,.int .i64 hU,.string a1,.int .i64 ik]) (j:=0) H9 vm (show 4≤4 from by decide) (x':=(⟨t152,hU,a1,ik⟩:aK)) (ni _ _ _ (⟨t152,hU,a1,ik⟩:aK)) (fun _ hk=>hk)).1;rw[←a3A.out]at M3;have M4:=Ah M3;clear H9 vm xk EL M3;refine dk (n:=9) (S:=fun w'=>w'.cell? ⟨o8,0,none⟩=some (.slice (some ⟨ch,0,none⟩) t148.length wC)∧w'.cell? ⟨o8,1,none⟩=some (.int .i64 lR)∧w'.cell? ⟨o8,2,none⟩=some (.int .i64 t152)∧w'.cell? ⟨o8,3,none⟩=some (.int .i64 hU)∧w'.cell? ⟨hF,0,none⟩=some (.int .i64 t152)∧w'.cell? ⟨hF,1,none⟩=some (.int .i64 hU)∧w'.cell? ⟨hF,2,none⟩=some (.string a1)∧w'.cell? ⟨hF,3,none⟩=some (.int .i64 ik)) (ds:=[8]) #[false,false,false,false,false,false,false,false,false] (by kernel_rfl) rfl rfl ⟨(Y dR.out 0).trans rfl,(Y dR.out 1).trans rfl,(Y dR.out 2).trans rfl,(Y dR.out 3).trans rfl,(Y kB.out 0).trans rfl,(Y kB.out 1).trans rfl,(Y kB.out 2).trans rfl,(Y kB.out 3).trans rfl⟩ (fun hHeld=> ?_);refine dl dj.yN dj.xi (fun I aq=> ?_)
   generalize IF.drew=wX at gD dR fJ kB HB M2 M4 KQ KR KS KT KM KN KO KP hHeld⊢
   refine a8 0 45 I.out ?_;refine a8 2 47 I.out ?_;refine a8 4 49 I.out ?_;refine bM 1 46 I.out aq.out hHeld (hr:=by rintro w' ⟨s0,s1,s2,s3,s4,s5,s6,s7⟩;go_simp;with_reducible rfl) (h:= ?_);refine bM 3 48 I.out aq.out hHeld (hr:=by rintro w' ⟨s0,s1,s2,s3,s4,s5,s6,s7⟩;go_simp;with_reducible rfl) (h:= ?_);refine a8 5 50 I.out ?_;refine bM 6 51 I.out aq.out hHeld (hr:=by rintro w' ⟨s0,s1,s2,s3,s4,s5,s6,s7⟩;go_simp;with_reducible rfl) (h:= ?_);refine a8 7 52 I.out ?_;refine qw (i:=8) (N:=none) #[true,true,true,true,true,true,true,true,true] rfl rfl (bz I.out (by kernel_rfl)) (by decide) (fun K hK=> ?_);refine ke (w1:= ?_) (by rfl) rfl ?_ ?_;rotate_left
   ·
    go_simp
    rfl
   refine hK.out _ _ ?_;clear hK K;refine dP (dW I.out (by kernel_rfl)) ?_;have bj:Z (Kd.R bD 36 ((((wX.setCell ⟨ch,((bx):Int).toNat*4,none⟩ (.int .i64 t152)).setCell ⟨ch,((bx):Int).toNat*4+1,none⟩ (.int .i64 hU)).setCell ⟨ch,((bx):Int).toNat*4+2,none⟩ (.string a1)).setCell ⟨ch,((bx):Int).toNat*4+3,none⟩ (.int .i64 ik)) w.heap.size (fun k_=>k_≠hF) (.slice (some ⟨ch,0,none⟩) t148.length wC) UD):=⟨(by first|exact rr M4.out|exact M4.out)⟩;have be:Z (((((wX.setCell ⟨ch,((bx):Int).toNat*4,none⟩ (.int .i64 t152)).setCell ⟨ch,((bx):Int).toNat*4+1,none⟩ (.int .i64 hU)).setCell ⟨ch,((bx):Int).toNat*4+2,none⟩ (.string a1)).setCell ⟨ch,((bx):Int).toNat*4+3,none⟩ (.int .i64 ik)).heap[o8]?=some (.cells #[.slice (some ⟨ch,0,none⟩) t148.length wC,.int .i64 lR,.int .i64 t152,.int .i64 hU] 25 (0,0))):=⟨by(with_reducible repeat(first|refine cS ?_ _|refine aZ ?_|refine cE ?_ _));refine ce ?_ (by have h_:=Kd.d7 gD.out dR.out (by decide);intro e_;exact h_ (by rw[e_];rfl)) _;(with_reducible repeat(first|refine cS ?_ _|refine aZ ?_|refine cE ?_ _));refine ce ?_ (by have h_:=Kd.d7 gD.out dR.out (by decide);intro e_;exact h_ (by rw[e_];rfl)) _;(with_reducible repeat(first|refine cS ?_ _|refine aZ ?_|refine cE ?_ _));refine ce ?_ (by have h_:=Kd.d7 gD.out dR.out (by decide);intro e_;exact h_ (by rw[e_];rfl)) _;(with_reducible repeat(first|refine cS ?_ _|refine aZ ?_|refine cE ?_ _));refine ce ?_ (by have h_:=Kd.d7 gD.out dR.out (by decide);intro e_;exact h_ (by rw[e_];rfl)) _;exact bk dR⟩;have cU:Z (((((wX.setCell ⟨ch,((bx):Int).toNat*4,none⟩ (.int .i64 t152)).setCell ⟨ch,((bx):Int).toNat*4+1,none⟩ (.int .i64 hU)).setCell ⟨ch,((bx):Int).toNat*4+2,none⟩ (.string a1)).setCell ⟨ch,((bx):Int).toNat*4+3,none⟩ (.int .i64 ik)).heap[nK]?=some (.cells #[.slice none 0 0,.int .i64 0,.int .i64 0,.int .i64 0] 25 (0,0))):=⟨by(with_reducible repeat(first|refine cS ?_ _|refine aZ ?_|refine cE ?_ _));refine ce ?_ (by have h_:=Kd.d7 gD.out fJ.out (by decide);intro e_;exact h_ (by rw[e_];rfl)) _;(with_reducible repeat(first|refine cS ?_ _|refine aZ ?_|refine cE ?_ _));refine ce ?_ (by have h_:=Kd.d7 gD.out fJ.out (by decide);intro e_;exact h_ (by rw[e_];rfl)) _;(with_reducible repeat(first|refine cS ?_ _|refine aZ ?_|refine cE ?_ _));refine ce ?_ (by have h_:=Kd.d7 gD.out fJ.out (by decide);intro e_;exact h_ (by rw[e_];rfl)) _;(with_reducible repeat(first|refine cS ?_ _|refine aZ ?_|refine cE ?_ _));refine ce ?_ (by have h_:=Kd.d7 gD.out fJ.out (by decide);intro e_;exact h_ (by rw[e_];rfl)) _;exact bk fJ⟩;have dh:Z (((((wX.setCell ⟨ch,((bx):Int).toNat*4,none⟩ (.int .i64 t152)).setCell ⟨ch,((bx):Int).toNat*4+1,none⟩ (.int .i64 hU)).setCell ⟨ch,((bx):Int).toNat*4+2,none⟩ (.string a1)).setCell ⟨ch,((bx):Int).toNat*4+3,none⟩ (.int .i64 ik)).heap[hF]?=some (.cells #[.int .i64 t152,.int .i64 hU,.string a1,.int .i64 ik] 36 (0,0))):=⟨by(with_reducible repeat(first|refine cS ?_ _|refine aZ ?_|refine cE ?_ _));refine ce ?_ (by have h_:=Kd.bH gD.out (fun _ hk=>hk);intro e_;exact h_ (by rw[e_];rfl)) _;(with_reducible repeat(first|refine cS ?_ _|refine aZ ?_|refine cE ?_ _));refine ce ?_ (by have h_:=Kd.bH gD.out (fun _ hk=>hk);intro e_;exact h_ (by rw[e_];rfl)) _;(with_reducible repeat(first|refine cS ?_ _|refine aZ ?_|refine cE ?_ _));refine ce ?_ (by have h_:=Kd.bH gD.out (fun _ hk=>hk);intro e_;exact h_ (by rw[e_];rfl)) _;(with_reducible repeat(first|refine cS ?_ _|refine aZ ?_|refine cE ?_ _));refine ce ?_ (by have h_:=Kd.bH gD.out (fun _ hk=>hk);intro e_;exact h_ (by rw[e_];rfl)) _;exact bk kB⟩;have di:Z (Below w.heap.size w ((((wX.setCell ⟨ch,((bx):Int).toNat*4,none⟩ (.int .i64 t152)).setCell ⟨ch,((bx):Int).toNat*4+1,none⟩ (.int .i64 hU)).setCell ⟨ch,((bx):Int).toNat*4+2,none⟩ (.string a1)).setCell ⟨ch,((bx):Int).toNat*4+3,none⟩ (.int .i64 ik))):=⟨ND HB tb tb tb tb jL kf H8⟩;(try clear gD);(try clear dR);(try clear fJ);(try clear kB);(try clear HB)
   generalize ((((wX.setCell ⟨ch,((bx):Int).toNat*4,none⟩ (.int .i64 t152)).setCell ⟨ch,((bx):Int).toNat*4+1,none⟩ (.int .i64 hU)).setCell ⟨ch,((bx):Int).toNat*4+2,none⟩ (.string a1)).setCell ⟨ch,((bx):Int).toNat*4+3,none⟩ (.int .i64 ik))=jy at bj be cU dh di⊢
   have gD:=bj;have dR:=be;have fJ:=cU;have kB:=dh;have HB:=di;clear bj be cU dh di;obtain⟨a0f,a0g,a0h,a0i⟩:=aT dR;obtain⟨a0j,a0k,a0l,a0m⟩:=aU dR;obtain⟨hcz52_0,hcz52_1,hcz52_2,hcz52_3⟩:=aT fJ;obtain⟨hfz52_0,hfz52_1,hfz52_2,hfz52_3⟩:=aU fJ
   try go_wp2
   refine bodyPost_ret (gC rfl _ _ nK 25 #[.slice (some ⟨ch,0,none⟩) t148.length wC,.int .i64 (F5 (lR+1)),.int .i64 (F5 ((F5 (aQ (F5 (lR+1)) (U.length:Int)))+1)),.int .i64 hU] (0,0) _ rfl (oZ fJ oo) aac rfl (by kernel_rfl)) rfl ?_;exact⟨_,by first|rfl|(simp[cH,cI]<;>rfl)|(simp only[←pR];first|rfl|(simp[cH,cI]<;>rfl))|(simp[*,cH,cI]<;>rfl),by(with_reducible repeat(first|apply Kd.bK|apply Kd.bL|apply Kd.au));exact Kd.am (Kd.aH (p:=⟨nK,3,none⟩) (Kd.aH (p:=⟨nK,2,none⟩) (Kd.aH (p:=⟨nK,1,none⟩) (Kd.aH (p:=⟨nK,0,none⟩) (Kd.aH (p:=⟨o8,2,none⟩) (Kd.aH (p:=⟨o8,1,none⟩) (Kd.dv (Kd.dv gD.out dR.out (by decide)) fJ.out (by decide)) (fun _ hk=>hk.1.2) (.int .i64 (F5 (lR+1)))) (fun _ hk=>hk.1.2) (.int .i64 (F5 ((F5 (aQ (F5 (lR+1)) (U.length:Int)))+1)))) (fun _ hk=>hk.2) (.slice (some ⟨ch,0,none⟩) t148.length wC)) (fun _ hk=>hk.2) (.int .i64 (F5 (lR+1)))) (fun _ hk=>hk.2) (.int .i64 (F5 ((F5 (aQ (F5 (lR+1)) (U.length:Int)))+1)))) (fun _ hk=>hk.2) (.int .i64 hU)) (fun _ hk=>trivial),d9 HB jL kf H8⟩
def aC(w0 W:World)(g:Nat)(f0:List Int)(f1:Int)(f2:Int):Prop:=∃A0 c0,W.heap[g]?=some (.cells #[.slice A0 f0.length c0,.int .i64 f1,.int .u64 f2] 48 (0,0))∧w0.heap.size≤g∧Kd.C (Kd.int .u8) w0 A0 f0.length f0
theorem aC.grown {w0 W:World}{g:Nat}{f0:List Int}{f1:Int}{f2:Int}{W1:World}{row:Option Nat}(h:aC w0 W g f0 f1 f2)(hw:W.grownBy W1 row)(hne:some g≠row):aC w0 W1 g f0 f1 f2:=by
 obtain⟨A0,c0,hb,hg,hr0⟩:=h;exact⟨A0,c0,ic hb hw hne,hg,hr0⟩
theorem aC.own_neN {w0 W:World}{g:Nat}{f0:List Int}{f1:Int}{f2:Int}{α:Type}{d:Kd α}{e:Nat}{base:Nat}{ok:Nat→Prop}{v:Value}{xs:List α}(h:aC w0 W g f0 f1 f2)(ho:Kd.N d e W base ok v xs)(ht:e≠48):some g≠v.ownBlock:=by
 obtain⟨A0,c0,hb,hg,hr0⟩:=h;exact Kd.a43 ho hb ht
theorem aC.fresh {w0 W:World}{g:Nat}{f0:List Int}{f1:Int}{f2:Int}(h:aC w0 W g f0 f1 f2):∀k,W.heap.size≤k→k≠g:=by
 obtain⟨A0,c0,hb,hg,hr0⟩:=h;exact Kd.a1c hb
theorem aC.kept {w0 W:World}{g:Nat}{f0:List Int}{f1:Int}{f2:Int}{W1:World}{S:Nat→Prop}(h:aC w0 W g f0 f1 f2)(hk:fM W W1 S)(hne:¬S g):aC w0 W1 g f0 f1 f2:=by
 obtain⟨A0,c0,hb,hg,hr0⟩:=h;exact⟨A0,c0,Xz hb hk hne,hg,hr0⟩
theorem aC.wa {w0 W0 W:World}{g:Nat}{f0:List Int}{f1:Int}{f2:Int}{l:List Nat}(h:Z (aC w0 W0 g f0 f1 f2))(hl:¬(g∈l))[s:gm l W0 W]:aC w0 W g f0 f1 f2:=aC.kept h.out (S:=fun k=>k∈l) s.out hl
theorem aC.fu {w0 W0 W:World}{g:Nat}{f0:List Int}{f1:Int}{f2:Int}(h:Z (aC w0 W0 g f0 f1 f2))[s:gm [] W0 W]:aC w0 W g f0 f1 f2:=aC.wa (l:=[]) h (fun h=>by cases h)
theorem aC.fg {w0 W0 W:World}{g a:Nat}{f0:List Int}{f1:Int}{f2:Int}(h:Z (aC w0 W0 g f0 f1 f2))(ha:Z (g≠a))[s:gm [a] W0 W]:aC w0 W g f0 f1 f2:=aC.wa (l:=[a]) h (fun h=>(aaq.1 h).elim ha.out (fun h=>by cases h))
theorem aC.hY {w0 W0 W:World}{g a b:Nat}{f0:List Int}{f1:Int}{f2:Int}(h:Z (aC w0 W0 g f0 f1 f2))(ha:Z (g≠a))(hb:Z (g≠b))[s:gm [a,b] W0 W]:aC w0 W g f0 f1 f2:=aC.wa (l:=[a,b]) h (fun h=>(aaq.1 h).elim ha.out (fun h=>(aaq.1 h).elim hb.out (fun h=>by cases h)))
theorem aC.kU {w0 W0 W:World}{g a b c:Nat}{f0:List Int}{f1:Int}{f2:Int}(h:Z (aC w0 W0 g f0 f1 f2))(ha:Z (g≠a))(hb:Z (g≠b))(hc:Z (g≠c))[s:gm [a,b,c] W0 W]:aC w0 W g f0 f1 f2:=aC.wa (l:=[a,b,c]) h (fun h=>(aaq.1 h).elim ha.out (fun h=>(aaq.1 h).elim hb.out (fun h=>(aaq.1 h).elim hc.out (fun h=>by cases h))))
theorem aC.iq4 {w0 W0 W:World}{g a b c d:Nat}{f0:List Int}{f1:Int}{f2:Int}(h:Z (aC w0 W0 g f0 f1 f2))(ha:Z (g≠a))(hb:Z (g≠b))(hc:Z (g≠c))(hd:Z (g≠d))[s:gm [a,b,c,d] W0 W]:aC w0 W g f0 f1 f2:=aC.wa (l:=[a,b,c,d]) h (fun h=>(aaq.1 h).elim ha.out (fun h=>(aaq.1 h).elim hb.out (fun h=>(aaq.1 h).elim hc.out (fun h=>(aaq.1 h).elim hd.out (fun h=>by cases h)))))
theorem aC.IG {w0 W0 W:World}{g a b c d e:Nat}{f0:List Int}{f1:Int}{f2:Int}(h:Z (aC w0 W0 g f0 f1 f2))(ha:Z (g≠a))(hb:Z (g≠b))(hc:Z (g≠c))(hd:Z (g≠d))(he:Z (g≠e))[s:gm [a,b,c,d,e] W0 W]:aC w0 W g f0 f1 f2:=aC.wa (l:=[a,b,c,d,e]) h (fun h=>(aaq.1 h).elim ha.out (fun h=>(aaq.1 h).elim hb.out (fun h=>(aaq.1 h).elim hc.out (fun h=>(aaq.1 h).elim hd.out (fun h=>(aaq.1 h).elim he.out (fun h=>by cases h))))))
theorem aC.iq6 {w0 W0 W:World}{g a b c d e f:Nat}{f0:List Int}{f1:Int}{f2:Int}(h:Z (aC w0 W0 g f0 f1 f2))(ha:Z (g≠a))(hb:Z (g≠b))(hc:Z (g≠c))(hd:Z (g≠d))(he:Z (g≠e))(hf:Z (g≠f))[s:gm [a,b,c,d,e,f] W0 W]:aC w0 W g f0 f1 f2:=aC.wa (l:=[a,b,c,d,e,f]) h (fun h=>(aaq.1 h).elim ha.out (fun h=>(aaq.1 h).elim hb.out (fun h=>(aaq.1 h).elim hc.out (fun h=>(aaq.1 h).elim hd.out (fun h=>(aaq.1 h).elim he.out (fun h=>(aaq.1 h).elim hf.out (fun h=>by cases h)))))))
theorem aC.iq7 {w0 W0 W:World}{g a b c d e f m:Nat}{f0:List Int}{f1:Int}{f2:Int}(h:Z (aC w0 W0 g f0 f1 f2))(ha:Z (g≠a))(hb:Z (g≠b))(hc:Z (g≠c))(hd:Z (g≠d))(he:Z (g≠e))(hf:Z (g≠f))(hm:Z (g≠m))[s:gm [a,b,c,d,e,f,m] W0 W]:aC w0 W g f0 f1 f2:=aC.wa (l:=[a,b,c,d,e,f,m]) h (fun h=>(aaq.1 h).elim ha.out (fun h=>(aaq.1 h).elim hb.out (fun h=>(aaq.1 h).elim hc.out (fun h=>(aaq.1 h).elim hd.out (fun h=>(aaq.1 h).elim he.out (fun h=>(aaq.1 h).elim hf.out (fun h=>(aaq.1 h).elim hm.out (fun h=>by cases h))))))))
theorem aC.below {w0 W:World}{g:Nat}{f0:List Int}{f1:Int}{f2:Int}{W1:World}(h:aC w0 W g f0 f1 f2)(hw:Below W.heap.size W W1):aC w0 W1 g f0 f1 f2:=h.grown (NZ hw none) (by simp)
theorem aC.alloc {w0 W:World}{g:Nat}{f0:List Int}{f1:Int}{f2:Int}(h:aC w0 W g f0 f1 f2)(o:Obj):aC w0 (W.alloc o) g f0 f1 f2:=h.below (dH (aag _ _) o)
theorem aC.drewN {w0 W:World}{g:Nat}{f0:List Int}{f1:Int}{f2:Int}(h:aC w0 W g f0 f1 f2)(m:Nat):aC w0 (W.drewN m) g f0 f1 f2:=h
theorem aC.drew {w0 W:World}{g:Nat}{f0:List Int}{f1:Int}{f2:Int}(h:aC w0 W g f0 f1 f2):aC w0 W.drew g f0 f1 f2:=h
theorem aC.at_ {w0 W:World}{g:Nat}{f0:List Int}{f1:Int}{f2:Int}{w':World}{m:Nat}(hq:W.drewN m=w')(h:aC w0 W g f0 f1 f2):aC w0 w' g f0 f1 f2:=by subst hq;exact aC.drewN h m
theorem aC.apart {w0 W:World}{g:Nat}{f0:List Int}{f1:Int}{f2:Int}{α:Type}{d:Kd α}{e:Nat}{base:Nat}{ok:Nat→Prop}{v:Value}{xs:List α}(h:aC w0 W g f0 f1 f2)(ho:d.R e W base ok v xs)(ht:∀q,q∈e::d.E→q≠48):d.R e W base (fun k=>ok k∧k≠g) v xs:=by
 obtain⟨A0,c0,hb,hg,hr0⟩:=h;exact Kd.dv ho hb ht
theorem aC.own_ne {w0 W:World}{g:Nat}{f0:List Int}{f1:Int}{f2:Int}{α:Type}{d:Kd α}{e:Nat}{base:Nat}{ok:Nat→Prop}{v:Value}{xs:List α}(h:aC w0 W g f0 f1 f2)(ho:d.R e W base ok v xs)(ht:e≠48):some g≠v.ownBlock:=by
 obtain⟨A0,c0,hb,hg,hr0⟩:=h;exact Kd.d7 ho hb ht
theorem aC.apartQ {w0 W:World}{g:Nat}{f0:List Int}{f1:Int}{f2:Int}{α:Type}{d:Kd α}{e:Nat}{base:Nat}{ok:Nat→Prop}{v:Value}{xs:List α}(h:aC w0 W g f0 f1 f2)(ho:d.Q e W base ok v xs)(ht:∀q,q∈e::d.E→q≠48):d.Q e W base (fun k=>ok k∧k≠g) v xs:=by
 obtain⟨A0,c0,hb,hg,hr0⟩:=h;exact Kd.Ya ho hb ht
theorem aC.own_neQ {w0 W:World}{g:Nat}{f0:List Int}{f1:Int}{f2:Int}{α:Type}{d:Kd α}{e:Nat}{base:Nat}{ok:Nat→Prop}{v:Value}{xs:List α}(h:aC w0 W g f0 f1 f2)(ho:d.Q e W base ok v xs)(ht:e≠48):some g≠v.ownBlock:=by
 obtain⟨A0,c0,hb,hg,hr0⟩:=h;exact Kd.a41 ho hb ht
theorem aC.apartS {w0 W:World}{g:Nat}{f0:List Int}{f1:Int}{f2:Int}{α:Type}{d:Kd α}{e:Nat}{base:Nat}{ok:Nat→Prop}{v:Value}{xs:List α}(h:aC w0 W g f0 f1 f2)(ho:d.S e W base ok v xs)(ht:∀q,q∈e::d.E→q≠48):d.S e W base (fun k=>ok k∧k≠g) v xs:=by
 obtain⟨A0,c0,hb,hg,hr0⟩:=h;exact Kd.Yd ho hb ht
theorem aC.own_neS {w0 W:World}{g:Nat}{f0:List Int}{f1:Int}{f2:Int}{α:Type}{d:Kd α}{e:Nat}{base:Nat}{ok:Nat→Prop}{v:Value}{xs:List α}(h:aC w0 W g f0 f1 f2)(ho:d.S e W base ok v xs)(ht:e≠48):some g≠v.ownBlock:=by
 obtain⟨A0,c0,hb,hg,hr0⟩:=h;exact Kd.a42 ho hb ht
theorem aC.lt {w0 W:World}{g:Nat}{f0:List Int}{f1:Int}{f2:Int}(h:aC w0 W g f0 f1 f2):g<W.heap.size:=by
 obtain⟨A0,c0,hb,hg,hr0⟩:=h;exact j7 hb
theorem aC.ge {w0 W:World}{g:Nat}{f0:List Int}{f1:Int}{f2:Int}(h:aC w0 W g f0 f1 f2):w0.heap.size≤g:=by
 obtain⟨A0,c0,hb,hg,hr0⟩:=h;exact hg
theorem aC.ne_blk {w0 W:World}{g:Nat}{f0:List Int}{f1:Int}{f2:Int}{a:Nat}{cs:Array Value}{t:TypeId}{fr:Nat×Nat}(h:aC w0 W g f0 f1 f2)(hb2:W.heap[a]?=some (.cells cs t fr))(ht:t≠48):g≠a:=by
 obtain⟨A0,c0,hb,hg,hr0⟩:=h;rintro rfl;rw[hb]at hb2
 injection hb2 with hb2
 injection hb2 with _ ht2
 exact ht ht2.symm
theorem aC.far {w0 W:World}{g:Nat}{f0:List Int}{f1:Int}{f2:Int}{p:Addr}(h:aC w0 W g f0 f1 f2)(hne:g≠p.block)(u:Value):aC w0 (W.setCell p u) g f0 f1 f2:=by
 obtain⟨A0,c0,hb,hg,hr0⟩:=h;exact⟨A0,c0,ce hb hne u,hg,hr0⟩
theorem Fx {W:World}{g:Nat}{A0:Option Addr}{c0:Nat}{f0:List Int}{f1:Int}{f2:Int}(h:W.heap[g]?=some (.cells #[.slice A0 f0.length c0,.int .i64 f1,.int .u64 f2] 48 (0,0))):W.cell? ⟨g,0,none⟩=some (.slice A0 f0.length c0):=(Y h 0).trans rfl
theorem Fy {W:World}{g:Nat}{A0:Option Addr}{c0:Nat}{f0:List Int}{f1:Int}{f2:Int}(h:W.heap[g]?=some (.cells #[.slice A0 f0.length c0,.int .i64 f1,.int .u64 f2] 48 (0,0))):W.cell? ⟨g,1,none⟩=some (.int .i64 f1):=(Y h 1).trans rfl
theorem aC.HC {w0 W:World}{g:Nat}{f0:List Int}{f1:Int}{f2:Int}(h:aC w0 W g f0 f1 f2)(x:Int):aC w0 (W.setCell ⟨g,1,none⟩ (.int .i64 x)) g f0 x f2:=by
 obtain⟨A0,c0,hb,hg,hr0⟩:=h;exact⟨A0,c0,by simpa using G7 hb 1 (.int .i64 x),hg,hr0⟩
theorem Fz {W:World}{g:Nat}{A0:Option Addr}{c0:Nat}{f0:List Int}{f1:Int}{f2:Int}(h:W.heap[g]?=some (.cells #[.slice A0 f0.length c0,.int .i64 f1,.int .u64 f2] 48 (0,0))):W.cell? ⟨g,2,none⟩=some (.int .u64 f2):=(Y h 2).trans rfl
theorem aC.HD {w0 W:World}{g:Nat}{f0:List Int}{f1:Int}{f2:Int}(h:aC w0 W g f0 f1 f2)(x:Int):aC w0 (W.setCell ⟨g,2,none⟩ (.int .u64 x)) g f0 f1 x:=by
 obtain⟨A0,c0,hb,hg,hr0⟩:=h;exact⟨A0,c0,by simpa using G7 hb 2 (.int .u64 x),hg,hr0⟩
theorem aC.new(w0 W:World)(A0:Option Addr)(c0:Nat)(f0:List Int)(f1:Int)(f2:Int)(hB:Below w0.heap.size w0 W)(hr0:Kd.C (Kd.int .u8) w0 A0 f0.length f0):aC w0 (W.alloc (.cells #[.slice A0 f0.length c0,.int .i64 f1,.int .u64 f2] 48)) W.heap.size f0 f1 f2:=⟨A0,c0,by simpa using heap_alloc_new W _,hB.size,hr0⟩
def ol.f(bv:List Int)(d5:Int)(eU:Int):Option (Int×Int×Int):=if d5<(bv.length:Int)then(if 0≤d5 then(if(F5 (d5+1))≤(bv.length:Int)then(some (F5 (rd bv d5),F5 (d5+1),aal.wrap ((aal.wrap ((aal.wrap (eU*6364136223846793005))+(aal.wrap (F5 (rd bv d5)))))+1442695040888963407)))else(some (F5 (Go.bits .and .u64 ((aal.wrap ((aal.wrap ((aal.wrap (eU*6364136223846793005))+(aal.wrap (F5 (rd bv d5)))))+1442695040888963407))/1099511627776) 255),F5 (d5+1),aal.wrap ((aal.wrap ((aal.wrap (eU*6364136223846793005))+(aal.wrap (F5 (rd bv d5)))))+1442695040888963407))))else(none))else(if(F5 (d5+1))≤(bv.length:Int)then(some (0,F5 (d5+1),aal.wrap ((aal.wrap ((aal.wrap (eU*6364136223846793005))))+1442695040888963407)))else(some (F5 (Go.bits .and .u64 ((aal.wrap ((aal.wrap ((aal.wrap (eU*6364136223846793005))))+1442695040888963407))/1099511627776) 255),F5 (d5+1),aal.wrap ((aal.wrap ((aal.wrap (eU*6364136223846793005))))+1442695040888963407))))
theorem ol.calls(g:Nat)(bv:List Int)(d5:Int)(eU:Int)(r1:Int)(r2:Int)(r3:Int)(w0 w:World)(hI:aC w0 w g bv d5 eU)(hB:Below w0.heap.size w0 w)(h:ol.f bv d5 eU=some (r1,r2,r3)):
 Calls aaf 38 #[.pointer (some ⟨g,0,none⟩)] w fun e w'=>e= .returned (.int .i64 r1)∧aC w0 w' g bv r2 r3∧Below w0.heap.size w0 w'∧az w w' g none:=by
 have HI0:=Ah hI;have HK:=Ah (az.refl w g none);have HL:=Ah hB.size;clear hI;have HW0:=Ah hB.size;have HB:=Ah hB;clear hB;have H:(if d5<(bv.length:Int)then(if 0≤d5 then(if(F5 (d5+1))≤(bv.length:Int)then(some (F5 (rd bv d5),F5 (d5+1),aal.wrap ((aal.wrap ((aal.wrap (eU*6364136223846793005))+(aal.wrap (F5 (rd bv d5)))))+1442695040888963407)))else(some (F5 (Go.bits .and .u64 ((aal.wrap ((aal.wrap ((aal.wrap (eU*6364136223846793005))+(aal.wrap (F5 (rd bv d5)))))+1442695040888963407))/1099511627776) 255),F5 (d5+1),aal.wrap ((aal.wrap ((aal.wrap (eU*6364136223846793005))+(aal.wrap (F5 (rd bv d5)))))+1442695040888963407))))else(none))else(if(F5 (d5+1))≤(bv.length:Int)then(some (0,F5 (d5+1),aal.wrap ((aal.wrap ((aal.wrap (eU*6364136223846793005))))+1442695040888963407)))else(some (F5 (Go.bits .and .u64 ((aal.wrap ((aal.wrap ((aal.wrap (eU*6364136223846793005))))+1442695040888963407))/1099511627776) 255),F5 (d5+1),aal.wrap ((aal.wrap ((aal.wrap (eU*6364136223846793005))))+1442695040888963407)))))=some (r1,r2,r3):=h;clear h
 by_cases c2:d5<(bv.length:Int)
 rotate_left
 ·
  rw[if_neg c2]at H;have E0:=ev c2;clear c2
  by_cases c7:(F5 (d5+1))≤(bv.length:Int)
  ·
   rw[if_pos c7]at H;have kI:=bV c7;clear c7;simp only[aaa,aad]at H;obtain⟨rfl,rfl,rfl⟩:=H;obtain⟨ASz8_0,cSz8_0,Ag,a5M,HSz8_0⟩:=HI0.out;have Qx:=Fx Ag;have Qy:=Fy Ag;have Qz:=Fz Ag;have R0:=dD Ag 1;have R1:=dD Ag 2;clear Ag a5M
   go_enter abS,Tryd.ntmps38
   go_wp2
   repeat(go_quiet (fail);try go_wp2)
   go_ret
   exact⟨er,by repeat(first|(with_reducible first|exact HI0.out|apply aC.alloc|apply aC.drewN|apply aC.drew|apply aC.HC|apply aC.HD)|exact HI0.out),by repeat(first|(with_reducible first|exact HB.out|apply dH|apply dZ|apply bc|refine cn ?_ (aC.ge HI0.out))|exact HB.out),by repeat(first|(with_reducible first|exact HK.out|apply az.Df|apply Fm|apply rv|apply Fn)|exact HK.out)⟩
  rw[if_neg c7]at H;have kI:=ev c7;clear c7;simp only[aaa,aad]at H;obtain⟨rfl,rfl,rfl⟩:=H;obtain⟨ASz9_0,cSz9_0,Ai,a5N,HSz9_0⟩:=HI0.out;have so:=Fx Ai;have sp:=Fy Ai;have sq:=Fz Ai;have sr:=dD Ai 1;have st:=dD Ai 2;clear Ai a5N
  go_enter abS,Tryd.ntmps38
  go_wp2
  repeat(go_quiet (fail);try go_wp2)
  go_ret
  exact⟨er,by repeat(first|(with_reducible first|exact HI0.out|apply aC.alloc|apply aC.drewN|apply aC.drew|apply aC.HC|apply aC.HD)|exact HI0.out),by repeat(first|(with_reducible first|exact HB.out|apply dH|apply dZ|apply bc|refine cn ?_ (aC.ge HI0.out))|exact HB.out),by repeat(first|(with_reducible first|exact HK.out|apply az.Df|apply Fm|apply rv|apply Fn)|exact HK.out)⟩
 rw[if_pos c2]at H;have E0:=bV c2;clear c2
 by_cases c3:0≤d5
 rotate_left
 ·
  rw[if_neg c3]at H;exact absurd H (by simp)
 rw[if_pos c3]at H;have pk:=bV c3;clear c3
 by_cases c4:(F5 (d5+1))≤(bv.length:Int)
 ·
  rw[if_pos c4]at H;have rO:=bV c4;clear c4;simp only[aaa,aad]at H;obtain⟨rfl,rfl,rfl⟩:=H;obtain⟨ASz5_0,cSz5_0,Aj,a5O,a1G⟩:=HI0.out;have KG:=Fx Aj;have KH:=Fy Aj;have KI:=Fz Aj;have KJ:=dD Aj 1;have KK:=dD Aj 2;clear Aj a5O;have yP:0≤(d5:Int):=od;have yQ:d5<(bv.length:Int):=od;obtain⟨a3D,M5,By⟩:=Kd.GV a1G d5 yP yQ
  cases M5
  replace By:=BI HB.out By;replace yP:=eq_true yP;replace yQ:=eq_true yQ
  go_enter abS,Tryd.ntmps38
  go_wp2
  repeat(go_quiet (fail);try go_wp2)
  go_ret
  exact⟨er,by repeat(first|(with_reducible first|exact HI0.out|apply aC.alloc|apply aC.drewN|apply aC.drew|apply aC.HC|apply aC.HD)|exact HI0.out),by repeat(first|(with_reducible first|exact HB.out|apply dH|apply dZ|apply bc|refine cn ?_ (aC.ge HI0.out))|exact HB.out),by repeat(first|(with_reducible first|exact HK.out|apply az.Df|apply Fm|apply rv|apply Fn)|exact HK.out)⟩
 rw[if_neg c4]at H;have rO:=ev c4;clear c4;simp only[aaa,aad]at H;obtain⟨rfl,rfl,rfl⟩:=H;obtain⟨ASz6_0,cSz6_0,Ak,a5P,a1H⟩:=HI0.out;have a1I:=Fx Ak;have a1J:=Fy Ak;have a1K:=Fz Ak;have a1L:=dD Ak 1;have a1M:=dD Ak 2;clear Ak a5P;have yP:0≤(d5:Int):=od;have yQ:d5<(bv.length:Int):=od;obtain⟨a3D,M5,By⟩:=Kd.GV a1H d5 yP yQ
 cases M5
 replace By:=BI HB.out By;replace yP:=eq_true yP;replace yQ:=eq_true yQ
 go_enter abS,Tryd.ntmps38
 go_wp2
 repeat(go_quiet (fail);try go_wp2)
 go_ret
 exact⟨er,by repeat(first|(with_reducible first|exact HI0.out|apply aC.alloc|apply aC.drewN|apply aC.drew|apply aC.HC|apply aC.HD)|exact HI0.out),by repeat(first|(with_reducible first|exact HB.out|apply dH|apply dZ|apply bc|refine cn ?_ (aC.ge HI0.out))|exact HB.out),by repeat(first|(with_reducible first|exact HK.out|apply az.Df|apply Fm|apply rv|apply Fn)|exact HK.out)⟩
def dw.f(bv:List Int)(d5:Int)(eU:Int)(a1:Int):Option (Int×Int×Int):=if a1≤1 then(some (0,d5,eU))else((ol.f bv d5 eU).bind fun nL=>(if a1>200 then((ol.f bv nL.2.1 nL.2.2).bind fun xl=>(if a1=0 then(none)else(some (GW (F5 ((F5 (nL.1*256))+xl.1)) a1,xl.2.1,xl.2.2))))else(if a1=0 then(none)else(some (GW nL.1 a1,nL.2.1,nL.2.2)))))
theorem dw.calls(g:Nat)(bv:List Int)(d5:Int)(eU:Int)(a1:Int)(r1:Int)(r2:Int)(r3:Int)(w0 w:World)(hI:aC w0 w g bv d5 eU)(hB:Below w0.heap.size w0 w)(h:dw.f bv d5 eU a1=some (r1,r2,r3)):
 Calls aaf 20 #[.pointer (some ⟨g,0,none⟩),.int .i64 a1] w fun e w'=>e= .returned (.int .i64 r1)∧aC w0 w' g bv r2 r3∧Below w0.heap.size w0 w'∧az w w' g none:=by
 have HI0:=Ah hI;have HK:=Ah (az.refl w g none);have HL:=Ah hB.size;clear hI;have HW0:=Ah hB.size;have HB:=Ah hB;clear hB;have H:(if a1≤1 then(some (0,d5,eU))else((ol.f bv d5 eU).bind fun nL=>(if a1>200 then((ol.f bv nL.2.1 nL.2.2).bind fun xl=>(if a1=0 then(none)else(some (GW (F5 ((F5 (nL.1*256))+xl.1)) a1,xl.2.1,xl.2.2))))else(if a1=0 then(none)else(some (GW nL.1 a1,nL.2.1,nL.2.2))))))=some (r1,r2,r3):=h;clear h
 by_cases c3:a1≤1
 ·
  rw[if_pos c3]at H;have pk:=bV c3;clear c3;simp only[aaa,aad]at H;obtain⟨rfl,rfl,rfl⟩:=H
  go_enter aaG,Tryd.ntmps20
  go_wp2
  go_ret
  exact⟨er,aC.fu HI0,bs HB,kr HK⟩
 rw[if_neg c3]at H;have pk:=ev c3;clear c3;replace H:=Ok.mp H;obtain⟨⟨UE,t159,t160⟩,fo,H⟩:=H
 try dsimp only at H
 have A4:=Ah fo;clear fo
 by_cases c5:a1>200
 rotate_left
 ·
  rw[if_neg c5]at H;have rP:=ev c5;clear c5
  by_cases c10:a1=0
  ·
   rw[if_pos c10]at H;exact absurd H (by simp)
  rw[if_neg c10]at H;have iU:=g9 c10;have AP:=gA c10;simp only[aaa,aad]at H;obtain⟨rfl,rfl,rfl⟩:=H
  go_enter aaG,Tryd.ntmps20
  go_wp2_with (first|((with_reducible refine bU (f:=38) rfl ?_);refine gL (some 9) rfl rfl abS (by kernel_rfl) rfl #[.pointer (some ⟨g,0,none⟩)] rfl ?_;(with_reducible refine(ol.calls g bv d5 eU UE t159 t160 w0 _ ?aa ?ab A4.out).mono ?_);(case aa=>exact aC.fu HI0);(case ab=>exact bs HB);rintro e tw ⟨rfl,hi,hb,hk⟩;refine⟨_,rfl, ?_⟩;replace HK:=Ah (az.trans (kr HK) hk (.inl rfl));replace HB:=Ah (hb);replace HI0:=Ah (hi);(try clear hb hk hi)))
  go_ret
  exact⟨er,aC.fu HI0,bs HB,kr HK⟩
 rw[if_pos c5]at H;have rP:=bV c5;clear c5;replace H:=Ok.mp H;obtain⟨⟨a5Q,t162,a5R⟩,iz,H⟩:=H
 try dsimp only at H
 have A6:=Ah iz;clear iz
 by_cases c7:a1=0
 ·
  rw[if_pos c7]at H;exact absurd H (by simp)
 rw[if_neg c7]at H;have kI:=g9 c7;have oE:=gA c7;simp only[aaa,aad]at H;obtain⟨rfl,rfl,rfl⟩:=H
 go_enter aaG,Tryd.ntmps20
 go_wp2_with (first|((with_reducible refine bU (f:=38) rfl ?_);refine gL (some 9) rfl rfl abS (by kernel_rfl) rfl #[.pointer (some ⟨g,0,none⟩)] rfl ?_;(with_reducible refine(ol.calls g bv d5 eU UE t159 t160 w0 _ ?aa ?ab A4.out).mono ?_);(case aa=>exact aC.fu HI0);(case ab=>exact bs HB);rintro e w8 ⟨rfl,hi,hb,hk⟩;refine⟨_,rfl, ?_⟩;replace HK:=Ah (az.trans (kr HK) hk (.inl rfl));replace HB:=Ah (hb);replace HI0:=Ah (hi);(try clear hb hk hi))|((with_reducible refine bU (f:=38) rfl ?_);refine gL (some 15) rfl rfl abS (by kernel_rfl) rfl #[.pointer (some ⟨g,0,none⟩)] rfl ?_;(with_reducible refine(ol.calls g bv t159 t160 a5Q t162 a5R w0 _ ?aa ?ab A6.out).mono ?_);(case aa=>exact aC.fu HI0);(case ab=>exact bs HB);rintro e w9 ⟨rfl,hi,hb,hk⟩;refine⟨_,rfl, ?_⟩;replace HK:=Ah (az.trans (kr HK) hk (.inl rfl));replace HB:=Ah (hb);replace HI0:=Ah (hi);(try clear hb hk hi)))
 go_ret
 exact⟨er,aC.fu HI0,bs HB,kr HK⟩
def fP.l0:Nat→List Int→Int→Int→List Int→Int→Int→Option (ByteArray×Int×Int)
 |0,_,_,_,_,_,_=>none
 |k+1,x5,j4,eY,x1000,D4,D5=>if eY<j4 then((dw.f x1000 D4 D5 256).bind fun LC=>(if 0≤eY then(if eY<(x5.length:Int)then(fP.l0 k (x5.set (eY:Int).toNat ((LC.1) %256)) j4 (F5 (eY+1)) x1000 LC.2.1 LC.2.2)else(none))else(none)))else(some (strOfNums x5,D4,D5))
def fP.f(k:Nat)(bv:List Int)(d5:Int)(eU:Int)(a1:Int):Option (ByteArray×Int×Int):=if 0≤a1 then(if(a1:Int).toNat≤281474976710656 then((some (aaA (a1:Int).toNat 0:List Int)).bind fun nW=>(fP.l0 k nW (nW.length:Int) 0 bv d5 eU))else(none))else(none)
theorem fP.eC:∀k,(∀y0 y1 y2 y3 y4 y5,aJ (fP.l0 k y0 y1 y2 y3 y4 y5) (fP.l0 (k+1) y0 y1 y2 y3 y4 y5))
 |0=>fun _ _ _ _ _ _ r h=>by simp[fP.l0]at h
 |k+1=>by
  have cj:=fP.eC k
  ·
   intro y0 y1 y2 y3 y4 y5;unfold fP.l0
   repeat' with_reducible first|exact cj _ _ _ _ _ _|exact aJ.refl _|exact aJ.none _|refine aJ.ite ?_ ?_|refine aJ.bind ?_ (fun _=> ?_)
theorem fP.mono:∀a0 a1 a2 a3 k,aJ (fP.f k a0 a1 a2 a3) (fP.f (k+1) a0 a1 a2 a3):=by
 intro a0 a1 a2 a3 k;have cj:=fP.eC k;unfold fP.f
 repeat' with_reducible first|exact cj _ _ _ _ _ _|exact aJ.refl _|exact aJ.none _|refine aJ.ite ?_ ?_|refine aJ.bind ?_ (fun _=> ?_)
theorem fP.calls(k:Nat)(g:Nat)(bv:List Int)(d5:Int)(eU:Int)(a1:Int)(r1:ByteArray)(r2:Int)(r3:Int)(w0 w:World)(hI:aC w0 w g bv d5 eU)(hB:Below w0.heap.size w0 w)(h:fP.f k bv d5 eU a1=some (r1,r2,r3)):
 Calls aaf 19 #[.pointer (some ⟨g,0,none⟩),.int .i64 a1] w fun e w'=>e= .returned (.string r1)∧aC w0 w' g bv r2 r3∧Below w0.heap.size w0 w'∧az w w' g none:=by
 have HI0:=Ah hI;have HK:=Ah (az.refl w g none);have HL:=Ah hB.size;clear hI;have HW0:=Ah hB.size;have HB:=Ah hB;clear hB;have H:(if 0≤a1 then(if(a1:Int).toNat≤281474976710656 then((some (aaA (a1:Int).toNat 0:List Int)).bind fun nW=>(fP.l0 k nW (nW.length:Int) 0 bv d5 eU))else(none))else(none))=some (r1,r2,r3):=h;clear h
 by_cases c3:0≤a1
 rotate_left
 ·
  rw[if_neg c3]at H;exact absurd H (by simp)
 rw[if_pos c3]at H;have pk:=eq_true c3;have Hv:=bV c3;clear c3
 by_cases c4:(a1:Int).toNat≤281474976710656
 rotate_left
 ·
  rw[if_neg c4]at H;exact absurd H (by simp)
 rw[if_pos c4]at H;have rO:=eq_true c4;have a5S:=bV c4;clear c4;obtain⟨nW,D6⟩:∃y_:List Int,y_=(aaA (a1:Int).toNat 0):=⟨_,rfl⟩
 replace H:(fP.l0 k nW (nW.length:Int) 0 bv d5 eU)=some (r1,r2,r3):=by first|(rw[D6];with_reducible exact H)|(have cL:=(zD _ _).symm.trans H;rw[D6];with_reducible exact cL)|(have cL:=(zD _ _).symm.trans H;with_reducible exact cL)|with_reducible exact H|(rw[D6];exact H)|exact H
 have SE:=Ah D6;clear D6;have H':=Ah H;clear H
 go_enter Tryd.func19,Tryd.ntmps19
 go_wp2_with (first|((with_reducible refine bY (N:=8) rfl ?_);refine Kd.Qi (Kd.int .u8) _ 5 rfl (N:=8) rfl 22 _ _ rfl a1 rfl rfl aaS (.int .u8 0) 1 a2s rfl (by decide) (by omega) 0 (ok:=fun _=>True) (okp:=fun _=>True) rfl (fun _ hk=>hk) trivial (od) (aaI (Nat.mul_le_mul_right _ (od:a1.toNat≤281474976710656)) (by omega)) (aag _ _) (kV _) ?_;intro v165 w5 q7 hb jW jJ;clear jW jJ;(first|rw[←SE.out]at q7|(simp only[Int.reduceToNat]at q7;rw[←SE.out]at q7));have SF:=Ah (Kd.eZ q7 (mK (w:=w) (g:=g) (row:=none) (kr HK)));replace HK:=Ah (az.trans (kr HK) (az.of_below hb g none) (.inl rfl));replace HB:=Ah (aM (bs HB) hb);replace HI0:=Ah (aC.below (aC.fu HI0) hb);clear hb q7;obtain⟨wb,tx,NO⟩:=Kd.dI SF.out;subst NO))
 go_loopg [11] k (fun kq v11 w'=>∃ (bQ:List Int) (lw:Int) (iP:Int) (iQ:Int),v11= .int .i64 lw∧Z (fP.l0 kq bQ (nW.length:Int) lw bv iP iQ=some (r1,r2,r3))∧Z (kq≤k)∧Z (Kd.R (Kd.int .u8) 5 w' w.heap.size (fun _=>True) (.slice wb nW.length tx) bQ)∧Z (aC w0 w' g bv iP iQ)∧Z (az w w' g none)∧Z (Below w0.heap.size w0 w'))
 case atStart=>exact⟨(nW),(0),(d5),(eU),e3,H',⟨kV _⟩,⟨rr SF.out⟩,⟨aC.fu HI0⟩,⟨kr HK⟩,⟨bs HB⟩⟩
 case round=>
  clear H'
  try clear c1
  try clear p2
  try clear c3
  try clear pk
  try clear Hv
  try clear c4
  try clear rO
  try clear a5S
  obtain⟨bQ,lw,iP,iQ,rfl,HA,dp,nX,HI0,HK,HB⟩:=hrel;have xm:=(Kd.cM nX.out).1;rw[xm]at nX;(try simp only[xm])
  cases gk with
  |zero=>exact absurd HA.out (by simp[fP.l0])
  |succ k1=>
   have H:=HA.out;clear HA;simp only[fP.l0]at H
   by_cases c8:lw<(nW.length:Int)
   rotate_left
   ·
    rw[if_neg c8]at H;have lQ:=ev c8;(try(have LD:=lQ;simp only[xm]at LD));clear c8;simp only[aaa,aad]at H;obtain⟨rfl,rfl,rfl⟩:=H;have hcv16:=BL (P:=aaf) aaS Tryd.underlying5 Tryd.underlying9 (Kd.wt nX.out)
    go_wp2
    go_ret
    exact⟨er,aC.fu HI0,bs HB,kr HK⟩
   rw[if_pos c8]at H;have lQ:=bV c8;(try(have LD:=lQ;simp only[xm]at LD));clear c8;replace H:=Ok.mp H;obtain⟨⟨t167,t168,M6⟩,pz,H⟩:=H
   try dsimp only at H
   have A9:=Ah pz;clear pz
   by_cases c10:0≤lw
   rotate_left
   ·
    rw[if_neg c10]at H;exact absurd H (by simp)
   rw[if_pos c10]at H;have iU:=bV c10;clear c10
   by_cases c11:lw<(bQ.length:Int)
   rotate_left
   ·
    rw[if_neg c11]at H;exact absurd H (by simp)
   rw[if_pos c11]at H;have lu:=bV c11;(try(have a1N:=lu;simp only[xm]at a1N));clear c11;obtain⟨M7,D7⟩:∃y_:List Int,y_=(bQ.set (lw:Int).toNat ((t167) %256)):=⟨_,rfl⟩
   replace H:(fP.l0 k1 M7 (nW.length:Int) (F5 (lw+1)) bv t168 M6)=some (r1,r2,r3):=by first|(rw[D7];with_reducible exact H)|(have cL:=(zD _ _).symm.trans H;rw[D7];with_reducible exact cL)|(have cL:=(zD _ _).symm.trans H;with_reducible exact cL)|with_reducible exact H|(rw[D7];exact H)|exact H
   have a3E:=Ah D7;clear D7;have H':=Ah H;clear H
   go_wp2_with (first|((with_reducible refine bU (f:=20) rfl ?_);refine gL (some 17) rfl rfl aaG (by kernel_rfl) rfl #[.pointer (some ⟨g,0,none⟩),.int .i64 256] rfl ?_;(with_reducible refine(dw.calls g bv iP iQ 256 t167 t168 M6 w0 _ ?aa ?ab A9.out).mono ?_);(case aa=>exact aC.fu HI0);(case ab=>exact bs HB);rintro e lX ⟨rfl,hi,hb,hk⟩;refine⟨_,rfl, ?_⟩;replace nX:=Ah (Kd.am (Kd.gn (aC.apart (show aC w0 _ g bv iP iQ from aC.fu HI0) (rr nX.out) (by decide)) hk (fun _ h=>h.2)) (fun _ h=>h.1));replace HK:=Ah (az.trans (kr HK) hk (.inl rfl));replace HB:=Ah (hb);replace HI0:=Ah (hi);(try clear hb hk hi);have BA:0≤(lw:Int):=od;have BB:(lw:Int)<((bQ.length:Int):Int):=od;obtain⟨M8,M9,Hw,UF,a5T,cl12,UG⟩:=Kd.qu nX.out (by omega);(first|cases Hw|(injection Hw with eX kN kO;(first|subst eX|(injection eX with eX;subst eX));subst kO;clear kN));have a5U:=Ah UF;have GG12:=Ah UG;clear UF a5T UG;obtain⟨hx12_0,hf12_0⟩:=Kd.Oe 0 nX.out (lw:Int) BA BB;replace BA:=eq_true BA;replace BB:=eq_true BB;obtain⟨hy14_,hz14_⟩:=Kd.Oe 0 nX.out (lw:Int) (od) (od);have MA:=Kd.a1d nX.out (lw:Int) ((t167) %256))|((with_reducible refine IU (t:=5) (p:=19) rfl ?_);refine IT (t:=5) (p:=19) (v:= ?vo_w15) (w1:=(lX.setCell ⟨M8,(lw:Int).toNat,none⟩ (.int .u8 ((t167) %256)))) ?hg ?ho ?hn ?hr ?_;(case ho=>rfl);(case hg=>rfl);(case hn=>rfl);(case hr=>first|(go_simp;done)|(go_simp;rfl));intro rg hw;have hg:lX.grownBy rg (some M8):=(by rw[hw];exact MA.2);have wP:Kd.R (Kd.int .u8) 5 rg w.heap.size (fun _=>True) (.slice (some ⟨M8,0,none⟩) bQ.length tx) M7:=(by rw[hw,a3E.out];exact MA.1);clear MA;replace HI0:=Ah (aC.grown (aC.fu HI0) hg (aC.own_ne HI0.out nX.out (by decide)));replace HB:=Ah ((by rw[hw];exact cn (HB.out) (aaI HL.out a5U.out):Below w0.heap.size w0 rg));replace HK:=Ah (az.trans (kr HK) (az.J1 hg g) (Kd.Yc nX.out));replace nX:=Ah (wP);clear hg hw wP))
   (try simp only[←xm])
   go_roundg k1
   case measure=>have:=dp.out;omega
   case rel=>exact⟨(M7),(F5 (lw+1)),(t168),(M6),e3,H',⟨by have:=dp.out;omega⟩,⟨by(try simp only[xm]);(with_reducible repeat(first|apply Kd.bK|apply Kd.bL|apply Kd.au));exact nX.out⟩,⟨aC.fu HI0⟩,⟨kr HK⟩,⟨bs HB⟩⟩
def iZ.f(bv:List Int)(d5:Int)(eU:Int)(a1:Int):Option (Bool×Int×Int):=(dw.f bv d5 eU a1).bind fun xn=>(some ((xn.1==0),xn.2.1,xn.2.2))
theorem iZ.calls(g:Nat)(bv:List Int)(d5:Int)(eU:Int)(a1:Int)(r1:Bool)(r2:Int)(r3:Int)(w0 w:World)(hI:aC w0 w g bv d5 eU)(hB:Below w0.heap.size w0 w)(h:iZ.f bv d5 eU a1=some (r1,r2,r3)):
 Calls aaf 31 #[.pointer (some ⟨g,0,none⟩),.int .i64 a1] w fun e w'=>e= .returned (.bool r1)∧aC w0 w' g bv r2 r3∧Below w0.heap.size w0 w'∧az w w' g none:=by
 have HI0:=Ah hI;have HK:=Ah (az.refl w g none);have HL:=Ah hB.size;clear hI;have HW0:=Ah hB.size;have HB:=Ah hB;clear hB;have H:((dw.f bv d5 eU a1).bind fun xn=>(some ((xn.1==0),xn.2.1,xn.2.2)))=some (r1,r2,r3):=h;clear h;replace H:=Ok.mp H;obtain⟨⟨t171,a5V,t173⟩,iJ,H⟩:=H
 try dsimp only at H
 have A3:=Ah iJ;clear iJ;simp only[aaa,aad]at H;obtain⟨rfl,rfl,rfl⟩:=H
 go_enter abg,Tryd.ntmps31
 go_wp2_with (first|((with_reducible refine bU (f:=20) rfl ?_);refine gL (some 7) rfl rfl aaG (by kernel_rfl) rfl #[.pointer (some ⟨g,0,none⟩),.int .i64 a1] rfl ?_;(with_reducible refine(dw.calls g bv d5 eU a1 t171 a5V t173 w0 _ ?aa ?ab A3.out).mono ?_);(case aa=>exact aC.fu HI0);(case ab=>exact bs HB);rintro e w4 ⟨rfl,hi,hb,hk⟩;refine⟨_,rfl, ?_⟩;replace HK:=Ah (az.trans (kr HK) hk (.inl rfl));replace HB:=Ah (hb);replace HI0:=Ah (hi);(try clear hb hk hi)))
 go_ret
 exact⟨er,aC.fu HI0,bs HB,kr HK⟩
def f4.l0:Nat→Int→Int→List (aK)→Int→Int→Int→Option ((List (aK))×Int×Int×Int×Bool)
 |0,_,_,_,_,_,_=>none
 |k+1,x0,x5,Jp,Pk,Pl,Pm=>if x5<x0 then((ib.f k).bind fun HE=>(if Jp.length<3518437208883 then(f4.l0 k x0 (F5 (x5+1)) (Jp++[(⟨HE.1,HE.2.1,HE.2.2.1,HE.2.2.2⟩:aK)]) Pk Pl Pm)else(none)))else(some (Jp,Pk,Pl,Pm,true))
def f4.f(k:Nat)(a0:Int):Option ((List (aK))×Int×Int×Int×Bool):=(eu.f a0 2 24).bind fun t175=>(if t175=true then(f4.l0 k a0 0 ([]:List (aK)) 0 1 0)else(some (([]:List (aK)),0,0,0,false)))
theorem f4.eC:∀k,(∀y0 y1 y2 y3 y4 y5,aJ (f4.l0 k y0 y1 y2 y3 y4 y5) (f4.l0 (k+1) y0 y1 y2 y3 y4 y5))
 |0=>fun _ _ _ _ _ _ r h=>by simp[f4.l0]at h
 |k+1=>by
  have cj:=f4.eC k
  ·
   intro y0 y1 y2 y3 y4 y5;unfold f4.l0
   repeat' with_reducible first|exact cj _ _ _ _ _ _|exact ib.mono _|exact aJ.refl _|exact aJ.none _|refine aJ.ite ?_ ?_|refine aJ.bind ?_ (fun _=> ?_)
theorem f4.mono:∀a0 k,aJ (f4.f k a0) (f4.f (k+1) a0):=by
 intro a0 k;have cj:=f4.eC k;unfold f4.f
 repeat' with_reducible first|exact cj _ _ _ _ _ _|exact ib.mono _|exact aJ.refl _|exact aJ.none _|refine aJ.ite ?_ ?_|refine aJ.bind ?_ (fun _=> ?_)
theorem f4.calls(k:Nat)(a0:Int)(r1:List (aK))(r2:Int)(r3:Int)(r4:Int)(r5:Bool)(w:World)(h:f4.f k a0=some (r1,r2,r3,r4,r5)):
 Calls aaf 35 #[.int .i64 a0] w fun e w'=>∃fA:Value,e= .returned (.tuple #[.agg #[fA,.int .i64 r2,.int .i64 r3,.int .i64 r4],.bool r5])∧Kd.R bD 36 w' w.heap.size (fun _=>True) fA r1∧Below w.heap.size w w':=by
 have lP:=aac;have HB:=Ah (aag w.heap.size w);have H:((eu.f a0 2 24).bind fun t175=>(if t175=true then(f4.l0 k a0 0 ([]:List (aK)) 0 1 0)else(some (([]:List (aK)),0,0,0,false))))=some (r1,r2,r3,r4,r5):=h;clear h;replace H:=Ok.mp H;obtain⟨t175,eg,H⟩:=H
 try dsimp only at H
 have A2:=Ah eg;clear eg
 by_cases c3:t175=true
 rotate_left
 ·
  replace c3:=iK.mpr c3;subst c3;rw[if_neg dM]at H;simp only[aaa,aad]at H;obtain⟨rfl,rfl,rfl,rfl,rfl⟩:=H
  go_enter Tryd.func35,Tryd.ntmps35
  go_wp2_with (first|((with_reducible refine bY (N:=2) rfl ?_);refine br 2 25 #[.slice none 0 0,.int .i64 0,.int .i64 0,.int .i64 0] ?_;intro r8 hg tz gh hb;have a3F:=gw hg (bs HB);have nM:=gw hg (bs HB);replace HB:=Ah (aM (bs HB) hb);clear hb hg)|((with_reducible refine bU (f:=33) rfl ?_);refine gL (some 7) rfl rfl Tryd.func33 (by kernel_rfl) rfl #[.int .i64 a0,.int .i64 2,.int .i64 24] rfl ?_;(with_reducible refine(eu.calls a0 2 24 false _ A2.out).mono ?_);rintro e w' ⟨rfl,⟨nd,rfl⟩⟩;refine⟨_,rfl, ?_⟩;(try(rw[ru tz];generalize fS:abf tz _=tz;have bj:Z (tz.heap[r8]?=some (.cells #[.slice none 0 0,.int .i64 0,.int .i64 0,.int .i64 0] 25 (0,0))):=⟨by rw[←fS];exact(bk gh)⟩;have be:Z (Below w.heap.size w tz):=⟨by rw[←fS];exact(aX HB nM)⟩;clear gh HB fS;have gh:=bj;have HB:=be;clear bj be));obtain⟨GF,GG,GH,GI⟩:=aT gh;obtain⟨GJ,GK,GL,GM⟩:=aU gh))
  refine bodyPost_ret (gC rfl _ _ r8 25 #[.slice none 0 0,.int .i64 0,.int .i64 0,.int .i64 0] (0,0) _ rfl (pb gh) aac rfl (by kernel_rfl)) rfl ?_;exact⟨_,er,by first|exact Kd.kA _ _ _ _ _|exact Kd.lm _ _ _ _ _|exact Kd.ln _ _ _ _ _|exact Kd.lh _ _ _ _ _|exact Kd.ll _ _ _ _ _,aX HB nM⟩
 subst c3;rw[if_pos rfl]at H;have H':=Ah H;clear H
 go_enter Tryd.func35,Tryd.ntmps35
 go_wp2_with (first|((with_reducible refine bY (N:=2) rfl ?_);refine br 2 25 #[.slice none 0 0,.int .i64 0,.int .i64 0,.int .i64 0] ?_;intro r8 hg w4 gh hb;have a3F:=gw hg (bs HB);have nM:=gw hg (bs HB);replace HB:=Ah (aM (bs HB) hb);clear hb hg)|((with_reducible refine bU (f:=33) rfl ?_);refine gL (some 7) rfl rfl Tryd.func33 (by kernel_rfl) rfl #[.int .i64 a0,.int .i64 2,.int .i64 24] rfl ?_;(with_reducible refine(eu.calls a0 2 24 true _ A2.out).mono ?_);rintro e w' ⟨rfl,⟨nd,rfl⟩⟩;refine⟨_,rfl, ?_⟩;(try(rw[ru w4];generalize fS:abf w4 _=w4;have bj:Z (w4.heap[r8]?=some (.cells #[.slice none 0 0,.int .i64 0,.int .i64 0,.int .i64 0] 25 (0,0))):=⟨by rw[←fS];exact(bk gh)⟩;have be:Z (Below w.heap.size w w4):=⟨by rw[←fS];exact(aX HB nM)⟩;clear gh HB fS;have gh:=bj;have HB:=be;clear bj be)))|((with_reducible refine bY (N:=4) rfl ?_);refine br 4 25 #[.slice none 0 0,.int .i64 0,.int .i64 0,.int .i64 0] ?_;intro xo hg w5 fq hb;have GW176:=gw hg (aX HB nM);have AQ:=gw hg (aX HB nM);replace HB:=Ah (aM (aX HB nM) hb);have BZ:=nn gh hg;have Is:=nm gh hg;replace gh:=nb gh hb;clear hb hg;have UB:=Is.out;have UC:=BZ.out;obtain⟨vD,vE,vF,vG⟩:=aT fq;obtain⟨vH,vI,vJ,vK⟩:=aU fq))
 go_loopg [5] k (fun kq v5 w'=>∃ (bQ:Int) (uE:List (aK)) (zm:Value),v5= .int .i64 bQ∧Z (f4.l0 kq a0 bQ uE 0 1 0=some (r1,r2,r3,r4,r5))∧Z (kq≤k)∧Z (Kd.R bD 36 w' w.heap.size (fun _=>True) zm uE)∧Z (w'.heap[r8]?=some (.cells #[(.slice none 0 0),.int .i64 0,.int .i64 0,.int .i64 0] 25 (0,0)))∧Z (w'.heap[xo]?=some (.cells #[zm,.int .i64 0,.int .i64 1,.int .i64 0] 25 (0,0)))∧Z (Below w.heap.size w w'))
 case atStart=>exact⟨(0),(([]:List (aK))),(.slice none 0 0),e3,H',⟨kV _⟩,⟨by first|exact Kd.kA _ _ _ _ _|exact Kd.lm _ _ _ _ _|exact Kd.ln _ _ _ _ _|exact Kd.lh _ _ _ _ _|exact Kd.ll _ _ _ _ _⟩,⟨bf gh BZ⟩,⟨by exact pb fq⟩,⟨an HB nM AQ⟩⟩
 case round=>
  clear H'
  try clear p2
  try clear c3
  try clear c6
  try clear vD vE vF vG
  try clear vH vI vJ vK
  obtain⟨bQ,uE,zm,rfl,HA,dp,oq,gh,fq,HB⟩:=hrel
  cases gk with
  |zero=>exact absurd HA.out (by simp[f4.l0])
  |succ k1=>
   have H:=HA.out;clear HA;simp only[f4.l0]at H
   by_cases c8:bQ<a0
   rotate_left
   ·
    rw[if_neg c8]at H;have lQ:=ev c8;clear c8;simp only[aaa,aad]at H;obtain⟨rfl,rfl,rfl,rfl,rfl⟩:=H;have a3G:=Is.out;have a3H:=BZ.out;obtain⟨wu,wv,wx,wy⟩:=aT fq;obtain⟨wz,x9,xA,xB⟩:=aU fq;obtain⟨UH,UI,a5W⟩:=Kd.dI oq.out;subst a5W;obtain⟨qT,qU,qV,qW⟩:=aT gh;obtain⟨qX,qY,qZ,qa⟩:=aU gh
    go_wp2
    refine bodyPost_ret (gC rfl _ _ r8 25 #[.slice UH uE.length UI,.int .i64 0,.int .i64 1,.int .i64 0] (0,0) _ rfl (pb gh) aac rfl (by kernel_rfl)) rfl ?_;exact⟨_,er,by(with_reducible repeat(first|apply Kd.bK|apply Kd.bL|apply Kd.au));exact Kd.am (Kd.aH (p:=⟨r8,3,none⟩) (Kd.aH (p:=⟨r8,2,none⟩) (Kd.aH (p:=⟨r8,1,none⟩) (Kd.aH (p:=⟨r8,0,none⟩) (Kd.dv oq.out gh.out (by decide)) (fun _ hk=>hk.2) (.slice UH uE.length UI)) (fun _ hk=>hk.2) (.int .i64 0)) (fun _ hk=>hk.2) (.int .i64 1)) (fun _ hk=>hk.2) (.int .i64 0)) (fun _ hk=>trivial),an HB nM AQ⟩
   rw[if_pos c8]at H;have lQ:=bV c8;clear c8;replace H:=Ok.mp H;obtain⟨⟨EM,EN,EO,EP⟩,pz,H⟩:=H
   try dsimp only at H
   have A9:=Ah pz;clear pz
   by_cases c10:uE.length<3518437208883
   rotate_left
   ·
    rw[if_neg c10]at H;exact absurd H (by simp)
   rw[if_pos c10]at H;have LE:=Ah c10;clear c10;obtain⟨Hx,D8⟩:∃y_:List (aK),y_=(uE++[(⟨EM,EN,EO,EP⟩:aK)]):=⟨_,rfl⟩
   replace H:(f4.l0 k1 a0 (F5 (bQ+1)) Hx 0 1 0)=some (r1,r2,r3,r4,r5):=by first|(rw[D8];with_reducible exact H)|(have cL:=(zD _ _).symm.trans H;rw[D8];with_reducible exact cL)|(have cL:=(zD _ _).symm.trans H;with_reducible exact cL)|with_reducible exact H|(rw[D8];exact H)|exact H
   have a3I:=Ah D8;clear D8;have H':=Ah H;clear H
   try go_wp2
   replace oq:=Ah (Kd.au oq.out);replace gh:=Ah (aZ gh.out);replace fq:=Ah (aZ fq.out);replace HB:=Ah (bc HB.out);refine dk (n:=7) (S:=fun w'=>w'.cell? ⟨xo,0,none⟩=some (zm)∧w'.cell? ⟨xo,1,none⟩=some (.int .i64 0)∧w'.cell? ⟨xo,2,none⟩=some (.int .i64 1)∧w'.cell? ⟨xo,3,none⟩=some (.int .i64 0)) (ds:=[6]) #[false,false,false,false,false,false,false] (by kernel_rfl) rfl rfl ⟨(Y fq.out 0).trans rfl,(Y fq.out 1).trans rfl,(Y fq.out 2).trans rfl,(Y fq.out 3).trans rfl⟩ (fun hHeld=> ?_)
   generalize wr.drew=tw at oq gh fq HB hHeld⊢
   refine Gg (i:=0) (N:=some 16) (v:= ?_) (a':= ?_) #[true,false,false,false,false,false,false] rfl rfl (by kernel_rfl) (fun _ _ _ h=>h) (Or.inl ⟨by rfl, ?_⟩) ?_ ?_;rotate_left
   ·
    intro w'
    go_simp
    with_reducible rfl
   rotate_left
   ·
    simp only[Act.put,aab,aai,aaj,fx,gg]
    rfl
   refine Ge (i:=1) (N:=some 17) (v:= ?_) (a':= ?_) #[true,true,false,false,false,false,false] rfl rfl (by kernel_rfl) (fun _ _ _ h=>h) (Or.inl ⟨by rfl, ?_⟩) hHeld ?_ ?_;rotate_left
   ·
    rintro w' ⟨s0,s1,s2,s3⟩
    go_simp
    with_reducible rfl
   rotate_left
   ·
    simp only[Act.put,aab,aai,aaj,fx,gg]
    rfl
   refine cK (i:=2) (N:=some 18) #[true,true,true,false,false,false,false] rfl rfl (by kernel_rfl) (by decide) (fun K hK=> ?_);refine cZ Tryd.func41 (by kernel_rfl) rfl #[] (by rfl) rfl rfl (by(try simp only[fT,gJ,j5]);first|done|rfl|(simp only[fF,ca];rfl)) ?_
   with_reducible refine(ib.calls k1 EM EN EO EP _ A9.out).mono ?_
   rintro e mU ⟨rfl,hb⟩;refine⟨_,rfl, ?_⟩;replace oq:=Ah (Kd.bB (rr oq.out) hb);replace gh:=Ah (bb gh hb);replace fq:=Ah (bb fq hb);replace HB:=Ah (aM (an HB nM AQ) hb);(try clear hb);(try clear hb2);(try clear hk);(try clear hi);refine hK.out _ _ ⟨(Y fq.out 0).trans rfl,(Y fq.out 1).trans rfl,(Y fq.out 2).trans rfl,(Y fq.out 3).trans rfl⟩ (fun hHeld=> ?_);clear hK K;refine nq 18 ?_;refine cK (i:=3) (N:=some 19) #[true,true,true,true,false,false,false] rfl rfl (by kernel_rfl) (by decide) (fun K hK=> ?_);refine CS (w1:= ?_) (v:= ?_) (by rfl) rfl ?_ ?_;rotate_left 2
   ·
    go_simp
    constructor
    ·
     rfl
    ·
     rfl
   refine hK.out _ _ ⟨(Y (cE fq.out _) 0).trans rfl,(Y (cE fq.out _) 1).trans rfl,(Y (cE fq.out _) 2).trans rfl,(Y (cE fq.out _) 3).trans rfl⟩ (fun hHeld=> ?_);clear hK K;refine nq 19 ?_;refine cK (i:=4) (N:=some 20) #[true,true,true,true,true,false,false] rfl rfl (by kernel_rfl) (by decide) (fun K hK=> ?_);refine Kd.Nb bD (w0:=w) w.heap.size (by rfl) (.tmp 17) (.tmp 19) 23 36 (.agg #[(.int .i64 0),(.int .i64 0),(.string ⟨#[]⟩),(.int .i64 0)]) 40 rfl Tryd.underlying23 pK rfl (by decide) (by omega) zm uE (⟨EM,EN,EO,EP⟩:aK) [.int .i64 EM,.int .i64 EN,.string EO,.int .i64 EP] (fun _=>True) (fun _=>False) rfl rfl ?aP (fun _ hk=>hk.elim) ?aF ?aO ?aB ?aS ?aL ?_;(case aP=>exact ni _ _ _ (⟨EM,EN,EO,EP⟩:aK));(case aB=>exact(an HB nM AQ));(case aF=>exact(fun _ _=>trivial));(case aO=>exact(rr oq.out));(case aS=>exact(eo (an HB nM AQ)));(case aL=>have:=LE.out;omega);intro v182 lX ho hb hg hat;rw[←a3I.out]at ho;replace gh:=Ah (ic (bk gh) hg (Kd.d7 oq.out gh.out (by decide)));replace fq:=Ah (ic (bk fq) hg (Kd.d7 oq.out fq.out (by decide)));replace HB:=Ah (hb);have SG:=Ah (ho);clear oq ho hb hg hat;obtain⟨Hc,Hd,He⟩:=Kd.dI SG.out;(first|subst He|(injection He with lH q9 lI;have qA:=lH.symm;have qB:=lI.symm;clear lH q9 lI;subst qA;subst qB));refine hK.out _ _ ⟨(Y fq.out 0).trans rfl,(Y fq.out 1).trans rfl,(Y fq.out 2).trans rfl,(Y fq.out 3).trans rfl⟩ (fun hHeld=> ?_);clear hK K;refine nq 20 ?_;refine Gg (i:=5) (N:=some 21) (v:= ?_) (a':= ?_) #[true,true,true,true,true,true,false] rfl rfl (by kernel_rfl) (fun _ _ _ h=>h) (Or.inl ⟨by rfl, ?_⟩) ?_ ?_;rotate_left
   ·
    intro w'
    go_simp
    with_reducible rfl
   rotate_left
   ·
    simp only[Act.put,aab,aai,aaj,fx,gg]
    rfl
   refine qw (i:=6) (N:=none) #[true,true,true,true,true,true,true] rfl rfl (by kernel_rfl) (by decide) (fun K hK=> ?_);have hs15:lX.cell? ⟨xo,0,none⟩=some (zm):=(Y fq.out 0).trans rfl;have hfs15:=dD fq.out 0;have hns15_0:=BZ.out;have hms15_0:=Is.out;refine ke (w1:= ?_) (by rfl) rfl ?_ ?_;rotate_left
   ·
    go_simp
    rfl
   refine hK.out _ _ ?_;clear hK K;refine dP (by kernel_rfl) ?_
   try go_wp2
   go_roundg k1
   case measure=>have:=dp.out;omega
   case rel=>exact⟨(F5 (bQ+1)),(Hx),(.slice Hc Hx.length Hd),e3,H',⟨by have:=dp.out;omega⟩,⟨by(with_reducible repeat(first|apply Kd.bK|apply Kd.bL|apply Kd.au));exact Kd.am (Kd.aH (p:=⟨xo,0,none⟩) (Kd.dv SG.out fq.out (by decide)) (fun _ hk=>hk.2) (.slice Hc Hx.length Hd)) (fun _ hk=>trivial)⟩,⟨bf gh BZ⟩,⟨by exact pb fq⟩,⟨an HB nM AQ⟩⟩
def mb.f(k:Nat)(U:List (aK))(aA:Int)(aD:Int)(aE:Int)(a1:Int):Option ((List (aK))×Int×Int×Int×Bool):=(aw.f k U aA aD aE).bind fun EQ=>(if EQ=true then((eu.f a1 0 (F5 (aA-aE))).bind fun yR=>(if yR=true then((rq.f U aA aD aE).bind fun tF=>(some (tF.1,tF.2.1,tF.2.2.1,F5 (tF.2.2.2+a1),true)))else(some (([]:List (aK)),0,0,0,false))))else(some (([]:List (aK)),0,0,0,false)))
theorem mb.mono:∀a0 a1 a2 a3 a4 k,aJ (mb.f k a0 a1 a2 a3 a4) (mb.f (k+1) a0 a1 a2 a3 a4):=by
 intro a0 a1 a2 a3 a4 k;unfold mb.f
 repeat' with_reducible first|exact aw.mono _ _ _ _ _|exact aJ.refl _|exact aJ.none _|refine aJ.ite ?_ ?_|refine aJ.bind ?_ (fun _=> ?_)
theorem mb.calls(k:Nat)(cf:Option Addr)(cA:Nat)(U:List (aK))(aA:Int)(aD:Int)(aE:Int)(a1:Int)(r1:List (aK))(r2:Int)(r3:Int)(r4:Int)(r5:Bool)(w:World)(iB:Kd.C bD w cf U.length U)(iC:U.length≤cA)(h:mb.f k U aA aD aE a1=some (r1,r2,r3,r4,r5)):
 Calls aaf 37 #[.agg #[.slice cf U.length cA,.int .i64 aA,.int .i64 aD,.int .i64 aE],.int .i64 a1] w fun e w'=>∃fA:Value,e= .returned (.tuple #[.agg #[fA,.int .i64 r2,.int .i64 r3,.int .i64 r4],.bool r5])∧Kd.R bD 36 w' w.heap.size (fun _=>True) fA r1∧Below w.heap.size w w':=by
 have lP:=aac;have fl:=Ah iB;have iT:=Ah iC;clear iB iC;have HB:=Ah (aag w.heap.size w);have H:((aw.f k U aA aD aE).bind fun EQ=>(if EQ=true then((eu.f a1 0 (F5 (aA-aE))).bind fun yR=>(if yR=true then((rq.f U aA aD aE).bind fun tF=>(some (tF.1,tF.2.1,tF.2.2.1,F5 (tF.2.2.2+a1),true)))else(some (([]:List (aK)),0,0,0,false))))else(some (([]:List (aK)),0,0,0,false))))=some (r1,r2,r3,r4,r5):=h;clear h;replace H:=Ok.mp H;obtain⟨EQ,iJ,H⟩:=H
 try dsimp only at H
 have A3:=Ah iJ;clear iJ
 by_cases c4:EQ=true
 rotate_left
 ·
  replace c4:=iK.mpr c4;subst c4;rw[if_neg dM]at H;simp only[aaa,aad]at H;obtain⟨rfl,rfl,rfl,rfl,rfl⟩:=H
  go_enter Tryd.func37,Tryd.ntmps37
  go_wp2_with (first|((with_reducible refine bY (N:=2) rfl ?_);refine br 2 25 #[.slice cf U.length cA,.int .i64 aA,.int .i64 aD,.int .i64 aE] ?_;intro tG hg Vl fC hb;have SH:=gw hg (bs HB);have jM:=gw hg (bs HB);replace HB:=Ah (aM (bs HB) hb);clear hb hg)|((with_reducible refine bY (N:=4) rfl ?_);refine br 4 25 #[.slice none 0 0,.int .i64 0,.int .i64 0,.int .i64 0] ?_;intro pU hg IH iD hb;have SI:=gw hg (aX HB jM);have o9:=gw hg (aX HB jM);replace HB:=Ah (aM (aX HB jM) hb);have Ba:=nn fC hg;have zJ:=nm fC hg;replace fC:=nb fC hb;clear hb hg;have a3J:=Ba.out;have a3K:=zJ.out;obtain⟨Bz,C0,C1,C2⟩:=aT fC;obtain⟨C3,C4,C5,C6⟩:=aU fC)|((with_reducible refine bU (f:=23) rfl ?_);refine gL (some 7) rfl rfl abb (by kernel_rfl) rfl #[.agg #[.slice cf U.length cA,.int .i64 aA,.int .i64 aD,.int .i64 aE]] rfl ?_;(with_reducible refine(aw.calls k _ _ U aA aD aE false _ ?aa ?ab A3.out).mono ?_);(case aa=>exact cb fl HB);(case ab=>exact iT.out);rintro e F9 ⟨rfl,hb⟩;refine⟨_,rfl, ?_⟩;replace fC:=nb fC hb;replace iD:=nb iD hb;replace HB:=Ah (aM (an HB jM o9) hb);(try clear hb);obtain⟨a0n,a0o,a0p,a0q⟩:=aT iD;obtain⟨a0r,a0s,a0t,a0u⟩:=aU iD))
  refine bodyPost_ret (gC rfl _ _ pU 25 #[.slice none 0 0,.int .i64 0,.int .i64 0,.int .i64 0] (0,0) _ rfl (pb iD) aac rfl (by kernel_rfl)) rfl ?_;exact⟨_,er,by first|exact Kd.kA _ _ _ _ _|exact Kd.lm _ _ _ _ _|exact Kd.ln _ _ _ _ _|exact Kd.lh _ _ _ _ _|exact Kd.ll _ _ _ _ _,an HB jM o9⟩
 subst c4;rw[if_pos rfl]at H;replace H:=Ok.mp H;obtain⟨yR,iy,H⟩:=H
 try dsimp only at H
 have A5:=Ah iy;clear iy
 by_cases c6:yR=true
 rotate_left
 ·
  replace c6:=iK.mpr c6;subst c6;rw[if_neg dM]at H;simp only[aaa,aad]at H;obtain⟨rfl,rfl,rfl,rfl,rfl⟩:=H
  go_enter Tryd.func37,Tryd.ntmps37
  go_wp2_with (first|((with_reducible refine bY (N:=2) rfl ?_);refine br 2 25 #[.slice cf U.length cA,.int .i64 aA,.int .i64 aD,.int .i64 aE] ?_;intro tG hg Vk fC hb;have SH:=gw hg (bs HB);have jM:=gw hg (bs HB);replace HB:=Ah (aM (bs HB) hb);clear hb hg)|((with_reducible refine bY (N:=4) rfl ?_);refine br 4 25 #[.slice none 0 0,.int .i64 0,.int .i64 0,.int .i64 0] ?_;intro pU hg tz iD hb;have SI:=gw hg (aX HB jM);have o9:=gw hg (aX HB jM);replace HB:=Ah (aM (aX HB jM) hb);have Ba:=nn fC hg;have zJ:=nm fC hg;replace fC:=nb fC hb;clear hb hg;have Ki:=Ba.out;have Kj:=zJ.out;obtain⟨qb,qc,qd,qe⟩:=aT fC;obtain⟨qf,qg,qh,qi⟩:=aU fC)|((with_reducible refine bU (f:=23) rfl ?_);refine gL (some 7) rfl rfl abb (by kernel_rfl) rfl #[.agg #[.slice cf U.length cA,.int .i64 aA,.int .i64 aD,.int .i64 aE]] rfl ?_;(with_reducible refine(aw.calls k _ _ U aA aD aE true _ ?aa ?ab A3.out).mono ?_);(case aa=>exact cb fl HB);(case ab=>exact iT.out);rintro e rj ⟨rfl,hb⟩;refine⟨_,rfl, ?_⟩;replace fC:=nb fC hb;replace iD:=nb iD hb;replace HB:=Ah (aM (an HB jM o9) hb);(try clear hb);obtain⟨xC,xD,xE,xF⟩:=aT fC;obtain⟨xG,xH,xI,xJ⟩:=aU fC)|(go_at_call 33;(with_reducible refine(eu.calls a1 0 (F5 (aA-aE)) false _ A5.out).mono ?_);rintro e w' ⟨rfl,⟨nd,rfl⟩⟩;(try(rw[ru rj];generalize fS:abf rj _=rj;have bj:Z (rj.heap[tG]?=some (.cells #[.slice cf U.length cA,.int .i64 aA,.int .i64 aD,.int .i64 aE] 25 (0,0))):=⟨by rw[←fS];exact(bk fC)⟩;have be:Z (rj.heap[pU]?=some (.cells #[.slice none 0 0,.int .i64 0,.int .i64 0,.int .i64 0] 25 (0,0))):=⟨by rw[←fS];exact(bk iD)⟩;have cU:Z (Below w.heap.size w rj):=⟨by rw[←fS];exact(an HB jM o9)⟩;clear fC iD HB fS;have fC:=bj;have iD:=be;have HB:=cU;clear bj be cU));obtain⟨a0v,a0w,a0x,a0y⟩:=aT iD;obtain⟨a0z,a0A,a0B,a0C⟩:=aU iD))
  refine bodyPost_ret (gC rfl _ _ pU 25 #[.slice none 0 0,.int .i64 0,.int .i64 0,.int .i64 0] (0,0) _ rfl (pb iD) aac rfl (by kernel_rfl)) rfl ?_;exact⟨_,er,by first|exact Kd.kA _ _ _ _ _|exact Kd.lm _ _ _ _ _|exact Kd.ln _ _ _ _ _|exact Kd.lh _ _ _ _ _|exact Kd.ll _ _ _ _ _,an HB jM o9⟩
 subst c6;rw[if_pos rfl]at H;replace H:=Ok.mp H;obtain⟨⟨Hy,Hz,I0,t193⟩,wU,H⟩:=H
 try dsimp only at H
 have A7:=Ah wU;clear wU;simp only[aaa,aad]at H;obtain⟨rfl,rfl,rfl,rfl,rfl⟩:=H
 go_enter Tryd.func37,Tryd.ntmps37
 go_wp2_with (first|((with_reducible refine bY (N:=2) rfl ?_);refine br 2 25 #[.slice cf U.length cA,.int .i64 aA,.int .i64 aD,.int .i64 aE] ?_;intro tG hg w8 fC hb;have SH:=gw hg (bs HB);have jM:=gw hg (bs HB);replace HB:=Ah (aM (bs HB) hb);clear hb hg)|((with_reducible refine bY (N:=4) rfl ?_);refine br 4 25 #[.slice none 0 0,.int .i64 0,.int .i64 0,.int .i64 0] ?_;intro pU hg w9 iD hb;have SI:=gw hg (aX HB jM);have o9:=gw hg (aX HB jM);replace HB:=Ah (aM (aX HB jM) hb);have Ba:=nn fC hg;have zJ:=nm fC hg;replace fC:=nb fC hb;clear hb hg;have a3L:=Ba.out;have a3M:=zJ.out;obtain⟨qL,qM,qN,qO⟩:=aT fC;obtain⟨qP,qQ,qR,qS⟩:=aU fC)|((with_reducible refine bU (f:=23) rfl ?_);refine gL (some 7) rfl rfl abb (by kernel_rfl) rfl #[.agg #[.slice cf U.length cA,.int .i64 aA,.int .i64 aD,.int .i64 aE]] rfl ?_;(with_reducible refine(aw.calls k _ _ U aA aD aE true _ ?aa ?ab A3.out).mono ?_);(case aa=>exact cb fl HB);(case ab=>exact iT.out);rintro e mU ⟨rfl,hb⟩;refine⟨_,rfl, ?_⟩;replace fC:=nb fC hb;replace iD:=nb iD hb;replace HB:=Ah (aM (an HB jM o9) hb);(try clear hb);obtain⟨xK,xL,xM,xN⟩:=aT fC;obtain⟨xO,xP,xQ,xR⟩:=aU fC)|(go_at_call 33;(with_reducible refine(eu.calls a1 0 (F5 (aA-aE)) true _ A5.out).mono ?_);rintro e w' ⟨rfl,⟨nd,rfl⟩⟩;(try(rw[ru mU];generalize fS:abf mU _=mU;have bj:Z (mU.heap[tG]?=some (.cells #[.slice cf U.length cA,.int .i64 aA,.int .i64 aD,.int .i64 aE] 25 (0,0))):=⟨by rw[←fS];exact(bk fC)⟩;have be:Z (mU.heap[pU]?=some (.cells #[.slice none 0 0,.int .i64 0,.int .i64 0,.int .i64 0] 25 (0,0))):=⟨by rw[←fS];exact(bk iD)⟩;have cU:Z (Below w.heap.size w mU):=⟨by rw[←fS];exact(an HB jM o9)⟩;clear fC iD HB fS;have fC:=bj;have iD:=be;have HB:=cU;clear bj be cU));obtain⟨zn,zo,zp,zq⟩:=aT fC;obtain⟨zr,zs,zt,zu⟩:=aU fC)|((with_reducible refine bU (f:=24) rfl ?_);refine gL (some 21) rfl rfl Tryd.func24 (by kernel_rfl) rfl #[.agg #[.slice cf U.length cA,.int .i64 aA,.int .i64 aD,.int .i64 aE]] rfl ?_;(with_reducible refine(rq.calls _ _ U aA aD aE Hy Hz I0 t193 _ ?aa ?ab A7.out).mono ?_);(case aa=>exact cb fl HB);(case ab=>exact iT.out);rintro e rg ⟨v189,rfl,ho0,hb⟩;refine⟨_,rfl, ?_⟩;have SJ:=Ah (Kd.eZ ho0 (eo (an HB jM o9)));replace fC:=nb fC hb;replace iD:=nb iD hb;replace HB:=Ah (aM (an HB jM o9) hb);(try clear hb ho0);obtain⟨MB,MC,a5X⟩:=Kd.dI SJ.out;subst a5X;obtain⟨wu,wv,wx,wy⟩:=aT fC;obtain⟨wz,x9,xA,xB⟩:=aU fC;obtain⟨zc,zd,ze,zf⟩:=aT iD;obtain⟨zg,zh,zk,zl⟩:=aU iD))
 refine bodyPost_ret (gC rfl _ _ pU 25 #[.slice MB Hy.length MC,.int .i64 Hz,.int .i64 I0,.int .i64 (F5 (t193+a1))] (0,0) _ rfl (oZ iD zJ) aac rfl (by kernel_rfl)) rfl ?_;exact⟨_,er,by(with_reducible repeat(first|apply Kd.bK|apply Kd.bL|apply Kd.au));exact Kd.am (Kd.aH (p:=⟨pU,3,none⟩) (Kd.aH (p:=⟨pU,2,none⟩) (Kd.aH (p:=⟨pU,1,none⟩) (Kd.aH (p:=⟨pU,0,none⟩) (Kd.aH (p:=⟨tG,3,none⟩) (Kd.aH (p:=⟨tG,3,none⟩) (Kd.aH (p:=⟨tG,2,none⟩) (Kd.aH (p:=⟨tG,1,none⟩) (Kd.aH (p:=⟨tG,0,none⟩) (Kd.dv (Kd.dv SJ.out fC.out (by decide)) iD.out (by decide)) (fun _ hk=>hk.1.2) (.slice MB Hy.length MC)) (fun _ hk=>hk.1.2) (.int .i64 Hz)) (fun _ hk=>hk.1.2) (.int .i64 I0)) (fun _ hk=>hk.1.2) (.int .i64 t193)) (fun _ hk=>hk.1.2) (.int .i64 (F5 (t193+a1)))) (fun _ hk=>hk.2) (.slice MB Hy.length MC)) (fun _ hk=>hk.2) (.int .i64 Hz)) (fun _ hk=>hk.2) (.int .i64 I0)) (fun _ hk=>hk.2) (.int .i64 (F5 (t193+a1)))) (fun _ hk=>trivial),an HB jM o9⟩
def cP.l0:Nat→Int→List Int→Int→Int→List (aK)→Int→Int→Int→Option ((List (aK))×Int×Int×Int×Int×Int)
 |0,_,_,_,_,_,_,_,_=>none
 |k+1,x5,x1000,D4,D5,mL,ud,ue,uf=>if x5>0 then((iZ.f x1000 D4 D5 3).bind fun D9=>(if D9.1=true then((dw.f x1000 D9.2.1 D9.2.2 3).bind fun DA=>((mb.f k mL ud ue uf DA.1).bind fun DB=>(if DB.2.2.2.2=true then(cP.l0 k (F5 (x5-1)) x1000 DA.2.1 DA.2.2 DB.1 DB.2.1 DB.2.2.1 DB.2.2.2.1)else(cP.l0 k (F5 (x5-1)) x1000 DA.2.1 DA.2.2 mL ud ue uf))))else((dw.f x1000 D9.2.1 D9.2.2 5).bind fun LF=>((fP.f k x1000 LF.2.1 LF.2.2 LF.1).bind fun DC=>((dj.f k mL ud ue uf DC.1).bind fun DD=>(if DD.2.2.2.2=true then(cP.l0 k (F5 (x5-1)) x1000 DC.2.1 DC.2.2 DD.1 DD.2.1 DD.2.2.1 DD.2.2.2.1)else(cP.l0 k (F5 (x5-1)) x1000 DC.2.1 DC.2.2 mL ud ue uf)))))))else((dw.f x1000 D4 D5 40).bind fun pV=>(if pV.1=0 then((dw.f x1000 pV.2.1 pV.2.2 3).bind fun LG=>(some (mL,F5 (ud+(F5 (LG.1-1))),ue,uf,LG.2.1,LG.2.2)))else(if pV.1=1 then((dw.f x1000 pV.2.1 pV.2.2 (mL.length:Int)).bind fun tH=>(if 0≤tH.1 then(if tH.1<(mL.length:Int)then(some ((mL.set (tH.1:Int).toNat (⟨(J mL tH.1).f0,(J mL tH.1).f1,(J mL tH.1).f2,F5 (((J mL tH.1).f3)+1)⟩:aK)),ud,ue,uf,tH.2.1,tH.2.2))else(none))else(none)))else(if pV.1=2 then((dw.f x1000 pV.2.1 pV.2.2 3).bind fun LH=>(some (mL,ud,ue,F5 (uf+(F5 (LH.1-1))),LH.2.1,LH.2.2)))else(some (mL,ud,ue,uf,pV.2.1,pV.2.2))))))
def cP.f(k:Nat)(bv:List Int)(d5:Int)(eU:Int):Option ((List (aK))×Int×Int×Int×Int×Int):=(dw.f bv d5 eU 6).bind fun xp=>((f4.f k (F5 (2+xp.1))).bind fun tI=>((dw.f bv xp.2.1 xp.2.2 24).bind fun xq=>(cP.l0 k xq.1 bv xq.2.1 xq.2.2 tI.1 tI.2.1 tI.2.2.1 tI.2.2.2.1)))
theorem cP.eC:∀k,(∀y0 y1 y2 y3 y4 y5 y6 y7,aJ (cP.l0 k y0 y1 y2 y3 y4 y5 y6 y7) (cP.l0 (k+1) y0 y1 y2 y3 y4 y5 y6 y7))
 |0=>fun _ _ _ _ _ _ _ _ r h=>by simp[cP.l0]at h
 |k+1=>by
  have cj:=cP.eC k
  ·
   intro y0 y1 y2 y3 y4 y5 y6 y7;unfold cP.l0
   repeat' with_reducible first|exact cj _ _ _ _ _ _ _ _|exact f4.mono _ _|exact mb.mono _ _ _ _ _ _|exact dj.mono _ _ _ _ _ _|exact fP.mono _ _ _ _ _|exact aJ.refl _|exact aJ.none _|refine aJ.ite ?_ ?_|refine aJ.bind ?_ (fun _=> ?_)
theorem cP.mono:∀a0 a1 a2 k,aJ (cP.f k a0 a1 a2) (cP.f (k+1) a0 a1 a2):=by
 intro a0 a1 a2 k;have cj:=cP.eC k;unfold cP.f
 repeat' with_reducible first|exact cj _ _ _ _ _ _ _ _|exact f4.mono _ _|exact mb.mono _ _ _ _ _ _|exact dj.mono _ _ _ _ _ _|exact fP.mono _ _ _ _ _|exact aJ.refl _|exact aJ.none _|refine aJ.ite ?_ ?_|refine aJ.bind ?_ (fun _=> ?_)
def cP.T7:Bool×List (List Nat×List Nat):=(true,[([],[]),([],[]),([1],[1]),([0,2,2],[0,2]),([3],[3]),([4],[4]),([4],[4]),([5,3,0,1,2,3,4,5],[5]),([6,7,0,1,2,3,4,5,6,7],[6])])
def cP.B7:List Nat:=[0,0,2,7,15,31,31,63,255]
theorem cP.yN:dt .any (gN Tryd.f18 7)=cP.T7:=by kernel_rfl
theorem cP.xi:fh cP.T7.2 cP.B7=true:=by kernel_rfl
def cP.T8:Bool×List (List Nat×List Nat):=(true,[([],[]),([],[]),([],[]),([2],[2]),([1,3,3],[1,3]),([0,4,4],[0,4]),([5],[5]),([6],[6]),([6],[6]),([7,5,0,1,2,3,4,5,6,7],[7]),([8,9,0,1,2,3,4,5,6,7,8,9],[8])])
def cP.B8:List Nat:=[0,0,0,4,14,31,63,127,127,255,1023]
theorem cP.a5Y:dt .any (gN Tryd.f18 8)=cP.T8:=by kernel_rfl
theorem cP.a3N:fh cP.T8.2 cP.B8=true:=by kernel_rfl
def cP.wT:Bool×List (List Nat×List Nat):=(true,[([],[]),([0],[0]),([],[]),([2],[2]),([3],[3]),([1,4],[1,4]),([0,1,2,3,4,5],[]),([6,5,3,0,1,2,3,4,5],[5,6])])
def cP.FT:List Nat:=[0,1,0,4,12,31,63,127]
theorem cP.pP:dt .any (gN Tryd.f18 13)=cP.wT:=by kernel_rfl
theorem cP.pN:fh cP.wT.2 cP.FT=true:=by kernel_rfl
def cP.Vw:Bool×List (List Nat×List Nat):=(true,[([],[]),([0],[0]),([],[]),([],[]),([3],[3]),([4],[4]),([2,5],[2,5]),([1,6],[1,6]),([7],[7]),([8],[8]),([9],[9]),([1,6,0,1,2,3,4,5,6,7,8,9,10],[1,6]),([11,0,1,2,3,4,5,6,7,8,9,10],[11]),([12,10,6,0,1,2,3,4,5,6,7,8,9,10],[10,12])])
def cP.B15:List Nat:=[0,1,0,0,8,24,60,127,255,511,1023,2047,4095,8191]
theorem cP.a3O:dt .any (gN Tryd.f18 15)=cP.Vw:=by kernel_rfl
theorem cP.a1O:fh cP.Vw.2 cP.B15=true:=by kernel_rfl
def cP.Vx:Bool×List (List Nat×List Nat):=(true,[([],[]),([0],[0]),([],[]),([2],[2]),([3],[3]),([1,4],[1,4]),([0,1,2,3,4,5],[]),([6,5,3,0,1,2,3,4,5],[5,6])])
def cP.B17:List Nat:=[0,1,0,4,12,31,63,127]
theorem cP.a3P:dt .any (gN Tryd.f18 17)=cP.Vx:=by kernel_rfl
theorem cP.a1P:fh cP.Vx.2 cP.B17=true:=by kernel_rfl
theorem cP.calls(k:Nat)(g:Nat)(bv:List Int)(d5:Int)(eU:Int)(r1:List (aK))(r2:Int)(r3:Int)(r4:Int)(r5:Int)(r6:Int)(w0 w:World)(hI:aC w0 w g bv d5 eU)(hB:Below w0.heap.size w0 w)(h:cP.f k bv d5 eU=some (r1,r2,r3,r4,r5,r6)):
 Calls aaf 18 #[.pointer (some ⟨g,0,none⟩)] w fun e w'=>∃fA:Value,e= .returned (.agg #[fA,.int .i64 r2,.int .i64 r3,.int .i64 r4])∧Kd.R bD 36 w' w.heap.size (fun _=>True) fA r1∧aC w0 w' g bv r5 r6∧Below w0.heap.size w0 w'∧az w w' g none:=by
 have lP:=aac;have HI0:=Ah hI;have HK:=Ah (az.refl w g none);have HL:=Ah hB.size;clear hI;have HW0:=Ah hB.size;have HB:=Ah hB;clear hB;have H:((dw.f bv d5 eU 6).bind fun xp=>((f4.f k (F5 (2+xp.1))).bind fun tI=>((dw.f bv xp.2.1 xp.2.2 24).bind fun xq=>(cP.l0 k xq.1 bv xq.2.1 xq.2.2 tI.1 tI.2.1 tI.2.2.1 tI.2.2.2.1))))=some (r1,r2,r3,r4,r5,r6):=h;clear h;replace H:=Ok.mp H;obtain⟨⟨MD,t196,ER⟩,eg,H⟩:=H
 try dsimp only at H
 have A2:=Ah eg;clear eg;replace H:=Ok.mp H;obtain⟨⟨t198,t201,ME,t203,a5Z⟩,iJ,H⟩:=H
 try dsimp only at H
 have A3:=Ah iJ;clear iJ;replace H:=Ok.mp H;obtain⟨⟨t206,UJ,t208⟩,fo,H⟩:=H
 try dsimp only at H
 have A4:=Ah fo;clear fo;have H':=Ah H;clear H
 go_enter Tryd.func18,Tryd.ntmps18
 go_wp2_with (first|((with_reducible refine bY (N:=2) rfl ?_);refine br 2 25 #[.slice none 0 0,.int .i64 0,.int .i64 0,.int .i64 0] ?_;intro fK hg w5 cQ hb;replace HB:=Ah (aM (bs HB) hb);have fD:=Ah ((by rw[hg];exact(mK (w:=w) (g:=g) (row:=none) (kr HK)):w.heap.size≤fK));have gE:=Ah ((aaI HW0.out (by rw[hg];exact(mK (w:=w) (g:=g) (row:=none) (kr HK)):w.heap.size≤fK):w0.heap.size≤fK));replace HK:=Ah (az.trans (kr HK) (az.of_below hb g none) (.inl rfl));have dq:=Ah ((by rw[hg];exact ek (aC.lt (show aC w0 _ g bv d5 eU from aC.fu HI0)):g≠fK));have kZ:=Ah ((by rw[hg];exact aaY (aC.lt (show aC w0 _ g bv d5 eU from aC.fu HI0)):fK≠g));replace HI0:=Ah (aC.below (aC.fu HI0) hb);clear hb hg)|((with_reducible refine bU (f:=20) rfl ?_);refine gL (some 10) rfl rfl aaG (by kernel_rfl) rfl #[.pointer (some ⟨g,0,none⟩),.int .i64 6] rfl ?_;(with_reducible refine(dw.calls g bv d5 eU 6 MD t196 ER w0 _ ?aa ?ab A2.out).mono ?_);(case aa=>exact aC.fg HI0 dq);(case ab=>exact aX HB gE);rintro e w6 ⟨rfl,hi,hb,hk⟩;refine⟨_,rfl, ?_⟩;replace cQ:=Ah (az.blk hk (g':=fK) (o:= .cells #[.slice none 0 0,.int .i64 0,.int .i64 0,.int .i64 0] 25 (0,0)) (bk cQ) kZ.out (by simp));replace HK:=Ah (az.trans (B5 HK fD) hk (.inl rfl));replace HB:=Ah (hb);replace HI0:=Ah (hi);(try clear hb hk hi))|((with_reducible refine bU (f:=35) rfl ?_);refine gL (some 12) rfl rfl Tryd.func35 (by kernel_rfl) rfl #[.int .i64 (F5 (2+MD))] rfl ?_;(with_reducible refine(f4.calls k (F5 (2+MD)) t198 t201 ME t203 a5Z _ A3.out).mono ?_);rintro e w7 ⟨v199,rfl,ho0,hb⟩;refine⟨_,rfl, ?_⟩;have AR:=Ah (Kd.eZ ho0 (mK (w:=w) (g:=g) (row:=none) (B5 HK fD)));replace cQ:=nb cQ hb;replace HK:=Ah (az.trans (B5 HK fD) (az.of_below hb g none) (.inl rfl));replace HB:=Ah (aM (aX HB gE) hb);replace HI0:=Ah (aC.below (aC.fg HI0 dq) hb);(try clear hb ho0))|((with_reducible refine bY (N:=3) rfl ?_);refine br 3 25 #[.slice none 0 0,.int .i64 0,.int .i64 0,.int .i64 0] ?_;intro eE hg w8 bA hb;replace AR:=nr AR hb;replace HB:=Ah (aM (aX HB gE) hb);have fd:=Ah ((by rw[hg];exact(mK (w:=w) (g:=g) (row:=none) (B5 HK fD)):w.heap.size≤eE));have gj:=Ah ((aaI HW0.out (by rw[hg];exact(mK (w:=w) (g:=g) (row:=none) (B5 HK fD)):w.heap.size≤eE):w0.heap.size≤eE));replace HK:=Ah (az.trans (B5 HK fD) (az.of_below hb g none) (.inl rfl));have jY:=nn cQ hg;have ry:=nm cQ hg;replace cQ:=nb cQ hb;have e9:=Ah ((by rw[hg];exact ek (aC.lt (show aC w0 _ g bv t196 ER from aC.fg HI0 dq)):g≠eE));have je:=Ah ((by rw[hg];exact aaY (aC.lt (show aC w0 _ g bv t196 ER from aC.fg HI0 dq)):eE≠g));replace HI0:=Ah (aC.below (aC.fg HI0 dq) hb);clear hb hg;obtain⟨Vy,Vz,eo9⟩:=Kd.dI AR.out;subst eo9;have a3L:=ry.out;have a3M:=jY.out;have L7:=je.out;have L8:=e9.out;obtain⟨sL,sM,sN,sO⟩:=aT bA;obtain⟨sP,sQ,sR,sS⟩:=aU bA)|((with_reducible refine bU (f:=20) rfl ?_);refine gL (some 16) rfl rfl aaG (by kernel_rfl) rfl #[.pointer (some ⟨g,0,none⟩),.int .i64 24] rfl ?_;(with_reducible refine(dw.calls g bv t196 ER 24 t206 UJ t208 w0 _ ?aa ?ab A4.out).mono ?_);(case aa=>exact aC.hY HI0 dq e9);(case ab=>exact an HB gE gj);rintro e lX ⟨rfl,hi,hb,hk⟩;refine⟨_,rfl, ?_⟩;replace cQ:=Ah (az.blk hk (g':=fK) (o:= .cells #[.slice none 0 0,.int .i64 0,.int .i64 0,.int .i64 0] 25 (0,0)) (bf cQ jY) kZ.out (by simp));replace AR:=Ah (Kd.am (Kd.gn (aC.apart (show aC w0 _ g bv t196 ER from aC.hY HI0 dq e9) (rf AR bA) (by decide)) hk (fun _ h=>h.2)) (fun _ h=>h.1));replace bA:=Ah (az.blk hk (g':=eE) (o:= .cells #[.slice Vy t198.length Vz,.int .i64 t201,.int .i64 ME,.int .i64 t203] 25 (0,0)) (pb bA) je.out (by simp));replace HK:=Ah (az.trans (kL HK fD fd) hk (.inl rfl));replace HB:=Ah (hb);replace HI0:=Ah (hi);(try clear hb hk hi)))
 go_loopg [5] k (fun kq v5 w'=>∃ (bQ:Int) (iP:Int) (iQ:Int) (cg:List (aK)) (dy:Int) (dz:Int) (dm:Int) (pE:Value),v5= .int .i64 bQ∧Z (cP.l0 kq bQ bv iP iQ cg dy dz dm=some (r1,r2,r3,r4,r5,r6))∧Z (kq≤k)∧Z (Kd.R bD 36 w' w.heap.size (fun _=>True) pE cg)∧Z (w'.heap[fK]?=some (.cells #[(.slice none 0 0),.int .i64 0,.int .i64 0,.int .i64 0] 25 (0,0)))∧Z (w'.heap[eE]?=some (.cells #[pE,.int .i64 dy,.int .i64 dz,.int .i64 dm] 25 (0,0)))∧Z (aC w0 w' g bv iP iQ)∧Z (az w w' g none)∧Z (Below w0.heap.size w0 w'))
 case atStart=>exact⟨(t206),(UJ),(t208),(t198),(t201),(ME),(t203),(.slice Vy t198.length Vz),e3,H',⟨kV _⟩,⟨rr AR.out⟩,⟨bk cQ⟩,⟨bk bA⟩,⟨aC.hY HI0 dq e9⟩,⟨kL HK fD fd⟩,⟨an HB gE gj⟩⟩
 case round=>
  clear H'
  try clear c1
  try clear c2
  try clear p2
  try clear c3
  try clear p6
  try clear c10
  try clear c11
  try clear sL sM sN sO
  try clear sP sQ sR sS
  obtain⟨bQ,iP,iQ,cg,dy,dz,dm,pE,rfl,HA,dp,cB,cQ,bA,HI0,HK,HB⟩:=hrel
  cases gk with
  |zero=>exact absurd HA.out (by simp[cP.l0])
  |succ k1=>
   have H:=HA.out;clear HA;simp only[cP.l0]at H
   by_cases c14:bQ>0
   rotate_left
   ·
    rw[if_neg c14]at H;have vl:=ev c14;clear c14;replace H:=Ok.mp H;obtain⟨⟨t236,rS,rT⟩,Ch,H⟩:=H
    try dsimp only at H
    have pm:=Ah Ch;clear Ch
    by_cases tY:t236=0
    ·
     rw[if_pos tY]at H;have a1Q:=lV tY;have a1R:=lW tY;clear tY;replace H:=Ok.mp H;obtain⟨⟨I1,a50,a52⟩,SK,H⟩:=H
     try dsimp only at H
     have a54:=Ah SK;clear SK;simp only[aaa,aad]at H;obtain⟨rfl,rfl,rfl,rfl,rfl,rfl⟩:=H
     try go_wp2_with (first|((with_reducible refine bU (f:=20) rfl ?_);refine gL (some 43) rfl rfl aaG (by kernel_rfl) rfl #[.pointer (some ⟨g,0,none⟩),.int .i64 40] rfl ?_;(with_reducible refine(dw.calls g bv iP iQ 40 t236 rS rT w0 _ ?aa ?ab pm.out).mono ?_);(case aa=>exact aC.hY HI0 dq e9);(case ab=>exact an HB gE gj);rintro e a55 ⟨rfl,hi,hb,hk⟩;refine⟨_,rfl, ?_⟩;replace cB:=Ah (Kd.am (Kd.gn (aC.apart (show aC w0 _ g bv iP iQ from aC.hY HI0 dq e9) (rr cB.out) (by decide)) hk (fun _ h=>h.2)) (fun _ h=>h.1));replace cQ:=Ah (az.blk hk (g':=fK) (o:= .cells #[.slice none 0 0,.int .i64 0,.int .i64 0,.int .i64 0] 25 (0,0)) (bk cQ) kZ.out (by simp));replace bA:=Ah (az.blk hk (g':=eE) (o:= .cells #[pE,.int .i64 dy,.int .i64 dz,.int .i64 dm] 25 (0,0)) (bk bA) je.out (by simp));replace HK:=Ah (az.trans (kL HK fD fd) hk (.inl rfl));replace HB:=Ah (hb);replace HI0:=Ah (hi);(try clear hb hk hi)))
     replace cB:=Ah (Kd.au cB.out);replace cQ:=Ah (aZ cQ.out);replace bA:=Ah (aZ bA.out);replace HI0:=Ah (aC.drew HI0.out);replace HK:=Ah (rv HK.out);replace HB:=Ah (bc HB.out);refine dk (n:=8) (S:=fun w'=>w'.cell? ⟨eE,0,none⟩=some (pE)∧w'.cell? ⟨eE,1,none⟩=some (.int .i64 dy)∧w'.cell? ⟨eE,2,none⟩=some (.int .i64 dz)∧w'.cell? ⟨eE,3,none⟩=some (.int .i64 dm)) (ds:=[7]) #[false,false,false,false,false,false,false,false] (by kernel_rfl) rfl rfl ⟨(Y bA.out 0).trans rfl,(Y bA.out 1).trans rfl,(Y bA.out 2).trans rfl,(Y bA.out 3).trans rfl⟩ (fun hHeld=> ?_);refine dl cP.pP cP.pN (fun I aq=> ?_)
     generalize a55.drew=Tl at cB cQ bA HI0 HK HB hHeld⊢
     refine a8 0 46 I.out ?_;refine a8 2 48 I.out ?_;refine bM 1 47 I.out aq.out hHeld (hr:=by rintro w' ⟨s0,s1,s2,s3⟩;go_simp;with_reducible rfl) (h:= ?_);refine cK (i:=3) (N:=some 49) #[true,true,true,true,false,false,false,false] rfl rfl (bz I.out (by kernel_rfl)) (by decide) (fun K hK=> ?_);refine cZ aaG (by kernel_rfl) rfl #[.pointer (some ⟨g,0,none⟩),.int .i64 3] (by rfl) rfl rfl (by(try simp only[fT,gJ,j5]);first|done|rfl|(simp only[fF,ca];rfl)) ?_
     with_reducible refine(dw.calls g bv rS rT 3 I1 a50 a52 w0 _ ?aa ?ab a54.out).mono ?_
     (case aa=>exact aC.hY HI0 dq e9);(case ab=>exact an HB gE gj);rintro e a56 ⟨rfl,hi,hb,hk⟩;refine⟨_,rfl, ?_⟩;replace cB:=Ah (Kd.am (Kd.gn (aC.apart (show aC w0 _ g bv rS rT from aC.hY HI0 dq e9) (rr cB.out) (by decide)) hk (fun _ h=>h.2)) (fun _ h=>h.1));replace cQ:=Ah (az.blk hk (g':=fK) (o:= .cells #[.slice none 0 0,.int .i64 0,.int .i64 0,.int .i64 0] 25 (0,0)) (bk cQ) kZ.out (by simp));replace bA:=Ah (az.blk hk (g':=eE) (o:= .cells #[pE,.int .i64 dy,.int .i64 dz,.int .i64 dm] 25 (0,0)) (bk bA) je.out (by simp));replace HK:=Ah (az.trans (kL HK fD fd) hk (.inl rfl));replace HB:=Ah (hb);replace HI0:=Ah (hi);(try clear hb);(try clear hb2);(try clear hk);(try clear hi);refine hK.out _ _ ⟨(Y bA.out 0).trans rfl,(Y bA.out 1).trans rfl,(Y bA.out 2).trans rfl,(Y bA.out 3).trans rfl⟩ (fun hHeld=> ?_);clear hK K;refine nq 49 ?_;refine a8 4 50 I.out ?_;refine a8 5 51 I.out ?_;refine a8 6 52 I.out ?_;refine qw (i:=7) (N:=none) #[true,true,true,true,true,true,true,true] rfl rfl (bz I.out (by kernel_rfl)) (by decide) (fun K hK=> ?_);have hs108:a56.cell? ⟨eE,1,none⟩=some (.int .i64 dy):=(Y bA.out 1).trans rfl;have hfs108:=dD bA.out 1;have hns108_0:=jY.out;have hms108_0:=ry.out;refine ke (w1:= ?_) (by rfl) rfl ?_ ?_;rotate_left
     ·
      go_simp
      rfl
     refine hK.out _ _ ?_;clear hK K;refine dP (dW I.out (by kernel_rfl)) ?_;have a1i:=ry.out;have a1j:=jY.out;have a1k:=je.out;have a1l:=e9.out;obtain⟨OD,OE,OF,OG⟩:=aT bA;obtain⟨OH,OI,OJ,OK⟩:=aU bA;obtain⟨SL,SM,a3Q⟩:=Kd.dI cB.out;subst a3Q;have a1m:=kZ.out;have a1n:=dq.out;obtain⟨hcz114_0,hcz114_1,hcz114_2,hcz114_3⟩:=aT cQ;obtain⟨hfz114_0,hfz114_1,hfz114_2,hfz114_3⟩:=aU cQ
     try go_wp2
     refine bodyPost_ret (results_cell_row rfl _ _ fK 25 #[.slice SL cg.length SM,.int .i64 (F5 (dy+(F5 (I1-1)))),.int .i64 dz,.int .i64 dm] (0,0) _ rfl (oZ cQ jY) aac rfl (by kernel_rfl)) rfl ?_;exact⟨_,er,by(with_reducible repeat(first|apply Kd.bK|apply Kd.bL|apply Kd.au));exact Kd.am (Kd.aH (p:=⟨fK,3,none⟩) (Kd.aH (p:=⟨fK,2,none⟩) (Kd.aH (p:=⟨fK,1,none⟩) (Kd.aH (p:=⟨fK,0,none⟩) (Kd.aH (p:=⟨eE,1,none⟩) (Kd.dv (Kd.dv cB.out bA.out (by decide)) cQ.out (by decide)) (fun _ hk=>hk.1.2) (.int .i64 (F5 (dy+(F5 (I1-1)))))) (fun _ hk=>hk.2) (.slice SL cg.length SM)) (fun _ hk=>hk.2) (.int .i64 (F5 (dy+(F5 (I1-1)))))) (fun _ hk=>hk.2) (.int .i64 dz)) (fun _ hk=>hk.2) (.int .i64 dm)) (fun _ hk=>trivial),aC.hY HI0 dq e9,an HB gE gj,kL HK fD fd⟩
    rw[if_neg tY]at H;have a1Q:=g9 tY;have a1R:=gA tY
    by_cases yS:t236=1
    rotate_left
    ·
     rw[if_neg yS]at H;have a1S:=g9 yS;have a1T:=gA yS
     by_cases c131:t236=2
     rotate_left
     ·
      rw[if_neg c131]at H;have a1U:=g9 c131;have a1V:=gA c131;simp only[aaa,aad]at H;obtain⟨rfl,rfl,rfl,rfl,rfl,rfl⟩:=H
      go_wp2_with (first|((with_reducible refine bU (f:=20) rfl ?_);refine gL (some 43) rfl rfl aaG (by kernel_rfl) rfl #[.pointer (some ⟨g,0,none⟩),.int .i64 40] rfl ?_;(with_reducible refine(dw.calls g bv iP iQ 40 t236 rS rT w0 _ ?aa ?ab pm.out).mono ?_);(case aa=>exact aC.hY HI0 dq e9);(case ab=>exact an HB gE gj);rintro e w143 ⟨rfl,hi,hb,hk⟩;refine⟨_,rfl, ?_⟩;replace cB:=Ah (Kd.am (Kd.gn (aC.apart (show aC w0 _ g bv iP iQ from aC.hY HI0 dq e9) (rr cB.out) (by decide)) hk (fun _ h=>h.2)) (fun _ h=>h.1));replace cQ:=Ah (az.blk hk (g':=fK) (o:= .cells #[.slice none 0 0,.int .i64 0,.int .i64 0,.int .i64 0] 25 (0,0)) (bk cQ) kZ.out (by simp));replace bA:=Ah (az.blk hk (g':=eE) (o:= .cells #[pE,.int .i64 dy,.int .i64 dz,.int .i64 dm] 25 (0,0)) (bk bA) je.out (by simp));replace HK:=Ah (az.trans (kL HK fD fd) hk (.inl rfl));replace HB:=Ah (hb);replace HI0:=Ah (hi);(try clear hb hk hi);have hnb144:=ry.out;have hnc144:=jY.out;have hnb145:=je.out;have hnc145:=e9.out;obtain⟨hcz146_0,hcz146_1,hcz146_2,hcz146_3⟩:=aT bA;obtain⟨hfz146_0,hfz146_1,hfz146_2,hfz146_3⟩:=aU bA;obtain⟨SN,SO,a3R⟩:=Kd.dI cB.out;subst a3R;have hnb148:=kZ.out;have hnc148:=dq.out;obtain⟨hcz149_0,hcz149_1,hcz149_2,hcz149_3⟩:=aT cQ;obtain⟨hfz149_0,hfz149_1,hfz149_2,hfz149_3⟩:=aU cQ))
      refine bodyPost_ret (results_cell_row rfl _ _ fK 25 #[.slice SN cg.length SO,.int .i64 dy,.int .i64 dz,.int .i64 dm] (0,0) _ rfl (pb cQ) aac rfl (by kernel_rfl)) rfl ?_;exact⟨_,er,by(with_reducible repeat(first|apply Kd.bK|apply Kd.bL|apply Kd.au));exact Kd.am (Kd.aH (p:=⟨fK,3,none⟩) (Kd.aH (p:=⟨fK,2,none⟩) (Kd.aH (p:=⟨fK,1,none⟩) (Kd.aH (p:=⟨fK,0,none⟩) (Kd.dv cB.out cQ.out (by decide)) (fun _ hk=>hk.2) (.slice SN cg.length SO)) (fun _ hk=>hk.2) (.int .i64 dy)) (fun _ hk=>hk.2) (.int .i64 dz)) (fun _ hk=>hk.2) (.int .i64 dm)) (fun _ hk=>trivial),aC.hY HI0 dq e9,an HB gE gj,kL HK fD fd⟩
     rw[if_pos c131]at H;have a1U:=lV c131;have a1V:=lW c131;clear c131;replace H:=Ok.mp H;obtain⟨⟨I2,a57,a58⟩,SP,H⟩:=H
     try dsimp only at H
     have a59:=Ah SP;clear SP;simp only[aaa,aad]at H;obtain⟨rfl,rfl,rfl,rfl,rfl,rfl⟩:=H
     try go_wp2_with (first|((with_reducible refine bU (f:=20) rfl ?_);refine gL (some 43) rfl rfl aaG (by kernel_rfl) rfl #[.pointer (some ⟨g,0,none⟩),.int .i64 40] rfl ?_;(with_reducible refine(dw.calls g bv iP iQ 40 t236 rS rT w0 _ ?aa ?ab pm.out).mono ?_);(case aa=>exact aC.hY HI0 dq e9);(case ab=>exact an HB gE gj);rintro e a6a ⟨rfl,hi,hb,hk⟩;refine⟨_,rfl, ?_⟩;replace cB:=Ah (Kd.am (Kd.gn (aC.apart (show aC w0 _ g bv iP iQ from aC.hY HI0 dq e9) (rr cB.out) (by decide)) hk (fun _ h=>h.2)) (fun _ h=>h.1));replace cQ:=Ah (az.blk hk (g':=fK) (o:= .cells #[.slice none 0 0,.int .i64 0,.int .i64 0,.int .i64 0] 25 (0,0)) (bk cQ) kZ.out (by simp));replace bA:=Ah (az.blk hk (g':=eE) (o:= .cells #[pE,.int .i64 dy,.int .i64 dz,.int .i64 dm] 25 (0,0)) (bk bA) je.out (by simp));replace HK:=Ah (az.trans (kL HK fD fd) hk (.inl rfl));replace HB:=Ah (hb);replace HI0:=Ah (hi);(try clear hb hk hi)))
     replace cB:=Ah (Kd.au cB.out);replace cQ:=Ah (aZ cQ.out);replace bA:=Ah (aZ bA.out);replace HI0:=Ah (aC.drew HI0.out);replace HK:=Ah (rv HK.out);replace HB:=Ah (bc HB.out);refine dk (n:=8) (S:=fun w'=>w'.cell? ⟨eE,0,none⟩=some (pE)∧w'.cell? ⟨eE,1,none⟩=some (.int .i64 dy)∧w'.cell? ⟨eE,2,none⟩=some (.int .i64 dz)∧w'.cell? ⟨eE,3,none⟩=some (.int .i64 dm)) (ds:=[7]) #[false,false,false,false,false,false,false,false] (by kernel_rfl) rfl rfl ⟨(Y bA.out 0).trans rfl,(Y bA.out 1).trans rfl,(Y bA.out 2).trans rfl,(Y bA.out 3).trans rfl⟩ (fun hHeld=> ?_);refine dl cP.a3P cP.a1P (fun I aq=> ?_)
     generalize a6a.drew=w134 at cB cQ bA HI0 HK HB hHeld⊢
     refine a8 0 70 I.out ?_;refine a8 2 72 I.out ?_;refine bM 1 71 I.out aq.out hHeld (hr:=by rintro w' ⟨s0,s1,s2,s3⟩;go_simp;with_reducible rfl) (h:= ?_);refine cK (i:=3) (N:=some 73) #[true,true,true,true,false,false,false,false] rfl rfl (bz I.out (by kernel_rfl)) (by decide) (fun K hK=> ?_);refine cZ aaG (by kernel_rfl) rfl #[.pointer (some ⟨g,0,none⟩),.int .i64 3] (by rfl) rfl rfl (by(try simp only[fT,gJ,j5]);first|done|rfl|(simp only[fF,ca];rfl)) ?_
     with_reducible refine(dw.calls g bv rS rT 3 I2 a57 a58 w0 _ ?aa ?ab a59.out).mono ?_
     (case aa=>exact aC.hY HI0 dq e9);(case ab=>exact an HB gE gj);rintro e Tp ⟨rfl,hi,hb,hk⟩;refine⟨_,rfl, ?_⟩;replace cB:=Ah (Kd.am (Kd.gn (aC.apart (show aC w0 _ g bv rS rT from aC.hY HI0 dq e9) (rr cB.out) (by decide)) hk (fun _ h=>h.2)) (fun _ h=>h.1));replace cQ:=Ah (az.blk hk (g':=fK) (o:= .cells #[.slice none 0 0,.int .i64 0,.int .i64 0,.int .i64 0] 25 (0,0)) (bk cQ) kZ.out (by simp));replace bA:=Ah (az.blk hk (g':=eE) (o:= .cells #[pE,.int .i64 dy,.int .i64 dz,.int .i64 dm] 25 (0,0)) (bk bA) je.out (by simp));replace HK:=Ah (az.trans (kL HK fD fd) hk (.inl rfl));replace HB:=Ah (hb);replace HI0:=Ah (hi);(try clear hb);(try clear hb2);(try clear hk);(try clear hi);refine hK.out _ _ ⟨(Y bA.out 0).trans rfl,(Y bA.out 1).trans rfl,(Y bA.out 2).trans rfl,(Y bA.out 3).trans rfl⟩ (fun hHeld=> ?_);clear hK K;refine nq 73 ?_;refine a8 4 74 I.out ?_;refine a8 5 75 I.out ?_;refine a8 6 76 I.out ?_;refine qw (i:=7) (N:=none) #[true,true,true,true,true,true,true,true] rfl rfl (bz I.out (by kernel_rfl)) (by decide) (fun K hK=> ?_);have hs136:Tp.cell? ⟨eE,3,none⟩=some (.int .i64 dm):=(Y bA.out 3).trans rfl;have hfs136:=dD bA.out 3;have hns136_0:=jY.out;have hms136_0:=ry.out;refine ke (w1:= ?_) (by rfl) rfl ?_ ?_;rotate_left
     ·
      go_simp
      rfl
     refine hK.out _ _ ?_;clear hK K;refine dP (dW I.out (by kernel_rfl)) ?_;have hnb137:=ry.out;have hnc137:=jY.out;have hnb138:=je.out;have hnc138:=e9.out;obtain⟨hcz139_0,hcz139_1,hcz139_2,hcz139_3⟩:=aT bA;obtain⟨hfz139_0,hfz139_1,hfz139_2,hfz139_3⟩:=aU bA;obtain⟨SQ,SR,a3S⟩:=Kd.dI cB.out;subst a3S;have hnb141:=kZ.out;have hnc141:=dq.out;obtain⟨hcz142_0,hcz142_1,hcz142_2,hcz142_3⟩:=aT cQ;obtain⟨hfz142_0,hfz142_1,hfz142_2,hfz142_3⟩:=aU cQ
     try go_wp2
     refine bodyPost_ret (results_cell_row rfl _ _ fK 25 #[.slice SQ cg.length SR,.int .i64 dy,.int .i64 dz,.int .i64 (F5 (dm+(F5 (I2-1))))] (0,0) _ rfl (oZ cQ jY) aac rfl (by kernel_rfl)) rfl ?_;exact⟨_,er,by(with_reducible repeat(first|apply Kd.bK|apply Kd.bL|apply Kd.au));exact Kd.am (Kd.aH (p:=⟨fK,3,none⟩) (Kd.aH (p:=⟨fK,2,none⟩) (Kd.aH (p:=⟨fK,1,none⟩) (Kd.aH (p:=⟨fK,0,none⟩) (Kd.aH (p:=⟨eE,3,none⟩) (Kd.dv (Kd.dv cB.out bA.out (by decide)) cQ.out (by decide)) (fun _ hk=>hk.1.2) (.int .i64 (F5 (dm+(F5 (I2-1)))))) (fun _ hk=>hk.2) (.slice SQ cg.length SR)) (fun _ hk=>hk.2) (.int .i64 dy)) (fun _ hk=>hk.2) (.int .i64 dz)) (fun _ hk=>hk.2) (.int .i64 (F5 (dm+(F5 (I2-1)))))) (fun _ hk=>trivial),aC.hY HI0 dq e9,an HB gE gj,kL HK fD fd⟩
    rw[if_pos yS]at H;have a1S:=lV yS;have a1T:=lW yS;clear yS;replace H:=Ok.mp H;obtain⟨⟨dV,MF,MG⟩,SS,H⟩:=H
    try dsimp only at H
    have a6b:=Ah SS;clear SS
    by_cases c117:0≤dV
    rotate_left
    ·
     rw[if_neg c117]at H;exact absurd H (by simp)
    rw[if_pos c117]at H;have c117b0:=bV c117;clear c117
    by_cases I3:dV<(cg.length:Int)
    rotate_left
    ·
     rw[if_neg I3]at H;exact absurd H (by simp)
    rw[if_pos I3]at H;have c118b0:=bV I3;clear I3;obtain⟨UK,DE⟩:∃y_:List (aK),y_=(cg.set (dV:Int).toNat (⟨(J cg dV).f0,(J cg dV).f1,(J cg dV).f2,F5 (((J cg dV).f3)+1)⟩:aK)):=⟨_,rfl⟩
    replace H:(some (UK,dy,dz,dm,MF,MG))=some (r1,r2,r3,r4,r5,r6):=by first|(rw[DE];with_reducible exact H)|(have cL:=(zD _ _).symm.trans H;rw[DE];with_reducible exact cL)|(have cL:=(zD _ _).symm.trans H;with_reducible exact cL)|with_reducible exact H|(rw[DE];exact H)|exact H
    have a3T:=Ah DE;clear DE;simp only[aaa,aad]at H;obtain⟨rfl,rfl,rfl,rfl,rfl,rfl⟩:=H
    try go_wp2_with (first|((with_reducible refine bU (f:=20) rfl ?_);refine gL (some 43) rfl rfl aaG (by kernel_rfl) rfl #[.pointer (some ⟨g,0,none⟩),.int .i64 40] rfl ?_;(with_reducible refine(dw.calls g bv iP iQ 40 t236 rS rT w0 _ ?aa ?ab pm.out).mono ?_);(case aa=>exact aC.hY HI0 dq e9);(case ab=>exact an HB gE gj);rintro e g8 ⟨rfl,hi,hb,hk⟩;refine⟨_,rfl, ?_⟩;replace cB:=Ah (Kd.am (Kd.gn (aC.apart (show aC w0 _ g bv iP iQ from aC.hY HI0 dq e9) (rr cB.out) (by decide)) hk (fun _ h=>h.2)) (fun _ h=>h.1));replace cQ:=Ah (az.blk hk (g':=fK) (o:= .cells #[.slice none 0 0,.int .i64 0,.int .i64 0,.int .i64 0] 25 (0,0)) (bk cQ) kZ.out (by simp));replace bA:=Ah (az.blk hk (g':=eE) (o:= .cells #[pE,.int .i64 dy,.int .i64 dz,.int .i64 dm] 25 (0,0)) (bk bA) je.out (by simp));replace HK:=Ah (az.trans (kL HK fD fd) hk (.inl rfl));replace HB:=Ah (hb);replace HI0:=Ah (hi);(try clear hb hk hi)))
    replace cB:=Ah (Kd.au cB.out);replace cQ:=Ah (aZ cQ.out);replace bA:=Ah (aZ bA.out);replace HI0:=Ah (aC.drew HI0.out);replace HK:=Ah (rv HK.out);replace HB:=Ah (bc HB.out);obtain⟨Ao122,AS,ST⟩:=Kd.dI cB.out;(first|subst ST|(injection ST with lH q9 lI;have qA:=lH.symm;have qB:=lI.symm;clear lH q9 lI;subst qA;subst qB));have MH:0≤(dV:Int):=od;have MI:dV<(cg.length:Int):=od;obtain⟨tJ,e245,Jq,Jr,Js,Jt⟩:=fW (Kd.cM cB.out).2.2 dV MH MI
    cases e245
    replace MH:=eq_true MH;replace MI:=eq_true MI;refine dk (n:=14) (S:=fun w'=>w'.cell? ⟨eE,0,none⟩=some (.slice (some tJ) cg.length AS)∧w'.cell? ⟨eE,1,none⟩=some (.int .i64 dy)∧w'.cell? ⟨eE,2,none⟩=some (.int .i64 dz)∧w'.cell? ⟨eE,3,none⟩=some (.int .i64 dm)∧w'.cell? (tJ.add ((dV).toNat*4))=some (.int .i64 ((J cg dV).f0))∧w'.cell? ⟨(tJ.add ((dV).toNat*4)).block,(tJ.add ((dV).toNat*4)).off+1,none⟩=some (.int .i64 ((J cg dV).f1))∧w'.cell? ⟨(tJ.add ((dV).toNat*4)).block,(tJ.add ((dV).toNat*4)).off+2,none⟩=some (.string ((J cg dV).f2))∧w'.cell? ⟨(tJ.add ((dV).toNat*4)).block,(tJ.add ((dV).toNat*4)).off+3,none⟩=some (.int .i64 ((J cg dV).f3))) (ds:=[13]) #[false,false,false,false,false,false,false,false,false,false,false,false,false,false] (by kernel_rfl) rfl rfl ⟨(Y bA.out 0).trans rfl,(Y bA.out 1).trans rfl,(Y bA.out 2).trans rfl,(Y bA.out 3).trans rfl,Jq,Jr,Js,Jt⟩ (fun hHeld=> ?_);refine dl cP.a3O cP.a1O (fun I aq=> ?_)
    generalize g8.drew=w121 at cB cQ bA HI0 HK HB Jq Jr Js Jt hHeld⊢
    refine a8 0 55 I.out ?_;refine a8 2 57 I.out ?_;refine a8 3 58 I.out ?_;refine bM 1 56 I.out aq.out hHeld (hr:=by rintro w' ⟨s0,s1,s2,s3,s4,s5,s6,s7⟩;(try simp only[xX,Nat.zero_add]at s4 s5 s6 s7);go_simp;with_reducible rfl) (h:= ?_);refine bM 4 59 I.out aq.out hHeld (hr:=by rintro w' ⟨s0,s1,s2,s3,s4,s5,s6,s7⟩;(try simp only[xX,Nat.zero_add]at s4 s5 s6 s7);go_simp;with_reducible rfl) (h:= ?_);refine a8 5 60 I.out ?_;refine cK (i:=6) (N:=some 61) #[true,true,true,true,true,true,true,false,false,false,false,false,false,false] rfl rfl (bz I.out (by kernel_rfl)) (by decide) (fun K hK=> ?_);refine cZ Tryd.func20 (by kernel_rfl) rfl #[.pointer (some ⟨g,0,none⟩),.int .i64 (cg.length:Int)] (by rfl) rfl rfl (by(try simp only[List.map_toArray,List.map_cons,List.map_nil]);first|done|rfl|(simp only[List.length_drop,List.length_take];rfl)) ?_
    with_reducible refine(dw.calls g bv rS rT (cg.length:Int) dV MF MG w0 _ ?aa ?ab a6b.out).mono ?_
    (case aa=>exact aC.hY HI0 dq e9);(case ab=>exact an HB gE gj);rintro e yT ⟨rfl,hi,hb,hk⟩;have a6c:=mJ hk (hHeld.2.2.2.2.1) (by first|(rw[aG];exact Kd.ay (aC.own_ne HI0.out cB.out (by decide)))|(show(Addr.add _ _).block≠_;rw[aG];exact Kd.ay (aC.own_ne HI0.out cB.out (by decide)))|exact Kd.ay (aC.own_ne HI0.out cB.out (by decide)));have a6d:=mJ hk (hHeld.2.2.2.2.2.1) (by first|(rw[aG];exact Kd.ay (aC.own_ne HI0.out cB.out (by decide)))|(show(Addr.add _ _).block≠_;rw[aG];exact Kd.ay (aC.own_ne HI0.out cB.out (by decide)))|exact Kd.ay (aC.own_ne HI0.out cB.out (by decide)));have a6e:=mJ hk (hHeld.2.2.2.2.2.2.1) (by first|(rw[aG];exact Kd.ay (aC.own_ne HI0.out cB.out (by decide)))|(show(Addr.add _ _).block≠_;rw[aG];exact Kd.ay (aC.own_ne HI0.out cB.out (by decide)))|exact Kd.ay (aC.own_ne HI0.out cB.out (by decide)));have a6f:=mJ hk (hHeld.2.2.2.2.2.2.2) (by first|(rw[aG];exact Kd.ay (aC.own_ne HI0.out cB.out (by decide)))|(show(Addr.add _ _).block≠_;rw[aG];exact Kd.ay (aC.own_ne HI0.out cB.out (by decide)))|exact Kd.ay (aC.own_ne HI0.out cB.out (by decide)));refine⟨_,rfl, ?_⟩;replace cB:=Ah (Kd.am (Kd.gn (aC.apart (show aC w0 _ g bv rS rT from aC.hY HI0 dq e9) (rr cB.out) (by decide)) hk (fun _ h=>h.2)) (fun _ h=>h.1));replace cQ:=Ah (az.blk hk (g':=fK) (o:= .cells #[.slice none 0 0,.int .i64 0,.int .i64 0,.int .i64 0] 25 (0,0)) (bk cQ) kZ.out (by simp));replace bA:=Ah (az.blk hk (g':=eE) (o:= .cells #[.slice (some tJ) cg.length AS,.int .i64 dy,.int .i64 dz,.int .i64 dm] 25 (0,0)) (bk bA) je.out (by simp));replace HK:=Ah (az.trans (kL HK fD fd) hk (.inl rfl));replace HB:=Ah (hb);replace HI0:=Ah (hi);(try clear hb);(try clear hb2);(try clear hk);(try clear hi);have MJ:0≤(dV:Int):=od;have MK:(dV:Int)<((cg.length:Int):Int):=od;obtain⟨jl,co119,SU,AL,a3U,cl119,SV⟩:=Kd.qu cB.out (by omega);(first|cases SU|(injection SU with eX kN kO;(first|subst eX|(injection eX with eX;subst eX));subst kO;clear kN));have SW:=Ah AL;have GG119:=Ah SV;clear AL a3U SV;(first|simp only[j6]at Jq|skip);(first|simp only[j6]at Jr|skip);(first|simp only[j6]at Js|skip);(first|simp only[j6]at Jt|skip);obtain⟨ce119,a1W,SX,CX,CY⟩:=Kd.kc cB.out gr (dV:Int) MJ MK;obtain rfl:=kX SX;have hx119_0:World.cell? _ ⟨jl,(dV:Int).toNat*4,none⟩=some (.int .i64 ((J cg dV).f0)):=CX 0 _ rfl;have hx119_1:World.cell? _ ⟨jl,(dV:Int).toNat*4+1,none⟩=some (.int .i64 ((J cg dV).f1)):=CX 1 _ rfl;have hx119_2:World.cell? _ ⟨jl,(dV:Int).toNat*4+2,none⟩=some (.string ((J cg dV).f2)):=CX 2 _ rfl;have hx119_3:World.cell? _ ⟨jl,(dV:Int).toNat*4+3,none⟩=some (.int .i64 ((J cg dV).f3)):=CX 3 _ rfl;have hf119_0:World.frozen? _ ⟨jl,(dV:Int).toNat*4,none⟩=false:=CY 0;have hf119_1:World.frozen? _ ⟨jl,(dV:Int).toNat*4+1,none⟩=false:=CY 1;have hf119_2:World.frozen? _ ⟨jl,(dV:Int).toNat*4+2,none⟩=false:=CY 2;have hf119_3:World.frozen? _ ⟨jl,(dV:Int).toNat*4+3,none⟩=false:=CY 3;clear a1W CX CY SX;replace MJ:=eq_true MJ;replace MK:=eq_true MK;have XY:=Ah (show g≠jl from by have h_:=aC.own_ne HI0.out cB.out (by decide);intro e_;exact h_ (by rw[e_];rfl));obtain⟨ce124,RA,SY,RB,a1X⟩:=Kd.kc cB.out gr (dV:Int) (od) (by have h_:(dV:Int)<((cg.length:Int):Int):=od;first|exact h_|(have e_:=(Kd.cM cB.out).1;omega)|simpa using h_);obtain rfl:=kX SY;have LI:=(Kd.su cB.out (dV:Int) (od) (by have h_:(dV:Int)<((cg.length:Int):Int):=od;first|exact h_|(have e_:=(Kd.cM cB.out).1;omega)|simpa using h_) (seg:=[.int .i64 (wrap64 (((J cg dV).f3)+1))]) (j:=3) RA RB (show 4≤4 from by decide) (x':=(⟨(J cg dV).f0,(J cg dV).f1,(J cg dV).f2,wrap64 (((J cg dV).f3)+1)⟩:aK)) (ni _ _ _ (⟨(J cg dV).f0,(J cg dV).f1,(J cg dV).f2,wrap64 (((J cg dV).f3)+1)⟩:aK)) (fun _ hk=>hk)).1;rw[←a3T.out]at LI;have SZ:=Ah LI;clear RA RB a1X SY LI;refine hK.out _ _ ⟨(Y bA.out 0).trans rfl,(Y bA.out 1).trans rfl,(Y bA.out 2).trans rfl,(Y bA.out 3).trans rfl,a6c,a6d,a6e,a6f⟩ (fun hHeld=> ?_);clear hK K;refine nq 61 ?_;refine a8 7 62 I.out ?_;refine a8 8 63 I.out ?_;refine bM 9 64 I.out aq.out hHeld (hr:=by rintro w' ⟨s0,s1,s2,s3,s4,s5,s6,s7⟩;(try simp only[xX,Nat.zero_add]at s4 s5 s6 s7);go_simp;with_reducible rfl) (h:= ?_);refine a8 10 65 I.out ?_;refine a8 11 66 I.out ?_;refine a8 12 67 I.out ?_;refine qw (i:=13) (N:=none) #[true,true,true,true,true,true,true,true,true,true,true,true,true,true] rfl rfl (bz I.out (by kernel_rfl)) (by decide) (fun K hK=> ?_);refine ke (w1:= ?_) (by rfl) rfl ?_ ?_;rotate_left
    ·
     go_simp
     rfl
    refine hK.out _ _ ?_;clear hK K;refine dP (dW I.out (by kernel_rfl)) ?_;have bj:Z (Kd.R bD 36 (yT.setCell ⟨jl,(dV:Int).toNat*4+3,none⟩ (.int .i64 (F5 (((J cg dV).f3)+1)))) w.heap.size (fun _=>True) (.slice (some ⟨jl,0,none⟩) cg.length AS) UK):=⟨(by first|exact rr SZ.out|exact SZ.out)⟩;have be:Z ((yT.setCell ⟨jl,(dV:Int).toNat*4+3,none⟩ (.int .i64 (F5 (((J cg dV).f3)+1)))).heap[fK]?=some (.cells #[.slice none 0 0,.int .i64 0,.int .i64 0,.int .i64 0] 25 (0,0))):=⟨by(with_reducible repeat(first|refine cS ?_ _|refine aZ ?_|refine cE ?_ _));refine ce ?_ (by have h_:=Kd.d7 cB.out cQ.out (by decide);intro e_;exact h_ (by rw[e_];rfl)) _;exact bk cQ⟩;have cU:Z ((yT.setCell ⟨jl,(dV:Int).toNat*4+3,none⟩ (.int .i64 (F5 (((J cg dV).f3)+1)))).heap[eE]?=some (.cells #[.slice (some ⟨jl,0,none⟩) cg.length AS,.int .i64 dy,.int .i64 dz,.int .i64 dm] 25 (0,0))):=⟨by(with_reducible repeat(first|refine cS ?_ _|refine aZ ?_|refine cE ?_ _));refine ce ?_ (by have h_:=Kd.d7 cB.out bA.out (by decide);intro e_;exact h_ (by rw[e_];rfl)) _;exact bk bA⟩;have dh:Z (aC w0 (yT.setCell ⟨jl,(dV:Int).toNat*4+3,none⟩ (.int .i64 (F5 (((J cg dV).f3)+1)))) g bv MF MG):=⟨aC.kU HI0 XY dq e9⟩;have di:Z (az w (yT.setCell ⟨jl,(dV:Int).toNat*4+3,none⟩ (.int .i64 (F5 (((J cg dV).f3)+1)))) g none):=⟨ks HK SW fD fd⟩;have hX:Z (Below w0.heap.size w0 (yT.setCell ⟨jl,(dV:Int).toNat*4+3,none⟩ (.int .i64 (F5 (((J cg dV).f3)+1))))):=⟨by repeat(first|(with_reducible first|exact HB.out|apply dH|apply dZ|apply bc|refine cn ?_ (aaI HL.out SW.out)|refine cn ?_ (aC.ge HI0.out)|refine cn ?_ gE.out|refine cn ?_ gj.out)|exact HB.out)⟩;(try clear cB);(try clear cQ);(try clear bA);(try clear HI0);(try clear HK);(try clear HB)
    generalize (yT.setCell ⟨jl,(dV:Int).toNat*4+3,none⟩ (.int .i64 (F5 (((J cg dV).f3)+1))))=oI at bj be cU dh di hX⊢
    have cB:=bj;have cQ:=be;have bA:=cU;have HI0:=dh;have HK:=di;have HB:=hX;clear bj be cU dh di hX;have a1o:=ry.out;have a1p:=jY.out;have a1q:=je.out;have a1r:=e9.out;obtain⟨hcz128_0,hcz128_1,hcz128_2,hcz128_3⟩:=aT bA;obtain⟨hfz128_0,hfz128_1,hfz128_2,hfz128_3⟩:=aU bA;have a1u:=kZ.out;have a1v:=dq.out;obtain⟨OL,OM,ON,OO⟩:=aT cQ;obtain⟨OP,OQ,OR,OS⟩:=aU cQ
    try go_wp2
    refine bodyPost_ret (results_cell_row rfl _ _ fK 25 #[.slice (some ⟨jl,0,none⟩) cg.length AS,.int .i64 dy,.int .i64 dz,.int .i64 dm] (0,0) _ rfl (pb cQ) aac rfl (by kernel_rfl)) rfl ?_;exact⟨_,er,by(with_reducible repeat(first|apply Kd.bK|apply Kd.bL|apply Kd.au));exact Kd.am (Kd.aH (p:=⟨fK,3,none⟩) (Kd.aH (p:=⟨fK,2,none⟩) (Kd.aH (p:=⟨fK,1,none⟩) (Kd.aH (p:=⟨fK,0,none⟩) (Kd.dv cB.out cQ.out (by decide)) (fun _ hk=>hk.2) (.slice (some ⟨jl,0,none⟩) cg.length AS)) (fun _ hk=>hk.2) (.int .i64 dy)) (fun _ hk=>hk.2) (.int .i64 dz)) (fun _ hk=>hk.2) (.int .i64 dm)) (fun _ hk=>trivial),aC.hY HI0 dq e9,an HB gE gj,kL HK fD fd⟩
   rw[if_pos c14]at H;have vl:=bV c14;clear c14;replace H:=Ok.mp H;obtain⟨⟨t210,Al,t212⟩,UL,H⟩:=H
   try dsimp only at H
   have W3:=Ah UL;clear UL
   by_cases c16:t210=true
   ·
    subst c16;rw[if_pos rfl]at H;replace H:=Ok.mp H;obtain⟨⟨t213,ML,MM⟩,UM,H⟩:=H
    try dsimp only at H
    have A17:=Ah UM;clear UM;replace H:=Ok.mp H;obtain⟨⟨rU,wD,yU,Am,t222⟩,UN,H⟩:=H
    try dsimp only at H
    have FW:=Ah UN;clear UN;have H_:=Ah H;clear H;have hnb20:=ry.out;have hnc20:=jY.out;have Ki:=je.out;have Kj:=e9.out;obtain⟨qb,qc,qd,qe⟩:=aT bA;obtain⟨qf,qg,qh,qi⟩:=aU bA
    try go_wp2_with (first|((with_reducible refine bY (N:=6) rfl ?_);refine br 6 25 #[.slice none 0 0,.int .i64 0,.int .i64 0,.int .i64 0] ?_;intro bd hg rj d4 hb;replace cB:=nr cB hb;replace HB:=Ah (aM (an HB gE gj) hb);have kg:=Ah ((by rw[hg];exact(mK (w:=w) (g:=g) (row:=none) (kL HK fD fd)):w.heap.size≤bd));have mO:=Ah ((aaI HW0.out (by rw[hg];exact(mK (w:=w) (g:=g) (row:=none) (kL HK fD fd)):w.heap.size≤bd):w0.heap.size≤bd));replace HK:=Ah (az.trans (kL HK fD fd) (az.of_below hb g none) (.inl rfl));have gK:=nn cQ hg;have k4:=nm cQ hg;replace cQ:=nb cQ hb;have cJ:=nn bA hg;have k5:=nm bA hg;replace bA:=nb bA hb;have jH:=Ah ((by rw[hg];exact ek (aC.lt (show aC w0 _ g bv iP iQ from aC.hY HI0 dq e9)):g≠bd));have ug:=Ah ((by rw[hg];exact aaY (aC.lt (show aC w0 _ g bv iP iQ from aC.hY HI0 dq e9)):bd≠g));replace HI0:=Ah (aC.below (aC.hY HI0 dq e9) hb);clear hb hg;obtain⟨rV,rW,a6g⟩:=Kd.dI cB.out;subst a6g;have Sa:=k4.out;have Sb:=gK.out;have hnb26:=k5.out;have hnc26:=cJ.out;have SA:=ug.out;have SB:=jH.out;obtain⟨uU,uV,uW,uX⟩:=aT d4;obtain⟨uY,uZ,ua,ub⟩:=aU d4)|((with_reducible refine bU (f:=31) rfl ?_);refine gL (some 23) rfl rfl abg (by kernel_rfl) rfl #[.pointer (some ⟨g,0,none⟩),.int .i64 3] rfl ?_;(with_reducible refine(iZ.calls g bv iP iQ 3 true Al t212 w0 _ ?aa ?ab W3.out).mono ?_);(case aa=>exact aC.kU HI0 dq e9 jH);(case ab=>exact d9 HB gE gj mO);rintro e F8 ⟨rfl,hi,hb,hk⟩;refine⟨_,rfl, ?_⟩;replace cB:=Ah (Kd.am (Kd.gn (aC.apart (show aC w0 _ g bv iP iQ from aC.kU HI0 dq e9 jH) (rf cB d4) (by decide)) hk (fun _ h=>h.2)) (fun _ h=>h.1));replace cQ:=Ah (az.blk hk (g':=fK) (o:= .cells #[.slice none 0 0,.int .i64 0,.int .i64 0,.int .i64 0] 25 (0,0)) (bf cQ gK) kZ.out (by simp));replace bA:=Ah (az.blk hk (g':=eE) (o:= .cells #[.slice rV cg.length rW,.int .i64 dy,.int .i64 dz,.int .i64 dm] 25 (0,0)) (bf bA cJ) je.out (by simp));replace d4:=Ah (az.blk hk (g':=bd) (o:= .cells #[.slice rV cg.length rW,.int .i64 dy,.int .i64 dz,.int .i64 dm] 25 (0,0)) (pb d4) ug.out (by simp));replace HK:=Ah (az.trans (ks HK fD fd kg) hk (.inl rfl));replace HB:=Ah (hb);replace HI0:=Ah (hi);(try clear hb hk hi)))
    replace cB:=Ah (Kd.au cB.out);replace cQ:=Ah (aZ cQ.out);replace bA:=Ah (aZ bA.out);replace d4:=Ah (aZ d4.out);replace HI0:=Ah (aC.drew HI0.out);replace HK:=Ah (rv HK.out);replace HB:=Ah (bc HB.out);refine dk (n:=9) (S:=fun w'=>w'.cell? ⟨eE,0,none⟩=some (.slice rV cg.length rW)∧w'.cell? ⟨eE,1,none⟩=some (.int .i64 dy)∧w'.cell? ⟨eE,2,none⟩=some (.int .i64 dz)∧w'.cell? ⟨eE,3,none⟩=some (.int .i64 dm)) (ds:=[]) #[false,false,false,false,false,false,false,false,false] (by kernel_rfl) rfl rfl ⟨(Y bA.out 0).trans rfl,(Y bA.out 1).trans rfl,(Y bA.out 2).trans rfl,(Y bA.out 3).trans rfl⟩ (fun hHeld=> ?_);refine dl cP.yN cP.xi (fun I aq=> ?_)
    generalize F8.drew=F9 at cB cQ bA d4 HI0 HK HB hHeld⊢
    refine a8 1 26 I.out ?_;refine bM 0 25 I.out aq.out hHeld (hr:=by rintro w' ⟨s0,s1,s2,s3⟩;go_simp;with_reducible rfl) (h:= ?_);refine cK (i:=2) (N:=some 27) #[true,true,true,false,false,false,false,false,false] rfl rfl (bz I.out (by kernel_rfl)) (by decide) (fun K hK=> ?_);refine cZ aaG (by kernel_rfl) rfl #[.pointer (some ⟨g,0,none⟩),.int .i64 3] (by rfl) rfl rfl (by(try simp only[fT,gJ,j5]);first|done|rfl|(simp only[fF,ca];rfl)) ?_
    with_reducible refine(dw.calls g bv Al t212 3 t213 ML MM w0 _ ?aa ?ab A17.out).mono ?_
    (case aa=>exact aC.kU HI0 dq e9 jH);(case ab=>exact d9 HB gE gj mO);rintro e Vr ⟨rfl,hi,hb,hk⟩;refine⟨_,rfl, ?_⟩;replace cB:=Ah (Kd.am (Kd.gn (aC.apart (show aC w0 _ g bv Al t212 from aC.kU HI0 dq e9 jH) (rr cB.out) (by decide)) hk (fun _ h=>h.2)) (fun _ h=>h.1));replace cQ:=Ah (az.blk hk (g':=fK) (o:= .cells #[.slice none 0 0,.int .i64 0,.int .i64 0,.int .i64 0] 25 (0,0)) (bk cQ) kZ.out (by simp));replace bA:=Ah (az.blk hk (g':=eE) (o:= .cells #[.slice rV cg.length rW,.int .i64 dy,.int .i64 dz,.int .i64 dm] 25 (0,0)) (bk bA) je.out (by simp));replace d4:=Ah (az.blk hk (g':=bd) (o:= .cells #[.slice rV cg.length rW,.int .i64 dy,.int .i64 dz,.int .i64 dm] 25 (0,0)) (bk d4) ug.out (by simp));replace HK:=Ah (az.trans (ks HK fD fd kg) hk (.inl rfl));replace HB:=Ah (hb);replace HI0:=Ah (hi);(try clear hb);(try clear hb2);(try clear hk);(try clear hi);refine hK.out _ _ ⟨(Y bA.out 0).trans rfl,(Y bA.out 1).trans rfl,(Y bA.out 2).trans rfl,(Y bA.out 3).trans rfl⟩ (fun hHeld=> ?_);clear hK K;refine nq 27 ?_;refine cK (i:=3) (N:=some 28) #[true,true,true,true,false,false,false,false,false] rfl rfl (bz I.out (by kernel_rfl)) (by decide) (fun K hK=> ?_);refine cZ Tryd.func37 (by kernel_rfl) rfl #[.agg #[.slice rV cg.length rW,.int .i64 dy,.int .i64 dz,.int .i64 dm],.int .i64 t213] (by rfl) rfl rfl (by(try simp only[fT,gJ,j5]);first|done|rfl|(simp only[fF,ca];rfl)) ?_;have H:=H_.out;clear H_
    by_cases c19:t222=true
    rotate_left
    ·
     replace c19:=iK.mpr c19;subst c19;rw[if_neg dM]at H;have H':=Ah H;clear H
     with_reducible refine(mb.calls k1 _ _ cg dy dz dm t213 rU wD yU Am false _ ?aa ?ab FW.out).mono ?_
     (case aa=>exact kK cB);(case ab=>exact(Kd.cM cB.out).2.1);rintro e BC ⟨a6h,rfl,ho0,hb⟩;refine⟨_,rfl, ?_⟩;have HF:=Ah (Kd.eZ (Kd.eB ho0 (Kd.da (rr cB.out))) (mK (w:=w) (g:=g) (row:=none) (ks HK fD fd kg)));replace cB:=Ah (Kd.e7 (rr cB.out) (Kd.dr ho0) hb);replace cQ:=Ah (bb cQ hb);replace bA:=Ah (bb bA hb);replace d4:=Ah (bb d4 hb);replace HK:=Ah (az.trans (ks HK fD fd kg) (az.of_below hb g none) (.inl rfl));replace HB:=Ah (aM (d9 HB gE gj mO) hb);replace HI0:=Ah (aC.below (aC.kU HI0 dq e9 jH) hb);(try clear hb);(try clear hb2);(try clear hk);(try clear hi);(try clear ho0);obtain⟨a6i,a6j,UO⟩:=Kd.dI HF.out;(first|subst UO|(injection UO with lH q9 lI;have qA:=lH.symm;have qB:=lI.symm;clear lH q9 lI;subst qA;subst qB));refine hK.out _ _ ⟨(Y bA.out 0).trans rfl,(Y bA.out 1).trans rfl,(Y bA.out 2).trans rfl,(Y bA.out 3).trans rfl⟩ (fun hHeld=> ?_);clear hK K;refine nq 28 ?_;refine a8 4 24 I.out ?_;refine a8 5 29 I.out ?_;refine a8 6 30 I.out ?_;refine cK (i:=7) (N:=none) #[true,true,true,true,true,true,true,true,false] rfl rfl (bz I.out (by kernel_rfl)) (by decide) (fun K hK=> ?_);have hs54:BC.cell? ⟨bd,0,none⟩=some (.slice rV cg.length rW):=(Y d4.out 0).trans rfl;have hfs54:=dD d4.out 0;have hns54_0:=gK.out;have hns54_1:=cJ.out;have hms54_0:=k4.out;have hms54_1:=k5.out;have hs55:BC.cell? ⟨bd,1,none⟩=some (.int .i64 dy):=(Y d4.out 1).trans rfl;have hfs55:=dD d4.out 1;have hns55_0:=gK.out;have hns55_1:=cJ.out;have hms55_0:=k4.out;have hms55_1:=k5.out;have hs56:BC.cell? ⟨bd,2,none⟩=some (.int .i64 dz):=(Y d4.out 2).trans rfl;have hfs56:=dD d4.out 2;have hns56_0:=gK.out;have hns56_1:=cJ.out;have hms56_0:=k4.out;have hms56_1:=k5.out;have hs57:BC.cell? ⟨bd,3,none⟩=some (.int .i64 dm):=(Y d4.out 3).trans rfl;have hfs57:=dD d4.out 3;have hns57_0:=gK.out;have hns57_1:=cJ.out;have hms57_0:=k4.out;have hms57_1:=k5.out;refine ke (w1:= ?_) (by rfl) rfl ?_ ?_;rotate_left
     ·
      go_simp
      rfl
     refine hK.out _ _ ⟨((ah (p:=⟨bd,_,none⟩) cJ.out _).trans (((ah (p:=⟨bd,_,none⟩) cJ.out _).trans (((ah (p:=⟨bd,_,none⟩) cJ.out _).trans (((ah (p:=⟨bd,_,none⟩) cJ.out _).trans (hHeld.1)))))))),((ah (p:=⟨bd,_,none⟩) cJ.out _).trans (((ah (p:=⟨bd,_,none⟩) cJ.out _).trans (((ah (p:=⟨bd,_,none⟩) cJ.out _).trans (((ah (p:=⟨bd,_,none⟩) cJ.out _).trans (hHeld.2.1)))))))),((ah (p:=⟨bd,_,none⟩) cJ.out _).trans (((ah (p:=⟨bd,_,none⟩) cJ.out _).trans (((ah (p:=⟨bd,_,none⟩) cJ.out _).trans (((ah (p:=⟨bd,_,none⟩) cJ.out _).trans (hHeld.2.2.1)))))))),((ah (p:=⟨bd,_,none⟩) cJ.out _).trans (((ah (p:=⟨bd,_,none⟩) cJ.out _).trans (((ah (p:=⟨bd,_,none⟩) cJ.out _).trans (((ah (p:=⟨bd,_,none⟩) cJ.out _).trans (hHeld.2.2.2))))))))⟩ (fun hHeld=> ?_);clear hK K;refine a8 8 7 I.out ?_;refine dP (dW I.out (by kernel_rfl)) ?_
     try go_wp2
     go_roundg k1
     case measure=>have:=dp.out;omega
     case rel=>exact⟨(F5 (bQ-1)),(ML),(MM),(cg),(dy),(dz),(dm),(.slice rV cg.length rW),e3,H',⟨by have:=dp.out;omega⟩,⟨by(with_reducible repeat(first|apply Kd.bK|apply Kd.bL|apply Kd.au));exact Kd.am (Kd.aH (p:=⟨bd,3,none⟩) (Kd.aH (p:=⟨bd,2,none⟩) (Kd.aH (p:=⟨bd,1,none⟩) (Kd.aH (p:=⟨bd,0,none⟩) (Kd.dv cB.out d4.out (by decide)) (fun _ hk=>hk.2) (.slice a6i rU.length a6j)) (fun _ hk=>hk.2) (.int .i64 wD)) (fun _ hk=>hk.2) (.int .i64 yU)) (fun _ hk=>hk.2) (.int .i64 Am)) (fun _ hk=>trivial)⟩,⟨bf cQ gK⟩,⟨bf bA cJ⟩,⟨aC.kU HI0 dq e9 jH⟩,⟨ks HK fD fd kg⟩,⟨d9 HB gE gj mO⟩⟩
    subst c19;rw[if_pos rfl]at H;have H':=Ah H;clear H
    with_reducible refine(mb.calls k1 _ _ cg dy dz dm t213 rU wD yU Am true _ ?aa ?ab FW.out).mono ?_
    (case aa=>exact kK cB);(case ab=>exact(Kd.cM cB.out).2.1);rintro e w32 ⟨a6h,rfl,ho0,hb⟩;refine⟨_,rfl, ?_⟩;have HF:=Ah (Kd.eZ (Kd.eB ho0 (Kd.da (rr cB.out))) (mK (w:=w) (g:=g) (row:=none) (ks HK fD fd kg)));replace cB:=Ah (Kd.e7 (rr cB.out) (Kd.dr ho0) hb);replace cQ:=Ah (bb cQ hb);replace bA:=Ah (bb bA hb);replace d4:=Ah (bb d4 hb);replace HK:=Ah (az.trans (ks HK fD fd kg) (az.of_below hb g none) (.inl rfl));replace HB:=Ah (aM (d9 HB gE gj mO) hb);replace HI0:=Ah (aC.below (aC.kU HI0 dq e9 jH) hb);(try clear hb);(try clear hb2);(try clear hk);(try clear hi);(try clear ho0);obtain⟨An,Ao,UP⟩:=Kd.dI HF.out;(first|subst UP|(injection UP with lH q9 lI;have qA:=lH.symm;have qB:=lI.symm;clear lH q9 lI;subst qA;subst qB));refine hK.out _ _ ⟨(Y bA.out 0).trans rfl,(Y bA.out 1).trans rfl,(Y bA.out 2).trans rfl,(Y bA.out 3).trans rfl⟩ (fun hHeld=> ?_);clear hK K;refine nq 28 ?_;refine a8 4 24 I.out ?_;refine a8 5 29 I.out ?_;refine a8 6 30 I.out ?_;refine cK (i:=7) (N:=none) #[true,true,true,true,true,true,true,true,false] rfl rfl (bz I.out (by kernel_rfl)) (by decide) (fun K hK=> ?_);have hs34:w32.cell? ⟨bd,0,none⟩=some (.slice rV cg.length rW):=(Y d4.out 0).trans rfl;have hfs34:=dD d4.out 0;have hns34_0:=gK.out;have hns34_1:=cJ.out;have hms34_0:=k4.out;have hms34_1:=k5.out;have hs35:w32.cell? ⟨bd,1,none⟩=some (.int .i64 dy):=(Y d4.out 1).trans rfl;have hfs35:=dD d4.out 1;have hns35_0:=gK.out;have hns35_1:=cJ.out;have hms35_0:=k4.out;have hms35_1:=k5.out;have hs36:w32.cell? ⟨bd,2,none⟩=some (.int .i64 dz):=(Y d4.out 2).trans rfl;have hfs36:=dD d4.out 2;have hns36_0:=gK.out;have hns36_1:=cJ.out;have hms36_0:=k4.out;have hms36_1:=k5.out;have hs37:w32.cell? ⟨bd,3,none⟩=some (.int .i64 dm):=(Y d4.out 3).trans rfl;have hfs37:=dD d4.out 3;have hns37_0:=gK.out;have hns37_1:=cJ.out;have hms37_0:=k4.out;have hms37_1:=k5.out;refine ke (w1:= ?_) (by rfl) rfl ?_ ?_;rotate_left
    ·
     go_simp
     rfl
    refine hK.out _ _ ⟨((ah (p:=⟨bd,_,none⟩) cJ.out _).trans (((ah (p:=⟨bd,_,none⟩) cJ.out _).trans (((ah (p:=⟨bd,_,none⟩) cJ.out _).trans (((ah (p:=⟨bd,_,none⟩) cJ.out _).trans (hHeld.1)))))))),((ah (p:=⟨bd,_,none⟩) cJ.out _).trans (((ah (p:=⟨bd,_,none⟩) cJ.out _).trans (((ah (p:=⟨bd,_,none⟩) cJ.out _).trans (((ah (p:=⟨bd,_,none⟩) cJ.out _).trans (hHeld.2.1)))))))),((ah (p:=⟨bd,_,none⟩) cJ.out _).trans (((ah (p:=⟨bd,_,none⟩) cJ.out _).trans (((ah (p:=⟨bd,_,none⟩) cJ.out _).trans (((ah (p:=⟨bd,_,none⟩) cJ.out _).trans (hHeld.2.2.1)))))))),((ah (p:=⟨bd,_,none⟩) cJ.out _).trans (((ah (p:=⟨bd,_,none⟩) cJ.out _).trans (((ah (p:=⟨bd,_,none⟩) cJ.out _).trans (((ah (p:=⟨bd,_,none⟩) cJ.out _).trans (hHeld.2.2.2))))))))⟩ (fun hHeld=> ?_);clear hK K;refine a8 8 7 I.out ?_;refine dP (dW I.out (by kernel_rfl)) ?_;obtain⟨zQ,zR,zS,zT⟩:=aT d4;obtain⟨zU,zV,zW,zX⟩:=aU d4;obtain⟨hcz39_0,hcz39_1,hcz39_2,hcz39_3⟩:=aT bA;obtain⟨hfz39_0,hfz39_1,hfz39_2,hfz39_3⟩:=aU bA
    try go_wp2
    go_roundg k1
    case measure=>have:=dp.out;omega
    case rel=>exact⟨(F5 (bQ-1)),(ML),(MM),(rU),(wD),(yU),(Am),(.slice An rU.length Ao),e3,H',⟨by have:=dp.out;omega⟩,⟨by(with_reducible repeat(first|apply Kd.bK|apply Kd.bL|apply Kd.au));exact Kd.am (Kd.aH (p:=⟨eE,3,none⟩) (Kd.aH (p:=⟨eE,2,none⟩) (Kd.aH (p:=⟨eE,1,none⟩) (Kd.aH (p:=⟨eE,0,none⟩) (Kd.aH (p:=⟨bd,3,none⟩) (Kd.aH (p:=⟨bd,2,none⟩) (Kd.aH (p:=⟨bd,1,none⟩) (Kd.aH (p:=⟨bd,0,none⟩) (Kd.dv (Kd.dv HF.out d4.out (by decide)) bA.out (by decide)) (fun _ hk=>hk.1.2) (.slice An rU.length Ao)) (fun _ hk=>hk.1.2) (.int .i64 wD)) (fun _ hk=>hk.1.2) (.int .i64 yU)) (fun _ hk=>hk.1.2) (.int .i64 Am)) (fun _ hk=>hk.2) (.slice An rU.length Ao)) (fun _ hk=>hk.2) (.int .i64 wD)) (fun _ hk=>hk.2) (.int .i64 yU)) (fun _ hk=>hk.2) (.int .i64 Am)) (fun _ hk=>trivial)⟩,⟨by(with_reducible repeat(first|refine cS ?_ _|refine aZ ?_|refine cE ?_ _));refine ce ?_ jY.out _;(with_reducible repeat(first|refine cS ?_ _|refine aZ ?_|refine cE ?_ _));refine ce ?_ jY.out _;(with_reducible repeat(first|refine cS ?_ _|refine aZ ?_|refine cE ?_ _));refine ce ?_ jY.out _;(with_reducible repeat(first|refine cS ?_ _|refine aZ ?_|refine cE ?_ _));refine ce ?_ jY.out _;(with_reducible repeat(first|refine cS ?_ _|refine aZ ?_|refine cE ?_ _));refine ce ?_ gK.out _;(with_reducible repeat(first|refine cS ?_ _|refine aZ ?_|refine cE ?_ _));refine ce ?_ gK.out _;(with_reducible repeat(first|refine cS ?_ _|refine aZ ?_|refine cE ?_ _));refine ce ?_ gK.out _;(with_reducible repeat(first|refine cS ?_ _|refine aZ ?_|refine cE ?_ _));refine ce ?_ gK.out _;exact bk cQ⟩,⟨by(with_reducible repeat(first|refine cS ?_ _|refine aZ ?_|refine cE ?_ _));refine qK (cs:= #[.slice An rU.length Ao,.int .i64 wD,.int .i64 yU,.int .i64 dm]) ?_ 3 _ rfl;(with_reducible repeat(first|refine cS ?_ _|refine aZ ?_|refine cE ?_ _));refine qK (cs:= #[.slice An rU.length Ao,.int .i64 wD,.int .i64 dz,.int .i64 dm]) ?_ 2 _ rfl;(with_reducible repeat(first|refine cS ?_ _|refine aZ ?_|refine cE ?_ _));refine qK (cs:= #[.slice An rU.length Ao,.int .i64 dy,.int .i64 dz,.int .i64 dm]) ?_ 1 _ rfl;(with_reducible repeat(first|refine cS ?_ _|refine aZ ?_|refine cE ?_ _));refine qK (cs:= #[.slice rV cg.length rW,.int .i64 dy,.int .i64 dz,.int .i64 dm]) ?_ 0 _ rfl;(with_reducible repeat(first|refine cS ?_ _|refine aZ ?_|refine cE ?_ _));refine ce ?_ cJ.out _;(with_reducible repeat(first|refine cS ?_ _|refine aZ ?_|refine cE ?_ _));refine ce ?_ cJ.out _;(with_reducible repeat(first|refine cS ?_ _|refine aZ ?_|refine cE ?_ _));refine ce ?_ cJ.out _;(with_reducible repeat(first|refine cS ?_ _|refine aZ ?_|refine cE ?_ _));refine ce ?_ cJ.out _;exact bk bA⟩,⟨aC.kU HI0 dq e9 jH⟩,⟨ks HK fD fd kg⟩,⟨d9 HB gE gj mO⟩⟩
   replace c16:=iK.mpr c16;subst c16;rw[if_neg dM]at H;replace H:=Ok.mp H;obtain⟨⟨ES,MN,MO⟩,UQ,H⟩:=H
   try dsimp only at H
   have A58:=Ah UQ;clear UQ;replace H:=Ok.mp H;obtain⟨⟨t226,t227,t228⟩,UR,H⟩:=H
   try dsimp only at H
   have A59:=Ah UR;clear UR;replace H:=Ok.mp H;obtain⟨⟨t229,t232,t233,t234,a6k⟩,US,H⟩:=H
   try dsimp only at H
   have iz:=Ah US;clear US;have H_:=Ah H;clear H;have hnb62:=ry.out;have hnc62:=jY.out;have a3p:=je.out;have a3q:=e9.out;obtain⟨Zl,Zm,Zn,Zo⟩:=aT bA;obtain⟨Zp,Zq,Zr,Zs⟩:=aU bA
   try go_wp2_with (first|((with_reducible refine bY (N:=6) rfl ?_);refine br 6 25 #[.slice none 0 0,.int .i64 0,.int .i64 0,.int .i64 0] ?_;intro bd hg u0 d4 hb;replace cB:=nr cB hb;replace HB:=Ah (aM (an HB gE gj) hb);have kg:=Ah ((by rw[hg];exact(mK (w:=w) (g:=g) (row:=none) (kL HK fD fd)):w.heap.size≤bd));have mO:=Ah ((aaI HW0.out (by rw[hg];exact(mK (w:=w) (g:=g) (row:=none) (kL HK fD fd)):w.heap.size≤bd):w0.heap.size≤bd));replace HK:=Ah (az.trans (kL HK fD fd) (az.of_below hb g none) (.inl rfl));have gK:=nn cQ hg;have k4:=nm cQ hg;replace cQ:=nb cQ hb;have cJ:=nn bA hg;have k5:=nm bA hg;replace bA:=nb bA hb;have jH:=Ah ((by rw[hg];exact ek (aC.lt (show aC w0 _ g bv iP iQ from aC.hY HI0 dq e9)):g≠bd));have ug:=Ah ((by rw[hg];exact aaY (aC.lt (show aC w0 _ g bv iP iQ from aC.hY HI0 dq e9)):bd≠g));replace HI0:=Ah (aC.below (aC.hY HI0 dq e9) hb);clear hb hg;obtain⟨oQ,oR,a6l⟩:=Kd.dI cB.out;subst a6l;have Kk:=k4.out;have Kl:=gK.out;have a3V:=k5.out;have a3W:=cJ.out;have Km:=ug.out;have Kn:=jH.out;obtain⟨Jh,Ji,Jj,Jk⟩:=aT d4;obtain⟨Jl,Jm,Jn,Jo⟩:=aU d4)|((with_reducible refine bU (f:=31) rfl ?_);refine gL (some 23) rfl rfl abg (by kernel_rfl) rfl #[.pointer (some ⟨g,0,none⟩),.int .i64 3] rfl ?_;(with_reducible refine(iZ.calls g bv iP iQ 3 false Al t212 w0 _ ?aa ?ab W3.out).mono ?_);(case aa=>exact aC.kU HI0 dq e9 jH);(case ab=>exact d9 HB gE gj mO);rintro e FX ⟨rfl,hi,hb,hk⟩;refine⟨_,rfl, ?_⟩;replace cB:=Ah (Kd.am (Kd.gn (aC.apart (show aC w0 _ g bv iP iQ from aC.kU HI0 dq e9 jH) (rf cB d4) (by decide)) hk (fun _ h=>h.2)) (fun _ h=>h.1));replace cQ:=Ah (az.blk hk (g':=fK) (o:= .cells #[.slice none 0 0,.int .i64 0,.int .i64 0,.int .i64 0] 25 (0,0)) (bf cQ gK) kZ.out (by simp));replace bA:=Ah (az.blk hk (g':=eE) (o:= .cells #[.slice oQ cg.length oR,.int .i64 dy,.int .i64 dz,.int .i64 dm] 25 (0,0)) (bf bA cJ) je.out (by simp));replace d4:=Ah (az.blk hk (g':=bd) (o:= .cells #[.slice oQ cg.length oR,.int .i64 dy,.int .i64 dz,.int .i64 dm] 25 (0,0)) (pb d4) ug.out (by simp));replace HK:=Ah (az.trans (ks HK fD fd kg) hk (.inl rfl));replace HB:=Ah (hb);replace HI0:=Ah (hi);(try clear hb hk hi)))
   replace cB:=Ah (Kd.au cB.out);replace cQ:=Ah (aZ cQ.out);replace bA:=Ah (aZ bA.out);replace d4:=Ah (aZ d4.out);replace HI0:=Ah (aC.drew HI0.out);replace HK:=Ah (rv HK.out);replace HB:=Ah (bc HB.out);refine dk (n:=11) (S:=fun w'=>w'.cell? ⟨eE,0,none⟩=some (.slice oQ cg.length oR)∧w'.cell? ⟨eE,1,none⟩=some (.int .i64 dy)∧w'.cell? ⟨eE,2,none⟩=some (.int .i64 dz)∧w'.cell? ⟨eE,3,none⟩=some (.int .i64 dm)) (ds:=[]) #[false,false,false,false,false,false,false,false,false,false,false] (by kernel_rfl) rfl rfl ⟨(Y bA.out 0).trans rfl,(Y bA.out 1).trans rfl,(Y bA.out 2).trans rfl,(Y bA.out 3).trans rfl⟩ (fun hHeld=> ?_);refine dl cP.a5Y cP.a3N (fun I aq=> ?_)
   generalize FX.drew=W4 at cB cQ bA d4 HI0 HK HB hHeld⊢
   refine a8 1 33 I.out ?_;refine a8 2 34 I.out ?_;refine bM 0 32 I.out aq.out hHeld (hr:=by rintro w' ⟨s0,s1,s2,s3⟩;go_simp;with_reducible rfl) (h:= ?_);refine cK (i:=3) (N:=some 35) #[true,true,true,true,false,false,false,false,false,false,false] rfl rfl (bz I.out (by kernel_rfl)) (by decide) (fun K hK=> ?_);refine cZ aaG (by kernel_rfl) rfl #[.pointer (some ⟨g,0,none⟩),.int .i64 5] (by rfl) rfl rfl (by(try simp only[fT,gJ,j5]);first|done|rfl|(simp only[fF,ca];rfl)) ?_
   with_reducible refine(dw.calls g bv Al t212 5 ES MN MO w0 _ ?aa ?ab A58.out).mono ?_
   (case aa=>exact aC.kU HI0 dq e9 jH);(case ab=>exact d9 HB gE gj mO);rintro e w73 ⟨rfl,hi,hb,hk⟩;refine⟨_,rfl, ?_⟩;replace cB:=Ah (Kd.am (Kd.gn (aC.apart (show aC w0 _ g bv Al t212 from aC.kU HI0 dq e9 jH) (rr cB.out) (by decide)) hk (fun _ h=>h.2)) (fun _ h=>h.1));replace cQ:=Ah (az.blk hk (g':=fK) (o:= .cells #[.slice none 0 0,.int .i64 0,.int .i64 0,.int .i64 0] 25 (0,0)) (bk cQ) kZ.out (by simp));replace bA:=Ah (az.blk hk (g':=eE) (o:= .cells #[.slice oQ cg.length oR,.int .i64 dy,.int .i64 dz,.int .i64 dm] 25 (0,0)) (bk bA) je.out (by simp));replace d4:=Ah (az.blk hk (g':=bd) (o:= .cells #[.slice oQ cg.length oR,.int .i64 dy,.int .i64 dz,.int .i64 dm] 25 (0,0)) (bk d4) ug.out (by simp));replace HK:=Ah (az.trans (ks HK fD fd kg) hk (.inl rfl));replace HB:=Ah (hb);replace HI0:=Ah (hi);(try clear hb);(try clear hb2);(try clear hk);(try clear hi);refine hK.out _ _ ⟨(Y bA.out 0).trans rfl,(Y bA.out 1).trans rfl,(Y bA.out 2).trans rfl,(Y bA.out 3).trans rfl⟩ (fun hHeld=> ?_);clear hK K;refine nq 35 ?_;refine cK (i:=4) (N:=some 36) #[true,true,true,true,true,false,false,false,false,false,false] rfl rfl (bz I.out (by kernel_rfl)) (by decide) (fun K hK=> ?_);refine cZ Tryd.func19 (by kernel_rfl) rfl #[.pointer (some ⟨g,0,none⟩),.int .i64 ES] (by rfl) rfl rfl (by(try simp only[fT,gJ,j5]);first|done|rfl|(simp only[fF,ca];rfl)) ?_
   with_reducible refine(fP.calls k1 g bv MN MO ES t226 t227 t228 w0 _ ?aa ?ab A59.out).mono ?_
   (case aa=>exact aC.kU HI0 dq e9 jH);(case ab=>exact d9 HB gE gj mO);rintro e zB ⟨rfl,hi,hb,hk⟩;refine⟨_,rfl, ?_⟩;replace cB:=Ah (Kd.am (Kd.gn (aC.apart (show aC w0 _ g bv MN MO from aC.kU HI0 dq e9 jH) (rr cB.out) (by decide)) hk (fun _ h=>h.2)) (fun _ h=>h.1));replace cQ:=Ah (az.blk hk (g':=fK) (o:= .cells #[.slice none 0 0,.int .i64 0,.int .i64 0,.int .i64 0] 25 (0,0)) (bk cQ) kZ.out (by simp));replace bA:=Ah (az.blk hk (g':=eE) (o:= .cells #[.slice oQ cg.length oR,.int .i64 dy,.int .i64 dz,.int .i64 dm] 25 (0,0)) (bk bA) je.out (by simp));replace d4:=Ah (az.blk hk (g':=bd) (o:= .cells #[.slice oQ cg.length oR,.int .i64 dy,.int .i64 dz,.int .i64 dm] 25 (0,0)) (bk d4) ug.out (by simp));replace HK:=Ah (az.trans (ks HK fD fd kg) hk (.inl rfl));replace HB:=Ah (hb);replace HI0:=Ah (hi);(try clear hb);(try clear hb2);(try clear hk);(try clear hi);refine hK.out _ _ ⟨(Y bA.out 0).trans rfl,(Y bA.out 1).trans rfl,(Y bA.out 2).trans rfl,(Y bA.out 3).trans rfl⟩ (fun hHeld=> ?_);clear hK K;refine nq 36 ?_;refine cK (i:=5) (N:=some 37) #[true,true,true,true,true,true,false,false,false,false,false] rfl rfl (bz I.out (by kernel_rfl)) (by decide) (fun K hK=> ?_);refine cZ Tryd.func6 (by kernel_rfl) rfl #[.agg #[.slice oQ cg.length oR,.int .i64 dy,.int .i64 dz,.int .i64 dm],.string t226] (by rfl) rfl rfl (by(try simp only[fT,gJ,j5]);first|done|rfl|(simp only[fF,ca];rfl)) ?_;have H:=H_.out;clear H_
   by_cases jz:a6k=true
   rotate_left
   ·
    replace jz:=iK.mpr jz;subst jz;rw[if_neg dM]at H;have H':=Ah H;clear H
    with_reducible refine(dj.calls k1 _ _ cg dy dz dm t226 t229 t232 t233 t234 false _ ?aa ?ab iz.out).mono ?_
    (case aa=>exact kK cB);(case ab=>exact(Kd.cM cB.out).2.1);rintro e qC ⟨a6m,rfl,ho0,hb⟩;refine⟨_,rfl, ?_⟩;have HG:=Ah (Kd.eZ (Kd.eB ho0 (Kd.da (rr cB.out))) (mK (w:=w) (g:=g) (row:=none) (ks HK fD fd kg)));replace cB:=Ah (Kd.e7 (rr cB.out) (Kd.dr ho0) hb);replace cQ:=Ah (bb cQ hb);replace bA:=Ah (bb bA hb);replace d4:=Ah (bb d4 hb);replace HK:=Ah (az.trans (ks HK fD fd kg) (az.of_below hb g none) (.inl rfl));replace HB:=Ah (aM (d9 HB gE gj mO) hb);replace HI0:=Ah (aC.below (aC.kU HI0 dq e9 jH) hb);(try clear hb);(try clear hb2);(try clear hk);(try clear hi);(try clear ho0);obtain⟨a6n,a6o,UT⟩:=Kd.dI HG.out;(first|subst UT|(injection UT with lH q9 lI;have qA:=lH.symm;have qB:=lI.symm;clear lH q9 lI;subst qA;subst qB));refine hK.out _ _ ⟨(Y bA.out 0).trans rfl,(Y bA.out 1).trans rfl,(Y bA.out 2).trans rfl,(Y bA.out 3).trans rfl⟩ (fun hHeld=> ?_);clear hK K;refine nq 37 ?_;refine a8 6 31 I.out ?_;refine a8 7 38 I.out ?_;refine a8 8 39 I.out ?_;refine cK (i:=9) (N:=none) #[true,true,true,true,true,true,true,true,true,true,false] rfl rfl (bz I.out (by kernel_rfl)) (by decide) (fun K hK=> ?_);have hs98:qC.cell? ⟨bd,0,none⟩=some (.slice oQ cg.length oR):=(Y d4.out 0).trans rfl;have hfs98:=dD d4.out 0;have hns98_0:=gK.out;have hns98_1:=cJ.out;have hms98_0:=k4.out;have hms98_1:=k5.out;have hs99:qC.cell? ⟨bd,1,none⟩=some (.int .i64 dy):=(Y d4.out 1).trans rfl;have hfs99:=dD d4.out 1;have hns99_0:=gK.out;have hns99_1:=cJ.out;have hms99_0:=k4.out;have hms99_1:=k5.out;have hs100:qC.cell? ⟨bd,2,none⟩=some (.int .i64 dz):=(Y d4.out 2).trans rfl;have hfs100:=dD d4.out 2;have hns100_0:=gK.out;have hns100_1:=cJ.out;have hms100_0:=k4.out;have hms100_1:=k5.out;have hs101:qC.cell? ⟨bd,3,none⟩=some (.int .i64 dm):=(Y d4.out 3).trans rfl;have hfs101:=dD d4.out 3;have hns101_0:=gK.out;have hns101_1:=cJ.out;have hms101_0:=k4.out;have hms101_1:=k5.out;refine ke (w1:= ?_) (by rfl) rfl ?_ ?_;rotate_left
    ·
     go_simp
     rfl
    refine hK.out _ _ ⟨((ah (p:=⟨bd,_,none⟩) cJ.out _).trans (((ah (p:=⟨bd,_,none⟩) cJ.out _).trans (((ah (p:=⟨bd,_,none⟩) cJ.out _).trans (((ah (p:=⟨bd,_,none⟩) cJ.out _).trans (hHeld.1)))))))),((ah (p:=⟨bd,_,none⟩) cJ.out _).trans (((ah (p:=⟨bd,_,none⟩) cJ.out _).trans (((ah (p:=⟨bd,_,none⟩) cJ.out _).trans (((ah (p:=⟨bd,_,none⟩) cJ.out _).trans (hHeld.2.1)))))))),((ah (p:=⟨bd,_,none⟩) cJ.out _).trans (((ah (p:=⟨bd,_,none⟩) cJ.out _).trans (((ah (p:=⟨bd,_,none⟩) cJ.out _).trans (((ah (p:=⟨bd,_,none⟩) cJ.out _).trans (hHeld.2.2.1)))))))),((ah (p:=⟨bd,_,none⟩) cJ.out _).trans (((ah (p:=⟨bd,_,none⟩) cJ.out _).trans (((ah (p:=⟨bd,_,none⟩) cJ.out _).trans (((ah (p:=⟨bd,_,none⟩) cJ.out _).trans (hHeld.2.2.2))))))))⟩ (fun hHeld=> ?_);clear hK K;refine a8 10 7 I.out ?_;refine dP (dW I.out (by kernel_rfl)) ?_
    try go_wp2
    go_roundg k1
    case measure=>have:=dp.out;omega
    case rel=>exact⟨(F5 (bQ-1)),(t227),(t228),(cg),(dy),(dz),(dm),(.slice oQ cg.length oR),e3,H',⟨by have:=dp.out;omega⟩,⟨by(with_reducible repeat(first|apply Kd.bK|apply Kd.bL|apply Kd.au));exact Kd.am (Kd.aH (p:=⟨bd,3,none⟩) (Kd.aH (p:=⟨bd,2,none⟩) (Kd.aH (p:=⟨bd,1,none⟩) (Kd.aH (p:=⟨bd,0,none⟩) (Kd.dv cB.out d4.out (by decide)) (fun _ hk=>hk.2) (.slice a6n t229.length a6o)) (fun _ hk=>hk.2) (.int .i64 t232)) (fun _ hk=>hk.2) (.int .i64 t233)) (fun _ hk=>hk.2) (.int .i64 t234)) (fun _ hk=>trivial)⟩,⟨bf cQ gK⟩,⟨bf bA cJ⟩,⟨aC.kU HI0 dq e9 jH⟩,⟨ks HK fD fd kg⟩,⟨d9 HB gE gj mO⟩⟩
   subst jz;rw[if_pos rfl]at H;have H':=Ah H;clear H
   with_reducible refine(dj.calls k1 _ _ cg dy dz dm t226 t229 t232 t233 t234 true _ ?aa ?ab iz.out).mono ?_
   (case aa=>exact kK cB);(case ab=>exact(Kd.cM cB.out).2.1);rintro e FY ⟨a6m,rfl,ho0,hb⟩;refine⟨_,rfl, ?_⟩;have HG:=Ah (Kd.eZ (Kd.eB ho0 (Kd.da (rr cB.out))) (mK (w:=w) (g:=g) (row:=none) (ks HK fD fd kg)));replace cB:=Ah (Kd.e7 (rr cB.out) (Kd.dr ho0) hb);replace cQ:=Ah (bb cQ hb);replace bA:=Ah (bb bA hb);replace d4:=Ah (bb d4 hb);replace HK:=Ah (az.trans (ks HK fD fd kg) (az.of_below hb g none) (.inl rfl));replace HB:=Ah (aM (d9 HB gE gj mO) hb);replace HI0:=Ah (aC.below (aC.kU HI0 dq e9 jH) hb);(try clear hb);(try clear hb2);(try clear hk);(try clear hi);(try clear ho0);obtain⟨Ap,Aq,UU⟩:=Kd.dI HG.out;(first|subst UU|(injection UU with lH q9 lI;have qA:=lH.symm;have qB:=lI.symm;clear lH q9 lI;subst qA;subst qB));refine hK.out _ _ ⟨(Y bA.out 0).trans rfl,(Y bA.out 1).trans rfl,(Y bA.out 2).trans rfl,(Y bA.out 3).trans rfl⟩ (fun hHeld=> ?_);clear hK K;refine nq 37 ?_;refine a8 6 31 I.out ?_;refine a8 7 38 I.out ?_;refine a8 8 39 I.out ?_;refine cK (i:=9) (N:=none) #[true,true,true,true,true,true,true,true,true,true,false] rfl rfl (bz I.out (by kernel_rfl)) (by decide) (fun K hK=> ?_);have hs77:FY.cell? ⟨bd,0,none⟩=some (.slice oQ cg.length oR):=(Y d4.out 0).trans rfl;have hfs77:=dD d4.out 0;have hns77_0:=gK.out;have hns77_1:=cJ.out;have hms77_0:=k4.out;have hms77_1:=k5.out;have hs78:FY.cell? ⟨bd,1,none⟩=some (.int .i64 dy):=(Y d4.out 1).trans rfl;have hfs78:=dD d4.out 1;have hns78_0:=gK.out;have hns78_1:=cJ.out;have hms78_0:=k4.out;have hms78_1:=k5.out;have hs79:FY.cell? ⟨bd,2,none⟩=some (.int .i64 dz):=(Y d4.out 2).trans rfl;have hfs79:=dD d4.out 2;have hns79_0:=gK.out;have hns79_1:=cJ.out;have hms79_0:=k4.out;have hms79_1:=k5.out;have hs80:FY.cell? ⟨bd,3,none⟩=some (.int .i64 dm):=(Y d4.out 3).trans rfl;have hfs80:=dD d4.out 3;have hns80_0:=gK.out;have hns80_1:=cJ.out;have hms80_0:=k4.out;have hms80_1:=k5.out;refine ke (w1:= ?_) (by rfl) rfl ?_ ?_;rotate_left
   ·
    go_simp
    rfl
   refine hK.out _ _ ⟨((ah (p:=⟨bd,_,none⟩) cJ.out _).trans (((ah (p:=⟨bd,_,none⟩) cJ.out _).trans (((ah (p:=⟨bd,_,none⟩) cJ.out _).trans (((ah (p:=⟨bd,_,none⟩) cJ.out _).trans (hHeld.1)))))))),((ah (p:=⟨bd,_,none⟩) cJ.out _).trans (((ah (p:=⟨bd,_,none⟩) cJ.out _).trans (((ah (p:=⟨bd,_,none⟩) cJ.out _).trans (((ah (p:=⟨bd,_,none⟩) cJ.out _).trans (hHeld.2.1)))))))),((ah (p:=⟨bd,_,none⟩) cJ.out _).trans (((ah (p:=⟨bd,_,none⟩) cJ.out _).trans (((ah (p:=⟨bd,_,none⟩) cJ.out _).trans (((ah (p:=⟨bd,_,none⟩) cJ.out _).trans (hHeld.2.2.1)))))))),((ah (p:=⟨bd,_,none⟩) cJ.out _).trans (((ah (p:=⟨bd,_,none⟩) cJ.out _).trans (((ah (p:=⟨bd,_,none⟩) cJ.out _).trans (((ah (p:=⟨bd,_,none⟩) cJ.out _).trans (hHeld.2.2.2))))))))⟩ (fun hHeld=> ?_);clear hK K;refine a8 10 7 I.out ?_;refine dP (dW I.out (by kernel_rfl)) ?_;obtain⟨PQ,PR,PS,PT⟩:=aT d4;obtain⟨PU,PV,PW,PX⟩:=aU d4;obtain⟨hcz82_0,hcz82_1,hcz82_2,hcz82_3⟩:=aT bA;obtain⟨hfz82_0,hfz82_1,hfz82_2,hfz82_3⟩:=aU bA
   try go_wp2
   go_roundg k1
   case measure=>have:=dp.out;omega
   case rel=>exact⟨(F5 (bQ-1)),(t227),(t228),(t229),(t232),(t233),(t234),(.slice Ap t229.length Aq),e3,H',⟨by have:=dp.out;omega⟩,⟨by(with_reducible repeat(first|apply Kd.bK|apply Kd.bL|apply Kd.au));exact Kd.am (Kd.aH (p:=⟨eE,3,none⟩) (Kd.aH (p:=⟨eE,2,none⟩) (Kd.aH (p:=⟨eE,1,none⟩) (Kd.aH (p:=⟨eE,0,none⟩) (Kd.aH (p:=⟨bd,3,none⟩) (Kd.aH (p:=⟨bd,2,none⟩) (Kd.aH (p:=⟨bd,1,none⟩) (Kd.aH (p:=⟨bd,0,none⟩) (Kd.dv (Kd.dv HG.out d4.out (by decide)) bA.out (by decide)) (fun _ hk=>hk.1.2) (.slice Ap t229.length Aq)) (fun _ hk=>hk.1.2) (.int .i64 t232)) (fun _ hk=>hk.1.2) (.int .i64 t233)) (fun _ hk=>hk.1.2) (.int .i64 t234)) (fun _ hk=>hk.2) (.slice Ap t229.length Aq)) (fun _ hk=>hk.2) (.int .i64 t232)) (fun _ hk=>hk.2) (.int .i64 t233)) (fun _ hk=>hk.2) (.int .i64 t234)) (fun _ hk=>trivial)⟩,⟨by(with_reducible repeat(first|refine cS ?_ _|refine aZ ?_|refine cE ?_ _));refine ce ?_ jY.out _;(with_reducible repeat(first|refine cS ?_ _|refine aZ ?_|refine cE ?_ _));refine ce ?_ jY.out _;(with_reducible repeat(first|refine cS ?_ _|refine aZ ?_|refine cE ?_ _));refine ce ?_ jY.out _;(with_reducible repeat(first|refine cS ?_ _|refine aZ ?_|refine cE ?_ _));refine ce ?_ jY.out _;(with_reducible repeat(first|refine cS ?_ _|refine aZ ?_|refine cE ?_ _));refine ce ?_ gK.out _;(with_reducible repeat(first|refine cS ?_ _|refine aZ ?_|refine cE ?_ _));refine ce ?_ gK.out _;(with_reducible repeat(first|refine cS ?_ _|refine aZ ?_|refine cE ?_ _));refine ce ?_ gK.out _;(with_reducible repeat(first|refine cS ?_ _|refine aZ ?_|refine cE ?_ _));refine ce ?_ gK.out _;exact bk cQ⟩,⟨by(with_reducible repeat(first|refine cS ?_ _|refine aZ ?_|refine cE ?_ _));refine qK (cs:= #[.slice Ap t229.length Aq,.int .i64 t232,.int .i64 t233,.int .i64 dm]) ?_ 3 _ rfl;(with_reducible repeat(first|refine cS ?_ _|refine aZ ?_|refine cE ?_ _));refine qK (cs:= #[.slice Ap t229.length Aq,.int .i64 t232,.int .i64 dz,.int .i64 dm]) ?_ 2 _ rfl;(with_reducible repeat(first|refine cS ?_ _|refine aZ ?_|refine cE ?_ _));refine qK (cs:= #[.slice Ap t229.length Aq,.int .i64 dy,.int .i64 dz,.int .i64 dm]) ?_ 1 _ rfl;(with_reducible repeat(first|refine cS ?_ _|refine aZ ?_|refine cE ?_ _));refine qK (cs:= #[.slice oQ cg.length oR,.int .i64 dy,.int .i64 dz,.int .i64 dm]) ?_ 0 _ rfl;(with_reducible repeat(first|refine cS ?_ _|refine aZ ?_|refine cE ?_ _));refine ce ?_ cJ.out _;(with_reducible repeat(first|refine cS ?_ _|refine aZ ?_|refine cE ?_ _));refine ce ?_ cJ.out _;(with_reducible repeat(first|refine cS ?_ _|refine aZ ?_|refine cE ?_ _));refine ce ?_ cJ.out _;(with_reducible repeat(first|refine cS ?_ _|refine aZ ?_|refine cE ?_ _));refine ce ?_ cJ.out _;exact bk bA⟩,⟨aC.kU HI0 dq e9 jH⟩,⟨ks HK fD fd kg⟩,⟨d9 HB gE gj mO⟩⟩
def lc.f(k:Nat)(l0:List Int):Option ((List (aK))×Int×Int×Int×ByteArray):=(cP.f k l0 0 0).bind fun nN=>((dw.f l0 nN.2.2.2.2.1 nN.2.2.2.2.2 14).bind fun xr=>((fP.f k l0 xr.2.1 xr.2.2 xr.1).bind fun LJ=>(some (nN.1,nN.2.1,nN.2.2.1,nN.2.2.2.1,LJ.1))))
theorem lc.mono:∀a0 k,aJ (lc.f k a0) (lc.f (k+1) a0):=by
 intro a0 k;unfold lc.f
 repeat' with_reducible first|exact cP.mono _ _ _ _|exact fP.mono _ _ _ _ _|exact aJ.refl _|exact aJ.none _|refine aJ.ite ?_ ?_|refine aJ.bind ?_ (fun _=> ?_)
theorem lc.calls(k:Nat)(A0:Option Addr)(c0:Nat)(l0:List Int)(r1:List (aK))(r2:Int)(r3:Int)(r4:Int)(r5:ByteArray)(w:World)(hr0:Kd.C (Kd.int .u8) w A0 l0.length l0)(hc0:l0.length≤c0)(h:lc.f k l0=some (r1,r2,r3,r4,r5)):
 Calls aaf 4 #[.slice A0 l0.length c0] w fun e w'=>∃fA:Value,e= .returned (.tuple #[.agg #[fA,.int .i64 r2,.int .i64 r3,.int .i64 r4],.string r5])∧Kd.R bD 36 w' w.heap.size (fun _=>True) fA r1∧Below w.heap.size w w':=by
 have lP:=aac;have UV:=Tryd.underlying48;have fO:=Ah hr0;have tq:=Ah hc0;clear hr0 hc0;have HB:=Ah (aag w.heap.size w);have H:((cP.f k l0 0 0).bind fun nN=>((dw.f l0 nN.2.2.2.2.1 nN.2.2.2.2.2 14).bind fun xr=>((fP.f k l0 xr.2.1 xr.2.2 xr.1).bind fun LJ=>(some (nN.1,nN.2.1,nN.2.2.1,nN.2.2.2.1,LJ.1)))))=some (r1,r2,r3,r4,r5):=h;clear h;replace H:=Ok.mp H;obtain⟨⟨MP,MQ,MR,MS,MT,MU⟩,eg,H⟩:=H
 try dsimp only at H
 have A2:=Ah eg;clear eg;replace H:=Ok.mp H;obtain⟨⟨MV,MW,MX⟩,iJ,H⟩:=H
 try dsimp only at H
 have A3:=Ah iJ;clear iJ;replace H:=Ok.mp H;obtain⟨⟨a6p,a6q,a6r⟩,fo,H⟩:=H
 try dsimp only at H
 have A4:=Ah fo;clear fo;simp only[aaa,aad]at H;obtain⟨rfl,rfl,rfl,rfl,rfl⟩:=H
 go_enter Tryd.func4,Tryd.ntmps4
 go_wp2_with (first|((with_reducible refine bY (N:=2) rfl ?_);refine br 2 25 #[.slice none 0 0,.int .i64 0,.int .i64 0,.int .i64 0] ?_;intro vn hg w5 mP hb;have GW250:=gw hg (bs HB);have vo:=gw hg (bs HB);replace HB:=Ah (aM (bs HB) hb);clear hb hg)|((with_reducible refine bY (N:=7) rfl ?_);refine br 7 48 #[.slice A0 l0.length c0,.int .i64 0,.int .u64 0] ?_;intro tK hg w6 a3X hb;have GW251:=gw hg (aX HB vo);have a3Y:=gw hg (aX HB vo);replace HB:=Ah (aM (aX HB vo) hb);have G0:=nn mP hg;have zK:=nm mP hg;replace mP:=nb mP hb;clear hb hg;have vp:=Ah (show aC w w6 tK l0 0 0 from⟨_,_,(bk a3X),a3Y.out,fO.out⟩))|((with_reducible refine bU (f:=18) rfl ?_);refine gL (some 9) rfl rfl Tryd.func18 (by kernel_rfl) rfl #[.pointer (some ⟨tK,0,none⟩)] rfl ?_;(with_reducible refine(cP.calls k tK l0 0 0 MP MQ MR MS MT MU w _ ?aa ?ab A2.out).mono ?_);(case aa=>exact aC.fg vp zK);(case ab=>exact aX HB vo);rintro e w7 ⟨v253,rfl,ho0,hi,hb,hk⟩;refine⟨_,rfl, ?_⟩;replace mP:=Ah (az.blk hk (g':=vn) (o:= .cells #[.slice none 0 0,.int .i64 0,.int .i64 0,.int .i64 0] 25 (0,0)) (bk mP) G0.out (by simp));have AT:=Ah (Kd.eZ ho0 (eo (aX HB vo)));replace HB:=Ah (hb);replace vp:=Ah (hi);(try clear hb hk hi ho0))|((with_reducible refine bU (f:=20) rfl ?_);refine gL (some 12) rfl rfl aaG (by kernel_rfl) rfl #[.pointer (some ⟨tK,0,none⟩),.int .i64 14] rfl ?_;(with_reducible refine(dw.calls tK l0 MT MU 14 MV MW MX w _ ?aa ?ab A3.out).mono ?_);(case aa=>exact aC.fg vp zK);(case ab=>exact aX HB vo);rintro e w8 ⟨rfl,hi,hb,hk⟩;refine⟨_,rfl, ?_⟩;replace mP:=Ah (az.blk hk (g':=vn) (o:= .cells #[.slice none 0 0,.int .i64 0,.int .i64 0,.int .i64 0] 25 (0,0)) (bk mP) G0.out (by simp));replace AT:=Ah (Kd.am (Kd.gn (aC.apart (show aC w _ tK l0 MT MU from aC.fg vp zK) (rr AT.out) (by decide)) hk (fun _ h=>h.2)) (fun _ h=>h.1));replace HB:=Ah (hb);replace vp:=Ah (hi);(try clear hb hk hi))|((with_reducible refine bU (f:=19) rfl ?_);refine gL (some 13) rfl rfl Tryd.func19 (by kernel_rfl) rfl #[.pointer (some ⟨tK,0,none⟩),.int .i64 MV] rfl ?_;(with_reducible refine(fP.calls k tK l0 MW MX MV a6p a6q a6r w _ ?aa ?ab A4.out).mono ?_);(case aa=>exact aC.fg vp zK);(case ab=>exact aX HB vo);rintro e w9 ⟨rfl,hi,hb,hk⟩;refine⟨_,rfl, ?_⟩;replace mP:=Ah (az.blk hk (g':=vn) (o:= .cells #[.slice none 0 0,.int .i64 0,.int .i64 0,.int .i64 0] 25 (0,0)) (bk mP) G0.out (by simp));replace AT:=Ah (Kd.am (Kd.gn (aC.apart (show aC w _ tK l0 MW MX from aC.fg vp zK) (rr AT.out) (by decide)) hk (fun _ h=>h.2)) (fun _ h=>h.1));replace HB:=Ah (hb);replace vp:=Ah (hi);(try clear hb hk hi);obtain⟨oF,mR,nS⟩:=Kd.dI AT.out;subst nS;have L7:=G0.out;have L8:=zK.out;obtain⟨sL,sM,sN,sO⟩:=aT mP;obtain⟨sP,sQ,sR,sS⟩:=aU mP))
 refine bodyPost_ret (gC rfl _ _ vn 25 #[.slice oF MP.length mR,.int .i64 MQ,.int .i64 MR,.int .i64 MS] (0,0) _ rfl (pb mP) aac rfl (by kernel_rfl)) rfl ?_;exact⟨_,er,by(with_reducible repeat(first|apply Kd.bK|apply Kd.bL|apply Kd.au));exact Kd.am (Kd.aH (p:=⟨vn,3,none⟩) (Kd.aH (p:=⟨vn,2,none⟩) (Kd.aH (p:=⟨vn,1,none⟩) (Kd.aH (p:=⟨vn,0,none⟩) (Kd.dv AT.out mP.out (by decide)) (fun _ hk=>hk.2) (.slice oF MP.length mR)) (fun _ hk=>hk.2) (.int .i64 MQ)) (fun _ hk=>hk.2) (.int .i64 MR)) (fun _ hk=>hk.2) (.int .i64 MS)) (fun _ hk=>trivial),aX HB vo⟩
def fb.f(a0:Int)(a1:Int)(a2:Int):Option (Bool):=if a0≥a1 then(some (decide (a0≤a2)))else(some false)
theorem fb.calls(a0:Int)(a1:Int)(a2:Int)(r:Bool)(w:World)(h:fb.f a0 a1 a2=some r):
 Calls aaf 28 #[.int .i64 a0,.int .i64 a1,.int .i64 a2] w fun e w'=>e= .returned (.bool r)∧fQ w w':=by
 have H:(if a0≥a1 then(some (decide (a0≤a2)))else(some false))=some r:=h;clear h
 by_cases c4:a0≥a1
 ·
  rw[if_pos c4]at H;have rO:=bV c4;clear c4;obtain rfl:=qE H
  go_enter aaV,Tryd.ntmps28
  go_wp2
  go_ret
  exact⟨by first|rfl|(simp;done)|(simp[*];done),by repeat(first|exact fQ.refl _|apply fQ.step)⟩
 ·
  rw[if_neg c4]at H;have rO:=ev c4;clear c4;obtain rfl:=qE H
  go_enter aaV,Tryd.ntmps28
  go_wp2
  go_ret
  exact⟨by first|rfl|(simp;done)|(simp[*];done),by repeat(first|exact fQ.refl _|apply fQ.step)⟩
def ku.f(bI:Int)(aA:Int)(aD:ByteArray)(aE:Int):Option (Bool):=(fb.f bI 0 1000000).bind fun ET=>(if ET=true then((fb.f aA 0 10000000).bind fun EU=>(if EU=true then(some (decide ((aD.size:Int)≤12)))else(some false)))else(some false))
theorem ku.calls(bI:Int)(aA:Int)(aD:ByteArray)(aE:Int)(r:Bool)(w:World)(h:ku.f bI aA aD aE=some r):
 Calls aaf 27 #[.agg #[.int .i64 bI,.int .i64 aA,.string aD,.int .i64 aE]] w fun e w'=>e= .returned (.bool r)∧Below w.heap.size w w':=by
 have kH:=aan;have HB:=Ah (aag w.heap.size w);have H:((fb.f bI 0 1000000).bind fun ET=>(if ET=true then((fb.f aA 0 10000000).bind fun EU=>(if EU=true then(some (decide ((aD.size:Int)≤12)))else(some false)))else(some false)))=some r:=h;clear h;replace H:=Ok.mp H;obtain⟨ET,eg,H⟩:=H
 try dsimp only at H
 have A2:=Ah eg;clear eg
 by_cases c3:ET=true
 rotate_left
 ·
  replace c3:=iK.mpr c3;subst c3;rw[if_neg dM]at H;obtain rfl:=qE H
  go_enter abu,Tryd.ntmps27
  go_wp2_with (first|((with_reducible refine bY (N:=1) rfl ?_);(try(refine fV (by rfl) ?_;dsimp only));refine br 1 36 #[.int .i64 bI,.int .i64 aA,.string aD,.int .i64 aE] ?_;intro Sc hg FP vq hb;have Sd:=gw hg (bs HB);have DF:=gw hg (bs HB);replace HB:=Ah (aM (bs HB) hb);clear hb hg;obtain⟨qL,qM,qN,qO⟩:=aT vq;obtain⟨qP,qQ,qR,qS⟩:=aU vq)|((with_reducible refine bU (f:=28) rfl ?_);refine gL (some 5) rfl rfl aaV (by kernel_rfl) rfl #[.int .i64 bI,.int .i64 0,.int .i64 1000000] rfl ?_;(with_reducible refine(fb.calls bI 0 1000000 false _ A2.out).mono ?_);rintro e w' ⟨rfl,⟨nd,rfl⟩⟩;refine⟨_,rfl, ?_⟩))
  go_ret
  exact⟨er,aX HB DF⟩
 subst c3;rw[if_pos rfl]at H;replace H:=Ok.mp H;obtain⟨EU,fo,H⟩:=H
 try dsimp only at H
 have A4:=Ah fo;clear fo
 by_cases c5:EU=true
 ·
  subst c5;rw[if_pos rfl]at H;obtain rfl:=qE H
  go_enter abu,Tryd.ntmps27
  go_wp2_with (first|((with_reducible refine bY (N:=1) rfl ?_);(try(refine fV (by rfl) ?_;dsimp only));refine br 1 36 #[.int .i64 bI,.int .i64 aA,.string aD,.int .i64 aE] ?_;intro Sc hg w6 vq hb;have Sd:=gw hg (bs HB);have DF:=gw hg (bs HB);replace HB:=Ah (aM (bs HB) hb);clear hb hg;obtain⟨vD,vE,vF,vG⟩:=aT vq;obtain⟨vH,vI,vJ,vK⟩:=aU vq)|((with_reducible refine bU (f:=28) rfl ?_);refine gL (some 5) rfl rfl aaV (by kernel_rfl) rfl #[.int .i64 bI,.int .i64 0,.int .i64 1000000] rfl ?_;(with_reducible refine(fb.calls bI 0 1000000 true _ A2.out).mono ?_);rintro e w' ⟨rfl,⟨nd,rfl⟩⟩;refine⟨_,rfl, ?_⟩)|(go_at_call 28;(with_reducible refine(fb.calls aA 0 10000000 true _ A4.out).mono ?_);rintro e w' ⟨rfl,⟨nd,rfl⟩⟩))
  go_ret
  exact⟨er,aX HB DF⟩
 replace c5:=iK.mpr c5;subst c5;rw[if_neg dM]at H;obtain rfl:=qE H
 go_enter abu,Tryd.ntmps27
 go_wp2_with (first|((with_reducible refine bY (N:=1) rfl ?_);(try(refine fV (by rfl) ?_;dsimp only));refine br 1 36 #[.int .i64 bI,.int .i64 aA,.string aD,.int .i64 aE] ?_;intro Sc hg w8 vq hb;have Sd:=gw hg (bs HB);have DF:=gw hg (bs HB);replace HB:=Ah (aM (bs HB) hb);clear hb hg;obtain⟨so,sp,sq,vL⟩:=aT vq;obtain⟨vM,sr,st,vN⟩:=aU vq)|((with_reducible refine bU (f:=28) rfl ?_);refine gL (some 5) rfl rfl aaV (by kernel_rfl) rfl #[.int .i64 bI,.int .i64 0,.int .i64 1000000] rfl ?_;(with_reducible refine(fb.calls bI 0 1000000 true _ A2.out).mono ?_);rintro e w' ⟨rfl,⟨nd,rfl⟩⟩;refine⟨_,rfl, ?_⟩)|(go_at_call 28;(with_reducible refine(fb.calls aA 0 10000000 false _ A4.out).mono ?_);rintro e w' ⟨rfl,⟨nd,rfl⟩⟩))
 go_ret
 exact⟨er,aX HB DF⟩
def ma.f(a0:Int):Option ByteArray:=if -9223372036854775808≤a0∧a0≤9223372036854775807 then some ⟨(Lib.itoa a0).toArray⟩else none
theorem ma.calls(a0:Int)(r:ByteArray)(w:World)(df:Z (Ito.lz w))(h:ma.f a0=some r):
 Calls aaf 36 #[.int .i64 a0] w fun e w'=>e= .returned (.string r)∧Below w.heap.size w w':=by
 unfold ma.f at h
 by_cases c: -9223372036854775808≤a0∧a0≤9223372036854775807
 ·rw[if_pos c]at h
  obtain rfl:=qE h;exact Ito.Wr a0 c.1 c.2 w df.out
 ·rw[if_neg c]at h
  cases h
end Go.Proofs.YtgpjnkahgofpmaaDoor.G
