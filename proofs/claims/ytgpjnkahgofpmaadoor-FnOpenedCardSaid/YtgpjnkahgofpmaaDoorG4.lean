-- Printed by a program of this session (drive.py, by way of the kit's print). Not trusted: Lean checks it.
import Derived.Test.YtgpjnkahgofpmaaDoorG0
import Derived.Test.YtgpjnkahgofpmaaDoorG1
import Derived.Test.YtgpjnkahgofpmaaDoorG3
open Bool renaming eq_false_iff→iK,not_false→aaD,not_true→aaF
open ByteArray renaming size_append→aaH
open Go.Addr renaming add→ro
open Go.Proofs.Tryd renaming underlying25→aac,prog→aaf,underlying36→aan,func28→aaV,func26→aa7,func21→aa8,func27→abu,func17→ab3
open Go.RowKit renaming wrap64→F5
open Go.RowKit.Below renaming refl→aag
open Go.World renaming block_lt_of_cell?→Fe,cell?→aav,frozen?→aax
open Int renaming tmod→GW,tdiv→aQ
open List renaming length_take→ca,length_drop→fF,map_toArray→fT,map_cons→gJ,map_nil→j5,setIfInBounds_toArray→aab,set_cons_zero→aai,set_cons_succ→aaj
open Nat renaming lt_of_lt_of_le→WR,ne_of_lt→ek,le_refl→kV,not_lt→abI
open Option renaming bind_eq_some_iff→Ok,bind_some→zD
open Option.some renaming inj→qE,injEq→aaa
open Prod.mk renaming injEq→aad
namespace Go.Proofs.YtgpjnkahgofpmaaDoor.G
open Go.RowKit Go.Proofs.YtgpjnkahgofpmaaDoorW.PrintWords Go.Proofs.YtgpjnkahgofpmaaDoorW.PrintLast Go.Proofs.YtgpjnkahgofpmaaDoorW.PrintMore
attribute [local go_sem] uM uN uS uT u9 uA uO uP
set_option maxHeartbeats 8000000
set_option maxRecDepth 100000
set_option linter.unusedVariables false
set_option linter.unusedSimpArgs false
attribute [local go_sem high] Kw
def du.l0:Nat→Int→Int→List Int→Int→Int→Option (Int)
 |0,_,_,_,_,_=>none
 |k+1,x3,x4,II,nc,x24=>if x24<nc then(if 0≤x24 then(if x24<(II.length:Int)then(du.l0 k (GW (F5 (x3+(F5 (rd II x24)))) 251) (GW (F5 (x4+(GW (F5 (x3+(F5 (rd II x24)))) 251))) 251) II nc (F5 (x24+1)))else(none))else(none))else(some (F5 ((F5 (256*x4))+x3)))
def du.f(k:Nat)(bI:Int)(aA:Int)(aD:ByteArray)(aE:Int):Option (Int):=(ku.f bI aA aD aE).bind fun EV=>(if EV=true then((ma.f bI).bind fun iH=>(if iH.size+1≤9223372036854775807 then((ma.f aA).bind fun jD=>(if(iH++(⟨#[46]⟩:ByteArray)).size+jD.size≤9223372036854775807 then(if((iH++(⟨#[46]⟩:ByteArray))++jD).size+1≤9223372036854775807 then(if(((iH++(⟨#[46]⟩:ByteArray))++jD)++(⟨#[46]⟩:ByteArray)).size+aD.size≤9223372036854775807 then(if((((iH++(⟨#[46]⟩:ByteArray))++jD)++(⟨#[46]⟩:ByteArray))++aD).size<140737488355328 then((some (gY ((((iH++(⟨#[46]⟩:ByteArray))++jD)++(⟨#[46]⟩:ByteArray))++aD):List Int)).bind fun lD=>(du.l0 k 1 0 lD (lD.length:Int) 0))else(none))else(none))else(none))else(none)))else(none)))else(some 0))
theorem du.eC:∀k,(∀y0 y1 y2 y3 y4,aJ (du.l0 k y0 y1 y2 y3 y4) (du.l0 (k+1) y0 y1 y2 y3 y4))
 |0=>fun _ _ _ _ _ r h=>by simp[du.l0]at h
 |k+1=>by
  have cj:=du.eC k
  ·
   intro y0 y1 y2 y3 y4;unfold du.l0
   repeat' with_reducible first|exact cj _ _ _ _ _|exact aJ.refl _|exact aJ.none _|refine aJ.ite ?_ ?_|refine aJ.bind ?_ (fun _=> ?_)
theorem du.mono:∀a0 a1 a2 a3 k,aJ (du.f k a0 a1 a2 a3) (du.f (k+1) a0 a1 a2 a3):=by
 intro a0 a1 a2 a3 k;have cj:=du.eC k;unfold du.f
 repeat' with_reducible first|exact cj _ _ _ _ _|exact aJ.refl _|exact aJ.none _|refine aJ.ite ?_ ?_|refine aJ.bind ?_ (fun _=> ?_)
def du.T4:Bool×List (List Nat×List Nat):=(true,[([],[]),([0],[0]),([1],[1]),([2],[2]),([],[]),([4],[4]),([5,2],[5]),([3,6],[3,6]),([7],[7]),([],[]),([9],[9]),([8,10],[8,10]),([11],[11]),([12],[12]),([],[])])
def du.B4:List Nat:=[0,1,3,7,0,16,55,127,255,0,512,2047,4095,8191,0]
theorem du.a6s:dt .any (gN Tryd.f17 4)=du.T4:=by kernel_rfl
theorem du.a3Z:fh du.T4.2 du.B4=true:=by kernel_rfl
theorem du.calls(k:Nat)(bI:Int)(aA:Int)(aD:ByteArray)(aE:Int)(r:Int)(w:World)(df:Z (Ito.lz w))(h:du.f k bI aA aD aE=some r):
 Calls aaf 17 #[.agg #[.int .i64 bI,.int .i64 aA,.string aD,.int .i64 aE]] w fun e w'=>e= .returned (.int .i64 r)∧Below w.heap.size w w':=by
 have kH:=aan;have HB:=Ah (aag w.heap.size w);have H:((ku.f bI aA aD aE).bind fun EV=>(if EV=true then((ma.f bI).bind fun iH=>(if iH.size+1≤9223372036854775807 then((ma.f aA).bind fun jD=>(if(iH++(⟨#[46]⟩:ByteArray)).size+jD.size≤9223372036854775807 then(if((iH++(⟨#[46]⟩:ByteArray))++jD).size+1≤9223372036854775807 then(if(((iH++(⟨#[46]⟩:ByteArray))++jD)++(⟨#[46]⟩:ByteArray)).size+aD.size≤9223372036854775807 then(if((((iH++(⟨#[46]⟩:ByteArray))++jD)++(⟨#[46]⟩:ByteArray))++aD).size<140737488355328 then((some (gY ((((iH++(⟨#[46]⟩:ByteArray))++jD)++(⟨#[46]⟩:ByteArray))++aD):List Int)).bind fun lD=>(du.l0 k 1 0 lD (lD.length:Int) 0))else(none))else(none))else(none))else(none)))else(none)))else(some 0)))=some r:=h;clear h;replace H:=Ok.mp H;obtain⟨EV,eg,H⟩:=H
 try dsimp only at H
 have A2:=Ah eg;clear eg
 by_cases c3:EV=true
 rotate_left
 ·
  replace c3:=iK.mpr c3;subst c3;rw[if_neg dM]at H;obtain rfl:=qE H
  go_enter ab3,Tryd.ntmps17
  go_wp2_with (first|((with_reducible refine bY (N:=1) rfl ?_);refine br 1 36 #[.int .i64 bI,.int .i64 aA,.string aD,.int .i64 aE] ?_;intro AU hg NP fe hb;have a30:=gw hg (bs HB);have r9:=gw hg (bs HB);replace HB:=Ah (aM (bs HB) hb);clear hb hg;obtain⟨Bp,Bq,Br,Bs⟩:=aT fe;obtain⟨Bt,Bu,Bv,Bw⟩:=aU fe)|((with_reducible refine bU (f:=27) rfl ?_);refine gL (some 8) rfl rfl abu (by kernel_rfl) rfl #[.agg #[.int .i64 bI,.int .i64 aA,.string aD,.int .i64 aE]] rfl ?_;(with_reducible refine(ku.calls bI aA aD aE false _ A2.out).mono ?_);rintro e W5 ⟨rfl,hb⟩;refine⟨_,rfl, ?_⟩;replace fe:=nb fe hb;replace HB:=Ah (aM (aX HB r9) hb);(try clear hb)))
  go_ret
  exact⟨er,aX HB r9⟩
 subst c3;rw[if_pos rfl]at H;replace H:=Ok.mp H;obtain⟨iH,fo,H⟩:=H
 try dsimp only at H
 have A4:=Ah fo;clear fo
 by_cases c5:iH.size+1≤9223372036854775807
 rotate_left
 ·
  rw[if_neg c5]at H;exact absurd H (by simp)
 rw[if_pos c5]at H;have rP:=eq_true c5;have Lt:=bV c5
 try have Lu:(9223372036854775807<iH.size+1)=False:=eq_false (abI.2 c5)
 replace H:=Ok.mp H;obtain⟨jD,iz,H⟩:=H
 try dsimp only at H
 have A6:=Ah iz;clear iz
 by_cases c7:(iH++(⟨#[46]⟩:ByteArray)).size+jD.size≤9223372036854775807
 rotate_left
 ·
  rw[if_neg c7]at H;exact absurd H (by simp)
 rw[if_pos c7]at H;have kI:=eq_true c7;have oE:=bV c7
 try have tW:(9223372036854775807<(iH++(⟨#[46]⟩:ByteArray)).size+jD.size)=False:=eq_false (abI.2 c7)
 (try(have Kz:=tW;simp only[aaH,show(⟨#[46]⟩:ByteArray).size=1 from rfl]at Kz))
 by_cases c8:((iH++(⟨#[46]⟩:ByteArray))++jD).size+1≤9223372036854775807
 rotate_left
 ·
  rw[if_neg c8]at H;exact absurd H (by simp)
 rw[if_pos c8]at H;have lQ:=eq_true c8;have rQ:=bV c8
 try have E4:(9223372036854775807<((iH++(⟨#[46]⟩:ByteArray))++jD).size+1)=False:=eq_false (abI.2 c8)
 (try(have L0:=E4;simp only[aaH,show(⟨#[46]⟩:ByteArray).size=1 from rfl]at L0))
 by_cases c9:(((iH++(⟨#[46]⟩:ByteArray))++jD)++(⟨#[46]⟩:ByteArray)).size+aD.size≤9223372036854775807
 rotate_left
 ·
  rw[if_neg c9]at H;exact absurd H (by simp)
 rw[if_pos c9]at H;have Hr:=eq_true c9;have Hs:=bV c9
 try have E5:(9223372036854775807<(((iH++(⟨#[46]⟩:ByteArray))++jD)++(⟨#[46]⟩:ByteArray)).size+aD.size)=False:=eq_false (abI.2 c9)
 (try(have L1:=E5;simp only[aaH,show(⟨#[46]⟩:ByteArray).size=1 from rfl]at L1))
 by_cases c10:((((iH++(⟨#[46]⟩:ByteArray))++jD)++(⟨#[46]⟩:ByteArray))++aD).size<140737488355328
 rotate_left
 ·
  rw[if_neg c10]at H;exact absurd H (by simp)
 rw[if_pos c10]at H;have LE:=Ah c10;clear c10;obtain⟨lD,DG⟩:∃y_:List Int,y_=(gY ((((iH++(⟨#[46]⟩:ByteArray))++jD)++(⟨#[46]⟩:ByteArray))++aD)):=⟨_,rfl⟩
 replace H:(du.l0 k 1 0 lD (lD.length:Int) 0)=some r:=by first|(rw[DG];with_reducible exact H)|(have cL:=(zD _ _).symm.trans H;rw[DG];with_reducible exact cL)|(have cL:=(zD _ _).symm.trans H;with_reducible exact cL)|with_reducible exact H|(rw[DG];exact H)|exact H
 have a31:=Ah DG;clear DG;have H':=Ah H;clear H
 go_enter ab3,Tryd.ntmps17
 try go_wp2_with (first|((with_reducible refine bY (N:=1) rfl ?_);refine br 1 36 #[.int .i64 bI,.int .i64 aA,.string aD,.int .i64 aE] ?_;intro AU hg tw fe hb;have a30:=gw hg (bs HB);have r9:=gw hg (bs HB);replace HB:=Ah (aM (bs HB) hb);clear hb hg;obtain⟨sL,sM,sN,sO⟩:=aT fe;obtain⟨sP,sQ,sR,sS⟩:=aU fe)|((with_reducible refine bU (f:=27) rfl ?_);refine gL (some 8) rfl rfl abu (by kernel_rfl) rfl #[.agg #[.int .i64 bI,.int .i64 aA,.string aD,.int .i64 aE]] rfl ?_;(with_reducible refine(ku.calls bI aA aD aE true _ A2.out).mono ?_);rintro e lX ⟨rfl,hb⟩;refine⟨_,rfl, ?_⟩;replace fe:=nb fe hb;replace HB:=Ah (aM (aX HB r9) hb);(try clear hb)))
 replace fe:=Ah (aZ fe.out);replace HB:=Ah (bc HB.out);refine dk (n:=15) (S:=fun w'=>w'.cell? ⟨AU,0,none⟩=some (.int .i64 bI)∧w'.cell? ⟨AU,1,none⟩=some (.int .i64 aA)∧w'.cell? ⟨AU,2,none⟩=some (.string aD)∧w'.cell? ⟨AU,3,none⟩=some (.int .i64 aE)) (ds:=[]) #[false,false,false,false,false,false,false,false,false,false,false,false,false,false,false] (by kernel_rfl) rfl rfl ⟨(Y fe.out 0).trans rfl,(Y fe.out 1).trans rfl,(Y fe.out 2).trans rfl,(Y fe.out 3).trans rfl⟩ (fun hHeld=> ?_);refine dl du.a6s du.a3Z (fun I aq=> ?_)
 generalize lX.drew=kP at fe HB hHeld⊢
 refine a8 0 10 I.out ?_;refine a8 4 14 I.out ?_;refine a8 9 19 I.out ?_;refine a8 14 24 I.out ?_;refine bM 1 11 I.out aq.out hHeld (hr:=by rintro w' ⟨s0,s1,s2,s3⟩;go_simp;with_reducible rfl) (h:= ?_);refine bM 5 15 I.out aq.out hHeld (hr:=by rintro w' ⟨s0,s1,s2,s3⟩;go_simp;with_reducible rfl) (h:= ?_);refine bM 10 20 I.out aq.out hHeld (hr:=by rintro w' ⟨s0,s1,s2,s3⟩;go_simp;with_reducible rfl) (h:= ?_);refine cK (i:=2) (N:=some 12) #[true,true,true,false,true,true,false,false,false,true,true,false,false,false,true] rfl rfl (bz I.out (by kernel_rfl)) (by decide) (fun K hK=> ?_);refine cZ Tryd.func36 (by kernel_rfl) rfl #[.int .i64 bI] (by rfl) rfl rfl (by(try simp only[List.map_toArray,List.map_cons,List.map_nil]);first|done|rfl|(simp only[List.length_drop,List.length_take];rfl)) ?_
 with_reducible refine(ma.calls bI iH _ ?sideT A4.out).mono ?_
 case sideT=>refine⟨Ito.ea df.out ?_⟩;first|exact bs HB|exact eJ|(repeat(first|(with_reducible first|exact HB.out|apply dH|apply dZ|apply bc|refine cn ?_ (Z.out (by assumption)))|exact HB.out))
 rintro e rg ⟨rfl,hb⟩;refine⟨_,rfl, ?_⟩;replace fe:=Ah (bb fe hb);replace HB:=Ah (aM (aX HB r9) hb);(try clear hb);(try clear hb2);(try clear hk);(try clear hi);refine hK.out _ _ ⟨(Y fe.out 0).trans rfl,(Y fe.out 1).trans rfl,(Y fe.out 2).trans rfl,(Y fe.out 3).trans rfl⟩ (fun hHeld=> ?_);clear hK K;refine nq 12 ?_;refine a8 3 13 I.out ?_;refine cK (i:=6) (N:=some 16) #[true,true,true,true,true,true,true,false,false,true,true,false,false,false,true] rfl rfl (bz I.out (by kernel_rfl)) (by decide) (fun K hK=> ?_);refine cZ Tryd.func36 (by kernel_rfl) rfl #[.int .i64 aA] (by rfl) rfl rfl (by(try simp only[fT,gJ,j5]);first|done|rfl|(simp only[fF,ca];rfl)) ?_
 with_reducible refine(ma.calls aA jD _ ?sideT A6.out).mono ?_
 case sideT=>refine⟨Ito.ea df.out ?_⟩;first|exact bs HB|exact eJ|(repeat(first|(with_reducible first|exact HB.out|apply dH|apply dZ|apply bc|refine cn ?_ (Z.out (by assumption)))|exact HB.out))
 rintro e w16 ⟨rfl,hb⟩;refine⟨_,rfl, ?_⟩;replace fe:=Ah (bb fe hb);replace HB:=Ah (aM (aX HB r9) hb);(try clear hb);(try clear hb2);(try clear hk);(try clear hi);refine hK.out _ _ ⟨(Y fe.out 0).trans rfl,(Y fe.out 1).trans rfl,(Y fe.out 2).trans rfl,(Y fe.out 3).trans rfl⟩ (fun hHeld=> ?_);clear hK K;refine nq 16 ?_;refine a8 7 17 I.out ?_;refine a8 8 18 I.out ?_;refine a8 11 21 I.out ?_;refine cK (i:=12) (N:=some 22) #[true,true,true,true,true,true,true,true,true,true,true,true,true,false,true] rfl rfl (bz I.out (by kernel_rfl)) (by decide) (fun K hK=> ?_);refine Wz (N:=22) ?hg ?hd 9 22 5 (.tmp _) rfl Tryd.underlying9 Tryd.underlying22 Tryd.underlying5 ((((iH++(⟨#[46]⟩:ByteArray))++jD)++(⟨#[46]⟩:ByteArray))++aD) ?hx ?hl ?_;(case hl=>have:=LE.out;omega);(case hd=>rfl);(case hg=>rfl);(case hx=>first|(go_simp;done)|(go_simp;rfl));intro FW c18 z7 hc NQ hb;rw[←a31.out]at hc NQ⊢;replace fe:=Ah (bb fe hb);replace HB:=Ah (aM (aX HB r9) hb);have AV:=Ah (hc);have HC295:=Ah (NQ);clear hb hc NQ;refine hK.out _ _ ⟨(Y fe.out 0).trans rfl,(Y fe.out 1).trans rfl,(Y fe.out 2).trans rfl,(Y fe.out 3).trans rfl⟩ (fun hHeld=> ?_);clear hK K;refine nq 22 ?_;refine a8 13 23 I.out ?_;refine dP (dW I.out (by kernel_rfl)) ?_
 try go_wp2
 go_loopg [3,4,24] k (fun kq v3 v4 v24 w'=>∃ (rX:Int) (kJ:Int) (oA:Int),v3= .int .i64 rX∧v4= .int .i64 kJ∧v24= .int .i64 oA∧Z (du.l0 kq rX kJ lD (lD.length:Int) oA=some r)∧Z (kq≤k)∧Z (w'.heap[AU]?=some (.cells #[.int .i64 bI,.int .i64 aA,.string aD,.int .i64 aE] 36 (0,0)))∧Z (Kd.C (Kd.int .u8) w' (some FW) lD.length lD)∧Z (Below w.heap.size w w'))
 case atStart=>exact⟨(1),(0),(0),e3,e3,e3,H',⟨kV _⟩,⟨bk fe⟩,⟨by repeat(first|(with_reducible exact AV.out)|(with_reducible refine Kd.qH ?_ _)|(with_reducible refine Kd.qI ?_ _)|(with_reducible refine Kd.qt ?_)|exact AV.out)⟩,⟨aX HB r9⟩⟩
 case round=>
  clear H'
  try clear c1
  try clear c2
  try clear p2
  try clear c3
  try clear c5
  try clear rP
  try clear Lt
  try clear Lu
  try clear c7
  try clear kI
  try clear oE
  try clear tW
  try clear c8
  try clear lQ
  try clear rQ
  try clear E4
  try clear c9
  try clear Hr
  try clear Hs
  try clear E5
  try clear c10
  try clear c17
  try clear c18
  try clear sL sM sN sO
  try clear sP sQ sR sS
  obtain⟨rX,kJ,oA,rfl,rfl,rfl,HA,dp,fe,AV,HB⟩:=hrel
  cases gk with
  |zero=>exact absurd HA.out (by simp[du.l0])
  |succ k1=>
   have H:=HA.out;clear HA;simp only[du.l0]at H
   by_cases c19:oA<(lD.length:Int)
   rotate_left
   ·
    rw[if_neg c19]at H;have HH:=ev c19;clear c19;obtain rfl:=qE H
    go_wp2
    go_ret
    exact⟨er,aX HB r9⟩
   rw[if_pos c19]at H;have HH:=bV c19;clear c19
   by_cases c20:0≤oA
   rotate_left
   ·
    rw[if_neg c20]at H;exact absurd H (by simp)
   rw[if_pos c20]at H;have AN:=bV c20;clear c20
   by_cases c21:oA<(lD.length:Int)
   rotate_left
   ·
    rw[if_neg c21]at H;exact absurd H (by simp)
   rw[if_pos c21]at H;have H1:=bV c21;clear c21;have H':=Ah H;clear H;have MY:0≤(oA:Int):=od;have MZ:oA<(lD.length:Int):=od;obtain⟨a32,e296,Pn⟩:=Kd.GV AV.out oA MY MZ;obtain rfl:FW=a32:=(by injection e296);(try replace Pn:=hq HB Pn);replace MY:=eq_true MY;replace MZ:=eq_true MZ
   go_wp2
   go_roundg k1
   case measure=>have:=dp.out;omega
   case rel=>exact⟨(GW (F5 (rX+(F5 (rd lD oA)))) 251),(GW (F5 (kJ+(GW (F5 (rX+(F5 (rd lD oA)))) 251))) 251),(F5 (oA+1)),e3,e3,e3,H',⟨by have:=dp.out;omega⟩,⟨bk fe⟩,⟨by repeat(first|(with_reducible exact AV.out)|(with_reducible refine Kd.qH ?_ _)|(with_reducible refine Kd.qI ?_ _)|(with_reducible refine Kd.qt ?_)|exact AV.out)⟩,⟨aX HB r9⟩⟩
def ey.f(k:Nat)(bI:Int)(aA:Int)(aD:ByteArray)(aE:Int):Option (Bool):=(ku.f bI aA aD aE).bind fun EW=>(if EW=true then((du.f k bI aA aD aE).bind fun EX=>(some (aE==EX)))else(some false))
theorem ey.mono:∀a0 a1 a2 a3 k,aJ (ey.f k a0 a1 a2 a3) (ey.f (k+1) a0 a1 a2 a3):=by
 intro a0 a1 a2 a3 k;unfold ey.f
 repeat' with_reducible first|exact du.mono _ _ _ _ _|exact aJ.refl _|exact aJ.none _|refine aJ.ite ?_ ?_|refine aJ.bind ?_ (fun _=> ?_)
def ey.T1:Bool×List (List Nat×List Nat):=(true,[([],[]),([0],[0]),([1,1],[1]),([2],[2]),([3,2],[2,3]),([2],[2]),([5,2,2],[2,5]),([4,6,2],[2,4,6]),([2,7],[2,7]),([8,6,0,1,2,3,4,5,6,7,8],[8])])
def ey.B1:List Nat:=[0,1,3,7,15,7,39,127,255,511]
theorem ey.Lw:dt .any (gN Tryd.f26 1)=ey.T1:=by kernel_rfl
theorem ey.L3:fh ey.T1.2 ey.B1=true:=by kernel_rfl
theorem ey.calls(k:Nat)(bI:Int)(aA:Int)(aD:ByteArray)(aE:Int)(r:Bool)(w:World)(df:Z (Ito.lz w))(h:ey.f k bI aA aD aE=some r):
 Calls aaf 26 #[.agg #[.int .i64 bI,.int .i64 aA,.string aD,.int .i64 aE]] w fun e w'=>e= .returned (.bool r)∧Below w.heap.size w w':=by
 have kH:=aan;have HB:=Ah (aag w.heap.size w);have H:((ku.f bI aA aD aE).bind fun EW=>(if EW=true then((du.f k bI aA aD aE).bind fun EX=>(some (aE==EX)))else(some false)))=some r:=h;clear h;replace H:=Ok.mp H;obtain⟨EW,eg,H⟩:=H
 try dsimp only at H
 have A2:=Ah eg;clear eg;have H_:=Ah H;clear H
 go_enter aa7,Tryd.ntmps26
 try go_wp2_with (first|((with_reducible refine bY (N:=1) rfl ?_);refine br 1 36 #[.int .i64 bI,.int .i64 aA,.string aD,.int .i64 aE] ?_;intro HI hg w5 iV hb;have GW297:=gw hg (bs HB);have DH:=gw hg (bs HB);replace HB:=Ah (aM (bs HB) hb);clear hb hg))
 replace iV:=Ah (aZ iV.out);replace HB:=Ah (bc HB.out);refine dk (n:=10) (S:=fun w'=>w'.cell? ⟨HI,0,none⟩=some (.int .i64 bI)∧w'.cell? ⟨HI,1,none⟩=some (.int .i64 aA)∧w'.cell? ⟨HI,2,none⟩=some (.string aD)∧w'.cell? ⟨HI,3,none⟩=some (.int .i64 aE)) (ds:=[]) #[false,false,false,false,false,false,false,false,false,false] (by kernel_rfl) rfl rfl ⟨(Y iV.out 0).trans rfl,(Y iV.out 1).trans rfl,(Y iV.out 2).trans rfl,(Y iV.out 3).trans rfl⟩ (fun hHeld=> ?_);refine dl ey.Lw ey.L3 (fun I aq=> ?_)
 generalize w5.drew=w6 at iV HB hHeld⊢
 refine bM 0 3 I.out aq.out hHeld (hr:=by rintro w' ⟨s0,s1,s2,s3⟩;go_simp;with_reducible rfl) (h:= ?_);refine cK (i:=1) (N:=some 4) #[true,true,false,false,false,false,false,false,false,false] rfl rfl (bz I.out (by kernel_rfl)) (by decide) (fun K hK=> ?_);refine cZ abu (by kernel_rfl) rfl #[.agg #[.int .i64 bI,.int .i64 aA,.string aD,.int .i64 aE]] (by rfl) rfl rfl (by(try simp only[fT,gJ,j5]);first|done|rfl|(simp only[fF,ca];rfl)) ?_;have H:=H_.out;clear H_
 by_cases c3:EW=true
 rotate_left
 ·
  replace c3:=iK.mpr c3;subst c3;rw[if_neg dM]at H;obtain rfl:=qE H
  with_reducible refine(ku.calls bI aA aD aE false _ A2.out).mono ?_
  rintro e tw ⟨rfl,hb⟩;refine⟨_,rfl, ?_⟩;replace iV:=Ah (bb iV hb);replace HB:=Ah (aM (aX HB DH) hb);(try clear hb);(try clear hb2);(try clear hk);(try clear hi);refine hK.out _ _ ⟨(Y iV.out 0).trans rfl,(Y iV.out 1).trans rfl,(Y iV.out 2).trans rfl,(Y iV.out 3).trans rfl⟩ (fun hHeld=> ?_);clear hK K;refine nq 4 ?_;refine a8 2 5 I.out ?_;refine aV 3 6 I.out ?_;refine aV 4 7 I.out ?_;refine aV 5 8 I.out ?_;refine aV 6 9 I.out ?_;refine aV 7 10 I.out ?_;refine a8 8 11 I.out ?_;refine a8 9 2 I.out ?_;refine dP (dW I.out (by kernel_rfl)) ?_
  try go_wp2
  go_ret
  exact⟨er,aX HB DH⟩
 subst c3;rw[if_pos rfl]at H;replace H:=Ok.mp H;obtain⟨EX,fo,H⟩:=H
 try dsimp only at H
 have A4:=Ah fo;clear fo;obtain rfl:=qE H
 with_reducible refine(ku.calls bI aA aD aE true _ A2.out).mono ?_
 rintro e w7 ⟨rfl,hb⟩;refine⟨_,rfl, ?_⟩;replace iV:=Ah (bb iV hb);replace HB:=Ah (aM (aX HB DH) hb);(try clear hb);(try clear hb2);(try clear hk);(try clear hi);refine hK.out _ _ ⟨(Y iV.out 0).trans rfl,(Y iV.out 1).trans rfl,(Y iV.out 2).trans rfl,(Y iV.out 3).trans rfl⟩ (fun hHeld=> ?_);clear hK K;refine nq 4 ?_;refine a8 2 5 I.out ?_;refine a8 3 6 I.out ?_;refine bM 4 7 I.out aq.out hHeld (hr:=by rintro w' ⟨s0,s1,s2,s3⟩;go_simp;with_reducible rfl) (h:= ?_);refine bM 5 8 I.out aq.out hHeld (hr:=by rintro w' ⟨s0,s1,s2,s3⟩;go_simp;with_reducible rfl) (h:= ?_);refine cK (i:=6) (N:=some 9) #[true,true,true,true,true,true,true,false,false,false] rfl rfl (bz I.out (by kernel_rfl)) (by decide) (fun K hK=> ?_);refine cZ Tryd.func17 (by kernel_rfl) rfl #[.agg #[.int .i64 bI,.int .i64 aA,.string aD,.int .i64 aE]] (by rfl) rfl rfl (by(try simp only[List.map_toArray,List.map_cons,List.map_nil]);first|done|rfl|(simp only[List.length_drop,List.length_take];rfl)) ?_
 with_reducible refine(du.calls k bI aA aD aE EX _ ?sideT A4.out).mono ?_
 case sideT=>refine⟨Ito.ea df.out ?_⟩;first|exact bs HB|exact eJ|(repeat(first|(with_reducible first|exact HB.out|apply dH|apply dZ|apply bc|refine cn ?_ (Z.out (by assumption)))|exact HB.out))
 rintro e w8 ⟨rfl,hb⟩;refine⟨_,rfl, ?_⟩;replace iV:=Ah (bb iV hb);replace HB:=Ah (aM (aX HB DH) hb);(try clear hb);(try clear hb2);(try clear hk);(try clear hi);refine hK.out _ _ ⟨(Y iV.out 0).trans rfl,(Y iV.out 1).trans rfl,(Y iV.out 2).trans rfl,(Y iV.out 3).trans rfl⟩ (fun hHeld=> ?_);clear hK K;refine nq 9 ?_;refine a8 7 10 I.out ?_;refine a8 8 11 I.out ?_;refine a8 9 2 I.out ?_;refine dP (dW I.out (by kernel_rfl)) ?_
 try go_wp2
 go_ret
 exact⟨er,aX HB DH⟩
def ia.f(k:Nat):Option (Int×Int×ByteArray×Int):=(du.f k 0 0 (⟨#[]⟩:ByteArray) 0).bind fun Ar=>(some (0,0,(⟨#[]⟩:ByteArray),Ar))
theorem ia.mono:∀k,aJ (ia.f k) (ia.f (k+1)):=by
 intro k;unfold ia.f
 repeat' with_reducible first|exact du.mono _ _ _ _ _|exact aJ.refl _|exact aJ.none _|refine aJ.ite ?_ ?_|refine aJ.bind ?_ (fun _=> ?_)
theorem ia.calls(k:Nat)(r1:Int)(r2:Int)(r3:ByteArray)(r4:Int)(w:World)(df:Z (Ito.lz w))(h:ia.f k=some (r1,r2,r3,r4)):
 Calls aaf 39 #[] w fun e w'=>e= .returned (.agg #[.int .i64 r1,.int .i64 r2,.string r3,.int .i64 r4])∧Below w.heap.size w w':=by
 have kH:=aan;have HB:=Ah (aag w.heap.size w);have H:((du.f k 0 0 (⟨#[]⟩:ByteArray) 0).bind fun Ar=>(some (0,0,(⟨#[]⟩:ByteArray),Ar)))=some (r1,r2,r3,r4):=h;clear h;replace H:=Ok.mp H;obtain⟨Ar,wQ,H⟩:=H
 try dsimp only at H
 have A1:=Ah wQ;clear wQ;simp only[aaa,aad]at H;obtain⟨rfl,rfl,rfl,rfl⟩:=H
 go_enter Tryd.func39,Tryd.ntmps39
 go_wp2_with (first|((with_reducible refine bY (N:=0) rfl ?_);refine br 0 36 #[.int .i64 0,.int .i64 0,.string (⟨#[]⟩:ByteArray),.int .i64 0] ?_;intro Se hg w2 DI hb;have GW300:=gw hg (bs HB);have Sf:=gw hg (bs HB);replace HB:=Ah (aM (bs HB) hb);clear hb hg)|((with_reducible refine bU (f:=17) rfl ?_);refine gL (some 2) rfl rfl ab3 (by kernel_rfl) rfl #[.agg #[.int .i64 0,.int .i64 0,.string (⟨#[]⟩:ByteArray),.int .i64 0]] rfl ?_;(with_reducible refine(du.calls k 0 0 (⟨#[]⟩:ByteArray) 0 Ar _ ?sideT A1.out).mono ?_);(case sideT=>refine⟨Ito.ea df.out ?_⟩;first|exact bs HB|exact eJ|(repeat(first|(with_reducible first|exact HB.out|apply dH|apply dZ|apply bc|refine cn ?_ (Z.out (by assumption)))|exact HB.out)));rintro e w3 ⟨rfl,hb⟩;refine⟨_,rfl, ?_⟩;replace DI:=Ah (bq (g:=Se) (o:= .cells #[.int .i64 0,.int .i64 0,.string (⟨#[]⟩:ByteArray),.int .i64 0] 36 (0,0)) (bk DI) hb);replace HB:=Ah (aM (aX HB Sf) hb);(try clear hb);obtain⟨R2,R3,R4,R5⟩:=aT DI;obtain⟨R6,R7,R8,R9⟩:=aU DI))
 refine bodyPost_ret (results_cell_row rfl _ _ Se 36 #[.int .i64 0,.int .i64 0,.string (⟨#[]⟩:ByteArray),.int .i64 Ar] (0,0) _ rfl (pb DI) aan rfl (by kernel_rfl)) rfl ?_;exact⟨er,aX HB Sf⟩
mutual
def ao.j0:Nat→Int→Bool→List (aK)→Int→Int→Int→Option (Bool)
 |0,_,_,_,_,_,_=>none
 |k+1,x3,x41,i8,qj,uh,qk=>if x41=true then(some false)else(ao.l0 k x3 0 (F5 (qj-x3)) i8 qj uh qk)
def ao.l0:Nat→Int→Int→Int→List (aK)→Int→Int→Int→Option (Bool)
 |0,_,_,_,_,_,_,_=>none
 |k+1,x3,x4,x5,i8,qj,uh,qk=>if x5<qj then(if x5<0 then(if 0≤(F5 (x5+x3))then(if(F5 (x5+x3))<(i8.length:Int)then((ia.f k).bind fun tL=>(if(!(((J i8 (F5 (x5+x3))).f0)==tL.1)||(!(((J i8 (F5 (x5+x3))).f1)==tL.2.1)||(!((((J i8 (F5 (x5+x3))).f2).toList)==tL.2.2.1.toList)||(!(((J i8 (F5 (x5+x3))).f3)==tL.2.2.2)))))=true then(some false)else(ao.l0 k x3 x4 (F5 (x5+1)) i8 qj uh qk)))else(none))else(none))else(if x3=0 then(none)else(if 0≤(GW x5 x3)then(if(GW x5 x3)<(i8.length:Int)then(if x5<qk then((ia.f k).bind fun tM=>(ao.j2 k x3 x4 x5 (((J i8 (GW x5 x3)).f0)==tM.1&& (((J i8 (GW x5 x3)).f1)==tM.2.1&& ((((J i8 (GW x5 x3)).f2).toList)==tM.2.2.1.toList&& (((J i8 (GW x5 x3)).f3)==tM.2.2.2)))) i8 qj uh qk ((J i8 (GW x5 x3)).f0) ((J i8 (GW x5 x3)).f1) ((J i8 (GW x5 x3)).f2) ((J i8 (GW x5 x3)).f3)))else(ao.j2 k x3 x4 x5 false i8 qj uh qk ((J i8 (GW x5 x3)).f0) ((J i8 (GW x5 x3)).f1) ((J i8 (GW x5 x3)).f2) ((J i8 (GW x5 x3)).f3)))else(none))else(none))))else(some true)
def ao.j2:Nat→Int→Int→Int→Bool→List (aK)→Int→Int→Int→Int→Int→ByteArray→Int→Option (Bool)
 |0,_,_,_,_,_,_,_,_,_,_,_,_=>none
 |k+1,x3,x4,x5,x78,i8,qj,uh,qk,Po,C7,a0D,a0E=>if x78=true then(ao.l0 k x3 x4 (F5 (x5+1)) i8 qj uh qk)else((ey.f k Po C7 a0D a0E).bind fun Ma=>(if Ma=true then(if x3=0 then(none)else(if Po=(F5 ((F5 (aQ x5 x3))+1))then(if C7>x5 then(some false)else(if C7>qk then(some false)else(if C7<x4 then(some false)else(ao.l0 k x3 C7 (F5 (x5+1)) i8 qj uh qk))))else(some false)))else(some false)))
end
def ao.f(k:Nat)(U:List (aK))(aA:Int)(aD:Int)(aE:Int):Option (Bool):=(fb.f (U.length:Int) 2 24).bind fun EY=>(if EY=true then((fb.f aA 0 10000000).bind fun EZ=>(if EZ=true then((fb.f aE (mx 0 (F5 (aA-(U.length:Int)))) aA).bind fun yV=>(if yV=true then(if(U.length:Int)=0 then(none)else(ao.j0 k (U.length:Int) (aD !=(F5 ((F5 (aQ aA (U.length:Int)))+1))) U aA aD aE))else(ao.j0 k (U.length:Int) true U aA aD aE)))else(ao.j0 k (U.length:Int) true U aA aD aE)))else(ao.j0 k (U.length:Int) true U aA aD aE))
theorem ao.eC:∀k,(∀y0 y1 y2 y3 y4 y5,aJ (ao.j0 k y0 y1 y2 y3 y4 y5) (ao.j0 (k+1) y0 y1 y2 y3 y4 y5))∧(∀y0 y1 y2 y3 y4 y5 y6,aJ (ao.l0 k y0 y1 y2 y3 y4 y5 y6) (ao.l0 (k+1) y0 y1 y2 y3 y4 y5 y6))∧(∀y0 y1 y2 y3 y4 y5 y6 y7 y8 y9 wR wS,aJ (ao.j2 k y0 y1 y2 y3 y4 y5 y6 y7 y8 y9 wR wS) (ao.j2 (k+1) y0 y1 y2 y3 y4 y5 y6 y7 y8 y9 wR wS))
 |0=>⟨fun _ _ _ _ _ _ r h=>by simp[ao.j0]at h,fun _ _ _ _ _ _ _ r h=>by simp[ao.l0]at h,fun _ _ _ _ _ _ _ _ _ _ _ _ r h=>by simp[ao.j2]at h⟩
 |k+1=>by
  obtain⟨cj,ih1,ih2⟩:=ao.eC k
  refine⟨?_, ?_, ?_⟩<;>intros<;>first|unfold ao.j0|unfold ao.l0|unfold ao.j2
  all_goals repeat' first
   |(with_reducible exact cj _ _ _ _ _ _)
   |(with_reducible exact ih1 _ _ _ _ _ _ _)
   |(with_reducible exact ih2 _ _ _ _ _ _ _ _ _ _ _ _)
   |(with_reducible exact ey.mono _ _ _ _ _)
   |(with_reducible exact ia.mono _)
   |(with_reducible exact aJ.refl _)
   |(with_reducible exact aJ.none _)
   |(with_reducible refine aJ.ite ?_ ?_)
   |(with_reducible refine aJ.bind ?_ (fun _=> ?_))
   |exact cj _ _ _ _ _ _
   |exact ih1 _ _ _ _ _ _ _
   |exact ih2 _ _ _ _ _ _ _ _ _ _ _ _
   |exact ey.mono _ _ _ _ _
   |exact ia.mono _
   |exact aJ.none _
   |refine aJ.ite ?_ ?_
   |refine aJ.bind ?_ (fun _=> ?_)
theorem ao.mono:∀a0 a1 a2 a3 k,aJ (ao.f k a0 a1 a2 a3) (ao.f (k+1) a0 a1 a2 a3):=by
 intro a0 a1 a2 a3 k;obtain⟨cj,ih1,ih2⟩:=ao.eC k;unfold ao.f
 repeat' with_reducible first|exact cj _ _ _ _ _ _|exact ih1 _ _ _ _ _ _ _|exact ih2 _ _ _ _ _ _ _ _ _ _ _ _|exact ey.mono _ _ _ _ _|exact ia.mono _|exact aJ.refl _|exact aJ.none _|refine aJ.ite ?_ ?_|refine aJ.bind ?_ (fun _=> ?_)
def ao.T2:Bool×List (List Nat×List Nat):=(true,[([],[]),([0],[0]),([1],[1]),([2,1],[2]),([3],[3]),([4,3],[3,4]),([5,3,3],[3,5]),([6,3],[3,6]),([3,7],[3,7]),([8,6],[8]),([9],[9]),([10,9],[9,10]),([9],[9]),([12,9],[9,12]),([9],[9]),([13,14,9],[9,13,14]),([15,9],[9,15]),([9],[9]),([17,9],[9,17]),([11,16,18,9,9],[9,11,16,18]),([19,9],[9,19]),([9,20],[9,20]),([21,19],[21]),([22],[22]),([23,22],[22,23]),([22],[22]),([25,22],[22,25]),([22],[22]),([26,27,22],[22,26,27]),([28,22],[22,28]),([24,29,22],[22,24,29]),([22,30],[22,30])])
def ao.B2:List Nat:=[0,1,3,7,15,31,63,127,255,511,1023,2047,1023,5119,1023,29695,62463,1023,132095,524287,1048575,2097151,4194303,8388607,16777215,8388607,41943039,8388607,243269631,511705087,1073741823,2147483647]
theorem ao.rR:dt .any (gN Tryd.f21 2)=ao.T2:=by kernel_rfl
theorem ao.r7:fh ao.T2.2 ao.B2=true:=by kernel_rfl
def ao.T9:Bool×List (List Nat×List Nat):=(true,[([],[]),([0],[0]),([],[]),([],[]),([2,3],[2,3]),([1,4],[1,4]),([5],[5]),([],[]),([6,7],[6,7])])
def ao.B9:List Nat:=[0,1,0,0,12,31,63,0,255]
theorem ao.E8:dt .any (gN Tryd.f21 9)=ao.T9:=by kernel_rfl
theorem ao.Cw:fh ao.T9.2 ao.B9=true:=by kernel_rfl
def ao.FR:Bool×List (List Nat×List Nat):=(true,[([],[]),([0],[0]),([],[]),([],[]),([2,3],[2,3]),([1,4],[1,4]),([5],[5]),([],[]),([7,6,0,1,2,3,4,5,6,7],[6,7])])
def ao.B11:List Nat:=[0,1,0,0,12,31,63,0,255]
theorem ao.L4:dt .any (gN Tryd.f21 11)=ao.FR:=by kernel_rfl
theorem ao.KL:fh ao.FR.2 ao.B11=true:=by kernel_rfl
def ao.FS:Bool×List (List Nat×List Nat):=(true,[([],[]),([],[]),([1],[1]),([0,2],[0,2]),([3],[3]),([4],[4]),([4,4],[4]),([5,6,4],[4,5,6]),([4,7],[4,7])])
def ao.NL:List Nat:=[0,0,2,7,15,31,31,127,255]
theorem ao.Cx:dt .any (gN Tryd.f21 12)=ao.FS:=by kernel_rfl
theorem ao.CW:fh ao.FS.2 ao.NL=true:=by kernel_rfl
def ao.wT:Bool×List (List Nat×List Nat):=(true,[([],[]),([0],[0]),([1],[1]),([2,1],[2]),([3],[3]),([4,3],[3,4]),([3],[3]),([3],[3]),([6,7,3],[3,6,7]),([8,3],[3,8]),([5,9,3],[3,5,9]),([3,10],[3,10]),([11,3],[11]),([12],[12]),([13,12],[12,13]),([12],[12]),([14,15,12],[12,14,15]),([12,16],[12,16]),([17,12],[17]),([18],[18]),([19,18],[18,19]),([18],[18]),([21,18],[18,21]),([20,22,18],[18,20,22]),([18,23],[18,23]),([24,18],[24]),([25],[25]),([26,25],[25,26]),([25],[25]),([27,28,25],[25,27,28]),([25,29],[25,29])])
def ao.FT:List Nat:=[0,1,3,7,15,31,15,15,207,463,1023,2047,4095,8191,16383,8191,65535,131071,262143,524287,1048575,524287,2621439,8388607,16777215,33554431,67108863,134217727,67108863,536870911,1073741823]
theorem ao.pP:dt .any (gN Tryd.f21 13)=ao.wT:=by kernel_rfl
theorem ao.pN:fh ao.wT.2 ao.FT=true:=by kernel_rfl
theorem ao.calls(k:Nat)(cf:Option Addr)(cA:Nat)(U:List (aK))(aA:Int)(aD:Int)(aE:Int)(r:Bool)(w:World)(df:Z (Ito.lz w))(iB:Kd.C bD w cf U.length U)(iC:U.length≤cA)(h:ao.f k U aA aD aE=some r):
 Calls aaf 21 #[.agg #[.slice cf U.length cA,.int .i64 aA,.int .i64 aD,.int .i64 aE]] w fun e w'=>e= .returned (.bool r)∧Below w.heap.size w w':=by
 have lP:=aac;have kH:=aan;have fl:=Ah iB;have iT:=Ah iC;clear iB iC;have HB:=Ah (aag w.heap.size w);have H:((fb.f (U.length:Int) 2 24).bind fun EY=>(if EY=true then((fb.f aA 0 10000000).bind fun EZ=>(if EZ=true then((fb.f aE (mx 0 (F5 (aA-(U.length:Int)))) aA).bind fun yV=>(if yV=true then(if(U.length:Int)=0 then(none)else(ao.j0 k (U.length:Int) (aD !=(F5 ((F5 (aQ aA (U.length:Int)))+1))) U aA aD aE))else(ao.j0 k (U.length:Int) true U aA aD aE)))else(ao.j0 k (U.length:Int) true U aA aD aE)))else(ao.j0 k (U.length:Int) true U aA aD aE)))=some r:=h;clear h;have z6:=Ah H;clear H
 go_enter aa8,Tryd.ntmps21
 go_upto_region 2 with(first|((with_reducible refine bY (N:=1) rfl ?_);(try(refine fV (by rfl) ?_;dsimp only));refine br 1 25 #[.slice cf U.length cA,.int .i64 aA,.int .i64 aD,.int .i64 aE] ?_;intro eO hg w3 ag hb;have GW302:=gw hg (bs HB);have gF:=gw hg (bs HB);replace HB:=Ah (aM (bs HB) hb);clear hb hg;obtain⟨R2,R3,R4,R5⟩:=aT ag;obtain⟨R6,R7,R8,R9⟩:=aU ag))
 (try simp only[Act.put,aab,aai,aaj])
 go_cut [41] (fun v41 wc=>∃ (kq:Nat) (HJ:Bool),v41= .bool HJ∧Z (ao.j0 kq (U.length:Int) HJ U aA aD aE=some r)∧Z (kq≤k)∧Z (wc.heap[eO]?=some (.cells #[(.slice cf U.length cA),.int .i64 aA,.int .i64 aD,.int .i64 aE] 25 (0,0)))∧Z (Below w.heap.size w wc))
 case first=>
  have H:=z6.out;clear z6;replace H:=Ok.mp H;obtain⟨EY,iy,H⟩:=H
  try dsimp only at H
  have A5:=Ah iy;clear iy
  by_cases c6:EY=true
  rotate_left
  ·
   replace c6:=iK.mpr c6;subst c6;rw[if_neg dM]at H;have H':=Ah H;clear H
   try go_wp2
   replace ag:=Ah (aZ ag.out);replace HB:=Ah (bc HB.out);refine dk (n:=32) (S:=fun w'=>True) (ds:=[]) #[false,false,false,false,false,false,false,false,false,false,false,false,false,false,false,false,false,false,false,false,false,false,false,false,false,false,false,false,false,false,false,false] (by kernel_rfl) rfl rfl trivial (fun hHeld=> ?_);refine dl ao.rR ao.r7 (fun I aq=> ?_)
   generalize w3.drew=w16 at ag HB hHeld⊢
   refine a8 0 10 I.out ?_;refine cK (i:=1) (N:=some 11) #[true,true,false,false,false,false,false,false,false,false,false,false,false,false,false,false,false,false,false,false,false,false,false,false,false,false,false,false,false,false,false,false] rfl rfl (bz I.out (by kernel_rfl)) (by decide) (fun K hK=> ?_);refine cZ aaV (by kernel_rfl) rfl #[.int .i64 (U.length:Int),.int .i64 2,.int .i64 24] (by rfl) rfl rfl (by(try simp only[fT,gJ,j5]);first|done|rfl|(simp only[fF,ca];rfl)) ?_
   with_reducible refine(fb.calls (U.length:Int) 2 24 false _ A5.out).mono ?_
   rintro e w' ⟨rfl,⟨nd,rfl⟩⟩;refine⟨_,rfl, ?_⟩;refine hK.out _ _ trivial (fun hHeld=> ?_);clear hK K;refine nq 11 ?_;refine a8 2 12 I.out ?_;refine a8 3 13 I.out ?_;refine aV 4 14 I.out ?_;refine aV 5 15 I.out ?_;refine aV 6 16 I.out ?_;refine aV 7 17 I.out ?_;refine a8 8 18 I.out ?_;refine a8 9 19 I.out ?_;refine aV 10 20 I.out ?_;refine aV 11 21 I.out ?_;refine aV 12 22 I.out ?_;refine aV 13 23 I.out ?_;refine aV 14 24 I.out ?_;refine aV 15 25 I.out ?_;refine aV 16 26 I.out ?_;refine aV 17 27 I.out ?_;refine aV 18 28 I.out ?_;refine aV 19 29 I.out ?_;refine aV 20 30 I.out ?_;refine a8 21 31 I.out ?_;refine a8 22 32 I.out ?_;refine aV 23 33 I.out ?_;refine aV 24 34 I.out ?_;refine aV 25 35 I.out ?_;refine aV 26 36 I.out ?_;refine aV 27 37 I.out ?_;refine aV 28 38 I.out ?_;refine aV 29 39 I.out ?_;refine aV 30 40 I.out ?_;refine a8 31 41 I.out ?_;refine dP (dW I.out (by kernel_rfl)) ?_
   try go_wp2
   go_meet
   case rel=>exact⟨_,(true),e3,H',⟨by first|omega|exact kV _⟩,⟨bk ag⟩,⟨aX HB gF⟩⟩
  subst c6;rw[if_pos rfl]at H;replace H:=Ok.mp H;obtain⟨EZ,wU,H⟩:=H
  try dsimp only at H
  have A7:=Ah wU;clear wU
  by_cases c8:EZ=true
  rotate_left
  ·
   replace c8:=iK.mpr c8;subst c8;rw[if_neg dM]at H;have H':=Ah H;clear H
   try go_wp2
   replace ag:=Ah (aZ ag.out);replace HB:=Ah (bc HB.out);refine dk (n:=32) (S:=fun w'=>w'.cell? ⟨eO,0,none⟩=some (.slice cf U.length cA)∧w'.cell? ⟨eO,1,none⟩=some (.int .i64 aA)∧w'.cell? ⟨eO,2,none⟩=some (.int .i64 aD)∧w'.cell? ⟨eO,3,none⟩=some (.int .i64 aE)) (ds:=[]) #[false,false,false,false,false,false,false,false,false,false,false,false,false,false,false,false,false,false,false,false,false,false,false,false,false,false,false,false,false,false,false,false] (by kernel_rfl) rfl rfl ⟨(Y ag.out 0).trans rfl,(Y ag.out 1).trans rfl,(Y ag.out 2).trans rfl,(Y ag.out 3).trans rfl⟩ (fun hHeld=> ?_);refine dl ao.rR ao.r7 (fun I aq=> ?_)
   generalize w3.drew=rg at ag HB hHeld⊢
   refine a8 0 10 I.out ?_;refine cK (i:=1) (N:=some 11) #[true,true,false,false,false,false,false,false,false,false,false,false,false,false,false,false,false,false,false,false,false,false,false,false,false,false,false,false,false,false,false,false] rfl rfl (bz I.out (by kernel_rfl)) (by decide) (fun K hK=> ?_);refine cZ aaV (by kernel_rfl) rfl #[.int .i64 (U.length:Int),.int .i64 2,.int .i64 24] (by rfl) rfl rfl (by(try simp only[fT,gJ,j5]);first|done|rfl|(simp only[fF,ca];rfl)) ?_
   with_reducible refine(fb.calls (U.length:Int) 2 24 true _ A5.out).mono ?_
   rintro e w' ⟨rfl,⟨nd,rfl⟩⟩;refine⟨_,rfl, ?_⟩;refine hK.out _ _ ⟨(Y ag.out 0).trans rfl,(Y ag.out 1).trans rfl,(Y ag.out 2).trans rfl,(Y ag.out 3).trans rfl⟩ (fun hHeld=> ?_);clear hK K;refine nq 11 ?_;refine a8 2 12 I.out ?_;refine a8 3 13 I.out ?_;refine a8 4 14 I.out ?_;refine bM 5 15 I.out aq.out hHeld (hr:=by rintro w' ⟨s0,s1,s2,s3⟩;go_simp;with_reducible rfl) (h:= ?_);refine cK (i:=6) (N:=some 16) #[true,true,true,true,true,true,true,false,false,false,false,false,false,false,false,false,false,false,false,false,false,false,false,false,false,false,false,false,false,false,false,false] rfl rfl (bz I.out (by kernel_rfl)) (by decide) (fun K hK=> ?_);refine cZ aaV (by kernel_rfl) rfl #[.int .i64 aA,.int .i64 0,.int .i64 10000000] (by rfl) rfl rfl (by(try simp only[fT,gJ,j5]);first|done|rfl|(simp only[fF,ca];rfl)) ?_
   with_reducible refine(fb.calls aA 0 10000000 false _ A7.out).mono ?_
   rintro e w' ⟨rfl,⟨nd,rfl⟩⟩;refine⟨_,rfl, ?_⟩;refine hK.out _ _ ⟨(Y ag.out 0).trans rfl,(Y ag.out 1).trans rfl,(Y ag.out 2).trans rfl,(Y ag.out 3).trans rfl⟩ (fun hHeld=> ?_);clear hK K;refine nq 16 ?_;refine a8 7 17 I.out ?_;refine a8 8 18 I.out ?_;refine a8 9 19 I.out ?_;refine aV 10 20 I.out ?_;refine aV 11 21 I.out ?_;refine aV 12 22 I.out ?_;refine aV 13 23 I.out ?_;refine aV 14 24 I.out ?_;refine aV 15 25 I.out ?_;refine aV 16 26 I.out ?_;refine aV 17 27 I.out ?_;refine aV 18 28 I.out ?_;refine aV 19 29 I.out ?_;refine aV 20 30 I.out ?_;refine a8 21 31 I.out ?_;refine a8 22 32 I.out ?_;refine aV 23 33 I.out ?_;refine aV 24 34 I.out ?_;refine aV 25 35 I.out ?_;refine aV 26 36 I.out ?_;refine aV 27 37 I.out ?_;refine aV 28 38 I.out ?_;refine aV 29 39 I.out ?_;refine aV 30 40 I.out ?_;refine a8 31 41 I.out ?_;refine dP (dW I.out (by kernel_rfl)) ?_
   try go_wp2
   go_meet
   case rel=>exact⟨_,(true),e3,H',⟨by first|omega|exact kV _⟩,⟨bk ag⟩,⟨aX HB gF⟩⟩
  subst c8;rw[if_pos rfl]at H;obtain⟨wd,wE⟩:∃j_:Int,(mx 0 (F5 (aA-(U.length:Int))))=j_:=⟨_,rfl⟩
  replace H:((fb.f aE (wd) aA).bind fun yV=>(if yV=true then(if(U.length:Int)=0 then(none)else(ao.j0 k (U.length:Int) (aD !=(F5 ((F5 (aQ aA (U.length:Int)))+1))) U aA aD aE))else(ao.j0 k (U.length:Int) true U aA aD aE)))=some r:=by first|(rw[wE]at H;exact H)|(simp only[wE]at H⊢;exact H)
  (try rw[wE]at A5);(try rw[wE]at A7);(try(have hji9l:0≤wd:=by(rw[←wE];unfold mx;(repeat' split)<;>omega)));(try(have hji9m:0≤wd:=by omega));have hji9_:(if 0<(F5 (aA-(U.length:Int)))then(F5 (aA-(U.length:Int)))else 0)=wd:=wE;replace H:=Ok.mp H;obtain⟨yV,UW,H⟩:=H
  try dsimp only at H
  have wQ:=Ah UW;clear UW
  by_cases c11:yV=true
  rotate_left
  ·
   replace c11:=iK.mpr c11;subst c11;rw[if_neg dM]at H;have H':=Ah H;clear H
   try go_wp2
   replace ag:=Ah (aZ ag.out);replace HB:=Ah (bc HB.out);refine dk (n:=32) (S:=fun w'=>w'.cell? ⟨eO,0,none⟩=some (.slice cf U.length cA)∧w'.cell? ⟨eO,1,none⟩=some (.int .i64 aA)∧w'.cell? ⟨eO,2,none⟩=some (.int .i64 aD)∧w'.cell? ⟨eO,3,none⟩=some (.int .i64 aE)) (ds:=[]) #[false,false,false,false,false,false,false,false,false,false,false,false,false,false,false,false,false,false,false,false,false,false,false,false,false,false,false,false,false,false,false,false] (by kernel_rfl) rfl rfl ⟨(Y ag.out 0).trans rfl,(Y ag.out 1).trans rfl,(Y ag.out 2).trans rfl,(Y ag.out 3).trans rfl⟩ (fun hHeld=> ?_);refine dl ao.rR ao.r7 (fun I aq=> ?_)
   generalize w3.drew=kP at ag HB hHeld⊢
   refine a8 0 10 I.out ?_;refine cK (i:=1) (N:=some 11) #[true,true,false,false,false,false,false,false,false,false,false,false,false,false,false,false,false,false,false,false,false,false,false,false,false,false,false,false,false,false,false,false] rfl rfl (bz I.out (by kernel_rfl)) (by decide) (fun K hK=> ?_);refine cZ aaV (by kernel_rfl) rfl #[.int .i64 (U.length:Int),.int .i64 2,.int .i64 24] (by rfl) rfl rfl (by(try simp only[fT,gJ,j5]);first|done|rfl|(simp only[fF,ca];rfl)) ?_
   with_reducible refine(fb.calls (U.length:Int) 2 24 true _ A5.out).mono ?_
   rintro e w' ⟨rfl,⟨nd,rfl⟩⟩;refine⟨_,rfl, ?_⟩;refine hK.out _ _ ⟨(Y ag.out 0).trans rfl,(Y ag.out 1).trans rfl,(Y ag.out 2).trans rfl,(Y ag.out 3).trans rfl⟩ (fun hHeld=> ?_);clear hK K;refine nq 11 ?_;refine a8 2 12 I.out ?_;refine a8 3 13 I.out ?_;refine a8 4 14 I.out ?_;refine bM 5 15 I.out aq.out hHeld (hr:=by rintro w' ⟨s0,s1,s2,s3⟩;go_simp;with_reducible rfl) (h:= ?_);refine cK (i:=6) (N:=some 16) #[true,true,true,true,true,true,true,false,false,false,false,false,false,false,false,false,false,false,false,false,false,false,false,false,false,false,false,false,false,false,false,false] rfl rfl (bz I.out (by kernel_rfl)) (by decide) (fun K hK=> ?_);refine cZ aaV (by kernel_rfl) rfl #[.int .i64 aA,.int .i64 0,.int .i64 10000000] (by rfl) rfl rfl (by(try simp only[fT,gJ,j5]);first|done|rfl|(simp only[fF,ca];rfl)) ?_
   with_reducible refine(fb.calls aA 0 10000000 true _ A7.out).mono ?_
   rintro e w' ⟨rfl,⟨nd,rfl⟩⟩;refine⟨_,rfl, ?_⟩;refine hK.out _ _ ⟨(Y ag.out 0).trans rfl,(Y ag.out 1).trans rfl,(Y ag.out 2).trans rfl,(Y ag.out 3).trans rfl⟩ (fun hHeld=> ?_);clear hK K;refine nq 16 ?_;refine a8 7 17 I.out ?_;refine a8 8 18 I.out ?_;refine a8 9 19 I.out ?_;refine a8 10 20 I.out ?_;refine a8 12 22 I.out ?_;refine a8 14 24 I.out ?_;refine a8 17 27 I.out ?_;refine bM 11 21 I.out aq.out hHeld (hr:=by rintro w' ⟨s0,s1,s2,s3⟩;go_simp;with_reducible rfl) (h:= ?_);refine bM 13 23 I.out aq.out hHeld (hr:=by rintro w' ⟨s0,s1,s2,s3⟩;go_simp;with_reducible rfl) (h:= ?_);refine a8 15 25 I.out ?_;refine a8 16 26 I.out ?_;refine bM 18 28 I.out aq.out hHeld (hr:=by rintro w' ⟨s0,s1,s2,s3⟩;go_simp;with_reducible rfl) (h:= ?_);refine cK (i:=19) (N:=some 29) #[true,true,true,true,true,true,true,true,true,true,true,true,true,true,true,true,true,true,true,true,false,false,false,false,false,false,false,false,false,false,false,false] rfl rfl (bz I.out (by kernel_rfl)) (by decide) (fun K hK=> ?_);refine cZ Tryd.func28 (by kernel_rfl) rfl #[.int .i64 aE,.int .i64 wd,.int .i64 aA] (by rfl) rfl rfl (by(try simp only[List.map_toArray,List.map_cons,List.map_nil]);first|done|(simp only[wE];rfl)|rfl|(simp only[List.length_drop,List.length_take];rfl)) ?_
   with_reducible refine(fb.calls aE wd aA false _ wQ.out).mono ?_
   rintro e w' ⟨rfl,⟨nd,rfl⟩⟩;refine⟨_,rfl, ?_⟩;refine hK.out _ _ ⟨(Y ag.out 0).trans rfl,(Y ag.out 1).trans rfl,(Y ag.out 2).trans rfl,(Y ag.out 3).trans rfl⟩ (fun hHeld=> ?_);clear hK K;refine nq 29 ?_;refine a8 20 30 I.out ?_;refine a8 21 31 I.out ?_;refine a8 22 32 I.out ?_;refine aV 23 33 I.out ?_;refine aV 24 34 I.out ?_;refine aV 25 35 I.out ?_;refine aV 26 36 I.out ?_;refine aV 27 37 I.out ?_;refine aV 28 38 I.out ?_;refine aV 29 39 I.out ?_;refine aV 30 40 I.out ?_;refine a8 31 41 I.out ?_;refine dP (dW I.out (by kernel_rfl)) ?_
   try go_wp2
   go_meet
   case rel=>exact⟨_,(true),e3,H',⟨by first|omega|exact kV _⟩,⟨bk ag⟩,⟨aX HB gF⟩⟩
  subst c11;rw[if_pos rfl]at H
  by_cases c12:(U.length:Int)=0
  ·
   rw[if_pos c12]at H;exact absurd H (by simp)
  rw[if_neg c12]at H;have DJ:=g9 c12;have c12b1:=gA c12
  have a33:¬(U=[]):=fun h_=>c12 (by rw[h_];rfl)
  (first|rw[DJ]|(simp only[fx,gg];rw[DJ])|(simp only[a33,aaD,aaF])|skip);have H':=Ah H;clear H
  try go_wp2
  replace ag:=Ah (aZ ag.out);replace HB:=Ah (bc HB.out);refine dk (n:=32) (S:=fun w'=>w'.cell? ⟨eO,0,none⟩=some (.slice cf U.length cA)∧w'.cell? ⟨eO,1,none⟩=some (.int .i64 aA)∧w'.cell? ⟨eO,2,none⟩=some (.int .i64 aD)∧w'.cell? ⟨eO,3,none⟩=some (.int .i64 aE)) (ds:=[]) #[false,false,false,false,false,false,false,false,false,false,false,false,false,false,false,false,false,false,false,false,false,false,false,false,false,false,false,false,false,false,false,false] (by kernel_rfl) rfl rfl ⟨(Y ag.out 0).trans rfl,(Y ag.out 1).trans rfl,(Y ag.out 2).trans rfl,(Y ag.out 3).trans rfl⟩ (fun hHeld=> ?_);refine dl ao.rR ao.r7 (fun I aq=> ?_)
  generalize w3.drew=lX at ag HB hHeld⊢
  refine a8 0 10 I.out ?_;refine cK (i:=1) (N:=some 11) #[true,true,false,false,false,false,false,false,false,false,false,false,false,false,false,false,false,false,false,false,false,false,false,false,false,false,false,false,false,false,false,false] rfl rfl (bz I.out (by kernel_rfl)) (by decide) (fun K hK=> ?_);refine cZ aaV (by kernel_rfl) rfl #[.int .i64 (U.length:Int),.int .i64 2,.int .i64 24] (by rfl) rfl rfl (by(try simp only[fT,gJ,j5]);first|done|rfl|(simp only[fF,ca];rfl)) ?_
  with_reducible refine(fb.calls (U.length:Int) 2 24 true _ A5.out).mono ?_
  rintro e w' ⟨rfl,⟨nd,rfl⟩⟩;refine⟨_,rfl, ?_⟩;refine hK.out _ _ ⟨(Y ag.out 0).trans rfl,(Y ag.out 1).trans rfl,(Y ag.out 2).trans rfl,(Y ag.out 3).trans rfl⟩ (fun hHeld=> ?_);clear hK K;refine nq 11 ?_;refine a8 2 12 I.out ?_;refine a8 3 13 I.out ?_;refine a8 4 14 I.out ?_;refine bM 5 15 I.out aq.out hHeld (hr:=by rintro w' ⟨s0,s1,s2,s3⟩;go_simp;with_reducible rfl) (h:= ?_);refine cK (i:=6) (N:=some 16) #[true,true,true,true,true,true,true,false,false,false,false,false,false,false,false,false,false,false,false,false,false,false,false,false,false,false,false,false,false,false,false,false] rfl rfl (bz I.out (by kernel_rfl)) (by decide) (fun K hK=> ?_);refine cZ aaV (by kernel_rfl) rfl #[.int .i64 aA,.int .i64 0,.int .i64 10000000] (by rfl) rfl rfl (by(try simp only[fT,gJ,j5]);first|done|rfl|(simp only[fF,ca];rfl)) ?_
  with_reducible refine(fb.calls aA 0 10000000 true _ A7.out).mono ?_
  rintro e w' ⟨rfl,⟨nd,rfl⟩⟩;refine⟨_,rfl, ?_⟩;refine hK.out _ _ ⟨(Y ag.out 0).trans rfl,(Y ag.out 1).trans rfl,(Y ag.out 2).trans rfl,(Y ag.out 3).trans rfl⟩ (fun hHeld=> ?_);clear hK K;refine nq 16 ?_;refine a8 7 17 I.out ?_;refine a8 8 18 I.out ?_;refine a8 9 19 I.out ?_;refine a8 10 20 I.out ?_;refine a8 12 22 I.out ?_;refine a8 14 24 I.out ?_;refine a8 17 27 I.out ?_;refine bM 11 21 I.out aq.out hHeld (hr:=by rintro w' ⟨s0,s1,s2,s3⟩;go_simp;with_reducible rfl) (h:= ?_);refine bM 13 23 I.out aq.out hHeld (hr:=by rintro w' ⟨s0,s1,s2,s3⟩;go_simp;with_reducible rfl) (h:= ?_);refine a8 15 25 I.out ?_;refine a8 16 26 I.out ?_;refine bM 18 28 I.out aq.out hHeld (hr:=by rintro w' ⟨s0,s1,s2,s3⟩;go_simp;with_reducible rfl) (h:= ?_);refine cK (i:=19) (N:=some 29) #[true,true,true,true,true,true,true,true,true,true,true,true,true,true,true,true,true,true,true,true,false,false,false,false,false,false,false,false,false,false,false,false] rfl rfl (bz I.out (by kernel_rfl)) (by decide) (fun K hK=> ?_);refine cZ Tryd.func28 (by kernel_rfl) rfl #[.int .i64 aE,.int .i64 wd,.int .i64 aA] (by rfl) rfl rfl (by(try simp only[List.map_toArray,List.map_cons,List.map_nil]);first|done|(simp only[wE];rfl)|rfl|(simp only[List.length_drop,List.length_take];rfl)) ?_
  with_reducible refine(fb.calls aE wd aA true _ wQ.out).mono ?_
  rintro e w' ⟨rfl,⟨nd,rfl⟩⟩;refine⟨_,rfl, ?_⟩;refine hK.out _ _ ⟨(Y ag.out 0).trans rfl,(Y ag.out 1).trans rfl,(Y ag.out 2).trans rfl,(Y ag.out 3).trans rfl⟩ (fun hHeld=> ?_);clear hK K;refine nq 29 ?_;refine a8 20 30 I.out ?_;refine a8 21 31 I.out ?_;refine a8 22 32 I.out ?_;refine a8 23 33 I.out ?_;refine a8 25 35 I.out ?_;refine a8 27 37 I.out ?_;refine bM 24 34 I.out aq.out hHeld (hr:=by rintro w' ⟨s0,s1,s2,s3⟩;go_simp;with_reducible rfl) (h:= ?_);refine bM 26 36 I.out aq.out hHeld (hr:=by rintro w' ⟨s0,s1,s2,s3⟩;go_simp;with_reducible rfl) (h:= ?_);refine a8 28 38 I.out ?_;refine a8 29 39 I.out ?_;refine a8 30 40 I.out ?_;refine a8 31 41 I.out ?_;refine dP (dW I.out (by kernel_rfl)) ?_
  try go_wp2
  go_meet
  case rel=>exact⟨_,((aD !=(F5 ((F5 (aQ aA (U.length:Int)))+1)))),e3,H',⟨by first|omega|exact kV _⟩,⟨bk ag⟩,⟨aX HB gF⟩⟩
 case rest=>
  clear z6
  try clear c2
  try clear p2
  try clear c6
  try clear c8
  obtain⟨kq,HJ,rfl,HA,kQ,ag,HB⟩:=hcut
  cases kq with
  |zero=>exact absurd HA.out (by simp[ao.j0])
  |succ FU=>
   have H:=HA.out;clear HA;simp only[ao.j0]at H
   by_cases c17:HJ=true
   ·
    subst c17;rw[if_pos rfl]at H;obtain rfl:=qE H
    go_wp2
    go_ret
    exact⟨er,aX HB gF⟩
   replace c17:=iK.mpr c17;subst c17;rw[if_neg dM]at H;have H':=Ah H;clear H;obtain⟨zc,zd,ze,zf⟩:=aT ag;obtain⟨zg,zh,zk,zl⟩:=aU ag
   go_wp2
   go_loopg [4,5] FU (fun kq v4 v5 w'=>∃ (jC:Int) (fN:Int),v4= .int .i64 jC∧v5= .int .i64 fN∧Z (ao.l0 kq (U.length:Int) jC fN U aA aD aE=some r)∧Z (kq≤FU)∧Z (w'.heap[eO]?=some (.cells #[(.slice cf U.length cA),.int .i64 aA,.int .i64 aD,.int .i64 aE] 25 (0,0)))∧Z (Below w.heap.size w w'))
   case atStart=>exact⟨(0),(F5 (aA-(U.length:Int))),e3,e3,H',⟨kV _⟩,⟨bk ag⟩,⟨aX HB gF⟩⟩
   case round=>
    clear H'
    try clear c1
    try clear c2
    try clear p2
    try clear c6
    try clear p6
    try clear c8
    try clear c17
    try clear zc zd ze zf
    try clear zg zh zk zl
    try clear p2
    obtain⟨jC,fN,rfl,rfl,HA,fp,ag,HB⟩:=hrel
    cases gk with
    |zero=>exact absurd HA.out (by simp[ao.l0])
    |succ k2=>
     have H:=HA.out;clear HA;simp only[ao.l0]at H
     by_cases c19:fN<aA
     rotate_left
     ·
      rw[if_neg c19]at H;have HH:=ev c19;clear c19;obtain rfl:=qE H;obtain⟨Pc,Pd,Pe,Pf⟩:=aT ag;obtain⟨Pg,Ph,Pi,Pj⟩:=aU ag
      go_wp2
      go_ret
      exact⟨er,aX HB gF⟩
     rw[if_pos c19]at H;have HH:=bV c19;clear c19
     by_cases c20:fN<0
     ·
      rw[if_pos c20]at H;have AN:=bV c20;clear c20;obtain⟨eV,HM⟩:∃j_:Int,(F5 (fN+(U.length:Int)))=j_:=⟨_,rfl⟩
      replace H:(if 0≤(eV)then(if(eV)<(U.length:Int)then((ia.f k2).bind fun tL=>(if(!(((J U (eV)).f0)==tL.1)||(!(((J U (eV)).f1)==tL.2.1)||(!((((J U (eV)).f2).toList)==tL.2.2.1.toList)||(!(((J U (eV)).f3)==tL.2.2.2)))))=true then(some false)else(ao.l0 k2 (U.length:Int) jC (F5 (fN+1)) U aA aD aE)))else(none))else(none))=some r:=by first|(rw[HM]at H;exact H)|(simp only[HM]at H⊢;exact H)
      have hji21w:(IntKind.i64.wrap (fN+(U.length:Int)))=eV:=(fx _).trans HM
      by_cases yy:0≤(eV)
      rotate_left
      ·
       rw[if_neg yy]at H;exact absurd H (by simp)
      rw[if_pos yy]at H;have c22b0:=bV yy;clear yy
      by_cases c23:(eV)<(U.length:Int)
      rotate_left
      ·
       rw[if_neg c23]at H;exact absurd H (by simp)
      rw[if_pos c23]at H;have a3j:=bV c23;clear c23;replace H:=Ok.mp H;obtain⟨⟨Ea,Eb,Ec,Ed⟩,UX,H⟩:=H
      try dsimp only at H
      have W6:=Ah UX;clear UX
      by_cases mY:(!(((J U (eV)).f0)==Ea)||(!(((J U (eV)).f1)==Eb)||(!((((J U (eV)).f2).toList)==Ec.toList)||(!(((J U (eV)).f3)==Ed)))))=true
      ·
       rw[if_pos mY]at H;have LK:(!(((J U (eV)).f0)==Ea)||(!(((J U (eV)).f1)==Eb)||(!((((J U (eV)).f2).toList)==Ec.toList)||(!(((J U (eV)).f3)==Ed)))))=true:=mY;clear mY;obtain rfl:=qE H;obtain⟨ui,uj,uk,ul⟩:=aT ag;obtain⟨um,uo,uq,ur⟩:=aU ag
       try go_wp2
       replace ag:=Ah (aZ ag.out);replace HB:=Ah (bc HB.out);have wF:0≤((eV):Int):=od;have wG:(eV)<(U.length:Int):=od;obtain⟨l6,e306,mq,mr,ms,mt⟩:=fW fl.out (eV) wF wG;have sd:=mt;have se:=ms;have sf:=mr;have sg:=mq
       cases e306
       replace mq:=hq HB mq;replace mr:=hq HB mr;replace ms:=hq HB ms;replace mt:=hq HB mt;replace wF:=eq_true wF;replace wG:=eq_true wG;refine dk (n:=9) (S:=fun w'=>w'.cell? ⟨eO,0,none⟩=some (.slice (some l6) U.length cA)∧w'.cell? ⟨eO,1,none⟩=some (.int .i64 aA)∧w'.cell? ⟨eO,2,none⟩=some (.int .i64 aD)∧w'.cell? ⟨eO,3,none⟩=some (.int .i64 aE)∧w'.cell? (l6.add (((eV)).toNat*4))=some (.int .i64 ((J U (eV)).f0))∧w'.cell? ⟨(l6.add (((eV)).toNat*4)).block,(l6.add (((eV)).toNat*4)).off+1,none⟩=some (.int .i64 ((J U (eV)).f1))∧w'.cell? ⟨(l6.add (((eV)).toNat*4)).block,(l6.add (((eV)).toNat*4)).off+2,none⟩=some (.string ((J U (eV)).f2))∧w'.cell? ⟨(l6.add (((eV)).toNat*4)).block,(l6.add (((eV)).toNat*4)).off+3,none⟩=some (.int .i64 ((J U (eV)).f3))) (ds:=[]) #[false,false,false,false,false,false,false,false,false] (by kernel_rfl) rfl rfl ⟨(Y ag.out 0).trans rfl,(Y ag.out 1).trans rfl,(Y ag.out 2).trans rfl,(Y ag.out 3).trans rfl,((HB.out.cell (Fe w _ sg)).trans sg),((HB.out.cell (Fe w _ sf)).trans sf),((HB.out.cell (Fe w _ se)).trans se),((HB.out.cell (Fe w _ sd)).trans sd)⟩ (fun hHeld=> ?_);refine dl ao.E8 ao.Cw (fun I aq=> ?_)
       generalize wr.drew=IH at ag HB mq mr ms mt hHeld⊢
       refine a8 0 54 I.out ?_;refine a8 2 56 I.out ?_;refine a8 3 57 I.out ?_;refine a8 4 58 I.out ?_;refine bM 1 55 I.out aq.out hHeld (hr:=by rintro w' ⟨s0,s1,s2,s3,s4,s5,s6,s7⟩;go_simp;with_reducible rfl) (h:= ?_);refine a8 5 59 I.out ?_;refine bM 6 60 I.out aq.out hHeld (hr:=by rintro w' ⟨s0,s1,s2,s3,s4,s5,s6,s7⟩;go_simp;with_reducible rfl) (h:= ?_);refine cK (i:=7) (N:=some 61) #[true,true,true,true,true,true,true,true,false] rfl rfl (bz I.out (by kernel_rfl)) (by decide) (fun K hK=> ?_);refine cZ Tryd.func39 (by kernel_rfl) rfl #[] (by rfl) rfl rfl (by(try simp only[List.map_toArray,List.map_cons,List.map_nil]);first|done|rfl|(simp only[List.length_drop,List.length_take];rfl)) ?_
       with_reducible refine(ia.calls k2 Ea Eb Ec Ed _ ?sideT W6.out).mono ?_
       case sideT=>refine⟨Ito.ea df.out ?_⟩;first|exact bs HB|exact eJ|(repeat(first|(with_reducible first|exact HB.out|apply dH|apply dZ|apply bc|refine cn ?_ (Z.out (by assumption)))|exact HB.out))
       rintro e NM ⟨rfl,hb⟩;refine⟨_,rfl, ?_⟩;replace ag:=Ah (bb ag hb);replace HB:=Ah (aM (aX HB gF) hb);(try clear hb);(try clear hb2);(try clear hk);(try clear hi);refine hK.out _ _ ⟨(Y ag.out 0).trans rfl,(Y ag.out 1).trans rfl,(Y ag.out 2).trans rfl,(Y ag.out 3).trans rfl,((HB.out.cell (Fe w _ sg)).trans sg),((HB.out.cell (Fe w _ sf)).trans sf),((HB.out.cell (Fe w _ se)).trans se),((HB.out.cell (Fe w _ sd)).trans sd)⟩ (fun hHeld=> ?_);clear hK K;refine nq 61 ?_;refine a8 8 62 I.out ?_;refine dP (dW I.out (by kernel_rfl)) ?_
       try go_wp2
       go_ret
       exact⟨by first|rfl|(simp[cH,cI]<;>rfl)|(simp only[←HM];first|rfl|(simp[cH,cI]<;>rfl))|(simp[*,cH,cI]<;>rfl),aX HB gF⟩
      rw[if_neg mY]at H
      have LK:(!(((J U (eV)).f0)==Ea)||(!(((J U (eV)).f1)==Eb)||(!((((J U (eV)).f2).toList)==Ec.toList)||(!(((J U (eV)).f3)==Ed)))))=false:=by simpa using mY
      clear mY;have H':=Ah H;clear H;obtain⟨Bz,C0,C1,C2⟩:=aT ag;obtain⟨C3,C4,C5,C6⟩:=aU ag
      try go_wp2
      replace ag:=Ah (aZ ag.out);replace HB:=Ah (bc HB.out);have wF:0≤((eV):Int):=od;have wG:(eV)<(U.length:Int):=od;obtain⟨l6,e306,mq,mr,ms,mt⟩:=fW fl.out (eV) wF wG;have sd:=mt;have se:=ms;have sf:=mr;have sg:=mq
      cases e306
      replace mq:=hq HB mq;replace mr:=hq HB mr;replace ms:=hq HB ms;replace mt:=hq HB mt;replace wF:=eq_true wF;replace wG:=eq_true wG;refine dk (n:=9) (S:=fun w'=>w'.cell? ⟨eO,0,none⟩=some (.slice (some l6) U.length cA)∧w'.cell? ⟨eO,1,none⟩=some (.int .i64 aA)∧w'.cell? ⟨eO,2,none⟩=some (.int .i64 aD)∧w'.cell? ⟨eO,3,none⟩=some (.int .i64 aE)∧w'.cell? (l6.add (((eV)).toNat*4))=some (.int .i64 ((J U (eV)).f0))∧w'.cell? ⟨(l6.add (((eV)).toNat*4)).block,(l6.add (((eV)).toNat*4)).off+1,none⟩=some (.int .i64 ((J U (eV)).f1))∧w'.cell? ⟨(l6.add (((eV)).toNat*4)).block,(l6.add (((eV)).toNat*4)).off+2,none⟩=some (.string ((J U (eV)).f2))∧w'.cell? ⟨(l6.add (((eV)).toNat*4)).block,(l6.add (((eV)).toNat*4)).off+3,none⟩=some (.int .i64 ((J U (eV)).f3))) (ds:=[]) #[false,false,false,false,false,false,false,false,false] (by kernel_rfl) rfl rfl ⟨(Y ag.out 0).trans rfl,(Y ag.out 1).trans rfl,(Y ag.out 2).trans rfl,(Y ag.out 3).trans rfl,((HB.out.cell (Fe w _ sg)).trans sg),((HB.out.cell (Fe w _ sf)).trans sf),((HB.out.cell (Fe w _ se)).trans se),((HB.out.cell (Fe w _ sd)).trans sd)⟩ (fun hHeld=> ?_);refine dl ao.E8 ao.Cw (fun I aq=> ?_)
      generalize wr.drew=F9 at ag HB mq mr ms mt hHeld⊢
      refine a8 0 54 I.out ?_;refine a8 2 56 I.out ?_;refine a8 3 57 I.out ?_;refine a8 4 58 I.out ?_;refine bM 1 55 I.out aq.out hHeld (hr:=by rintro w' ⟨s0,s1,s2,s3,s4,s5,s6,s7⟩;go_simp;with_reducible rfl) (h:= ?_);refine a8 5 59 I.out ?_;refine bM 6 60 I.out aq.out hHeld (hr:=by rintro w' ⟨s0,s1,s2,s3,s4,s5,s6,s7⟩;go_simp;with_reducible rfl) (h:= ?_);refine cK (i:=7) (N:=some 61) #[true,true,true,true,true,true,true,true,false] rfl rfl (bz I.out (by kernel_rfl)) (by decide) (fun K hK=> ?_);refine cZ Tryd.func39 (by kernel_rfl) rfl #[] (by rfl) rfl rfl (by(try simp only[List.map_toArray,List.map_cons,List.map_nil]);first|done|rfl|(simp only[List.length_drop,List.length_take];rfl)) ?_
      with_reducible refine(ia.calls k2 Ea Eb Ec Ed _ ?sideT W6.out).mono ?_
      case sideT=>refine⟨Ito.ea df.out ?_⟩;first|exact bs HB|exact eJ|(repeat(first|(with_reducible first|exact HB.out|apply dH|apply dZ|apply bc|refine cn ?_ (Z.out (by assumption)))|exact HB.out))
      rintro e Vr ⟨rfl,hb⟩;refine⟨_,rfl, ?_⟩;replace ag:=Ah (bb ag hb);replace HB:=Ah (aM (aX HB gF) hb);(try clear hb);(try clear hb2);(try clear hk);(try clear hi);refine hK.out _ _ ⟨(Y ag.out 0).trans rfl,(Y ag.out 1).trans rfl,(Y ag.out 2).trans rfl,(Y ag.out 3).trans rfl,((HB.out.cell (Fe w _ sg)).trans sg),((HB.out.cell (Fe w _ sf)).trans sf),((HB.out.cell (Fe w _ se)).trans se),((HB.out.cell (Fe w _ sd)).trans sd)⟩ (fun hHeld=> ?_);clear hK K;refine nq 61 ?_;refine a8 8 62 I.out ?_;refine dP (dW I.out (by kernel_rfl)) ?_
      try go_wp2
      go_roundg k2
      case measure=>have:=kQ.out;have:=fp.out;omega
      case rel=>exact⟨(jC),(F5 (fN+1)),e3,e3,H',⟨by have:=kQ.out;have:=fp.out;omega⟩,⟨bk ag⟩,⟨aX HB gF⟩⟩
     rw[if_neg c20]at H;have AN:=ev c20;clear c20
     by_cases c32:(U.length:Int)=0
     ·
      rw[if_pos c32]at H;exact absurd H (by simp)
     rw[if_neg c32]at H;have DK:=g9 c32;have a34:=gA c32
     have a35:¬(U=[]):=fun h_=>c32 (by rw[h_];rfl)
     obtain⟨b9,lx⟩:∃j_:Int,(GW fN (U.length:Int))=j_:=⟨_,rfl⟩
     replace H:(if 0≤(b9)then(if(b9)<(U.length:Int)then(if fN<aE then((ia.f k2).bind fun tM=>(ao.j2 k2 (U.length:Int) jC fN (((J U (b9)).f0)==tM.1&& (((J U (b9)).f1)==tM.2.1&& ((((J U (b9)).f2).toList)==tM.2.2.1.toList&& (((J U (b9)).f3)==tM.2.2.2)))) U aA aD aE ((J U (b9)).f0) ((J U (b9)).f1) ((J U (b9)).f2) ((J U (b9)).f3)))else(ao.j2 k2 (U.length:Int) jC fN false U aA aD aE ((J U (b9)).f0) ((J U (b9)).f1) ((J U (b9)).f2) ((J U (b9)).f3)))else(none))else(none))=some r:=by first|(rw[lx]at H;exact H)|(simp only[lx]at H⊢;exact H)
     by_cases c34:0≤(b9)
     rotate_left
     ·
      rw[if_neg c34]at H;exact absurd H (by simp)
     rw[if_pos c34]at H;have xj:=bV c34;clear c34
     by_cases lZ:(b9)<(U.length:Int)
     rotate_left
     ·
      rw[if_neg lZ]at H;exact absurd H (by simp)
     rw[if_pos lZ]at H;have H5:=bV lZ;clear lZ;have Mb:=Ah H;clear H;obtain⟨sU,sV,sW,sX⟩:=aT ag;obtain⟨sY,sZ,sa,sb⟩:=aU ag
     try go_wp2
     replace ag:=Ah (aZ ag.out);replace HB:=Ah (bc HB.out);have I4:0≤((b9):Int):=od;have I5:(b9)<(U.length:Int):=od;obtain⟨lN,e311,C8,C9,CA,CB⟩:=fW fl.out (b9) I4 I5;have jf:=CB;have jg:=CA;have ji:=C9;have jj:=C8
     cases e311
     replace C8:=hq HB C8;replace C9:=hq HB C9;replace CA:=hq HB CA;replace CB:=hq HB CB;replace I4:=eq_true I4;replace I5:=eq_true I5;refine dk (n:=9) (S:=fun w'=>w'.cell? ⟨eO,0,none⟩=some (.slice (some lN) U.length cA)∧w'.cell? ⟨eO,1,none⟩=some (.int .i64 aA)∧w'.cell? ⟨eO,2,none⟩=some (.int .i64 aD)∧w'.cell? ⟨eO,3,none⟩=some (.int .i64 aE)∧w'.cell? (lN.add (((b9)).toNat*4))=some (.int .i64 ((J U (b9)).f0))∧w'.cell? ⟨(lN.add (((b9)).toNat*4)).block,(lN.add (((b9)).toNat*4)).off+1,none⟩=some (.int .i64 ((J U (b9)).f1))∧w'.cell? ⟨(lN.add (((b9)).toNat*4)).block,(lN.add (((b9)).toNat*4)).off+2,none⟩=some (.string ((J U (b9)).f2))∧w'.cell? ⟨(lN.add (((b9)).toNat*4)).block,(lN.add (((b9)).toNat*4)).off+3,none⟩=some (.int .i64 ((J U (b9)).f3))) (ds:=[]) #[false,false,false,false,false,false,false,false,false] (by kernel_rfl) rfl rfl ⟨(Y ag.out 0).trans rfl,(Y ag.out 1).trans rfl,(Y ag.out 2).trans rfl,(Y ag.out 3).trans rfl,((HB.out.cell (Fe w _ jj)).trans jj),((HB.out.cell (Fe w _ ji)).trans ji),((HB.out.cell (Fe w _ jg)).trans jg),((HB.out.cell (Fe w _ jf)).trans jf)⟩ (fun hHeld=> ?_);refine dl ao.L4 ao.KL (fun I aq=> ?_)
     generalize wr.drew=NN at ag HB C8 C9 CA CB hHeld⊢
     refine a8 0 63 I.out ?_;refine a8 2 65 I.out ?_;refine a8 3 66 I.out ?_;refine a8 4 67 I.out ?_;refine bM 1 64 I.out aq.out hHeld (hr:=by rintro w' ⟨s0,s1,s2,s3,s4,s5,s6,s7⟩;go_simp;with_reducible rfl) (h:= ?_);refine a8 5 68 I.out ?_;refine bM 6 69 I.out aq.out hHeld (hr:=by rintro w' ⟨s0,s1,s2,s3,s4,s5,s6,s7⟩;go_simp;with_reducible rfl) (h:= ?_);refine cK (i:=7) (N:=some 6) #[true,true,true,true,true,true,true,true,false] rfl rfl (bz I.out (by kernel_rfl)) (by decide) (fun K hK=> ?_);refine uL ?hg (N:=6) ?hd (cs:= #[.int .i64 0,.int .i64 0,.string (⟨#[]⟩:ByteArray),.int .i64 0]) (t:=36) ?hr ?_;(case hd=>rfl);(case hg=>rfl);(case hr=>first|(go_simp;done)|(go_simp;rfl));intro cC hg mW hbox hb;have ba:=Ah (hbox);have dS:=gw hg (aX HB gF);have ki:=gw hg (aX HB gF);replace HB:=Ah (aM (aX HB gF) hb);have ip:=nn ag hg;have Bb:=nm ag hg;replace ag:=Ah (bb ag hb);clear hb hbox hg;refine hK.out _ _ ⟨(Y ag.out 0).trans rfl,(Y ag.out 1).trans rfl,(Y ag.out 2).trans rfl,(Y ag.out 3).trans rfl,((HB.out.cell (World.block_lt_of_cell? w _ jj)).trans jj),((HB.out.cell (World.block_lt_of_cell? w _ ji)).trans ji),((HB.out.cell (World.block_lt_of_cell? w _ jg)).trans jg),((HB.out.cell (World.block_lt_of_cell? w _ jf)).trans jf)⟩ (fun hHeld=> ?_);clear hK K;refine nq 6 ?_;refine cK (i:=8) (N:=none) #[true,true,true,true,true,true,true,true,true] rfl rfl (bz I.out (by kernel_rfl)) (by decide) (fun K hK=> ?_);have hs40:mW.cell? ⟨cC,0,none⟩=some (.int .i64 0):=(Y ba.out 0).trans rfl;have hfs40:=dD ba.out 0;have hns40_0:=ip.out;have hms40_0:=Bb.out;have a5B:mW.cell? ⟨cC,1,none⟩=some (.int .i64 0):=(Y ba.out 1).trans rfl;have a3k:=dD ba.out 1;have Zf:=ip.out;have Zg:=Bb.out;have a5C:mW.cell? ⟨cC,2,none⟩=some (.string (⟨#[]⟩:ByteArray)):=(Y ba.out 2).trans rfl;have a3l:=dD ba.out 2;have Zh:=ip.out;have Zi:=Bb.out;have a5D:mW.cell? ⟨cC,3,none⟩=some (.int .i64 0):=(Y ba.out 3).trans rfl;have a3m:=dD ba.out 3;have Zj:=ip.out;have Zk:=Bb.out;refine ke (w1:= ?_) (by rfl) rfl ?_ ?_;rotate_left
     ·
      go_simp
      rfl
     refine hK.out _ _ ⟨((ah (p:=⟨cC,_,none⟩) ip.out _).trans (((ah (p:=⟨cC,_,none⟩) ip.out _).trans (((ah (p:=⟨cC,_,none⟩) ip.out _).trans (((ah (p:=⟨cC,_,none⟩) ip.out _).trans (hHeld.1)))))))),((ah (p:=⟨cC,_,none⟩) ip.out _).trans (((ah (p:=⟨cC,_,none⟩) ip.out _).trans (((ah (p:=⟨cC,_,none⟩) ip.out _).trans (((ah (p:=⟨cC,_,none⟩) ip.out _).trans (hHeld.2.1)))))))),((ah (p:=⟨cC,_,none⟩) ip.out _).trans (((ah (p:=⟨cC,_,none⟩) ip.out _).trans (((ah (p:=⟨cC,_,none⟩) ip.out _).trans (((ah (p:=⟨cC,_,none⟩) ip.out _).trans (hHeld.2.2.1)))))))),((ah (p:=⟨cC,_,none⟩) ip.out _).trans (((ah (p:=⟨cC,_,none⟩) ip.out _).trans (((ah (p:=⟨cC,_,none⟩) ip.out _).trans (((ah (p:=⟨cC,_,none⟩) ip.out _).trans (hHeld.2.2.2.1)))))))),((ah (p:=⟨cC,_,none⟩) (by first|exact ek (WR (by have:=Fe _ _ jj;first|rwa [aG]at this|exact this) dS.out)|(rw[aG];exact ek (WR (by have:=Fe _ _ jj;first|rwa [aG]at this|exact this) dS.out))|(show(ro _ _).block≠_;rw[aG];exact ek (WR (by have:=Fe _ _ jj;first|rwa [aG]at this|exact this) dS.out))|(dsimp only;exact ek (WR (by have:=Fe _ _ jj;first|rwa [aG]at this|exact this) dS.out))) _).trans (((ah (p:=⟨cC,_,none⟩) (by first|exact ek (WR (by have:=Fe _ _ jj;first|rwa [aG]at this|exact this) dS.out)|(rw[aG];exact ek (WR (by have:=Fe _ _ jj;first|rwa [aG]at this|exact this) dS.out))|(show(ro _ _).block≠_;rw[aG];exact ek (WR (by have:=Fe _ _ jj;first|rwa [aG]at this|exact this) dS.out))|(dsimp only;exact ek (WR (by have:=Fe _ _ jj;first|rwa [aG]at this|exact this) dS.out))) _).trans (((ah (p:=⟨cC,_,none⟩) (by first|exact ek (WR (by have:=Fe _ _ jj;first|rwa [aG]at this|exact this) dS.out)|(rw[aG];exact ek (WR (by have:=Fe _ _ jj;first|rwa [aG]at this|exact this) dS.out))|(show(ro _ _).block≠_;rw[aG];exact ek (WR (by have:=Fe _ _ jj;first|rwa [aG]at this|exact this) dS.out))|(dsimp only;exact ek (WR (by have:=Fe _ _ jj;first|rwa [aG]at this|exact this) dS.out))) _).trans (((ah (p:=⟨cC,_,none⟩) (by first|exact ek (WR (by have:=Fe _ _ jj;first|rwa [aG]at this|exact this) dS.out)|(rw[aG];exact ek (WR (by have:=Fe _ _ jj;first|rwa [aG]at this|exact this) dS.out))|(show(ro _ _).block≠_;rw[aG];exact ek (WR (by have:=Fe _ _ jj;first|rwa [aG]at this|exact this) dS.out))|(dsimp only;exact ek (WR (by have:=Fe _ _ jj;first|rwa [aG]at this|exact this) dS.out))) _).trans (hHeld.2.2.2.2.1)))))))),((ah (p:=⟨cC,_,none⟩) (by first|exact ek (WR (by have:=Fe _ _ ji;first|rwa [aG]at this|exact this) dS.out)|(rw[aG];exact ek (WR (by have:=Fe _ _ ji;first|rwa [aG]at this|exact this) dS.out))|(show(ro _ _).block≠_;rw[aG];exact ek (WR (by have:=Fe _ _ ji;first|rwa [aG]at this|exact this) dS.out))|(dsimp only;exact ek (WR (by have:=Fe _ _ ji;first|rwa [aG]at this|exact this) dS.out))) _).trans (((ah (p:=⟨cC,_,none⟩) (by first|exact ek (WR (by have:=Fe _ _ ji;first|rwa [aG]at this|exact this) dS.out)|(rw[aG];exact ek (WR (by have:=Fe _ _ ji;first|rwa [aG]at this|exact this) dS.out))|(show(ro _ _).block≠_;rw[aG];exact ek (WR (by have:=Fe _ _ ji;first|rwa [aG]at this|exact this) dS.out))|(dsimp only;exact ek (WR (by have:=Fe _ _ ji;first|rwa [aG]at this|exact this) dS.out))) _).trans (((ah (p:=⟨cC,_,none⟩) (by first|exact ek (WR (by have:=Fe _ _ ji;first|rwa [aG]at this|exact this) dS.out)|(rw[aG];exact ek (WR (by have:=Fe _ _ ji;first|rwa [aG]at this|exact this) dS.out))|(show(ro _ _).block≠_;rw[aG];exact ek (WR (by have:=Fe _ _ ji;first|rwa [aG]at this|exact this) dS.out))|(dsimp only;exact ek (WR (by have:=Fe _ _ ji;first|rwa [aG]at this|exact this) dS.out))) _).trans (((ah (p:=⟨cC,_,none⟩) (by first|exact ek (WR (by have:=Fe _ _ ji;first|rwa [aG]at this|exact this) dS.out)|(rw[aG];exact ek (WR (by have:=Fe _ _ ji;first|rwa [aG]at this|exact this) dS.out))|(show(ro _ _).block≠_;rw[aG];exact ek (WR (by have:=Fe _ _ ji;first|rwa [aG]at this|exact this) dS.out))|(dsimp only;exact ek (WR (by have:=Fe _ _ ji;first|rwa [aG]at this|exact this) dS.out))) _).trans (hHeld.2.2.2.2.2.1)))))))),((ah (p:=⟨cC,_,none⟩) (by first|exact ek (WR (by have:=Fe _ _ jg;first|rwa [aG]at this|exact this) dS.out)|(rw[aG];exact ek (WR (by have:=Fe _ _ jg;first|rwa [aG]at this|exact this) dS.out))|(show(ro _ _).block≠_;rw[aG];exact ek (WR (by have:=Fe _ _ jg;first|rwa [aG]at this|exact this) dS.out))|(dsimp only;exact ek (WR (by have:=Fe _ _ jg;first|rwa [aG]at this|exact this) dS.out))) _).trans (((ah (p:=⟨cC,_,none⟩) (by first|exact ek (WR (by have:=Fe _ _ jg;first|rwa [aG]at this|exact this) dS.out)|(rw[aG];exact ek (WR (by have:=Fe _ _ jg;first|rwa [aG]at this|exact this) dS.out))|(show(ro _ _).block≠_;rw[aG];exact ek (WR (by have:=Fe _ _ jg;first|rwa [aG]at this|exact this) dS.out))|(dsimp only;exact ek (WR (by have:=Fe _ _ jg;first|rwa [aG]at this|exact this) dS.out))) _).trans (((ah (p:=⟨cC,_,none⟩) (by first|exact ek (WR (by have:=Fe _ _ jg;first|rwa [aG]at this|exact this) dS.out)|(rw[aG];exact ek (WR (by have:=Fe _ _ jg;first|rwa [aG]at this|exact this) dS.out))|(show(ro _ _).block≠_;rw[aG];exact ek (WR (by have:=Fe _ _ jg;first|rwa [aG]at this|exact this) dS.out))|(dsimp only;exact ek (WR (by have:=Fe _ _ jg;first|rwa [aG]at this|exact this) dS.out))) _).trans (((ah (p:=⟨cC,_,none⟩) (by first|exact ek (WR (by have:=Fe _ _ jg;first|rwa [aG]at this|exact this) dS.out)|(rw[aG];exact ek (WR (by have:=Fe _ _ jg;first|rwa [aG]at this|exact this) dS.out))|(show(ro _ _).block≠_;rw[aG];exact ek (WR (by have:=Fe _ _ jg;first|rwa [aG]at this|exact this) dS.out))|(dsimp only;exact ek (WR (by have:=Fe _ _ jg;first|rwa [aG]at this|exact this) dS.out))) _).trans (hHeld.2.2.2.2.2.2.1)))))))),((ah (p:=⟨cC,_,none⟩) (by first|exact ek (WR (by have:=Fe _ _ jf;first|rwa [aG]at this|exact this) dS.out)|(rw[aG];exact ek (WR (by have:=Fe _ _ jf;first|rwa [aG]at this|exact this) dS.out))|(show(ro _ _).block≠_;rw[aG];exact ek (WR (by have:=Fe _ _ jf;first|rwa [aG]at this|exact this) dS.out))|(dsimp only;exact ek (WR (by have:=Fe _ _ jf;first|rwa [aG]at this|exact this) dS.out))) _).trans (((ah (p:=⟨cC,_,none⟩) (by first|exact ek (WR (by have:=Fe _ _ jf;first|rwa [aG]at this|exact this) dS.out)|(rw[aG];exact ek (WR (by have:=Fe _ _ jf;first|rwa [aG]at this|exact this) dS.out))|(show(ro _ _).block≠_;rw[aG];exact ek (WR (by have:=Fe _ _ jf;first|rwa [aG]at this|exact this) dS.out))|(dsimp only;exact ek (WR (by have:=Fe _ _ jf;first|rwa [aG]at this|exact this) dS.out))) _).trans (((ah (p:=⟨cC,_,none⟩) (by first|exact ek (WR (by have:=Fe _ _ jf;first|rwa [aG]at this|exact this) dS.out)|(rw[aG];exact ek (WR (by have:=Fe _ _ jf;first|rwa [aG]at this|exact this) dS.out))|(show(ro _ _).block≠_;rw[aG];exact ek (WR (by have:=Fe _ _ jf;first|rwa [aG]at this|exact this) dS.out))|(dsimp only;exact ek (WR (by have:=Fe _ _ jf;first|rwa [aG]at this|exact this) dS.out))) _).trans (((ah (p:=⟨cC,_,none⟩) (by first|exact ek (WR (by have:=Fe _ _ jf;first|rwa [aG]at this|exact this) dS.out)|(rw[aG];exact ek (WR (by have:=Fe _ _ jf;first|rwa [aG]at this|exact this) dS.out))|(show(ro _ _).block≠_;rw[aG];exact ek (WR (by have:=Fe _ _ jf;first|rwa [aG]at this|exact this) dS.out))|(dsimp only;exact ek (WR (by have:=Fe _ _ jf;first|rwa [aG]at this|exact this) dS.out))) _).trans (hHeld.2.2.2.2.2.2.2))))))))⟩ (fun hHeld=> ?_);clear hK K;refine dP (dW I.out (by kernel_rfl)) ?_
     go_upto_region 12 with(fail)
     go_cut [78] (fun v78 wc=>∃ (kq:Nat) (Ga:Bool),v78= .bool Ga∧Z (ao.j2 kq (U.length:Int) jC fN Ga U aA aD aE ((J U (b9)).f0) ((J U (b9)).f1) ((J U (b9)).f2) ((J U (b9)).f3)=some r)∧Z (kq≤k2)∧Z (wc.heap[eO]?=some (.cells #[(.slice (some lN) U.length cA),.int .i64 aA,.int .i64 aD,.int .i64 aE] 25 (0,0)))∧Z (wc.heap[cC]?=some (.cells #[.int .i64 ((J U (b9)).f0),.int .i64 ((J U (b9)).f1),.string ((J U (b9)).f2),.int .i64 ((J U (b9)).f3)] 36 (0,0)))∧Z (Below w.heap.size w wc))
     case first=>
      have H:=Mb.out;clear Mb
      by_cases mZ:fN<aE
      rotate_left
      ·
       rw[if_neg mZ]at H;have xt:=ev mZ;clear mZ;(first|rw[xt]|(simp only[fx,gg];rw[xt])|(simp only[a36,aaD,aaF])|skip);have H':=Ah H;clear H
       try go_wp2
       have bj:Z (((((mW.setCell ⟨cC,0,none⟩ (.int .i64 ((J U (b9)).f0))).setCell ⟨cC,1,none⟩ (.int .i64 ((J U (b9)).f1))).setCell ⟨cC,2,none⟩ (.string ((J U (b9)).f2))).setCell ⟨cC,3,none⟩ (.int .i64 ((J U (b9)).f3))).heap[eO]?=some (.cells #[.slice (some lN) U.length cA,.int .i64 aA,.int .i64 aD,.int .i64 aE] 25 (0,0))):=⟨bf ag ip⟩;have be:Z (((((mW.setCell ⟨cC,0,none⟩ (.int .i64 ((J U (b9)).f0))).setCell ⟨cC,1,none⟩ (.int .i64 ((J U (b9)).f1))).setCell ⟨cC,2,none⟩ (.string ((J U (b9)).f2))).setCell ⟨cC,3,none⟩ (.int .i64 ((J U (b9)).f3))).heap[cC]?=some (.cells #[.int .i64 ((J U (b9)).f0),.int .i64 ((J U (b9)).f1),.string ((J U (b9)).f2),.int .i64 ((J U (b9)).f3)] 36 (0,0))):=⟨by exact pb ba⟩;have cU:Z (Below w.heap.size w ((((mW.setCell ⟨cC,0,none⟩ (.int .i64 ((J U (b9)).f0))).setCell ⟨cC,1,none⟩ (.int .i64 ((J U (b9)).f1))).setCell ⟨cC,2,none⟩ (.string ((J U (b9)).f2))).setCell ⟨cC,3,none⟩ (.int .i64 ((J U (b9)).f3)))):=⟨an HB gF ki⟩;(try clear ag);(try clear ba);(try clear HB)
       generalize ((((mW.setCell ⟨cC,0,none⟩ (.int .i64 ((J U (b9)).f0))).setCell ⟨cC,1,none⟩ (.int .i64 ((J U (b9)).f1))).setCell ⟨cC,2,none⟩ (.string ((J U (b9)).f2))).setCell ⟨cC,3,none⟩ (.int .i64 ((J U (b9)).f3)))=NH at bj be cU⊢
       have ag:=bj;have ba:=be;have HB:=cU;clear bj be cU;replace ag:=Ah (aZ ag.out);replace ba:=Ah (aZ ba.out);replace HB:=Ah (bc HB.out);refine dk (n:=9) (S:=fun w'=>w'.cell? ⟨eO,0,none⟩=some (.slice (some lN) U.length cA)∧w'.cell? ⟨eO,1,none⟩=some (.int .i64 aA)∧w'.cell? ⟨eO,2,none⟩=some (.int .i64 aD)∧w'.cell? ⟨eO,3,none⟩=some (.int .i64 aE)) (ds:=[]) #[false,false,false,false,false,false,false,false,false] (by kernel_rfl) rfl rfl ⟨(Y ag.out 0).trans rfl,(Y ag.out 1).trans rfl,(Y ag.out 2).trans rfl,(Y ag.out 3).trans rfl⟩ (fun hHeld=> ?_);refine dl ao.Cx ao.CW (fun I aq=> ?_)
       generalize NH.drew=jy at ag ba HB hHeld⊢
       refine a8 0 70 I.out ?_;refine a8 1 71 I.out ?_;refine bM 2 72 I.out aq.out hHeld (hr:=by rintro w' ⟨s0,s1,s2,s3⟩;go_simp;with_reducible rfl) (h:= ?_);refine a8 3 73 I.out ?_;refine a8 4 74 I.out ?_;refine aV 5 75 I.out ?_;refine aV 6 76 I.out ?_;refine aV 7 77 I.out ?_;refine a8 8 78 I.out ?_;refine dP (dW I.out (by kernel_rfl)) ?_
       try go_wp2
       go_meet
       case rel=>exact⟨_,(false),e3,H',⟨by have:=kQ.out;have:=fp.out;first|omega|exact kV _⟩,⟨bk ag⟩,⟨bk ba⟩,⟨an HB gF ki⟩⟩
      rw[if_pos mZ]at H;have xt:=bV mZ;clear mZ;(first|rw[xt]|(simp only[fx,gg];rw[xt])|(simp only[a36,aaD,aaF])|skip);replace H:=Ok.mp H;obtain⟨⟨UY,UZ,Ua,Ub⟩,Ee,H⟩:=H
      try dsimp only at H
      have qD:=Ah Ee;clear Ee;have H':=Ah H;clear H
      try go_wp2
      have bj:Z (((((mW.setCell ⟨cC,0,none⟩ (.int .i64 ((J U (b9)).f0))).setCell ⟨cC,1,none⟩ (.int .i64 ((J U (b9)).f1))).setCell ⟨cC,2,none⟩ (.string ((J U (b9)).f2))).setCell ⟨cC,3,none⟩ (.int .i64 ((J U (b9)).f3))).heap[eO]?=some (.cells #[.slice (some lN) U.length cA,.int .i64 aA,.int .i64 aD,.int .i64 aE] 25 (0,0))):=⟨bf ag ip⟩;have be:Z (((((mW.setCell ⟨cC,0,none⟩ (.int .i64 ((J U (b9)).f0))).setCell ⟨cC,1,none⟩ (.int .i64 ((J U (b9)).f1))).setCell ⟨cC,2,none⟩ (.string ((J U (b9)).f2))).setCell ⟨cC,3,none⟩ (.int .i64 ((J U (b9)).f3))).heap[cC]?=some (.cells #[.int .i64 ((J U (b9)).f0),.int .i64 ((J U (b9)).f1),.string ((J U (b9)).f2),.int .i64 ((J U (b9)).f3)] 36 (0,0))):=⟨by exact pb ba⟩;have cU:Z (Below w.heap.size w ((((mW.setCell ⟨cC,0,none⟩ (.int .i64 ((J U (b9)).f0))).setCell ⟨cC,1,none⟩ (.int .i64 ((J U (b9)).f1))).setCell ⟨cC,2,none⟩ (.string ((J U (b9)).f2))).setCell ⟨cC,3,none⟩ (.int .i64 ((J U (b9)).f3)))):=⟨an HB gF ki⟩;(try clear ag);(try clear ba);(try clear HB)
      generalize ((((mW.setCell ⟨cC,0,none⟩ (.int .i64 ((J U (b9)).f0))).setCell ⟨cC,1,none⟩ (.int .i64 ((J U (b9)).f1))).setCell ⟨cC,2,none⟩ (.string ((J U (b9)).f2))).setCell ⟨cC,3,none⟩ (.int .i64 ((J U (b9)).f3)))=W7 at bj be cU⊢
      have ag:=bj;have ba:=be;have HB:=cU;clear bj be cU;replace ag:=Ah (aZ ag.out);replace ba:=Ah (aZ ba.out);replace HB:=Ah (bc HB.out);refine dk (n:=9) (S:=fun w'=>w'.cell? ⟨eO,0,none⟩=some (.slice (some lN) U.length cA)∧w'.cell? ⟨eO,1,none⟩=some (.int .i64 aA)∧w'.cell? ⟨eO,2,none⟩=some (.int .i64 aD)∧w'.cell? ⟨eO,3,none⟩=some (.int .i64 aE)∧w'.cell? ⟨cC,0,none⟩=some (.int .i64 ((J U (b9)).f0))∧w'.cell? ⟨cC,1,none⟩=some (.int .i64 ((J U (b9)).f1))∧w'.cell? ⟨cC,2,none⟩=some (.string ((J U (b9)).f2))∧w'.cell? ⟨cC,3,none⟩=some (.int .i64 ((J U (b9)).f3))) (ds:=[]) #[false,false,false,false,false,false,false,false,false] (by kernel_rfl) rfl rfl ⟨(Y ag.out 0).trans rfl,(Y ag.out 1).trans rfl,(Y ag.out 2).trans rfl,(Y ag.out 3).trans rfl,(Y ba.out 0).trans rfl,(Y ba.out 1).trans rfl,(Y ba.out 2).trans rfl,(Y ba.out 3).trans rfl⟩ (fun hHeld=> ?_);refine dl ao.Cx ao.CW (fun I aq=> ?_)
      generalize W7.drew=IF at ag ba HB hHeld⊢
      refine a8 0 70 I.out ?_;refine a8 1 71 I.out ?_;refine bM 2 72 I.out aq.out hHeld (hr:=by rintro w' ⟨s0,s1,s2,s3,s4,s5,s6,s7⟩;go_simp;with_reducible rfl) (h:= ?_);refine a8 3 73 I.out ?_;refine a8 4 74 I.out ?_;refine bM 5 75 I.out aq.out hHeld (hr:=by rintro w' ⟨s0,s1,s2,s3,s4,s5,s6,s7⟩;go_simp;with_reducible rfl) (h:= ?_);refine cK (i:=6) (N:=some 76) #[true,true,true,true,true,true,true,false,false] rfl rfl (bz I.out (by kernel_rfl)) (by decide) (fun K hK=> ?_);refine cZ Tryd.func39 (by kernel_rfl) rfl #[] (by rfl) rfl rfl (by(try simp only[List.map_toArray,List.map_cons,List.map_nil]);first|done|rfl|(simp only[List.length_drop,List.length_take];rfl)) ?_
      with_reducible refine(ia.calls k2 UY UZ Ua Ub _ ?sideT qD.out).mono ?_
      case sideT=>refine⟨Ito.ea df.out ?_⟩;first|exact bs HB|exact eJ|(repeat(first|(with_reducible first|exact HB.out|apply dH|apply dZ|apply bc|refine cn ?_ (Z.out (by assumption)))|exact HB.out))
      rintro e wX ⟨rfl,hb⟩;refine⟨_,rfl, ?_⟩;replace ag:=Ah (bb ag hb);replace ba:=Ah (bb ba hb);replace HB:=Ah (aM (an HB gF ki) hb);(try clear hb);(try clear hb2);(try clear hk);(try clear hi);refine hK.out _ _ ⟨(Y ag.out 0).trans rfl,(Y ag.out 1).trans rfl,(Y ag.out 2).trans rfl,(Y ag.out 3).trans rfl,(Y ba.out 0).trans rfl,(Y ba.out 1).trans rfl,(Y ba.out 2).trans rfl,(Y ba.out 3).trans rfl⟩ (fun hHeld=> ?_);clear hK K;refine nq 76 ?_;refine a8 7 77 I.out ?_;refine a8 8 78 I.out ?_;refine dP (dW I.out (by kernel_rfl)) ?_
      try go_wp2
      go_meet
      case rel=>exact⟨_,((((J U (b9)).f0)==UY&& (((J U (b9)).f1)==UZ&& ((((J U (b9)).f2).toList)==Ua.toList&& (((J U (b9)).f3)==Ub))))),(by first|rfl|(simp;done)|(simp only[←lx]<;>(first|rfl|simp))|(simp[*];done)),H',⟨by have:=kQ.out;have:=fp.out;first|omega|exact kV _⟩,⟨bk ag⟩,⟨bk ba⟩,⟨an HB gF ki⟩⟩
     case rest=>
      clear Mb
      try clear c2
      try clear p2
      try clear c3
      try clear p3
      try clear q3
      try clear hx3
      try clear c4
      try clear p6
      try clear c20
      try clear AN
      try clear yy
      try clear c23
      try clear mY
      try clear LK
      try clear p30
      try clear q30
      try clear a5t
      try clear p31
      try clear q31
      try clear hx31
      try clear c32
      try clear DK
      try clear a34
      try clear a35
      try clear c34
      try clear xj
      try clear lZ
      try clear H5
      try clear lG
      try clear mZ
      try clear xt
      try clear Bz C0 C1 C2
      try clear sU sV sW sX
      try clear C3 C4 C5 C6
      try clear sY sZ sa sb
      try clear mq
      try clear mr
      try clear ms
      try clear mt
      try clear C8
      try clear C9
      try clear CA
      try clear CB
      try clear wF
      try clear I4
      try clear wG
      try clear I5
      obtain⟨kq,Ga,rfl,HA,I6,ag,ba,HB⟩:=hcut
      cases kq with
      |zero=>exact absurd HA.out (by simp[ao.j2])
      |succ wH=>
       have H:=HA.out;clear HA;simp only[ao.j2]at H
       by_cases c51:Ga=true
       ·
        subst c51;rw[if_pos rfl]at H;have H':=Ah H;clear H
        go_wp2
        go_roundg wH
        case measure=>have:=kQ.out;have:=fp.out;have:=I6.out;omega
        case rel=>exact⟨(jC),(F5 (fN+1)),e3,e3,H',⟨by have:=kQ.out;have:=fp.out;have:=I6.out;omega⟩,⟨bk ag⟩,⟨an HB gF ki⟩⟩
       replace c51:=iK.mpr c51;subst c51;rw[if_neg dM]at H;replace H:=Ok.mp H;obtain⟨Ma,Uc,H⟩:=H
       try dsimp only at H
       have BD:=Ah Uc;clear Uc
       by_cases c53:Ma=true
       rotate_left
       ·
        replace c53:=iK.mpr c53;subst c53;rw[if_neg dM]at H;obtain rfl:=qE H
        try go_wp2
        replace ag:=Ah (aZ ag.out);replace ba:=Ah (aZ ba.out);replace HB:=Ah (bc HB.out);refine dk (n:=31) (S:=fun w'=>w'.cell? ⟨cC,0,none⟩=some (.int .i64 ((J U (b9)).f0))∧w'.cell? ⟨cC,1,none⟩=some (.int .i64 ((J U (b9)).f1))∧w'.cell? ⟨cC,2,none⟩=some (.string ((J U (b9)).f2))∧w'.cell? ⟨cC,3,none⟩=some (.int .i64 ((J U (b9)).f3))) (ds:=[]) #[false,false,false,false,false,false,false,false,false,false,false,false,false,false,false,false,false,false,false,false,false,false,false,false,false,false,false,false,false,false,false] (by kernel_rfl) rfl rfl ⟨(Y ba.out 0).trans rfl,(Y ba.out 1).trans rfl,(Y ba.out 2).trans rfl,(Y ba.out 3).trans rfl⟩ (fun hHeld=> ?_);refine dl ao.pP ao.pN (fun I aq=> ?_)
        generalize wc.drew=FX at ag ba HB hHeld⊢
        refine bM 0 79 I.out aq.out hHeld (hr:=by rintro w' ⟨s0,s1,s2,s3⟩;go_simp;with_reducible rfl) (h:= ?_);refine cK (i:=1) (N:=some 80) #[true,true,false,false,false,false,false,false,false,false,false,false,false,false,false,false,false,false,false,false,false,false,false,false,false,false,false,false,false,false,false] rfl rfl (bz I.out (by kernel_rfl)) (by decide) (fun K hK=> ?_);refine cZ aa7 (by kernel_rfl) rfl #[.agg #[.int .i64 ((J U (b9)).f0),.int .i64 ((J U (b9)).f1),.string ((J U (b9)).f2),.int .i64 ((J U (b9)).f3)]] (by rfl) rfl rfl (by(try simp only[fT,gJ,j5]);first|done|(simp only[lx];rfl)|rfl|(simp only[fF,ca];rfl)) ?_
        with_reducible refine(ey.calls wH ((J U (b9)).f0) ((J U (b9)).f1) ((J U (b9)).f2) ((J U (b9)).f3) false _ ?sideT BD.out).mono ?_
        case sideT=>refine⟨Ito.ea df.out ?_⟩;first|exact bs HB|exact eJ|(repeat(first|(with_reducible first|exact HB.out|apply dH|apply dZ|apply bc|refine cn ?_ (Z.out (by assumption)))|exact HB.out))
        rintro e W4 ⟨rfl,hb⟩;refine⟨_,rfl, ?_⟩;replace ag:=Ah (bb ag hb);replace ba:=Ah (bb ba hb);replace HB:=Ah (aM (an HB gF ki) hb);(try clear hb);(try clear hb2);(try clear hk);(try clear hi);refine hK.out _ _ ⟨(Y ba.out 0).trans rfl,(Y ba.out 1).trans rfl,(Y ba.out 2).trans rfl,(Y ba.out 3).trans rfl⟩ (fun hHeld=> ?_);clear hK K;refine nq 80 ?_;refine a8 2 81 I.out ?_;refine a8 3 82 I.out ?_;refine aV 4 83 I.out ?_;refine aV 5 84 I.out ?_;refine aV 6 85 I.out ?_;refine aV 7 86 I.out ?_;refine aV 8 87 I.out ?_;refine aV 9 88 I.out ?_;refine aV 10 89 I.out ?_;refine a8 11 90 I.out ?_;refine a8 12 91 I.out ?_;refine aV 13 92 I.out ?_;refine aV 14 93 I.out ?_;refine aV 15 94 I.out ?_;refine aV 16 95 I.out ?_;refine a8 17 96 I.out ?_;refine a8 18 97 I.out ?_;refine aV 19 98 I.out ?_;refine aV 20 99 I.out ?_;refine aV 21 100 I.out ?_;refine aV 22 101 I.out ?_;refine aV 23 102 I.out ?_;refine a8 24 103 I.out ?_;refine a8 25 104 I.out ?_;refine aV 26 105 I.out ?_;refine aV 27 106 I.out ?_;refine aV 28 107 I.out ?_;refine aV 29 108 I.out ?_;refine a8 30 109 I.out ?_;refine dP (dW I.out (by kernel_rfl)) ?_
        try go_wp2
        go_ret
        exact⟨by first|rfl|(simp[cH,cI]<;>rfl)|(simp only[←lx];first|rfl|(simp[cH,cI]<;>rfl))|(simp[*,cH,cI]<;>rfl),an HB gF ki⟩
       subst c53;rw[if_pos rfl]at H
       by_cases oc:(U.length:Int)=0
       ·
        rw[if_pos oc]at H;exact absurd H (by simp)
       rw[if_neg oc]at H;have c54b0:=g9 oc;have c54b1:=gA oc
       have c54b2:¬(U=[]):=fun h_=>oc (by rw[h_];rfl)
       by_cases jG:((J U (b9)).f0)=(F5 ((F5 (aQ fN (U.length:Int)))+1))
       rotate_left
       ·
        rw[if_neg jG]at H;have HN:=g9 jG;have HP:=gA jG;obtain rfl:=qE H
        try go_wp2
        replace ag:=Ah (aZ ag.out);replace ba:=Ah (aZ ba.out);replace HB:=Ah (bc HB.out);refine dk (n:=31) (S:=fun w'=>w'.cell? ⟨cC,0,none⟩=some (.int .i64 ((J U (b9)).f0))∧w'.cell? ⟨cC,1,none⟩=some (.int .i64 ((J U (b9)).f1))∧w'.cell? ⟨cC,2,none⟩=some (.string ((J U (b9)).f2))∧w'.cell? ⟨cC,3,none⟩=some (.int .i64 ((J U (b9)).f3))) (ds:=[]) #[false,false,false,false,false,false,false,false,false,false,false,false,false,false,false,false,false,false,false,false,false,false,false,false,false,false,false,false,false,false,false] (by kernel_rfl) rfl rfl ⟨(Y ba.out 0).trans rfl,(Y ba.out 1).trans rfl,(Y ba.out 2).trans rfl,(Y ba.out 3).trans rfl⟩ (fun hHeld=> ?_);refine dl ao.pP ao.pN (fun I aq=> ?_)
        generalize wc.drew=W8 at ag ba HB hHeld⊢
        refine bM 0 79 I.out aq.out hHeld (hr:=by rintro w' ⟨s0,s1,s2,s3⟩;go_simp;with_reducible rfl) (h:= ?_);refine cK (i:=1) (N:=some 80) #[true,true,false,false,false,false,false,false,false,false,false,false,false,false,false,false,false,false,false,false,false,false,false,false,false,false,false,false,false,false,false] rfl rfl (bz I.out (by kernel_rfl)) (by decide) (fun K hK=> ?_);refine cZ aa7 (by kernel_rfl) rfl #[.agg #[.int .i64 ((J U (b9)).f0),.int .i64 ((J U (b9)).f1),.string ((J U (b9)).f2),.int .i64 ((J U (b9)).f3)]] (by rfl) rfl rfl (by(try simp only[fT,gJ,j5]);first|done|(simp only[lx];rfl)|rfl|(simp only[fF,ca];rfl)) ?_
        with_reducible refine(ey.calls wH ((J U (b9)).f0) ((J U (b9)).f1) ((J U (b9)).f2) ((J U (b9)).f3) true _ ?sideT BD.out).mono ?_
        case sideT=>refine⟨Ito.ea df.out ?_⟩;first|exact bs HB|exact eJ|(repeat(first|(with_reducible first|exact HB.out|apply dH|apply dZ|apply bc|refine cn ?_ (Z.out (by assumption)))|exact HB.out))
        rintro e w70 ⟨rfl,hb⟩;refine⟨_,rfl, ?_⟩;replace ag:=Ah (bb ag hb);replace ba:=Ah (bb ba hb);replace HB:=Ah (aM (an HB gF ki) hb);(try clear hb);(try clear hb2);(try clear hk);(try clear hi);refine hK.out _ _ ⟨(Y ba.out 0).trans rfl,(Y ba.out 1).trans rfl,(Y ba.out 2).trans rfl,(Y ba.out 3).trans rfl⟩ (fun hHeld=> ?_);clear hK K;refine nq 80 ?_;refine a8 2 81 I.out ?_;refine a8 3 82 I.out ?_;refine a8 4 83 I.out ?_;refine a8 6 85 I.out ?_;refine a8 7 86 I.out ?_;refine a8 8 87 I.out ?_;refine a8 9 88 I.out ?_;refine bM 5 84 I.out aq.out hHeld (hr:=by rintro w' ⟨s0,s1,s2,s3⟩;go_simp;with_reducible rfl) (h:= ?_);refine a8 10 89 I.out ?_;refine a8 11 90 I.out ?_;refine a8 12 91 I.out ?_;refine aV 13 92 I.out ?_;refine aV 14 93 I.out ?_;refine aV 15 94 I.out ?_;refine aV 16 95 I.out ?_;refine a8 17 96 I.out ?_;refine a8 18 97 I.out ?_;refine aV 19 98 I.out ?_;refine aV 20 99 I.out ?_;refine aV 21 100 I.out ?_;refine aV 22 101 I.out ?_;refine aV 23 102 I.out ?_;refine a8 24 103 I.out ?_;refine a8 25 104 I.out ?_;refine aV 26 105 I.out ?_;refine aV 27 106 I.out ?_;refine aV 28 107 I.out ?_;refine aV 29 108 I.out ?_;refine a8 30 109 I.out ?_;refine dP (dW I.out (by kernel_rfl)) ?_
        try go_wp2
        go_ret
        exact⟨by first|rfl|(simp[cH,cI]<;>rfl)|(simp only[←lx];first|rfl|(simp[cH,cI]<;>rfl))|(simp[*,cH,cI]<;>rfl),an HB gF ki⟩
       rw[if_pos jG]at H;have HN:=lV jG;have HP:=lW jG;clear jG
       by_cases kS:((J U (b9)).f1)>fN
       ·
        rw[if_pos kS]at H;have AO:=bV kS;clear kS;obtain rfl:=qE H
        try go_wp2
        replace ag:=Ah (aZ ag.out);replace ba:=Ah (aZ ba.out);replace HB:=Ah (bc HB.out);refine dk (n:=31) (S:=fun w'=>w'.cell? ⟨cC,0,none⟩=some (.int .i64 ((J U (b9)).f0))∧w'.cell? ⟨cC,1,none⟩=some (.int .i64 ((J U (b9)).f1))∧w'.cell? ⟨cC,2,none⟩=some (.string ((J U (b9)).f2))∧w'.cell? ⟨cC,3,none⟩=some (.int .i64 ((J U (b9)).f3))) (ds:=[]) #[false,false,false,false,false,false,false,false,false,false,false,false,false,false,false,false,false,false,false,false,false,false,false,false,false,false,false,false,false,false,false] (by kernel_rfl) rfl rfl ⟨(Y ba.out 0).trans rfl,(Y ba.out 1).trans rfl,(Y ba.out 2).trans rfl,(Y ba.out 3).trans rfl⟩ (fun hHeld=> ?_);refine dl ao.pP ao.pN (fun I aq=> ?_)
        generalize wc.drew=NI at ag ba HB hHeld⊢
        refine bM 0 79 I.out aq.out hHeld (hr:=by rintro w' ⟨s0,s1,s2,s3⟩;go_simp;with_reducible rfl) (h:= ?_);refine cK (i:=1) (N:=some 80) #[true,true,false,false,false,false,false,false,false,false,false,false,false,false,false,false,false,false,false,false,false,false,false,false,false,false,false,false,false,false,false] rfl rfl (bz I.out (by kernel_rfl)) (by decide) (fun K hK=> ?_);refine cZ aa7 (by kernel_rfl) rfl #[.agg #[.int .i64 ((J U (b9)).f0),.int .i64 ((J U (b9)).f1),.string ((J U (b9)).f2),.int .i64 ((J U (b9)).f3)]] (by rfl) rfl rfl (by(try simp only[fT,gJ,j5]);first|done|(simp only[lx];rfl)|rfl|(simp only[fF,ca];rfl)) ?_
        with_reducible refine(ey.calls wH ((J U (b9)).f0) ((J U (b9)).f1) ((J U (b9)).f2) ((J U (b9)).f3) true _ ?sideT BD.out).mono ?_
        case sideT=>refine⟨Ito.ea df.out ?_⟩;first|exact bs HB|exact eJ|(repeat(first|(with_reducible first|exact HB.out|apply dH|apply dZ|apply bc|refine cn ?_ (Z.out (by assumption)))|exact HB.out))
        rintro e wY ⟨rfl,hb⟩;refine⟨_,rfl, ?_⟩;replace ag:=Ah (bb ag hb);replace ba:=Ah (bb ba hb);replace HB:=Ah (aM (an HB gF ki) hb);(try clear hb);(try clear hb2);(try clear hk);(try clear hi);refine hK.out _ _ ⟨(Y ba.out 0).trans rfl,(Y ba.out 1).trans rfl,(Y ba.out 2).trans rfl,(Y ba.out 3).trans rfl⟩ (fun hHeld=> ?_);clear hK K;refine nq 80 ?_;refine a8 2 81 I.out ?_;refine a8 3 82 I.out ?_;refine a8 4 83 I.out ?_;refine a8 6 85 I.out ?_;refine a8 7 86 I.out ?_;refine a8 8 87 I.out ?_;refine a8 9 88 I.out ?_;refine bM 5 84 I.out aq.out hHeld (hr:=by rintro w' ⟨s0,s1,s2,s3⟩;go_simp;with_reducible rfl) (h:= ?_);refine a8 10 89 I.out ?_;refine a8 11 90 I.out ?_;refine a8 12 91 I.out ?_;refine a8 13 92 I.out ?_;refine a8 15 94 I.out ?_;refine bM 14 93 I.out aq.out hHeld (hr:=by rintro w' ⟨s0,s1,s2,s3⟩;go_simp;with_reducible rfl) (h:= ?_);refine a8 16 95 I.out ?_;refine a8 17 96 I.out ?_;refine a8 18 97 I.out ?_;refine aV 19 98 I.out ?_;refine aV 20 99 I.out ?_;refine aV 21 100 I.out ?_;refine aV 22 101 I.out ?_;refine aV 23 102 I.out ?_;refine a8 24 103 I.out ?_;refine a8 25 104 I.out ?_;refine aV 26 105 I.out ?_;refine aV 27 106 I.out ?_;refine aV 28 107 I.out ?_;refine aV 29 108 I.out ?_;refine a8 30 109 I.out ?_;refine dP (dW I.out (by kernel_rfl)) ?_
        try go_wp2
        go_ret
        exact⟨by first|rfl|(simp[cH,cI]<;>rfl)|(simp only[←lx];first|rfl|(simp[cH,cI]<;>rfl))|(simp[*,cH,cI]<;>rfl),an HB gF ki⟩
       rw[if_neg kS]at H;have AO:=ev kS;clear kS
       by_cases c59:((J U (b9)).f1)>aE
       ·
        rw[if_pos c59]at H;have a38:=bV c59;clear c59;obtain rfl:=qE H
        try go_wp2
        replace ag:=Ah (aZ ag.out);replace ba:=Ah (aZ ba.out);replace HB:=Ah (bc HB.out);refine dk (n:=31) (S:=fun w'=>w'.cell? ⟨cC,0,none⟩=some (.int .i64 ((J U (b9)).f0))∧w'.cell? ⟨cC,1,none⟩=some (.int .i64 ((J U (b9)).f1))∧w'.cell? ⟨cC,2,none⟩=some (.string ((J U (b9)).f2))∧w'.cell? ⟨cC,3,none⟩=some (.int .i64 ((J U (b9)).f3))∧w'.cell? ⟨eO,0,none⟩=some (.slice (some lN) U.length cA)∧w'.cell? ⟨eO,1,none⟩=some (.int .i64 aA)∧w'.cell? ⟨eO,2,none⟩=some (.int .i64 aD)∧w'.cell? ⟨eO,3,none⟩=some (.int .i64 aE)) (ds:=[]) #[false,false,false,false,false,false,false,false,false,false,false,false,false,false,false,false,false,false,false,false,false,false,false,false,false,false,false,false,false,false,false] (by kernel_rfl) rfl rfl ⟨(Y ba.out 0).trans rfl,(Y ba.out 1).trans rfl,(Y ba.out 2).trans rfl,(Y ba.out 3).trans rfl,(Y ag.out 0).trans rfl,(Y ag.out 1).trans rfl,(Y ag.out 2).trans rfl,(Y ag.out 3).trans rfl⟩ (fun hHeld=> ?_);refine dl ao.pP ao.pN (fun I aq=> ?_)
        generalize wc.drew=Vv at ag ba HB hHeld⊢
        refine bM 0 79 I.out aq.out hHeld (hr:=by rintro w' ⟨s0,s1,s2,s3,s4,s5,s6,s7⟩;go_simp;with_reducible rfl) (h:= ?_);refine cK (i:=1) (N:=some 80) #[true,true,false,false,false,false,false,false,false,false,false,false,false,false,false,false,false,false,false,false,false,false,false,false,false,false,false,false,false,false,false] rfl rfl (bz I.out (by kernel_rfl)) (by decide) (fun K hK=> ?_);refine cZ aa7 (by kernel_rfl) rfl #[.agg #[.int .i64 ((J U (b9)).f0),.int .i64 ((J U (b9)).f1),.string ((J U (b9)).f2),.int .i64 ((J U (b9)).f3)]] (by rfl) rfl rfl (by(try simp only[fT,gJ,j5]);first|done|(simp only[lx];rfl)|rfl|(simp only[fF,ca];rfl)) ?_
        with_reducible refine(ey.calls wH ((J U (b9)).f0) ((J U (b9)).f1) ((J U (b9)).f2) ((J U (b9)).f3) true _ ?sideT BD.out).mono ?_
        case sideT=>refine⟨Ito.ea df.out ?_⟩;first|exact bs HB|exact eJ|(repeat(first|(with_reducible first|exact HB.out|apply dH|apply dZ|apply bc|refine cn ?_ (Z.out (by assumption)))|exact HB.out))
        rintro e w61 ⟨rfl,hb⟩;refine⟨_,rfl, ?_⟩;replace ag:=Ah (bb ag hb);replace ba:=Ah (bb ba hb);replace HB:=Ah (aM (an HB gF ki) hb);(try clear hb);(try clear hb2);(try clear hk);(try clear hi);refine hK.out _ _ ⟨(Y ba.out 0).trans rfl,(Y ba.out 1).trans rfl,(Y ba.out 2).trans rfl,(Y ba.out 3).trans rfl,(Y ag.out 0).trans rfl,(Y ag.out 1).trans rfl,(Y ag.out 2).trans rfl,(Y ag.out 3).trans rfl⟩ (fun hHeld=> ?_);clear hK K;refine nq 80 ?_;refine a8 2 81 I.out ?_;refine a8 3 82 I.out ?_;refine a8 4 83 I.out ?_;refine a8 6 85 I.out ?_;refine a8 7 86 I.out ?_;refine a8 8 87 I.out ?_;refine a8 9 88 I.out ?_;refine bM 5 84 I.out aq.out hHeld (hr:=by rintro w' ⟨s0,s1,s2,s3,s4,s5,s6,s7⟩;go_simp;with_reducible rfl) (h:= ?_);refine a8 10 89 I.out ?_;refine a8 11 90 I.out ?_;refine a8 12 91 I.out ?_;refine a8 13 92 I.out ?_;refine a8 15 94 I.out ?_;refine bM 14 93 I.out aq.out hHeld (hr:=by rintro w' ⟨s0,s1,s2,s3,s4,s5,s6,s7⟩;go_simp;with_reducible rfl) (h:= ?_);refine a8 16 95 I.out ?_;refine a8 17 96 I.out ?_;refine a8 18 97 I.out ?_;refine a8 19 98 I.out ?_;refine a8 21 100 I.out ?_;refine bM 20 99 I.out aq.out hHeld (hr:=by rintro w' ⟨s0,s1,s2,s3,s4,s5,s6,s7⟩;go_simp;with_reducible rfl) (h:= ?_);refine bM 22 101 I.out aq.out hHeld (hr:=by rintro w' ⟨s0,s1,s2,s3,s4,s5,s6,s7⟩;go_simp;with_reducible rfl) (h:= ?_);refine a8 23 102 I.out ?_;refine a8 24 103 I.out ?_;refine a8 25 104 I.out ?_;refine aV 26 105 I.out ?_;refine aV 27 106 I.out ?_;refine aV 28 107 I.out ?_;refine aV 29 108 I.out ?_;refine a8 30 109 I.out ?_;refine dP (dW I.out (by kernel_rfl)) ?_
        try go_wp2
        go_ret
        exact⟨by first|rfl|(simp[cH,cI]<;>rfl)|(simp only[←lx];first|rfl|(simp[cH,cI]<;>rfl))|(simp[*,cH,cI]<;>rfl),an HB gF ki⟩
       rw[if_neg c59]at H;have a38:=ev c59;clear c59
       by_cases kM:((J U (b9)).f1)<jC
       ·
        rw[if_pos kM]at H;have L5:=bV kM;clear kM;obtain rfl:=qE H
        try go_wp2
        replace ag:=Ah (aZ ag.out);replace ba:=Ah (aZ ba.out);replace HB:=Ah (bc HB.out);refine dk (n:=31) (S:=fun w'=>w'.cell? ⟨cC,0,none⟩=some (.int .i64 ((J U (b9)).f0))∧w'.cell? ⟨cC,1,none⟩=some (.int .i64 ((J U (b9)).f1))∧w'.cell? ⟨cC,2,none⟩=some (.string ((J U (b9)).f2))∧w'.cell? ⟨cC,3,none⟩=some (.int .i64 ((J U (b9)).f3))∧w'.cell? ⟨eO,0,none⟩=some (.slice (some lN) U.length cA)∧w'.cell? ⟨eO,1,none⟩=some (.int .i64 aA)∧w'.cell? ⟨eO,2,none⟩=some (.int .i64 aD)∧w'.cell? ⟨eO,3,none⟩=some (.int .i64 aE)) (ds:=[]) #[false,false,false,false,false,false,false,false,false,false,false,false,false,false,false,false,false,false,false,false,false,false,false,false,false,false,false,false,false,false,false] (by kernel_rfl) rfl rfl ⟨(Y ba.out 0).trans rfl,(Y ba.out 1).trans rfl,(Y ba.out 2).trans rfl,(Y ba.out 3).trans rfl,(Y ag.out 0).trans rfl,(Y ag.out 1).trans rfl,(Y ag.out 2).trans rfl,(Y ag.out 3).trans rfl⟩ (fun hHeld=> ?_);refine dl ao.pP ao.pN (fun I aq=> ?_)
        generalize wc.drew=w63 at ag ba HB hHeld⊢
        refine bM 0 79 I.out aq.out hHeld (hr:=by rintro w' ⟨s0,s1,s2,s3,s4,s5,s6,s7⟩;go_simp;with_reducible rfl) (h:= ?_);refine cK (i:=1) (N:=some 80) #[true,true,false,false,false,false,false,false,false,false,false,false,false,false,false,false,false,false,false,false,false,false,false,false,false,false,false,false,false,false,false] rfl rfl (bz I.out (by kernel_rfl)) (by decide) (fun K hK=> ?_);refine cZ aa7 (by kernel_rfl) rfl #[.agg #[.int .i64 ((J U (b9)).f0),.int .i64 ((J U (b9)).f1),.string ((J U (b9)).f2),.int .i64 ((J U (b9)).f3)]] (by rfl) rfl rfl (by(try simp only[fT,gJ,j5]);first|done|(simp only[lx];rfl)|rfl|(simp only[fF,ca];rfl)) ?_
        with_reducible refine(ey.calls wH ((J U (b9)).f0) ((J U (b9)).f1) ((J U (b9)).f2) ((J U (b9)).f3) true _ ?sideT BD.out).mono ?_
        case sideT=>refine⟨Ito.ea df.out ?_⟩;first|exact bs HB|exact eJ|(repeat(first|(with_reducible first|exact HB.out|apply dH|apply dZ|apply bc|refine cn ?_ (Z.out (by assumption)))|exact HB.out))
        rintro e dc ⟨rfl,hb⟩;refine⟨_,rfl, ?_⟩;replace ag:=Ah (bb ag hb);replace ba:=Ah (bb ba hb);replace HB:=Ah (aM (an HB gF ki) hb);(try clear hb);(try clear hb2);(try clear hk);(try clear hi);refine hK.out _ _ ⟨(Y ba.out 0).trans rfl,(Y ba.out 1).trans rfl,(Y ba.out 2).trans rfl,(Y ba.out 3).trans rfl,(Y ag.out 0).trans rfl,(Y ag.out 1).trans rfl,(Y ag.out 2).trans rfl,(Y ag.out 3).trans rfl⟩ (fun hHeld=> ?_);clear hK K;refine nq 80 ?_;refine a8 2 81 I.out ?_;refine a8 3 82 I.out ?_;refine a8 4 83 I.out ?_;refine a8 6 85 I.out ?_;refine a8 7 86 I.out ?_;refine a8 8 87 I.out ?_;refine a8 9 88 I.out ?_;refine bM 5 84 I.out aq.out hHeld (hr:=by rintro w' ⟨s0,s1,s2,s3,s4,s5,s6,s7⟩;go_simp;with_reducible rfl) (h:= ?_);refine a8 10 89 I.out ?_;refine a8 11 90 I.out ?_;refine a8 12 91 I.out ?_;refine a8 13 92 I.out ?_;refine a8 15 94 I.out ?_;refine bM 14 93 I.out aq.out hHeld (hr:=by rintro w' ⟨s0,s1,s2,s3,s4,s5,s6,s7⟩;go_simp;with_reducible rfl) (h:= ?_);refine a8 16 95 I.out ?_;refine a8 17 96 I.out ?_;refine a8 18 97 I.out ?_;refine a8 19 98 I.out ?_;refine a8 21 100 I.out ?_;refine bM 20 99 I.out aq.out hHeld (hr:=by rintro w' ⟨s0,s1,s2,s3,s4,s5,s6,s7⟩;go_simp;with_reducible rfl) (h:= ?_);refine bM 22 101 I.out aq.out hHeld (hr:=by rintro w' ⟨s0,s1,s2,s3,s4,s5,s6,s7⟩;go_simp;with_reducible rfl) (h:= ?_);refine a8 23 102 I.out ?_;refine a8 24 103 I.out ?_;refine a8 25 104 I.out ?_;refine a8 26 105 I.out ?_;refine a8 28 107 I.out ?_;refine bM 27 106 I.out aq.out hHeld (hr:=by rintro w' ⟨s0,s1,s2,s3,s4,s5,s6,s7⟩;go_simp;with_reducible rfl) (h:= ?_);refine a8 29 108 I.out ?_;refine a8 30 109 I.out ?_;refine dP (dW I.out (by kernel_rfl)) ?_
        try go_wp2
        go_ret
        exact⟨by first|rfl|(simp[cH,cI]<;>rfl)|(simp only[←lx];first|rfl|(simp[cH,cI]<;>rfl))|(simp[*,cH,cI]<;>rfl),an HB gF ki⟩
       rw[if_neg kM]at H;have L5:=ev kM;clear kM;have H':=Ah H;clear H
       try go_wp2
       replace ag:=Ah (aZ ag.out);replace ba:=Ah (aZ ba.out);replace HB:=Ah (bc HB.out);refine dk (n:=31) (S:=fun w'=>w'.cell? ⟨cC,0,none⟩=some (.int .i64 ((J U (b9)).f0))∧w'.cell? ⟨cC,1,none⟩=some (.int .i64 ((J U (b9)).f1))∧w'.cell? ⟨cC,2,none⟩=some (.string ((J U (b9)).f2))∧w'.cell? ⟨cC,3,none⟩=some (.int .i64 ((J U (b9)).f3))∧w'.cell? ⟨eO,0,none⟩=some (.slice (some lN) U.length cA)∧w'.cell? ⟨eO,1,none⟩=some (.int .i64 aA)∧w'.cell? ⟨eO,2,none⟩=some (.int .i64 aD)∧w'.cell? ⟨eO,3,none⟩=some (.int .i64 aE)) (ds:=[]) #[false,false,false,false,false,false,false,false,false,false,false,false,false,false,false,false,false,false,false,false,false,false,false,false,false,false,false,false,false,false,false] (by kernel_rfl) rfl rfl ⟨(Y ba.out 0).trans rfl,(Y ba.out 1).trans rfl,(Y ba.out 2).trans rfl,(Y ba.out 3).trans rfl,(Y ag.out 0).trans rfl,(Y ag.out 1).trans rfl,(Y ag.out 2).trans rfl,(Y ag.out 3).trans rfl⟩ (fun hHeld=> ?_);refine dl ao.pP ao.pN (fun I aq=> ?_)
       generalize wc.drew=u0 at ag ba HB hHeld⊢
       refine bM 0 79 I.out aq.out hHeld (hr:=by rintro w' ⟨s0,s1,s2,s3,s4,s5,s6,s7⟩;go_simp;with_reducible rfl) (h:= ?_);refine cK (i:=1) (N:=some 80) #[true,true,false,false,false,false,false,false,false,false,false,false,false,false,false,false,false,false,false,false,false,false,false,false,false,false,false,false,false,false,false] rfl rfl (bz I.out (by kernel_rfl)) (by decide) (fun K hK=> ?_);refine cZ aa7 (by kernel_rfl) rfl #[.agg #[.int .i64 ((J U (b9)).f0),.int .i64 ((J U (b9)).f1),.string ((J U (b9)).f2),.int .i64 ((J U (b9)).f3)]] (by rfl) rfl rfl (by(try simp only[fT,gJ,j5]);first|done|(simp only[lx];rfl)|rfl|(simp only[fF,ca];rfl)) ?_
       with_reducible refine(ey.calls wH ((J U (b9)).f0) ((J U (b9)).f1) ((J U (b9)).f2) ((J U (b9)).f3) true _ ?sideT BD.out).mono ?_
       case sideT=>refine⟨Ito.ea df.out ?_⟩;first|exact bs HB|exact eJ|(repeat(first|(with_reducible first|exact HB.out|apply dH|apply dZ|apply bc|refine cn ?_ (Z.out (by assumption)))|exact HB.out))
       rintro e w66 ⟨rfl,hb⟩;refine⟨_,rfl, ?_⟩;replace ag:=Ah (bb ag hb);replace ba:=Ah (bb ba hb);replace HB:=Ah (aM (an HB gF ki) hb);(try clear hb);(try clear hb2);(try clear hk);(try clear hi);refine hK.out _ _ ⟨(Y ba.out 0).trans rfl,(Y ba.out 1).trans rfl,(Y ba.out 2).trans rfl,(Y ba.out 3).trans rfl,(Y ag.out 0).trans rfl,(Y ag.out 1).trans rfl,(Y ag.out 2).trans rfl,(Y ag.out 3).trans rfl⟩ (fun hHeld=> ?_);clear hK K;refine nq 80 ?_;refine a8 2 81 I.out ?_;refine a8 3 82 I.out ?_;refine a8 4 83 I.out ?_;refine a8 6 85 I.out ?_;refine a8 7 86 I.out ?_;refine a8 8 87 I.out ?_;refine a8 9 88 I.out ?_;refine bM 5 84 I.out aq.out hHeld (hr:=by rintro w' ⟨s0,s1,s2,s3,s4,s5,s6,s7⟩;go_simp;with_reducible rfl) (h:= ?_);refine a8 10 89 I.out ?_;refine a8 11 90 I.out ?_;refine a8 12 91 I.out ?_;refine a8 13 92 I.out ?_;refine a8 15 94 I.out ?_;refine bM 14 93 I.out aq.out hHeld (hr:=by rintro w' ⟨s0,s1,s2,s3,s4,s5,s6,s7⟩;go_simp;with_reducible rfl) (h:= ?_);refine a8 16 95 I.out ?_;refine a8 17 96 I.out ?_;refine a8 18 97 I.out ?_;refine a8 19 98 I.out ?_;refine a8 21 100 I.out ?_;refine bM 20 99 I.out aq.out hHeld (hr:=by rintro w' ⟨s0,s1,s2,s3,s4,s5,s6,s7⟩;go_simp;with_reducible rfl) (h:= ?_);refine bM 22 101 I.out aq.out hHeld (hr:=by rintro w' ⟨s0,s1,s2,s3,s4,s5,s6,s7⟩;go_simp;with_reducible rfl) (h:= ?_);refine a8 23 102 I.out ?_;refine a8 24 103 I.out ?_;refine a8 25 104 I.out ?_;refine a8 26 105 I.out ?_;refine a8 28 107 I.out ?_;refine bM 27 106 I.out aq.out hHeld (hr:=by rintro w' ⟨s0,s1,s2,s3,s4,s5,s6,s7⟩;go_simp;with_reducible rfl) (h:= ?_);refine a8 29 108 I.out ?_;refine a8 30 109 I.out ?_;refine dP (dW I.out (by kernel_rfl)) ?_;have Kk:=Bb.out;have Kl:=ip.out;obtain⟨JK,JL,JM,JN⟩:=aT ba;obtain⟨JO,JP,JQ,JR⟩:=aU ba
       try go_wp2
       go_roundg wH
       case measure=>have:=kQ.out;have:=fp.out;have:=I6.out;omega
       case rel=>exact⟨(((J U (b9)).f1)),(F5 (fN+1)),(by first|rfl|(simp;done)|(simp only[←lx]<;>(first|rfl|simp))|(simp[*];done)),e3,H',⟨by have:=kQ.out;have:=fp.out;have:=I6.out;omega⟩,⟨bk ag⟩,⟨an HB gF ki⟩⟩
def wg.f(l0:List (aK)):Option (List (aK)):=if l0.length*40≤140737488355328 then some l0 else none
set_option maxRecDepth 100000 in
theorem wg.calls(A0:Option Addr)(c0:Nat)(l0:List (aK))(r:List (aK))(w:World)(hr0:Kd.C bD w A0 l0.length l0)(hc0:l0.length≤c0)(h:wg.f l0=some r):
 Calls aaf 40 #[.slice A0 l0.length c0] w fun e w'=>∃fA:Value,e= .returned (fA)∧Kd.R bD 36 w' w.heap.size (fun _=>True) fA r∧Below w.heap.size w w':=by
 have hus:=Tryd.underlying23;have huu:∀w,Sem.run aaf (underlying 23) w= .ok (TypeDesc.slice 36) w:=run_underlying hus
 have hee:∀ (w:World) (a:Option Addr) (n c n' c':Nat),(binOp .eql 23 (.slice a n c) (.slice none n' c')).run aaf w= .ok (.bool a.isNone) w:=fun w a n c n' c'=>Lib.run_eql_slice_nil w _ _ a n c n' c' hus
 unfold wg.f at h
 by_cases hl:l0.length*40≤140737488355328
 ·rw[if_pos hl]at h
  obtain rfl:=qE h;have hR:=Z.mk hr0;have hL:=Z.mk hl;clear hr0 h hl
  rcases A0 with _|ad
  ·have h0:l0=[]:=by
    rcases Nat.eq_zero_or_pos l0.length with h0|h0
    ·exact List.eq_nil_of_length_eq_zero h0
    ·obtain⟨ad,h,_⟩:=hR.out.2.2 h0
     cases h
   subst h0
   go_enter Tryd.func40,Tryd.ntmps40
   go_wp2
   go_ret
   exact⟨_,rfl,Kd.kA _ _ _ _ _,aag _ _⟩
  ·go_enter Tryd.func40,Tryd.ntmps40
   go_wp2_with (first
    |((with_reducible refine bY (N:=5) rfl ?_);refine Kd.vP bD _ 36 ?hg (N:=5) ?hd (xs:=([]:List (aK))) (inner:=[]) (ok:=fun _=>True) (okp:=fun _=>True) ?hr ?hp (fun _ hk=>hk) trivial (aag _ _) (kV _) (by simp) ?_;(case hd=>rfl);(case hg=>rfl);(case hr=>first|(go_simp;done)|(go_simp;rfl));(case hp=>exact(cR.none _ _));intro a6t w4 W9 hb jW jJ;clear jW jJ;have bj:=Z.mk (Kd.eZ W9 (kV _));have be:=Z.mk hb;clear W9 hb)
    |((with_reducible refine BK (b:= .append) (xs:= #[.tmp 5,.tmp 6]) rfl ?_);at_builtin;refine Kd.Fh bD (w0:=w) w.heap.size rfl (.tmp 5) (.tmp 6) 23 36 (.agg #[(.int .i64 0),(.int .i64 0),(.string ⟨#[]⟩),(.int .i64 0)]) 40 rfl hus pK rfl (by decide) (by omega) a6t ([]:List (aK)) l0 _ _ _ (fun _=>True) (fun _=>False) rfl rfl ?aO ?aR (fun _ _ h=>h) (fun _ h=>h.elim) ?aF ?aB ?aS ?aL ?_;(case aR=>exact Kd.qG hR.out be.out);(case aB=>exact be.out);(case aF=>exact(fun _ _=>trivial));(case aO=>exact bj.out);(case aS=>exact be.out.size);(case aL=>have:=hL.out;simp only[List.length_nil,Nat.zero_add];omega);intro I7 w6 ho hb hg hat;rw[List.nil_append]at ho;have BE:=Z.mk ho;have BF:=Z.mk hb;clear bj be ho hb hg hat))
   go_ret
   exact⟨_,rfl,BE.out,BF.out⟩
 ·rw[if_neg hl]at h
  cases h
def zE.f(U:List (aK))(aA:Int)(aD:Int)(aE:Int):Option ((List (aK))×Int×Int×Int):=(wg.f U).bind fun wI=>(some (wI,aA,aD,aE))
theorem zE.calls(cf:Option Addr)(cA:Nat)(U:List (aK))(aA:Int)(aD:Int)(aE:Int)(r1:List (aK))(r2:Int)(r3:Int)(r4:Int)(w:World)(iB:Kd.C bD w cf U.length U)(iC:U.length≤cA)(h:zE.f U aA aD aE=some (r1,r2,r3,r4)):
 Calls aaf 22 #[.agg #[.slice cf U.length cA,.int .i64 aA,.int .i64 aD,.int .i64 aE]] w fun e w'=>∃fA:Value,e= .returned (.agg #[fA,.int .i64 r2,.int .i64 r3,.int .i64 r4])∧Kd.R bD 36 w' w.heap.size (fun _=>True) fA r1∧Below w.heap.size w w':=by
 have lP:=aac;have fl:=Ah iB;have iT:=Ah iC;clear iB iC;have HB:=Ah (aag w.heap.size w);have H:((wg.f U).bind fun wI=>(some (wI,aA,aD,aE)))=some (r1,r2,r3,r4):=h;clear h;replace H:=Ok.mp H;obtain⟨wI,eg,H⟩:=H
 try dsimp only at H
 have A2:=Ah eg;clear eg;simp only[aaa,aad]at H;obtain⟨rfl,rfl,rfl,rfl⟩:=H
 go_enter Tryd.func22,Tryd.ntmps22
 go_wp2_with (first|((with_reducible refine bY (N:=1) rfl ?_);refine br 1 25 #[.slice cf U.length cA,.int .i64 aA,.int .i64 aD,.int .i64 aE] ?_;intro a39 hg w3 pW hb;have GW318:=gw hg (bs HB);have AW:=gw hg (bs HB);replace HB:=Ah (aM (bs HB) hb);clear hb hg)|((with_reducible refine bY (N:=2) rfl ?_);refine br 2 25 #[.slice none 0 0,.int .i64 0,.int .i64 0,.int .i64 0] ?_;intro DL hg w4 AX hb;have GW319:=gw hg (aX HB AW);have LL:=gw hg (aX HB AW);replace HB:=Ah (aM (aX HB AW) hb);have XZ:=nn pW hg;have O7:=nm pW hg;replace pW:=nb pW hb;clear hb hg;have hnb5:=XZ.out;have hnc5:=O7.out;obtain⟨a1I,a1J,a1K,hcz6_3⟩:=aT pW;obtain⟨hfz6_0,a1L,a1M,hfz6_3⟩:=aU pW)|((with_reducible refine bU (f:=40) rfl ?_);refine gL (some 5) rfl rfl Tryd.func40 (by kernel_rfl) rfl #[.slice cf U.length cA] rfl ?_;(with_reducible refine(wg.calls _ _ U wI _ ?aa ?ab A2.out).mono ?_);(case aa=>exact cb fl HB);(case ab=>exact iT.out);rintro e w7 ⟨v321,rfl,ho0,hb⟩;refine⟨_,rfl, ?_⟩;have Sg:=Ah (Kd.eZ ho0 (eo (an HB AW LL)));replace pW:=nb pW hb;replace AX:=nb AX hb;replace HB:=Ah (aM (an HB AW LL) hb);(try clear hb ho0);obtain⟨NR,NS,eo8⟩:=Kd.dI Sg.out;subst eo8;obtain⟨so,sp,sq,vL⟩:=aT pW;obtain⟨vM,sr,st,vN⟩:=aU pW;obtain⟨CC,CD,CE,CF⟩:=aT AX;obtain⟨CG,CH,CI,CJ⟩:=aU AX))
 refine bodyPost_ret (results_cell_row rfl _ _ DL 25 #[.slice NR wI.length NS,.int .i64 aA,.int .i64 aD,.int .i64 aE] (0,0) _ rfl (oZ AX O7) aac rfl (by kernel_rfl)) rfl ?_;exact⟨_,er,by(with_reducible repeat(first|apply Kd.bK|apply Kd.bL|apply Kd.au));exact Kd.am (Kd.aH (p:=⟨DL,3,none⟩) (Kd.aH (p:=⟨DL,2,none⟩) (Kd.aH (p:=⟨DL,1,none⟩) (Kd.aH (p:=⟨DL,0,none⟩) (Kd.aH (p:=⟨a39,0,none⟩) (Kd.dv (Kd.dv Sg.out pW.out (by decide)) AX.out (by decide)) (fun _ hk=>hk.1.2) (.slice NR wI.length NS)) (fun _ hk=>hk.2) (.slice NR wI.length NS)) (fun _ hk=>hk.2) (.int .i64 aA)) (fun _ hk=>hk.2) (.int .i64 aD)) (fun _ hk=>hk.2) (.int .i64 aE)) (fun _ hk=>trivial),an HB AW LL⟩
def dx.j0:Nat→ByteArray→Int→Bool→List (aK)→Int→Int→Int→Option ((List (aK))×Int×Int×Int×Bool)
 |0,_,_,_,_,_,_,_=>none
 |k+1,x1,x6,NT,a0F,GN,Ju,Jv=>if NT=true then(some (([]:List (aK)),0,0,0,false))else((zE.f a0F GN Ju Jv).bind fun DM=>((du.f k Ju Jv x1 0).bind fun iI=>(if x6=0 then(none)else(if 0≤(GW GN x6)then(if(GW GN x6)<(DM.1.length:Int)then(some ((DM.1.set ((GW GN x6):Int).toNat (⟨Ju,Jv,x1,iI⟩:aK)),F5 (DM.2.1+1),F5 ((F5 (aQ (F5 (DM.2.1+1)) x6))+1),DM.2.2.2,true))else(none))else(none)))))
def dx.f(k:Nat)(U:List (aK))(aA:Int)(aD:Int)(aE:Int)(a1:ByteArray):Option ((List (aK))×Int×Int×Int×Bool):=(ao.f k U aA aD aE).bind fun Ef=>(if Ef=true then(if(a1.size:Int)>12 then(dx.j0 k a1 (U.length:Int) true U aA aD aE)else(if(F5 (aA-aE))=(U.length:Int)then(dx.j0 k a1 (U.length:Int) true U aA aD aE)else(dx.j0 k a1 (U.length:Int) (aA==10000000) U aA aD aE)))else(dx.j0 k a1 (U.length:Int) true U aA aD aE))
theorem dx.eC:∀k,(∀y0 y1 y2 y3 y4 y5 y6,aJ (dx.j0 k y0 y1 y2 y3 y4 y5 y6) (dx.j0 (k+1) y0 y1 y2 y3 y4 y5 y6))
 |0=>fun _ _ _ _ _ _ _ r h=>by simp[dx.j0]at h
 |k+1=>by
  have cj:=dx.eC k
  ·
   intro y0 y1 y2 y3 y4 y5 y6;unfold dx.j0
   repeat' with_reducible first|exact cj _ _ _ _ _ _ _|exact ao.mono _ _ _ _ _|exact du.mono _ _ _ _ _|exact aJ.refl _|exact aJ.none _|refine aJ.ite ?_ ?_|refine aJ.bind ?_ (fun _=> ?_)
theorem dx.mono:∀a0 a1 a2 a3 a4 k,aJ (dx.f k a0 a1 a2 a3 a4) (dx.f (k+1) a0 a1 a2 a3 a4):=by
 intro a0 a1 a2 a3 a4 k;have cj:=dx.eC k;unfold dx.f
 repeat' with_reducible first|exact cj _ _ _ _ _ _ _|exact ao.mono _ _ _ _ _|exact du.mono _ _ _ _ _|exact aJ.refl _|exact aJ.none _|refine aJ.ite ?_ ?_|refine aJ.bind ?_ (fun _=> ?_)
def dx.T7:Bool×List (List Nat×List Nat):=(true,[([],[]),([0],[0]),([],[]),([2],[2]),([],[]),([3,4],[3,4]),([],[]),([1,5,0,1,2,3,4,5,6],[1,5]),([7,6,0,1,2,3,4,5,6],[6,7])])
def dx.B7:List Nat:=[0,1,0,4,0,28,0,127,255]
theorem dx.yN:dt .any (gN Tryd.f5 7)=dx.T7:=by kernel_rfl
theorem dx.xi:fh dx.T7.2 dx.B7=true:=by kernel_rfl
theorem dx.calls(k:Nat)(cf:Option Addr)(cA:Nat)(U:List (aK))(aA:Int)(aD:Int)(aE:Int)(a1:ByteArray)(r1:List (aK))(r2:Int)(r3:Int)(r4:Int)(r5:Bool)(w:World)(df:Z (Ito.lz w))(iB:Kd.C bD w cf U.length U)(iC:U.length≤cA)(h:dx.f k U aA aD aE a1=some (r1,r2,r3,r4,r5)):
 Calls aaf 5 #[.agg #[.slice cf U.length cA,.int .i64 aA,.int .i64 aD,.int .i64 aE],.string a1] w fun e w'=>∃fA:Value,e= .returned (.tuple #[.agg #[fA,.int .i64 r2,.int .i64 r3,.int .i64 r4],.bool r5])∧Kd.R bD 36 w' w.heap.size (fun _=>True) fA r1∧Below w.heap.size w w':=by
 have lP:=aac;have kH:=aan;have fl:=Ah iB;have iT:=Ah iC;clear iB iC;have HB:=Ah (aag w.heap.size w);have H:((ao.f k U aA aD aE).bind fun Ef=>(if Ef=true then(if(a1.size:Int)>12 then(dx.j0 k a1 (U.length:Int) true U aA aD aE)else(if(F5 (aA-aE))=(U.length:Int)then(dx.j0 k a1 (U.length:Int) true U aA aD aE)else(dx.j0 k a1 (U.length:Int) (aA==10000000) U aA aD aE)))else(dx.j0 k a1 (U.length:Int) true U aA aD aE)))=some (r1,r2,r3,r4,r5):=h;clear h;have mG:=Ah H;clear H
 go_enter Tryd.func5,Tryd.ntmps5
 go_upto_region 2 with(first|((with_reducible refine bY (N:=2) rfl ?_);(try(refine fV (by rfl) ?_;dsimp only));refine br 2 25 #[.slice cf U.length cA,.int .i64 aA,.int .i64 aD,.int .i64 aE] ?_;intro pX hg w4 dU hb;have GW323:=gw hg (bs HB);have ig:=gw hg (bs HB);replace HB:=Ah (aM (bs HB) hb);clear hb hg)|((with_reducible refine bY (N:=4) rfl ?_);(try(refine fV (by rfl) ?_;dsimp only));refine br 4 25 #[.slice none 0 0,.int .i64 0,.int .i64 0,.int .i64 0] ?_;intro nO hg w5 ez hb;have GW324:=gw hg (aX HB ig);have jN:=gw hg (aX HB ig);replace HB:=Ah (aM (aX HB ig) hb);have wm:=nn dU hg;have wn:=nm dU hg;replace dU:=nb dU hb;clear hb hg;have UB:=wm.out;have UC:=wn.out;obtain⟨vD,vE,vF,vG⟩:=aT dU;obtain⟨vH,vI,vJ,vK⟩:=aU dU))
 (try simp only[Act.put,aab,aai,aaj])
 go_cut [33] (fun v33 wc=>∃ (kq:Nat) (tN:Bool),v33= .bool tN∧Z (dx.j0 kq a1 (U.length:Int) tN U aA aD aE=some (r1,r2,r3,r4,r5))∧Z (kq≤k)∧Z (wc.heap[pX]?=some (.cells #[(.slice cf U.length cA),.int .i64 aA,.int .i64 aD,.int .i64 aE] 25 (0,0)))∧Z (wc.heap[nO]?=some (.cells #[(.slice none 0 0),.int .i64 0,.int .i64 0,.int .i64 0] 25 (0,0)))∧Z (Below w.heap.size w wc))
 case first=>
  have H:=mG.out;clear mG;replace H:=Ok.mp H;obtain⟨Ef,mX,H⟩:=H
  try dsimp only at H
  have A8:=Ah mX;clear mX
  by_cases c9:Ef=true
  rotate_left
  ·
   replace c9:=iK.mpr c9;subst c9;rw[if_neg dM]at H;have H':=Ah H;clear H;have S8:=wm.out;have S9:=wn.out;obtain⟨xC,xD,xE,xF⟩:=aT dU;obtain⟨xG,xH,xI,xJ⟩:=aU dU
   go_wp2_with (first|((with_reducible refine bU (f:=21) rfl ?_);refine gL (some 13) rfl rfl aa8 (by kernel_rfl) rfl #[.agg #[.slice cf U.length cA,.int .i64 aA,.int .i64 aD,.int .i64 aE]] rfl ?_;(with_reducible refine(ao.calls k _ _ U aA aD aE false _ ?sideT ?aa ?ab A8.out).mono ?_);(case sideT=>refine⟨Ito.ea df.out ?_⟩;first|exact bs HB|exact eJ|(repeat(first|(with_reducible first|exact HB.out|apply dH|apply dZ|apply bc|refine cn ?_ (Z.out (by assumption)))|exact HB.out)));(case aa=>exact cb fl HB);(case ab=>exact iT.out);rintro e NG ⟨rfl,hb⟩;refine⟨_,rfl, ?_⟩;replace dU:=nb dU hb;replace ez:=nb ez hb;replace HB:=Ah (aM (an HB ig jN) hb);(try clear hb)))
   go_meet
   case rel=>exact⟨_,(true),e3,H',⟨by first|omega|exact kV _⟩,⟨bk dU⟩,⟨bk ez⟩,⟨an HB ig jN⟩⟩
  subst c9;rw[if_pos rfl]at H
  by_cases c10:(a1.size:Int)>12
  ·
   rw[if_pos c10]at H;have iU:=bV c10;have AP:decide (12<a1.size)=true:=decide_eq_true (by omega);clear c10;(first|rw[iU]|(simp only[fx,gg];rw[iU])|(simp only[L6,aaD,aaF])|skip);have H':=Ah H;clear H;have L7:=wm.out;have L8:=wn.out;obtain⟨sL,sM,sN,sO⟩:=aT dU;obtain⟨sP,sQ,sR,sS⟩:=aU dU
   go_wp2_with (first|((with_reducible refine bU (f:=21) rfl ?_);refine gL (some 13) rfl rfl aa8 (by kernel_rfl) rfl #[.agg #[.slice cf U.length cA,.int .i64 aA,.int .i64 aD,.int .i64 aE]] rfl ?_;(with_reducible refine(ao.calls k _ _ U aA aD aE true _ ?sideT ?aa ?ab A8.out).mono ?_);(case sideT=>refine⟨Ito.ea df.out ?_⟩;first|exact bs HB|exact eJ|(repeat(first|(with_reducible first|exact HB.out|apply dH|apply dZ|apply bc|refine cn ?_ (Z.out (by assumption)))|exact HB.out)));(case aa=>exact cb fl HB);(case ab=>exact iT.out);rintro e lX ⟨rfl,hb⟩;refine⟨_,rfl, ?_⟩;replace dU:=nb dU hb;replace ez:=nb ez hb;replace HB:=Ah (aM (an HB ig jN) hb);(try clear hb)))
   go_meet
   case rel=>exact⟨_,(true),e3,H',⟨by first|omega|exact kV _⟩,⟨bk dU⟩,⟨bk ez⟩,⟨an HB ig jN⟩⟩
  rw[if_neg c10]at H;have iU:=ev c10;have AP:decide (12<a1.size)=false:=decide_eq_false (by omega);clear c10;(first|rw[iU]|(simp only[fx,gg];rw[iU])|(simp only[L6,aaD,aaF])|skip)
  by_cases c14:(F5 (aA-aE))=(U.length:Int)
  rotate_left
  ·
   rw[if_neg c14]at H;have vl:=g9 c14;have D2:=gA c14;have H':=Ah H;clear H;have L9:=wm.out;have LA:=wn.out;obtain⟨ou,ov,ow,ox⟩:=aT dU;obtain⟨oy,oz,p7,p8⟩:=aU dU
   go_wp2_with (first|((with_reducible refine bU (f:=21) rfl ?_);refine gL (some 13) rfl rfl aa8 (by kernel_rfl) rfl #[.agg #[.slice cf U.length cA,.int .i64 aA,.int .i64 aD,.int .i64 aE]] rfl ?_;(with_reducible refine(ao.calls k _ _ U aA aD aE true _ ?sideT ?aa ?ab A8.out).mono ?_);(case sideT=>refine⟨Ito.ea df.out ?_⟩;first|exact bs HB|exact eJ|(repeat(first|(with_reducible first|exact HB.out|apply dH|apply dZ|apply bc|refine cn ?_ (Z.out (by assumption)))|exact HB.out)));(case aa=>exact cb fl HB);(case ab=>exact iT.out);rintro e oe ⟨rfl,hb⟩;refine⟨_,rfl, ?_⟩;replace dU:=nb dU hb;replace ez:=nb ez hb;replace HB:=Ah (aM (an HB ig jN) hb);(try clear hb);obtain⟨qb,qc,qd,qe⟩:=aT dU;obtain⟨qf,qg,qh,qi⟩:=aU dU))
   go_meet
   case rel=>exact⟨_,((aA==10000000)),e3,H',⟨by first|omega|exact kV _⟩,⟨bk dU⟩,⟨bk ez⟩,⟨an HB ig jN⟩⟩
  rw[if_pos c14]at H;have vl:=lV c14;have D2:=lW c14;clear c14;have H':=Ah H;clear H;have Kg:=wm.out;have Kh:=wn.out;obtain⟨mf,mg,mh,mi⟩:=aT dU;obtain⟨mj,ml,mm,mo⟩:=aU dU
  go_wp2_with (first|((with_reducible refine bU (f:=21) rfl ?_);refine gL (some 13) rfl rfl aa8 (by kernel_rfl) rfl #[.agg #[.slice cf U.length cA,.int .i64 aA,.int .i64 aD,.int .i64 aE]] rfl ?_;(with_reducible refine(ao.calls k _ _ U aA aD aE true _ ?sideT ?aa ?ab A8.out).mono ?_);(case sideT=>refine⟨Ito.ea df.out ?_⟩;first|exact bs HB|exact eJ|(repeat(first|(with_reducible first|exact HB.out|apply dH|apply dZ|apply bc|refine cn ?_ (Z.out (by assumption)))|exact HB.out)));(case aa=>exact cb fl HB);(case ab=>exact iT.out);rintro e z7 ⟨rfl,hb⟩;refine⟨_,rfl, ?_⟩;replace dU:=nb dU hb;replace ez:=nb ez hb;replace HB:=Ah (aM (an HB ig jN) hb);(try clear hb);obtain⟨zc,zd,ze,zf⟩:=aT dU;obtain⟨zg,zh,zk,zl⟩:=aU dU))
  go_meet
  case rel=>exact⟨_,(true),e3,H',⟨by first|omega|exact kV _⟩,⟨bk dU⟩,⟨bk ez⟩,⟨an HB ig jN⟩⟩
 case rest=>
  clear mG
  try clear c1
  try clear c2
  try clear p2
  try clear c5
  try clear c6
  try clear p6
  try clear c9
  try clear c10
  try clear iU
  try clear AP
  try clear c11
  try clear c14
  try clear vl
  try clear D2
  try clear c15
  try clear c19
  try clear c21
  try clear c23
  try clear sL sM sN sO
  try clear mf mg mh mi
  try clear zc zd ze zf
  try clear ou ov ow ox
  try clear qb qc qd qe
  try clear xC xD xE xF
  try clear vD vE vF vG
  try clear sP sQ sR sS
  try clear mj ml mm mo
  try clear zg zh zk zl
  try clear oy oz p7 p8
  try clear qf qg qh qi
  try clear xG xH xI xJ
  try clear vH vI vJ vK
  obtain⟨kq,tN,rfl,HA,HJ2,dU,ez,HB⟩:=hcut
  cases kq with
  |zero=>exact absurd HA.out (by simp[dx.j0])
  |succ zA=>
   have H:=HA.out;clear HA;simp only[dx.j0]at H
   by_cases iY:tN=true
   ·
    subst iY;rw[if_pos rfl]at H;simp only[aaa,aad]at H;obtain⟨rfl,rfl,rfl,rfl,rfl⟩:=H;have SA:=wn.out;have SB:=wm.out;obtain⟨uU,uV,uW,uX⟩:=aT ez;obtain⟨uY,uZ,ua,ub⟩:=aU ez
    go_wp2
    refine bodyPost_ret (gC rfl _ _ nO 25 #[.slice none 0 0,.int .i64 0,.int .i64 0,.int .i64 0] (0,0) _ rfl (pb ez) aac rfl (by kernel_rfl)) rfl ?_;exact⟨_,er,by first|exact Kd.kA _ _ _ _ _|exact Kd.lm _ _ _ _ _|exact Kd.ln _ _ _ _ _|exact Kd.lh _ _ _ _ _|exact Kd.ll _ _ _ _ _,an HB ig jN⟩
   replace iY:=iK.mpr iY;subst iY;rw[if_neg dM]at H;replace H:=Ok.mp H;obtain⟨⟨jR,m5,Eg,tc⟩,EF,H⟩:=H
   try dsimp only at H
   have FV:=Ah EF;clear EF;replace H:=Ok.mp H;obtain⟨iI,EG,H⟩:=H
   try dsimp only at H
   have iJ:=Ah EG;clear EG
   by_cases c31:(U.length:Int)=0
   ·
    rw[if_pos c31]at H;exact absurd H (by simp)
   rw[if_neg c31]at H;have a3x:=g9 c31;have a3y:=gA c31
   have a3z:¬(U=[]):=fun h_=>c31 (by rw[h_];rfl)
   obtain⟨bx,pR⟩:∃j_:Int,(GW aA (U.length:Int))=j_:=⟨_,rfl⟩
   replace H:(if 0≤(bx)then(if(bx)<(jR.length:Int)then(some ((jR.set ((bx):Int).toNat (⟨aD,aE,a1,iI⟩:aK)),F5 (m5+1),F5 ((F5 (aQ (F5 (m5+1)) (U.length:Int)))+1),tc,true))else(none))else(none))=some (r1,r2,r3,r4,r5):=by first|(rw[pR]at H;exact H)|(simp only[pR]at H⊢;exact H)
   (try rw[pR]at FV);(try rw[pR]at iJ)
   by_cases kR:0≤(bx)
   rotate_left
   ·
    rw[if_neg kR]at H;exact absurd H (by simp)
   rw[if_pos kR]at H;have H4:=bV kR;clear kR
   by_cases c34:(bx)<(jR.length:Int)
   rotate_left
   ·
    rw[if_neg c34]at H;exact absurd H (by simp)
   rw[if_pos c34]at H;have xj:=bV c34;clear c34;obtain⟨Ud,DN⟩:∃y_:List (aK),y_=(jR.set ((bx):Int).toNat (⟨aD,aE,a1,iI⟩:aK)):=⟨_,rfl⟩
   replace H:(some (Ud,F5 (m5+1),F5 ((F5 (aQ (F5 (m5+1)) (U.length:Int)))+1),tc,true))=some (r1,r2,r3,r4,r5):=by first|(rw[DN];with_reducible exact H)|(have cL:=(zD _ _).symm.trans H;rw[DN];with_reducible exact cL)|(have cL:=(zD _ _).symm.trans H;with_reducible exact cL)|with_reducible exact H|(rw[DN];exact H)|exact H
   have a4a:=Ah DN;clear DN;simp only[aaa,aad]at H;obtain⟨rfl,rfl,rfl,rfl,rfl⟩:=H;have SC:=wm.out;have SD:=wn.out;obtain⟨sU,sV,sW,sX⟩:=aT dU;obtain⟨sY,sZ,sa,sb⟩:=aU dU
   try go_wp2_with (first|((with_reducible refine bU (f:=22) rfl ?_);refine gL (some 36) rfl rfl Tryd.func22 (by kernel_rfl) rfl #[.agg #[.slice cf U.length cA,.int .i64 aA,.int .i64 aD,.int .i64 aE]] rfl ?_;(with_reducible refine(zE.calls _ _ U aA aD aE jR m5 Eg tc _ ?aa ?ab FV.out).mono ?_);(case aa=>exact cb fl HB);(case ab=>exact iT.out);rintro e NN ⟨v327,rfl,ho0,hb⟩;refine⟨_,rfl, ?_⟩;have fX:=Ah (Kd.eZ ho0 (eo (an HB ig jN)));replace dU:=nb dU hb;replace ez:=nb ez hb;replace HB:=Ah (aM (an HB ig jN) hb);(try clear hb ho0))|((with_reducible refine bY (N:=7) rfl ?_);(try(refine fV (by rfl) ?_;dsimp only));refine br 7 25 #[.slice none 0 0,.int .i64 0,.int .i64 0,.int .i64 0] ?_;intro pY hg mW gl hb;replace fX:=nr fX hb;have GW332:=gw hg (an HB ig jN);have xu:=gw hg (an HB ig jN);replace HB:=Ah (aM (an HB ig jN) hb);have G1:=nn dU hg;have Xa:=nm dU hg;replace dU:=nb dU hb;have Bc:=nn ez hg;have Xb:=nm ez hg;replace ez:=nb ez hb;clear hb hg;obtain⟨Mc,wJ,a6u⟩:=Kd.dI fX.out;subst a6u;have hnb41:=Xa.out;have hnc41:=G1.out;have a3B:=Xb.out;have a3C:=Bc.out;obtain⟨hcz43_0,hcz43_1,hcz43_2,hcz43_3⟩:=aT gl;obtain⟨hfz43_0,hfz43_1,hfz43_2,hfz43_3⟩:=aU gl;obtain⟨Zx,Zy,Zz,a0a⟩:=aT dU;obtain⟨a0b,a0c,a0d,a0e⟩:=aU dU)|((with_reducible refine bY (N:=8) rfl ?_);(try(refine fV (by rfl) ?_;dsimp only));refine br 8 36 #[.int .i64 0,.int .i64 0,.string (⟨#[]⟩:ByteArray),.int .i64 0] ?_;intro gc hg wZ kC hb;replace fX:=Ah (Kd.bB (Kd.e8 (rf fX gl) gc (Nat.le_of_eq hg.symm)) hb);have GW333:=gw hg (d9 HB ig jN xu);have HQ:=gw hg (d9 HB ig jN xu);replace HB:=Ah (aM (d9 HB ig jN xu) hb);have It:=Ah ((by rw[hg];exact ek (j7 (g:=pX) (o:= .cells #[.slice cf U.length cA,.int .i64 aA,.int .i64 aD,.int .i64 aE] 25 (0,0)) (bf dU G1)):pX≠gc));have Xc:=Ah ((by rw[hg];exact Nat.ne_of_gt (j7 (g:=pX) (o:= .cells #[.slice cf U.length cA,.int .i64 aA,.int .i64 aD,.int .i64 aE] 25 (0,0)) (bf dU G1)):gc≠pX));replace dU:=Ah (bq (bf dU G1) hb);have Iu:=Ah ((by rw[hg];exact ek (j7 (g:=nO) (o:= .cells #[.slice none 0 0,.int .i64 0,.int .i64 0,.int .i64 0] 25 (0,0)) (bf ez Bc)):nO≠gc));have Xd:=Ah ((by rw[hg];exact Nat.ne_of_gt (j7 (g:=nO) (o:= .cells #[.slice none 0 0,.int .i64 0,.int .i64 0,.int .i64 0] 25 (0,0)) (bf ez Bc)):gc≠nO));replace ez:=Ah (bq (bf ez Bc) hb);have Iv:=Ah ((NE gl hg:pY≠gc));have Xe:=Ah ((Vg gl hg:gc≠pY));replace gl:=Ah (bq (g:=pY) (o:= .cells #[.slice Mc jR.length wJ,.int .i64 m5,.int .i64 Eg,.int .i64 tc] 25 (0,0)) (pb gl) hb);clear hb hg;have a2A:=Xc.out;have a2B:=It.out;have a2C:=Xd.out;have a2D:=Iu.out;have a4b:=Xe.out;have a4c:=Iv.out;obtain⟨a0G,a0H,a0I,a0J⟩:=aT kC;obtain⟨a0K,a0L,a0M,a0N⟩:=aU kC)|((with_reducible refine bU (f:=17) rfl ?_);refine gL (some 44) rfl rfl ab3 (by kernel_rfl) rfl #[.agg #[.int .i64 aD,.int .i64 aE,.string a1,.int .i64 0]] rfl ?_;(with_reducible refine(du.calls zA aD aE a1 0 iI _ ?sideT iJ.out).mono ?_);(case sideT=>refine⟨Ito.ea df.out ?_⟩;first|exact bs HB|exact eJ|(repeat(first|(with_reducible first|exact HB.out|apply dH|apply dZ|apply bc|refine cn ?_ (Z.out (by assumption)))|exact HB.out)));rintro e jy ⟨rfl,hb⟩;refine⟨_,rfl, ?_⟩;replace fX:=Ah (Kd.bB (by(with_reducible repeat(first|apply Kd.bK|apply Kd.bL|apply Kd.au));exact(Kd.am (Kd.aH (p:=⟨gc,3,none⟩) (Kd.aH (p:=⟨gc,2,none⟩) (Kd.aH (p:=⟨gc,1,none⟩) (Kd.aH (p:=⟨gc,0,none⟩) (Kd.am fX.out (fun k_ hk=>(⟨hk,hk.2⟩:_∧k_≠gc))) (fun _ hk=>hk.2) (.int .i64 aD)) (fun _ hk=>hk.2) (.int .i64 aE)) (fun _ hk=>hk.2) (.string a1)) (fun _ hk=>hk.2) (.int .i64 0)) (fun _ h_=>h_.1))) hb);replace dU:=Ah (bq (bf dU It) hb);replace ez:=Ah (bq (bf ez Iu) hb);replace gl:=Ah (bq (bf gl Iv) hb);replace kC:=Ah (bq (g:=gc) (o:= .cells #[.int .i64 aD,.int .i64 aE,.string a1,.int .i64 0] 36 (0,0)) (pb kC) hb);replace HB:=Ah (aM (eG HB ig jN xu HQ) hb);(try clear hb hk);obtain⟨a0f,a0g,a0h,a0i⟩:=aT kC;obtain⟨a0j,a0k,a0l,a0m⟩:=aU kC))
   have bj:Z (Kd.R bD 36 (jy.setCell ⟨gc,3,none⟩ (.int .i64 iI)) w.heap.size (fun k_=>k_≠gc) (.slice Mc jR.length wJ) jR):=⟨by(with_reducible repeat(first|apply Kd.bK|apply Kd.bL|apply Kd.au));exact Kd.am (Kd.aH (p:=⟨gc,3,none⟩) (Kd.am fX.out (fun k_ hk=>(⟨hk,hk.2⟩:_∧k_≠gc))) (fun _ hk=>hk.2) (.int .i64 iI)) (fun _ hk=>hk.1.2)⟩;have be:Z ((jy.setCell ⟨gc,3,none⟩ (.int .i64 iI)).heap[pX]?=some (.cells #[.slice cf U.length cA,.int .i64 aA,.int .i64 aD,.int .i64 aE] 25 (0,0))):=⟨bf dU It⟩;have cU:Z ((jy.setCell ⟨gc,3,none⟩ (.int .i64 iI)).heap[nO]?=some (.cells #[.slice none 0 0,.int .i64 0,.int .i64 0,.int .i64 0] 25 (0,0))):=⟨bf ez Iu⟩;have dh:Z ((jy.setCell ⟨gc,3,none⟩ (.int .i64 iI)).heap[pY]?=some (.cells #[.slice Mc jR.length wJ,.int .i64 m5,.int .i64 Eg,.int .i64 tc] 25 (0,0))):=⟨bf gl Iv⟩;have di:Z ((jy.setCell ⟨gc,3,none⟩ (.int .i64 iI)).heap[gc]?=some (.cells #[.int .i64 aD,.int .i64 aE,.string a1,.int .i64 iI] 36 (0,0))):=⟨by exact pb kC⟩;have hX:Z (Below w.heap.size w (jy.setCell ⟨gc,3,none⟩ (.int .i64 iI))):=⟨eG HB ig jN xu HQ⟩;(try clear fX);(try clear dU);(try clear ez);(try clear gl);(try clear kC);(try clear HB)
   generalize (jy.setCell ⟨gc,3,none⟩ (.int .i64 iI))=BC at bj be cU dh di hX⊢
   have fX:=bj;have dU:=be;have ez:=cU;have gl:=dh;have kC:=di;have HB:=hX;clear bj be cU dh di hX;replace fX:=Ah (Kd.au fX.out);replace dU:=Ah (aZ dU.out);replace ez:=Ah (aZ ez.out);replace gl:=Ah (aZ gl.out);replace kC:=Ah (aZ kC.out);replace HB:=Ah (bc HB.out);have p35:0≤((bx):Int):=od;have rh:((bx):Int)<((jR.length:Int):Int):=od;obtain⟨ch,EH,yO,EI,M1,a5J,EJ⟩:=Kd.qu fX.out (by omega);(first|cases yO|(injection yO with eX kN kO;(first|subst eX|(injection eX with eX;subst eX));subst kO;clear kN));have tb:=Ah EI;have M2:=Ah EJ;clear EI M1 EJ;obtain⟨a5K,LB,EK,pS,pT⟩:=Kd.kc fX.out gr ((bx):Int) p35 rh;obtain rfl:=kX EK;have KM:aav _ ⟨ch,((bx):Int).toNat*4,none⟩=some (.int .i64 ((J jR (bx)).f0)):=pS 0 _ rfl;have KN:aav _ ⟨ch,((bx):Int).toNat*4+1,none⟩=some (.int .i64 ((J jR (bx)).f1)):=pS 1 _ rfl;have KO:aav _ ⟨ch,((bx):Int).toNat*4+2,none⟩=some (.string ((J jR (bx)).f2)):=pS 2 _ rfl;have KP:aav _ ⟨ch,((bx):Int).toNat*4+3,none⟩=some (.int .i64 ((J jR (bx)).f3)):=pS 3 _ rfl;have KQ:aax _ ⟨ch,((bx):Int).toNat*4,none⟩=false:=pT 0;have KR:aax _ ⟨ch,((bx):Int).toNat*4+1,none⟩=false:=pT 1;have KS:aax _ ⟨ch,((bx):Int).toNat*4+2,none⟩=false:=pT 2;have KT:aax _ ⟨ch,((bx):Int).toNat*4+3,none⟩=false:=pT 3;clear LB pS pT EK;replace p35:=eq_true p35;replace rh:=eq_true rh;obtain⟨ce54,Sh,Ue,Si,a4d⟩:=Kd.kc fX.out gr ((bx):Int) (od) (by have h_:((bx):Int)<((jR.length:Int):Int):=od;first|exact h_|(have e_:=(Kd.cM fX.out).1;omega)|simpa using h_);obtain rfl:=kX Ue;have Md:=(Kd.su fX.out ((bx):Int) (od) (by have h_:((bx):Int)<((jR.length:Int):Int):=od;first|exact h_|(have e_:=(Kd.cM fX.out).1;omega)|simpa using h_) (seg:=[.int .i64 aD,.int .i64 aE,.string a1,.int .i64 iI]) (j:=0) Sh Si (show 4≤4 from by decide) (x':=(⟨aD,aE,a1,iI⟩:aK)) (ni _ _ _ (⟨aD,aE,a1,iI⟩:aK)) (fun _ hk=>hk)).1;rw[←a4a.out]at Md;have Me:=Ah Md;clear Sh Si a4d Ue Md;refine dk (n:=9) (S:=fun w'=>w'.cell? ⟨pY,0,none⟩=some (.slice (some ⟨ch,0,none⟩) jR.length wJ)∧w'.cell? ⟨pY,1,none⟩=some (.int .i64 m5)∧w'.cell? ⟨pY,2,none⟩=some (.int .i64 Eg)∧w'.cell? ⟨pY,3,none⟩=some (.int .i64 tc)∧w'.cell? ⟨pX,0,none⟩=some (.slice cf U.length cA)∧w'.cell? ⟨pX,1,none⟩=some (.int .i64 aA)∧w'.cell? ⟨pX,2,none⟩=some (.int .i64 aD)∧w'.cell? ⟨pX,3,none⟩=some (.int .i64 aE)∧w'.cell? ⟨gc,0,none⟩=some (.int .i64 aD)∧w'.cell? ⟨gc,1,none⟩=some (.int .i64 aE)∧w'.cell? ⟨gc,2,none⟩=some (.string a1)∧w'.cell? ⟨gc,3,none⟩=some (.int .i64 iI)) (ds:=[8]) #[false,false,false,false,false,false,false,false,false] (by kernel_rfl) rfl rfl ⟨(Y gl.out 0).trans rfl,(Y gl.out 1).trans rfl,(Y gl.out 2).trans rfl,(Y gl.out 3).trans rfl,(Y dU.out 0).trans rfl,(Y dU.out 1).trans rfl,(Y dU.out 2).trans rfl,(Y dU.out 3).trans rfl,(Y kC.out 0).trans rfl,(Y kC.out 1).trans rfl,(Y kC.out 2).trans rfl,(Y kC.out 3).trans rfl⟩ (fun hHeld=> ?_);refine dl dx.yN dx.xi (fun I aq=> ?_)
   generalize BC.drew=u2 at fX dU ez gl kC HB M2 Me KQ KR KS KT KM KN KO KP hHeld⊢
   refine a8 0 46 I.out ?_;refine a8 2 48 I.out ?_;refine a8 4 50 I.out ?_;refine bM 1 47 I.out aq.out hHeld (hr:=by rintro w' ⟨s0,s1,s2,s3,s4,s5,s6,s7,s8,s9,s10,s11⟩;go_simp;with_reducible rfl) (h:= ?_);refine bM 3 49 I.out aq.out hHeld (hr:=by rintro w' ⟨s0,s1,s2,s3,s4,s5,s6,s7,s8,s9,s10,s11⟩;go_simp;with_reducible rfl) (h:= ?_);refine a8 5 51 I.out ?_;refine bM 6 52 I.out aq.out hHeld (hr:=by rintro w' ⟨s0,s1,s2,s3,s4,s5,s6,s7,s8,s9,s10,s11⟩;go_simp;with_reducible rfl) (h:= ?_);refine a8 7 53 I.out ?_;refine qw (i:=8) (N:=none) #[true,true,true,true,true,true,true,true,true] rfl rfl (bz I.out (by kernel_rfl)) (by decide) (fun K hK=> ?_);refine ke (w1:= ?_) (by rfl) rfl ?_ ?_;rotate_left
   ·
    go_simp
    rfl
   refine hK.out _ _ ?_;clear hK K;refine dP (dW I.out (by kernel_rfl)) ?_;have bj:Z (Kd.R bD 36 ((((u2.setCell ⟨ch,((bx):Int).toNat*4,none⟩ (.int .i64 aD)).setCell ⟨ch,((bx):Int).toNat*4+1,none⟩ (.int .i64 aE)).setCell ⟨ch,((bx):Int).toNat*4+2,none⟩ (.string a1)).setCell ⟨ch,((bx):Int).toNat*4+3,none⟩ (.int .i64 iI)) w.heap.size (fun k_=>k_≠gc) (.slice (some ⟨ch,0,none⟩) jR.length wJ) Ud):=⟨(by first|exact rr Me.out|exact Me.out)⟩;have be:Z (((((u2.setCell ⟨ch,((bx):Int).toNat*4,none⟩ (.int .i64 aD)).setCell ⟨ch,((bx):Int).toNat*4+1,none⟩ (.int .i64 aE)).setCell ⟨ch,((bx):Int).toNat*4+2,none⟩ (.string a1)).setCell ⟨ch,((bx):Int).toNat*4+3,none⟩ (.int .i64 iI)).heap[pX]?=some (.cells #[.slice cf U.length cA,.int .i64 aA,.int .i64 aD,.int .i64 aE] 25 (0,0))):=⟨by(with_reducible repeat(first|refine cS ?_ _|refine aZ ?_|refine cE ?_ _));refine ce ?_ (by have h_:=Kd.d7 fX.out dU.out (by decide);intro e_;exact h_ (by rw[e_];rfl)) _;(with_reducible repeat(first|refine cS ?_ _|refine aZ ?_|refine cE ?_ _));refine ce ?_ (by have h_:=Kd.d7 fX.out dU.out (by decide);intro e_;exact h_ (by rw[e_];rfl)) _;(with_reducible repeat(first|refine cS ?_ _|refine aZ ?_|refine cE ?_ _));refine ce ?_ (by have h_:=Kd.d7 fX.out dU.out (by decide);intro e_;exact h_ (by rw[e_];rfl)) _;(with_reducible repeat(first|refine cS ?_ _|refine aZ ?_|refine cE ?_ _));refine ce ?_ (by have h_:=Kd.d7 fX.out dU.out (by decide);intro e_;exact h_ (by rw[e_];rfl)) _;exact bk dU⟩;have cU:Z (((((u2.setCell ⟨ch,((bx):Int).toNat*4,none⟩ (.int .i64 aD)).setCell ⟨ch,((bx):Int).toNat*4+1,none⟩ (.int .i64 aE)).setCell ⟨ch,((bx):Int).toNat*4+2,none⟩ (.string a1)).setCell ⟨ch,((bx):Int).toNat*4+3,none⟩ (.int .i64 iI)).heap[nO]?=some (.cells #[.slice none 0 0,.int .i64 0,.int .i64 0,.int .i64 0] 25 (0,0))):=⟨by(with_reducible repeat(first|refine cS ?_ _|refine aZ ?_|refine cE ?_ _));refine ce ?_ (by have h_:=Kd.d7 fX.out ez.out (by decide);intro e_;exact h_ (by rw[e_];rfl)) _;(with_reducible repeat(first|refine cS ?_ _|refine aZ ?_|refine cE ?_ _));refine ce ?_ (by have h_:=Kd.d7 fX.out ez.out (by decide);intro e_;exact h_ (by rw[e_];rfl)) _;(with_reducible repeat(first|refine cS ?_ _|refine aZ ?_|refine cE ?_ _));refine ce ?_ (by have h_:=Kd.d7 fX.out ez.out (by decide);intro e_;exact h_ (by rw[e_];rfl)) _;(with_reducible repeat(first|refine cS ?_ _|refine aZ ?_|refine cE ?_ _));refine ce ?_ (by have h_:=Kd.d7 fX.out ez.out (by decide);intro e_;exact h_ (by rw[e_];rfl)) _;exact bk ez⟩;have dh:Z (((((u2.setCell ⟨ch,((bx):Int).toNat*4,none⟩ (.int .i64 aD)).setCell ⟨ch,((bx):Int).toNat*4+1,none⟩ (.int .i64 aE)).setCell ⟨ch,((bx):Int).toNat*4+2,none⟩ (.string a1)).setCell ⟨ch,((bx):Int).toNat*4+3,none⟩ (.int .i64 iI)).heap[pY]?=some (.cells #[.slice (some ⟨ch,0,none⟩) jR.length wJ,.int .i64 m5,.int .i64 Eg,.int .i64 tc] 25 (0,0))):=⟨by(with_reducible repeat(first|refine cS ?_ _|refine aZ ?_|refine cE ?_ _));refine ce ?_ (by have h_:=Kd.d7 fX.out gl.out (by decide);intro e_;exact h_ (by rw[e_];rfl)) _;(with_reducible repeat(first|refine cS ?_ _|refine aZ ?_|refine cE ?_ _));refine ce ?_ (by have h_:=Kd.d7 fX.out gl.out (by decide);intro e_;exact h_ (by rw[e_];rfl)) _;(with_reducible repeat(first|refine cS ?_ _|refine aZ ?_|refine cE ?_ _));refine ce ?_ (by have h_:=Kd.d7 fX.out gl.out (by decide);intro e_;exact h_ (by rw[e_];rfl)) _;(with_reducible repeat(first|refine cS ?_ _|refine aZ ?_|refine cE ?_ _));refine ce ?_ (by have h_:=Kd.d7 fX.out gl.out (by decide);intro e_;exact h_ (by rw[e_];rfl)) _;exact bk gl⟩;have di:Z (((((u2.setCell ⟨ch,((bx):Int).toNat*4,none⟩ (.int .i64 aD)).setCell ⟨ch,((bx):Int).toNat*4+1,none⟩ (.int .i64 aE)).setCell ⟨ch,((bx):Int).toNat*4+2,none⟩ (.string a1)).setCell ⟨ch,((bx):Int).toNat*4+3,none⟩ (.int .i64 iI)).heap[gc]?=some (.cells #[.int .i64 aD,.int .i64 aE,.string a1,.int .i64 iI] 36 (0,0))):=⟨by(with_reducible repeat(first|refine cS ?_ _|refine aZ ?_|refine cE ?_ _));refine ce ?_ (by have h_:=Kd.bH fX.out (fun _ hk=>hk);intro e_;exact h_ (by rw[e_];rfl)) _;(with_reducible repeat(first|refine cS ?_ _|refine aZ ?_|refine cE ?_ _));refine ce ?_ (by have h_:=Kd.bH fX.out (fun _ hk=>hk);intro e_;exact h_ (by rw[e_];rfl)) _;(with_reducible repeat(first|refine cS ?_ _|refine aZ ?_|refine cE ?_ _));refine ce ?_ (by have h_:=Kd.bH fX.out (fun _ hk=>hk);intro e_;exact h_ (by rw[e_];rfl)) _;(with_reducible repeat(first|refine cS ?_ _|refine aZ ?_|refine cE ?_ _));refine ce ?_ (by have h_:=Kd.bH fX.out (fun _ hk=>hk);intro e_;exact h_ (by rw[e_];rfl)) _;exact bk kC⟩;have hX:Z (Below w.heap.size w ((((u2.setCell ⟨ch,((bx):Int).toNat*4,none⟩ (.int .i64 aD)).setCell ⟨ch,((bx):Int).toNat*4+1,none⟩ (.int .i64 aE)).setCell ⟨ch,((bx):Int).toNat*4+2,none⟩ (.string a1)).setCell ⟨ch,((bx):Int).toNat*4+3,none⟩ (.int .i64 iI))):=⟨by repeat(first|(with_reducible first|exact HB.out|apply dH|apply dZ|apply bc|refine cn ?_ tb.out|refine cn ?_ tb.out|refine cn ?_ tb.out|refine cn ?_ tb.out|refine cn ?_ ig.out|refine cn ?_ jN.out|refine cn ?_ xu.out|refine cn ?_ HQ.out)|exact HB.out)⟩;(try clear fX);(try clear dU);(try clear ez);(try clear gl);(try clear kC);(try clear HB)
   generalize ((((u2.setCell ⟨ch,((bx):Int).toNat*4,none⟩ (.int .i64 aD)).setCell ⟨ch,((bx):Int).toNat*4+1,none⟩ (.int .i64 aE)).setCell ⟨ch,((bx):Int).toNat*4+2,none⟩ (.string a1)).setCell ⟨ch,((bx):Int).toNat*4+3,none⟩ (.int .i64 iI))=WA at bj be cU dh di hX⊢
   have fX:=bj;have dU:=be;have ez:=cU;have gl:=dh;have kC:=di;have HB:=hX;clear bj be cU dh di hX;obtain⟨P2,P3,P4,P5⟩:=aT gl;obtain⟨P6,P7,P8,P9⟩:=aU gl;obtain⟨hcz57_0,hcz57_1,hcz57_2,hcz57_3⟩:=aT ez;obtain⟨hfz57_0,hfz57_1,hfz57_2,hfz57_3⟩:=aU ez
   try go_wp2
   refine bodyPost_ret (gC rfl _ _ nO 25 #[.slice (some ⟨ch,0,none⟩) jR.length wJ,.int .i64 (F5 (m5+1)),.int .i64 (F5 ((F5 (aQ (F5 (m5+1)) (U.length:Int)))+1)),.int .i64 tc] (0,0) _ rfl (oZ ez Bc) aac rfl (by kernel_rfl)) rfl ?_;exact⟨_,by first|rfl|(simp[cH,cI]<;>rfl)|(simp only[←pR];first|rfl|(simp[cH,cI]<;>rfl))|(simp[*,cH,cI]<;>rfl),by(with_reducible repeat(first|apply Kd.bK|apply Kd.bL|apply Kd.au));exact Kd.am (Kd.aH (p:=⟨nO,3,none⟩) (Kd.aH (p:=⟨nO,2,none⟩) (Kd.aH (p:=⟨nO,1,none⟩) (Kd.aH (p:=⟨nO,0,none⟩) (Kd.aH (p:=⟨pY,2,none⟩) (Kd.aH (p:=⟨pY,1,none⟩) (Kd.dv (Kd.dv fX.out gl.out (by decide)) ez.out (by decide)) (fun _ hk=>hk.1.2) (.int .i64 (F5 (m5+1)))) (fun _ hk=>hk.1.2) (.int .i64 (F5 ((F5 (aQ (F5 (m5+1)) (U.length:Int)))+1)))) (fun _ hk=>hk.2) (.slice (some ⟨ch,0,none⟩) jR.length wJ)) (fun _ hk=>hk.2) (.int .i64 (F5 (m5+1)))) (fun _ hk=>hk.2) (.int .i64 (F5 ((F5 (aQ (F5 (m5+1)) (U.length:Int)))+1)))) (fun _ hk=>hk.2) (.int .i64 tc)) (fun _ hk=>trivial),eG HB ig jN xu HQ⟩
end Go.Proofs.YtgpjnkahgofpmaaDoor.G
