-- Printed by a program of this session (drive.py, by way of the kit's print). Not trusted: Lean checks it.
import Derived.Test.YtgpjnkahgofpmaaDoorG0
import Derived.Test.YtgpjnkahgofpmaaDoorG1
import Derived.Test.YtgpjnkahgofpmaaDoorG2
import Derived.Test.YtgpjnkahgofpmaaDoorG3
import Derived.Test.YtgpjnkahgofpmaaDoorG5
open Bool renaming eq_false_iff→iK,not_false→aaD,not_true→aaF
open Go.Addr renaming add→ro
open Go.Proofs.Tryd renaming underlying25→aac,prog→aaf,underlying36→aan,func20→aaG,underlying23→aa9,func23→abb,func31→abg,func34→abn,func13→ab2,func18→ab4
open Go.RowKit renaming wrap64→F5
open Go.World renaming block_lt_of_cell?→Fe,cell?→aav,frozen?→aax
open Int renaming tmod→GW,tdiv→aQ
open List renaming length_take→ca,length_drop→fF,map_toArray→fT,map_cons→gJ,map_nil→j5,setIfInBounds_toArray→aab,set_cons_zero→aai,set_cons_succ→aaj
open Nat renaming ne_of_lt→ek,le_refl→kV,le_of_eq→aah,ne_of_gt→aaY
open Option renaming bind_eq_some_iff→Ok,bind_some→zD
open Option.some renaming inj→qE,injEq→aaa
open Prod.mk renaming injEq→aad
namespace Go.Proofs.YtgpjnkahgofpmaaDoor.G
open Go.RowKit Go.Proofs.YtgpjnkahgofpmaaDoorW.PrintWords Go.Proofs.YtgpjnkahgofpmaaDoorW.PrintLast Go.Proofs.YtgpjnkahgofpmaaDoorW.PrintMore
attribute [local go_sem] uM uN uS uT u9 uA uO uP
set_option maxHeartbeats 8000000
set_option maxRecDepth 100000
set_option linter.unusedVariables false
set_option linter.unusedSimpArgs false
attribute [local go_sem high] Kw
def iL.f(k:Nat)(l0:List Int):Option ((List (aK))):=(cP.f k l0 0 0).bind fun hG=>((iZ.f l0 hG.2.2.2.2.1 hG.2.2.2.2.2 3).bind fun pd=>(if pd.1=true then((dw.f l0 pd.2.1 pd.2.2 (hG.1.length:Int)).bind fun kG=>(if 0≤kG.1 then(if kG.1<(hG.1.length:Int)then((dw.f l0 kG.2.1 kG.2.2 4).bind fun xw=>((gB.f k ((J hG.1 kG.1).f0) ((J hG.1 kG.1).f1) ((J hG.1 kG.1).f2) ((J hG.1 kG.1).f3) xw.1).bind fun tS=>((some (hG.1.set (kG.1:Int).toNat (⟨tS.1,tS.2.1,tS.2.2.1,tS.2.2.2.1⟩:aK):List (aK))).bind fun tg=>((iZ.f l0 xw.2.1 xw.2.2 20).bind fun DW=>(if DW.1=true then(if 1≤(hG.1.length:Int)then(some (tg.take (1:Int).toNat))else(none))else(some tg))))))else(none))else(none)))else((iZ.f l0 pd.2.1 pd.2.2 20).bind fun LT=>(if LT.1=true then(if 1≤(hG.1.length:Int)then(some (hG.1.take (1:Int).toNat))else(none))else(some hG.1)))))
theorem iL.mono:∀a0 k,aJ (iL.f k a0) (iL.f (k+1) a0):=by
 intro a0 k;unfold iL.f
 repeat' with_reducible first|exact gB.mono _ _ _ _ _ _|exact cP.mono _ _ _ _|exact aJ.refl _|exact aJ.none _|refine aJ.ite ?_ ?_|refine aJ.bind ?_ (fun _=> ?_)
def iL.T6:Bool×List (List Nat×List Nat):=(true,[([],[]),([],[]),([],[]),([],[]),([2,3],[2,3]),([4],[4]),([],[]),([6],[6]),([5,7,7],[5,7]),([8],[8]),([9],[9]),([9],[9]),([0,1,0,1,2,3,4,5,6,7,8,9,10],[0,1]),([12,10,8,0,1,2,3,4,5,6,7,8,9,10],[10,12])])
def iL.B6:List Nat:=[0,0,0,0,12,28,0,64,252,508,1020,1020,2047,6143]
theorem iL.Uw:dt .any (gN Tryd.f13 6)=iL.T6:=by kernel_rfl
theorem iL.T0:fh iL.T6.2 iL.B6=true:=by kernel_rfl
theorem iL.calls(k:Nat)(A0:Option Addr)(c0:Nat)(l0:List Int)(r:List (aK))(w:World)(hr0:Kd.C (Kd.int .u8) w A0 l0.length l0)(hc0:l0.length≤c0)(h:iL.f k l0=some r):
 Calls aaf 13 #[.slice A0 l0.length c0] w fun e w'=>∃fA:Value,e= .returned (fA)∧Kd.R bD 36 w' w.heap.size (fun _=>True) fA r∧Below w.heap.size w w':=by
 have UV:=Tryd.underlying48;have lP:=aac;have kH:=aan;have fO:=Ah hr0;have tq:=Ah hc0;clear hr0 hc0;have HB:=Ah (Below.refl w.heap.size w);have H:((cP.f k l0 0 0).bind fun hG=>((iZ.f l0 hG.2.2.2.2.1 hG.2.2.2.2.2 3).bind fun pd=>(if pd.1=true then((dw.f l0 pd.2.1 pd.2.2 (hG.1.length:Int)).bind fun kG=>(if 0≤kG.1 then(if kG.1<(hG.1.length:Int)then((dw.f l0 kG.2.1 kG.2.2 4).bind fun xw=>((gB.f k ((J hG.1 kG.1).f0) ((J hG.1 kG.1).f1) ((J hG.1 kG.1).f2) ((J hG.1 kG.1).f3) xw.1).bind fun tS=>((some (hG.1.set (kG.1:Int).toNat (⟨tS.1,tS.2.1,tS.2.2.1,tS.2.2.2.1⟩:aK):List (aK))).bind fun tg=>((iZ.f l0 xw.2.1 xw.2.2 20).bind fun DW=>(if DW.1=true then(if 1≤(hG.1.length:Int)then(some (tg.take (1:Int).toNat))else(none))else(some tg))))))else(none))else(none)))else((iZ.f l0 pd.2.1 pd.2.2 20).bind fun LT=>(if LT.1=true then(if 1≤(hG.1.length:Int)then(some (hG.1.take (1:Int).toNat))else(none))else(some hG.1))))))=some r:=h;clear h;replace H:=Ok.mp H;obtain⟨⟨d8,lS,lT,lU,ju,jv⟩,eg,H⟩:=H
 try dsimp only at H
 have A2:=Ah eg;clear eg;replace H:=Ok.mp H;obtain⟨⟨a6J,oU,oV⟩,iJ,H⟩:=H
 try dsimp only at H
 have A3:=Ah iJ;clear iJ
 by_cases c4:a6J=true
 rotate_left
 ·
  replace c4:=iK.mpr c4;subst c4;rw[if_neg dM]at H;replace H:=Ok.mp H;obtain⟨⟨a6K,Ux,Uy⟩,Uz,H⟩:=H
  try dsimp only at H
  have WG:=Ah Uz;clear Uz
  by_cases IK:a6K=true
  rotate_left
  ·
   replace IK:=iK.mpr IK;subst IK;rw[if_neg dM]at H;obtain rfl:=qE H
   go_enter ab2,Tryd.ntmps13
   go_wp2_with (first|((with_reducible refine bY (N:=9) rfl ?_);refine br 9 48 #[.slice A0 l0.length c0,.int .i64 0,.int .u64 0] ?_;intro dB hg u2 xx hb;have LU:=gw hg (bs HB);have xy:=gw hg (bs HB);replace HB:=Ah (aM (bs HB) hb);clear hb hg;have cD:=Ah (show aC w u2 dB l0 0 0 from⟨_,_,(bk xx),xy.out,fO.out⟩))|((with_reducible refine bU (f:=18) rfl ?_);refine gL (some 11) rfl rfl ab4 (by kernel_rfl) rfl #[.pointer (some ⟨dB,0,none⟩)] rfl ?_;(with_reducible refine(cP.calls k dB l0 0 0 d8 lS lT lU ju jv w _ ?aa ?ab A2.out).mono ?_);(case aa=>exact aC.fu cD);(case ab=>exact bs HB);rintro e WD ⟨I7,rfl,ho0,hi,hb,hk⟩;refine⟨_,rfl, ?_⟩;have bp:=Ah (Kd.eZ ho0 (eo (bs HB)));replace HB:=Ah (hb);replace cD:=Ah (hi);(try clear hb hk hi ho0))|((with_reducible refine bY (N:=4) rfl ?_);refine br 4 25 #[.slice none 0 0,.int .i64 0,.int .i64 0,.int .i64 0] ?_;intro iv hg WA dn hb;replace bp:=nr bp hb;have LV:=gw hg (bs HB);have jO:=gw hg (bs HB);replace HB:=Ah (aM (bs HB) hb);have fv:=Ah ((by rw[hg];exact ek (aC.lt (show aC w _ dB l0 ju jv from aC.fu cD)):dB≠iv));have k6:=Ah ((by rw[hg];exact aaY (aC.lt (show aC w _ dB l0 ju jv from aC.fu cD)):iv≠dB));replace cD:=Ah (aC.below (aC.fu cD) hb);clear hb hg;obtain⟨V0,V1,a6L⟩:=Kd.dI bp.out;subst a6L;have hnb57:=k6.out;have hnc57:=fv.out;obtain⟨PA,PB,PC,PD⟩:=aT dn;obtain⟨PE,PF,PG,PH⟩:=aU dn)|((with_reducible refine bU (f:=31) rfl ?_);refine gL (some 15) rfl rfl abg (by kernel_rfl) rfl #[.pointer (some ⟨dB,0,none⟩),.int .i64 3] rfl ?_;(with_reducible refine(iZ.calls dB l0 ju jv 3 false oU oV w _ ?aa ?ab A3.out).mono ?_);(case aa=>exact aC.fg cD fv);(case ab=>exact aX HB jO);rintro e Vn ⟨rfl,hi,hb,hk⟩;refine⟨_,rfl, ?_⟩;replace bp:=Ah (Kd.am (Kd.gn (aC.apart (show aC w _ dB l0 ju jv from aC.fg cD fv) (rf bp dn) (by decide)) hk (fun _ h=>h.2)) (fun _ h=>h.1));replace dn:=Ah (az.blk hk (g':=iv) (o:= .cells #[.slice V0 d8.length V1,.int .i64 lS,.int .i64 lT,.int .i64 lU] 25 (0,0)) (pb dn) k6.out (by simp));replace HB:=Ah (hb);replace cD:=Ah (hi);(try clear hb hk hi))|((with_reducible refine bU (f:=31) rfl ?_);refine gL (some 34) rfl rfl abg (by kernel_rfl) rfl #[.pointer (some ⟨dB,0,none⟩),.int .i64 20] rfl ?_;(with_reducible refine(iZ.calls dB l0 oU oV 20 false Ux Uy w _ ?aa ?ab WG.out).mono ?_);(case aa=>exact aC.fg cD fv);(case ab=>exact aX HB jO);rintro e Vv ⟨rfl,hi,hb,hk⟩;refine⟨_,rfl, ?_⟩;replace bp:=Ah (Kd.am (Kd.gn (aC.apart (show aC w _ dB l0 oU oV from aC.fg cD fv) (rr bp.out) (by decide)) hk (fun _ h=>h.2)) (fun _ h=>h.1));replace dn:=Ah (az.blk hk (g':=iv) (o:= .cells #[.slice V0 d8.length V1,.int .i64 lS,.int .i64 lT,.int .i64 lU] 25 (0,0)) (bk dn) k6.out (by simp));replace HB:=Ah (hb);replace cD:=Ah (hi);(try clear hb hk hi)))
   go_ret
   exact⟨_,er,by(with_reducible repeat(first|apply Kd.bK|apply Kd.bL|apply Kd.au));exact bp.out,aX HB jO⟩
  subst IK;rw[if_pos rfl]at H
  by_cases rk:1≤(d8.length:Int)
  rotate_left
  ·
   rw[if_neg rk]at H;exact absurd H (by simp)
  rw[if_pos rk]at H;have a4k:=eq_true rk;have c43b1:=bV rk;clear rk;obtain⟨V2,DX⟩:∃y_:List (aK),y_=(d8.take (1:Int).toNat):=⟨_,rfl⟩
  replace H:(some V2)=some r:=by first|(rw[DX];with_reducible exact H)|(have cL:=(zD _ _).symm.trans H;rw[DX];with_reducible exact cL)|(have cL:=(zD _ _).symm.trans H;with_reducible exact cL)|with_reducible exact H|(rw[DX];exact H)|exact H
  have T5:=Ah DX;clear DX;obtain rfl:=qE H
  go_enter ab2,Tryd.ntmps13
  go_wp2_with (first|((with_reducible refine bY (N:=9) rfl ?_);refine br 9 48 #[.slice A0 l0.length c0,.int .i64 0,.int .u64 0] ?_;intro dB hg w44 xx hb;have LU:=gw hg (bs HB);have xy:=gw hg (bs HB);replace HB:=Ah (aM (bs HB) hb);clear hb hg;have cD:=Ah (show aC w w44 dB l0 0 0 from⟨_,_,(bk xx),xy.out,fO.out⟩))|((with_reducible refine bU (f:=18) rfl ?_);refine gL (some 11) rfl rfl ab4 (by kernel_rfl) rfl #[.pointer (some ⟨dB,0,none⟩)] rfl ?_;(with_reducible refine(cP.calls k dB l0 0 0 d8 lS lT lU ju jv w _ ?aa ?ab A2.out).mono ?_);(case aa=>exact aC.fu cD);(case ab=>exact bs HB);rintro e wZ ⟨I7,rfl,ho0,hi,hb,hk⟩;refine⟨_,rfl, ?_⟩;have bp:=Ah (Kd.eZ ho0 (eo (bs HB)));replace HB:=Ah (hb);replace cD:=Ah (hi);(try clear hb hk hi ho0))|((with_reducible refine bY (N:=4) rfl ?_);refine br 4 25 #[.slice none 0 0,.int .i64 0,.int .i64 0,.int .i64 0] ?_;intro iv hg W7 dn hb;replace bp:=nr bp hb;have LV:=gw hg (bs HB);have jO:=gw hg (bs HB);replace HB:=Ah (aM (bs HB) hb);have fv:=Ah ((by rw[hg];exact ek (aC.lt (show aC w _ dB l0 ju jv from aC.fu cD)):dB≠iv));have k6:=Ah ((by rw[hg];exact aaY (aC.lt (show aC w _ dB l0 ju jv from aC.fu cD)):iv≠dB));replace cD:=Ah (aC.below (aC.fu cD) hb);clear hb hg;obtain⟨Mv,Mw,a6M⟩:=Kd.dI bp.out;subst a6M;have a4b:=k6.out;have a4c:=fv.out;obtain⟨a0G,a0H,a0I,a0J⟩:=aT dn;obtain⟨a0K,a0L,a0M,a0N⟩:=aU dn)|((with_reducible refine bU (f:=31) rfl ?_);refine gL (some 15) rfl rfl abg (by kernel_rfl) rfl #[.pointer (some ⟨dB,0,none⟩),.int .i64 3] rfl ?_;(with_reducible refine(iZ.calls dB l0 ju jv 3 false oU oV w _ ?aa ?ab A3.out).mono ?_);(case aa=>exact aC.fg cD fv);(case ab=>exact aX HB jO);rintro e jy ⟨rfl,hi,hb,hk⟩;refine⟨_,rfl, ?_⟩;replace bp:=Ah (Kd.am (Kd.gn (aC.apart (show aC w _ dB l0 ju jv from aC.fg cD fv) (rf bp dn) (by decide)) hk (fun _ h=>h.2)) (fun _ h=>h.1));replace dn:=Ah (az.blk hk (g':=iv) (o:= .cells #[.slice Mv d8.length Mw,.int .i64 lS,.int .i64 lT,.int .i64 lU] 25 (0,0)) (pb dn) k6.out (by simp));replace HB:=Ah (hb);replace cD:=Ah (hi);(try clear hb hk hi))|((with_reducible refine bU (f:=31) rfl ?_);refine gL (some 34) rfl rfl abg (by kernel_rfl) rfl #[.pointer (some ⟨dB,0,none⟩),.int .i64 20] rfl ?_;(with_reducible refine(iZ.calls dB l0 oU oV 20 true Ux Uy w _ ?aa ?ab WG.out).mono ?_);(case aa=>exact aC.fg cD fv);(case ab=>exact aX HB jO);rintro e w51 ⟨rfl,hi,hb,hk⟩;refine⟨_,rfl, ?_⟩;replace bp:=Ah (Kd.am (Kd.gn (aC.apart (show aC w _ dB l0 oU oV from aC.fg cD fv) (rr bp.out) (by decide)) hk (fun _ h=>h.2)) (fun _ h=>h.1));replace dn:=Ah (az.blk hk (g':=iv) (o:= .cells #[.slice Mv d8.length Mw,.int .i64 lS,.int .i64 lT,.int .i64 lU] 25 (0,0)) (bk dn) k6.out (by simp));replace HB:=Ah (hb);replace cD:=Ah (hi);(try clear hb hk hi);have NV:(1:Int)≤((d8.length:Int):Int):=od;obtain⟨i052,TA,_,a4z,_⟩:=info_parts pK;have a16:=K9 (P:=aaf) 23 36 .i64 aa9 TA Mv d8.length Mw 1 (by omega) NV (Kd.cM bp.out).2.1;have IB:=Kd.Qj (m:=(1:Int).toNat) bp.out (by have h_:=(Kd.cM bp.out).1;omega);have V3:V2.length=(1:Int).toNat:=(by have h_:=(Kd.cM bp.out).1;rw[T5.out,ca];omega);rw[←T5.out]at IB;rw[←V3]at IB a16;clear V3 TA a4z bp;have a4A:=Ah IB;clear IB;replace NV:=eq_true NV))
  go_ret
  exact⟨_,er,by(with_reducible repeat(first|apply Kd.bK|apply Kd.bL|apply Kd.au));exact a4A.out,aX HB jO⟩
 subst c4;rw[if_pos rfl]at H;replace H:=Ok.mp H;obtain⟨⟨cT,Au,Av⟩,iy,H⟩:=H
 try dsimp only at H
 have A5:=Ah iy;clear iy
 by_cases c6:0≤cT
 rotate_left
 ·
  rw[if_neg c6]at H;exact absurd H (by simp)
 rw[if_pos c6]at H;have oT:=bV c6;clear c6
 by_cases c7:cT<(d8.length:Int)
 rotate_left
 ·
  rw[if_neg c7]at H;exact absurd H (by simp)
 rw[if_pos c7]at H;have kI:=bV c7;clear c7;replace H:=Ok.mp H;obtain⟨⟨Aw,yk,yl⟩,mX,H⟩:=H
 try dsimp only at H
 have A8:=Ah mX;clear mX;replace H:=Ok.mp H;obtain⟨⟨th,ti,tj,tl,V4⟩,pz,H⟩:=H
 try dsimp only at H
 have A9:=Ah pz;clear pz;obtain⟨tg,DY⟩:∃y_:List (aK),y_=(d8.set (cT:Int).toNat (⟨th,ti,tj,tl⟩:aK)):=⟨_,rfl⟩
 replace H:((iZ.f l0 yk yl 20).bind fun DW=>(if DW.1=true then(if 1≤(d8.length:Int)then(some (tg.take (1:Int).toNat))else(none))else(some tg)))=some r:=by first|(rw[DY];with_reducible exact H)|(have cL:=(Option.bind_some _ _).symm.trans H;rw[DY];with_reducible exact cL)|(have cL:=(Option.bind_some _ _).symm.trans H;with_reducible exact cL)|with_reducible exact H|(rw[DY];exact H)|exact H
 have TB:=Ah DY;clear DY;replace H:=Ok.mp H;obtain⟨⟨a6N,V5,V6⟩,V7,H⟩:=H
 try dsimp only at H
 have WH:=Ah V7;clear V7
 by_cases c12:a6N=true
 rotate_left
 ·
  replace c12:=iK.mpr c12;subst c12;rw[if_neg dM]at H;obtain rfl:=qE H
  go_enter ab2,Tryd.ntmps13
  try go_wp2_with (first|((with_reducible refine bY (N:=9) rfl ?_);refine br 9 48 #[.slice A0 l0.length c0,.int .i64 0,.int .u64 0] ?_;intro dB hg NM xx hb;have LU:=gw hg (bs HB);have xy:=gw hg (bs HB);replace HB:=Ah (aM (bs HB) hb);clear hb hg;have cD:=Ah (show aC w NM dB l0 0 0 from⟨_,_,(bk xx),xy.out,fO.out⟩))|((with_reducible refine bU (f:=18) rfl ?_);refine gL (some 11) rfl rfl ab4 (by kernel_rfl) rfl #[.pointer (some ⟨dB,0,none⟩)] rfl ?_;(with_reducible refine(cP.calls k dB l0 0 0 d8 lS lT lU ju jv w _ ?aa ?ab A2.out).mono ?_);(case aa=>exact aC.fu cD);(case ab=>exact bs HB);rintro e F8 ⟨I7,rfl,ho0,hi,hb,hk⟩;refine⟨_,rfl, ?_⟩;have bp:=Ah (Kd.eZ ho0 (eo (bs HB)));replace HB:=Ah (hb);replace cD:=Ah (hi);(try clear hb hk hi ho0))|((with_reducible refine bY (N:=4) rfl ?_);refine br 4 25 #[.slice none 0 0,.int .i64 0,.int .i64 0,.int .i64 0] ?_;intro iv hg F9 dn hb;replace bp:=nr bp hb;have LV:=gw hg (bs HB);have jO:=gw hg (bs HB);replace HB:=Ah (aM (bs HB) hb);have fv:=Ah ((by rw[hg];exact ek (aC.lt (show aC w _ dB l0 ju jv from aC.fu cD)):dB≠iv));have k6:=Ah ((by rw[hg];exact aaY (aC.lt (show aC w _ dB l0 ju jv from aC.fu cD)):iv≠dB));replace cD:=Ah (aC.below (aC.fu cD) hb);clear hb hg;obtain⟨cq,cl,Lj⟩:=Kd.dI bp.out;subst Lj;have RI:=k6.out;have RJ:=fv.out;obtain⟨JC,JD,JE,JF⟩:=aT dn;obtain⟨JG,JH,JI,JJ⟩:=aU dn)|((with_reducible refine bU (f:=31) rfl ?_);refine gL (some 15) rfl rfl abg (by kernel_rfl) rfl #[.pointer (some ⟨dB,0,none⟩),.int .i64 3] rfl ?_;(with_reducible refine(iZ.calls dB l0 ju jv 3 true oU oV w _ ?aa ?ab A3.out).mono ?_);(case aa=>exact aC.fg cD fv);(case ab=>exact aX HB jO);rintro e w34 ⟨rfl,hi,hb,hk⟩;refine⟨_,rfl, ?_⟩;replace bp:=Ah (Kd.am (Kd.gn (aC.apart (show aC w _ dB l0 ju jv from aC.fg cD fv) (rf bp dn) (by decide)) hk (fun _ h=>h.2)) (fun _ h=>h.1));replace dn:=Ah (az.blk hk (g':=iv) (o:= .cells #[.slice cq d8.length cl,.int .i64 lS,.int .i64 lT,.int .i64 lU] 25 (0,0)) (pb dn) k6.out (by simp));replace HB:=Ah (hb);replace cD:=Ah (hi);(try clear hb hk hi))|((with_reducible refine bU (f:=20) rfl ?_);refine gL (some 19) rfl rfl aaG (by kernel_rfl) rfl #[.pointer (some ⟨dB,0,none⟩),.int .i64 (d8.length:Int)] rfl ?_;(with_reducible refine(dw.calls dB l0 oU oV (d8.length:Int) cT Au Av w _ ?aa ?ab A5.out).mono ?_);(case aa=>exact aC.fg cD fv);(case ab=>exact aX HB jO);rintro e Vm ⟨rfl,hi,hb,hk⟩;refine⟨_,rfl, ?_⟩;replace bp:=Ah (Kd.am (Kd.gn (aC.apart (show aC w _ dB l0 oU oV from aC.fg cD fv) (rr bp.out) (by decide)) hk (fun _ h=>h.2)) (fun _ h=>h.1));replace dn:=Ah (az.blk hk (g':=iv) (o:= .cells #[.slice cq d8.length cl,.int .i64 lS,.int .i64 lT,.int .i64 lU] 25 (0,0)) (bk dn) k6.out (by simp));replace HB:=Ah (hb);replace cD:=Ah (hi);(try clear hb hk hi)))
  replace bp:=Ah (Kd.au bp.out);replace dn:=Ah (aZ dn.out);replace cD:=Ah (aC.drew cD.out);replace HB:=Ah (bc HB.out);have ym:0≤(cT:Int):=od;have yn:cT<(d8.length:Int):=od;obtain⟨l7,Mx,xT,xU,xV,xW⟩:=fW (Kd.cM bp.out).2.2 cT ym yn
  cases Mx
  replace ym:=eq_true ym;replace yn:=eq_true yn;refine dk (n:=14) (S:=fun w'=>w'.cell? (l7.add ((cT).toNat*4))=some (.int .i64 ((J d8 cT).f0))∧w'.cell? ⟨(l7.add ((cT).toNat*4)).block,(l7.add ((cT).toNat*4)).off+1,none⟩=some (.int .i64 ((J d8 cT).f1))∧w'.cell? ⟨(l7.add ((cT).toNat*4)).block,(l7.add ((cT).toNat*4)).off+2,none⟩=some (.string ((J d8 cT).f2))∧w'.cell? ⟨(l7.add ((cT).toNat*4)).block,(l7.add ((cT).toNat*4)).off+3,none⟩=some (.int .i64 ((J d8 cT).f3))) (ds:=[13]) #[false,false,false,false,false,false,false,false,false,false,false,false,false,false] (by kernel_rfl) rfl rfl ⟨xT,xU,xV,xW⟩ (fun hHeld=> ?_);refine dl iL.Uw iL.T0 (fun I aq=> ?_)
  generalize Vm.drew=w36 at bp dn cD HB xT xU xV xW hHeld⊢
  refine a8 0 21 I.out ?_;refine a8 1 22 I.out ?_;refine a8 2 23 I.out ?_;refine a8 3 24 I.out ?_;refine a8 4 25 I.out ?_;refine a8 6 27 I.out ?_;refine bM 5 26 I.out aq.out hHeld (hr:=by rintro w' ⟨s0,s1,s2,s3⟩;go_simp;with_reducible rfl) (h:= ?_);refine cK (i:=7) (N:=some 28) #[true,true,true,true,true,true,true,true,false,false,false,false,false,false] rfl rfl (bz I.out (by kernel_rfl)) (by decide) (fun K hK=> ?_);refine cZ aaG (by kernel_rfl) rfl #[.pointer (some ⟨dB,0,none⟩),.int .i64 4] (by rfl) rfl rfl (by(try simp only[fT,gJ,j5]);first|done|rfl|(simp only[fF,ca];rfl)) ?_
  with_reducible refine(dw.calls dB l0 Au Av 4 Aw yk yl w _ ?aa ?ab A8.out).mono ?_
  (case aa=>exact aC.fg cD fv);(case ab=>exact aX HB jO);rintro e w37 ⟨rfl,hi,hb,hk⟩;have gS:=mJ hk (hHeld.1) (by first|(rw[aG];exact Kd.ay (aC.own_ne cD.out bp.out (by decide)))|(show(ro _ _).block≠_;rw[aG];exact Kd.ay (aC.own_ne cD.out bp.out (by decide)))|exact Kd.ay (aC.own_ne cD.out bp.out (by decide)));have gT:=mJ hk (hHeld.2.1) (by first|(rw[aG];exact Kd.ay (aC.own_ne cD.out bp.out (by decide)))|(show(ro _ _).block≠_;rw[aG];exact Kd.ay (aC.own_ne cD.out bp.out (by decide)))|exact Kd.ay (aC.own_ne cD.out bp.out (by decide)));have gU:=mJ hk (hHeld.2.2.1) (by first|(rw[aG];exact Kd.ay (aC.own_ne cD.out bp.out (by decide)))|(show(ro _ _).block≠_;rw[aG];exact Kd.ay (aC.own_ne cD.out bp.out (by decide)))|exact Kd.ay (aC.own_ne cD.out bp.out (by decide)));have gV:=mJ hk (hHeld.2.2.2) (by first|(rw[aG];exact Kd.ay (aC.own_ne cD.out bp.out (by decide)))|(show(ro _ _).block≠_;rw[aG];exact Kd.ay (aC.own_ne cD.out bp.out (by decide)))|exact Kd.ay (aC.own_ne cD.out bp.out (by decide)));refine⟨_,rfl, ?_⟩;replace bp:=Ah (Kd.am (Kd.gn (aC.apart (show aC w _ dB l0 Au Av from aC.fg cD fv) (rr bp.out) (by decide)) hk (fun _ h=>h.2)) (fun _ h=>h.1));replace dn:=Ah (az.blk hk (g':=iv) (o:= .cells #[.slice (some l7) d8.length cl,.int .i64 lS,.int .i64 lT,.int .i64 lU] 25 (0,0)) (bk dn) k6.out (by simp));replace HB:=Ah (hb);replace cD:=Ah (hi);(try clear hb);(try clear hb2);(try clear hk);(try clear hi);refine hK.out _ _ ⟨gS,gT,gU,gV⟩ (fun hHeld=> ?_);clear hK K;refine nq 28 ?_;refine cK (i:=8) (N:=some 29) #[true,true,true,true,true,true,true,true,true,false,false,false,false,false] rfl rfl (bz I.out (by kernel_rfl)) (by decide) (fun K hK=> ?_);refine cZ Tryd.func32 (by kernel_rfl) rfl #[.agg #[.int .i64 ((J d8 cT).f0),.int .i64 ((J d8 cT).f1),.string ((J d8 cT).f2),.int .i64 ((J d8 cT).f3)],.int .i64 Aw] (by rfl) rfl rfl (by(try simp only[fT,gJ,j5]);first|done|rfl|(simp only[fF,ca];rfl)) ?_
  with_reducible refine(gB.calls k ((J d8 cT).f0) ((J d8 cT).f1) ((J d8 cT).f2) ((J d8 cT).f3) Aw th ti tj tl V4 _ A9.out).mono ?_
  rintro e NN ⟨rfl,hb⟩;have gS:=(hb.cell (Fe _ _ (hHeld.1))).trans (hHeld.1);have gT:=(hb.cell (Fe _ _ (hHeld.2.1))).trans (hHeld.2.1);have gU:=(hb.cell (Fe _ _ (hHeld.2.2.1))).trans (hHeld.2.2.1);have gV:=(hb.cell (Fe _ _ (hHeld.2.2.2))).trans (hHeld.2.2.2);refine⟨_,rfl, ?_⟩;replace bp:=Ah (Kd.bB (rr bp.out) hb);replace dn:=Ah (bb dn hb);replace HB:=Ah (aM (aX HB jO) hb);replace cD:=Ah (aC.below (aC.fg cD fv) hb);(try clear hb);(try clear hb2);(try clear hk);(try clear hi);have tu:0≤(cT:Int):=od;have tv:(cT:Int)<((d8.length:Int):Int):=od;obtain⟨jF,mR,nS,Es,My,a6O,Et⟩:=Kd.qu bp.out (by omega);(first|cases nS|(injection nS with eX kN kO;(first|subst eX|(injection eX with eX;subst eX));subst kO;clear kN));have tm:=Ah Es;have a6P:=Ah Et;clear Es My Et;(first|simp only[j6]at xT|skip);(first|simp only[j6]at xU|skip);(first|simp only[j6]at xV|skip);(first|simp only[j6]at xW|skip);obtain⟨a6Q,LW,Eu,pe,pf⟩:=Kd.kc bp.out gr (cT:Int) tu tv;obtain rfl:=kX Eu;have a17:aav _ ⟨jF,(cT:Int).toNat*4,none⟩=some (.int .i64 ((J d8 cT).f0)):=pe 0 _ rfl;have a18:aav _ ⟨jF,(cT:Int).toNat*4+1,none⟩=some (.int .i64 ((J d8 cT).f1)):=pe 1 _ rfl;have a19:aav _ ⟨jF,(cT:Int).toNat*4+2,none⟩=some (.string ((J d8 cT).f2)):=pe 2 _ rfl;have a2a:aav _ ⟨jF,(cT:Int).toNat*4+3,none⟩=some (.int .i64 ((J d8 cT).f3)):=pe 3 _ rfl;have a2b:aax _ ⟨jF,(cT:Int).toNat*4,none⟩=false:=pf 0;have a2c:aax _ ⟨jF,(cT:Int).toNat*4+1,none⟩=false:=pf 1;have a2d:aax _ ⟨jF,(cT:Int).toNat*4+2,none⟩=false:=pf 2;have a2e:aax _ ⟨jF,(cT:Int).toNat*4+3,none⟩=false:=pf 3;clear LW pe pf Eu;replace tu:=eq_true tu;replace tv:=eq_true tv;have kv:=Ah (show dB≠jF from by have h_:=aC.own_ne cD.out bp.out (by decide);intro e_;exact h_ (by rw[e_];rfl));obtain⟨ce39,TC,V8,TD,a4B⟩:=Kd.kc bp.out gr (cT:Int) (od) (by have h_:(cT:Int)<((d8.length:Int):Int):=od;first|exact h_|(have e_:=(Kd.cM bp.out).1;omega)|simpa using h_);obtain rfl:=kX V8;have Mz:=(Kd.su bp.out (cT:Int) (od) (by have h_:(cT:Int)<((d8.length:Int):Int):=od;first|exact h_|(have e_:=(Kd.cM bp.out).1;omega)|simpa using h_) (seg:=[.int .i64 th,.int .i64 ti,.string tj,.int .i64 tl]) (j:=0) TC TD (show 4≤4 from by decide) (x':=(⟨th,ti,tj,tl⟩:aK)) (ni _ _ _ (⟨th,ti,tj,tl⟩:aK)) (fun _ hk=>hk)).1;rw[←TB.out]at Mz;have V9:=Ah Mz;clear TC TD a4B V8 Mz;refine hK.out _ _ ⟨gS,gT,gU,gV⟩ (fun hHeld=> ?_);clear hK K;refine nq 29 ?_;refine a8 9 20 I.out ?_;refine a8 10 30 I.out ?_;refine a8 11 31 I.out ?_;refine a8 12 32 I.out ?_;refine qw (i:=13) (N:=none) #[true,true,true,true,true,true,true,true,true,true,true,true,true,true] rfl rfl (bz I.out (by kernel_rfl)) (by decide) (fun K hK=> ?_);refine ke (w1:= ?_) (by rfl) rfl ?_ ?_;rotate_left
  ·
   go_simp
   rfl
  refine hK.out _ _ ?_;clear hK K;refine dP (dW I.out (by kernel_rfl)) ?_
  try go_wp2_with (first|((with_reducible refine bU (f:=31) rfl ?_);refine gL (some 34) rfl rfl abg (by kernel_rfl) rfl #[.pointer (some ⟨dB,0,none⟩),.int .i64 20] rfl ?_;(with_reducible refine(iZ.calls dB l0 yk yl 20 false V5 V6 w _ ?aa ?ab WH.out).mono ?_);(case aa=>exact aC.IG cD kv kv kv kv fv);(case ab=>exact fm HB tm tm tm tm jO);rintro e na ⟨rfl,hi,hb,hk⟩;refine⟨_,rfl, ?_⟩;replace dn:=Ah (az.blk hk (g':=iv) (o:= .cells #[.slice (some ⟨jF,0,none⟩) d8.length cl,.int .i64 lS,.int .i64 lT,.int .i64 lU] 25 (0,0)) (by(with_reducible repeat(first|refine cS ?_ _|refine aZ ?_|refine cE ?_ _));refine ce ?_ (by have h_:=Kd.d7 bp.out dn.out (by decide);intro e_;exact h_ (by rw[e_];rfl)) _;(with_reducible repeat(first|refine cS ?_ _|refine aZ ?_|refine cE ?_ _));refine ce ?_ (by have h_:=Kd.d7 bp.out dn.out (by decide);intro e_;exact h_ (by rw[e_];rfl)) _;(with_reducible repeat(first|refine cS ?_ _|refine aZ ?_|refine cE ?_ _));refine ce ?_ (by have h_:=Kd.d7 bp.out dn.out (by decide);intro e_;exact h_ (by rw[e_];rfl)) _;(with_reducible repeat(first|refine cS ?_ _|refine aZ ?_|refine cE ?_ _));refine ce ?_ (by have h_:=Kd.d7 bp.out dn.out (by decide);intro e_;exact h_ (by rw[e_];rfl)) _;exact bk dn) k6.out (by simp));replace bp:=Ah (Kd.am (Kd.gn (aC.apart (show aC w _ dB l0 yk yl from aC.IG cD kv kv kv kv fv) ((by first|exact rr V9.out|exact V9.out)) (by decide)) hk (fun _ h=>h.2)) (fun _ h=>h.1));replace HB:=Ah (hb);replace cD:=Ah (hi);(try clear hb hk hi)))
  go_ret
  exact⟨_,er,by(with_reducible repeat(first|apply Kd.bK|apply Kd.bL|apply Kd.au));exact bp.out,aX HB jO⟩
 subst c12;rw[if_pos rfl]at H
 by_cases c13:1≤(d8.length:Int)
 rotate_left
 ·
  rw[if_neg c13]at H;exact absurd H (by simp)
 rw[if_pos c13]at H;have Rz:=eq_true c13;have a3i:=bV c13;clear c13;obtain⟨VA,DZ⟩:∃y_:List (aK),y_=(tg.take (1:Int).toNat):=⟨_,rfl⟩
 replace H:(some VA)=some r:=by first|(rw[DZ];with_reducible exact H)|(have cL:=(zD _ _).symm.trans H;rw[DZ];with_reducible exact cL)|(have cL:=(zD _ _).symm.trans H;with_reducible exact cL)|with_reducible exact H|(rw[DZ];exact H)|exact H
 have TE:=Ah DZ;clear DZ;obtain rfl:=qE H
 go_enter ab2,Tryd.ntmps13
 try go_wp2_with (first|((with_reducible refine bY (N:=9) rfl ?_);refine br 9 48 #[.slice A0 l0.length c0,.int .i64 0,.int .u64 0] ?_;intro dB hg kP xx hb;have LU:=gw hg (bs HB);have xy:=gw hg (bs HB);replace HB:=Ah (aM (bs HB) hb);clear hb hg;have cD:=Ah (show aC w kP dB l0 0 0 from⟨_,_,(bk xx),xy.out,fO.out⟩))|((with_reducible refine bU (f:=18) rfl ?_);refine gL (some 11) rfl rfl ab4 (by kernel_rfl) rfl #[.pointer (some ⟨dB,0,none⟩)] rfl ?_;(with_reducible refine(cP.calls k dB l0 0 0 d8 lS lT lU ju jv w _ ?aa ?ab A2.out).mono ?_);(case aa=>exact aC.fu cD);(case ab=>exact bs HB);rintro e rg ⟨I7,rfl,ho0,hi,hb,hk⟩;refine⟨_,rfl, ?_⟩;have bp:=Ah (Kd.eZ ho0 (eo (bs HB)));replace HB:=Ah (hb);replace cD:=Ah (hi);(try clear hb hk hi ho0))|((with_reducible refine bY (N:=4) rfl ?_);refine br 4 25 #[.slice none 0 0,.int .i64 0,.int .i64 0,.int .i64 0] ?_;intro iv hg w16 dn hb;replace bp:=nr bp hb;have LV:=gw hg (bs HB);have jO:=gw hg (bs HB);replace HB:=Ah (aM (bs HB) hb);have fv:=Ah ((by rw[hg];exact ek (aC.lt (show aC w _ dB l0 ju jv from aC.fu cD)):dB≠iv));have k6:=Ah ((by rw[hg];exact aaY (aC.lt (show aC w _ dB l0 ju jv from aC.fu cD)):iv≠dB));replace cD:=Ah (aC.below (aC.fu cD) hb);clear hb hg;obtain⟨VB,Ew,a6R⟩:=Kd.dI bp.out;subst a6R;have LO:=k6.out;have LP:=fv.out;obtain⟨qT,qU,qV,qW⟩:=aT dn;obtain⟨qX,qY,qZ,qa⟩:=aU dn)|((with_reducible refine bU (f:=31) rfl ?_);refine gL (some 15) rfl rfl abg (by kernel_rfl) rfl #[.pointer (some ⟨dB,0,none⟩),.int .i64 3] rfl ?_;(with_reducible refine(iZ.calls dB l0 ju jv 3 true oU oV w _ ?aa ?ab A3.out).mono ?_);(case aa=>exact aC.fg cD fv);(case ab=>exact aX HB jO);rintro e tz ⟨rfl,hi,hb,hk⟩;refine⟨_,rfl, ?_⟩;replace bp:=Ah (Kd.am (Kd.gn (aC.apart (show aC w _ dB l0 ju jv from aC.fg cD fv) (rf bp dn) (by decide)) hk (fun _ h=>h.2)) (fun _ h=>h.1));replace dn:=Ah (az.blk hk (g':=iv) (o:= .cells #[.slice VB d8.length Ew,.int .i64 lS,.int .i64 lT,.int .i64 lU] 25 (0,0)) (pb dn) k6.out (by simp));replace HB:=Ah (hb);replace cD:=Ah (hi);(try clear hb hk hi))|((with_reducible refine bU (f:=20) rfl ?_);refine gL (some 19) rfl rfl aaG (by kernel_rfl) rfl #[.pointer (some ⟨dB,0,none⟩),.int .i64 (d8.length:Int)] rfl ?_;(with_reducible refine(dw.calls dB l0 oU oV (d8.length:Int) cT Au Av w _ ?aa ?ab A5.out).mono ?_);(case aa=>exact aC.fg cD fv);(case ab=>exact aX HB jO);rintro e oe ⟨rfl,hi,hb,hk⟩;refine⟨_,rfl, ?_⟩;replace bp:=Ah (Kd.am (Kd.gn (aC.apart (show aC w _ dB l0 oU oV from aC.fg cD fv) (rr bp.out) (by decide)) hk (fun _ h=>h.2)) (fun _ h=>h.1));replace dn:=Ah (az.blk hk (g':=iv) (o:= .cells #[.slice VB d8.length Ew,.int .i64 lS,.int .i64 lT,.int .i64 lU] 25 (0,0)) (bk dn) k6.out (by simp));replace HB:=Ah (hb);replace cD:=Ah (hi);(try clear hb hk hi)))
 replace bp:=Ah (Kd.au bp.out);replace dn:=Ah (aZ dn.out);replace cD:=Ah (aC.drew cD.out);replace HB:=Ah (bc HB.out);have ym:0≤(cT:Int):=od;have yn:cT<(d8.length:Int):=od;obtain⟨l7,Mx,xT,xU,xV,xW⟩:=fW (Kd.cM bp.out).2.2 cT ym yn
 cases Mx
 replace ym:=eq_true ym;replace yn:=eq_true yn;refine dk (n:=14) (S:=fun w'=>w'.cell? (l7.add ((cT).toNat*4))=some (.int .i64 ((J d8 cT).f0))∧w'.cell? ⟨(l7.add ((cT).toNat*4)).block,(l7.add ((cT).toNat*4)).off+1,none⟩=some (.int .i64 ((J d8 cT).f1))∧w'.cell? ⟨(l7.add ((cT).toNat*4)).block,(l7.add ((cT).toNat*4)).off+2,none⟩=some (.string ((J d8 cT).f2))∧w'.cell? ⟨(l7.add ((cT).toNat*4)).block,(l7.add ((cT).toNat*4)).off+3,none⟩=some (.int .i64 ((J d8 cT).f3))) (ds:=[13]) #[false,false,false,false,false,false,false,false,false,false,false,false,false,false] (by kernel_rfl) rfl rfl ⟨xT,xU,xV,xW⟩ (fun hHeld=> ?_);refine dl iL.Uw iL.T0 (fun I aq=> ?_)
 generalize oe.drew=NP at bp dn cD HB xT xU xV xW hHeld⊢
 refine a8 0 21 I.out ?_;refine a8 1 22 I.out ?_;refine a8 2 23 I.out ?_;refine a8 3 24 I.out ?_;refine a8 4 25 I.out ?_;refine a8 6 27 I.out ?_;refine bM 5 26 I.out aq.out hHeld (hr:=by rintro w' ⟨s0,s1,s2,s3⟩;go_simp;with_reducible rfl) (h:= ?_);refine cK (i:=7) (N:=some 28) #[true,true,true,true,true,true,true,true,false,false,false,false,false,false] rfl rfl (bz I.out (by kernel_rfl)) (by decide) (fun K hK=> ?_);refine cZ aaG (by kernel_rfl) rfl #[.pointer (some ⟨dB,0,none⟩),.int .i64 4] (by rfl) rfl rfl (by(try simp only[fT,gJ,j5]);first|done|rfl|(simp only[fF,ca];rfl)) ?_
 with_reducible refine(dw.calls dB l0 Au Av 4 Aw yk yl w _ ?aa ?ab A8.out).mono ?_
 (case aa=>exact aC.fg cD fv);(case ab=>exact aX HB jO);rintro e rj ⟨rfl,hi,hb,hk⟩;have gS:=mJ hk (hHeld.1) (by first|(rw[aG];exact Kd.ay (aC.own_ne cD.out bp.out (by decide)))|(show(ro _ _).block≠_;rw[aG];exact Kd.ay (aC.own_ne cD.out bp.out (by decide)))|exact Kd.ay (aC.own_ne cD.out bp.out (by decide)));have gT:=mJ hk (hHeld.2.1) (by first|(rw[aG];exact Kd.ay (aC.own_ne cD.out bp.out (by decide)))|(show(ro _ _).block≠_;rw[aG];exact Kd.ay (aC.own_ne cD.out bp.out (by decide)))|exact Kd.ay (aC.own_ne cD.out bp.out (by decide)));have gU:=mJ hk (hHeld.2.2.1) (by first|(rw[aG];exact Kd.ay (aC.own_ne cD.out bp.out (by decide)))|(show(ro _ _).block≠_;rw[aG];exact Kd.ay (aC.own_ne cD.out bp.out (by decide)))|exact Kd.ay (aC.own_ne cD.out bp.out (by decide)));have gV:=mJ hk (hHeld.2.2.2) (by first|(rw[aG];exact Kd.ay (aC.own_ne cD.out bp.out (by decide)))|(show(ro _ _).block≠_;rw[aG];exact Kd.ay (aC.own_ne cD.out bp.out (by decide)))|exact Kd.ay (aC.own_ne cD.out bp.out (by decide)));refine⟨_,rfl, ?_⟩;replace bp:=Ah (Kd.am (Kd.gn (aC.apart (show aC w _ dB l0 Au Av from aC.fg cD fv) (rr bp.out) (by decide)) hk (fun _ h=>h.2)) (fun _ h=>h.1));replace dn:=Ah (az.blk hk (g':=iv) (o:= .cells #[.slice (some l7) d8.length Ew,.int .i64 lS,.int .i64 lT,.int .i64 lU] 25 (0,0)) (bk dn) k6.out (by simp));replace HB:=Ah (hb);replace cD:=Ah (hi);(try clear hb);(try clear hb2);(try clear hk);(try clear hi);refine hK.out _ _ ⟨gS,gT,gU,gV⟩ (fun hHeld=> ?_);clear hK K;refine nq 28 ?_;refine cK (i:=8) (N:=some 29) #[true,true,true,true,true,true,true,true,true,false,false,false,false,false] rfl rfl (bz I.out (by kernel_rfl)) (by decide) (fun K hK=> ?_);refine cZ Tryd.func32 (by kernel_rfl) rfl #[.agg #[.int .i64 ((J d8 cT).f0),.int .i64 ((J d8 cT).f1),.string ((J d8 cT).f2),.int .i64 ((J d8 cT).f3)],.int .i64 Aw] (by rfl) rfl rfl (by(try simp only[fT,gJ,j5]);first|done|rfl|(simp only[fF,ca];rfl)) ?_
 with_reducible refine(gB.calls k ((J d8 cT).f0) ((J d8 cT).f1) ((J d8 cT).f2) ((J d8 cT).f3) Aw th ti tj tl V4 _ A9.out).mono ?_
 rintro e W5 ⟨rfl,hb⟩;have gS:=(hb.cell (Fe _ _ (hHeld.1))).trans (hHeld.1);have gT:=(hb.cell (Fe _ _ (hHeld.2.1))).trans (hHeld.2.1);have gU:=(hb.cell (Fe _ _ (hHeld.2.2.1))).trans (hHeld.2.2.1);have gV:=(hb.cell (Fe _ _ (hHeld.2.2.2))).trans (hHeld.2.2.2);refine⟨_,rfl, ?_⟩;replace bp:=Ah (Kd.bB (rr bp.out) hb);replace dn:=Ah (bb dn hb);replace HB:=Ah (aM (aX HB jO) hb);replace cD:=Ah (aC.below (aC.fg cD fv) hb);(try clear hb);(try clear hb2);(try clear hk);(try clear hi);have tu:0≤(cT:Int):=od;have tv:(cT:Int)<((d8.length:Int):Int):=od;obtain⟨jF,mR,nS,Es,My,a6O,Et⟩:=Kd.qu bp.out (by omega);(first|cases nS|(injection nS with eX kN kO;(first|subst eX|(injection eX with eX;subst eX));subst kO;clear kN));have tm:=Ah Es;have a6P:=Ah Et;clear Es My Et;(first|simp only[j6]at xT|skip);(first|simp only[j6]at xU|skip);(first|simp only[j6]at xV|skip);(first|simp only[j6]at xW|skip);obtain⟨a6Q,LW,Eu,pe,pf⟩:=Kd.kc bp.out gr (cT:Int) tu tv;obtain rfl:=kX Eu;have a17:aav _ ⟨jF,(cT:Int).toNat*4,none⟩=some (.int .i64 ((J d8 cT).f0)):=pe 0 _ rfl;have a18:aav _ ⟨jF,(cT:Int).toNat*4+1,none⟩=some (.int .i64 ((J d8 cT).f1)):=pe 1 _ rfl;have a19:aav _ ⟨jF,(cT:Int).toNat*4+2,none⟩=some (.string ((J d8 cT).f2)):=pe 2 _ rfl;have a2a:aav _ ⟨jF,(cT:Int).toNat*4+3,none⟩=some (.int .i64 ((J d8 cT).f3)):=pe 3 _ rfl;have a2b:aax _ ⟨jF,(cT:Int).toNat*4,none⟩=false:=pf 0;have a2c:aax _ ⟨jF,(cT:Int).toNat*4+1,none⟩=false:=pf 1;have a2d:aax _ ⟨jF,(cT:Int).toNat*4+2,none⟩=false:=pf 2;have a2e:aax _ ⟨jF,(cT:Int).toNat*4+3,none⟩=false:=pf 3;clear LW pe pf Eu;replace tu:=eq_true tu;replace tv:=eq_true tv;have kv:=Ah (show dB≠jF from by have h_:=aC.own_ne cD.out bp.out (by decide);intro e_;exact h_ (by rw[e_];rfl));obtain⟨ce25,TF,VC,TG,a4C⟩:=Kd.kc bp.out gr (cT:Int) (od) (by have h_:(cT:Int)<((d8.length:Int):Int):=od;first|exact h_|(have e_:=(Kd.cM bp.out).1;omega)|simpa using h_);obtain rfl:=kX VC;have N0:=(Kd.su bp.out (cT:Int) (od) (by have h_:(cT:Int)<((d8.length:Int):Int):=od;first|exact h_|(have e_:=(Kd.cM bp.out).1;omega)|simpa using h_) (seg:=[.int .i64 th,.int .i64 ti,.string tj,.int .i64 tl]) (j:=0) TF TG (show 4≤4 from by decide) (x':=(⟨th,ti,tj,tl⟩:aK)) (ni _ _ _ (⟨th,ti,tj,tl⟩:aK)) (fun _ hk=>hk)).1;rw[←TB.out]at N0;have VD:=Ah N0;clear TF TG a4C VC N0;refine hK.out _ _ ⟨gS,gT,gU,gV⟩ (fun hHeld=> ?_);clear hK K;refine nq 29 ?_;refine a8 9 20 I.out ?_;refine a8 10 30 I.out ?_;refine a8 11 31 I.out ?_;refine a8 12 32 I.out ?_;refine qw (i:=13) (N:=none) #[true,true,true,true,true,true,true,true,true,true,true,true,true,true] rfl rfl (bz I.out (by kernel_rfl)) (by decide) (fun K hK=> ?_);refine ke (w1:= ?_) (by rfl) rfl ?_ ?_;rotate_left
 ·
  go_simp
  rfl
 refine hK.out _ _ ?_;clear hK K;refine dP (dW I.out (by kernel_rfl)) ?_
 try go_wp2_with (first|((with_reducible refine bU (f:=31) rfl ?_);refine gL (some 34) rfl rfl abg (by kernel_rfl) rfl #[.pointer (some ⟨dB,0,none⟩),.int .i64 20] rfl ?_;(with_reducible refine(iZ.calls dB l0 yk yl 20 true V5 V6 w _ ?aa ?ab WH.out).mono ?_);(case aa=>exact aC.IG cD kv kv kv kv fv);(case ab=>exact fm HB tm tm tm tm jO);rintro e Vl ⟨rfl,hi,hb,hk⟩;refine⟨_,rfl, ?_⟩;replace dn:=Ah (az.blk hk (g':=iv) (o:= .cells #[.slice (some ⟨jF,0,none⟩) d8.length Ew,.int .i64 lS,.int .i64 lT,.int .i64 lU] 25 (0,0)) (by(with_reducible repeat(first|refine cS ?_ _|refine aZ ?_|refine cE ?_ _));refine ce ?_ (by have h_:=Kd.d7 bp.out dn.out (by decide);intro e_;exact h_ (by rw[e_];rfl)) _;(with_reducible repeat(first|refine cS ?_ _|refine aZ ?_|refine cE ?_ _));refine ce ?_ (by have h_:=Kd.d7 bp.out dn.out (by decide);intro e_;exact h_ (by rw[e_];rfl)) _;(with_reducible repeat(first|refine cS ?_ _|refine aZ ?_|refine cE ?_ _));refine ce ?_ (by have h_:=Kd.d7 bp.out dn.out (by decide);intro e_;exact h_ (by rw[e_];rfl)) _;(with_reducible repeat(first|refine cS ?_ _|refine aZ ?_|refine cE ?_ _));refine ce ?_ (by have h_:=Kd.d7 bp.out dn.out (by decide);intro e_;exact h_ (by rw[e_];rfl)) _;exact bk dn) k6.out (by simp));replace bp:=Ah (Kd.am (Kd.gn (aC.apart (show aC w _ dB l0 yk yl from aC.IG cD kv kv kv kv fv) ((by first|exact rr VD.out|exact VD.out)) (by decide)) hk (fun _ h=>h.2)) (fun _ h=>h.1));replace HB:=Ah (hb);replace cD:=Ah (hi);(try clear hb hk hi);have NW:(1:Int)≤((d8.length:Int):Int):=od;obtain⟨i027,TH,_,a4D,_⟩:=info_parts pK;have a2f:=K9 (P:=aaf) 23 36 .i64 aa9 TH (some ⟨jF,0,none⟩) d8.length Ew 1 (by omega) NW (Kd.cM bp.out).2.1;have IC:=Kd.Qj (m:=(1:Int).toNat) bp.out (by have h_:=(Kd.cM bp.out).1;omega);have hy27:VA.length=(1:Int).toNat:=(by have h_:=(Kd.cM bp.out).1;rw[TE.out,ca];omega);rw[←TE.out]at IC;rw[←hy27]at IC a2f;clear hy27 TH a4D bp;have a4E:=Ah IC;clear IC;replace NW:=eq_true NW))
 go_ret
 exact⟨_,er,by(with_reducible repeat(first|apply Kd.bK|apply Kd.bL|apply Kd.au));exact a4E.out,aX HB jO⟩
mutual
def bg.l0:Nat→List (aK)→Int→Int→List (aK)→Int→Int→Option ((List (aK))×Int×Int×Int×Bool)
 |0,_,_,_,_,_,_=>none
 |k+1,x0,x4,x5,oh,x20,la=>if la<x20 then(if 0≤la then(if la<(oh.length:Int)then((fa.f k ((J oh la).f0) ((J oh la).f1) ((J oh la).f2) ((J oh la).f3)).bind fun N1=>(if N1=true then(if((J oh la).f0)>0 then(if(F5 ((F5 ((F5 (((J oh la).f0)-1))*x4))+la))>x5 then(bg.l0 k x0 x4 (F5 ((F5 ((F5 (((J oh la).f0)-1))*x4))+la)) oh x20 (F5 (la+1)))else(bg.l0 k x0 x4 x5 oh x20 (F5 (la+1))))else(bg.l0 k x0 x4 x5 oh x20 (F5 (la+1))))else(bg.l0 k x0 x4 x5 oh x20 (F5 (la+1)))))else(none))else(none))else((f4.f k x4).bind fun Ac=>(if x5<0 then(some (Ac.1,Ac.2.1,Ac.2.2.1,Ac.2.2.2.1,true))else(if x4=0 then(none)else(bg.l1 k x0 x4 x5 x5 x5 Ac.1 (F5 (x5+1)) (F5 ((F5 (aQ (F5 (x5+1)) x4))+1)) Ac.2.2.2.1))))
def bg.j3:Nat→List (aK)→Int→Int→Int→List (aK)→Int→Int→Int→Option ((List (aK))×Int×Int×Int×Bool)
 |0,_,_,_,_,_,_,_,_=>none
 |k+1,x0,x4,x5,j4,n8,nj,nk,vB=>if x4=0 then(none)else(if 0≤(GW x5 x4)then(if(GW x5 x4)<(x0.length:Int)then(if((J x0 (GW x5 x4)).f1)<j4 then((aw.f k n8 nj nk j4).bind fun Ex=>(if Ex=true then(some (n8,nj,nk,j4,true))else(some (([]:List (aK)),0,0,0,false))))else((aw.f k n8 nj nk ((J x0 (GW x5 x4)).f1)).bind fun Ey=>(if Ey=true then(some (n8,nj,nk,(J x0 (GW x5 x4)).f1,true))else(some (([]:List (aK)),0,0,0,false)))))else(none))else(none))
def bg.l1:Nat→List (aK)→Int→Int→Int→Int→List (aK)→Int→Int→Int→Option ((List (aK))×Int×Int×Int×Bool)
 |0,_,_,_,_,_,_,_,_,_=>none
 |k+1,x0,x4,x5,j4,eY,n8,nj,nk,vB=>if eY≥0 then(bg.j2 k x0 x4 x5 j4 eY (decide (eY>(F5 (x5-x4)))) n8 nj nk vB)else(bg.j2 k x0 x4 x5 j4 eY false n8 nj nk vB)
def bg.j2:Nat→List (aK)→Int→Int→Int→Int→Bool→List (aK)→Int→Int→Int→Option ((List (aK))×Int×Int×Int×Bool)
 |0,_,_,_,_,_,_,_,_,_,_=>none
 |k+1,x0,x4,x5,j4,eY,x79,n8,nj,nk,vB=>if x79=true then(if x4=0 then(none)else(if 0≤(GW eY x4)then(if(GW eY x4)<(x0.length:Int)then((fa.f k ((J x0 (GW eY x4)).f0) ((J x0 (GW eY x4)).f1) ((J x0 (GW eY x4)).f2) ((J x0 (GW eY x4)).f3)).bind fun Ez=>(if Ez=true then(if((J x0 (GW eY x4)).f0)=(F5 ((F5 (aQ eY x4))+1))then(if(GW eY x4)<(n8.length:Int)then(bg.l1 k x0 x4 x5 eY (F5 (eY-1)) (n8.set ((GW eY x4):Int).toNat (⟨(J x0 (GW eY x4)).f0,(J x0 (GW eY x4)).f1,(J x0 (GW eY x4)).f2,(J x0 (GW eY x4)).f3⟩:aK)) nj nk vB)else(none))else(bg.j3 k x0 x4 x5 j4 n8 nj nk vB))else(bg.j3 k x0 x4 x5 j4 n8 nj nk vB)))else(none))else(none)))else(bg.j3 k x0 x4 x5 j4 n8 nj nk vB)
end
def bg.f(k:Nat)(l0:List (aK)):Option ((List (aK))×Int×Int×Int×Bool):=(eu.f (l0.length:Int) 2 24).bind fun F1=>(if F1=true then(bg.l0 k l0 (l0.length:Int) (-1) l0 (l0.length:Int) 0)else(some (([]:List (aK)),0,0,0,false)))
theorem bg.eC:∀k,(∀y0 y1 y2 y3 y4 y5,aJ (bg.l0 k y0 y1 y2 y3 y4 y5) (bg.l0 (k+1) y0 y1 y2 y3 y4 y5))∧(∀y0 y1 y2 y3 y4 y5 y6 y7,aJ (bg.j3 k y0 y1 y2 y3 y4 y5 y6 y7) (bg.j3 (k+1) y0 y1 y2 y3 y4 y5 y6 y7))∧(∀y0 y1 y2 y3 y4 y5 y6 y7 y8,aJ (bg.l1 k y0 y1 y2 y3 y4 y5 y6 y7 y8) (bg.l1 (k+1) y0 y1 y2 y3 y4 y5 y6 y7 y8))∧(∀y0 y1 y2 y3 y4 y5 y6 y7 y8 y9,aJ (bg.j2 k y0 y1 y2 y3 y4 y5 y6 y7 y8 y9) (bg.j2 (k+1) y0 y1 y2 y3 y4 y5 y6 y7 y8 y9))
 |0=>⟨fun _ _ _ _ _ _ r h=>by simp[bg.l0]at h,fun _ _ _ _ _ _ _ _ r h=>by simp[bg.j3]at h,fun _ _ _ _ _ _ _ _ _ r h=>by simp[bg.l1]at h,fun _ _ _ _ _ _ _ _ _ _ r h=>by simp[bg.j2]at h⟩
 |k+1=>by
  obtain⟨cj,ih1,ih2,ih3⟩:=bg.eC k
  refine⟨?_, ?_, ?_, ?_⟩<;>intros<;>first|unfold bg.l0|unfold bg.j3|unfold bg.l1|unfold bg.j2
  all_goals repeat' first
   |(with_reducible exact cj _ _ _ _ _ _)
   |(with_reducible exact ih1 _ _ _ _ _ _ _ _)
   |(with_reducible exact ih2 _ _ _ _ _ _ _ _ _)
   |(with_reducible exact ih3 _ _ _ _ _ _ _ _ _ _)
   |(with_reducible exact aw.mono _ _ _ _ _)
   |(with_reducible exact f4.mono _ _)
   |(with_reducible exact fa.mono _ _ _ _ _)
   |(with_reducible exact aJ.refl _)
   |(with_reducible exact aJ.none _)
   |(with_reducible refine aJ.ite ?_ ?_)
   |(with_reducible refine aJ.bind ?_ (fun _=> ?_))
   |exact cj _ _ _ _ _ _
   |exact ih1 _ _ _ _ _ _ _ _
   |exact ih2 _ _ _ _ _ _ _ _ _
   |exact ih3 _ _ _ _ _ _ _ _ _ _
   |exact aw.mono _ _ _ _ _
   |exact f4.mono _ _
   |exact fa.mono _ _ _ _ _
   |exact aJ.none _
   |refine aJ.ite ?_ ?_
   |refine aJ.bind ?_ (fun _=> ?_)
theorem bg.mono:∀a0 k,aJ (bg.f k a0) (bg.f (k+1) a0):=by
 intro a0 k;obtain⟨cj,ih1,ih2,ih3⟩:=bg.eC k;unfold bg.f
 repeat' with_reducible first|exact cj _ _ _ _ _ _|exact ih1 _ _ _ _ _ _ _ _|exact ih2 _ _ _ _ _ _ _ _ _|exact ih3 _ _ _ _ _ _ _ _ _ _|exact aw.mono _ _ _ _ _|exact f4.mono _ _|exact fa.mono _ _ _ _ _|exact aJ.refl _|exact aJ.none _|refine aJ.ite ?_ ?_|refine aJ.bind ?_ (fun _=> ?_)
def bg.WI:Bool×List (List Nat×List Nat):=(true,[([],[]),([0],[0]),([1],[1]),([2,1],[2]),([3],[3]),([4,3],[3,4]),([3],[3]),([3],[3]),([6,7,3],[3,6,7]),([8,3],[3,8]),([5,9,3],[3,5,9]),([3,10],[3,10])])
def bg.B21:List Nat:=[0,1,3,7,15,31,15,15,207,463,1023,2047]
theorem bg.LX:dt .any (gN Tryd.f14 21)=bg.WI:=by kernel_rfl
theorem bg.KV:fh bg.WI.2 bg.B21=true:=by kernel_rfl
def bg.WJ:Bool×List (List Nat×List Nat):=(true,[([],[]),([0],[0]),([],[]),([],[]),([2,3],[2,3]),([],[]),([1,4,0,1,2,3,4,5],[1,4]),([6,5,0,1,2,3,4,5],[5,6])])
def bg.B22:List Nat:=[0,1,0,0,12,0,63,127]
theorem bg.a4F:dt .any (gN Tryd.f14 22)=bg.WJ:=by kernel_rfl
theorem bg.a2g:fh bg.WJ.2 bg.B22=true:=by kernel_rfl
theorem bg.calls(k:Nat)(A0:Option Addr)(c0:Nat)(l0:List (aK))(r1:List (aK))(r2:Int)(r3:Int)(r4:Int)(r5:Bool)(w:World)(hr0:Kd.C bD w A0 l0.length l0)(hc0:l0.length≤c0)(h:bg.f k l0=some (r1,r2,r3,r4,r5)):
 Calls aaf 14 #[.slice A0 l0.length c0] w fun e w'=>∃fA:Value,e= .returned (.tuple #[.agg #[fA,.int .i64 r2,.int .i64 r3,.int .i64 r4],.bool r5])∧Kd.R bD 36 w' w.heap.size (fun _=>True) fA r1∧Below w.heap.size w w':=by
 have lP:=aac;have kH:=aan;have fO:=Ah hr0;have tq:=Ah hc0;clear hr0 hc0;have HB:=Ah (Below.refl w.heap.size w);have H:((eu.f (l0.length:Int) 2 24).bind fun F1=>(if F1=true then(bg.l0 k l0 (l0.length:Int) (-1) l0 (l0.length:Int) 0)else(some (([]:List (aK)),0,0,0,false))))=some (r1,r2,r3,r4,r5):=h;clear h;replace H:=Ok.mp H;obtain⟨F1,eg,H⟩:=H
 try dsimp only at H
 have A2:=Ah eg;clear eg
 by_cases c3:F1=true
 rotate_left
 ·
  replace c3:=iK.mpr c3;subst c3;rw[if_neg dM]at H;simp only[aaa,aad]at H;obtain⟨rfl,rfl,rfl,rfl,rfl⟩:=H
  go_enter Tryd.func14,Tryd.ntmps14
  go_wp2_with (first|((with_reducible refine bY (N:=2) rfl ?_);refine br 2 25 #[.slice none 0 0,.int .i64 0,.int .i64 0,.int .i64 0] ?_;intro hJ hg yK bP hb;have a4G:=gw hg (bs HB);have dO:=gw hg (bs HB);replace HB:=Ah (aM (bs HB) hb);clear hb hg)|((with_reducible refine bU (f:=33) rfl ?_);refine gL (some 16) rfl rfl Tryd.func33 (by kernel_rfl) rfl #[.int .i64 (l0.length:Int),.int .i64 2,.int .i64 24] rfl ?_;(with_reducible refine(eu.calls (l0.length:Int) 2 24 false _ A2.out).mono ?_);rintro e w' ⟨rfl,⟨nd,rfl⟩⟩;refine⟨_,rfl, ?_⟩;(try(rw[ru yK];generalize fS:World.drewN yK _=yK;have bj:Z (yK.heap[hJ]?=some (.cells #[.slice none 0 0,.int .i64 0,.int .i64 0,.int .i64 0] 25 (0,0))):=⟨by rw[←fS];exact(bk bP)⟩;have be:Z (Below w.heap.size w yK):=⟨by rw[←fS];exact(aX HB dO)⟩;clear bP HB fS;have bP:=bj;have HB:=be;clear bj be));obtain⟨hcz113_0,hcz113_1,hcz113_2,hcz113_3⟩:=aT bP;obtain⟨hfz113_0,hfz113_1,hfz113_2,hfz113_3⟩:=aU bP))
  refine bodyPost_ret (gC rfl _ _ hJ 25 #[.slice none 0 0,.int .i64 0,.int .i64 0,.int .i64 0] (0,0) _ rfl (pb bP) aac rfl (by kernel_rfl)) rfl ?_;exact⟨_,er,by first|exact Kd.kA _ _ _ _ _|exact Kd.lm _ _ _ _ _|exact Kd.ln _ _ _ _ _|exact Kd.lh _ _ _ _ _|exact Kd.ll _ _ _ _ _,aX HB dO⟩
 subst c3;rw[if_pos rfl]at H;have H':=Ah H;clear H
 go_enter Tryd.func14,Tryd.ntmps14
 go_wp2_with (first|((with_reducible refine bY (N:=2) rfl ?_);refine br 2 25 #[.slice none 0 0,.int .i64 0,.int .i64 0,.int .i64 0] ?_;intro hJ hg w4 bP hb;have a4G:=gw hg (bs HB);have dO:=gw hg (bs HB);replace HB:=Ah (aM (bs HB) hb);clear hb hg)|((with_reducible refine bU (f:=33) rfl ?_);refine gL (some 16) rfl rfl Tryd.func33 (by kernel_rfl) rfl #[.int .i64 (l0.length:Int),.int .i64 2,.int .i64 24] rfl ?_;(with_reducible refine(eu.calls (l0.length:Int) 2 24 true _ A2.out).mono ?_);rintro e w' ⟨rfl,⟨nd,rfl⟩⟩;refine⟨_,rfl, ?_⟩))
 go_loopg [5,21] k (fun kq v5 v21 w'=>∃ (bQ:Int) (cm:Int),v5= .int .i64 bQ∧v21= .int .i64 cm∧Z (bg.l0 kq l0 (l0.length:Int) bQ l0 (l0.length:Int) cm=some (r1,r2,r3,r4,r5))∧Z (kq≤k)∧Z (w'.heap[hJ]?=some (.cells #[(.slice none 0 0),.int .i64 0,.int .i64 0,.int .i64 0] 25 (0,0)))∧Z (Below w.heap.size w w'))
 case atStart=>exact⟨((-1)),(0),e3,e3,H',⟨kV _⟩,⟨bk bP⟩,⟨aX HB dO⟩⟩
 case round=>
  clear H'
  try clear c1
  try clear p2
  try clear c3
  obtain⟨bQ,cm,rfl,rfl,HA,dp,bP,HB⟩:=hrel
  cases gk with
  |zero=>exact absurd HA.out (by simp[bg.l0])
  |succ k1=>
   have H:=HA.out;clear HA;simp only[bg.l0]at H
   by_cases c5:cm<(l0.length:Int)
   ·
    rw[if_pos c5]at H;have rP:=bV c5;clear c5
    by_cases c6:0≤cm
    rotate_left
    ·
     rw[if_neg c6]at H;exact absurd H (by simp)
    rw[if_pos c6]at H;have oT:=bV c6;clear c6
    by_cases c7:cm<(l0.length:Int)
    rotate_left
    ·
     rw[if_neg c7]at H;exact absurd H (by simp)
    rw[if_pos c7]at H;have kI:=bV c7;clear c7;replace H:=Ok.mp H;obtain⟨N1,mX,H⟩:=H
    try dsimp only at H
    have A8:=Ah mX;clear mX
    by_cases c9:N1=true
    rotate_left
    ·
     replace c9:=iK.mpr c9;subst c9;rw[if_neg dM]at H;have H':=Ah H;clear H;have lE:0≤(cm:Int):=od;have lF:cm<(l0.length:Int):=od;obtain⟨LY,yo,n9,nA,nB,nC⟩:=fW fO.out cm lE lF
     cases yo
     replace n9:=hq HB n9;replace nA:=hq HB nA;replace nB:=hq HB nB;replace nC:=hq HB nC;replace lE:=eq_true lE;replace lF:=eq_true lF
     go_wp2_with (first|((with_reducible refine bY (N:=7) rfl ?_);refine br 7 36 #[.int .i64 0,.int .i64 0,.string (⟨#[]⟩:ByteArray),.int .i64 0] ?_;intro xz hg IH iW hb;have LZ:=gw hg (aX HB dO);have pg:=gw hg (aX HB dO);replace HB:=Ah (aM (aX HB dO) hb);have ot:=nn bP hg;have wo:=nm bP hg;replace bP:=nb bP hb;clear hb hg;have a3J:=wo.out;have a3K:=ot.out;obtain⟨Bz,C0,C1,C2⟩:=aT iW;obtain⟨C3,C4,C5,C6⟩:=aU iW)|((with_reducible refine bU (f:=34) rfl ?_);refine gL (some 27) rfl rfl abn (by kernel_rfl) rfl #[.agg #[.int .i64 ((J l0 cm).f0),.int .i64 ((J l0 cm).f1),.string ((J l0 cm).f2),.int .i64 ((J l0 cm).f3)]] rfl ?_;(with_reducible refine(fa.calls k1 ((J l0 cm).f0) ((J l0 cm).f1) ((J l0 cm).f2) ((J l0 cm).f3) false _ A8.out).mono ?_);rintro e F9 ⟨rfl,hb⟩;refine⟨_,rfl, ?_⟩;replace bP:=Ah (bq (bf bP ot) hb);replace iW:=Ah (bq (g:=xz) (o:= .cells #[.int .i64 ((J l0 cm).f0),.int .i64 ((J l0 cm).f1),.string ((J l0 cm).f2),.int .i64 ((J l0 cm).f3)] 36 (0,0)) (pb iW) hb);replace HB:=Ah (aM (an HB dO pg) hb);(try clear hb)))
     go_roundg k1
     case measure=>have:=dp.out;omega
     case rel=>exact⟨(bQ),(F5 (cm+1)),e3,e3,H',⟨by have:=dp.out;omega⟩,⟨bk bP⟩,⟨an HB dO pg⟩⟩
    subst c9;rw[if_pos rfl]at H
    by_cases c10:((J l0 cm).f0)>0
    rotate_left
    ·
     rw[if_neg c10]at H;have iU:=ev c10;clear c10;have H':=Ah H;clear H;have lE:0≤(cm:Int):=od;have lF:cm<(l0.length:Int):=od;obtain⟨LY,yo,n9,nA,nB,nC⟩:=fW fO.out cm lE lF
     cases yo
     replace n9:=hq HB n9;replace nA:=hq HB nA;replace nB:=hq HB nB;replace nC:=hq HB nC;replace lE:=eq_true lE;replace lF:=eq_true lF
     go_wp2_with (first|((with_reducible refine bY (N:=7) rfl ?_);refine br 7 36 #[.int .i64 0,.int .i64 0,.string (⟨#[]⟩:ByteArray),.int .i64 0] ?_;intro xz hg NP iW hb;have LZ:=gw hg (aX HB dO);have pg:=gw hg (aX HB dO);replace HB:=Ah (aM (aX HB dO) hb);have ot:=nn bP hg;have wo:=nm bP hg;replace bP:=nb bP hb;clear hb hg;have S8:=wo.out;have S9:=ot.out;obtain⟨xC,xD,xE,xF⟩:=aT iW;obtain⟨xG,xH,xI,xJ⟩:=aU iW)|((with_reducible refine bU (f:=34) rfl ?_);refine gL (some 27) rfl rfl abn (by kernel_rfl) rfl #[.agg #[.int .i64 ((J l0 cm).f0),.int .i64 ((J l0 cm).f1),.string ((J l0 cm).f2),.int .i64 ((J l0 cm).f3)]] rfl ?_;(with_reducible refine(fa.calls k1 ((J l0 cm).f0) ((J l0 cm).f1) ((J l0 cm).f2) ((J l0 cm).f3) true _ A8.out).mono ?_);rintro e NG ⟨rfl,hb⟩;refine⟨_,rfl, ?_⟩;replace bP:=Ah (bq (bf bP ot) hb);replace iW:=Ah (bq (g:=xz) (o:= .cells #[.int .i64 ((J l0 cm).f0),.int .i64 ((J l0 cm).f1),.string ((J l0 cm).f2),.int .i64 ((J l0 cm).f3)] 36 (0,0)) (pb iW) hb);replace HB:=Ah (aM (an HB dO pg) hb);(try clear hb);obtain⟨ui,uj,uk,ul⟩:=aT iW;obtain⟨um,uo,uq,ur⟩:=aU iW))
     go_roundg k1
     case measure=>have:=dp.out;omega
     case rel=>exact⟨(bQ),(F5 (cm+1)),e3,e3,H',⟨by have:=dp.out;omega⟩,⟨bk bP⟩,⟨an HB dO pg⟩⟩
    rw[if_pos c10]at H;have iU:=bV c10;clear c10
    by_cases c11:(F5 ((F5 ((F5 (((J l0 cm).f0)-1))*(l0.length:Int)))+cm))>bQ
    rotate_left
    ·
     rw[if_neg c11]at H;have lu:=ev c11;clear c11;have H':=Ah H;clear H;have lE:0≤(cm:Int):=od;have lF:cm<(l0.length:Int):=od;obtain⟨LY,yo,n9,nA,nB,nC⟩:=fW fO.out cm lE lF
     cases yo
     replace n9:=hq HB n9;replace nA:=hq HB nA;replace nB:=hq HB nB;replace nC:=hq HB nC;replace lE:=eq_true lE;replace lF:=eq_true lF
     go_wp2_with (first|((with_reducible refine bY (N:=7) rfl ?_);refine br 7 36 #[.int .i64 0,.int .i64 0,.string (⟨#[]⟩:ByteArray),.int .i64 0] ?_;intro xz hg z7 iW hb;have LZ:=gw hg (aX HB dO);have pg:=gw hg (aX HB dO);replace HB:=Ah (aM (aX HB dO) hb);have ot:=nn bP hg;have wo:=nm bP hg;replace bP:=nb bP hb;clear hb hg;have LO:=wo.out;have LP:=ot.out;obtain⟨qT,qU,qV,qW⟩:=aT iW;obtain⟨qX,qY,qZ,qa⟩:=aU iW)|((with_reducible refine bU (f:=34) rfl ?_);refine gL (some 27) rfl rfl abn (by kernel_rfl) rfl #[.agg #[.int .i64 ((J l0 cm).f0),.int .i64 ((J l0 cm).f1),.string ((J l0 cm).f2),.int .i64 ((J l0 cm).f3)]] rfl ?_;(with_reducible refine(fa.calls k1 ((J l0 cm).f0) ((J l0 cm).f1) ((J l0 cm).f2) ((J l0 cm).f3) true _ A8.out).mono ?_);rintro e tz ⟨rfl,hb⟩;refine⟨_,rfl, ?_⟩;replace bP:=Ah (bq (bf bP ot) hb);replace iW:=Ah (bq (g:=xz) (o:= .cells #[.int .i64 ((J l0 cm).f0),.int .i64 ((J l0 cm).f1),.string ((J l0 cm).f2),.int .i64 ((J l0 cm).f3)] 36 (0,0)) (pb iW) hb);replace HB:=Ah (aM (an HB dO pg) hb);(try clear hb);obtain⟨GF,GG,GH,GI⟩:=aT iW;obtain⟨GJ,GK,GL,GM⟩:=aU iW))
     go_roundg k1
     case measure=>have:=dp.out;omega
     case rel=>exact⟨(bQ),(F5 (cm+1)),e3,e3,H',⟨by have:=dp.out;omega⟩,⟨bk bP⟩,⟨an HB dO pg⟩⟩
    rw[if_pos c11]at H;have lu:=bV c11;clear c11;have H':=Ah H;clear H;have lE:0≤(cm:Int):=od;have lF:cm<(l0.length:Int):=od;obtain⟨LY,yo,n9,nA,nB,nC⟩:=fW fO.out cm lE lF
    cases yo
    replace n9:=hq HB n9;replace nA:=hq HB nA;replace nB:=hq HB nB;replace nC:=hq HB nC;replace lE:=eq_true lE;replace lF:=eq_true lF
    go_wp2_with (first|((with_reducible refine bY (N:=7) rfl ?_);refine br 7 36 #[.int .i64 0,.int .i64 0,.string (⟨#[]⟩:ByteArray),.int .i64 0] ?_;intro xz hg mU iW hb;have LZ:=gw hg (aX HB dO);have pg:=gw hg (aX HB dO);replace HB:=Ah (aM (aX HB dO) hb);have ot:=nn bP hg;have wo:=nm bP hg;replace bP:=nb bP hb;clear hb hg;have hnb13:=wo.out;have hnc13:=ot.out;obtain⟨zn,zo,zp,zq⟩:=aT iW;obtain⟨zr,zs,zt,zu⟩:=aU iW)|((with_reducible refine bU (f:=34) rfl ?_);refine gL (some 27) rfl rfl abn (by kernel_rfl) rfl #[.agg #[.int .i64 ((J l0 cm).f0),.int .i64 ((J l0 cm).f1),.string ((J l0 cm).f2),.int .i64 ((J l0 cm).f3)]] rfl ?_;(with_reducible refine(fa.calls k1 ((J l0 cm).f0) ((J l0 cm).f1) ((J l0 cm).f2) ((J l0 cm).f3) true _ A8.out).mono ?_);rintro e rg ⟨rfl,hb⟩;refine⟨_,rfl, ?_⟩;replace bP:=Ah (bq (bf bP ot) hb);replace iW:=Ah (bq (g:=xz) (o:= .cells #[.int .i64 ((J l0 cm).f0),.int .i64 ((J l0 cm).f1),.string ((J l0 cm).f2),.int .i64 ((J l0 cm).f3)] 36 (0,0)) (pb iW) hb);replace HB:=Ah (aM (an HB dO pg) hb);(try clear hb);obtain⟨mf,mg,mh,mi⟩:=aT iW;obtain⟨mj,ml,mm,mo⟩:=aU iW))
    go_roundg k1
    case measure=>have:=dp.out;omega
    case rel=>exact⟨(F5 ((F5 ((F5 (((J l0 cm).f0)-1))*(l0.length:Int)))+cm)),(F5 (cm+1)),e3,e3,H',⟨by have:=dp.out;omega⟩,⟨bk bP⟩,⟨an HB dO pg⟩⟩
   rw[if_neg c5]at H;have rP:=ev c5;clear c5;replace H:=Ok.mp H;obtain⟨⟨wK,Ax,Ay,jw,VE⟩,Dx,H⟩:=H
   try dsimp only at H
   have WK:=Ah Dx;clear Dx
   by_cases c32:bQ<0
   ·
    rw[if_pos c32]at H;have DK:=bV c32;clear c32;simp only[aaa,aad]at H;obtain⟨rfl,rfl,rfl,rfl,rfl⟩:=H
    go_wp2_with (first|((with_reducible refine bU (f:=35) rfl ?_);refine gL (some 54) rfl rfl Tryd.func35 (by kernel_rfl) rfl #[.int .i64 (l0.length:Int)] rfl ?_;(with_reducible refine(f4.calls k1 (l0.length:Int) wK Ax Ay jw VE _ WK.out).mono ?_);rintro e w33 ⟨a6S,rfl,ho0,hb⟩;refine⟨_,rfl, ?_⟩;have tT:=Ah (Kd.eZ ho0 (eo (aX HB dO)));replace bP:=nb bP hb;replace HB:=Ah (aM (aX HB dO) hb);(try clear hb ho0))|((with_reducible refine bY (N:=8) rfl ?_);refine br 8 25 #[.slice none 0 0,.int .i64 0,.int .i64 0,.int .i64 0] ?_;intro iX hg w34 cO hb;replace tT:=nr tT hb;have a4H:=gw hg (aX HB dO);have gG:=gw hg (aX HB dO);replace HB:=Ah (aM (aX HB dO) hb);have mc:=nn bP hg;have wq:=nm bP hg;replace bP:=nb bP hb;clear hb hg;obtain⟨N2,EH,yO⟩:=Kd.dI tT.out;subst yO;have SC:=wq.out;have SD:=mc.out;obtain⟨sU,sV,sW,sX⟩:=aT cO;obtain⟨sY,sZ,sa,sb⟩:=aU cO;obtain⟨zQ,zR,zS,zT⟩:=aT bP;obtain⟨zU,zV,zW,zX⟩:=aU bP))
    refine bodyPost_ret (gC rfl _ _ hJ 25 #[.slice N2 wK.length EH,.int .i64 Ax,.int .i64 Ay,.int .i64 jw] (0,0) _ rfl (oZ bP mc) aac rfl (by kernel_rfl)) rfl ?_;exact⟨_,er,by(with_reducible repeat(first|apply Kd.bK|apply Kd.bL|apply Kd.au));exact Kd.am (Kd.aH (p:=⟨hJ,3,none⟩) (Kd.aH (p:=⟨hJ,2,none⟩) (Kd.aH (p:=⟨hJ,1,none⟩) (Kd.aH (p:=⟨hJ,0,none⟩) (Kd.aH (p:=⟨iX,3,none⟩) (Kd.aH (p:=⟨iX,2,none⟩) (Kd.aH (p:=⟨iX,1,none⟩) (Kd.aH (p:=⟨iX,0,none⟩) (Kd.dv (Kd.dv tT.out cO.out (by decide)) bP.out (by decide)) (fun _ hk=>hk.1.2) (.slice N2 wK.length EH)) (fun _ hk=>hk.1.2) (.int .i64 Ax)) (fun _ hk=>hk.1.2) (.int .i64 Ay)) (fun _ hk=>hk.1.2) (.int .i64 jw)) (fun _ hk=>hk.2) (.slice N2 wK.length EH)) (fun _ hk=>hk.2) (.int .i64 Ax)) (fun _ hk=>hk.2) (.int .i64 Ay)) (fun _ hk=>hk.2) (.int .i64 jw)) (fun _ hk=>trivial),an HB dO gG⟩
   rw[if_neg c32]at H;have DK:=ev c32;clear c32
   by_cases lG:(l0.length:Int)=0
   ·
    rw[if_pos lG]at H;exact absurd H (by simp)
   rw[if_neg lG]at H;have tQ:=g9 lG;have TI:=gA lG
   have HS:¬(l0=[]):=fun h_=>lG (by rw[h_];rfl)
   have N3:=Ah H;clear H
   go_upto_block 2 with(first|((with_reducible refine bU (f:=35) rfl ?_);refine gL (some 54) rfl rfl Tryd.func35 (by kernel_rfl) rfl #[.int .i64 (l0.length:Int)] rfl ?_;(with_reducible refine(f4.calls k1 (l0.length:Int) wK Ax Ay jw VE _ WK.out).mono ?_);rintro e w41 ⟨a6S,rfl,ho0,hb⟩;refine⟨_,rfl, ?_⟩;have tT:=Ah (Kd.eZ ho0 (eo (aX HB dO)));replace bP:=nb bP hb;replace HB:=Ah (aM (aX HB dO) hb);(try clear hb ho0))|((with_reducible refine bY (N:=8) rfl ?_);refine br 8 25 #[.slice none 0 0,.int .i64 0,.int .i64 0,.int .i64 0] ?_;intro iX hg w42 cO hb;replace tT:=nr tT hb;have a4H:=gw hg (aX HB dO);have gG:=gw hg (aX HB dO);replace HB:=Ah (aM (aX HB dO) hb);have mc:=nn bP hg;have wq:=nm bP hg;replace bP:=nb bP hb;clear hb hg;obtain⟨VF,VG,a6T⟩:=Kd.dI tT.out;subst a6T;have hnb44:=wq.out;have hnc44:=mc.out;obtain⟨QP,QQ,QR,QS⟩:=aT cO;obtain⟨QT,QU,QV,QW⟩:=aU cO))
   (try simp only[Act.put,aab,aai,aaj])
   go_cut [10] (fun v10 wc=>∃ (kq:Nat) (ld:Int) (gt:List (aK)) (ka:Value),v10= .int .i64 ld∧Z (bg.j3 kq l0 (l0.length:Int) bQ ld gt (F5 (bQ+1)) (F5 ((F5 (aQ (F5 (bQ+1)) (l0.length:Int)))+1)) jw=some (r1,r2,r3,r4,r5))∧Z (kq≤k1)∧Z (Kd.R bD 36 wc w.heap.size (fun _=>True) ka gt)∧Z (wc.heap[hJ]?=some (.cells #[(.slice none 0 0),.int .i64 0,.int .i64 0,.int .i64 0] 25 (0,0)))∧Z (wc.heap[iX]?=some (.cells #[ka,.int .i64 (F5 (bQ+1)),.int .i64 (F5 ((F5 (aQ (F5 (bQ+1)) (l0.length:Int)))+1)),.int .i64 jw] 25 (0,0)))∧Z (Below w.heap.size w wc))
   case first=>
    have H:=N3.out;clear N3;have H':=Ah H;clear H
    go_wp2
    go_loopg [10,11] k1 (fun kq v10 v11 w'=>∃ (fz:Int) (gR:Int) (i7:List (aK)) (ka:Value),v10= .int .i64 fz∧v11= .int .i64 gR∧Z (bg.l1 kq l0 (l0.length:Int) bQ fz gR i7 (F5 (bQ+1)) (F5 ((F5 (aQ (F5 (bQ+1)) (l0.length:Int)))+1)) jw=some (r1,r2,r3,r4,r5))∧Z (kq≤k1)∧Z (Kd.R bD 36 w' w.heap.size (fun _=>True) ka i7)∧Z (w'.heap[hJ]?=some (.cells #[(.slice none 0 0),.int .i64 0,.int .i64 0,.int .i64 0] 25 (0,0)))∧Z (w'.heap[iX]?=some (.cells #[ka,.int .i64 (F5 (bQ+1)),.int .i64 (F5 ((F5 (aQ (F5 (bQ+1)) (l0.length:Int)))+1)),.int .i64 jw] 25 (0,0)))∧Z (Below w.heap.size w w'))
    case atStart=>exact⟨(bQ),(bQ),(wK),(.slice VF wK.length VG),e3,e3,H',⟨kV _⟩,⟨by(with_reducible repeat(first|apply Kd.bK|apply Kd.bL|apply Kd.au));exact Kd.am (Kd.aH (p:=⟨iX,2,none⟩) (Kd.aH (p:=⟨iX,1,none⟩) (Kd.aH (p:=⟨iX,3,none⟩) (Kd.aH (p:=⟨iX,2,none⟩) (Kd.aH (p:=⟨iX,1,none⟩) (Kd.aH (p:=⟨iX,0,none⟩) (Kd.dv tT.out cO.out (by decide)) (fun _ hk=>hk.2) (.slice VF wK.length VG)) (fun _ hk=>hk.2) (.int .i64 Ax)) (fun _ hk=>hk.2) (.int .i64 Ay)) (fun _ hk=>hk.2) (.int .i64 jw)) (fun _ hk=>hk.2) (.int .i64 (F5 (bQ+1)))) (fun _ hk=>hk.2) (.int .i64 (F5 ((F5 (aQ (F5 (bQ+1)) (l0.length:Int)))+1)))) (fun _ hk=>trivial)⟩,⟨bf bP mc⟩,⟨by exact pb cO⟩,⟨an HB dO gG⟩⟩
    case round=>
     clear H'
     try clear c1
     try clear c2
     try clear p2
     try clear c3
     try clear c4
     try clear p4
     try clear q4
     try clear hx4
     try clear c5
     try clear rP
     try clear c6
     try clear oT
     try clear p6
     try clear c7
     try clear kI
     try clear c9
     try clear c10
     try clear iU
     try clear c11
     try clear lu
     try clear c13
     try clear c14
     try clear c18
     try clear c23
     try clear c28
     try clear c32
     try clear DK
     try clear kR
     try clear c34
     try clear lZ
     try clear wV
     try clear lG
     try clear tQ
     try clear TI
     try clear HS
     try clear p43
     try clear WL
     try clear a6U
     try clear mZ
     try clear zn zo zp zq
     try clear mf mg mh mi
     try clear qT qU qV qW
     try clear GF GG GH GI
     try clear xC xD xE xF
     try clear ui uj uk ul
     try clear Bz C0 C1 C2
     try clear sU sV sW sX
     try clear zQ zR zS zT
     try clear QP QQ QR QS
     try clear zr zs zt zu
     try clear mj ml mm mo
     try clear qX qY qZ qa
     try clear GJ GK GL GM
     try clear xG xH xI xJ
     try clear um uo uq ur
     try clear C3 C4 C5 C6
     try clear sY sZ sa sb
     try clear zU zV zW zX
     try clear QT QU QV QW
     try clear n9
     try clear nA
     try clear nB
     try clear nC
     try clear p2
     try clear lE
     try clear lF
     obtain⟨fz,gR,i7,ka,rfl,rfl,HA,fp,ck,bP,cO,HB⟩:=hrel
     cases gk with
     |zero=>exact absurd HA.out (by simp[bg.l1])
     |succ k2=>
      have H:=HA.out;clear HA;simp only[bg.l1]at H;have N4:=Ah H;clear H
      go_upto_region 18 with(fail)
      go_cut [79] (fun v79 wc=>∃ (kq:Nat) (Gd:Bool),v79= .bool Gd∧Z (bg.j2 kq l0 (l0.length:Int) bQ fz gR Gd i7 (F5 (bQ+1)) (F5 ((F5 (aQ (F5 (bQ+1)) (l0.length:Int)))+1)) jw=some (r1,r2,r3,r4,r5))∧Z (kq≤k2)∧Z (Kd.R bD 36 wc w.heap.size (fun _=>True) ka i7)∧Z (wc.heap[hJ]?=some (.cells #[(.slice none 0 0),.int .i64 0,.int .i64 0,.int .i64 0] 25 (0,0)))∧Z (wc.heap[iX]?=some (.cells #[ka,.int .i64 (F5 (bQ+1)),.int .i64 (F5 ((F5 (aQ (F5 (bQ+1)) (l0.length:Int)))+1)),.int .i64 jw] 25 (0,0)))∧Z (Below w.heap.size w wc))
      case first=>
       have H:=N4.out;clear N4
       by_cases lY:gR≥0
       rotate_left
       ·
        rw[if_neg lY]at H;have vw:=ev lY;clear lY;(first|rw[vw]|(simp only[fx,gg];rw[vw])|(simp only[a4I,aaD,aaF])|skip);have H':=Ah H;clear H
        go_wp2
        go_meet
        case rel=>exact⟨_,(false),e3,H',⟨by have:=dp.out;have:=fp.out;first|omega|exact kV _⟩,⟨rr ck.out⟩,⟨bk bP⟩,⟨bk cO⟩,⟨an HB dO gG⟩⟩
       rw[if_pos lY]at H;have vw:=bV lY;clear lY;(first|rw[vw]|(simp only[fx,gg];rw[vw])|(simp only[a4I,aaD,aaF])|skip);have H':=Ah H;clear H
       go_wp2
       go_meet
       case rel=>exact⟨_,(decide (gR>(F5 (bQ-(l0.length:Int))))),e3,H',⟨by have:=dp.out;have:=fp.out;first|omega|exact kV _⟩,⟨rr ck.out⟩,⟨bk bP⟩,⟨bk cO⟩,⟨an HB dO gG⟩⟩
      case rest=>
       clear N4
       try clear c1
       try clear c2
       try clear p2
       try clear c3
       try clear c4
       try clear p4
       try clear q4
       try clear hx4
       try clear c5
       try clear rP
       try clear c6
       try clear oT
       try clear p6
       try clear c7
       try clear kI
       try clear c9
       try clear c10
       try clear iU
       try clear c11
       try clear lu
       try clear c13
       try clear c14
       try clear c18
       try clear c23
       try clear c28
       try clear c32
       try clear DK
       try clear kR
       try clear c34
       try clear lZ
       try clear wV
       try clear lG
       try clear tQ
       try clear TI
       try clear HS
       try clear p43
       try clear WL
       try clear a6U
       try clear mZ
       try clear lY
       try clear vw
       try clear zn zo zp zq
       try clear mf mg mh mi
       try clear qT qU qV qW
       try clear GF GG GH GI
       try clear xC xD xE xF
       try clear ui uj uk ul
       try clear Bz C0 C1 C2
       try clear sU sV sW sX
       try clear zQ zR zS zT
       try clear QP QQ QR QS
       try clear zr zs zt zu
       try clear mj ml mm mo
       try clear qX qY qZ qa
       try clear GJ GK GL GM
       try clear xG xH xI xJ
       try clear um uo uq ur
       try clear C3 C4 C5 C6
       try clear sY sZ sa sb
       try clear zU zV zW zX
       try clear QT QU QV QW
       try clear n9
       try clear nA
       try clear nB
       try clear nC
       try clear p2
       try clear p4
       try clear p43
       try clear lE
       try clear p6
       try clear q4
       try clear WL
       try clear lF
       obtain⟨kq,Gd,rfl,HA,F2,ck,bP,cO,HB⟩:=hcut
       cases kq with
       |zero=>exact absurd HA.out (by simp[bg.j2])
       |succ tn=>
        have H:=HA.out;clear HA;simp only[bg.j2]at H
        by_cases rn:Gd=true
        rotate_left
        ·
         replace rn:=iK.mpr rn;subst rn;rw[if_neg dM]at H;have H':=Ah H;clear H
         go_wp2
         go_meet
         case rel=>exact⟨_,(fz),(i7),(ka),e3,H',⟨by have:=dp.out;have:=fp.out;have:=F2.out;first|omega|exact kV _⟩,⟨rr ck.out⟩,⟨bk bP⟩,⟨bk cO⟩,⟨an HB dO gG⟩⟩
        subst rn;rw[if_pos rfl]at H
        by_cases c49:(l0.length:Int)=0
        ·
         rw[if_pos c49]at H;exact absurd H (by simp)
        rw[if_neg c49]at H;have c49b0:=g9 c49;have c49b1:=gA c49
        have c49b2:¬(l0=[]):=fun h_=>c49 (by rw[h_];rfl)
        obtain⟨ak,Da⟩:∃j_:Int,(GW gR (l0.length:Int))=j_:=⟨_,rfl⟩
        replace H:(if 0≤(ak)then(if(ak)<(l0.length:Int)then((fa.f tn ((J l0 (ak)).f0) ((J l0 (ak)).f1) ((J l0 (ak)).f2) ((J l0 (ak)).f3)).bind fun Ez=>(if Ez=true then(if((J l0 (ak)).f0)=(F5 ((F5 (aQ gR (l0.length:Int)))+1))then(if(ak)<(i7.length:Int)then(bg.l1 tn l0 (l0.length:Int) bQ gR (F5 (gR-1)) (i7.set ((ak):Int).toNat (⟨(J l0 (ak)).f0,(J l0 (ak)).f1,(J l0 (ak)).f2,(J l0 (ak)).f3⟩:aK)) (F5 (bQ+1)) (F5 ((F5 (aQ (F5 (bQ+1)) (l0.length:Int)))+1)) jw)else(none))else(bg.j3 tn l0 (l0.length:Int) bQ fz i7 (F5 (bQ+1)) (F5 ((F5 (aQ (F5 (bQ+1)) (l0.length:Int)))+1)) jw))else(bg.j3 tn l0 (l0.length:Int) bQ fz i7 (F5 (bQ+1)) (F5 ((F5 (aQ (F5 (bQ+1)) (l0.length:Int)))+1)) jw)))else(none))else(none))=some (r1,r2,r3,r4,r5):=by first|(rw[Da]at H;exact H)|(simp only[Da]at H⊢;exact H)
        by_cases c51:0≤(ak)
        rotate_left
        ·
         rw[if_neg c51]at H;exact absurd H (by simp)
        rw[if_pos c51]at H;have c51b0:=bV c51;clear c51
        by_cases ob:(ak)<(l0.length:Int)
        rotate_left
        ·
         rw[if_neg ob]at H;exact absurd H (by simp)
        rw[if_pos ob]at H;have c52b0:=bV ob;clear ob;replace H:=Ok.mp H;obtain⟨Ez,VH,H⟩:=H
        try dsimp only at H
        have NX:=Ah VH;clear VH
        by_cases oc:Ez=true
        rotate_left
        ·
         replace oc:=iK.mpr oc;subst oc;rw[if_neg dM]at H;have H':=Ah H;clear H;have oW:0≤((ak):Int):=od;have oX:(ak)<(l0.length:Int):=od;obtain⟨TJ,F3,sh,sj,sk,sl⟩:=fW fO.out (ak) oW oX
         cases F3
         replace sh:=hq HB sh;replace sj:=hq HB sj;replace sk:=hq HB sk;replace sl:=hq HB sl;replace oW:=eq_true oW;replace oX:=eq_true oX
         try go_wp2_with (first|((with_reducible refine bY (N:=12) rfl ?_);refine br 12 36 #[.int .i64 0,.int .i64 0,.string (⟨#[]⟩:ByteArray),.int .i64 0] ?_;intro bZ hg zB dX hb;replace ck:=Ah (Kd.bB (Kd.e8 (rr ck.out) bZ (aah hg.symm)) hb);have TK:=gw hg (an HB dO gG);have ph:=gw hg (an HB dO gG);replace HB:=Ah (aM (an HB dO gG) hb);have uJ:=nn bP hg;have Bi:=nm bP hg;replace bP:=nb bP hb;have uK:=nn cO hg;have Bj:=nm cO hg;replace cO:=nb cO hb;clear hb hg;have hnb75:=Bi.out;have hnc75:=uJ.out;have hnb76:=Bj.out;have hnc76:=uK.out;obtain⟨QD,QE,QF,QG⟩:=aT dX;obtain⟨QH,QI,QJ,QK⟩:=aU dX))
         have bj:Z (Kd.R bD 36 ((((zB.setCell ⟨bZ,0,none⟩ (.int .i64 ((J l0 (ak)).f0))).setCell ⟨bZ,1,none⟩ (.int .i64 ((J l0 (ak)).f1))).setCell ⟨bZ,2,none⟩ (.string ((J l0 (ak)).f2))).setCell ⟨bZ,3,none⟩ (.int .i64 ((J l0 (ak)).f3))) w.heap.size (fun k_=>k_≠bZ) ka i7):=⟨by(with_reducible repeat(first|apply Kd.bK|apply Kd.bL|apply Kd.au));exact Kd.am (Kd.aH (p:=⟨bZ,3,none⟩) (Kd.aH (p:=⟨bZ,2,none⟩) (Kd.aH (p:=⟨bZ,1,none⟩) (Kd.aH (p:=⟨bZ,0,none⟩) (Kd.am ck.out (fun k_ hk=>(⟨hk,hk.2⟩:_∧k_≠bZ))) (fun _ hk=>hk.2) (.int .i64 ((J l0 (ak)).f0))) (fun _ hk=>hk.2) (.int .i64 ((J l0 (ak)).f1))) (fun _ hk=>hk.2) (.string ((J l0 (ak)).f2))) (fun _ hk=>hk.2) (.int .i64 ((J l0 (ak)).f3))) (fun _ hk=>hk.1.2)⟩;have be:Z (((((zB.setCell ⟨bZ,0,none⟩ (.int .i64 ((J l0 (ak)).f0))).setCell ⟨bZ,1,none⟩ (.int .i64 ((J l0 (ak)).f1))).setCell ⟨bZ,2,none⟩ (.string ((J l0 (ak)).f2))).setCell ⟨bZ,3,none⟩ (.int .i64 ((J l0 (ak)).f3))).heap[hJ]?=some (.cells #[.slice none 0 0,.int .i64 0,.int .i64 0,.int .i64 0] 25 (0,0))):=⟨bf bP uJ⟩;have cU:Z (((((zB.setCell ⟨bZ,0,none⟩ (.int .i64 ((J l0 (ak)).f0))).setCell ⟨bZ,1,none⟩ (.int .i64 ((J l0 (ak)).f1))).setCell ⟨bZ,2,none⟩ (.string ((J l0 (ak)).f2))).setCell ⟨bZ,3,none⟩ (.int .i64 ((J l0 (ak)).f3))).heap[iX]?=some (.cells #[ka,.int .i64 (F5 (bQ+1)),.int .i64 (F5 ((F5 (aQ (F5 (bQ+1)) (l0.length:Int)))+1)),.int .i64 jw] 25 (0,0))):=⟨bf cO uK⟩;have dh:Z (((((zB.setCell ⟨bZ,0,none⟩ (.int .i64 ((J l0 (ak)).f0))).setCell ⟨bZ,1,none⟩ (.int .i64 ((J l0 (ak)).f1))).setCell ⟨bZ,2,none⟩ (.string ((J l0 (ak)).f2))).setCell ⟨bZ,3,none⟩ (.int .i64 ((J l0 (ak)).f3))).heap[bZ]?=some (.cells #[.int .i64 ((J l0 (ak)).f0),.int .i64 ((J l0 (ak)).f1),.string ((J l0 (ak)).f2),.int .i64 ((J l0 (ak)).f3)] 36 (0,0))):=⟨by exact pb dX⟩;have di:Z (Below w.heap.size w ((((zB.setCell ⟨bZ,0,none⟩ (.int .i64 ((J l0 (ak)).f0))).setCell ⟨bZ,1,none⟩ (.int .i64 ((J l0 (ak)).f1))).setCell ⟨bZ,2,none⟩ (.string ((J l0 (ak)).f2))).setCell ⟨bZ,3,none⟩ (.int .i64 ((J l0 (ak)).f3)))):=⟨d9 HB dO gG ph⟩;(try clear ck);(try clear bP);(try clear cO);(try clear dX);(try clear HB)
         generalize ((((zB.setCell ⟨bZ,0,none⟩ (.int .i64 ((J l0 (ak)).f0))).setCell ⟨bZ,1,none⟩ (.int .i64 ((J l0 (ak)).f1))).setCell ⟨bZ,2,none⟩ (.string ((J l0 (ak)).f2))).setCell ⟨bZ,3,none⟩ (.int .i64 ((J l0 (ak)).f3)))=w78 at bj be cU dh di⊢
         have ck:=bj;have bP:=be;have cO:=cU;have dX:=dh;have HB:=di;clear bj be cU dh di;replace ck:=Ah (Kd.au ck.out);replace bP:=Ah (aZ bP.out);replace cO:=Ah (aZ cO.out);replace dX:=Ah (aZ dX.out);replace HB:=Ah (bc HB.out);refine dk (n:=12) (S:=fun w'=>w'.cell? ⟨bZ,0,none⟩=some (.int .i64 ((J l0 (ak)).f0))∧w'.cell? ⟨bZ,1,none⟩=some (.int .i64 ((J l0 (ak)).f1))∧w'.cell? ⟨bZ,2,none⟩=some (.string ((J l0 (ak)).f2))∧w'.cell? ⟨bZ,3,none⟩=some (.int .i64 ((J l0 (ak)).f3))) (ds:=[]) #[false,false,false,false,false,false,false,false,false,false,false,false] (by kernel_rfl) rfl rfl ⟨(Y dX.out 0).trans rfl,(Y dX.out 1).trans rfl,(Y dX.out 2).trans rfl,(Y dX.out 3).trans rfl⟩ (fun hHeld=> ?_);refine dl bg.LX bg.KV (fun I aq=> ?_)
         generalize w78.drew=w79 at ck bP cO dX HB hHeld⊢
         refine bM 0 88 I.out aq.out hHeld (hr:=by rintro w' ⟨s0,s1,s2,s3⟩;go_simp;with_reducible rfl) (h:= ?_);refine cK (i:=1) (N:=some 89) #[true,true,false,false,false,false,false,false,false,false,false,false] rfl rfl (bz I.out (by kernel_rfl)) (by decide) (fun K hK=> ?_);refine cZ abn (by kernel_rfl) rfl #[.agg #[.int .i64 ((J l0 (ak)).f0),.int .i64 ((J l0 (ak)).f1),.string ((J l0 (ak)).f2),.int .i64 ((J l0 (ak)).f3)]] (by rfl) rfl rfl (by(try simp only[fT,gJ,j5]);first|done|(simp only[Da];rfl)|rfl|(simp only[fF,ca];rfl)) ?_
         with_reducible refine(fa.calls tn ((J l0 (ak)).f0) ((J l0 (ak)).f1) ((J l0 (ak)).f2) ((J l0 (ak)).f3) false _ NX.out).mono ?_
         rintro e w80 ⟨rfl,hb⟩;refine⟨_,rfl, ?_⟩;replace ck:=Ah (Kd.bB (rr ck.out) hb);replace bP:=Ah (bb bP hb);replace cO:=Ah (bb cO hb);replace dX:=Ah (bb dX hb);replace HB:=Ah (aM (d9 HB dO gG ph) hb);(try clear hb);(try clear hb2);(try clear hk);(try clear hi);refine hK.out _ _ ⟨(Y dX.out 0).trans rfl,(Y dX.out 1).trans rfl,(Y dX.out 2).trans rfl,(Y dX.out 3).trans rfl⟩ (fun hHeld=> ?_);clear hK K;refine nq 89 ?_;refine a8 2 90 I.out ?_;refine a8 3 91 I.out ?_;refine aV 4 92 I.out ?_;refine aV 5 93 I.out ?_;refine aV 6 94 I.out ?_;refine aV 7 95 I.out ?_;refine aV 8 96 I.out ?_;refine aV 9 97 I.out ?_;refine aV 10 98 I.out ?_;refine a8 11 99 I.out ?_;refine dP (dW I.out (by kernel_rfl)) ?_
         try go_wp2
         go_meet
         case rel=>exact⟨_,(fz),(i7),(ka),e3,H',⟨by have:=dp.out;have:=fp.out;have:=F2.out;first|omega|exact kV _⟩,rm ck (fun _ hk=>trivial),⟨bk bP⟩,⟨bk cO⟩,⟨d9 HB dO gG ph⟩⟩
        subst oc;rw[if_pos rfl]at H
        by_cases jG:((J l0 (ak)).f0)=(F5 ((F5 (aQ gR (l0.length:Int)))+1))
        rotate_left
        ·
         rw[if_neg jG]at H;have HN:=g9 jG;have HP:=gA jG;have H':=Ah H;clear H;have oW:0≤((ak):Int):=od;have oX:(ak)<(l0.length:Int):=od;obtain⟨TJ,F3,sh,sj,sk,sl⟩:=fW fO.out (ak) oW oX
         cases F3
         replace sh:=hq HB sh;replace sj:=hq HB sj;replace sk:=hq HB sk;replace sl:=hq HB sl;replace oW:=eq_true oW;replace oX:=eq_true oX
         try go_wp2_with (first|((with_reducible refine bY (N:=12) rfl ?_);refine br 12 36 #[.int .i64 0,.int .i64 0,.string (⟨#[]⟩:ByteArray),.int .i64 0] ?_;intro bZ hg BG dX hb;replace ck:=Ah (Kd.bB (Kd.e8 (rr ck.out) bZ (aah hg.symm)) hb);have TK:=gw hg (an HB dO gG);have ph:=gw hg (an HB dO gG);replace HB:=Ah (aM (an HB dO gG) hb);have uJ:=nn bP hg;have Bi:=nm bP hg;replace bP:=nb bP hb;have uK:=nn cO hg;have Bj:=nm cO hg;replace cO:=nb cO hb;clear hb hg;have a3V:=Bi.out;have a3W:=uJ.out;have Km:=Bj.out;have Kn:=uK.out;obtain⟨Jh,Ji,Jj,Jk⟩:=aT dX;obtain⟨Jl,Jm,Jn,Jo⟩:=aU dX))
         have bj:Z (Kd.R bD 36 ((((BG.setCell ⟨bZ,0,none⟩ (.int .i64 ((J l0 (ak)).f0))).setCell ⟨bZ,1,none⟩ (.int .i64 ((J l0 (ak)).f1))).setCell ⟨bZ,2,none⟩ (.string ((J l0 (ak)).f2))).setCell ⟨bZ,3,none⟩ (.int .i64 ((J l0 (ak)).f3))) w.heap.size (fun k_=>k_≠bZ) ka i7):=⟨by(with_reducible repeat(first|apply Kd.bK|apply Kd.bL|apply Kd.au));exact Kd.am (Kd.aH (p:=⟨bZ,3,none⟩) (Kd.aH (p:=⟨bZ,2,none⟩) (Kd.aH (p:=⟨bZ,1,none⟩) (Kd.aH (p:=⟨bZ,0,none⟩) (Kd.am ck.out (fun k_ hk=>(⟨hk,hk.2⟩:_∧k_≠bZ))) (fun _ hk=>hk.2) (.int .i64 ((J l0 (ak)).f0))) (fun _ hk=>hk.2) (.int .i64 ((J l0 (ak)).f1))) (fun _ hk=>hk.2) (.string ((J l0 (ak)).f2))) (fun _ hk=>hk.2) (.int .i64 ((J l0 (ak)).f3))) (fun _ hk=>hk.1.2)⟩;have be:Z (((((BG.setCell ⟨bZ,0,none⟩ (.int .i64 ((J l0 (ak)).f0))).setCell ⟨bZ,1,none⟩ (.int .i64 ((J l0 (ak)).f1))).setCell ⟨bZ,2,none⟩ (.string ((J l0 (ak)).f2))).setCell ⟨bZ,3,none⟩ (.int .i64 ((J l0 (ak)).f3))).heap[hJ]?=some (.cells #[.slice none 0 0,.int .i64 0,.int .i64 0,.int .i64 0] 25 (0,0))):=⟨bf bP uJ⟩;have cU:Z (((((BG.setCell ⟨bZ,0,none⟩ (.int .i64 ((J l0 (ak)).f0))).setCell ⟨bZ,1,none⟩ (.int .i64 ((J l0 (ak)).f1))).setCell ⟨bZ,2,none⟩ (.string ((J l0 (ak)).f2))).setCell ⟨bZ,3,none⟩ (.int .i64 ((J l0 (ak)).f3))).heap[iX]?=some (.cells #[ka,.int .i64 (F5 (bQ+1)),.int .i64 (F5 ((F5 (aQ (F5 (bQ+1)) (l0.length:Int)))+1)),.int .i64 jw] 25 (0,0))):=⟨bf cO uK⟩;have dh:Z (((((BG.setCell ⟨bZ,0,none⟩ (.int .i64 ((J l0 (ak)).f0))).setCell ⟨bZ,1,none⟩ (.int .i64 ((J l0 (ak)).f1))).setCell ⟨bZ,2,none⟩ (.string ((J l0 (ak)).f2))).setCell ⟨bZ,3,none⟩ (.int .i64 ((J l0 (ak)).f3))).heap[bZ]?=some (.cells #[.int .i64 ((J l0 (ak)).f0),.int .i64 ((J l0 (ak)).f1),.string ((J l0 (ak)).f2),.int .i64 ((J l0 (ak)).f3)] 36 (0,0))):=⟨by exact pb dX⟩;have di:Z (Below w.heap.size w ((((BG.setCell ⟨bZ,0,none⟩ (.int .i64 ((J l0 (ak)).f0))).setCell ⟨bZ,1,none⟩ (.int .i64 ((J l0 (ak)).f1))).setCell ⟨bZ,2,none⟩ (.string ((J l0 (ak)).f2))).setCell ⟨bZ,3,none⟩ (.int .i64 ((J l0 (ak)).f3)))):=⟨d9 HB dO gG ph⟩;(try clear ck);(try clear bP);(try clear cO);(try clear dX);(try clear HB)
         generalize ((((BG.setCell ⟨bZ,0,none⟩ (.int .i64 ((J l0 (ak)).f0))).setCell ⟨bZ,1,none⟩ (.int .i64 ((J l0 (ak)).f1))).setCell ⟨bZ,2,none⟩ (.string ((J l0 (ak)).f2))).setCell ⟨bZ,3,none⟩ (.int .i64 ((J l0 (ak)).f3)))=FX at bj be cU dh di⊢
         have ck:=bj;have bP:=be;have cO:=cU;have dX:=dh;have HB:=di;clear bj be cU dh di;replace ck:=Ah (Kd.au ck.out);replace bP:=Ah (aZ bP.out);replace cO:=Ah (aZ cO.out);replace dX:=Ah (aZ dX.out);replace HB:=Ah (bc HB.out);refine dk (n:=12) (S:=fun w'=>w'.cell? ⟨bZ,0,none⟩=some (.int .i64 ((J l0 (ak)).f0))∧w'.cell? ⟨bZ,1,none⟩=some (.int .i64 ((J l0 (ak)).f1))∧w'.cell? ⟨bZ,2,none⟩=some (.string ((J l0 (ak)).f2))∧w'.cell? ⟨bZ,3,none⟩=some (.int .i64 ((J l0 (ak)).f3))) (ds:=[]) #[false,false,false,false,false,false,false,false,false,false,false,false] (by kernel_rfl) rfl rfl ⟨(Y dX.out 0).trans rfl,(Y dX.out 1).trans rfl,(Y dX.out 2).trans rfl,(Y dX.out 3).trans rfl⟩ (fun hHeld=> ?_);refine dl bg.LX bg.KV (fun I aq=> ?_)
         generalize FX.drew=W4 at ck bP cO dX HB hHeld⊢
         refine bM 0 88 I.out aq.out hHeld (hr:=by rintro w' ⟨s0,s1,s2,s3⟩;go_simp;with_reducible rfl) (h:= ?_);refine cK (i:=1) (N:=some 89) #[true,true,false,false,false,false,false,false,false,false,false,false] rfl rfl (bz I.out (by kernel_rfl)) (by decide) (fun K hK=> ?_);refine cZ abn (by kernel_rfl) rfl #[.agg #[.int .i64 ((J l0 (ak)).f0),.int .i64 ((J l0 (ak)).f1),.string ((J l0 (ak)).f2),.int .i64 ((J l0 (ak)).f3)]] (by rfl) rfl rfl (by(try simp only[fT,gJ,j5]);first|done|(simp only[Da];rfl)|rfl|(simp only[fF,ca];rfl)) ?_
         with_reducible refine(fa.calls tn ((J l0 (ak)).f0) ((J l0 (ak)).f1) ((J l0 (ak)).f2) ((J l0 (ak)).f3) true _ NX.out).mono ?_
         rintro e w73 ⟨rfl,hb⟩;refine⟨_,rfl, ?_⟩;replace ck:=Ah (Kd.bB (rr ck.out) hb);replace bP:=Ah (bb bP hb);replace cO:=Ah (bb cO hb);replace dX:=Ah (bb dX hb);replace HB:=Ah (aM (d9 HB dO gG ph) hb);(try clear hb);(try clear hb2);(try clear hk);(try clear hi);refine hK.out _ _ ⟨(Y dX.out 0).trans rfl,(Y dX.out 1).trans rfl,(Y dX.out 2).trans rfl,(Y dX.out 3).trans rfl⟩ (fun hHeld=> ?_);clear hK K;refine nq 89 ?_;refine a8 2 90 I.out ?_;refine a8 3 91 I.out ?_;refine a8 4 92 I.out ?_;refine a8 6 94 I.out ?_;refine a8 7 95 I.out ?_;refine a8 8 96 I.out ?_;refine a8 9 97 I.out ?_;refine bM 5 93 I.out aq.out hHeld (hr:=by rintro w' ⟨s0,s1,s2,s3⟩;go_simp;with_reducible rfl) (h:= ?_);refine a8 10 98 I.out ?_;refine a8 11 99 I.out ?_;refine dP (dW I.out (by kernel_rfl)) ?_
         try go_wp2
         go_meet
         case rel=>exact⟨_,(fz),(i7),(ka),e3,H',⟨by have:=dp.out;have:=fp.out;have:=F2.out;first|omega|exact kV _⟩,rm ck (fun _ hk=>trivial),⟨bk bP⟩,⟨bk cO⟩,⟨d9 HB dO gG ph⟩⟩
        rw[if_pos jG]at H;have HN:=lV jG;have HP:=lW jG;clear jG
        by_cases kS:(ak)<(i7.length:Int)
        rotate_left
        ·
         rw[if_neg kS]at H;exact absurd H (by simp)
        rw[if_pos kS]at H;have AO:=bV kS;clear kS;obtain⟨VI,Db⟩:∃y_:List (aK),y_=(i7.set ((ak):Int).toNat (⟨(J l0 (ak)).f0,(J l0 (ak)).f1,(J l0 (ak)).f2,(J l0 (ak)).f3⟩:aK)):=⟨_,rfl⟩
        replace H:(bg.l1 tn l0 (l0.length:Int) bQ gR (F5 (gR-1)) VI (F5 (bQ+1)) (F5 ((F5 (aQ (F5 (bQ+1)) (l0.length:Int)))+1)) jw)=some (r1,r2,r3,r4,r5):=by first|(rw[Db];with_reducible exact H)|(have cL:=(zD _ _).symm.trans H;rw[Db];with_reducible exact cL)|(have cL:=(zD _ _).symm.trans H;with_reducible exact cL)|with_reducible exact H|(rw[Db];exact H)|exact H
        have a4J:=Ah Db;clear Db;have H':=Ah H;clear H;have oW:0≤((ak):Int):=od;have oX:(ak)<(l0.length:Int):=od;obtain⟨TJ,F3,sh,sj,sk,sl⟩:=fW fO.out (ak) oW oX
        cases F3
        replace sh:=hq HB sh;replace sj:=hq HB sj;replace sk:=hq HB sk;replace sl:=hq HB sl;replace oW:=eq_true oW;replace oX:=eq_true oX
        try go_wp2_with (first|((with_reducible refine bY (N:=12) rfl ?_);refine br 12 36 #[.int .i64 0,.int .i64 0,.string (⟨#[]⟩:ByteArray),.int .i64 0] ?_;intro bZ hg wY dX hb;replace ck:=Ah (Kd.bB (Kd.e8 (rr ck.out) bZ (aah hg.symm)) hb);have TK:=gw hg (an HB dO gG);have ph:=gw hg (an HB dO gG);replace HB:=Ah (aM (an HB dO gG) hb);have uJ:=nn bP hg;have Bi:=nm bP hg;replace bP:=nb bP hb;have uK:=nn cO hg;have Bj:=nm cO hg;replace cO:=nb cO hb;clear hb hg;have hnb59:=Bi.out;have hnc59:=uJ.out;have hnb60:=Bj.out;have hnc60:=uK.out;obtain⟨hcz61_0,hcz61_1,hcz61_2,hcz61_3⟩:=aT dX;obtain⟨hfz61_0,hfz61_1,hfz61_2,hfz61_3⟩:=aU dX))
        have bj:Z (Kd.R bD 36 ((((wY.setCell ⟨bZ,0,none⟩ (.int .i64 ((J l0 (ak)).f0))).setCell ⟨bZ,1,none⟩ (.int .i64 ((J l0 (ak)).f1))).setCell ⟨bZ,2,none⟩ (.string ((J l0 (ak)).f2))).setCell ⟨bZ,3,none⟩ (.int .i64 ((J l0 (ak)).f3))) w.heap.size (fun k_=>k_≠bZ) ka i7):=⟨by(with_reducible repeat(first|apply Kd.bK|apply Kd.bL|apply Kd.au));exact Kd.am (Kd.aH (p:=⟨bZ,3,none⟩) (Kd.aH (p:=⟨bZ,2,none⟩) (Kd.aH (p:=⟨bZ,1,none⟩) (Kd.aH (p:=⟨bZ,0,none⟩) (Kd.am ck.out (fun k_ hk=>(⟨hk,hk.2⟩:_∧k_≠bZ))) (fun _ hk=>hk.2) (.int .i64 ((J l0 (ak)).f0))) (fun _ hk=>hk.2) (.int .i64 ((J l0 (ak)).f1))) (fun _ hk=>hk.2) (.string ((J l0 (ak)).f2))) (fun _ hk=>hk.2) (.int .i64 ((J l0 (ak)).f3))) (fun _ hk=>hk.1.2)⟩;have be:Z (((((wY.setCell ⟨bZ,0,none⟩ (.int .i64 ((J l0 (ak)).f0))).setCell ⟨bZ,1,none⟩ (.int .i64 ((J l0 (ak)).f1))).setCell ⟨bZ,2,none⟩ (.string ((J l0 (ak)).f2))).setCell ⟨bZ,3,none⟩ (.int .i64 ((J l0 (ak)).f3))).heap[hJ]?=some (.cells #[.slice none 0 0,.int .i64 0,.int .i64 0,.int .i64 0] 25 (0,0))):=⟨bf bP uJ⟩;have cU:Z (((((wY.setCell ⟨bZ,0,none⟩ (.int .i64 ((J l0 (ak)).f0))).setCell ⟨bZ,1,none⟩ (.int .i64 ((J l0 (ak)).f1))).setCell ⟨bZ,2,none⟩ (.string ((J l0 (ak)).f2))).setCell ⟨bZ,3,none⟩ (.int .i64 ((J l0 (ak)).f3))).heap[iX]?=some (.cells #[ka,.int .i64 (F5 (bQ+1)),.int .i64 (F5 ((F5 (aQ (F5 (bQ+1)) (l0.length:Int)))+1)),.int .i64 jw] 25 (0,0))):=⟨bf cO uK⟩;have dh:Z (((((wY.setCell ⟨bZ,0,none⟩ (.int .i64 ((J l0 (ak)).f0))).setCell ⟨bZ,1,none⟩ (.int .i64 ((J l0 (ak)).f1))).setCell ⟨bZ,2,none⟩ (.string ((J l0 (ak)).f2))).setCell ⟨bZ,3,none⟩ (.int .i64 ((J l0 (ak)).f3))).heap[bZ]?=some (.cells #[.int .i64 ((J l0 (ak)).f0),.int .i64 ((J l0 (ak)).f1),.string ((J l0 (ak)).f2),.int .i64 ((J l0 (ak)).f3)] 36 (0,0))):=⟨by exact pb dX⟩;have di:Z (Below w.heap.size w ((((wY.setCell ⟨bZ,0,none⟩ (.int .i64 ((J l0 (ak)).f0))).setCell ⟨bZ,1,none⟩ (.int .i64 ((J l0 (ak)).f1))).setCell ⟨bZ,2,none⟩ (.string ((J l0 (ak)).f2))).setCell ⟨bZ,3,none⟩ (.int .i64 ((J l0 (ak)).f3)))):=⟨d9 HB dO gG ph⟩;(try clear ck);(try clear bP);(try clear cO);(try clear dX);(try clear HB)
        generalize ((((wY.setCell ⟨bZ,0,none⟩ (.int .i64 ((J l0 (ak)).f0))).setCell ⟨bZ,1,none⟩ (.int .i64 ((J l0 (ak)).f1))).setCell ⟨bZ,2,none⟩ (.string ((J l0 (ak)).f2))).setCell ⟨bZ,3,none⟩ (.int .i64 ((J l0 (ak)).f3)))=w62 at bj be cU dh di⊢
        have ck:=bj;have bP:=be;have cO:=cU;have dX:=dh;have HB:=di;clear bj be cU dh di;replace ck:=Ah (Kd.au ck.out);replace bP:=Ah (aZ bP.out);replace cO:=Ah (aZ cO.out);replace dX:=Ah (aZ dX.out);replace HB:=Ah (bc HB.out);refine dk (n:=12) (S:=fun w'=>w'.cell? ⟨bZ,0,none⟩=some (.int .i64 ((J l0 (ak)).f0))∧w'.cell? ⟨bZ,1,none⟩=some (.int .i64 ((J l0 (ak)).f1))∧w'.cell? ⟨bZ,2,none⟩=some (.string ((J l0 (ak)).f2))∧w'.cell? ⟨bZ,3,none⟩=some (.int .i64 ((J l0 (ak)).f3))) (ds:=[]) #[false,false,false,false,false,false,false,false,false,false,false,false] (by kernel_rfl) rfl rfl ⟨(Y dX.out 0).trans rfl,(Y dX.out 1).trans rfl,(Y dX.out 2).trans rfl,(Y dX.out 3).trans rfl⟩ (fun hHeld=> ?_);refine dl bg.LX bg.KV (fun I aq=> ?_)
        generalize w62.drew=w63 at ck bP cO dX HB hHeld⊢
        refine bM 0 88 I.out aq.out hHeld (hr:=by rintro w' ⟨s0,s1,s2,s3⟩;go_simp;with_reducible rfl) (h:= ?_);refine cK (i:=1) (N:=some 89) #[true,true,false,false,false,false,false,false,false,false,false,false] rfl rfl (bz I.out (by kernel_rfl)) (by decide) (fun K hK=> ?_);refine cZ abn (by kernel_rfl) rfl #[.agg #[.int .i64 ((J l0 (ak)).f0),.int .i64 ((J l0 (ak)).f1),.string ((J l0 (ak)).f2),.int .i64 ((J l0 (ak)).f3)]] (by rfl) rfl rfl (by(try simp only[fT,gJ,j5]);first|done|(simp only[Da];rfl)|rfl|(simp only[fF,ca];rfl)) ?_
        with_reducible refine(fa.calls tn ((J l0 (ak)).f0) ((J l0 (ak)).f1) ((J l0 (ak)).f2) ((J l0 (ak)).f3) true _ NX.out).mono ?_
        rintro e dc ⟨rfl,hb⟩;refine⟨_,rfl, ?_⟩;replace ck:=Ah (Kd.bB (rr ck.out) hb);replace bP:=Ah (bb bP hb);replace cO:=Ah (bb cO hb);replace dX:=Ah (bb dX hb);replace HB:=Ah (aM (d9 HB dO gG ph) hb);(try clear hb);(try clear hb2);(try clear hk);(try clear hi);refine hK.out _ _ ⟨(Y dX.out 0).trans rfl,(Y dX.out 1).trans rfl,(Y dX.out 2).trans rfl,(Y dX.out 3).trans rfl⟩ (fun hHeld=> ?_);clear hK K;refine nq 89 ?_;refine a8 2 90 I.out ?_;refine a8 3 91 I.out ?_;refine a8 4 92 I.out ?_;refine a8 6 94 I.out ?_;refine a8 7 95 I.out ?_;refine a8 8 96 I.out ?_;refine a8 9 97 I.out ?_;refine bM 5 93 I.out aq.out hHeld (hr:=by rintro w' ⟨s0,s1,s2,s3⟩;go_simp;with_reducible rfl) (h:= ?_);refine a8 10 98 I.out ?_;refine a8 11 99 I.out ?_;refine dP (dW I.out (by kernel_rfl)) ?_
        try go_wp2
        replace ck:=Ah (Kd.au ck.out);replace bP:=Ah (aZ bP.out);replace cO:=Ah (aZ cO.out);replace dX:=Ah (aZ dX.out);replace HB:=Ah (bc HB.out);have p57:0≤((ak):Int):=od;have Fb:((ak):Int)<((i7.length:Int):Int):=od;obtain⟨rZ,VJ,VK,VL,a6V,cl57,VM⟩:=Kd.qu ck.out (by omega);(first|cases VK|(injection VK with eX kN kO;(first|subst eX|(injection eX with eX;subst eX));subst kO;clear kN));have ID:=Ah VL;have a6W:=Ah VM;clear VL a6V VM;obtain⟨ce57,a4K,VN,Dc,Dd⟩:=Kd.kc ck.out gr ((ak):Int) p57 Fb;obtain rfl:=kX VN;have RC:aav _ ⟨rZ,((ak):Int).toNat*4,none⟩=some (.int .i64 ((J i7 (ak)).f0)):=Dc 0 _ rfl;have RD:aav _ ⟨rZ,((ak):Int).toNat*4+1,none⟩=some (.int .i64 ((J i7 (ak)).f1)):=Dc 1 _ rfl;have RE:aav _ ⟨rZ,((ak):Int).toNat*4+2,none⟩=some (.string ((J i7 (ak)).f2)):=Dc 2 _ rfl;have RF:aav _ ⟨rZ,((ak):Int).toNat*4+3,none⟩=some (.int .i64 ((J i7 (ak)).f3)):=Dc 3 _ rfl;have a2h:aax _ ⟨rZ,((ak):Int).toNat*4,none⟩=false:=Dd 0;have a2i:aax _ ⟨rZ,((ak):Int).toNat*4+1,none⟩=false:=Dd 1;have a2j:aax _ ⟨rZ,((ak):Int).toNat*4+2,none⟩=false:=Dd 2;have a2k:aax _ ⟨rZ,((ak):Int).toNat*4+3,none⟩=false:=Dd 3;clear a4K Dc Dd VN;replace p57:=eq_true p57;replace Fb:=eq_true Fb;obtain⟨ce66,TL,VO,TM,a4L⟩:=Kd.kc ck.out gr ((ak):Int) (od) (by have h_:((ak):Int)<((i7.length:Int):Int):=od;first|exact h_|(have e_:=(Kd.cM ck.out).1;omega)|simpa using h_);obtain rfl:=kX VO;have N5:=(Kd.su ck.out ((ak):Int) (od) (by have h_:((ak):Int)<((i7.length:Int):Int):=od;first|exact h_|(have e_:=(Kd.cM ck.out).1;omega)|simpa using h_) (seg:=[.int .i64 ((J l0 (ak)).f0),.int .i64 ((J l0 (ak)).f1),.string ((J l0 (ak)).f2),.int .i64 ((J l0 (ak)).f3)]) (j:=0) TL TM (show 4≤4 from by decide) (x':=(⟨(J l0 (ak)).f0,(J l0 (ak)).f1,(J l0 (ak)).f2,(J l0 (ak)).f3⟩:aK)) (ni _ _ _ (⟨(J l0 (ak)).f0,(J l0 (ak)).f1,(J l0 (ak)).f2,(J l0 (ak)).f3⟩:aK)) (fun _ hk=>hk)).1;rw[←a4J.out]at N5;have VP:=Ah N5;clear TL TM a4L VO N5;refine dk (n:=8) (S:=fun w'=>w'.cell? ⟨iX,0,none⟩=some (.slice (some ⟨rZ,0,none⟩) i7.length VJ)∧w'.cell? ⟨iX,1,none⟩=some (.int .i64 (F5 (bQ+1)))∧w'.cell? ⟨iX,2,none⟩=some (.int .i64 (F5 ((F5 (aQ (F5 (bQ+1)) (l0.length:Int)))+1)))∧w'.cell? ⟨iX,3,none⟩=some (.int .i64 jw)∧w'.cell? ⟨bZ,0,none⟩=some (.int .i64 ((J l0 (ak)).f0))∧w'.cell? ⟨bZ,1,none⟩=some (.int .i64 ((J l0 (ak)).f1))∧w'.cell? ⟨bZ,2,none⟩=some (.string ((J l0 (ak)).f2))∧w'.cell? ⟨bZ,3,none⟩=some (.int .i64 ((J l0 (ak)).f3))) (ds:=[7]) #[false,false,false,false,false,false,false,false] (by kernel_rfl) rfl rfl ⟨(Y cO.out 0).trans rfl,(Y cO.out 1).trans rfl,(Y cO.out 2).trans rfl,(Y cO.out 3).trans rfl,(Y dX.out 0).trans rfl,(Y dX.out 1).trans rfl,(Y dX.out 2).trans rfl,(Y dX.out 3).trans rfl⟩ (fun hHeld=> ?_);refine dl bg.a4F bg.a2g (fun I aq=> ?_)
        generalize dc.drew=u0 at ck bP cO dX HB a6W VP a2h a2i a2j a2k RC RD RE RF hHeld⊢
        refine a8 0 100 I.out ?_;refine a8 2 102 I.out ?_;refine a8 3 103 I.out ?_;refine a8 4 104 I.out ?_;refine bM 1 101 I.out aq.out hHeld (hr:=by rintro w' ⟨s0,s1,s2,s3,s4,s5,s6,s7⟩;go_simp;with_reducible rfl) (h:= ?_);refine bM 5 105 I.out aq.out hHeld (hr:=by rintro w' ⟨s0,s1,s2,s3,s4,s5,s6,s7⟩;go_simp;with_reducible rfl) (h:= ?_);refine a8 6 106 I.out ?_;refine qw (i:=7) (N:=none) #[true,true,true,true,true,true,true,true] rfl rfl (bz I.out (by kernel_rfl)) (by decide) (fun K hK=> ?_);refine ke (w1:= ?_) (by rfl) rfl ?_ ?_;rotate_left
        ·
         go_simp
         rfl
        refine hK.out _ _ ?_;clear hK K;refine dP (dW I.out (by kernel_rfl)) ?_
        try go_wp2
        go_roundg tn
        case measure=>have:=dp.out;have:=fp.out;have:=F2.out;omega
        case rel=>exact⟨(gR),(F5 (gR-1)),(VI),(.slice (some ⟨rZ,0,none⟩) i7.length VJ),e3,e3,H',⟨by have:=dp.out;have:=fp.out;have:=F2.out;omega⟩,⟨by(with_reducible repeat(first|apply Kd.bK|apply Kd.bL|apply Kd.au));exact Kd.am VP.out (fun _ hk=>trivial)⟩,⟨by(with_reducible repeat(first|refine cS ?_ _|refine aZ ?_|refine cE ?_ _));refine ce ?_ (by have h_:=Kd.d7 ck.out bP.out (by decide);intro e_;exact h_ (by rw[e_];rfl)) _;(with_reducible repeat(first|refine cS ?_ _|refine aZ ?_|refine cE ?_ _));refine ce ?_ (by have h_:=Kd.d7 ck.out bP.out (by decide);intro e_;exact h_ (by rw[e_];rfl)) _;(with_reducible repeat(first|refine cS ?_ _|refine aZ ?_|refine cE ?_ _));refine ce ?_ (by have h_:=Kd.d7 ck.out bP.out (by decide);intro e_;exact h_ (by rw[e_];rfl)) _;(with_reducible repeat(first|refine cS ?_ _|refine aZ ?_|refine cE ?_ _));refine ce ?_ (by have h_:=Kd.d7 ck.out bP.out (by decide);intro e_;exact h_ (by rw[e_];rfl)) _;exact bk bP⟩,⟨by(with_reducible repeat(first|refine cS ?_ _|refine aZ ?_|refine cE ?_ _));refine ce ?_ (by have h_:=Kd.d7 ck.out cO.out (by decide);intro e_;exact h_ (by rw[e_];rfl)) _;(with_reducible repeat(first|refine cS ?_ _|refine aZ ?_|refine cE ?_ _));refine ce ?_ (by have h_:=Kd.d7 ck.out cO.out (by decide);intro e_;exact h_ (by rw[e_];rfl)) _;(with_reducible repeat(first|refine cS ?_ _|refine aZ ?_|refine cE ?_ _));refine ce ?_ (by have h_:=Kd.d7 ck.out cO.out (by decide);intro e_;exact h_ (by rw[e_];rfl)) _;(with_reducible repeat(first|refine cS ?_ _|refine aZ ?_|refine cE ?_ _));refine ce ?_ (by have h_:=Kd.d7 ck.out cO.out (by decide);intro e_;exact h_ (by rw[e_];rfl)) _;exact bk cO⟩,⟨ND HB ID ID ID ID dO gG ph⟩⟩
   case rest=>
    clear N3
    try clear p2
    try clear c3
    try clear c4
    try clear p4
    try clear q4
    try clear hx4
    try clear c5
    try clear p5
    try clear q5
    try clear hx5
    try clear hf5
    try clear c6
    try clear p6
    try clear c7
    try clear c34
    try clear p44
    try clear q44
    try clear hx44
    try clear rn
    try clear c51
    try clear ob
    try clear oc
    try clear jG
    try clear HN
    try clear HP
    try clear kS
    try clear c57
    try clear p57
    try clear Fb
    try clear hx57
    try clear hf57
    try clear p64
    try clear c66
    try clear z8
    try clear c69
    try clear c75
    try clear c76
    try clear Jh Ji Jj Jk
    try clear QD QE QF QG
    try clear Jl Jm Jn Jo
    try clear QH QI QJ QK
    try clear sh
    try clear sj
    try clear sk
    try clear sl
    try clear RC
    try clear RD
    try clear RE
    try clear RF
    try clear oW
    try clear p57
    try clear oX
    try clear Fb
    obtain⟨kq,ld,gt,ka,rfl,HA,HJ39,ck,bP,cO,HB⟩:=hcut
    cases kq with
    |zero=>exact absurd HA.out (by simp[bg.j3])
    |succ Az=>
     have H:=HA.out;clear HA;simp only[bg.j3]at H
     by_cases Fc:(l0.length:Int)=0
     ·
      rw[if_pos Fc]at H;exact absurd H (by simp)
     rw[if_neg Fc]at H;have c81b0:=g9 Fc;have c81b1:=gA Fc
     have c81b2:¬(l0=[]):=fun h_=>Fc (by rw[h_];rfl)
     obtain⟨gq,vz⟩:∃j_:Int,(GW bQ (l0.length:Int))=j_:=⟨_,rfl⟩
     replace H:(if 0≤(gq)then(if(gq)<(l0.length:Int)then(if((J l0 (gq)).f1)<ld then((aw.f Az gt (F5 (bQ+1)) (F5 ((F5 (aQ (F5 (bQ+1)) (l0.length:Int)))+1)) ld).bind fun Ex=>(if Ex=true then(some (gt,(F5 (bQ+1)),(F5 ((F5 (aQ (F5 (bQ+1)) (l0.length:Int)))+1)),ld,true))else(some (([]:List (aK)),0,0,0,false))))else((aw.f Az gt (F5 (bQ+1)) (F5 ((F5 (aQ (F5 (bQ+1)) (l0.length:Int)))+1)) ((J l0 (gq)).f1)).bind fun Ey=>(if Ey=true then(some (gt,(F5 (bQ+1)),(F5 ((F5 (aQ (F5 (bQ+1)) (l0.length:Int)))+1)),(J l0 (gq)).f1,true))else(some (([]:List (aK)),0,0,0,false)))))else(none))else(none))=some (r1,r2,r3,r4,r5):=by first|(rw[vz]at H;exact H)|(simp only[vz]at H⊢;exact H)
     by_cases FB:0≤(gq)
     rotate_left
     ·
      rw[if_neg FB]at H;exact absurd H (by simp)
     rw[if_pos FB]at H;have c83b0:=bV FB;clear FB
     by_cases IL:(gq)<(l0.length:Int)
     rotate_left
     ·
      rw[if_neg IL]at H;exact absurd H (by simp)
     rw[if_pos IL]at H;have c84b0:=bV IL;clear IL
     by_cases c85:((J l0 (gq)).f1)<ld
     rotate_left
     ·
      rw[if_neg c85]at H;have a4M:=ev c85;clear c85;replace H:=Ok.mp H;obtain⟨Ey,VQ,H⟩:=H
      try dsimp only at H
      have WM:=Ah VQ;clear VQ
      by_cases rK:Ey=true
      rotate_left
      ·
       replace rK:=iK.mpr rK;subst rK;rw[if_neg dM]at H;simp only[aaa,aad]at H;obtain⟨rfl,rfl,rfl,rfl,rfl⟩:=H;have mA:0≤((gq):Int):=od;have mB:(gq)<(l0.length:Int):=od;obtain⟨La,yp,pG,pH,pI,pJ⟩:=fW fO.out (gq) mA mB
       cases yp
       replace pG:=hq HB pG;replace pH:=hq HB pH;replace pI:=hq HB pI;replace pJ:=hq HB pJ;replace mA:=eq_true mA;replace mB:=eq_true mB;have hnb107:=wq.out;have hnc107:=mc.out;obtain⟨YE,YF,YG,YH⟩:=aT cO;obtain⟨YI,YJ,YK,YL⟩:=aU cO;obtain⟨TN,Lb,a4N⟩:=Kd.dI ck.out;subst a4N
       go_wp2_with (first|((with_reducible refine bU (f:=23) rfl ?_);refine sn (some 123) rfl rfl abb (by kernel_rfl) rfl #[.agg #[.slice TN gt.length Lb,.int .i64 (F5 (bQ+1)),.int .i64 (F5 ((F5 (aQ (F5 (bQ+1)) (l0.length:Int)))+1)),.int .i64 ((J l0 (gq)).f1)]] rfl (by(try simp only[fT,gJ,j5]);first|done|(simp only[vz];rfl)|rfl|(simp only[fF,ca];rfl)) ?_;(with_reducible refine(aw.calls Az _ _ gt (F5 (bQ+1)) (F5 ((F5 (aQ (F5 (bQ+1)) (l0.length:Int)))+1)) ((J l0 (gq)).f1) false _ ?aa ?ab WM.out).mono ?_);(case aa=>refine(Kd.cM (e:=36) (base:=w.heap.size) (ok:=fun k_=>True) (n:=gt.length) (c:=Lb) ?_).2.2;exact(rf ck cO));(case ab=>exact(Kd.cM ck.out).2.1);rintro e w110 ⟨rfl,hb⟩;refine⟨_,rfl, ?_⟩;replace ck:=Ah (Kd.bB (rf ck cO) hb);replace bP:=Ah (bq (bf bP mc) hb);replace cO:=Ah (bq (g:=iX) (o:= .cells #[.slice TN gt.length Lb,.int .i64 (F5 (bQ+1)),.int .i64 (F5 ((F5 (aQ (F5 (bQ+1)) (l0.length:Int)))+1)),.int .i64 ((J l0 (gq)).f1)] 25 (0,0)) (pb cO) hb);replace HB:=Ah (aM (an HB dO gG) hb);(try clear hb hk);obtain⟨OD,OE,OF,OG⟩:=aT bP;obtain⟨OH,OI,OJ,OK⟩:=aU bP))
       refine bodyPost_ret (gC rfl _ _ hJ 25 #[.slice none 0 0,.int .i64 0,.int .i64 0,.int .i64 0] (0,0) _ rfl (pb bP) aac rfl (by kernel_rfl)) rfl ?_;exact⟨_,by first|rfl|(simp[cH,cI]<;>rfl)|(simp only[←vz];first|rfl|(simp[cH,cI]<;>rfl))|(simp[*,cH,cI]<;>rfl),by first|exact Kd.kA _ _ _ _ _|exact Kd.lm _ _ _ _ _|exact Kd.ln _ _ _ _ _|exact Kd.lh _ _ _ _ _|exact Kd.ll _ _ _ _ _,an HB dO gG⟩
      subst rK;rw[if_pos rfl]at H;simp only[aaa,aad]at H;obtain⟨rfl,rfl,rfl,rfl,rfl⟩:=H;have mA:0≤((gq):Int):=od;have mB:(gq)<(l0.length:Int):=od;obtain⟨La,yp,pG,pH,pI,pJ⟩:=fW fO.out (gq) mA mB
      cases yp
      replace pG:=hq HB pG;replace pH:=hq HB pH;replace pI:=hq HB pI;replace pJ:=hq HB pJ;replace mA:=eq_true mA;replace mB:=eq_true mB;have hnb101:=wq.out;have hnc101:=mc.out;obtain⟨hcz102_0,hcz102_1,hcz102_2,hcz102_3⟩:=aT cO;obtain⟨hfz102_0,hfz102_1,hfz102_2,hfz102_3⟩:=aU cO;obtain⟨HW,xd,xe⟩:=Kd.dI ck.out;subst xe
      go_wp2_with (first|((with_reducible refine bU (f:=23) rfl ?_);refine sn (some 123) rfl rfl abb (by kernel_rfl) rfl #[.agg #[.slice HW gt.length xd,.int .i64 (F5 (bQ+1)),.int .i64 (F5 ((F5 (aQ (F5 (bQ+1)) (l0.length:Int)))+1)),.int .i64 ((J l0 (gq)).f1)]] rfl (by(try simp only[fT,gJ,j5]);first|done|(simp only[vz];rfl)|rfl|(simp only[fF,ca];rfl)) ?_;(with_reducible refine(aw.calls Az _ _ gt (F5 (bQ+1)) (F5 ((F5 (aQ (F5 (bQ+1)) (l0.length:Int)))+1)) ((J l0 (gq)).f1) true _ ?aa ?ab WM.out).mono ?_);(case aa=>refine(Kd.cM (e:=36) (base:=w.heap.size) (ok:=fun k_=>True) (n:=gt.length) (c:=xd) ?_).2.2;exact(rf ck cO));(case ab=>exact(Kd.cM ck.out).2.1);rintro e w104 ⟨rfl,hb⟩;refine⟨_,rfl, ?_⟩;replace ck:=Ah (Kd.bB (rf ck cO) hb);replace bP:=Ah (bq (bf bP mc) hb);replace cO:=Ah (bq (g:=iX) (o:= .cells #[.slice HW gt.length xd,.int .i64 (F5 (bQ+1)),.int .i64 (F5 ((F5 (aQ (F5 (bQ+1)) (l0.length:Int)))+1)),.int .i64 ((J l0 (gq)).f1)] 25 (0,0)) (pb cO) hb);replace HB:=Ah (aM (an HB dO gG) hb);(try clear hb hk);obtain⟨hcz105_0,hcz105_1,hcz105_2,hcz105_3⟩:=aT cO;obtain⟨hfz105_0,hfz105_1,hfz105_2,hfz105_3⟩:=aU cO;obtain⟨hcz106_0,hcz106_1,hcz106_2,hcz106_3⟩:=aT bP;obtain⟨hfz106_0,hfz106_1,hfz106_2,hfz106_3⟩:=aU bP))
      refine bodyPost_ret (gC rfl _ _ hJ 25 #[.slice HW gt.length xd,.int .i64 (F5 (bQ+1)),.int .i64 (F5 ((F5 (aQ (F5 (bQ+1)) (l0.length:Int)))+1)),.int .i64 ((J l0 (gq)).f1)] (0,0) _ rfl (pb bP) aac rfl (by kernel_rfl)) rfl ?_;exact⟨_,by first|rfl|(simp[cH,cI]<;>rfl)|(simp only[←vz];first|rfl|(simp[cH,cI]<;>rfl))|(simp[*,cH,cI]<;>rfl),by(with_reducible repeat(first|apply Kd.bK|apply Kd.bL|apply Kd.au));exact Kd.am (Kd.aH (p:=⟨hJ,3,none⟩) (Kd.aH (p:=⟨hJ,2,none⟩) (Kd.aH (p:=⟨hJ,1,none⟩) (Kd.aH (p:=⟨hJ,0,none⟩) (Kd.dv ck.out bP.out (by decide)) (fun _ hk=>hk.2) (.slice HW gt.length xd)) (fun _ hk=>hk.2) (.int .i64 (F5 (bQ+1)))) (fun _ hk=>hk.2) (.int .i64 (F5 ((F5 (aQ (F5 (bQ+1)) (l0.length:Int)))+1)))) (fun _ hk=>hk.2) (.int .i64 ((J l0 (gq)).f1))) (fun _ hk=>trivial),an HB dO gG⟩
     rw[if_pos c85]at H;have a4M:=bV c85;clear c85;replace H:=Ok.mp H;obtain⟨Ex,VR,H⟩:=H
     try dsimp only at H
     have WN:=Ah VR;clear VR
     by_cases c87:Ex=true
     rotate_left
     ·
      replace c87:=iK.mpr c87;subst c87;rw[if_neg dM]at H;simp only[aaa,aad]at H;obtain⟨rfl,rfl,rfl,rfl,rfl⟩:=H;have mA:0≤((gq):Int):=od;have mB:(gq)<(l0.length:Int):=od;obtain⟨La,yp,pG,pH,pI,pJ⟩:=fW fO.out (gq) mA mB
      cases yp
      replace pG:=hq HB pG;replace pH:=hq HB pH;replace pI:=hq HB pI;replace pJ:=hq HB pJ;replace mA:=eq_true mA;replace mB:=eq_true mB;have hnb94:=wq.out;have hnc94:=mc.out;obtain⟨hcz95_0,hcz95_1,hcz95_2,hcz95_3⟩:=aT cO;obtain⟨hfz95_0,hfz95_1,hfz95_2,hfz95_3⟩:=aU cO;obtain⟨VS,N6,a6X⟩:=Kd.dI ck.out;subst a6X
      go_wp2_with (first|((with_reducible refine bU (f:=23) rfl ?_);refine gL (some 123) rfl rfl abb (by kernel_rfl) rfl #[.agg #[.slice VS gt.length N6,.int .i64 (F5 (bQ+1)),.int .i64 (F5 ((F5 (aQ (F5 (bQ+1)) (l0.length:Int)))+1)),.int .i64 ld]] rfl ?_;(with_reducible refine(aw.calls Az _ _ gt (F5 (bQ+1)) (F5 ((F5 (aQ (F5 (bQ+1)) (l0.length:Int)))+1)) ld false _ ?aa ?ab WN.out).mono ?_);(case aa=>refine(Kd.cM (e:=36) (base:=w.heap.size) (ok:=fun k_=>True) (n:=gt.length) (c:=N6) ?_).2.2;exact(rf ck cO));(case ab=>exact(Kd.cM ck.out).2.1);rintro e w97 ⟨rfl,hb⟩;refine⟨_,rfl, ?_⟩;replace ck:=Ah (Kd.bB (rf ck cO) hb);replace bP:=Ah (bq (bf bP mc) hb);replace cO:=Ah (bq (g:=iX) (o:= .cells #[.slice VS gt.length N6,.int .i64 (F5 (bQ+1)),.int .i64 (F5 ((F5 (aQ (F5 (bQ+1)) (l0.length:Int)))+1)),.int .i64 ld] 25 (0,0)) (pb cO) hb);replace HB:=Ah (aM (an HB dO gG) hb);(try clear hb hk);obtain⟨hcz98_0,hcz98_1,hcz98_2,hcz98_3⟩:=aT bP;obtain⟨hfz98_0,hfz98_1,hfz98_2,hfz98_3⟩:=aU bP))
      refine bodyPost_ret (gC rfl _ _ hJ 25 #[.slice none 0 0,.int .i64 0,.int .i64 0,.int .i64 0] (0,0) _ rfl (pb bP) aac rfl (by kernel_rfl)) rfl ?_;exact⟨_,by first|rfl|(simp[cH,cI]<;>rfl)|(simp only[←vz];first|rfl|(simp[cH,cI]<;>rfl))|(simp[*,cH,cI]<;>rfl),by first|exact Kd.kA _ _ _ _ _|exact Kd.lm _ _ _ _ _|exact Kd.ln _ _ _ _ _|exact Kd.lh _ _ _ _ _|exact Kd.ll _ _ _ _ _,an HB dO gG⟩
     subst c87;rw[if_pos rfl]at H;simp only[aaa,aad]at H;obtain⟨rfl,rfl,rfl,rfl,rfl⟩:=H;have mA:0≤((gq):Int):=od;have mB:(gq)<(l0.length:Int):=od;obtain⟨La,yp,pG,pH,pI,pJ⟩:=fW fO.out (gq) mA mB
     cases yp
     replace pG:=hq HB pG;replace pH:=hq HB pH;replace pI:=hq HB pI;replace pJ:=hq HB pJ;replace mA:=eq_true mA;replace mB:=eq_true mB;have a2H:=wq.out;have a2I:=mc.out;obtain⟨a0O,a0P,a0Q,a0R⟩:=aT cO;obtain⟨a0S,a0T,a0U,a0V⟩:=aU cO;obtain⟨IE,F4,a6Y⟩:=Kd.dI ck.out;subst a6Y
     go_wp2_with (first|((with_reducible refine bU (f:=23) rfl ?_);refine gL (some 123) rfl rfl abb (by kernel_rfl) rfl #[.agg #[.slice IE gt.length F4,.int .i64 (F5 (bQ+1)),.int .i64 (F5 ((F5 (aQ (F5 (bQ+1)) (l0.length:Int)))+1)),.int .i64 ld]] rfl ?_;(with_reducible refine(aw.calls Az _ _ gt (F5 (bQ+1)) (F5 ((F5 (aQ (F5 (bQ+1)) (l0.length:Int)))+1)) ld true _ ?aa ?ab WN.out).mono ?_);(case aa=>refine(Kd.cM (e:=36) (base:=w.heap.size) (ok:=fun k_=>True) (n:=gt.length) (c:=F4) ?_).2.2;exact(rf ck cO));(case ab=>exact(Kd.cM ck.out).2.1);rintro e w91 ⟨rfl,hb⟩;refine⟨_,rfl, ?_⟩;replace ck:=Ah (Kd.bB (rf ck cO) hb);replace bP:=Ah (bq (bf bP mc) hb);replace cO:=Ah (bq (g:=iX) (o:= .cells #[.slice IE gt.length F4,.int .i64 (F5 (bQ+1)),.int .i64 (F5 ((F5 (aQ (F5 (bQ+1)) (l0.length:Int)))+1)),.int .i64 ld] 25 (0,0)) (pb cO) hb);replace HB:=Ah (aM (an HB dO gG) hb);(try clear hb hk);obtain⟨hcz92_0,hcz92_1,hcz92_2,hcz92_3⟩:=aT cO;obtain⟨hfz92_0,hfz92_1,hfz92_2,hfz92_3⟩:=aU cO;obtain⟨hcz93_0,hcz93_1,hcz93_2,hcz93_3⟩:=aT bP;obtain⟨hfz93_0,hfz93_1,hfz93_2,hfz93_3⟩:=aU bP))
     refine bodyPost_ret (gC rfl _ _ hJ 25 #[.slice IE gt.length F4,.int .i64 (F5 (bQ+1)),.int .i64 (F5 ((F5 (aQ (F5 (bQ+1)) (l0.length:Int)))+1)),.int .i64 ld] (0,0) _ rfl (pb bP) aac rfl (by kernel_rfl)) rfl ?_;exact⟨_,by first|rfl|(simp[cH,cI]<;>rfl)|(simp only[←vz];first|rfl|(simp[cH,cI]<;>rfl))|(simp[*,cH,cI]<;>rfl),by(with_reducible repeat(first|apply Kd.bK|apply Kd.bL|apply Kd.au));exact Kd.am (Kd.aH (p:=⟨hJ,3,none⟩) (Kd.aH (p:=⟨hJ,2,none⟩) (Kd.aH (p:=⟨hJ,1,none⟩) (Kd.aH (p:=⟨hJ,0,none⟩) (Kd.dv ck.out bP.out (by decide)) (fun _ hk=>hk.2) (.slice IE gt.length F4)) (fun _ hk=>hk.2) (.int .i64 (F5 (bQ+1)))) (fun _ hk=>hk.2) (.int .i64 (F5 ((F5 (aQ (F5 (bQ+1)) (l0.length:Int)))+1)))) (fun _ hk=>hk.2) (.int .i64 ld)) (fun _ hk=>trivial),an HB dO gG⟩
def mH.f(k:Nat)(l0:List Int):Option (Int×Int×ByteArray×Int):=(dw.f l0 0 0 20).bind fun yA=>((dw.f l0 yA.2.1 yA.2.2 99).bind fun yB=>((dw.f l0 yB.2.1 yB.2.2 6).bind fun yC=>((fP.f k l0 yC.2.1 yC.2.2 yC.1).bind fun yD=>((dw.f l0 yD.2.1 yD.2.2 3).bind fun Lc=>(some (F5 (yA.1-1),F5 (yB.1-1),yD.1,Lc.1))))))
theorem mH.mono:∀a0 k,aJ (mH.f k a0) (mH.f (k+1) a0):=by
 intro a0 k;unfold mH.f
 repeat' with_reducible first|exact fP.mono _ _ _ _ _|exact aJ.refl _|exact aJ.none _|refine aJ.ite ?_ ?_|refine aJ.bind ?_ (fun _=> ?_)
theorem mH.calls(k:Nat)(A0:Option Addr)(c0:Nat)(l0:List Int)(r1:Int)(r2:Int)(r3:ByteArray)(r4:Int)(w:World)(hr0:Kd.C (Kd.int .u8) w A0 l0.length l0)(hc0:l0.length≤c0)(h:mH.f k l0=some (r1,r2,r3,r4)):
 Calls aaf 15 #[.slice A0 l0.length c0] w fun e w'=>e= .returned (.agg #[.int .i64 r1,.int .i64 r2,.string r3,.int .i64 r4])∧Below w.heap.size w w':=by
 have kH:=aan;have UV:=Tryd.underlying48;have fO:=Ah hr0;have tq:=Ah hc0;clear hr0 hc0;have HB:=Ah (Below.refl w.heap.size w);have H:((dw.f l0 0 0 20).bind fun yA=>((dw.f l0 yA.2.1 yA.2.2 99).bind fun yB=>((dw.f l0 yB.2.1 yB.2.2 6).bind fun yC=>((fP.f k l0 yC.2.1 yC.2.2 yC.1).bind fun yD=>((dw.f l0 yD.2.1 yD.2.2 3).bind fun Lc=>(some (F5 (yA.1-1),F5 (yB.1-1),yD.1,Lc.1)))))))=some (r1,r2,r3,r4):=h;clear h;replace H:=Ok.mp H;obtain⟨⟨VT,VU,VV⟩,eg,H⟩:=H
 try dsimp only at H
 have A2:=Ah eg;clear eg;replace H:=Ok.mp H;obtain⟨⟨VW,VX,VY⟩,iJ,H⟩:=H
 try dsimp only at H
 have A3:=Ah iJ;clear iJ;replace H:=Ok.mp H;obtain⟨⟨N7,VZ,Va⟩,fo,H⟩:=H
 try dsimp only at H
 have A4:=Ah fo;clear fo;replace H:=Ok.mp H;obtain⟨⟨Vb,Vc,Vd⟩,iy,H⟩:=H
 try dsimp only at H
 have A5:=Ah iy;clear iy;replace H:=Ok.mp H;obtain⟨⟨Ve,a6Z,a60⟩,iz,H⟩:=H
 try dsimp only at H
 have A6:=Ah iz;clear iz;simp only[aaa,aad]at H;obtain⟨rfl,rfl,rfl,rfl⟩:=H
 go_enter Tryd.func15,Tryd.ntmps15
 go_wp2_with (first|((with_reducible refine bY (N:=2) rfl ?_);refine br 2 36 #[.int .i64 0,.int .i64 0,.string (⟨#[]⟩:ByteArray),.int .i64 0] ?_;intro pi hg w7 l8 hb;have GW450:=gw hg (bs HB);have tU:=gw hg (bs HB);replace HB:=Ah (aM (bs HB) hb);clear hb hg)|((with_reducible refine bY (N:=6) rfl ?_);refine br 6 48 #[.slice A0 l0.length c0,.int .i64 0,.int .u64 0] ?_;intro nP hg w8 a4O hb;have GW451:=gw hg (aX HB tU);have a4P:=gw hg (aX HB tU);replace HB:=Ah (aM (aX HB tU) hb);have zN:=Ah ((by rw[hg];exact ek (j7 (g:=pi) (o:= .cells #[.int .i64 0,.int .i64 0,.string (⟨#[]⟩:ByteArray),.int .i64 0] 36 (0,0)) (bk l8)):pi≠nP));have zO:=Ah ((by rw[hg];exact aaY (j7 (g:=pi) (o:= .cells #[.int .i64 0,.int .i64 0,.string (⟨#[]⟩:ByteArray),.int .i64 0] 36 (0,0)) (bk l8)):nP≠pi));replace l8:=Ah (bq (g:=pi) (o:= .cells #[.int .i64 0,.int .i64 0,.string (⟨#[]⟩:ByteArray),.int .i64 0] 36 (0,0)) (bk l8) hb);clear hb hg;have rE:=Ah (show aC w w8 nP l0 0 0 from⟨_,_,(bk a4O),a4P.out,fO.out⟩))|((with_reducible refine bU (f:=20) rfl ?_);refine gL (some 8) rfl rfl aaG (by kernel_rfl) rfl #[.pointer (some ⟨nP,0,none⟩),.int .i64 20] rfl ?_;(with_reducible refine(dw.calls nP l0 0 0 20 VT VU VV w _ ?aa ?ab A2.out).mono ?_);(case aa=>exact aC.fg rE zO);(case ab=>exact aX HB tU);rintro e w9 ⟨rfl,hi,hb,hk⟩;refine⟨_,rfl, ?_⟩;replace l8:=Ah (az.blk hk (g':=pi) (o:= .cells #[.int .i64 0,.int .i64 0,.string (⟨#[]⟩:ByteArray),.int .i64 0] 36 (0,0)) (bk l8) zN.out (by simp));replace HB:=Ah (hb);replace rE:=Ah (hi);(try clear hb hk hi))|((with_reducible refine bU (f:=20) rfl ?_);refine gL (some 11) rfl rfl aaG (by kernel_rfl) rfl #[.pointer (some ⟨nP,0,none⟩),.int .i64 99] rfl ?_;(with_reducible refine(dw.calls nP l0 VU VV 99 VW VX VY w _ ?aa ?ab A3.out).mono ?_);(case aa=>exact aC.fg rE zO);(case ab=>exact aX HB tU);rintro e FP ⟨rfl,hi,hb,hk⟩;refine⟨_,rfl, ?_⟩;replace l8:=Ah (az.blk hk (g':=pi) (o:= .cells #[.int .i64 0,.int .i64 0,.string (⟨#[]⟩:ByteArray),.int .i64 0] 36 (0,0)) (bk l8) zN.out (by simp));replace HB:=Ah (hb);replace rE:=Ah (hi);(try clear hb hk hi))|((with_reducible refine bU (f:=20) rfl ?_);refine gL (some 15) rfl rfl aaG (by kernel_rfl) rfl #[.pointer (some ⟨nP,0,none⟩),.int .i64 6] rfl ?_;(with_reducible refine(dw.calls nP l0 VX VY 6 N7 VZ Va w _ ?aa ?ab A4.out).mono ?_);(case aa=>exact aC.fg rE zO);(case ab=>exact aX HB tU);rintro e tw ⟨rfl,hi,hb,hk⟩;refine⟨_,rfl, ?_⟩;replace l8:=Ah (az.blk hk (g':=pi) (o:= .cells #[.int .i64 0,.int .i64 0,.string (⟨#[]⟩:ByteArray),.int .i64 0] 36 (0,0)) (bk l8) zN.out (by simp));replace HB:=Ah (hb);replace rE:=Ah (hi);(try clear hb hk hi))|((with_reducible refine bU (f:=19) rfl ?_);refine gL (some 16) rfl rfl Tryd.func19 (by kernel_rfl) rfl #[.pointer (some ⟨nP,0,none⟩),.int .i64 N7] rfl ?_;(with_reducible refine(fP.calls k nP l0 VZ Va N7 Vb Vc Vd w _ ?aa ?ab A5.out).mono ?_);(case aa=>exact aC.fg rE zO);(case ab=>exact aX HB tU);rintro e mU ⟨rfl,hi,hb,hk⟩;refine⟨_,rfl, ?_⟩;replace l8:=Ah (az.blk hk (g':=pi) (o:= .cells #[.int .i64 0,.int .i64 0,.string (⟨#[]⟩:ByteArray),.int .i64 0] 36 (0,0)) (bk l8) zN.out (by simp));replace HB:=Ah (hb);replace rE:=Ah (hi);(try clear hb hk hi))|((with_reducible refine bU (f:=20) rfl ?_);refine gL (some 18) rfl rfl aaG (by kernel_rfl) rfl #[.pointer (some ⟨nP,0,none⟩),.int .i64 3] rfl ?_;(with_reducible refine(dw.calls nP l0 Vc Vd 3 Ve a6Z a60 w _ ?aa ?ab A6.out).mono ?_);(case aa=>exact aC.fg rE zO);(case ab=>exact aX HB tU);rintro e lX ⟨rfl,hi,hb,hk⟩;refine⟨_,rfl, ?_⟩;replace l8:=Ah (az.blk hk (g':=pi) (o:= .cells #[.int .i64 0,.int .i64 0,.string (⟨#[]⟩:ByteArray),.int .i64 0] 36 (0,0)) (bk l8) zN.out (by simp));replace HB:=Ah (hb);replace rE:=Ah (hi);(try clear hb hk hi);have hnb14:=zN.out;have hnc14:=zO.out;obtain⟨Pp,Pq,Pr,Ps⟩:=aT l8;obtain⟨Pt,Pu,Pv,Pw⟩:=aU l8))
 refine bodyPost_ret (results_cell_row rfl _ _ pi 36 #[.int .i64 (F5 (VT-1)),.int .i64 (F5 (VW-1)),.string Vb,.int .i64 Ve] (0,0) _ rfl (pb l8) aan rfl (by kernel_rfl)) rfl ?_;exact⟨er,aX HB tU⟩
mutual
def ec.j0:Nat→Bool→List (aK)→Int→Int→Int→List (aK)→Int→Int→Int→Option (Bool)
 |0,_,_,_,_,_,_,_,_,_=>none
 |k+1,NT,sm,Jw,Jx,Jy,vC,Jz,K0,K3=>if NT=true then(some false)else(ec.l0 k (sm.length:Int) 0 sm Jw Jx Jy vC Jz K0 K3)
def ec.l0:Nat→Int→Int→List (aK)→Int→Int→Int→List (aK)→Int→Int→Int→Option (Bool)
 |0,_,_,_,_,_,_,_,_,_,_=>none
 |k+1,WO,ng,sm,Jw,Jx,Jy,vC,Jz,K0,K3=>if ng<WO then(if 0≤ng then(if ng<(sm.length:Int)then(if ng<(vC.length:Int)then(if(!(((J sm ng).f0)==((J vC ng).f0))||(!(((J sm ng).f1)==((J vC ng).f1))||(!((((J sm ng).f2).toList)==(((J vC ng).f2).toList))||(!(((J sm ng).f3)==((J vC ng).f3))))))=true then(some false)else(ec.l0 k WO (F5 (ng+1)) sm Jw Jx Jy vC Jz K0 K3))else(none))else(none))else(none))else(some true)
end
def ec.f(k:Nat)(U:List (aK))(aA:Int)(aD:Int)(aE:Int)(fR:List (aK))(jS:Int)(jT:Int)(jU:Int):Option (Bool):=if aA=jS then(if aE=jU then(if aD=jT then(ec.j0 k ((U.length:Int) !=(fR.length:Int)) U aA aD aE fR jS jT jU)else(ec.j0 k true U aA aD aE fR jS jT jU))else(ec.j0 k true U aA aD aE fR jS jT jU))else(ec.j0 k true U aA aD aE fR jS jT jU)
theorem ec.eC:∀k,(∀y0 y1 y2 y3 y4 y5 y6 y7 y8,aJ (ec.j0 k y0 y1 y2 y3 y4 y5 y6 y7 y8) (ec.j0 (k+1) y0 y1 y2 y3 y4 y5 y6 y7 y8))∧(∀y0 y1 y2 y3 y4 y5 y6 y7 y8 y9,aJ (ec.l0 k y0 y1 y2 y3 y4 y5 y6 y7 y8 y9) (ec.l0 (k+1) y0 y1 y2 y3 y4 y5 y6 y7 y8 y9))
 |0=>⟨fun _ _ _ _ _ _ _ _ _ r h=>by simp[ec.j0]at h,fun _ _ _ _ _ _ _ _ _ _ r h=>by simp[ec.l0]at h⟩
 |k+1=>by
  obtain⟨cj,ih1⟩:=ec.eC k
  refine⟨?_, ?_⟩<;>intros<;>first|unfold ec.j0|unfold ec.l0
  all_goals repeat' first
   |(with_reducible exact cj _ _ _ _ _ _ _ _ _)
   |(with_reducible exact ih1 _ _ _ _ _ _ _ _ _ _)
   |(with_reducible exact aJ.refl _)
   |(with_reducible exact aJ.none _)
   |(with_reducible refine aJ.ite ?_ ?_)
   |(with_reducible refine aJ.bind ?_ (fun _=> ?_))
   |exact cj _ _ _ _ _ _ _ _ _
   |exact ih1 _ _ _ _ _ _ _ _ _ _
   |exact aJ.none _
   |refine aJ.ite ?_ ?_
   |refine aJ.bind ?_ (fun _=> ?_)
theorem ec.mono:∀a0 a1 a2 a3 a4 a5 a6 a7 k,aJ (ec.f k a0 a1 a2 a3 a4 a5 a6 a7) (ec.f (k+1) a0 a1 a2 a3 a4 a5 a6 a7):=by
 intro a0 a1 a2 a3 a4 a5 a6 a7 k;obtain⟨cj,ih1⟩:=ec.eC k;unfold ec.f
 repeat' with_reducible first|exact cj _ _ _ _ _ _ _ _ _|exact ih1 _ _ _ _ _ _ _ _ _ _|exact aJ.refl _|exact aJ.none _|refine aJ.ite ?_ ?_|refine aJ.bind ?_ (fun _=> ?_)
theorem ec.calls(k:Nat)(cf:Option Addr)(cA:Nat)(U:List (aK))(aA:Int)(aD:Int)(aE:Int)(yq:Option Addr)(yr:Nat)(fR:List (aK))(jS:Int)(jT:Int)(jU:Int)(r:Bool)(w:World)(iB:Kd.C bD w cf U.length U)(iC:U.length≤cA)(TO:Kd.C bD w yq fR.length fR)(TP:fR.length≤yr)(h:ec.f k U aA aD aE fR jS jT jU=some r):
 Calls aaf 16 #[.agg #[.slice cf U.length cA,.int .i64 aA,.int .i64 aD,.int .i64 aE],.agg #[.slice yq fR.length yr,.int .i64 jS,.int .i64 jT,.int .i64 jU]] w fun e w'=>e= .returned (.bool r)∧Below w.heap.size w w':=by
 have lP:=aac;have kH:=aan;have fl:=Ah iB;have iT:=Ah iC;clear iB iC;have TQ:=Ah TO;have HC1_0:=Ah TP;clear TO TP;have HB:=Ah (Below.refl w.heap.size w);have H:(if aA=jS then(if aE=jU then(if aD=jT then(ec.j0 k ((U.length:Int) !=(fR.length:Int)) U aA aD aE fR jS jT jU)else(ec.j0 k true U aA aD aE fR jS jT jU))else(ec.j0 k true U aA aD aE fR jS jT jU))else(ec.j0 k true U aA aD aE fR jS jT jU))=some r:=h;clear h;have mG:=Ah H;clear H
 go_enter Tryd.func16,Tryd.ntmps16
 go_upto_region 1 with(first|((with_reducible refine bY (N:=2) rfl ?_);(try(refine fV (by rfl) ?_;dsimp only));refine br 2 25 #[.slice cf U.length cA,.int .i64 aA,.int .i64 aD,.int .i64 aE] ?_;intro HX hg w4 fi hb;have TR:=gw hg (bs HB);have jo:=gw hg (bs HB);replace HB:=Ah (aM (bs HB) hb);clear hb hg)|((with_reducible refine bY (N:=3) rfl ?_);(try(refine fV (by rfl) ?_;dsimp only));refine br 3 25 #[.slice yq fR.length yr,.int .i64 jS,.int .i64 jT,.int .i64 jU] ?_;intro HY hg w5 jA hb;have TS:=gw hg (aX HB jo);have pj:=gw hg (aX HB jo);replace HB:=Ah (aM (aX HB jo) hb);have sB:=nn fi hg;have sC:=nm fi hg;replace fi:=nb fi hb;clear hb hg))
 repeat(go_quiet (first|((with_reducible refine bY (N:=2) rfl ?_);(try(refine fV (by rfl) ?_;dsimp only));refine br 2 25 #[.slice cf U.length cA,.int .i64 aA,.int .i64 aD,.int .i64 aE] ?_;intro HX hg w4 fi hb;have TR:=gw hg (bs HB);have jo:=gw hg (bs HB);replace HB:=Ah (aM (bs HB) hb);clear hb hg)|((with_reducible refine bY (N:=3) rfl ?_);(try(refine fV (by rfl) ?_;dsimp only));refine br 3 25 #[.slice yq fR.length yr,.int .i64 jS,.int .i64 jT,.int .i64 jU] ?_;intro HY hg w5 jA hb;have TS:=gw hg (aX HB jo);have pj:=gw hg (aX HB jo);replace HB:=Ah (aM (aX HB jo) hb);have sB:=nn fi hg;have sC:=nm fi hg;replace fi:=nb fi hb;clear hb hg));go_upto_region 1 with(first|((with_reducible refine bY (N:=2) rfl ?_);(try(refine fV (by rfl) ?_;dsimp only));refine br 2 25 #[.slice cf U.length cA,.int .i64 aA,.int .i64 aD,.int .i64 aE] ?_;intro HX hg w4 fi hb;have TR:=gw hg (bs HB);have jo:=gw hg (bs HB);replace HB:=Ah (aM (bs HB) hb);clear hb hg)|((with_reducible refine bY (N:=3) rfl ?_);(try(refine fV (by rfl) ?_;dsimp only));refine br 3 25 #[.slice yq fR.length yr,.int .i64 jS,.int .i64 jT,.int .i64 jU] ?_;intro HY hg w5 jA hb;have TS:=gw hg (aX HB jo);have pj:=gw hg (aX HB jo);replace HB:=Ah (aM (aX HB jo) hb);have sB:=nn fi hg;have sC:=nm fi hg;replace fi:=nb fi hb;clear hb hg)))
 (try simp only[Act.put,aab,aai,aaj])
 go_cut [33] (fun v33 wc=>∃ (kq:Nat) (tN:Bool),v33= .bool tN∧Z (ec.j0 kq tN U aA aD aE fR jS jT jU=some r)∧Z (kq≤k)∧Z (wc.heap[HX]?=some (.cells #[(.slice cf U.length cA),.int .i64 aA,.int .i64 aD,.int .i64 aE] 25 (0,0)))∧Z (wc.heap[HY]?=some (.cells #[(.slice yq fR.length yr),.int .i64 jS,.int .i64 jT,.int .i64 jU] 25 (0,0)))∧Z (Below w.heap.size w wc))
 case first=>
  have H:=mG.out;clear mG
  by_cases c6:aA=jS
  rotate_left
  ·
   rw[if_neg c6]at H;have oT:=g9 c6;have N8:=gA c6;(first|rw[oT]|(simp only[fx,gg];rw[oT])|(simp only[a61,aaD,aaF])|skip);have H':=Ah H;clear H;have LO:=sB.out;have LP:=sC.out;obtain⟨qT,qU,qV,qW⟩:=aT fi;obtain⟨qX,qY,qZ,qa⟩:=aU fi;obtain⟨ou,ov,ow,ox⟩:=aT jA;obtain⟨oy,oz,p7,p8⟩:=aU jA
   go_wp2
   repeat(go_quiet (fail);try go_wp2)
   go_meet
   case rel=>exact⟨_,(true),e3,H',⟨by first|omega|exact kV _⟩,⟨bk fi⟩,⟨bk jA⟩,⟨an HB jo pj⟩⟩
  rw[if_pos c6]at H;have oT:=lV c6;have N8:=lW c6;clear c6;(first|rw[oT]|(simp only[fx,gg];rw[oT])|(simp only[a61,aaD,aaF])|skip)
  by_cases c7:aE=jU
  rotate_left
  ·
   rw[if_neg c7]at H;have kI:=g9 c7;have oE:=gA c7;have H':=Ah H;clear H;have Kg:=sB.out;have Kh:=sC.out;obtain⟨mf,mg,mh,mi⟩:=aT fi;obtain⟨mj,ml,mm,mo⟩:=aU fi;obtain⟨wu,wv,wx,wy⟩:=aT jA;obtain⟨wz,x9,xA,xB⟩:=aU jA
   go_wp2
   repeat(go_quiet (fail);try go_wp2)
   go_meet
   case rel=>exact⟨_,(true),e3,H',⟨by first|omega|exact kV _⟩,⟨bk fi⟩,⟨bk jA⟩,⟨an HB jo pj⟩⟩
  rw[if_pos c7]at H;have kI:=lV c7;have oE:=lW c7;clear c7
  by_cases c8:aD=jT
  rotate_left
  ·
   rw[if_neg c8]at H;have lQ:=g9 c8;have rQ:=gA c8;have H':=Ah H;clear H;have Sy:=sB.out;have Sz:=sC.out;obtain⟨xK,xL,xM,xN⟩:=aT fi;obtain⟨xO,xP,xQ,xR⟩:=aU fi;obtain⟨zn,zo,zp,zq⟩:=aT jA;obtain⟨zr,zs,zt,zu⟩:=aU jA
   go_wp2
   repeat(go_quiet (fail);try go_wp2)
   go_meet
   case rel=>exact⟨_,(true),e3,H',⟨by first|omega|exact kV _⟩,⟨bk fi⟩,⟨bk jA⟩,⟨an HB jo pj⟩⟩
  rw[if_pos c8]at H;have lQ:=lV c8;have rQ:=lW c8;clear c8;have H':=Ah H;clear H;have a6H:=sB.out;have a6I:=sC.out;obtain⟨CC,CD,CE,CF⟩:=aT fi;obtain⟨CG,CH,CI,CJ⟩:=aU fi;obtain⟨qL,qM,qN,qO⟩:=aT jA;obtain⟨qP,qQ,qR,qS⟩:=aU jA
  go_wp2
  repeat(go_quiet (fail);try go_wp2)
  go_meet
  case rel=>exact⟨_,(((U.length:Int) !=(fR.length:Int))),e3,H',⟨by first|omega|exact kV _⟩,⟨bk fi⟩,⟨bk jA⟩,⟨an HB jo pj⟩⟩
 case rest=>
  clear mG
  try clear c1
  try clear p2
  try clear c6
  try clear oT
  try clear N8
  try clear c7
  try clear kI
  try clear oE
  try clear c8
  try clear lQ
  try clear rQ
  try clear c9
  try clear c12
  try clear c15
  try clear c16
  try clear c18
  try clear CC CD CE CF
  try clear qL qM qN qO
  try clear xK xL xM xN
  try clear zn zo zp zq
  try clear mf mg mh mi
  try clear wu wv wx wy
  try clear qT qU qV qW
  try clear ou ov ow ox
  try clear CG CH CI CJ
  try clear qP qQ qR qS
  try clear xO xP xQ xR
  try clear zr zs zt zu
  try clear mj ml mm mo
  try clear wz x9 xA xB
  try clear qX qY qZ qa
  try clear oy oz p7 p8
  obtain⟨kq,tN,rfl,HA,HJ2,fi,jA,HB⟩:=hcut
  cases kq with
  |zero=>exact absurd HA.out (by simp[ec.j0])
  |succ zA=>
   have H:=HA.out;clear HA;simp only[ec.j0]at H
   by_cases c21:tN=true
   ·
    subst c21;rw[if_pos rfl]at H;obtain rfl:=qE H
    go_wp2
    repeat(go_quiet (fail);try go_wp2)
    go_ret
    exact⟨er,an HB jo pj⟩
   replace c21:=iK.mpr c21;subst c21;rw[if_neg dM]at H;have H':=Ah H;clear H;have a2y:=sB.out;have a2z:=sC.out;obtain⟨Bp,Bq,Br,Bs⟩:=aT fi;obtain⟨Bt,Bu,Bv,Bw⟩:=aU fi
   go_wp2
   repeat(go_quiet (fail);try go_wp2)
   go_loopg [37] zA (fun kq v37 w'=>∃ (f9:Int),v37= .int .i64 f9∧Z (ec.l0 kq (U.length:Int) f9 U aA aD aE fR jS jT jU=some r)∧Z (kq≤zA)∧Z (w'.heap[HX]?=some (.cells #[(.slice cf U.length cA),.int .i64 aA,.int .i64 aD,.int .i64 aE] 25 (0,0)))∧Z (w'.heap[HY]?=some (.cells #[(.slice yq fR.length yr),.int .i64 jS,.int .i64 jT,.int .i64 jU] 25 (0,0)))∧Z (Below w.heap.size w w'))
   case atStart=>exact⟨(0),e3,H',⟨kV _⟩,⟨bk fi⟩,⟨bk jA⟩,⟨an HB jo pj⟩⟩
   case round=>
    clear H'
    try clear c1
    try clear c2
    try clear p2
    try clear c6
    try clear oT
    try clear N8
    try clear c7
    try clear kI
    try clear oE
    try clear c8
    try clear lQ
    try clear rQ
    try clear c9
    try clear c12
    try clear c15
    try clear c16
    try clear c18
    try clear c21
    try clear yy
    try clear CC CD CE CF
    try clear qL qM qN qO
    try clear xK xL xM xN
    try clear zn zo zp zq
    try clear mf mg mh mi
    try clear wu wv wx wy
    try clear qT qU qV qW
    try clear ou ov ow ox
    try clear Bp Bq Br Bs
    try clear CG CH CI CJ
    try clear qP qQ qR qS
    try clear xO xP xQ xR
    try clear zr zs zt zu
    try clear mj ml mm mo
    try clear wz x9 xA xB
    try clear qX qY qZ qa
    try clear oy oz p7 p8
    try clear Bt Bu Bv Bw
    try clear p2
    obtain⟨f9,rfl,HA,fp,fi,jA,HB⟩:=hrel
    cases gk with
    |zero=>exact absurd HA.out (by simp[ec.l0])
    |succ k2=>
     have H:=HA.out;clear HA;simp only[ec.l0]at H
     by_cases c24:f9<(U.length:Int)
     rotate_left
     ·
      rw[if_neg c24]at H;have S0:=ev c24;clear c24;obtain rfl:=qE H
      go_wp2
      repeat(go_quiet (fail);try go_wp2)
      go_ret
      exact⟨er,an HB jo pj⟩
     rw[if_pos c24]at H;have S0:=bV c24;clear c24
     by_cases mY:0≤f9
     rotate_left
     ·
      rw[if_neg mY]at H;exact absurd H (by simp)
     rw[if_pos mY]at H;have LK:=bV mY;clear mY
     by_cases iY:f9<(U.length:Int)
     rotate_left
     ·
      rw[if_neg iY]at H;exact absurd H (by simp)
     rw[if_pos iY]at H;have H3:=bV iY;clear iY
     by_cases IM:f9<(fR.length:Int)
     rotate_left
     ·
      rw[if_neg IM]at H;exact absurd H (by simp)
     rw[if_pos IM]at H;have c27b0:=bV IM;clear IM
     by_cases c28:(!(((J U f9).f0)==((J fR f9).f0))||(!(((J U f9).f1)==((J fR f9).f1))||(!((((J U f9).f2).toList)==(((J fR f9).f2).toList))||(!(((J U f9).f3)==((J fR f9).f3))))))=true
     ·
      rw[if_pos c28]at H;have a4Q:(!(((J U f9).f0)==((J fR f9).f0))||(!(((J U f9).f1)==((J fR f9).f1))||(!((((J U f9).f2).toList)==(((J fR f9).f2).toList))||(!(((J U f9).f3)==((J fR f9).f3))))))=true:=c28;clear c28;obtain rfl:=qE H;have hnb29:=sB.out;have hnc29:=sC.out;obtain⟨JZ,Ja,Jb,Jc⟩:=aT fi;obtain⟨Jd,Je,Jf,Jg⟩:=aU fi;have yt:0≤(f9:Int):=od;have yu:f9<(U.length:Int):=od;obtain⟨a4R,N9,CK,CL,CM,CN⟩:=fW fl.out f9 yt yu
      cases N9
      replace CK:=hq HB CK;replace CL:=hq HB CL;replace CM:=hq HB CM;replace CN:=hq HB CN;replace yt:=eq_true yt;replace yu:=eq_true yu;obtain⟨a0n,a0o,a0p,a0q⟩:=aT jA;obtain⟨a0r,a0s,a0t,a0u⟩:=aU jA;have yv:0≤(f9:Int):=od;have yw:f9<(fR.length:Int):=od;obtain⟨a4S,NA,CO,CP,CQ,CR⟩:=fW TQ.out f9 yv yw
      cases NA
      replace CO:=hq HB CO;replace CP:=hq HB CP;replace CQ:=hq HB CQ;replace CR:=hq HB CR;replace yv:=eq_true yv;replace yw:=eq_true yw
      go_wp2
      repeat(go_quiet (fail);try go_wp2)
      go_ret
      exact⟨er,an HB jo pj⟩
     rw[if_neg c28]at H
     have a4Q:(!(((J U f9).f0)==((J fR f9).f0))||(!(((J U f9).f1)==((J fR f9).f1))||(!((((J U f9).f2).toList)==(((J fR f9).f2).toList))||(!(((J U f9).f3)==((J fR f9).f3))))))=false:=by simpa using c28
     clear c28;have H':=Ah H;clear H;have RI:=sB.out;have RJ:=sC.out;obtain⟨JC,JD,JE,JF⟩:=aT fi;obtain⟨JG,JH,JI,JJ⟩:=aU fi;have yt:0≤(f9:Int):=od;have yu:f9<(U.length:Int):=od;obtain⟨a4R,N9,CK,CL,CM,CN⟩:=fW fl.out f9 yt yu
     cases N9
     replace CK:=hq HB CK;replace CL:=hq HB CL;replace CM:=hq HB CM;replace CN:=hq HB CN;replace yt:=eq_true yt;replace yu:=eq_true yu;obtain⟨Oi,Oj,Ol,Om⟩:=aT jA;obtain⟨On,Oo,Oq,Ot⟩:=aU jA;have yv:0≤(f9:Int):=od;have yw:f9<(fR.length:Int):=od;obtain⟨a4S,NA,CO,CP,CQ,CR⟩:=fW TQ.out f9 yv yw
     cases NA
     replace CO:=hq HB CO;replace CP:=hq HB CP;replace CQ:=hq HB CQ;replace CR:=hq HB CR;replace yv:=eq_true yv;replace yw:=eq_true yw
     go_wp2
     repeat(go_quiet (fail);try go_wp2)
     go_roundg k2
     case measure=>have:=HJ2.out;have:=fp.out;omega
     case rel=>exact⟨(F5 (f9+1)),e3,H',⟨by have:=HJ2.out;have:=fp.out;omega⟩,⟨bk fi⟩,⟨bk jA⟩,⟨an HB jo pj⟩⟩
end Go.Proofs.YtgpjnkahgofpmaaDoor.G
