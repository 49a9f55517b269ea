-- Printed by a program of this session (drive.py, by way of the kit's print). Not trusted: Lean checks it.
import Derived.Test.YtahnkgehlfdlkaaG0
import Derived.Test.YtahnkgehlfdlkaaG1
import Derived.Test.YtahnkgehlfdlkaaG3
import Derived.Test.YtahnkgehlfdlkaaG5
open Bool renaming eq_false_iff→Q3,not_false→aa6
open Go.Proofs.Try renaming prog→sX,underlying28→aab,underlying25→aah,underlying38→aap,underlying26→aaG,func14→aaK,underlying40→aaR,func74→abd,func25→abo,func63→abp,func13→abI,ntmps63→abT
open Go.RowKit renaming wrap64→Ee
open Go.RowKit.Below renaming refl→gR
open Go.World renaming block_lt_of_cell?→cB
open List renaming length_take→aN,length_drop→fM,setIfInBounds_toArray→g7,map_toArray→ib,map_cons→aac,set_cons_zero→aad,set_cons_succ→aae,map_nil→aai
open Nat renaming le_refl→eH,ne_of_lt→aaf,le_of_eq→aaq,le_trans→aax,ne_of_gt→aaD
open Option renaming bind_eq_some_iff→Hc,bind_some→N6
open Option.some renaming inj→Ok,injEq→SY
open Prod.mk renaming injEq→cM
namespace Go.Proofs.Ytahnkgehlfdlkaa.G
open Go.RowKit Go.Proofs.YtahnkgehlfdlkaaW.PrintWords Go.Proofs.YtahnkgehlfdlkaaW.PrintLast Go.Proofs.YtahnkgehlfdlkaaW.PrintMore
attribute [local go_sem] xN xO xT xU xA xB xP xQ
set_option maxHeartbeats 8000000
set_option maxRecDepth 100000
set_option linter.unusedVariables false
set_option linter.unusedSimpArgs false
attribute [local go_sem high] QZ
def fi.j0:Nat→Int→List (ga)→List Int→Int→Int→Option (Int×(List (X))×(List (X))×Int×(List (aV))×Int×Int)
 |0,_,_,_,_,_=>none
 |k+1,x3,x4,x1000,BQ,BR=>(eJ.f k x3 x4).bind fun qL=>((fR.f x1000 BQ BR 40).bind fun BW=>(if BW.1=0 then((fR.f x1000 BW.2.1 BW.2.2 3).bind fun Wv=>(some (qL.1,qL.2.1,qL.2.2.1,Ee (qL.2.2.2.1+(Ee (Wv.1-1))),qL.2.2.2.2.1,Wv.2.1,Wv.2.2)))else(if BW.1=1 then((fR.f x1000 BW.2.1 BW.2.2 4).bind fun Ww=>((fR.f x1000 Ww.2.1 Ww.2.2 4).bind fun Wx=>((fR.f x1000 Wx.2.1 Wx.2.2 3).bind fun Wy=>(if qL.2.2.2.2.1.length<3518437208883 then(some (qL.1,qL.2.1,qL.2.2.1,qL.2.2.2.1,(qL.2.2.2.2.1++[(⟨Ww.1,Wx.1,(⟨0,0⟩:X),Wy.1⟩:aV)]),Wy.2.1,Wy.2.2))else(none)))))else(some (qL.1,qL.2.1,qL.2.2.1,qL.2.2.2.1,qL.2.2.2.2.1,BW.2.1,BW.2.2)))))
def fi.f(k:Nat)(aq:List Int)(dA:Int)(eR:Int):Option (Int×(List (X))×(List (X))×Int×(List (aV))×Int×Int):=(fR.f aq dA eR 60).bind fun vY=>((eS.f k aq vY.2.1 vY.2.2 (Ee (5+vY.1))).bind fun ph=>(if(ph.1.length:Int)>120 then(if 60≤(ph.1.length:Int)then(fi.j0 k (Ee (5+vY.1)) (ph.1.take (60:Int).toNat) aq ph.2.1 ph.2.2)else(none))else(fi.j0 k (Ee (5+vY.1)) ph.1 aq ph.2.1 ph.2.2)))
theorem fi.dh:∀k,(∀y0 y1 y2 y3 y4,aG (fi.j0 k y0 y1 y2 y3 y4) (fi.j0 (k+1) y0 y1 y2 y3 y4))
 |0=>fun _ _ _ _ _ r h=>by simp[fi.j0]at h
 |k+1=>by
  have bz:=fi.dh k
  ·
   intro y0 y1 y2 y3 y4;unfold fi.j0
   repeat' with_reducible first|exact bz _ _ _ _ _|exact eJ.mono _ _ _|exact eS.mono _ _ _ _ _|exact aG.refl _|exact aG.none _|refine aG.ite ?_ ?_|refine aG.bind ?_ (fun _=> ?_)
theorem fi.mono:∀a0 a1 a2 k,aG (fi.f k a0 a1 a2) (fi.f (k+1) a0 a1 a2):=by
 intro a0 a1 a2 k;have bz:=fi.dh k;unfold fi.f
 repeat' with_reducible first|exact bz _ _ _ _ _|exact eJ.mono _ _ _|exact eS.mono _ _ _ _ _|exact aG.refl _|exact aG.none _|refine aG.ite ?_ ?_|refine aG.bind ?_ (fun _=> ?_)
def fi.T8:Bool×List (List Nat×List Nat):=(true,[([],[]),([0],[0]),([],[]),([2],[2]),([3],[3]),([1,4],[1,4]),([0,1,2,3,4,5],[]),([6,5,3,0,1,2,3,4,5],[5,6])])
def fi.B8:List Nat:=[0,1,0,4,12,31,63,127]
theorem fi.MM:j7 .any (vO Try.f12 8)=fi.T8:=by kernel_rfl
theorem fi.Ki:qD fi.T8.2 fi.B8=true:=by kernel_rfl
def fi.T10:Bool×List (List Nat×List Nat):=(true,[([],[]),([0],[0]),([],[]),([2],[2]),([],[]),([4,3],[4]),([],[]),([6,5],[6]),([3,5,7],[3,5,7]),([8],[8]),([1,9,7],[1,9]),([0,1,2,3,4,5,6,7,8,9,10],[]),([11,10,10,0,1,2,3,4,5,6,7,8,9,10],[10,11])])
def fi.B10:List Nat:=[0,1,0,4,0,28,0,124,252,508,1023,2047,4095]
theorem fi.tab10:j7 .any (vO Try.f12 10)=fi.T10:=by kernel_rfl
theorem fi.bits10:qD fi.T10.2 fi.B10=true:=by kernel_rfl
theorem fi.calls(k:Nat)(g:Nat)(aq:List Int)(dA:Int)(eR:Int)(r1:Int)(r2:List (X))(r3:List (X))(r4:Int)(r5:List (aV))(r6:Int)(r7:Int)(w0 w:World)(hI:Z w0 w g aq dA eR)(hB:Below w0.heap.size w0 w)(h:fi.f k aq dA eR=some (r1,r2,r3,r4,r5,r6,r7)):
 Calls Try.prog 12 #[.pointer (some ⟨g,0,none⟩)] w fun e w'=>∃et eZ lm:Value,e= .returned (.agg #[.int .i64 r1,et,eZ,.int .i64 r4,lm])∧Kd.R ag 38 w' w.heap.size (fun k_=>some k_≠(eZ:Value).ownBlock) et r2∧Kd.R ag 38 w' w.heap.size (fun k_=>some k_≠(et:Value).ownBlock) eZ r3∧Kd.R cV 40 w' w.heap.size (fun _=>True) lm r5∧Z w0 w' g aq r6 r7∧Below w0.heap.size w0 w'∧bK w w' g none:=by
 have uP:=aab;have vt:=aaR;have HI0:=Ah hI;have HK:=Ah (bK.refl w g none);have HL:=Ah hB.size;clear hI;have HW0:=Ah hB.size;have HB:=Ah hB;clear hB;have H:((fR.f aq dA eR 60).bind fun vY=>((eS.f k aq vY.2.1 vY.2.2 (Ee (5+vY.1))).bind fun ph=>(if(ph.1.length:Int)>120 then(if 60≤(ph.1.length:Int)then(fi.j0 k (Ee (5+vY.1)) (ph.1.take (60:Int).toNat) aq ph.2.1 ph.2.2)else(none))else(fi.j0 k (Ee (5+vY.1)) ph.1 aq ph.2.1 ph.2.2))))=some (r1,r2,r3,r4,r5,r6,r7):=h;clear h;replace H:=Hc.mp H;obtain⟨⟨wM,t479,t480⟩,kR,H⟩:=H
 try dsimp only at H
 have A2:=Ah kR;clear kR;replace H:=Hc.mp H;obtain⟨⟨zw,lN,lO⟩,dz,H⟩:=H
 try dsimp only at H
 have A3:=Ah dz;clear dz;have rW:=Ah H;clear H
 go_enter Try.func12,Try.ntmps12
 go_upto_if 16 with(first|((with_reducible refine am (N:=2) rfl ?_);refine ar 2 28 #[.int .i64 0,.slice none 0 0,.slice none 0 0,.int .i64 0,.slice none 0 0] ?_;intro eX hg w5 eG hb;replace HB:=Ah (aK (bs HB) hb);have iA:=Ah ((by rw[hg];exact(lG (w:=w) (g:=g) (row:=none) (jl HK)):w.heap.size≤eX));have nP:=Ah ((aax HW0.out (by rw[hg];exact(lG (w:=w) (g:=g) (row:=none) (jl HK)):w.heap.size≤eX):w0.heap.size≤eX));replace HK:=Ah (bK.trans (jl HK) (bK.of_below hb g none) (.inl rfl));have eK:=Ah ((by rw[hg];exact aaf (Z.lt (show Z w0 _ g aq dA eR from Z.i6 HI0)):g≠eX));have tx:=Ah ((by rw[hg];exact aaD (Z.lt (show Z w0 _ g aq dA eR from Z.i6 HI0)):eX≠g));replace HI0:=Ah (Z.below (Z.i6 HI0) hb);clear hb hg)|((with_reducible refine bN (f:=14) rfl ?_);refine gL (some 9) rfl rfl aaK (by kernel_rfl) rfl #[.pointer (some ⟨g,0,none⟩),.int .i64 60] rfl ?_;(with_reducible refine(fR.calls g aq dA eR 60 wM t479 t480 w0 _ ?aJ ?aM A2.out).mono ?_);(case aJ=>exact Z.iS HI0 eK);(case aM=>exact aQ HB nP);rintro e w6 ⟨rfl,hi,hb,hk⟩;refine⟨_,rfl, ?_⟩;replace eG:=Ah (bK.blk hk (g':=eX) (o:= .cells #[.int .i64 0,.slice none 0 0,.slice none 0 0,.int .i64 0,.slice none 0 0] 28 (0,0)) (bk eG) tx.out (by simp));replace HK:=Ah (bK.trans (gy HK iA) hk (.inl rfl));replace HB:=Ah (hb);replace HI0:=Ah (hi);(try clear hb hk hi))|((with_reducible refine bN (f:=27) rfl ?_);refine gL (some 13) rfl rfl Try.func27 (by kernel_rfl) rfl #[.pointer (some ⟨g,0,none⟩),.int .i64 (Ee (5+wM))] rfl ?_;(with_reducible refine(eS.calls k g aq t479 t480 (Ee (5+wM)) zw lN lO w0 _ ?aJ ?aM A3.out).mono ?_);(case aJ=>exact Z.iS HI0 eK);(case aM=>exact aQ HB nP);rintro e w7 ⟨v482,rfl,ho0,hi,hb,hk⟩;refine⟨_,rfl, ?_⟩;replace eG:=Ah (bK.blk hk (g':=eX) (o:= .cells #[.int .i64 0,.slice none 0 0,.slice none 0 0,.int .i64 0,.slice none 0 0] 28 (0,0)) (bk eG) tx.out (by simp));have Kj:=Ah (Kd.bq ho0 (lG (w:=w) (g:=g) (row:=none) (gy HK iA)));replace HK:=Ah (bK.trans (gy HK iA) hk (.inl rfl));replace HB:=Ah (hb);replace HI0:=Ah (hi);(try clear hb hk hi ho0);obtain⟨tY,tZ,Nd⟩:=Kd.ax Kj.out;subst Nd))
 (try simp only[Act.put,g7,aad,aae])
 go_cut [4] (fun v4 wc=>∃ (kq:Nat) (zx:List (ga)),Y (fi.j0 kq (Ee (5+wM)) zx aq lN lO=some (r1,r2,r3,r4,r5,r6,r7))∧Y (kq≤k)∧Y (Kd.R sS 82 wc w.heap.size (fun _=>True) v4 zx)∧Y (wc.heap[eX]?=some (.cells #[.int .i64 0,(.slice none 0 0),(.slice none 0 0),.int .i64 0,(.slice none 0 0)] 28 (0,0)))∧Y (Z w0 wc g aq lN lO)∧Y (bK w wc g none)∧Y (Below w0.heap.size w0 wc))
 case first=>
  have H:=rW.out;clear rW
  by_cases c9:(zw.length:Int)>120
  rotate_left
  ·
   rw[if_neg c9]at H;have pO:=f7 c9;have RU:decide (120<zw.length)=false:=decide_eq_false (by omega);clear c9;(first|rw[pO]|(simp only[lr,nu];rw[pO])|(simp only[c9b2,aa6,Bool.not_true])|skip);have H':=Ah H;clear H
   go_wp2
   go_meet
   case rel=>exact⟨_,(zw),H',⟨by first|omega|exact eH _⟩,⟨rr Kj.out⟩,⟨bk eG⟩,⟨Z.iS HI0 eK⟩,⟨gy HK iA⟩,⟨aQ HB nP⟩⟩
  rw[if_pos c9]at H;have pO:=bS c9;have RU:decide (120<zw.length)=true:=decide_eq_true (by omega);clear c9;(first|rw[pO]|(simp only[lr,nu];rw[pO])|(simp only[c9b2,aa6,Bool.not_true])|skip)
  by_cases c10:60≤(zw.length:Int)
  rotate_left
  ·
   rw[if_neg c10]at H;exact absurd H (by simp)
  rw[if_pos c10]at H;have zV:=eq_true c10;have c10b1:=bS c10;clear c10;obtain⟨Ya,Kk⟩:∃y_:List (ga),y_=(zw.take (60:Int).toNat):=⟨_,rfl⟩
  replace H:(fi.j0 k (Ee (5+wM)) Ya aq lN lO)=some (r1,r2,r3,r4,r5,r6,r7):=by first|(rw[Kk];with_reducible exact H)|(have ai:=(N6 _ _).symm.trans H;rw[Kk];with_reducible exact ai)|(have ai:=(N6 _ _).symm.trans H;with_reducible exact ai)|with_reducible exact H|(rw[Kk];exact H)|exact H
  have Ny486:=Ah Kk;clear Kk;have H':=Ah H;clear H;have CR:(60:Int)≤((zw.length:Int):Int):=od;obtain⟨i011,hi011,_,hsz11,_⟩:=info_parts Vl;have hcut11:=Fu (P:=sX) 65 82 .i64 Try.underlying65 hi011 tY zw.length tZ 60 (by omega) CR (Kd.ab Kj.out).2.1;have Rq:=Kd.R_take (m:=(60:Int).toNat) Kj.out (by omega);have hy11:Ya.length=(60:Int).toNat:=(by rw[Ny486.out,aN];omega);rw[←Ny486.out]at Rq;rw[←hy11]at Rq hcut11;clear hy11 hi011 hsz11 Kj;have HO488:=Ah Rq;clear Rq;replace CR:=eq_true CR
  go_wp2
  go_meet
  case rel=>exact⟨_,(Ya),H',⟨by first|omega|exact eH _⟩,⟨rr HO488.out⟩,⟨bk eG⟩,⟨Z.iS HI0 eK⟩,⟨gy HK iA⟩,⟨aQ HB nP⟩⟩
 case rest=>
  clear rW
  try clear c1
  try clear q1
  try clear c2
  try clear p2
  try clear p6
  try clear c9
  try clear pO
  try clear RU
  try clear c10
  try clear zV
  try clear c10b1
  try clear CR
  try clear CR
  obtain⟨kq,zx,HA,mX,g6,eG,HI0,HK,HB⟩:=hcut
  cases kq with
  |zero=>exact absurd HA.out (by simp[fi.j0])
  |succ wn=>
   have H:=HA.out;clear HA;simp only[fi.j0]at H;replace H:=Hc.mp H;obtain⟨⟨mE,mF,mG,l4,mH,Yb,Yc⟩,MF,H⟩:=H
   try dsimp only at H
   have Na:=Ah MF;clear MF;replace H:=Hc.mp H;obtain⟨⟨MN,rI,rJ⟩,Bx,H⟩:=H
   try dsimp only at H
   have wk:=Ah Bx;clear Bx
   by_cases c14:MN=0
   ·
    rw[if_pos c14]at H;have Qn:=jm c14;have c14b1:=jn c14;clear c14;replace H:=Hc.mp H;obtain⟨⟨C2,t509,t510⟩,yI,H⟩:=H
    try dsimp only at H
    have Zu:=Ah yI;clear yI;simp only[SY,cM]at H;obtain⟨rfl,rfl,rfl,rfl,rfl,rfl,rfl⟩:=H;obtain⟨zu,zv,YZ⟩:=Kd.ax g6.out;subst YZ
    try go_wp2_with (first|((with_reducible refine bN (f:=28) rfl ?_);refine gL (some 22) rfl rfl Try.func28 (by kernel_rfl) rfl #[.int .i64 (Ee (5+wM)),.slice zu zx.length zv] rfl ?_;(with_reducible refine(eJ.calls wn (Ee (5+wM)) _ _ zx mE mF mG l4 mH Yb Yc _ ?aJ ?aM Na.out).mono ?_);(case aJ=>exact df g6);(case aM=>exact(Kd.ab g6.out).2.1);rintro e Ek ⟨v491,v494,v498,v501,rfl,ho0,ho1,ho2,ho3,hb⟩;refine⟨_,rfl, ?_⟩;replace g6:=nr g6 hb;have iv:=Ah (Kd.bq ho0 (lG (w:=w) (g:=g) (row:=none) (gy HK iA)));have iw:=Ah (Kd.bq ho1 (lG (w:=w) (g:=g) (row:=none) (gy HK iA)));have hJ:=Ah (Kd.bq ho2 (lG (w:=w) (g:=g) (row:=none) (gy HK iA)));have kW:=Ah (Kd.bq ho3 (lG (w:=w) (g:=g) (row:=none) (gy HK iA)));replace eG:=nb eG hb;replace HK:=Ah (bK.trans (gy HK iA) (bK.of_below hb g none) (.inl rfl));replace HB:=Ah (aK (aQ HB nP) hb);replace HI0:=Ah (Z.below (Z.iS HI0 eK) hb);(try clear hb ho0 ho1 ho2 ho3))|((with_reducible refine am (N:=5) rfl ?_);refine ar 5 28 #[.int .i64 0,.slice none 0 0,.slice none 0 0,.int .i64 0,.slice none 0 0] ?_;intro i1 hg SP cG hb;replace g6:=nr g6 hb;replace iv:=nr iv hb;replace iw:=nr iw hb;replace hJ:=nr hJ hb;replace kW:=nr kW hb;replace HB:=Ah (aK (aQ HB nP) hb);have sE:=Ah ((by rw[hg];exact(lG (w:=w) (g:=g) (row:=none) (gy HK iA)):w.heap.size≤i1));have tA:=Ah ((aax HW0.out (by rw[hg];exact(lG (w:=w) (g:=g) (row:=none) (gy HK iA)):w.heap.size≤i1):w0.heap.size≤i1));replace HK:=Ah (bK.trans (gy HK iA) (bK.of_below hb g none) (.inl rfl));have th:=nn eG hg;have Cr:=nm eG hg;replace eG:=nb eG hb;have fk:=Ah ((by rw[hg];exact aaf (Z.lt (show Z w0 _ g aq lN lO from Z.iS HI0 eK)):g≠i1));have tz:=Ah ((by rw[hg];exact aaD (Z.lt (show Z w0 _ g aq lN lO from Z.iS HI0 eK)):i1≠g));replace HI0:=Ah (Z.below (Z.iS HI0 eK) hb);clear hb hg;have Js:=Cr.out;have Jt:=th.out;have hnb20:=tz.out;have hnc20:=fk.out;obtain⟨OY,OZ,U1,hcz21_3,hcz21_4⟩:=ah cG;obtain⟨Oa,Ob,U2,hfz21_3,hfz21_4⟩:=af cG;obtain⟨uQ,mD,Gp⟩:=Kd.ax iv.out;subst Gp;obtain⟨wN,wO,Yd⟩:=Kd.ax iw.out;subst Yd;obtain⟨wP,wQ,Ye⟩:=Kd.ax hJ.out;subst Ye)|((with_reducible refine bN (f:=14) rfl ?_);refine gL (some 27) rfl rfl aaK (by kernel_rfl) rfl #[.pointer (some ⟨g,0,none⟩),.int .i64 40] rfl ?_;(with_reducible refine(fR.calls g aq lN lO 40 MN rI rJ w0 _ ?aJ ?aM wk.out).mono ?_);(case aJ=>exact Z.dB HI0 eK fk);(case aM=>exact aa HB nP tA);rintro e n4 ⟨rfl,hi,hb,hk⟩;refine⟨_,rfl, ?_⟩;replace g6:=Ah (Kd.aE (Kd.dK (Z.apart (show Z w0 _ g aq lN lO from Z.dB HI0 eK fk) (rf g6 cG) (by decide)) hk (fun _ h=>h.2)) (fun _ h=>h.1));replace eG:=Ah (bK.blk hk (g':=eX) (o:= .cells #[.int .i64 0,.slice none 0 0,.slice none 0 0,.int .i64 0,.slice none 0 0] 28 (0,0)) (bf eG th) tx.out (by simp));replace iv:=Ah (Kd.aE (Kd.dK (Z.apart (show Z w0 _ g aq lN lO from Z.dB HI0 eK fk) (rf iv cG) (by decide)) hk (fun _ h=>h.2)) (fun _ h=>h.1));replace iw:=Ah (Kd.aE (Kd.dK (Z.apart (show Z w0 _ g aq lN lO from Z.dB HI0 eK fk) (rf iw cG) (by decide)) hk (fun _ h=>h.2)) (fun _ h=>h.1));replace hJ:=Ah (Kd.aE (Kd.dK (Z.apart (show Z w0 _ g aq lN lO from Z.dB HI0 eK fk) (rf hJ cG) (by decide)) hk (fun _ h=>h.2)) (fun _ h=>h.1));replace kW:=Ah (Kd.aE (Kd.dK (Z.apart (show Z w0 _ g aq lN lO from Z.dB HI0 eK fk) (rf kW cG) (by decide)) hk (fun _ h=>h.2)) (fun _ h=>h.1));replace cG:=Ah (bK.blk hk (g':=i1) (o:= .cells #[.int .i64 mE,.slice uQ mF.length mD,.slice wN mG.length wO,.int .i64 l4,.slice wP mH.length wQ] 28 (0,0)) (pb cG) tz.out (by simp));replace HK:=Ah (bK.trans (uX HK iA sE) hk (.inl rfl));replace HB:=Ah (hb);replace HI0:=Ah (hi);(try clear hb hk hi)))
    replace g6:=Ah (Kd.aY g6.out);replace iv:=Ah (Kd.aY iv.out);replace iw:=Ah (Kd.aY iw.out);replace hJ:=Ah (Kd.aY hJ.out);replace kW:=Ah (Kd.aY kW.out);replace eG:=Ah (bL eG.out);replace cG:=Ah (bL cG.out);replace HI0:=Ah (Z.drew HI0.out);replace HK:=Ah (Eu HK.out);replace HB:=Ah (ln HB.out);refine nB (n:=8) (S:=fun w'=>w'.cell? ⟨i1,0,none⟩=some (.int .i64 mE)∧w'.cell? ⟨i1,1,none⟩=some (.slice uQ mF.length mD)∧w'.cell? ⟨i1,2,none⟩=some (.slice wN mG.length wO)∧w'.cell? ⟨i1,3,none⟩=some (.int .i64 l4)∧w'.cell? ⟨i1,4,none⟩=some (.slice wP mH.length wQ)) (ds:=[7]) #[false,false,false,false,false,false,false,false] (by kernel_rfl) rfl rfl ⟨(aI cG.out 0).trans rfl,(aI cG.out 1).trans rfl,(aI cG.out 2).trans rfl,(aI cG.out 3).trans rfl,(aI cG.out 4).trans rfl⟩ (fun hHeld=> ?_);refine nK fi.MM fi.Ki (fun aD dL=> ?_)
    generalize n4.drew=Cb at g6 iv iw hJ kW eG cG HI0 HK HB hHeld⊢
    refine ap 0 30 aD.out ?_;refine ap 2 32 aD.out ?_;refine f4 1 31 aD.out dL.out hHeld (hr:=by rintro w' ⟨s0,s1,s2,s3,s4⟩;go_simp;with_reducible rfl) (h:= ?_);refine i3 (i:=3) (N:=some 33) #[true,true,true,true,false,false,false,false] rfl rfl (hG aD.out (by kernel_rfl)) (by decide) (fun K hK=> ?_);refine ir aaK (by kernel_rfl) rfl #[.pointer (some ⟨g,0,none⟩),.int .i64 3] (by rfl) rfl rfl (by(try simp only[ib,aac,aai]);first|done|rfl|(simp only[fM,aN];rfl)) ?_
    with_reducible refine(fR.calls g aq rI rJ 3 C2 t509 t510 w0 _ ?aJ ?aM Zu.out).mono ?_
    (case aJ=>exact Z.dB HI0 eK fk);(case aM=>exact aa HB nP tA);rintro e yW ⟨rfl,hi,hb,hk⟩;refine⟨_,rfl, ?_⟩;replace g6:=Ah (Kd.aE (Kd.dK (Z.apart (show Z w0 _ g aq rI rJ from Z.dB HI0 eK fk) (rr g6.out) (by decide)) hk (fun _ h=>h.2)) (fun _ h=>h.1));replace eG:=Ah (bK.blk hk (g':=eX) (o:= .cells #[.int .i64 0,.slice none 0 0,.slice none 0 0,.int .i64 0,.slice none 0 0] 28 (0,0)) (bk eG) tx.out (by simp));replace iv:=Ah (Kd.aE (Kd.dK (Z.apart (show Z w0 _ g aq rI rJ from Z.dB HI0 eK fk) (rr iv.out) (by decide)) hk (fun _ h=>h.2)) (fun _ h=>h.1));replace iw:=Ah (Kd.aE (Kd.dK (Z.apart (show Z w0 _ g aq rI rJ from Z.dB HI0 eK fk) (rr iw.out) (by decide)) hk (fun _ h=>h.2)) (fun _ h=>h.1));replace hJ:=Ah (Kd.aE (Kd.dK (Z.apart (show Z w0 _ g aq rI rJ from Z.dB HI0 eK fk) (rr hJ.out) (by decide)) hk (fun _ h=>h.2)) (fun _ h=>h.1));replace kW:=Ah (Kd.aE (Kd.dK (Z.apart (show Z w0 _ g aq rI rJ from Z.dB HI0 eK fk) (rr kW.out) (by decide)) hk (fun _ h=>h.2)) (fun _ h=>h.1));replace cG:=Ah (bK.blk hk (g':=i1) (o:= .cells #[.int .i64 mE,.slice uQ mF.length mD,.slice wN mG.length wO,.int .i64 l4,.slice wP mH.length wQ] 28 (0,0)) (bk cG) tz.out (by simp));replace HK:=Ah (bK.trans (uX HK iA sE) hk (.inl rfl));replace HB:=Ah (hb);replace HI0:=Ah (hi);(try clear hb);(try clear hb2);(try clear hk);(try clear hi);refine hK.out _ _ ⟨(aI cG.out 0).trans rfl,(aI cG.out 1).trans rfl,(aI cG.out 2).trans rfl,(aI cG.out 3).trans rfl,(aI cG.out 4).trans rfl⟩ (fun hHeld=> ?_);clear hK K;refine nq 33 ?_;refine ap 4 34 aD.out ?_;refine ap 5 35 aD.out ?_;refine ap 6 36 aD.out ?_;refine last_ (i:=7) (N:=none) #[true,true,true,true,true,true,true,true] rfl rfl (hG aD.out (by kernel_rfl)) (by decide) (fun K hK=> ?_);have hs28:yW.cell? ⟨i1,3,none⟩=some (.int .i64 l4):=(aI cG.out 3).trans rfl;have hfs28:=gT cG.out 3;have hns28_0:=th.out;have hms28_0:=Cr.out;refine G8 (w1:= ?_) (by rfl) rfl ?_ ?_;rotate_left
    ·
     go_simp
     rfl
    refine hK.out _ _ ?_;clear hK K;refine m5 (mO aD.out (by kernel_rfl)) ?_;obtain⟨V0,V1,V2,V3,V4⟩:=ah cG;obtain⟨V5,V6,V7,V8,V9⟩:=af cG;have hnb30:=tx.out;have hnc30:=eK.out;obtain⟨hcz31_0,hcz31_1,hcz31_2,hcz31_3,hcz31_4⟩:=ah eG;obtain⟨hfz31_0,hfz31_1,hfz31_2,hfz31_3,hfz31_4⟩:=af eG
    try go_wp2
    refine bodyPost_ret (results_cell_row rfl _ _ eX 28 #[.int .i64 mE,.slice uQ mF.length mD,.slice wN mG.length wO,.int .i64 (Ee (l4+(Ee (C2-1)))),.slice wP mH.length wQ] (0,0) _ rfl (AD eG th) aab rfl (by kernel_rfl)) rfl ?_;exact⟨_,_,_,er,by(with_reducible repeat(first|apply Kd.al|apply Kd.ak|apply Kd.aY));exact Kd.aE (Kd.I (p:=⟨eX,4,none⟩) (Kd.I (p:=⟨eX,3,none⟩) (Kd.I (p:=⟨eX,2,none⟩) (Kd.I (p:=⟨eX,1,none⟩) (Kd.I (p:=⟨eX,0,none⟩) (Kd.I (p:=⟨i1,3,none⟩) (Kd.ao (Kd.ao iv.out cG.out (by decide)) eG.out (by decide)) (fun _ hk=>hk.1.2) (.int .i64 (Ee (l4+(Ee (C2-1)))))) (fun _ hk=>hk.2) (.int .i64 mE)) (fun _ hk=>hk.2) (.slice uQ mF.length mD)) (fun _ hk=>hk.2) (.slice wN mG.length wO)) (fun _ hk=>hk.2) (.int .i64 (Ee (l4+(Ee (C2-1)))))) (fun _ hk=>hk.2) (.slice wP mH.length wQ)) (fun _ hk=>hk.1.1),by(with_reducible repeat(first|apply Kd.al|apply Kd.ak|apply Kd.aY));exact Kd.aE (Kd.I (p:=⟨eX,4,none⟩) (Kd.I (p:=⟨eX,3,none⟩) (Kd.I (p:=⟨eX,2,none⟩) (Kd.I (p:=⟨eX,1,none⟩) (Kd.I (p:=⟨eX,0,none⟩) (Kd.I (p:=⟨i1,3,none⟩) (Kd.ao (Kd.ao iw.out cG.out (by decide)) eG.out (by decide)) (fun _ hk=>hk.1.2) (.int .i64 (Ee (l4+(Ee (C2-1)))))) (fun _ hk=>hk.2) (.int .i64 mE)) (fun _ hk=>hk.2) (.slice uQ mF.length mD)) (fun _ hk=>hk.2) (.slice wN mG.length wO)) (fun _ hk=>hk.2) (.int .i64 (Ee (l4+(Ee (C2-1)))))) (fun _ hk=>hk.2) (.slice wP mH.length wQ)) (fun _ hk=>hk.1.1),by(with_reducible repeat(first|apply Kd.al|apply Kd.ak|apply Kd.aY));exact Kd.aE (Kd.I (p:=⟨eX,4,none⟩) (Kd.I (p:=⟨eX,3,none⟩) (Kd.I (p:=⟨eX,2,none⟩) (Kd.I (p:=⟨eX,1,none⟩) (Kd.I (p:=⟨eX,0,none⟩) (Kd.I (p:=⟨i1,3,none⟩) (Kd.ao (Kd.ao hJ.out cG.out (by decide)) eG.out (by decide)) (fun _ hk=>hk.1.2) (.int .i64 (Ee (l4+(Ee (C2-1)))))) (fun _ hk=>hk.2) (.int .i64 mE)) (fun _ hk=>hk.2) (.slice uQ mF.length mD)) (fun _ hk=>hk.2) (.slice wN mG.length wO)) (fun _ hk=>hk.2) (.int .i64 (Ee (l4+(Ee (C2-1)))))) (fun _ hk=>hk.2) (.slice wP mH.length wQ)) (fun _ hk=>trivial),Z.dB HI0 eK fk,aa HB nP tA,uX HK iA sE⟩
   rw[if_neg c14]at H;have Qn:=jI c14;have c14b1:=jJ c14
   by_cases c32:MN=1
   rotate_left
   ·
    rw[if_neg c32]at H;have Qq:=jI c32;have c32b1:=jJ c32;simp only[SY,cM]at H;obtain⟨rfl,rfl,rfl,rfl,rfl,rfl,rfl⟩:=H;obtain⟨Dv,zr,MB⟩:=Kd.ax g6.out;subst MB
    go_wp2_with (first|((with_reducible refine bN (f:=28) rfl ?_);refine gL (some 22) rfl rfl Try.func28 (by kernel_rfl) rfl #[.int .i64 (Ee (5+wM)),.slice Dv zx.length zr] rfl ?_;(with_reducible refine(eJ.calls wn (Ee (5+wM)) _ _ zx mE mF mG l4 mH Yb Yc _ ?aJ ?aM Na.out).mono ?_);(case aJ=>exact df g6);(case aM=>exact(Kd.ab g6.out).2.1);rintro e w58 ⟨v491,v494,v498,v501,rfl,ho0,ho1,ho2,ho3,hb⟩;refine⟨_,rfl, ?_⟩;replace g6:=nr g6 hb;have iv:=Ah (Kd.bq ho0 (lG (w:=w) (g:=g) (row:=none) (gy HK iA)));have iw:=Ah (Kd.bq ho1 (lG (w:=w) (g:=g) (row:=none) (gy HK iA)));have hJ:=Ah (Kd.bq ho2 (lG (w:=w) (g:=g) (row:=none) (gy HK iA)));have kW:=Ah (Kd.bq ho3 (lG (w:=w) (g:=g) (row:=none) (gy HK iA)));replace eG:=nb eG hb;replace HK:=Ah (bK.trans (gy HK iA) (bK.of_below hb g none) (.inl rfl));replace HB:=Ah (aK (aQ HB nP) hb);replace HI0:=Ah (Z.below (Z.iS HI0 eK) hb);(try clear hb ho0 ho1 ho2 ho3))|((with_reducible refine am (N:=5) rfl ?_);refine ar 5 28 #[.int .i64 0,.slice none 0 0,.slice none 0 0,.int .i64 0,.slice none 0 0] ?_;intro i1 hg w59 cG hb;replace g6:=nr g6 hb;replace iv:=nr iv hb;replace iw:=nr iw hb;replace hJ:=nr hJ hb;replace kW:=nr kW hb;replace HB:=Ah (aK (aQ HB nP) hb);have sE:=Ah ((by rw[hg];exact(lG (w:=w) (g:=g) (row:=none) (gy HK iA)):w.heap.size≤i1));have tA:=Ah ((aax HW0.out (by rw[hg];exact(lG (w:=w) (g:=g) (row:=none) (gy HK iA)):w.heap.size≤i1):w0.heap.size≤i1));replace HK:=Ah (bK.trans (gy HK iA) (bK.of_below hb g none) (.inl rfl));have th:=nn eG hg;have Cr:=nm eG hg;replace eG:=nb eG hb;have fk:=Ah ((by rw[hg];exact aaf (Z.lt (show Z w0 _ g aq lN lO from Z.iS HI0 eK)):g≠i1));have tz:=Ah ((by rw[hg];exact aaD (Z.lt (show Z w0 _ g aq lN lO from Z.iS HI0 eK)):i1≠g));replace HI0:=Ah (Z.below (Z.iS HI0 eK) hb);clear hb hg;have hnb60:=Cr.out;have hnc60:=th.out;have hnb61:=tz.out;have hnc61:=fk.out;obtain⟨hcz62_0,hcz62_1,hcz62_2,hcz62_3,hcz62_4⟩:=ah cG;obtain⟨hfz62_0,hfz62_1,hfz62_2,hfz62_3,hfz62_4⟩:=af cG;obtain⟨C3,C4,Yf⟩:=Kd.ax iv.out;subst Yf;obtain⟨H3,H4,Yg⟩:=Kd.ax iw.out;subst Yg;obtain⟨MO,MP,eo65⟩:=Kd.ax hJ.out;subst eo65)|((with_reducible refine bN (f:=14) rfl ?_);refine gL (some 27) rfl rfl aaK (by kernel_rfl) rfl #[.pointer (some ⟨g,0,none⟩),.int .i64 40] rfl ?_;(with_reducible refine(fR.calls g aq lN lO 40 MN rI rJ w0 _ ?aJ ?aM wk.out).mono ?_);(case aJ=>exact Z.dB HI0 eK fk);(case aM=>exact aa HB nP tA);rintro e w66 ⟨rfl,hi,hb,hk⟩;refine⟨_,rfl, ?_⟩;replace g6:=Ah (Kd.aE (Kd.dK (Z.apart (show Z w0 _ g aq lN lO from Z.dB HI0 eK fk) (rf g6 cG) (by decide)) hk (fun _ h=>h.2)) (fun _ h=>h.1));replace eG:=Ah (bK.blk hk (g':=eX) (o:= .cells #[.int .i64 0,.slice none 0 0,.slice none 0 0,.int .i64 0,.slice none 0 0] 28 (0,0)) (bf eG th) tx.out (by simp));replace iv:=Ah (Kd.aE (Kd.dK (Z.apart (show Z w0 _ g aq lN lO from Z.dB HI0 eK fk) (rf iv cG) (by decide)) hk (fun _ h=>h.2)) (fun _ h=>h.1));replace iw:=Ah (Kd.aE (Kd.dK (Z.apart (show Z w0 _ g aq lN lO from Z.dB HI0 eK fk) (rf iw cG) (by decide)) hk (fun _ h=>h.2)) (fun _ h=>h.1));replace hJ:=Ah (Kd.aE (Kd.dK (Z.apart (show Z w0 _ g aq lN lO from Z.dB HI0 eK fk) (rf hJ cG) (by decide)) hk (fun _ h=>h.2)) (fun _ h=>h.1));replace kW:=Ah (Kd.aE (Kd.dK (Z.apart (show Z w0 _ g aq lN lO from Z.dB HI0 eK fk) (rf kW cG) (by decide)) hk (fun _ h=>h.2)) (fun _ h=>h.1));replace cG:=Ah (bK.blk hk (g':=i1) (o:= .cells #[.int .i64 mE,.slice C3 mF.length C4,.slice H3 mG.length H4,.int .i64 l4,.slice MO mH.length MP] 28 (0,0)) (pb cG) tz.out (by simp));replace HK:=Ah (bK.trans (uX HK iA sE) hk (.inl rfl));replace HB:=Ah (hb);replace HI0:=Ah (hi);(try clear hb hk hi);obtain⟨hcz67_0,hcz67_1,hcz67_2,hcz67_3,hcz67_4⟩:=ah cG;obtain⟨hfz67_0,hfz67_1,hfz67_2,hfz67_3,hfz67_4⟩:=af cG;have hnb68:=tx.out;have hnc68:=eK.out;obtain⟨hcz69_0,hcz69_1,hcz69_2,hcz69_3,hcz69_4⟩:=ah eG;obtain⟨hfz69_0,hfz69_1,hfz69_2,hfz69_3,hfz69_4⟩:=af eG))
    refine bodyPost_ret (results_cell_row rfl _ _ eX 28 #[.int .i64 mE,.slice C3 mF.length C4,.slice H3 mG.length H4,.int .i64 l4,.slice MO mH.length MP] (0,0) _ rfl (pb eG) aab rfl (by kernel_rfl)) rfl ?_;exact⟨_,_,_,er,by(with_reducible repeat(first|apply Kd.al|apply Kd.ak|apply Kd.aY));exact Kd.aE (Kd.I (p:=⟨eX,4,none⟩) (Kd.I (p:=⟨eX,3,none⟩) (Kd.I (p:=⟨eX,2,none⟩) (Kd.I (p:=⟨eX,1,none⟩) (Kd.I (p:=⟨eX,0,none⟩) (Kd.ao iv.out eG.out (by decide)) (fun _ hk=>hk.2) (.int .i64 mE)) (fun _ hk=>hk.2) (.slice C3 mF.length C4)) (fun _ hk=>hk.2) (.slice H3 mG.length H4)) (fun _ hk=>hk.2) (.int .i64 l4)) (fun _ hk=>hk.2) (.slice MO mH.length MP)) (fun _ hk=>hk.1),by(with_reducible repeat(first|apply Kd.al|apply Kd.ak|apply Kd.aY));exact Kd.aE (Kd.I (p:=⟨eX,4,none⟩) (Kd.I (p:=⟨eX,3,none⟩) (Kd.I (p:=⟨eX,2,none⟩) (Kd.I (p:=⟨eX,1,none⟩) (Kd.I (p:=⟨eX,0,none⟩) (Kd.ao iw.out eG.out (by decide)) (fun _ hk=>hk.2) (.int .i64 mE)) (fun _ hk=>hk.2) (.slice C3 mF.length C4)) (fun _ hk=>hk.2) (.slice H3 mG.length H4)) (fun _ hk=>hk.2) (.int .i64 l4)) (fun _ hk=>hk.2) (.slice MO mH.length MP)) (fun _ hk=>hk.1),by(with_reducible repeat(first|apply Kd.al|apply Kd.ak|apply Kd.aY));exact Kd.aE (Kd.I (p:=⟨eX,4,none⟩) (Kd.I (p:=⟨eX,3,none⟩) (Kd.I (p:=⟨eX,2,none⟩) (Kd.I (p:=⟨eX,1,none⟩) (Kd.I (p:=⟨eX,0,none⟩) (Kd.ao hJ.out eG.out (by decide)) (fun _ hk=>hk.2) (.int .i64 mE)) (fun _ hk=>hk.2) (.slice C3 mF.length C4)) (fun _ hk=>hk.2) (.slice H3 mG.length H4)) (fun _ hk=>hk.2) (.int .i64 l4)) (fun _ hk=>hk.2) (.slice MO mH.length MP)) (fun _ hk=>trivial),Z.dB HI0 eK fk,aa HB nP tA,uX HK iA sE⟩
   rw[if_pos c32]at H;have Qq:=jm c32;have c32b1:=jn c32;clear c32;replace H:=Hc.mp H;obtain⟨⟨MQ,E2,E3⟩,Lk,H⟩:=H
   try dsimp only at H
   have SI:=Ah Lk;clear Lk;replace H:=Hc.mp H;obtain⟨⟨MR,E4,E5⟩,MI,H⟩:=H
   try dsimp only at H
   have SW:=Ah MI;clear MI;replace H:=Hc.mp H;obtain⟨⟨MS,t518,t519⟩,Ll,H⟩:=H
   try dsimp only at H
   have Zf:=Ah Ll;clear Ll
   by_cases yV:mH.length<3518437208883
   rotate_left
   ·
    rw[if_neg yV]at H;exact absurd H (by simp)
   rw[if_pos yV]at H;have WY:=Ah yV;clear yV;obtain⟨C5,Kl⟩:∃y_:List (aV),y_=(mH++[(⟨MQ,MR,(⟨0,0⟩:X),MS⟩:aV)]):=⟨_,rfl⟩
   replace H:(some (mE,mF,mG,l4,C5,t518,t519))=some (r1,r2,r3,r4,r5,r6,r7):=by first|(rw[Kl];with_reducible exact H)|(have ai:=(N6 _ _).symm.trans H;rw[Kl];with_reducible exact ai)|(have ai:=(N6 _ _).symm.trans H;with_reducible exact ai)|with_reducible exact H|(rw[Kl];exact H)|exact H
   have Ny520:=Ah Kl;clear Kl;simp only[SY,cM]at H;obtain⟨rfl,rfl,rfl,rfl,rfl,rfl,rfl⟩:=H;obtain⟨zs,yK,MD⟩:=Kd.ax g6.out;subst MD
   try go_wp2_with (first|((with_reducible refine bN (f:=28) rfl ?_);refine gL (some 22) rfl rfl Try.func28 (by kernel_rfl) rfl #[.int .i64 (Ee (5+wM)),.slice zs zx.length yK] rfl ?_;(with_reducible refine(eJ.calls wn (Ee (5+wM)) _ _ zx mE mF mG l4 mH Yb Yc _ ?aJ ?aM Na.out).mono ?_);(case aJ=>exact df g6);(case aM=>exact(Kd.ab g6.out).2.1);rintro e CO ⟨v491,v494,v498,v501,rfl,ho0,ho1,ho2,ho3,hb⟩;refine⟨_,rfl, ?_⟩;replace g6:=nr g6 hb;have iv:=Ah (Kd.bq ho0 (lG (w:=w) (g:=g) (row:=none) (gy HK iA)));have iw:=Ah (Kd.bq ho1 (lG (w:=w) (g:=g) (row:=none) (gy HK iA)));have hJ:=Ah (Kd.bq ho2 (lG (w:=w) (g:=g) (row:=none) (gy HK iA)));have kW:=Ah (Kd.bq ho3 (lG (w:=w) (g:=g) (row:=none) (gy HK iA)));replace eG:=nb eG hb;replace HK:=Ah (bK.trans (gy HK iA) (bK.of_below hb g none) (.inl rfl));replace HB:=Ah (aK (aQ HB nP) hb);replace HI0:=Ah (Z.below (Z.iS HI0 eK) hb);(try clear hb ho0 ho1 ho2 ho3))|((with_reducible refine am (N:=5) rfl ?_);refine ar 5 28 #[.int .i64 0,.slice none 0 0,.slice none 0 0,.int .i64 0,.slice none 0 0] ?_;intro i1 hg NN cG hb;replace g6:=nr g6 hb;replace iv:=nr iv hb;replace iw:=nr iw hb;replace hJ:=nr hJ hb;replace kW:=nr kW hb;replace HB:=Ah (aK (aQ HB nP) hb);have sE:=Ah ((by rw[hg];exact(lG (w:=w) (g:=g) (row:=none) (gy HK iA)):w.heap.size≤i1));have tA:=Ah ((aax HW0.out (by rw[hg];exact(lG (w:=w) (g:=g) (row:=none) (gy HK iA)):w.heap.size≤i1):w0.heap.size≤i1));replace HK:=Ah (bK.trans (gy HK iA) (bK.of_below hb g none) (.inl rfl));have th:=nn eG hg;have Cr:=nm eG hg;replace eG:=nb eG hb;have fk:=Ah ((by rw[hg];exact aaf (Z.lt (show Z w0 _ g aq lN lO from Z.iS HI0 eK)):g≠i1));have tz:=Ah ((by rw[hg];exact aaD (Z.lt (show Z w0 _ g aq lN lO from Z.iS HI0 eK)):i1≠g));replace HI0:=Ah (Z.below (Z.iS HI0 eK) hb);clear hb hg;have KU:=Cr.out;have KV:=th.out;have Jw:=tz.out;have Jx:=fk.out;obtain⟨VA,VB,hcz42_2,hcz42_3,hcz42_4⟩:=ah cG;obtain⟨VC,VD,hfz42_2,hfz42_3,hfz42_4⟩:=af cG;obtain⟨hO,gY,E6⟩:=Kd.ax iv.out;subst E6;obtain⟨gn,gZ,MT⟩:=Kd.ax iw.out;subst MT;obtain⟨rH,qY,MK⟩:=Kd.ax hJ.out;subst MK)|((with_reducible refine bN (f:=14) rfl ?_);refine gL (some 27) rfl rfl aaK (by kernel_rfl) rfl #[.pointer (some ⟨g,0,none⟩),.int .i64 40] rfl ?_;(with_reducible refine(fR.calls g aq lN lO 40 MN rI rJ w0 _ ?aJ ?aM wk.out).mono ?_);(case aJ=>exact Z.dB HI0 eK fk);(case aM=>exact aa HB nP tA);rintro e Hf ⟨rfl,hi,hb,hk⟩;refine⟨_,rfl, ?_⟩;replace g6:=Ah (Kd.aE (Kd.dK (Z.apart (show Z w0 _ g aq lN lO from Z.dB HI0 eK fk) (rf g6 cG) (by decide)) hk (fun _ h=>h.2)) (fun _ h=>h.1));replace eG:=Ah (bK.blk hk (g':=eX) (o:= .cells #[.int .i64 0,.slice none 0 0,.slice none 0 0,.int .i64 0,.slice none 0 0] 28 (0,0)) (bf eG th) tx.out (by simp));replace iv:=Ah (Kd.aE (Kd.dK (Z.apart (show Z w0 _ g aq lN lO from Z.dB HI0 eK fk) (rf iv cG) (by decide)) hk (fun _ h=>h.2)) (fun _ h=>h.1));replace iw:=Ah (Kd.aE (Kd.dK (Z.apart (show Z w0 _ g aq lN lO from Z.dB HI0 eK fk) (rf iw cG) (by decide)) hk (fun _ h=>h.2)) (fun _ h=>h.1));replace hJ:=Ah (Kd.aE (Kd.dK (Z.apart (show Z w0 _ g aq lN lO from Z.dB HI0 eK fk) (rf hJ cG) (by decide)) hk (fun _ h=>h.2)) (fun _ h=>h.1));replace kW:=Ah (Kd.aE (Kd.dK (Z.apart (show Z w0 _ g aq lN lO from Z.dB HI0 eK fk) (rf kW cG) (by decide)) hk (fun _ h=>h.2)) (fun _ h=>h.1));replace cG:=Ah (bK.blk hk (g':=i1) (o:= .cells #[.int .i64 mE,.slice hO mF.length gY,.slice gn mG.length gZ,.int .i64 l4,.slice rH mH.length qY] 28 (0,0)) (pb cG) tz.out (by simp));replace HK:=Ah (bK.trans (uX HK iA sE) hk (.inl rfl));replace HB:=Ah (hb);replace HI0:=Ah (hi);(try clear hb hk hi)))
   replace g6:=Ah (Kd.aY g6.out);replace iv:=Ah (Kd.aY iv.out);replace iw:=Ah (Kd.aY iw.out);replace hJ:=Ah (Kd.aY hJ.out);replace kW:=Ah (Kd.aY kW.out);replace eG:=Ah (bL eG.out);replace cG:=Ah (bL cG.out);replace HI0:=Ah (Z.drew HI0.out);replace HK:=Ah (Eu HK.out);replace HB:=Ah (ln HB.out);refine nB (n:=13) (S:=fun w'=>w'.cell? ⟨i1,0,none⟩=some (.int .i64 mE)∧w'.cell? ⟨i1,1,none⟩=some (.slice hO mF.length gY)∧w'.cell? ⟨i1,2,none⟩=some (.slice gn mG.length gZ)∧w'.cell? ⟨i1,3,none⟩=some (.int .i64 l4)∧w'.cell? ⟨i1,4,none⟩=some (.slice rH mH.length qY)) (ds:=[12]) #[false,false,false,false,false,false,false,false,false,false,false,false,false] (by kernel_rfl) rfl rfl ⟨(aI cG.out 0).trans rfl,(aI cG.out 1).trans rfl,(aI cG.out 2).trans rfl,(aI cG.out 3).trans rfl,(aI cG.out 4).trans rfl⟩ (fun hHeld=> ?_);refine nK fi.tab10 fi.bits10 (fun aD dL=> ?_)
   generalize Hf.drew=w47 at g6 iv iw hJ kW eG cG HI0 HK HB hHeld⊢
   refine ap 0 39 aD.out ?_;refine ap 2 41 aD.out ?_;refine ap 4 43 aD.out ?_;refine ap 6 45 aD.out ?_;refine f4 1 40 aD.out dL.out hHeld (hr:=by rintro w' ⟨s0,s1,s2,s3,s4⟩;go_simp;with_reducible rfl) (h:= ?_);refine i3 (i:=3) (N:=some 42) #[true,true,true,true,true,false,true,false,false,false,false,false,false] rfl rfl (hG aD.out (by kernel_rfl)) (by decide) (fun K hK=> ?_);refine ir aaK (by kernel_rfl) rfl #[.pointer (some ⟨g,0,none⟩),.int .i64 4] (by rfl) rfl rfl (by(try simp only[ib,aac,aai]);first|done|rfl|(simp only[fM,aN];rfl)) ?_
   with_reducible refine(fR.calls g aq rI rJ 4 MQ E2 E3 w0 _ ?aJ ?aM SI.out).mono ?_
   (case aJ=>exact Z.dB HI0 eK fk);(case aM=>exact aa HB nP tA);rintro e AJ ⟨rfl,hi,hb,hk⟩;refine⟨_,rfl, ?_⟩;replace g6:=Ah (Kd.aE (Kd.dK (Z.apart (show Z w0 _ g aq rI rJ from Z.dB HI0 eK fk) (rr g6.out) (by decide)) hk (fun _ h=>h.2)) (fun _ h=>h.1));replace eG:=Ah (bK.blk hk (g':=eX) (o:= .cells #[.int .i64 0,.slice none 0 0,.slice none 0 0,.int .i64 0,.slice none 0 0] 28 (0,0)) (bk eG) tx.out (by simp));replace iv:=Ah (Kd.aE (Kd.dK (Z.apart (show Z w0 _ g aq rI rJ from Z.dB HI0 eK fk) (rr iv.out) (by decide)) hk (fun _ h=>h.2)) (fun _ h=>h.1));replace iw:=Ah (Kd.aE (Kd.dK (Z.apart (show Z w0 _ g aq rI rJ from Z.dB HI0 eK fk) (rr iw.out) (by decide)) hk (fun _ h=>h.2)) (fun _ h=>h.1));replace hJ:=Ah (Kd.aE (Kd.dK (Z.apart (show Z w0 _ g aq rI rJ from Z.dB HI0 eK fk) (rr hJ.out) (by decide)) hk (fun _ h=>h.2)) (fun _ h=>h.1));replace kW:=Ah (Kd.aE (Kd.dK (Z.apart (show Z w0 _ g aq rI rJ from Z.dB HI0 eK fk) (rr kW.out) (by decide)) hk (fun _ h=>h.2)) (fun _ h=>h.1));replace cG:=Ah (bK.blk hk (g':=i1) (o:= .cells #[.int .i64 mE,.slice hO mF.length gY,.slice gn mG.length gZ,.int .i64 l4,.slice rH mH.length qY] 28 (0,0)) (bk cG) tz.out (by simp));replace HK:=Ah (bK.trans (uX HK iA sE) hk (.inl rfl));replace HB:=Ah (hb);replace HI0:=Ah (hi);(try clear hb);(try clear hb2);(try clear hk);(try clear hi);refine hK.out _ _ ⟨(aI cG.out 0).trans rfl,(aI cG.out 1).trans rfl,(aI cG.out 2).trans rfl,(aI cG.out 3).trans rfl,(aI cG.out 4).trans rfl⟩ (fun hHeld=> ?_);clear hK K;refine nq 42 ?_;refine i3 (i:=5) (N:=some 44) #[true,true,true,true,true,true,true,false,false,false,false,false,false] rfl rfl (hG aD.out (by kernel_rfl)) (by decide) (fun K hK=> ?_);refine ir aaK (by kernel_rfl) rfl #[.pointer (some ⟨g,0,none⟩),.int .i64 4] (by rfl) rfl rfl (by(try simp only[ib,aac,aai]);first|done|rfl|(simp only[fM,aN];rfl)) ?_
   with_reducible refine(fR.calls g aq E2 E3 4 MR E4 E5 w0 _ ?aJ ?aM SW.out).mono ?_
   (case aJ=>exact Z.dB HI0 eK fk);(case aM=>exact aa HB nP tA);rintro e w49 ⟨rfl,hi,hb,hk⟩;refine⟨_,rfl, ?_⟩;replace g6:=Ah (Kd.aE (Kd.dK (Z.apart (show Z w0 _ g aq E2 E3 from Z.dB HI0 eK fk) (rr g6.out) (by decide)) hk (fun _ h=>h.2)) (fun _ h=>h.1));replace eG:=Ah (bK.blk hk (g':=eX) (o:= .cells #[.int .i64 0,.slice none 0 0,.slice none 0 0,.int .i64 0,.slice none 0 0] 28 (0,0)) (bk eG) tx.out (by simp));replace iv:=Ah (Kd.aE (Kd.dK (Z.apart (show Z w0 _ g aq E2 E3 from Z.dB HI0 eK fk) (rr iv.out) (by decide)) hk (fun _ h=>h.2)) (fun _ h=>h.1));replace iw:=Ah (Kd.aE (Kd.dK (Z.apart (show Z w0 _ g aq E2 E3 from Z.dB HI0 eK fk) (rr iw.out) (by decide)) hk (fun _ h=>h.2)) (fun _ h=>h.1));replace hJ:=Ah (Kd.aE (Kd.dK (Z.apart (show Z w0 _ g aq E2 E3 from Z.dB HI0 eK fk) (rr hJ.out) (by decide)) hk (fun _ h=>h.2)) (fun _ h=>h.1));replace kW:=Ah (Kd.aE (Kd.dK (Z.apart (show Z w0 _ g aq E2 E3 from Z.dB HI0 eK fk) (rr kW.out) (by decide)) hk (fun _ h=>h.2)) (fun _ h=>h.1));replace cG:=Ah (bK.blk hk (g':=i1) (o:= .cells #[.int .i64 mE,.slice hO mF.length gY,.slice gn mG.length gZ,.int .i64 l4,.slice rH mH.length qY] 28 (0,0)) (bk cG) tz.out (by simp));replace HK:=Ah (bK.trans (uX HK iA sE) hk (.inl rfl));replace HB:=Ah (hb);replace HI0:=Ah (hi);(try clear hb);(try clear hb2);(try clear hk);(try clear hi);refine hK.out _ _ ⟨(aI cG.out 0).trans rfl,(aI cG.out 1).trans rfl,(aI cG.out 2).trans rfl,(aI cG.out 3).trans rfl,(aI cG.out 4).trans rfl⟩ (fun hHeld=> ?_);clear hK K;refine nq 44 ?_;refine i3 (i:=7) (N:=some 46) #[true,true,true,true,true,true,true,true,false,false,false,false,false] rfl rfl (hG aD.out (by kernel_rfl)) (by decide) (fun K hK=> ?_);refine ir aaK (by kernel_rfl) rfl #[.pointer (some ⟨g,0,none⟩),.int .i64 3] (by rfl) rfl rfl (by(try simp only[ib,aac,aai]);first|done|rfl|(simp only[fM,aN];rfl)) ?_
   with_reducible refine(fR.calls g aq E4 E5 3 MS t518 t519 w0 _ ?aJ ?aM Zf.out).mono ?_
   (case aJ=>exact Z.dB HI0 eK fk);(case aM=>exact aa HB nP tA);rintro e w50 ⟨rfl,hi,hb,hk⟩;refine⟨_,rfl, ?_⟩;replace g6:=Ah (Kd.aE (Kd.dK (Z.apart (show Z w0 _ g aq E4 E5 from Z.dB HI0 eK fk) (rr g6.out) (by decide)) hk (fun _ h=>h.2)) (fun _ h=>h.1));replace eG:=Ah (bK.blk hk (g':=eX) (o:= .cells #[.int .i64 0,.slice none 0 0,.slice none 0 0,.int .i64 0,.slice none 0 0] 28 (0,0)) (bk eG) tx.out (by simp));replace iv:=Ah (Kd.aE (Kd.dK (Z.apart (show Z w0 _ g aq E4 E5 from Z.dB HI0 eK fk) (rr iv.out) (by decide)) hk (fun _ h=>h.2)) (fun _ h=>h.1));replace iw:=Ah (Kd.aE (Kd.dK (Z.apart (show Z w0 _ g aq E4 E5 from Z.dB HI0 eK fk) (rr iw.out) (by decide)) hk (fun _ h=>h.2)) (fun _ h=>h.1));replace hJ:=Ah (Kd.aE (Kd.dK (Z.apart (show Z w0 _ g aq E4 E5 from Z.dB HI0 eK fk) (rr hJ.out) (by decide)) hk (fun _ h=>h.2)) (fun _ h=>h.1));replace kW:=Ah (Kd.aE (Kd.dK (Z.apart (show Z w0 _ g aq E4 E5 from Z.dB HI0 eK fk) (rr kW.out) (by decide)) hk (fun _ h=>h.2)) (fun _ h=>h.1));replace cG:=Ah (bK.blk hk (g':=i1) (o:= .cells #[.int .i64 mE,.slice hO mF.length gY,.slice gn mG.length gZ,.int .i64 l4,.slice rH mH.length qY] 28 (0,0)) (bk cG) tz.out (by simp));replace HK:=Ah (bK.trans (uX HK iA sE) hk (.inl rfl));replace HB:=Ah (hb);replace HI0:=Ah (hi);(try clear hb);(try clear hb2);(try clear hk);(try clear hi);refine hK.out _ _ ⟨(aI cG.out 0).trans rfl,(aI cG.out 1).trans rfl,(aI cG.out 2).trans rfl,(aI cG.out 3).trans rfl,(aI cG.out 4).trans rfl⟩ (fun hHeld=> ?_);clear hK K;refine nq 46 ?_;refine ap 8 47 aD.out ?_;refine i3 (i:=9) (N:=some 48) #[true,true,true,true,true,true,true,true,true,true,false,false,false] rfl rfl (hG aD.out (by kernel_rfl)) (by decide) (fun K hK=> ?_);refine value_ (w1:= ?_) (v:= ?_) (by rfl) rfl ?_ ?_;rotate_left 2
   ·
    go_simp
    constructor
    ·
     rfl
    ·
     rfl
   refine hK.out _ _ ⟨(aI (ba cG.out _) 0).trans rfl,(aI (ba cG.out _) 1).trans rfl,(aI (ba cG.out _) 2).trans rfl,(aI (ba cG.out _) 3).trans rfl,(aI (ba cG.out _) 4).trans rfl⟩ (fun hHeld=> ?_);clear hK K;refine nq 48 ?_;refine i3 (i:=10) (N:=some 49) #[true,true,true,true,true,true,true,true,true,true,true,false,false] rfl rfl (hG aD.out (by kernel_rfl)) (by decide) (fun K hK=> ?_);refine Kd.R_append_step cV w.heap.size (by rfl) (.tmp 40) (.tmp 48) 26 40 (.agg #[(.int .i64 0),(.int .i64 0),(.int .i64 0),(.int .i64 0),(.int .i64 0)]) 40 rfl aaG qF rfl (by decide) (by omega) (.slice rH mH.length qY) mH (⟨MQ,MR,(⟨0,0⟩:X),MS⟩:aV) [.int .i64 MQ,.int .i64 MR,.int .i64 0,.int .i64 0,.int .i64 MS] (fun _=>True) (fun _=>False) rfl rfl ?aP (fun _ hk=>hk.elim) ?aF ?aO (gR _ _) ?aS ?aL ?_;(case aP=>exact sj _ _ _ (⟨MQ,MR,(⟨0,0⟩:X),MS⟩:aV));(case aF=>exact(fun _ _=>trivial));(case aO=>exact(rr hJ.out));(case aS=>exact(lG (w:=w) (g:=g) (row:=none) (uX HK iA sE)));(case aL=>have:=WY.out;omega);intro v521 Nf ho hb hg hat;rw[←Ny520.out]at ho;replace g6:=Ah (Kd.eD (rr g6.out) (Kd.dt (rr hJ.out)) (by decide) hg);replace eG:=Ah (cC (bk eG) hg (Kd.cY hJ.out eG.out (by decide)));replace iv:=Ah (Kd.eD (rr iv.out) (Kd.dt (rr hJ.out)) (by decide) hg);replace iw:=Ah (Kd.eD (rr iw.out) (Kd.dt (rr hJ.out)) (by decide) hg);replace kW:=Ah (Kd.eD (rr kW.out) (Kd.dt (rr hJ.out)) (by decide) hg);replace cG:=Ah (cC (bk cG) hg (Kd.cY hJ.out cG.out (by decide)));replace HB:=Ah (Sl (aa HB nP tA) HL.out hb);replace HI0:=Ah (Z.grown (Z.dB HI0 eK fk) hg (Z.own_ne HI0.out hJ.out (by decide)));replace HK:=Ah (bK.trans (uX HK iA sE) (bK.IV hg g) (Kd.Ts hJ.out));have HO522:=Ah (ho);clear hJ ho hb hg hat;obtain⟨sJ,sK,Rs⟩:=Kd.ax HO522.out;(first|subst Rs|(injection Rs with fd jK fe;have jL:=fd.symm;have jM:=fe.symm;clear fd jK fe;subst jL;subst jM));refine hK.out _ _ ⟨(aI cG.out 0).trans rfl,(aI cG.out 1).trans rfl,(aI cG.out 2).trans rfl,(aI cG.out 3).trans rfl,(aI cG.out 4).trans rfl⟩ (fun hHeld=> ?_);clear hK K;refine nq 49 ?_;refine ap 11 50 aD.out ?_;refine last_ (i:=12) (N:=none) #[true,true,true,true,true,true,true,true,true,true,true,true,true] rfl rfl (hG aD.out (by kernel_rfl)) (by decide) (fun K hK=> ?_);have hs53:Nf.cell? ⟨i1,4,none⟩=some (.slice rH mH.length qY):=(aI cG.out 4).trans rfl;have hfs53:=gT cG.out 4;have hns53_0:=th.out;have hms53_0:=Cr.out;refine G8 (w1:= ?_) (by rfl) rfl ?_ ?_;rotate_left
   ·
    go_simp
    rfl
   refine hK.out _ _ ?_;clear hK K;refine m5 (mO aD.out (by kernel_rfl)) ?_;obtain⟨U3,U4,U5,U6,U7⟩:=ah cG;obtain⟨U8,U9,UA,UB,UC⟩:=af cG;have hnb55:=tx.out;have hnc55:=eK.out;obtain⟨hcz56_0,hcz56_1,hcz56_2,hcz56_3,hcz56_4⟩:=ah eG;obtain⟨hfz56_0,hfz56_1,hfz56_2,hfz56_3,hfz56_4⟩:=af eG
   try go_wp2
   refine bodyPost_ret (results_cell_row rfl _ _ eX 28 #[.int .i64 mE,.slice hO mF.length gY,.slice gn mG.length gZ,.int .i64 l4,.slice sJ C5.length sK] (0,0) _ rfl (AD eG th) aab rfl (by kernel_rfl)) rfl ?_;exact⟨_,_,_,er,by(with_reducible repeat(first|apply Kd.al|apply Kd.ak|apply Kd.aY));exact Kd.aE (Kd.I (p:=⟨eX,4,none⟩) (Kd.I (p:=⟨eX,3,none⟩) (Kd.I (p:=⟨eX,2,none⟩) (Kd.I (p:=⟨eX,1,none⟩) (Kd.I (p:=⟨eX,0,none⟩) (Kd.I (p:=⟨i1,4,none⟩) (Kd.ao (Kd.ao iv.out cG.out (by decide)) eG.out (by decide)) (fun _ hk=>hk.1.2) (.slice sJ C5.length sK)) (fun _ hk=>hk.2) (.int .i64 mE)) (fun _ hk=>hk.2) (.slice hO mF.length gY)) (fun _ hk=>hk.2) (.slice gn mG.length gZ)) (fun _ hk=>hk.2) (.int .i64 l4)) (fun _ hk=>hk.2) (.slice sJ C5.length sK)) (fun _ hk=>hk.1.1),by(with_reducible repeat(first|apply Kd.al|apply Kd.ak|apply Kd.aY));exact Kd.aE (Kd.I (p:=⟨eX,4,none⟩) (Kd.I (p:=⟨eX,3,none⟩) (Kd.I (p:=⟨eX,2,none⟩) (Kd.I (p:=⟨eX,1,none⟩) (Kd.I (p:=⟨eX,0,none⟩) (Kd.I (p:=⟨i1,4,none⟩) (Kd.ao (Kd.ao iw.out cG.out (by decide)) eG.out (by decide)) (fun _ hk=>hk.1.2) (.slice sJ C5.length sK)) (fun _ hk=>hk.2) (.int .i64 mE)) (fun _ hk=>hk.2) (.slice hO mF.length gY)) (fun _ hk=>hk.2) (.slice gn mG.length gZ)) (fun _ hk=>hk.2) (.int .i64 l4)) (fun _ hk=>hk.2) (.slice sJ C5.length sK)) (fun _ hk=>hk.1.1),by(with_reducible repeat(first|apply Kd.al|apply Kd.ak|apply Kd.aY));exact Kd.aE (Kd.I (p:=⟨eX,4,none⟩) (Kd.I (p:=⟨eX,3,none⟩) (Kd.I (p:=⟨eX,2,none⟩) (Kd.I (p:=⟨eX,1,none⟩) (Kd.I (p:=⟨eX,0,none⟩) (Kd.I (p:=⟨i1,4,none⟩) (Kd.ao (Kd.ao HO522.out cG.out (by decide)) eG.out (by decide)) (fun _ hk=>hk.1.2) (.slice sJ C5.length sK)) (fun _ hk=>hk.2) (.int .i64 mE)) (fun _ hk=>hk.2) (.slice hO mF.length gY)) (fun _ hk=>hk.2) (.slice gn mG.length gZ)) (fun _ hk=>hk.2) (.int .i64 l4)) (fun _ hk=>hk.2) (.slice sJ C5.length sK)) (fun _ hk=>trivial),Z.dB HI0 eK fk,aa HB nP tA,uX HK iA sE⟩
theorem obk {A:Option Addr}{n c m d k:Nat}(h:some k≠(Value.slice A n c).ownBlock):some k≠(Value.slice A m d).ownBlock:=by cases A<;>exact h
def ie.j0:Nat→List (aV)→List Int→Int→Int→Int→List (X)→List (X)→Int→List (aV)→Option (Int×(List (X))×(List (X))×Int×(List (aV))×(List (aV)))
 |0,_,_,_,_,_,_,_,_,_=>none
 |k+1,x6,Pz,x525001,x525002,x539000,x539001,x539002,x539003,x539004=>(nI.f Pz x525001 x525002 12).bind fun Wz=>(if Wz.1=true then((fR.f Pz Wz.2.1 Wz.2.2 2).bind fun X0=>((fR.f Pz X0.2.1 X0.2.2 5).bind fun X1=>((fR.f Pz X1.2.1 X1.2.2 3).bind fun bt563=>(if x6.length<3518437208883 then(some (x539000,x539001,x539002,x539003,x539004,(x6++[(⟨Ee (1+X0.1),X1.1,(⟨0,0⟩:X),bt563.1⟩:aV)])))else(none)))))else(some (x539000,x539001,x539002,x539003,x539004,x6)))
def ie.f(k:Nat)(l0:List Int):Option (Int×(List (X))×(List (X))×Int×(List (aV))×(List (aV))):=(fi.f k l0 0 0).bind fun kr=>((some (([]:List (aV)):List (aV))).bind fun wR=>(if wR.length+kr.2.2.2.2.1.length<3518437208883 then((some (wR++kr.2.2.2.2.1:List (aV))).bind fun lz=>((nI.f l0 kr.2.2.2.2.2.1 kr.2.2.2.2.2.2 3).bind fun mj=>(if mj.1=true then((fR.f l0 mj.2.1 mj.2.2 (Ee ((lz.length:Int)+1))).bind fun ml=>(if 0≤ml.1 then(if ml.1≤(lz.length:Int)then(ie.j0 k (lz.take (ml.1:Int).toNat) l0 ml.2.1 ml.2.2 kr.1 kr.2.1 kr.2.2.1 kr.2.2.2.1 kr.2.2.2.2.1)else(none))else(none)))else(ie.j0 k lz l0 mj.2.1 mj.2.2 kr.1 kr.2.1 kr.2.2.1 kr.2.2.2.1 kr.2.2.2.2.1))))else(none)))
theorem ie.dh:∀k,(∀y0 y1 y2 y3 y4 y5 y6 y7 y8,aG (ie.j0 k y0 y1 y2 y3 y4 y5 y6 y7 y8) (ie.j0 (k+1) y0 y1 y2 y3 y4 y5 y6 y7 y8))
 |0=>fun _ _ _ _ _ _ _ _ _ r h=>by simp[ie.j0]at h
 |k+1=>by
  have bz:=ie.dh k
  ·
   intro y0 y1 y2 y3 y4 y5 y6 y7 y8;unfold ie.j0
   repeat' with_reducible first|exact bz _ _ _ _ _ _ _ _ _|exact fi.mono _ _ _ _|exact aG.refl _|exact aG.none _|refine aG.ite ?_ ?_|refine aG.bind ?_ (fun _=> ?_)
theorem ie.mono:∀a0 k,aG (ie.f k a0) (ie.f (k+1) a0):=by
 intro a0 k;have bz:=ie.dh k;unfold ie.f
 repeat' with_reducible first|exact bz _ _ _ _ _ _ _ _ _|exact fi.mono _ _ _ _|exact aG.refl _|exact aG.none _|refine aG.ite ?_ ?_|refine aG.bind ?_ (fun _=> ?_)
theorem ie.calls(k:Nat)(A0:Option Addr)(c0:Nat)(l0:List Int)(r1:Int)(r2:List (X))(r3:List (X))(r4:Int)(r5:List (aV))(r6:List (aV))(w:World)(hr0:Kd.C (Kd.int .u8) w A0 l0.length l0)(hc0:l0.length≤c0)(h:ie.f k l0=some (r1,r2,r3,r4,r5,r6)):
 Calls Try.prog 4 #[.slice A0 l0.length c0] w fun e w'=>∃et eZ lm Hj:Value,e= .returned (.tuple #[.agg #[.int .i64 r1,et,eZ,.int .i64 r4,lm],Hj])∧Kd.R ag 38 w' w.heap.size (fun k_=>some k_≠(eZ:Value).ownBlock) et r2∧Kd.R ag 38 w' w.heap.size (fun k_=>some k_≠(et:Value).ownBlock) eZ r3∧Kd.R cV 40 w' w.heap.size (fun k_=>some k_≠(Hj:Value).ownBlock) lm r5∧Kd.R cV 40 w' w.heap.size (fun k_=>some k_≠(lm:Value).ownBlock) Hj r6∧Below w.heap.size w w':=by
 have uP:=aab;have hu47:=Try.underlying47;have vt:=aaR;have fg:=Ah hr0;have rU:=Ah hc0;clear hr0 hc0;have HB:=Ah (gR w.heap.size w);have H:((fi.f k l0 0 0).bind fun kr=>((some (([]:List (aV)):List (aV))).bind fun wR=>(if wR.length+kr.2.2.2.2.1.length<3518437208883 then((some (wR++kr.2.2.2.2.1:List (aV))).bind fun lz=>((nI.f l0 kr.2.2.2.2.2.1 kr.2.2.2.2.2.2 3).bind fun mj=>(if mj.1=true then((fR.f l0 mj.2.1 mj.2.2 (Ee ((lz.length:Int)+1))).bind fun ml=>(if 0≤ml.1 then(if ml.1≤(lz.length:Int)then(ie.j0 k (lz.take (ml.1:Int).toNat) l0 ml.2.1 ml.2.2 kr.1 kr.2.1 kr.2.2.1 kr.2.2.2.1 kr.2.2.2.2.1)else(none))else(none)))else(ie.j0 k lz l0 mj.2.1 mj.2.2 kr.1 kr.2.1 kr.2.2.1 kr.2.2.2.1 kr.2.2.2.2.1))))else(none))))=some (r1,r2,r3,r4,r5,r6):=h;clear h;replace H:=Hc.mp H;obtain⟨⟨lP,kK,kL,lQ,ia,wS,wT⟩,kR,H⟩:=H
 try dsimp only at H
 have A2:=Ah kR;clear kR;obtain⟨wR,Km⟩:∃y_:List (aV),y_=(([]:List (aV))):=⟨_,rfl⟩
 replace H:(if wR.length+ia.length<3518437208883 then((some (wR++ia:List (aV))).bind fun lz=>((nI.f l0 wS wT 3).bind fun mj=>(if mj.1=true then((fR.f l0 mj.2.1 mj.2.2 (Ee ((lz.length:Int)+1))).bind fun ml=>(if 0≤ml.1 then(if ml.1≤(lz.length:Int)then(ie.j0 k (lz.take (ml.1:Int).toNat) l0 ml.2.1 ml.2.2 lP kK kL lQ ia)else(none))else(none)))else(ie.j0 k lz l0 mj.2.1 mj.2.2 lP kK kL lQ ia))))else(none))=some (r1,r2,r3,r4,r5,r6):=by first|(rw[Km];with_reducible exact H)|(have ai:=(N6 _ _).symm.trans H;rw[Km];with_reducible exact ai)|(have ai:=(N6 _ _).symm.trans H;with_reducible exact ai)|with_reducible exact H|(rw[Km];exact H)|exact H
 have Ny539:=Ah Km;clear Km
 by_cases c3:wR.length+ia.length<3518437208883
 rotate_left
 ·
  rw[if_neg c3]at H;exact absurd H (by simp)
 rw[if_pos c3]at H;have M9:=Ah c3;clear c3;obtain⟨lz,Kn⟩:∃y_:List (aV),y_=(wR++ia):=⟨_,rfl⟩
 replace H:((nI.f l0 wS wT 3).bind fun mj=>(if mj.1=true then((fR.f l0 mj.2.1 mj.2.2 (Ee ((lz.length:Int)+1))).bind fun ml=>(if 0≤ml.1 then(if ml.1≤(lz.length:Int)then(ie.j0 k (lz.take (ml.1:Int).toNat) l0 ml.2.1 ml.2.2 lP kK kL lQ ia)else(none))else(none)))else(ie.j0 k lz l0 mj.2.1 mj.2.2 lP kK kL lQ ia)))=some (r1,r2,r3,r4,r5,r6):=by first|(rw[Kn];with_reducible exact H)|(have ai:=(N6 _ _).symm.trans H;rw[Kn];with_reducible exact ai)|(have ai:=(N6 _ _).symm.trans H;with_reducible exact ai)|with_reducible exact H|(rw[Kn];exact H)|exact H
 have Ny542:=Ah Kn;clear Kn;replace H:=Hc.mp H;obtain⟨⟨t545,E7,E8⟩,fc,H⟩:=H
 try dsimp only at H
 have A4:=Ah fc;clear fc;have Em:=Ah H;clear H
 go_enter Try.func4,Try.ntmps4
 go_upto_if 17 with(first|((with_reducible refine am (N:=2) rfl ?_);refine ar 2 28 #[.int .i64 0,.slice none 0 0,.slice none 0 0,.int .i64 0,.slice none 0 0] ?_;intro fl hg w6 fy hb;have GW523:=gw hg (bs HB);have lZ:=gw hg (bs HB);replace HB:=Ah (aK (bs HB) hb);clear hb hg)|((with_reducible refine am (N:=9) rfl ?_);refine ar 9 47 #[.slice A0 l0.length c0,.int .i64 0,.int .u64 0] ?_;intro fm hg w7 BK524 hb;have GW524:=gw hg (aQ HB lZ);have GE524:=gw hg (aQ HB lZ);replace HB:=Ah (aK (aQ HB lZ) hb);have xE:=nn fy hg;have gU:=nm fy hg;replace fy:=nb fy hb;clear hb hg;have fI:=Ah (show Z w w7 fm l0 0 0 from⟨_,_,(bk BK524),GE524.out,fg.out⟩))|((with_reducible refine bN (f:=12) rfl ?_);refine gL (some 11) rfl rfl Try.func12 (by kernel_rfl) rfl #[.pointer (some ⟨fm,0,none⟩)] rfl ?_;(with_reducible refine(fi.calls k fm l0 0 0 lP kK kL lQ ia wS wT w _ ?aJ ?aM A2.out).mono ?_);(case aJ=>exact Z.iS fI gU);(case aM=>exact aQ HB lZ);rintro e w8 ⟨v527,v530,v534,rfl,ho0,ho1,ho2,hi,hb,hk⟩;refine⟨_,rfl, ?_⟩;replace fy:=Ah (bK.blk hk (g':=fl) (o:= .cells #[.int .i64 0,.slice none 0 0,.slice none 0 0,.int .i64 0,.slice none 0 0] 28 (0,0)) (bk fy) xE.out (by simp));have tB:=Ah (Kd.bq ho0 (bR (aQ HB lZ)));have tC:=Ah (Kd.bq ho1 (bR (aQ HB lZ)));have qM:=Ah (Kd.bq ho2 (bR (aQ HB lZ)));replace HB:=Ah (hb);replace fI:=Ah (hi);(try clear hb hk hi ho0 ho1 ho2))|((with_reducible refine am (N:=5) rfl ?_);refine ar 5 28 #[.int .i64 0,.slice none 0 0,.slice none 0 0,.int .i64 0,.slice none 0 0] ?_;intro qN hg w9 il hb;replace tB:=nr tB hb;replace tC:=nr tC hb;replace qM:=nr qM hb;have GW538:=gw hg (aQ HB lZ);have pi:=gw hg (aQ HB lZ);replace HB:=Ah (aK (aQ HB lZ) hb);have OD:=nn fy hg;have TL:=nm fy hg;replace fy:=nb fy hb;have hD:=Ah ((by rw[hg];exact aaf (Z.lt (show Z w _ fm l0 wS wT from Z.iS fI gU)):fm≠qN));have xF:=Ah ((by rw[hg];exact aaD (Z.lt (show Z w _ fm l0 wS wT from Z.iS fI gU)):qN≠fm));replace fI:=Ah (Z.below (Z.iS fI gU) hb);clear hb hg;have WO:=TL.out;have WQ:=OD.out;have Qa:=xF.out;have Qb:=hD.out;obtain⟨Ac,Ad,Fh,hcz12_3,hcz12_4⟩:=ah il;obtain⟨Ae,Af,Fi,hfz12_3,hfz12_4⟩:=af il;obtain⟨gl,fP,sH⟩:=Kd.ax tB.out;subst sH;obtain⟨m0,j8,zy⟩:=Kd.ax tC.out;subst zy;obtain⟨mI,mJ,Yh⟩:=Kd.ax qM.out;subst Yh)|((with_reducible refine am (N:=12) rfl ?_);refine Kd.vN cV _ 40 ?hg (N:=12) ?hd (xs:=([]:List (aV))) (inner:=[]) (ok:=fun _=>True) (okp:=fun _=>True) ?hr ?hp (fun _ hk=>hk) trivial (gR _ _) (eH _) (by simp) ?_;(case hd=>rfl);(case hg=>rfl);(case hr=>first|(go_simp;done)|(go_simp;rfl));(case hp=>exact(cX.none _ _));intro v540 w16 H5 hb mL m9;clear mL m9;(first|rw[←Ny539.out]at H5|(simp only[Int.reduceToNat]at H5;rw[←Ny539.out]at H5));replace tB:=nf tB il hb;replace tC:=nf tC il hb;have DV:=Ah (Kd.bq (Kd.bv H5 (Kd.bZ (rf qM il))) (bR (aa HB lZ pi)));replace qM:=Ah (Kd.lJ (rf qM il) (Kd.br H5) hb);replace fy:=Ah (bJ (bf fy OD) hb);replace il:=Ah (bJ (g:=qN) (o:= .cells #[.int .i64 lP,.slice gl kK.length fP,.slice m0 kL.length j8,.int .i64 lQ,.slice mI ia.length mJ] 28 (0,0)) (pb il) hb);replace HB:=Ah (aK (aa HB lZ pi) hb);replace fI:=Ah (Z.below (show Z w (((((w9.setCell ⟨qN,0,none⟩ (.int .i64 lP)).setCell ⟨qN,1,none⟩ (.slice gl kK.length fP)).setCell ⟨qN,2,none⟩ (.slice m0 kL.length j8)).setCell ⟨qN,3,none⟩ (.int .i64 lQ)).setCell ⟨qN,4,none⟩ (.slice mI ia.length mJ)) fm l0 wS wT from Z.dB fI gU hD) hb);clear hb H5;obtain⟨uy,uz,xi,xj,xk⟩:=ah il;obtain⟨vA,vB,xl,xm,xn⟩:=af il)|((with_reducible refine iG (b:= .append) (xs:= #[.tmp 12,.tmp 14]) rfl ?_);at_builtin;refine Kd.AL cV (w0:=w) w.heap.size rfl (.tmp 12) (.tmp 14) 26 40 (.agg #[(.int .i64 0),(.int .i64 0),(.int .i64 0),(.int .i64 0),(.int .i64 0)]) 40 rfl aaG qF rfl (by decide) (by omega) v540 wR ia _ _ _ (fun k_=>some k_≠(.slice mI ia.length mJ:Value).ownBlock) (fun _=>False) rfl rfl ?aO ?aR (fun _ _ h=>h) (fun _ h=>h.elim) ?aF ?aB ?aS ?aL ?_;(case aR=>exact df qM);(case aB=>exact(aa HB lZ pi));(case aF=>exact(fun k_ hk=>Kd.fresh' (Kd.bZ (rr qM.out)) k_ hk));(case aO=>exact(by(with_reducible repeat(first|apply Kd.al|apply Kd.ak|apply Kd.aY));exact Kd.aE DV.out (fun _ hk=>hk.2)));(case aS=>exact(bR (aa HB lZ pi)));(case aL=>have:=M9.out;omega);intro v543 NW ho hb hg hat;rw[←Ny542.out]at ho;replace fy:=Ah (cC (bk fy) hg (Kd.cY DV.out fy.out (by decide)));replace fI:=Ah (Z.grown (Z.dB fI gU hD) hg (Z.own_ne fI.out DV.out (by decide)));replace tB:=Ah (Kd.eD (rr tB.out) (Kd.dt (rr DV.out)) (by decide) hg);replace tC:=Ah (Kd.eD (rr tC.out) (Kd.dt (rr DV.out)) (by decide) hg);replace qM:=Ah (Kd.n9 (ok:=(fun _=>True)) (rr qM.out) hg hat);replace il:=Ah (cC (bk il) hg (Kd.cY DV.out il.out (by decide)));replace HB:=Ah (hb);have zc:=Ah (ho);clear DV;clear ho hb hg hat)|((with_reducible refine bN (f:=13) rfl ?_);refine gL (some 17) rfl rfl abI (by kernel_rfl) rfl #[.pointer (some ⟨fm,0,none⟩),.int .i64 3] rfl ?_;(with_reducible refine(nI.calls fm l0 wS wT 3 t545 E7 E8 w _ ?aJ ?aM A4.out).mono ?_);(case aJ=>exact Z.dB fI gU hD);(case aM=>exact aa HB lZ pi);rintro e Hk ⟨rfl,hi,hb,hk⟩;refine⟨_,rfl, ?_⟩;replace fy:=Ah (bK.blk hk (g':=fl) (o:= .cells #[.int .i64 0,.slice none 0 0,.slice none 0 0,.int .i64 0,.slice none 0 0] 28 (0,0)) (bk fy) xE.out (by simp));replace tB:=Ah (Kd.aE (Kd.dK (Z.apart (show Z w _ fm l0 wS wT from Z.dB fI gU hD) (rr tB.out) (by decide)) hk (fun _ h=>h.2)) (fun _ h=>h.1));replace tC:=Ah (Kd.aE (Kd.dK (Z.apart (show Z w _ fm l0 wS wT from Z.dB fI gU hD) (rr tC.out) (by decide)) hk (fun _ h=>h.2)) (fun _ h=>h.1));replace qM:=Ah (Kd.aE (Kd.dK (Z.apart (show Z w _ fm l0 wS wT from Z.dB fI gU hD) (rr qM.out) (by decide)) hk (fun _ h=>h.2)) (fun _ h=>h.1));replace il:=Ah (bK.blk hk (g':=qN) (o:= .cells #[.int .i64 lP,.slice gl kK.length fP,.slice m0 kL.length j8,.int .i64 lQ,.slice mI ia.length mJ] 28 (0,0)) (bk il) xF.out (by simp));replace zc:=Ah (Kd.aE (Kd.dK (Z.apart (show Z w _ fm l0 wS wT from Z.dB fI gU hD) (rr zc.out) (by decide)) hk (fun _ h=>h.2)) (fun _ h=>h.1));replace HB:=Ah (hb);replace fI:=Ah (hi);(try clear hb hk hi)))
 (try simp only[Act.put,g7,aad,aae])
 go_cut [6] (fun v6 wc=>∃ (kq:Nat) (wJ:List (aV)) (sa:Int) (sb:Int),Y (ie.j0 kq wJ l0 sa sb lP kK kL lQ ia=some (r1,r2,r3,r4,r5,r6))∧Y (kq≤k)∧Y (Kd.R cV 40 wc w.heap.size (fun k_=>some k_≠((.slice mI ia.length mJ):Value).ownBlock) v6 wJ)∧Y (Kd.R ag 38 wc w.heap.size (fun k_=>some k_≠((.slice m0 kL.length j8):Value).ownBlock) (.slice gl kK.length fP) kK)∧Y (Kd.R ag 38 wc w.heap.size (fun k_=>some k_≠((.slice gl kK.length fP):Value).ownBlock) (.slice m0 kL.length j8) kL)∧Y (Kd.R cV 40 wc w.heap.size (fun k_=>some k_≠(v6:Value).ownBlock) (.slice mI ia.length mJ) ia)∧Y (wc.heap[fl]?=some (.cells #[.int .i64 0,(.slice none 0 0),(.slice none 0 0),.int .i64 0,(.slice none 0 0)] 28 (0,0)))∧Y (wc.heap[qN]?=some (.cells #[.int .i64 lP,(.slice gl kK.length fP),(.slice m0 kL.length j8),.int .i64 lQ,(.slice mI ia.length mJ)] 28 (0,0)))∧Y (Z w wc fm l0 sa sb)∧Y (Below w.heap.size w wc))
 case first=>
  have H:=Em.out;clear Em
  by_cases c21:t545=true
  rotate_left
  ·
   replace c21:=Q3.mpr c21;subst c21;rw[if_neg dc]at H;have H':=Ah H;clear H
   go_wp2
   go_meet
   case rel=>exact⟨_,(lz),(E7),(E8),H',⟨by first|omega|exact eH _⟩,⟨rr zc.out⟩,⟨rr tB.out⟩,⟨rr tC.out⟩,rm qM (fun _ hk=>hk.2),⟨bk fy⟩,⟨bk il⟩,⟨Z.dB fI gU hD⟩,⟨aa HB lZ pi⟩⟩
  subst c21;rw[if_pos rfl]at H;replace H:=Hc.mp H;obtain⟨⟨C6,Yi,Yj⟩,A220,H⟩:=H
  try dsimp only at H
  have A22:=Ah A220;clear A220
  by_cases c23:0≤C6
  rotate_left
  ·
   rw[if_neg c23]at H;exact absurd H (by simp)
  rw[if_pos c23]at H;have Qw:=eq_true c23;have c23b1:=bS c23;clear c23
  by_cases c24:C6≤(lz.length:Int)
  rotate_left
  ·
   rw[if_neg c24]at H;exact absurd H (by simp)
  rw[if_pos c24]at H;have BF:=eq_true c24;have DC:=bS c24;clear c24;obtain⟨Yk,Ko⟩:∃y_:List (aV),y_=(lz.take (C6:Int).toNat):=⟨_,rfl⟩
  replace H:(ie.j0 k Yk l0 Yi Yj lP kK kL lQ ia)=some (r1,r2,r3,r4,r5,r6):=by first|(rw[Ko];with_reducible exact H)|(have ai:=(N6 _ _).symm.trans H;rw[Ko];with_reducible exact ai)|(have ai:=(N6 _ _).symm.trans H;with_reducible exact ai)|with_reducible exact H|(rw[Ko];exact H)|exact H
  have Ny551:=Ah Ko;clear Ko;have H':=Ah H;clear H;obtain⟨iy,io,MU⟩:=Kd.ax zc.out;subst MU
  go_wp2_with (first|((with_reducible refine bN (f:=14) rfl ?_);refine gL (some 23) rfl rfl aaK (by kernel_rfl) rfl #[.pointer (some ⟨fm,0,none⟩),.int .i64 (Ee ((lz.length:Int)+1))] rfl ?_;(with_reducible refine(fR.calls fm l0 E7 E8 (Ee ((lz.length:Int)+1)) C6 Yi Yj w _ ?aJ ?aM A22.out).mono ?_);(case aJ=>exact Z.dB fI gU hD);(case aM=>exact aa HB lZ pi);rintro e Cb ⟨rfl,hi,hb,hk⟩;refine⟨_,rfl, ?_⟩;replace fy:=Ah (bK.blk hk (g':=fl) (o:= .cells #[.int .i64 0,.slice none 0 0,.slice none 0 0,.int .i64 0,.slice none 0 0] 28 (0,0)) (bk fy) xE.out (by simp));replace tB:=Ah (Kd.aE (Kd.dK (Z.apart (show Z w _ fm l0 E7 E8 from Z.dB fI gU hD) (rr tB.out) (by decide)) hk (fun _ h=>h.2)) (fun _ h=>h.1));replace tC:=Ah (Kd.aE (Kd.dK (Z.apart (show Z w _ fm l0 E7 E8 from Z.dB fI gU hD) (rr tC.out) (by decide)) hk (fun _ h=>h.2)) (fun _ h=>h.1));replace qM:=Ah (Kd.aE (Kd.dK (Z.apart (show Z w _ fm l0 E7 E8 from Z.dB fI gU hD) (rr qM.out) (by decide)) hk (fun _ h=>h.2)) (fun _ h=>h.1));replace il:=Ah (bK.blk hk (g':=qN) (o:= .cells #[.int .i64 lP,.slice gl kK.length fP,.slice m0 kL.length j8,.int .i64 lQ,.slice mI ia.length mJ] 28 (0,0)) (bk il) xF.out (by simp));replace zc:=Ah (Kd.aE (Kd.dK (Z.apart (show Z w _ fm l0 E7 E8 from Z.dB fI gU hD) (rr zc.out) (by decide)) hk (fun _ h=>h.2)) (fun _ h=>h.1));replace HB:=Ah (hb);replace fI:=Ah (hi);(try clear hb hk hi);have Ng:(C6:Int)≤((lz.length:Int):Int):=od;obtain⟨i027,hi027,_,hsz27,_⟩:=info_parts qF;have hcut27:=Fu (P:=sX) 26 40 .i64 aaG hi027 iy lz.length io C6 (od) Ng (Kd.ab zc.out).2.1;have Rt:=Kd.R_take (m:=(C6:Int).toNat) zc.out (by omega);have hy27:Yk.length=(C6:Int).toNat:=(by rw[Ny551.out,aN];omega);rw[←Ny551.out]at Rt;rw[←hy27]at Rt hcut27;clear hy27 hi027 hsz27 zc;have HO553:=Ah Rt;clear Rt;replace Ng:=eq_true Ng))
  go_meet
  case rel=>exact⟨_,(Yk),(Yi),(Yj),H',⟨by first|omega|exact eH _⟩,⟨rr HO553.out⟩,⟨rr tB.out⟩,⟨rr tC.out⟩,rm qM (fun _ hk=>obk hk.2),⟨bk fy⟩,⟨bk il⟩,⟨Z.dB fI gU hD⟩,⟨aa HB lZ pi⟩⟩
 case rest=>
  clear Em
  try clear c1
  try clear c2
  try clear p2
  try clear q2
  try clear c3
  try clear c4
  try clear p6
  try clear c10
  try clear c11
  try clear c12
  try clear c13
  try clear c14
  try clear c21
  try clear c23
  try clear Qw
  try clear c23b1
  try clear c24
  try clear BF
  try clear DC
  try clear Ng
  try clear Ac Ad Fh hcz12_3 hcz12_4
  try clear uy uz xi xj xk
  try clear Ae Af Fi hfz12_3 hfz12_4
  try clear vA vB xl xm xn
  try clear Ng
  obtain⟨kq,wJ,sa,sb,HA,En,az,re,rg,qe,fy,il,fI,HB⟩:=hcut
  cases kq with
  |zero=>exact absurd HA.out (by simp[ie.j0])
  |succ Zt=>
   have H:=HA.out;clear HA;simp only[ie.j0]at H;replace H:=Hc.mp H;obtain⟨⟨t554,E9,EA⟩,A280,H⟩:=H
   try dsimp only at H
   have NU:=Ah A280;clear A280
   by_cases kQ:t554=true
   rotate_left
   ·
    replace kQ:=Q3.mpr kQ;subst kQ;rw[if_neg dc]at H;simp only[SY,cM]at H;obtain⟨rfl,rfl,rfl,rfl,rfl,rfl⟩:=H
    go_wp2_with (first|((with_reducible refine bN (f:=13) rfl ?_);refine gL (some 26) rfl rfl abI (by kernel_rfl) rfl #[.pointer (some ⟨fm,0,none⟩),.int .i64 12] rfl ?_;(with_reducible refine(nI.calls fm l0 sa sb 12 false E9 EA w _ ?aJ ?aM NU.out).mono ?_);(case aJ=>exact Z.dB fI gU hD);(case aM=>exact aa HB lZ pi);rintro e NM ⟨rfl,hi,hb,hk⟩;refine⟨_,rfl, ?_⟩;replace az:=Ah (Kd.aE (Kd.dK (Z.apart (show Z w _ fm l0 sa sb from Z.dB fI gU hD) (rr az.out) (by decide)) hk (fun _ h=>h.2)) (fun _ h=>h.1));replace re:=Ah (Kd.aE (Kd.dK (Z.apart (show Z w _ fm l0 sa sb from Z.dB fI gU hD) (rr re.out) (by decide)) hk (fun _ h=>h.2)) (fun _ h=>h.1));replace rg:=Ah (Kd.aE (Kd.dK (Z.apart (show Z w _ fm l0 sa sb from Z.dB fI gU hD) (rr rg.out) (by decide)) hk (fun _ h=>h.2)) (fun _ h=>h.1));replace qe:=Ah (Kd.aE (Kd.dK (Z.apart (show Z w _ fm l0 sa sb from Z.dB fI gU hD) (rr qe.out) (by decide)) hk (fun _ h=>h.2)) (fun _ h=>h.1));replace fy:=Ah (bK.blk hk (g':=fl) (o:= .cells #[.int .i64 0,.slice none 0 0,.slice none 0 0,.int .i64 0,.slice none 0 0] 28 (0,0)) (bk fy) xE.out (by simp));replace il:=Ah (bK.blk hk (g':=qN) (o:= .cells #[.int .i64 lP,.slice gl kK.length fP,.slice m0 kL.length j8,.int .i64 lQ,.slice mI ia.length mJ] 28 (0,0)) (bk il) xF.out (by simp));replace HB:=Ah (hb);replace fI:=Ah (hi);(try clear hb hk hi);have hnb45:=TL.out;have hnc45:=OD.out;have hnb46:=xF.out;have hnc46:=hD.out;obtain⟨hcz47_0,hcz47_1,hcz47_2,hcz47_3,hcz47_4⟩:=ah il;obtain⟨hfz47_0,hfz47_1,hfz47_2,hfz47_3,hfz47_4⟩:=af il;have hnb48:=xE.out;have hnc48:=gU.out;obtain⟨hcz49_0,hcz49_1,hcz49_2,hcz49_3,hcz49_4⟩:=ah fy;obtain⟨hfz49_0,hfz49_1,hfz49_2,hfz49_3,hfz49_4⟩:=af fy))
    refine bodyPost_ret (lT rfl _ _ fl 28 #[.int .i64 lP,.slice gl kK.length fP,.slice m0 kL.length j8,.int .i64 lQ,.slice mI ia.length mJ] (0,0) _ rfl (pb fy) aab rfl (by kernel_rfl)) rfl ?_;exact⟨_,_,_,_,er,by(with_reducible repeat(first|apply Kd.al|apply Kd.ak|apply Kd.aY));exact Kd.aE (Kd.I (p:=⟨fl,4,none⟩) (Kd.I (p:=⟨fl,3,none⟩) (Kd.I (p:=⟨fl,2,none⟩) (Kd.I (p:=⟨fl,1,none⟩) (Kd.I (p:=⟨fl,0,none⟩) (Kd.ao re.out fy.out (by decide)) (fun _ hk=>hk.2) (.int .i64 lP)) (fun _ hk=>hk.2) (.slice gl kK.length fP)) (fun _ hk=>hk.2) (.slice m0 kL.length j8)) (fun _ hk=>hk.2) (.int .i64 lQ)) (fun _ hk=>hk.2) (.slice mI ia.length mJ)) (fun _ hk=>hk.1),by(with_reducible repeat(first|apply Kd.al|apply Kd.ak|apply Kd.aY));exact Kd.aE (Kd.I (p:=⟨fl,4,none⟩) (Kd.I (p:=⟨fl,3,none⟩) (Kd.I (p:=⟨fl,2,none⟩) (Kd.I (p:=⟨fl,1,none⟩) (Kd.I (p:=⟨fl,0,none⟩) (Kd.ao rg.out fy.out (by decide)) (fun _ hk=>hk.2) (.int .i64 lP)) (fun _ hk=>hk.2) (.slice gl kK.length fP)) (fun _ hk=>hk.2) (.slice m0 kL.length j8)) (fun _ hk=>hk.2) (.int .i64 lQ)) (fun _ hk=>hk.2) (.slice mI ia.length mJ)) (fun _ hk=>hk.1),by(with_reducible repeat(first|apply Kd.al|apply Kd.ak|apply Kd.aY));exact Kd.aE (Kd.I (p:=⟨fl,4,none⟩) (Kd.I (p:=⟨fl,3,none⟩) (Kd.I (p:=⟨fl,2,none⟩) (Kd.I (p:=⟨fl,1,none⟩) (Kd.I (p:=⟨fl,0,none⟩) (Kd.ao qe.out fy.out (by decide)) (fun _ hk=>hk.2) (.int .i64 lP)) (fun _ hk=>hk.2) (.slice gl kK.length fP)) (fun _ hk=>hk.2) (.slice m0 kL.length j8)) (fun _ hk=>hk.2) (.int .i64 lQ)) (fun _ hk=>hk.2) (.slice mI ia.length mJ)) (fun _ hk=>hk.1),by(with_reducible repeat(first|apply Kd.al|apply Kd.ak|apply Kd.aY));exact Kd.aE (Kd.I (p:=⟨fl,4,none⟩) (Kd.I (p:=⟨fl,3,none⟩) (Kd.I (p:=⟨fl,2,none⟩) (Kd.I (p:=⟨fl,1,none⟩) (Kd.I (p:=⟨fl,0,none⟩) (Kd.ao az.out fy.out (by decide)) (fun _ hk=>hk.2) (.int .i64 lP)) (fun _ hk=>hk.2) (.slice gl kK.length fP)) (fun _ hk=>hk.2) (.slice m0 kL.length j8)) (fun _ hk=>hk.2) (.int .i64 lQ)) (fun _ hk=>hk.2) (.slice mI ia.length mJ)) (fun _ hk=>hk.1),aa HB lZ pi⟩
   subst kQ;rw[if_pos rfl]at H;replace H:=Hc.mp H;obtain⟨⟨MV,H6,H7⟩,MW,H⟩:=H
   try dsimp only at H
   have dz:=Ah MW;clear MW;replace H:=Hc.mp H;obtain⟨⟨MX,H8,H9⟩,M3,H⟩:=H
   try dsimp only at H
   have SQ:=Ah M3;clear M3;replace H:=Hc.mp H;obtain⟨⟨MY,t564,t565⟩,MZ,H⟩:=H
   try dsimp only at H
   have SX:=Ah MZ;clear MZ
   by_cases oC:wJ.length<3518437208883
   rotate_left
   ·
    rw[if_neg oC]at H;exact absurd H (by simp)
   rw[if_pos oC]at H;have K5:=Ah oC;clear oC;obtain⟨y566,Kp⟩:∃y_:List (aV),y_=(wJ++[(⟨Ee (1+MV),MX,(⟨0,0⟩:X),MY⟩:aV)]):=⟨_,rfl⟩
   replace H:(some (lP,kK,kL,lQ,ia,y566))=some (r1,r2,r3,r4,r5,r6):=by first|(rw[Kp];with_reducible exact H)|(have ai:=(N6 _ _).symm.trans H;rw[Kp];with_reducible exact ai)|(have ai:=(N6 _ _).symm.trans H;with_reducible exact ai)|with_reducible exact H|(rw[Kp];exact H)|exact H
   have Ny566:=Ah Kp;clear Kp;simp only[SY,cM]at H;obtain⟨rfl,rfl,rfl,rfl,rfl,rfl⟩:=H
   go_wp2_with (first|((with_reducible refine bN (f:=13) rfl ?_);refine gL (some 26) rfl rfl abI (by kernel_rfl) rfl #[.pointer (some ⟨fm,0,none⟩),.int .i64 12] rfl ?_;(with_reducible refine(nI.calls fm l0 sa sb 12 true E9 EA w _ ?aJ ?aM NU.out).mono ?_);(case aJ=>exact Z.dB fI gU hD);(case aM=>exact aa HB lZ pi);rintro e Zp ⟨rfl,hi,hb,hk⟩;refine⟨_,rfl, ?_⟩;replace az:=Ah (Kd.aE (Kd.dK (Z.apart (show Z w _ fm l0 sa sb from Z.dB fI gU hD) (rr az.out) (by decide)) hk (fun _ h=>h.2)) (fun _ h=>h.1));replace re:=Ah (Kd.aE (Kd.dK (Z.apart (show Z w _ fm l0 sa sb from Z.dB fI gU hD) (rr re.out) (by decide)) hk (fun _ h=>h.2)) (fun _ h=>h.1));replace rg:=Ah (Kd.aE (Kd.dK (Z.apart (show Z w _ fm l0 sa sb from Z.dB fI gU hD) (rr rg.out) (by decide)) hk (fun _ h=>h.2)) (fun _ h=>h.1));replace qe:=Ah (Kd.aE (Kd.dK (Z.apart (show Z w _ fm l0 sa sb from Z.dB fI gU hD) (rr qe.out) (by decide)) hk (fun _ h=>h.2)) (fun _ h=>h.1));replace fy:=Ah (bK.blk hk (g':=fl) (o:= .cells #[.int .i64 0,.slice none 0 0,.slice none 0 0,.int .i64 0,.slice none 0 0] 28 (0,0)) (bk fy) xE.out (by simp));replace il:=Ah (bK.blk hk (g':=qN) (o:= .cells #[.int .i64 lP,.slice gl kK.length fP,.slice m0 kL.length j8,.int .i64 lQ,.slice mI ia.length mJ] 28 (0,0)) (bk il) xF.out (by simp));replace HB:=Ah (hb);replace fI:=Ah (hi);(try clear hb hk hi))|((with_reducible refine bN (f:=14) rfl ?_);refine gL (some 29) rfl rfl aaK (by kernel_rfl) rfl #[.pointer (some ⟨fm,0,none⟩),.int .i64 2] rfl ?_;(with_reducible refine(fR.calls fm l0 E9 EA 2 MV H6 H7 w _ ?aJ ?aM dz.out).mono ?_);(case aJ=>exact Z.dB fI gU hD);(case aM=>exact aa HB lZ pi);rintro e SY ⟨rfl,hi,hb,hk⟩;refine⟨_,rfl, ?_⟩;replace az:=Ah (Kd.aE (Kd.dK (Z.apart (show Z w _ fm l0 E9 EA from Z.dB fI gU hD) (rr az.out) (by decide)) hk (fun _ h=>h.2)) (fun _ h=>h.1));replace re:=Ah (Kd.aE (Kd.dK (Z.apart (show Z w _ fm l0 E9 EA from Z.dB fI gU hD) (rr re.out) (by decide)) hk (fun _ h=>h.2)) (fun _ h=>h.1));replace rg:=Ah (Kd.aE (Kd.dK (Z.apart (show Z w _ fm l0 E9 EA from Z.dB fI gU hD) (rr rg.out) (by decide)) hk (fun _ h=>h.2)) (fun _ h=>h.1));replace qe:=Ah (Kd.aE (Kd.dK (Z.apart (show Z w _ fm l0 E9 EA from Z.dB fI gU hD) (rr qe.out) (by decide)) hk (fun _ h=>h.2)) (fun _ h=>h.1));replace fy:=Ah (bK.blk hk (g':=fl) (o:= .cells #[.int .i64 0,.slice none 0 0,.slice none 0 0,.int .i64 0,.slice none 0 0] 28 (0,0)) (bk fy) xE.out (by simp));replace il:=Ah (bK.blk hk (g':=qN) (o:= .cells #[.int .i64 lP,.slice gl kK.length fP,.slice m0 kL.length j8,.int .i64 lQ,.slice mI ia.length mJ] 28 (0,0)) (bk il) xF.out (by simp));replace HB:=Ah (hb);replace fI:=Ah (hi);(try clear hb hk hi))|((with_reducible refine bN (f:=14) rfl ?_);refine gL (some 32) rfl rfl aaK (by kernel_rfl) rfl #[.pointer (some ⟨fm,0,none⟩),.int .i64 5] rfl ?_;(with_reducible refine(fR.calls fm l0 H6 H7 5 MX H8 H9 w _ ?aJ ?aM SQ.out).mono ?_);(case aJ=>exact Z.dB fI gU hD);(case aM=>exact aa HB lZ pi);rintro e SZ ⟨rfl,hi,hb,hk⟩;refine⟨_,rfl, ?_⟩;replace az:=Ah (Kd.aE (Kd.dK (Z.apart (show Z w _ fm l0 H6 H7 from Z.dB fI gU hD) (rr az.out) (by decide)) hk (fun _ h=>h.2)) (fun _ h=>h.1));replace re:=Ah (Kd.aE (Kd.dK (Z.apart (show Z w _ fm l0 H6 H7 from Z.dB fI gU hD) (rr re.out) (by decide)) hk (fun _ h=>h.2)) (fun _ h=>h.1));replace rg:=Ah (Kd.aE (Kd.dK (Z.apart (show Z w _ fm l0 H6 H7 from Z.dB fI gU hD) (rr rg.out) (by decide)) hk (fun _ h=>h.2)) (fun _ h=>h.1));replace qe:=Ah (Kd.aE (Kd.dK (Z.apart (show Z w _ fm l0 H6 H7 from Z.dB fI gU hD) (rr qe.out) (by decide)) hk (fun _ h=>h.2)) (fun _ h=>h.1));replace fy:=Ah (bK.blk hk (g':=fl) (o:= .cells #[.int .i64 0,.slice none 0 0,.slice none 0 0,.int .i64 0,.slice none 0 0] 28 (0,0)) (bk fy) xE.out (by simp));replace il:=Ah (bK.blk hk (g':=qN) (o:= .cells #[.int .i64 lP,.slice gl kK.length fP,.slice m0 kL.length j8,.int .i64 lQ,.slice mI ia.length mJ] 28 (0,0)) (bk il) xF.out (by simp));replace HB:=Ah (hb);replace fI:=Ah (hi);(try clear hb hk hi))|((with_reducible refine bN (f:=14) rfl ?_);refine gL (some 34) rfl rfl aaK (by kernel_rfl) rfl #[.pointer (some ⟨fm,0,none⟩),.int .i64 3] rfl ?_;(with_reducible refine(fR.calls fm l0 H8 H9 3 MY t564 t565 w _ ?aJ ?aM SX.out).mono ?_);(case aJ=>exact Z.dB fI gU hD);(case aM=>exact aa HB lZ pi);rintro e mK ⟨rfl,hi,hb,hk⟩;refine⟨_,rfl, ?_⟩;replace az:=Ah (Kd.aE (Kd.dK (Z.apart (show Z w _ fm l0 H8 H9 from Z.dB fI gU hD) (rr az.out) (by decide)) hk (fun _ h=>h.2)) (fun _ h=>h.1));replace re:=Ah (Kd.aE (Kd.dK (Z.apart (show Z w _ fm l0 H8 H9 from Z.dB fI gU hD) (rr re.out) (by decide)) hk (fun _ h=>h.2)) (fun _ h=>h.1));replace rg:=Ah (Kd.aE (Kd.dK (Z.apart (show Z w _ fm l0 H8 H9 from Z.dB fI gU hD) (rr rg.out) (by decide)) hk (fun _ h=>h.2)) (fun _ h=>h.1));replace qe:=Ah (Kd.aE (Kd.dK (Z.apart (show Z w _ fm l0 H8 H9 from Z.dB fI gU hD) (rr qe.out) (by decide)) hk (fun _ h=>h.2)) (fun _ h=>h.1));replace fy:=Ah (bK.blk hk (g':=fl) (o:= .cells #[.int .i64 0,.slice none 0 0,.slice none 0 0,.int .i64 0,.slice none 0 0] 28 (0,0)) (bk fy) xE.out (by simp));replace il:=Ah (bK.blk hk (g':=qN) (o:= .cells #[.int .i64 lP,.slice gl kK.length fP,.slice m0 kL.length j8,.int .i64 lQ,.slice mI ia.length mJ] 28 (0,0)) (bk il) xF.out (by simp));replace HB:=Ah (hb);replace fI:=Ah (hi);(try clear hb hk hi))|((with_reducible refine iG (b:= .append) (xs:= #[.tmp 27,.tmp 36]) rfl ?_);at_builtin;refine Kd.jp cV (w0:=w) w.heap.size rfl (.tmp 27) (.tmp 36) 26 40 (.agg #[(.int .i64 0),(.int .i64 0),(.int .i64 0),(.int .i64 0),(.int .i64 0)]) 40 rfl aaG qF rfl (by decide) (by omega) u6 wJ (⟨Ee (1+MV),MX,(⟨0,0⟩:X),MY⟩:aV) [.int .i64 (Ee (1+MV)),.int .i64 MX,.int .i64 0,.int .i64 0,.int .i64 MY] (fun k_=>some k_≠(.slice mI ia.length mJ:Value).ownBlock) (fun _=>False) rfl rfl ?aP (fun _ hk=>hk.elim) ?aF ?aO ?aB ?aS ?aL ?_;(case aP=>exact sj _ _ _ (⟨Ee (1+MV),MX,(⟨0,0⟩:X),MY⟩:aV));(case aB=>exact(aa HB lZ pi));(case aF=>exact(fun k_ hk=>Kd.fresh' (Kd.bZ (rr qe.out)) k_ hk));(case aO=>exact(rr az.out));(case aS=>exact(bR (aa HB lZ pi)));(case aL=>have:=K5.out;omega);intro v567 CO ho hb hg hat;rw[←Ny566.out]at ho;replace re:=Ah (Kd.eD (rr re.out) (Kd.dt (rr az.out)) (by decide) hg);replace rg:=Ah (Kd.eD (rr rg.out) (Kd.dt (rr az.out)) (by decide) hg);replace qe:=Ah (Kd.n9 (ok:=(fun _=>True)) (by(with_reducible repeat(first|apply Kd.al|apply Kd.ak|apply Kd.aY));exact Kd.aE qe.out (fun _ hk=>⟨trivial,hk⟩)) hg hat);replace fy:=Ah (cC (bk fy) hg (Kd.cY az.out fy.out (by decide)));replace il:=Ah (cC (bk il) hg (Kd.cY az.out il.out (by decide)));replace fI:=Ah (Z.grown (Z.dB fI gU hD) hg (Z.own_ne fI.out az.out (by decide)));replace HB:=Ah (hb);have HO568:=Ah (ho);clear az;clear ho hb hg hat;have Qr:=TL.out;have Qs:=OD.out;have KU:=xF.out;have KV:=hD.out;obtain⟨Fb,Fc,VE,hcz41_3,hcz41_4⟩:=ah il;obtain⟨Fd,Fe,VF,hfz41_3,hfz41_4⟩:=af il;have hnb42:=xE.out;have hnc42:=gU.out;obtain⟨P6,P7,P8,P9,PA⟩:=ah fy;obtain⟨PS,PT,PU,PV,PX⟩:=af fy))
   refine bodyPost_ret (lT rfl _ _ fl 28 #[.int .i64 lP,.slice gl kK.length fP,.slice m0 kL.length j8,.int .i64 lQ,.slice mI ia.length mJ] (0,0) _ rfl (pb fy) aab rfl (by kernel_rfl)) rfl ?_;exact⟨_,_,_,_,er,by(with_reducible repeat(first|apply Kd.al|apply Kd.ak|apply Kd.aY));exact Kd.aE (Kd.I (p:=⟨fl,4,none⟩) (Kd.I (p:=⟨fl,3,none⟩) (Kd.I (p:=⟨fl,2,none⟩) (Kd.I (p:=⟨fl,1,none⟩) (Kd.I (p:=⟨fl,0,none⟩) (Kd.ao re.out fy.out (by decide)) (fun _ hk=>hk.2) (.int .i64 lP)) (fun _ hk=>hk.2) (.slice gl kK.length fP)) (fun _ hk=>hk.2) (.slice m0 kL.length j8)) (fun _ hk=>hk.2) (.int .i64 lQ)) (fun _ hk=>hk.2) (.slice mI ia.length mJ)) (fun _ hk=>hk.1),by(with_reducible repeat(first|apply Kd.al|apply Kd.ak|apply Kd.aY));exact Kd.aE (Kd.I (p:=⟨fl,4,none⟩) (Kd.I (p:=⟨fl,3,none⟩) (Kd.I (p:=⟨fl,2,none⟩) (Kd.I (p:=⟨fl,1,none⟩) (Kd.I (p:=⟨fl,0,none⟩) (Kd.ao rg.out fy.out (by decide)) (fun _ hk=>hk.2) (.int .i64 lP)) (fun _ hk=>hk.2) (.slice gl kK.length fP)) (fun _ hk=>hk.2) (.slice m0 kL.length j8)) (fun _ hk=>hk.2) (.int .i64 lQ)) (fun _ hk=>hk.2) (.slice mI ia.length mJ)) (fun _ hk=>hk.1),by(with_reducible repeat(first|apply Kd.al|apply Kd.ak|apply Kd.aY));exact Kd.aE (Kd.I (p:=⟨fl,4,none⟩) (Kd.I (p:=⟨fl,3,none⟩) (Kd.I (p:=⟨fl,2,none⟩) (Kd.I (p:=⟨fl,1,none⟩) (Kd.I (p:=⟨fl,0,none⟩) (Kd.ao qe.out fy.out (by decide)) (fun _ hk=>hk.2) (.int .i64 lP)) (fun _ hk=>hk.2) (.slice gl kK.length fP)) (fun _ hk=>hk.2) (.slice m0 kL.length j8)) (fun _ hk=>hk.2) (.int .i64 lQ)) (fun _ hk=>hk.2) (.slice mI ia.length mJ)) (fun _ hk=>hk.1.2),by(with_reducible repeat(first|apply Kd.al|apply Kd.ak|apply Kd.aY));exact Kd.aE (Kd.I (p:=⟨fl,4,none⟩) (Kd.I (p:=⟨fl,3,none⟩) (Kd.I (p:=⟨fl,2,none⟩) (Kd.I (p:=⟨fl,1,none⟩) (Kd.I (p:=⟨fl,0,none⟩) (Kd.ao HO568.out fy.out (by decide)) (fun _ hk=>hk.2) (.int .i64 lP)) (fun _ hk=>hk.2) (.slice gl kK.length fP)) (fun _ hk=>hk.2) (.slice m0 kL.length j8)) (fun _ hk=>hk.2) (.int .i64 lQ)) (fun _ hk=>hk.2) (.slice mI ia.length mJ)) (fun _ hk=>hk.1),aa HB lZ pi⟩
def lS.f(a0:Int)(a1:Int)(a2:Int):Option (Bool):=if a0≥a1 then(some (decide (a0≤a2)))else(some false)
theorem lS.calls(a0:Int)(a1:Int)(a2:Int)(r:Bool)(w:World)(h:lS.f a0 a1 a2=some r):
 Calls sX 25 #[.int .i64 a0,.int .i64 a1,.int .i64 a2] w fun e w'=>e= .returned (.bool r)∧dD w w':=by
 have H:(if a0≥a1 then(some (decide (a0≤a2)))else(some false))=some r:=h;clear h
 by_cases c4:a0≥a1
 ·
  rw[if_pos c4]at H;have ky:=bS c4;clear c4;obtain rfl:=Ok H
  go_enter abo,Try.ntmps25
  go_wp2
  go_ret
  exact⟨by first|rfl|(simp;done)|(simp[*];done),by repeat(first|exact dD.refl _|apply dD.step)⟩
 ·
  rw[if_neg c4]at H;have ky:=f7 c4;clear c4;obtain rfl:=Ok H
  go_enter abo,Try.ntmps25
  go_wp2
  go_ret
  exact⟨by first|rfl|(simp;done)|(simp[*];done),by repeat(first|exact dD.refl _|apply dD.step)⟩
def nJ.f(aA:Int)(dI:Int)(a1:Int):Option (Bool):=(lS.f aA 0 (Ee (a1-1))).bind fun Ma=>(if Ma=true then((lS.f dI 1 (Ee (a1-aA))).bind fun Mb=>(some Mb))else(some false))
theorem nJ.calls(aA:Int)(dI:Int)(a1:Int)(r:Bool)(w:World)(h:nJ.f aA dI a1=some r):
 Calls sX 33 #[.agg #[.int .i64 aA,.int .i64 dI],.int .i64 a1] w fun e w'=>e= .returned (.bool r)∧Below w.heap.size w w':=by
 have lM:=aap;have HB:=Ah (gR w.heap.size w);have H:((lS.f aA 0 (Ee (a1-1))).bind fun Ma=>(if Ma=true then((lS.f dI 1 (Ee (a1-aA))).bind fun Mb=>(some Mb))else(some false)))=some r:=h;clear h;replace H:=Hc.mp H;obtain⟨Ma,dz,H⟩:=H
 try dsimp only at H
 have A3:=Ah dz;clear dz
 by_cases c4:Ma=true
 rotate_left
 ·
  replace c4:=Q3.mpr c4;subst c4;rw[if_neg dc]at H;obtain rfl:=Ok H
  go_enter Try.func33,Try.ntmps33
  go_wp2_with (first|((with_reducible refine am (N:=2) rfl ?_);refine ar 2 38 #[.int .i64 aA,.int .i64 dI] ?_;intro gb569 hg w8 Kq hb;have GW569:=gw hg (bs HB);have X2:=gw hg (bs HB);replace HB:=Ah (aK (bs HB) hb);clear hb hg;obtain⟨qp,qq⟩:=da Kq;obtain⟨sA,qr⟩:=db Kq)|((with_reducible refine bN (f:=25) rfl ?_);refine gL (some 9) rfl rfl abo (by kernel_rfl) rfl #[.int .i64 aA,.int .i64 0,.int .i64 (Ee (a1-1))] rfl ?_;(with_reducible refine(lS.calls aA 0 (Ee (a1-1)) false _ A3.out).mono ?_);rintro e w' ⟨rfl,⟨nd,rfl⟩⟩;refine⟨_,rfl, ?_⟩))
  go_ret
  exact⟨er,aQ HB X2⟩
 subst c4;rw[if_pos rfl]at H;replace H:=Hc.mp H;obtain⟨Mb,lD,H⟩:=H
 try dsimp only at H
 have A5:=Ah lD;clear lD;obtain rfl:=Ok H
 go_enter Try.func33,Try.ntmps33
 go_wp2_with (first|((with_reducible refine am (N:=2) rfl ?_);refine ar 2 38 #[.int .i64 aA,.int .i64 dI] ?_;intro gb569 hg w6 Kq hb;have GW569:=gw hg (bs HB);have X2:=gw hg (bs HB);replace HB:=Ah (aK (bs HB) hb);clear hb hg;obtain⟨pD,pE⟩:=da Kq;obtain⟨pF,pG⟩:=db Kq)|((with_reducible refine bN (f:=25) rfl ?_);refine gL (some 9) rfl rfl abo (by kernel_rfl) rfl #[.int .i64 aA,.int .i64 0,.int .i64 (Ee (a1-1))] rfl ?_;(with_reducible refine(lS.calls aA 0 (Ee (a1-1)) true _ A3.out).mono ?_);rintro e w' ⟨rfl,⟨nd,rfl⟩⟩;refine⟨_,rfl, ?_⟩)|(go_at_call 25;(with_reducible refine(lS.calls dI 1 (Ee (a1-aA)) Mb _ A5.out).mono ?_);rintro e w' ⟨rfl,⟨nd,rfl⟩⟩))
 go_ret
 exact⟨er,aQ HB X2⟩
def oE.f(l0:List (X)):Option (List (X)):=if l0.length*16≤140737488355328 then some l0 else none
set_option maxRecDepth 100000 in
theorem oE.calls(A0:Option Addr)(c0:Nat)(l0:List (X))(r:List (X))(w:World)(hr0:Kd.C ag w A0 l0.length l0)(hc0:l0.length≤c0)(h:oE.f l0=some r):
 Calls sX 36 #[.slice A0 l0.length c0] w fun e w'=>∃n3:Value,e= .returned (n3)∧Kd.R ag 38 w' w.heap.size (fun _=>True) n3 r∧Below w.heap.size w w':=by
 have hus:=Try.underlying23;have huu:∀w,Sem.run sX (underlying 23) w= .ok (TypeDesc.slice 38) w:=run_underlying hus
 have hee:∀ (w:World) (a:Option Addr) (n c n' c':Nat),(binOp .eql 23 (.slice a n c) (.slice none n' c')).run sX w= .ok (.bool a.isNone) w:=fun w a n c n' c'=>Lib.run_eql_slice_nil w _ _ a n c n' c' hus
 unfold oE.f at h
 by_cases hl:l0.length*16≤140737488355328
 ·rw[if_pos hl]at h
  obtain rfl:=Ok h;have hR:=Y.mk hr0;have hL:=Y.mk hl;clear hr0 h hl
  rcases A0 with _|ad
  ·have h0:l0=[]:=by
    rcases Nat.eq_zero_or_pos l0.length with h0|h0
    ·exact List.eq_nil_of_length_eq_zero h0
    ·obtain⟨ad,h,_⟩:=hR.out.2.2 h0
     cases h
   subst h0
   go_enter Try.func36,Try.ntmps36
   go_wp2
   go_ret
   exact⟨_,rfl,Kd.dG _ _ _ _ _,gR _ _⟩
  ·go_enter Try.func36,Try.ntmps36
   go_wp2_with (first
    |((with_reducible refine am (N:=5) rfl ?_);refine Kd.vN ag _ 38 ?hg (N:=5) ?hd (xs:=([]:List (X))) (inner:=[]) (ok:=fun _=>True) (okp:=fun _=>True) ?hr ?hp (fun _ hk=>hk) trivial (gR _ _) (eH _) (by simp) ?_;(case hd=>rfl);(case hg=>rfl);(case hr=>first|(go_simp;done)|(go_simp;rfl));(case hp=>exact(cX.none _ _));intro v391 w4 ho5 hb mL m9;clear mL m9;have gR:=Y.mk (Kd.bq ho5 (eH _));have g7:=Y.mk hb;clear ho5 hb)
    |((with_reducible refine iG (b:= .append) (xs:= #[.tmp 5,.tmp 6]) rfl ?_);at_builtin;refine Kd.AL ag (w0:=w) w.heap.size rfl (.tmp 5) (.tmp 6) 23 38 (.agg #[(.int .i64 0),(.int .i64 0)]) 16 rfl hus mb rfl (by decide) (by omega) v391 ([]:List (X)) l0 _ _ _ (fun _=>True) (fun _=>False) rfl rfl ?aO ?aR (fun _ _ h=>h) (fun _ h=>h.elim) ?aF ?aB ?aS ?aL ?_;(case aR=>exact Kd.ur hR.out g7.out);(case aB=>exact g7.out);(case aF=>exact(fun _ _=>trivial));(case aO=>exact gR.out);(case aS=>exact g7.out.size);(case aL=>have:=hL.out;simp only[List.length_nil,Nat.zero_add];omega);intro v394 w6 ho hb hg hat;rw[List.nil_append]at ho;have m0_:=Y.mk ho;have m1_:=Y.mk hb;clear gR g7 ho hb hg hat))
   go_ret
   exact⟨_,rfl,m0_.out,m1_.out⟩
 ·rw[if_neg hl]at h
  cases h
def kS.l0:Nat→List (X)→List (X)→Int→Int→Option (Bool)
 |0,_,_,_,_=>none
 |k+1,x0,x1,nW,gD=>if gD<nW then(if 0≤gD then(if gD<(x0.length:Int)then(if gD<(x1.length:Int)then(if(!(((aC x0 gD).f0)==((aC x1 gD).f0))||(!(((aC x0 gD).f1)==((aC x1 gD).f1))))=true then(some false)else(kS.l0 k x0 x1 nW (Ee (gD+1))))else(none))else(none))else(none))else(some true)
def kS.f(k:Nat)(l0:List (X))(l1:List (X)):Option (Bool):=if(l0.length:Int)=(l1.length:Int)then(kS.l0 k l0 l1 (l0.length:Int) 0)else(some false)
theorem kS.dh:∀k,(∀y0 y1 y2 y3,aG (kS.l0 k y0 y1 y2 y3) (kS.l0 (k+1) y0 y1 y2 y3))
 |0=>fun _ _ _ _ r h=>by simp[kS.l0]at h
 |k+1=>by
  have bz:=kS.dh k
  ·
   intro y0 y1 y2 y3;unfold kS.l0
   repeat' with_reducible first|exact bz _ _ _ _|exact aG.refl _|exact aG.none _|refine aG.ite ?_ ?_|refine aG.bind ?_ (fun _=> ?_)
theorem kS.mono:∀a0 a1 k,aG (kS.f k a0 a1) (kS.f (k+1) a0 a1):=by
 intro a0 a1 k;have bz:=kS.dh k;unfold kS.f
 repeat' with_reducible first|exact bz _ _ _ _|exact aG.refl _|exact aG.none _|refine aG.ite ?_ ?_|refine aG.bind ?_ (fun _=> ?_)
theorem kS.calls(k:Nat)(A0:Option Addr)(c0:Nat)(l0:List (X))(A1:Option Addr)(c1:Nat)(l1:List (X))(r:Bool)(w:World)(hr0:Kd.C ag w A0 l0.length l0)(hc0:l0.length≤c0)(hr1:Kd.C ag w A1 l1.length l1)(hc1:l1.length≤c1)(h:kS.f k l0 l1=some r):
 Calls sX 44 #[.slice A0 l0.length c0,.slice A1 l1.length c1] w fun e w'=>e= .returned (.bool r)∧dD w w':=by
 have lM:=aap;have fg:=Ah hr0;have rU:=Ah hc0;clear hr0 hc0;have HR1:=Ah hr1;have rV:=Ah hc1;clear hr1 hc1;have H:(if(l0.length:Int)=(l1.length:Int)then(kS.l0 k l0 l1 (l0.length:Int) 0)else(some false))=some r:=h;clear h
 by_cases c3:(l0.length:Int)=(l1.length:Int)
 rotate_left
 ·
  rw[if_neg c3]at H;have iZ:=jI c3;have tM:=jJ c3
  have Bu:(l0.length==l1.length)=false:=by first|simpa using c3|(simp at c3⊢;omega)
  obtain rfl:=Ok H
  go_enter Try.func44,Try.ntmps44
  go_wp2
  repeat(go_quiet (fail);try go_wp2)
  go_ret
  exact⟨e3,by repeat(first|exact dD.refl _|apply dD.step)⟩
 rw[if_pos c3]at H;have iZ:=jm c3;have tM:=jn c3
 have Bu:(l0.length==l1.length)=true:=by first|simpa using c3|(simp at c3⊢;omega)
 clear c3;have H':=Ah H;clear H
 go_enter Try.func44,Try.ntmps44
 go_wp2
 repeat(go_quiet (fail);try go_wp2)
 go_loopg [13] k (fun kq v13 w'=>∃ (bY:Int),v13= .int .i64 bY∧Y (kS.l0 kq l0 l1 (l0.length:Int) bY=some r)∧Y (kq≤k)∧dD w w')
 case atStart=>exact⟨(0),e3,H',⟨eH _⟩,by repeat(first|exact dD.refl _|apply dD.step)⟩
 case round=>
  clear H'
  try clear c1
  try clear p2
  try clear c3
  try clear iZ
  try clear tM
  try clear Bu
  obtain⟨bY,rfl,HA,dC,⟨m1,rfl⟩⟩:=hrel
  cases gk with
  |zero=>exact absurd HA.out (by simp[kS.l0])
  |succ k1=>
   have H:=HA.out;clear HA;simp only[kS.l0]at H
   by_cases c4:bY<(l0.length:Int)
   rotate_left
   ·
    rw[if_neg c4]at H;have ky:=f7 c4;clear c4;obtain rfl:=Ok H
    go_wp2
    repeat(go_quiet (fail);try go_wp2)
    go_ret
    exact⟨e3,by repeat(first|exact dD.refl _|apply dD.step)⟩
   rw[if_pos c4]at H;have ky:=bS c4;clear c4
   by_cases c5:0≤bY
   rotate_left
   ·
    rw[if_neg c5]at H;exact absurd H (by simp)
   rw[if_pos c5]at H;have o9:=bS c5;clear c5
   by_cases c6:bY<(l0.length:Int)
   rotate_left
   ·
    rw[if_neg c6]at H;exact absurd H (by simp)
   rw[if_pos c6]at H;have zn:=bS c6;clear c6
   by_cases c7:bY<(l1.length:Int)
   rotate_left
   ·
    rw[if_neg c7]at H;exact absurd H (by simp)
   rw[if_pos c7]at H;have tJ:=bS c7;clear c7
   by_cases c8:(!(((aC l0 bY).f0)==((aC l1 bY).f0))||(!(((aC l0 bY).f1)==((aC l1 bY).f1))))=true
   ·
    rw[if_pos c8]at H;have qW:(!(((aC l0 bY).f0)==((aC l1 bY).f0))||(!(((aC l0 bY).f1)==((aC l1 bY).f1))))=true:=c8;clear c8;obtain rfl:=Ok H;have EB:0≤(bY:Int):=od;have EC:bY<(l0.length:Int):=od;obtain⟨ad572,Yl,hx572_0,hx572_1⟩:=eA fg.out bY EB EC
    cases Yl
    replace EB:=eq_true EB;replace EC:=eq_true EC;have ED:0≤(bY:Int):=od;have EE:bY<(l1.length:Int):=od;obtain⟨ad573,Ym,hx573_0,hx573_1⟩:=eA HR1.out bY ED EE
    cases Ym
    replace ED:=eq_true ED;replace EE:=eq_true EE
    go_wp2
    repeat(go_quiet (fail);try go_wp2)
    go_ret
    exact⟨e3,by repeat(first|exact dD.refl _|apply dD.step)⟩
   rw[if_neg c8]at H
   have qW:(!(((aC l0 bY).f0)==((aC l1 bY).f0))||(!(((aC l0 bY).f1)==((aC l1 bY).f1))))=false:=by simpa using c8
   clear c8;have H':=Ah H;clear H;have EB:0≤(bY:Int):=od;have EC:bY<(l0.length:Int):=od;obtain⟨ad572,Yl,hx572_0,hx572_1⟩:=eA fg.out bY EB EC
   cases Yl
   replace EB:=eq_true EB;replace EC:=eq_true EC;have ED:0≤(bY:Int):=od;have EE:bY<(l1.length:Int):=od;obtain⟨ad573,Ym,hx573_0,hx573_1⟩:=eA HR1.out bY ED EE
   cases Ym
   replace ED:=eq_true ED;replace EE:=eq_true EE
   go_wp2
   repeat(go_quiet (fail);try go_wp2)
   go_roundg k1
   case measure=>have:=dC.out;omega
   case rel=>exact⟨(Ee (bY+1)),e3,H',⟨by have:=dC.out;omega⟩,by repeat(first|exact dD.refl _|apply dD.step)⟩
def jd.l0:Nat→Int→List Int→Int→Int→Option (Int)
 |0,_,_,_,_=>none
 |k+1,x3,x6,x7,x8=>if x8<x7 then(if 0≤x8 then(if x8<(x6.length:Int)then(if(rd x6 x8)=x3 then(jd.l0 k x3 x6 x7 (Ee (x8+1)))else(some (rd x6 x8)))else(none))else(none))else(some x3)
def jd.f(k:Nat)(l0:List Int):Option (Int):=jd.l0 k 0 l0 (l0.length:Int) 0
theorem jd.dh:∀k,(∀y0 y1 y2 y3,aG (jd.l0 k y0 y1 y2 y3) (jd.l0 (k+1) y0 y1 y2 y3))
 |0=>fun _ _ _ _ r h=>by simp[jd.l0]at h
 |k+1=>by
  have bz:=jd.dh k
  ·
   intro y0 y1 y2 y3;unfold jd.l0
   repeat' with_reducible first|exact bz _ _ _ _|exact aG.refl _|exact aG.none _|refine aG.ite ?_ ?_|refine aG.bind ?_ (fun _=> ?_)
theorem jd.mono:∀a0 k,aG (jd.f k a0) (jd.f (k+1) a0):=by
 intro a0 k;have bz:=jd.dh k;unfold jd.f
 repeat' with_reducible first|exact bz _ _ _ _|exact aG.refl _|exact aG.none _|refine aG.ite ?_ ?_|refine aG.bind ?_ (fun _=> ?_)
theorem jd.calls(k:Nat)(A0:Option Addr)(c0:Nat)(l0:List Int)(r:Int)(w:World)(hr0:Kd.C (Kd.int .i64) w A0 l0.length l0)(hc0:l0.length≤c0)(h:jd.f k l0=some r):
 Calls sX 62 #[.slice A0 l0.length c0] w fun e w'=>e= .returned (.int .i64 r)∧dD w w':=by
 have fg:=Ah hr0;have rU:=Ah hc0;clear hr0 hc0;have H:(jd.l0 k 0 l0 (l0.length:Int) 0)=some r:=h;clear h;have H':=Ah H;clear H
 go_enter Try.func62,Try.ntmps62
 go_wp2
 go_loopg [8] k (fun kq v8 w'=>∃ (dx:Int),v8= .int .i64 dx∧Y (jd.l0 kq 0 l0 (l0.length:Int) dx=some r)∧Y (kq≤k)∧dD w w')
 case atStart=>exact⟨(0),e3,H',⟨eH _⟩,by repeat(first|exact dD.refl _|apply dD.step)⟩
 case round=>
  clear H';obtain⟨dx,rfl,HA,dC,⟨m1,rfl⟩⟩:=hrel
  cases gk with
  |zero=>exact absurd HA.out (by simp[jd.l0])
  |succ k1=>
   have H:=HA.out;clear HA;simp only[jd.l0]at H
   by_cases c2:dx<(l0.length:Int)
   rotate_left
   ·
    rw[if_neg c2]at H;have sG:=f7 c2;clear c2;obtain rfl:=Ok H
    go_wp2
    go_ret
    exact⟨e3,by repeat(first|exact dD.refl _|apply dD.step)⟩
   rw[if_pos c2]at H;have sG:=bS c2;clear c2
   by_cases c3:0≤dx
   rotate_left
   ·
    rw[if_neg c3]at H;exact absurd H (by simp)
   rw[if_pos c3]at H;have iZ:=bS c3;clear c3
   by_cases c4:dx<(l0.length:Int)
   rotate_left
   ·
    rw[if_neg c4]at H;exact absurd H (by simp)
   rw[if_pos c4]at H;have ky:=bS c4;clear c4
   by_cases c5:(rd l0 dx)=0
   rotate_left
   ·
    rw[if_neg c5]at H;have o9:=jI c5;have Ru:=jJ c5;obtain rfl:=Ok H;have EF:0≤(dx:Int):=od;have EG:dx<(l0.length:Int):=od;obtain⟨ad576,Yn,hx576_0⟩:=Kd.JU fg.out dx EF EG
    cases Yn
    replace EF:=eq_true EF;replace EG:=eq_true EG
    go_wp2
    go_ret
    exact⟨e3,by repeat(first|exact dD.refl _|apply dD.step)⟩
   rw[if_pos c5]at H;have o9:=jm c5;have Ru:=jn c5;clear c5;have H':=Ah H;clear H;have EF:0≤(dx:Int):=od;have EG:dx<(l0.length:Int):=od;obtain⟨ad576,Yn,hx576_0⟩:=Kd.JU fg.out dx EF EG
   cases Yn
   replace EF:=eq_true EF;replace EG:=eq_true EG
   go_wp2
   go_roundg k1
   case measure=>have:=dC.out;omega
   case rel=>exact⟨(Ee (dx+1)),e3,H',⟨by have:=dC.out;omega⟩,by repeat(first|exact dD.refl _|apply dD.step)⟩
def cmp_isNaN_int.f(a0:Int):Option (Bool):=some (a0 !=a0)
theorem cmp_isNaN_int.calls(a0:Int)(r:Bool)(w:World)(h:cmp_isNaN_int.f a0=some r):
 Calls sX 74 #[.int .i64 a0] w fun e w'=>e= .returned (.bool r)∧dD w w':=by
 have H:(some (a0 !=a0))=some r:=h;clear h;obtain rfl:=Ok H
 go_enter abd,Try.ntmps74
 go_wp2
 go_ret
 exact⟨by first|rfl|(simp;done)|(simp[*];done),by repeat(first|exact dD.refl _|apply dD.step)⟩
def cmp_Compare_int.f(a0:Int)(a1:Int):Option (Int):=(cmp_isNaN_int.f a0).bind fun Mc=>((cmp_isNaN_int.f a1).bind fun C7=>(if Mc=true then(if C7=true then(some 0)else(some (-1)))else(if C7=true then(some 1)else(if a0<a1 then(some (-1))else(if a0>a1 then(some 1)else(some 0))))))
theorem cmp_Compare_int.calls(a0:Int)(a1:Int)(r:Int)(w:World)(h:cmp_Compare_int.f a0 a1=some r):
 Calls sX 63 #[.int .i64 a0,.int .i64 a1] w fun e w'=>e= .returned (.int .i64 r)∧dD w w':=by
 have H:((cmp_isNaN_int.f a0).bind fun Mc=>((cmp_isNaN_int.f a1).bind fun C7=>(if Mc=true then(if C7=true then(some 0)else(some (-1)))else(if C7=true then(some 1)else(if a0<a1 then(some (-1))else(if a0>a1 then(some 1)else(some 0)))))))=some r:=h;clear h;replace H:=Hc.mp H;obtain⟨Mc,dz,H⟩:=H
 try dsimp only at H
 have A3:=Ah dz;clear dz;replace H:=Hc.mp H;obtain⟨C7,fc,H⟩:=H
 try dsimp only at H
 have A4:=Ah fc;clear fc
 by_cases c5:Mc=true
 ·
  subst c5;rw[if_pos rfl]at H
  by_cases c6:C7=true
  ·
   subst c6;rw[if_pos rfl]at H;obtain rfl:=Ok H
   go_enter abp,abT
   go_wp2_with (first|((with_reducible refine bN (f:=74) rfl ?_);refine gL (some 8) rfl rfl abd (by kernel_rfl) rfl #[.int .i64 a0] rfl ?_;(with_reducible refine(cmp_isNaN_int.calls a0 true _ A3.out).mono ?_);rintro e w' ⟨rfl,⟨nd,rfl⟩⟩;refine⟨_,rfl, ?_⟩)|((with_reducible refine bN (f:=74) rfl ?_);refine gL (some 10) rfl rfl abd (by kernel_rfl) rfl #[.int .i64 a1] rfl ?_;(with_reducible refine(cmp_isNaN_int.calls a1 true _ A4.out).mono ?_);rintro e w' ⟨rfl,⟨nd,rfl⟩⟩;refine⟨_,rfl, ?_⟩))
   go_ret
   exact⟨e3,by repeat(first|exact dD.refl _|apply dD.step)⟩
  replace c6:=Q3.mpr c6;subst c6;rw[if_neg dc]at H;obtain rfl:=Ok H
  go_enter abp,abT
  go_wp2_with (first|((with_reducible refine bN (f:=74) rfl ?_);refine gL (some 8) rfl rfl abd (by kernel_rfl) rfl #[.int .i64 a0] rfl ?_;(with_reducible refine(cmp_isNaN_int.calls a0 true _ A3.out).mono ?_);rintro e w' ⟨rfl,⟨nd,rfl⟩⟩;refine⟨_,rfl, ?_⟩)|((with_reducible refine bN (f:=74) rfl ?_);refine gL (some 10) rfl rfl abd (by kernel_rfl) rfl #[.int .i64 a1] rfl ?_;(with_reducible refine(cmp_isNaN_int.calls a1 false _ A4.out).mono ?_);rintro e w' ⟨rfl,⟨nd,rfl⟩⟩;refine⟨_,rfl, ?_⟩))
  go_ret
  exact⟨e3,by repeat(first|exact dD.refl _|apply dD.step)⟩
 replace c5:=Q3.mpr c5;subst c5;rw[if_neg dc]at H
 by_cases c7:C7=true
 ·
  subst c7;rw[if_pos rfl]at H;obtain rfl:=Ok H
  go_enter abp,abT
  go_wp2_with (first|((with_reducible refine bN (f:=74) rfl ?_);refine gL (some 8) rfl rfl abd (by kernel_rfl) rfl #[.int .i64 a0] rfl ?_;(with_reducible refine(cmp_isNaN_int.calls a0 false _ A3.out).mono ?_);rintro e w' ⟨rfl,⟨nd,rfl⟩⟩;refine⟨_,rfl, ?_⟩)|((with_reducible refine bN (f:=74) rfl ?_);refine gL (some 10) rfl rfl abd (by kernel_rfl) rfl #[.int .i64 a1] rfl ?_;(with_reducible refine(cmp_isNaN_int.calls a1 true _ A4.out).mono ?_);rintro e w' ⟨rfl,⟨nd,rfl⟩⟩;refine⟨_,rfl, ?_⟩))
  go_ret
  exact⟨e3,by repeat(first|exact dD.refl _|apply dD.step)⟩
 replace c7:=Q3.mpr c7;subst c7;rw[if_neg dc]at H
 by_cases c8:a0<a1
 ·
  rw[if_pos c8]at H;have qW:=bS c8;clear c8;obtain rfl:=Ok H
  go_enter abp,abT
  go_wp2_with (first|((with_reducible refine bN (f:=74) rfl ?_);refine gL (some 8) rfl rfl abd (by kernel_rfl) rfl #[.int .i64 a0] rfl ?_;(with_reducible refine(cmp_isNaN_int.calls a0 false _ A3.out).mono ?_);rintro e w' ⟨rfl,⟨nd,rfl⟩⟩;refine⟨_,rfl, ?_⟩)|((with_reducible refine bN (f:=74) rfl ?_);refine gL (some 10) rfl rfl abd (by kernel_rfl) rfl #[.int .i64 a1] rfl ?_;(with_reducible refine(cmp_isNaN_int.calls a1 false _ A4.out).mono ?_);rintro e w' ⟨rfl,⟨nd,rfl⟩⟩;refine⟨_,rfl, ?_⟩))
  go_ret
  exact⟨e3,by repeat(first|exact dD.refl _|apply dD.step)⟩
 rw[if_neg c8]at H;have qW:=f7 c8;clear c8
 by_cases c9:a0>a1
 ·
  rw[if_pos c9]at H;have pO:=bS c9;clear c9;obtain rfl:=Ok H
  go_enter abp,abT
  go_wp2_with (first|((with_reducible refine bN (f:=74) rfl ?_);refine gL (some 8) rfl rfl abd (by kernel_rfl) rfl #[.int .i64 a0] rfl ?_;(with_reducible refine(cmp_isNaN_int.calls a0 false _ A3.out).mono ?_);rintro e w' ⟨rfl,⟨nd,rfl⟩⟩;refine⟨_,rfl, ?_⟩)|((with_reducible refine bN (f:=74) rfl ?_);refine gL (some 10) rfl rfl abd (by kernel_rfl) rfl #[.int .i64 a1] rfl ?_;(with_reducible refine(cmp_isNaN_int.calls a1 false _ A4.out).mono ?_);rintro e w' ⟨rfl,⟨nd,rfl⟩⟩;refine⟨_,rfl, ?_⟩))
  go_ret
  exact⟨e3,by repeat(first|exact dD.refl _|apply dD.step)⟩
 rw[if_neg c9]at H;have pO:=f7 c9;clear c9;obtain rfl:=Ok H
 go_enter abp,abT
 go_wp2_with (first|((with_reducible refine bN (f:=74) rfl ?_);refine gL (some 8) rfl rfl abd (by kernel_rfl) rfl #[.int .i64 a0] rfl ?_;(with_reducible refine(cmp_isNaN_int.calls a0 false _ A3.out).mono ?_);rintro e w' ⟨rfl,⟨nd,rfl⟩⟩;refine⟨_,rfl, ?_⟩)|((with_reducible refine bN (f:=74) rfl ?_);refine gL (some 10) rfl rfl abd (by kernel_rfl) rfl #[.int .i64 a1] rfl ?_;(with_reducible refine(cmp_isNaN_int.calls a1 false _ A4.out).mono ?_);rintro e w' ⟨rfl,⟨nd,rfl⟩⟩;refine⟨_,rfl, ?_⟩))
 go_ret
 exact⟨e3,by repeat(first|exact dD.refl _|apply dD.step)⟩
def n7.f(k:Nat)(aA:Int)(dI:Int)(av:Int)(bB:Int):Option (Int):=(cmp_Compare_int.f dI bB).bind fun ob=>((cmp_Compare_int.f aA av).bind fun oc=>((jd.f k (([ob,oc]:List Int))).bind fun tN=>(some tN)))
theorem n7.mono:∀a0 a1 a2 a3 k,aG (n7.f k a0 a1 a2 a3) (n7.f (k+1) a0 a1 a2 a3):=by
 intro a0 a1 a2 a3 k;unfold n7.f
 repeat' with_reducible first|exact jd.mono _ _|exact aG.refl _|exact aG.none _|refine aG.ite ?_ ?_|refine aG.bind ?_ (fun _=> ?_)
def n7.T1:Bool×List (List Nat×List Nat):=(true,[([],[]),([0],[0]),([],[]),([2],[2]),([1,3],[1,3]),([],[]),([5],[5]),([],[]),([7],[7]),([6,8,4],[6,8]),([4,9],[4,9]),([10,9],[10]),([11,11,0,1,2,3,4,5,6,7,8,9,10,11],[11])])
def n7.B1:List Nat:=[0,1,0,4,15,0,32,0,128,511,1023,2047,4095]
theorem n7.Gq:j7 .any (vO Try.f58 1)=n7.T1:=by kernel_rfl
theorem n7.GH:qD n7.T1.2 n7.B1=true:=by kernel_rfl
theorem n7.calls(k:Nat)(aA:Int)(dI:Int)(av:Int)(bB:Int)(r:Int)(w:World)(h:n7.f k aA dI av bB=some r):
 Calls sX 58 #[.agg #[.int .i64 aA,.int .i64 dI],.agg #[.int .i64 av,.int .i64 bB]] w fun e w'=>e= .returned (.int .i64 r)∧Below w.heap.size w w':=by
 have lM:=aap;have HB:=Ah (gR w.heap.size w);have H:((cmp_Compare_int.f dI bB).bind fun ob=>((cmp_Compare_int.f aA av).bind fun oc=>((jd.f k (([ob,oc]:List Int))).bind fun tN=>(some tN))))=some r:=h;clear h;replace H:=Hc.mp H;obtain⟨ob,dz,H⟩:=H
 try dsimp only at H
 have A3:=Ah dz;clear dz;replace H:=Hc.mp H;obtain⟨oc,fc,H⟩:=H
 try dsimp only at H
 have A4:=Ah fc;clear fc;obtain⟨EH,vZ⟩:∃y_:List Int,y_=(([ob,oc]:List Int)):=⟨_,rfl⟩
 replace H:((jd.f k EH).bind fun tN=>(some tN))=some r:=by first|(rw[vZ];with_reducible exact H)|(have ai:=(N6 _ _).symm.trans H;rw[vZ];with_reducible exact ai)|(have ai:=(N6 _ _).symm.trans H;with_reducible exact ai)|with_reducible exact H|(rw[vZ];exact H)|exact H
 have Kr:=Ah vZ;clear vZ;replace H:=Hc.mp H;obtain⟨tN,lD,H⟩:=H
 try dsimp only at H
 have A5:=Ah lD;clear lD;obtain rfl:=Ok H
 go_enter Try.func58,Try.ntmps58
 try go_wp2_with (first|((with_reducible refine am (N:=2) rfl ?_);refine ar 2 38 #[.int .i64 aA,.int .i64 dI] ?_;intro Ks hg w6 iM hb;have GW579:=gw hg (bs HB);have tD:=gw hg (bs HB);replace HB:=Ah (aK (bs HB) hb);clear hb hg)|((with_reducible refine am (N:=3) rfl ?_);refine ar 3 38 #[.int .i64 av,.int .i64 bB] ?_;intro Kt hg w7 kF hb;have GW580:=gw hg (aQ HB tD);have DX:=gw hg (aQ HB tD);replace HB:=Ah (aK (aQ HB tD) hb);have NB579_580:=nn iM hg;have NB580_579:=nm iM hg;replace iM:=nb iM hb;clear hb hg))
 replace iM:=Ah (bL iM.out);replace kF:=Ah (bL kF.out);replace HB:=Ah (ln HB.out);refine nB (n:=13) (S:=fun w'=>w'.cell? ⟨Ks,0,none⟩=some (.int .i64 aA)∧w'.cell? ⟨Ks,1,none⟩=some (.int .i64 dI)∧w'.cell? ⟨Kt,0,none⟩=some (.int .i64 av)∧w'.cell? ⟨Kt,1,none⟩=some (.int .i64 bB)) (ds:=[]) #[false,false,false,false,false,false,false,false,false,false,false,false,false] (by kernel_rfl) rfl rfl ⟨(aI iM.out 0).trans rfl,(aI iM.out 1).trans rfl,(aI kF.out 0).trans rfl,(aI kF.out 1).trans rfl⟩ (fun hHeld=> ?_);refine nK n7.Gq n7.GH (fun aD dL=> ?_)
 generalize w7.drew=w8 at iM kF HB hHeld⊢
 refine ap 0 5 aD.out ?_;refine ap 2 7 aD.out ?_;refine ap 5 10 aD.out ?_;refine ap 7 12 aD.out ?_;refine f4 1 6 aD.out dL.out hHeld (hr:=by rintro w' ⟨s0,s1,s2,s3⟩;go_simp;with_reducible rfl) (h:= ?_);refine f4 3 8 aD.out dL.out hHeld (hr:=by rintro w' ⟨s0,s1,s2,s3⟩;go_simp;with_reducible rfl) (h:= ?_);refine f4 6 11 aD.out dL.out hHeld (hr:=by rintro w' ⟨s0,s1,s2,s3⟩;go_simp;with_reducible rfl) (h:= ?_);refine f4 8 13 aD.out dL.out hHeld (hr:=by rintro w' ⟨s0,s1,s2,s3⟩;go_simp;with_reducible rfl) (h:= ?_);refine i3 (i:=4) (N:=some 9) #[true,true,true,true,true,true,true,true,true,false,false,false,false] rfl rfl (hG aD.out (by kernel_rfl)) (by decide) (fun K hK=> ?_);refine ir Try.func63 (by kernel_rfl) rfl #[.int .i64 dI,.int .i64 bB] (by rfl) rfl rfl (by(try simp only[List.map_toArray,List.map_cons,List.map_nil]);first|done|rfl|(simp only[List.length_drop,List.length_take];rfl)) ?_
 with_reducible refine(cmp_Compare_int.calls dI bB ob _ A3.out).mono ?_
 rintro e w' ⟨rfl,⟨nd,rfl⟩⟩;refine⟨_,rfl, ?_⟩;refine hK.out _ _ ⟨(aI iM.out 0).trans rfl,(aI iM.out 1).trans rfl,(aI kF.out 0).trans rfl,(aI kF.out 1).trans rfl⟩ (fun hHeld=> ?_);clear hK K;refine nq 9 ?_;refine i3 (i:=9) (N:=some 14) #[true,true,true,true,true,true,true,true,true,true,false,false,false] rfl rfl (hG aD.out (by kernel_rfl)) (by decide) (fun K hK=> ?_);refine ir abp (by kernel_rfl) rfl #[.int .i64 aA,.int .i64 av] (by rfl) rfl rfl (by(try simp only[ib,aac,aai]);first|done|rfl|(simp only[fM,aN];rfl)) ?_
 with_reducible refine(cmp_Compare_int.calls aA av oc _ A4.out).mono ?_
 rintro e w' ⟨rfl,⟨nd,rfl⟩⟩;refine⟨_,rfl, ?_⟩;refine hK.out _ _ ⟨(aI iM.out 0).trans rfl,(aI iM.out 1).trans rfl,(aI kF.out 0).trans rfl,(aI kF.out 1).trans rfl⟩ (fun hHeld=> ?_);clear hK K;refine nq 14 ?_;refine i3 (i:=10) (N:=some 15) #[true,true,true,true,true,true,true,true,true,true,true,false,false] rfl rfl (hG aD.out (by kernel_rfl)) (by decide) (fun K hK=> ?_);refine Kd.R_lit_step (Kd.int .i64) _ 3 ?hg (N:=15) ?hd (xs:=([ob,oc]:List Int)) (inner:=[.int .i64 ob,.int .i64 oc]) (ok:=fun _=>True) (okp:=fun _=>True) ?hr ?hp (fun _ hk=>hk) trivial (gR _ _) (eH _) (by simp) ?_;(case hd=>rfl);(case hg=>rfl);(case hr=>first|(go_simp;done)|(go_simp;rfl));(case hp=>exact(cX.one (show Kd.M (Kd.int .i64) _ _ _ ob [.int .i64 ob]from rfl) (cX.one (show Kd.M (Kd.int .i64) _ _ _ oc [.int .i64 oc]from rfl) (cX.none _ _))));intro v584 w9 wU hb mL m9;clear mL m9;(first|rw[←Kr.out]at wU|(simp only[Int.reduceToNat]at wU;rw[←Kr.out]at wU));have DY:=Ah (Kd.bq wU (bR (aa HB tD DX)));replace iM:=Ah (bb iM hb);replace kF:=Ah (bb kF hb);replace HB:=Ah (aK (aa HB tD DX) hb);clear hb wU;obtain⟨dp,dq,tI⟩:=Kd.ax DY.out;(first|subst tI|(injection tI with fd jK fe;have jL:=fd.symm;have jM:=fe.symm;clear fd jK fe;subst jL;subst jM));refine hK.out _ _ ⟨(aI iM.out 0).trans rfl,(aI iM.out 1).trans rfl,(aI kF.out 0).trans rfl,(aI kF.out 1).trans rfl⟩ (fun hHeld=> ?_);clear hK K;refine nq 15 ?_;refine i3 (i:=11) (N:=some 16) #[true,true,true,true,true,true,true,true,true,true,true,true,false] rfl rfl (hG aD.out (by kernel_rfl)) (by decide) (fun K hK=> ?_);refine ir Try.func62 (by kernel_rfl) rfl #[.slice dp EH.length dq] (by rfl) rfl rfl (by(try simp only[ib,aac,aai]);first|done|rfl|(simp only[fM,aN];rfl)) ?_
 with_reducible refine(jd.calls k _ _ EH tN _ ?aJ ?aM A5.out).mono ?_
 (case aJ=>exact df DY);(case aM=>exact(Kd.ab DY.out).2.1);rintro e w' ⟨rfl,⟨nd,rfl⟩⟩;refine⟨_,rfl, ?_⟩;refine hK.out _ _ ⟨(aI iM.out 0).trans rfl,(aI iM.out 1).trans rfl,(aI kF.out 0).trans rfl,(aI kF.out 1).trans rfl⟩ (fun hHeld=> ?_);clear hK K;refine nq 16 ?_;refine ap 12 4 aD.out ?_;refine m5 (mO aD.out (by kernel_rfl)) ?_
 try go_wp2
 go_ret
 exact⟨er,aa HB tD DX⟩
theorem n7.exact(k:Nat)(aA:Int)(dI:Int)(av:Int)(bB:Int)(r:Int)(w:World)(h:n7.f k aA dI av bB=some r):
 Calls sX 58 #[.agg #[.int .i64 aA,.int .i64 dI],.agg #[.int .i64 av,.int .i64 bB]] w fun e w'=>e= .returned (.int .i64 r)∧Below w.heap.size w w'∧w.drawn≤w'.drawn:=by
 have DR:=Ah (eH w.drawn);have lM:=aap;have HB:=Ah (gR w.heap.size w);have H:((cmp_Compare_int.f dI bB).bind fun ob=>((cmp_Compare_int.f aA av).bind fun oc=>((jd.f k (([ob,oc]:List Int))).bind fun tN=>(some tN))))=some r:=h;clear h;replace H:=Hc.mp H;obtain⟨ob,dz,H⟩:=H
 try dsimp only at H
 have A3:=Ah dz;clear dz;replace H:=Hc.mp H;obtain⟨oc,fc,H⟩:=H
 try dsimp only at H
 have A4:=Ah fc;clear fc;obtain⟨EH,vZ⟩:∃y_:List Int,y_=(([ob,oc]:List Int)):=⟨_,rfl⟩
 replace H:((jd.f k EH).bind fun tN=>(some tN))=some r:=by first|(rw[vZ];with_reducible exact H)|(have ai:=(N6 _ _).symm.trans H;rw[vZ];with_reducible exact ai)|(have ai:=(N6 _ _).symm.trans H;with_reducible exact ai)|with_reducible exact H|(rw[vZ];exact H)|exact H
 have Kr:=Ah vZ;clear vZ;replace H:=Hc.mp H;obtain⟨tN,lD,H⟩:=H
 try dsimp only at H
 have A5:=Ah lD;clear lD;obtain rfl:=Ok H
 go_enter Try.func58,Try.ntmps58
 try go_wp2_with (first|((with_reducible refine am (N:=2) rfl ?_);refine box_eventD ?hg (N:=2) ?hd (cs:= #[.int .i64 aA,.int .i64 dI]) (t:=38) ?hr ?_;(case hd=>rfl);(case hg=>rfl);(case hr=>first|(go_simp;done)|(go_simp;rfl));intro Ks hg w6 hbox hb C8;replace DR:=Ah (aax DR.out (aaq C8.symm));clear C8;have iM:=Ah (hbox);have GW579:=gw hg (bs HB);have tD:=gw hg (bs HB);replace HB:=Ah (aK (bs HB) hb);clear hb hbox hg)|((with_reducible refine am (N:=3) rfl ?_);refine box_eventD ?hg (N:=3) ?hd (cs:= #[.int .i64 av,.int .i64 bB]) (t:=38) ?hr ?_;(case hd=>rfl);(case hg=>rfl);(case hr=>first|(go_simp;done)|(go_simp;rfl));intro Kt hg w7 hbox hb C8;replace DR:=Ah (aax DR.out (aaq C8.symm));clear C8;have kF:=Ah (hbox);have GW580:=gw hg (aQ HB tD);have DX:=gw hg (aQ HB tD);replace HB:=Ah (aK (aQ HB tD) hb);have NB579_580:=nn iM hg;have NB580_579:=nm iM hg;replace iM:=nb iM hb;clear hb hbox hg))
 replace iM:=Ah (bL iM.out);replace kF:=Ah (bL kF.out);replace HB:=Ah (ln HB.out);refine nB (n:=13) (S:=fun w'=>w'.cell? ⟨Ks,0,none⟩=some (.int .i64 aA)∧w'.cell? ⟨Ks,1,none⟩=some (.int .i64 dI)∧w'.cell? ⟨Kt,0,none⟩=some (.int .i64 av)∧w'.cell? ⟨Kt,1,none⟩=some (.int .i64 bB)) (ds:=[]) #[false,false,false,false,false,false,false,false,false,false,false,false,false] (by kernel_rfl) rfl rfl ⟨(aI iM.out 0).trans rfl,(aI iM.out 1).trans rfl,(aI kF.out 0).trans rfl,(aI kF.out 1).trans rfl⟩ (fun hHeld=> ?_);refine nK n7.Gq n7.GH (fun aD dL=> ?_);have Nh:w.drawn≤(w7.drew).drawn:=aax DR.out (Nat.le_succ _);replace DR:=Ah Nh;clear Nh
 generalize w7.drew=w8 at DR iM kF HB hHeld⊢
 refine ap 0 5 aD.out ?_;refine ap 2 7 aD.out ?_;refine ap 5 10 aD.out ?_;refine ap 7 12 aD.out ?_;refine f4 1 6 aD.out dL.out hHeld (hr:=by rintro w' ⟨s0,s1,s2,s3⟩;go_simp;with_reducible rfl) (h:= ?_);refine f4 3 8 aD.out dL.out hHeld (hr:=by rintro w' ⟨s0,s1,s2,s3⟩;go_simp;with_reducible rfl) (h:= ?_);refine f4 6 11 aD.out dL.out hHeld (hr:=by rintro w' ⟨s0,s1,s2,s3⟩;go_simp;with_reducible rfl) (h:= ?_);refine f4 8 13 aD.out dL.out hHeld (hr:=by rintro w' ⟨s0,s1,s2,s3⟩;go_simp;with_reducible rfl) (h:= ?_);refine i3 (i:=4) (N:=some 9) #[true,true,true,true,true,true,true,true,true,false,false,false,false] rfl rfl (hG aD.out (by kernel_rfl)) (by decide) (fun K hK=> ?_);refine ir Try.func63 (by kernel_rfl) rfl #[.int .i64 dI,.int .i64 bB] (by rfl) rfl rfl (by(try simp only[List.map_toArray,List.map_cons,List.map_nil]);first|done|rfl|(simp only[List.length_drop,List.length_take];rfl)) ?_
 with_reducible refine(cmp_Compare_int.calls dI bB ob _ A3.out).mono ?_
 rintro e w' ⟨rfl,⟨nd,rfl⟩⟩;refine⟨_,rfl, ?_⟩;refine hK.out _ _ ⟨(aI iM.out 0).trans rfl,(aI iM.out 1).trans rfl,(aI kF.out 0).trans rfl,(aI kF.out 1).trans rfl⟩ (fun hHeld=> ?_);clear hK K;refine nq 9 ?_;refine i3 (i:=9) (N:=some 14) #[true,true,true,true,true,true,true,true,true,true,false,false,false] rfl rfl (hG aD.out (by kernel_rfl)) (by decide) (fun K hK=> ?_);refine ir abp (by kernel_rfl) rfl #[.int .i64 aA,.int .i64 av] (by rfl) rfl rfl (by(try simp only[ib,aac,aai]);first|done|rfl|(simp only[fM,aN];rfl)) ?_
 with_reducible refine(cmp_Compare_int.calls aA av oc _ A4.out).mono ?_
 rintro e w' ⟨rfl,⟨nd,rfl⟩⟩;refine⟨_,rfl, ?_⟩;refine hK.out _ _ ⟨(aI iM.out 0).trans rfl,(aI iM.out 1).trans rfl,(aI kF.out 0).trans rfl,(aI kF.out 1).trans rfl⟩ (fun hHeld=> ?_);clear hK K;refine nq 14 ?_;refine i3 (i:=10) (N:=some 15) #[true,true,true,true,true,true,true,true,true,true,true,false,false] rfl rfl (hG aD.out (by kernel_rfl)) (by decide) (fun K hK=> ?_);refine Kd.R_lit_stepD (Kd.int .i64) _ 3 ?hg (N:=15) ?hd (xs:=([ob,oc]:List Int)) (inner:=[.int .i64 ob,.int .i64 oc]) (ok:=fun _=>True) (okp:=fun _=>True) ?hr ?hp (fun _ hk=>hk) trivial (gR _ _) (eH _) (by simp) ?_;(case hd=>rfl);(case hg=>rfl);(case hr=>first|(go_simp;done)|(go_simp;rfl));(case hp=>exact(cX.one (show Kd.M (Kd.int .i64) _ _ _ ob [.int .i64 ob]from rfl) (cX.one (show Kd.M (Kd.int .i64) _ _ _ oc [.int .i64 oc]from rfl) (cX.none _ _))));intro v584 w9 wU hb mL m9 C8
 have Nh:w.drawn≤w9.drawn:=by have Nl:=DR.out;rw[C8];simp only[World.drewN];omega
 replace DR:=Ah Nh;clear Nh C8 mL m9;(first|rw[←Kr.out]at wU|(simp only[Int.reduceToNat]at wU;rw[←Kr.out]at wU));have DY:=Ah (Kd.bq wU (bR (aa HB tD DX)));replace iM:=Ah (bb iM hb);replace kF:=Ah (bb kF hb);replace HB:=Ah (aK (aa HB tD DX) hb);clear hb wU;obtain⟨dp,dq,tI⟩:=Kd.ax DY.out;(first|subst tI|(injection tI with fd jK fe;have jL:=fd.symm;have jM:=fe.symm;clear fd jK fe;subst jL;subst jM));refine hK.out _ _ ⟨(aI iM.out 0).trans rfl,(aI iM.out 1).trans rfl,(aI kF.out 0).trans rfl,(aI kF.out 1).trans rfl⟩ (fun hHeld=> ?_);clear hK K;refine nq 15 ?_;refine i3 (i:=11) (N:=some 16) #[true,true,true,true,true,true,true,true,true,true,true,true,false] rfl rfl (hG aD.out (by kernel_rfl)) (by decide) (fun K hK=> ?_);refine ir Try.func62 (by kernel_rfl) rfl #[.slice dp EH.length dq] (by rfl) rfl rfl (by(try simp only[ib,aac,aai]);first|done|rfl|(simp only[fM,aN];rfl)) ?_
 with_reducible refine(jd.calls k _ _ EH tN _ ?aJ ?aM A5.out).mono ?_
 (case aJ=>exact df DY);(case aM=>exact(Kd.ab DY.out).2.1);rintro e w' ⟨rfl,⟨nd,rfl⟩⟩;refine⟨_,rfl, ?_⟩;refine hK.out _ _ ⟨(aI iM.out 0).trans rfl,(aI iM.out 1).trans rfl,(aI kF.out 0).trans rfl,(aI kF.out 1).trans rfl⟩ (fun hHeld=> ?_);clear hK K;refine nq 16 ?_;refine ap 12 4 aD.out ?_;refine m5 (mO aD.out (by kernel_rfl)) ?_
 try go_wp2
 go_ret
 exact⟨er,aa HB tD DX,by have Nl:=DR.out;first|exact Nl|(simp only[World.drewN];omega)⟩
def Az(x y:X):Bool:=decide (x.f1<y.f1∨x.f1=y.f1∧x.f0≤y.f0)
def ub.f(l0:List X):Option (List X):=if l0.length≤1048576 then some (l0.mergeSort Az)else none
def xp(a b:Int):Int:=if a<b then -1 else if a>b then 1 else 0
def yg(x y:X):Int:=if xp x.f1 y.f1=0 then xp x.f0 y.f0 else xp x.f1 y.f1
theorem cmpInts_eq(a b:Int):cmp_Compare_int.f a b=some (xp a b):=by
 unfold cmp_Compare_int.f cmp_isNaN_int.f xp
 have e:(a !=a)=false:=by simp
 have e2:(b !=b)=false:=by simp
 rw[e,e2];simp only[N6,Bool.false_eq_true,if_false]
 by_cases h1:a<b
 ·rw[if_pos h1,if_pos h1]
 ·rw[if_neg h1,if_neg h1]
  by_cases h2:a>b
  ·rw[if_pos h2,if_pos h2]
  ·rw[if_neg h2,if_neg h2]
theorem cmpOr_eq(a b:Int):jd.f 3 [a,b]=some (if a=0 then b else a):=by
 have w1:Ee (0+1)=1:=by unfold Ee;omega
 have w2:Ee (1+1)=2:=by unfold Ee;omega
 unfold jd.f;have l:(([a,b]:List Int).length:Int)=2:=rfl;rw[l,jd.l0,if_pos (by decide),if_pos (by decide),l,if_pos (by decide),show rd [a,b] 0=a from rfl]
 by_cases h:a=0
 ·rw[if_pos h,if_pos h,w1,jd.l0,if_pos (by decide),if_pos (by decide),l,if_pos (by decide),show rd [a,b] 1=b from rfl]
  by_cases h2:b=0
  ·rw[if_pos h2,w2,jd.l0,if_neg (by decide),h2]
  ·rw[if_neg h2]
 ·rw[if_neg h,if_neg h]
theorem cmpSizes_eq(x y:X):n7.f 3 x.f0 x.f1 y.f0 y.f1=some (yg x y):=by
 unfold n7.f;rw[cmpInts_eq,N6,cmpInts_eq,N6,cmpOr_eq,N6]
 rfl
theorem cmpInts_lt(a b:Int):xp a b<0↔a<b:=by
 unfold xp
 split
 ·omega
 ·split<;>omega
theorem cmpInts_zero(a b:Int):xp a b=0↔a=b:=by
 unfold xp
 split
 ·omega
 ·split<;>omega
theorem Ht(x y:X):Go.Proofs.ltOf yg x y=decide (x.f1<y.f1∨x.f1=y.f1∧x.f0<y.f0):=by
 unfold Go.Proofs.ltOf yg;refine decide_eq_decide.2 ?_
 by_cases h:xp x.f1 y.f1=0
 ·rw[if_pos h,cmpInts_lt]
  have:=(cmpInts_zero _ _).1 h
  omega
 ·rw[if_neg h,cmpInts_lt]
  have:x.f1≠y.f1:=fun e=>h ((cmpInts_zero _ _).2 e)
  omega
def IW(x:X):List Value:=[.int .i64 x.f0,.int .i64 x.f1]
instance:Inhabited X:=⟨ey⟩
theorem swoSizes:Go.Sort.SWO (Go.Proofs.ltOf yg) where
 irrefl x:=by rw[Ht];simp
 trans x y z h1 h2:=by rw[Ht]at *;simp only[decide_eq_true_eq]at *;omega
 ntrans x y z h1 h2:=by rw[Ht]at *;simp only[decide_eq_false_iff_not]at *;omega
theorem totSizes(x y:X)(h1:Go.Proofs.ltOf yg x y=false)(h2:Go.Proofs.ltOf yg y x=false):x=y:=by
 rw[Ht]at *;simp only[decide_eq_false_iff_not]at *;obtain⟨a,b⟩:=x;obtain⟨c,d⟩:=y;simp only at *;rw[show a=c by omega,show b=d by omega]
theorem leSizes_eq:(fun x y=> !(Go.Proofs.ltOf yg) y x)=Az:=by
 funext x y
 rw[Ht];unfold Az;rw[Bool.eq_iff_iff,Bool.not_eq_true',decide_eq_false_iff_not,decide_eq_true_iff]
 omega
set_option maxRecDepth 100000 in
theorem ub.calls(Zw:Nat→Prop)(DA:Value)(l0:List X)(r:List X)(w0 w:World)(hB:Below w0.heap.size w0 w)(ho0:Kd.R ag 38 w w0.heap.size Zw DA l0)(h:ub.f l0=some r):
 Calls sX 57 #[DA,.func (.func 58) #[] #[]] w fun e w'=>e= .returned (.tuple #[])∧Kd.R ag 38 w' w0.heap.size (fun k_=>(Zw k_∨w.heap.size≤k_)) DA r∧Below w0.heap.size w0 w'∧dU w w' (fun k_=>Zw k_):=by
 unfold ub.f at h
 by_cases hl0:l0.length≤1048576
 case neg=>rw[if_neg hl0]at h;cases h
 rw[if_pos hl0]at h;obtain rfl:=Ok h
 rcases holdsK_of_R (d:=ag) IW (fun _=>rfl) (by decide) (fun hm=>te hm) ho0 with⟨rfl,rfl⟩|⟨g,cap,cur,rfl,hb,hok,hlt,hg,hc,hm,hs,hH⟩
 ·refine(Go.Proofs.AnyF.slices_SortFunc_none Go.Proofs.Ytahnkgehlfdlkaa.Srt.sortEx none 0 _ w).mono fun e w' hp=> ?_
  obtain⟨rfl,rfl⟩:=hp;exact⟨rfl,by simpa using Kd.dG _ _ _ _ _,hB,dU.refl _ _⟩
 ·have eg:∀args w,(callFunc 58 args).run sX w= .ok (.enter 58 args) w:=Go.Proofs.enters_of Try.func58 (by kernel_rfl) rfl
  have hcmp:Go.Proofs.CmpLays sX 58 #[] IW 2 yg g 0 l0.toArray.size w:=fun m os dk _ x y=>
   (n7.exact 3 x.f0 x.f1 y.f0 y.f1 _ _ (cmpSizes_eq x y)).mono fun e w' hp=>⟨hp.1,grow_of_below hp.2.1 hp.2.2⟩
  have hm':cap≤9223372036854775807:=hm
  have hsz:l0.toArray.size<4611686018427387904:=by
   rw[List.size_toArray]
   omega
  have hcon:=Go.Proofs.AnyQ.slices_SortFunc_total Go.Proofs.Ytahnkgehlfdlkaa.Srt.sortEx 2 Try.isAgg38 Try.sizeOf38 IW (fun _=>rfl) (fun x v hv=>by simp[IW]at hv;rcases hv with rfl|rfl<;>rfl) yg swoSizes 58 #[] g 0 cap l0.toArray w eg hcmp hH hlt hsz totSizes
  refine Calls.mono (show Calls sX 57 #[.slice (some ⟨g,0,none⟩) l0.length cap,.func (.func 58) #[] #[]] w _ from hcon) fun e w' hp=> ?_
  obtain⟨rfl,n,os,rfl⟩:=hp;rw[leSizes_eq];have:=R_of_sort (d:=ag) IW (fun _=>rfl) (by decide) (fun W base ok x=>nA W base ok x) hB hb hok hlt hg hc hm hs (l0.mergeSort Az).toArray (by simp) n os;have h1:=this.1
  simp at h1
  exact⟨rfl,h1,this.2.1,this.2.2⟩
def ya.f(a0:Int)(l1:List (X)):Option (Int×(List (X))×(List (X))):=(oE.f l1).bind fun tO=>((ub.f tO).bind fun Md=>(some (a0,l1,Md)))
theorem ya.calls(a0:Int)(pQ:Nat→Prop)(A1:Option Addr)(c1:Nat)(l1:List (X))(r1:Int)(r2:List (X))(r3:List (X))(w:World)(hs1:Kd.V ag 38 w w.heap.size (fun k_=>pQ k_) (.slice A1 l1.length c1) l1)(h:ya.f a0 l1=some (r1,r2,r3)):
 Calls Try.prog 45 #[.int .i64 a0,.slice A1 l1.length c1] w fun e w'=>∃et eZ:Value,e= .returned (.agg #[.int .i64 r1,et,eZ])∧Kd.V ag 38 w' w.heap.size (fun k_=>(pQ k_∨w.heap.size≤k_)∧some k_≠(eZ:Value).ownBlock) et r2∧Kd.R ag 38 w' w.heap.size (fun k_=>(w.heap.size≤k_)) eZ r3∧Below w.heap.size w w':=by
 have o8:=aah;have nY:=Ah (show Kd.V ag 38 w w.heap.size (fun k_=>(pQ k_∨w.heap.size≤k_)) (.slice A1 l1.length c1) l1 from Kd.Fy hs1 (fun k_ hk=> .inl hk));have HB:=Ah (gR w.heap.size w);have H:((oE.f l1).bind fun tO=>((ub.f tO).bind fun Md=>(some (a0,l1,Md))))=some (r1,r2,r3):=h;clear h;replace H:=Hc.mp H;obtain⟨tO,dz,H⟩:=H
 try dsimp only at H
 have A3:=Ah dz;clear dz;replace H:=Hc.mp H;obtain⟨Md,fc,H⟩:=H
 try dsimp only at H
 have A4:=Ah fc;clear fc;simp only[SY,cM]at H;obtain⟨rfl,rfl,rfl⟩:=H
 go_enter Try.func45,Try.ntmps45
 go_wp2_with (first|((with_reducible refine am (N:=4) rfl ?_);refine ar 4 25 #[.int .i64 0,.slice none 0 0,.slice none 0 0] ?_;intro yB hg w5 zd hb;replace nY:=Ah (Kd.V_below (Kd.V_elderB (by(with_reducible repeat(first|apply Kd.Tu|apply Kd.Tv|apply Kd.Vk));exact nY.out) yB (aaq hg.symm)) hb);have GW587:=gw hg (bs HB);have Ku:=gw hg (bs HB);replace HB:=Ah (aK (bs HB) hb);clear hb hg)|((with_reducible refine bN (f:=36) rfl ?_);refine gL (some 7) rfl rfl Try.func36 (by kernel_rfl) rfl #[.slice A1 l1.length c1] rfl ?_;(with_reducible refine(oE.calls _ _ l1 tO _ ?aJ ?aM A3.out).mono ?_);(case aJ=>repeat(first|exact(Kd.V_reads' nY.out).2.2|(with_reducible refine Kd.qB ?_ _)|(with_reducible refine Kd.qC ?_ _)|(with_reducible refine Kd.qE ?_)));(case aM=>exact(Kd.V_reads' nY.out).2.1);rintro e w6 ⟨v589,rfl,ho0,hb⟩;refine⟨_,rfl, ?_⟩;replace nY:=Ah (Kd.V_elder' (by(with_reducible repeat(first|apply Kd.Tu|apply Kd.Tv|apply Kd.Vk));exact nY.out) (Kd.br ho0) hb);have GO:=Ah (Kd.bq (Kd.R_newM (M:=fun k_=>(w.heap.size≤k_)) ho0 (bR (aQ HB Ku)) (fun k_ h_=>h_)) (bR (aQ HB Ku)));replace zd:=nb zd hb;replace HB:=Ah (aK (aQ HB Ku) hb);(try clear hb ho0);obtain⟨wl,wm,Zv⟩:=Kd.ax GO.out;subst Zv)|((with_reducible refine bN (f:=57) rfl ?_);refine gL (some 9) rfl rfl Try.func57 (by kernel_rfl) rfl #[.slice wl tO.length wm,.func (.func 58) #[] #[]] rfl ?_;(with_reducible refine(ub.calls (fun k_=>some k_=(.slice wl tO.length wm:Value).ownBlock) (.slice wl tO.length wm) tO Md w _ ?aJ ?aM A4.out).mono ?_);(case aJ=>exact aQ HB Ku);(case aM=>exact Kd.FA rfl GO.out);rintro e w8 ⟨rfl,hy0,hb,hkp⟩;refine⟨_,rfl, ?_⟩;replace nY:=Ah (Kd.Fy (ok':=fun k_=>(pQ k_∨w.heap.size≤k_)∧some k_≠(.slice wl tO.length wm:Value).ownBlock∧k_≠yB) (Kd.V_keptB (nY.out) hkp (fun k_ iF hs_=>(iF.2) hs_)) (fun k_ iF=>⟨iF.1.1.1,iF.1.2,iF.1.1.2⟩));replace zd:=Ah (pW (bk zd) hkp (fun hs_=>(fun e_=>(Kd.cY GO.out zd.out (by decide)) e_) hs_));replace GO:=Ah (Kd.R_reok rfl hy0 (fun k_ e_=>GO.out.1 k_ e_));replace HB:=Ah (hb);(try clear hb hkp hy0);obtain⟨qp,qq,st⟩:=di zd;obtain⟨sA,qr,su⟩:=dj zd))
 refine bodyPost_ret (results_cell_row rfl _ _ yB 25 #[.int .i64 a0,.slice A1 l1.length c1,.slice wl tO.length wm] (0,0) _ rfl (pb zd) aah rfl (by kernel_rfl)) rfl ?_;exact⟨_,_,er,by(with_reducible repeat(first|apply Kd.Tu|apply Kd.Tv|apply Kd.Vk));exact Kd.Fy (Kd.W5 (p:=⟨yB,2,none⟩) (Kd.W5 (p:=⟨yB,1,none⟩) (Kd.W5 (p:=⟨yB,0,none⟩) (Kd.Fy nY.out (fun k_ hk=>(⟨hk,hk.2.2⟩:_∧k_≠yB))) (fun _ hk=>hk.2) (.int .i64 a0)) (fun _ hk=>hk.2) (.slice A1 l1.length c1)) (fun _ hk=>hk.2) (.slice wl tO.length wm)) (fun _ hk=>⟨hk.1.1,hk.1.2.1⟩),by(with_reducible repeat(first|apply Kd.al|apply Kd.ak|apply Kd.aY));exact Kd.aE (Kd.I (p:=⟨yB,2,none⟩) (Kd.I (p:=⟨yB,1,none⟩) (Kd.I (p:=⟨yB,0,none⟩) (Kd.ao GO.out zd.out (by decide)) (fun _ hk=>hk.2) (.int .i64 a0)) (fun _ hk=>hk.2) (.slice A1 l1.length c1)) (fun _ hk=>hk.2) (.slice wl tO.length wm)) (fun _ hk=>hk.1.1),aQ HB Ku⟩
mutual
def cH.j0:Nat→Bool→Int→List (X)→List (X)→Option (Bool)
 |0,_,_,_,_=>none
 |k+1,om,Fn,xq,J4=>if om=true then(some false)else(cH.l0 k xq (xq.length:Int) 0 Fn xq J4)
def cH.l0:Nat→List (X)→Int→Int→Int→List (X)→List (X)→Option (Bool)
 |0,_,_,_,_,_,_=>none
 |k+1,sT,fS,i4,Fn,xq,J4=>if i4<fS then(if 0≤i4 then(if i4<(sT.length:Int)then((nJ.f ((aC sT i4).f0) ((aC sT i4).f1) Fn).bind fun Yo=>(if Yo=true then(if i4>0 then(if 0≤(Ee (i4-1))then(if(Ee (i4-1))<(xq.length:Int)then(if((aC sT i4).f0)≤(Ee (((aC xq (Ee (i4-1))).f0)+((aC xq (Ee (i4-1))).f1)))then(some false)else(cH.l0 k sT fS (Ee (i4+1)) Fn xq J4))else(none))else(none))else(cH.l0 k sT fS (Ee (i4+1)) Fn xq J4))else(some false)))else(none))else(none))else((ya.f Fn xq).bind fun bt599=>((kS.f k bt599.2.2 J4).bind fun Yp=>(some Yp)))
end
def cH.f(k:Nat)(aA:Int)(U:List (X))(aH:List (X)):Option (Bool):=(lS.f aA 1 400).bind fun Me=>(if Me=true then(cH.j0 k (decide ((U.length:Int)>60)) aA U aH)else(cH.j0 k true aA U aH))
theorem cH.dh:∀k,(∀y0 y1 y2 y3,aG (cH.j0 k y0 y1 y2 y3) (cH.j0 (k+1) y0 y1 y2 y3))∧(∀y0 y1 y2 y3 y4 y5,aG (cH.l0 k y0 y1 y2 y3 y4 y5) (cH.l0 (k+1) y0 y1 y2 y3 y4 y5))
 |0=>⟨fun _ _ _ _ r h=>by simp[cH.j0]at h,fun _ _ _ _ _ _ r h=>by simp[cH.l0]at h⟩
 |k+1=>by
  obtain⟨bz,ih1⟩:=cH.dh k
  refine⟨?_, ?_⟩<;>intros<;>first|unfold cH.j0|unfold cH.l0
  all_goals repeat' first
   |(with_reducible exact bz _ _ _ _)
   |(with_reducible exact ih1 _ _ _ _ _ _)
   |(with_reducible exact kS.mono _ _ _)
   |(with_reducible exact aG.refl _)
   |(with_reducible exact aG.none _)
   |(with_reducible refine aG.ite ?_ ?_)
   |(with_reducible refine aG.bind ?_ (fun _=> ?_))
   |exact bz _ _ _ _
   |exact ih1 _ _ _ _ _ _
   |exact kS.mono _ _ _
   |exact aG.none _
   |refine aG.ite ?_ ?_
   |refine aG.bind ?_ (fun _=> ?_)
theorem cH.mono:∀a0 a1 a2 k,aG (cH.f k a0 a1 a2) (cH.f (k+1) a0 a1 a2):=by
 intro a0 a1 a2 k;obtain⟨bz,ih1⟩:=cH.dh k;unfold cH.f
 repeat' with_reducible first|exact bz _ _ _ _|exact ih1 _ _ _ _ _ _|exact kS.mono _ _ _|exact aG.refl _|exact aG.none _|refine aG.ite ?_ ?_|refine aG.bind ?_ (fun _=> ?_)
def cH.T6:Bool×List (List Nat×List Nat):=(true,[([],[]),([],[]),([1],[1]),([0,2],[0,2]),([3],[3]),([4,3],[4]),([5],[5]),([6,5],[5,6]),([7,5,5],[5,7]),([8],[8]),([9,8],[8,9]),([8],[8]),([11,8],[8,11]),([8],[8]),([13,8],[8,13]),([12,14,8],[8,12,14]),([15,8],[8,15]),([16,8],[8,16]),([8],[8]),([18,8],[8,18]),([8],[8]),([20,8],[8,20]),([19,21,8],[8,19,21]),([22,8],[8,22]),([23,8],[8,23]),([17,24,8],[8,17,24]),([10,25,8],[8,10,25]),([8,26,5],[5,8,26]),([5,27],[5,27])])
def cH.B6:List Nat:=[0,0,2,7,15,31,63,127,255,511,1023,511,2559,511,8703,31231,63999,129535,511,262655,511,1049087,3932671,8126975,16515583,33552895,67108863,134217727,268435455]
theorem cH.uO:j7 .any (vO Try.f24 6)=cH.T6:=by kernel_rfl
theorem cH.uD:qD cH.T6.2 cH.B6=true:=by kernel_rfl
def cH.T9:Bool×List (List Nat×List Nat):=(true,[([],[]),([0],[0]),([],[]),([2],[2]),([1,3],[1,3]),([4],[4]),([],[]),([6],[6]),([5,7,4],[5,7]),([8,8,0,1,2,3,4,5,6,7,8],[8])])
def cH.B9:List Nat:=[0,1,0,4,15,31,0,64,255,511]
theorem cH.Yq:j7 .any (vO Try.f24 9)=cH.T9:=by kernel_rfl
theorem cH.X3:qD cH.T9.2 cH.B9=true:=by kernel_rfl
theorem cH.calls(k:Nat)(aA:Int)(bH:Option Addr)(ay:Nat)(U:List (X))(bC:Option Addr)(bD:Nat)(aH:List (X))(r:Bool)(w:World)(fC:Kd.C ag w bH U.length U)(fD:U.length≤ay)(fE:Kd.C ag w bC aH.length aH)(fF:aH.length≤bD)(h:cH.f k aA U aH=some r):
 Calls sX 24 #[.agg #[.int .i64 aA,.slice bH U.length ay,.slice bC aH.length bD]] w fun e w'=>e= .returned (.bool r)∧Below w.heap.size w w':=by
 have o8:=aah;have lM:=aap;have cx:=Ah fC;have dv:=Ah fD;clear fC fD;have eV:=Ah fE;have eW:=Ah fF;clear fE fF;have HB:=Ah (gR w.heap.size w);have H:((lS.f aA 1 400).bind fun Me=>(if Me=true then(cH.j0 k (decide ((U.length:Int)>60)) aA U aH)else(cH.j0 k true aA U aH)))=some r:=h;clear h;have Zx:=Ah H;clear H
 go_enter Try.func24,Try.ntmps24
 go_upto_region 1 with(first|((with_reducible refine am (N:=1) rfl ?_);(try(refine dl (by rfl) ?_;dsimp only));refine ar 1 25 #[.int .i64 aA,.slice bH U.length ay,.slice bC aH.length bD] ?_;intro nD hg w3 cK hb;have GW592:=gw hg (bs HB);have ji:=gw hg (bs HB);replace HB:=Ah (aK (bs HB) hb);clear hb hg))
 (try simp only[Act.put,g7,aad,aae])
 go_cut [14] (fun v14 wc=>∃ (kq:Nat) (R2:Bool),v14= .bool R2∧Y (cH.j0 kq R2 aA U aH=some r)∧Y (kq≤k)∧Y (wc.heap[nD]?=some (.cells #[.int .i64 aA,(.slice bH U.length ay),(.slice bC aH.length bD)] 25 (0,0)))∧Y (Below w.heap.size w wc))
 case first=>
  have H:=Zx.out;clear Zx;replace H:=Hc.mp H;obtain⟨Me,fc,H⟩:=H
  try dsimp only at H
  have A4:=Ah fc;clear fc
  by_cases c5:Me=true
  ·
   subst c5;rw[if_pos rfl]at H;have H':=Ah H;clear H;obtain⟨B4,B5,G4⟩:=di cK;obtain⟨D7,B7,G5⟩:=dj cK
   go_wp2_with (first|((with_reducible refine bN (f:=25) rfl ?_);refine gL (some 7) rfl rfl abo (by kernel_rfl) rfl #[.int .i64 aA,.int .i64 1,.int .i64 400] rfl ?_;(with_reducible refine(lS.calls aA 1 400 true _ A4.out).mono ?_);rintro e w' ⟨rfl,⟨nd,rfl⟩⟩;refine⟨_,rfl, ?_⟩))
   go_meet
   case rel=>exact⟨_,(decide ((U.length:Int)>60)),e3,H',⟨by first|omega|exact eH _⟩,⟨bk cK⟩,⟨aQ HB ji⟩⟩
  replace c5:=Q3.mpr c5;subst c5;rw[if_neg dc]at H;have H':=Ah H;clear H;obtain⟨pD,pE,uA⟩:=di cK;obtain⟨pF,pG,uB⟩:=dj cK
  go_wp2_with (first|((with_reducible refine bN (f:=25) rfl ?_);refine gL (some 7) rfl rfl abo (by kernel_rfl) rfl #[.int .i64 aA,.int .i64 1,.int .i64 400] rfl ?_;(with_reducible refine(lS.calls aA 1 400 false _ A4.out).mono ?_);rintro e w' ⟨rfl,⟨nd,rfl⟩⟩;refine⟨_,rfl, ?_⟩))
  go_meet
  case rel=>exact⟨_,(true),e3,H',⟨by first|omega|exact eH _⟩,⟨bk cK⟩,⟨aQ HB ji⟩⟩
 case rest=>
  clear Zx
  try clear c2
  try clear p2
  try clear c5
  try clear B4 B5 G4
  try clear pD pE uA
  try clear D7 B7 G5
  try clear pF pG uB
  obtain⟨kq,R2,rfl,HA,Sa,cK,HB⟩:=hcut
  cases kq with
  |zero=>exact absurd HA.out (by simp[cH.j0])
  |succ kj1=>
   have H:=HA.out;clear HA;simp only[cH.j0]at H
   by_cases c8:R2=true
   ·
    subst c8;rw[if_pos rfl]at H;obtain rfl:=Ok H
    go_wp2
    go_ret
    exact⟨er,aQ HB ji⟩
   replace c8:=Q3.mpr c8;subst c8;rw[if_neg dc]at H;have H':=Ah H;clear H;obtain⟨qp,qq,st⟩:=di cK;obtain⟨sA,qr,su⟩:=dj cK
   go_wp2
   go_loopg [18] kj1 (fun kq v18 w'=>∃ (cf:Int),v18= .int .i64 cf∧Y (cH.l0 kq U (U.length:Int) cf aA U aH=some r)∧Y (kq≤kj1)∧Y (w'.heap[nD]?=some (.cells #[.int .i64 aA,(.slice bH U.length ay),(.slice bC aH.length bD)] 25 (0,0)))∧Y (Below w.heap.size w w'))
   case atStart=>exact⟨(0),e3,H',⟨eH _⟩,⟨bk cK⟩,⟨aQ HB ji⟩⟩
   case round=>
    clear H'
    try clear c2
    try clear p2
    try clear c5
    try clear c8
    try clear B4 B5 G4
    try clear pD pE uA
    try clear qp qq st
    try clear D7 B7 G5
    try clear pF pG uB
    try clear sA qr su
    try clear p2
    obtain⟨cf,rfl,HA,dF,cK,HB⟩:=hrel
    cases gk with
    |zero=>exact absurd HA.out (by simp[cH.l0])
    |succ k2=>
     have H:=HA.out;clear HA;simp only[cH.l0]at H
     by_cases c10:cf<(U.length:Int)
     rotate_left
     ·
      rw[if_neg c10]at H;have zV:=f7 c10;clear c10;replace H:=Hc.mp H;obtain⟨⟨t599,t600,Yr⟩,Mf,H⟩:=H
      try dsimp only at H
      have Sb:=Ah Mf;clear Mf;replace H:=Hc.mp H;obtain⟨Yp,A450,H⟩:=H
      try dsimp only at H
      have A45:=Ah A450;clear A450;obtain rfl:=Ok H
      try go_wp2
      replace cK:=Ah (bL cK.out);replace HB:=Ah (ln HB.out);refine nB (n:=10) (S:=fun w'=>w'.cell? ⟨nD,0,none⟩=some (.int .i64 aA)∧w'.cell? ⟨nD,1,none⟩=some (.slice bH U.length ay)∧w'.cell? ⟨nD,2,none⟩=some (.slice bC aH.length bD)) (ds:=[]) #[false,false,false,false,false,false,false,false,false,false] (by kernel_rfl) rfl rfl ⟨(aI cK.out 0).trans rfl,(aI cK.out 1).trans rfl,(aI cK.out 2).trans rfl⟩ (fun hHeld=> ?_);refine nK cH.Yq cH.X3 (fun aD dL=> ?_)
      generalize wr.drew=Hf at cK HB hHeld⊢
      refine ap 0 53 aD.out ?_;refine ap 2 55 aD.out ?_;refine ap 6 59 aD.out ?_;refine f4 1 54 aD.out dL.out hHeld (hr:=by rintro w' ⟨s0,s1,s2⟩;go_simp;with_reducible rfl) (h:= ?_);refine f4 3 56 aD.out dL.out hHeld (hr:=by rintro w' ⟨s0,s1,s2⟩;go_simp;with_reducible rfl) (h:= ?_);refine f4 7 60 aD.out dL.out hHeld (hr:=by rintro w' ⟨s0,s1,s2⟩;go_simp;with_reducible rfl) (h:= ?_);refine i3 (i:=4) (N:=some 57) #[true,true,true,true,true,false,true,true,false,false] rfl rfl (hG aD.out (by kernel_rfl)) (by decide) (fun K hK=> ?_);refine ir Try.func45 (by kernel_rfl) rfl #[.int .i64 aA,.slice bH U.length ay] (by rfl) rfl rfl (by(try simp only[List.map_toArray,List.map_cons,List.map_nil]);first|done|rfl|(simp only[List.length_drop,List.length_take];rfl)) ?_
      with_reducible refine(ya.calls aA (fun k_=>k_<w.heap.size) _ _ U t599 t600 Yr _ ?aJ Sb.out).mono ?_
      (case aJ=>exact Kd.V_mk dv.out (Kd.IZ (Kd.C_F Tj cx.out) (aQ HB ji)));rintro e w47 ⟨v601,v604,rfl,ho0,ho1,hb⟩;obtain⟨AoV_,coV_,eoV_⟩:=Kd.V_slice ho0;subst eoV_
      have hfd_:∀ (t:Int) (A A':Option Addr) (n c n' c':Nat) (w':World),(Instr.field 25 (.agg #[.int .i64 t,.slice A n c,.slice A' n' c']) 2).run sX w'= .ok (.slice A' n' c') w':=fun _ _ _ _ _ _ _ _=>by kernel_rfl
      refine⟨_,rfl, ?_⟩;have HO602:=Ah (Kd.V_lower (Kd.Fy (ok':=fun k_=>some k_≠(v604:Value).ownBlock∧k_≠nD) ho0 (fun k_ iF=>⟨iF.2,Or.elim iF.1 (fun hs_=>fun e_=>Nat.not_le.2 hs_ (by rw[e_];exact GW592.out)) (fun ta=>(Kd.jr (bk cK) k_ ta))⟩)) (bR (aQ HB ji)));have X4:=Ah (Kd.bq (Kd.aE (ok':=fun k_=>True) ho1 (fun _ iF=>trivial)) (bR (aQ HB ji)));replace cK:=Ah (bb cK hb);replace HB:=Ah (aK (aQ HB ji) hb);(try clear hb);(try clear hb2);(try clear hk);(try clear hi);(try clear ho0);(try clear ho1);obtain⟨Ao48,co48,eo48⟩:=Kd.ax X4.out;(first|subst eo48|(injection eo48 with fd jK fe;have jL:=fd.symm;have jM:=fe.symm;clear fd jK fe;subst jL;subst jM));refine hK.out _ _ ⟨(aI cK.out 0).trans rfl,(aI cK.out 1).trans rfl,(aI cK.out 2).trans rfl⟩ (fun hHeld=> ?_);clear hK K;refine nq 57 ?_;refine ap 5 58 aD.out ?_;refine i3 (i:=8) (N:=some 61) #[true,true,true,true,true,true,true,true,true,false] rfl rfl (hG aD.out (by kernel_rfl)) (by decide) (fun K hK=> ?_);refine ir Try.func44 (by kernel_rfl) rfl #[.slice Ao48 Yr.length co48,.slice bC aH.length bD] (by rfl) rfl rfl (by(try simp only[ib,aac,aai]);first|done|rfl|(simp only[fM,aN];rfl)) ?_
      with_reducible refine(kS.calls k2 _ _ Yr _ _ aH Yp _ ?aJ ?aM ?ac ?au A45.out).mono ?_
      (case aJ=>exact df X4);(case aM=>exact(Kd.ab X4.out).2.1);(case ac=>exact cb eV HB);(case au=>exact eW.out);rintro e w' ⟨rfl,⟨nd,rfl⟩⟩;refine⟨_,rfl, ?_⟩;refine hK.out _ _ ⟨(aI cK.out 0).trans rfl,(aI cK.out 1).trans rfl,(aI cK.out 2).trans rfl⟩ (fun hHeld=> ?_);clear hK K;refine nq 61 ?_;refine ap 9 2 aD.out ?_;refine m5 (mO aD.out (by kernel_rfl)) ?_
      try go_wp2
      go_ret
      exact⟨er,aQ HB ji⟩
     rw[if_pos c10]at H;have zV:=bS c10;clear c10
     by_cases c11:0≤cf
     rotate_left
     ·
      rw[if_neg c11]at H;exact absurd H (by simp)
     rw[if_pos c11]at H;have BS:=bS c11;clear c11
     by_cases c12:cf<(U.length:Int)
     rotate_left
     ·
      rw[if_neg c12]at H;exact absurd H (by simp)
     rw[if_pos c12]at H;have sB:=bS c12;clear c12;replace H:=Hc.mp H;obtain⟨Yo,Bx,H⟩:=H
     try dsimp only at H
     have wk:=Ah Bx;clear Bx
     by_cases c14:Yo=true
     rotate_left
     ·
      replace c14:=Q3.mpr c14;subst c14;rw[if_neg dc]at H;obtain rfl:=Ok H;have rK:0≤(cf:Int):=od;have rL:cf<(U.length:Int):=od;obtain⟨la,EI,vE,vF⟩:=eA cx.out cf rK rL
      cases EI
      replace vE:=hq HB vE;replace vF:=hq HB vF;replace rK:=eq_true rK;replace rL:=eq_true rL
      try go_wp2_with (first|((with_reducible refine am (N:=4) rfl ?_);(try(refine dl (by rfl) ?_;dsimp only));refine ar 4 38 #[.int .i64 0,.int .i64 0] ?_;intro gP hg CO fJ hb;have X5:=gw hg (aQ HB ji);have qw:=gw hg (aQ HB ji);replace HB:=Ah (aK (aQ HB ji) hb);have uk:=nn cK hg;have Cs:=nm cK hg;replace cK:=nb cK hb;clear hb hg;have Qr:=Cs.out;have Qs:=uk.out;obtain⟨hcz40_0,hcz40_1⟩:=da fJ;obtain⟨hfz40_0,hfz40_1⟩:=db fJ))
      have gR:Y (((CO.setCell ⟨gP,0,none⟩ (.int .i64 ((aC U cf).f0))).setCell ⟨gP,1,none⟩ (.int .i64 ((aC U cf).f1))).heap[nD]?=some (.cells #[.int .i64 aA,.slice (some la) U.length ay,.slice bC aH.length bD] 25 (0,0))):=⟨bf cK uk⟩;have g7:Y (((CO.setCell ⟨gP,0,none⟩ (.int .i64 ((aC U cf).f0))).setCell ⟨gP,1,none⟩ (.int .i64 ((aC U cf).f1))).heap[gP]?=some (.cells #[.int .i64 ((aC U cf).f0),.int .i64 ((aC U cf).f1)] 38 (0,0))):=⟨by exact pb fJ⟩;have ib:Y (Below w.heap.size w ((CO.setCell ⟨gP,0,none⟩ (.int .i64 ((aC U cf).f0))).setCell ⟨gP,1,none⟩ (.int .i64 ((aC U cf).f1)))):=⟨aa HB ji qw⟩;(try clear cK);(try clear fJ);(try clear HB)
      generalize ((CO.setCell ⟨gP,0,none⟩ (.int .i64 ((aC U cf).f0))).setCell ⟨gP,1,none⟩ (.int .i64 ((aC U cf).f1)))=HZ at gR g7 ib⊢
      have cK:=gR;have fJ:=g7;have HB:=ib;clear gR g7 ib;replace cK:=Ah (bL cK.out);replace fJ:=Ah (bL fJ.out);replace HB:=Ah (ln HB.out);refine nB (n:=29) (S:=fun w'=>w'.cell? ⟨gP,0,none⟩=some (.int .i64 ((aC U cf).f0))∧w'.cell? ⟨gP,1,none⟩=some (.int .i64 ((aC U cf).f1))∧w'.cell? ⟨nD,0,none⟩=some (.int .i64 aA)∧w'.cell? ⟨nD,1,none⟩=some (.slice (some la) U.length ay)∧w'.cell? ⟨nD,2,none⟩=some (.slice bC aH.length bD)) (ds:=[]) #[false,false,false,false,false,false,false,false,false,false,false,false,false,false,false,false,false,false,false,false,false,false,false,false,false,false,false,false,false] (by kernel_rfl) rfl rfl ⟨(aI fJ.out 0).trans rfl,(aI fJ.out 1).trans rfl,(aI cK.out 0).trans rfl,(aI cK.out 1).trans rfl,(aI cK.out 2).trans rfl⟩ (fun hHeld=> ?_);refine nK cH.uO cH.uD (fun aD dL=> ?_)
      generalize HZ.drew=SS at cK fJ HB hHeld⊢
      refine ap 1 24 aD.out ?_;refine f4 0 23 aD.out dL.out hHeld (hr:=by rintro w' ⟨s0,s1,s2,s3,s4⟩;go_simp;with_reducible rfl) (h:= ?_);refine f4 2 25 aD.out dL.out hHeld (hr:=by rintro w' ⟨s0,s1,s2,s3,s4⟩;go_simp;with_reducible rfl) (h:= ?_);refine i3 (i:=3) (N:=some 26) #[true,true,true,true,false,false,false,false,false,false,false,false,false,false,false,false,false,false,false,false,false,false,false,false,false,false,false,false,false] rfl rfl (hG aD.out (by kernel_rfl)) (by decide) (fun K hK=> ?_);refine ir Try.func33 (by kernel_rfl) rfl #[.agg #[.int .i64 ((aC U cf).f0),.int .i64 ((aC U cf).f1)],.int .i64 aA] (by rfl) rfl rfl (by(try simp only[List.map_toArray,List.map_cons,List.map_nil]);first|done|rfl|(simp only[List.length_drop,List.length_take];rfl)) ?_
      with_reducible refine(nJ.calls ((aC U cf).f0) ((aC U cf).f1) aA false _ wk.out).mono ?_
      rintro e Ze ⟨rfl,hb⟩;refine⟨_,rfl, ?_⟩;replace cK:=Ah (bb cK hb);replace fJ:=Ah (bb fJ hb);replace HB:=Ah (aK (aa HB ji qw) hb);(try clear hb);(try clear hb2);(try clear hk);(try clear hi);refine hK.out _ _ ⟨(aI fJ.out 0).trans rfl,(aI fJ.out 1).trans rfl,(aI cK.out 0).trans rfl,(aI cK.out 1).trans rfl,(aI cK.out 2).trans rfl⟩ (fun hHeld=> ?_);clear hK K;refine nq 26 ?_;refine ap 4 27 aD.out ?_;refine ap 5 28 aD.out ?_;refine bx 6 29 aD.out ?_;refine bx 7 30 aD.out ?_;refine bx 8 31 aD.out ?_;refine bx 9 32 aD.out ?_;refine bx 10 33 aD.out ?_;refine bx 11 34 aD.out ?_;refine bx 12 35 aD.out ?_;refine bx 13 36 aD.out ?_;refine bx 14 37 aD.out ?_;refine bx 15 38 aD.out ?_;refine bx 16 39 aD.out ?_;refine bx 17 40 aD.out ?_;refine bx 18 41 aD.out ?_;refine bx 19 42 aD.out ?_;refine bx 20 43 aD.out ?_;refine bx 21 44 aD.out ?_;refine bx 22 45 aD.out ?_;refine bx 23 46 aD.out ?_;refine bx 24 47 aD.out ?_;refine bx 25 48 aD.out ?_;refine bx 26 49 aD.out ?_;refine bx 27 50 aD.out ?_;refine ap 28 51 aD.out ?_;refine m5 (mO aD.out (by kernel_rfl)) ?_
      try go_wp2
      go_ret
      exact⟨er,aa HB ji qw⟩
     subst c14;rw[if_pos rfl]at H
     by_cases c15:cf>0
     rotate_left
     ·
      rw[if_neg c15]at H;have DE:=f7 c15;clear c15;have H':=Ah H;clear H;have rK:0≤(cf:Int):=od;have rL:cf<(U.length:Int):=od;obtain⟨la,EI,vE,vF⟩:=eA cx.out cf rK rL
      cases EI
      replace vE:=hq HB vE;replace vF:=hq HB vF;replace rK:=eq_true rK;replace rL:=eq_true rL
      try go_wp2_with (first|((with_reducible refine am (N:=4) rfl ?_);(try(refine dl (by rfl) ?_;dsimp only));refine ar 4 38 #[.int .i64 0,.int .i64 0] ?_;intro gP hg w32 fJ hb;have X5:=gw hg (aQ HB ji);have qw:=gw hg (aQ HB ji);replace HB:=Ah (aK (aQ HB ji) hb);have uk:=nn cK hg;have Cs:=nm cK hg;replace cK:=nb cK hb;clear hb hg;have hnb33:=Cs.out;have hnc33:=uk.out;obtain⟨VG,VH⟩:=da fJ;obtain⟨VI,VJ⟩:=db fJ))
      have gR:Y (((w32.setCell ⟨gP,0,none⟩ (.int .i64 ((aC U cf).f0))).setCell ⟨gP,1,none⟩ (.int .i64 ((aC U cf).f1))).heap[nD]?=some (.cells #[.int .i64 aA,.slice (some la) U.length ay,.slice bC aH.length bD] 25 (0,0))):=⟨bf cK uk⟩;have g7:Y (((w32.setCell ⟨gP,0,none⟩ (.int .i64 ((aC U cf).f0))).setCell ⟨gP,1,none⟩ (.int .i64 ((aC U cf).f1))).heap[gP]?=some (.cells #[.int .i64 ((aC U cf).f0),.int .i64 ((aC U cf).f1)] 38 (0,0))):=⟨by exact pb fJ⟩;have ib:Y (Below w.heap.size w ((w32.setCell ⟨gP,0,none⟩ (.int .i64 ((aC U cf).f0))).setCell ⟨gP,1,none⟩ (.int .i64 ((aC U cf).f1)))):=⟨aa HB ji qw⟩;(try clear cK);(try clear fJ);(try clear HB)
      generalize ((w32.setCell ⟨gP,0,none⟩ (.int .i64 ((aC U cf).f0))).setCell ⟨gP,1,none⟩ (.int .i64 ((aC U cf).f1)))=SY at gR g7 ib⊢
      have cK:=gR;have fJ:=g7;have HB:=ib;clear gR g7 ib;replace cK:=Ah (bL cK.out);replace fJ:=Ah (bL fJ.out);replace HB:=Ah (ln HB.out);refine nB (n:=29) (S:=fun w'=>w'.cell? ⟨gP,0,none⟩=some (.int .i64 ((aC U cf).f0))∧w'.cell? ⟨gP,1,none⟩=some (.int .i64 ((aC U cf).f1))∧w'.cell? ⟨nD,0,none⟩=some (.int .i64 aA)∧w'.cell? ⟨nD,1,none⟩=some (.slice (some la) U.length ay)∧w'.cell? ⟨nD,2,none⟩=some (.slice bC aH.length bD)) (ds:=[]) #[false,false,false,false,false,false,false,false,false,false,false,false,false,false,false,false,false,false,false,false,false,false,false,false,false,false,false,false,false] (by kernel_rfl) rfl rfl ⟨(aI fJ.out 0).trans rfl,(aI fJ.out 1).trans rfl,(aI cK.out 0).trans rfl,(aI cK.out 1).trans rfl,(aI cK.out 2).trans rfl⟩ (fun hHeld=> ?_);refine nK cH.uO cH.uD (fun aD dL=> ?_)
      generalize SY.drew=SZ at cK fJ HB hHeld⊢
      refine ap 1 24 aD.out ?_;refine f4 0 23 aD.out dL.out hHeld (hr:=by rintro w' ⟨s0,s1,s2,s3,s4⟩;go_simp;with_reducible rfl) (h:= ?_);refine f4 2 25 aD.out dL.out hHeld (hr:=by rintro w' ⟨s0,s1,s2,s3,s4⟩;go_simp;with_reducible rfl) (h:= ?_);refine i3 (i:=3) (N:=some 26) #[true,true,true,true,false,false,false,false,false,false,false,false,false,false,false,false,false,false,false,false,false,false,false,false,false,false,false,false,false] rfl rfl (hG aD.out (by kernel_rfl)) (by decide) (fun K hK=> ?_);refine ir Try.func33 (by kernel_rfl) rfl #[.agg #[.int .i64 ((aC U cf).f0),.int .i64 ((aC U cf).f1)],.int .i64 aA] (by rfl) rfl rfl (by(try simp only[List.map_toArray,List.map_cons,List.map_nil]);first|done|rfl|(simp only[List.length_drop,List.length_take];rfl)) ?_
      with_reducible refine(nJ.calls ((aC U cf).f0) ((aC U cf).f1) aA true _ wk.out).mono ?_
      rintro e mK ⟨rfl,hb⟩;refine⟨_,rfl, ?_⟩;replace cK:=Ah (bb cK hb);replace fJ:=Ah (bb fJ hb);replace HB:=Ah (aK (aa HB ji qw) hb);(try clear hb);(try clear hb2);(try clear hk);(try clear hi);refine hK.out _ _ ⟨(aI fJ.out 0).trans rfl,(aI fJ.out 1).trans rfl,(aI cK.out 0).trans rfl,(aI cK.out 1).trans rfl,(aI cK.out 2).trans rfl⟩ (fun hHeld=> ?_);clear hK K;refine nq 26 ?_;refine ap 4 27 aD.out ?_;refine ap 5 28 aD.out ?_;refine ap 6 29 aD.out ?_;refine ap 7 30 aD.out ?_;refine ap 8 31 aD.out ?_;refine bx 9 32 aD.out ?_;refine bx 10 33 aD.out ?_;refine bx 11 34 aD.out ?_;refine bx 12 35 aD.out ?_;refine bx 13 36 aD.out ?_;refine bx 14 37 aD.out ?_;refine bx 15 38 aD.out ?_;refine bx 16 39 aD.out ?_;refine bx 17 40 aD.out ?_;refine bx 18 41 aD.out ?_;refine bx 19 42 aD.out ?_;refine bx 20 43 aD.out ?_;refine bx 21 44 aD.out ?_;refine bx 22 45 aD.out ?_;refine bx 23 46 aD.out ?_;refine bx 24 47 aD.out ?_;refine bx 25 48 aD.out ?_;refine bx 26 49 aD.out ?_;refine ap 27 50 aD.out ?_;refine ap 28 51 aD.out ?_;refine m5 (mO aD.out (by kernel_rfl)) ?_
      try go_wp2
      go_roundg k2
      case measure=>have:=Sa.out;have:=dF.out;omega
      case rel=>exact⟨(Ee (cf+1)),e3,H',⟨by have:=Sa.out;have:=dF.out;omega⟩,⟨bk cK⟩,⟨aa HB ji qw⟩⟩
     rw[if_pos c15]at H;have DE:=bS c15;clear c15;obtain⟨fX,ze⟩:∃j_:Int,(Ee (cf-1))=j_:=⟨_,rfl⟩
     replace H:(if 0≤(fX)then(if(fX)<(U.length:Int)then(if((aC U cf).f0)≤(Ee (((aC U (fX)).f0)+((aC U (fX)).f1)))then(some false)else(cH.l0 k2 U (U.length:Int) (Ee (cf+1)) aA U aH))else(none))else(none))=some r:=by first|(rw[ze]at H;exact H)|(simp only[ze]at H⊢;exact H)
     (try rw[ze]at wk);have hji16w:(IntKind.i64.wrap (cf-1))=fX:=(lr _).trans ze
     by_cases c17:0≤(fX)
     rotate_left
     ·
      rw[if_neg c17]at H;exact absurd H (by simp)
     rw[if_pos c17]at H;have Kv:=bS c17;clear c17
     by_cases c18:(fX)<(U.length:Int)
     rotate_left
     ·
      rw[if_neg c18]at H;exact absurd H (by simp)
     rw[if_pos c18]at H;have KE:=bS c18;clear c18
     by_cases c19:((aC U cf).f0)≤(Ee (((aC U (fX)).f0)+((aC U (fX)).f1)))
     ·
      rw[if_pos c19]at H;have Wc:=bS c19;clear c19;obtain rfl:=Ok H;have rK:0≤(cf:Int):=od;have rL:cf<(U.length:Int):=od;obtain⟨la,EI,vE,vF⟩:=eA cx.out cf rK rL
      cases EI
      replace vE:=hq HB vE;replace vF:=hq HB vF;replace rK:=eq_true rK;replace rL:=eq_true rL
      try go_wp2_with (first|((with_reducible refine am (N:=4) rfl ?_);(try(refine dl (by rfl) ?_;dsimp only));refine ar 4 38 #[.int .i64 0,.int .i64 0] ?_;intro gP hg Hk fJ hb;have X5:=gw hg (aQ HB ji);have qw:=gw hg (aQ HB ji);replace HB:=Ah (aK (aQ HB ji) hb);have uk:=nn cK hg;have Cs:=nm cK hg;replace cK:=nb cK hb;clear hb hg;have hnb21:=Cs.out;have hnc21:=uk.out;obtain⟨ut,uu⟩:=da fJ;obtain⟨uw,ux⟩:=db fJ))
      have gR:Y (((Hk.setCell ⟨gP,0,none⟩ (.int .i64 ((aC U cf).f0))).setCell ⟨gP,1,none⟩ (.int .i64 ((aC U cf).f1))).heap[nD]?=some (.cells #[.int .i64 aA,.slice (some la) U.length ay,.slice bC aH.length bD] 25 (0,0))):=⟨bf cK uk⟩;have g7:Y (((Hk.setCell ⟨gP,0,none⟩ (.int .i64 ((aC U cf).f0))).setCell ⟨gP,1,none⟩ (.int .i64 ((aC U cf).f1))).heap[gP]?=some (.cells #[.int .i64 ((aC U cf).f0),.int .i64 ((aC U cf).f1)] 38 (0,0))):=⟨by exact pb fJ⟩;have ib:Y (Below w.heap.size w ((Hk.setCell ⟨gP,0,none⟩ (.int .i64 ((aC U cf).f0))).setCell ⟨gP,1,none⟩ (.int .i64 ((aC U cf).f1)))):=⟨aa HB ji qw⟩;(try clear cK);(try clear fJ);(try clear HB)
      generalize ((Hk.setCell ⟨gP,0,none⟩ (.int .i64 ((aC U cf).f0))).setCell ⟨gP,1,none⟩ (.int .i64 ((aC U cf).f1)))=fV at gR g7 ib⊢
      have cK:=gR;have fJ:=g7;have HB:=ib;clear gR g7 ib;replace cK:=Ah (bL cK.out);replace fJ:=Ah (bL fJ.out);replace HB:=Ah (ln HB.out);have EJ:0≤((fX):Int):=od;have EK:(fX)<(U.length:Int):=od;obtain⟨X6,Ys,zA,zB⟩:=eA cx.out (fX) EJ EK;have zC:=zB;have zD:=zA;obtain rfl:la=X6:=(by injection Ys);replace zA:=hq HB zA;replace zB:=hq HB zB;replace EJ:=eq_true EJ;replace EK:=eq_true EK;have EL:0≤((fX):Int):=od;have EM:(fX)<(U.length:Int):=od;obtain⟨X7,Yt,zE,zG⟩:=eA cx.out (fX) EL EM;have zH:=zG;have zI:=zE;obtain rfl:la=X7:=(by injection Yt);replace zE:=hq HB zE;replace zG:=hq HB zG;replace EL:=eq_true EL;replace EM:=eq_true EM;refine nB (n:=29) (S:=fun w'=>w'.cell? ⟨gP,0,none⟩=some (.int .i64 ((aC U cf).f0))∧w'.cell? ⟨gP,1,none⟩=some (.int .i64 ((aC U cf).f1))∧w'.cell? ⟨nD,0,none⟩=some (.int .i64 aA)∧w'.cell? ⟨nD,1,none⟩=some (.slice (some la) U.length ay)∧w'.cell? ⟨nD,2,none⟩=some (.slice bC aH.length bD)∧w'.cell? (la.add (((fX)).toNat*2))=some (.int .i64 ((aC U (fX)).f0))∧w'.cell? ⟨(la.add (((fX)).toNat*2)).block,(la.add (((fX)).toNat*2)).off+1,none⟩=some (.int .i64 ((aC U (fX)).f1))∧w'.cell? (la.add (((fX)).toNat*2))=some (.int .i64 ((aC U (fX)).f0))∧w'.cell? ⟨(la.add (((fX)).toNat*2)).block,(la.add (((fX)).toNat*2)).off+1,none⟩=some (.int .i64 ((aC U (fX)).f1))) (ds:=[]) #[false,false,false,false,false,false,false,false,false,false,false,false,false,false,false,false,false,false,false,false,false,false,false,false,false,false,false,false,false] (by kernel_rfl) rfl rfl ⟨(aI fJ.out 0).trans rfl,(aI fJ.out 1).trans rfl,(aI cK.out 0).trans rfl,(aI cK.out 1).trans rfl,(aI cK.out 2).trans rfl,((HB.out.cell (cB w _ zD)).trans zD),((HB.out.cell (cB w _ zC)).trans zC),((HB.out.cell (cB w _ zI)).trans zI),((HB.out.cell (cB w _ zH)).trans zH)⟩ (fun hHeld=> ?_);refine nK cH.uO cH.uD (fun aD dL=> ?_)
      generalize fV.drew=Nb at cK fJ HB zA zB zE zG hHeld⊢
      refine ap 1 24 aD.out ?_;refine f4 0 23 aD.out dL.out hHeld (hr:=by rintro w' ⟨s0,s1,s2,s3,s4,s5,s6,s7,s8⟩;go_simp;with_reducible rfl) (h:= ?_);refine f4 2 25 aD.out dL.out hHeld (hr:=by rintro w' ⟨s0,s1,s2,s3,s4,s5,s6,s7,s8⟩;go_simp;with_reducible rfl) (h:= ?_);refine i3 (i:=3) (N:=some 26) #[true,true,true,true,false,false,false,false,false,false,false,false,false,false,false,false,false,false,false,false,false,false,false,false,false,false,false,false,false] rfl rfl (hG aD.out (by kernel_rfl)) (by decide) (fun K hK=> ?_);refine ir Try.func33 (by kernel_rfl) rfl #[.agg #[.int .i64 ((aC U cf).f0),.int .i64 ((aC U cf).f1)],.int .i64 aA] (by rfl) rfl rfl (by(try simp only[List.map_toArray,List.map_cons,List.map_nil]);first|done|rfl|(simp only[List.length_drop,List.length_take];rfl)) ?_
      with_reducible refine(nJ.calls ((aC U cf).f0) ((aC U cf).f1) aA true _ wk.out).mono ?_
      rintro e n4 ⟨rfl,hb⟩;refine⟨_,rfl, ?_⟩;replace cK:=Ah (bb cK hb);replace fJ:=Ah (bb fJ hb);replace HB:=Ah (aK (aa HB ji qw) hb);(try clear hb);(try clear hb2);(try clear hk);(try clear hi);refine hK.out _ _ ⟨(aI fJ.out 0).trans rfl,(aI fJ.out 1).trans rfl,(aI cK.out 0).trans rfl,(aI cK.out 1).trans rfl,(aI cK.out 2).trans rfl,((HB.out.cell (World.block_lt_of_cell? w _ zD)).trans zD),((HB.out.cell (World.block_lt_of_cell? w _ zC)).trans zC),((HB.out.cell (World.block_lt_of_cell? w _ zI)).trans zI),((HB.out.cell (World.block_lt_of_cell? w _ zH)).trans zH)⟩ (fun hHeld=> ?_);clear hK K;refine nq 26 ?_;refine ap 4 27 aD.out ?_;refine ap 5 28 aD.out ?_;refine ap 6 29 aD.out ?_;refine ap 7 30 aD.out ?_;refine ap 8 31 aD.out ?_;refine ap 9 32 aD.out ?_;refine ap 11 34 aD.out ?_;refine ap 13 36 aD.out ?_;refine ap 14 37 aD.out ?_;refine ap 18 41 aD.out ?_;refine ap 20 43 aD.out ?_;refine ap 21 44 aD.out ?_;refine f4 10 33 aD.out dL.out hHeld (hr:=by rintro w' ⟨s0,s1,s2,s3,s4,s5,s6,s7,s8⟩;go_simp;with_reducible rfl) (h:= ?_);refine f4 12 35 aD.out dL.out hHeld (hr:=by rintro w' ⟨s0,s1,s2,s3,s4,s5,s6,s7,s8⟩;go_simp;with_reducible rfl) (h:= ?_);refine ap 15 38 aD.out ?_;refine ap 16 39 aD.out ?_;refine f4 17 40 aD.out dL.out hHeld (hr:=by rintro w' ⟨s0,s1,s2,s3,s4,s5,s6,s7,s8⟩;go_simp;with_reducible rfl) (h:= ?_);refine f4 19 42 aD.out dL.out hHeld (hr:=by rintro w' ⟨s0,s1,s2,s3,s4,s5,s6,s7,s8⟩;go_simp;with_reducible rfl) (h:= ?_);refine ap 22 45 aD.out ?_;refine ap 23 46 aD.out ?_;refine f4 24 47 aD.out dL.out hHeld (hr:=by rintro w' ⟨s0,s1,s2,s3,s4,s5,s6,s7,s8⟩;go_simp;with_reducible rfl) (h:= ?_);refine ap 25 48 aD.out ?_;refine ap 26 49 aD.out ?_;refine ap 27 50 aD.out ?_;refine ap 28 51 aD.out ?_;refine m5 (mO aD.out (by kernel_rfl)) ?_
      try go_wp2
      go_ret
      exact⟨by first|rfl|(simp[rZ,ra]<;>rfl)|(simp only[←ze];first|rfl|(simp[rZ,ra]<;>rfl))|(simp[*,rZ,ra]<;>rfl),aa HB ji qw⟩
     rw[if_neg c19]at H;have Wc:=f7 c19;clear c19;have H':=Ah H;clear H;have rK:0≤(cf:Int):=od;have rL:cf<(U.length:Int):=od;obtain⟨la,EI,vE,vF⟩:=eA cx.out cf rK rL
     cases EI
     replace vE:=hq HB vE;replace vF:=hq HB vF;replace rK:=eq_true rK;replace rL:=eq_true rL
     try go_wp2_with (first|((with_reducible refine am (N:=4) rfl ?_);(try(refine dl (by rfl) ?_;dsimp only));refine ar 4 38 #[.int .i64 0,.int .i64 0] ?_;intro gP hg Cb fJ hb;have X5:=gw hg (aQ HB ji);have qw:=gw hg (aQ HB ji);replace HB:=Ah (aK (aQ HB ji) hb);have uk:=nn cK hg;have Cs:=nm cK hg;replace cK:=nb cK hb;clear hb hg;have hnb27:=Cs.out;have hnc27:=uk.out;obtain⟨Cx,Ff⟩:=da fJ;obtain⟨Cy,Fg⟩:=db fJ))
     have gR:Y (((Cb.setCell ⟨gP,0,none⟩ (.int .i64 ((aC U cf).f0))).setCell ⟨gP,1,none⟩ (.int .i64 ((aC U cf).f1))).heap[nD]?=some (.cells #[.int .i64 aA,.slice (some la) U.length ay,.slice bC aH.length bD] 25 (0,0))):=⟨bf cK uk⟩;have g7:Y (((Cb.setCell ⟨gP,0,none⟩ (.int .i64 ((aC U cf).f0))).setCell ⟨gP,1,none⟩ (.int .i64 ((aC U cf).f1))).heap[gP]?=some (.cells #[.int .i64 ((aC U cf).f0),.int .i64 ((aC U cf).f1)] 38 (0,0))):=⟨by exact pb fJ⟩;have ib:Y (Below w.heap.size w ((Cb.setCell ⟨gP,0,none⟩ (.int .i64 ((aC U cf).f0))).setCell ⟨gP,1,none⟩ (.int .i64 ((aC U cf).f1)))):=⟨aa HB ji qw⟩;(try clear cK);(try clear fJ);(try clear HB)
     generalize ((Cb.setCell ⟨gP,0,none⟩ (.int .i64 ((aC U cf).f0))).setCell ⟨gP,1,none⟩ (.int .i64 ((aC U cf).f1)))=NV at gR g7 ib⊢
     have cK:=gR;have fJ:=g7;have HB:=ib;clear gR g7 ib;replace cK:=Ah (bL cK.out);replace fJ:=Ah (bL fJ.out);replace HB:=Ah (ln HB.out);have EJ:0≤((fX):Int):=od;have EK:(fX)<(U.length:Int):=od;obtain⟨X6,Ys,zA,zB⟩:=eA cx.out (fX) EJ EK;have zC:=zB;have zD:=zA;obtain rfl:la=X6:=(by injection Ys);replace zA:=hq HB zA;replace zB:=hq HB zB;replace EJ:=eq_true EJ;replace EK:=eq_true EK;have EL:0≤((fX):Int):=od;have EM:(fX)<(U.length:Int):=od;obtain⟨X7,Yt,zE,zG⟩:=eA cx.out (fX) EL EM;have zH:=zG;have zI:=zE;obtain rfl:la=X7:=(by injection Yt);replace zE:=hq HB zE;replace zG:=hq HB zG;replace EL:=eq_true EL;replace EM:=eq_true EM;refine nB (n:=29) (S:=fun w'=>w'.cell? ⟨gP,0,none⟩=some (.int .i64 ((aC U cf).f0))∧w'.cell? ⟨gP,1,none⟩=some (.int .i64 ((aC U cf).f1))∧w'.cell? ⟨nD,0,none⟩=some (.int .i64 aA)∧w'.cell? ⟨nD,1,none⟩=some (.slice (some la) U.length ay)∧w'.cell? ⟨nD,2,none⟩=some (.slice bC aH.length bD)∧w'.cell? (la.add (((fX)).toNat*2))=some (.int .i64 ((aC U (fX)).f0))∧w'.cell? ⟨(la.add (((fX)).toNat*2)).block,(la.add (((fX)).toNat*2)).off+1,none⟩=some (.int .i64 ((aC U (fX)).f1))∧w'.cell? (la.add (((fX)).toNat*2))=some (.int .i64 ((aC U (fX)).f0))∧w'.cell? ⟨(la.add (((fX)).toNat*2)).block,(la.add (((fX)).toNat*2)).off+1,none⟩=some (.int .i64 ((aC U (fX)).f1))) (ds:=[]) #[false,false,false,false,false,false,false,false,false,false,false,false,false,false,false,false,false,false,false,false,false,false,false,false,false,false,false,false,false] (by kernel_rfl) rfl rfl ⟨(aI fJ.out 0).trans rfl,(aI fJ.out 1).trans rfl,(aI cK.out 0).trans rfl,(aI cK.out 1).trans rfl,(aI cK.out 2).trans rfl,((HB.out.cell (cB w _ zD)).trans zD),((HB.out.cell (cB w _ zC)).trans zC),((HB.out.cell (cB w _ zI)).trans zI),((HB.out.cell (cB w _ zH)).trans zH)⟩ (fun hHeld=> ?_);refine nK cH.uO cH.uD (fun aD dL=> ?_)
     generalize NV.drew=w30 at cK fJ HB zA zB zE zG hHeld⊢
     refine ap 1 24 aD.out ?_;refine f4 0 23 aD.out dL.out hHeld (hr:=by rintro w' ⟨s0,s1,s2,s3,s4,s5,s6,s7,s8⟩;go_simp;with_reducible rfl) (h:= ?_);refine f4 2 25 aD.out dL.out hHeld (hr:=by rintro w' ⟨s0,s1,s2,s3,s4,s5,s6,s7,s8⟩;go_simp;with_reducible rfl) (h:= ?_);refine i3 (i:=3) (N:=some 26) #[true,true,true,true,false,false,false,false,false,false,false,false,false,false,false,false,false,false,false,false,false,false,false,false,false,false,false,false,false] rfl rfl (hG aD.out (by kernel_rfl)) (by decide) (fun K hK=> ?_);refine ir Try.func33 (by kernel_rfl) rfl #[.agg #[.int .i64 ((aC U cf).f0),.int .i64 ((aC U cf).f1)],.int .i64 aA] (by rfl) rfl rfl (by(try simp only[List.map_toArray,List.map_cons,List.map_nil]);first|done|rfl|(simp only[List.length_drop,List.length_take];rfl)) ?_
     with_reducible refine(nJ.calls ((aC U cf).f0) ((aC U cf).f1) aA true _ wk.out).mono ?_
     rintro e Zd ⟨rfl,hb⟩;refine⟨_,rfl, ?_⟩;replace cK:=Ah (bb cK hb);replace fJ:=Ah (bb fJ hb);replace HB:=Ah (aK (aa HB ji qw) hb);(try clear hb);(try clear hb2);(try clear hk);(try clear hi);refine hK.out _ _ ⟨(aI fJ.out 0).trans rfl,(aI fJ.out 1).trans rfl,(aI cK.out 0).trans rfl,(aI cK.out 1).trans rfl,(aI cK.out 2).trans rfl,((HB.out.cell (World.block_lt_of_cell? w _ zD)).trans zD),((HB.out.cell (World.block_lt_of_cell? w _ zC)).trans zC),((HB.out.cell (World.block_lt_of_cell? w _ zI)).trans zI),((HB.out.cell (World.block_lt_of_cell? w _ zH)).trans zH)⟩ (fun hHeld=> ?_);clear hK K;refine nq 26 ?_;refine ap 4 27 aD.out ?_;refine ap 5 28 aD.out ?_;refine ap 6 29 aD.out ?_;refine ap 7 30 aD.out ?_;refine ap 8 31 aD.out ?_;refine ap 9 32 aD.out ?_;refine ap 11 34 aD.out ?_;refine ap 13 36 aD.out ?_;refine ap 14 37 aD.out ?_;refine ap 18 41 aD.out ?_;refine ap 20 43 aD.out ?_;refine ap 21 44 aD.out ?_;refine f4 10 33 aD.out dL.out hHeld (hr:=by rintro w' ⟨s0,s1,s2,s3,s4,s5,s6,s7,s8⟩;go_simp;with_reducible rfl) (h:= ?_);refine f4 12 35 aD.out dL.out hHeld (hr:=by rintro w' ⟨s0,s1,s2,s3,s4,s5,s6,s7,s8⟩;go_simp;with_reducible rfl) (h:= ?_);refine ap 15 38 aD.out ?_;refine ap 16 39 aD.out ?_;refine f4 17 40 aD.out dL.out hHeld (hr:=by rintro w' ⟨s0,s1,s2,s3,s4,s5,s6,s7,s8⟩;go_simp;with_reducible rfl) (h:= ?_);refine f4 19 42 aD.out dL.out hHeld (hr:=by rintro w' ⟨s0,s1,s2,s3,s4,s5,s6,s7,s8⟩;go_simp;with_reducible rfl) (h:= ?_);refine ap 22 45 aD.out ?_;refine ap 23 46 aD.out ?_;refine f4 24 47 aD.out dL.out hHeld (hr:=by rintro w' ⟨s0,s1,s2,s3,s4,s5,s6,s7,s8⟩;go_simp;with_reducible rfl) (h:= ?_);refine ap 25 48 aD.out ?_;refine ap 26 49 aD.out ?_;refine ap 27 50 aD.out ?_;refine ap 28 51 aD.out ?_;refine m5 (mO aD.out (by kernel_rfl)) ?_
     try go_wp2
     go_roundg k2
     case measure=>have:=Sa.out;have:=dF.out;omega
     case rel=>exact⟨(Ee (cf+1)),e3,H',⟨by have:=Sa.out;have:=dF.out;omega⟩,⟨bk cK⟩,⟨aa HB ji qw⟩⟩
end Go.Proofs.Ytahnkgehlfdlkaa.G
