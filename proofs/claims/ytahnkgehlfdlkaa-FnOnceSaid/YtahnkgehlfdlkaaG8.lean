-- Printed by a program of this session (drive.py, by way of the kit's print). Not trusted: Lean checks it.
import Derived.Test.YtahnkgehlfdlkaaG0
import Derived.Test.YtahnkgehlfdlkaaG1
import Derived.Test.YtahnkgehlfdlkaaG6
import Derived.Test.YtahnkgehlfdlkaaG7
open Bool renaming eq_false_iff→Q3
open Go.Proofs.Try renaming prog→sX,underlying28→aab,underlying25→aah,underlying38→aap,func11→aba,func24→abe
open Go.RowKit renaming wrap64→Ee
open Go.RowKit.Below renaming refl→gR
open List renaming length_take→aN,length_drop→fM,setIfInBounds_toArray→g7,map_toArray→ib,map_cons→aac,set_cons_zero→aad,set_cons_succ→aae,map_nil→aai
open Nat renaming le_refl→eH
open Option renaming bind_eq_some_iff→Hc,bind_some→N6
open Option.some renaming inj→Ok,injEq→SY
open Prod.mk renaming injEq→cM
namespace Go.Proofs.Ytahnkgehlfdlkaa.G
open Go.RowKit Go.Proofs.YtahnkgehlfdlkaaW.PrintWords Go.Proofs.YtahnkgehlfdlkaaW.PrintLast Go.Proofs.YtahnkgehlfdlkaaW.PrintMore
attribute [local go_sem] xN xO xT xU xA xB xP xQ
set_option maxHeartbeats 8000000
set_option maxRecDepth 100000
set_option linter.unusedVariables false
set_option linter.unusedSimpArgs false
attribute [local go_sem high] QZ
def hX.l0:Nat→Bool→Int→Int→Int→List (X)→List (X)→Int→Int→List Bool→Option (Int×(List (X))×(List (X))×Bool)
 |0,_,_,_,_,_,_,_,_,_=>none
 |k+1,x2,om,oB,Vb,x653001,x653002,JR,x654001,QA=>if oB<om then(if 0≤(Ee (JR+oB))then(if(Ee (JR+oB))<(QA.length:Int)then(if((mq false QA (Ee (JR+oB)))==x2)=true then(some (0,([]:List (X)),([]:List (X)),false))else(hX.l0 k x2 om (Ee (oB+1)) Vb x653001 x653002 JR x654001 (QA.set ((Ee (JR+oB)):Int).toNat x2)))else(none))else(none))else((hU.f k Vb QA).bind fun ol=>((Er.f Vb ol).bind fun GZ=>((cH.f k GZ.1 GZ.2.1 GZ.2.2).bind fun ZO=>(if ZO=true then(some (GZ.1,GZ.2.1,GZ.2.2,true))else(some (0,([]:List (X)),([]:List (X)),false))))))
def hX.f(k:Nat)(aA:Int)(U:List (X))(aH:List (X))(av:Int)(bB:Int)(a2:Bool):Option (Int×(List (X))×(List (X))×Bool):=(fZ.f k aA U aH).bind fun CI=>(hX.l0 k a2 bB 0 aA U aH av bB CI)
theorem hX.dh:∀k,(∀y0 y1 y2 y3 y4 y5 y6 y7 y8,aG (hX.l0 k y0 y1 y2 y3 y4 y5 y6 y7 y8) (hX.l0 (k+1) y0 y1 y2 y3 y4 y5 y6 y7 y8))
 |0=>fun _ _ _ _ _ _ _ _ _ r h=>by simp[hX.l0]at h
 |k+1=>by
  have bz:=hX.dh k
  ·
   intro y0 y1 y2 y3 y4 y5 y6 y7 y8;unfold hX.l0
   repeat' with_reducible first|exact bz _ _ _ _ _ _ _ _ _|exact fZ.mono _ _ _ _|exact cH.mono _ _ _ _|exact hU.mono _ _ _|exact aG.refl _|exact aG.none _|refine aG.ite ?_ ?_|refine aG.bind ?_ (fun _=> ?_)
theorem hX.mono:∀a0 a1 a2 a3 a4 a5 k,aG (hX.f k a0 a1 a2 a3 a4 a5) (hX.f (k+1) a0 a1 a2 a3 a4 a5):=by
 intro a0 a1 a2 a3 a4 a5 k;have bz:=hX.dh k;unfold hX.f
 repeat' with_reducible first|exact bz _ _ _ _ _ _ _ _ _|exact fZ.mono _ _ _ _|exact cH.mono _ _ _ _|exact hU.mono _ _ _|exact aG.refl _|exact aG.none _|refine aG.ite ?_ ?_|refine aG.bind ?_ (fun _=> ?_)
def hX.T9:Bool×List (List Nat×List Nat):=(true,[([],[]),([0],[0]),([],[]),([2],[2]),([],[]),([3,4],[3,4]),([1,5,5],[1,5]),([],[]),([7,6,6,0,1,2,3,4,5,6,7],[6,7])])
def hX.B9:List Nat:=[0,1,0,4,0,28,63,0,255]
theorem hX.Yq:j7 .any (vO Try.f37 9)=hX.T9:=by kernel_rfl
theorem hX.X3:qD hX.T9.2 hX.B9=true:=by kernel_rfl
theorem hX.calls(k:Nat)(aA:Int)(bH:Option Addr)(ay:Nat)(U:List (X))(bC:Option Addr)(bD:Nat)(aH:List (X))(av:Int)(bB:Int)(a2:Bool)(r1:Int)(r2:List (X))(r3:List (X))(r4:Bool)(w:World)(fC:Kd.C ag w bH U.length U)(fD:U.length≤ay)(fE:Kd.C ag w bC aH.length aH)(fF:aH.length≤bD)(h:hX.f k aA U aH av bB a2=some (r1,r2,r3,r4)):
 Calls Try.prog 37 #[.agg #[.int .i64 aA,.slice bH U.length ay,.slice bC aH.length bD],.agg #[.int .i64 av,.int .i64 bB],.bool a2] w fun e w'=>∃et eZ:Value,e= .returned (.tuple #[.agg #[.int .i64 r1,et,eZ],.bool r4])∧Kd.R ag 38 w' w.heap.size (fun k_=>some k_≠(eZ:Value).ownBlock) et r2∧Kd.R ag 38 w' w.heap.size (fun k_=>some k_≠(et:Value).ownBlock) eZ r3∧Below w.heap.size w w':=by
 have o8:=aah;have lM:=aap;have cx:=Ah fC;have dv:=Ah fD;clear fC fD;have eV:=Ah fE;have eW:=Ah fF;clear fE fF;have HB:=Ah (gR w.heap.size w);have H:((fZ.f k aA U aH).bind fun CI=>(hX.l0 k a2 bB 0 aA U aH av bB CI))=some (r1,r2,r3,r4):=h;clear h;replace H:=Hc.mp H;obtain⟨CI,fc,H⟩:=H
 try dsimp only at H
 have A4:=Ah fc;clear fc;have H':=Ah H;clear H
 go_enter Try.func37,Try.ntmps37
 go_wp2_with (first|((with_reducible refine am (N:=3) rfl ?_);refine ar 3 25 #[.int .i64 aA,.slice bH U.length ay,.slice bC aH.length bD] ?_;intro lw hg w5 cO hb;have Le:=gw hg (bs HB);have i2:=gw hg (bs HB);replace HB:=Ah (aK (bs HB) hb);clear hb hg)|((with_reducible refine am (N:=4) rfl ?_);refine ar 4 38 #[.int .i64 av,.int .i64 bB] ?_;intro oW hg w6 eY hb;have GW653:=gw hg (aQ HB i2);have jS:=gw hg (aQ HB i2);replace HB:=Ah (aK (aQ HB i2) hb);have TT:=nn cO hg;have TU:=nm cO hg;replace cO:=nb cO hb;clear hb hg)|((with_reducible refine am (N:=6) rfl ?_);refine ar 6 25 #[.int .i64 0,.slice none 0 0,.slice none 0 0] ?_;intro qP hg w7 bu hb;have GW654:=gw hg (aa HB i2 jS);have kH:=gw hg (aa HB i2 jS);replace HB:=Ah (aK (aa HB i2 jS) hb);have OG:=nn cO hg;have OH:=nm cO hg;replace cO:=nb cO hb;have IF:=nn eY hg;have IG:=nm eY hg;replace eY:=nb eY hb;clear hb hg;have hnb8:=TT.out;have hnc8:=TU.out;have hnb9:=OG.out;have hnc9:=OH.out;obtain⟨zJ,zK,zL⟩:=di cO;obtain⟨zM,zN,zO⟩:=dj cO)|((with_reducible refine bN (f:=26) rfl ?_);refine gL (some 12) rfl rfl Try.func26 (by kernel_rfl) rfl #[.agg #[.int .i64 aA,.slice bH U.length ay,.slice bC aH.length bD]] rfl ?_;(with_reducible refine(fZ.calls k aA _ _ U _ _ aH CI _ ?aJ ?aM ?ac ?au A4.out).mono ?_);(case aJ=>exact cb cx HB);(case aM=>exact dv.out);(case ac=>exact cb eV HB);(case au=>exact eW.out);rintro e NT ⟨ZN,rfl,ho0,hb⟩;refine⟨_,rfl, ?_⟩;have Bk:=Ah (Kd.bq ho0 (bR (bF HB i2 jS kH)));replace cO:=nb cO hb;replace eY:=nb eY hb;replace bu:=nb bu hb;replace HB:=Ah (aK (bF HB i2 jS kH) hb);(try clear hb ho0))|((with_reducible refine am (N:=8) rfl ?_);refine ar 8 63 #[.slice none 0 0] ?_;intro uK hg yX fq hb;replace Bk:=nr Bk hb;have GW658:=gw hg (bF HB i2 jS kH);have lx:=gw hg (bF HB i2 jS kH);replace HB:=Ah (aK (bF HB i2 jS kH) hb);have OI:=nn cO hg;have TV:=nm cO hg;replace cO:=nb cO hb;have OJ:=nn eY hg;have TW:=nm eY hg;replace eY:=nb eY hb;have F5:=nn bu hg;have IH:=nm bu hg;replace bu:=nb bu hb;clear hb hg;obtain⟨gl,fP,sH⟩:=Kd.ax Bk.out;subst sH;have hnb14:=TV.out;have hnc14:=OI.out;have WR:=TW.out;have WS:=OJ.out;have hnb16:=IH.out;have hnc16:=F5.out;have qf:=Zb fq;have qg:=SG fq;have hnb18:=IF.out;have hnc18:=IG.out;obtain⟨Ig,Ih⟩:=da eY;obtain⟨Ii,Ij⟩:=db eY))
 go_loopg [15] k (fun kq v15 w'=>∃ (ly:Int) (II:Int) (ke:List Bool) (Vc:Value),v15= .int .i64 ly∧Y (hX.l0 kq a2 bB ly aA U aH av bB ke=some (r1,r2,r3,r4))∧Y (kq≤k)∧Y (Kd.R Kd.bool 4 w' w.heap.size (fun _=>True) Vc ke)∧Y (w'.heap[lw]?=some (.cells #[.int .i64 aA,(.slice bH U.length ay),(.slice bC aH.length bD)] 25 (0,0)))∧Y (w'.heap[oW]?=some (.cells #[.int .i64 av,.int .i64 bB] 38 (0,0)))∧Y (w'.heap[qP]?=some (.cells #[.int .i64 II,(.slice none 0 0),(.slice none 0 0)] 25 (0,0)))∧Y (w'.heap[uK]?=some (.cells #[Vc] 63 (0,0)))∧Y (Below w.heap.size w w'))
 case atStart=>exact⟨(0),(0),(CI),(.slice gl CI.length fP),e3,H',⟨eH _⟩,⟨by(with_reducible repeat(first|apply Kd.al|apply Kd.ak|apply Kd.aY));exact Kd.aE (Kd.I (p:=⟨uK,0,none⟩) (Kd.ao Bk.out fq.out (by decide)) (fun _ hk=>hk.2) (.slice gl CI.length fP)) (fun _ hk=>trivial)⟩,⟨bf cO OI⟩,⟨bf eY OJ⟩,⟨bf bu F5⟩,⟨by exact pb fq⟩,⟨be HB i2 jS kH lx⟩⟩
 case round=>
  clear H'
  try clear c1
  try clear c2
  try clear p2
  try clear c3
  try clear c8
  try clear c9
  try clear c14
  try clear c15
  try clear c16
  try clear c18
  try clear zJ zK zL
  try clear qf
  try clear Ig Ih
  try clear zM zN zO
  try clear qg
  try clear Ii Ij
  obtain⟨ly,II,ke,Vc,rfl,HA,dC,gc,cO,eY,bu,fq,HB⟩:=hrel
  cases gk with
  |zero=>exact absurd HA.out (by simp[hX.l0])
  |succ k1=>
   have H:=HA.out;clear HA;simp only[hX.l0]at H
   by_cases c20:ly<bB
   ·
    rw[if_pos c20]at H;have BJ:=bS c20;clear c20;obtain⟨ll,R9⟩:∃j_:Int,(Ee (av+ly))=j_:=⟨_,rfl⟩
    replace H:(if 0≤(ll)then(if(ll)<(ke.length:Int)then(if((mq false ke (ll))==a2)=true then(some (0,([]:List (X)),([]:List (X)),false))else(hX.l0 k1 a2 bB (Ee (ly+1)) aA U aH av bB (ke.set ((ll):Int).toNat a2)))else(none))else(none))=some (r1,r2,r3,r4):=by first|(rw[R9]at H;exact H)|(simp only[R9]at H⊢;exact H)
    have hji21w:(IntKind.i64.wrap (av+ly))=ll:=(lr _).trans R9
    by_cases n5:0≤(ll)
    rotate_left
    ·
     rw[if_neg n5]at H;exact absurd H (by simp)
    rw[if_pos n5]at H;have c22b0:=bS n5;clear n5
    by_cases c23:(ll)<(ke.length:Int)
    rotate_left
    ·
     rw[if_neg c23]at H;exact absurd H (by simp)
    rw[if_pos c23]at H;have Qw:=bS c23;clear c23
    by_cases c24:((mq false ke (ll))==a2)=true
    ·
     rw[if_pos c24]at H;have BF:((mq false ke (ll))==a2)=true:=c24;(try(have DC:decide ((mq false ke (ll))=a2)=true:=by simpa using c24));(try(have c24b2:((mq false ke (ll))==a2)=true:=by simpa using c24));clear c24;simp only[SY,cM]at H;obtain⟨rfl,rfl,rfl,rfl⟩:=H;have hnb25:=TV.out;have hnc25:=OI.out;have hnb26:=TW.out;have hnc26:=OJ.out;have hnb27:=IH.out;have hnc27:=F5.out;have Cx:=Zb fq;have Cy:=SG fq;have hnb29:=TU.out;have hnc29:=TT.out;have hnb30:=IF.out;have hnc30:=IG.out;obtain⟨hcz31_0,hcz31_1⟩:=da eY;obtain⟨hfz31_0,hfz31_1⟩:=db eY;obtain⟨Ao32,co32,S7⟩:=Kd.ax gc.out;subst S7;have kO:0≤((ll):Int):=od;have kP:(ll)<(ke.length:Int):=od;obtain⟨oV,rS,vJ⟩:=Kd.OT (Kd.ab gc.out).2.2 (ll) kO kP
     cases rS
     replace kO:=eq_true kO;replace kP:=eq_true kP;have hnb33:=OH.out;have hnc33:=OG.out;obtain⟨VG,VH,hcz34_2⟩:=di bu;obtain⟨VI,VJ,hfz34_2⟩:=dj bu
     go_wp2
     refine bodyPost_ret (lT rfl _ _ qP 25 #[.int .i64 0,.slice none 0 0,.slice none 0 0] (0,0) _ rfl (pb bu) aah rfl (by kernel_rfl)) rfl ?_;exact⟨_,_,by first|rfl|(simp[rZ,ra]<;>rfl)|(simp only[←R9];first|rfl|(simp[rZ,ra]<;>rfl))|(simp[*,rZ,ra]<;>rfl),by first|exact Kd.dG _ _ _ _ _|exact Kd.dY _ _ _ _ _|exact Kd.dZ _ _ _ _ _|exact Kd.dW _ _ _ _ _|exact Kd.dX _ _ _ _ _,by first|exact Kd.dG _ _ _ _ _|exact Kd.dY _ _ _ _ _|exact Kd.dZ _ _ _ _ _|exact Kd.dW _ _ _ _ _|exact Kd.dX _ _ _ _ _,be HB i2 jS kH lx⟩
    rw[if_neg c24]at H
    have BF:((mq false ke (ll))==a2)=false:=by simpa using c24
    (try(have DC:decide ((mq false ke (ll))=a2)=false:=by simpa using c24));(try(have c24b2:((mq false ke (ll))==a2)=false:=by simpa using c24));(try(have c24b3:¬((mq false ke (ll))=a2):=by simpa using c24));clear c24;obtain⟨ZP,Lf⟩:∃y_:List Bool,y_=(ke.set ((ll):Int).toNat a2):=⟨_,rfl⟩
    replace H:(hX.l0 k1 a2 bB (Ee (ly+1)) aA U aH av bB ZP)=some (r1,r2,r3,r4):=by first|(rw[Lf];with_reducible exact H)|(have ai:=(N6 _ _).symm.trans H;rw[Lf];with_reducible exact ai)|(have ai:=(N6 _ _).symm.trans H;with_reducible exact ai)|with_reducible exact H|(rw[Lf];exact H)|exact H
    have Ny660:=Ah Lf;clear Lf;have H':=Ah H;clear H;have hnb36:=TV.out;have hnc36:=OI.out;have Qh:=TW.out;have Qi:=OJ.out;have hnb38:=IH.out;have hnc38:=F5.out;have VK:=Zb fq;have VL:=SG fq;have KU:=TU.out;have KV:=TT.out;have Jw:=IF.out;have Jx:=IG.out;obtain⟨VA,VB⟩:=da eY;obtain⟨VC,VD⟩:=db eY;obtain⟨hO,gY,E6⟩:=Kd.ax gc.out;subst E6;have kO:0≤((ll):Int):=od;have kP:(ll)<(ke.length:Int):=od;obtain⟨oV,rS,vJ⟩:=Kd.OT (Kd.ab gc.out).2.2 (ll) kO kP
    cases rS
    replace kO:=eq_true kO;replace kP:=eq_true kP;have p35:0≤((ll):Int):=od;have q35:((ll):Int)<((ke.length:Int):Int):=od;obtain⟨SC,Yy,Rx,gb35,gl35,cl35,HG35⟩:=Kd.Ft gc.out (by omega);(first|cases Rx|(injection Rx with lE wo wq;(first|subst lE|(injection lE with lE;subst lE));subst wq;clear wo));have GB35:=Ah gb35;have GG35:=Ah HG35;clear gb35 gl35 HG35;(first|simp only[k8]at vJ|skip);obtain⟨hx35_0,hf35_0⟩:=Kd.R_celln false gc.out ((ll):Int) p35 q35;replace p35:=eq_true p35;replace q35:=eq_true q35;have ZQ:=Kd.R_putg gc.out ((ll):Int) a2
    go_wp2_with (first|((with_reducible refine Ck (t:=4) (p:=34) rfl ?_);refine Ci (t:=4) (p:=34) (v:= ?vo_w45) (w1:=(wr.setCell ⟨SC,((ll):Int).toNat,none⟩ (.bool a2))) ?hg ?ho ?hn ?hr ?_;(case ho=>rfl);(case hg=>rfl);(case hn=>rfl);(case hr=>first|(go_simp;done)|(go_simp;rfl));intro w45 hw;have hg:wr.grownBy w45 (some SC):=(by rw[hw];exact ZQ.2);have pu:Kd.R Kd.bool 4 w45 w.heap.size (fun _=>True) (.slice (some ⟨SC,0,none⟩) ke.length gY) ZP:=(by rw[hw,Ny660.out];exact ZQ.1);clear ZQ;replace cO:=Ah (cC (bk cO) hg (Kd.cY gc.out cO.out (by decide)));replace eY:=Ah (cC (bk eY) hg (Kd.cY gc.out eY.out (by decide)));replace bu:=Ah (cC (bk bu) hg (Kd.cY gc.out bu.out (by decide)));replace fq:=Ah (cC (bk fq) hg (Kd.cY gc.out fq.out (by decide)));replace gc:=Ah (pu);replace HB:=Ah ((by rw[hw];exact ue (HB.out) GB35.out:Below w.heap.size w w45));clear hg hw pu))
    go_roundg k1
    case measure=>have:=dC.out;omega
    case rel=>exact⟨(Ee (ly+1)),(II),(ZP),(.slice (some ⟨SC,0,none⟩) ke.length gY),e3,H',⟨by have:=dC.out;omega⟩,⟨rr gc.out⟩,⟨bk cO⟩,⟨bk eY⟩,⟨bk bu⟩,⟨bk fq⟩,⟨be HB i2 jS kH lx⟩⟩
   rw[if_neg c20]at H;have BJ:=f7 c20;clear c20;replace H:=Hc.mp H;obtain⟨ol,A460,H⟩:=H
   try dsimp only at H
   have A46:=Ah A460;clear A460;replace H:=Hc.mp H;obtain⟨⟨tS,sO,sP⟩,Lp,H⟩:=H
   try dsimp only at H
   have NO:=Ah Lp;clear Lp;replace H:=Hc.mp H;obtain⟨ZO,Ls,H⟩:=H
   try dsimp only at H
   have SK:=Ah Ls;clear Ls;have H_:=Ah H;clear H;obtain⟨zz,yQ,Z2⟩:=Kd.ax gc.out;subst Z2
   try go_wp2
   replace gc:=Ah (Kd.aY gc.out);replace cO:=Ah (bL cO.out);replace eY:=Ah (bL eY.out);replace bu:=Ah (bL bu.out);replace fq:=Ah (bL fq.out);replace HB:=Ah (ln HB.out);refine nB (n:=9) (S:=fun w'=>w'.cell? ⟨lw,0,none⟩=some (.int .i64 aA)∧w'.cell? ⟨lw,1,none⟩=some (.slice bH U.length ay)∧w'.cell? ⟨lw,2,none⟩=some (.slice bC aH.length bD)) (ds:=[]) #[false,false,false,false,false,false,false,false,false] (by kernel_rfl) rfl rfl ⟨(aI cO.out 0).trans rfl,(aI cO.out 1).trans rfl,(aI cO.out 2).trans rfl⟩ (fun hHeld=> ?_);refine nK hX.Yq hX.X3 (fun aD dL=> ?_)
   generalize wr.drew=Nf at gc cO eY bu fq HB hHeld⊢
   refine ap 0 36 aD.out ?_;refine ap 2 38 aD.out ?_;refine ap 4 40 aD.out ?_;refine f4 1 37 aD.out dL.out hHeld (hr:=by rintro w' ⟨s0,s1,s2⟩;go_simp;with_reducible rfl) (h:= ?_);refine f4 3 39 aD.out dL.out hHeld (hr:=by rintro w' ⟨s0,s1,s2⟩;go_simp;with_reducible rfl) (h:= ?_);refine join_ (σ:=Value×Value×Value×Nat) 1 #[true,true,true,true,true,true,true,true,false] (fun s_=>[(41,s_.1),(42,.agg #[.int .i64 tS,s_.2.1,s_.2.2.1]),(10,.pointer (some ⟨s_.2.2.2,0,none⟩))]) (fun s_ w'=>(w'.cell? ⟨lw,0,none⟩=some (.int .i64 aA)∧w'.cell? ⟨lw,1,none⟩=some (.slice bH U.length ay)∧w'.cell? ⟨lw,2,none⟩=some (.slice bC aH.length bD))∧(Kd.R ag 38 w' w.heap.size (fun k_=>some k_≠(s_.2.2.1:Value).ownBlock∧k_≠oW) s_.2.1 sO)∧(Kd.R ag 38 w' w.heap.size (fun k_=>some k_≠(s_.2.1:Value).ownBlock∧k_≠oW) s_.2.2.1 sP)∧(Kd.R Kd.bool 4 w' w.heap.size (fun _=>True) (.slice zz ke.length yQ) ke)∧(w'.heap[lw]?=some (.cells #[.int .i64 aA,.slice bH U.length ay,.slice bC aH.length bD] 25 (0,0)))∧(w'.heap[oW]?=some (.cells #[.int .i64 av,.int .i64 bB] 38 (0,0)))∧(w'.heap[qP]?=some (.cells #[.int .i64 II,.slice none 0 0,.slice none 0 0] 25 (0,0)))∧(w'.heap[uK]?=some (.cells #[.slice zz ke.length yQ] 63 (0,0)))∧(w'.heap[s_.2.2.2]?=some (.cells #[.int .i64 0,.slice none 0 0,.slice none 0 0] 25 (0,0)))∧(w.heap.size≤s_.2.2.2)∧(w.heap.size≤s_.2.2.2)∧(lw≠s_.2.2.2)∧(s_.2.2.2≠lw)∧(oW≠s_.2.2.2)∧(s_.2.2.2≠oW)∧(qP≠s_.2.2.2)∧(s_.2.2.2≠qP)∧(uK≠s_.2.2.2)∧(s_.2.2.2≠uK)∧(Below w.heap.size w w')) ?_ ?_;rotate_left
   ·
    intro hCont;refine two_ (i:=5) (j:=7) (Ni:=some 41) (Nj:=some 10) #[true,true,true,true,true,true,false,false,false] #[true,true,true,true,true,false,false,true,false] rfl rfl rfl rfl (two_of aD.out (by kernel_rfl)) (by decide) (by decide) (fun K hK=> ?_) (fun K hK=> ?_)
    ·
     skip
     refine ir Try.func54 (by kernel_rfl) rfl #[.int .i64 aA,.func (.func 55) #[] #[.pointer (some ⟨uK,0,none⟩)]] (by rfl) rfl rfl (by(try simp only[ib,aac,aai]);first|done|rfl|(simp only[fM,aN];rfl)) ?_
     with_reducible refine(hU.calls k1 aA uK zz yQ ke ol _ ?aJ ?aM ?ac A46.out).mono ?_
     (case aJ=>exact df gc);(case aM=>exact(Kd.ab gc.out).2.1);(case ac=>exact bk fq);rintro e SL ⟨v662,rfl,ho0,hb⟩;refine⟨_,rfl, ?_⟩;replace gc:=Ah (Kd.bW (rr gc.out) hb);have j6:=Ah (Kd.bq (Kd.u1 ho0 (g:=oW) (o:= .cells #[.int .i64 av,.int .i64 bB] 38 (0,0)) (bk eY)) (bR (be HB i2 jS kH lx)));replace cO:=Ah (bb cO hb);replace eY:=Ah (bb eY hb);replace bu:=Ah (bb bu hb);replace fq:=Ah (bb fq hb);replace HB:=Ah (aK (be HB i2 jS kH lx) hb);(try clear hb);(try clear hb2);(try clear hk);(try clear hi);(try clear ho0);obtain⟨Mp,Mq,Mr⟩:=Kd.ax j6.out;(first|subst Mr|(injection Mr with fd jK fe;have jL:=fd.symm;have jM:=fe.symm;clear fd jK fe;subst jL;subst jM));refine hK.out _ _ ⟨(aI cO.out 0).trans rfl,(aI cO.out 1).trans rfl,(aI cO.out 2).trans rfl⟩ (fun hHeld=> ?_);clear hK K;refine nq 41 ?_;refine two_ (i:=6) (j:=7) (Ni:=some 42) (Nj:=some 10) #[true,true,true,true,true,true,true,false,false] #[true,true,true,true,true,true,false,true,false] rfl rfl rfl rfl (two_of aD.out (by kernel_rfl)) (by decide) (by decide) (fun K hK=> ?_) (fun K hK=> ?_)
     ·
      skip
      refine ir Try.func45 (by kernel_rfl) rfl #[.int .i64 aA,.slice Mp ol.length Mq] (by rfl) rfl rfl (by(try simp only[ib,aac,aai]);first|done|rfl|(simp only[fM,aN];rfl)) ?_
      with_reducible refine(Er.calls aA (fun k_=>some k_=(.slice Mp ol.length Mq:Value).ownBlock) (.slice Mp ol.length Mq) ol tS sO sP w _ ?aJ ?aM NO.out).mono ?_
      (case aJ=>exact be HB i2 jS kH lx);(case aM=>exact Kd.FA rfl j6.out);rintro e SV ⟨wZ,wa,rfl,ho0,ho1,hb,hkp⟩;refine⟨_,rfl, ?_⟩;replace gc:=Ah (Kd.aE (ok':=fun k_=>True) (Kd.OX ((Kd.Tf gc.out (Kd.dt j6.out) (by decide))) hkp (fun k_ iF hs_=>(iF.2) hs_)) (fun k_ iF=>trivial));replace cO:=Ah (pW (bk cO) hkp (fun hs_=>(fun e_=>(Kd.cY j6.out cO.out (by decide)) e_) hs_));replace bu:=Ah (pW (bk bu) hkp (fun hs_=>(fun e_=>(Kd.cY j6.out bu.out (by decide)) e_) hs_));replace fq:=Ah (pW (bk fq) hkp (fun hs_=>(fun e_=>(Kd.cY j6.out fq.out (by decide)) e_) hs_));have pL:=Ah (Kd.aE (ok':=fun k_=>some k_≠(wa:Value).ownBlock∧k_≠oW) ho0 (fun k_ iF=>⟨iF.2,Or.elim iF.1 (fun hs_=>fun e_=>(Kd.jq j6.out (fun _ hk=>hk.2)) (by rw[←e_];exact hs_)) (fun ta=>(Kd.jr (bk eY) k_ ta))⟩));have pM:=Ah (Kd.aE (ok':=fun k_=>some k_≠(wZ:Value).ownBlock∧k_≠oW) ho1 (fun k_ iF=>⟨iF.2,Or.elim iF.1 (fun hs_=>fun e_=>(Kd.jq j6.out (fun _ hk=>hk.2)) (by rw[←e_];exact hs_)) (fun ta=>(Kd.jr (bk eY) k_ ta))⟩));replace eY:=Ah (pW (bk eY) hkp (fun hs_=>(fun e_=>(Kd.jq j6.out (fun _ hk=>hk.2)) e_) hs_));replace HB:=Ah (hb);clear j6;(try clear hb);(try clear hkp);(try clear ho0);(try clear ho1);refine hK.out _ _ ⟨(aI cO.out 0).trans rfl,(aI cO.out 1).trans rfl,(aI cO.out 2).trans rfl⟩ (fun hHeld=> ?_);clear hK K;refine nq 42 ?_;refine i3 (i:=7) (N:=some 10) #[true,true,true,true,true,true,true,true,false] rfl rfl (hG aD.out (by kernel_rfl)) (by decide) (fun K hK=> ?_);refine Tg ?hg (N:=10) ?hd (cs:= #[.int .i64 0,.slice none 0 0,.slice none 0 0]) (t:=25) ?hr ?_;(case hd=>rfl);(case hg=>rfl);(case hr=>first|(go_simp;done)|(go_simp;rfl));intro iJ hg SM hbox hb;replace gc:=Ah (Kd.bW (rr gc.out) hb);replace pL:=Ah (Kd.bW (rr pL.out) hb);replace pM:=Ah (Kd.bW (rr pM.out) hb);have iK:=Ah (hbox);have Ga:=gw hg (be HB i2 jS kH lx);have pm:=gw hg (be HB i2 jS kH lx);replace HB:=Ah (aK (be HB i2 jS kH lx) hb);have k9:=nn cO hg;have um:=nm cO hg;replace cO:=Ah (bb cO hb);have sf:=nn eY hg;have un:=nm eY hg;replace eY:=Ah (bb eY hb);have sg:=nn bu hg;have uo:=nm bu hg;replace bu:=Ah (bb bu hb);have sh:=nn fq hg;have uq:=nm fq hg;replace fq:=Ah (bb fq hb);clear hb hbox hg;refine hK.out _ _ ⟨(aI cO.out 0).trans rfl,(aI cO.out 1).trans rfl,(aI cO.out 2).trans rfl⟩ (fun hHeld=> ?_);clear hK K;refine nq 10 ?_;exact QN (by simp only[zQ,Act.put,g7,aad,aae]) (hCont (.slice Mp ol.length Mq,wZ,wa,iJ) _ ⟨hHeld,(rr pL.out),(rr pM.out),(rr gc.out),(bk cO),(bk eY),(bk bu),(bk fq),(bk iK),Ga.out,pm.out,k9.out,um.out,sf.out,un.out,sg.out,uo.out,sh.out,uq.out,(lA HB i2 jS kH lx pm)⟩)
     ·
      skip
      refine Tg ?hg (N:=10) ?hd (cs:= #[.int .i64 0,.slice none 0 0,.slice none 0 0]) (t:=25) ?hr ?_;(case hd=>rfl);(case hg=>rfl);(case hr=>first|(go_simp;done)|(go_simp;rfl));intro iJ hg w53 hbox hb;replace gc:=Ah (Kd.bW (rr gc.out) hb);replace j6:=Ah (Kd.bW (rr j6.out) hb);have iK:=Ah (hbox);have Ga:=gw hg (be HB i2 jS kH lx);have pm:=gw hg (be HB i2 jS kH lx);replace HB:=Ah (aK (be HB i2 jS kH lx) hb);have k9:=nn cO hg;have um:=nm cO hg;replace cO:=Ah (bb cO hb);have sf:=nn eY hg;have un:=nm eY hg;replace eY:=Ah (bb eY hb);have sg:=nn bu hg;have uo:=nm bu hg;replace bu:=Ah (bb bu hb);have sh:=nn fq hg;have uq:=nm fq hg;replace fq:=Ah (bb fq hb);clear hb hbox hg;obtain⟨A8,AA,N1⟩:=Kd.ax j6.out;(first|subst N1|(injection N1 with fd jK fe;have jL:=fd.symm;have jM:=fe.symm;clear fd jK fe;subst jL;subst jM));refine hK.out _ _ ⟨(aI cO.out 0).trans rfl,(aI cO.out 1).trans rfl,(aI cO.out 2).trans rfl⟩ (fun hHeld=> ?_);clear hK K;refine nq 10 ?_;refine i3 (i:=6) (N:=some 42) #[true,true,true,true,true,true,true,true,false] rfl rfl (hG aD.out (by kernel_rfl)) (by decide) (fun K hK=> ?_);refine ir Try.func45 (by kernel_rfl) rfl #[.int .i64 aA,.slice A8 ol.length AA] (by rfl) rfl rfl (by(try simp only[ib,aac,aai]);first|done|rfl|(simp only[fM,aN];rfl)) ?_
      with_reducible refine(Er.calls aA (fun k_=>some k_=(.slice A8 ol.length AA:Value).ownBlock) (.slice A8 ol.length AA) ol tS sO sP w _ ?aJ ?aM NO.out).mono ?_
      (case aJ=>exact lA HB i2 jS kH lx pm);(case aM=>exact Kd.FA rfl j6.out);rintro e SM ⟨wZ,wa,rfl,ho0,ho1,hb,hkp⟩;refine⟨_,rfl, ?_⟩;replace gc:=Ah (Kd.aE (ok':=fun k_=>True) (Kd.OX ((Kd.Tf gc.out (Kd.dt j6.out) (by decide))) hkp (fun k_ iF hs_=>(iF.2) hs_)) (fun k_ iF=>trivial));replace cO:=Ah (pW (bk cO) hkp (fun hs_=>(fun e_=>(Kd.cY j6.out cO.out (by decide)) e_) hs_));replace bu:=Ah (pW (bk bu) hkp (fun hs_=>(fun e_=>(Kd.cY j6.out bu.out (by decide)) e_) hs_));replace fq:=Ah (pW (bk fq) hkp (fun hs_=>(fun e_=>(Kd.cY j6.out fq.out (by decide)) e_) hs_));replace iK:=Ah (pW (bk iK) hkp (fun hs_=>(fun e_=>(Kd.cY j6.out iK.out (by decide)) e_) hs_));have pL:=Ah (Kd.aE (ok':=fun k_=>some k_≠(wa:Value).ownBlock∧k_≠oW) ho0 (fun k_ iF=>⟨iF.2,Or.elim iF.1 (fun hs_=>fun e_=>(Kd.jq j6.out (fun _ hk=>hk.2)) (by rw[←e_];exact hs_)) (fun ta=>(Kd.jr (bk eY) k_ ta))⟩));have pM:=Ah (Kd.aE (ok':=fun k_=>some k_≠(wZ:Value).ownBlock∧k_≠oW) ho1 (fun k_ iF=>⟨iF.2,Or.elim iF.1 (fun hs_=>fun e_=>(Kd.jq j6.out (fun _ hk=>hk.2)) (by rw[←e_];exact hs_)) (fun ta=>(Kd.jr (bk eY) k_ ta))⟩));replace eY:=Ah (pW (bk eY) hkp (fun hs_=>(fun e_=>(Kd.jq j6.out (fun _ hk=>hk.2)) e_) hs_));replace HB:=Ah (hb);clear j6;(try clear hb);(try clear hkp);(try clear ho0);(try clear ho1);refine hK.out _ _ ⟨(aI cO.out 0).trans rfl,(aI cO.out 1).trans rfl,(aI cO.out 2).trans rfl⟩ (fun hHeld=> ?_);clear hK K;refine nq 42 ?_;exact QN (by simp only[zQ,Act.put,g7,aad,aae]) (hCont (.slice A8 ol.length AA,wZ,wa,iJ) _ ⟨hHeld,(rr pL.out),(rr pM.out),(rr gc.out),(bk cO),(bk eY),(bk bu),(bk fq),(bk iK),Ga.out,pm.out,k9.out,um.out,sf.out,un.out,sg.out,uo.out,sh.out,uq.out,(lA HB i2 jS kH lx pm)⟩)
    ·
     skip
     refine Tg ?hg (N:=10) ?hd (cs:= #[.int .i64 0,.slice none 0 0,.slice none 0 0]) (t:=25) ?hr ?_;(case hd=>rfl);(case hg=>rfl);(case hr=>first|(go_simp;done)|(go_simp;rfl));intro iJ hg SL hbox hb;replace gc:=Ah (Kd.bW (rr gc.out) hb);have iK:=Ah (hbox);have Ga:=gw hg (be HB i2 jS kH lx);have pm:=gw hg (be HB i2 jS kH lx);replace HB:=Ah (aK (be HB i2 jS kH lx) hb);have k9:=nn cO hg;have um:=nm cO hg;replace cO:=Ah (bb cO hb);have sf:=nn eY hg;have un:=nm eY hg;replace eY:=Ah (bb eY hb);have sg:=nn bu hg;have uo:=nm bu hg;replace bu:=Ah (bb bu hb);have sh:=nn fq hg;have uq:=nm fq hg;replace fq:=Ah (bb fq hb);clear hb hbox hg;refine hK.out _ _ ⟨(aI cO.out 0).trans rfl,(aI cO.out 1).trans rfl,(aI cO.out 2).trans rfl⟩ (fun hHeld=> ?_);clear hK K;refine nq 10 ?_;refine i3 (i:=5) (N:=some 41) #[true,true,true,true,true,true,false,true,false] rfl rfl (hG aD.out (by kernel_rfl)) (by decide) (fun K hK=> ?_);refine ir Try.func54 (by kernel_rfl) rfl #[.int .i64 aA,.func (.func 55) #[] #[.pointer (some ⟨uK,0,none⟩)]] (by rfl) rfl rfl (by(try simp only[ib,aac,aai]);first|done|rfl|(simp only[fM,aN];rfl)) ?_
     with_reducible refine(hU.calls k1 aA uK zz yQ ke ol _ ?aJ ?aM ?ac A46.out).mono ?_
     (case aJ=>exact df gc);(case aM=>exact(Kd.ab gc.out).2.1);(case ac=>exact bk fq);rintro e w53 ⟨v662,rfl,ho0,hb⟩;refine⟨_,rfl, ?_⟩;replace gc:=Ah (Kd.bW (rr gc.out) hb);have j6:=Ah (Kd.bq (Kd.u1 ho0 (g:=oW) (o:= .cells #[.int .i64 av,.int .i64 bB] 38 (0,0)) (bk eY)) (bR (lA HB i2 jS kH lx pm)));replace cO:=Ah (bb cO hb);replace eY:=Ah (bb eY hb);replace bu:=Ah (bb bu hb);replace fq:=Ah (bb fq hb);replace iK:=Ah (bb iK hb);replace HB:=Ah (aK (lA HB i2 jS kH lx pm) hb);(try clear hb);(try clear hb2);(try clear hk);(try clear hi);(try clear ho0);obtain⟨A8,AA,N1⟩:=Kd.ax j6.out;(first|subst N1|(injection N1 with fd jK fe;have jL:=fd.symm;have jM:=fe.symm;clear fd jK fe;subst jL;subst jM));refine hK.out _ _ ⟨(aI cO.out 0).trans rfl,(aI cO.out 1).trans rfl,(aI cO.out 2).trans rfl⟩ (fun hHeld=> ?_);clear hK K;refine nq 41 ?_;refine i3 (i:=6) (N:=some 42) #[true,true,true,true,true,true,true,true,false] rfl rfl (hG aD.out (by kernel_rfl)) (by decide) (fun K hK=> ?_);refine ir Try.func45 (by kernel_rfl) rfl #[.int .i64 aA,.slice A8 ol.length AA] (by rfl) rfl rfl (by(try simp only[ib,aac,aai]);first|done|rfl|(simp only[fM,aN];rfl)) ?_
     with_reducible refine(Er.calls aA (fun k_=>some k_=(.slice A8 ol.length AA:Value).ownBlock) (.slice A8 ol.length AA) ol tS sO sP w _ ?aJ ?aM NO.out).mono ?_
     (case aJ=>exact lA HB i2 jS kH lx pm);(case aM=>exact Kd.FA rfl j6.out);rintro e SM ⟨wZ,wa,rfl,ho0,ho1,hb,hkp⟩;refine⟨_,rfl, ?_⟩;replace gc:=Ah (Kd.aE (ok':=fun k_=>True) (Kd.OX ((Kd.Tf gc.out (Kd.dt j6.out) (by decide))) hkp (fun k_ iF hs_=>(iF.2) hs_)) (fun k_ iF=>trivial));replace cO:=Ah (pW (bk cO) hkp (fun hs_=>(fun e_=>(Kd.cY j6.out cO.out (by decide)) e_) hs_));replace bu:=Ah (pW (bk bu) hkp (fun hs_=>(fun e_=>(Kd.cY j6.out bu.out (by decide)) e_) hs_));replace fq:=Ah (pW (bk fq) hkp (fun hs_=>(fun e_=>(Kd.cY j6.out fq.out (by decide)) e_) hs_));replace iK:=Ah (pW (bk iK) hkp (fun hs_=>(fun e_=>(Kd.cY j6.out iK.out (by decide)) e_) hs_));have pL:=Ah (Kd.aE (ok':=fun k_=>some k_≠(wa:Value).ownBlock∧k_≠oW) ho0 (fun k_ iF=>⟨iF.2,Or.elim iF.1 (fun hs_=>fun e_=>(Kd.jq j6.out (fun _ hk=>hk.2)) (by rw[←e_];exact hs_)) (fun ta=>(Kd.jr (bk eY) k_ ta))⟩));have pM:=Ah (Kd.aE (ok':=fun k_=>some k_≠(wZ:Value).ownBlock∧k_≠oW) ho1 (fun k_ iF=>⟨iF.2,Or.elim iF.1 (fun hs_=>fun e_=>(Kd.jq j6.out (fun _ hk=>hk.2)) (by rw[←e_];exact hs_)) (fun ta=>(Kd.jr (bk eY) k_ ta))⟩));replace eY:=Ah (pW (bk eY) hkp (fun hs_=>(fun e_=>(Kd.jq j6.out (fun _ hk=>hk.2)) e_) hs_));replace HB:=Ah (hb);clear j6;(try clear hb);(try clear hkp);(try clear ho0);(try clear ho1);refine hK.out _ _ ⟨(aI cO.out 0).trans rfl,(aI cO.out 1).trans rfl,(aI cO.out 2).trans rfl⟩ (fun hHeld=> ?_);clear hK K;refine nq 42 ?_;exact QN (by simp only[zQ,Act.put,g7,aad,aae]) (hCont (.slice A8 ol.length AA,wZ,wa,iJ) _ ⟨hHeld,(rr pL.out),(rr pM.out),(rr gc.out),(bk cO),(bk eY),(bk bu),(bk fq),(bk iK),Ga.out,pm.out,k9.out,um.out,sf.out,un.out,sg.out,uo.out,sh.out,uq.out,(lA HB i2 jS kH lx pm)⟩)
   rintro⟨v662,wZ,wa,iJ⟩ qa ⟨hS_,h0_,Nl,h2_,h3_,h4_,h5_,h6_,h7_,h8_,h9_,h10_,h11_,h12_,h13_,h14_,h15_,h16_,h17_,h18_⟩;have pL:Y (Kd.R ag 38 qa w.heap.size (fun k_=>some k_≠(wa:Value).ownBlock∧k_≠oW) wZ sO):=⟨h0_⟩;have pM:Y (Kd.R ag 38 qa w.heap.size (fun k_=>some k_≠(wZ:Value).ownBlock∧k_≠oW) wa sP):=⟨Nl⟩;replace gc:Y (Kd.R Kd.bool 4 qa w.heap.size (fun _=>True) (.slice zz ke.length yQ) ke):=⟨h2_⟩;replace cO:Y (qa.heap[lw]?=some (.cells #[.int .i64 aA,.slice bH U.length ay,.slice bC aH.length bD] 25 (0,0))):=⟨h3_⟩;replace eY:Y (qa.heap[oW]?=some (.cells #[.int .i64 av,.int .i64 bB] 38 (0,0))):=⟨h4_⟩;replace bu:Y (qa.heap[qP]?=some (.cells #[.int .i64 II,.slice none 0 0,.slice none 0 0] 25 (0,0))):=⟨h5_⟩;replace fq:Y (qa.heap[uK]?=some (.cells #[.slice zz ke.length yQ] 63 (0,0))):=⟨h6_⟩;have iK:Y (qa.heap[iJ]?=some (.cells #[.int .i64 0,.slice none 0 0,.slice none 0 0] 25 (0,0))):=⟨h7_⟩;have Ga:Y (w.heap.size≤iJ):=⟨h8_⟩;have pm:Y (w.heap.size≤iJ):=⟨h9_⟩;have k9:Y (lw≠iJ):=⟨h10_⟩;have um:Y (iJ≠lw):=⟨h11_⟩;have sf:Y (oW≠iJ):=⟨h12_⟩;have un:Y (iJ≠oW):=⟨h13_⟩;have sg:Y (qP≠iJ):=⟨h14_⟩;have uo:Y (iJ≠qP):=⟨h15_⟩;have sh:Y (uK≠iJ):=⟨h16_⟩;have uq:Y (iJ≠uK):=⟨h17_⟩;replace HB:Y (Below w.heap.size w qa):=⟨h18_⟩;clear h0_ Nl h2_ h3_ h4_ h5_ h6_ h7_ h8_ h9_ h10_ h11_ h12_ h13_ h14_ h15_ h16_ h17_ h18_;have hHeld:qa.cell? ⟨lw,0,none⟩=some (.int .i64 aA)∧qa.cell? ⟨lw,1,none⟩=some (.slice bH U.length ay)∧qa.cell? ⟨lw,2,none⟩=some (.slice bC aH.length bD):=hS_;obtain⟨yJ,wI,Rc⟩:=Kd.ax pL.out;(first|subst Rc|(injection Rc with fd jK fe;have jL:=fd.symm;have jM:=fe.symm;clear fd jK fe;subst jL;subst jM));obtain⟨uS,uT,HH⟩:=Kd.ax pM.out;(first|subst HH|(injection HH with fd jK fe;have jL:=fd.symm;have jM:=fe.symm;clear fd jK fe;subst jL;subst jM));refine QN (a':= ?_) ?_ ?_;rotate_left
   ·
    simp only[zQ,Act.put,g7,aad,aae]
    rfl
   refine i3 (i:=8) (N:=none) #[true,true,true,true,true,true,true,true,true] rfl rfl (hG aD.out (by kernel_rfl)) (by decide) (fun K hK=> ?_);have hs57:qa.cell? ⟨iJ,0,none⟩=some (.int .i64 0):=(aI iK.out 0).trans rfl;have hfs57:=gT iK.out 0;have hns57_0:=k9.out;have hns57_1:=sf.out;have hns57_2:=sg.out;have hns57_3:=sh.out;have hms57_0:=um.out;have hms57_1:=un.out;have hms57_2:=uo.out;have hms57_3:=uq.out;have hs59:qa.cell? ⟨iJ,1,none⟩=some (.slice none 0 0):=(aI iK.out 1).trans rfl;have hfs59:=gT iK.out 1;have hns59_0:=k9.out;have hns59_1:=sf.out;have hns59_2:=sg.out;have hns59_3:=sh.out;have hms59_0:=um.out;have hms59_1:=un.out;have hms59_2:=uo.out;have hms59_3:=uq.out;have hs61:qa.cell? ⟨iJ,2,none⟩=some (.slice none 0 0):=(aI iK.out 2).trans rfl;have hfs61:=gT iK.out 2;have hns61_0:=k9.out;have hns61_1:=sf.out;have hns61_2:=sg.out;have hns61_3:=sh.out;have hms61_0:=um.out;have hms61_1:=un.out;have hms61_2:=uo.out;have hms61_3:=uq.out;have H:=H_.out;clear H_
   by_cases c49:ZO=true
   rotate_left
   ·
    replace c49:=Q3.mpr c49;subst c49;rw[if_neg dc]at H;simp only[SY,cM]at H;obtain⟨rfl,rfl,rfl,rfl⟩:=H;refine G8 (w1:= ?_) (by rfl) rfl ?_ ?_;rotate_left
    ·
     go_simp
     rfl
    refine hK.out _ _ ⟨((cJ (p:=⟨iJ,_,none⟩) k9.out _).trans (((cJ (p:=⟨iJ,_,none⟩) k9.out _).trans (((cJ (p:=⟨iJ,_,none⟩) k9.out _).trans (hHeld.1)))))),((cJ (p:=⟨iJ,_,none⟩) k9.out _).trans (((cJ (p:=⟨iJ,_,none⟩) k9.out _).trans (((cJ (p:=⟨iJ,_,none⟩) k9.out _).trans (hHeld.2.1)))))),((cJ (p:=⟨iJ,_,none⟩) k9.out _).trans (((cJ (p:=⟨iJ,_,none⟩) k9.out _).trans (((cJ (p:=⟨iJ,_,none⟩) k9.out _).trans (hHeld.2.2))))))⟩ (fun hHeld=> ?_);clear hK K;refine m5 (mO aD.out (by kernel_rfl)) ?_;have hnb85:=um.out;have hnc85:=k9.out;have hnb86:=un.out;have hnc86:=sf.out;have hnb87:=uo.out;have hnc87:=sg.out;have hnb88:=uq.out;have hnc88:=sh.out;obtain⟨Ui,Uj,Uk⟩:=di iK;obtain⟨Ul,Um,Un⟩:=dj iK
    try go_wp2_with (first|((with_reducible refine bN (f:=24) rfl ?_);refine gL (some 44) rfl rfl abe (by kernel_rfl) rfl #[.agg #[.int .i64 tS,.slice yJ sO.length wI,.slice uS sP.length uT]] rfl ?_;(with_reducible refine(cH.calls k1 tS _ _ sO _ _ sP false _ ?aJ ?aM ?ac ?au SK.out).mono ?_);(case aJ=>exact rc pL iK);(case aM=>exact(Kd.ab pL.out).2.1);(case ac=>exact rc pM iK);(case au=>exact(Kd.ab pM.out).2.1);rintro e Zs ⟨rfl,hb⟩;refine⟨_,rfl, ?_⟩;replace gc:=nf gc iK hb;replace pL:=nf pL iK hb;replace pM:=nf pM iK hb;replace cO:=Ah (bJ (bf cO k9) hb);replace eY:=Ah (bJ (bf eY sf) hb);replace bu:=Ah (bJ (bf bu sg) hb);replace fq:=Ah (bJ (bf fq sh) hb);replace iK:=Ah (bJ (g:=iJ) (o:= .cells #[.int .i64 tS,.slice yJ sO.length wI,.slice uS sP.length uT] 25 (0,0)) (pb iK) hb);replace HB:=Ah (aK (lA HB i2 jS kH lx pm) hb);(try clear hb);have hnb91:=OH.out;have hnc91:=OG.out;have Qd:=IG.out;have Qe:=IF.out;have hnb93:=F5.out;have hnc93:=IH.out;obtain⟨hcz94_0,hcz94_1,hcz94_2⟩:=di bu;obtain⟨hfz94_0,hfz94_1,hfz94_2⟩:=dj bu))
    refine bodyPost_ret (lT rfl _ _ qP 25 #[.int .i64 0,.slice none 0 0,.slice none 0 0] (0,0) _ rfl (pb bu) aah rfl (by kernel_rfl)) rfl ?_;exact⟨_,_,er,by first|exact Kd.dG _ _ _ _ _|exact Kd.dY _ _ _ _ _|exact Kd.dZ _ _ _ _ _|exact Kd.dW _ _ _ _ _|exact Kd.dX _ _ _ _ _,by first|exact Kd.dG _ _ _ _ _|exact Kd.dY _ _ _ _ _|exact Kd.dZ _ _ _ _ _|exact Kd.dW _ _ _ _ _|exact Kd.dX _ _ _ _ _,lA HB i2 jS kH lx pm⟩
   subst c49;rw[if_pos rfl]at H;simp only[SY,cM]at H;obtain⟨rfl,rfl,rfl,rfl⟩:=H;refine G8 (w1:= ?_) (by rfl) rfl ?_ ?_;rotate_left
   ·
    go_simp
    rfl
   refine hK.out _ _ ⟨((cJ (p:=⟨iJ,_,none⟩) k9.out _).trans (((cJ (p:=⟨iJ,_,none⟩) k9.out _).trans (((cJ (p:=⟨iJ,_,none⟩) k9.out _).trans (hHeld.1)))))),((cJ (p:=⟨iJ,_,none⟩) k9.out _).trans (((cJ (p:=⟨iJ,_,none⟩) k9.out _).trans (((cJ (p:=⟨iJ,_,none⟩) k9.out _).trans (hHeld.2.1)))))),((cJ (p:=⟨iJ,_,none⟩) k9.out _).trans (((cJ (p:=⟨iJ,_,none⟩) k9.out _).trans (((cJ (p:=⟨iJ,_,none⟩) k9.out _).trans (hHeld.2.2))))))⟩ (fun hHeld=> ?_);clear hK K;refine m5 (mO aD.out (by kernel_rfl)) ?_;have GC:=um.out;have GD:=k9.out;have WB:=un.out;have WC:=sf.out;have WD:=uo.out;have WE:=sg.out;have hnb65:=uq.out;have hnc65:=sh.out;obtain⟨Pt,Pu,hcz66_2⟩:=di iK;obtain⟨Pv,Pw,hfz66_2⟩:=dj iK
   try go_wp2_with (first|((with_reducible refine bN (f:=24) rfl ?_);refine gL (some 44) rfl rfl abe (by kernel_rfl) rfl #[.agg #[.int .i64 tS,.slice yJ sO.length wI,.slice uS sP.length uT]] rfl ?_;(with_reducible refine(cH.calls k1 tS _ _ sO _ _ sP true _ ?aJ ?aM ?ac ?au SK.out).mono ?_);(case aJ=>exact rc pL iK);(case aM=>exact(Kd.ab pL.out).2.1);(case ac=>exact rc pM iK);(case au=>exact(Kd.ab pM.out).2.1);rintro e w67 ⟨rfl,hb⟩;refine⟨_,rfl, ?_⟩;replace gc:=nf gc iK hb;replace pL:=nf pL iK hb;replace pM:=nf pM iK hb;replace cO:=Ah (bJ (bf cO k9) hb);replace eY:=Ah (bJ (bf eY sf) hb);replace bu:=Ah (bJ (bf bu sg) hb);replace fq:=Ah (bJ (bf fq sh) hb);replace iK:=Ah (bJ (g:=iJ) (o:= .cells #[.int .i64 tS,.slice yJ sO.length wI,.slice uS sP.length uT] 25 (0,0)) (pb iK) hb);replace HB:=Ah (aK (lA HB i2 jS kH lx pm) hb);(try clear hb);obtain⟨hcz68_0,hcz68_1,hcz68_2⟩:=di iK;obtain⟨hfz68_0,hfz68_1,hfz68_2⟩:=dj iK;have hnb69:=OH.out;have hnc69:=OG.out;have hnb70:=IG.out;have hnc70:=IF.out;have Wp:=F5.out;have Wq:=IH.out;obtain⟨hcz72_0,hcz72_1,hcz72_2⟩:=di bu;obtain⟨hfz72_0,hfz72_1,hfz72_2⟩:=dj bu))
   refine bodyPost_ret (lT rfl _ _ qP 25 #[.int .i64 tS,.slice yJ sO.length wI,.slice uS sP.length uT] (0,0) _ rfl (pb bu) aah rfl (by kernel_rfl)) rfl ?_;exact⟨_,_,er,by(with_reducible repeat(first|apply Kd.al|apply Kd.ak|apply Kd.aY));exact Kd.aE (Kd.I (p:=⟨qP,2,none⟩) (Kd.I (p:=⟨qP,1,none⟩) (Kd.I (p:=⟨qP,0,none⟩) (Kd.ao pL.out bu.out (by decide)) (fun _ hk=>hk.2) (.int .i64 tS)) (fun _ hk=>hk.2) (.slice yJ sO.length wI)) (fun _ hk=>hk.2) (.slice uS sP.length uT)) (fun _ hk=>hk.1.1),by(with_reducible repeat(first|apply Kd.al|apply Kd.ak|apply Kd.aY));exact Kd.aE (Kd.I (p:=⟨qP,2,none⟩) (Kd.I (p:=⟨qP,1,none⟩) (Kd.I (p:=⟨qP,0,none⟩) (Kd.ao pM.out bu.out (by decide)) (fun _ hk=>hk.2) (.int .i64 tS)) (fun _ hk=>hk.2) (.slice yJ sO.length wI)) (fun _ hk=>hk.2) (.slice uS sP.length uT)) (fun _ hk=>hk.1.1),lA HB i2 jS kH lx pm⟩
def qc.f(k:Nat)(aA:Int)(U:List (X))(aH:List (X))(av:Int)(bB:Int):Option (Int×(List (X))×(List (X))×Bool):=(cH.f k aA U aH).bind fun N3=>(if N3=true then((nJ.f av bB aA).bind fun N4=>(if N4=true then((hX.f k aA U aH av bB true).bind fun zj=>(some (zj.1,zj.2.1,zj.2.2.1,zj.2.2.2)))else(some (0,([]:List (X)),([]:List (X)),false))))else(some (0,([]:List (X)),([]:List (X)),false)))
theorem qc.mono:∀a0 a1 a2 a3 a4 k,aG (qc.f k a0 a1 a2 a3 a4) (qc.f (k+1) a0 a1 a2 a3 a4):=by
 intro a0 a1 a2 a3 a4 k;unfold qc.f
 repeat' with_reducible first|exact hX.mono _ _ _ _ _ _ _|exact cH.mono _ _ _ _|exact aG.refl _|exact aG.none _|refine aG.ite ?_ ?_|refine aG.bind ?_ (fun _=> ?_)
theorem qc.calls(k:Nat)(aA:Int)(bH:Option Addr)(ay:Nat)(U:List (X))(bC:Option Addr)(bD:Nat)(aH:List (X))(av:Int)(bB:Int)(r1:Int)(r2:List (X))(r3:List (X))(r4:Bool)(w:World)(fC:Kd.C ag w bH U.length U)(fD:U.length≤ay)(fE:Kd.C ag w bC aH.length aH)(fF:aH.length≤bD)(h:qc.f k aA U aH av bB=some (r1,r2,r3,r4)):
 Calls Try.prog 17 #[.agg #[.int .i64 aA,.slice bH U.length ay,.slice bC aH.length bD],.agg #[.int .i64 av,.int .i64 bB]] w fun e w'=>∃et eZ:Value,e= .returned (.tuple #[.agg #[.int .i64 r1,et,eZ],.bool r4])∧Kd.R ag 38 w' w.heap.size (fun k_=>some k_≠(eZ:Value).ownBlock) et r2∧Kd.R ag 38 w' w.heap.size (fun k_=>some k_≠(et:Value).ownBlock) eZ r3∧Below w.heap.size w w':=by
 have o8:=aah;have lM:=aap;have cx:=Ah fC;have dv:=Ah fD;clear fC fD;have eV:=Ah fE;have eW:=Ah fF;clear fE fF;have HB:=Ah (gR w.heap.size w);have H:((cH.f k aA U aH).bind fun N3=>(if N3=true then((nJ.f av bB aA).bind fun N4=>(if N4=true then((hX.f k aA U aH av bB true).bind fun zj=>(some (zj.1,zj.2.1,zj.2.2.1,zj.2.2.2)))else(some (0,([]:List (X)),([]:List (X)),false))))else(some (0,([]:List (X)),([]:List (X)),false))))=some (r1,r2,r3,r4):=h;clear h;replace H:=Hc.mp H;obtain⟨N3,dz,H⟩:=H
 try dsimp only at H
 have A3:=Ah dz;clear dz
 by_cases c4:N3=true
 rotate_left
 ·
  replace c4:=Q3.mpr c4;subst c4;rw[if_neg dc]at H;simp only[SY,cM]at H;obtain⟨rfl,rfl,rfl,rfl⟩:=H
  go_enter Try.func17,Try.ntmps17
  go_wp2_with (first|((with_reducible refine am (N:=2) rfl ?_);refine ar 2 25 #[.int .i64 aA,.slice bH U.length ay,.slice bC aH.length bD] ?_;intro gb673 hg mK fw hb;have GW673:=gw hg (bs HB);have kI:=gw hg (bs HB);replace HB:=Ah (aK (bs HB) hb);clear hb hg)|((with_reducible refine am (N:=3) rfl ?_);refine ar 3 38 #[.int .i64 av,.int .i64 bB] ?_;intro RA hg CO jT hb;have GW674:=gw hg (aQ HB kI);have nF:=gw hg (aQ HB kI);replace HB:=Ah (aK (aQ HB kI) hb);have IJ:=nn fw hg;have IK:=nm fw hg;replace fw:=nb fw hb;clear hb hg)|((with_reducible refine am (N:=4) rfl ?_);refine ar 4 25 #[.int .i64 0,.slice none 0 0,.slice none 0 0] ?_;intro vp hg NN mB hb;have GW675:=gw hg (aa HB kI nF);have tG:=gw hg (aa HB kI nF);replace HB:=Ah (aK (aa HB kI nF) hb);have IL:=nn fw hg;have IM:=nm fw hg;replace fw:=nb fw hb;have IN:=nn jT hg;have IP:=nm jT hg;replace jT:=nb jT hb;clear hb hg;have KU:=IJ.out;have KV:=IK.out;have Jw:=IL.out;have Jx:=IM.out;obtain⟨VA,VB,hcz42_2⟩:=di fw;obtain⟨VC,VD,hfz42_2⟩:=dj fw)|((with_reducible refine bN (f:=24) rfl ?_);refine gL (some 7) rfl rfl abe (by kernel_rfl) rfl #[.agg #[.int .i64 aA,.slice bH U.length ay,.slice bC aH.length bD]] rfl ?_;(with_reducible refine(cH.calls k aA _ _ U _ _ aH false _ ?aJ ?aM ?ac ?au A3.out).mono ?_);(case aJ=>exact cb cx HB);(case aM=>exact dv.out);(case ac=>exact cb eV HB);(case au=>exact eW.out);rintro e Ze ⟨rfl,hb⟩;refine⟨_,rfl, ?_⟩;replace fw:=nb fw hb;replace jT:=nb jT hb;replace mB:=nb mB hb;replace HB:=Ah (aK (bF HB kI nF tG) hb);(try clear hb);have hnb44:=IP.out;have hnc44:=IN.out;obtain⟨FL,FM,FN⟩:=di mB;obtain⟨FU,FV,FW⟩:=dj mB))
  refine bodyPost_ret (lT rfl _ _ vp 25 #[.int .i64 0,.slice none 0 0,.slice none 0 0] (0,0) _ rfl (pb mB) aah rfl (by kernel_rfl)) rfl ?_;exact⟨_,_,er,by first|exact Kd.dG _ _ _ _ _|exact Kd.dY _ _ _ _ _|exact Kd.dZ _ _ _ _ _|exact Kd.dW _ _ _ _ _|exact Kd.dX _ _ _ _ _,by first|exact Kd.dG _ _ _ _ _|exact Kd.dY _ _ _ _ _|exact Kd.dZ _ _ _ _ _|exact Kd.dW _ _ _ _ _|exact Kd.dX _ _ _ _ _,bF HB kI nF tG⟩
 subst c4;rw[if_pos rfl]at H;replace H:=Hc.mp H;obtain⟨N4,lD,H⟩:=H
 try dsimp only at H
 have A5:=Ah lD;clear lD
 by_cases c6:N4=true
 rotate_left
 ·
  replace c6:=Q3.mpr c6;subst c6;rw[if_neg dc]at H;simp only[SY,cM]at H;obtain⟨rfl,rfl,rfl,rfl⟩:=H
  go_enter Try.func17,Try.ntmps17
  go_wp2_with (first|((with_reducible refine am (N:=2) rfl ?_);refine ar 2 25 #[.int .i64 aA,.slice bH U.length ay,.slice bC aH.length bD] ?_;intro gb673 hg n4 fw hb;have GW673:=gw hg (bs HB);have kI:=gw hg (bs HB);replace HB:=Ah (aK (bs HB) hb);clear hb hg)|((with_reducible refine am (N:=3) rfl ?_);refine ar 3 38 #[.int .i64 av,.int .i64 bB] ?_;intro RA hg Cb jT hb;have GW674:=gw hg (aQ HB kI);have nF:=gw hg (aQ HB kI);replace HB:=Ah (aK (aQ HB kI) hb);have IJ:=nn fw hg;have IK:=nm fw hg;replace fw:=nb fw hb;clear hb hg)|((with_reducible refine am (N:=4) rfl ?_);refine ar 4 25 #[.int .i64 0,.slice none 0 0,.slice none 0 0] ?_;intro vp hg yW mB hb;have GW675:=gw hg (aa HB kI nF);have tG:=gw hg (aa HB kI nF);replace HB:=Ah (aK (aa HB kI nF) hb);have IL:=nn fw hg;have IM:=nm fw hg;replace fw:=nb fw hb;have IN:=nn jT hg;have IP:=nm jT hg;replace jT:=nb jT hb;clear hb hg;have hnb28:=IJ.out;have hnc28:=IK.out;have hnb29:=IL.out;have hnc29:=IM.out;obtain⟨hcz30_0,hcz30_1,hcz30_2⟩:=di fw;obtain⟨hfz30_0,hfz30_1,hfz30_2⟩:=dj fw)|((with_reducible refine bN (f:=24) rfl ?_);refine gL (some 7) rfl rfl abe (by kernel_rfl) rfl #[.agg #[.int .i64 aA,.slice bH U.length ay,.slice bC aH.length bD]] rfl ?_;(with_reducible refine(cH.calls k aA _ _ U _ _ aH true _ ?aJ ?aM ?ac ?au A3.out).mono ?_);(case aJ=>exact cb cx HB);(case aM=>exact dv.out);(case ac=>exact cb eV HB);(case au=>exact eW.out);rintro e Zd ⟨rfl,hb⟩;refine⟨_,rfl, ?_⟩;replace fw:=nb fw hb;replace jT:=nb jT hb;replace mB:=nb mB hb;replace HB:=Ah (aK (bF HB kI nF tG) hb);(try clear hb);have Qx:=IN.out;have Qy:=IP.out;obtain⟨Fj,Fk⟩:=da jT;obtain⟨Fl,Fm⟩:=db jT;obtain⟨VG,VH,hcz34_2⟩:=di fw;obtain⟨VI,VJ,hfz34_2⟩:=dj fw)|(go_at_call 33;(with_reducible refine(nJ.calls av bB aA false _ A5.out).mono ?_);rintro e SY ⟨rfl,hb⟩;replace fw:=nb fw hb;replace jT:=nb jT hb;replace mB:=nb mB hb;replace HB:=Ah (aK (bF HB kI nF tG) hb);(try clear hb);obtain⟨P0,P1,P2⟩:=di mB;obtain⟨PM,PN,PO⟩:=dj mB))
  refine bodyPost_ret (lT rfl _ _ vp 25 #[.int .i64 0,.slice none 0 0,.slice none 0 0] (0,0) _ rfl (pb mB) aah rfl (by kernel_rfl)) rfl ?_;exact⟨_,_,er,by first|exact Kd.dG _ _ _ _ _|exact Kd.dY _ _ _ _ _|exact Kd.dZ _ _ _ _ _|exact Kd.dW _ _ _ _ _|exact Kd.dX _ _ _ _ _,by first|exact Kd.dG _ _ _ _ _|exact Kd.dY _ _ _ _ _|exact Kd.dZ _ _ _ _ _|exact Kd.dW _ _ _ _ _|exact Kd.dX _ _ _ _ _,bF HB kI nF tG⟩
 subst c6;rw[if_pos rfl]at H;replace H:=Hc.mp H;obtain⟨⟨SD,SE,SF,t685⟩,pt,H⟩:=H
 try dsimp only at H
 have A7:=Ah pt;clear pt;simp only[SY,cM]at H;obtain⟨rfl,rfl,rfl,rfl⟩:=H
 go_enter Try.func17,Try.ntmps17
 go_wp2_with (first|((with_reducible refine am (N:=2) rfl ?_);refine ar 2 25 #[.int .i64 aA,.slice bH U.length ay,.slice bC aH.length bD] ?_;intro gb673 hg w8 fw hb;have GW673:=gw hg (bs HB);have kI:=gw hg (bs HB);replace HB:=Ah (aK (bs HB) hb);clear hb hg)|((with_reducible refine am (N:=3) rfl ?_);refine ar 3 38 #[.int .i64 av,.int .i64 bB] ?_;intro RA hg w9 jT hb;have GW674:=gw hg (aQ HB kI);have nF:=gw hg (aQ HB kI);replace HB:=Ah (aK (aQ HB kI) hb);have IJ:=nn fw hg;have IK:=nm fw hg;replace fw:=nb fw hb;clear hb hg)|((with_reducible refine am (N:=4) rfl ?_);refine ar 4 25 #[.int .i64 0,.slice none 0 0,.slice none 0 0] ?_;intro vp hg oq mB hb;have GW675:=gw hg (aa HB kI nF);have tG:=gw hg (aa HB kI nF);replace HB:=Ah (aK (aa HB kI nF) hb);have IL:=nn fw hg;have IM:=nm fw hg;replace fw:=nb fw hb;have IN:=nn jT hg;have IP:=nm jT hg;replace jT:=nb jT hb;clear hb hg;have Qa:=IJ.out;have Qb:=IK.out;have Ql:=IL.out;have Qm:=IM.out;obtain⟨pX,pY,rx⟩:=di fw;obtain⟨pZ,pa,ry⟩:=dj fw)|((with_reducible refine bN (f:=24) rfl ?_);refine gL (some 7) rfl rfl abe (by kernel_rfl) rfl #[.agg #[.int .i64 aA,.slice bH U.length ay,.slice bC aH.length bD]] rfl ?_;(with_reducible refine(cH.calls k aA _ _ U _ _ aH true _ ?aJ ?aM ?ac ?au A3.out).mono ?_);(case aJ=>exact cb cx HB);(case aM=>exact dv.out);(case ac=>exact cb eV HB);(case au=>exact eW.out);rintro e HX ⟨rfl,hb⟩;refine⟨_,rfl, ?_⟩;replace fw:=nb fw hb;replace jT:=nb jT hb;replace mB:=nb mB hb;replace HB:=Ah (aK (bF HB kI nF tG) hb);(try clear hb);have WR:=IN.out;have WS:=IP.out;obtain⟨ql,qm⟩:=da jT;obtain⟨qn,qo⟩:=db jT;obtain⟨qf,sk,xZ⟩:=di fw;obtain⟨qg,sl,xa⟩:=dj fw)|(go_at_call 33;(with_reducible refine(nJ.calls av bB aA true _ A5.out).mono ?_);rintro e SP ⟨rfl,hb⟩;replace fw:=nb fw hb;replace jT:=nb jT hb;replace mB:=nb mB hb;replace HB:=Ah (aK (bF HB kI nF tG) hb);(try clear hb);obtain⟨Ig,Ih,hcz19_2⟩:=di fw;obtain⟨Ii,Ij,hfz19_2⟩:=dj fw;obtain⟨rp,rq⟩:=da jT;obtain⟨ru,rv⟩:=db jT)|((with_reducible refine bN (f:=37) rfl ?_);refine gL (some 19) rfl rfl Try.func37 (by kernel_rfl) rfl #[.agg #[.int .i64 aA,.slice bH U.length ay,.slice bC aH.length bD],.agg #[.int .i64 av,.int .i64 bB],.bool true] rfl ?_;(with_reducible refine(hX.calls k aA _ _ U _ _ aH av bB true SD SE SF t685 _ ?aJ ?aM ?ac ?au A7.out).mono ?_);(case aJ=>exact cb cx HB);(case aM=>exact dv.out);(case ac=>exact cb eV HB);(case au=>exact eW.out);rintro e AH ⟨v680,v683,rfl,ho0,ho1,hb⟩;refine⟨_,rfl, ?_⟩;have HO681:=Ah (Kd.bq (Kd.u1 ho0 (g:=RA) (o:= .cells #[.int .i64 av,.int .i64 bB] 38 (0,0)) (bk jT)) (bR (bF HB kI nF tG)));have HO684:=Ah (Kd.bq (Kd.u1 ho1 (g:=RA) (o:= .cells #[.int .i64 av,.int .i64 bB] 38 (0,0)) (bk jT)) (bR (bF HB kI nF tG)));replace fw:=nb fw hb;replace jT:=nb jT hb;replace mB:=nb mB hb;replace HB:=Ah (aK (bF HB kI nF tG) hb);(try clear hb ho0 ho1);obtain⟨ut,uu,xb⟩:=di mB;obtain⟨uw,ux,xc⟩:=dj mB;obtain⟨wN,wO,Yd⟩:=Kd.ax HO681.out;subst Yd;obtain⟨wP,wQ,Ye⟩:=Kd.ax HO684.out;subst Ye))
 refine bodyPost_ret (lT rfl _ _ vp 25 #[.int .i64 SD,.slice wN SE.length wO,.slice wP SF.length wQ] (0,0) _ rfl (pb mB) aah rfl (by kernel_rfl)) rfl ?_;exact⟨_,_,er,by(with_reducible repeat(first|apply Kd.al|apply Kd.ak|apply Kd.aY));exact Kd.aE (Kd.I (p:=⟨vp,2,none⟩) (Kd.I (p:=⟨vp,1,none⟩) (Kd.I (p:=⟨vp,0,none⟩) (Kd.ao HO681.out mB.out (by decide)) (fun _ hk=>hk.2) (.int .i64 SD)) (fun _ hk=>hk.2) (.slice wN SE.length wO)) (fun _ hk=>hk.2) (.slice wP SF.length wQ)) (fun _ hk=>hk.1.1),by(with_reducible repeat(first|apply Kd.al|apply Kd.ak|apply Kd.aY));exact Kd.aE (Kd.I (p:=⟨vp,2,none⟩) (Kd.I (p:=⟨vp,1,none⟩) (Kd.I (p:=⟨vp,0,none⟩) (Kd.ao HO684.out mB.out (by decide)) (fun _ hk=>hk.2) (.int .i64 SD)) (fun _ hk=>hk.2) (.slice wN SE.length wO)) (fun _ hk=>hk.2) (.slice wP SF.length wQ)) (fun _ hk=>hk.1.1),bF HB kI nF tG⟩
mutual
def f8.j0:Nat→List (aV)→Bool→Int→List (X)→List (X)→Int→List (aV)→Option (Int×(List (X))×(List (X))×Int×(List (aV))×Bool)
 |0,_,_,_,_,_,_,_=>none
 |k+1,x6,x24,x687000,x687001,x687002,x687003,x687004=>if x24=true then(some (0,([]:List (X)),([]:List (X)),0,([]:List (aV)),false))else((pT.f x687000 x687001 x687002).bind fun Xf=>(f8.l0 k x6 (x6.length:Int) 0 Xf.1 Xf.2.1 Xf.2.2))
def f8.l0:Nat→List (aV)→Int→Int→Int→List (X)→List (X)→Option (Int×(List (X))×(List (X))×Int×(List (aV))×Bool)
 |0,_,_,_,_,_,_=>none
 |k+1,x29,x30,x31,x701000,x701001,x701002=>if x31<x30 then(if 0≤x31 then(if x31<(x29.length:Int)then((qc.f k x701000 x701001 x701002 ((J x29 x31).f2.f0) ((J x29 x31).f2.f1)).bind fun RB=>(if RB.2.2.2=true then(f8.l0 k x29 x30 (Ee (x31+1)) RB.1 RB.2.1 RB.2.2.1)else(some (0,([]:List (X)),([]:List (X)),0,([]:List (aV)),false))))else(none))else(none))else(some (x701000,x701001,x701002,1,([]:List (aV)),true))
end
def f8.f(k:Nat)(aA:Int)(U:List (X))(aH:List (X))(bl:Int)(bO:List (aV))(l1:List (aV)):Option (Int×(List (X))×(List (X))×Int×(List (aV))×Bool):=(dH.f k aA U aH l1).bind fun Dd=>(if Dd.2=true then((mN.f k aA U aH bl bO).bind fun HT=>(f8.j0 k Dd.1 (!HT) aA U aH bl bO))else(f8.j0 k Dd.1 true aA U aH bl bO))
theorem f8.dh:∀k,(∀y0 y1 y2 y3 y4 y5 y6,aG (f8.j0 k y0 y1 y2 y3 y4 y5 y6) (f8.j0 (k+1) y0 y1 y2 y3 y4 y5 y6))∧(∀y0 y1 y2 y3 y4 y5,aG (f8.l0 k y0 y1 y2 y3 y4 y5) (f8.l0 (k+1) y0 y1 y2 y3 y4 y5))
 |0=>⟨fun _ _ _ _ _ _ _ r h=>by simp[f8.j0]at h,fun _ _ _ _ _ _ r h=>by simp[f8.l0]at h⟩
 |k+1=>by
  obtain⟨bz,ih1⟩:=f8.dh k
  refine⟨?_, ?_⟩<;>intros<;>first|unfold f8.j0|unfold f8.l0
  all_goals repeat' first
   |(with_reducible exact bz _ _ _ _ _ _ _)
   |(with_reducible exact ih1 _ _ _ _ _ _)
   |(with_reducible exact qc.mono _ _ _ _ _ _)
   |(with_reducible exact mN.mono _ _ _ _ _ _)
   |(with_reducible exact dH.mono _ _ _ _ _)
   |(with_reducible exact aG.refl _)
   |(with_reducible exact aG.none _)
   |(with_reducible refine aG.ite ?_ ?_)
   |(with_reducible refine aG.bind ?_ (fun _=> ?_))
   |exact bz _ _ _ _ _ _ _
   |exact ih1 _ _ _ _ _ _
   |exact qc.mono _ _ _ _ _ _
   |exact mN.mono _ _ _ _ _ _
   |exact dH.mono _ _ _ _ _
   |exact aG.none _
   |refine aG.ite ?_ ?_
   |refine aG.bind ?_ (fun _=> ?_)
theorem f8.mono:∀a0 a1 a2 a3 a4 a5 k,aG (f8.f k a0 a1 a2 a3 a4 a5) (f8.f (k+1) a0 a1 a2 a3 a4 a5):=by
 intro a0 a1 a2 a3 a4 a5 k;obtain⟨bz,ih1⟩:=f8.dh k;unfold f8.f
 repeat' with_reducible first|exact bz _ _ _ _ _ _ _|exact ih1 _ _ _ _ _ _|exact qc.mono _ _ _ _ _ _|exact mN.mono _ _ _ _ _ _|exact dH.mono _ _ _ _ _|exact aG.refl _|exact aG.none _|refine aG.ite ?_ ?_|refine aG.bind ?_ (fun _=> ?_)
theorem f8.calls(k:Nat)(aA:Int)(bH:Option Addr)(ay:Nat)(U:List (X))(bC:Option Addr)(bD:Nat)(aH:List (X))(bl:Int)(em:Option Addr)(en:Nat)(bO:List (aV))(A1:Option Addr)(c1:Nat)(l1:List (aV))(r1:Int)(r2:List (X))(r3:List (X))(r4:Int)(r5:List (aV))(r6:Bool)(w:World)(fC:Kd.C ag w bH U.length U)(fD:U.length≤ay)(fE:Kd.C ag w bC aH.length aH)(fF:aH.length≤bD)(mh:Kd.C cV w em bO.length bO)(mi:bO.length≤en)(hr1:Kd.C cV w A1 l1.length l1)(hc1:l1.length≤c1)(h:f8.f k aA U aH bl bO l1=some (r1,r2,r3,r4,r5,r6)):
 Calls Try.prog 5 #[.agg #[.int .i64 aA,.slice bH U.length ay,.slice bC aH.length bD,.int .i64 bl,.slice em bO.length en],.slice A1 l1.length c1] w fun e w'=>∃et eZ lm:Value,e= .returned (.tuple #[.agg #[.int .i64 r1,et,eZ,.int .i64 r4,lm],.bool r6])∧Kd.R ag 38 w' w.heap.size (fun k_=>some k_≠(eZ:Value).ownBlock) et r2∧Kd.R ag 38 w' w.heap.size (fun k_=>some k_≠(et:Value).ownBlock) eZ r3∧Kd.R cV 40 w' w.heap.size (fun _=>True) lm r5∧Below w.heap.size w w':=by
 have uP:=aab;have o8:=aah;have vt:=Try.underlying40;have lM:=aap;have cx:=Ah fC;have dv:=Ah fD;clear fC fD;have eV:=Ah fE;have eW:=Ah fF;clear fE fF;have ls:=Ah mh;have m8:=Ah mi;clear mh mi;have HR1:=Ah hr1;have rV:=Ah hc1;clear hr1 hc1;have HB:=Ah (gR w.heap.size w);have H:((dH.f k aA U aH l1).bind fun Dd=>(if Dd.2=true then((mN.f k aA U aH bl bO).bind fun HT=>(f8.j0 k Dd.1 (!HT) aA U aH bl bO))else(f8.j0 k Dd.1 true aA U aH bl bO)))=some (r1,r2,r3,r4,r5,r6):=h;clear h;replace H:=Hc.mp H;obtain⟨⟨iR,t691⟩,dz,H⟩:=H
 try dsimp only at H
 have A3:=Ah dz;clear dz;have rW:=Ah H;clear H
 go_enter Try.func5,Try.ntmps5
 go_upto_region 2 with(first|((with_reducible refine am (N:=2) rfl ?_);refine ar 2 28 #[.int .i64 aA,.slice bH U.length ay,.slice bC aH.length bD,.int .i64 bl,.slice em bO.length en] ?_;intro gb686 hg w5 iX hb;have GW686:=gw hg (bs HB);have kJ:=gw hg (bs HB);replace HB:=Ah (aK (bs HB) hb);clear hb hg)|((with_reducible refine am (N:=4) rfl ?_);refine ar 4 28 #[.int .i64 0,.slice none 0 0,.slice none 0 0,.int .i64 0,.slice none 0 0] ?_;intro r8 hg w6 iO hb;have GW687:=gw hg (aQ HB kJ);have lL:=gw hg (aQ HB kJ);replace HB:=Ah (aK (aQ HB kJ) hb);have F6:=nn iX hg;have F7:=nm iX hg;replace iX:=nb iX hb;clear hb hg;have hnb7:=F6.out;have hnc7:=F7.out;obtain⟨sv,sw,D8,Vq,Vr⟩:=ah iX;obtain⟨u7,sx,D9,Vs,Vt⟩:=af iX)|((with_reducible refine bN (f:=15) rfl ?_);refine gL (some 15) rfl rfl Try.func15 (by kernel_rfl) rfl #[.agg #[.int .i64 aA,.slice bH U.length ay,.slice bC aH.length bD],.slice A1 l1.length c1] rfl ?_;(with_reducible refine(dH.calls k aA _ _ U _ _ aH _ _ l1 iR t691 _ ?aJ ?aM ?ac ?au ?cI ?cW A3.out).mono ?_);(case aJ=>exact cb cx HB);(case aM=>exact dv.out);(case ac=>exact cb eV HB);(case au=>exact eW.out);(case cI=>exact cb HR1 HB);(case cW=>exact rV.out);rintro e w9 ⟨v689,rfl,ho0,hb⟩;refine⟨_,rfl, ?_⟩;have RC:=Ah (Kd.bq ho0 (bR (aa HB kJ lL)));replace iX:=nb iX hb;replace iO:=nb iO hb;replace HB:=Ah (aK (aa HB kJ lL) hb);(try clear hb ho0)))
 (try simp only[Act.put,g7,aad,aae])
 go_cut [24] (fun v24 wc=>∃ (kq:Nat) (RD:Bool),v24= .bool RD∧Y (f8.j0 kq iR RD aA U aH bl bO=some (r1,r2,r3,r4,r5,r6))∧Y (kq≤k)∧Y (Kd.R cV 40 wc w.heap.size (fun _=>True) v689 iR)∧Y (wc.heap[gb686]?=some (.cells #[.int .i64 aA,(.slice bH U.length ay),(.slice bC aH.length bD),.int .i64 bl,(.slice em bO.length en)] 28 (0,0)))∧Y (wc.heap[r8]?=some (.cells #[.int .i64 0,(.slice none 0 0),(.slice none 0 0),.int .i64 0,(.slice none 0 0)] 28 (0,0)))∧Y (Below w.heap.size w wc))
 case first=>
  have H:=rW.out;clear rW
  by_cases c10:t691=true
  rotate_left
  ·
   replace c10:=Q3.mpr c10;subst c10;rw[if_neg dc]at H;have H':=Ah H;clear H
   go_wp2
   go_meet
   case rel=>exact⟨_,(true),e3,H',⟨by first|omega|exact eH _⟩,⟨rr RC.out⟩,⟨bk iX⟩,⟨bk iO⟩,⟨aa HB kJ lL⟩⟩
  subst c10;rw[if_pos rfl]at H;replace H:=Hc.mp H;obtain⟨HT,Lx,H⟩:=H
  try dsimp only at H
  have A11:=Ah Lx;clear Lx;have H':=Ah H;clear H;have Ql:=F6.out;have Qm:=F7.out;obtain⟨pX,pY,rx,tq,tr⟩:=ah iX;obtain⟨pZ,pa,ry,tt,tu⟩:=af iX
  go_wp2_with (first|(go_at_call 8;(with_reducible refine(mN.calls k aA _ _ U _ _ aH bl _ _ bO HT _ ?aJ ?aM ?ac ?au ?cI ?cW A11.out).mono ?_);(case aJ=>exact cb cx HB);(case aM=>exact dv.out);(case ac=>exact cb eV HB);(case au=>exact eW.out);(case cI=>exact cb ls HB);(case cW=>exact m8.out);rintro e HX ⟨rfl,hb⟩;replace RC:=nr RC hb;replace iX:=nb iX hb;replace iO:=nb iO hb;replace HB:=Ah (aK (aa HB kJ lL) hb);(try clear hb)))
  go_meet
  case rel=>exact⟨_,(!HT),e3,H',⟨by first|omega|exact eH _⟩,⟨rr RC.out⟩,⟨bk iX⟩,⟨bk iO⟩,⟨aa HB kJ lL⟩⟩
 case rest=>
  clear rW
  try clear c1
  try clear p2
  try clear c5
  try clear c7
  try clear c10
  try clear c12
  try clear pX pY rx tq tr
  try clear sv sw D8 Vq Vr
  try clear pZ pa ry tt tu
  try clear u7 sx D9 Vs Vt
  obtain⟨kq,RD,rfl,HA,mX,az,iX,iO,HB⟩:=hcut
  cases kq with
  |zero=>exact absurd HA.out (by simp[f8.j0])
  |succ wn=>
   have H:=HA.out;clear HA;simp only[f8.j0]at H
   by_cases c15:RD=true
   ·
    subst c15;rw[if_pos rfl]at H;simp only[SY,cM]at H;obtain⟨rfl,rfl,rfl,rfl,rfl,rfl⟩:=H;have hnb16:=F7.out;have hnc16:=F6.out;obtain⟨qf,sk,xZ,Tx,Ty⟩:=ah iO;obtain⟨qg,sl,xa,Tz,U0⟩:=af iO
    go_wp2
    refine bodyPost_ret (lT rfl _ _ r8 28 #[.int .i64 0,.slice none 0 0,.slice none 0 0,.int .i64 0,.slice none 0 0] (0,0) _ rfl (pb iO) aab rfl (by kernel_rfl)) rfl ?_;exact⟨_,_,_,er,by first|exact Kd.dG _ _ _ _ _|exact Kd.dY _ _ _ _ _|exact Kd.dZ _ _ _ _ _|exact Kd.dW _ _ _ _ _|exact Kd.dX _ _ _ _ _,by first|exact Kd.dG _ _ _ _ _|exact Kd.dY _ _ _ _ _|exact Kd.dZ _ _ _ _ _|exact Kd.dW _ _ _ _ _|exact Kd.dX _ _ _ _ _,by first|exact Kd.dG _ _ _ _ _|exact Kd.dY _ _ _ _ _|exact Kd.dZ _ _ _ _ _|exact Kd.dW _ _ _ _ _|exact Kd.dX _ _ _ _ _,aa HB kJ lL⟩
   replace c15:=Q3.mpr c15;subst c15;rw[if_neg dc]at H;replace H:=Hc.mp H;obtain⟨⟨N5,HU,HV⟩,Mo,H⟩:=H
   try dsimp only at H
   have Hm:=Ah Mo;clear Mo;have H':=Ah H;clear H;have Js:=F6.out;have Jt:=F7.out;obtain⟨rp,rq,sm,FG,FH⟩:=ah iX;obtain⟨ru,rv,sn,FQ,FR⟩:=af iX
   go_wp2_with (first|((with_reducible refine bN (f:=16) rfl ?_);refine gL (some 28) rfl rfl Try.func16 (by kernel_rfl) rfl #[.agg #[.int .i64 aA,.slice bH U.length ay,.slice bC aH.length bD]] rfl ?_;(with_reducible refine(pT.calls aA _ _ U _ _ aH N5 HU HV _ ?aJ ?aM ?ac ?au Hm.out).mono ?_);(case aJ=>exact cb cx HB);(case aM=>exact dv.out);(case ac=>exact cb eV HB);(case au=>exact eW.out);rintro e AH ⟨v695,v698,rfl,ho0,ho1,hb⟩;refine⟨_,rfl, ?_⟩;replace az:=nr az hb;have RE:=Ah (Kd.bq ho0 (bR (aa HB kJ lL)));have RF:=Ah (Kd.bq ho1 (bR (aa HB kJ lL)));replace iX:=nb iX hb;replace iO:=nb iO hb;replace HB:=Ah (aK (aa HB kJ lL) hb);(try clear hb ho0 ho1))|((with_reducible refine am (N:=8) rfl ?_);refine ar 8 25 #[.int .i64 0,.slice none 0 0,.slice none 0 0] ?_;intro oX hg HY jj hb;replace az:=nr az hb;replace RE:=nr RE hb;replace RF:=nr RF hb;have GW700:=gw hg (aa HB kJ lL);have qQ:=gw hg (aa HB kJ lL);replace HB:=Ah (aK (aa HB kJ lL) hb);have F8:=nn iX hg;have OK:=nm iX hg;replace iX:=nb iX hb;have Ct:=nn iO hg;have OL:=nm iO hg;replace iO:=nb iO hb;clear hb hg;have hnb23:=OK.out;have hnc23:=F8.out;have hnb24:=OL.out;have hnc24:=Ct.out;obtain⟨Pn,Po,Pp⟩:=di jj;obtain⟨Pq,Pr,Ps⟩:=dj jj;obtain⟨jx,jy,HN⟩:=Kd.ax RE.out;subst HN;obtain⟨cT,cU,Lj⟩:=Kd.ax RF.out;subst Lj;obtain⟨cp,cq,Xn⟩:=Kd.ax az.out;subst Xn))
   go_loopg [31] wn (fun kq v31 w'=>∃ (iC:Int) (TX:Int) (TY:Int) (xK:Int) (ri:List (X)) (rj:List (X)) (QB:Value) (QC:Value),v31= .int .i64 iC∧Y (f8.l0 kq iR (iR.length:Int) iC xK ri rj=some (r1,r2,r3,r4,r5,r6))∧Y (kq≤wn)∧Y (Kd.R cV 40 w' w.heap.size (fun _=>True) (.slice cp iR.length cq) iR)∧Y (Kd.R ag 38 w' w.heap.size (fun k_=>some k_≠(QC:Value).ownBlock) QB ri)∧Y (Kd.R ag 38 w' w.heap.size (fun k_=>some k_≠(QB:Value).ownBlock) QC rj)∧Y (w'.heap[gb686]?=some (.cells #[.int .i64 aA,(.slice bH U.length ay),(.slice bC aH.length bD),.int .i64 bl,(.slice em bO.length en)] 28 (0,0)))∧Y (w'.heap[r8]?=some (.cells #[.int .i64 TX,(.slice none 0 0),(.slice none 0 0),.int .i64 TY,(.slice none 0 0)] 28 (0,0)))∧Y (w'.heap[oX]?=some (.cells #[.int .i64 xK,QB,QC] 25 (0,0)))∧Y (Below w.heap.size w w'))
   case atStart=>exact⟨(0),(0),(0),(N5),(HU),(HV),(.slice jx HU.length jy),(.slice cT HV.length cU),e3,H',⟨eH _⟩,⟨by(with_reducible repeat(first|apply Kd.al|apply Kd.ak|apply Kd.aY));exact Kd.aE (Kd.I (p:=⟨oX,2,none⟩) (Kd.I (p:=⟨oX,1,none⟩) (Kd.I (p:=⟨oX,0,none⟩) (Kd.ao az.out jj.out (by decide)) (fun _ hk=>hk.2) (.int .i64 N5)) (fun _ hk=>hk.2) (.slice jx HU.length jy)) (fun _ hk=>hk.2) (.slice cT HV.length cU)) (fun _ hk=>trivial)⟩,⟨by(with_reducible repeat(first|apply Kd.al|apply Kd.ak|apply Kd.aY));exact Kd.aE (Kd.I (p:=⟨oX,2,none⟩) (Kd.I (p:=⟨oX,1,none⟩) (Kd.I (p:=⟨oX,0,none⟩) (Kd.ao RE.out jj.out (by decide)) (fun _ hk=>hk.2) (.int .i64 N5)) (fun _ hk=>hk.2) (.slice jx HU.length jy)) (fun _ hk=>hk.2) (.slice cT HV.length cU)) (fun _ hk=>hk.1)⟩,⟨by(with_reducible repeat(first|apply Kd.al|apply Kd.ak|apply Kd.aY));exact Kd.aE (Kd.I (p:=⟨oX,2,none⟩) (Kd.I (p:=⟨oX,1,none⟩) (Kd.I (p:=⟨oX,0,none⟩) (Kd.ao RF.out jj.out (by decide)) (fun _ hk=>hk.2) (.int .i64 N5)) (fun _ hk=>hk.2) (.slice jx HU.length jy)) (fun _ hk=>hk.2) (.slice cT HV.length cU)) (fun _ hk=>hk.1)⟩,⟨bf iX F8⟩,⟨bf iO Ct⟩,⟨by exact pb jj⟩,⟨bF HB kJ lL qQ⟩⟩
   case round=>
    clear H'
    try clear c1
    try clear c2
    try clear p2
    try clear c5
    try clear c7
    try clear c10
    try clear c12
    try clear c15
    try clear c16
    try clear c19
    try clear c23
    try clear c24
    try clear pX pY rx tq tr
    try clear qf sk xZ Tx Ty
    try clear rp rq sm FG FH
    try clear Pn Po Pp
    try clear sv sw D8 Vq Vr
    try clear pZ pa ry tt tu
    try clear qg sl xa Tz U0
    try clear ru rv sn FQ FR
    try clear Pq Pr Ps
    try clear u7 sx D9 Vs Vt
    try clear p2
    obtain⟨iC,TX,TY,xK,ri,rj,QB,QC,rfl,HA,dF,vq,na,nc,iX,iO,jj,HB⟩:=hrel
    cases gk with
    |zero=>exact absurd HA.out (by simp[f8.l0])
    |succ k2=>
     have H:=HA.out;clear HA;simp only[f8.l0]at H
     by_cases kQ:iC<(iR.length:Int)
     rotate_left
     ·
      rw[if_neg kQ]at H;have BG:=f7 kQ;clear kQ;simp only[SY,cM]at H;obtain⟨rfl,rfl,rfl,rfl,rfl,rfl⟩:=H;have WD:=OK.out;have WE:=F8.out;have hnb65:=OL.out;have hnc65:=Ct.out;obtain⟨Pt,Pu,hcz66_2⟩:=di jj;obtain⟨Pv,Pw,hfz66_2⟩:=dj jj;obtain⟨Dw,Dx,MC⟩:=Kd.ax nc.out;subst MC;obtain⟨HI,HJ,Yx⟩:=Kd.ax na.out;subst Yx;have hnb69:=F7.out;have hnc69:=F6.out;obtain⟨hcz70_0,hcz70_1,hcz70_2,hcz70_3,hcz70_4⟩:=ah iO;obtain⟨hfz70_0,hfz70_1,hfz70_2,hfz70_3,hfz70_4⟩:=af iO
      go_wp2
      refine bodyPost_ret (lT rfl _ _ r8 28 #[.int .i64 xK,.slice HI ri.length HJ,.slice Dw rj.length Dx,.int .i64 1,.slice none 0 0] (0,0) _ rfl (pb iO) aab rfl (by kernel_rfl)) rfl ?_;exact⟨_,_,_,er,by(with_reducible repeat(first|apply Kd.al|apply Kd.ak|apply Kd.aY));exact Kd.aE (Kd.I (p:=⟨r8,4,none⟩) (Kd.I (p:=⟨r8,3,none⟩) (Kd.I (p:=⟨r8,2,none⟩) (Kd.I (p:=⟨r8,1,none⟩) (Kd.I (p:=⟨r8,0,none⟩) (Kd.ao na.out iO.out (by decide)) (fun _ hk=>hk.2) (.int .i64 xK)) (fun _ hk=>hk.2) (.slice HI ri.length HJ)) (fun _ hk=>hk.2) (.slice Dw rj.length Dx)) (fun _ hk=>hk.2) (.int .i64 1)) (fun _ hk=>hk.2) (.slice none 0 0)) (fun _ hk=>hk.1),by(with_reducible repeat(first|apply Kd.al|apply Kd.ak|apply Kd.aY));exact Kd.aE (Kd.I (p:=⟨r8,4,none⟩) (Kd.I (p:=⟨r8,3,none⟩) (Kd.I (p:=⟨r8,2,none⟩) (Kd.I (p:=⟨r8,1,none⟩) (Kd.I (p:=⟨r8,0,none⟩) (Kd.ao nc.out iO.out (by decide)) (fun _ hk=>hk.2) (.int .i64 xK)) (fun _ hk=>hk.2) (.slice HI ri.length HJ)) (fun _ hk=>hk.2) (.slice Dw rj.length Dx)) (fun _ hk=>hk.2) (.int .i64 1)) (fun _ hk=>hk.2) (.slice none 0 0)) (fun _ hk=>hk.1),by first|exact Kd.dG _ _ _ _ _|exact Kd.dY _ _ _ _ _|exact Kd.dZ _ _ _ _ _|exact Kd.dW _ _ _ _ _|exact Kd.dX _ _ _ _ _,bF HB kJ lL qQ⟩
     rw[if_pos kQ]at H;have BG:=bS kQ;clear kQ
     by_cases hP:0≤iC
     rotate_left
     ·
      rw[if_neg hP]at H;exact absurd H (by simp)
     rw[if_pos hP]at H;have sy:=bS hP;clear hP
     by_cases c31:iC<(iR.length:Int)
     rotate_left
     ·
      rw[if_neg c31]at H;exact absurd H (by simp)
     rw[if_pos c31]at H;have vR:=bS c31;clear c31;replace H:=Hc.mp H;obtain⟨⟨HW,ET,EU,t710⟩,MZ,H⟩:=H
     try dsimp only at H
     have SX:=Ah MZ;clear MZ
     by_cases oC:t710=true
     ·
      subst oC;rw[if_pos rfl]at H;have H':=Ah H;clear H;have EV:0≤(iC:Int):=od;have EW:iC<(iR.length:Int):=od;obtain⟨ad701,ZR,hx701_0,hx701_1,hx701_2,hx701_3,hx701_4⟩:=jQ (Kd.ab vq.out).2.2 iC EV EW
      cases ZR
      replace EV:=eq_true EV;replace EW:=eq_true EW
      go_wp2_with (first|((with_reducible refine am (N:=10) rfl ?_);refine ar 10 40 #[.int .i64 0,.int .i64 0,.int .i64 0,.int .i64 0,.int .i64 0] ?_;intro pn hg Zp mC hb;replace vq:=Ah (Kd.bW (Kd.iq (rr vq.out) pn (Nat.le_of_eq hg.symm)) hb);replace na:=nr na hb;replace nc:=nr nc hb;have GW702:=gw hg (bF HB kJ lL qQ);have zk:=gw hg (bF HB kJ lL qQ);replace HB:=Ah (aK (bF HB kJ lL qQ) hb);have IQ:=nn iX hg;have TZ:=nm iX hg;replace iX:=nb iX hb;have IR:=nn iO hg;have Ta:=nm iO hg;replace iO:=nb iO hb;have IS:=nn jj hg;have Tb:=nm jj hg;replace jj:=nb jj hb;clear hb hg;have WU:=TZ.out;have WV:=IQ.out;have hnb36:=Ta.out;have hnc36:=IR.out;have Qh:=Tb.out;have Qi:=IS.out;obtain⟨FI,FJ,P3,P4,P5⟩:=ah mC;obtain⟨FS,FT,PP,PQ,PR⟩:=af mC;have Qr:=OK.out;have Qs:=F8.out;have KU:=OL.out;have KV:=Ct.out;obtain⟨Fb,Fc,VE⟩:=di jj;obtain⟨Fd,Fe,VF⟩:=dj jj;obtain⟨ju,jk,Yz⟩:=Kd.ax na.out;subst Yz;obtain⟨hO,gY,E6⟩:=Kd.ax nc.out;subst E6)|((with_reducible refine bN (f:=17) rfl ?_);refine gL (some 39) rfl rfl Try.func17 (by kernel_rfl) rfl #[.agg #[.int .i64 xK,.slice ju ri.length jk,.slice hO rj.length gY],.agg #[.int .i64 ((J iR iC).f2.f0),.int .i64 ((J iR iC).f2.f1)]] rfl ?_;(with_reducible refine(qc.calls k2 xK _ _ ri _ _ rj ((J iR iC).f2.f0) ((J iR iC).f2.f1) HW ET EU true _ ?aJ ?aM ?ac ?au SX.out).mono ?_);(case aJ=>refine(Kd.ab (e:=38) (base:=w.heap.size) (ok:=fun k_=>some k_≠(.slice hO rj.length gY:Value).ownBlock) (n:=ri.length) (c:=jk) ?_).2.2;exact(rf na mC));(case aM=>exact(Kd.ab na.out).2.1);(case ac=>refine(Kd.ab (e:=38) (base:=w.heap.size) (ok:=fun k_=>some k_≠(.slice ju ri.length jk:Value).ownBlock) (n:=rj.length) (c:=gY) ?_).2.2;exact(rf nc mC));(case au=>exact(Kd.ab nc.out).2.1);rintro e NM ⟨v705,v708,rfl,ho0,ho1,hb⟩;refine⟨_,rfl, ?_⟩;replace vq:=Ah (Kd.bW (by(with_reducible repeat(first|apply Kd.al|apply Kd.ak|apply Kd.aY));exact(Kd.aE (Kd.I (p:=⟨pn,4,none⟩) (Kd.I (p:=⟨pn,3,none⟩) (Kd.I (p:=⟨pn,2,none⟩) (Kd.I (p:=⟨pn,1,none⟩) (Kd.I (p:=⟨pn,0,none⟩) (Kd.aE vq.out (fun k_ hk=>(⟨hk,hk.2⟩:_∧k_≠pn))) (fun _ hk=>hk.2) (.int .i64 ((J iR iC).f0))) (fun _ hk=>hk.2) (.int .i64 ((J iR iC).f1))) (fun _ hk=>hk.2) (.int .i64 ((J iR iC).f2.f0))) (fun _ hk=>hk.2) (.int .i64 ((J iR iC).f2.f1))) (fun _ hk=>hk.2) (.int .i64 ((J iR iC).f3))) (fun _ h_=>h_.1))) hb);have RG:=Ah (Kd.bq (Kd.bv (Kd.bv ho0 (Kd.bZ (rf na mC))) (Kd.bZ (rf nc mC))) (bR (be HB kJ lL qQ zk)));have RH:=Ah (Kd.bq (Kd.bv (Kd.bv ho1 (Kd.bZ (rf na mC))) (Kd.bZ (rf nc mC))) (bR (be HB kJ lL qQ zk)));replace na:=Ah (Kd.aE (Kd.cv (Kd.cv (Kd.gt (rf na mC) hb) (Kd.br ho0)) (Kd.br ho1)) (fun _ h_=>h_.1));replace nc:=Ah (Kd.aE (Kd.cv (Kd.cv (Kd.gt (rf nc mC) hb) (Kd.br ho0)) (Kd.br ho1)) (fun _ h_=>h_.1));replace iX:=Ah (bJ (bf iX IQ) hb);replace iO:=Ah (bJ (bf iO IR) hb);replace jj:=Ah (bJ (bf jj IS) hb);replace mC:=Ah (bJ (g:=pn) (o:= .cells #[.int .i64 ((J iR iC).f0),.int .i64 ((J iR iC).f1),.int .i64 ((J iR iC).f2.f0),.int .i64 ((J iR iC).f2.f1),.int .i64 ((J iR iC).f3)] 40 (0,0)) (pb mC) hb);replace HB:=Ah (aK (be HB kJ lL qQ zk) hb);(try clear hb hk ho0 ho1);obtain⟨FL,FM,FN⟩:=di jj;obtain⟨FU,FV,FW⟩:=dj jj;obtain⟨rE,rF,ME⟩:=Kd.ax RG.out;subst ME;obtain⟨yL,yM,YN⟩:=Kd.ax RH.out;subst YN))
      go_roundg k2
      case measure=>have:=mX.out;have:=dF.out;omega
      case rel=>exact⟨(Ee (iC+1)),(TX),(TY),(HW),(ET),(EU),(.slice rE ET.length rF),(.slice yL EU.length yM),e3,H',⟨by have:=mX.out;have:=dF.out;omega⟩,⟨by(with_reducible repeat(first|apply Kd.al|apply Kd.ak|apply Kd.aY));exact Kd.aE (Kd.I (p:=⟨oX,2,none⟩) (Kd.I (p:=⟨oX,1,none⟩) (Kd.I (p:=⟨oX,0,none⟩) (Kd.ao vq.out jj.out (by decide)) (fun _ hk=>hk.2) (.int .i64 HW)) (fun _ hk=>hk.2) (.slice rE ET.length rF)) (fun _ hk=>hk.2) (.slice yL EU.length yM)) (fun _ hk=>trivial)⟩,⟨by(with_reducible repeat(first|apply Kd.al|apply Kd.ak|apply Kd.aY));exact Kd.aE (Kd.I (p:=⟨oX,2,none⟩) (Kd.I (p:=⟨oX,1,none⟩) (Kd.I (p:=⟨oX,0,none⟩) (Kd.ao RG.out jj.out (by decide)) (fun _ hk=>hk.2) (.int .i64 HW)) (fun _ hk=>hk.2) (.slice rE ET.length rF)) (fun _ hk=>hk.2) (.slice yL EU.length yM)) (fun _ hk=>hk.1.1.1)⟩,⟨by(with_reducible repeat(first|apply Kd.al|apply Kd.ak|apply Kd.aY));exact Kd.aE (Kd.I (p:=⟨oX,2,none⟩) (Kd.I (p:=⟨oX,1,none⟩) (Kd.I (p:=⟨oX,0,none⟩) (Kd.ao RH.out jj.out (by decide)) (fun _ hk=>hk.2) (.int .i64 HW)) (fun _ hk=>hk.2) (.slice rE ET.length rF)) (fun _ hk=>hk.2) (.slice yL EU.length yM)) (fun _ hk=>hk.1.1.1)⟩,⟨bf iX F8⟩,⟨bf iO Ct⟩,⟨by exact pb jj⟩,⟨be HB kJ lL qQ zk⟩⟩
     replace oC:=Q3.mpr oC;subst oC;rw[if_neg dc]at H;simp only[SY,cM]at H;obtain⟨rfl,rfl,rfl,rfl,rfl,rfl⟩:=H;have EV:0≤(iC:Int):=od;have EW:iC<(iR.length:Int):=od;obtain⟨ad701,ZR,hx701_0,hx701_1,hx701_2,hx701_3,hx701_4⟩:=jQ (Kd.ab vq.out).2.2 iC EV EW
     cases ZR
     replace EV:=eq_true EV;replace EW:=eq_true EW
     go_wp2_with (first|((with_reducible refine am (N:=10) rfl ?_);refine ar 10 40 #[.int .i64 0,.int .i64 0,.int .i64 0,.int .i64 0,.int .i64 0] ?_;intro pn hg AJ mC hb;replace vq:=Ah (Kd.bW (Kd.iq (rr vq.out) pn (Nat.le_of_eq hg.symm)) hb);replace na:=nr na hb;replace nc:=nr nc hb;have GW702:=gw hg (bF HB kJ lL qQ);have zk:=gw hg (bF HB kJ lL qQ);replace HB:=Ah (aK (bF HB kJ lL qQ) hb);have IQ:=nn iX hg;have TZ:=nm iX hg;replace iX:=nb iX hb;have IR:=nn iO hg;have Ta:=nm iO hg;replace iO:=nb iO hb;have IS:=nn jj hg;have Tb:=nm jj hg;replace jj:=nb jj hb;clear hb hg;have GA:=TZ.out;have GB:=IQ.out;have W9:=Ta.out;have WA:=IR.out;have Qj:=Tb.out;have Qk:=IS.out;obtain⟨PE,PF,PG,hcz52_3,hcz52_4⟩:=ah mC;obtain⟨Pb,Pc,Pd,hfz52_3,hfz52_4⟩:=af mC;have hnb53:=OK.out;have hnc53:=F8.out;have hnb54:=OL.out;have hnc54:=Ct.out;obtain⟨hcz55_0,hcz55_1,hcz55_2⟩:=di jj;obtain⟨hfz55_0,hfz55_1,hfz55_2⟩:=dj jj;obtain⟨Ao56,ZS,eo56⟩:=Kd.ax na.out;subst eo56;obtain⟨Dv,zr,MB⟩:=Kd.ax nc.out;subst MB)|((with_reducible refine bN (f:=17) rfl ?_);refine gL (some 39) rfl rfl Try.func17 (by kernel_rfl) rfl #[.agg #[.int .i64 xK,.slice Ao56 ri.length ZS,.slice Dv rj.length zr],.agg #[.int .i64 ((J iR iC).f2.f0),.int .i64 ((J iR iC).f2.f1)]] rfl ?_;(with_reducible refine(qc.calls k2 xK _ _ ri _ _ rj ((J iR iC).f2.f0) ((J iR iC).f2.f1) HW ET EU false _ ?aJ ?aM ?ac ?au SX.out).mono ?_);(case aJ=>refine(Kd.ab (e:=38) (base:=w.heap.size) (ok:=fun k_=>some k_≠(.slice Dv rj.length zr:Value).ownBlock) (n:=ri.length) (c:=ZS) ?_).2.2;exact(rf na mC));(case aM=>exact(Kd.ab na.out).2.1);(case ac=>refine(Kd.ab (e:=38) (base:=w.heap.size) (ok:=fun k_=>some k_≠(.slice Ao56 ri.length ZS:Value).ownBlock) (n:=rj.length) (c:=zr) ?_).2.2;exact(rf nc mC));(case au=>exact(Kd.ab nc.out).2.1);rintro e w58 ⟨v705,v708,rfl,ho0,ho1,hb⟩;refine⟨_,rfl, ?_⟩;replace vq:=Ah (Kd.bW (by(with_reducible repeat(first|apply Kd.al|apply Kd.ak|apply Kd.aY));exact(Kd.aE (Kd.I (p:=⟨pn,4,none⟩) (Kd.I (p:=⟨pn,3,none⟩) (Kd.I (p:=⟨pn,2,none⟩) (Kd.I (p:=⟨pn,1,none⟩) (Kd.I (p:=⟨pn,0,none⟩) (Kd.aE vq.out (fun k_ hk=>(⟨hk,hk.2⟩:_∧k_≠pn))) (fun _ hk=>hk.2) (.int .i64 ((J iR iC).f0))) (fun _ hk=>hk.2) (.int .i64 ((J iR iC).f1))) (fun _ hk=>hk.2) (.int .i64 ((J iR iC).f2.f0))) (fun _ hk=>hk.2) (.int .i64 ((J iR iC).f2.f1))) (fun _ hk=>hk.2) (.int .i64 ((J iR iC).f3))) (fun _ h_=>h_.1))) hb);have RG:=Ah (Kd.bq (Kd.bv (Kd.bv ho0 (Kd.bZ (rf na mC))) (Kd.bZ (rf nc mC))) (bR (be HB kJ lL qQ zk)));have RH:=Ah (Kd.bq (Kd.bv (Kd.bv ho1 (Kd.bZ (rf na mC))) (Kd.bZ (rf nc mC))) (bR (be HB kJ lL qQ zk)));replace na:=Ah (Kd.aE (Kd.cv (Kd.cv (Kd.gt (rf na mC) hb) (Kd.br ho0)) (Kd.br ho1)) (fun _ h_=>h_.1));replace nc:=Ah (Kd.aE (Kd.cv (Kd.cv (Kd.gt (rf nc mC) hb) (Kd.br ho0)) (Kd.br ho1)) (fun _ h_=>h_.1));replace iX:=Ah (bJ (bf iX IQ) hb);replace iO:=Ah (bJ (bf iO IR) hb);replace jj:=Ah (bJ (bf jj IS) hb);replace mC:=Ah (bJ (g:=pn) (o:= .cells #[.int .i64 ((J iR iC).f0),.int .i64 ((J iR iC).f1),.int .i64 ((J iR iC).f2.f0),.int .i64 ((J iR iC).f2.f1),.int .i64 ((J iR iC).f3)] 40 (0,0)) (pb mC) hb);replace HB:=Ah (aK (be HB kJ lL qQ zk) hb);(try clear hb hk ho0 ho1);obtain⟨hcz59_0,hcz59_1,hcz59_2⟩:=di jj;obtain⟨hfz59_0,hfz59_1,hfz59_2⟩:=dj jj;obtain⟨uS,uT,HH⟩:=Kd.ax RG.out;subst HH;obtain⟨Rv,Rw,Yw⟩:=Kd.ax RH.out;subst Yw;have GC:=F7.out;have GD:=F6.out;obtain⟨PH,PI,PJ,PK,PL⟩:=ah iO;obtain⟨Pe,Pf,Pg,Ph,Pi⟩:=af iO))
     refine bodyPost_ret (lT rfl _ _ r8 28 #[.int .i64 0,.slice none 0 0,.slice none 0 0,.int .i64 0,.slice none 0 0] (0,0) _ rfl (AD iO Ct) aab rfl (by kernel_rfl)) rfl ?_;exact⟨_,_,_,er,by first|exact Kd.dG _ _ _ _ _|exact Kd.dY _ _ _ _ _|exact Kd.dZ _ _ _ _ _|exact Kd.dW _ _ _ _ _|exact Kd.dX _ _ _ _ _,by first|exact Kd.dG _ _ _ _ _|exact Kd.dY _ _ _ _ _|exact Kd.dZ _ _ _ _ _|exact Kd.dW _ _ _ _ _|exact Kd.dX _ _ _ _ _,by first|exact Kd.dG _ _ _ _ _|exact Kd.dY _ _ _ _ _|exact Kd.dZ _ _ _ _ _|exact Kd.dW _ _ _ _ _|exact Kd.dX _ _ _ _ _,be HB kJ lL qQ zk⟩
def jb.l0:Nat→List (X)→List (X)→Int→Int→Option (Bool)
 |0,_,_,_,_=>none
 |k+1,x0,x1,nW,gD=>if gD<nW then(if 0≤gD then(if gD<(x0.length:Int)then(if gD<(x1.length:Int)then(if(!(((aC x0 gD).f0)==((aC x1 gD).f0))||(!(((aC x0 gD).f1)==((aC x1 gD).f1))))=true then(some false)else(jb.l0 k x0 x1 nW (Ee (gD+1))))else(none))else(none))else(none))else(some true)
def jb.f(k:Nat)(l0:List (X))(l1:List (X)):Option (Bool):=if(l0.length:Int)=(l1.length:Int)then(jb.l0 k l0 l1 (l0.length:Int) 0)else(some false)
theorem jb.dh:∀k,(∀y0 y1 y2 y3,aG (jb.l0 k y0 y1 y2 y3) (jb.l0 (k+1) y0 y1 y2 y3))
 |0=>fun _ _ _ _ r h=>by simp[jb.l0]at h
 |k+1=>by
  have bz:=jb.dh k
  ·
   intro y0 y1 y2 y3;unfold jb.l0
   repeat' with_reducible first|exact bz _ _ _ _|exact aG.refl _|exact aG.none _|refine aG.ite ?_ ?_|refine aG.bind ?_ (fun _=> ?_)
theorem jb.mono:∀a0 a1 k,aG (jb.f k a0 a1) (jb.f (k+1) a0 a1):=by
 intro a0 a1 k;have bz:=jb.dh k;unfold jb.f
 repeat' with_reducible first|exact bz _ _ _ _|exact aG.refl _|exact aG.none _|refine aG.ite ?_ ?_|refine aG.bind ?_ (fun _=> ?_)
theorem jb.calls(k:Nat)(A0:Option Addr)(c0:Nat)(l0:List (X))(A1:Option Addr)(c1:Nat)(l1:List (X))(r:Bool)(w:World)(hr0:Kd.C ag w A0 l0.length l0)(hc0:l0.length≤c0)(hr1:Kd.C ag w A1 l1.length l1)(hc1:l1.length≤c1)(h:jb.f k l0 l1=some r):
 Calls sX 21 #[.slice A0 l0.length c0,.slice A1 l1.length c1] w fun e w'=>e= .returned (.bool r)∧dD w w':=by
 have lM:=aap;have fg:=Ah hr0;have rU:=Ah hc0;clear hr0 hc0;have HR1:=Ah hr1;have rV:=Ah hc1;clear hr1 hc1;have H:(if(l0.length:Int)=(l1.length:Int)then(jb.l0 k l0 l1 (l0.length:Int) 0)else(some false))=some r:=h;clear h
 by_cases c3:(l0.length:Int)=(l1.length:Int)
 rotate_left
 ·
  rw[if_neg c3]at H;have iZ:=jI c3;have tM:=jJ c3
  have Bu:(l0.length==l1.length)=false:=by first|simpa using c3|(simp at c3⊢;omega)
  obtain rfl:=Ok H
  go_enter Try.func21,Try.ntmps21
  go_wp2
  repeat(go_quiet (fail);try go_wp2)
  go_ret
  exact⟨e3,by repeat(first|exact dD.refl _|apply dD.step)⟩
 rw[if_pos c3]at H;have iZ:=jm c3;have tM:=jn c3
 have Bu:(l0.length==l1.length)=true:=by first|simpa using c3|(simp at c3⊢;omega)
 clear c3;have H':=Ah H;clear H
 go_enter Try.func21,Try.ntmps21
 go_wp2
 repeat(go_quiet (fail);try go_wp2)
 go_loopg [13] k (fun kq v13 w'=>∃ (bY:Int),v13= .int .i64 bY∧Y (jb.l0 kq l0 l1 (l0.length:Int) bY=some r)∧Y (kq≤k)∧dD w w')
 case atStart=>exact⟨(0),e3,H',⟨eH _⟩,by repeat(first|exact dD.refl _|apply dD.step)⟩
 case round=>
  clear H'
  try clear c1
  try clear c2
  try clear p2
  try clear c3
  try clear iZ
  try clear tM
  try clear Bu
  obtain⟨bY,rfl,HA,dC,⟨m1,rfl⟩⟩:=hrel
  cases gk with
  |zero=>exact absurd HA.out (by simp[jb.l0])
  |succ k1=>
   have H:=HA.out;clear HA;simp only[jb.l0]at H
   by_cases c4:bY<(l0.length:Int)
   rotate_left
   ·
    rw[if_neg c4]at H;have ky:=f7 c4;clear c4;obtain rfl:=Ok H
    go_wp2
    repeat(go_quiet (fail);try go_wp2)
    go_ret
    exact⟨e3,by repeat(first|exact dD.refl _|apply dD.step)⟩
   rw[if_pos c4]at H;have ky:=bS c4;clear c4
   by_cases c5:0≤bY
   rotate_left
   ·
    rw[if_neg c5]at H;exact absurd H (by simp)
   rw[if_pos c5]at H;have o9:=bS c5;clear c5
   by_cases c6:bY<(l0.length:Int)
   rotate_left
   ·
    rw[if_neg c6]at H;exact absurd H (by simp)
   rw[if_pos c6]at H;have zn:=bS c6;clear c6
   by_cases c7:bY<(l1.length:Int)
   rotate_left
   ·
    rw[if_neg c7]at H;exact absurd H (by simp)
   rw[if_pos c7]at H;have tJ:=bS c7;clear c7
   by_cases c8:(!(((aC l0 bY).f0)==((aC l1 bY).f0))||(!(((aC l0 bY).f1)==((aC l1 bY).f1))))=true
   ·
    rw[if_pos c8]at H;have qW:(!(((aC l0 bY).f0)==((aC l1 bY).f0))||(!(((aC l0 bY).f1)==((aC l1 bY).f1))))=true:=c8;clear c8;obtain rfl:=Ok H;have EX:0≤(bY:Int):=od;have EY:bY<(l0.length:Int):=od;obtain⟨ad711,ZT,hx711_0,hx711_1⟩:=eA fg.out bY EX EY
    cases ZT
    replace EX:=eq_true EX;replace EY:=eq_true EY;have EZ:0≤(bY:Int):=od;have Ea:bY<(l1.length:Int):=od;obtain⟨ad712,ZU,hx712_0,hx712_1⟩:=eA HR1.out bY EZ Ea
    cases ZU
    replace EZ:=eq_true EZ;replace Ea:=eq_true Ea
    go_wp2
    repeat(go_quiet (fail);try go_wp2)
    go_ret
    exact⟨e3,by repeat(first|exact dD.refl _|apply dD.step)⟩
   rw[if_neg c8]at H
   have qW:(!(((aC l0 bY).f0)==((aC l1 bY).f0))||(!(((aC l0 bY).f1)==((aC l1 bY).f1))))=false:=by simpa using c8
   clear c8;have H':=Ah H;clear H;have EX:0≤(bY:Int):=od;have EY:bY<(l0.length:Int):=od;obtain⟨ad711,ZT,hx711_0,hx711_1⟩:=eA fg.out bY EX EY
   cases ZT
   replace EX:=eq_true EX;replace EY:=eq_true EY;have EZ:0≤(bY:Int):=od;have Ea:bY<(l1.length:Int):=od;obtain⟨ad712,ZU,hx712_0,hx712_1⟩:=eA HR1.out bY EZ Ea
   cases ZU
   replace EZ:=eq_true EZ;replace Ea:=eq_true Ea
   go_wp2
   repeat(go_quiet (fail);try go_wp2)
   go_roundg k1
   case measure=>have:=dC.out;omega
   case rel=>exact⟨(Ee (bY+1)),e3,H',⟨by have:=dC.out;omega⟩,by repeat(first|exact dD.refl _|apply dD.step)⟩
def mM.f(k:Nat)(aA:Int)(U:List (X))(aH:List (X))(av:Int)(tT:List (X))(uV:List (X)):Option (Bool):=if aA=av then((jb.f k U tT).bind fun N6=>(if N6=true then((jb.f k aH uV).bind fun N7=>(some N7))else(some false)))else(some false)
theorem mM.mono:∀a0 a1 a2 a3 a4 a5 k,aG (mM.f k a0 a1 a2 a3 a4 a5) (mM.f (k+1) a0 a1 a2 a3 a4 a5):=by
 intro a0 a1 a2 a3 a4 a5 k;unfold mM.f
 repeat' with_reducible first|exact jb.mono _ _ _|exact aG.refl _|exact aG.none _|refine aG.ite ?_ ?_|refine aG.bind ?_ (fun _=> ?_)
theorem mM.calls(k:Nat)(aA:Int)(bH:Option Addr)(ay:Nat)(U:List (X))(bC:Option Addr)(bD:Nat)(aH:List (X))(av:Int)(N8:Option Addr)(N9:Nat)(tT:List (X))(NA:Option Addr)(NB:Nat)(uV:List (X))(r:Bool)(w:World)(fC:Kd.C ag w bH U.length U)(fD:U.length≤ay)(fE:Kd.C ag w bC aH.length aH)(fF:aH.length≤bD)(hr1_1:Kd.C ag w N8 tT.length tT)(hc1_1:tT.length≤N9)(hr1_2:Kd.C ag w NA uV.length uV)(hc1_2:uV.length≤NB)(h:mM.f k aA U aH av tT uV=some r):
 Calls sX 7 #[.agg #[.int .i64 aA,.slice bH U.length ay,.slice bC aH.length bD],.agg #[.int .i64 av,.slice N8 tT.length N9,.slice NA uV.length NB]] w fun e w'=>e= .returned (.bool r)∧Below w.heap.size w w':=by
 have o8:=aah;have cx:=Ah fC;have dv:=Ah fD;clear fC fD;have eV:=Ah fE;have eW:=Ah fF;clear fE fF;have HR1_1:=Ah hr1_1;have HC1_1:=Ah hc1_1;clear hr1_1 hc1_1;have HR1_2:=Ah hr1_2;have HC1_2:=Ah hc1_2;clear hr1_2 hc1_2;have HB:=Ah (gR w.heap.size w);have H:(if aA=av then((jb.f k U tT).bind fun N6=>(if N6=true then((jb.f k aH uV).bind fun N7=>(some N7))else(some false)))else(some false))=some r:=h;clear h
 by_cases c3:aA=av
 rotate_left
 ·
  rw[if_neg c3]at H;have iZ:=jI c3;have tM:=jJ c3;obtain rfl:=Ok H
  go_enter Try.func7,Try.ntmps7
  go_wp2_with (first|((with_reducible refine am (N:=2) rfl ?_);refine ar 2 25 #[.int .i64 aA,.slice bH U.length ay,.slice bC aH.length bD] ?_;intro gb713 hg Ek o3 hb;have GW713:=gw hg (bs HB);have qR:=gw hg (bs HB);replace HB:=Ah (aK (bs HB) hb);clear hb hg)|((with_reducible refine am (N:=3) rfl ?_);refine ar 3 25 #[.int .i64 av,.slice N8 tT.length N9,.slice NA uV.length NB] ?_;intro gb714 hg SP Bl hb;have GW714:=gw hg (aQ HB qR);have De:=gw hg (aQ HB qR);replace HB:=Ah (aK (aQ HB qR) hb);have IT:=nn o3 hg;have IU:=nm o3 hg;replace o3:=nb o3 hb;clear hb hg;have Js:=IT.out;have Jt:=IU.out;obtain⟨rp,rq,sm⟩:=di o3;obtain⟨ru,rv,sn⟩:=dj o3;obtain⟨OY,OZ,U1⟩:=di Bl;obtain⟨Oa,Ob,U2⟩:=dj Bl))
  go_ret
  exact⟨er,aa HB qR De⟩
 rw[if_pos c3]at H;have iZ:=jm c3;have tM:=jn c3;clear c3;replace H:=Hc.mp H;obtain⟨N6,fc,H⟩:=H
 try dsimp only at H
 have A4:=Ah fc;clear fc
 by_cases c5:N6=true
 rotate_left
 ·
  replace c5:=Q3.mpr c5;subst c5;rw[if_neg dc]at H;obtain rfl:=Ok H
  go_enter Try.func7,Try.ntmps7
  go_wp2_with (first|((with_reducible refine am (N:=2) rfl ?_);refine ar 2 25 #[.int .i64 aA,.slice bH U.length ay,.slice bC aH.length bD] ?_;intro gb713 hg yX o3 hb;have GW713:=gw hg (bs HB);have qR:=gw hg (bs HB);replace HB:=Ah (aK (bs HB) hb);clear hb hg)|((with_reducible refine am (N:=3) rfl ?_);refine ar 3 25 #[.int .i64 av,.slice N8 tT.length N9,.slice NA uV.length NB] ?_;intro gb714 hg Hg Bl hb;have GW714:=gw hg (aQ HB qR);have De:=gw hg (aQ HB qR);replace HB:=Ah (aK (aQ HB qR) hb);have IT:=nn o3 hg;have IU:=nm o3 hg;replace o3:=nb o3 hb;clear hb hg;have hnb14:=IT.out;have hnc14:=IU.out;obtain⟨Aq,Ar,Pl⟩:=di o3;obtain⟨As,At,Pm⟩:=dj o3;obtain⟨ql,qm,ro⟩:=di Bl;obtain⟨qn,qo,rt⟩:=dj Bl)|(go_at_call 21;(with_reducible refine(jb.calls k _ _ U _ _ tT false _ ?aJ ?aM ?ac ?au A4.out).mono ?_);(case aJ=>exact cb cx HB);(case aM=>exact dv.out);(case ac=>exact cb HR1_1 HB);(case au=>exact HC1_1.out);rintro e w' ⟨rfl,⟨nd,rfl⟩⟩))
  go_ret
  exact⟨er,aa HB qR De⟩
 subst c5;rw[if_pos rfl]at H;replace H:=Hc.mp H;obtain⟨N7,sW,H⟩:=H
 try dsimp only at H
 have A6:=Ah sW;clear sW;obtain rfl:=Ok H
 go_enter Try.func7,Try.ntmps7
 go_wp2_with (first|((with_reducible refine am (N:=2) rfl ?_);refine ar 2 25 #[.int .i64 aA,.slice bH U.length ay,.slice bC aH.length bD] ?_;intro gb713 hg w7 o3 hb;have GW713:=gw hg (bs HB);have qR:=gw hg (bs HB);replace HB:=Ah (aK (bs HB) hb);clear hb hg)|((with_reducible refine am (N:=3) rfl ?_);refine ar 3 25 #[.int .i64 av,.slice N8 tT.length N9,.slice NA uV.length NB] ?_;intro gb714 hg w8 Bl hb;have GW714:=gw hg (aQ HB qR);have De:=gw hg (aQ HB qR);replace HB:=Ah (aK (aQ HB qR) hb);have IT:=nn o3 hg;have IU:=nm o3 hg;replace o3:=nb o3 hb;clear hb hg;have hnb9:=IT.out;have hnc9:=IU.out;obtain⟨zJ,zK,zL⟩:=di o3;obtain⟨zM,zN,zO⟩:=dj o3;obtain⟨qh,qi,us⟩:=di Bl;obtain⟨qj,qk,uv⟩:=dj Bl)|(go_at_call 21;(with_reducible refine(jb.calls k _ _ U _ _ tT true _ ?aJ ?aM ?ac ?au A4.out).mono ?_);(case aJ=>exact cb cx HB);(case aM=>exact dv.out);(case ac=>exact cb HR1_1 HB);(case au=>exact HC1_1.out);rintro e w' ⟨rfl,⟨nd,rfl⟩⟩)|(go_at_call 21;(with_reducible refine(jb.calls k _ _ aH _ _ uV N7 _ ?aJ ?aM ?ac ?au A6.out).mono ?_);(case aJ=>repeat(first|exact(Kd.ur eV.out (aa HB qR De))|(with_reducible refine Kd.qB ?_ _)|(with_reducible refine Kd.qC ?_ _)|(with_reducible refine Kd.qE ?_)));(case aM=>exact eW.out);(case ac=>repeat(first|exact(Kd.ur HR1_2.out (aa HB qR De))|(with_reducible refine Kd.qB ?_ _)|(with_reducible refine Kd.qC ?_ _)|(with_reducible refine Kd.qE ?_)));(case au=>exact HC1_2.out);rintro e w' ⟨rfl,⟨nd,rfl⟩⟩))
 go_ret
 exact⟨er,aa HB qR De⟩
def jc.l0:Nat→Int→Int→List (X)→Int→Int→Option (Int×Int×Bool)
 |0,_,_,_,_,_=>none
 |k+1,x5,x6,gD,om,oB=>if oB<om then(if 0≤oB then(if oB<(gD.length:Int)then(jc.l0 k (Ee (x5+((aC gD oB).f1))) (mx x6 ((aC gD oB).f1)) gD om (Ee (oB+1)))else(none))else(none))else(some (x5,x6,true))
def jc.f(k:Nat)(aA:Int)(U:List (X))(aH:List (X)):Option (Int×Int×Bool):=(cH.f k aA U aH).bind fun NC=>(if NC=true then(jc.l0 k 0 0 U (U.length:Int) 0)else(some (0,0,false)))
theorem jc.dh:∀k,(∀y0 y1 y2 y3 y4,aG (jc.l0 k y0 y1 y2 y3 y4) (jc.l0 (k+1) y0 y1 y2 y3 y4))
 |0=>fun _ _ _ _ _ r h=>by simp[jc.l0]at h
 |k+1=>by
  have bz:=jc.dh k
  ·
   intro y0 y1 y2 y3 y4;unfold jc.l0
   repeat' with_reducible first|exact bz _ _ _ _ _|exact cH.mono _ _ _ _|exact aG.refl _|exact aG.none _|refine aG.ite ?_ ?_|refine aG.bind ?_ (fun _=> ?_)
theorem jc.mono:∀a0 a1 a2 k,aG (jc.f k a0 a1 a2) (jc.f (k+1) a0 a1 a2):=by
 intro a0 a1 a2 k;have bz:=jc.dh k;unfold jc.f
 repeat' with_reducible first|exact bz _ _ _ _ _|exact cH.mono _ _ _ _|exact aG.refl _|exact aG.none _|refine aG.ite ?_ ?_|refine aG.bind ?_ (fun _=> ?_)
theorem jc.calls(k:Nat)(aA:Int)(bH:Option Addr)(ay:Nat)(U:List (X))(bC:Option Addr)(bD:Nat)(aH:List (X))(r1:Int)(r2:Int)(r3:Bool)(w:World)(fC:Kd.C ag w bH U.length U)(fD:U.length≤ay)(fE:Kd.C ag w bC aH.length aH)(fF:aH.length≤bD)(h:jc.f k aA U aH=some (r1,r2,r3)):
 Calls sX 10 #[.agg #[.int .i64 aA,.slice bH U.length ay,.slice bC aH.length bD]] w fun e w'=>e= .returned (.tuple #[.int .i64 r1,.int .i64 r2,.bool r3])∧Below w.heap.size w w':=by
 have o8:=aah;have lM:=aap;have cx:=Ah fC;have dv:=Ah fD;clear fC fD;have eV:=Ah fE;have eW:=Ah fF;clear fE fF;have HB:=Ah (gR w.heap.size w);have H:((cH.f k aA U aH).bind fun NC=>(if NC=true then(jc.l0 k 0 0 U (U.length:Int) 0)else(some (0,0,false))))=some (r1,r2,r3):=h;clear h;replace H:=Hc.mp H;obtain⟨NC,kR,H⟩:=H
 try dsimp only at H
 have A2:=Ah kR;clear kR
 by_cases c3:NC=true
 rotate_left
 ·
  replace c3:=Q3.mpr c3;subst c3;rw[if_neg dc]at H;simp only[SY,cM]at H;obtain⟨rfl,rfl,rfl⟩:=H
  go_enter Try.func10,Try.ntmps10
  go_wp2_with (first|((with_reducible refine am (N:=1) rfl ?_);refine ar 1 25 #[.int .i64 aA,.slice bH U.length ay,.slice bC aH.length bD] ?_;intro gb717 hg NL pN hb;have GW717:=gw hg (bs HB);have yF:=gw hg (bs HB);replace HB:=Ah (aK (bs HB) hb);clear hb hg;obtain⟨ql,qm,ro⟩:=di pN;obtain⟨qn,qo,rt⟩:=dj pN)|((with_reducible refine bN (f:=24) rfl ?_);refine gL (some 10) rfl rfl abe (by kernel_rfl) rfl #[.agg #[.int .i64 aA,.slice bH U.length ay,.slice bC aH.length bD]] rfl ?_;(with_reducible refine(cH.calls k aA _ _ U _ _ aH false _ ?aJ ?aM ?ac ?au A2.out).mono ?_);(case aJ=>exact cb cx HB);(case aM=>exact dv.out);(case ac=>exact cb eV HB);(case au=>exact eW.out);rintro e Ek ⟨rfl,hb⟩;refine⟨_,rfl, ?_⟩;replace pN:=nb pN hb;replace HB:=Ah (aK (aQ HB yF) hb);(try clear hb)))
  go_ret3
  exact⟨er,aQ HB yF⟩
 subst c3;rw[if_pos rfl]at H;have H':=Ah H;clear H
 go_enter Try.func10,Try.ntmps10
 go_wp2_with (first|((with_reducible refine am (N:=1) rfl ?_);refine ar 1 25 #[.int .i64 aA,.slice bH U.length ay,.slice bC aH.length bD] ?_;intro gb717 hg w4 pN hb;have GW717:=gw hg (bs HB);have yF:=gw hg (bs HB);replace HB:=Ah (aK (bs HB) hb);clear hb hg;obtain⟨G3,JX,JY⟩:=di pN;obtain⟨Jb,JZ,Ja⟩:=dj pN)|((with_reducible refine bN (f:=24) rfl ?_);refine gL (some 10) rfl rfl abe (by kernel_rfl) rfl #[.agg #[.int .i64 aA,.slice bH U.length ay,.slice bC aH.length bD]] rfl ?_;(with_reducible refine(cH.calls k aA _ _ U _ _ aH true _ ?aJ ?aM ?ac ?au A2.out).mono ?_);(case aJ=>exact cb cx HB);(case aM=>exact dv.out);(case ac=>exact cb eV HB);(case au=>exact eW.out);rintro e w6 ⟨rfl,hb⟩;refine⟨_,rfl, ?_⟩;replace pN:=nb pN hb;replace HB:=Ah (aK (aQ HB yF) hb);(try clear hb);obtain⟨pD,pE,uA⟩:=di pN;obtain⟨pF,pG,uB⟩:=dj pN))
 go_loopg [5,6,15] k (fun kq v5 v6 v15 w'=>∃ (bd:Int) (oZ:Int) (ly:Int),v5= .int .i64 bd∧v6= .int .i64 oZ∧v15= .int .i64 ly∧Y (jc.l0 kq bd oZ U (U.length:Int) ly=some (r1,r2,r3))∧Y (kq≤k)∧Y (w'.heap[gb717]?=some (.cells #[.int .i64 aA,(.slice bH U.length ay),(.slice bC aH.length bD)] 25 (0,0)))∧Y (Below w.heap.size w w'))
 case atStart=>exact⟨(0),(0),(0),e3,e3,e3,H',⟨eH _⟩,⟨bk pN⟩,⟨aQ HB yF⟩⟩
 case round=>
  clear H'
  try clear c1
  try clear c2
  try clear p2
  try clear c3
  try clear G3 JX JY
  try clear pD pE uA
  try clear Jb JZ Ja
  try clear pF pG uB
  obtain⟨bd,oZ,ly,rfl,rfl,rfl,HA,dC,pN,HB⟩:=hrel
  cases gk with
  |zero=>exact absurd HA.out (by simp[jc.l0])
  |succ k1=>
   have H:=HA.out;clear HA;simp only[jc.l0]at H
   by_cases c8:ly<(U.length:Int)
   rotate_left
   ·
    rw[if_neg c8]at H;have qW:=f7 c8;clear c8;simp only[SY,cM]at H;obtain⟨rfl,rfl,rfl⟩:=H
    go_wp2
    go_ret3
    exact⟨er,aQ HB yF⟩
   rw[if_pos c8]at H;have qW:=bS c8;clear c8
   by_cases c9:0≤ly
   rotate_left
   ·
    rw[if_neg c9]at H;exact absurd H (by simp)
   rw[if_pos c9]at H;have pO:=bS c9;clear c9
   by_cases c10:ly<(U.length:Int)
   rotate_left
   ·
    rw[if_neg c10]at H;exact absurd H (by simp)
   rw[if_pos c10]at H;have zV:=bS c10;clear c10;obtain⟨ZV,RI⟩:∃j_:Int,(mx oZ ((aC U ly).f1))=j_:=⟨_,rfl⟩
   replace H:(jc.l0 k1 (Ee (bd+((aC U ly).f1))) ZV U (U.length:Int) (Ee (ly+1)))=some (r1,r2,r3):=by first|(rw[RI]at H;exact H)|(simp only[RI]at H⊢;exact H)
   have hji11_:(if oZ<((aC U ly).f1)then((aC U ly).f1)else oZ)=ZV:=RI;have H':=Ah H;clear H;have ZW:0≤(ly:Int):=od;have ZX:ly<(U.length:Int):=od;obtain⟨ad719,e719,hx719_0,hx719_1⟩:=eA cx.out ly ZW ZX
   cases e719
   replace hx719_0:=hq HB hx719_0;replace hx719_1:=hq HB hx719_1;replace ZW:=eq_true ZW;replace ZX:=eq_true ZX
   go_wp2_with (first|((with_reducible refine am (N:=8) rfl ?_);refine ar 8 38 #[.int .i64 0,.int .i64 0] ?_;intro gb720 hg yX BK720 hb;have GW720:=gw hg (aQ HB yF);have GE720:=gw hg (aQ HB yF);replace HB:=Ah (aK (aQ HB yF) hb);have NB717_720:=nn pN hg;have NB720_717:=nm pN hg;replace pN:=nb pN hb;clear hb hg;have XO:=NB720_717.out;have XP:=NB717_720.out;obtain⟨yy,yz⟩:=da BK720;obtain⟨z6,z7⟩:=db BK720))
   go_roundg k1
   case measure=>have:=dC.out;omega
   case rel=>exact⟨(Ee (bd+((aC U ly).f1))),(ZV),(Ee (ly+1)),e3,(by first|rfl|(simp;done)|(simp only[←RI]<;>(first|rfl|simp))|(simp[*];done)),e3,H',⟨by have:=dC.out;omega⟩,⟨bf pN NB717_720⟩,⟨aa HB yF GE720⟩⟩
def mY.f(k:Nat)(aA:Int)(U:List (X))(aH:List (X))(a1:Int):Option (Bool×Bool):=(cH.f k aA U aH).bind fun ND=>(if ND=true then((lS.f a1 0 (Ee (aA-1))).bind fun NE=>(if NE=true then((fZ.f k aA U aH).bind fun AB=>(if 0≤a1 then(if a1<(AB.length:Int)then(some (mq false AB a1,true))else(none))else(none)))else(some (false,false))))else(some (false,false)))
theorem mY.mono:∀a0 a1 a2 a3 k,aG (mY.f k a0 a1 a2 a3) (mY.f (k+1) a0 a1 a2 a3):=by
 intro a0 a1 a2 a3 k;unfold mY.f
 repeat' with_reducible first|exact fZ.mono _ _ _ _|exact cH.mono _ _ _ _|exact aG.refl _|exact aG.none _|refine aG.ite ?_ ?_|refine aG.bind ?_ (fun _=> ?_)
theorem mY.calls(k:Nat)(aA:Int)(bH:Option Addr)(ay:Nat)(U:List (X))(bC:Option Addr)(bD:Nat)(aH:List (X))(a1:Int)(r1:Bool)(r2:Bool)(w:World)(fC:Kd.C ag w bH U.length U)(fD:U.length≤ay)(fE:Kd.C ag w bC aH.length aH)(fF:aH.length≤bD)(h:mY.f k aA U aH a1=some (r1,r2)):
 Calls sX 11 #[.agg #[.int .i64 aA,.slice bH U.length ay,.slice bC aH.length bD],.int .i64 a1] w fun e w'=>e= .returned (.tuple #[.bool r1,.bool r2])∧Below w.heap.size w w':=by
 have o8:=aah;have cx:=Ah fC;have dv:=Ah fD;clear fC fD;have eV:=Ah fE;have eW:=Ah fF;clear fE fF;have HB:=Ah (gR w.heap.size w);have H:((cH.f k aA U aH).bind fun ND=>(if ND=true then((lS.f a1 0 (Ee (aA-1))).bind fun NE=>(if NE=true then((fZ.f k aA U aH).bind fun AB=>(if 0≤a1 then(if a1<(AB.length:Int)then(some (mq false AB a1,true))else(none))else(none)))else(some (false,false))))else(some (false,false))))=some (r1,r2):=h;clear h;replace H:=Hc.mp H;obtain⟨ND,dz,H⟩:=H
 try dsimp only at H
 have A3:=Ah dz;clear dz
 by_cases c4:ND=true
 rotate_left
 ·
  replace c4:=Q3.mpr c4;subst c4;rw[if_neg dc]at H;simp only[SY,cM]at H;obtain⟨rfl,rfl⟩:=H
  go_enter aba,Try.ntmps11
  go_wp2_with (first|((with_reducible refine am (N:=2) rfl ?_);refine ar 2 25 #[.int .i64 aA,.slice bH U.length ay,.slice bC aH.length bD] ?_;intro gb721 hg Hk o4 hb;have GW721:=gw hg (bs HB);have uL:=gw hg (bs HB);replace HB:=Ah (aK (bs HB) hb);clear hb hg;obtain⟨OY,OZ,U1⟩:=di o4;obtain⟨Oa,Ob,U2⟩:=dj o4)|((with_reducible refine bN (f:=24) rfl ?_);refine gL (some 7) rfl rfl abe (by kernel_rfl) rfl #[.agg #[.int .i64 aA,.slice bH U.length ay,.slice bC aH.length bD]] rfl ?_;(with_reducible refine(cH.calls k aA _ _ U _ _ aH false _ ?aJ ?aM ?ac ?au A3.out).mono ?_);(case aJ=>exact cb cx HB);(case aM=>exact dv.out);(case ac=>exact cb eV HB);(case au=>exact eW.out);rintro e HY ⟨rfl,hb⟩;refine⟨_,rfl, ?_⟩;replace o4:=nb o4 hb;replace HB:=Ah (aK (aQ HB uL) hb);(try clear hb)))
  go_ret2
  exact⟨er,aQ HB uL⟩
 subst c4;rw[if_pos rfl]at H;replace H:=Hc.mp H;obtain⟨NE,lD,H⟩:=H
 try dsimp only at H
 have A5:=Ah lD;clear lD
 by_cases c6:NE=true
 rotate_left
 ·
  replace c6:=Q3.mpr c6;subst c6;rw[if_neg dc]at H;simp only[SY,cM]at H;obtain⟨rfl,rfl⟩:=H
  go_enter aba,Try.ntmps11
  go_wp2_with (first|((with_reducible refine am (N:=2) rfl ?_);refine ar 2 25 #[.int .i64 aA,.slice bH U.length ay,.slice bC aH.length bD] ?_;intro gb721 hg w16 o4 hb;have GW721:=gw hg (bs HB);have uL:=gw hg (bs HB);replace HB:=Ah (aK (bs HB) hb);clear hb hg;obtain⟨qf,sk,xZ⟩:=di o4;obtain⟨qg,sl,xa⟩:=dj o4)|((with_reducible refine bN (f:=24) rfl ?_);refine gL (some 7) rfl rfl abe (by kernel_rfl) rfl #[.agg #[.int .i64 aA,.slice bH U.length ay,.slice bC aH.length bD]] rfl ?_;(with_reducible refine(cH.calls k aA _ _ U _ _ aH true _ ?aJ ?aM ?ac ?au A3.out).mono ?_);(case aJ=>exact cb cx HB);(case aM=>exact dv.out);(case ac=>exact cb eV HB);(case au=>exact eW.out);rintro e SP ⟨rfl,hb⟩;refine⟨_,rfl, ?_⟩;replace o4:=nb o4 hb;replace HB:=Ah (aK (aQ HB uL) hb);(try clear hb);obtain⟨Ig,Ih,hcz19_2⟩:=di o4;obtain⟨Ii,Ij,hfz19_2⟩:=dj o4)|(go_at_call 25;(with_reducible refine(lS.calls a1 0 (Ee (aA-1)) false _ A5.out).mono ?_);rintro e w' ⟨rfl,⟨nd,rfl⟩⟩))
  go_ret2
  exact⟨er,aQ HB uL⟩
 subst c6;rw[if_pos rfl]at H;replace H:=Hc.mp H;obtain⟨AB,pt,H⟩:=H
 try dsimp only at H
 have A7:=Ah pt;clear pt
 by_cases c8:0≤a1
 rotate_left
 ·
  rw[if_neg c8]at H;exact absurd H (by simp)
 rw[if_pos c8]at H;have qW:=bS c8;clear c8
 by_cases c9:a1<(AB.length:Int)
 rotate_left
 ·
  rw[if_neg c9]at H;exact absurd H (by simp)
 rw[if_pos c9]at H;have pO:=bS c9;clear c9;simp only[SY,cM]at H;obtain⟨rfl,rfl⟩:=H
 go_enter aba,Try.ntmps11
 go_wp2_with (first|((with_reducible refine am (N:=2) rfl ?_);refine ar 2 25 #[.int .i64 aA,.slice bH U.length ay,.slice bC aH.length bD] ?_;intro gb721 hg oq o4 hb;have GW721:=gw hg (bs HB);have uL:=gw hg (bs HB);replace HB:=Ah (aK (bs HB) hb);clear hb hg;obtain⟨qh,qi,us⟩:=di o4;obtain⟨qj,qk,uv⟩:=dj o4)|((with_reducible refine bN (f:=24) rfl ?_);refine gL (some 7) rfl rfl abe (by kernel_rfl) rfl #[.agg #[.int .i64 aA,.slice bH U.length ay,.slice bC aH.length bD]] rfl ?_;(with_reducible refine(cH.calls k aA _ _ U _ _ aH true _ ?aJ ?aM ?ac ?au A3.out).mono ?_);(case aJ=>exact cb cx HB);(case aM=>exact dv.out);(case ac=>exact cb eV HB);(case au=>exact eW.out);rintro e yX ⟨rfl,hb⟩;refine⟨_,rfl, ?_⟩;replace o4:=nb o4 hb;replace HB:=Ah (aK (aQ HB uL) hb);(try clear hb);obtain⟨pX,pY,rx⟩:=di o4;obtain⟨pZ,pa,ry⟩:=dj o4)|(go_at_call 25;(with_reducible refine(lS.calls a1 0 (Ee (aA-1)) true _ A5.out).mono ?_);rintro e w' ⟨rfl,⟨nd,rfl⟩⟩)|((with_reducible refine bN (f:=26) rfl ?_);refine gL (some 18) rfl rfl Try.func26 (by kernel_rfl) rfl #[.agg #[.int .i64 aA,.slice bH U.length ay,.slice bC aH.length bD]] rfl ?_;(with_reducible refine(fZ.calls k aA _ _ U _ _ aH AB _ ?aJ ?aM ?ac ?au A7.out).mono ?_);(case aJ=>repeat(first|exact(Kd.ur cx.out (aQ HB uL))|(with_reducible refine Kd.qB ?_ _)|(with_reducible refine Kd.qC ?_ _)|(with_reducible refine Kd.qE ?_)));(case aM=>exact dv.out);(case ac=>repeat(first|exact(Kd.ur eV.out (aQ HB uL))|(with_reducible refine Kd.qB ?_ _)|(with_reducible refine Kd.qC ?_ _)|(with_reducible refine Kd.qE ?_)));(case au=>exact eW.out);rintro e HX ⟨v725,rfl,ho0,hb⟩;refine⟨_,rfl, ?_⟩;have HO726:=Ah (Kd.bq ho0 (bR (aQ HB uL)));replace o4:=nb o4 hb;replace HB:=Ah (aK (aQ HB uL) hb);(try clear hb ho0);obtain⟨mI,mJ,Yh⟩:=Kd.ax HO726.out;subst Yh;have ZY:0≤(a1:Int):=od;have ZZ:a1<(AB.length:Int):=od;obtain⟨ad727,e727,hx727_0⟩:=Kd.OT (Kd.ab HO726.out).2.2 a1 ZY ZZ;cases e727;replace ZY:=eq_true ZY;replace ZZ:=eq_true ZZ))
 go_ret2
 exact⟨er,aQ HB uL⟩
end Go.Proofs.Ytahnkgehlfdlkaa.G
