-- Printed by a program of this session (drive.py, by way of the kit's print). Not trusted: Lean checks it.
import Derived.Test.YtahnkgehlfdlkaaG0
import Derived.Test.YtahnkgehlfdlkaaG1
open Bool renaming eq_false_iff→Q3,not_false→aa6
open Go.Addr renaming add→aat
open Go.Proofs.Try renaming prog→sX,underlying25→aah,underlying38→aap,underlying23→aau,underlying26→aaG,func9→aaY,func23→abH
open Go.RowKit renaming wrap64→Ee
open Go.RowKit.Below renaming refl→gR
open Go.World renaming block_lt_of_cell?→cB,drewN_drewN→aaa,drewN→aaC
open List renaming length_take→aN,length_drop→fM,map_toArray→ib,map_cons→aac,map_nil→aai
open Nat renaming le_refl→eH,lt_of_lt_of_le→tU,ne_of_lt→aaf,add_assoc→aaB
open Option renaming bind_eq_some_iff→Hc,bind_some→N6
open Option.some renaming inj→Ok,injEq→SY
open Prod.mk renaming injEq→cM
namespace Go.Proofs.Ytahnkgehlfdlkaa.G
open Go.RowKit Go.Proofs.YtahnkgehlfdlkaaW.PrintWords Go.Proofs.YtahnkgehlfdlkaaW.PrintLast Go.Proofs.YtahnkgehlfdlkaaW.PrintMore
attribute [local go_sem] xN xO xT xU xA xB xP xQ
set_option maxHeartbeats 8000000
set_option maxRecDepth 100000
set_option linter.unusedVariables false
set_option linter.unusedSimpArgs false
attribute [local go_sem high] QZ
def n8.f(a0:Int)(a1:Int)(a2:Int):Option (Bool):=if a0≥a1 then(some (decide (a0≤a2)))else(some false)
theorem n8.calls(a0:Int)(a1:Int)(a2:Int)(r:Bool)(w:World)(h:n8.f a0 a1 a2=some r):
 Calls sX 40 #[.int .i64 a0,.int .i64 a1,.int .i64 a2] w fun e w'=>e= .returned (.bool r)∧dD w w':=by
 have H:(if a0≥a1 then(some (decide (a0≤a2)))else(some false))=some r:=h;clear h
 by_cases c4:a0≥a1
 ·
  rw[if_pos c4]at H;have ky:=bS c4;clear c4;obtain rfl:=Ok H
  go_enter Try.func40,Try.ntmps40
  go_wp2
  go_ret
  exact⟨by first|rfl|(simp;done)|(simp[*];done),by repeat(first|exact dD.refl _|apply dD.step)⟩
 ·
  rw[if_neg c4]at H;have ky:=f7 c4;clear c4;obtain rfl:=Ok H
  go_enter Try.func40,Try.ntmps40
  go_wp2
  go_ret
  exact⟨by first|rfl|(simp;done)|(simp[*];done),by repeat(first|exact dD.refl _|apply dD.step)⟩
def ud.f(aA:Int)(dI:Int)(a1:Int):Option (Bool):=if aA≥0 then((n8.f dI 1 a1).bind fun Lw=>(if Lw=true then(some (decide (aA≤(Ee (a1-dI)))))else(some false)))else(some false)
theorem ud.calls(aA:Int)(dI:Int)(a1:Int)(r:Bool)(w:World)(h:ud.f aA dI a1=some r):
 Calls sX 38 #[.agg #[.int .i64 aA,.int .i64 dI],.int .i64 a1] w fun e w'=>e= .returned (.bool r)∧Below w.heap.size w w':=by
 have lM:=aap;have HB:=Ah (gR w.heap.size w);have H:(if aA≥0 then((n8.f dI 1 a1).bind fun Lw=>(if Lw=true then(some (decide (aA≤(Ee (a1-dI)))))else(some false)))else(some false))=some r:=h;clear h
 by_cases c3:aA≥0
 rotate_left
 ·
  rw[if_neg c3]at H;have iZ:=f7 c3;clear c3;obtain rfl:=Ok H
  go_enter Try.func38,Try.ntmps38
  go_wp2_with (first|((with_reducible refine am (N:=2) rfl ?_);refine ar 2 38 #[.int .i64 aA,.int .i64 dI] ?_;intro gb101 hg oq BD hb;have GW101:=gw hg (bs HB);have Jl:=gw hg (bs HB);replace HB:=Ah (aK (bs HB) hb);clear hb hg;obtain⟨qh,qi⟩:=da BD;obtain⟨qj,qk⟩:=db BD))
  go_ret
  exact⟨er,aQ HB Jl⟩
 rw[if_pos c3]at H;have iZ:=bS c3;clear c3;replace H:=Hc.mp H;obtain⟨Lw,fc,H⟩:=H
 try dsimp only at H
 have A4:=Ah fc;clear fc
 by_cases c5:Lw=true
 ·
  subst c5;rw[if_pos rfl]at H;obtain rfl:=Ok H
  go_enter Try.func38,Try.ntmps38
  go_wp2_with (first|((with_reducible refine am (N:=2) rfl ?_);refine ar 2 38 #[.int .i64 aA,.int .i64 dI] ?_;intro gb101 hg w6 BD hb;have GW101:=gw hg (bs HB);have Jl:=gw hg (bs HB);replace HB:=Ah (aK (bs HB) hb);clear hb hg;obtain⟨pD,pE⟩:=da BD;obtain⟨pF,pG⟩:=db BD)|(go_at_call 40;(with_reducible refine(n8.calls dI 1 a1 true _ A4.out).mono ?_);rintro e w' ⟨rfl,⟨nd,rfl⟩⟩))
  go_ret
  exact⟨er,aQ HB Jl⟩
 replace c5:=Q3.mpr c5;subst c5;rw[if_neg dc]at H;obtain rfl:=Ok H
 go_enter Try.func38,Try.ntmps38
 go_wp2_with (first|((with_reducible refine am (N:=2) rfl ?_);refine ar 2 38 #[.int .i64 aA,.int .i64 dI] ?_;intro gb101 hg w8 BD hb;have GW101:=gw hg (bs HB);have Jl:=gw hg (bs HB);replace HB:=Ah (aK (bs HB) hb);clear hb hg;obtain⟨qp,qq⟩:=da BD;obtain⟨sA,qr⟩:=db BD)|(go_at_call 40;(with_reducible refine(n8.calls dI 1 a1 false _ A4.out).mono ?_);rintro e w' ⟨rfl,⟨nd,rfl⟩⟩))
 go_ret
 exact⟨er,aQ HB Jl⟩
def ww.f(aA:Int)(dI:Int)(av:Int)(bB:Int):Option (Bool):=if aA<(Ee (av+bB))then(some (decide (av<(Ee (aA+dI)))))else(some false)
theorem ww.calls(aA:Int)(dI:Int)(av:Int)(bB:Int)(r:Bool)(w:World)(h:ww.f aA dI av bB=some r):
 Calls sX 39 #[.agg #[.int .i64 aA,.int .i64 dI],.agg #[.int .i64 av,.int .i64 bB]] w fun e w'=>e= .returned (.bool r)∧Below w.heap.size w w':=by
 have lM:=aap;have HB:=Ah (gR w.heap.size w);have H:(if aA<(Ee (av+bB))then(some (decide (av<(Ee (aA+dI)))))else(some false))=some r:=h;clear h
 by_cases c3:aA<(Ee (av+bB))
 ·
  rw[if_pos c3]at H;have iZ:=bS c3;clear c3;obtain rfl:=Ok H
  go_enter Try.func39,Try.ntmps39
  go_wp2_with (first|((with_reducible refine am (N:=2) rfl ?_);refine ar 2 38 #[.int .i64 aA,.int .i64 dI] ?_;intro gb103 hg w4 t1 hb;have GW103:=gw hg (bs HB);have zT:=gw hg (bs HB);replace HB:=Ah (aK (bs HB) hb);clear hb hg)|((with_reducible refine am (N:=3) rfl ?_);refine ar 3 38 #[.int .i64 av,.int .i64 bB] ?_;intro gb104 hg w5 Jm hb;have GW104:=gw hg (aQ HB zT);have WH:=gw hg (aQ HB zT);replace HB:=Ah (aK (aQ HB zT) hb);have T5:=nn t1 hg;have T7:=nm t1 hg;replace t1:=nb t1 hb;clear hb hg;have Xs:=T5.out;have Xt:=T7.out;obtain⟨pD,pE⟩:=da t1;obtain⟨pF,pG⟩:=db t1;obtain⟨sv,sw⟩:=da Jm;obtain⟨u7,sx⟩:=db Jm))
  go_ret
  exact⟨er,aa HB zT WH⟩
 rw[if_neg c3]at H;have iZ:=f7 c3;clear c3;obtain rfl:=Ok H
 go_enter Try.func39,Try.ntmps39
 go_wp2_with (first|((with_reducible refine am (N:=2) rfl ?_);refine ar 2 38 #[.int .i64 aA,.int .i64 dI] ?_;intro gb103 hg w9 t1 hb;have GW103:=gw hg (bs HB);have zT:=gw hg (bs HB);replace HB:=Ah (aK (bs HB) hb);clear hb hg)|((with_reducible refine am (N:=3) rfl ?_);refine ar 3 38 #[.int .i64 av,.int .i64 bB] ?_;intro gb104 hg oq Jm hb;have GW104:=gw hg (aQ HB zT);have WH:=gw hg (aQ HB zT);replace HB:=Ah (aK (aQ HB zT) hb);have T5:=nn t1 hg;have T7:=nm t1 hg;replace t1:=nb t1 hb;clear hb hg;have Qa:=T5.out;have Qb:=T7.out;obtain⟨Ac,Ad⟩:=da t1;obtain⟨Ae,Af⟩:=db t1;obtain⟨pX,pY⟩:=da Jm;obtain⟨pZ,pa⟩:=db Jm))
 go_ret
 exact⟨er,aa HB zT WH⟩
mutual
def cD.l0:Nat→List (aV)→Int→List (aV)→Int→Int→Int→List (X)→List (X)→Option (Int×Bool)
 |0,_,_,_,_,_,_,_,_=>none
 |k+1,x1,x6,fS,i4,dy,oL,ng,oy=>if dy<i4 then(if 0≤dy then(if dy<(fS.length:Int)then(if((J fS dy).f0)=1 then(if((J fS dy).f1)=x6 then(if((J fS dy).f3)=0 then((ud.f ((J fS dy).f2.f0) ((J fS dy).f2.f1) oL).bind fun RS=>(cD.j1 k x1 x6 dy fS i4 dy (!RS) oL ng oy ((J fS dy).f0) ((J fS dy).f1) ((J fS dy).f2.f0) ((J fS dy).f2.f1) ((J fS dy).f3)))else(cD.j1 k x1 x6 dy fS i4 dy true oL ng oy ((J fS dy).f0) ((J fS dy).f1) ((J fS dy).f2.f0) ((J fS dy).f2.f1) ((J fS dy).f3)))else(cD.j1 k x1 x6 dy fS i4 dy true oL ng oy ((J fS dy).f0) ((J fS dy).f1) ((J fS dy).f2.f0) ((J fS dy).f2.f1) ((J fS dy).f3)))else(if dy≤(x1.length:Int)then((some (x1.take (dy:Int).toNat:List (aV))).bind fun oY=>(cD.l3 k x1 x6 0 (-1) fS i4 dy oY (oY.length:Int) 0 oL ng oy ((J fS dy).f0) ((J fS dy).f1) ((J fS dy).f2.f0) ((J fS dy).f2.f1) ((J fS dy).f3)))else(none)))else(none))else(none))else(some (x6,decide ((x1.length:Int)≤30)))
def cD.j1:Nat→List (aV)→Int→Int→List (aV)→Int→Int→Bool→Int→List (X)→List (X)→Int→Int→Int→Int→Int→Option (Int×Bool)
 |0,_,_,_,_,_,_,_,_,_,_,_,_,_,_,_=>none
 |k+1,x1,x6,x7,fS,i4,dy,x43,oL,ng,oy,tm,tn,rl,rn,tp=>if x43=true then(some (0,false))else(if 0≤x7 then(if x7≤(x1.length:Int)then((some (x1.take (x7:Int).toNat:List (aV))).bind fun kz=>(cD.l1 k x1 x6 fS i4 dy kz (kz.length:Int) 0 oL ng oy tm tn rl rn tp))else(none))else(none))
def cD.l1:Nat→List (aV)→Int→List (aV)→Int→Int→List (aV)→Int→Int→Int→List (X)→List (X)→Int→Int→Int→Int→Int→Option (Int×Bool)
 |0,_,_,_,_,_,_,_,_,_,_,_,_,_,_,_,_=>none
 |k+1,x1,x6,fS,i4,dy,Hb,Zh,CQ,oL,ng,oy,tm,tn,rl,rn,tp=>if CQ<Zh then(if 0≤CQ then(if CQ<(Hb.length:Int)then(if((J Hb CQ).f0)=1 then((ww.f ((J Hb CQ).f2.f0) ((J Hb CQ).f2.f1) rl rn).bind fun Xu=>(if Xu=true then(some (0,false))else(cD.l1 k x1 x6 fS i4 dy Hb Zh (Ee (CQ+1)) oL ng oy tm tn rl rn tp)))else(cD.l1 k x1 x6 fS i4 dy Hb Zh (Ee (CQ+1)) oL ng oy tm tn rl rn tp))else(none))else(none))else(cD.l2 k x1 x6 fS i4 dy ng (ng.length:Int) 0 oL ng oy tm tn rl rn tp)
def cD.l2:Nat→List (aV)→Int→List (aV)→Int→Int→List (X)→Int→Int→Int→List (X)→List (X)→Int→Int→Int→Int→Int→Option (Int×Bool)
 |0,_,_,_,_,_,_,_,_,_,_,_,_,_,_,_,_=>none
 |k+1,x1,x6,fS,i4,dy,SN,SH,x66,oL,ng,oy,tm,tn,rl,rn,tp=>if x66<SH then(if 0≤x66 then(if x66<(SN.length:Int)then((ww.f ((aC SN x66).f0) ((aC SN x66).f1) rl rn).bind fun Xv=>(if Xv=true then(some (0,false))else(cD.l2 k x1 x6 fS i4 dy SN SH (Ee (x66+1)) oL ng oy tm tn rl rn tp)))else(none))else(none))else(cD.l0 k x1 (Ee (x6+1)) fS i4 (Ee (dy+1)) oL ng oy)
def cD.l3:Nat→List (aV)→Int→Int→Int→List (aV)→Int→Int→List (aV)→Int→Int→Int→List (X)→List (X)→Int→Int→Int→Int→Int→Option (Int×Bool)
 |0,_,_,_,_,_,_,_,_,_,_,_,_,_,_,_,_,_,_=>none
 |k+1,x1,x6,gD,om,fS,i4,dy,AE,x80,x81,oL,ng,oy,tm,tn,rl,rn,tp=>if x81<x80 then(if 0≤x81 then(if x81<(AE.length:Int)then(if((J AE x81).f1)=tn then(if((J AE x81).f0)=1 then(cD.l3 k x1 x6 ((J AE x81).f3) ((J AE x81).f2.f1) fS i4 dy AE x80 (Ee (x81+1)) oL ng oy tm tn rl rn tp)else(cD.l3 k x1 x6 ((J AE x81).f3) om fS i4 dy AE x80 (Ee (x81+1)) oL ng oy tm tn rl rn tp))else(cD.l3 k x1 x6 gD om fS i4 dy AE x80 (Ee (x81+1)) oL ng oy tm tn rl rn tp))else(none))else(none))else(if tm=2 then(if(!(rl==0)||(!(rn==0)))=true then(some (0,false))else(if om<0 then(some (0,false))else((n8.f tp (Ee (gD+1)) om).bind fun Xw=>(if Xw=true then(cD.l0 k x1 x6 fS i4 (Ee (dy+1)) oL ng oy)else(some (0,false))))))else(some (0,false)))
end
def cD.f(k:Nat)(aA:Int)(U:List (X))(aH:List (X))(l1:List (aV)):Option (Int×Bool):=cD.l0 k l1 1 l1 (l1.length:Int) 0 aA U aH
theorem cD.dh:∀k,(∀y0 y1 y2 y3 y4 y5 y6 y7,aG (cD.l0 k y0 y1 y2 y3 y4 y5 y6 y7) (cD.l0 (k+1) y0 y1 y2 y3 y4 y5 y6 y7))∧(∀y0 y1 y2 y3 y4 y5 y6 y7 y8 y9 lC m3 n0 y13 pq,aG (cD.j1 k y0 y1 y2 y3 y4 y5 y6 y7 y8 y9 lC m3 n0 y13 pq) (cD.j1 (k+1) y0 y1 y2 y3 y4 y5 y6 y7 y8 y9 lC m3 n0 y13 pq))∧(∀y0 y1 y2 y3 y4 y5 y6 y7 y8 y9 lC m3 n0 y13 pq sU,aG (cD.l1 k y0 y1 y2 y3 y4 y5 y6 y7 y8 y9 lC m3 n0 y13 pq sU) (cD.l1 (k+1) y0 y1 y2 y3 y4 y5 y6 y7 y8 y9 lC m3 n0 y13 pq sU))∧(∀y0 y1 y2 y3 y4 y5 y6 y7 y8 y9 lC m3 n0 y13 pq sU,aG (cD.l2 k y0 y1 y2 y3 y4 y5 y6 y7 y8 y9 lC m3 n0 y13 pq sU) (cD.l2 (k+1) y0 y1 y2 y3 y4 y5 y6 y7 y8 y9 lC m3 n0 y13 pq sU))∧(∀y0 y1 y2 y3 y4 y5 y6 y7 y8 y9 lC m3 n0 y13 pq sU CM CN,aG (cD.l3 k y0 y1 y2 y3 y4 y5 y6 y7 y8 y9 lC m3 n0 y13 pq sU CM CN) (cD.l3 (k+1) y0 y1 y2 y3 y4 y5 y6 y7 y8 y9 lC m3 n0 y13 pq sU CM CN))
 |0=>⟨fun _ _ _ _ _ _ _ _ r h=>by simp[cD.l0]at h,fun _ _ _ _ _ _ _ _ _ _ _ _ _ _ _ r h=>by simp[cD.j1]at h,fun _ _ _ _ _ _ _ _ _ _ _ _ _ _ _ _ r h=>by simp[cD.l1]at h,fun _ _ _ _ _ _ _ _ _ _ _ _ _ _ _ _ r h=>by simp[cD.l2]at h,fun _ _ _ _ _ _ _ _ _ _ _ _ _ _ _ _ _ _ r h=>by simp[cD.l3]at h⟩
 |k+1=>by
  obtain⟨bz,ih1,ih2,ih3,AF⟩:=cD.dh k
  refine⟨?_, ?_, ?_, ?_, ?_⟩<;>intros<;>first|unfold cD.l0|unfold cD.j1|unfold cD.l1|unfold cD.l2|unfold cD.l3
  all_goals repeat' first
   |(with_reducible exact bz _ _ _ _ _ _ _ _)
   |(with_reducible exact ih1 _ _ _ _ _ _ _ _ _ _ _ _ _ _ _)
   |(with_reducible exact ih2 _ _ _ _ _ _ _ _ _ _ _ _ _ _ _ _)
   |(with_reducible exact ih3 _ _ _ _ _ _ _ _ _ _ _ _ _ _ _ _)
   |(with_reducible exact AF _ _ _ _ _ _ _ _ _ _ _ _ _ _ _ _ _ _)
   |(with_reducible exact aG.refl _)
   |(with_reducible exact aG.none _)
   |(with_reducible refine aG.ite ?_ ?_)
   |(with_reducible refine aG.bind ?_ (fun _=> ?_))
   |exact bz _ _ _ _ _ _ _ _
   |exact ih1 _ _ _ _ _ _ _ _ _ _ _ _ _ _ _
   |exact ih2 _ _ _ _ _ _ _ _ _ _ _ _ _ _ _ _
   |exact ih3 _ _ _ _ _ _ _ _ _ _ _ _ _ _ _ _
   |exact AF _ _ _ _ _ _ _ _ _ _ _ _ _ _ _ _ _ _
   |exact aG.none _
   |refine aG.ite ?_ ?_
   |refine aG.bind ?_ (fun _=> ?_)
theorem cD.mono:∀a0 a1 a2 a3 k,aG (cD.f k a0 a1 a2 a3) (cD.f (k+1) a0 a1 a2 a3):=by
 intro a0 a1 a2 a3 k;obtain⟨bz,ih1,ih2,ih3,AF⟩:=cD.dh k;unfold cD.f
 repeat' with_reducible first|exact bz _ _ _ _ _ _ _ _|exact ih1 _ _ _ _ _ _ _ _ _ _ _ _ _ _ _|exact ih2 _ _ _ _ _ _ _ _ _ _ _ _ _ _ _ _|exact ih3 _ _ _ _ _ _ _ _ _ _ _ _ _ _ _ _|exact AF _ _ _ _ _ _ _ _ _ _ _ _ _ _ _ _ _ _|exact aG.refl _|exact aG.none _|refine aG.ite ?_ ?_|refine aG.bind ?_ (fun _=> ?_)
theorem cD.calls(k:Nat)(aA:Int)(bH:Option Addr)(ay:Nat)(U:List (X))(bC:Option Addr)(bD:Nat)(aH:List (X))(A1:Option Addr)(c1:Nat)(l1:List (aV))(r1:Int)(r2:Bool)(w:World)(fC:Kd.C ag w bH U.length U)(fD:U.length≤ay)(fE:Kd.C ag w bC aH.length aH)(fF:aH.length≤bD)(hr1:Kd.C cV w A1 l1.length l1)(hc1:l1.length≤c1)(h:cD.f k aA U aH l1=some (r1,r2)):
 Calls sX 18 #[.agg #[.int .i64 aA,.slice bH U.length ay,.slice bC aH.length bD],.slice A1 l1.length c1] w fun e w'=>e= .returned (.tuple #[.int .i64 r1,.bool r2])∧Below w.heap.size w w':=by
 have o8:=aah;have vt:=Try.underlying40;have lM:=aap;have cx:=Ah fC;have dv:=Ah fD;clear fC fD;have eV:=Ah fE;have eW:=Ah fF;clear fE fF;have HR1:=Ah hr1;have rV:=Ah hc1;clear hr1 hc1;have HB:=Ah (gR w.heap.size w);have H:(cD.l0 k l1 1 l1 (l1.length:Int) 0 aA U aH)=some (r1,r2):=h;clear h;have H':=Ah H;clear H
 go_enter Try.func18,Try.ntmps18
 go_wp2_with (first|((with_reducible refine am (N:=2) rfl ?_);refine ar 2 25 #[.int .i64 aA,.slice bH U.length ay,.slice bC aH.length bD] ?_;intro GE hg w3 dT hb;have GW105:=gw hg (bs HB);have fG:=gw hg (bs HB);replace HB:=Ah (aK (bs HB) hb);clear hb hg))
 go_loopg [6,19] k (fun kq v6 v19 w'=>∃ (oZ:Int) (bc:Int),v6= .int .i64 oZ∧v19= .int .i64 bc∧Y (cD.l0 kq l1 oZ l1 (l1.length:Int) bc aA U aH=some (r1,r2))∧Y (kq≤k)∧Y (w'.heap[GE]?=some (.cells #[.int .i64 aA,(.slice bH U.length ay),(.slice bC aH.length bD)] 25 (0,0)))∧Y (Below w.heap.size w w'))
 case atStart=>exact⟨(1),(0),e3,e3,H',⟨eH _⟩,⟨bk dT⟩,⟨aQ HB fG⟩⟩
 case round=>
  clear H'
  try clear c1
  try clear p2
  obtain⟨oZ,bc,rfl,rfl,HA,dC,dT,HB⟩:=hrel
  cases gk with
  |zero=>exact absurd HA.out (by simp[cD.l0])
  |succ k1=>
   have H:=HA.out;clear HA;simp only[cD.l0]at H
   by_cases c4:bc<(l1.length:Int)
   rotate_left
   ·
    rw[if_neg c4]at H;have ky:=f7 c4;clear c4;simp only[SY,cM]at H;obtain⟨rfl,rfl⟩:=H
    go_wp2
    go_ret2
    exact⟨er,aQ HB fG⟩
   rw[if_pos c4]at H;have ky:=bS c4;clear c4
   by_cases c5:0≤bc
   rotate_left
   ·
    rw[if_neg c5]at H;exact absurd H (by simp)
   rw[if_pos c5]at H;have o9:=bS c5;clear c5
   by_cases c6:bc<(l1.length:Int)
   rotate_left
   ·
    rw[if_neg c6]at H;exact absurd H (by simp)
   rw[if_pos c6]at H;have zn:=bS c6;clear c6
   by_cases c7:((J l1 bc).f0)=1
   rotate_left
   ·
    rw[if_neg c7]at H;have tJ:=jI c7;have Gm:=jJ c7;have c72b0:=eq_true (od:0≤bc)
    by_cases wh:bc≤(l1.length:Int)
    rotate_left
    ·
     rw[if_neg wh]at H;exact absurd H (by simp)
    rw[if_pos wh]at H;have c73b0:=eq_true wh;have c73b1:=bS wh;clear wh;obtain⟨oY,Jn⟩:∃y_:List (aV),y_=(l1.take (bc:Int).toNat):=⟨_,rfl⟩
    replace H:(cD.l3 k1 l1 oZ 0 (-1) l1 (l1.length:Int) bc oY (oY.length:Int) 0 aA U aH ((J l1 bc).f0) ((J l1 bc).f1) ((J l1 bc).f2.f0) ((J l1 bc).f2.f1) ((J l1 bc).f3))=some (r1,r2):=by first|(rw[Jn];with_reducible exact H)|(have ai:=(N6 _ _).symm.trans H;rw[Jn];with_reducible exact ai)|(have ai:=(N6 _ _).symm.trans H;with_reducible exact ai)|with_reducible exact H|(rw[Jn];exact H)|exact H
    have Ny119:=Ah Jn;clear Jn;have H':=Ah H;clear H;have vv:0≤(bc:Int):=od;have vw:bc<(l1.length:Int):=od;obtain⟨vQ,Xx,yk,yl,ym,yn,yo⟩:=jQ HR1.out bc vv vw
    cases Xx
    replace yk:=hq HB yk;replace yl:=hq HB yl;replace ym:=hq HB ym;replace yn:=hq HB yn;replace yo:=hq HB yo;replace vv:=eq_true vv;replace vw:=eq_true vw
    go_wp2_with (first|((with_reducible refine am (N:=8) rfl ?_);refine ar 8 40 #[.int .i64 0,.int .i64 0,.int .i64 0,.int .i64 0,.int .i64 0] ?_;intro uE hg w74 cR hb;have GW107:=gw hg (aQ HB fG);have ff:=gw hg (aQ HB fG);replace HB:=Ah (aK (aQ HB fG) hb);have mZ:=nn dT hg;have oG:=nm dT hg;replace dT:=nb dT hb;clear hb hg;have QW:=oG.out;have QX:=mZ.out;obtain⟨Ow,Ox,hcz76_2,hcz76_3,hcz76_4⟩:=ah cR;obtain⟨Oy,Oz,hfz76_2,hfz76_3,hfz76_4⟩:=af cR)|((with_reducible refine Ck (t:=40) (p:=8) rfl ?_);refine Ci (t:=40) (p:=8) (v:= ?vo_w77) (w1:=(((((w74.setCell ⟨uE,0,none⟩ (.int .i64 ((J l1 bc).f0))).setCell ⟨uE,1,none⟩ (.int .i64 ((J l1 bc).f1))).setCell ⟨uE,2,none⟩ (.int .i64 ((J l1 bc).f2.f0))).setCell ⟨uE,3,none⟩ (.int .i64 ((J l1 bc).f2.f1))).setCell ⟨uE,4,none⟩ (.int .i64 ((J l1 bc).f3)))) ?hg ?ho ?hn ?hr ?_;(case ho=>rfl);(case hg=>rfl);(case hn=>rfl);(case hr=>first|(go_simp;done)|(go_simp;rfl));intro Zi hw;have gR:Y (Zi.heap[GE]?=some (.cells #[.int .i64 aA,.slice bH U.length ay,.slice bC aH.length bD] 25 (0,0))):=⟨(by rw[hw];exact(bf dT mZ))⟩;have g7:Y (Zi.heap[uE]?=some (.cells #[.int .i64 ((J l1 bc).f0),.int .i64 ((J l1 bc).f1),.int .i64 ((J l1 bc).f2.f0),.int .i64 ((J l1 bc).f2.f1),.int .i64 ((J l1 bc).f3)] 40 (0,0))):=⟨(by rw[hw];exact(pb cR))⟩;have ib:Y (Below w.heap.size w Zi):=⟨(by rw[hw];exact(aa HB fG ff))⟩;clear hw;clear dT;clear cR;clear HB;have dT:=gR;have cR:=g7;have HB:=ib;clear gR g7 ib;obtain⟨hcz78_0,hcz78_1,hcz78_2,hcz78_3,hcz78_4⟩:=ah cR;obtain⟨hfz78_0,hfz78_1,hfz78_2,hfz78_3,hfz78_4⟩:=af cR;have NR:(bc:Int)≤((l1.length:Int):Int):=od;obtain⟨i079,hi079,_,hsz79,_⟩:=info_parts qF;have hroom79:l1.length≤c1:=rV.out;have hC79:Kd.C cV _ (some vQ) l1.length l1:=HR1.out;have hcut79:=Fu (P:=sX) 26 40 .i64 aaG hi079 (some vQ) l1.length c1 bc (od) NR hroom79;have Xy:=Kd.xw (m:=(bc:Int).toNat) hC79 (by omega);have Xz:oY.length=(bc:Int).toNat:=(by rw[Ny119.out,aN];omega);rw[←Ny119.out]at Xy;rw[←Xz]at hcut79;have WI:=Ah Xy;have HC122:=Ah (show oY.length≤c1 from by omega);clear Xy hC79 hroom79 hi079 hsz79;have KY79:=Ah Xz;clear Xz;replace NR:=eq_true NR))
    go_loopg [13,14,81] k1 (fun kq v13 v14 v81 w'=>∃ (GG:Int) (BE:Int) (mg:Int),v13= .int .i64 GG∧v14= .int .i64 BE∧v81= .int .i64 mg∧Y (cD.l3 kq l1 oZ GG BE l1 (l1.length:Int) bc oY (oY.length:Int) mg aA U aH ((J l1 bc).f0) ((J l1 bc).f1) ((J l1 bc).f2.f0) ((J l1 bc).f2.f1) ((J l1 bc).f3)=some (r1,r2))∧Y (kq≤k1)∧Y (w'.heap[GE]?=some (.cells #[.int .i64 aA,(.slice bH U.length ay),(.slice bC aH.length bD)] 25 (0,0)))∧Y (w'.heap[uE]?=some (.cells #[.int .i64 ((J l1 bc).f0),.int .i64 ((J l1 bc).f1),.int .i64 ((J l1 bc).f2.f0),.int .i64 ((J l1 bc).f2.f1),.int .i64 ((J l1 bc).f3)] 40 (0,0)))∧Y (Below w.heap.size w w'))
    case atStart=>exact⟨(0),((-1)),(0),e3,e3,e3,H',⟨eH _⟩,⟨bk dT⟩,⟨bk cR⟩,⟨aa HB fG ff⟩⟩
    case round=>
     clear H'
     try clear c1
     try clear p1
     try clear q1
     try clear hx1
     try clear c2
     try clear p2
     try clear q2
     try clear c3
     try clear c4
     try clear ky
     try clear c5
     try clear o9
     try clear c6
     try clear zn
     try clear p6
     try clear c7
     try clear tJ
     try clear Gm
     try clear q7
     try clear c10
     try clear Hc
     try clear Hd
     try clear Y0
     try clear p11
     try clear CR
     try clear hx11
     try clear c12
     try clear sB
     try clear DB
     try clear c13
     try clear Jo
     try clear Jp
     try clear c15
     try clear c18
     try clear c19
     try clear c21
     try clear c23
     try clear c24
     try clear BF
     try clear DC
     try clear tV
     try clear Qc
     try clear WJ
     try clear AG
     try clear wi
     try clear WK
     try clear c28
     try clear WL
     try clear kQ
     try clear BG
     try clear hP
     try clear sy
     try clear G9
     try clear c32
     try clear c34
     try clear tW
     try clear c37
     try clear c39
     try clear yT
     try clear CS
     try clear Ej
     try clear c48
     try clear c49
     try clear c51
     try clear c53
     try clear c53b0
     try clear tX
     try clear WM
     try clear ot
     try clear WN
     try clear wd
     try clear c59
     try clear uY
     try clear c62
     try clear p64
     try clear c66
     try clear uZ
     try clear yU
     try clear c72
     try clear c72b0
     try clear wh
     try clear c73b0
     try clear c73b1
     try clear c75
     try clear NR
     try clear qh qi us yp yq
     try clear ql qm ro Ag Ai
     try clear qf sk xZ
     try clear rp rq sm FG FH
     try clear ut uu xb yr yt
     try clear P0 P1 P2 hcz36_3 hcz36_4
     try clear FI FJ P3 P4 P5
     try clear P6 P7 P8 P9 PA
     try clear FL FM FN UH UI
     try clear FO FP PB PC PD
     try clear PE PF PG
     try clear UJ UK
     try clear PH PI PJ PK PL
     try clear hcz68_0 hcz68_1
     try clear hcz70_0 hcz70_1 hcz70_2 hcz70_3 hcz70_4
     try clear Ow Ox hcz76_2 hcz76_3 hcz76_4
     try clear hcz78_0 hcz78_1 hcz78_2 hcz78_3 hcz78_4
     try clear qj qk uv yu yv
     try clear qn qo rt Aj Ak
     try clear qg sl xa
     try clear ru rv sn FQ FR
     try clear uw ux xc yw yx
     try clear PM PN PO hfz36_3 hfz36_4
     try clear FS FT PP PQ PR
     try clear PS PT PU PV PX
     try clear FU FV FW UL UM
     try clear FX FY PY PZ Pa
     try clear Pb Pc Pd
     try clear UN UO
     try clear Pe Pf Pg Ph Pi
     try clear hfz68_0 hfz68_1
     try clear hfz70_0 hfz70_1 hfz70_2 hfz70_3 hfz70_4
     try clear Oy Oz hfz76_2 hfz76_3 hfz76_4
     try clear hfz78_0 hfz78_1 hfz78_2 hfz78_3 hfz78_4
     try clear yk
     try clear yl
     try clear ym
     try clear yn
     try clear yo
     try clear xd
     try clear xe
     try clear xf
     try clear xg
     try clear xh
     try clear FZ
     try clear Fa
     try clear p1
     try clear Hc
     try clear vv
     try clear p11
     try clear tK
     try clear Bs
     try clear p2
     try clear p6
     try clear q1
     try clear Hd
     try clear vw
     try clear CR
     try clear tL
     try clear Bt
     try clear q2
     try clear AG
     try clear NR
     obtain⟨GG,BE,mg,rfl,rfl,rfl,HA,dF,dT,cR,HB⟩:=hrel
     cases gk with
     |zero=>exact absurd HA.out (by simp[cD.l3])
     |succ k2=>
      have H:=HA.out;clear HA;simp only[cD.l3]at H
      by_cases c80:mg<(oY.length:Int)
      rotate_left
      ·
       rw[if_neg c80]at H;have c80b0:=f7 c80;clear c80
       by_cases Dn:((J l1 bc).f0)=2
       rotate_left
       ·
        rw[if_neg Dn]at H;have c103b0:=jI Dn;have c103b1:=jJ Dn;simp only[SY,cM]at H;obtain⟨rfl,rfl⟩:=H;have hnb116:=oG.out;have hnc116:=mZ.out;obtain⟨hcz117_0,hcz117_1,hcz117_2,hcz117_3,hcz117_4⟩:=ah cR;obtain⟨hfz117_0,hfz117_1,hfz117_2,hfz117_3,hfz117_4⟩:=af cR
        go_wp2
        go_ret2
        exact⟨er,aa HB fG ff⟩
       rw[if_pos Dn]at H;have c103b0:=jm Dn;have c103b1:=jn Dn;clear Dn
       by_cases Gn:(!(((J l1 bc).f2.f0)==0)||(!(((J l1 bc).f2.f1)==0)))=true
       ·
        rw[if_pos Gn]at H;have c104b0:(!(((J l1 bc).f2.f0)==0)||(!(((J l1 bc).f2.f1)==0)))=true:=Gn;clear Gn;simp only[SY,cM]at H;obtain⟨rfl,rfl⟩:=H;have hnb105:=oG.out;have hnc105:=mZ.out;obtain⟨hcz106_0,hcz106_1,hcz106_2,hcz106_3,hcz106_4⟩:=ah cR;obtain⟨hfz106_0,hfz106_1,hfz106_2,hfz106_3,hfz106_4⟩:=af cR
        go_wp2
        go_ret2
        exact⟨er,aa HB fG ff⟩
       rw[if_neg Gn]at H
       have c104b0:(!(((J l1 bc).f2.f0)==0)||(!(((J l1 bc).f2.f1)==0)))=false:=by simpa using Gn
       clear Gn
       by_cases c107:BE<0
       ·
        rw[if_pos c107]at H;have c107b0:=bS c107;clear c107;simp only[SY,cM]at H;obtain⟨rfl,rfl⟩:=H;have hnb108:=oG.out;have hnc108:=mZ.out;obtain⟨hcz109_0,hcz109_1,hcz109_2,hcz109_3,hcz109_4⟩:=ah cR;obtain⟨hfz109_0,hfz109_1,hfz109_2,hfz109_3,hfz109_4⟩:=af cR
        go_wp2
        go_ret2
        exact⟨er,aa HB fG ff⟩
       rw[if_neg c107]at H;have c107b0:=f7 c107;clear c107;replace H:=Hc.mp H;obtain⟨Xw,A1100,H⟩:=H
       try dsimp only at H
       have Lx:=Ah A1100;clear A1100
       by_cases RT:Xw=true
       rotate_left
       ·
        replace RT:=Q3.mpr RT;subst RT;rw[if_neg dc]at H;simp only[SY,cM]at H;obtain⟨rfl,rfl⟩:=H;have hnb114:=oG.out;have hnc114:=mZ.out;obtain⟨hcz115_0,hcz115_1,hcz115_2,hcz115_3,hcz115_4⟩:=ah cR;obtain⟨hfz115_0,hfz115_1,hfz115_2,hfz115_3,hfz115_4⟩:=af cR
        go_wp2_with (first|(go_at_call 40;(with_reducible refine(n8.calls ((J l1 bc).f3) (Ee (GG+1)) BE false _ Lx.out).mono ?_);rintro e w' ⟨rfl,⟨nd,rfl⟩⟩))
        go_ret2
        exact⟨er,aa HB fG ff⟩
       subst RT;rw[if_pos rfl]at H;have H':=Ah H;clear H;have hnb112:=oG.out;have hnc112:=mZ.out;obtain⟨hcz113_0,hcz113_1,hcz113_2,hcz113_3,hcz113_4⟩:=ah cR;obtain⟨hfz113_0,hfz113_1,hfz113_2,hfz113_3,hfz113_4⟩:=af cR
       go_wp2_with (first|(go_at_call 40;(with_reducible refine(n8.calls ((J l1 bc).f3) (Ee (GG+1)) BE true _ Lx.out).mono ?_);rintro e w' ⟨rfl,⟨nd,rfl⟩⟩))
       go_roundg k2
       case measure=>have:=dC.out;have:=dF.out;omega
       case rel=>exact⟨(oZ),(Ee (bc+1)),e3,e3,H',⟨by have:=dC.out;have:=dF.out;omega⟩,⟨bk dT⟩,⟨aa HB fG ff⟩⟩
      rw[if_pos c80]at H;have c80b0:=bS c80;clear c80
      by_cases NS:0≤mg
      rotate_left
      ·
       rw[if_neg NS]at H;exact absurd H (by simp)
      rw[if_pos NS]at H;have c81b0:=bS NS;clear NS
      by_cases SO:mg<(oY.length:Int)
      rotate_left
      ·
       rw[if_neg SO]at H;exact absurd H (by simp)
      rw[if_pos SO]at H;have c82b0:=bS SO;clear SO
      by_cases CT:((J oY mg).f1)=((J l1 bc).f1)
      rotate_left
      ·
       rw[if_neg CT]at H;have c83b0:=jI CT;have c83b1:=jJ CT;have H':=Ah H;clear H;have vx:0≤(mg:Int):=od;have vy:mg<(oY.length:Int):=od;obtain⟨Jq,Ly,Al,Am,An,Ao,Ap⟩:=jQ WI.out mg vx vy;obtain rfl:vQ=Jq:=(by injection Ly);replace Al:=hq HB Al;replace Am:=hq HB Am;replace An:=hq HB An;replace Ao:=hq HB Ao;replace Ap:=hq HB Ap;replace vx:=eq_true vx;replace vy:=eq_true vy
       go_wp2_with (first|((with_reducible refine am (N:=16) rfl ?_);refine ar 16 40 #[.int .i64 0,.int .i64 0,.int .i64 0,.int .i64 0,.int .i64 0] ?_;intro gb125 hg w97 BH hb;have GW125:=gw hg (aa HB fG ff);have Jr:=gw hg (aa HB fG ff);replace HB:=Ah (aK (aa HB fG ff) hb);have AN:=nn dT hg;have Hy:=nm dT hg;replace dT:=nb dT hb;have AO:=nn cR hg;have Hz:=nm cR hg;replace cR:=nb cR hb;clear hb hg;have hnb98:=Hy.out;have hnc98:=AN.out;have hnb99:=Hz.out;have hnc99:=AO.out;obtain⟨hcz100_0,hcz100_1,hcz100_2,hcz100_3,hcz100_4⟩:=ah BH;obtain⟨hfz100_0,hfz100_1,hfz100_2,hfz100_3,hfz100_4⟩:=af BH;have hnb101:=oG.out;have hnc101:=mZ.out;obtain⟨hcz102_0,hcz102_1,hcz102_2,hcz102_3,hcz102_4⟩:=ah cR;obtain⟨hfz102_0,hfz102_1,hfz102_2,hfz102_3,hfz102_4⟩:=af cR))
       go_roundg k2
       case measure=>have:=dC.out;have:=dF.out;omega
       case rel=>exact⟨(GG),(BE),(Ee (mg+1)),e3,e3,e3,H',⟨by have:=dC.out;have:=dF.out;omega⟩,⟨bf dT AN⟩,⟨bf cR AO⟩,⟨bF HB fG ff Jr⟩⟩
      rw[if_pos CT]at H;have c83b0:=jm CT;have c83b1:=jn CT;clear CT
      by_cases CU:((J oY mg).f0)=1
      rotate_left
      ·
       rw[if_neg CU]at H;have c84b0:=jI CU;have c84b1:=jJ CU;have H':=Ah H;clear H;have vx:0≤(mg:Int):=od;have vy:mg<(oY.length:Int):=od;obtain⟨Jq,Ly,Al,Am,An,Ao,Ap⟩:=jQ WI.out mg vx vy;obtain rfl:vQ=Jq:=(by injection Ly);replace Al:=hq HB Al;replace Am:=hq HB Am;replace An:=hq HB An;replace Ao:=hq HB Ao;replace Ap:=hq HB Ap;replace vx:=eq_true vx;replace vy:=eq_true vy
       go_wp2_with (first|((with_reducible refine am (N:=16) rfl ?_);refine ar 16 40 #[.int .i64 0,.int .i64 0,.int .i64 0,.int .i64 0,.int .i64 0] ?_;intro gb125 hg w91 BH hb;have GW125:=gw hg (aa HB fG ff);have Jr:=gw hg (aa HB fG ff);replace HB:=Ah (aK (aa HB fG ff) hb);have AN:=nn dT hg;have Hy:=nm dT hg;replace dT:=nb dT hb;have AO:=nn cR hg;have Hz:=nm cR hg;replace cR:=nb cR hb;clear hb hg;have Qd:=Hy.out;have Qe:=AN.out;have hnb93:=Hz.out;have hnc93:=AO.out;obtain⟨hcz94_0,hcz94_1,hcz94_2,hcz94_3,hcz94_4⟩:=ah BH;obtain⟨hfz94_0,hfz94_1,hfz94_2,hfz94_3,hfz94_4⟩:=af BH;have hnb95:=oG.out;have hnc95:=mZ.out;obtain⟨hcz96_0,hcz96_1,hcz96_2,hcz96_3,hcz96_4⟩:=ah cR;obtain⟨hfz96_0,hfz96_1,hfz96_2,hfz96_3,hfz96_4⟩:=af cR))
       go_roundg k2
       case measure=>have:=dC.out;have:=dF.out;omega
       case rel=>exact⟨((J oY mg).f3),(BE),(Ee (mg+1)),e3,e3,e3,H',⟨by have:=dC.out;have:=dF.out;omega⟩,⟨bf dT AN⟩,⟨bf cR AO⟩,⟨bF HB fG ff Jr⟩⟩
      rw[if_pos CU]at H;have c84b0:=jm CU;have c84b1:=jn CU;clear CU;have H':=Ah H;clear H;have vx:0≤(mg:Int):=od;have vy:mg<(oY.length:Int):=od;obtain⟨Jq,Ly,Al,Am,An,Ao,Ap⟩:=jQ WI.out mg vx vy;obtain rfl:vQ=Jq:=(by injection Ly);replace Al:=hq HB Al;replace Am:=hq HB Am;replace An:=hq HB An;replace Ao:=hq HB Ao;replace Ap:=hq HB Ap;replace vx:=eq_true vx;replace vy:=eq_true vy
      go_wp2_with (first|((with_reducible refine am (N:=16) rfl ?_);refine ar 16 40 #[.int .i64 0,.int .i64 0,.int .i64 0,.int .i64 0,.int .i64 0] ?_;intro gb125 hg w85 BH hb;have GW125:=gw hg (aa HB fG ff);have Jr:=gw hg (aa HB fG ff);replace HB:=Ah (aK (aa HB fG ff) hb);have AN:=nn dT hg;have Hy:=nm dT hg;replace dT:=nb dT hb;have AO:=nn cR hg;have Hz:=nm cR hg;replace cR:=nb cR hb;clear hb hg;have hnb86:=Hy.out;have hnc86:=AN.out;have hnb87:=Hz.out;have hnc87:=AO.out;obtain⟨hcz88_0,hcz88_1,hcz88_2,hcz88_3,hcz88_4⟩:=ah BH;obtain⟨hfz88_0,hfz88_1,hfz88_2,hfz88_3,hfz88_4⟩:=af BH;have hnb89:=oG.out;have hnc89:=mZ.out;obtain⟨UP,UQ,hcz90_2,hcz90_3,hcz90_4⟩:=ah cR;obtain⟨UR,US,hfz90_2,hfz90_3,hfz90_4⟩:=af cR))
      go_roundg k2
      case measure=>have:=dC.out;have:=dF.out;omega
      case rel=>exact⟨((J oY mg).f3),((J oY mg).f2.f1),(Ee (mg+1)),e3,e3,e3,H',⟨by have:=dC.out;have:=dF.out;omega⟩,⟨bf dT AN⟩,⟨bf cR AO⟩,⟨bF HB fG ff Jr⟩⟩
   rw[if_pos c7]at H;have tJ:=jm c7;have Gm:=jn c7;clear c7;have Zj:=Ah H;clear H;have vv:0≤(bc:Int):=od;have vw:bc<(l1.length:Int):=od;obtain⟨vQ,Xx,yk,yl,ym,yn,yo⟩:=jQ HR1.out bc vv vw
   cases Xx
   replace yk:=hq HB yk;replace yl:=hq HB yl;replace ym:=hq HB ym;replace yn:=hq HB yn;replace yo:=hq HB yo;replace vv:=eq_true vv;replace vw:=eq_true vw
   go_upto_region 6 with(first|((with_reducible refine am (N:=8) rfl ?_);refine ar 8 40 #[.int .i64 0,.int .i64 0,.int .i64 0,.int .i64 0,.int .i64 0] ?_;intro uE hg w9 cR hb;have GW107:=gw hg (aQ HB fG);have ff:=gw hg (aQ HB fG);replace HB:=Ah (aK (aQ HB fG) hb);have mZ:=nn dT hg;have oG:=nm dT hg;replace dT:=nb dT hb;clear hb hg;have WO:=oG.out;have WQ:=mZ.out;obtain⟨qh,qi,us,yp,yq⟩:=ah cR;obtain⟨qj,qk,uv,yu,yv⟩:=af cR))
   (try simp only[Act.put,List.setIfInBounds_toArray,List.set_cons_zero,List.set_cons_succ])
   go_cut [43] (fun v43 wc=>∃ (kq:Nat) (Qf:Bool),v43= .bool Qf∧Y (cD.j1 kq l1 oZ bc l1 (l1.length:Int) bc Qf aA U aH ((J l1 bc).f0) ((J l1 bc).f1) ((J l1 bc).f2.f0) ((J l1 bc).f2.f1) ((J l1 bc).f3)=some (r1,r2))∧Y (kq≤k1)∧Y (wc.heap[GE]?=some (.cells #[.int .i64 aA,(.slice bH U.length ay),(.slice bC aH.length bD)] 25 (0,0)))∧Y (wc.heap[uE]?=some (.cells #[.int .i64 ((J l1 bc).f0),.int .i64 ((J l1 bc).f1),.int .i64 ((J l1 bc).f2.f0),.int .i64 ((J l1 bc).f2.f1),.int .i64 ((J l1 bc).f3)] 40 (0,0)))∧Y (Below w.heap.size w wc))
   case first=>
    have H:=Zj.out;clear Zj
    by_cases c12:((J l1 bc).f1)=oZ
    rotate_left
    ·
     rw[if_neg c12]at H;have sB:=jI c12;have DB:=jJ c12;(first|rw[sB]|(simp only[lr,nu];rw[sB])|(simp only[c12b2,aa6,Bool.not_true])|skip);have H':=Ah H;clear H;have hnb21:=oG.out;have hnc21:=mZ.out;obtain⟨ut,uu,xb,yr,yt⟩:=ah cR;obtain⟨uw,ux,xc,yw,yx⟩:=af cR
     go_wp2
     go_meet
     case rel=>exact⟨_,(true),e3,H',⟨by have:=dC.out;first|omega|exact eH _⟩,⟨bf dT mZ⟩,⟨by exact pb cR⟩,⟨aa HB fG ff⟩⟩
    rw[if_pos c12]at H;have sB:=jm c12;have DB:=jn c12;clear c12;(first|rw[sB]|(simp only[lr,nu];rw[sB])|(simp only[c12b2,aa6,Bool.not_true])|skip)
    by_cases c13:((J l1 bc).f3)=0
    rotate_left
    ·
     rw[if_neg c13]at H;have Jo:=jI c13;have Jp:=jJ c13;have H':=Ah H;clear H;have Js:=oG.out;have Jt:=mZ.out;obtain⟨rp,rq,sm,FG,FH⟩:=ah cR;obtain⟨ru,rv,sn,FQ,FR⟩:=af cR
     go_wp2
     go_meet
     case rel=>exact⟨_,(true),e3,H',⟨by have:=dC.out;first|omega|exact eH _⟩,⟨bf dT mZ⟩,⟨by exact pb cR⟩,⟨aa HB fG ff⟩⟩
    rw[if_pos c13]at H;have Jo:=jm c13;have Jp:=jn c13;clear c13;replace H:=Hc.mp H;obtain⟨RS,Lz,H⟩:=H
    try dsimp only at H
    have Zk:=Ah Lz;clear Lz;have H':=Ah H;clear H;have WR:=oG.out;have WS:=mZ.out;obtain⟨ql,qm,ro,Ag,Ai⟩:=ah cR;obtain⟨qn,qo,rt,Aj,Ak⟩:=af cR;obtain⟨qf,sk,xZ⟩:=di dT;obtain⟨qg,sl,xa⟩:=dj dT
    go_wp2_with (first|(go_at_call 38;(with_reducible refine(ud.calls ((J l1 bc).f2.f0) ((J l1 bc).f2.f1) aA RS _ Zk.out).mono ?_);rintro e SP ⟨rfl,hb⟩;replace dT:=Ah (bJ (bf dT mZ) hb);replace cR:=Ah (bJ (g:=uE) (o:= .cells #[.int .i64 ((J l1 bc).f0),.int .i64 ((J l1 bc).f1),.int .i64 ((J l1 bc).f2.f0),.int .i64 ((J l1 bc).f2.f1),.int .i64 ((J l1 bc).f3)] 40 (0,0)) (pb cR) hb);replace HB:=Ah (aK (aa HB fG ff) hb);(try clear hb)))
    go_meet
    case rel=>exact⟨_,(!RS),e3,H',⟨by have:=dC.out;first|omega|exact eH _⟩,⟨bk dT⟩,⟨bk cR⟩,⟨aa HB fG ff⟩⟩
   case rest=>
    clear Zj
    try clear c1
    try clear p1
    try clear q1
    try clear hx1
    try clear c2
    try clear p2
    try clear c4
    try clear ky
    try clear c5
    try clear o9
    try clear c6
    try clear zn
    try clear c7
    try clear tJ
    try clear Gm
    try clear c10
    try clear Hc
    try clear Hd
    try clear Y0
    try clear c12
    try clear sB
    try clear DB
    try clear c13
    try clear Jo
    try clear Jp
    try clear c15
    try clear c18
    try clear c19
    try clear c21
    try clear qh qi us yp yq
    try clear ql qm ro Ag Ai
    try clear qf sk xZ
    try clear rp rq sm FG FH
    try clear ut uu xb yr yt
    try clear qj qk uv yu yv
    try clear qn qo rt Aj Ak
    try clear qg sl xa
    try clear ru rv sn FQ FR
    try clear uw ux xc yw yx
    try clear yk
    try clear yl
    try clear ym
    try clear yn
    try clear yo
    try clear vv
    try clear p2
    try clear vw
    obtain⟨kq,Qf,rfl,HA,CV,dT,cR,HB⟩:=hcut
    cases kq with
    |zero=>exact absurd HA.out (by simp[cD.j1])
    |succ Zl=>
     have H:=HA.out;clear HA;simp only[cD.j1]at H
     by_cases c23:Qf=true
     ·
      subst c23;rw[if_pos rfl]at H;simp only[SY,cM]at H;obtain⟨rfl,rfl⟩:=H
      go_wp2
      go_ret2
      exact⟨er,aa HB fG ff⟩
     replace c23:=Q3.mpr c23;subst c23;rw[if_neg dc]at H
     by_cases c24:0≤bc
     rotate_left
     ·
      rw[if_neg c24]at H;exact absurd H (by simp)
     rw[if_pos c24]at H;have BF:=eq_true c24;have DC:=bS c24;clear c24
     by_cases tV:bc≤(l1.length:Int)
     rotate_left
     ·
      rw[if_neg tV]at H;exact absurd H (by simp)
     rw[if_pos tV]at H;have Qc:=eq_true tV;have WJ:=bS tV;clear tV;obtain⟨kz,Ju⟩:∃y_:List (aV),y_=(l1.take (bc:Int).toNat):=⟨_,rfl⟩
     replace H:(cD.l1 Zl l1 oZ l1 (l1.length:Int) bc kz (kz.length:Int) 0 aA U aH ((J l1 bc).f0) ((J l1 bc).f1) ((J l1 bc).f2.f0) ((J l1 bc).f2.f1) ((J l1 bc).f3))=some (r1,r2):=by first|(rw[Ju];with_reducible exact H)|(have ai:=(N6 _ _).symm.trans H;rw[Ju];with_reducible exact ai)|(have ai:=(N6 _ _).symm.trans H;with_reducible exact ai)|with_reducible exact H|(rw[Ju];exact H)|exact H
     have Ny109:=Ah Ju;clear Ju;have H':=Ah H;clear H;have AG:(bc:Int)≤((l1.length:Int):Int):=od;obtain⟨i026,hi026,_,hsz26,_⟩:=info_parts qF;have hroom26:l1.length≤c1:=rV.out;have hC26:Kd.C cV _ (some vQ) l1.length l1:=HR1.out;have hcut26:=Fu (P:=sX) 26 40 .i64 aaG hi026 (some vQ) l1.length c1 bc (od) AG hroom26;have Y1:=Kd.xw (m:=(bc:Int).toNat) hC26 (by omega);have Y2:kz.length=(bc:Int).toNat:=(by rw[Ny109.out,aN];omega);rw[←Ny109.out]at Y1;rw[←Y2]at hcut26;have WT:=Ah Y1;have HC112:=Ah (show kz.length≤c1 from by omega);clear Y1 hC26 hroom26 hi026 hsz26;have KY26:=Ah Y2;clear Y2;replace AG:=eq_true AG
     go_wp2
     go_loopg [48] Zl (fun kq v48 w'=>∃ (jt:Int),v48= .int .i64 jt∧Y (cD.l1 kq l1 oZ l1 (l1.length:Int) bc kz (kz.length:Int) jt aA U aH ((J l1 bc).f0) ((J l1 bc).f1) ((J l1 bc).f2.f0) ((J l1 bc).f2.f1) ((J l1 bc).f3)=some (r1,r2))∧Y (kq≤Zl)∧Y (w'.heap[GE]?=some (.cells #[.int .i64 aA,(.slice bH U.length ay),(.slice bC aH.length bD)] 25 (0,0)))∧Y (w'.heap[uE]?=some (.cells #[.int .i64 ((J l1 bc).f0),.int .i64 ((J l1 bc).f1),.int .i64 ((J l1 bc).f2.f0),.int .i64 ((J l1 bc).f2.f1),.int .i64 ((J l1 bc).f3)] 40 (0,0)))∧Y (Below w.heap.size w w'))
     case atStart=>exact⟨(0),e3,H',⟨eH _⟩,⟨bk dT⟩,⟨bk cR⟩,⟨aa HB fG ff⟩⟩
     case round=>
      clear H'
      try clear c1
      try clear p1
      try clear q1
      try clear hx1
      try clear c2
      try clear p2
      try clear q2
      try clear c4
      try clear ky
      try clear c5
      try clear o9
      try clear c6
      try clear zn
      try clear c7
      try clear tJ
      try clear Gm
      try clear c10
      try clear Hc
      try clear Hd
      try clear Y0
      try clear c12
      try clear sB
      try clear DB
      try clear c13
      try clear Jo
      try clear Jp
      try clear c15
      try clear c18
      try clear c19
      try clear c21
      try clear c23
      try clear c24
      try clear BF
      try clear DC
      try clear tV
      try clear Qc
      try clear WJ
      try clear AG
      try clear qh qi us yp yq
      try clear ql qm ro Ag Ai
      try clear qf sk xZ
      try clear rp rq sm FG FH
      try clear ut uu xb yr yt
      try clear qj qk uv yu yv
      try clear qn qo rt Aj Ak
      try clear qg sl xa
      try clear ru rv sn FQ FR
      try clear uw ux xc yw yx
      try clear yk
      try clear yl
      try clear ym
      try clear yn
      try clear yo
      try clear p1
      try clear Hc
      try clear vv
      try clear p2
      try clear q1
      try clear Hd
      try clear vw
      try clear AG
      obtain⟨jt,rfl,HA,pP,dT,cR,HB⟩:=hrel
      cases gk with
      |zero=>exact absurd HA.out (by simp[cD.l1])
      |succ k3=>
       have H:=HA.out;clear HA;simp only[cD.l1]at H
       by_cases wi:jt<(kz.length:Int)
       ·
        rw[if_pos wi]at H;have WK:=bS wi;clear wi
        by_cases c28:0≤jt
        rotate_left
        ·
         rw[if_neg c28]at H;exact absurd H (by simp)
        rw[if_pos c28]at H;have WL:=bS c28;clear c28
        by_cases kQ:jt<(kz.length:Int)
        rotate_left
        ·
         rw[if_neg kQ]at H;exact absurd H (by simp)
        rw[if_pos kQ]at H;have BG:=bS kQ;clear kQ
        by_cases hP:((J kz jt).f0)=1
        rotate_left
        ·
         rw[if_neg hP]at H;have sy:=jI hP;have G9:=jJ hP;have H':=Ah H;clear H;have tK:0≤(jt:Int):=od;have tL:jt<(kz.length:Int):=od;obtain⟨Jv,M0,xd,xe,xf,xg,xh⟩:=jQ WT.out jt tK tL;obtain rfl:vQ=Jv:=(by injection M0);replace xd:=hq HB xd;replace xe:=hq HB xe;replace xf:=hq HB xf;replace xg:=hq HB xg;replace xh:=hq HB xh;replace tK:=eq_true tK;replace tL:=eq_true tL
         go_wp2_with (first|((with_reducible refine am (N:=10) rfl ?_);refine ar 10 40 #[.int .i64 0,.int .i64 0,.int .i64 0,.int .i64 0,.int .i64 0] ?_;intro Qg hg w47 uF hb;have GW114:=gw hg (aa HB fG ff);have DD:=gw hg (aa HB fG ff);replace HB:=Ah (aK (aa HB fG ff) hb);have AP:=nn dT hg;have I0:=nm dT hg;replace dT:=nb dT hb;have AQ:=nn cR hg;have I1:=nm cR hg;replace cR:=nb cR hb;clear hb hg;have hnb48:=I0.out;have hnc48:=AP.out;have GA:=I1.out;have GB:=AQ.out;obtain⟨FO,FP,PB,PC,PD⟩:=ah uF;obtain⟨FX,FY,PY,PZ,Pa⟩:=af uF))
         go_roundg k3
         case measure=>have:=dC.out;have:=CV.out;have:=pP.out;omega
         case rel=>exact⟨(Ee (jt+1)),e3,H',⟨by have:=dC.out;have:=CV.out;have:=pP.out;omega⟩,⟨bf dT AP⟩,⟨bf cR AQ⟩,⟨bF HB fG ff DD⟩⟩
        rw[if_pos hP]at H;have sy:=jm hP;have G9:=jn hP;clear hP;replace H:=Hc.mp H;obtain⟨Xu,M3,H⟩:=H
        try dsimp only at H
        have SQ:=Ah M3;clear M3
        by_cases c32:Xu=true
        ·
         subst c32;rw[if_pos rfl]at H;simp only[SY,cM]at H;obtain⟨rfl,rfl⟩:=H;have tK:0≤(jt:Int):=od;have tL:jt<(kz.length:Int):=od;obtain⟨Jv,M0,xd,xe,xf,xg,xh⟩:=jQ WT.out jt tK tL;obtain rfl:vQ=Jv:=(by injection M0);replace xd:=hq HB xd;replace xe:=hq HB xe;replace xf:=hq HB xf;replace xg:=hq HB xg;replace xh:=hq HB xh;replace tK:=eq_true tK;replace tL:=eq_true tL
         go_wp2_with (first|((with_reducible refine am (N:=10) rfl ?_);refine ar 10 40 #[.int .i64 0,.int .i64 0,.int .i64 0,.int .i64 0,.int .i64 0] ?_;intro Qg hg He uF hb;have GW114:=gw hg (aa HB fG ff);have DD:=gw hg (aa HB fG ff);replace HB:=Ah (aK (aa HB fG ff) hb);have AP:=nn dT hg;have I0:=nm dT hg;replace dT:=nb dT hb;have AQ:=nn cR hg;have I1:=nm cR hg;replace cR:=nb cR hb;clear hb hg;have hnb34:=I0.out;have hnc34:=AP.out;have WU:=I1.out;have WV:=AQ.out;obtain⟨P0,P1,P2,hcz36_3,hcz36_4⟩:=ah uF;obtain⟨PM,PN,PO,hfz36_3,hfz36_4⟩:=af uF;have Qh:=oG.out;have Qi:=mZ.out;obtain⟨FI,FJ,P3,P4,P5⟩:=ah cR;obtain⟨FS,FT,PP,PQ,PR⟩:=af cR)|(go_at_call 39;(with_reducible refine(ww.calls ((J kz jt).f2.f0) ((J kz jt).f2.f1) ((J l1 bc).f2.f0) ((J l1 bc).f2.f1) true _ SQ.out).mono ?_);rintro e NN ⟨rfl,hb⟩;replace dT:=Ah (bJ (bf dT AP) hb);replace cR:=Ah (bJ (bf cR AQ) hb);replace uF:=Ah (bJ (g:=Qg) (o:= .cells #[.int .i64 ((J kz jt).f0),.int .i64 ((J kz jt).f1),.int .i64 ((J kz jt).f2.f0),.int .i64 ((J kz jt).f2.f1),.int .i64 ((J kz jt).f3)] 40 (0,0)) (pb uF) hb);replace HB:=Ah (aK (bF HB fG ff DD) hb);(try clear hb)))
         go_ret2
         exact⟨er,bF HB fG ff DD⟩
        replace c32:=Q3.mpr c32;subst c32;rw[if_neg dc]at H;have H':=Ah H;clear H;have tK:0≤(jt:Int):=od;have tL:jt<(kz.length:Int):=od;obtain⟨Jv,M0,xd,xe,xf,xg,xh⟩:=jQ WT.out jt tK tL;obtain rfl:vQ=Jv:=(by injection M0);replace xd:=hq HB xd;replace xe:=hq HB xe;replace xf:=hq HB xf;replace xg:=hq HB xg;replace xh:=hq HB xh;replace tK:=eq_true tK;replace tL:=eq_true tL
        go_wp2_with (first|((with_reducible refine am (N:=10) rfl ?_);refine ar 10 40 #[.int .i64 0,.int .i64 0,.int .i64 0,.int .i64 0,.int .i64 0] ?_;intro Qg hg CP uF hb;have GW114:=gw hg (aa HB fG ff);have DD:=gw hg (aa HB fG ff);replace HB:=Ah (aK (aa HB fG ff) hb);have AP:=nn dT hg;have I0:=nm dT hg;replace dT:=nb dT hb;have AQ:=nn cR hg;have I1:=nm cR hg;replace cR:=nb cR hb;clear hb hg;have Jw:=I0.out;have Jx:=AP.out;have hnb42:=I1.out;have hnc42:=AQ.out;obtain⟨P6,P7,P8,P9,PA⟩:=ah uF;obtain⟨PS,PT,PU,PV,PX⟩:=af uF;have hnb44:=oG.out;have hnc44:=mZ.out;obtain⟨FL,FM,FN,UH,UI⟩:=ah cR;obtain⟨FU,FV,FW,UL,UM⟩:=af cR)|(go_at_call 39;(with_reducible refine(ww.calls ((J kz jt).f2.f0) ((J kz jt).f2.f1) ((J l1 bc).f2.f0) ((J l1 bc).f2.f1) false _ SQ.out).mono ?_);rintro e Hf ⟨rfl,hb⟩;replace dT:=Ah (bJ (bf dT AP) hb);replace cR:=Ah (bJ (bf cR AQ) hb);replace uF:=Ah (bJ (g:=Qg) (o:= .cells #[.int .i64 ((J kz jt).f0),.int .i64 ((J kz jt).f1),.int .i64 ((J kz jt).f2.f0),.int .i64 ((J kz jt).f2.f1),.int .i64 ((J kz jt).f3)] 40 (0,0)) (pb uF) hb);replace HB:=Ah (aK (bF HB fG ff DD) hb);(try clear hb)))
        go_roundg k3
        case measure=>have:=dC.out;have:=CV.out;have:=pP.out;omega
        case rel=>exact⟨(Ee (jt+1)),e3,H',⟨by have:=dC.out;have:=CV.out;have:=pP.out;omega⟩,⟨bk dT⟩,⟨bk cR⟩,⟨bF HB fG ff DD⟩⟩
       rw[if_neg wi]at H;have WK:=f7 wi;clear wi;have H':=Ah H;clear H;have Qj:=mZ.out;have Qk:=oG.out;obtain⟨PE,PF,PG⟩:=di dT;obtain⟨Pb,Pc,Pd⟩:=dj dT
       go_wp2
       go_loopg [66] k3 (fun kq v66 w'=>∃ (m7:Int),v66= .int .i64 m7∧Y (cD.l2 kq l1 oZ l1 (l1.length:Int) bc U (U.length:Int) m7 aA U aH ((J l1 bc).f0) ((J l1 bc).f1) ((J l1 bc).f2.f0) ((J l1 bc).f2.f1) ((J l1 bc).f3)=some (r1,r2))∧Y (kq≤k3)∧Y (w'.heap[GE]?=some (.cells #[.int .i64 aA,(.slice bH U.length ay),(.slice bC aH.length bD)] 25 (0,0)))∧Y (w'.heap[uE]?=some (.cells #[.int .i64 ((J l1 bc).f0),.int .i64 ((J l1 bc).f1),.int .i64 ((J l1 bc).f2.f0),.int .i64 ((J l1 bc).f2.f1),.int .i64 ((J l1 bc).f3)] 40 (0,0)))∧Y (Below w.heap.size w w'))
       case atStart=>exact⟨(0),e3,H',⟨eH _⟩,⟨bk dT⟩,⟨bk cR⟩,⟨aa HB fG ff⟩⟩
       case round=>
        clear H'
        try clear c1
        try clear p1
        try clear q1
        try clear hx1
        try clear c2
        try clear p2
        try clear q2
        try clear c3
        try clear c4
        try clear ky
        try clear c5
        try clear o9
        try clear c6
        try clear zn
        try clear p6
        try clear c7
        try clear tJ
        try clear Gm
        try clear c10
        try clear Hc
        try clear Hd
        try clear Y0
        try clear p11
        try clear CR
        try clear hx11
        try clear c12
        try clear sB
        try clear DB
        try clear c13
        try clear Jo
        try clear Jp
        try clear c15
        try clear c18
        try clear c19
        try clear c21
        try clear c23
        try clear c24
        try clear BF
        try clear DC
        try clear tV
        try clear Qc
        try clear WJ
        try clear AG
        try clear wi
        try clear WK
        try clear c28
        try clear WL
        try clear kQ
        try clear BG
        try clear hP
        try clear sy
        try clear G9
        try clear c32
        try clear c34
        try clear tW
        try clear c37
        try clear yT
        try clear CS
        try clear Ej
        try clear c48
        try clear c49
        try clear c51
        try clear qh qi us yp yq
        try clear ql qm ro Ag Ai
        try clear qf sk xZ
        try clear rp rq sm FG FH
        try clear ut uu xb yr yt
        try clear P0 P1 P2 hcz36_3 hcz36_4
        try clear FI FJ P3 P4 P5
        try clear P6 P7 P8 P9 PA
        try clear FL FM FN UH UI
        try clear FO FP PB PC PD
        try clear PE PF PG
        try clear qj qk uv yu yv
        try clear qn qo rt Aj Ak
        try clear qg sl xa
        try clear ru rv sn FQ FR
        try clear uw ux xc yw yx
        try clear PM PN PO hfz36_3 hfz36_4
        try clear FS FT PP PQ PR
        try clear PS PT PU PV PX
        try clear FU FV FW UL UM
        try clear FX FY PY PZ Pa
        try clear Pb Pc Pd
        try clear yk
        try clear yl
        try clear ym
        try clear yn
        try clear yo
        try clear xd
        try clear xe
        try clear xf
        try clear xg
        try clear xh
        try clear p1
        try clear Hc
        try clear vv
        try clear tK
        try clear p2
        try clear q1
        try clear Hd
        try clear vw
        try clear tL
        try clear q2
        try clear AG
        obtain⟨m7,rfl,HA,SR,dT,cR,HB⟩:=hrel
        cases gk with
        |zero=>exact absurd HA.out (by simp[cD.l2])
        |succ k4=>
         have H:=HA.out;clear HA;simp only[cD.l2]at H
         by_cases c53:m7<(U.length:Int)
         rotate_left
         ·
          rw[if_neg c53]at H;have c53b0:=f7 c53;clear c53;have H':=Ah H;clear H
          go_wp2
          go_roundg k4
          case measure=>have:=dC.out;have:=CV.out;have:=pP.out;have:=SR.out;omega
          case rel=>exact⟨(Ee (oZ+1)),(Ee (bc+1)),e3,e3,H',⟨by have:=dC.out;have:=CV.out;have:=pP.out;have:=SR.out;omega⟩,⟨bk dT⟩,⟨aa HB fG ff⟩⟩
         rw[if_pos c53]at H;have c53b0:=bS c53;clear c53
         by_cases tX:0≤m7
         rotate_left
         ·
          rw[if_neg tX]at H;exact absurd H (by simp)
         rw[if_pos tX]at H;have WM:=bS tX;clear tX
         by_cases ot:m7<(U.length:Int)
         rotate_left
         ·
          rw[if_neg ot]at H;exact absurd H (by simp)
         rw[if_pos ot]at H;have WN:=bS ot;clear ot;replace H:=Hc.mp H;obtain⟨Xv,A560,H⟩:=H
         try dsimp only at H
         have A56:=Ah A560;clear A560
         by_cases wd:Xv=true
         ·
          subst wd;rw[if_pos rfl]at H;simp only[SY,cM]at H;obtain⟨rfl,rfl⟩:=H;have Bs:0≤(m7:Int):=od;have Bt:m7<(U.length:Int):=od;obtain⟨ad116,e116,FZ,Fa⟩:=eA cx.out m7 Bs Bt
          cases e116
          replace FZ:=hq HB FZ;replace Fa:=hq HB Fa;replace Bs:=eq_true Bs;replace Bt:=eq_true Bt
          go_wp2_with (first|((with_reducible refine am (N:=12) rfl ?_);refine ar 12 38 #[.int .i64 0,.int .i64 0] ?_;intro WW hg w58 zU hb;have GW117:=gw hg (aa HB fG ff);have Jy:=gw hg (aa HB fG ff);replace HB:=Ah (aK (aa HB fG ff) hb);have I2:=nn dT hg;have TA:=nm dT hg;replace dT:=nb dT hb;have I3:=nn cR hg;have TB:=nm cR hg;replace cR:=nb cR hb;clear hb hg;have hnb59:=TA.out;have hnc59:=I2.out;have hnb60:=TB.out;have hnc60:=I3.out;obtain⟨UJ,UK⟩:=da zU;obtain⟨UN,UO⟩:=db zU;have GC:=oG.out;have GD:=mZ.out;obtain⟨PH,PI,PJ,PK,PL⟩:=ah cR;obtain⟨Pe,Pf,Pg,Ph,Pi⟩:=af cR)|((with_reducible refine bN (f:=39) rfl ?_);refine gL (some 73) rfl rfl Try.func39 (by kernel_rfl) rfl #[.agg #[.int .i64 ((aC U m7).f0),.int .i64 ((aC U m7).f1)],.agg #[.int .i64 ((J l1 bc).f2.f0),.int .i64 ((J l1 bc).f2.f1)]] rfl ?_;(with_reducible refine(ww.calls ((aC U m7).f0) ((aC U m7).f1) ((J l1 bc).f2.f0) ((J l1 bc).f2.f1) true _ A56.out).mono ?_);rintro e dO ⟨rfl,hb⟩;refine⟨_,rfl, ?_⟩;replace dT:=Ah (bJ (bf dT I2) hb);replace cR:=Ah (bJ (bf cR I3) hb);replace zU:=Ah (bJ (g:=WW) (o:= .cells #[.int .i64 ((aC U m7).f0),.int .i64 ((aC U m7).f1)] 38 (0,0)) (pb zU) hb);replace HB:=Ah (aK (bF HB fG ff Jy) hb);(try clear hb)))
          go_ret2
          exact⟨er,bF HB fG ff Jy⟩
         replace wd:=Q3.mpr wd;subst wd;rw[if_neg dc]at H;have H':=Ah H;clear H;have Bs:0≤(m7:Int):=od;have Bt:m7<(U.length:Int):=od;obtain⟨ad116,e116,FZ,Fa⟩:=eA cx.out m7 Bs Bt
         cases e116
         replace FZ:=hq HB FZ;replace Fa:=hq HB Fa;replace Bs:=eq_true Bs;replace Bt:=eq_true Bt
         go_wp2_with (first|((with_reducible refine am (N:=12) rfl ?_);refine ar 12 38 #[.int .i64 0,.int .i64 0] ?_;intro WW hg w65 zU hb;have GW117:=gw hg (aa HB fG ff);have Jy:=gw hg (aa HB fG ff);replace HB:=Ah (aK (aa HB fG ff) hb);have I2:=nn dT hg;have TA:=nm dT hg;replace dT:=nb dT hb;have I3:=nn cR hg;have TB:=nm cR hg;replace cR:=nb cR hb;clear hb hg;have hnb66:=TA.out;have hnc66:=I2.out;have hnb67:=TB.out;have hnc67:=I3.out;obtain⟨hcz68_0,hcz68_1⟩:=da zU;obtain⟨hfz68_0,hfz68_1⟩:=db zU;have hnb69:=oG.out;have hnc69:=mZ.out;obtain⟨hcz70_0,hcz70_1,hcz70_2,hcz70_3,hcz70_4⟩:=ah cR;obtain⟨hfz70_0,hfz70_1,hfz70_2,hfz70_3,hfz70_4⟩:=af cR)|((with_reducible refine bN (f:=39) rfl ?_);refine gL (some 73) rfl rfl Try.func39 (by kernel_rfl) rfl #[.agg #[.int .i64 ((aC U m7).f0),.int .i64 ((aC U m7).f1)],.agg #[.int .i64 ((J l1 bc).f2.f0),.int .i64 ((J l1 bc).f2.f1)]] rfl ?_;(with_reducible refine(ww.calls ((aC U m7).f0) ((aC U m7).f1) ((J l1 bc).f2.f0) ((J l1 bc).f2.f1) false _ A56.out).mono ?_);rintro e w71 ⟨rfl,hb⟩;refine⟨_,rfl, ?_⟩;replace dT:=Ah (bJ (bf dT I2) hb);replace cR:=Ah (bJ (bf cR I3) hb);replace zU:=Ah (bJ (g:=WW) (o:= .cells #[.int .i64 ((aC U m7).f0),.int .i64 ((aC U m7).f1)] 38 (0,0)) (pb zU) hb);replace HB:=Ah (aK (bF HB fG ff Jy) hb);(try clear hb)))
         go_roundg k4
         case measure=>have:=dC.out;have:=CV.out;have:=pP.out;have:=SR.out;omega
         case rel=>exact⟨(Ee (m7+1)),e3,H',⟨by have:=dC.out;have:=CV.out;have:=pP.out;have:=SR.out;omega⟩,⟨bk dT⟩,⟨bk cR⟩,⟨bF HB fG ff Jy⟩⟩
def Cj.f(aA:Int)(dI:Int)(av:Int)(bB:Int):Option (Bool):=if dI<bB then(some true)else(if dI=bB then(some (decide (aA<av)))else(some false))
theorem Cj.calls(aA:Int)(dI:Int)(av:Int)(bB:Int)(r:Bool)(w:World)(h:Cj.f aA dI av bB=some r):
 Calls sX 56 #[.agg #[.int .i64 aA,.int .i64 dI],.agg #[.int .i64 av,.int .i64 bB]] w fun e w'=>e= .returned (.bool r)∧Below w.heap.size w w':=by
 have lM:=aap;have HB:=Ah (gR w.heap.size w);have H:(if dI<bB then(some true)else(if dI=bB then(some (decide (aA<av)))else(some false)))=some r:=h;clear h
 by_cases c3:dI<bB
 ·
  rw[if_pos c3]at H;have iZ:=bS c3;clear c3;obtain rfl:=Ok H
  go_enter Try.func56,Try.ntmps56
  go_wp2_with (first|((with_reducible refine am (N:=2) rfl ?_);refine ar 2 38 #[.int .i64 aA,.int .i64 dI] ?_;intro gb126 hg w4 nv hb;have GW126:=gw hg (bs HB);have sC:=gw hg (bs HB);replace HB:=Ah (aK (bs HB) hb);clear hb hg)|((with_reducible refine am (N:=3) rfl ?_);refine ar 3 38 #[.int .i64 av,.int .i64 bB] ?_;intro gb127 hg w5 BI hb;have GW127:=gw hg (aQ HB sC);have Jz:=gw hg (aQ HB sC);replace HB:=Ah (aK (aQ HB sC) hb);have I4:=nn nv hg;have I5:=nm nv hg;replace nv:=nb nv hb;clear hb hg;have Xs:=I4.out;have Xt:=I5.out;obtain⟨pD,pE⟩:=da nv;obtain⟨pF,pG⟩:=db nv;obtain⟨sv,sw⟩:=da BI;obtain⟨u7,sx⟩:=db BI))
  go_ret
  exact⟨er,aa HB sC Jz⟩
 rw[if_neg c3]at H;have iZ:=f7 c3;clear c3
 by_cases c9:dI=bB
 rotate_left
 ·
  rw[if_neg c9]at H;have pO:=jI c9;have RU:=jJ c9;obtain rfl:=Ok H
  go_enter Try.func56,Try.ntmps56
  go_wp2_with (first|((with_reducible refine am (N:=2) rfl ?_);refine ar 2 38 #[.int .i64 aA,.int .i64 dI] ?_;intro gb126 hg NL nv hb;have GW126:=gw hg (bs HB);have sC:=gw hg (bs HB);replace HB:=Ah (aK (bs HB) hb);clear hb hg)|((with_reducible refine am (N:=3) rfl ?_);refine ar 3 38 #[.int .i64 av,.int .i64 bB] ?_;intro gb127 hg w16 BI hb;have GW127:=gw hg (aQ HB sC);have Jz:=gw hg (aQ HB sC);replace HB:=Ah (aK (aQ HB sC) hb);have I4:=nn nv hg;have I5:=nm nv hg;replace nv:=nb nv hb;clear hb hg;have hnb17:=I4.out;have hnc17:=I5.out;obtain⟨uy,uz⟩:=da nv;obtain⟨vA,vB⟩:=db nv;obtain⟨Ig,Ih⟩:=da BI;obtain⟨Ii,Ij⟩:=db BI))
  go_ret
  exact⟨er,aa HB sC Jz⟩
 rw[if_pos c9]at H;have pO:=jm c9;have RU:=jn c9;clear c9;obtain rfl:=Ok H
 go_enter Try.func56,Try.ntmps56
 go_wp2_with (first|((with_reducible refine am (N:=2) rfl ?_);refine ar 2 38 #[.int .i64 aA,.int .i64 dI] ?_;intro gb126 hg oq nv hb;have GW126:=gw hg (bs HB);have sC:=gw hg (bs HB);replace HB:=Ah (aK (bs HB) hb);clear hb hg)|((with_reducible refine am (N:=3) rfl ?_);refine ar 3 38 #[.int .i64 av,.int .i64 bB] ?_;intro gb127 hg NT BI hb;have GW127:=gw hg (aQ HB sC);have Jz:=gw hg (aQ HB sC);replace HB:=Ah (aK (aQ HB sC) hb);have I4:=nn nv hg;have I5:=nm nv hg;replace nv:=nb nv hb;clear hb hg;have Ql:=I4.out;have Qm:=I5.out;obtain⟨pX,pY⟩:=da nv;obtain⟨pZ,pa⟩:=db nv;obtain⟨yy,yz⟩:=da BI;obtain⟨z6,z7⟩:=db BI))
 go_ret
 exact⟨er,aa HB sC Jz⟩
mutual
def dV.l0:Nat→List (X)→List (X)→Int→Int→Option ((List (X)))
 |0,_,_,_,_=>none
 |k+1,x3,x8,x9,i5=>if i5<x9 then(if 0≤i5 then(if i5<(x8.length:Int)then(dV.l1 k x3 0 x8 x9 i5 ((aC x8 i5).f0) ((aC x8 i5).f1))else(none))else(none))else(some x3)
def dV.l1:Nat→List (X)→Int→List (X)→Int→Int→Int→Int→Option ((List (X)))
 |0,_,_,_,_,_,_,_=>none
 |k+1,x3,x6,x8,x9,i5,Pj,Pk=>if x6<(x3.length:Int)then(if 0≤x6 then((Cj.f ((aC x3 x6).f0) ((aC x3 x6).f1) Pj Pk).bind fun t131=>(if t131=true then(dV.l1 k x3 (Ee (x6+1)) x8 x9 i5 Pj Pk)else(if x6≤(x3.length:Int)then((some (x3.take (x6:Int).toNat:List (X))).bind fun qS=>(if([]:List (X)).length+qS.length<8796093022208 then((some (([]:List (X))++qS:List (X))).bind fun vz=>(if vz.length<8796093022208 then((some (vz++[(⟨Pj,Pk⟩:X)]:List (X))).bind fun qT=>((some (x3.drop (x6:Int).toNat:List (X))).bind fun mS=>(if qT.length+mS.length<8796093022208 then(dV.l0 k (qT++mS) x8 x9 (Ee (i5+1)))else(none))))else(none)))else(none)))else(none))))else(none))else(if 0≤x6 then(if x6≤(x3.length:Int)then((some (x3.take (x6:Int).toNat:List (X))).bind fun qU=>(if([]:List (X)).length+qU.length<8796093022208 then((some (([]:List (X))++qU:List (X))).bind fun y153=>(if y153.length<8796093022208 then((some (y153++[(⟨Pj,Pk⟩:X)]:List (X))).bind fun qV=>((some (x3.drop (x6:Int).toNat:List (X))).bind fun y159=>(if qV.length+y159.length<8796093022208 then(dV.l0 k (qV++y159) x8 x9 (Ee (i5+1)))else(none))))else(none)))else(none)))else(none))else(none))
end
def dV.f(k:Nat)(l0:List (X)):Option ((List (X))):=dV.l0 k ([]:List (X)) l0 (l0.length:Int) 0
theorem dV.dh:∀k,(∀y0 y1 y2 y3,aG (dV.l0 k y0 y1 y2 y3) (dV.l0 (k+1) y0 y1 y2 y3))∧(∀y0 y1 y2 y3 y4 y5 y6,aG (dV.l1 k y0 y1 y2 y3 y4 y5 y6) (dV.l1 (k+1) y0 y1 y2 y3 y4 y5 y6))
 |0=>⟨fun _ _ _ _ r h=>by simp[dV.l0]at h,fun _ _ _ _ _ _ _ r h=>by simp[dV.l1]at h⟩
 |k+1=>by
  obtain⟨bz,ih1⟩:=dV.dh k
  refine⟨?_, ?_⟩<;>intros<;>first|unfold dV.l0|unfold dV.l1
  all_goals repeat' first
   |(with_reducible exact bz _ _ _ _)
   |(with_reducible exact ih1 _ _ _ _ _ _ _)
   |(with_reducible exact aG.refl _)
   |(with_reducible exact aG.none _)
   |(with_reducible refine aG.ite ?_ ?_)
   |(with_reducible refine aG.bind ?_ (fun _=> ?_))
   |exact bz _ _ _ _
   |exact ih1 _ _ _ _ _ _ _
   |exact aG.none _
   |refine aG.ite ?_ ?_
   |refine aG.bind ?_ (fun _=> ?_)
theorem dV.mono:∀a0 k,aG (dV.f k a0) (dV.f (k+1) a0):=by
 intro a0 k;obtain⟨bz,ih1⟩:=dV.dh k;unfold dV.f
 repeat' with_reducible first|exact bz _ _ _ _|exact ih1 _ _ _ _ _ _ _|exact aG.refl _|exact aG.none _|refine aG.ite ?_ ?_|refine aG.bind ?_ (fun _=> ?_)
def dV.T6:Bool×List (List Nat×List Nat):=(true,[([],[]),([],[]),([1],[1]),([0,2],[0,2]),([3],[3]),([4],[4]),([4],[4]),([5,6,4],[4,5,6]),([7,4],[4,7]),([4],[4]),([8,9,4,4],[4,8,9]),([4,10],[4,10])])
def dV.B6:List Nat:=[0,0,2,7,15,31,31,127,255,31,1023,2047]
theorem dV.uO:j7 .any (vO Try.f41 6)=dV.T6:=by kernel_rfl
theorem dV.uD:qD dV.T6.2 dV.B6=true:=by kernel_rfl
theorem dV.calls(k:Nat)(A0:Option Addr)(c0:Nat)(l0:List (X))(r:List (X))(w:World)(hr0:Kd.C ag w A0 l0.length l0)(hc0:l0.length≤c0)(h:dV.f k l0=some r):
 Calls sX 41 #[.slice A0 l0.length c0] w fun e w'=>∃n3:Value,e= .returned (n3)∧Kd.R ag 38 w' w.heap.size (fun _=>True) n3 r∧Below w.heap.size w w':=by
 have lM:=aap;have fg:=Ah hr0;have rU:=Ah hc0;clear hr0 hc0;have HB:=Ah (gR w.heap.size w);have H:(dV.l0 k ([]:List (X)) l0 (l0.length:Int) 0)=some r:=h;clear h;have H':=Ah H;clear H
 go_enter Try.func41,Try.ntmps41
 go_wp2
 go_loopg [3,10] k (fun kq v3 v10 w'=>∃ (d9:List (X)) (bG:Int),v10= .int .i64 bG∧Y (dV.l0 kq d9 l0 (l0.length:Int) bG=some r)∧Y (kq≤k)∧Y (Kd.R ag 38 w' w.heap.size (fun _=>True) v3 d9)∧Y (Below w.heap.size w w'))
 case atStart=>exact⟨(([]:List (X))),(0),e3,H',⟨eH _⟩,⟨by first|exact Kd.dG _ _ _ _ _|exact Kd.dY _ _ _ _ _|exact Kd.dZ _ _ _ _ _|exact Kd.dW _ _ _ _ _|exact Kd.dX _ _ _ _ _⟩,⟨bs HB⟩⟩
 case round=>
  clear H';obtain⟨d9,bG,rfl,HA,dC,ck,HB⟩:=hrel
  cases gk with
  |zero=>exact absurd HA.out (by simp[dV.l0])
  |succ k1=>
   have H:=HA.out;clear HA;simp only[dV.l0]at H
   by_cases c2:bG<(l0.length:Int)
   rotate_left
   ·
    rw[if_neg c2]at H;have sG:=f7 c2;clear c2;obtain rfl:=Ok H
    go_wp2
    go_ret
    exact⟨_,er,by(with_reducible repeat(first|apply Kd.al|apply Kd.ak|apply Kd.aY));exact ck.out,bs HB⟩
   rw[if_pos c2]at H;have sG:=bS c2;clear c2
   by_cases c3:0≤bG
   rotate_left
   ·
    rw[if_neg c3]at H;exact absurd H (by simp)
   rw[if_pos c3]at H;have iZ:=bS c3;clear c3
   by_cases c4:bG<(l0.length:Int)
   rotate_left
   ·
    rw[if_neg c4]at H;exact absurd H (by simp)
   rw[if_pos c4]at H;have ky:=bS c4;clear c4;have H':=Ah H;clear H;have RV:0≤(bG:Int):=od;have RW:bG<(l0.length:Int):=od;obtain⟨ad128,e128,UT,UU⟩:=eA fg.out bG RV RW
   cases e128
   replace UT:=hq HB UT;replace UU:=hq HB UU;replace RV:=eq_true RV;replace RW:=eq_true RW
   go_wp2_with (first|((with_reducible refine am (N:=5) rfl ?_);refine ar 5 38 #[.int .i64 0,.int .i64 0] ?_;intro kV hg w5 gA hb;replace ck:=Ah (Kd.bW (Kd.iq (rr ck.out) kV (Nat.le_of_eq hg.symm)) hb);have GW129:=gw hg (bs HB);have pH:=gw hg (bs HB);replace HB:=Ah (aK (bs HB) hb);clear hb hg;obtain⟨B4,B5⟩:=da gA;obtain⟨D7,B7⟩:=db gA))
   go_loopg [6] k1 (fun kq v6 w'=>∃ (an:Int),v6= .int .i64 an∧Y (dV.l1 kq d9 an l0 (l0.length:Int) bG ((aC l0 bG).f0) ((aC l0 bG).f1)=some r)∧Y (kq≤k1)∧Y (Kd.R ag 38 w' w.heap.size (fun k_=>k_≠kV) u3 d9)∧Y (w'.heap[kV]?=some (.cells #[.int .i64 ((aC l0 bG).f0),.int .i64 ((aC l0 bG).f1)] 38 (0,0)))∧Y (Below w.heap.size w w'))
   case atStart=>exact⟨(0),e3,H',⟨eH _⟩,⟨by(with_reducible repeat(first|apply Kd.al|apply Kd.ak|apply Kd.aY));exact Kd.aE (Kd.I (p:=⟨kV,1,none⟩) (Kd.I (p:=⟨kV,0,none⟩) (Kd.aE ck.out (fun k_ hk=>(⟨hk,hk.2⟩:_∧k_≠kV))) (fun _ hk=>hk.2) (.int .i64 ((aC l0 bG).f0))) (fun _ hk=>hk.2) (.int .i64 ((aC l0 bG).f1))) (fun _ hk=>hk.1.2)⟩,⟨by exact pb gA⟩,⟨aQ HB pH⟩⟩
   case round=>
    clear H'
    try clear p1
    try clear q1
    try clear hx1
    try clear c2
    try clear sG
    try clear p2
    try clear c3
    try clear iZ
    try clear c4
    try clear ky
    try clear B4 B5
    try clear D7 B7
    try clear UT
    try clear UU
    try clear RV
    try clear RW
    obtain⟨an,rfl,HA,dF,ck,gA,HB⟩:=hrel
    cases gk with
    |zero=>exact absurd HA.out (by simp[dV.l1])
    |succ k2=>
     have H:=HA.out;clear HA;simp only[dV.l1]at H
     by_cases c7:an<(d9.length:Int)
     rotate_left
     ·
      rw[if_neg c7]at H;have tJ:=f7 c7;clear c7
      by_cases hP:0≤an
      rotate_left
      ·
       rw[if_neg hP]at H;exact absurd H (by simp)
      rw[if_pos hP]at H;have sy:=eq_true hP;have G9:=bS hP;clear hP
      by_cases c31:an≤(d9.length:Int)
      rotate_left
      ·
       rw[if_neg c31]at H;exact absurd H (by simp)
      rw[if_pos c31]at H;have vR:=eq_true c31;have c31b1:=bS c31;clear c31;obtain⟨qU,K0⟩:∃y_:List (X),y_=(d9.take (an:Int).toNat):=⟨_,rfl⟩
      replace H:(if([]:List (X)).length+qU.length<8796093022208 then((some (([]:List (X))++qU:List (X))).bind fun y153=>(if y153.length<8796093022208 then((some (y153++[(⟨((aC l0 bG).f0),((aC l0 bG).f1)⟩:X)]:List (X))).bind fun qV=>((some (d9.drop (an:Int).toNat:List (X))).bind fun y159=>(if qV.length+y159.length<8796093022208 then(dV.l0 k2 (qV++y159) l0 (l0.length:Int) (wrap64 (bG+1)))else(none))))else(none)))else(none))=some r:=by first|(rw[K0];with_reducible exact H)|(have ai:=(Option.bind_some _ _).symm.trans H;rw[K0];with_reducible exact ai)|(have ai:=(Option.bind_some _ _).symm.trans H;with_reducible exact ai)|with_reducible exact H|(rw[K0];exact H)|exact H
      have K4:=Ah K0;clear K0
      by_cases c32:([]:List (X)).length+qU.length<8796093022208
      rotate_left
      ·
       rw[if_neg c32]at H;exact absurd H (by simp)
      rw[if_pos c32]at H;have LMc32:=Ah c32;clear c32;obtain⟨y153,hy153⟩:∃y_:List (X),y_=(([]:List (X))++qU):=⟨_,rfl⟩
      replace H:(if y153.length<8796093022208 then((some (y153++[(⟨((aC l0 bG).f0),((aC l0 bG).f1)⟩:X)]:List (X))).bind fun qV=>((some (d9.drop (an:Int).toNat:List (X))).bind fun y159=>(if qV.length+y159.length<8796093022208 then(dV.l0 k2 (qV++y159) l0 (l0.length:Int) (wrap64 (bG+1)))else(none))))else(none))=some r:=by first|(rw[hy153];with_reducible exact H)|(have ai:=(Option.bind_some _ _).symm.trans H;rw[hy153];with_reducible exact ai)|(have ai:=(Option.bind_some _ _).symm.trans H;with_reducible exact ai)|with_reducible exact H|(rw[hy153];exact H)|exact H
      have Ny153:=Ah hy153;clear hy153
      by_cases oC:y153.length<8796093022208
      rotate_left
      ·
       rw[if_neg oC]at H;exact absurd H (by simp)
      rw[if_pos oC]at H;have K5:=Ah oC;clear oC;obtain⟨qV,K6⟩:∃y_:List (X),y_=(y153++[(⟨((aC l0 bG).f0),((aC l0 bG).f1)⟩:X)]):=⟨_,rfl⟩
      replace H:((some (d9.drop (an:Int).toNat:List (X))).bind fun y159=>(if qV.length+y159.length<8796093022208 then(dV.l0 k2 (qV++y159) l0 (l0.length:Int) (wrap64 (bG+1)))else(none)))=some r:=by first|(rw[K6];with_reducible exact H)|(have ai:=(Option.bind_some _ _).symm.trans H;rw[K6];with_reducible exact ai)|(have ai:=(Option.bind_some _ _).symm.trans H;with_reducible exact ai)|with_reducible exact H|(rw[K6];exact H)|exact H
      have Ny156:=Ah K6;clear K6;have c34b0:=eq_true (od:0≤an);have c35b0:=eq_true (od:an≤(d9.length:Int));obtain⟨y159,hy159⟩:∃y_:List (X),y_=(d9.drop (an:Int).toNat):=⟨_,rfl⟩
      replace H:(if qV.length+y159.length<8796093022208 then(dV.l0 k2 (qV++y159) l0 (l0.length:Int) (Ee (bG+1)))else(none))=some r:=by first|(rw[hy159];with_reducible exact H)|(have ai:=(N6 _ _).symm.trans H;rw[hy159];with_reducible exact ai)|(have ai:=(N6 _ _).symm.trans H;with_reducible exact ai)|with_reducible exact H|(rw[hy159];exact H)|exact H
      have WX:=Ah hy159;clear hy159
      by_cases yV:qV.length+y159.length<8796093022208
      rotate_left
      ·
       rw[if_neg yV]at H;exact absurd H (by simp)
      rw[if_pos yV]at H;have WY:=Ah yV;clear yV;obtain⟨y163,K7⟩:∃y_:List (X),y_=(qV++y159):=⟨_,rfl⟩
      replace H:(dV.l0 k2 y163 l0 (l0.length:Int) (Ee (bG+1)))=some r:=by first|(rw[K7];with_reducible exact H)|(have ai:=(N6 _ _).symm.trans H;rw[K7];with_reducible exact ai)|(have ai:=(N6 _ _).symm.trans H;with_reducible exact ai)|with_reducible exact H|(rw[K7];exact H)|exact H
      have Ny163:=Ah K7;clear K7;have H':=Ah H;clear H
      try go_wp2
      replace ck:=Ah (Kd.aY ck.out);replace gA:=Ah (bL gA.out);replace HB:=Ah (ln HB.out);obtain⟨oA,mT,Do⟩:=Kd.ax ck.out;(first|subst Do|(injection Do with fd jK fe;have jL:=fd.symm;have jM:=fe.symm;clear fd jK fe;subst jL;subst jM));refine nB (n:=12) (S:=fun w'=>True) (ds:=[]) #[false,false,false,false,false,false,false,false,false,false,false,false] (by kernel_rfl) rfl rfl trivial (fun hHeld=> ?_);refine nK dV.uO dV.uD (fun aD dL=> ?_)
      generalize wr.drew=mK at ck gA HB hHeld⊢
      refine ap 0 14 aD.out ?_;refine ap 1 15 aD.out ?_;refine ap 2 16 aD.out ?_;refine ap 3 17 aD.out ?_;refine ap 4 18 aD.out ?_;refine bx 5 19 aD.out ?_;refine bx 6 20 aD.out ?_;refine bx 7 21 aD.out ?_;refine bx 8 22 aD.out ?_;refine bx 9 23 aD.out ?_;refine bx 10 24 aD.out ?_;refine ap 11 25 aD.out ?_;refine m5 (mO aD.out (by kernel_rfl)) ?_;have Zm:(an:Int)≤((d9.length:Int):Int):=od;obtain⟨i039,hi039,_,hsz39,_⟩:=info_parts mb;have hroom39:d9.length≤mT:=(Kd.ab ck.out).2.1;have hC39:Kd.C ag _ oA d9.length d9:=(Kd.ab ck.out).2.2;have hcut39:=Fu (P:=sX) 23 38 .i64 aau hi039 oA d9.length mT an (od) Zm hroom39;have Y3:=Kd.xw (m:=(an:Int).toNat) hC39 (by omega);have hy39:qU.length=(an:Int).toNat:=(by rw[K4.out,aN];omega);rw[←K4.out]at Y3;rw[←hy39]at hcut39;have K8:=Ah Y3;have HC152:=Ah (show qU.length≤mT from by omega);clear Y3 hC39 hroom39 hi039 hsz39;have KY39:=Ah hy39;clear hy39;have Y4:=Ah (show(an:Int).toNat≤d9.length from by omega);replace Zm:=eq_true Zm
      try go_wp2_with (first|((with_reducible refine iG (b:= .append) (xs:= #[.tmp 28,.tmp 31]) rfl ?_);at_builtin;refine Kd.AL ag (w0:=w) w.heap.size rfl (.tmp 28) (.tmp 31) 23 38 (.agg #[(.int .i64 0),(.int .i64 0)]) 16 rfl aau mb rfl (by decide) (by omega) (.slice none 0 0) ([]:List (X)) qU _ _ _ (fun k_=>some k_≠(.slice oA d9.length mT:Value).ownBlock∧k_≠kV) (fun _=>False) rfl rfl ?aO ?aR (fun _ _ h=>h) (fun _ h=>h.elim) ?aF ?aB ?aS ?aL ?_;(case aR=>repeat(first|exact(by repeat(first|(with_reducible exact K8.out)|(with_reducible refine Kd.qB ?_ _)|(with_reducible refine Kd.qC ?_ _)|(with_reducible refine Kd.qE ?_)|exact K8.out))|(with_reducible refine Kd.qB ?_ _)|(with_reducible refine Kd.qC ?_ _)|(with_reducible refine Kd.qE ?_)));(case aB=>exact(aQ HB pH));(case aF=>exact(fun k_ hk=>⟨Kd.fresh' (Kd.bZ (rr ck.out)) k_ hk,Kd.jr (bk gA) k_ hk⟩));(case aO=>exact((Kd.dG _ _ _ _ (fun k_=>some k_≠(.slice oA d9.length mT:Value).ownBlock∧k_≠kV))));(case aS=>exact(bR (aQ HB pH)));(case aL=>have:=LMc32.out;omega);intro v154 CP ho hb hg hat;rw[←Ny153.out]at ho;replace gA:=Ah (cC (bk gA) hg (by simp[Value.ownBlock]));replace HB:=Ah (hb);replace K8:=Ah ((show Kd.C ag CP oA qU.length qU from by rw[K4.out];exact Kd.xw (m:=(an:Int).toNat) ((Kd.ab (Kd.n9 (Kd.Ns (rr ck.out)) hg hat)).2.2) Y4.out));replace ck:=Ah (Kd.n9 (Kd.Ns (rr ck.out)) hg hat);have WZ:=Ah (ho);clear ho hb hg hat;obtain⟨Fb,Fc⟩:=da gA;obtain⟨Fd,Fe⟩:=db gA)|((with_reducible refine iG (b:= .append) (xs:= #[.tmp 33,.tmp 35]) rfl ?_);at_builtin;refine Kd.jp ag (w0:=w) w.heap.size rfl (.tmp 33) (.tmp 35) 23 38 (.agg #[(.int .i64 0),(.int .i64 0)]) 16 rfl aau mb rfl (by decide) (by omega) v154 y153 (⟨((aC l0 bG).f0),((aC l0 bG).f1)⟩:X) [.int .i64 ((aC l0 bG).f0),.int .i64 ((aC l0 bG).f1)] (fun k_=>some k_≠(.slice oA d9.length mT:Value).ownBlock∧k_≠kV) (fun _=>False) rfl rfl ?aP (fun _ hk=>hk.elim) ?aF ?aO ?aB ?aS ?aL ?_;(case aP=>exact nA _ _ _ (⟨((aC l0 bG).f0),((aC l0 bG).f1)⟩:X));(case aB=>exact(aQ HB pH));(case aF=>exact(fun k_ hk=>⟨Kd.fresh' (Kd.bZ (rr ck.out)) k_ hk,Kd.jr (bk gA) k_ hk⟩));(case aO=>exact(rr WZ.out));(case aS=>exact(bR (aQ HB pH)));(case aL=>have:=K5.out;omega);intro v157 SS ho hb hg hat;rw[←Ny156.out]at ho;replace gA:=Ah (cC (bk gA) hg (Kd.jq WZ.out (fun _ hk=>hk.2)));replace HB:=Ah (hb);replace K8:=Ah ((show Kd.C ag SS oA qU.length qU from by rw[K4.out];exact Kd.xw (m:=(an:Int).toNat) ((Kd.ab (Kd.n9 (ok:=(fun k_=>k_≠kV)) (rr ck.out) hg hat)).2.2) Y4.out));replace ck:=Ah (Kd.n9 (ok:=(fun k_=>k_≠kV)) (rr ck.out) hg hat);have Wa:=Ah (ho);clear WZ;clear ho hb hg hat;have Zn:(an:Int)≤((d9.length:Int):Int):=od;obtain⟨i043,hi043,_,hsz43,_⟩:=info_parts mb;have UV:d9.length≤mT:=(Kd.ab ck.out).2.1;have hC43:Kd.C ag _ oA d9.length d9:=(Kd.ab ck.out).2.2;have q043:(0:Int)≤(an:Int):=od;have hcut43:=cut_from (P:=sX) 23 38 .i64 aau hi043 2 hsz43 oA d9.length mT an q043 Zn;have M4:=Kd.QF (m:=(an:Int).toNat) (c:=mT) hC43 (by omega) UV;obtain⟨A43,RX⟩:∃A1,A1=(if mT=(an:Int).toNat then oA else(oA:Option Addr).map (·.add ((an:Int).toNat*2))):=⟨_,rfl⟩;obtain⟨sV,Y5⟩:∃c1,c1=mT-(an:Int).toNat:=⟨_,rfl⟩;have RY:y159.length=d9.length-(an:Int).toNat:=(by rw[WX.out,fM]<;>omega);rw[show(d9).drop (an:Int).toNat=y159 from WX.out.symm]at M4;replace M4:Kd.C ag _ A43 y159.length y159:=(by rw[RX];exact M4);rw[←RY,←RX,←Y5]at hcut43;have Wb:=Ah M4;have HC162:=Ah (show y159.length≤sV from by rw[RY,Y5];exact Nat.sub_le_sub_right UV _);clear M4 hC43 UV hi043 hsz43 Y5;have KY43:=Ah RY;have KA43:=Ah RX;clear RY RX;have KL43:=Ah (show(an:Int).toNat≤d9.length from by omega);replace Zn:=eq_true Zn)|((with_reducible refine iG (b:= .append) (xs:= #[.tmp 37,.tmp 40]) rfl ?_);at_builtin;refine Kd.AL ag (w0:=w) w.heap.size rfl (.tmp 37) (.tmp 40) 23 38 (.agg #[(.int .i64 0),(.int .i64 0)]) 16 rfl aau mb rfl (by decide) (by omega) v157 qV y159 _ _ _ (fun k_=>some k_≠(.slice oA d9.length mT:Value).ownBlock∧k_≠kV) (fun _=>False) rfl rfl ?aO ?aR (fun _ _ h=>h) (fun _ h=>h.elim) ?aF ?aB ?aS ?aL ?_;(case aR=>repeat(first|exact(by repeat(first|(with_reducible exact Wb.out)|(with_reducible refine Kd.qB ?_ _)|(with_reducible refine Kd.qC ?_ _)|(with_reducible refine Kd.qE ?_)|exact Wb.out))|(with_reducible refine Kd.qB ?_ _)|(with_reducible refine Kd.qC ?_ _)|(with_reducible refine Kd.qE ?_)));(case aB=>exact(aQ HB pH));(case aF=>exact(fun k_ hk=>⟨Kd.fresh' (Kd.bZ (rr ck.out)) k_ hk,Kd.jr (bk gA) k_ hk⟩));(case aO=>exact(rr Wa.out));(case aS=>exact(bR (aQ HB pH)));(case aL=>have:=WY.out;omega);intro v164 NM ho hb hg hat;rw[←Ny163.out]at ho;replace gA:=Ah (cC (bk gA) hg (Kd.jq Wa.out (fun _ hk=>hk.2)));replace HB:=Ah (hb);replace K8:=Ah ((show Kd.C ag NM oA qU.length qU from by rw[K4.out];exact Kd.xw (m:=(an:Int).toNat) ((Kd.ab (Kd.n9 (ok:=(fun k_=>k_≠kV)) (rr ck.out) hg hat)).2.2) Y4.out));replace Wb:=Ah ((show Kd.C ag NM A43 y159.length y159 from by rw[WX.out,KA43.out];exact Kd.QF (m:=(an:Int).toNat) (c:=mT) ((Kd.ab (Kd.n9 (ok:=(fun k_=>k_≠kV)) (rr ck.out) hg hat)).2.2) KL43.out ((Kd.ab (Kd.n9 (ok:=(fun k_=>k_≠kV)) (rr ck.out) hg hat)).2.1)));replace ck:=Ah (Kd.n9 (ok:=(fun k_=>k_≠kV)) (rr ck.out) hg hat);have HO165:=Ah (ho);clear Wa;clear ho hb hg hat))
      go_roundg k2
      case measure=>have:=dC.out;have:=dF.out;omega
      case rel=>exact⟨(y163),(Ee (bG+1)),e3,H',⟨by have:=dC.out;have:=dF.out;omega⟩,rm HO165 (fun _ hk=>trivial),⟨aQ HB pH⟩⟩
     rw[if_pos c7]at H;have tJ:=bS c7;clear c7
     by_cases c8:0≤an
     rotate_left
     ·
      rw[if_neg c8]at H;exact absurd H (by simp)
     rw[if_pos c8]at H;have qW:=bS c8;clear c8;replace H:=Hc.mp H;obtain⟨t131,CW,H⟩:=H
     try dsimp only at H
     have A9:=Ah CW;clear CW
     by_cases c10:t131=true
     ·
      subst c10;rw[if_pos rfl]at H;have H':=Ah H;clear H
      try go_wp2
      replace ck:=Ah (Kd.aY ck.out);replace gA:=Ah (bL gA.out);replace HB:=Ah (ln HB.out);obtain⟨fz,g5,Gh⟩:=Kd.ax ck.out;(first|subst Gh|(injection Gh with fd jK fe;have jL:=fd.symm;have jM:=fe.symm;clear fd jK fe;subst jL;subst jM));have Dp:0≤(an:Int):=od;have Dq:an<(d9.length:Int):=od;obtain⟨ny,Y6,Ik,Il⟩:=eA (Kd.ab ck.out).2.2 an Dp Dq
      cases Y6
      replace Dp:=eq_true Dp;replace Dq:=eq_true Dq;refine nB (n:=12) (S:=fun w'=>w'.cell? ⟨kV,0,none⟩=some (.int .i64 ((aC l0 bG).f0))∧w'.cell? ⟨kV,1,none⟩=some (.int .i64 ((aC l0 bG).f1))∧w'.cell? (ny.add ((an).toNat*2))=some (.int .i64 ((aC d9 an).f0))∧w'.cell? ⟨(ny.add ((an).toNat*2)).block,(ny.add ((an).toNat*2)).off+1,none⟩=some (.int .i64 ((aC d9 an).f1))) (ds:=[]) #[false,false,false,false,false,false,false,false,false,false,false,false] (by kernel_rfl) rfl rfl ⟨(aI gA.out 0).trans rfl,(aI gA.out 1).trans rfl,Ik,Il⟩ (fun hHeld=> ?_);refine nK dV.uO dV.uD (fun aD dL=> ?_)
      generalize wr.drew=NT at ck gA HB Ik Il hHeld⊢
      refine ap 0 14 aD.out ?_;refine ap 1 15 aD.out ?_;refine ap 2 16 aD.out ?_;refine ap 3 17 aD.out ?_;refine ap 4 18 aD.out ?_;refine ap 5 19 aD.out ?_;refine ap 6 20 aD.out ?_;refine ap 7 21 aD.out ?_;refine f4 8 22 aD.out dL.out hHeld (hr:=by rintro w' ⟨s0,s1,s2,s3⟩;go_simp;with_reducible rfl) (h:= ?_);refine f4 9 23 aD.out dL.out hHeld (hr:=by rintro w' ⟨s0,s1,s2,s3⟩;go_simp;with_reducible rfl) (h:= ?_);refine i3 (i:=10) (N:=some 24) #[true,true,true,true,true,true,true,true,true,true,true,false] rfl rfl (hG aD.out (by kernel_rfl)) (by decide) (fun K hK=> ?_);refine ir Try.func56 (by kernel_rfl) rfl #[.agg #[.int .i64 ((aC d9 an).f0),.int .i64 ((aC d9 an).f1)],.agg #[.int .i64 ((aC l0 bG).f0),.int .i64 ((aC l0 bG).f1)]] (by rfl) rfl rfl (by(try simp only[List.map_toArray,List.map_cons,List.map_nil]);first|done|rfl|(simp only[List.length_drop,List.length_take];rfl)) ?_
      with_reducible refine(Cj.calls ((aC d9 an).f0) ((aC d9 an).f1) ((aC l0 bG).f0) ((aC l0 bG).f1) true _ A9.out).mono ?_
      rintro e Hg ⟨rfl,hb⟩;have Y7:=(hb.cell (cB _ _ (hHeld.2.2.1))).trans (hHeld.2.2.1);have Y8:=(hb.cell (cB _ _ (hHeld.2.2.2))).trans (hHeld.2.2.2);refine⟨_,rfl, ?_⟩;replace ck:=Ah (Kd.bW (rr ck.out) hb);replace gA:=Ah (bb gA hb);replace HB:=Ah (aK (aQ HB pH) hb);(try clear hb);(try clear hb2);(try clear hk);(try clear hi);refine hK.out _ _ ⟨(aI gA.out 0).trans rfl,(aI gA.out 1).trans rfl,Y7,Y8⟩ (fun hHeld=> ?_);clear hK K;refine nq 24 ?_;refine ap 11 25 aD.out ?_;refine m5 (mO aD.out (by kernel_rfl)) ?_
      try go_wp2
      go_roundg k2
      case measure=>have:=dC.out;have:=dF.out;omega
      case rel=>exact⟨(Ee (an+1)),e3,H',⟨by have:=dC.out;have:=dF.out;omega⟩,⟨rr ck.out⟩,⟨bk gA⟩,⟨aQ HB pH⟩⟩
     replace c10:=Q3.mpr c10;subst c10;rw[if_neg dc]at H;have Qn:=eq_true (od:0≤an)
     by_cases c15:an≤(d9.length:Int)
     rotate_left
     ·
      rw[if_neg c15]at H;exact absurd H (by simp)
     rw[if_pos c15]at H;have DE:=eq_true c15;have c15b1:=bS c15;clear c15;obtain⟨qS,K9⟩:∃y_:List (X),y_=(d9.take (an:Int).toNat):=⟨_,rfl⟩
     replace H:(if([]:List (X)).length+qS.length<8796093022208 then((some (([]:List (X))++qS:List (X))).bind fun vz=>(if vz.length<8796093022208 then((some (vz++[(⟨((aC l0 bG).f0),((aC l0 bG).f1)⟩:X)]:List (X))).bind fun qT=>((some (d9.drop (an:Int).toNat:List (X))).bind fun mS=>(if qT.length+mS.length<8796093022208 then(dV.l0 k2 (qT++mS) l0 (l0.length:Int) (wrap64 (bG+1)))else(none))))else(none)))else(none))=some r:=by first|(rw[K9];with_reducible exact H)|(have ai:=(Option.bind_some _ _).symm.trans H;rw[K9];with_reducible exact ai)|(have ai:=(Option.bind_some _ _).symm.trans H;with_reducible exact ai)|with_reducible exact H|(rw[K9];exact H)|exact H
     have KA:=Ah K9;clear K9
     by_cases c16:([]:List (X)).length+qS.length<8796093022208
     rotate_left
     ·
      rw[if_neg c16]at H;exact absurd H (by simp)
     rw[if_pos c16]at H;have LMc16:=Ah c16;clear c16;obtain⟨vz,KB⟩:∃y_:List (X),y_=(([]:List (X))++qS):=⟨_,rfl⟩
     replace H:(if vz.length<8796093022208 then((some (vz++[(⟨((aC l0 bG).f0),((aC l0 bG).f1)⟩:X)]:List (X))).bind fun qT=>((some (d9.drop (an:Int).toNat:List (X))).bind fun mS=>(if qT.length+mS.length<8796093022208 then(dV.l0 k2 (qT++mS) l0 (l0.length:Int) (wrap64 (bG+1)))else(none))))else(none))=some r:=by first|(rw[KB];with_reducible exact H)|(have ai:=(Option.bind_some _ _).symm.trans H;rw[KB];with_reducible exact ai)|(have ai:=(Option.bind_some _ _).symm.trans H;with_reducible exact ai)|with_reducible exact H|(rw[KB];exact H)|exact H
     have Ny136:=Ah KB;clear KB
     by_cases c17:vz.length<8796093022208
     rotate_left
     ·
      rw[if_neg c17]at H;exact absurd H (by simp)
     rw[if_pos c17]at H;have KC:=Ah c17;clear c17;obtain⟨qT,KD⟩:∃y_:List (X),y_=(vz++[(⟨((aC l0 bG).f0),((aC l0 bG).f1)⟩:X)]):=⟨_,rfl⟩
     replace H:((some (d9.drop (an:Int).toNat:List (X))).bind fun mS=>(if qT.length+mS.length<8796093022208 then(dV.l0 k2 (qT++mS) l0 (l0.length:Int) (wrap64 (bG+1)))else(none)))=some r:=by first|(rw[KD];with_reducible exact H)|(have ai:=(Option.bind_some _ _).symm.trans H;rw[KD];with_reducible exact ai)|(have ai:=(Option.bind_some _ _).symm.trans H;with_reducible exact ai)|with_reducible exact H|(rw[KD];exact H)|exact H
     have Ny139:=Ah KD;clear KD;have KE:=eq_true (od:0≤an);have Wc:=eq_true (od:an≤(d9.length:Int));obtain⟨mS,KF⟩:∃y_:List (X),y_=(d9.drop (an:Int).toNat):=⟨_,rfl⟩
     replace H:(if qT.length+mS.length<8796093022208 then(dV.l0 k2 (qT++mS) l0 (l0.length:Int) (Ee (bG+1)))else(none))=some r:=by first|(rw[KF];with_reducible exact H)|(have ai:=(N6 _ _).symm.trans H;rw[KF];with_reducible exact ai)|(have ai:=(N6 _ _).symm.trans H;with_reducible exact ai)|with_reducible exact H|(rw[KF];exact H)|exact H
     have Wd:=Ah KF;clear KF
     by_cases c20:qT.length+mS.length<8796093022208
     rotate_left
     ·
      rw[if_neg c20]at H;exact absurd H (by simp)
     rw[if_pos c20]at H;have KG:=Ah c20;clear c20;obtain⟨y146,KH⟩:∃y_:List (X),y_=(qT++mS):=⟨_,rfl⟩
     replace H:(dV.l0 k2 y146 l0 (l0.length:Int) (Ee (bG+1)))=some r:=by first|(rw[KH];with_reducible exact H)|(have ai:=(N6 _ _).symm.trans H;rw[KH];with_reducible exact ai)|(have ai:=(N6 _ _).symm.trans H;with_reducible exact ai)|with_reducible exact H|(rw[KH];exact H)|exact H
     have Ny146:=Ah KH;clear KH;have H':=Ah H;clear H
     try go_wp2
     replace ck:=Ah (Kd.aY ck.out);replace gA:=Ah (bL gA.out);replace HB:=Ah (ln HB.out);obtain⟨uQ,mD,Gp⟩:=Kd.ax ck.out;(first|subst Gp|(injection Gp with fd jK fe;have jL:=fd.symm;have jM:=fe.symm;clear fd jK fe;subst jL;subst jM));have Dp:0≤(an:Int):=od;have Dq:an<(d9.length:Int):=od;obtain⟨ny,Y6,Ik,Il⟩:=eA (Kd.ab ck.out).2.2 an Dp Dq
     cases Y6
     replace Dp:=eq_true Dp;replace Dq:=eq_true Dq;refine nB (n:=12) (S:=fun w'=>w'.cell? ⟨kV,0,none⟩=some (.int .i64 ((aC l0 bG).f0))∧w'.cell? ⟨kV,1,none⟩=some (.int .i64 ((aC l0 bG).f1))∧w'.cell? (ny.add ((an).toNat*2))=some (.int .i64 ((aC d9 an).f0))∧w'.cell? ⟨(ny.add ((an).toNat*2)).block,(ny.add ((an).toNat*2)).off+1,none⟩=some (.int .i64 ((aC d9 an).f1))) (ds:=[]) #[false,false,false,false,false,false,false,false,false,false,false,false] (by kernel_rfl) rfl rfl ⟨(aI gA.out 0).trans rfl,(aI gA.out 1).trans rfl,Ik,Il⟩ (fun hHeld=> ?_);refine nK dV.uO dV.uD (fun aD dL=> ?_)
     generalize wr.drew=AH at ck gA HB Ik Il hHeld⊢
     refine ap 0 14 aD.out ?_;refine ap 1 15 aD.out ?_;refine ap 2 16 aD.out ?_;refine ap 3 17 aD.out ?_;refine ap 4 18 aD.out ?_;refine ap 5 19 aD.out ?_;refine ap 6 20 aD.out ?_;refine ap 7 21 aD.out ?_;refine f4 8 22 aD.out dL.out hHeld (hr:=by rintro w' ⟨s0,s1,s2,s3⟩;go_simp;with_reducible rfl) (h:= ?_);refine f4 9 23 aD.out dL.out hHeld (hr:=by rintro w' ⟨s0,s1,s2,s3⟩;go_simp;with_reducible rfl) (h:= ?_);refine i3 (i:=10) (N:=some 24) #[true,true,true,true,true,true,true,true,true,true,true,false] rfl rfl (hG aD.out (by kernel_rfl)) (by decide) (fun K hK=> ?_);refine ir Try.func56 (by kernel_rfl) rfl #[.agg #[.int .i64 ((aC d9 an).f0),.int .i64 ((aC d9 an).f1)],.agg #[.int .i64 ((aC l0 bG).f0),.int .i64 ((aC l0 bG).f1)]] (by rfl) rfl rfl (by(try simp only[List.map_toArray,List.map_cons,List.map_nil]);first|done|rfl|(simp only[List.length_drop,List.length_take];rfl)) ?_
     with_reducible refine(Cj.calls ((aC d9 an).f0) ((aC d9 an).f1) ((aC l0 bG).f0) ((aC l0 bG).f1) false _ A9.out).mono ?_
     rintro e fV ⟨rfl,hb⟩;have Y7:=(hb.cell (cB _ _ (hHeld.2.2.1))).trans (hHeld.2.2.1);have Y8:=(hb.cell (cB _ _ (hHeld.2.2.2))).trans (hHeld.2.2.2);refine⟨_,rfl, ?_⟩;replace ck:=Ah (Kd.bW (rr ck.out) hb);replace gA:=Ah (bb gA hb);replace HB:=Ah (aK (aQ HB pH) hb);(try clear hb);(try clear hb2);(try clear hk);(try clear hi);refine hK.out _ _ ⟨(aI gA.out 0).trans rfl,(aI gA.out 1).trans rfl,Y7,Y8⟩ (fun hHeld=> ?_);clear hK K;refine nq 24 ?_;refine ap 11 25 aD.out ?_;refine m5 (mO aD.out (by kernel_rfl)) ?_;have q24:(an:Int)≤((d9.length:Int):Int):=od;obtain⟨i024,hi024,_,hsz24,_⟩:=info_parts mb;have hroom24:d9.length≤mD:=(Kd.ab ck.out).2.1;have hC24:Kd.C ag _ (some ny) d9.length d9:=(Kd.ab ck.out).2.2;have hcut24:=Fu (P:=sX) 23 38 .i64 aau hi024 (some ny) d9.length mD an (od) q24 hroom24;have Y9:=Kd.xw (m:=(an:Int).toNat) hC24 (by omega);have hy24:qS.length=(an:Int).toNat:=(by rw[KA.out,aN];omega);rw[←KA.out]at Y9;rw[←hy24]at hcut24;have KI:=Ah Y9;have HC135:=Ah (show qS.length≤mD from by omega);clear Y9 hC24 hroom24 hi024 hsz24;have KY24:=Ah hy24;clear hy24;have YA:=Ah (show(an:Int).toNat≤d9.length from by omega);replace q24:=eq_true q24
     try go_wp2_with (first|((with_reducible refine iG (b:= .append) (xs:= #[.tmp 28,.tmp 31]) rfl ?_);at_builtin;refine Kd.AL ag (w0:=w) w.heap.size rfl (.tmp 28) (.tmp 31) 23 38 (.agg #[(.int .i64 0),(.int .i64 0)]) 16 rfl aau mb rfl (by decide) (by omega) (.slice none 0 0) ([]:List (X)) qS _ _ _ (fun k_=>some k_≠(.slice (some ny) d9.length mD:Value).ownBlock∧k_≠kV) (fun _=>False) rfl rfl ?aO ?aR (fun _ _ h=>h) (fun _ h=>h.elim) ?aF ?aB ?aS ?aL ?_;(case aR=>repeat(first|exact(by repeat(first|(with_reducible exact KI.out)|(with_reducible refine Kd.qB ?_ _)|(with_reducible refine Kd.qC ?_ _)|(with_reducible refine Kd.qE ?_)|exact KI.out))|(with_reducible refine Kd.qB ?_ _)|(with_reducible refine Kd.qC ?_ _)|(with_reducible refine Kd.qE ?_)));(case aB=>exact(aQ HB pH));(case aF=>exact(fun k_ hk=>⟨Kd.fresh' (Kd.bZ (rr ck.out)) k_ hk,Kd.jr (bk gA) k_ hk⟩));(case aO=>exact((Kd.dG _ _ _ _ (fun k_=>some k_≠(.slice (some ny) d9.length mD:Value).ownBlock∧k_≠kV))));(case aS=>exact(bR (aQ HB pH)));(case aL=>have:=LMc16.out;omega);intro v137 n4 ho hb hg hat;rw[←Ny136.out]at ho;replace gA:=Ah (cC (bk gA) hg (by simp[Value.ownBlock]));replace HB:=Ah (hb);replace KI:=Ah ((show Kd.C ag n4 (some ny) qS.length qS from by rw[KA.out];exact Kd.xw (m:=(an:Int).toNat) ((Kd.ab (Kd.n9 (Kd.Ns (rr ck.out)) hg hat)).2.2) YA.out));replace ck:=Ah (Kd.n9 (Kd.Ns (rr ck.out)) hg hat);have We:=Ah (ho);clear ho hb hg hat;obtain⟨FC,FD⟩:=da gA;obtain⟨FE,FF⟩:=db gA)|((with_reducible refine iG (b:= .append) (xs:= #[.tmp 33,.tmp 35]) rfl ?_);at_builtin;refine Kd.jp ag (w0:=w) w.heap.size rfl (.tmp 33) (.tmp 35) 23 38 (.agg #[(.int .i64 0),(.int .i64 0)]) 16 rfl aau mb rfl (by decide) (by omega) v137 vz (⟨((aC l0 bG).f0),((aC l0 bG).f1)⟩:X) [.int .i64 ((aC l0 bG).f0),.int .i64 ((aC l0 bG).f1)] (fun k_=>some k_≠(.slice (some ny) d9.length mD:Value).ownBlock∧k_≠kV) (fun _=>False) rfl rfl ?aP (fun _ hk=>hk.elim) ?aF ?aO ?aB ?aS ?aL ?_;(case aP=>exact nA _ _ _ (⟨((aC l0 bG).f0),((aC l0 bG).f1)⟩:X));(case aB=>exact(aQ HB pH));(case aF=>exact(fun k_ hk=>⟨Kd.fresh' (Kd.bZ (rr ck.out)) k_ hk,Kd.jr (bk gA) k_ hk⟩));(case aO=>exact(rr We.out));(case aS=>exact(bR (aQ HB pH)));(case aL=>have:=KC.out;omega);intro v140 yW ho hb hg hat;rw[←Ny139.out]at ho;replace gA:=Ah (cC (bk gA) hg (Kd.jq We.out (fun _ hk=>hk.2)));replace HB:=Ah (hb);replace KI:=Ah ((show Kd.C ag yW (some ny) qS.length qS from by rw[KA.out];exact Kd.xw (m:=(an:Int).toNat) ((Kd.ab (Kd.n9 (ok:=(fun k_=>k_≠kV)) (rr ck.out) hg hat)).2.2) YA.out));replace ck:=Ah (Kd.n9 (ok:=(fun k_=>k_≠kV)) (rr ck.out) hg hat);have Wf:=Ah (ho);clear We;clear ho hb hg hat;have Zo:(an:Int)≤((d9.length:Int):Int):=od;obtain⟨i028,hi028,_,hsz28,_⟩:=info_parts mb;have UW:d9.length≤mD:=(Kd.ab ck.out).2.1;have hC28:Kd.C ag _ (some ny) d9.length d9:=(Kd.ab ck.out).2.2;have q028:(0:Int)≤(an:Int):=od;have hcut28:=cut_from (P:=sX) 23 38 .i64 aau hi028 2 hsz28 (some ny) d9.length mD an q028 Zo;have M5:=Kd.QF (m:=(an:Int).toNat) (c:=mD) hC28 (by omega) UW;obtain⟨NU,RZ⟩:∃A1,A1=(if mD=(an:Int).toNat then(some ny)else((some ny):Option Addr).map (·.add ((an:Int).toNat*2))):=⟨_,rfl⟩;obtain⟨c28,hc28⟩:∃c1,c1=mD-(an:Int).toNat:=⟨_,rfl⟩;have hy28:mS.length=d9.length-(an:Int).toNat:=(by rw[Wd.out,fM]<;>omega);rw[show(d9).drop (an:Int).toNat=mS from Wd.out.symm]at M5;replace M5:Kd.C ag _ NU mS.length mS:=(by rw[RZ];exact M5);rw[←hy28,←RZ,←hc28]at hcut28;have Wg:=Ah M5;have HC145:=Ah (show mS.length≤c28 from by rw[hy28,hc28];exact Nat.sub_le_sub_right UW _);clear M5 hC28 UW hi028 hsz28 hc28;have KY28:=Ah hy28;have KA28:=Ah RZ;clear hy28 RZ;have KL28:=Ah (show(an:Int).toNat≤d9.length from by omega);replace Zo:=eq_true Zo)|((with_reducible refine iG (b:= .append) (xs:= #[.tmp 37,.tmp 40]) rfl ?_);at_builtin;refine Kd.AL ag (w0:=w) w.heap.size rfl (.tmp 37) (.tmp 40) 23 38 (.agg #[(.int .i64 0),(.int .i64 0)]) 16 rfl aau mb rfl (by decide) (by omega) v140 qT mS _ _ _ (fun k_=>some k_≠(.slice (some ny) d9.length mD:Value).ownBlock∧k_≠kV) (fun _=>False) rfl rfl ?aO ?aR (fun _ _ h=>h) (fun _ h=>h.elim) ?aF ?aB ?aS ?aL ?_;(case aR=>repeat(first|exact(by repeat(first|(with_reducible exact Wg.out)|(with_reducible refine Kd.qB ?_ _)|(with_reducible refine Kd.qC ?_ _)|(with_reducible refine Kd.qE ?_)|exact Wg.out))|(with_reducible refine Kd.qB ?_ _)|(with_reducible refine Kd.qC ?_ _)|(with_reducible refine Kd.qE ?_)));(case aB=>exact(aQ HB pH));(case aF=>exact(fun k_ hk=>⟨Kd.fresh' (Kd.bZ (rr ck.out)) k_ hk,Kd.jr (bk gA) k_ hk⟩));(case aO=>exact(rr Wf.out));(case aS=>exact(bR (aQ HB pH)));(case aL=>have:=KG.out;omega);intro v147 NV ho hb hg hat;rw[←Ny146.out]at ho;replace gA:=Ah (cC (bk gA) hg (Kd.jq Wf.out (fun _ hk=>hk.2)));replace HB:=Ah (hb);replace KI:=Ah ((show Kd.C ag NV (some ny) qS.length qS from by rw[KA.out];exact Kd.xw (m:=(an:Int).toNat) ((Kd.ab (Kd.n9 (ok:=(fun k_=>k_≠kV)) (rr ck.out) hg hat)).2.2) YA.out));replace Wg:=Ah ((show Kd.C ag NV NU mS.length mS from by rw[Wd.out,KA28.out];exact Kd.QF (m:=(an:Int).toNat) (c:=mD) ((Kd.ab (Kd.n9 (ok:=(fun k_=>k_≠kV)) (rr ck.out) hg hat)).2.2) KL28.out ((Kd.ab (Kd.n9 (ok:=(fun k_=>k_≠kV)) (rr ck.out) hg hat)).2.1)));replace ck:=Ah (Kd.n9 (ok:=(fun k_=>k_≠kV)) (rr ck.out) hg hat);have HO148:=Ah (ho);clear Wf;clear ho hb hg hat))
     go_roundg k2
     case measure=>have:=dC.out;have:=dF.out;omega
     case rel=>exact⟨(y146),(Ee (bG+1)),e3,H',⟨by have:=dC.out;have:=dF.out;omega⟩,rm HO148 (fun _ hk=>trivial),⟨aQ HB pH⟩⟩
def iH.l0:Nat→List (X)→Int→List (X)→Int→Int→Option (Bool)
 |0,_,_,_,_,_=>none
 |k+1,x0,x1,x7,x8,x9=>if x9<x8 then(if 0≤x9 then(if x9<(x7.length:Int)then(if((aC x7 x9).f0)<0 then(some false)else(if((aC x7 x9).f1)<1 then(some false)else(if((aC x7 x9).f1)>x1 then(some false)else(if((aC x7 x9).f0)>(Ee (x1-((aC x7 x9).f1)))then(some false)else(if x9>0 then(if 0≤(Ee (x9-1))then(if(Ee (x9-1))<(x0.length:Int)then(if(Ee (((aC x0 (Ee (x9-1))).f0)+((aC x0 (Ee (x9-1))).f1)))≥ ((aC x7 x9).f0)then(some false)else(iH.l0 k x0 x1 x7 x8 (Ee (x9+1))))else(none))else(none))else(iH.l0 k x0 x1 x7 x8 (Ee (x9+1))))))))else(none))else(none))else((n8.f x1 1 400).bind fun YB=>(if YB=true then(some (decide ((x0.length:Int)≤60)))else(some false)))
def iH.f(k:Nat)(l0:List (X))(a1:Int):Option (Bool):=iH.l0 k l0 a1 l0 (l0.length:Int) 0
theorem iH.dh:∀k,(∀y0 y1 y2 y3 y4,aG (iH.l0 k y0 y1 y2 y3 y4) (iH.l0 (k+1) y0 y1 y2 y3 y4))
 |0=>fun _ _ _ _ _ r h=>by simp[iH.l0]at h
 |k+1=>by
  have bz:=iH.dh k
  ·
   intro y0 y1 y2 y3 y4;unfold iH.l0
   repeat' with_reducible first|exact bz _ _ _ _ _|exact aG.refl _|exact aG.none _|refine aG.ite ?_ ?_|refine aG.bind ?_ (fun _=> ?_)
theorem iH.mono:∀a0 a1 k,aG (iH.f k a0 a1) (iH.f (k+1) a0 a1):=by
 intro a0 a1 k;have bz:=iH.dh k;unfold iH.f
 repeat' with_reducible first|exact bz _ _ _ _ _|exact aG.refl _|exact aG.none _|refine aG.ite ?_ ?_|refine aG.bind ?_ (fun _=> ?_)
theorem iH.calls(k:Nat)(A0:Option Addr)(c0:Nat)(l0:List (X))(a1:Int)(r:Bool)(w:World)(hr0:Kd.C ag w A0 l0.length l0)(hc0:l0.length≤c0)(h:iH.f k l0 a1=some r):
 Calls sX 42 #[.slice A0 l0.length c0,.int .i64 a1] w fun e w'=>e= .returned (.bool r)∧Below w.heap.size w w':=by
 have lM:=aap;have fg:=Ah hr0;have rU:=Ah hc0;clear hr0 hc0;have HB:=Ah (gR w.heap.size w);have H:(iH.l0 k l0 a1 l0 (l0.length:Int) 0)=some r:=h;clear h;have H':=Ah H;clear H
 go_enter Try.func42,Try.ntmps42
 go_wp2
 repeat(go_quiet (fail);try go_wp2)
 go_loopg [9] k (fun kq v9 w'=>∃ (bV:Int),v9= .int .i64 bV∧Y (iH.l0 kq l0 a1 l0 (l0.length:Int) bV=some r)∧Y (kq≤k)∧Y (Below w.heap.size w w'))
 case atStart=>exact⟨(0),e3,H',⟨eH _⟩,⟨bs HB⟩⟩
 case round=>
  clear H'
  try clear p2
  obtain⟨bV,rfl,HA,dC,HB⟩:=hrel
  cases gk with
  |zero=>exact absurd HA.out (by simp[iH.l0])
  |succ k1=>
   have H:=HA.out;clear HA;simp only[iH.l0]at H
   by_cases c3:bV<(l0.length:Int)
   rotate_left
   ·
    rw[if_neg c3]at H;have iZ:=f7 c3;clear c3;replace H:=Hc.mp H;obtain⟨YB,A290,H⟩:=H
    try dsimp only at H
    have Hh:=Ah A290;clear A290
    by_cases hP:YB=true
    ·
     subst hP;rw[if_pos rfl]at H;obtain rfl:=Ok H
     go_wp2_with (first|(go_at_call 40;(with_reducible refine(n8.calls a1 1 400 true _ Hh.out).mono ?_);rintro e w' ⟨rfl,⟨nd,rfl⟩⟩;(try first|exact⟨rfl,_,aaa _ _ _⟩|exact⟨rfl,_,Eq.trans (aaa _ _ _) (congrArg (aaC _) (aaB _ _ _))⟩)))
     repeat(go_quiet (first|(go_at_call 40;(with_reducible refine(n8.calls a1 1 400 true _ Hh.out).mono ?_);rintro e w' ⟨rfl,⟨nd,rfl⟩⟩;(try first|exact⟨rfl,_,aaa _ _ _⟩|exact⟨rfl,_,Eq.trans (aaa _ _ _) (congrArg (aaC _) (aaB _ _ _))⟩)));try go_wp2_with (first|(go_at_call 40;(with_reducible refine(n8.calls a1 1 400 true _ Hh.out).mono ?_);rintro e w' ⟨rfl,⟨nd,rfl⟩⟩;(try first|exact⟨rfl,_,aaa _ _ _⟩|exact⟨rfl,_,Eq.trans (aaa _ _ _) (congrArg (aaC _) (aaB _ _ _))⟩))))
     go_ret
     exact⟨er,bs HB⟩
    replace hP:=Q3.mpr hP;subst hP;rw[if_neg dc]at H;obtain rfl:=Ok H
    go_wp2_with (first|(go_at_call 40;(with_reducible refine(n8.calls a1 1 400 false _ Hh.out).mono ?_);rintro e w' ⟨rfl,⟨nd,rfl⟩⟩;(try first|exact⟨rfl,_,aaa _ _ _⟩|exact⟨rfl,_,Eq.trans (aaa _ _ _) (congrArg (aaC _) (aaB _ _ _))⟩)))
    repeat(go_quiet (first|(go_at_call 40;(with_reducible refine(n8.calls a1 1 400 false _ Hh.out).mono ?_);rintro e w' ⟨rfl,⟨nd,rfl⟩⟩;(try first|exact⟨rfl,_,aaa _ _ _⟩|exact⟨rfl,_,Eq.trans (aaa _ _ _) (congrArg (aaC _) (aaB _ _ _))⟩)));try go_wp2_with (first|(go_at_call 40;(with_reducible refine(n8.calls a1 1 400 false _ Hh.out).mono ?_);rintro e w' ⟨rfl,⟨nd,rfl⟩⟩;(try first|exact⟨rfl,_,aaa _ _ _⟩|exact⟨rfl,_,Eq.trans (aaa _ _ _) (congrArg (aaC _) (aaB _ _ _))⟩))))
    go_ret
    exact⟨er,bs HB⟩
   rw[if_pos c3]at H;have iZ:=bS c3;clear c3
   by_cases c4:0≤bV
   rotate_left
   ·
    rw[if_neg c4]at H;exact absurd H (by simp)
   rw[if_pos c4]at H;have ky:=bS c4;clear c4
   by_cases c5:bV<(l0.length:Int)
   rotate_left
   ·
    rw[if_neg c5]at H;exact absurd H (by simp)
   rw[if_pos c5]at H;have o9:=bS c5;clear c5
   by_cases c6:((aC l0 bV).f0)<0
   ·
    rw[if_pos c6]at H;have zn:=bS c6;clear c6;obtain rfl:=Ok H;have lc:0≤(bV:Int):=od;have ld:bV<(l0.length:Int):=od;obtain⟨hY,e166,nh,ni⟩:=eA fg.out bV lc ld
    cases e166
    replace nh:=hq HB nh;replace ni:=hq HB ni;replace lc:=eq_true lc;replace ld:=eq_true ld
    go_wp2_with (first|((with_reducible refine am (N:=6) rfl ?_);(try(refine dl (by rfl) ?_;dsimp only));refine ar 6 38 #[.int .i64 0,.int .i64 0] ?_;intro bT hg w7 ec hb;have gu:=gw hg (bs HB);have lY:=gw hg (bs HB);replace HB:=Ah (aK (bs HB) hb);clear hb hg;obtain⟨sv,sw⟩:=da ec;obtain⟨u7,sx⟩:=db ec))
    repeat(go_quiet (first|((with_reducible refine am (N:=6) rfl ?_);(try(refine dl (by rfl) ?_;dsimp only));refine ar 6 38 #[.int .i64 0,.int .i64 0] ?_;intro bT hg w7 ec hb;have gu:=gw hg (bs HB);have lY:=gw hg (bs HB);replace HB:=Ah (aK (bs HB) hb);clear hb hg;obtain⟨sv,sw⟩:=da ec;obtain⟨u7,sx⟩:=db ec));try go_wp2_with (first|((with_reducible refine am (N:=6) rfl ?_);(try(refine dl (by rfl) ?_;dsimp only));refine ar 6 38 #[.int .i64 0,.int .i64 0] ?_;intro bT hg w7 ec hb;have gu:=gw hg (bs HB);have lY:=gw hg (bs HB);replace HB:=Ah (aK (bs HB) hb);clear hb hg;obtain⟨sv,sw⟩:=da ec;obtain⟨u7,sx⟩:=db ec)))
    go_ret
    exact⟨er,aQ HB lY⟩
   rw[if_neg c6]at H;have zn:=f7 c6;clear c6
   by_cases c9:((aC l0 bV).f1)<1
   ·
    rw[if_pos c9]at H;have pO:=bS c9;clear c9;obtain rfl:=Ok H;have lc:0≤(bV:Int):=od;have ld:bV<(l0.length:Int):=od;obtain⟨hY,e166,nh,ni⟩:=eA fg.out bV lc ld
    cases e166
    replace nh:=hq HB nh;replace ni:=hq HB ni;replace lc:=eq_true lc;replace ld:=eq_true ld
    go_wp2_with (first|((with_reducible refine am (N:=6) rfl ?_);(try(refine dl (by rfl) ?_;dsimp only));refine ar 6 38 #[.int .i64 0,.int .i64 0] ?_;intro bT hg oq ec hb;have gu:=gw hg (bs HB);have lY:=gw hg (bs HB);replace HB:=Ah (aK (bs HB) hb);clear hb hg;obtain⟨qh,qi⟩:=da ec;obtain⟨qj,qk⟩:=db ec))
    repeat(go_quiet (first|((with_reducible refine am (N:=6) rfl ?_);(try(refine dl (by rfl) ?_;dsimp only));refine ar 6 38 #[.int .i64 0,.int .i64 0] ?_;intro bT hg oq ec hb;have gu:=gw hg (bs HB);have lY:=gw hg (bs HB);replace HB:=Ah (aK (bs HB) hb);clear hb hg;obtain⟨qh,qi⟩:=da ec;obtain⟨qj,qk⟩:=db ec));try go_wp2_with (first|((with_reducible refine am (N:=6) rfl ?_);(try(refine dl (by rfl) ?_;dsimp only));refine ar 6 38 #[.int .i64 0,.int .i64 0] ?_;intro bT hg oq ec hb;have gu:=gw hg (bs HB);have lY:=gw hg (bs HB);replace HB:=Ah (aK (bs HB) hb);clear hb hg;obtain⟨qh,qi⟩:=da ec;obtain⟨qj,qk⟩:=db ec)))
    go_ret
    exact⟨er,aQ HB lY⟩
   rw[if_neg c9]at H;have pO:=f7 c9;clear c9
   by_cases c12:((aC l0 bV).f1)>a1
   ·
    rw[if_pos c12]at H;have sB:=bS c12;clear c12;obtain rfl:=Ok H;have lc:0≤(bV:Int):=od;have ld:bV<(l0.length:Int):=od;obtain⟨hY,e166,nh,ni⟩:=eA fg.out bV lc ld
    cases e166
    replace nh:=hq HB nh;replace ni:=hq HB ni;replace lc:=eq_true lc;replace ld:=eq_true ld
    go_wp2_with (first|((with_reducible refine am (N:=6) rfl ?_);(try(refine dl (by rfl) ?_;dsimp only));refine ar 6 38 #[.int .i64 0,.int .i64 0] ?_;intro bT hg Hg ec hb;have gu:=gw hg (bs HB);have lY:=gw hg (bs HB);replace HB:=Ah (aK (bs HB) hb);clear hb hg;obtain⟨yy,yz⟩:=da ec;obtain⟨z6,z7⟩:=db ec))
    repeat(go_quiet (first|((with_reducible refine am (N:=6) rfl ?_);(try(refine dl (by rfl) ?_;dsimp only));refine ar 6 38 #[.int .i64 0,.int .i64 0] ?_;intro bT hg Hg ec hb;have gu:=gw hg (bs HB);have lY:=gw hg (bs HB);replace HB:=Ah (aK (bs HB) hb);clear hb hg;obtain⟨yy,yz⟩:=da ec;obtain⟨z6,z7⟩:=db ec));try go_wp2_with (first|((with_reducible refine am (N:=6) rfl ?_);(try(refine dl (by rfl) ?_;dsimp only));refine ar 6 38 #[.int .i64 0,.int .i64 0] ?_;intro bT hg Hg ec hb;have gu:=gw hg (bs HB);have lY:=gw hg (bs HB);replace HB:=Ah (aK (bs HB) hb);clear hb hg;obtain⟨yy,yz⟩:=da ec;obtain⟨z6,z7⟩:=db ec)))
    go_ret
    exact⟨er,aQ HB lY⟩
   rw[if_neg c12]at H;have sB:=f7 c12;clear c12
   by_cases c15:((aC l0 bV).f0)>(Ee (a1-((aC l0 bV).f1)))
   ·
    rw[if_pos c15]at H;have DE:=bS c15;clear c15;obtain rfl:=Ok H;have lc:0≤(bV:Int):=od;have ld:bV<(l0.length:Int):=od;obtain⟨hY,e166,nh,ni⟩:=eA fg.out bV lc ld
    cases e166
    replace nh:=hq HB nh;replace ni:=hq HB ni;replace lc:=eq_true lc;replace ld:=eq_true ld
    go_wp2_with (first|((with_reducible refine am (N:=6) rfl ?_);(try(refine dl (by rfl) ?_;dsimp only));refine ar 6 38 #[.int .i64 0,.int .i64 0] ?_;intro bT hg w16 ec hb;have gu:=gw hg (bs HB);have lY:=gw hg (bs HB);replace HB:=Ah (aK (bs HB) hb);clear hb hg;obtain⟨qf,sk⟩:=da ec;obtain⟨qg,sl⟩:=db ec))
    repeat(go_quiet (first|((with_reducible refine am (N:=6) rfl ?_);(try(refine dl (by rfl) ?_;dsimp only));refine ar 6 38 #[.int .i64 0,.int .i64 0] ?_;intro bT hg w16 ec hb;have gu:=gw hg (bs HB);have lY:=gw hg (bs HB);replace HB:=Ah (aK (bs HB) hb);clear hb hg;obtain⟨qf,sk⟩:=da ec;obtain⟨qg,sl⟩:=db ec));try go_wp2_with (first|((with_reducible refine am (N:=6) rfl ?_);(try(refine dl (by rfl) ?_;dsimp only));refine ar 6 38 #[.int .i64 0,.int .i64 0] ?_;intro bT hg w16 ec hb;have gu:=gw hg (bs HB);have lY:=gw hg (bs HB);replace HB:=Ah (aK (bs HB) hb);clear hb hg;obtain⟨qf,sk⟩:=da ec;obtain⟨qg,sl⟩:=db ec)))
    go_ret
    exact⟨er,aQ HB lY⟩
   rw[if_neg c15]at H;have DE:=f7 c15;clear c15
   by_cases c18:bV>0
   rotate_left
   ·
    rw[if_neg c18]at H;have KE:=f7 c18;clear c18;have H':=Ah H;clear H;have lc:0≤(bV:Int):=od;have ld:bV<(l0.length:Int):=od;obtain⟨hY,e166,nh,ni⟩:=eA fg.out bV lc ld
    cases e166
    replace nh:=hq HB nh;replace ni:=hq HB ni;replace lc:=eq_true lc;replace ld:=eq_true ld
    go_wp2_with (first|((with_reducible refine am (N:=6) rfl ?_);(try(refine dl (by rfl) ?_;dsimp only));refine ar 6 38 #[.int .i64 0,.int .i64 0] ?_;intro bT hg yW ec hb;have gu:=gw hg (bs HB);have lY:=gw hg (bs HB);replace HB:=Ah (aK (bs HB) hb);clear hb hg;obtain⟨Cx,Ff⟩:=da ec;obtain⟨Cy,Fg⟩:=db ec))
    repeat(go_quiet (first|((with_reducible refine am (N:=6) rfl ?_);(try(refine dl (by rfl) ?_;dsimp only));refine ar 6 38 #[.int .i64 0,.int .i64 0] ?_;intro bT hg yW ec hb;have gu:=gw hg (bs HB);have lY:=gw hg (bs HB);replace HB:=Ah (aK (bs HB) hb);clear hb hg;obtain⟨Cx,Ff⟩:=da ec;obtain⟨Cy,Fg⟩:=db ec));try go_wp2_with (first|((with_reducible refine am (N:=6) rfl ?_);(try(refine dl (by rfl) ?_;dsimp only));refine ar 6 38 #[.int .i64 0,.int .i64 0] ?_;intro bT hg yW ec hb;have gu:=gw hg (bs HB);have lY:=gw hg (bs HB);replace HB:=Ah (aK (bs HB) hb);clear hb hg;obtain⟨Cx,Ff⟩:=da ec;obtain⟨Cy,Fg⟩:=db ec)))
    go_roundg k1
    case measure=>have:=dC.out;omega
    case rel=>exact⟨(Ee (bV+1)),e3,H',⟨by have:=dC.out;omega⟩,⟨aQ HB lY⟩⟩
   rw[if_pos c18]at H;have KE:=bS c18;clear c18;obtain⟨gm,Qo⟩:∃j_:Int,(Ee (bV-1))=j_:=⟨_,rfl⟩
   replace H:(if 0≤(gm)then(if(gm)<(l0.length:Int)then(if(Ee (((aC l0 (gm)).f0)+((aC l0 (gm)).f1)))≥ ((aC l0 bV).f0)then(some false)else(iH.l0 k1 l0 a1 l0 (l0.length:Int) (Ee (bV+1))))else(none))else(none))=some r:=by first|(rw[Qo]at H;exact H)|(simp only[Qo]at H⊢;exact H)
   have hji19w:(IntKind.i64.wrap (bV-1))=gm:=(lr _).trans Qo
   by_cases c20:0≤(gm)
   rotate_left
   ·
    rw[if_neg c20]at H;exact absurd H (by simp)
   rw[if_pos c20]at H;have BJ:=bS c20;clear c20
   by_cases c21:(gm)<(l0.length:Int)
   rotate_left
   ·
    rw[if_neg c21]at H;exact absurd H (by simp)
   rw[if_pos c21]at H;have c21b0:=bS c21;clear c21
   by_cases n5:(Ee (((aC l0 (gm)).f0)+((aC l0 (gm)).f1)))≥ ((aC l0 bV).f0)
   ·
    rw[if_pos n5]at H;have c22b0:=bS n5;clear n5;obtain rfl:=Ok H;have lc:0≤(bV:Int):=od;have ld:bV<(l0.length:Int):=od;obtain⟨hY,e166,nh,ni⟩:=eA fg.out bV lc ld
    cases e166
    replace nh:=hq HB nh;replace ni:=hq HB ni;replace lc:=eq_true lc;replace ld:=eq_true ld
    go_wp2_with (first|((with_reducible refine am (N:=6) rfl ?_);(try(refine dl (by rfl) ?_;dsimp only));refine ar 6 38 #[.int .i64 0,.int .i64 0] ?_;intro bT hg fV ec hb;have gu:=gw hg (bs HB);have lY:=gw hg (bs HB);replace HB:=Ah (aK (bs HB) hb);clear hb hg;obtain⟨Cz,D0⟩:=da ec;obtain⟨D1,D2⟩:=db ec;have mr:0≤((gm):Int):=od;have ms:(gm)<(l0.length:Int):=od;obtain⟨vS,e168,fA,gG⟩:=eA fg.out (gm) mr ms;obtain rfl:hY=vS:=(by injection e168);have gH:hY.block≠bT:=aaf (tU (by have:=cB _ _ fA;first|rwa [bi]at this|exact this) gu.out);have gI:hY.block≠bT:=aaf (tU (by have:=cB _ _ fA;first|rwa [bi]at this|exact this) gu.out);replace fA:=hq HB fA;replace gG:=hq HB gG;replace fA:=(cJ (p:=⟨bT,0,none⟩) (by first|(rw[bi];exact gH)|(show(aat _ _).block≠_;rw[bi];exact gH)|exact gH) (.int .i64 ((aC l0 bV).f0))).trans fA;replace gG:=(cJ (p:=⟨bT,0,none⟩) (by first|(rw[bi];exact gH)|(show(aat _ _).block≠_;rw[bi];exact gH)|exact gH) (.int .i64 ((aC l0 bV).f0))).trans gG;replace fA:=(cJ (p:=⟨bT,1,none⟩) (by first|(rw[bi];exact gI)|(show(aat _ _).block≠_;rw[bi];exact gI)|exact gI) (.int .i64 ((aC l0 bV).f1))).trans fA;replace gG:=(cJ (p:=⟨bT,1,none⟩) (by first|(rw[bi];exact gI)|(show(aat _ _).block≠_;rw[bi];exact gI)|exact gI) (.int .i64 ((aC l0 bV).f1))).trans gG;(try have Im:=fun(n_:Nat)=>(show((((fV.drewN n_).setCell ⟨bT,0,none⟩ (.int .i64 ((aC l0 bV).f0))).setCell ⟨bT,1,none⟩ (.int .i64 ((aC l0 bV).f1)))).cell? _=some _ from fA));(try have In:=fun(n_:Nat)=>(show((((fV.drewN n_).setCell ⟨bT,0,none⟩ (.int .i64 ((aC l0 bV).f0))).setCell ⟨bT,1,none⟩ (.int .i64 ((aC l0 bV).f1)))).cell? _=some _ from gG));clear gH;clear gI;replace mr:=eq_true mr;replace ms:=eq_true ms;have mt:0≤((gm):Int):=od;have mu:(gm)<(l0.length:Int):=od;obtain⟨vT,e169,fB,gJ⟩:=eA fg.out (gm) mt mu;obtain rfl:hY=vT:=(by injection e169);have gK:hY.block≠bT:=aaf (tU (by have:=cB _ _ fB;first|rwa [bi]at this|exact this) gu.out);have gM:hY.block≠bT:=aaf (tU (by have:=cB _ _ fB;first|rwa [bi]at this|exact this) gu.out);replace fB:=hq HB fB;replace gJ:=hq HB gJ;replace fB:=(cJ (p:=⟨bT,0,none⟩) (by first|(rw[bi];exact gK)|(show(aat _ _).block≠_;rw[bi];exact gK)|exact gK) (.int .i64 ((aC l0 bV).f0))).trans fB;replace gJ:=(cJ (p:=⟨bT,0,none⟩) (by first|(rw[bi];exact gK)|(show(aat _ _).block≠_;rw[bi];exact gK)|exact gK) (.int .i64 ((aC l0 bV).f0))).trans gJ;replace fB:=(cJ (p:=⟨bT,1,none⟩) (by first|(rw[bi];exact gM)|(show(aat _ _).block≠_;rw[bi];exact gM)|exact gM) (.int .i64 ((aC l0 bV).f1))).trans fB;replace gJ:=(cJ (p:=⟨bT,1,none⟩) (by first|(rw[bi];exact gM)|(show(aat _ _).block≠_;rw[bi];exact gM)|exact gM) (.int .i64 ((aC l0 bV).f1))).trans gJ;(try have Io:=fun(n_:Nat)=>(show((((fV.drewN n_).setCell ⟨bT,0,none⟩ (.int .i64 ((aC l0 bV).f0))).setCell ⟨bT,1,none⟩ (.int .i64 ((aC l0 bV).f1)))).cell? _=some _ from fB));(try have Ip:=fun(n_:Nat)=>(show((((fV.drewN n_).setCell ⟨bT,0,none⟩ (.int .i64 ((aC l0 bV).f0))).setCell ⟨bT,1,none⟩ (.int .i64 ((aC l0 bV).f1)))).cell? _=some _ from gJ));clear gK;clear gM;replace mt:=eq_true mt;replace mu:=eq_true mu))
    repeat(go_quiet (first|((with_reducible refine am (N:=6) rfl ?_);(try(refine dl (by rfl) ?_;dsimp only));refine ar 6 38 #[.int .i64 0,.int .i64 0] ?_;intro bT hg fV ec hb;have gu:=gw hg (bs HB);have lY:=gw hg (bs HB);replace HB:=Ah (aK (bs HB) hb);clear hb hg;obtain⟨Cz,D0⟩:=da ec;obtain⟨D1,D2⟩:=db ec;have mr:0≤((gm):Int):=od;have ms:(gm)<(l0.length:Int):=od;obtain⟨vS,e168,fA,gG⟩:=eA fg.out (gm) mr ms;obtain rfl:hY=vS:=(by injection e168);have gH:hY.block≠bT:=aaf (tU (by have:=cB _ _ fA;first|rwa [bi]at this|exact this) gu.out);have gI:hY.block≠bT:=aaf (tU (by have:=cB _ _ fA;first|rwa [bi]at this|exact this) gu.out);replace fA:=hq HB fA;replace gG:=hq HB gG;replace fA:=(cJ (p:=⟨bT,0,none⟩) (by first|(rw[bi];exact gH)|(show(aat _ _).block≠_;rw[bi];exact gH)|exact gH) (.int .i64 ((aC l0 bV).f0))).trans fA;replace gG:=(cJ (p:=⟨bT,0,none⟩) (by first|(rw[bi];exact gH)|(show(aat _ _).block≠_;rw[bi];exact gH)|exact gH) (.int .i64 ((aC l0 bV).f0))).trans gG;replace fA:=(cJ (p:=⟨bT,1,none⟩) (by first|(rw[bi];exact gI)|(show(aat _ _).block≠_;rw[bi];exact gI)|exact gI) (.int .i64 ((aC l0 bV).f1))).trans fA;replace gG:=(cJ (p:=⟨bT,1,none⟩) (by first|(rw[bi];exact gI)|(show(aat _ _).block≠_;rw[bi];exact gI)|exact gI) (.int .i64 ((aC l0 bV).f1))).trans gG;(try have Im:=fun(n_:Nat)=>(show((((fV.drewN n_).setCell ⟨bT,0,none⟩ (.int .i64 ((aC l0 bV).f0))).setCell ⟨bT,1,none⟩ (.int .i64 ((aC l0 bV).f1)))).cell? _=some _ from fA));(try have In:=fun(n_:Nat)=>(show((((fV.drewN n_).setCell ⟨bT,0,none⟩ (.int .i64 ((aC l0 bV).f0))).setCell ⟨bT,1,none⟩ (.int .i64 ((aC l0 bV).f1)))).cell? _=some _ from gG));clear gH;clear gI;replace mr:=eq_true mr;replace ms:=eq_true ms;have mt:0≤((gm):Int):=od;have mu:(gm)<(l0.length:Int):=od;obtain⟨vT,e169,fB,gJ⟩:=eA fg.out (gm) mt mu;obtain rfl:hY=vT:=(by injection e169);have gK:hY.block≠bT:=aaf (tU (by have:=cB _ _ fB;first|rwa [bi]at this|exact this) gu.out);have gM:hY.block≠bT:=aaf (tU (by have:=cB _ _ fB;first|rwa [bi]at this|exact this) gu.out);replace fB:=hq HB fB;replace gJ:=hq HB gJ;replace fB:=(cJ (p:=⟨bT,0,none⟩) (by first|(rw[bi];exact gK)|(show(aat _ _).block≠_;rw[bi];exact gK)|exact gK) (.int .i64 ((aC l0 bV).f0))).trans fB;replace gJ:=(cJ (p:=⟨bT,0,none⟩) (by first|(rw[bi];exact gK)|(show(aat _ _).block≠_;rw[bi];exact gK)|exact gK) (.int .i64 ((aC l0 bV).f0))).trans gJ;replace fB:=(cJ (p:=⟨bT,1,none⟩) (by first|(rw[bi];exact gM)|(show(aat _ _).block≠_;rw[bi];exact gM)|exact gM) (.int .i64 ((aC l0 bV).f1))).trans fB;replace gJ:=(cJ (p:=⟨bT,1,none⟩) (by first|(rw[bi];exact gM)|(show(aat _ _).block≠_;rw[bi];exact gM)|exact gM) (.int .i64 ((aC l0 bV).f1))).trans gJ;(try have Io:=fun(n_:Nat)=>(show((((fV.drewN n_).setCell ⟨bT,0,none⟩ (.int .i64 ((aC l0 bV).f0))).setCell ⟨bT,1,none⟩ (.int .i64 ((aC l0 bV).f1)))).cell? _=some _ from fB));(try have Ip:=fun(n_:Nat)=>(show((((fV.drewN n_).setCell ⟨bT,0,none⟩ (.int .i64 ((aC l0 bV).f0))).setCell ⟨bT,1,none⟩ (.int .i64 ((aC l0 bV).f1)))).cell? _=some _ from gJ));clear gK;clear gM;replace mt:=eq_true mt;replace mu:=eq_true mu));try go_wp2_with (first|((with_reducible refine am (N:=6) rfl ?_);(try(refine dl (by rfl) ?_;dsimp only));refine ar 6 38 #[.int .i64 0,.int .i64 0] ?_;intro bT hg fV ec hb;have gu:=gw hg (bs HB);have lY:=gw hg (bs HB);replace HB:=Ah (aK (bs HB) hb);clear hb hg;obtain⟨Cz,D0⟩:=da ec;obtain⟨D1,D2⟩:=db ec;have mr:0≤((gm):Int):=od;have ms:(gm)<(l0.length:Int):=od;obtain⟨vS,e168,fA,gG⟩:=eA fg.out (gm) mr ms;obtain rfl:hY=vS:=(by injection e168);have gH:hY.block≠bT:=aaf (tU (by have:=cB _ _ fA;first|rwa [bi]at this|exact this) gu.out);have gI:hY.block≠bT:=aaf (tU (by have:=cB _ _ fA;first|rwa [bi]at this|exact this) gu.out);replace fA:=hq HB fA;replace gG:=hq HB gG;replace fA:=(cJ (p:=⟨bT,0,none⟩) (by first|(rw[bi];exact gH)|(show(aat _ _).block≠_;rw[bi];exact gH)|exact gH) (.int .i64 ((aC l0 bV).f0))).trans fA;replace gG:=(cJ (p:=⟨bT,0,none⟩) (by first|(rw[bi];exact gH)|(show(aat _ _).block≠_;rw[bi];exact gH)|exact gH) (.int .i64 ((aC l0 bV).f0))).trans gG;replace fA:=(cJ (p:=⟨bT,1,none⟩) (by first|(rw[bi];exact gI)|(show(aat _ _).block≠_;rw[bi];exact gI)|exact gI) (.int .i64 ((aC l0 bV).f1))).trans fA;replace gG:=(cJ (p:=⟨bT,1,none⟩) (by first|(rw[bi];exact gI)|(show(aat _ _).block≠_;rw[bi];exact gI)|exact gI) (.int .i64 ((aC l0 bV).f1))).trans gG;(try have Im:=fun(n_:Nat)=>(show((((fV.drewN n_).setCell ⟨bT,0,none⟩ (.int .i64 ((aC l0 bV).f0))).setCell ⟨bT,1,none⟩ (.int .i64 ((aC l0 bV).f1)))).cell? _=some _ from fA));(try have In:=fun(n_:Nat)=>(show((((fV.drewN n_).setCell ⟨bT,0,none⟩ (.int .i64 ((aC l0 bV).f0))).setCell ⟨bT,1,none⟩ (.int .i64 ((aC l0 bV).f1)))).cell? _=some _ from gG));clear gH;clear gI;replace mr:=eq_true mr;replace ms:=eq_true ms;have mt:0≤((gm):Int):=od;have mu:(gm)<(l0.length:Int):=od;obtain⟨vT,e169,fB,gJ⟩:=eA fg.out (gm) mt mu;obtain rfl:hY=vT:=(by injection e169);have gK:hY.block≠bT:=aaf (tU (by have:=cB _ _ fB;first|rwa [bi]at this|exact this) gu.out);have gM:hY.block≠bT:=aaf (tU (by have:=cB _ _ fB;first|rwa [bi]at this|exact this) gu.out);replace fB:=hq HB fB;replace gJ:=hq HB gJ;replace fB:=(cJ (p:=⟨bT,0,none⟩) (by first|(rw[bi];exact gK)|(show(aat _ _).block≠_;rw[bi];exact gK)|exact gK) (.int .i64 ((aC l0 bV).f0))).trans fB;replace gJ:=(cJ (p:=⟨bT,0,none⟩) (by first|(rw[bi];exact gK)|(show(aat _ _).block≠_;rw[bi];exact gK)|exact gK) (.int .i64 ((aC l0 bV).f0))).trans gJ;replace fB:=(cJ (p:=⟨bT,1,none⟩) (by first|(rw[bi];exact gM)|(show(aat _ _).block≠_;rw[bi];exact gM)|exact gM) (.int .i64 ((aC l0 bV).f1))).trans fB;replace gJ:=(cJ (p:=⟨bT,1,none⟩) (by first|(rw[bi];exact gM)|(show(aat _ _).block≠_;rw[bi];exact gM)|exact gM) (.int .i64 ((aC l0 bV).f1))).trans gJ;(try have Io:=fun(n_:Nat)=>(show((((fV.drewN n_).setCell ⟨bT,0,none⟩ (.int .i64 ((aC l0 bV).f0))).setCell ⟨bT,1,none⟩ (.int .i64 ((aC l0 bV).f1)))).cell? _=some _ from fB));(try have Ip:=fun(n_:Nat)=>(show((((fV.drewN n_).setCell ⟨bT,0,none⟩ (.int .i64 ((aC l0 bV).f0))).setCell ⟨bT,1,none⟩ (.int .i64 ((aC l0 bV).f1)))).cell? _=some _ from gJ));clear gK;clear gM;replace mt:=eq_true mt;replace mu:=eq_true mu)))
    go_ret
    exact⟨by first|rfl|(simp[rZ,ra]<;>rfl)|(simp only[←Qo];first|rfl|(simp[rZ,ra]<;>rfl))|(simp[*,rZ,ra]<;>rfl),aQ HB lY⟩
   rw[if_neg n5]at H;have c22b0:=f7 n5;clear n5;have H':=Ah H;clear H;have lc:0≤(bV:Int):=od;have ld:bV<(l0.length:Int):=od;obtain⟨hY,e166,nh,ni⟩:=eA fg.out bV lc ld
   cases e166
   replace nh:=hq HB nh;replace ni:=hq HB ni;replace lc:=eq_true lc;replace ld:=eq_true ld
   go_wp2_with (first|((with_reducible refine am (N:=6) rfl ?_);(try(refine dl (by rfl) ?_;dsimp only));refine ar 6 38 #[.int .i64 0,.int .i64 0] ?_;intro bT hg n4 ec hb;have gu:=gw hg (bs HB);have lY:=gw hg (bs HB);replace HB:=Ah (aK (bs HB) hb);clear hb hg;obtain⟨FC,FD⟩:=da ec;obtain⟨FE,FF⟩:=db ec;have mr:0≤((gm):Int):=od;have ms:(gm)<(l0.length:Int):=od;obtain⟨vS,e168,fA,gG⟩:=eA fg.out (gm) mr ms;obtain rfl:hY=vS:=(by injection e168);have gH:hY.block≠bT:=aaf (tU (by have:=cB _ _ fA;first|rwa [bi]at this|exact this) gu.out);have gI:hY.block≠bT:=aaf (tU (by have:=cB _ _ fA;first|rwa [bi]at this|exact this) gu.out);replace fA:=hq HB fA;replace gG:=hq HB gG;replace fA:=(cJ (p:=⟨bT,0,none⟩) (by first|(rw[bi];exact gH)|(show(aat _ _).block≠_;rw[bi];exact gH)|exact gH) (.int .i64 ((aC l0 bV).f0))).trans fA;replace gG:=(cJ (p:=⟨bT,0,none⟩) (by first|(rw[bi];exact gH)|(show(aat _ _).block≠_;rw[bi];exact gH)|exact gH) (.int .i64 ((aC l0 bV).f0))).trans gG;replace fA:=(cJ (p:=⟨bT,1,none⟩) (by first|(rw[bi];exact gI)|(show(aat _ _).block≠_;rw[bi];exact gI)|exact gI) (.int .i64 ((aC l0 bV).f1))).trans fA;replace gG:=(cJ (p:=⟨bT,1,none⟩) (by first|(rw[bi];exact gI)|(show(aat _ _).block≠_;rw[bi];exact gI)|exact gI) (.int .i64 ((aC l0 bV).f1))).trans gG;(try have Im:=fun(n_:Nat)=>(show((((n4.drewN n_).setCell ⟨bT,0,none⟩ (.int .i64 ((aC l0 bV).f0))).setCell ⟨bT,1,none⟩ (.int .i64 ((aC l0 bV).f1)))).cell? _=some _ from fA));(try have In:=fun(n_:Nat)=>(show((((n4.drewN n_).setCell ⟨bT,0,none⟩ (.int .i64 ((aC l0 bV).f0))).setCell ⟨bT,1,none⟩ (.int .i64 ((aC l0 bV).f1)))).cell? _=some _ from gG));clear gH;clear gI;replace mr:=eq_true mr;replace ms:=eq_true ms;have mt:0≤((gm):Int):=od;have mu:(gm)<(l0.length:Int):=od;obtain⟨vT,e169,fB,gJ⟩:=eA fg.out (gm) mt mu;obtain rfl:hY=vT:=(by injection e169);have gK:hY.block≠bT:=aaf (tU (by have:=cB _ _ fB;first|rwa [bi]at this|exact this) gu.out);have gM:hY.block≠bT:=aaf (tU (by have:=cB _ _ fB;first|rwa [bi]at this|exact this) gu.out);replace fB:=hq HB fB;replace gJ:=hq HB gJ;replace fB:=(cJ (p:=⟨bT,0,none⟩) (by first|(rw[bi];exact gK)|(show(aat _ _).block≠_;rw[bi];exact gK)|exact gK) (.int .i64 ((aC l0 bV).f0))).trans fB;replace gJ:=(cJ (p:=⟨bT,0,none⟩) (by first|(rw[bi];exact gK)|(show(aat _ _).block≠_;rw[bi];exact gK)|exact gK) (.int .i64 ((aC l0 bV).f0))).trans gJ;replace fB:=(cJ (p:=⟨bT,1,none⟩) (by first|(rw[bi];exact gM)|(show(aat _ _).block≠_;rw[bi];exact gM)|exact gM) (.int .i64 ((aC l0 bV).f1))).trans fB;replace gJ:=(cJ (p:=⟨bT,1,none⟩) (by first|(rw[bi];exact gM)|(show(aat _ _).block≠_;rw[bi];exact gM)|exact gM) (.int .i64 ((aC l0 bV).f1))).trans gJ;(try have Io:=fun(n_:Nat)=>(show((((n4.drewN n_).setCell ⟨bT,0,none⟩ (.int .i64 ((aC l0 bV).f0))).setCell ⟨bT,1,none⟩ (.int .i64 ((aC l0 bV).f1)))).cell? _=some _ from fB));(try have Ip:=fun(n_:Nat)=>(show((((n4.drewN n_).setCell ⟨bT,0,none⟩ (.int .i64 ((aC l0 bV).f0))).setCell ⟨bT,1,none⟩ (.int .i64 ((aC l0 bV).f1)))).cell? _=some _ from gJ));clear gK;clear gM;replace mt:=eq_true mt;replace mu:=eq_true mu))
   repeat(go_quiet (first|((with_reducible refine am (N:=6) rfl ?_);(try(refine dl (by rfl) ?_;dsimp only));refine ar 6 38 #[.int .i64 0,.int .i64 0] ?_;intro bT hg n4 ec hb;have gu:=gw hg (bs HB);have lY:=gw hg (bs HB);replace HB:=Ah (aK (bs HB) hb);clear hb hg;obtain⟨FC,FD⟩:=da ec;obtain⟨FE,FF⟩:=db ec;have mr:0≤((gm):Int):=od;have ms:(gm)<(l0.length:Int):=od;obtain⟨vS,e168,fA,gG⟩:=eA fg.out (gm) mr ms;obtain rfl:hY=vS:=(by injection e168);have gH:hY.block≠bT:=aaf (tU (by have:=cB _ _ fA;first|rwa [bi]at this|exact this) gu.out);have gI:hY.block≠bT:=aaf (tU (by have:=cB _ _ fA;first|rwa [bi]at this|exact this) gu.out);replace fA:=hq HB fA;replace gG:=hq HB gG;replace fA:=(cJ (p:=⟨bT,0,none⟩) (by first|(rw[bi];exact gH)|(show(aat _ _).block≠_;rw[bi];exact gH)|exact gH) (.int .i64 ((aC l0 bV).f0))).trans fA;replace gG:=(cJ (p:=⟨bT,0,none⟩) (by first|(rw[bi];exact gH)|(show(aat _ _).block≠_;rw[bi];exact gH)|exact gH) (.int .i64 ((aC l0 bV).f0))).trans gG;replace fA:=(cJ (p:=⟨bT,1,none⟩) (by first|(rw[bi];exact gI)|(show(aat _ _).block≠_;rw[bi];exact gI)|exact gI) (.int .i64 ((aC l0 bV).f1))).trans fA;replace gG:=(cJ (p:=⟨bT,1,none⟩) (by first|(rw[bi];exact gI)|(show(aat _ _).block≠_;rw[bi];exact gI)|exact gI) (.int .i64 ((aC l0 bV).f1))).trans gG;(try have Im:=fun(n_:Nat)=>(show((((n4.drewN n_).setCell ⟨bT,0,none⟩ (.int .i64 ((aC l0 bV).f0))).setCell ⟨bT,1,none⟩ (.int .i64 ((aC l0 bV).f1)))).cell? _=some _ from fA));(try have In:=fun(n_:Nat)=>(show((((n4.drewN n_).setCell ⟨bT,0,none⟩ (.int .i64 ((aC l0 bV).f0))).setCell ⟨bT,1,none⟩ (.int .i64 ((aC l0 bV).f1)))).cell? _=some _ from gG));clear gH;clear gI;replace mr:=eq_true mr;replace ms:=eq_true ms;have mt:0≤((gm):Int):=od;have mu:(gm)<(l0.length:Int):=od;obtain⟨vT,e169,fB,gJ⟩:=eA fg.out (gm) mt mu;obtain rfl:hY=vT:=(by injection e169);have gK:hY.block≠bT:=aaf (tU (by have:=cB _ _ fB;first|rwa [bi]at this|exact this) gu.out);have gM:hY.block≠bT:=aaf (tU (by have:=cB _ _ fB;first|rwa [bi]at this|exact this) gu.out);replace fB:=hq HB fB;replace gJ:=hq HB gJ;replace fB:=(cJ (p:=⟨bT,0,none⟩) (by first|(rw[bi];exact gK)|(show(aat _ _).block≠_;rw[bi];exact gK)|exact gK) (.int .i64 ((aC l0 bV).f0))).trans fB;replace gJ:=(cJ (p:=⟨bT,0,none⟩) (by first|(rw[bi];exact gK)|(show(aat _ _).block≠_;rw[bi];exact gK)|exact gK) (.int .i64 ((aC l0 bV).f0))).trans gJ;replace fB:=(cJ (p:=⟨bT,1,none⟩) (by first|(rw[bi];exact gM)|(show(aat _ _).block≠_;rw[bi];exact gM)|exact gM) (.int .i64 ((aC l0 bV).f1))).trans fB;replace gJ:=(cJ (p:=⟨bT,1,none⟩) (by first|(rw[bi];exact gM)|(show(aat _ _).block≠_;rw[bi];exact gM)|exact gM) (.int .i64 ((aC l0 bV).f1))).trans gJ;(try have Io:=fun(n_:Nat)=>(show((((n4.drewN n_).setCell ⟨bT,0,none⟩ (.int .i64 ((aC l0 bV).f0))).setCell ⟨bT,1,none⟩ (.int .i64 ((aC l0 bV).f1)))).cell? _=some _ from fB));(try have Ip:=fun(n_:Nat)=>(show((((n4.drewN n_).setCell ⟨bT,0,none⟩ (.int .i64 ((aC l0 bV).f0))).setCell ⟨bT,1,none⟩ (.int .i64 ((aC l0 bV).f1)))).cell? _=some _ from gJ));clear gK;clear gM;replace mt:=eq_true mt;replace mu:=eq_true mu));try go_wp2_with (first|((with_reducible refine am (N:=6) rfl ?_);(try(refine dl (by rfl) ?_;dsimp only));refine ar 6 38 #[.int .i64 0,.int .i64 0] ?_;intro bT hg n4 ec hb;have gu:=gw hg (bs HB);have lY:=gw hg (bs HB);replace HB:=Ah (aK (bs HB) hb);clear hb hg;obtain⟨FC,FD⟩:=da ec;obtain⟨FE,FF⟩:=db ec;have mr:0≤((gm):Int):=od;have ms:(gm)<(l0.length:Int):=od;obtain⟨vS,e168,fA,gG⟩:=eA fg.out (gm) mr ms;obtain rfl:hY=vS:=(by injection e168);have gH:hY.block≠bT:=aaf (tU (by have:=cB _ _ fA;first|rwa [bi]at this|exact this) gu.out);have gI:hY.block≠bT:=aaf (tU (by have:=cB _ _ fA;first|rwa [bi]at this|exact this) gu.out);replace fA:=hq HB fA;replace gG:=hq HB gG;replace fA:=(cJ (p:=⟨bT,0,none⟩) (by first|(rw[bi];exact gH)|(show(aat _ _).block≠_;rw[bi];exact gH)|exact gH) (.int .i64 ((aC l0 bV).f0))).trans fA;replace gG:=(cJ (p:=⟨bT,0,none⟩) (by first|(rw[bi];exact gH)|(show(aat _ _).block≠_;rw[bi];exact gH)|exact gH) (.int .i64 ((aC l0 bV).f0))).trans gG;replace fA:=(cJ (p:=⟨bT,1,none⟩) (by first|(rw[bi];exact gI)|(show(aat _ _).block≠_;rw[bi];exact gI)|exact gI) (.int .i64 ((aC l0 bV).f1))).trans fA;replace gG:=(cJ (p:=⟨bT,1,none⟩) (by first|(rw[bi];exact gI)|(show(aat _ _).block≠_;rw[bi];exact gI)|exact gI) (.int .i64 ((aC l0 bV).f1))).trans gG;(try have Im:=fun(n_:Nat)=>(show((((n4.drewN n_).setCell ⟨bT,0,none⟩ (.int .i64 ((aC l0 bV).f0))).setCell ⟨bT,1,none⟩ (.int .i64 ((aC l0 bV).f1)))).cell? _=some _ from fA));(try have In:=fun(n_:Nat)=>(show((((n4.drewN n_).setCell ⟨bT,0,none⟩ (.int .i64 ((aC l0 bV).f0))).setCell ⟨bT,1,none⟩ (.int .i64 ((aC l0 bV).f1)))).cell? _=some _ from gG));clear gH;clear gI;replace mr:=eq_true mr;replace ms:=eq_true ms;have mt:0≤((gm):Int):=od;have mu:(gm)<(l0.length:Int):=od;obtain⟨vT,e169,fB,gJ⟩:=eA fg.out (gm) mt mu;obtain rfl:hY=vT:=(by injection e169);have gK:hY.block≠bT:=aaf (tU (by have:=cB _ _ fB;first|rwa [bi]at this|exact this) gu.out);have gM:hY.block≠bT:=aaf (tU (by have:=cB _ _ fB;first|rwa [bi]at this|exact this) gu.out);replace fB:=hq HB fB;replace gJ:=hq HB gJ;replace fB:=(cJ (p:=⟨bT,0,none⟩) (by first|(rw[bi];exact gK)|(show(aat _ _).block≠_;rw[bi];exact gK)|exact gK) (.int .i64 ((aC l0 bV).f0))).trans fB;replace gJ:=(cJ (p:=⟨bT,0,none⟩) (by first|(rw[bi];exact gK)|(show(aat _ _).block≠_;rw[bi];exact gK)|exact gK) (.int .i64 ((aC l0 bV).f0))).trans gJ;replace fB:=(cJ (p:=⟨bT,1,none⟩) (by first|(rw[bi];exact gM)|(show(aat _ _).block≠_;rw[bi];exact gM)|exact gM) (.int .i64 ((aC l0 bV).f1))).trans fB;replace gJ:=(cJ (p:=⟨bT,1,none⟩) (by first|(rw[bi];exact gM)|(show(aat _ _).block≠_;rw[bi];exact gM)|exact gM) (.int .i64 ((aC l0 bV).f1))).trans gJ;(try have Io:=fun(n_:Nat)=>(show((((n4.drewN n_).setCell ⟨bT,0,none⟩ (.int .i64 ((aC l0 bV).f0))).setCell ⟨bT,1,none⟩ (.int .i64 ((aC l0 bV).f1)))).cell? _=some _ from fB));(try have Ip:=fun(n_:Nat)=>(show((((n4.drewN n_).setCell ⟨bT,0,none⟩ (.int .i64 ((aC l0 bV).f0))).setCell ⟨bT,1,none⟩ (.int .i64 ((aC l0 bV).f1)))).cell? _=some _ from gJ));clear gK;clear gM;replace mt:=eq_true mt;replace mu:=eq_true mu)))
   go_roundg k1
   case measure=>have:=dC.out;omega
   case rel=>exact⟨(Ee (bV+1)),e3,H',⟨by have:=dC.out;omega⟩,⟨aQ HB lY⟩⟩
def jN.l0:Nat→List (X)→List (X)→Int→Int→Option (Bool)
 |0,_,_,_,_=>none
 |k+1,x0,x1,nW,gD=>if gD<nW then(if 0≤gD then(if gD<(x0.length:Int)then(if gD<(x1.length:Int)then(if(!(((aC x0 gD).f0)==((aC x1 gD).f0))||(!(((aC x0 gD).f1)==((aC x1 gD).f1))))=true then(some false)else(jN.l0 k x0 x1 nW (Ee (gD+1))))else(none))else(none))else(none))else(some true)
def jN.f(k:Nat)(l0:List (X))(l1:List (X)):Option (Bool):=if(l0.length:Int)=(l1.length:Int)then(jN.l0 k l0 l1 (l0.length:Int) 0)else(some false)
theorem jN.dh:∀k,(∀y0 y1 y2 y3,aG (jN.l0 k y0 y1 y2 y3) (jN.l0 (k+1) y0 y1 y2 y3))
 |0=>fun _ _ _ _ r h=>by simp[jN.l0]at h
 |k+1=>by
  have bz:=jN.dh k
  ·
   intro y0 y1 y2 y3;unfold jN.l0
   repeat' with_reducible first|exact bz _ _ _ _|exact aG.refl _|exact aG.none _|refine aG.ite ?_ ?_|refine aG.bind ?_ (fun _=> ?_)
theorem jN.mono:∀a0 a1 k,aG (jN.f k a0 a1) (jN.f (k+1) a0 a1):=by
 intro a0 a1 k;have bz:=jN.dh k;unfold jN.f
 repeat' with_reducible first|exact bz _ _ _ _|exact aG.refl _|exact aG.none _|refine aG.ite ?_ ?_|refine aG.bind ?_ (fun _=> ?_)
theorem jN.calls(k:Nat)(A0:Option Addr)(c0:Nat)(l0:List (X))(A1:Option Addr)(c1:Nat)(l1:List (X))(r:Bool)(w:World)(hr0:Kd.C ag w A0 l0.length l0)(hc0:l0.length≤c0)(hr1:Kd.C ag w A1 l1.length l1)(hc1:l1.length≤c1)(h:jN.f k l0 l1=some r):
 Calls sX 43 #[.slice A0 l0.length c0,.slice A1 l1.length c1] w fun e w'=>e= .returned (.bool r)∧dD w w':=by
 have lM:=aap;have fg:=Ah hr0;have rU:=Ah hc0;clear hr0 hc0;have HR1:=Ah hr1;have rV:=Ah hc1;clear hr1 hc1;have H:(if(l0.length:Int)=(l1.length:Int)then(jN.l0 k l0 l1 (l0.length:Int) 0)else(some false))=some r:=h;clear h
 by_cases c3:(l0.length:Int)=(l1.length:Int)
 rotate_left
 ·
  rw[if_neg c3]at H;have iZ:=jI c3;have tM:=jJ c3
  have Bu:(l0.length==l1.length)=false:=by first|simpa using c3|(simp at c3⊢;omega)
  obtain rfl:=Ok H
  go_enter Try.func43,Try.ntmps43
  go_wp2
  repeat(go_quiet (fail);try go_wp2)
  go_ret
  exact⟨e3,by repeat(first|exact dD.refl _|apply dD.step)⟩
 rw[if_pos c3]at H;have iZ:=jm c3;have tM:=jn c3
 have Bu:(l0.length==l1.length)=true:=by first|simpa using c3|(simp at c3⊢;omega)
 clear c3;have H':=Ah H;clear H
 go_enter Try.func43,Try.ntmps43
 go_wp2
 repeat(go_quiet (fail);try go_wp2)
 go_loopg [13] k (fun kq v13 w'=>∃ (bY:Int),v13= .int .i64 bY∧Y (jN.l0 kq l0 l1 (l0.length:Int) bY=some r)∧Y (kq≤k)∧dD w w')
 case atStart=>exact⟨(0),e3,H',⟨eH _⟩,by repeat(first|exact dD.refl _|apply dD.step)⟩
 case round=>
  clear H'
  try clear c1
  try clear p2
  try clear c3
  try clear iZ
  try clear tM
  try clear Bu
  obtain⟨bY,rfl,HA,dC,⟨m1,rfl⟩⟩:=hrel
  cases gk with
  |zero=>exact absurd HA.out (by simp[jN.l0])
  |succ k1=>
   have H:=HA.out;clear HA;simp only[jN.l0]at H
   by_cases c4:bY<(l0.length:Int)
   rotate_left
   ·
    rw[if_neg c4]at H;have ky:=f7 c4;clear c4;obtain rfl:=Ok H
    go_wp2
    repeat(go_quiet (fail);try go_wp2)
    go_ret
    exact⟨e3,by repeat(first|exact dD.refl _|apply dD.step)⟩
   rw[if_pos c4]at H;have ky:=bS c4;clear c4
   by_cases c5:0≤bY
   rotate_left
   ·
    rw[if_neg c5]at H;exact absurd H (by simp)
   rw[if_pos c5]at H;have o9:=bS c5;clear c5
   by_cases c6:bY<(l0.length:Int)
   rotate_left
   ·
    rw[if_neg c6]at H;exact absurd H (by simp)
   rw[if_pos c6]at H;have zn:=bS c6;clear c6
   by_cases c7:bY<(l1.length:Int)
   rotate_left
   ·
    rw[if_neg c7]at H;exact absurd H (by simp)
   rw[if_pos c7]at H;have tJ:=bS c7;clear c7
   by_cases c8:(!(((aC l0 bY).f0)==((aC l1 bY).f0))||(!(((aC l0 bY).f1)==((aC l1 bY).f1))))=true
   ·
    rw[if_pos c8]at H;have qW:(!(((aC l0 bY).f0)==((aC l1 bY).f0))||(!(((aC l0 bY).f1)==((aC l1 bY).f1))))=true:=c8;clear c8;obtain rfl:=Ok H;have Dr:0≤(bY:Int):=od;have Ds:bY<(l0.length:Int):=od;obtain⟨ad171,YC,hx171_0,hx171_1⟩:=eA fg.out bY Dr Ds
    cases YC
    replace Dr:=eq_true Dr;replace Ds:=eq_true Ds;have Dt:0≤(bY:Int):=od;have Du:bY<(l1.length:Int):=od;obtain⟨ad172,YD,hx172_0,hx172_1⟩:=eA HR1.out bY Dt Du
    cases YD
    replace Dt:=eq_true Dt;replace Du:=eq_true Du
    go_wp2
    repeat(go_quiet (fail);try go_wp2)
    go_ret
    exact⟨e3,by repeat(first|exact dD.refl _|apply dD.step)⟩
   rw[if_neg c8]at H
   have qW:(!(((aC l0 bY).f0)==((aC l1 bY).f0))||(!(((aC l0 bY).f1)==((aC l1 bY).f1))))=false:=by simpa using c8
   clear c8;have H':=Ah H;clear H;have Dr:0≤(bY:Int):=od;have Ds:bY<(l0.length:Int):=od;obtain⟨ad171,YC,hx171_0,hx171_1⟩:=eA fg.out bY Dr Ds
   cases YC
   replace Dr:=eq_true Dr;replace Ds:=eq_true Ds;have Dt:0≤(bY:Int):=od;have Du:bY<(l1.length:Int):=od;obtain⟨ad172,YD,hx172_0,hx172_1⟩:=eA HR1.out bY Dt Du
   cases YD
   replace Dt:=eq_true Dt;replace Du:=eq_true Du
   go_wp2
   repeat(go_quiet (fail);try go_wp2)
   go_roundg k1
   case measure=>have:=dC.out;omega
   case rel=>exact⟨(Ee (bY+1)),e3,H',⟨by have:=dC.out;omega⟩,by repeat(first|exact dD.refl _|apply dD.step)⟩
def gb.f(k:Nat)(aA:Int)(U:List (X))(aH:List (X)):Option (Bool):=(iH.f k U aA).bind fun M6=>(if M6=true then((dV.f k U).bind fun t175=>((jN.f k t175 aH).bind fun M7=>(some M7)))else(some false))
theorem gb.mono:∀a0 a1 a2 k,aG (gb.f k a0 a1 a2) (gb.f (k+1) a0 a1 a2):=by
 intro a0 a1 a2 k;unfold gb.f
 repeat' with_reducible first|exact dV.mono _ _|exact iH.mono _ _ _|exact jN.mono _ _ _|exact aG.refl _|exact aG.none _|refine aG.ite ?_ ?_|refine aG.bind ?_ (fun _=> ?_)
def gb.T1:Bool×List (List Nat×List Nat):=(true,[([],[]),([0],[0]),([],[]),([2],[2]),([1,3],[1,3]),([4,4],[4]),([5],[5]),([6,5],[5,6]),([7,5,5],[5,7]),([5],[5]),([9,5],[5,9]),([8,10,8,5],[5,8,10]),([5,11],[5,11]),([12,11,0,1,2,3,4,5,6,7,8,9,10,11,12],[12])])
def gb.B1:List Nat:=[0,1,0,4,15,31,63,127,255,63,575,2047,4095,8191]
theorem gb.Gq:j7 .any (vO Try.f23 1)=gb.T1:=by kernel_rfl
theorem gb.GH:qD gb.T1.2 gb.B1=true:=by kernel_rfl
theorem gb.calls(k:Nat)(aA:Int)(bH:Option Addr)(ay:Nat)(U:List (X))(bC:Option Addr)(bD:Nat)(aH:List (X))(r:Bool)(w:World)(fC:Kd.C ag w bH U.length U)(fD:U.length≤ay)(fE:Kd.C ag w bC aH.length aH)(fF:aH.length≤bD)(h:gb.f k aA U aH=some r):
 Calls sX 23 #[.agg #[.int .i64 aA,.slice bH U.length ay,.slice bC aH.length bD]] w fun e w'=>e= .returned (.bool r)∧Below w.heap.size w w':=by
 have o8:=aah;have cx:=Ah fC;have dv:=Ah fD;clear fC fD;have eV:=Ah fE;have eW:=Ah fF;clear fE fF;have HB:=Ah (gR w.heap.size w);have H:((iH.f k U aA).bind fun M6=>(if M6=true then((dV.f k U).bind fun t175=>((jN.f k t175 aH).bind fun M7=>(some M7)))else(some false)))=some r:=h;clear h;replace H:=Hc.mp H;obtain⟨M6,kR,H⟩:=H
 try dsimp only at H
 have A2:=Ah kR;clear kR;have H_:=Ah H;clear H
 go_enter abH,Try.ntmps23
 try go_wp2_with (first|((with_reducible refine am (N:=1) rfl ?_);refine ar 1 25 #[.int .i64 aA,.slice bH U.length ay,.slice bC aH.length bD] ?_;intro Wh hg w6 mP hb;have GW173:=gw hg (bs HB);have GI:=gw hg (bs HB);replace HB:=Ah (aK (bs HB) hb);clear hb hg))
 replace mP:=Ah (bL mP.out);replace HB:=Ah (ln HB.out);refine nB (n:=14) (S:=fun w'=>w'.cell? ⟨Wh,0,none⟩=some (.int .i64 aA)∧w'.cell? ⟨Wh,1,none⟩=some (.slice bH U.length ay)∧w'.cell? ⟨Wh,2,none⟩=some (.slice bC aH.length bD)) (ds:=[]) #[false,false,false,false,false,false,false,false,false,false,false,false,false,false] (by kernel_rfl) rfl rfl ⟨(aI mP.out 0).trans rfl,(aI mP.out 1).trans rfl,(aI mP.out 2).trans rfl⟩ (fun hHeld=> ?_);refine nK gb.Gq gb.GH (fun aD dL=> ?_)
 generalize w6.drew=w7 at mP HB hHeld⊢
 refine ap 0 3 aD.out ?_;refine ap 2 5 aD.out ?_;refine f4 1 4 aD.out dL.out hHeld (hr:=by rintro w' ⟨s0,s1,s2⟩;go_simp;with_reducible rfl) (h:= ?_);refine f4 3 6 aD.out dL.out hHeld (hr:=by rintro w' ⟨s0,s1,s2⟩;go_simp;with_reducible rfl) (h:= ?_);refine i3 (i:=4) (N:=some 7) #[true,true,true,true,true,false,false,false,false,false,false,false,false,false] rfl rfl (hG aD.out (by kernel_rfl)) (by decide) (fun K hK=> ?_);refine ir Try.func42 (by kernel_rfl) rfl #[.slice bH U.length ay,.int .i64 aA] (by rfl) rfl rfl (by(try simp only[List.map_toArray,List.map_cons,List.map_nil]);first|done|rfl|(simp only[List.length_drop,List.length_take];rfl)) ?_;have H:=H_.out;clear H_
 by_cases c3:M6=true
 rotate_left
 ·
  replace c3:=Q3.mpr c3;subst c3;rw[if_neg dc]at H;obtain rfl:=Ok H
  with_reducible refine(iH.calls k _ _ U aA false _ ?aJ ?aM A2.out).mono ?_
  (case aJ=>exact cb cx HB);(case aM=>exact dv.out);rintro e Hg ⟨rfl,hb⟩;refine⟨_,rfl, ?_⟩;replace mP:=Ah (bb mP hb);replace HB:=Ah (aK (aQ HB GI) hb);(try clear hb);(try clear hb2);(try clear hk);(try clear hi);refine hK.out _ _ ⟨(aI mP.out 0).trans rfl,(aI mP.out 1).trans rfl,(aI mP.out 2).trans rfl⟩ (fun hHeld=> ?_);clear hK K;refine nq 7 ?_;refine ap 5 8 aD.out ?_;refine bx 6 9 aD.out ?_;refine bx 7 10 aD.out ?_;refine bx 8 11 aD.out ?_;refine bx 9 12 aD.out ?_;refine bx 10 13 aD.out ?_;refine bx 11 14 aD.out ?_;refine ap 12 15 aD.out ?_;refine ap 13 2 aD.out ?_;refine m5 (mO aD.out (by kernel_rfl)) ?_
  try go_wp2
  go_ret
  exact⟨er,aQ HB GI⟩
 subst c3;rw[if_pos rfl]at H;replace H:=Hc.mp H;obtain⟨t175,fc,H⟩:=H
 try dsimp only at H
 have A4:=Ah fc;clear fc;replace H:=Hc.mp H;obtain⟨M7,lD,H⟩:=H
 try dsimp only at H
 have A5:=Ah lD;clear lD;obtain rfl:=Ok H
 with_reducible refine(iH.calls k _ _ U aA true _ ?aJ ?aM A2.out).mono ?_
 (case aJ=>exact cb cx HB);(case aM=>exact dv.out);rintro e w8 ⟨rfl,hb⟩;refine⟨_,rfl, ?_⟩;replace mP:=Ah (bb mP hb);replace HB:=Ah (aK (aQ HB GI) hb);(try clear hb);(try clear hb2);(try clear hk);(try clear hi);refine hK.out _ _ ⟨(aI mP.out 0).trans rfl,(aI mP.out 1).trans rfl,(aI mP.out 2).trans rfl⟩ (fun hHeld=> ?_);clear hK K;refine nq 7 ?_;refine ap 5 8 aD.out ?_;refine ap 6 9 aD.out ?_;refine ap 9 12 aD.out ?_;refine f4 7 10 aD.out dL.out hHeld (hr:=by rintro w' ⟨s0,s1,s2⟩;go_simp;with_reducible rfl) (h:= ?_);refine f4 10 13 aD.out dL.out hHeld (hr:=by rintro w' ⟨s0,s1,s2⟩;go_simp;with_reducible rfl) (h:= ?_);refine i3 (i:=8) (N:=some 11) #[true,true,true,true,true,true,true,true,true,true,true,false,false,false] rfl rfl (hG aD.out (by kernel_rfl)) (by decide) (fun K hK=> ?_);refine ir Try.func41 (by kernel_rfl) rfl #[.slice bH U.length ay] (by rfl) rfl rfl (by(try simp only[List.map_toArray,List.map_cons,List.map_nil]);first|done|rfl|(simp only[List.length_drop,List.length_take];rfl)) ?_
 with_reducible refine(dV.calls k _ _ U t175 _ ?aJ ?aM A4.out).mono ?_
 (case aJ=>exact cb cx HB);(case aM=>exact dv.out);rintro e w9 ⟨v176,rfl,ho0,hb⟩;refine⟨_,rfl, ?_⟩;have Wi:=Ah (Kd.bq ho0 (bR (aQ HB GI)));replace mP:=Ah (bb mP hb);replace HB:=Ah (aK (aQ HB GI) hb);(try clear hb);(try clear hb2);(try clear hk);(try clear hi);(try clear ho0);obtain⟨dd,de,tH⟩:=Kd.ax Wi.out;(first|subst tH|(injection tH with fd jK fe;have jL:=fd.symm;have jM:=fe.symm;clear fd jK fe;subst jL;subst jM));refine hK.out _ _ ⟨(aI mP.out 0).trans rfl,(aI mP.out 1).trans rfl,(aI mP.out 2).trans rfl⟩ (fun hHeld=> ?_);clear hK K;refine nq 11 ?_;refine i3 (i:=11) (N:=some 14) #[true,true,true,true,true,true,true,true,true,true,true,true,false,false] rfl rfl (hG aD.out (by kernel_rfl)) (by decide) (fun K hK=> ?_);refine ir Try.func43 (by kernel_rfl) rfl #[.slice dd t175.length de,.slice bC aH.length bD] (by rfl) rfl rfl (by(try simp only[ib,aac,aai]);first|done|rfl|(simp only[fM,aN];rfl)) ?_
 with_reducible refine(jN.calls k _ _ t175 _ _ aH M7 _ ?aJ ?aM ?ac ?au A5.out).mono ?_
 (case aJ=>exact df Wi);(case aM=>exact(Kd.ab Wi.out).2.1);(case ac=>exact cb eV HB);(case au=>exact eW.out);rintro e w' ⟨rfl,⟨nd,rfl⟩⟩;refine⟨_,rfl, ?_⟩;refine hK.out _ _ ⟨(aI mP.out 0).trans rfl,(aI mP.out 1).trans rfl,(aI mP.out 2).trans rfl⟩ (fun hHeld=> ?_);clear hK K;refine nq 14 ?_;refine ap 12 15 aD.out ?_;refine ap 13 2 aD.out ?_;refine m5 (mO aD.out (by kernel_rfl)) ?_
 try go_wp2
 go_ret
 exact⟨er,aQ HB GI⟩
def f9.f(k:Nat)(aA:Int)(U:List (X))(aH:List (X))(bl:Int)(bO:List (aV)):Option (Bool):=(gb.f k aA U aH).bind fun M8=>(if M8=true then((cD.f k aA U aH bO).bind fun KJ=>(if KJ.2=true then(some (KJ.1==bl))else(some false)))else(some false))
theorem f9.mono:∀a0 a1 a2 a3 a4 k,aG (f9.f k a0 a1 a2 a3 a4) (f9.f (k+1) a0 a1 a2 a3 a4):=by
 intro a0 a1 a2 a3 a4 k;unfold f9.f
 repeat' with_reducible first|exact gb.mono _ _ _ _|exact cD.mono _ _ _ _ _|exact aG.refl _|exact aG.none _|refine aG.ite ?_ ?_|refine aG.bind ?_ (fun _=> ?_)
theorem f9.calls(k:Nat)(aA:Int)(bH:Option Addr)(ay:Nat)(U:List (X))(bC:Option Addr)(bD:Nat)(aH:List (X))(bl:Int)(em:Option Addr)(en:Nat)(bO:List (aV))(r:Bool)(w:World)(fC:Kd.C ag w bH U.length U)(fD:U.length≤ay)(fE:Kd.C ag w bC aH.length aH)(fF:aH.length≤bD)(mh:Kd.C cV w em bO.length bO)(mi:bO.length≤en)(h:f9.f k aA U aH bl bO=some r):
 Calls sX 9 #[.agg #[.int .i64 aA,.slice bH U.length ay,.slice bC aH.length bD,.int .i64 bl,.slice em bO.length en]] w fun e w'=>e= .returned (.bool r)∧Below w.heap.size w w':=by
 have uP:=Try.underlying28;have o8:=aah;have cx:=Ah fC;have dv:=Ah fD;clear fC fD;have eV:=Ah fE;have eW:=Ah fF;clear fE fF;have ls:=Ah mh;have m8:=Ah mi;clear mh mi;have HB:=Ah (gR w.heap.size w);have H:((gb.f k aA U aH).bind fun M8=>(if M8=true then((cD.f k aA U aH bO).bind fun KJ=>(if KJ.2=true then(some (KJ.1==bl))else(some false)))else(some false)))=some r:=h;clear h;replace H:=Hc.mp H;obtain⟨M8,kR,H⟩:=H
 try dsimp only at H
 have A2:=Ah kR;clear kR
 by_cases c3:M8=true
 rotate_left
 ·
  replace c3:=Q3.mpr c3;subst c3;rw[if_neg dc]at H;obtain rfl:=Ok H
  go_enter aaY,Try.ntmps9
  go_wp2_with (first|((with_reducible refine am (N:=1) rfl ?_);refine ar 1 28 #[.int .i64 aA,.slice bH U.length ay,.slice bC aH.length bD,.int .i64 bl,.slice em bO.length en] ?_;intro gb179 hg Ek mQ hb;have GW179:=gw hg (bs HB);have yA:=gw hg (bs HB);replace HB:=Ah (aK (bs HB) hb);clear hb hg;obtain⟨uy,uz,xi,xj,xk⟩:=ah mQ;obtain⟨vA,vB,xl,xm,xn⟩:=af mQ)|((with_reducible refine bN (f:=23) rfl ?_);refine gL (some 7) rfl rfl abH (by kernel_rfl) rfl #[.agg #[.int .i64 aA,.slice bH U.length ay,.slice bC aH.length bD]] rfl ?_;(with_reducible refine(gb.calls k aA _ _ U _ _ aH false _ ?aJ ?aM ?ac ?au A2.out).mono ?_);(case aJ=>exact cb cx HB);(case aM=>exact dv.out);(case ac=>exact cb eV HB);(case au=>exact eW.out);rintro e NW ⟨rfl,hb⟩;refine⟨_,rfl, ?_⟩;replace mQ:=nb mQ hb;replace HB:=Ah (aK (aQ HB yA) hb);(try clear hb)))
  go_ret
  exact⟨er,aQ HB yA⟩
 subst c3;rw[if_pos rfl]at H;replace H:=Hc.mp H;obtain⟨⟨t181,t182⟩,fc,H⟩:=H
 try dsimp only at H
 have A4:=Ah fc;clear fc
 by_cases c5:t182=true
 rotate_left
 ·
  replace c5:=Q3.mpr c5;subst c5;rw[if_neg dc]at H;obtain rfl:=Ok H
  go_enter aaY,Try.ntmps9
  go_wp2_with (first|((with_reducible refine am (N:=1) rfl ?_);refine ar 1 28 #[.int .i64 aA,.slice bH U.length ay,.slice bC aH.length bD,.int .i64 bl,.slice em bO.length en] ?_;intro gb179 hg yX mQ hb;have GW179:=gw hg (bs HB);have yA:=gw hg (bs HB);replace HB:=Ah (aK (bs HB) hb);clear hb hg;obtain⟨pX,pY,rx,tq,tr⟩:=ah mQ;obtain⟨pZ,pa,ry,tt,tu⟩:=af mQ)|((with_reducible refine bN (f:=23) rfl ?_);refine gL (some 7) rfl rfl abH (by kernel_rfl) rfl #[.agg #[.int .i64 aA,.slice bH U.length ay,.slice bC aH.length bD]] rfl ?_;(with_reducible refine(gb.calls k aA _ _ U _ _ aH true _ ?aJ ?aM ?ac ?au A2.out).mono ?_);(case aJ=>exact cb cx HB);(case aM=>exact dv.out);(case ac=>exact cb eV HB);(case au=>exact eW.out);rintro e HX ⟨rfl,hb⟩;refine⟨_,rfl, ?_⟩;replace mQ:=nb mQ hb;replace HB:=Ah (aK (aQ HB yA) hb);(try clear hb);obtain⟨Aq,Ar,Pl,UX,UY⟩:=ah mQ;obtain⟨As,At,Pm,UZ,Ua⟩:=af mQ)|((with_reducible refine bN (f:=18) rfl ?_);refine gL (some 14) rfl rfl Try.func18 (by kernel_rfl) rfl #[.agg #[.int .i64 aA,.slice bH U.length ay,.slice bC aH.length bD],.slice em bO.length en] rfl ?_;(with_reducible refine(cD.calls k aA _ _ U _ _ aH _ _ bO t181 false _ ?aJ ?aM ?ac ?au ?cI ?cW A4.out).mono ?_);(case aJ=>exact cb cx HB);(case aM=>exact dv.out);(case ac=>exact cb eV HB);(case au=>exact eW.out);(case cI=>exact cb ls HB);(case cW=>exact m8.out);rintro e w16 ⟨rfl,hb⟩;refine⟨_,rfl, ?_⟩;replace mQ:=nb mQ hb;replace HB:=Ah (aK (aQ HB yA) hb);(try clear hb)))
  go_ret
  exact⟨er,aQ HB yA⟩
 subst c5;rw[if_pos rfl]at H;obtain rfl:=Ok H
 go_enter aaY,Try.ntmps9
 go_wp2_with (first|((with_reducible refine am (N:=1) rfl ?_);refine ar 1 28 #[.int .i64 aA,.slice bH U.length ay,.slice bC aH.length bD,.int .i64 bl,.slice em bO.length en] ?_;intro gb179 hg w6 mQ hb;have GW179:=gw hg (bs HB);have yA:=gw hg (bs HB);replace HB:=Ah (aK (bs HB) hb);clear hb hg;obtain⟨pD,pE,uA,QH,QI⟩:=ah mQ;obtain⟨pF,pG,uB,QJ,QK⟩:=af mQ)|((with_reducible refine bN (f:=23) rfl ?_);refine gL (some 7) rfl rfl abH (by kernel_rfl) rfl #[.agg #[.int .i64 aA,.slice bH U.length ay,.slice bC aH.length bD]] rfl ?_;(with_reducible refine(gb.calls k aA _ _ U _ _ aH true _ ?aJ ?aM ?ac ?au A2.out).mono ?_);(case aJ=>exact cb cx HB);(case aM=>exact dv.out);(case ac=>exact cb eV HB);(case au=>exact eW.out);rintro e w8 ⟨rfl,hb⟩;refine⟨_,rfl, ?_⟩;replace mQ:=nb mQ hb;replace HB:=Ah (aK (aQ HB yA) hb);(try clear hb);obtain⟨qp,qq,st,Fz,G0⟩:=ah mQ;obtain⟨sA,qr,su,G1,G2⟩:=af mQ)|((with_reducible refine bN (f:=18) rfl ?_);refine gL (some 14) rfl rfl Try.func18 (by kernel_rfl) rfl #[.agg #[.int .i64 aA,.slice bH U.length ay,.slice bC aH.length bD],.slice em bO.length en] rfl ?_;(with_reducible refine(cD.calls k aA _ _ U _ _ aH _ _ bO t181 true _ ?aJ ?aM ?ac ?au ?cI ?cW A4.out).mono ?_);(case aJ=>exact cb cx HB);(case aM=>exact dv.out);(case ac=>exact cb eV HB);(case au=>exact eW.out);(case cI=>exact cb ls HB);(case cW=>exact m8.out);rintro e oq ⟨rfl,hb⟩;refine⟨_,rfl, ?_⟩;replace mQ:=nb mQ hb;replace HB:=Ah (aK (aQ HB yA) hb);(try clear hb);obtain⟨qh,qi,us,yp,yq⟩:=ah mQ;obtain⟨qj,qk,uv,yu,yv⟩:=af mQ))
 go_ret
 exact⟨er,aQ HB yA⟩
end Go.Proofs.Ytahnkgehlfdlkaa.G
