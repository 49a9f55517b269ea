-- Printed by a program of this session (drive.py, by way of the kit's print). Not trusted: Lean checks it.
import Derived.Test.YtjojdplkgekagaaG0
import Derived.Test.YtjojdplkgekagaaG2
import Derived.Test.YtjojdplkgekagaaG5
open Bool renaming eq_false_iff→dn,not_false→aaz
open Eq renaming trans→aaT
open Go.IntKind renaming i64→abf
open Go.Proofs.Try renaming underlying25→ua,underlying23→aac,prog→aad,underlying28→aaq,underlying65→aay,func11→aa9,underlying56→abk,func22→abA,func23→abG,underlying71→abN
open Go.RowKit renaming wrap64→LS
open Go.RowKit.Below renaming refl→aaa
open Go.World renaming block_lt_of_cell?→LA,drewN_drewN→nL,drewN→aaB
open Int renaming reduceToNat→aa3
open List renaming setIfInBounds_toArray→Ok,length_take→ao,set_cons_zero→bY,set_cons_succ→dl,length_drop→gy,map_toArray→aag,map_cons→aan,map_nil→aas,replicate→aaA
open Nat renaming le_refl→bx,le_of_eq→aaj,add_zero→aal,mul_one→aao,add_assoc→aau,ne_of_lt→aaI,ne_of_gt→aaJ,sub_le_sub_right→aaR
open Option renaming bind_eq_some_iff→LT,bind_some→Mq
open Option.some renaming inj→iz,injEq→j4
open Prod.mk renaming injEq→ub
namespace Go.Proofs.Ytjojdplkgekagaa.G
open Go.RowKit Go.Proofs.YtjojdplkgekagaaW.PrintWords Go.Proofs.YtjojdplkgekagaaW.PrintLast Go.Proofs.YtjojdplkgekagaaW.PrintMore
attribute [local go_sem] um un uu uv ud ue uo uq
set_option linter.unusedVariables false
set_option linter.unusedSimpArgs false
attribute [local go_sem high] eqA65
mutual
def bh.l0:Nat→List Bool→List (a7)→Int→Int→List (a7)→Option (Bool)
 |0,_,_,_,_,_=>none
 |k+1,x3,dd,gU,dA,o8=>if dA<gU then(if 0≤dA then(if dA<(dd.length:Int)then((AT.f ((I dd dA).f0) ((I dd dA).f1) ((I dd dA).f2) ((I dd dA).f3)).bind fun Vd=>(if Vd=true then(if dA>0 then(if 0≤(LS (dA-1))then(if(LS (dA-1))<(o8.length:Int)then(if((I dd dA).f0)<(LS (((I o8 (LS (dA-1))).f0)+((I o8 (LS (dA-1))).f1)))then(bh.j1 k x3 dd gU dA true o8 ((I dd dA).f0) ((I dd dA).f1) ((I dd dA).f2) ((I dd dA).f3))else((ri.f ((I o8 (LS (dA-1))).f0) ((I o8 (LS (dA-1))).f1) ((I o8 (LS (dA-1))).f2) ((I o8 (LS (dA-1))).f3) ((I dd dA).f0) ((I dd dA).f1) ((I dd dA).f2) ((I dd dA).f3)).bind fun Fw=>(bh.j1 k x3 dd gU dA Fw o8 ((I dd dA).f0) ((I dd dA).f1) ((I dd dA).f2) ((I dd dA).f3))))else(none))else(none))else(bh.j1 k x3 dd gU dA false o8 ((I dd dA).f0) ((I dd dA).f1) ((I dd dA).f2) ((I dd dA).f3)))else(some false)))else(none))else(none))else(some true)
def bh.j1:Nat→List Bool→List (a7)→Int→Int→Bool→List (a7)→Int→Int→Int→Bool→Option (Bool)
 |0,_,_,_,_,_,_,_,_,_,_=>none
 |k+1,x3,dd,gU,dA,x54,o8,Ro,MT,BU,Rp=>if x54=true then(some false)else(bh.l1 k x3 dd gU dA MT 0 o8 Ro MT BU Rp)
def bh.l1:Nat→List Bool→List (a7)→Int→Int→Int→Int→List (a7)→Int→Int→Int→Bool→Option (Bool)
 |0,_,_,_,_,_,_,_,_,_,_,_=>none
 |k+1,x3,dd,gU,dA,vl,mM,o8,Ro,MT,BU,Rp=>if mM<vl then(if 0≤(LS (BU+mM))then(if(LS (BU+mM))<(x3.length:Int)then(if rD false x3 (LS (BU+mM))=true then(some false)else(bh.l1 k (x3.set ((LS (BU+mM)):Int).toNat true) dd gU dA vl (LS (mM+1)) o8 Ro MT BU Rp))else(none))else(none))else(bh.l0 k x3 dd gU (LS (dA+1)) o8)
end
def bh.f(k:Nat)(J:List (a7)):Option (Bool):=if(J.length:Int)>40 then(some false)else(if 400≤281474976710656 then(bh.l0 k (aaA 400 false) J (J.length:Int) 0 J)else(none))
theorem bh.dL:∀k,(∀y0 y1 y2 y3 y4,aG (bh.l0 k y0 y1 y2 y3 y4) (bh.l0 (k+1) y0 y1 y2 y3 y4))∧(∀y0 y1 y2 y3 y4 y5 y6 y7 y8 y9,aG (bh.j1 k y0 y1 y2 y3 y4 y5 y6 y7 y8 y9) (bh.j1 (k+1) y0 y1 y2 y3 y4 y5 y6 y7 y8 y9))∧(∀y0 y1 y2 y3 y4 y5 y6 y7 y8 y9 lp,aG (bh.l1 k y0 y1 y2 y3 y4 y5 y6 y7 y8 y9 lp) (bh.l1 (k+1) y0 y1 y2 y3 y4 y5 y6 y7 y8 y9 lp))
 |0=>⟨fun _ _ _ _ _ r h=>by simp[bh.l0]at h,fun _ _ _ _ _ _ _ _ _ _ r h=>by simp[bh.j1]at h,fun _ _ _ _ _ _ _ _ _ _ _ r h=>by simp[bh.l1]at h⟩
 |k+1=>by
  obtain⟨bw,ih1,ih2⟩:=bh.dL k
  refine⟨?_, ?_, ?_⟩<;>intros<;>first|unfold bh.l0|unfold bh.j1|unfold bh.l1
  all_goals repeat' first
   |(with_reducible exact bw _ _ _ _ _)
   |(with_reducible exact ih1 _ _ _ _ _ _ _ _ _ _)
   |(with_reducible exact ih2 _ _ _ _ _ _ _ _ _ _ _)
   |(with_reducible exact aG.refl _)
   |(with_reducible exact aG.none _)
   |(with_reducible refine aG.ite ?_ ?_)
   |(with_reducible refine aG.bind ?_ (fun _=> ?_))
   |exact bw _ _ _ _ _
   |exact ih1 _ _ _ _ _ _ _ _ _ _
   |exact ih2 _ _ _ _ _ _ _ _ _ _ _
   |exact aG.none _
   |refine aG.ite ?_ ?_
   |refine aG.bind ?_ (fun _=> ?_)
theorem bh.mono:∀a0 k,aG (bh.f k a0) (bh.f (k+1) a0):=by
 intro a0 k;obtain⟨bw,ih1,ih2⟩:=bh.dL k;unfold bh.f
 repeat' with_reducible first|exact bw _ _ _ _ _|exact ih1 _ _ _ _ _ _ _ _ _ _|exact ih2 _ _ _ _ _ _ _ _ _ _ _|exact aG.refl _|exact aG.none _|refine aG.ite ?_ ?_|refine aG.bind ?_ (fun _=> ?_)
def bh.T9:Bool×List (List Nat×List Nat):=(true,[([],[]),([0],[0]),([1],[1]),([2],[2]),([3,2],[2,3]),([2],[2]),([5,2],[2,5]),([2],[2]),([7,2],[2,7]),([6,8,2],[2,6,8]),([9,2],[2,9]),([10,2],[2,10]),([2],[2]),([12,2],[2,12]),([2],[2]),([14,2],[2,14]),([13,15,2],[2,13,15]),([16,2],[2,16]),([17,2],[2,17]),([11,18,2],[2,11,18]),([4,19,2],[2,4,19]),([20,2,2],[2,20]),([21],[21]),([22,21],[21,22]),([21],[21]),([24,21],[21,24]),([23,25,21],[21,23,25]),([26,21],[21,26]),([21],[21]),([27,28,21,21],[21,27,28]),([21,29,2],[2,21,29]),([2,30],[2,30])])
def bh.B9:List Nat:=[0,1,3,7,15,7,39,7,135,487,999,2023,7,4103,7,16391,61447,126983,258055,524263,1048575,2097151,4194303,8388607,4194303,20971519,67108863,134217727,4194303,536870911,1073741823,2147483647]
theorem bh.Ve:gH .any (nY Try.f11 9)=bh.T9:=by kernel_rfl
theorem bh.Ti:kx bh.T9.2 bh.B9=true:=by kernel_rfl
set_option maxHeartbeats 8000000 in
set_option maxRecDepth 100000 in
theorem bh.calls(k:Nat)(bS:Option Addr)(bL:Nat)(J:List (a7))(r:Bool)(w:World)(fT:Kd.C b7 w bS J.length J)(fU:J.length≤bL)(h:bh.f k J=some r):
 Calls aad 11 #[.agg #[.slice bS J.length bL]] w fun e w'=>e= .returned (.bool r)∧Below w.heap.size w w':=by
 have kJ:=ua;have mA:=aay;have cY:=Ah fT;have dw:=Ah fU;clear fT fU;have HB:=Ah (aaa w.heap.size w);have H:(if(J.length:Int)>40 then(some false)else(if 400≤281474976710656 then(bh.l0 k (aaA 400 false) J (J.length:Int) 0 J)else(none)))=some r:=h;clear h
 by_cases c2:(J.length:Int)>40
 ·
  rw[if_pos c2]at H;have rO:decide (40<(J.length:Int))=true:=decide_eq_true c2;have DD:decide (40<J.length)=true:=decide_eq_true (by omega);clear c2;obtain rfl:=iz H
  go_enter aa9,Try.ntmps11
  go_wp2_with (first|((with_reducible refine ax (N:=1) rfl ?_);refine bA 1 25 #[.slice bS J.length bL] ?_;intro FE hg w3 ey hb;have GW420:=gw hg (bs HB);have jw:=gw hg (bs HB);replace HB:=Ah (aK (bs HB) hb);clear hb hg;have hcz4_0:=ap ey;have hfz4_0:=an ey))
  go_ret
  exact⟨er,aH HB jw⟩
 rw[if_neg c2]at H;have rO:decide (40<(J.length:Int))=false:=decide_eq_false c2;have DD:decide (40<J.length)=false:=decide_eq_false (by omega);clear c2
 by_cases c5:400≤281474976710656
 rotate_left
 ·
  rw[if_neg c5]at H;exact absurd H (by simp)
 rw[if_pos c5]at H;have oP:=eq_true c5;have c5b1:decide (400≤281474976710656)=true:=decide_eq_true c5;clear c5;obtain⟨a5v,Iy⟩:∃y_:List Bool,y_=(aaA 400 false):=⟨_,rfl⟩
 replace H:(bh.l0 k a5v J (J.length:Int) 0 J)=some r:=by first|(rw[Iy];with_reducible exact H)|(have aX:=(Mq _ _).symm.trans H;rw[Iy];with_reducible exact aX)|(have aX:=(Mq _ _).symm.trans H;with_reducible exact aX)|with_reducible exact H|(rw[Iy];exact H)|exact H
 have a2W:=Ah Iy;clear Iy;have H':=Ah H;clear H
 go_enter aa9,Try.ntmps11
 go_wp2_with (first|((with_reducible refine ax (N:=1) rfl ?_);refine bA 1 25 #[.slice bS J.length bL] ?_;intro FE hg w6 ey hb;have GW420:=gw hg (bs HB);have jw:=gw hg (bs HB);replace HB:=Ah (aK (bs HB) hb);clear hb hg;have qp:=ap ey;have qq:=an ey)|((with_reducible refine ax (N:=11) rfl ?_);refine Kd.Ru Kd.bool _ 4 rfl (N:=11) rfl 66 _ _ rfl 400 rfl rfl Try.underlying66 (.bool false) 1 a0C rfl (by decide) (by omega) false (ok:=fun _=>True) (okp:=fun _=>True) rfl (fun _ hk=>hk) trivial (by omega) (by omega) (aaa _ _) (bx _) ?_;intro Vf w8 LP hb lJ l8;clear lJ l8;(first|rw[←a2W.out]at LP|(simp only[aa3]at LP;rw[←a2W.out]at LP));have HO423:=Ah (Kd.dD LP (be (aH HB jw)));replace ey:=nb ey hb;replace HB:=Ah (aK (aH HB jw) hb);clear hb LP;have pH:=ap ey;have pI:=an ey))
 go_loopg [15] k (fun kq v15 w'=>∃ (ar:List Bool) (aV:Int),v15= .int .i64 aV∧U (bh.l0 kq ar J (J.length:Int) aV J=some r)∧U (kq≤k)∧U (Kd.R Kd.bool 4 w' w.heap.size (fun _=>True) Vf ar)∧U (w'.heap[FE]?=some (.cells #[(.slice bS J.length bL)] 25 (0,0)))∧U (Below w.heap.size w w'))
 case atStart=>exact⟨(a5v),(0),e3,H',⟨bx _⟩,⟨rr HO423.out⟩,⟨bk ey⟩,⟨aH HB jw⟩⟩
 case round=>
  clear H'
  try clear c1
  try clear c2
  try clear rO
  try clear DD
  try clear p2
  try clear c5
  try clear oP
  try clear c5b1
  try clear pH
  try clear hcz4_0
  try clear qp
  try clear pI
  try clear hfz4_0
  try clear qq
  obtain⟨ar,aV,rfl,HA,bU,au,ey,HB⟩:=hrel
  cases gk with
  |zero=>exact absurd HA.out (by simp[bh.l0])
  |succ k1=>
   have H:=HA.out;clear HA;simp only[bh.l0]at H
   by_cases c11:aV<(J.length:Int)
   rotate_left
   ·
    rw[if_neg c11]at H;have xC:decide (aV<(J.length:Int))=false:=decide_eq_false c11;clear c11;obtain rfl:=iz H
    go_wp2
    go_ret
    exact⟨er,aH HB jw⟩
   rw[if_pos c11]at H;have xC:decide (aV<(J.length:Int))=true:=decide_eq_true c11;clear c11
   by_cases c12:0≤aV
   rotate_left
   ·
    rw[if_neg c12]at H;exact absurd H (by simp)
   rw[if_pos c12]at H;have jR:decide (0≤aV)=true:=decide_eq_true c12;clear c12
   by_cases c13:aV<(J.length:Int)
   rotate_left
   ·
    rw[if_neg c13]at H;exact absurd H (by simp)
   rw[if_pos c13]at H;have ww:decide (aV<(J.length:Int))=true:=decide_eq_true c13;clear c13;replace H:=LT.mp H;obtain⟨Vd,zx,H⟩:=H
   try dsimp only at H
   have Dz:=Ah zx;clear zx
   by_cases c15:Vd=true
   rotate_left
   ·
    replace c15:=dn.mpr c15;subst c15;rw[if_neg dV]at H;obtain rfl:=iz H;have DE:0≤(aV:Int):=od;have DF:aV<(J.length:Int):=od;obtain⟨fc,Vg,BV,BW,BX,BY⟩:=f6 cY.out aV DE DF
    cases Vg
    replace BV:=(HB.out.cell (LA w _ BV)).trans BV;replace BW:=(HB.out.cell (LA w _ BW)).trans BW;replace BX:=(HB.out.cell (LA w _ BX)).trans BX;replace BY:=(HB.out.cell (LA w _ BY)).trans BY;replace DE:=eq_true DE;replace DF:=eq_true DF
    go_wp2_with (first|((with_reducible refine ax (N:=5) rfl ?_);refine bA 5 65 #[.int .i64 0,.int .i64 0,.int .i64 0,.bool false] ?_;intro lB hg w49 ef hb;replace au:=nr au hb;have GW425:=gw hg (aH HB jw);have r8:=gw hg (aH HB jw);replace HB:=Ah (aK (aH HB jw) hb);have yK:=nn ey hg;have E9:=nm ey hg;replace ey:=nb ey hb;clear hb hg;have hnb50:=E9.out;have hnc50:=yK.out;obtain⟨hcz51_0,hcz51_1,hcz51_2,hcz51_3⟩:=cA ef;obtain⟨hfz51_0,hfz51_1,hfz51_2,hfz51_3⟩:=cB ef)|((with_reducible refine bJ (f:=30) rfl ?_);refine gL (some 21) rfl rfl Try.func30 (by kernel_rfl) rfl #[.agg #[.int .i64 ((I J aV).f0),.int .i64 ((I J aV).f1),.int .i64 ((I J aV).f2),.bool ((I J aV).f3)]] rfl ?_;(with_reducible refine(AT.calls ((I J aV).f0) ((I J aV).f1) ((I J aV).f2) ((I J aV).f3) false _ Dz.out).mono ?_);rintro e w52 ⟨rfl,hb⟩;refine⟨_,rfl, ?_⟩;replace au:=Ah (Kd.eO (by(with_reducible repeat(first|apply Kd.bG|apply Kd.bE|apply Kd.al));exact(Kd.aY (Kd.aQ (p:=⟨lB,3,none⟩) (Kd.aQ (p:=⟨lB,2,none⟩) (Kd.aQ (p:=⟨lB,1,none⟩) (Kd.aQ (p:=⟨lB,0,none⟩) (Kd.cl au.out ef.out (by decide)) (fun _ hk=>hk.2) (.int .i64 ((I J aV).f0))) (fun _ hk=>hk.2) (.int .i64 ((I J aV).f1))) (fun _ hk=>hk.2) (.int .i64 ((I J aV).f2))) (fun _ hk=>hk.2) (.bool ((I J aV).f3))) (fun _ h_=>h_.1))) hb);replace ey:=Ah (cC (bf ey yK) hb);replace ef:=Ah (cC (g:=lB) (o:= .cells #[.int .i64 ((I J aV).f0),.int .i64 ((I J aV).f1),.int .i64 ((I J aV).f2),.bool ((I J aV).f3)] 65 (0,0)) (by(with_reducible repeat(first|refine aD ?_ _|refine Z ?_|refine aC ?_ _));refine aj (cs:= #[.int .i64 ((I J aV).f0),.int .i64 ((I J aV).f1),.int .i64 ((I J aV).f2),.bool false]) ?_ 3 _ rfl;(with_reducible repeat(first|refine aD ?_ _|refine Z ?_|refine aC ?_ _));refine aj (cs:= #[.int .i64 ((I J aV).f0),.int .i64 ((I J aV).f1),.int .i64 0,.bool false]) ?_ 2 _ rfl;(with_reducible repeat(first|refine aD ?_ _|refine Z ?_|refine aC ?_ _));refine aj (cs:= #[.int .i64 ((I J aV).f0),.int .i64 0,.int .i64 0,.bool false]) ?_ 1 _ rfl;(with_reducible repeat(first|refine aD ?_ _|refine Z ?_|refine aC ?_ _));refine aj (cs:= #[.int .i64 0,.int .i64 0,.int .i64 0,.bool false]) ?_ 0 _ rfl;(with_reducible repeat(first|refine aD ?_ _|refine Z ?_|refine aC ?_ _));exact ef.out) hb);replace HB:=Ah (aK (aW HB jw r8) hb);(try clear hb hk)))
    go_ret
    exact⟨er,aW HB jw r8⟩
   subst c15;rw[if_pos rfl]at H;have Vh:=Ah H;clear H;have DE:0≤(aV:Int):=od;have DF:aV<(J.length:Int):=od;obtain⟨fc,Vg,BV,BW,BX,BY⟩:=f6 cY.out aV DE DF
   cases Vg
   replace BV:=(HB.out.cell (LA w _ BV)).trans BV;replace BW:=(HB.out.cell (LA w _ BW)).trans BW;replace BX:=(HB.out.cell (LA w _ BX)).trans BX;replace BY:=(HB.out.cell (LA w _ BY)).trans BY;replace DE:=eq_true DE;replace DF:=eq_true DF
   go_upto_region 9 with(first|((with_reducible refine ax (N:=5) rfl ?_);refine bA 5 65 #[.int .i64 0,.int .i64 0,.int .i64 0,.bool false] ?_;intro lB hg xz ef hb;replace au:=nr au hb;have GW425:=gw hg (aH HB jw);have r8:=gw hg (aH HB jw);replace HB:=Ah (aK (aH HB jw) hb);have yK:=nn ey hg;have E9:=nm ey hg;replace ey:=nb ey hb;clear hb hg;have NV:=E9.out;have NW:=yK.out;obtain⟨yl,RK,RL,RM⟩:=cA ef;obtain⟨ym,RN,RO,RP⟩:=cB ef)|((with_reducible refine bJ (f:=30) rfl ?_);refine gL (some 21) rfl rfl Try.func30 (by kernel_rfl) rfl #[.agg #[.int .i64 ((I J aV).f0),.int .i64 ((I J aV).f1),.int .i64 ((I J aV).f2),.bool ((I J aV).f3)]] rfl ?_;(with_reducible refine(AT.calls ((I J aV).f0) ((I J aV).f1) ((I J aV).f2) ((I J aV).f3) true _ Dz.out).mono ?_);rintro e vm ⟨rfl,hb⟩;refine⟨_,rfl, ?_⟩;replace au:=Ah (Kd.eO (by(with_reducible repeat(first|apply Kd.bG|apply Kd.bE|apply Kd.al));exact(Kd.aY (Kd.aQ (p:=⟨lB,3,none⟩) (Kd.aQ (p:=⟨lB,2,none⟩) (Kd.aQ (p:=⟨lB,1,none⟩) (Kd.aQ (p:=⟨lB,0,none⟩) (Kd.cl au.out ef.out (by decide)) (fun _ hk=>hk.2) (.int .i64 ((I J aV).f0))) (fun _ hk=>hk.2) (.int .i64 ((I J aV).f1))) (fun _ hk=>hk.2) (.int .i64 ((I J aV).f2))) (fun _ hk=>hk.2) (.bool ((I J aV).f3))) (fun _ h_=>h_.1))) hb);replace ey:=Ah (cC (bf ey yK) hb);replace ef:=Ah (cC (g:=lB) (o:= .cells #[.int .i64 ((I J aV).f0),.int .i64 ((I J aV).f1),.int .i64 ((I J aV).f2),.bool ((I J aV).f3)] 65 (0,0)) (by(with_reducible repeat(first|refine aD ?_ _|refine Z ?_|refine aC ?_ _));refine aj (cs:= #[.int .i64 ((I J aV).f0),.int .i64 ((I J aV).f1),.int .i64 ((I J aV).f2),.bool false]) ?_ 3 _ rfl;(with_reducible repeat(first|refine aD ?_ _|refine Z ?_|refine aC ?_ _));refine aj (cs:= #[.int .i64 ((I J aV).f0),.int .i64 ((I J aV).f1),.int .i64 0,.bool false]) ?_ 2 _ rfl;(with_reducible repeat(first|refine aD ?_ _|refine Z ?_|refine aC ?_ _));refine aj (cs:= #[.int .i64 ((I J aV).f0),.int .i64 0,.int .i64 0,.bool false]) ?_ 1 _ rfl;(with_reducible repeat(first|refine aD ?_ _|refine Z ?_|refine aC ?_ _));refine aj (cs:= #[.int .i64 0,.int .i64 0,.int .i64 0,.bool false]) ?_ 0 _ rfl;(with_reducible repeat(first|refine aD ?_ _|refine Z ?_|refine aC ?_ _));exact ef.out) hb);replace HB:=Ah (aK (aW HB jw r8) hb);(try clear hb hk)))
   (try simp only[Act.put,Ok,bY,dl])
   go_cut [54] (fun v54 wc=>∃ (kq:Nat) (N0:Bool),v54= .bool N0∧U (bh.j1 kq ar J (J.length:Int) aV N0 J ((I J aV).f0) ((I J aV).f1) ((I J aV).f2) ((I J aV).f3)=some r)∧U (kq≤k1)∧U (Kd.R Kd.bool 4 wc w.heap.size (fun _=>True) Vf ar)∧U (wc.heap[FE]?=some (.cells #[(.slice (some fc) J.length bL)] 25 (0,0)))∧U (wc.heap[lB]?=some (.cells #[.int .i64 ((I J aV).f0),.int .i64 ((I J aV).f1),.int .i64 ((I J aV).f2),.bool ((I J aV).f3)] 65 (0,0)))∧U (Below w.heap.size w wc))
   case first=>
    have H:=Vh.out;clear Vh
    by_cases c21:aV>0
    rotate_left
    ·
     rw[if_neg c21]at H;have CP:decide (0<aV)=false:=decide_eq_false c21;clear c21;(first|rw[CP]|(simp only[cz,dS];rw[CP])|(simp only[c21b2,aaz,Bool.not_true])|skip);have H':=Ah H;clear H
     try go_wp2
     have aa:=Ah (Kd.al au.out);have ab:=Ah (Z ey.out);have ac:=Ah (Z ef.out);have ae:=Ah (fO HB.out);clear au ey ef HB;have au:=aa;have ey:=ab;have ef:=ac;have HB:=ae;clear aa ab ac ae;refine iY (n:=32) (S:=fun w'=>True) (ds:=[]) #[false,false,false,false,false,false,false,false,false,false,false,false,false,false,false,false,false,false,false,false,false,false,false,false,false,false,false,false,false,false,false,false] (by kernel_rfl) rfl rfl trivial (fun hHeld=> ?_);refine ig bh.Ve bh.Ti (fun X cV=> ?_)
     generalize vm.drew=rb at au ey ef HB hHeld⊢
     refine aN 0 23 X.out ?_;refine aN 1 24 X.out ?_;refine aN 2 25 X.out ?_;refine bz 3 26 X.out ?_;refine bz 4 27 X.out ?_;refine bz 5 28 X.out ?_;refine bz 6 29 X.out ?_;refine bz 7 30 X.out ?_;refine bz 8 31 X.out ?_;refine bz 9 32 X.out ?_;refine bz 10 33 X.out ?_;refine bz 11 34 X.out ?_;refine bz 12 35 X.out ?_;refine bz 13 36 X.out ?_;refine bz 14 37 X.out ?_;refine bz 15 38 X.out ?_;refine bz 16 39 X.out ?_;refine bz 17 40 X.out ?_;refine bz 18 41 X.out ?_;refine bz 19 42 X.out ?_;refine bz 20 43 X.out ?_;refine bz 21 44 X.out ?_;refine bz 22 45 X.out ?_;refine bz 23 46 X.out ?_;refine bz 24 47 X.out ?_;refine bz 25 48 X.out ?_;refine bz 26 49 X.out ?_;refine bz 27 50 X.out ?_;refine bz 28 51 X.out ?_;refine bz 29 52 X.out ?_;refine bz 30 53 X.out ?_;refine aN 31 54 X.out ?_;refine i9 (iD X.out (by kernel_rfl)) ?_
     try go_wp2
     go_meet
     case rel=>exact⟨_,(false),e3,H',⟨by have:=bU.out;first|omega|exact bx _⟩,⟨rr au.out⟩,⟨bk ey⟩,⟨bk ef⟩,⟨aW HB jw r8⟩⟩
    rw[if_pos c21]at H;have CP:decide (0<aV)=true:=decide_eq_true c21;clear c21;(first|rw[CP]|(simp only[cz,dS];rw[CP])|(simp only[c21b2,aaz,Bool.not_true])|skip);obtain⟨cQ,Ny⟩:∃j_:Int,(LS (aV-1))=j_:=⟨_,rfl⟩
    replace H:(if 0≤(cQ)then(if(cQ)<(J.length:Int)then(if((I J aV).f0)<(LS (((I J (cQ)).f0)+((I J (cQ)).f1)))then(bh.j1 k1 ar J (J.length:Int) aV true J ((I J aV).f0) ((I J aV).f1) ((I J aV).f2) ((I J aV).f3))else((ri.f ((I J (cQ)).f0) ((I J (cQ)).f1) ((I J (cQ)).f2) ((I J (cQ)).f3) ((I J aV).f0) ((I J aV).f1) ((I J aV).f2) ((I J aV).f3)).bind fun Fw=>(bh.j1 k1 ar J (J.length:Int) aV Fw J ((I J aV).f0) ((I J aV).f1) ((I J aV).f2) ((I J aV).f3))))else(none))else(none))=some r:=by first|(rw[Ny]at H;exact H)|(simp only[Ny]at H⊢;exact H)
    have hji22w:(abf.wrap (aV-1))=cQ:=(cz _).trans Ny
    by_cases c23:0≤(cQ)
    rotate_left
    ·
     rw[if_neg c23]at H;exact absurd H (by simp)
    rw[if_pos c23]at H;have Sa:decide (0≤(cQ))=true:=decide_eq_true c23;clear c23
    by_cases c24:(cQ)<(J.length:Int)
    rotate_left
    ·
     rw[if_neg c24]at H;exact absurd H (by simp)
    rw[if_pos c24]at H;have lU:decide ((cQ)<(J.length:Int))=true:=decide_eq_true c24;clear c24
    by_cases ix:((I J aV).f0)<(LS (((I J (cQ)).f0)+((I J (cQ)).f1)))
    ·
     rw[if_pos ix]at H;have F5:decide (((I J aV).f0)<(LS (((I J (cQ)).f0)+((I J (cQ)).f1))))=true:=decide_eq_true ix;clear ix;have H':=Ah H;clear H
     try go_wp2
     have aa:=Ah (Kd.al au.out);have ab:=Ah (Z ey.out);have ac:=Ah (Z ef.out);have ae:=Ah (fO HB.out);clear au ey ef HB;have au:=aa;have ey:=ab;have ef:=ac;have HB:=ae;clear aa ab ac ae;have xh:0≤((cQ):Int):=od;have xi:(cQ)<(J.length:Int):=od;obtain⟨Tj,Vi,qd,qe,qf,qg⟩:=f6 cY.out (cQ) xh xi;have BZ:=qg;have Ba:=qf;have Bb:=qe;have Bc:=qd;obtain rfl:fc=Tj:=(by injection Vi);replace qd:=(HB.out.cell (LA w _ qd)).trans qd;replace qe:=(HB.out.cell (LA w _ qe)).trans qe;replace qf:=(HB.out.cell (LA w _ qf)).trans qf;replace qg:=(HB.out.cell (LA w _ qg)).trans qg;replace xh:=eq_true xh;replace xi:=eq_true xi;have xj:0≤((cQ):Int):=od;have xk:(cQ)<(J.length:Int):=od;obtain⟨Tk,Vj,qh,qi,qj,qk⟩:=f6 cY.out (cQ) xj xk;have Bd:=qk;have Be:=qj;have Bf:=qi;have Bg:=qh;obtain rfl:fc=Tk:=(by injection Vj);replace qh:=(HB.out.cell (LA w _ qh)).trans qh;replace qi:=(HB.out.cell (LA w _ qi)).trans qi;replace qj:=(HB.out.cell (LA w _ qj)).trans qj;replace qk:=(HB.out.cell (LA w _ qk)).trans qk;replace xj:=eq_true xj;replace xk:=eq_true xk;refine iY (n:=32) (S:=fun w'=>w'.cell? ⟨lB,0,none⟩=some (.int .i64 ((I J aV).f0))∧w'.cell? ⟨lB,1,none⟩=some (.int .i64 ((I J aV).f1))∧w'.cell? ⟨lB,2,none⟩=some (.int .i64 ((I J aV).f2))∧w'.cell? ⟨lB,3,none⟩=some (.bool ((I J aV).f3))∧w'.cell? ⟨FE,0,none⟩=some (.slice (some fc) J.length bL)∧w'.cell? (fc.add (((cQ)).toNat*4))=some (.int .i64 ((I J (cQ)).f0))∧w'.cell? ⟨(fc.add (((cQ)).toNat*4)).block,(fc.add (((cQ)).toNat*4)).off+1,none⟩=some (.int .i64 ((I J (cQ)).f1))∧w'.cell? ⟨(fc.add (((cQ)).toNat*4)).block,(fc.add (((cQ)).toNat*4)).off+2,none⟩=some (.int .i64 ((I J (cQ)).f2))∧w'.cell? ⟨(fc.add (((cQ)).toNat*4)).block,(fc.add (((cQ)).toNat*4)).off+3,none⟩=some (.bool ((I J (cQ)).f3))∧w'.cell? (fc.add (((cQ)).toNat*4))=some (.int .i64 ((I J (cQ)).f0))∧w'.cell? ⟨(fc.add (((cQ)).toNat*4)).block,(fc.add (((cQ)).toNat*4)).off+1,none⟩=some (.int .i64 ((I J (cQ)).f1))∧w'.cell? ⟨(fc.add (((cQ)).toNat*4)).block,(fc.add (((cQ)).toNat*4)).off+2,none⟩=some (.int .i64 ((I J (cQ)).f2))∧w'.cell? ⟨(fc.add (((cQ)).toNat*4)).block,(fc.add (((cQ)).toNat*4)).off+3,none⟩=some (.bool ((I J (cQ)).f3))) (ds:=[]) #[false,false,false,false,false,false,false,false,false,false,false,false,false,false,false,false,false,false,false,false,false,false,false,false,false,false,false,false,false,false,false,false] (by kernel_rfl) rfl rfl ⟨(bC ef.out 0).trans rfl,(bC ef.out 1).trans rfl,(bC ef.out 2).trans rfl,(bC ef.out 3).trans rfl,(bC ey.out 0).trans rfl,((HB.out.cell (LA w _ Bc)).trans Bc),((HB.out.cell (LA w _ Bb)).trans Bb),((HB.out.cell (LA w _ Ba)).trans Ba),((HB.out.cell (LA w _ BZ)).trans BZ),((HB.out.cell (LA w _ Bg)).trans Bg),((HB.out.cell (LA w _ Bf)).trans Bf),((HB.out.cell (LA w _ Be)).trans Be),((HB.out.cell (LA w _ Bd)).trans Bd)⟩ (fun hHeld=> ?_);refine ig bh.Ve bh.Ti (fun X cV=> ?_)
     generalize vm.drew=Wo at au ey ef HB qd qe qf qg qh qi qj qk hHeld⊢
     refine aN 0 23 X.out ?_;refine aN 1 24 X.out ?_;refine aN 2 25 X.out ?_;refine aN 3 26 X.out ?_;refine aN 5 28 X.out ?_;refine aN 7 30 X.out ?_;refine aN 8 31 X.out ?_;refine aN 12 35 X.out ?_;refine aN 14 37 X.out ?_;refine aN 15 38 X.out ?_;refine eF 4 27 X.out cV.out hHeld (hr:=by rintro w' ⟨s0,s1,s2,s3,s4,s5,s6,s7,s8,s9,s10,s11,s12⟩;go_simp;with_reducible rfl) (h:= ?_);refine eF 6 29 X.out cV.out hHeld (hr:=by rintro w' ⟨s0,s1,s2,s3,s4,s5,s6,s7,s8,s9,s10,s11,s12⟩;go_simp;with_reducible rfl) (h:= ?_);refine aN 9 32 X.out ?_;refine aN 10 33 X.out ?_;refine eF 11 34 X.out cV.out hHeld (hr:=by rintro w' ⟨s0,s1,s2,s3,s4,s5,s6,s7,s8,s9,s10,s11,s12⟩;go_simp;with_reducible rfl) (h:= ?_);refine eF 13 36 X.out cV.out hHeld (hr:=by rintro w' ⟨s0,s1,s2,s3,s4,s5,s6,s7,s8,s9,s10,s11,s12⟩;go_simp;with_reducible rfl) (h:= ?_);refine aN 16 39 X.out ?_;refine aN 17 40 X.out ?_;refine eF 18 41 X.out cV.out hHeld (hr:=by rintro w' ⟨s0,s1,s2,s3,s4,s5,s6,s7,s8,s9,s10,s11,s12⟩;go_simp;with_reducible rfl) (h:= ?_);refine aN 19 42 X.out ?_;refine aN 20 43 X.out ?_;refine aN 21 44 X.out ?_;refine bz 22 45 X.out ?_;refine bz 23 46 X.out ?_;refine bz 24 47 X.out ?_;refine bz 25 48 X.out ?_;refine bz 26 49 X.out ?_;refine bz 27 50 X.out ?_;refine bz 28 51 X.out ?_;refine bz 29 52 X.out ?_;refine aN 30 53 X.out ?_;refine aN 31 54 X.out ?_;refine i9 (iD X.out (by kernel_rfl)) ?_
     try go_wp2
     go_meet
     case rel=>exact⟨_,(true),e3,H',⟨by have:=bU.out;first|omega|exact bx _⟩,⟨rr au.out⟩,⟨bk ey⟩,⟨bk ef⟩,⟨aW HB jw r8⟩⟩
    rw[if_neg ix]at H;have F5:decide (((I J aV).f0)<(LS (((I J (cQ)).f0)+((I J (cQ)).f1))))=false:=decide_eq_false ix;clear ix;replace H:=LT.mp H;obtain⟨Fw,pl,H⟩:=H
    try dsimp only at H
    have xq:=Ah pl;clear pl;have H':=Ah H;clear H
    try go_wp2
    have aa:=Ah (Kd.al au.out);have ab:=Ah (Z ey.out);have ac:=Ah (Z ef.out);have ae:=Ah (fO HB.out);clear au ey ef HB;have au:=aa;have ey:=ab;have ef:=ac;have HB:=ae;clear aa ab ac ae;have xh:0≤((cQ):Int):=od;have xi:(cQ)<(J.length:Int):=od;obtain⟨Tj,Vi,qd,qe,qf,qg⟩:=f6 cY.out (cQ) xh xi;have BZ:=qg;have Ba:=qf;have Bb:=qe;have Bc:=qd;obtain rfl:fc=Tj:=(by injection Vi);replace qd:=(HB.out.cell (LA w _ qd)).trans qd;replace qe:=(HB.out.cell (LA w _ qe)).trans qe;replace qf:=(HB.out.cell (LA w _ qf)).trans qf;replace qg:=(HB.out.cell (LA w _ qg)).trans qg;replace xh:=eq_true xh;replace xi:=eq_true xi;have xj:0≤((cQ):Int):=od;have xk:(cQ)<(J.length:Int):=od;obtain⟨Tk,Vj,qh,qi,qj,qk⟩:=f6 cY.out (cQ) xj xk;have Bd:=qk;have Be:=qj;have Bf:=qi;have Bg:=qh;obtain rfl:fc=Tk:=(by injection Vj);replace qh:=(HB.out.cell (LA w _ qh)).trans qh;replace qi:=(HB.out.cell (LA w _ qi)).trans qi;replace qj:=(HB.out.cell (LA w _ qj)).trans qj;replace qk:=(HB.out.cell (LA w _ qk)).trans qk;replace xj:=eq_true xj;replace xk:=eq_true xk;have KV:0≤((cQ):Int):=od;have KW:(cQ)<(J.length:Int):=od;obtain⟨ad429,e429,Bh,Bi,Bj,Bk⟩:=f6 cY.out (cQ) KV KW;have MU:=Bk;have MV:=Bj;have MW:=Bi;have MX:=Bh;obtain rfl:fc=ad429:=(by injection e429);replace Bh:=(HB.out.cell (LA w _ Bh)).trans Bh;replace Bi:=(HB.out.cell (LA w _ Bi)).trans Bi;replace Bj:=(HB.out.cell (LA w _ Bj)).trans Bj;replace Bk:=(HB.out.cell (LA w _ Bk)).trans Bk;replace KV:=eq_true KV;replace KW:=eq_true KW;refine iY (n:=32) (S:=fun w'=>w'.cell? ⟨lB,0,none⟩=some (.int .i64 ((I J aV).f0))∧w'.cell? ⟨lB,1,none⟩=some (.int .i64 ((I J aV).f1))∧w'.cell? ⟨lB,2,none⟩=some (.int .i64 ((I J aV).f2))∧w'.cell? ⟨lB,3,none⟩=some (.bool ((I J aV).f3))∧w'.cell? ⟨FE,0,none⟩=some (.slice (some fc) J.length bL)∧w'.cell? (fc.add (((cQ)).toNat*4))=some (.int .i64 ((I J (cQ)).f0))∧w'.cell? ⟨(fc.add (((cQ)).toNat*4)).block,(fc.add (((cQ)).toNat*4)).off+1,none⟩=some (.int .i64 ((I J (cQ)).f1))∧w'.cell? ⟨(fc.add (((cQ)).toNat*4)).block,(fc.add (((cQ)).toNat*4)).off+2,none⟩=some (.int .i64 ((I J (cQ)).f2))∧w'.cell? ⟨(fc.add (((cQ)).toNat*4)).block,(fc.add (((cQ)).toNat*4)).off+3,none⟩=some (.bool ((I J (cQ)).f3))∧w'.cell? (fc.add (((cQ)).toNat*4))=some (.int .i64 ((I J (cQ)).f0))∧w'.cell? ⟨(fc.add (((cQ)).toNat*4)).block,(fc.add (((cQ)).toNat*4)).off+1,none⟩=some (.int .i64 ((I J (cQ)).f1))∧w'.cell? ⟨(fc.add (((cQ)).toNat*4)).block,(fc.add (((cQ)).toNat*4)).off+2,none⟩=some (.int .i64 ((I J (cQ)).f2))∧w'.cell? ⟨(fc.add (((cQ)).toNat*4)).block,(fc.add (((cQ)).toNat*4)).off+3,none⟩=some (.bool ((I J (cQ)).f3))∧w'.cell? (fc.add (((cQ)).toNat*4))=some (.int .i64 ((I J (cQ)).f0))∧w'.cell? ⟨(fc.add (((cQ)).toNat*4)).block,(fc.add (((cQ)).toNat*4)).off+1,none⟩=some (.int .i64 ((I J (cQ)).f1))∧w'.cell? ⟨(fc.add (((cQ)).toNat*4)).block,(fc.add (((cQ)).toNat*4)).off+2,none⟩=some (.int .i64 ((I J (cQ)).f2))∧w'.cell? ⟨(fc.add (((cQ)).toNat*4)).block,(fc.add (((cQ)).toNat*4)).off+3,none⟩=some (.bool ((I J (cQ)).f3))) (ds:=[]) #[false,false,false,false,false,false,false,false,false,false,false,false,false,false,false,false,false,false,false,false,false,false,false,false,false,false,false,false,false,false,false,false] (by kernel_rfl) rfl rfl ⟨(bC ef.out 0).trans rfl,(bC ef.out 1).trans rfl,(bC ef.out 2).trans rfl,(bC ef.out 3).trans rfl,(bC ey.out 0).trans rfl,((HB.out.cell (LA w _ Bc)).trans Bc),((HB.out.cell (LA w _ Bb)).trans Bb),((HB.out.cell (LA w _ Ba)).trans Ba),((HB.out.cell (LA w _ BZ)).trans BZ),((HB.out.cell (LA w _ Bg)).trans Bg),((HB.out.cell (LA w _ Bf)).trans Bf),((HB.out.cell (LA w _ Be)).trans Be),((HB.out.cell (LA w _ Bd)).trans Bd),((HB.out.cell (LA w _ MX)).trans MX),((HB.out.cell (LA w _ MW)).trans MW),((HB.out.cell (LA w _ MV)).trans MV),((HB.out.cell (LA w _ MU)).trans MU)⟩ (fun hHeld=> ?_);refine ig bh.Ve bh.Ti (fun X cV=> ?_)
    generalize vm.drew=GB at au ey ef HB qd qe qf qg qh qi qj qk Bh Bi Bj Bk hHeld⊢
    refine aN 0 23 X.out ?_;refine aN 1 24 X.out ?_;refine aN 2 25 X.out ?_;refine aN 3 26 X.out ?_;refine aN 5 28 X.out ?_;refine aN 7 30 X.out ?_;refine aN 8 31 X.out ?_;refine aN 12 35 X.out ?_;refine aN 14 37 X.out ?_;refine aN 15 38 X.out ?_;refine eF 4 27 X.out cV.out hHeld (hr:=by rintro w' ⟨s0,s1,s2,s3,s4,s5,s6,s7,s8,s9,s10,s11,s12,s13,ou,s15,s16⟩;go_simp;with_reducible rfl) (h:= ?_);refine eF 6 29 X.out cV.out hHeld (hr:=by rintro w' ⟨s0,s1,s2,s3,s4,s5,s6,s7,s8,s9,s10,s11,s12,s13,ou,s15,s16⟩;go_simp;with_reducible rfl) (h:= ?_);refine aN 9 32 X.out ?_;refine aN 10 33 X.out ?_;refine eF 11 34 X.out cV.out hHeld (hr:=by rintro w' ⟨s0,s1,s2,s3,s4,s5,s6,s7,s8,s9,s10,s11,s12,s13,ou,s15,s16⟩;go_simp;with_reducible rfl) (h:= ?_);refine eF 13 36 X.out cV.out hHeld (hr:=by rintro w' ⟨s0,s1,s2,s3,s4,s5,s6,s7,s8,s9,s10,s11,s12,s13,ou,s15,s16⟩;go_simp;with_reducible rfl) (h:= ?_);refine aN 16 39 X.out ?_;refine aN 17 40 X.out ?_;refine eF 18 41 X.out cV.out hHeld (hr:=by rintro w' ⟨s0,s1,s2,s3,s4,s5,s6,s7,s8,s9,s10,s11,s12,s13,ou,s15,s16⟩;go_simp;with_reducible rfl) (h:= ?_);refine aN 19 42 X.out ?_;refine aN 20 43 X.out ?_;refine aN 21 44 X.out ?_;refine aN 22 45 X.out ?_;refine aN 24 47 X.out ?_;refine aN 25 48 X.out ?_;refine eF 23 46 X.out cV.out hHeld (hr:=by rintro w' ⟨s0,s1,s2,s3,s4,s5,s6,s7,s8,s9,s10,s11,s12,s13,ou,s15,s16⟩;go_simp;with_reducible rfl) (h:= ?_);refine aN 26 49 X.out ?_;refine eF 27 50 X.out cV.out hHeld (hr:=by rintro w' ⟨s0,s1,s2,s3,s4,s5,s6,s7,s8,s9,s10,s11,s12,s13,ou,s15,s16⟩;go_simp;with_reducible rfl) (h:= ?_);refine eF 28 51 X.out cV.out hHeld (hr:=by rintro w' ⟨s0,s1,s2,s3,s4,s5,s6,s7,s8,s9,s10,s11,s12,s13,ou,s15,s16⟩;go_simp;with_reducible rfl) (h:= ?_);refine ga (i:=29) (N:=some 52) #[true,true,true,true,true,true,true,true,true,true,true,true,true,true,true,true,true,true,true,true,true,true,true,true,true,true,true,true,true,true,false,false] rfl rfl (fy X.out (by kernel_rfl)) (by decide) (fun K hK=> ?_);refine il Try.func31 (by kernel_rfl) rfl #[.agg #[.int .i64 ((I J (cQ)).f0),.int .i64 ((I J (cQ)).f1),.int .i64 ((I J (cQ)).f2),.bool ((I J (cQ)).f3)],.agg #[.int .i64 ((I J aV).f0),.int .i64 ((I J aV).f1),.int .i64 ((I J aV).f2),.bool ((I J aV).f3)]] (by rfl) rfl rfl (by(try simp only[List.map_toArray,List.map_cons,List.map_nil]);first|done|(simp only[Ny];rfl)|rfl|(simp only[List.length_drop,List.length_take];rfl)) ?_
    with_reducible refine(ri.calls ((I J (cQ)).f0) ((I J (cQ)).f1) ((I J (cQ)).f2) ((I J (cQ)).f3) ((I J aV).f0) ((I J aV).f1) ((I J aV).f2) ((I J aV).f3) Fw _ xq.out).mono ?_
    rintro e LJ ⟨rfl,hb⟩;refine⟨_,rfl, ?_⟩;have aa:=Ah (Kd.eO (rr au.out) hb);have ab:=Ah (bb ey hb);have ac:=Ah (bb ef hb);have ae:=Ah (aK (aW HB jw r8) hb);clear au ey ef HB;have au:=aa;have ey:=ab;have ef:=ac;have HB:=ae;clear aa ab ac ae;(try clear hb);(try clear hb2);(try clear hk);(try clear hi);refine hK.out _ _ ⟨(bC ef.out 0).trans rfl,(bC ef.out 1).trans rfl,(bC ef.out 2).trans rfl,(bC ef.out 3).trans rfl,(bC ey.out 0).trans rfl,((HB.out.cell (LA w _ Bc)).trans Bc),((HB.out.cell (LA w _ Bb)).trans Bb),((HB.out.cell (LA w _ Ba)).trans Ba),((HB.out.cell (LA w _ BZ)).trans BZ),((HB.out.cell (LA w _ Bg)).trans Bg),((HB.out.cell (LA w _ Bf)).trans Bf),((HB.out.cell (LA w _ Be)).trans Be),((HB.out.cell (LA w _ Bd)).trans Bd),((HB.out.cell (LA w _ MX)).trans MX),((HB.out.cell (LA w _ MW)).trans MW),((HB.out.cell (LA w _ MV)).trans MV),((HB.out.cell (LA w _ MU)).trans MU)⟩ (fun hHeld=> ?_);clear hK K;refine hU (a':= ?_) ?_ ?_;rotate_left
    ·
     show Act.put _ (some 52) _=_
     simp only[Act.put,Ok,bY,dl,cz,dS]
     rfl
    refine aN 30 53 X.out ?_;refine aN 31 54 X.out ?_;refine i9 (iD X.out (by kernel_rfl)) ?_
    try go_wp2
    go_meet
    case rel=>exact⟨_,(Fw),e3,H',⟨by have:=bU.out;first|omega|exact bx _⟩,⟨rr au.out⟩,⟨bk ey⟩,⟨bk ef⟩,⟨aW HB jw r8⟩⟩
   case rest=>
    clear Vh
    try clear c2
    try clear p2
    try clear c3
    try clear p4
    try clear q4
    try clear hx4
    try clear p6
    try clear c21
    try clear CP
    try clear c23
    try clear c24
    try clear ix
    try clear F5
    try clear qd
    try clear qe
    try clear qf
    try clear qg
    try clear qh
    try clear qi
    try clear qj
    try clear qk
    try clear Bh
    try clear Bi
    try clear Bj
    try clear Bk
    try clear xh
    try clear xj
    try clear KV
    try clear xi
    try clear xk
    try clear KW
    obtain⟨kq,N0,rfl,HA,P2,au,ey,ef,HB⟩:=hcut
    cases kq with
    |zero=>exact absurd HA.out (by simp[bh.j1])
    |succ a5w=>
     have H:=HA.out;clear HA;simp only[bh.j1]at H
     by_cases c31:N0=true
     ·
      subst c31;rw[if_pos rfl]at H;obtain rfl:=iz H
      go_wp2
      go_ret
      exact⟨er,aW HB jw r8⟩
     replace c31:=dn.mpr c31;subst c31;rw[if_neg dV]at H;have H':=Ah H;clear H;have hnb32:=E9.out;have hnc32:=yK.out;obtain⟨Zh,hcz33_1,hcz33_2,hcz33_3⟩:=cA ef;obtain⟨Zi,hfz33_1,hfz33_2,hfz33_3⟩:=cB ef
     go_wp2
     go_loopg [57] a5w (fun kq v57 w'=>∃ (nv:List Bool) (sQ:Int),v57= .int .i64 sQ∧U (bh.l1 kq nv J (J.length:Int) aV ((I J aV).f1) sQ J ((I J aV).f0) ((I J aV).f1) ((I J aV).f2) ((I J aV).f3)=some r)∧U (kq≤a5w)∧U (Kd.R Kd.bool 4 w' w.heap.size (fun _=>True) Vf nv)∧U (w'.heap[FE]?=some (.cells #[(.slice (some fc) J.length bL)] 25 (0,0)))∧U (w'.heap[lB]?=some (.cells #[.int .i64 ((I J aV).f0),.int .i64 ((I J aV).f1),.int .i64 ((I J aV).f2),.bool ((I J aV).f3)] 65 (0,0)))∧U (Below w.heap.size w w'))
     case atStart=>exact⟨(ar),(0),e3,H',⟨bx _⟩,⟨rr au.out⟩,⟨bk ey⟩,⟨bk ef⟩,⟨aW HB jw r8⟩⟩
     case round=>
      clear H'
      try clear c2
      try clear p2
      try clear c3
      try clear p4
      try clear q4
      try clear hx4
      try clear p6
      try clear c21
      try clear CP
      try clear c23
      try clear c24
      try clear ix
      try clear F5
      try clear c31
      try clear c32
      try clear Zh hcz33_1 hcz33_2 hcz33_3
      try clear Zi hfz33_1 hfz33_2 hfz33_3
      try clear qd
      try clear qe
      try clear qf
      try clear qg
      try clear qh
      try clear qi
      try clear qj
      try clear qk
      try clear Bh
      try clear Bi
      try clear Bj
      try clear Bk
      try clear p2
      try clear p4
      try clear xh
      try clear xj
      try clear KV
      try clear p6
      try clear q4
      try clear xi
      try clear xk
      try clear KW
      obtain⟨nv,sQ,rfl,HA,mg,au,ey,ef,HB⟩:=hrel
      cases gk with
      |zero=>exact absurd HA.out (by simp[bh.l1])
      |succ k3=>
       have H:=HA.out;clear HA;simp only[bh.l1]at H
       by_cases c34:sQ<((I J aV).f1)
       rotate_left
       ·
        rw[if_neg c34]at H;have TE:decide (sQ<((I J aV).f1))=false:=decide_eq_false c34;clear c34;have H':=Ah H;clear H
        go_wp2
        go_roundg k3
        case measure=>have:=bU.out;have:=P2.out;have:=mg.out;omega
        case rel=>exact⟨(nv),(LS (aV+1)),e3,H',⟨by have:=bU.out;have:=P2.out;have:=mg.out;omega⟩,⟨rr au.out⟩,⟨bk ey⟩,⟨aW HB jw r8⟩⟩
       rw[if_pos c34]at H;have TE:decide (sQ<((I J aV).f1))=true:=decide_eq_true c34;clear c34;obtain⟨kL,Nz⟩:∃j_:Int,(LS (((I J aV).f2)+sQ))=j_:=⟨_,rfl⟩
       replace H:(if 0≤(kL)then(if(kL)<(nv.length:Int)then(if rD false nv (kL)=true then(some false)else(bh.l1 k3 (nv.set ((kL):Int).toNat true) J (J.length:Int) aV ((I J aV).f1) (LS (sQ+1)) J ((I J aV).f0) ((I J aV).f1) ((I J aV).f2) ((I J aV).f3)))else(none))else(none))=some r:=by first|(rw[Nz]at H;exact H)|(simp only[Nz]at H⊢;exact H)
       have hji35w:(abf.wrap (((I J aV).f2)+sQ))=kL:=(cz _).trans Nz
       by_cases lH:0≤(kL)
       rotate_left
       ·
        rw[if_neg lH]at H;exact absurd H (by simp)
       rw[if_pos lH]at H;have a17:decide (0≤(kL))=true:=decide_eq_true lH;clear lH
       by_cases c37:(kL)<(nv.length:Int)
       rotate_left
       ·
        rw[if_neg c37]at H;exact absurd H (by simp)
       rw[if_pos c37]at H;have c37b0:decide ((kL)<(nv.length:Int))=true:=decide_eq_true c37;clear c37;obtain⟨a5x,Tl⟩:∃b_:Bool,b_=(rD false nv (kL)):=⟨_,rfl⟩
       replace H:(if a5x=true then(some false)else(bh.l1 k3 (nv.set ((kL):Int).toNat true) J (J.length:Int) aV ((I J aV).f1) (LS (sQ+1)) J ((I J aV).f0) ((I J aV).f1) ((I J aV).f2) ((I J aV).f3)))=some r:=by rw[←Tl]at H;exact H
       have a2X:=Ah Tl;clear Tl
       by_cases kZ:a5x=true
       ·
        subst kZ;rw[if_pos rfl]at H;obtain rfl:=iz H;have hnb40:=E9.out;have hnc40:=yK.out;obtain⟨hcz41_0,hcz41_1,hcz41_2,hcz41_3⟩:=cA ef;obtain⟨hfz41_0,hfz41_1,hfz41_2,hfz41_3⟩:=cB ef;obtain⟨Ao42,co42,eo42⟩:=Kd.bq au.out;subst eo42;have DG:0≤((kL):Int):=od;have DH:(kL)<(nv.length:Int):=od;obtain⟨ad431,Vk,MY⟩:=Kd.Qp (Kd.af au.out).2.2 (kL) DG DH;(try rw[←a2X.out]at MY)
        cases Vk
        replace DG:=eq_true DG;replace DH:=eq_true DH
        go_wp2
        go_ret
        exact⟨by first|rfl|(simp[GM,GN]<;>rfl)|(simp only[←Nz];first|rfl|(simp[GM,GN]<;>rfl))|(simp[*,GM,GN]<;>rfl),aW HB jw r8⟩
       replace kZ:=dn.mpr kZ;subst kZ;rw[if_neg dV]at H;obtain⟨Vl,Iz⟩:∃y_:List Bool,y_=(nv.set ((kL):Int).toNat true):=⟨_,rfl⟩
       replace H:(bh.l1 k3 Vl J (J.length:Int) aV ((I J aV).f1) (LS (sQ+1)) J ((I J aV).f0) ((I J aV).f1) ((I J aV).f2) ((I J aV).f3))=some r:=by first|(rw[Iz];with_reducible exact H)|(have aX:=(Mq _ _).symm.trans H;rw[Iz];with_reducible exact aX)|(have aX:=(Mq _ _).symm.trans H;with_reducible exact aX)|with_reducible exact H|(rw[Iz];exact H)|exact H
       have Ny432:=Ah Iz;clear Iz;have H':=Ah H;clear H;have hnb44:=E9.out;have hnc44:=yK.out;obtain⟨Z0,hcz45_1,hcz45_2,hcz45_3⟩:=cA ef;obtain⟨Z1,hfz45_1,hfz45_2,hfz45_3⟩:=cB ef;obtain⟨Ao46,a5y,Vm⟩:=Kd.bq au.out;subst Vm;have DG:0≤((kL):Int):=od;have DH:(kL)<(nv.length:Int):=od;obtain⟨ad431,Vk,MY⟩:=Kd.Qp (Kd.af au.out).2.2 (kL) DG DH;(try rw[←a2X.out]at MY)
       cases Vk
       replace DG:=eq_true DG;replace DH:=eq_true DH;have p43:0≤((kL):Int):=od;have Wt:((kL):Int)<((nv.length:Int):Int):=od;obtain⟨Vn,co43,a5z,a5A,gl43,cl43,a5B⟩:=Kd.nW au.out (by omega);(first|cases a5z|(injection a5z with dB iV iW;(first|subst dB|(injection dB with dB;subst dB));subst iW;clear iV));have GB43:=Ah a5A;have GG43:=Ah a5B;clear a5A gl43 a5B;(first|simp only[db]at MY|skip);obtain⟨hx43_0,hf43_0⟩:=Kd.Qq false au.out ((kL):Int) p43 Wt;replace p43:=eq_true p43;replace Wt:=eq_true Wt;have Vo:=Kd.a0k au.out ((kL):Int) true
       go_wp2_with (first|((with_reducible refine rl (t:=4) (p:=72) rfl ?_);refine rk (t:=4) (p:=72) (v:= ?vo_w48) (w1:=(wr.setCell ⟨Vn,((kL):Int).toNat,none⟩ (.bool true))) ?hg ?ho ?hn ?hr ?_;(case ho=>rfl);(case hg=>rfl);(case hn=>rfl);(case hr=>first|(go_simp;done)|(go_simp;rfl));intro Wu hw;have hg:wr.grownBy Wu (some Vn):=(by rw[hw];exact Vo.2);have iR:Kd.R Kd.bool 4 Wu w.heap.size (fun _=>True) (.slice (some ⟨Vn,0,none⟩) nv.length a5y) Vl:=(by rw[hw,Ny432.out];exact Vo.1);clear Vo;replace ey:=Ah (cX (bk ey) hg (Kd.eD au.out ey.out (by decide)));replace ef:=Ah (cX (bk ef) hg (Kd.eD au.out ef.out (by decide)));replace au:=Ah (iR);replace HB:=Ah ((by rw[hw];exact cF (HB.out) GB43.out:Below w.heap.size w Wu));clear hg hw iR))
       go_roundg k3
       case measure=>have:=bU.out;have:=P2.out;have:=mg.out;omega
       case rel=>exact⟨(Vl),(LS (sQ+1)),e3,H',⟨by have:=bU.out;have:=P2.out;have:=mg.out;omega⟩,⟨rr au.out⟩,⟨bk ey⟩,⟨bk ef⟩,⟨aW HB jw r8⟩⟩
def ku.f(k:Nat)(J:List (a7))(a1:Int)(a2:Int):Option (Bool):=(bh.f k J).bind fun KX=>(if KX=true then((hF.f a1 0 200).bind fun KY=>(if KY=true then((hF.f a2 0 (LS (200-a1))).bind fun KZ=>(some KZ))else(some false)))else(some false))
theorem ku.mono:∀a0 a1 a2 k,aG (ku.f k a0 a1 a2) (ku.f (k+1) a0 a1 a2):=by
 intro a0 a1 a2 k;unfold ku.f
 repeat' with_reducible first|exact bh.mono _ _|exact aG.refl _|exact aG.none _|refine aG.ite ?_ ?_|refine aG.bind ?_ (fun _=> ?_)
set_option maxHeartbeats 8000000 in
set_option maxRecDepth 100000 in
theorem ku.calls(k:Nat)(bS:Option Addr)(bL:Nat)(J:List (a7))(a1:Int)(a2:Int)(r:Bool)(w:World)(fT:Kd.C b7 w bS J.length J)(fU:J.length≤bL)(h:ku.f k J a1 a2=some r):
 Calls aad 22 #[.agg #[.slice bS J.length bL],.int .i64 a1,.int .i64 a2] w fun e w'=>e= .returned (.bool r)∧Below w.heap.size w w':=by
 have kJ:=ua;have cY:=Ah fT;have dw:=Ah fU;clear fT fU;have HB:=Ah (aaa w.heap.size w);have H:((bh.f k J).bind fun KX=>(if KX=true then((hF.f a1 0 200).bind fun KY=>(if KY=true then((hF.f a2 0 (LS (200-a1))).bind fun KZ=>(some KZ))else(some false)))else(some false)))=some r:=h;clear h;replace H:=LT.mp H;obtain⟨KX,iv,H⟩:=H
 try dsimp only at H
 have A4:=Ah iv;clear iv
 by_cases c5:KX=true
 rotate_left
 ·
  replace c5:=dn.mpr c5;subst c5;rw[if_neg dV]at H;obtain rfl:=iz H
  go_enter abA,Try.ntmps22
  go_wp2_with (first|((with_reducible refine ax (N:=3) rfl ?_);refine bA 3 25 #[.slice bS J.length bL] ?_;intro a2Y hg LG pY hb;have a2Z:=gw hg (bs HB);have zW:=gw hg (bs HB);replace HB:=Ah (aK (bs HB) hb);clear hb hg;have nQ:=ap pY;have nR:=an pY)|((with_reducible refine bJ (f:=11) rfl ?_);refine gL (some 8) rfl rfl aa9 (by kernel_rfl) rfl #[.agg #[.slice bS J.length bL]] rfl ?_;(with_reducible refine(bh.calls k _ _ J false _ ?a8 ?a9 A4.out).mono ?_);(case a8=>exact cb cY HB);(case a9=>exact dw.out);rintro e xz ⟨rfl,hb⟩;refine⟨_,rfl, ?_⟩;replace pY:=nb pY hb;replace HB:=Ah (aK (aH HB zW) hb);(try clear hb)))
  go_ret
  exact⟨er,aH HB zW⟩
 subst c5;rw[if_pos rfl]at H;replace H:=LT.mp H;obtain⟨KY,iw,H⟩:=H
 try dsimp only at H
 have A6:=Ah iw;clear iw
 by_cases c7:KY=true
 rotate_left
 ·
  replace c7:=dn.mpr c7;subst c7;rw[if_neg dV]at H;obtain rfl:=iz H
  go_enter abA,Try.ntmps22
  go_wp2_with (first|((with_reducible refine ax (N:=3) rfl ?_);refine bA 3 25 #[.slice bS J.length bL] ?_;intro a2Y hg G9 pY hb;have a2Z:=gw hg (bs HB);have zW:=gw hg (bs HB);replace HB:=Ah (aK (bs HB) hb);clear hb hg;have yp:=ap pY;have yq:=an pY)|((with_reducible refine bJ (f:=11) rfl ?_);refine gL (some 8) rfl rfl aa9 (by kernel_rfl) rfl #[.agg #[.slice bS J.length bL]] rfl ?_;(with_reducible refine(bh.calls k _ _ J true _ ?a8 ?a9 A4.out).mono ?_);(case a8=>exact cb cY HB);(case a9=>exact dw.out);rintro e PZ ⟨rfl,hb⟩;refine⟨_,rfl, ?_⟩;replace pY:=nb pY hb;replace HB:=Ah (aK (aH HB zW) hb);(try clear hb))|(go_at_call 32;(with_reducible refine(hF.calls a1 0 200 false _ A6.out).mono ?_);rintro e w' ⟨rfl,⟨nd,rfl⟩⟩))
  go_ret
  exact⟨er,aH HB zW⟩
 subst c7;rw[if_pos rfl]at H;replace H:=LT.mp H;obtain⟨KZ,AP,H⟩:=H
 try dsimp only at H
 have A8:=Ah AP;clear AP;obtain rfl:=iz H
 go_enter abA,Try.ntmps22
 go_wp2_with (first|((with_reducible refine ax (N:=3) rfl ?_);refine bA 3 25 #[.slice bS J.length bL] ?_;intro a2Y hg w9 pY hb;have a2Z:=gw hg (bs HB);have zW:=gw hg (bs HB);replace HB:=Ah (aK (bs HB) hb);clear hb hg;have pH:=ap pY;have pI:=an pY)|((with_reducible refine bJ (f:=11) rfl ?_);refine gL (some 8) rfl rfl aa9 (by kernel_rfl) rfl #[.agg #[.slice bS J.length bL]] rfl ?_;(with_reducible refine(bh.calls k _ _ J true _ ?a8 ?a9 A4.out).mono ?_);(case a8=>exact cb cY HB);(case a9=>exact dw.out);rintro e rg ⟨rfl,hb⟩;refine⟨_,rfl, ?_⟩;replace pY:=nb pY hb;replace HB:=Ah (aK (aH HB zW) hb);(try clear hb))|(go_at_call 32;(with_reducible refine(hF.calls a1 0 200 true _ A6.out).mono ?_);rintro e w' ⟨rfl,⟨nd,rfl⟩⟩)|(go_at_call 32;(with_reducible refine(hF.calls a2 0 (LS (200-a1)) KZ _ A8.out).mono ?_);rintro e w' ⟨rfl,⟨nd,rfl⟩⟩))
 go_ret
 exact⟨er,aH HB zW⟩
mutual
def dJ.l0:Nat→List (eW)→List (a7)→Int→Int→Option ((List (eW)))
 |0,_,_,_,_=>none
 |k+1,x3,x9,cG,mh=>if mh<cG then(if 0≤mh then(if mh<(x9.length:Int)then(dJ.l1 k x3 x9 cG mh ((I x9 mh).f1) 0 ((I x9 mh).f0) ((I x9 mh).f1) ((I x9 mh).f2) ((I x9 mh).f3))else(none))else(none))else(some x3)
def dJ.l1:Nat→List (eW)→List (a7)→Int→Int→Int→Int→Int→Int→Int→Bool→Option ((List (eW)))
 |0,_,_,_,_,_,_,_,_,_,_=>none
 |k+1,x3,x9,cG,mh,gh,rX,MZ,x443001,Zj,Zk=>if rX<gh then(if 0≤(LS (MZ+rX))then(if(LS (MZ+rX))<(x3.length:Int)then(dJ.l1 k (x3.set ((LS (MZ+rX)):Int).toNat (⟨true,LS (Zj+rX),Zk⟩:eW)) x9 cG mh gh (LS (rX+1)) MZ x443001 Zj Zk)else(none))else(none))else(dJ.l0 k x3 x9 cG (LS (mh+1)))
end
def dJ.f(k:Nat)(J:List (a7)):Option ((List (eW))):=if 200≤11728124029610 then(dJ.l0 k (aaA 200 dO) J (J.length:Int) 0)else(none)
theorem dJ.dL:∀k,(∀y0 y1 y2 y3,aG (dJ.l0 k y0 y1 y2 y3) (dJ.l0 (k+1) y0 y1 y2 y3))∧(∀y0 y1 y2 y3 y4 y5 y6 y7 y8 y9,aG (dJ.l1 k y0 y1 y2 y3 y4 y5 y6 y7 y8 y9) (dJ.l1 (k+1) y0 y1 y2 y3 y4 y5 y6 y7 y8 y9))
 |0=>⟨fun _ _ _ _ r h=>by simp[dJ.l0]at h,fun _ _ _ _ _ _ _ _ _ _ r h=>by simp[dJ.l1]at h⟩
 |k+1=>by
  obtain⟨bw,ih1⟩:=dJ.dL k
  refine⟨?_, ?_⟩<;>intros<;>first|unfold dJ.l0|unfold dJ.l1
  all_goals repeat' first
   |(with_reducible exact bw _ _ _ _)
   |(with_reducible exact ih1 _ _ _ _ _ _ _ _ _ _)
   |(with_reducible exact aG.refl _)
   |(with_reducible exact aG.none _)
   |(with_reducible refine aG.ite ?_ ?_)
   |(with_reducible refine aG.bind ?_ (fun _=> ?_))
   |exact bw _ _ _ _
   |exact ih1 _ _ _ _ _ _ _ _ _ _
   |exact aG.none _
   |refine aG.ite ?_ ?_
   |refine aG.bind ?_ (fun _=> ?_)
theorem dJ.mono:∀a0 k,aG (dJ.f k a0) (dJ.f (k+1) a0):=by
 intro a0 k;obtain⟨bw,ih1⟩:=dJ.dL k;unfold dJ.f
 repeat' with_reducible first|exact bw _ _ _ _|exact ih1 _ _ _ _ _ _ _ _ _ _|exact aG.refl _|exact aG.none _|refine aG.ite ?_ ?_|refine aG.bind ?_ (fun _=> ?_)
set_option maxHeartbeats 8000000 in
set_option maxRecDepth 100000 in
theorem dJ.calls(k:Nat)(bS:Option Addr)(bL:Nat)(J:List (a7))(r:List (eW))(w:World)(fT:Kd.C b7 w bS J.length J)(fU:J.length≤bL)(h:dJ.f k J=some r):
 Calls aad 23 #[.agg #[.slice bS J.length bL]] w fun e w'=>∃da:Value,e= .returned (da)∧Kd.R gx 71 w' w.heap.size (fun _=>True) da r∧Below w.heap.size w w':=by
 have kJ:=ua;have mA:=aay;have Vp:=abN;have cY:=Ah fT;have dw:=Ah fU;clear fT fU;have HB:=Ah (aaa w.heap.size w);have H:(if 200≤11728124029610 then(dJ.l0 k (aaA 200 dO) J (J.length:Int) 0)else(none))=some r:=h;clear h
 by_cases c2:200≤11728124029610
 rotate_left
 ·
  rw[if_neg c2]at H;exact absurd H (by simp)
 rw[if_pos c2]at H;have rO:=eq_true c2;have DD:decide (200≤11728124029610)=true:=decide_eq_true c2;clear c2;obtain⟨a5C,J0⟩:∃y_:List (eW),y_=(aaA 200 dO):=⟨_,rfl⟩
 replace H:(dJ.l0 k a5C J (J.length:Int) 0)=some r:=by first|(rw[J0];with_reducible exact H)|(have aX:=(Mq _ _).symm.trans H;rw[J0];with_reducible exact aX)|(have aX:=(Mq _ _).symm.trans H;with_reducible exact aX)|with_reducible exact H|(rw[J0];exact H)|exact H
 have a20:=Ah J0;clear J0;have H':=Ah H;clear H
 go_enter abG,Try.ntmps23
 go_wp2_with (first|((with_reducible refine ax (N:=1) rfl ?_);refine bA 1 25 #[.slice bS J.length bL] ?_;intro a21 hg w3 n3 hb;have GW437:=gw hg (bs HB);have vP:=gw hg (bs HB);replace HB:=Ah (aK (bs HB) hb);clear hb hg)|((with_reducible refine ax (N:=7) rfl ?_);refine Kd.Ru gx _ 71 rfl (N:=7) rfl 56 _ _ rfl 200 rfl rfl abk (.agg #[(.bool false),(.int .i64 0),(.bool false)]) 24 Bz rfl (by decide) (by omega) dO (ok:=fun _=>True) (okp:=fun _=>True) (H8 _ _ _ dO) (fun _ hk=>hk) trivial (by omega) (by omega) (aaa _ _) (bx _) ?_;intro a5D w4 LQ hb lJ l8;clear lJ l8;(first|rw[←a20.out]at LQ|(simp only[aa3]at LQ;rw[←a20.out]at LQ));have HO440:=Ah (Kd.dD LQ (be (aH HB vP)));replace n3:=nb n3 hb;replace HB:=Ah (aK (aH HB vP) hb);clear hb LQ;have C5:=ap n3;have En:=an n3))
 go_loopg [11] k (fun kq v11 w'=>∃ (ar:List (eW)) (dx:Int),v11= .int .i64 dx∧U (dJ.l0 kq ar J (J.length:Int) dx=some r)∧U (kq≤k)∧U (Kd.R gx 71 w' w.heap.size (fun _=>True) a5D ar)∧U (w'.heap[a21]?=some (.cells #[(.slice bS J.length bL)] 25 (0,0)))∧U (Below w.heap.size w w'))
 case atStart=>exact⟨(a5C),(0),e3,H',⟨bx _⟩,⟨rr HO440.out⟩,⟨bk n3⟩,⟨aH HB vP⟩⟩
 case round=>
  clear H'
  try clear c2
  try clear rO
  try clear DD
  try clear p2
  try clear C5
  try clear En
  obtain⟨ar,dx,rfl,HA,bU,au,n3,HB⟩:=hrel
  cases gk with
  |zero=>exact absurd HA.out (by simp[dJ.l0])
  |succ k1=>
   have H:=HA.out;clear HA;simp only[dJ.l0]at H
   by_cases c7:dx<(J.length:Int)
   rotate_left
   ·
    rw[if_neg c7]at H;have zn:decide (dx<(J.length:Int))=false:=decide_eq_false c7;clear c7;obtain rfl:=iz H
    go_wp2
    go_ret
    exact⟨_,er,by(with_reducible repeat(first|apply Kd.bG|apply Kd.bE|apply Kd.al));exact au.out,aH HB vP⟩
   rw[if_pos c7]at H;have zn:decide (dx<(J.length:Int))=true:=decide_eq_true c7;clear c7
   by_cases c8:0≤dx
   rotate_left
   ·
    rw[if_neg c8]at H;exact absurd H (by simp)
   rw[if_pos c8]at H;have nC:decide (0≤dx)=true:=decide_eq_true c8;clear c8
   by_cases c9:dx<(J.length:Int)
   rotate_left
   ·
    rw[if_neg c9]at H;exact absurd H (by simp)
   rw[if_pos c9]at H;have u1:decide (dx<(J.length:Int))=true:=decide_eq_true c9;clear c9;have H':=Ah H;clear H;have P3:0≤(dx:Int):=od;have P4:dx<(J.length:Int):=od;obtain⟨ad441,e441,Ma,Mb,Mc,Md⟩:=f6 cY.out dx P3 P4
   cases e441
   replace Ma:=(HB.out.cell (LA w _ Ma)).trans Ma;replace Mb:=(HB.out.cell (LA w _ Mb)).trans Mb;replace Mc:=(HB.out.cell (LA w _ Mc)).trans Mc;replace Md:=(HB.out.cell (LA w _ Md)).trans Md;replace P3:=eq_true P3;replace P4:=eq_true P4
   go_wp2_with (first|((with_reducible refine ax (N:=5) rfl ?_);refine bA 5 65 #[.int .i64 0,.int .i64 0,.int .i64 0,.bool false] ?_;intro J1 hg AQ tf hb;replace au:=nr au hb;have GW442:=gw hg (aH HB vP);have Tm:=gw hg (aH HB vP);replace HB:=Ah (aK (aH HB vP) hb);have QG:=nn n3 hg;have Y5:=nm n3 hg;replace n3:=nb n3 hb;clear hb hg;have a1L:=Y5.out;have a1M:=QG.out;obtain⟨yn,RQ,RR,RS⟩:=cA tf;obtain⟨yo,RT,RU,RV⟩:=cB tf))
   go_loopg [17] k1 (fun kq v17 w'=>∃ (mc:List (eW)) (n4:Int),v17= .int .i64 n4∧U (dJ.l1 kq mc J (J.length:Int) dx ((I J dx).f1) n4 ((I J dx).f0) ((I J dx).f1) ((I J dx).f2) ((I J dx).f3)=some r)∧U (kq≤k1)∧U (Kd.R gx 71 w' w.heap.size (fun _=>True) a5D mc)∧U (w'.heap[a21]?=some (.cells #[(.slice (some ad441) J.length bL)] 25 (0,0)))∧U (w'.heap[J1]?=some (.cells #[.int .i64 ((I J dx).f0),.int .i64 ((I J dx).f1),.int .i64 ((I J dx).f2),.bool ((I J dx).f3)] 65 (0,0)))∧U (Below w.heap.size w w'))
   case atStart=>exact⟨(ar),(0),e3,H',⟨bx _⟩,⟨by(with_reducible repeat(first|apply Kd.bG|apply Kd.bE|apply Kd.al));exact Kd.aY (Kd.aQ (p:=⟨J1,3,none⟩) (Kd.aQ (p:=⟨J1,2,none⟩) (Kd.aQ (p:=⟨J1,1,none⟩) (Kd.aQ (p:=⟨J1,0,none⟩) (Kd.cl au.out tf.out (by decide)) (fun _ hk=>hk.2) (.int .i64 ((I J dx).f0))) (fun _ hk=>hk.2) (.int .i64 ((I J dx).f1))) (fun _ hk=>hk.2) (.int .i64 ((I J dx).f2))) (fun _ hk=>hk.2) (.bool ((I J dx).f3))) (fun _ hk=>trivial)⟩,⟨bf n3 QG⟩,⟨by(with_reducible repeat(first|refine aD ?_ _|refine Z ?_|refine aC ?_ _));refine aj (cs:= #[.int .i64 ((I J dx).f0),.int .i64 ((I J dx).f1),.int .i64 ((I J dx).f2),.bool false]) ?_ 3 _ rfl;(with_reducible repeat(first|refine aD ?_ _|refine Z ?_|refine aC ?_ _));refine aj (cs:= #[.int .i64 ((I J dx).f0),.int .i64 ((I J dx).f1),.int .i64 0,.bool false]) ?_ 2 _ rfl;(with_reducible repeat(first|refine aD ?_ _|refine Z ?_|refine aC ?_ _));refine aj (cs:= #[.int .i64 ((I J dx).f0),.int .i64 0,.int .i64 0,.bool false]) ?_ 1 _ rfl;(with_reducible repeat(first|refine aD ?_ _|refine Z ?_|refine aC ?_ _));refine aj (cs:= #[.int .i64 0,.int .i64 0,.int .i64 0,.bool false]) ?_ 0 _ rfl;(with_reducible repeat(first|refine aD ?_ _|refine Z ?_|refine aC ?_ _));exact tf.out⟩,⟨aW HB vP Tm⟩⟩
   case round=>
    clear H'
    try clear c1
    try clear c2
    try clear rO
    try clear DD
    try clear p2
    try clear p4
    try clear q4
    try clear hx4
    try clear c7
    try clear zn
    try clear c8
    try clear nC
    try clear c9
    try clear u1
    try clear c11
    try clear yn RQ RR RS
    try clear C5
    try clear yo RT RU RV
    try clear En
    try clear Ma
    try clear Mb
    try clear Mc
    try clear Md
    try clear p2
    try clear P3
    try clear P4
    obtain⟨mc,n4,rfl,HA,eg,au,n3,tf,HB⟩:=hrel
    cases gk with
    |zero=>exact absurd HA.out (by simp[dJ.l1])
    |succ k2=>
     have H:=HA.out;clear HA;simp only[dJ.l1]at H
     by_cases c13:n4<((I J dx).f1)
     rotate_left
     ·
      rw[if_neg c13]at H;have ww:decide (n4<((I J dx).f1))=false:=decide_eq_false c13;clear c13;have H':=Ah H;clear H
      go_wp2
      go_roundg k2
      case measure=>have:=bU.out;have:=eg.out;omega
      case rel=>exact⟨(mc),(LS (dx+1)),e3,H',⟨by have:=bU.out;have:=eg.out;omega⟩,⟨rr au.out⟩,⟨bk n3⟩,⟨aW HB vP Tm⟩⟩
     rw[if_pos c13]at H;have ww:decide (n4<((I J dx).f1))=true:=decide_eq_true c13;clear c13;obtain⟨jF,Tn⟩:∃j_:Int,(LS (((I J dx).f0)+n4))=j_:=⟨_,rfl⟩
     replace H:(if 0≤(jF)then(if(jF)<(mc.length:Int)then(dJ.l1 k2 (mc.set ((jF):Int).toNat (⟨true,LS (((I J dx).f2)+n4),((I J dx).f3)⟩:eW)) J (J.length:Int) dx ((I J dx).f1) (LS (n4+1)) ((I J dx).f0) ((I J dx).f1) ((I J dx).f2) ((I J dx).f3))else(none))else(none))=some r:=by first|(rw[Tn]at H;exact H)|(simp only[Tn]at H⊢;exact H)
     have hji14w:(abf.wrap (((I J dx).f0)+n4))=jF:=(cz _).trans Tn
     by_cases c15:0≤(jF)
     rotate_left
     ·
      rw[if_neg c15]at H;exact absurd H (by simp)
     rw[if_pos c15]at H;have Ic:decide (0≤(jF))=true:=decide_eq_true c15;clear c15
     by_cases c16:(jF)<(mc.length:Int)
     rotate_left
     ·
      rw[if_neg c16]at H;exact absurd H (by simp)
     rw[if_pos c16]at H;have IT:decide ((jF)<(mc.length:Int))=true:=decide_eq_true c16;clear c16;obtain⟨Vq,J2⟩:∃y_:List (eW),y_=(mc.set ((jF):Int).toNat (⟨true,LS (((I J dx).f2)+n4),((I J dx).f3)⟩:eW)):=⟨_,rfl⟩
     replace H:(dJ.l1 k2 Vq J (J.length:Int) dx ((I J dx).f1) (LS (n4+1)) ((I J dx).f0) ((I J dx).f1) ((I J dx).f2) ((I J dx).f3))=some r:=by first|(rw[J2];with_reducible exact H)|(have aX:=(Mq _ _).symm.trans H;rw[J2];with_reducible exact aX)|(have aX:=(Mq _ _).symm.trans H;with_reducible exact aX)|with_reducible exact H|(rw[J2];exact H)|exact H
     have Ny443:=Ah J2;clear J2;have H':=Ah H;clear H;have NV:=Y5.out;have NW:=QG.out;obtain⟨yl,RK,RL,RM⟩:=cA tf;obtain⟨ym,RN,RO,RP⟩:=cB tf;have E0:0≤((jF):Int):=od;have E1:((jF):Int)<((mc.length:Int):Int):=od;obtain⟨jc,Vr,Ka,Kb,Vs,cl17,Ke⟩:=Kd.nW au.out (by omega);(first|cases Ka|(injection Ka with dB iV iW;(first|subst dB|(injection dB with dB;subst dB));subst iW;clear iV));have Kf:=Ah Kb;have GG17:=Ah Ke;clear Kb Vs Ke;obtain⟨ce17,To,Kg,vQ,vR⟩:=Kd.hJ au.out dO ((jF):Int) E0 E1;obtain rfl:=Lm Kg;have hx17_0:wr.cell? ⟨jc,((jF):Int).toNat*3,none⟩=some (.bool ((am mc (jF)).f0)):=vQ 0 _ rfl;have hx17_1:wr.cell? ⟨jc,((jF):Int).toNat*3+1,none⟩=some (.int .i64 ((am mc (jF)).f1)):=vQ 1 _ rfl;have hx17_2:wr.cell? ⟨jc,((jF):Int).toNat*3+2,none⟩=some (.bool ((am mc (jF)).f2)):=vQ 2 _ rfl;have hf17_0:wr.frozen? ⟨jc,((jF):Int).toNat*3,none⟩=false:=vR 0;have hf17_1:wr.frozen? ⟨jc,((jF):Int).toNat*3+1,none⟩=false:=vR 1;have hf17_2:wr.frozen? ⟨jc,((jF):Int).toNat*3+2,none⟩=false:=vR 2;clear To vQ vR Kg;replace E0:=eq_true E0;replace E1:=eq_true E1;have a5E:=Ah (show Kd.R gx 71 wr w.heap.size (fun _=>True) (.slice (some ⟨jc,0,none⟩) mc.length Vr) mc from(rr au.out));obtain⟨ce20,a22,a5F,J3,O0⟩:=Kd.hJ a5E.out dO ((jF):Int) (od) (by have h_:((jF):Int)<((mc.length:Int):Int):=od;first|exact h_|(have e_:=(Kd.af au.out).1;omega)|simpa using h_);obtain rfl:=Lm a5F;have Vt:=Kd.lT a5E.out ((jF):Int) (od) (by have h_:((jF):Int)<((mc.length:Int):Int):=od;first|exact h_|(have e_:=(Kd.af au.out).1;omega)|simpa using h_) (seg:=[.bool true,.int .i64 (LS (((I J dx).f2)+n4)),.bool ((I J dx).f3)]) (j:=0) a22 J3 (show 3≤3 from by decide) (x':=(⟨true,LS (((I J dx).f2)+n4),((I J dx).f3)⟩:eW)) (H8 _ _ _ (⟨true,LS (((I J dx).f2)+n4),((I J dx).f3)⟩:eW)) (fun _ hk=>hk);have hx20_0:=J3 0 _ rfl;(try simp only[show(gx).sz=3 from rfl,aao,aal]at hx20_0);have hf20_0:=O0 0;(try simp only[show(gx).sz=3 from rfl,aao,aal]at hf20_0);have hx20_1:=J3 1 _ rfl;(try simp only[show(gx).sz=3 from rfl,aao,aal]at hx20_1);have hf20_1:=O0 1;(try simp only[show(gx).sz=3 from rfl,aao,aal]at hf20_1);have hx20_2:=J3 2 _ rfl;(try simp only[show(gx).sz=3 from rfl,aao,aal]at hx20_2);have hf20_2:=O0 2;(try simp only[show(gx).sz=3 from rfl,aao,aal]at hf20_2);clear a22 J3 O0 a5F
     go_wp2_with (first|((with_reducible refine rl (t:=71) (p:=32) rfl ?_);refine rk (t:=71) (p:=32) (v:= ?vo_w21) (w1:=(((wr.setCell ⟨jc,((jF):Int).toNat*3,none⟩ (.bool true)).setCell ⟨jc,((jF):Int).toNat*3+1,none⟩ (.int .i64 (LS (((I J dx).f2)+n4)))).setCell ⟨jc,((jF):Int).toNat*3+2,none⟩ (.bool ((I J dx).f3)))) ?hg ?ho ?hn ?hr ?_;(case ho=>rfl);(case hg=>rfl);(case hn=>rfl);(case hr=>first|(go_simp;done)|(go_simp;rfl));intro ot hw;have hg:wr.grownBy ot (some jc):=(by rw[hw];exact Vt.2);have iR:Kd.R gx 71 ot w.heap.size (fun _=>True) (.slice (some ⟨jc,0,none⟩) mc.length Vr) Vq:=(by rw[hw,Ny443.out];exact Vt.1);clear Vt;replace n3:=Ah (cX (bk n3) hg (Kd.eD au.out n3.out (by decide)));replace tf:=Ah (cX (bk tf) hg (Kd.eD au.out tf.out (by decide)));replace au:=Ah (iR);replace HB:=Ah ((by rw[hw];exact cF (cF (cF (HB.out) Kf.out) Kf.out) Kf.out:Below w.heap.size w ot));clear hg hw iR))
     go_roundg k2
     case measure=>have:=bU.out;have:=eg.out;omega
     case rel=>exact⟨(Vq),(LS (n4+1)),e3,H',⟨by have:=bU.out;have:=eg.out;omega⟩,⟨rr au.out⟩,⟨bk n3⟩,⟨bk tf⟩,⟨aW HB vP Tm⟩⟩
def mi.f(a0:Int)(bH:List Bool):Option (Bool):=if 0≤a0 then(if a0<(bH.length:Int)then(some (rD false bH a0))else(none))else(none)
set_option maxHeartbeats 8000000 in
set_option maxRecDepth 100000 in
theorem mi.calls(a0:Int)(dy:Nat)(dQ:Option Addr)(dR:Nat)(bH:List Bool)(r:Bool)(w:World)(pZ:Kd.C Kd.bool w dQ bH.length bH)(pf:bH.length≤dR)(r9:w.heap[dy]?=some (.cells #[.slice dQ bH.length dR] 66 (0,0)))(h:mi.f a0 bH=some r):
 Calls aad 44 #[.int .i64 a0,.pointer (some ⟨dy,0,none⟩)] w fun e w'=>e= .returned (.bool r)∧fp w w':=by
 have iL:=Ah pZ;have jC:=Ah pf;clear pZ pf;have a23:=Ah r9;clear r9;have H:(if 0≤a0 then(if a0<(bH.length:Int)then(some (rD false bH a0))else(none))else(none))=some r:=h;clear h
 by_cases c3:0≤a0
 rotate_left
 ·
  rw[if_neg c3]at H;exact absurd H (by simp)
 rw[if_pos c3]at H;have iN:decide (0≤a0)=true:=decide_eq_true c3;clear c3
 by_cases c4:a0<(bH.length:Int)
 rotate_left
 ·
  rw[if_neg c4]at H;exact absurd H (by simp)
 rw[if_pos c4]at H;have jb:decide (a0<(bH.length:Int))=true:=decide_eq_true c4;clear c4;obtain rfl:=iz H;have Em:w.cell? ⟨dy,0,none⟩=some (.slice dQ bH.length dR):=(bC a23.out 0).trans rfl;have Hq:=an a23;have Vu:0≤(a0:Int):=od;have Vv:a0<(bH.length:Int):=od;obtain⟨ad445,e445,hx445_0⟩:=Kd.Qp iL.out a0 Vu Vv
 cases e445
 replace Vu:=eq_true Vu;replace Vv:=eq_true Vv
 go_enter Try.func44,Try.ntmps44
 go_wp2
 go_ret
 exact⟨e3,by repeat(first|exact fp.refl _|apply fp.step)⟩
def gB.l0:Nat→List (aT)→Int→Int→List Bool→Option ((List (aT)))
 |0,_,_,_,_=>none
 |k+1,x5,x9,cG,HU=>if cG<x9 then((mi.f cG HU).bind fun Vw=>(if Vw=true then(if(LS ((x5.length:Int)-1))≥0 then(if 0≤(LS ((x5.length:Int)-1))then(if(LS ((x5.length:Int)-1))<(x5.length:Int)then(if(LS (((aE x5 (LS ((x5.length:Int)-1))).f0)+((aE x5 (LS ((x5.length:Int)-1))).f1)))=cG then(gB.l0 k (x5.set ((LS ((x5.length:Int)-1)):Int).toNat (⟨(aE x5 (LS ((x5.length:Int)-1))).f0,LS (((aE x5 (LS ((x5.length:Int)-1))).f1)+1)⟩:aT)) x9 (LS (cG+1)) HU)else(if x5.length<8796093022208 then(gB.l0 k (x5++[(⟨cG,1⟩:aT)]) x9 (LS (cG+1)) HU)else(none)))else(none))else(none))else(if x5.length<8796093022208 then(gB.l0 k (x5++[(⟨cG,1⟩:aT)]) x9 (LS (cG+1)) HU)else(none)))else(gB.l0 k x5 x9 (LS (cG+1)) HU)))else(some x5)
def gB.f(k:Nat)(a0:Int)(bH:List Bool):Option ((List (aT))):=gB.l0 k (([]:List (aT))) a0 0 bH
theorem gB.dL:∀k,(∀y0 y1 y2 y3,aG (gB.l0 k y0 y1 y2 y3) (gB.l0 (k+1) y0 y1 y2 y3))
 |0=>fun _ _ _ _ r h=>by simp[gB.l0]at h
 |k+1=>by
  have bw:=gB.dL k
  ·
   intro y0 y1 y2 y3;unfold gB.l0
   repeat' with_reducible first|exact bw _ _ _ _|exact aG.refl _|exact aG.none _|refine aG.ite ?_ ?_|refine aG.bind ?_ (fun _=> ?_)
theorem gB.mono:∀a0 a1 k,aG (gB.f k a0 a1) (gB.f (k+1) a0 a1):=by
 intro a0 a1 k;have bw:=gB.dL k;unfold gB.f
 repeat' with_reducible first|exact bw _ _ _ _|exact aG.refl _|exact aG.none _|refine aG.ite ?_ ?_|refine aG.bind ?_ (fun _=> ?_)
set_option maxHeartbeats 8000000 in
set_option maxRecDepth 100000 in
theorem gB.calls(k:Nat)(a0:Int)(dy:Nat)(dQ:Option Addr)(dR:Nat)(bH:List Bool)(r:List (aT))(w:World)(pZ:Kd.C Kd.bool w dQ bH.length bH)(pf:bH.length≤dR)(r9:w.heap[dy]?=some (.cells #[.slice dQ bH.length dR] 66 (0,0)))(h:gB.f k a0 bH=some r):
 Calls aad 38 #[.int .i64 a0,.func (.func 44) #[] #[.pointer (some ⟨dy,0,none⟩)]] w fun e w'=>∃da:Value,e= .returned (da)∧Kd.R bd 38 w' w.heap.size (fun _=>True) da r∧Below w.heap.size w w':=by
 have Jh:=Try.underlying38
 have eg44:=fun(args:Array Value) (w:World)=>H7 (P:=aad) Try.func44 (by kernel_rfl) rfl args w
 have iL:=Ah pZ;have jC:=Ah pf;clear pZ pf;have eP:=Ah r9;clear r9;have HB:=Ah (aaa w.heap.size w);have H:(gB.l0 k (([]:List (aT))) a0 0 bH)=some r:=h;clear h;obtain⟨a5G,J4⟩:∃y_:List (aT),y_=(([]:List (aT))):=⟨_,rfl⟩
 replace H:(gB.l0 k a5G a0 0 bH)=some r:=by first|(rw[J4];with_reducible exact H)|(have aX:=(Mq _ _).symm.trans H;rw[J4];with_reducible exact aX)|(have aX:=(Mq _ _).symm.trans H;with_reducible exact aX)|with_reducible exact H|(rw[J4];exact H)|exact H
 have FF:=Ah J4;clear J4;have H':=Ah H;clear H
 go_enter Try.func38,Try.ntmps38
 go_wp2_with (first|((with_reducible refine ax (N:=8) rfl ?_);refine Kd.wm bd _ 38 ?hg (N:=8) ?hd (xs:=([]:List (aT))) (inner:=[]) (ok:=fun _=>True) (okp:=fun _=>True) ?hr ?hp (fun _ hk=>hk) trivial (aaa _ _) (bx _) (by simp) ?_;(case hd=>rfl);(case hg=>rfl);(case hr=>first|(go_simp;done)|(go_simp;rfl));(case hp=>exact(cj.none _ _));intro a5H w3 gA hb lJ l8;clear lJ l8;(first|rw[←FF.out]at gA|(simp only[aa3]at gA;rw[←FF.out]at gA));have Tp:=Ah (Kd.dD gA (be (bs HB)));replace eP:=Ah (cC (g:=dy) (o:= .cells #[.slice dQ bH.length dR] 66 (0,0)) (bk eP) hb);replace HB:=Ah (aK (bs HB) hb);clear hb gA))
 repeat(go_quiet (first|((with_reducible refine ax (N:=8) rfl ?_);refine Kd.wm bd _ 38 ?hg (N:=8) ?hd (xs:=([]:List (aT))) (inner:=[]) (ok:=fun _=>True) (okp:=fun _=>True) ?hr ?hp (fun _ hk=>hk) trivial (aaa _ _) (bx _) (by simp) ?_;(case hd=>rfl);(case hg=>rfl);(case hr=>first|(go_simp;done)|(go_simp;rfl));(case hp=>exact(cj.none _ _));intro a5H w3 gA hb lJ l8;clear lJ l8;(first|rw[←FF.out]at gA|(simp only[aa3]at gA;rw[←FF.out]at gA));have Tp:=Ah (Kd.dD gA (be (bs HB)));replace eP:=Ah (cC (g:=dy) (o:= .cells #[.slice dQ bH.length dR] 66 (0,0)) (bk eP) hb);replace HB:=Ah (aK (bs HB) hb);clear hb gA));try go_wp2_with (first|((with_reducible refine ax (N:=8) rfl ?_);refine Kd.wm bd _ 38 ?hg (N:=8) ?hd (xs:=([]:List (aT))) (inner:=[]) (ok:=fun _=>True) (okp:=fun _=>True) ?hr ?hp (fun _ hk=>hk) trivial (aaa _ _) (bx _) (by simp) ?_;(case hd=>rfl);(case hg=>rfl);(case hr=>first|(go_simp;done)|(go_simp;rfl));(case hp=>exact(cj.none _ _));intro a5H w3 gA hb lJ l8;clear lJ l8;(first|rw[←FF.out]at gA|(simp only[aa3]at gA;rw[←FF.out]at gA));have Tp:=Ah (Kd.dD gA (be (bs HB)));replace eP:=Ah (cC (g:=dy) (o:= .cells #[.slice dQ bH.length dR] 66 (0,0)) (bk eP) hb);replace HB:=Ah (aK (bs HB) hb);clear hb gA)))
 go_loopg [5,10] k (fun kq v5 v10 w'=>∃ (aA:List (aT)) (aZ:Int),v10= .int .i64 aZ∧U (gB.l0 kq aA a0 aZ bH=some r)∧U (kq≤k)∧U (Kd.R bd 38 w' w.heap.size (fun _=>True) v5 aA)∧U (w'.heap[dy]?=some (.cells #[(.slice dQ bH.length dR)] 66 (0,0)))∧U (Below w.heap.size w w'))
 case atStart=>exact⟨(a5G),(0),e3,H',⟨bx _⟩,⟨rr Tp.out⟩,⟨bk eP⟩,⟨bs HB⟩⟩
 case round=>
  clear H'
  try clear c1
  try clear hx1
  try clear p2
  try clear c3
  try clear r9
  obtain⟨aA,aZ,rfl,HA,bU,bB,eP,HB⟩:=hrel
  cases gk with
  |zero=>exact absurd HA.out (by simp[gB.l0])
  |succ k1=>
   have H:=HA.out;clear HA;simp only[gB.l0]at H
   by_cases c5:aZ<a0
   rotate_left
   ·
    rw[if_neg c5]at H;have oP:decide (aZ<a0)=false:=decide_eq_false c5;clear c5;obtain rfl:=iz H
    go_wp2
    repeat(go_quiet (fail);try go_wp2)
    go_ret
    exact⟨_,er,by(with_reducible repeat(first|apply Kd.bG|apply Kd.bE|apply Kd.al));exact bB.out,bs HB⟩
   rw[if_pos c5]at H;have oP:decide (aZ<a0)=true:=decide_eq_true c5;clear c5;replace H:=LT.mp H;obtain⟨Vw,iw,H⟩:=H
   try dsimp only at H
   have A6:=Ah iw;clear iw
   by_cases c7:Vw=true
   rotate_left
   ·
    replace c7:=dn.mpr c7;subst c7;rw[if_neg dV]at H;have H':=Ah H;clear H
    go_wp2_with (first|(go_at_call 44;(with_reducible refine(mi.calls aZ dy dQ dR bH false _ ?a8 ?a9 ?dm A6.out).mono ?_);(case a8=>exact cb iL HB);(case a9=>exact jC.out);(case dm=>(with_reducible repeat(first|refine aD ?_ _|refine Z ?_|refine aC ?_ _));exact eP.out);rintro e w' ⟨rfl,⟨nd,rfl⟩⟩;(try first|exact⟨rfl,_,nL _ _ _⟩|exact⟨rfl,_,aaT (nL _ _ _) (congrArg (aaB _) (aau _ _ _))⟩)))
    repeat(go_quiet (first|(go_at_call 44;(with_reducible refine(mi.calls aZ dy dQ dR bH false _ ?a8 ?a9 ?dm A6.out).mono ?_);(case a8=>exact cb iL HB);(case a9=>exact jC.out);(case dm=>(with_reducible repeat(first|refine aD ?_ _|refine Z ?_|refine aC ?_ _));exact eP.out);rintro e w' ⟨rfl,⟨nd,rfl⟩⟩;(try first|exact⟨rfl,_,nL _ _ _⟩|exact⟨rfl,_,aaT (nL _ _ _) (congrArg (aaB _) (aau _ _ _))⟩)));try go_wp2_with (first|(go_at_call 44;(with_reducible refine(mi.calls aZ dy dQ dR bH false _ ?a8 ?a9 ?dm A6.out).mono ?_);(case a8=>exact cb iL HB);(case a9=>exact jC.out);(case dm=>(with_reducible repeat(first|refine aD ?_ _|refine Z ?_|refine aC ?_ _));exact eP.out);rintro e w' ⟨rfl,⟨nd,rfl⟩⟩;(try first|exact⟨rfl,_,nL _ _ _⟩|exact⟨rfl,_,aaT (nL _ _ _) (congrArg (aaB _) (aau _ _ _))⟩))))
    go_roundg k1
    case measure=>have:=bU.out;omega
    case rel=>exact⟨(aA),(LS (aZ+1)),e3,H',⟨by have:=bU.out;omega⟩,⟨rr bB.out⟩,⟨bk eP⟩,⟨bs HB⟩⟩
   subst c7;rw[if_pos rfl]at H
   by_cases c8:(LS ((aA.length:Int)-1))≥0
   rotate_left
   ·
    rw[if_neg c8]at H;have nC:decide (0≤(LS ((aA.length:Int)-1)))=false:=decide_eq_false c8;clear c8
    by_cases c20:aA.length<8796093022208
    rotate_left
    ·
     rw[if_neg c20]at H;exact absurd H (by simp)
    rw[if_pos c20]at H;have CQ:=Ah c20;clear c20;obtain⟨a5I,J5⟩:∃y_:List (aT),y_=(aA++[(⟨aZ,1⟩:aT)]):=⟨_,rfl⟩
    replace H:(gB.l0 k1 a5I a0 (LS (aZ+1)) bH)=some r:=by first|(rw[J5];with_reducible exact H)|(have aX:=(Mq _ _).symm.trans H;rw[J5];with_reducible exact aX)|(have aX:=(Mq _ _).symm.trans H;with_reducible exact aX)|with_reducible exact H|(rw[J5];exact H)|exact H
    have Tq:=Ah J5;clear J5;have H':=Ah H;clear H
    go_wp2_with (first|(go_at_call 44;(with_reducible refine(mi.calls aZ dy dQ dR bH true _ ?a8 ?a9 ?dm A6.out).mono ?_);(case a8=>exact cb iL HB);(case a9=>exact jC.out);(case dm=>(with_reducible repeat(first|refine aD ?_ _|refine Z ?_|refine aC ?_ _));exact eP.out);rintro e w' ⟨rfl,⟨nd,rfl⟩⟩;(try first|exact⟨rfl,_,nL _ _ _⟩|exact⟨rfl,_,aaT (nL _ _ _) (congrArg (aaB _) (aau _ _ _))⟩);obtain⟨gI,fv,nD⟩:=Kd.bq bB.out;subst nD)|((with_reducible refine eS (b:= .append) (xs:= #[.tmp 45,.tmp 48]) rfl ?_);at_builtin;refine Kd.gX bd (w0:=w) w.heap.size rfl (.tmp 45) (.tmp 48) 28 38 (.agg #[(.int .i64 0),(.int .i64 0)]) 16 rfl aaq jN rfl (by decide) (by omega) (.slice gI aA.length fv) aA (⟨aZ,1⟩:aT) [.int .i64 aZ,.int .i64 1] (fun _=>True) (fun _=>False) rfl rfl ?aP (fun _ hk=>hk.elim) ?aF ?aO ?aB ?aS ?aL ?_;(case aP=>exact iE _ _ _ (⟨aZ,1⟩:aT));(case aB=>exact(bs HB));(case aF=>exact(fun _ _=>trivial));(case aO=>exact(rr bB.out));(case aS=>exact(be (bs HB)));(case aL=>have:=CQ.out;omega);intro a5J kt ho hb hg hat;rw[←Tq.out]at ho;replace eP:=Ah (cX (g:=dy) (o:= .cells #[.slice dQ bH.length dR] 66 (0,0)) (bk eP) hg (Kd.eD bB.out eP.out (by decide)));replace HB:=Ah (hb);have Tr:=Ah (ho);clear bB;clear ho hb hg hat))
    repeat(go_quiet (first|(go_at_call 44;(with_reducible refine(mi.calls aZ dy dQ dR bH true _ ?a8 ?a9 ?dm A6.out).mono ?_);(case a8=>exact cb iL HB);(case a9=>exact jC.out);(case dm=>(with_reducible repeat(first|refine aD ?_ _|refine Z ?_|refine aC ?_ _));exact eP.out);rintro e w' ⟨rfl,⟨nd,rfl⟩⟩;(try first|exact⟨rfl,_,nL _ _ _⟩|exact⟨rfl,_,aaT (nL _ _ _) (congrArg (aaB _) (aau _ _ _))⟩);obtain⟨gI,fv,nD⟩:=Kd.bq bB.out;subst nD)|((with_reducible refine eS (b:= .append) (xs:= #[.tmp 45,.tmp 48]) rfl ?_);at_builtin;refine Kd.gX bd (w0:=w) w.heap.size rfl (.tmp 45) (.tmp 48) 28 38 (.agg #[(.int .i64 0),(.int .i64 0)]) 16 rfl aaq jN rfl (by decide) (by omega) (.slice gI aA.length fv) aA (⟨aZ,1⟩:aT) [.int .i64 aZ,.int .i64 1] (fun _=>True) (fun _=>False) rfl rfl ?aP (fun _ hk=>hk.elim) ?aF ?aO ?aB ?aS ?aL ?_;(case aP=>exact iE _ _ _ (⟨aZ,1⟩:aT));(case aB=>exact(bs HB));(case aF=>exact(fun _ _=>trivial));(case aO=>exact(rr bB.out));(case aS=>exact(be (bs HB)));(case aL=>have:=CQ.out;omega);intro a5J kt ho hb hg hat;rw[←Tq.out]at ho;replace eP:=Ah (cX (g:=dy) (o:= .cells #[.slice dQ bH.length dR] 66 (0,0)) (bk eP) hg (Kd.eD bB.out eP.out (by decide)));replace HB:=Ah (hb);have Tr:=Ah (ho);clear bB;clear ho hb hg hat));try go_wp2_with (first|(go_at_call 44;(with_reducible refine(mi.calls aZ dy dQ dR bH true _ ?a8 ?a9 ?dm A6.out).mono ?_);(case a8=>exact cb iL HB);(case a9=>exact jC.out);(case dm=>(with_reducible repeat(first|refine aD ?_ _|refine Z ?_|refine aC ?_ _));exact eP.out);rintro e w' ⟨rfl,⟨nd,rfl⟩⟩;(try first|exact⟨rfl,_,nL _ _ _⟩|exact⟨rfl,_,aaT (nL _ _ _) (congrArg (aaB _) (aau _ _ _))⟩);obtain⟨gI,fv,nD⟩:=Kd.bq bB.out;subst nD)|((with_reducible refine eS (b:= .append) (xs:= #[.tmp 45,.tmp 48]) rfl ?_);at_builtin;refine Kd.gX bd (w0:=w) w.heap.size rfl (.tmp 45) (.tmp 48) 28 38 (.agg #[(.int .i64 0),(.int .i64 0)]) 16 rfl aaq jN rfl (by decide) (by omega) (.slice gI aA.length fv) aA (⟨aZ,1⟩:aT) [.int .i64 aZ,.int .i64 1] (fun _=>True) (fun _=>False) rfl rfl ?aP (fun _ hk=>hk.elim) ?aF ?aO ?aB ?aS ?aL ?_;(case aP=>exact iE _ _ _ (⟨aZ,1⟩:aT));(case aB=>exact(bs HB));(case aF=>exact(fun _ _=>trivial));(case aO=>exact(rr bB.out));(case aS=>exact(be (bs HB)));(case aL=>have:=CQ.out;omega);intro a5J kt ho hb hg hat;rw[←Tq.out]at ho;replace eP:=Ah (cX (g:=dy) (o:= .cells #[.slice dQ bH.length dR] 66 (0,0)) (bk eP) hg (Kd.eD bB.out eP.out (by decide)));replace HB:=Ah (hb);have Tr:=Ah (ho);clear bB;clear ho hb hg hat)))
    go_roundg k1
    case measure=>have:=bU.out;omega
    case rel=>exact⟨(a5I),(LS (aZ+1)),e3,H',⟨by have:=bU.out;omega⟩,⟨rr Tr.out⟩,⟨bk eP⟩,⟨bs HB⟩⟩
   rw[if_pos c8]at H;have nC:decide (0≤(LS ((aA.length:Int)-1)))=true:=decide_eq_true c8;clear c8;obtain⟨aI,uF⟩:∃j_:Int,(LS ((aA.length:Int)-1))=j_:=⟨_,rfl⟩
   replace H:(if 0≤(aI)then(if(aI)<(aA.length:Int)then(if(LS (((aE aA (aI)).f0)+((aE aA (aI)).f1)))=aZ then(gB.l0 k1 (aA.set ((aI):Int).toNat (⟨(aE aA (aI)).f0,LS (((aE aA (aI)).f1)+1)⟩:aT)) a0 (LS (aZ+1)) bH)else(if aA.length<8796093022208 then(gB.l0 k1 (aA++[(⟨aZ,1⟩:aT)]) a0 (LS (aZ+1)) bH)else(none)))else(none))else(none))=some r:=by first|(rw[uF]at H;exact H)|(simp only[uF]at H⊢;exact H)
   (try rw[uF]at nC);(try rw[uF]at A6);have hji9w:(abf.wrap ((aA.length:Int)-1))=aI:=(cz _).trans uF
   by_cases c10:0≤(aI)
   rotate_left
   ·
    rw[if_neg c10]at H;exact absurd H (by simp)
   rw[if_pos c10]at H;have nZ:decide (0≤(aI))=true:=decide_eq_true c10;clear c10
   by_cases c11:(aI)<(aA.length:Int)
   rotate_left
   ·
    rw[if_neg c11]at H;exact absurd H (by simp)
   rw[if_pos c11]at H;have xC:decide ((aI)<(aA.length:Int))=true:=decide_eq_true c11;clear c11
   by_cases c12:(LS (((aE aA (aI)).f0)+((aE aA (aI)).f1)))=aZ
   rotate_left
   ·
    rw[if_neg c12]at H;have jR:((LS (((aE aA (aI)).f0)+((aE aA (aI)).f1)))==aZ)=false:=beq_eq_false_iff_ne.mpr c12;have vO:((LS (((aE aA (aI)).f0)+((aE aA (aI)).f1))) !=aZ)=true:=bne_iff_ne.mpr c12
    by_cases c17:aA.length<8796093022208
    rotate_left
    ·
     rw[if_neg c17]at H;exact absurd H (by simp)
    rw[if_pos c17]at H;have xD:=Ah c17;clear c17;obtain⟨a5K,J6⟩:∃y_:List (aT),y_=(aA++[(⟨aZ,1⟩:aT)]):=⟨_,rfl⟩
    replace H:(gB.l0 k1 a5K a0 (LS (aZ+1)) bH)=some r:=by first|(rw[J6];with_reducible exact H)|(have aX:=(Mq _ _).symm.trans H;rw[J6];with_reducible exact aX)|(have aX:=(Mq _ _).symm.trans H;with_reducible exact aX)|with_reducible exact H|(rw[J6];exact H)|exact H
    have Ts:=Ah J6;clear J6;have H':=Ah H;clear H
    go_wp2_with (first|(go_at_call 44;(with_reducible refine(mi.calls aZ dy dQ dR bH true _ ?a8 ?a9 ?dm A6.out).mono ?_);(case a8=>exact cb iL HB);(case a9=>exact jC.out);(case dm=>(with_reducible repeat(first|refine aD ?_ _|refine Z ?_|refine aC ?_ _));exact eP.out);rintro e w' ⟨rfl,⟨nd,rfl⟩⟩;(try first|exact⟨rfl,_,nL _ _ _⟩|exact⟨rfl,_,aaT (nL _ _ _) (congrArg (aaB _) (aau _ _ _))⟩);obtain⟨zy,py,rS⟩:=Kd.bq bB.out;subst rS;have kM:0≤((aI):Int):=od;have kN:(aI)<(aA.length:Int):=od;obtain⟨n5,uG,yr,yt⟩:=fE (Kd.af bB.out).2.2 (aI) kM kN;cases uG;replace kM:=eq_true kM;replace kN:=eq_true kN;have kO:0≤((aI):Int):=od;have kP:(aI)<(aA.length:Int):=od;obtain⟨tg,uH,yu,yv⟩:=fE (Kd.af bB.out).2.2 (aI) kO kP;obtain rfl:n5=tg:=(by injection uH);replace kO:=eq_true kO;replace kP:=eq_true kP)|((with_reducible refine eS (b:= .append) (xs:= #[.tmp 45,.tmp 48]) rfl ?_);at_builtin;refine Kd.gX bd (w0:=w) w.heap.size rfl (.tmp 45) (.tmp 48) 28 38 (.agg #[(.int .i64 0),(.int .i64 0)]) 16 rfl aaq jN rfl (by decide) (by omega) (.slice (some n5) aA.length py) aA (⟨aZ,1⟩:aT) [.int .i64 aZ,.int .i64 1] (fun _=>True) (fun _=>False) rfl rfl ?aP (fun _ hk=>hk.elim) ?aF ?aO ?aB ?aS ?aL ?_;(case aP=>exact iE _ _ _ (⟨aZ,1⟩:aT));(case aB=>exact(bs HB));(case aF=>exact(fun _ _=>trivial));(case aO=>exact(rr bB.out));(case aS=>exact(be (bs HB)));(case aL=>have:=xD.out;omega);intro a5L jl ho hb hg hat;rw[←Ts.out]at ho;replace eP:=Ah (cX (g:=dy) (o:= .cells #[.slice dQ bH.length dR] 66 (0,0)) (bk eP) hg (Kd.eD bB.out eP.out (by decide)));replace HB:=Ah (hb);have Tt:=Ah (ho);clear bB;clear ho hb hg hat))
    repeat(go_quiet (first|(go_at_call 44;(with_reducible refine(mi.calls aZ dy dQ dR bH true _ ?a8 ?a9 ?dm A6.out).mono ?_);(case a8=>exact cb iL HB);(case a9=>exact jC.out);(case dm=>(with_reducible repeat(first|refine aD ?_ _|refine Z ?_|refine aC ?_ _));exact eP.out);rintro e w' ⟨rfl,⟨nd,rfl⟩⟩;(try first|exact⟨rfl,_,nL _ _ _⟩|exact⟨rfl,_,aaT (nL _ _ _) (congrArg (aaB _) (aau _ _ _))⟩);obtain⟨zy,py,rS⟩:=Kd.bq bB.out;subst rS;have kM:0≤((aI):Int):=od;have kN:(aI)<(aA.length:Int):=od;obtain⟨n5,uG,yr,yt⟩:=fE (Kd.af bB.out).2.2 (aI) kM kN;cases uG;replace kM:=eq_true kM;replace kN:=eq_true kN;have kO:0≤((aI):Int):=od;have kP:(aI)<(aA.length:Int):=od;obtain⟨tg,uH,yu,yv⟩:=fE (Kd.af bB.out).2.2 (aI) kO kP;obtain rfl:n5=tg:=(by injection uH);replace kO:=eq_true kO;replace kP:=eq_true kP)|((with_reducible refine eS (b:= .append) (xs:= #[.tmp 45,.tmp 48]) rfl ?_);at_builtin;refine Kd.gX bd (w0:=w) w.heap.size rfl (.tmp 45) (.tmp 48) 28 38 (.agg #[(.int .i64 0),(.int .i64 0)]) 16 rfl aaq jN rfl (by decide) (by omega) (.slice (some n5) aA.length py) aA (⟨aZ,1⟩:aT) [.int .i64 aZ,.int .i64 1] (fun _=>True) (fun _=>False) rfl rfl ?aP (fun _ hk=>hk.elim) ?aF ?aO ?aB ?aS ?aL ?_;(case aP=>exact iE _ _ _ (⟨aZ,1⟩:aT));(case aB=>exact(bs HB));(case aF=>exact(fun _ _=>trivial));(case aO=>exact(rr bB.out));(case aS=>exact(be (bs HB)));(case aL=>have:=xD.out;omega);intro a5L jl ho hb hg hat;rw[←Ts.out]at ho;replace eP:=Ah (cX (g:=dy) (o:= .cells #[.slice dQ bH.length dR] 66 (0,0)) (bk eP) hg (Kd.eD bB.out eP.out (by decide)));replace HB:=Ah (hb);have Tt:=Ah (ho);clear bB;clear ho hb hg hat));try go_wp2_with (first|(go_at_call 44;(with_reducible refine(mi.calls aZ dy dQ dR bH true _ ?a8 ?a9 ?dm A6.out).mono ?_);(case a8=>exact cb iL HB);(case a9=>exact jC.out);(case dm=>(with_reducible repeat(first|refine aD ?_ _|refine Z ?_|refine aC ?_ _));exact eP.out);rintro e w' ⟨rfl,⟨nd,rfl⟩⟩;(try first|exact⟨rfl,_,nL _ _ _⟩|exact⟨rfl,_,aaT (nL _ _ _) (congrArg (aaB _) (aau _ _ _))⟩);obtain⟨zy,py,rS⟩:=Kd.bq bB.out;subst rS;have kM:0≤((aI):Int):=od;have kN:(aI)<(aA.length:Int):=od;obtain⟨n5,uG,yr,yt⟩:=fE (Kd.af bB.out).2.2 (aI) kM kN;cases uG;replace kM:=eq_true kM;replace kN:=eq_true kN;have kO:0≤((aI):Int):=od;have kP:(aI)<(aA.length:Int):=od;obtain⟨tg,uH,yu,yv⟩:=fE (Kd.af bB.out).2.2 (aI) kO kP;obtain rfl:n5=tg:=(by injection uH);replace kO:=eq_true kO;replace kP:=eq_true kP)|((with_reducible refine eS (b:= .append) (xs:= #[.tmp 45,.tmp 48]) rfl ?_);at_builtin;refine Kd.gX bd (w0:=w) w.heap.size rfl (.tmp 45) (.tmp 48) 28 38 (.agg #[(.int .i64 0),(.int .i64 0)]) 16 rfl aaq jN rfl (by decide) (by omega) (.slice (some n5) aA.length py) aA (⟨aZ,1⟩:aT) [.int .i64 aZ,.int .i64 1] (fun _=>True) (fun _=>False) rfl rfl ?aP (fun _ hk=>hk.elim) ?aF ?aO ?aB ?aS ?aL ?_;(case aP=>exact iE _ _ _ (⟨aZ,1⟩:aT));(case aB=>exact(bs HB));(case aF=>exact(fun _ _=>trivial));(case aO=>exact(rr bB.out));(case aS=>exact(be (bs HB)));(case aL=>have:=xD.out;omega);intro a5L jl ho hb hg hat;rw[←Ts.out]at ho;replace eP:=Ah (cX (g:=dy) (o:= .cells #[.slice dQ bH.length dR] 66 (0,0)) (bk eP) hg (Kd.eD bB.out eP.out (by decide)));replace HB:=Ah (hb);have Tt:=Ah (ho);clear bB;clear ho hb hg hat)))
    go_roundg k1
    case measure=>have:=bU.out;omega
    case rel=>exact⟨(a5K),(LS (aZ+1)),e3,H',⟨by have:=bU.out;omega⟩,⟨rr Tt.out⟩,⟨bk eP⟩,⟨bs HB⟩⟩
   rw[if_pos c12]at H;have jR:((LS (((aE aA (aI)).f0)+((aE aA (aI)).f1)))==aZ)=true:=beq_iff_eq.mpr c12;have vO:((LS (((aE aA (aI)).f0)+((aE aA (aI)).f1))) !=aZ)=false:=bne_eq_false_iff_eq.mpr c12;clear c12;obtain⟨Kh,J7⟩:∃y_:List (aT),y_=(aA.set ((aI):Int).toNat (⟨(aE aA (aI)).f0,LS (((aE aA (aI)).f1)+1)⟩:aT)):=⟨_,rfl⟩
   replace H:(gB.l0 k1 Kh a0 (LS (aZ+1)) bH)=some r:=by first|(rw[J7];with_reducible exact H)|(have aX:=(Mq _ _).symm.trans H;rw[J7];with_reducible exact aX)|(have aX:=(Mq _ _).symm.trans H;with_reducible exact aX)|with_reducible exact H|(rw[J7];exact H)|exact H
   have Tu:=Ah J7;clear J7;have H':=Ah H;clear H
   go_wp2_with (first|(go_at_call 44;(with_reducible refine(mi.calls aZ dy dQ dR bH true _ ?a8 ?a9 ?dm A6.out).mono ?_);(case a8=>exact cb iL HB);(case a9=>exact jC.out);(case dm=>(with_reducible repeat(first|refine aD ?_ _|refine Z ?_|refine aC ?_ _));exact eP.out);rintro e w' ⟨rfl,⟨nd,rfl⟩⟩;(try first|exact⟨rfl,_,nL _ _ _⟩|exact⟨rfl,_,aaT (nL _ _ _) (congrArg (aaB _) (aau _ _ _))⟩);obtain⟨dI,cd,ni⟩:=Kd.bq bB.out;subst ni;have kM:0≤((aI):Int):=od;have kN:(aI)<(aA.length:Int):=od;obtain⟨n5,uG,yr,yt⟩:=fE (Kd.af bB.out).2.2 (aI) kM kN;cases uG;replace kM:=eq_true kM;replace kN:=eq_true kN;have kO:0≤((aI):Int):=od;have kP:(aI)<(aA.length:Int):=od;obtain⟨tg,uH,yu,yv⟩:=fE (Kd.af bB.out).2.2 (aI) kO kP;obtain rfl:n5=tg:=(by injection uH);replace kO:=eq_true kO;replace kP:=eq_true kP;have uI:0≤((aI):Int):=od;have uJ:(aI)<(aA.length:Int):=od;obtain⟨J8,Ki,HV,HW⟩:=fE (Kd.af bB.out).2.2 (aI) uI uJ;obtain rfl:n5=J8:=(by injection Ki);replace uI:=eq_true uI;replace uJ:=eq_true uJ;have kg:0≤((aI):Int):=od;have ki:((aI):Int)<((aA.length:Int):Int):=od;obtain⟨eL,Kj,nE,nF,uK,Kk,nG⟩:=Kd.nW bB.out (by omega);(first|cases nE|(injection nE with dB iV iW;(first|subst dB|(injection dB with dB;subst dB));subst iW;clear iV));have uL:=Ah nF;have Kl:=Ah nG;clear nF uK nG;(first|simp only[db]at yr|skip);(first|simp only[db]at yt|skip);(first|simp only[db]at yu|skip);(first|simp only[db]at yv|skip);(first|simp only[db]at HV|skip);(first|simp only[db]at HW|skip);obtain⟨Km,th,nH,kG,kH⟩:=Kd.hJ bB.out kW ((aI):Int) kg ki;obtain rfl:=lN nH;have Hr:wr.cell? ⟨eL,((aI):Int).toNat*2,none⟩=some (.int .i64 ((aE aA (aI)).f0)):=kG 0 _ rfl;have Hs:wr.cell? ⟨eL,((aI):Int).toNat*2+1,none⟩=some (.int .i64 ((aE aA (aI)).f1)):=kG 1 _ rfl;have Ht:wr.frozen? ⟨eL,((aI):Int).toNat*2,none⟩=false:=kH 0;have Hu:wr.frozen? ⟨eL,((aI):Int).toNat*2+1,none⟩=false:=kH 1;clear th kG kH nH;replace kg:=eq_true kg;replace ki:=eq_true ki;have gu:=Ah (show Kd.R bd 38 wr w.heap.size (fun _=>True) (.slice (some ⟨eL,0,none⟩) aA.length cd) aA from(rr bB.out));obtain⟨uM,gr,gv,fV,gt⟩:=Kd.hJ gu.out kW ((aI):Int) (od) (by have h_:((aI):Int)<((aA.length:Int):Int):=od;first|exact h_|(have e_:=(Kd.af bB.out).1;omega)|simpa using h_);obtain rfl:=lN gv;have ir:=Kd.lT gu.out ((aI):Int) (od) (by have h_:((aI):Int)<((aA.length:Int):Int):=od;first|exact h_|(have e_:=(Kd.af bB.out).1;omega)|simpa using h_) (seg:=[.int .i64 (LS (((aE aA (aI)).f1)+1))]) (j:=1) gr fV (show 2≤2 from by decide) (x':=(⟨(aE aA (aI)).f0,LS (((aE aA (aI)).f1)+1)⟩:aT)) (iE _ _ _ (⟨(aE aA (aI)).f0,LS (((aE aA (aI)).f1)+1)⟩:aT)) (fun _ hk=>hk);have k9:=fV 1 _ rfl;(try simp only[show(bd).sz=2 from rfl,aao,aal]at k9);have kA:=gt 1;(try simp only[show(bd).sz=2 from rfl,aao,aal]at kA);clear gr fV gt gv)|((with_reducible refine rl (t:=3) (p:=44) rfl ?_);(try(rw[E3 wr];generalize iy:aaB wr _=wr;replace bB:=Ah (Kd.FS iy bB.out);replace eP:=Ah (Eg iy eP.out);replace HB:=Ah (EC iy HB.out);clear iy;(try(have gu:=Ah (show Kd.R bd 38 wr w.heap.size (fun _=>True) (.slice (some ⟨eL,0,none⟩) aA.length cd) aA from(rr bB.out))));(try(obtain⟨uM,gr,gv,fV,gt⟩:=Kd.hJ gu.out kW ((aI):Int) (od) (by have h_:((aI):Int)<((aA.length:Int):Int):=od;first|exact h_|(have e_:=(Kd.af bB.out).1;omega)|simpa using h_)));(try(obtain rfl:=lN gv));(try(have ir:=Kd.lT gu.out ((aI):Int) (od) (by have h_:((aI):Int)<((aA.length:Int):Int):=od;first|exact h_|(have e_:=(Kd.af bB.out).1;omega)|simpa using h_) (seg:=[.int .i64 (LS (((aE aA (aI)).f1)+1))]) (j:=1) gr fV (show 2≤2 from by decide) (x':=(⟨(aE aA (aI)).f0,LS (((aE aA (aI)).f1)+1)⟩:aT)) (iE _ _ _ (⟨(aE aA (aI)).f0,LS (((aE aA (aI)).f1)+1)⟩:aT)) (fun _ hk=>hk)));(try(have k9:=fV 1 _ rfl));(try(try simp only[show(bd).sz=2 from rfl,aao,aal]at k9));(try(have kA:=gt 1));(try(try simp only[show(bd).sz=2 from rfl,aao,aal]at kA));(try(clear gr fV gt gv))));refine rk (t:=3) (p:=44) (v:= ?vo_w16) (w1:=(wr.setCell ⟨eL,((aI):Int).toNat*2+1,none⟩ (.int .i64 (LS (((aE aA (aI)).f1)+1))))) ?hg ?ho ?hn ?hr ?_;(case ho=>rfl);(case hg=>rfl);(case hn=>rfl);(case hr=>first|(go_simp;done)|(go_simp;rfl));intro w16 hw;have hg:wr.grownBy w16 (some eL):=(by rw[hw];exact ir.2);have iR:Kd.R bd 38 w16 w.heap.size (fun _=>True) (.slice (some ⟨eL,0,none⟩) aA.length cd) Kh:=(by rw[hw,Tu.out];exact ir.1);clear ir;replace eP:=Ah (cX (g:=dy) (o:= .cells #[.slice dQ bH.length dR] 66 (0,0)) (bk eP) hg (Kd.eD bB.out eP.out (by decide)));replace bB:=Ah (iR);replace HB:=Ah ((by rw[hw];exact cF (HB.out) uL.out:Below w.heap.size w w16));clear hg hw iR))
   repeat(go_quiet (first|(go_at_call 44;(with_reducible refine(mi.calls aZ dy dQ dR bH true _ ?a8 ?a9 ?dm A6.out).mono ?_);(case a8=>exact cb iL HB);(case a9=>exact jC.out);(case dm=>(with_reducible repeat(first|refine aD ?_ _|refine Z ?_|refine aC ?_ _));exact eP.out);rintro e w' ⟨rfl,⟨nd,rfl⟩⟩;(try first|exact⟨rfl,_,nL _ _ _⟩|exact⟨rfl,_,aaT (nL _ _ _) (congrArg (aaB _) (aau _ _ _))⟩);obtain⟨dI,cd,ni⟩:=Kd.bq bB.out;subst ni;have kM:0≤((aI):Int):=od;have kN:(aI)<(aA.length:Int):=od;obtain⟨n5,uG,yr,yt⟩:=fE (Kd.af bB.out).2.2 (aI) kM kN;cases uG;replace kM:=eq_true kM;replace kN:=eq_true kN;have kO:0≤((aI):Int):=od;have kP:(aI)<(aA.length:Int):=od;obtain⟨tg,uH,yu,yv⟩:=fE (Kd.af bB.out).2.2 (aI) kO kP;obtain rfl:n5=tg:=(by injection uH);replace kO:=eq_true kO;replace kP:=eq_true kP;have uI:0≤((aI):Int):=od;have uJ:(aI)<(aA.length:Int):=od;obtain⟨J8,Ki,HV,HW⟩:=fE (Kd.af bB.out).2.2 (aI) uI uJ;obtain rfl:n5=J8:=(by injection Ki);replace uI:=eq_true uI;replace uJ:=eq_true uJ;have kg:0≤((aI):Int):=od;have ki:((aI):Int)<((aA.length:Int):Int):=od;obtain⟨eL,Kj,nE,nF,uK,Kk,nG⟩:=Kd.nW bB.out (by omega);(first|cases nE|(injection nE with dB iV iW;(first|subst dB|(injection dB with dB;subst dB));subst iW;clear iV));have uL:=Ah nF;have Kl:=Ah nG;clear nF uK nG;(first|simp only[db]at yr|skip);(first|simp only[db]at yt|skip);(first|simp only[db]at yu|skip);(first|simp only[db]at yv|skip);(first|simp only[db]at HV|skip);(first|simp only[db]at HW|skip);obtain⟨Km,th,nH,kG,kH⟩:=Kd.hJ bB.out kW ((aI):Int) kg ki;obtain rfl:=lN nH;have Hr:wr.cell? ⟨eL,((aI):Int).toNat*2,none⟩=some (.int .i64 ((aE aA (aI)).f0)):=kG 0 _ rfl;have Hs:wr.cell? ⟨eL,((aI):Int).toNat*2+1,none⟩=some (.int .i64 ((aE aA (aI)).f1)):=kG 1 _ rfl;have Ht:wr.frozen? ⟨eL,((aI):Int).toNat*2,none⟩=false:=kH 0;have Hu:wr.frozen? ⟨eL,((aI):Int).toNat*2+1,none⟩=false:=kH 1;clear th kG kH nH;replace kg:=eq_true kg;replace ki:=eq_true ki;have gu:=Ah (show Kd.R bd 38 wr w.heap.size (fun _=>True) (.slice (some ⟨eL,0,none⟩) aA.length cd) aA from(rr bB.out));obtain⟨uM,gr,gv,fV,gt⟩:=Kd.hJ gu.out kW ((aI):Int) (od) (by have h_:((aI):Int)<((aA.length:Int):Int):=od;first|exact h_|(have e_:=(Kd.af bB.out).1;omega)|simpa using h_);obtain rfl:=lN gv;have ir:=Kd.lT gu.out ((aI):Int) (od) (by have h_:((aI):Int)<((aA.length:Int):Int):=od;first|exact h_|(have e_:=(Kd.af bB.out).1;omega)|simpa using h_) (seg:=[.int .i64 (LS (((aE aA (aI)).f1)+1))]) (j:=1) gr fV (show 2≤2 from by decide) (x':=(⟨(aE aA (aI)).f0,LS (((aE aA (aI)).f1)+1)⟩:aT)) (iE _ _ _ (⟨(aE aA (aI)).f0,LS (((aE aA (aI)).f1)+1)⟩:aT)) (fun _ hk=>hk);have k9:=fV 1 _ rfl;(try simp only[show(bd).sz=2 from rfl,aao,aal]at k9);have kA:=gt 1;(try simp only[show(bd).sz=2 from rfl,aao,aal]at kA);clear gr fV gt gv)|((with_reducible refine rl (t:=3) (p:=44) rfl ?_);(try(rw[E3 wr];generalize iy:aaB wr _=wr;replace bB:=Ah (Kd.FS iy bB.out);replace eP:=Ah (Eg iy eP.out);replace HB:=Ah (EC iy HB.out);clear iy;(try(have gu:=Ah (show Kd.R bd 38 wr w.heap.size (fun _=>True) (.slice (some ⟨eL,0,none⟩) aA.length cd) aA from(rr bB.out))));(try(obtain⟨uM,gr,gv,fV,gt⟩:=Kd.hJ gu.out kW ((aI):Int) (od) (by have h_:((aI):Int)<((aA.length:Int):Int):=od;first|exact h_|(have e_:=(Kd.af bB.out).1;omega)|simpa using h_)));(try(obtain rfl:=lN gv));(try(have ir:=Kd.lT gu.out ((aI):Int) (od) (by have h_:((aI):Int)<((aA.length:Int):Int):=od;first|exact h_|(have e_:=(Kd.af bB.out).1;omega)|simpa using h_) (seg:=[.int .i64 (LS (((aE aA (aI)).f1)+1))]) (j:=1) gr fV (show 2≤2 from by decide) (x':=(⟨(aE aA (aI)).f0,LS (((aE aA (aI)).f1)+1)⟩:aT)) (iE _ _ _ (⟨(aE aA (aI)).f0,LS (((aE aA (aI)).f1)+1)⟩:aT)) (fun _ hk=>hk)));(try(have k9:=fV 1 _ rfl));(try(try simp only[show(bd).sz=2 from rfl,aao,aal]at k9));(try(have kA:=gt 1));(try(try simp only[show(bd).sz=2 from rfl,aao,aal]at kA));(try(clear gr fV gt gv))));refine rk (t:=3) (p:=44) (v:= ?vo_w16) (w1:=(wr.setCell ⟨eL,((aI):Int).toNat*2+1,none⟩ (.int .i64 (LS (((aE aA (aI)).f1)+1))))) ?hg ?ho ?hn ?hr ?_;(case ho=>rfl);(case hg=>rfl);(case hn=>rfl);(case hr=>first|(go_simp;done)|(go_simp;rfl));intro w16 hw;have hg:wr.grownBy w16 (some eL):=(by rw[hw];exact ir.2);have iR:Kd.R bd 38 w16 w.heap.size (fun _=>True) (.slice (some ⟨eL,0,none⟩) aA.length cd) Kh:=(by rw[hw,Tu.out];exact ir.1);clear ir;replace eP:=Ah (cX (g:=dy) (o:= .cells #[.slice dQ bH.length dR] 66 (0,0)) (bk eP) hg (Kd.eD bB.out eP.out (by decide)));replace bB:=Ah (iR);replace HB:=Ah ((by rw[hw];exact cF (HB.out) uL.out:Below w.heap.size w w16));clear hg hw iR));try go_wp2_with (first|(go_at_call 44;(with_reducible refine(mi.calls aZ dy dQ dR bH true _ ?a8 ?a9 ?dm A6.out).mono ?_);(case a8=>exact cb iL HB);(case a9=>exact jC.out);(case dm=>(with_reducible repeat(first|refine aD ?_ _|refine Z ?_|refine aC ?_ _));exact eP.out);rintro e w' ⟨rfl,⟨nd,rfl⟩⟩;(try first|exact⟨rfl,_,nL _ _ _⟩|exact⟨rfl,_,aaT (nL _ _ _) (congrArg (aaB _) (aau _ _ _))⟩);obtain⟨dI,cd,ni⟩:=Kd.bq bB.out;subst ni;have kM:0≤((aI):Int):=od;have kN:(aI)<(aA.length:Int):=od;obtain⟨n5,uG,yr,yt⟩:=fE (Kd.af bB.out).2.2 (aI) kM kN;cases uG;replace kM:=eq_true kM;replace kN:=eq_true kN;have kO:0≤((aI):Int):=od;have kP:(aI)<(aA.length:Int):=od;obtain⟨tg,uH,yu,yv⟩:=fE (Kd.af bB.out).2.2 (aI) kO kP;obtain rfl:n5=tg:=(by injection uH);replace kO:=eq_true kO;replace kP:=eq_true kP;have uI:0≤((aI):Int):=od;have uJ:(aI)<(aA.length:Int):=od;obtain⟨J8,Ki,HV,HW⟩:=fE (Kd.af bB.out).2.2 (aI) uI uJ;obtain rfl:n5=J8:=(by injection Ki);replace uI:=eq_true uI;replace uJ:=eq_true uJ;have kg:0≤((aI):Int):=od;have ki:((aI):Int)<((aA.length:Int):Int):=od;obtain⟨eL,Kj,nE,nF,uK,Kk,nG⟩:=Kd.nW bB.out (by omega);(first|cases nE|(injection nE with dB iV iW;(first|subst dB|(injection dB with dB;subst dB));subst iW;clear iV));have uL:=Ah nF;have Kl:=Ah nG;clear nF uK nG;(first|simp only[db]at yr|skip);(first|simp only[db]at yt|skip);(first|simp only[db]at yu|skip);(first|simp only[db]at yv|skip);(first|simp only[db]at HV|skip);(first|simp only[db]at HW|skip);obtain⟨Km,th,nH,kG,kH⟩:=Kd.hJ bB.out kW ((aI):Int) kg ki;obtain rfl:=lN nH;have Hr:wr.cell? ⟨eL,((aI):Int).toNat*2,none⟩=some (.int .i64 ((aE aA (aI)).f0)):=kG 0 _ rfl;have Hs:wr.cell? ⟨eL,((aI):Int).toNat*2+1,none⟩=some (.int .i64 ((aE aA (aI)).f1)):=kG 1 _ rfl;have Ht:wr.frozen? ⟨eL,((aI):Int).toNat*2,none⟩=false:=kH 0;have Hu:wr.frozen? ⟨eL,((aI):Int).toNat*2+1,none⟩=false:=kH 1;clear th kG kH nH;replace kg:=eq_true kg;replace ki:=eq_true ki;have gu:=Ah (show Kd.R bd 38 wr w.heap.size (fun _=>True) (.slice (some ⟨eL,0,none⟩) aA.length cd) aA from(rr bB.out));obtain⟨uM,gr,gv,fV,gt⟩:=Kd.hJ gu.out kW ((aI):Int) (od) (by have h_:((aI):Int)<((aA.length:Int):Int):=od;first|exact h_|(have e_:=(Kd.af bB.out).1;omega)|simpa using h_);obtain rfl:=lN gv;have ir:=Kd.lT gu.out ((aI):Int) (od) (by have h_:((aI):Int)<((aA.length:Int):Int):=od;first|exact h_|(have e_:=(Kd.af bB.out).1;omega)|simpa using h_) (seg:=[.int .i64 (LS (((aE aA (aI)).f1)+1))]) (j:=1) gr fV (show 2≤2 from by decide) (x':=(⟨(aE aA (aI)).f0,LS (((aE aA (aI)).f1)+1)⟩:aT)) (iE _ _ _ (⟨(aE aA (aI)).f0,LS (((aE aA (aI)).f1)+1)⟩:aT)) (fun _ hk=>hk);have k9:=fV 1 _ rfl;(try simp only[show(bd).sz=2 from rfl,aao,aal]at k9);have kA:=gt 1;(try simp only[show(bd).sz=2 from rfl,aao,aal]at kA);clear gr fV gt gv)|((with_reducible refine rl (t:=3) (p:=44) rfl ?_);(try(rw[E3 wr];generalize iy:aaB wr _=wr;replace bB:=Ah (Kd.FS iy bB.out);replace eP:=Ah (Eg iy eP.out);replace HB:=Ah (EC iy HB.out);clear iy;(try(have gu:=Ah (show Kd.R bd 38 wr w.heap.size (fun _=>True) (.slice (some ⟨eL,0,none⟩) aA.length cd) aA from(rr bB.out))));(try(obtain⟨uM,gr,gv,fV,gt⟩:=Kd.hJ gu.out kW ((aI):Int) (od) (by have h_:((aI):Int)<((aA.length:Int):Int):=od;first|exact h_|(have e_:=(Kd.af bB.out).1;omega)|simpa using h_)));(try(obtain rfl:=lN gv));(try(have ir:=Kd.lT gu.out ((aI):Int) (od) (by have h_:((aI):Int)<((aA.length:Int):Int):=od;first|exact h_|(have e_:=(Kd.af bB.out).1;omega)|simpa using h_) (seg:=[.int .i64 (LS (((aE aA (aI)).f1)+1))]) (j:=1) gr fV (show 2≤2 from by decide) (x':=(⟨(aE aA (aI)).f0,LS (((aE aA (aI)).f1)+1)⟩:aT)) (iE _ _ _ (⟨(aE aA (aI)).f0,LS (((aE aA (aI)).f1)+1)⟩:aT)) (fun _ hk=>hk)));(try(have k9:=fV 1 _ rfl));(try(try simp only[show(bd).sz=2 from rfl,aao,aal]at k9));(try(have kA:=gt 1));(try(try simp only[show(bd).sz=2 from rfl,aao,aal]at kA));(try(clear gr fV gt gv))));refine rk (t:=3) (p:=44) (v:= ?vo_w16) (w1:=(wr.setCell ⟨eL,((aI):Int).toNat*2+1,none⟩ (.int .i64 (LS (((aE aA (aI)).f1)+1))))) ?hg ?ho ?hn ?hr ?_;(case ho=>rfl);(case hg=>rfl);(case hn=>rfl);(case hr=>first|(go_simp;done)|(go_simp;rfl));intro w16 hw;have hg:wr.grownBy w16 (some eL):=(by rw[hw];exact ir.2);have iR:Kd.R bd 38 w16 w.heap.size (fun _=>True) (.slice (some ⟨eL,0,none⟩) aA.length cd) Kh:=(by rw[hw,Tu.out];exact ir.1);clear ir;replace eP:=Ah (cX (g:=dy) (o:= .cells #[.slice dQ bH.length dR] 66 (0,0)) (bk eP) hg (Kd.eD bB.out eP.out (by decide)));replace bB:=Ah (iR);replace HB:=Ah ((by rw[hw];exact cF (HB.out) uL.out:Below w.heap.size w w16));clear hg hw iR)))
   go_roundg k1
   case measure=>have:=bU.out;omega
   case rel=>exact⟨(Kh),(LS (aZ+1)),e3,H',⟨by have:=bU.out;omega⟩,⟨rr bB.out⟩,⟨bk eP⟩,⟨bs HB⟩⟩
def fX.l0:Nat→List (eW)→Int→Int→List Bool→Option ((List (aT)))
 |0,_,_,_,_=>none
 |k+1,x7,x8,x9,Me=>if x9<x8 then(if 0≤x9 then(if x9<(x7.length:Int)then(if(am x7 x9).f0=true then(if 0≤((am x7 x9).f1)then(if((am x7 x9).f1)<(Me.length:Int)then(fX.l0 k x7 x8 (LS (x9+1)) (Me.set (((am x7 x9).f1):Int).toNat true))else(none))else(none))else(fX.l0 k x7 x8 (LS (x9+1)) Me))else(none))else(none))else((gB.f k 400 Me).bind fun Vx=>(some Vx))
def fX.f(k:Nat)(l0:List (eW)):Option ((List (aT))):=if 400≤281474976710656 then(fX.l0 k l0 (l0.length:Int) 0 (aaA 400 false))else(none)
theorem fX.dL:∀k,(∀y0 y1 y2 y3,aG (fX.l0 k y0 y1 y2 y3) (fX.l0 (k+1) y0 y1 y2 y3))
 |0=>fun _ _ _ _ r h=>by simp[fX.l0]at h
 |k+1=>by
  have bw:=fX.dL k
  ·
   intro y0 y1 y2 y3;unfold fX.l0
   repeat' with_reducible first|exact bw _ _ _ _|exact gB.mono _ _ _|exact aG.refl _|exact aG.none _|refine aG.ite ?_ ?_|refine aG.bind ?_ (fun _=> ?_)
theorem fX.mono:∀a0 k,aG (fX.f k a0) (fX.f (k+1) a0):=by
 intro a0 k;have bw:=fX.dL k;unfold fX.f
 repeat' with_reducible first|exact bw _ _ _ _|exact gB.mono _ _ _|exact aG.refl _|exact aG.none _|refine aG.ite ?_ ?_|refine aG.bind ?_ (fun _=> ?_)
set_option maxHeartbeats 8000000 in
set_option maxRecDepth 100000 in
theorem fX.calls(k:Nat)(A0:Option Addr)(c0:Nat)(l0:List (eW))(r:List (aT))(w:World)(hr0:Kd.C gx w A0 l0.length l0)(hc0:l0.length≤c0)(h:fX.f k l0=some r):
 Calls aad 24 #[.slice A0 l0.length c0] w fun e w'=>∃da:Value,e= .returned (da)∧Kd.R bd 38 w' w.heap.size (fun _=>True) da r∧Below w.heap.size w w':=by
 have Vp:=abN;have gV:=Ah hr0;have lG:=Ah hc0;clear hr0 hc0;have HB:=Ah (aaa w.heap.size w);have H:(if 400≤281474976710656 then(fX.l0 k l0 (l0.length:Int) 0 (aaA 400 false))else(none))=some r:=h;clear h
 by_cases c2:400≤281474976710656
 rotate_left
 ·
  rw[if_neg c2]at H;exact absurd H (by simp)
 rw[if_pos c2]at H;have rO:=eq_true c2;have DD:decide (400≤281474976710656)=true:=decide_eq_true c2;clear c2;obtain⟨P5,J9⟩:∃y_:List Bool,y_=(aaA 400 false):=⟨_,rfl⟩
 replace H:(fX.l0 k l0 (l0.length:Int) 0 P5)=some r:=by first|(rw[J9];with_reducible exact H)|(have aX:=(Mq _ _).symm.trans H;rw[J9];with_reducible exact aX)|(have aX:=(Mq _ _).symm.trans H;with_reducible exact aX)|with_reducible exact H|(rw[J9];exact H)|exact H
 have a24:=Ah J9;clear J9;have H':=Ah H;clear H
 go_enter Try.func24,Try.ntmps24
 go_wp2_with (first|((with_reducible refine ax (N:=6) rfl ?_);refine Kd.Ru Kd.bool _ 4 rfl (N:=6) rfl 66 _ _ rfl 400 rfl rfl Try.underlying66 (.bool false) 1 a0C rfl (by decide) (by omega) false (ok:=fun _=>True) (okp:=fun _=>True) rfl (fun _ hk=>hk) trivial (by omega) (by omega) (aaa _ _) (bx _) ?_;intro v462 w3 gA hb lJ l8;clear lJ l8;(first|rw[←a24.out]at gA|(simp only[aa3]at gA;rw[←a24.out]at gA));have O1:=Ah (Kd.dD gA (be (bs HB)));replace HB:=Ah (aK (bs HB) hb);clear hb gA)|((with_reducible refine ax (N:=3) rfl ?_);refine bA 3 66 #[.slice none 0 0] ?_;intro JA hg w5 jZ hb;replace O1:=nr O1 hb;have GW464:=gw hg (bs HB);have rA:=gw hg (bs HB);replace HB:=Ah (aK (bs HB) hb);clear hb hg;obtain⟨Ao6,co6,eo6⟩:=Kd.bq O1.out;subst eo6;have qp:=ap jZ;have qq:=an jZ))
 go_loopg [9] k (fun kq v9 w'=>∃ (aJ:Int) (o5:List Bool) (EW:Value),v9= .int .i64 aJ∧U (fX.l0 kq l0 (l0.length:Int) aJ o5=some r)∧U (kq≤k)∧U (Kd.R Kd.bool 4 w' w.heap.size (fun _=>True) EW o5)∧U (w'.heap[JA]?=some (.cells #[EW] 66 (0,0)))∧U (Below w.heap.size w w'))
 case atStart=>exact⟨(0),(P5),(.slice Ao6 P5.length co6),e3,H',⟨bx _⟩,⟨by(with_reducible repeat(first|apply Kd.bG|apply Kd.bE|apply Kd.al));exact Kd.aY (Kd.aQ (p:=⟨JA,0,none⟩) (Kd.cl O1.out jZ.out (by decide)) (fun _ hk=>hk.2) (.slice Ao6 P5.length co6)) (fun _ hk=>trivial)⟩,⟨by(with_reducible repeat(first|refine aD ?_ _|refine Z ?_|refine aC ?_ _));refine aj (cs:= #[.slice none 0 0]) ?_ 0 _ rfl;(with_reducible repeat(first|refine aD ?_ _|refine Z ?_|refine aC ?_ _));exact jZ.out⟩,⟨aH HB rA⟩⟩
 case round=>
  clear H'
  try clear c2
  try clear rO
  try clear DD
  try clear p2
  try clear qp
  try clear qq
  obtain⟨aJ,o5,EW,rfl,HA,bU,kw,jZ,HB⟩:=hrel
  cases gk with
  |zero=>exact absurd HA.out (by simp[fX.l0])
  |succ k1=>
   have H:=HA.out;clear HA;simp only[fX.l0]at H
   by_cases c8:aJ<(l0.length:Int)
   rotate_left
   ·
    rw[if_neg c8]at H;have nC:decide (aJ<(l0.length:Int))=false:=decide_eq_false c8;clear c8;replace H:=LT.mp H;obtain⟨Vx,pl,H⟩:=H
    try dsimp only at H
    have xq:=Ah pl;clear pl;obtain rfl:=iz H;obtain⟨Ao28,co28,eo28⟩:=Kd.bq kw.out;subst eo28
    go_wp2_with (first|((with_reducible refine bJ (f:=38) rfl ?_);refine gL (some 21) rfl rfl Try.func38 (by kernel_rfl) rfl #[.int .i64 400,.func (.func 44) #[] #[.pointer (some ⟨JA,0,none⟩)]] rfl ?_;(with_reducible refine(gB.calls k1 400 JA Ao28 co28 o5 Vx _ ?a8 ?a9 ?dm xq.out).mono ?_);(case a8=>exact fB kw);(case a9=>exact(Kd.af kw.out).2.1);(case dm=>(with_reducible repeat(first|refine aD ?_ _|refine Z ?_|refine aC ?_ _));exact jZ.out);rintro e LJ ⟨v469,rfl,ho0,hb⟩;refine⟨_,rfl, ?_⟩;replace kw:=nr kw hb;have HO470:=Ah (Kd.dD ho0 (be (aH HB rA)));replace jZ:=nb jZ hb;replace HB:=Ah (aK (aH HB rA) hb);(try clear hb ho0)))
    go_ret
    exact⟨_,er,by(with_reducible repeat(first|apply Kd.bG|apply Kd.bE|apply Kd.al));exact HO470.out,aH HB rA⟩
   rw[if_pos c8]at H;have nC:decide (aJ<(l0.length:Int))=true:=decide_eq_true c8;clear c8
   by_cases c9:0≤aJ
   rotate_left
   ·
    rw[if_neg c9]at H;exact absurd H (by simp)
   rw[if_pos c9]at H;have u1:decide (0≤aJ)=true:=decide_eq_true c9;clear c9
   by_cases c10:aJ<(l0.length:Int)
   rotate_left
   ·
    rw[if_neg c10]at H;exact absurd H (by simp)
   rw[if_pos c10]at H;have nZ:decide (aJ<(l0.length:Int))=true:=decide_eq_true c10;clear c10;obtain⟨Kn,CR⟩:∃b_:Bool,b_=((am l0 aJ).f0):=⟨_,rfl⟩
   replace H:(if Kn=true then(if 0≤((am l0 aJ).f1)then(if((am l0 aJ).f1)<(o5.length:Int)then(fX.l0 k1 l0 (l0.length:Int) (LS (aJ+1)) (o5.set (((am l0 aJ).f1):Int).toNat true))else(none))else(none))else(fX.l0 k1 l0 (l0.length:Int) (LS (aJ+1)) o5))=some r:=by rw[←CR]at H;exact H
   have CS:=Ah CR;clear CR
   by_cases c12:Kn=true
   rotate_left
   ·
    replace c12:=dn.mpr c12;subst c12;rw[if_neg dV]at H;have H':=Ah H;clear H;have DI:0≤(aJ:Int):=od;have DJ:aJ<(l0.length:Int):=od;obtain⟨ad465,Vy,wa,Bl,wb⟩:=oE gV.out aJ DI DJ;(try rw[←CS.out]at wa);(try rw[←CS.out]at wb)
    cases Vy
    replace wa:=(HB.out.cell (LA w _ wa)).trans wa;replace Bl:=(HB.out.cell (LA w _ Bl)).trans Bl;replace wb:=(HB.out.cell (LA w _ wb)).trans wb;replace DI:=eq_true DI;replace DJ:=eq_true DJ
    go_wp2_with (first|((with_reducible refine ax (N:=5) rfl ?_);refine bA 5 71 #[.bool false,.int .i64 0,.bool false] ?_;intro ti hg w24 oI hb;replace kw:=nr kw hb;have GW466:=gw hg (aH HB rA);have O2:=gw hg (aH HB rA);replace HB:=Ah (aK (aH HB rA) hb);have Gl:=nn jZ hg;have QH:=nm jZ hg;replace jZ:=nb jZ hb;clear hb hg;have Sx:=QH.out;have Sy:=Gl.out;obtain⟨RY,ZM,ZN⟩:=rU oI;obtain⟨RZ,ZO,ZP⟩:=rV oI))
    go_roundg k1
    case measure=>have:=bU.out;omega
    case rel=>exact⟨(LS (aJ+1)),(o5),(EW),e3,H',⟨by have:=bU.out;omega⟩,⟨by(with_reducible repeat(first|apply Kd.bG|apply Kd.bE|apply Kd.al));exact Kd.aY (Kd.aQ (p:=⟨ti,2,none⟩) (Kd.aQ (p:=⟨ti,1,none⟩) (Kd.aQ (p:=⟨ti,0,none⟩) (Kd.cl kw.out oI.out (by decide)) (fun _ hk=>hk.2) (.bool false)) (fun _ hk=>hk.2) (.int .i64 ((am l0 aJ).f1))) (fun _ hk=>hk.2) (.bool ((am l0 aJ).f2))) (fun _ hk=>trivial)⟩,⟨bf jZ Gl⟩,⟨aW HB rA O2⟩⟩
   subst c12;rw[if_pos rfl]at H
   by_cases c13:0≤((am l0 aJ).f1)
   rotate_left
   ·
    rw[if_neg c13]at H;exact absurd H (by simp)
   rw[if_pos c13]at H;have ww:decide (0≤((am l0 aJ).f1))=true:=decide_eq_true c13;clear c13
   by_cases c14:((am l0 aJ).f1)<(o5.length:Int)
   rotate_left
   ·
    rw[if_neg c14]at H;exact absurd H (by simp)
   rw[if_pos c14]at H;have pW:decide (((am l0 aJ).f1)<(o5.length:Int))=true:=decide_eq_true c14;clear c14;obtain⟨Vz,JB⟩:∃y_:List Bool,y_=(o5.set (((am l0 aJ).f1):Int).toNat true):=⟨_,rfl⟩
   replace H:(fX.l0 k1 l0 (l0.length:Int) (LS (aJ+1)) Vz)=some r:=by first|(rw[JB];with_reducible exact H)|(have aX:=(Mq _ _).symm.trans H;rw[JB];with_reducible exact aX)|(have aX:=(Mq _ _).symm.trans H;with_reducible exact aX)|with_reducible exact H|(rw[JB];exact H)|exact H
   have Ny467:=Ah JB;clear JB;have H':=Ah H;clear H;have DI:0≤(aJ:Int):=od;have DJ:aJ<(l0.length:Int):=od;obtain⟨ad465,Vy,wa,Bl,wb⟩:=oE gV.out aJ DI DJ;(try rw[←CS.out]at wa);(try rw[←CS.out]at wb)
   cases Vy
   replace wa:=(HB.out.cell (LA w _ wa)).trans wa;replace Bl:=(HB.out.cell (LA w _ Bl)).trans Bl;replace wb:=(HB.out.cell (LA w _ wb)).trans wb;replace DI:=eq_true DI;replace DJ:=eq_true DJ
   go_wp2_with (first|((with_reducible refine ax (N:=5) rfl ?_);refine bA 5 71 #[.bool false,.int .i64 0,.bool false] ?_;intro ti hg w16 oI hb;replace kw:=nr kw hb;have GW466:=gw hg (aH HB rA);have O2:=gw hg (aH HB rA);replace HB:=Ah (aK (aH HB rA) hb);have Gl:=nn jZ hg;have QH:=nm jZ hg;replace jZ:=nb jZ hb;clear hb hg;have zE:=QH.out;have zF:=Gl.out;obtain⟨sA,EO,EP⟩:=rU oI;obtain⟨sB,EQ,ER⟩:=rV oI)|((with_reducible refine rl (t:=71) (p:=5) rfl ?_);refine rk (t:=71) (p:=5) (v:= ?vo_w19) (w1:=(((w16.setCell ⟨ti,0,none⟩ (.bool true)).setCell ⟨ti,1,none⟩ (.int .i64 ((am l0 aJ).f1))).setCell ⟨ti,2,none⟩ (.bool ((am l0 aJ).f2)))) ?hg ?ho ?hn ?hr ?_;(case ho=>rfl);(case hg=>rfl);(case hn=>rfl);(case hr=>first|(go_simp;done)|(go_simp;rfl));intro jl hw;have aa:U (Kd.R Kd.bool 4 jl w.heap.size (fun _=>True) EW o5):=⟨(by rw[hw];exact(by(with_reducible repeat(first|apply Kd.bG|apply Kd.bE|apply Kd.al));exact Kd.aY (Kd.aQ (p:=⟨ti,2,none⟩) (Kd.aQ (p:=⟨ti,1,none⟩) (Kd.aQ (p:=⟨ti,0,none⟩) (Kd.cl kw.out oI.out (by decide)) (fun _ hk=>hk.2) (.bool true)) (fun _ hk=>hk.2) (.int .i64 ((am l0 aJ).f1))) (fun _ hk=>hk.2) (.bool ((am l0 aJ).f2))) (fun _ hk=>trivial)))⟩;have ab:U (jl.heap[JA]?=some (.cells #[EW] 66 (0,0))):=⟨(by rw[hw];exact(bf jZ Gl))⟩;have ac:U (jl.heap[ti]?=some (.cells #[.bool true,.int .i64 ((am l0 aJ).f1),.bool ((am l0 aJ).f2)] 71 (0,0))):=⟨(by rw[hw];exact(by(with_reducible repeat(first|refine aD ?_ _|refine Z ?_|refine aC ?_ _));refine aj (cs:= #[.bool true,.int .i64 ((am l0 aJ).f1),.bool false]) ?_ 2 _ rfl;(with_reducible repeat(first|refine aD ?_ _|refine Z ?_|refine aC ?_ _));refine aj (cs:= #[.bool true,.int .i64 0,.bool false]) ?_ 1 _ rfl;(with_reducible repeat(first|refine aD ?_ _|refine Z ?_|refine aC ?_ _));refine aj (cs:= #[.bool false,.int .i64 0,.bool false]) ?_ 0 _ rfl;(with_reducible repeat(first|refine aD ?_ _|refine Z ?_|refine aC ?_ _));exact oI.out))⟩;have ae:U (Below w.heap.size w jl):=⟨(by rw[hw];exact(aW HB rA O2))⟩;clear hw;clear kw;clear jZ;clear oI;clear HB;have kw:=aa;have jZ:=ab;have oI:=ac;have HB:=ae;clear aa ab ac ae;obtain⟨Mf,hcz20_1,hcz20_2⟩:=rU oI;obtain⟨Mg,hfz20_1,hfz20_2⟩:=rV oI;have RA:=ap jZ;have RB:=an jZ;have Wv:0≤(((am l0 aJ).f1):Int):=od;have Ww:(((am l0 aJ).f1):Int)<((o5.length:Int):Int):=od;obtain⟨P6,a5M,a5N,a5O,gl15,cl15,a5P⟩:=Kd.nW kw.out (by omega);(first|cases a5N|(injection a5N with dB iV iW;(first|subst dB|(injection dB with dB;subst dB));subst iW;clear iV));have GB15:=Ah a5O;have GG15:=Ah a5P;clear a5O gl15 a5P;obtain⟨hx15_0,hf15_0⟩:=Kd.Qq false kw.out (((am l0 aJ).f1):Int) Wv Ww;replace Wv:=eq_true Wv;replace Ww:=eq_true Ww;obtain⟨hy22_,hz22_⟩:=Kd.Qq false kw.out (((am l0 aJ).f1):Int) (od) (od);have W3:=Kd.a0k kw.out (((am l0 aJ).f1):Int) true)|((with_reducible refine rl (t:=4) (p:=18) rfl ?_);refine rk (t:=4) (p:=18) (v:= ?vo_w23) (w1:=(jl.setCell ⟨P6,(((am l0 aJ).f1):Int).toNat,none⟩ (.bool true))) ?hg ?ho ?hn ?hr ?_;(case ho=>rfl);(case hg=>rfl);(case hn=>rfl);(case hr=>first|(go_simp;done)|(go_simp;rfl));intro re hw;have hg:jl.grownBy re (some P6):=(by rw[hw];exact W3.2);have iR:Kd.R Kd.bool 4 re w.heap.size (fun _=>True) (.slice (some ⟨P6,0,none⟩) o5.length a5M) Vz:=(by rw[hw,Ny467.out];exact W3.1);clear W3;replace jZ:=Ah (cX (bk jZ) hg (Kd.eD kw.out jZ.out (by decide)));replace oI:=Ah (cX (bk oI) hg (Kd.eD kw.out oI.out (by decide)));replace kw:=Ah (iR);replace HB:=Ah ((by rw[hw];exact cF (HB.out) GB15.out:Below w.heap.size w re));clear hg hw iR))
   go_roundg k1
   case measure=>have:=bU.out;omega
   case rel=>exact⟨(LS (aJ+1)),(Vz),(.slice (some ⟨P6,0,none⟩) o5.length a5M),e3,H',⟨by have:=bU.out;omega⟩,⟨rr kw.out⟩,⟨bk jZ⟩,⟨aW HB rA O2⟩⟩
def dP.l0:Nat→List (eW)→Int→Int→List (a7)→Option ((List (a7))×Bool)
 |0,_,_,_,_=>none
 |k+1,cG,mh,lr,ik=>if lr<mh then(if 0≤lr then(if lr<(cG.length:Int)then(if((am cG lr).f0=true)then(if(LS ((ik.length:Int)-1))≥0 then(if 0≤(LS ((ik.length:Int)-1))then(if(LS ((ik.length:Int)-1))<(ik.length:Int)then((ri.f ((I ik (LS ((ik.length:Int)-1))).f0) ((I ik (LS ((ik.length:Int)-1))).f1) ((I ik (LS ((ik.length:Int)-1))).f2) ((I ik (LS ((ik.length:Int)-1))).f3) lr 1 ((am cG lr).f1) ((am cG lr).f2)).bind fun DK=>(if DK=true then(dP.l0 k cG mh (LS (lr+1)) (ik.set ((LS ((ik.length:Int)-1)):Int).toNat (⟨(I ik (LS ((ik.length:Int)-1))).f0,LS (((I ik (LS ((ik.length:Int)-1))).f1)+1),(I ik (LS ((ik.length:Int)-1))).f2,(I ik (LS ((ik.length:Int)-1))).f3⟩:a7)))else(if ik.length<4398046511104 then(dP.l0 k cG mh (LS (lr+1)) (ik++[(⟨lr,1,(am cG lr).f1,(am cG lr).f2⟩:a7)]))else(none))))else(none))else(none))else(if ik.length<4398046511104 then(dP.l0 k cG mh (LS (lr+1)) (ik++[(⟨lr,1,(am cG lr).f1,(am cG lr).f2⟩:a7)]))else(none)))else(dP.l0 k cG mh (LS (lr+1)) ik))else(none))else(none))else((bh.f k ik).bind fun W4=>(if W4=true then(some (ik,true))else(some (([]:List (a7)),false))))
def dP.f(k:Nat)(l0:List (eW)):Option ((List (a7))×Bool):=dP.l0 k l0 (l0.length:Int) 0 ([]:List (a7))
theorem dP.dL:∀k,(∀y0 y1 y2 y3,aG (dP.l0 k y0 y1 y2 y3) (dP.l0 (k+1) y0 y1 y2 y3))
 |0=>fun _ _ _ _ r h=>by simp[dP.l0]at h
 |k+1=>by
  have bw:=dP.dL k
  ·
   intro y0 y1 y2 y3;unfold dP.l0
   repeat' with_reducible first|exact bw _ _ _ _|exact bh.mono _ _|exact aG.refl _|exact aG.none _|refine aG.ite ?_ ?_|refine aG.bind ?_ (fun _=> ?_)
theorem dP.mono:∀a0 k,aG (dP.f k a0) (dP.f (k+1) a0):=by
 intro a0 k;have bw:=dP.dL k;unfold dP.f
 repeat' with_reducible first|exact bw _ _ _ _|exact bh.mono _ _|exact aG.refl _|exact aG.none _|refine aG.ite ?_ ?_|refine aG.bind ?_ (fun _=> ?_)
def dP.T8:Bool×List (List Nat×List Nat):=(true,[([],[]),([0],[0]),([1],[1]),([2],[2]),([3,2],[2,3]),([2],[2]),([4,5,2],[2,4,5]),([6,2],[2,6]),([2],[2]),([7,8,2,2],[2,7,8]),([2,9],[2,9])])
def dP.B8:List Nat:=[0,1,3,7,15,7,63,127,7,511,1023]
theorem dP.Fx:gH .any (nY Try.f25 8)=dP.T8:=by kernel_rfl
theorem dP.FG:kx dP.T8.2 dP.B8=true:=by kernel_rfl
set_option maxHeartbeats 8000000 in
set_option maxRecDepth 100000 in
theorem dP.calls(k:Nat)(A0:Option Addr)(c0:Nat)(l0:List (eW))(r1:List (a7))(r2:Bool)(w:World)(hr0:Kd.C gx w A0 l0.length l0)(hc0:l0.length≤c0)(h:dP.f k l0=some (r1,r2)):
 Calls aad 25 #[.slice A0 l0.length c0] w fun e w'=>∃da:Value,e= .returned (.tuple #[.agg #[da],.bool r2])∧Kd.R b7 65 w' w.heap.size (fun _=>True) da r1∧Below w.heap.size w w':=by
 have kJ:=ua;have Vp:=abN;have mA:=aay;have gV:=Ah hr0;have lG:=Ah hc0;clear hr0 hc0;have HB:=Ah (aaa w.heap.size w);have H:(dP.l0 k l0 (l0.length:Int) 0 ([]:List (a7)))=some (r1,r2):=h;clear h;have H':=Ah H;clear H
 go_enter Try.func25,Try.ntmps25
 go_wp2_with (first|((with_reducible refine ax (N:=2) rfl ?_);refine bA 2 25 #[.slice none 0 0] ?_;intro m7 hg w2 cm hb;have GW471:=gw hg (bs HB);have fu:=gw hg (bs HB);replace HB:=Ah (aK (bs HB) hb);clear hb hg)|((with_reducible refine ax (N:=4) rfl ?_);refine bA 4 25 #[.slice none 0 0] ?_;intro lh hg w3 cD hb;have GW472:=gw hg (aH HB fu);have gQ:=gw hg (aH HB fu);replace HB:=Ah (aK (aH HB fu) hb);have wA:=nn cm hg;have EA:=nm cm hg;replace cm:=nb cm hb;clear hb hg;have hnb4:=EA.out;have hnc4:=wA.out;have Em:=ap cD;have Hq:=an cD))
 go_loopg [12] k (fun kq v12 w'=>∃ (ai:Int) (bQ:List (a7)) (vG:Value),v12= .int .i64 ai∧U (dP.l0 kq l0 (l0.length:Int) ai bQ=some (r1,r2))∧U (kq≤k)∧U (Kd.R b7 65 w' w.heap.size (fun _=>True) vG bQ)∧U (w'.heap[m7]?=some (.cells #[(.slice none 0 0)] 25 (0,0)))∧U (w'.heap[lh]?=some (.cells #[vG] 25 (0,0)))∧U (Below w.heap.size w w'))
 case atStart=>exact⟨(0),(([]:List (a7))),(.slice none 0 0),e3,H',⟨bx _⟩,⟨by first|exact Kd.fk _ _ _ _ _|exact Kd.iI _ _ _ _ _|exact Kd.iJ _ _ _ _ _|exact Kd.iG _ _ _ _ _|exact Kd.iH _ _ _ _ _⟩,⟨bf cm wA⟩,⟨by(with_reducible repeat(first|refine aD ?_ _|refine Z ?_|refine aC ?_ _));refine aj (cs:= #[.slice none 0 0]) ?_ 0 _ rfl;(with_reducible repeat(first|refine aD ?_ _|refine Z ?_|refine aC ?_ _));exact cD.out⟩,⟨aW HB fu gQ⟩⟩
 case round=>
  clear H'
  try clear c2
  try clear p2
  try clear c4
  try clear Em
  try clear Hq
  obtain⟨ai,bQ,vG,rfl,HA,bU,cv,cm,cD,HB⟩:=hrel
  cases gk with
  |zero=>exact absurd HA.out (by simp[dP.l0])
  |succ k1=>
   have H:=HA.out;clear HA;simp only[dP.l0]at H
   by_cases c6:ai<(l0.length:Int)
   rotate_left
   ·
    rw[if_neg c6]at H;have rM:decide (ai<(l0.length:Int))=false:=decide_eq_false c6;clear c6;replace H:=LT.mp H;obtain⟨W4,a5Q,H⟩:=H
    try dsimp only at H
    have A81:=Ah a5Q;clear a5Q
    by_cases GE:W4=true
    rotate_left
    ·
     replace GE:=dn.mpr GE;subst GE;rw[if_neg dV]at H;simp only[j4,ub]at H;obtain⟨rfl,rfl⟩:=H;have a06:=EA.out;have a07:=wA.out;have hcz90_0:=ap cD;have hfz90_0:=an cD;obtain⟨KQ,KR,P1⟩:=Kd.bq cv.out;subst P1
     go_wp2_with (first|((with_reducible refine bJ (f:=11) rfl ?_);refine gL (some 58) rfl rfl aa9 (by kernel_rfl) rfl #[.agg #[.slice KQ bQ.length KR]] rfl ?_;(with_reducible refine(bh.calls k1 _ _ bQ false _ ?a8 ?a9 A81.out).mono ?_);(case a8=>exact fB cv);(case a9=>exact(Kd.af cv.out).2.1);rintro e w92 ⟨rfl,hb⟩;refine⟨_,rfl, ?_⟩;replace cv:=nr cv hb;replace cm:=nb cm hb;replace cD:=nb cD hb;replace HB:=Ah (aK (aW HB fu gQ) hb);(try clear hb);have Rh:=ap cm;have Rj:=an cm))
     refine bodyPost_ret (mm rfl _ _ m7 25 #[.slice none 0 0] (0,0) _ rfl (by(with_reducible repeat(first|refine aD ?_ _|refine Z ?_|refine aC ?_ _));refine aj (cs:= #[.slice none 0 0]) ?_ 0 _ rfl;(with_reducible repeat(first|refine aD ?_ _|refine Z ?_|refine aC ?_ _));exact cm.out) ua rfl (by kernel_rfl)) rfl ?_;exact⟨_,er,by first|exact Kd.fk _ _ _ _ _|exact Kd.iI _ _ _ _ _|exact Kd.iJ _ _ _ _ _|exact Kd.iG _ _ _ _ _|exact Kd.iH _ _ _ _ _,aW HB fu gQ⟩
    subst GE;rw[if_pos rfl]at H;simp only[j4,ub]at H;obtain⟨rfl,rfl⟩:=H;have a02:=EA.out;have a03:=wA.out;have hcz84_0:=ap cD;have hfz84_0:=an cD;obtain⟨W5,W6,eo85⟩:=Kd.bq cv.out;subst eo85
    go_wp2_with (first|((with_reducible refine bJ (f:=11) rfl ?_);refine gL (some 58) rfl rfl aa9 (by kernel_rfl) rfl #[.agg #[.slice W5 bQ.length W6]] rfl ?_;(with_reducible refine(bh.calls k1 _ _ bQ true _ ?a8 ?a9 A81.out).mono ?_);(case a8=>exact fB cv);(case a9=>exact(Kd.af cv.out).2.1);rintro e w86 ⟨rfl,hb⟩;refine⟨_,rfl, ?_⟩;replace cv:=nr cv hb;replace cm:=nb cm hb;replace cD:=nb cD hb;replace HB:=Ah (aK (aW HB fu gQ) hb);(try clear hb);have ux:=ap cD;have vA:=an cD;have hcz88_0:=ap cm;have hfz88_0:=an cm))
    refine bodyPost_ret (mm rfl _ _ m7 25 #[.slice W5 bQ.length W6] (0,0) _ rfl (by(with_reducible repeat(first|refine aD ?_ _|refine Z ?_|refine aC ?_ _));refine aj (cs:= #[.slice none 0 0]) ?_ 0 _ rfl;(with_reducible repeat(first|refine aD ?_ _|refine Z ?_|refine aC ?_ _));exact cm.out) ua rfl (by kernel_rfl)) rfl ?_;exact⟨_,er,by(with_reducible repeat(first|apply Kd.bG|apply Kd.bE|apply Kd.al));exact Kd.aY (Kd.aQ (p:=⟨m7,0,none⟩) (Kd.cl cv.out cm.out (by decide)) (fun _ hk=>hk.2) (.slice W5 bQ.length W6)) (fun _ hk=>trivial),aW HB fu gQ⟩
   rw[if_pos c6]at H;have rM:decide (ai<(l0.length:Int))=true:=decide_eq_true c6;clear c6
   by_cases c7:0≤ai
   rotate_left
   ·
    rw[if_neg c7]at H;exact absurd H (by simp)
   rw[if_pos c7]at H;have zn:decide (0≤ai)=true:=decide_eq_true c7;clear c7
   by_cases c8:ai<(l0.length:Int)
   rotate_left
   ·
    rw[if_neg c8]at H;exact absurd H (by simp)
   rw[if_pos c8]at H;have nC:decide (ai<(l0.length:Int))=true:=decide_eq_true c8;clear c8;obtain⟨bq9,W7⟩:∃b_:Bool,b_=((am l0 ai).f0):=⟨_,rfl⟩
   replace H:(if(bq9=true)then(if(LS ((bQ.length:Int)-1))≥0 then(if 0≤(LS ((bQ.length:Int)-1))then(if(LS ((bQ.length:Int)-1))<(bQ.length:Int)then((ri.f ((I bQ (LS ((bQ.length:Int)-1))).f0) ((I bQ (LS ((bQ.length:Int)-1))).f1) ((I bQ (LS ((bQ.length:Int)-1))).f2) ((I bQ (LS ((bQ.length:Int)-1))).f3) ai 1 ((am l0 ai).f1) ((am l0 ai).f2)).bind fun DK=>(if DK=true then(dP.l0 k1 l0 (l0.length:Int) (LS (ai+1)) (bQ.set ((LS ((bQ.length:Int)-1)):Int).toNat (⟨(I bQ (LS ((bQ.length:Int)-1))).f0,LS (((I bQ (LS ((bQ.length:Int)-1))).f1)+1),(I bQ (LS ((bQ.length:Int)-1))).f2,(I bQ (LS ((bQ.length:Int)-1))).f3⟩:a7)))else(if bQ.length<4398046511104 then(dP.l0 k1 l0 (l0.length:Int) (LS (ai+1)) (bQ++[(⟨ai,1,(am l0 ai).f1,(am l0 ai).f2⟩:a7)]))else(none))))else(none))else(none))else(if bQ.length<4398046511104 then(dP.l0 k1 l0 (l0.length:Int) (LS (ai+1)) (bQ++[(⟨ai,1,(am l0 ai).f1,(am l0 ai).f2⟩:a7)]))else(none)))else(dP.l0 k1 l0 (l0.length:Int) (LS (ai+1)) bQ))=some (r1,r2):=by rw[←W7]at H;exact H
   have uN:=Ah W7;clear W7
   by_cases c10:(bq9=true)
   rotate_left
   ·
    replace c10:=dn.mpr c10;subst c10;rw[if_neg dV]at H;have H':=Ah H;clear H;have oU:0≤(ai:Int):=od;have oV:ai<(l0.length:Int):=od;obtain⟨Tv,DL,m2,o9,m3⟩:=oE gV.out ai oU oV;(try rw[←uN.out]at m2);(try rw[←uN.out]at m3)
    cases DL
    replace m2:=(HB.out.cell (LA w _ m2)).trans m2;replace o9:=(HB.out.cell (LA w _ o9)).trans o9;replace m3:=(HB.out.cell (LA w _ m3)).trans m3;replace oU:=eq_true oU;replace oV:=eq_true oV
    go_wp2_with (first|((with_reducible refine ax (N:=6) rfl ?_);refine bA 6 71 #[.bool false,.int .i64 0,.bool false] ?_;intro jT hg w77 dz hb;replace cv:=nr cv hb;have Tw:=gw hg (aW HB fu gQ);have jf:=gw hg (aW HB fu gQ);replace HB:=Ah (aK (aW HB fu gQ) hb);have mr:=nn cm hg;have Af:=nm cm hg;replace cm:=nb cm hb;have ms:=nn cD hg;have Ag:=nm cD hg;replace cD:=nb cD hb;clear hb hg;have a0Y:=Af.out;have a0Z:=mr.out;have a00:=Ag.out;have a01:=ms.out;obtain⟨hcz80_0,hcz80_1,hcz80_2⟩:=rU dz;obtain⟨hfz80_0,hfz80_1,hfz80_2⟩:=rV dz))
    go_roundg k1
    case measure=>have:=bU.out;omega
    case rel=>exact⟨(LS (ai+1)),(bQ),(vG),e3,H',⟨by have:=bU.out;omega⟩,⟨by(with_reducible repeat(first|apply Kd.bG|apply Kd.bE|apply Kd.al));exact Kd.aY (Kd.aQ (p:=⟨jT,2,none⟩) (Kd.aQ (p:=⟨jT,1,none⟩) (Kd.aQ (p:=⟨jT,0,none⟩) (Kd.cl cv.out dz.out (by decide)) (fun _ hk=>hk.2) (.bool false)) (fun _ hk=>hk.2) (.int .i64 ((am l0 ai).f1))) (fun _ hk=>hk.2) (.bool ((am l0 ai).f2))) (fun _ hk=>trivial)⟩,⟨bf cm mr⟩,⟨bf cD ms⟩,⟨bX HB fu gQ jf⟩⟩
   subst c10;rw[if_pos rfl]at H
   by_cases c11:(LS ((bQ.length:Int)-1))≥0
   rotate_left
   ·
    rw[if_neg c11]at H;have xC:decide (0≤(LS ((bQ.length:Int)-1)))=false:=decide_eq_false c11;clear c11
    by_cases Pf:bQ.length<4398046511104
    rotate_left
    ·
     rw[if_neg Pf]at H;exact absurd H (by simp)
    rw[if_pos Pf]at H;have LMc57:=Ah Pf;clear Pf;obtain⟨P7,JC⟩:∃y_:List (a7),y_=(bQ++[(⟨ai,1,(am l0 ai).f1,(am l0 ai).f2⟩:a7)]):=⟨_,rfl⟩
    replace H:(dP.l0 k1 l0 (l0.length:Int) (LS (ai+1)) P7)=some (r1,r2):=by first|(rw[JC];with_reducible exact H)|(have aX:=(Mq _ _).symm.trans H;rw[JC];with_reducible exact aX)|(have aX:=(Mq _ _).symm.trans H;with_reducible exact aX)|with_reducible exact H|(rw[JC];exact H)|exact H
    have Ny484:=Ah JC;clear JC;have H':=Ah H;clear H;have oU:0≤(ai:Int):=od;have oV:ai<(l0.length:Int):=od;obtain⟨Tv,DL,m2,o9,m3⟩:=oE gV.out ai oU oV;(try rw[←uN.out]at m2);(try rw[←uN.out]at m3)
    cases DL
    replace m2:=(HB.out.cell (LA w _ m2)).trans m2;replace o9:=(HB.out.cell (LA w _ o9)).trans o9;replace m3:=(HB.out.cell (LA w _ m3)).trans m3;replace oU:=eq_true oU;replace oV:=eq_true oV
    try go_wp2_with (first|((with_reducible refine ax (N:=6) rfl ?_);refine bA 6 71 #[.bool false,.int .i64 0,.bool false] ?_;intro jT hg w58 dz hb;replace cv:=nr cv hb;have Tw:=gw hg (aW HB fu gQ);have jf:=gw hg (aW HB fu gQ);replace HB:=Ah (aK (aW HB fu gQ) hb);have mr:=nn cm hg;have Af:=nm cm hg;replace cm:=nb cm hb;have ms:=nn cD hg;have Ag:=nm cD hg;replace cD:=nb cD hb;clear hb hg;have hnb59:=Af.out;have hnc59:=mr.out;have hnb60:=Ag.out;have hnc60:=ms.out;obtain⟨hcz61_0,hcz61_1,hcz61_2⟩:=rU dz;obtain⟨hfz61_0,hfz61_1,hfz61_2⟩:=rV dz)|((with_reducible refine ax (N:=7) rfl ?_);refine bA 7 65 #[.int .i64 0,.int .i64 0,.int .i64 0,.bool false] ?_;intro bM hg uZ e7 hb;replace cv:=Ah (Kd.eO (Kd.gD (by(with_reducible repeat(first|apply Kd.bG|apply Kd.bE|apply Kd.al));exact(Kd.aY (Kd.aQ (p:=⟨jT,2,none⟩) (Kd.aQ (p:=⟨jT,1,none⟩) (Kd.aQ (p:=⟨jT,0,none⟩) (Kd.cl cv.out dz.out (by decide)) (fun _ hk=>hk.2) (.bool true)) (fun _ hk=>hk.2) (.int .i64 ((am l0 ai).f1))) (fun _ hk=>hk.2) (.bool ((am l0 ai).f2))) (fun _ h_=>h_.1))) bM (aaj hg.symm)) hb);have a25:=gw hg (bX HB fu gQ jf);have pg:=gw hg (bX HB fu gQ jf);replace HB:=Ah (aK (bX HB fu gQ jf) hb);have yL:=Ah ((by rw[hg];exact aaI (jr (g:=m7) (o:= .cells #[.slice none 0 0] 25 (0,0)) (bf cm mr)):m7≠bM));have Gm:=Ah ((by rw[hg];exact aaJ (jr (g:=m7) (o:= .cells #[.slice none 0 0] 25 (0,0)) (bf cm mr)):bM≠m7));replace cm:=Ah (cC (bf cm mr) hb);have yM:=Ah ((by rw[hg];exact aaI (jr (g:=lh) (o:= .cells #[vG] 25 (0,0)) (bf cD ms)):lh≠bM));have Gn:=Ah ((by rw[hg];exact aaJ (jr (g:=lh) (o:= .cells #[vG] 25 (0,0)) (bf cD ms)):bM≠lh));replace cD:=Ah (cC (bf cD ms) hb);have yN:=Ah ((LC dz hg:jT≠bM));have Gp:=Ah ((PH dz hg:bM≠jT));replace dz:=Ah (cC (g:=jT) (o:= .cells #[.bool true,.int .i64 ((am l0 ai).f1),.bool ((am l0 ai).f2)] 71 (0,0)) (by(with_reducible repeat(first|refine aD ?_ _|refine Z ?_|refine aC ?_ _));refine aj (cs:= #[.bool true,.int .i64 ((am l0 ai).f1),.bool false]) ?_ 2 _ rfl;(with_reducible repeat(first|refine aD ?_ _|refine Z ?_|refine aC ?_ _));refine aj (cs:= #[.bool true,.int .i64 0,.bool false]) ?_ 1 _ rfl;(with_reducible repeat(first|refine aD ?_ _|refine Z ?_|refine aC ?_ _));refine aj (cs:= #[.bool false,.int .i64 0,.bool false]) ?_ 0 _ rfl;(with_reducible repeat(first|refine aD ?_ _|refine Z ?_|refine aC ?_ _));exact dz.out) hb);clear hb hg;have a0Q:=Gm.out;have a0R:=yL.out;have SN:=Gn.out;have SO:=yM.out;have hnb65:=Gp.out;have hnc65:=yN.out;obtain⟨hcz66_0,hcz66_1,hcz66_2,hcz66_3⟩:=cA e7;obtain⟨hfz66_0,hfz66_1,hfz66_2,hfz66_3⟩:=cB e7;have hnb67:=EA.out;have hnc67:=wA.out;have hcz68_0:=ap cD;have hfz68_0:=an cD;obtain⟨P8,P9,eo69⟩:=Kd.bq cv.out;subst eo69))
    have aa:U (Kd.R b7 65 ((((uZ.setCell ⟨bM,0,none⟩ (.int .i64 ai)).setCell ⟨bM,1,none⟩ (.int .i64 1)).setCell ⟨bM,2,none⟩ (.int .i64 ((am l0 ai).f1))).setCell ⟨bM,3,none⟩ (.bool ((am l0 ai).f2))) w.heap.size (fun k_=>k_≠bM) (.slice P8 bQ.length P9) bQ):=⟨by(with_reducible repeat(first|apply Kd.bG|apply Kd.bE|apply Kd.al));exact Kd.aY (Kd.aQ (p:=⟨bM,3,none⟩) (Kd.aQ (p:=⟨bM,2,none⟩) (Kd.aQ (p:=⟨bM,1,none⟩) (Kd.aQ (p:=⟨bM,0,none⟩) (Kd.aY cv.out (fun k_ hk=>(⟨hk,hk.2⟩:_∧k_≠bM))) (fun _ hk=>hk.2) (.int .i64 ai)) (fun _ hk=>hk.2) (.int .i64 1)) (fun _ hk=>hk.2) (.int .i64 ((am l0 ai).f1))) (fun _ hk=>hk.2) (.bool ((am l0 ai).f2))) (fun _ hk=>hk.1.2)⟩;have ab:U (((((uZ.setCell ⟨bM,0,none⟩ (.int .i64 ai)).setCell ⟨bM,1,none⟩ (.int .i64 1)).setCell ⟨bM,2,none⟩ (.int .i64 ((am l0 ai).f1))).setCell ⟨bM,3,none⟩ (.bool ((am l0 ai).f2))).heap[m7]?=some (.cells #[.slice none 0 0] 25 (0,0))):=⟨bf cm yL⟩;have ac:U (((((uZ.setCell ⟨bM,0,none⟩ (.int .i64 ai)).setCell ⟨bM,1,none⟩ (.int .i64 1)).setCell ⟨bM,2,none⟩ (.int .i64 ((am l0 ai).f1))).setCell ⟨bM,3,none⟩ (.bool ((am l0 ai).f2))).heap[lh]?=some (.cells #[.slice P8 bQ.length P9] 25 (0,0))):=⟨bf cD yM⟩;have ae:U (((((uZ.setCell ⟨bM,0,none⟩ (.int .i64 ai)).setCell ⟨bM,1,none⟩ (.int .i64 1)).setCell ⟨bM,2,none⟩ (.int .i64 ((am l0 ai).f1))).setCell ⟨bM,3,none⟩ (.bool ((am l0 ai).f2))).heap[jT]?=some (.cells #[.bool true,.int .i64 ((am l0 ai).f1),.bool ((am l0 ai).f2)] 71 (0,0))):=⟨bf dz yN⟩;have bK:U (((((uZ.setCell ⟨bM,0,none⟩ (.int .i64 ai)).setCell ⟨bM,1,none⟩ (.int .i64 1)).setCell ⟨bM,2,none⟩ (.int .i64 ((am l0 ai).f1))).setCell ⟨bM,3,none⟩ (.bool ((am l0 ai).f2))).heap[bM]?=some (.cells #[.int .i64 ai,.int .i64 1,.int .i64 ((am l0 ai).f1),.bool ((am l0 ai).f2)] 65 (0,0))):=⟨by(with_reducible repeat(first|refine aD ?_ _|refine Z ?_|refine aC ?_ _));refine aj (cs:= #[.int .i64 ai,.int .i64 1,.int .i64 ((am l0 ai).f1),.bool false]) ?_ 3 _ rfl;(with_reducible repeat(first|refine aD ?_ _|refine Z ?_|refine aC ?_ _));refine aj (cs:= #[.int .i64 ai,.int .i64 1,.int .i64 0,.bool false]) ?_ 2 _ rfl;(with_reducible repeat(first|refine aD ?_ _|refine Z ?_|refine aC ?_ _));refine aj (cs:= #[.int .i64 ai,.int .i64 0,.int .i64 0,.bool false]) ?_ 1 _ rfl;(with_reducible repeat(first|refine aD ?_ _|refine Z ?_|refine aC ?_ _));refine aj (cs:= #[.int .i64 0,.int .i64 0,.int .i64 0,.bool false]) ?_ 0 _ rfl;(with_reducible repeat(first|refine aD ?_ _|refine Z ?_|refine aC ?_ _));exact e7.out⟩;have bP:U (Below w.heap.size w ((((uZ.setCell ⟨bM,0,none⟩ (.int .i64 ai)).setCell ⟨bM,1,none⟩ (.int .i64 1)).setCell ⟨bM,2,none⟩ (.int .i64 ((am l0 ai).f1))).setCell ⟨bM,3,none⟩ (.bool ((am l0 ai).f2)))):=⟨dc HB fu gQ jf pg⟩;(try clear cv);(try clear cm);(try clear cD);(try clear dz);(try clear e7);(try clear HB)
    generalize ((((uZ.setCell ⟨bM,0,none⟩ (.int .i64 ai)).setCell ⟨bM,1,none⟩ (.int .i64 1)).setCell ⟨bM,2,none⟩ (.int .i64 ((am l0 ai).f1))).setCell ⟨bM,3,none⟩ (.bool ((am l0 ai).f2)))=Wx at aa ab ac ae bK bP⊢
    have cv:=aa;have cm:=ab;have cD:=ac;have dz:=ae;have e7:=bK;have HB:=bP;clear aa ab ac ae bK bP;have aa:=Ah (Kd.al cv.out);have ab:=Ah (Z cm.out);have ac:=Ah (Z cD.out);have ae:=Ah (Z dz.out);have bK:=Ah (Z e7.out);have bP:=Ah (fO HB.out);clear cv cm cD dz e7 HB;have cv:=aa;have cm:=ab;have cD:=ac;have dz:=ae;have e7:=bK;have HB:=bP;clear aa ab ac ae bK bP;refine iY (n:=11) (S:=fun w'=>True) (ds:=[]) #[false,false,false,false,false,false,false,false,false,false,false] (by kernel_rfl) rfl rfl trivial (fun hHeld=> ?_);refine ig dP.Fx dP.FG (fun X cV=> ?_)
    generalize Wx.drew=w71 at cv cm cD dz e7 HB hHeld⊢
    refine aN 0 30 X.out ?_;refine aN 1 31 X.out ?_;refine aN 2 32 X.out ?_;refine bz 3 33 X.out ?_;refine bz 4 34 X.out ?_;refine bz 5 35 X.out ?_;refine bz 6 36 X.out ?_;refine bz 7 37 X.out ?_;refine bz 8 38 X.out ?_;refine bz 9 39 X.out ?_;refine aN 10 40 X.out ?_;refine i9 (iD X.out (by kernel_rfl)) ?_;have Rg:=ap cD;have Ri:=an cD;obtain⟨hcz73_0,hcz73_1,hcz73_2,hcz73_3⟩:=cA e7;obtain⟨hfz73_0,hfz73_1,hfz73_2,hfz73_3⟩:=cB e7
    try go_wp2_with (first|((with_reducible refine eS (b:= .append) (xs:= #[.tmp 51,.tmp 53]) rfl ?_);at_builtin;refine Kd.gX b7 (w0:=w) w.heap.size rfl (.tmp 51) (.tmp 53) 23 65 (.agg #[(.int .i64 0),(.int .i64 0),(.int .i64 0),(.bool false)]) 32 rfl aac gF rfl (by decide) (by omega) (.slice P8 bQ.length P9) bQ (⟨ai,1,(am l0 ai).f1,(am l0 ai).f2⟩:a7) [.int .i64 ai,.int .i64 1,.int .i64 ((am l0 ai).f1),.bool ((am l0 ai).f2)] (fun k_=>k_≠bM) (fun _=>False) rfl rfl ?aP (fun _ hk=>hk.elim) ?aF ?aO ?aB ?aS ?aL ?_;(case aP=>exact jp _ _ _ (⟨ai,1,(am l0 ai).f1,(am l0 ai).f2⟩:a7));(case aB=>exact(dc HB fu gQ jf pg));(case aF=>exact(fun k_ hk=>Kd.gE (bk e7) k_ hk));(case aO=>exact(rr cv.out));(case aS=>exact(be (dc HB fu gQ jf pg)));(case aL=>have:=LMc57.out;omega);intro v485 w74 ho hb hg hat;rw[←Ny484.out]at ho;replace cm:=Ah (cX (bk cm) hg (Kd.eD cv.out cm.out (by decide)));replace cD:=Ah (cX (bk cD) hg (Kd.eD cv.out cD.out (by decide)));replace dz:=Ah (cX (bk dz) hg (Kd.eD cv.out dz.out (by decide)));replace e7:=Ah (cX (bk e7) hg (Kd.bF cv.out (fun _ hk=>hk)));replace HB:=Ah (hb);have a26:=Ah (ho);clear cv;clear ho hb hg hat;obtain⟨Fm,Fn,V0⟩:=Kd.bq a26.out;subst V0;have hcz76_0:=ap cD;have hfz76_0:=an cD))
    go_roundg k1
    case measure=>have:=bU.out;omega
    case rel=>exact⟨(LS (ai+1)),(P7),(.slice Fm P7.length Fn),e3,H',⟨by have:=bU.out;omega⟩,⟨by(with_reducible repeat(first|apply Kd.bG|apply Kd.bE|apply Kd.al));exact Kd.aY (Kd.aQ (p:=⟨lh,0,none⟩) (Kd.cl a26.out cD.out (by decide)) (fun _ hk=>hk.2) (.slice Fm P7.length Fn)) (fun _ hk=>trivial)⟩,⟨bf cm wA⟩,⟨by(with_reducible repeat(first|refine aD ?_ _|refine Z ?_|refine aC ?_ _));refine aj (cs:= #[.slice P8 bQ.length P9]) ?_ 0 _ rfl;(with_reducible repeat(first|refine aD ?_ _|refine Z ?_|refine aC ?_ _));exact cD.out⟩,⟨dc HB fu gQ jf pg⟩⟩
   rw[if_pos c11]at H;have xC:decide (0≤(LS ((bQ.length:Int)-1)))=true:=decide_eq_true c11;clear c11;obtain⟨cN,FH⟩:∃j_:Int,(LS ((bQ.length:Int)-1))=j_:=⟨_,rfl⟩
   replace H:(if 0≤(cN)then(if(cN)<(bQ.length:Int)then((ri.f ((I bQ (cN)).f0) ((I bQ (cN)).f1) ((I bQ (cN)).f2) ((I bQ (cN)).f3) ai 1 ((am l0 ai).f1) ((am l0 ai).f2)).bind fun DK=>(if DK=true then(dP.l0 k1 l0 (l0.length:Int) (LS (ai+1)) (bQ.set ((cN):Int).toNat (⟨(I bQ (cN)).f0,LS (((I bQ (cN)).f1)+1),(I bQ (cN)).f2,(I bQ (cN)).f3⟩:a7)))else(if bQ.length<4398046511104 then(dP.l0 k1 l0 (l0.length:Int) (LS (ai+1)) (bQ++[(⟨ai,1,(am l0 ai).f1,(am l0 ai).f2⟩:a7)]))else(none))))else(none))else(none))=some (r1,r2):=by first|(rw[FH]at H;exact H)|(simp only[FH]at H⊢;exact H)
   (try rw[FH]at xC);have hji12w:(abf.wrap ((bQ.length:Int)-1))=cN:=(cz _).trans FH
   by_cases c13:0≤(cN)
   rotate_left
   ·
    rw[if_neg c13]at H;exact absurd H (by simp)
   rw[if_pos c13]at H;have ww:decide (0≤(cN))=true:=decide_eq_true c13;clear c13
   by_cases c14:(cN)<(bQ.length:Int)
   rotate_left
   ·
    rw[if_neg c14]at H;exact absurd H (by simp)
   rw[if_pos c14]at H;have pW:decide ((cN)<(bQ.length:Int))=true:=decide_eq_true c14;clear c14;replace H:=LT.mp H;obtain⟨DK,KN,H⟩:=H
   try dsimp only at H
   have LO:=Ah KN;clear KN
   by_cases c16:DK=true
   rotate_left
   ·
    replace c16:=dn.mpr c16;subst c16;rw[if_neg dV]at H
    by_cases lH:bQ.length<4398046511104
    rotate_left
    ·
     rw[if_neg lH]at H;exact absurd H (by simp)
    rw[if_pos lH]at H;have LMc36:=Ah lH;clear lH;obtain⟨PA,JD⟩:∃y_:List (a7),y_=(bQ++[(⟨ai,1,(am l0 ai).f1,(am l0 ai).f2⟩:a7)]):=⟨_,rfl⟩
    replace H:(dP.l0 k1 l0 (l0.length:Int) (LS (ai+1)) PA)=some (r1,r2):=by first|(rw[JD];with_reducible exact H)|(have aX:=(Mq _ _).symm.trans H;rw[JD];with_reducible exact aX)|(have aX:=(Mq _ _).symm.trans H;with_reducible exact aX)|with_reducible exact H|(rw[JD];exact H)|exact H
    have Ny481:=Ah JD;clear JD;have H':=Ah H;clear H;have oU:0≤(ai:Int):=od;have oV:ai<(l0.length:Int):=od;obtain⟨Tv,DL,m2,o9,m3⟩:=oE gV.out ai oU oV;(try rw[←uN.out]at m2);(try rw[←uN.out]at m3)
    cases DL
    replace m2:=(HB.out.cell (LA w _ m2)).trans m2;replace o9:=(HB.out.cell (LA w _ o9)).trans o9;replace m3:=(HB.out.cell (LA w _ m3)).trans m3;replace oU:=eq_true oU;replace oV:=eq_true oV
    try go_wp2_with (first|((with_reducible refine ax (N:=6) rfl ?_);refine bA 6 71 #[.bool false,.int .i64 0,.bool false] ?_;intro jT hg PV dz hb;replace cv:=nr cv hb;have Tw:=gw hg (aW HB fu gQ);have jf:=gw hg (aW HB fu gQ);replace HB:=Ah (aK (aW HB fu gQ) hb);have mr:=nn cm hg;have Af:=nm cm hg;replace cm:=nb cm hb;have ms:=nn cD hg;have Ag:=nm cD hg;replace cD:=nb cD hb;clear hb hg;have a1U:=Af.out;have a1V:=mr.out;have N8:=Ag.out;have N9:=ms.out;obtain⟨nS,RG,RH⟩:=rU dz;obtain⟨nT,RI,RJ⟩:=rV dz)|((with_reducible refine ax (N:=7) rfl ?_);refine bA 7 65 #[.int .i64 0,.int .i64 0,.int .i64 0,.bool false] ?_;intro bM hg rY e7 hb;replace cv:=Ah (Kd.eO (Kd.gD (by(with_reducible repeat(first|apply Kd.bG|apply Kd.bE|apply Kd.al));exact(Kd.aY (Kd.aQ (p:=⟨jT,2,none⟩) (Kd.aQ (p:=⟨jT,1,none⟩) (Kd.aQ (p:=⟨jT,0,none⟩) (Kd.cl cv.out dz.out (by decide)) (fun _ hk=>hk.2) (.bool true)) (fun _ hk=>hk.2) (.int .i64 ((am l0 ai).f1))) (fun _ hk=>hk.2) (.bool ((am l0 ai).f2))) (fun _ h_=>h_.1))) bM (aaj hg.symm)) hb);have a25:=gw hg (bX HB fu gQ jf);have pg:=gw hg (bX HB fu gQ jf);replace HB:=Ah (aK (bX HB fu gQ jf) hb);have yL:=Ah ((by rw[hg];exact aaI (jr (g:=m7) (o:= .cells #[.slice none 0 0] 25 (0,0)) (bf cm mr)):m7≠bM));have Gm:=Ah ((by rw[hg];exact aaJ (jr (g:=m7) (o:= .cells #[.slice none 0 0] 25 (0,0)) (bf cm mr)):bM≠m7));replace cm:=Ah (cC (bf cm mr) hb);have yM:=Ah ((by rw[hg];exact aaI (jr (g:=lh) (o:= .cells #[vG] 25 (0,0)) (bf cD ms)):lh≠bM));have Gn:=Ah ((by rw[hg];exact aaJ (jr (g:=lh) (o:= .cells #[vG] 25 (0,0)) (bf cD ms)):bM≠lh));replace cD:=Ah (cC (bf cD ms) hb);have yN:=Ah ((LC dz hg:jT≠bM));have Gp:=Ah ((PH dz hg:bM≠jT));replace dz:=Ah (cC (g:=jT) (o:= .cells #[.bool true,.int .i64 ((am l0 ai).f1),.bool ((am l0 ai).f2)] 71 (0,0)) (by(with_reducible repeat(first|refine aD ?_ _|refine Z ?_|refine aC ?_ _));refine aj (cs:= #[.bool true,.int .i64 ((am l0 ai).f1),.bool false]) ?_ 2 _ rfl;(with_reducible repeat(first|refine aD ?_ _|refine Z ?_|refine aC ?_ _));refine aj (cs:= #[.bool true,.int .i64 0,.bool false]) ?_ 1 _ rfl;(with_reducible repeat(first|refine aD ?_ _|refine Z ?_|refine aC ?_ _));refine aj (cs:= #[.bool false,.int .i64 0,.bool false]) ?_ 0 _ rfl;(with_reducible repeat(first|refine aD ?_ _|refine Z ?_|refine aC ?_ _));exact dz.out) hb);clear hb hg;have NI:=Gm.out;have NJ:=yL.out;have a1F:=Gn.out;have a1G:=yM.out;have hnb44:=Gp.out;have hnc44:=yN.out;obtain⟨Z0,hcz45_1,hcz45_2,hcz45_3⟩:=cA e7;obtain⟨Z1,hfz45_1,hfz45_2,hfz45_3⟩:=cB e7;have hnb46:=EA.out;have hnc46:=wA.out;have hcz47_0:=ap cD;have hfz47_0:=an cD;obtain⟨a5R,Ko,eo48⟩:=Kd.bq cv.out;subst eo48))
    have aa:U (Kd.R b7 65 ((((rY.setCell ⟨bM,0,none⟩ (.int .i64 ai)).setCell ⟨bM,1,none⟩ (.int .i64 1)).setCell ⟨bM,2,none⟩ (.int .i64 ((am l0 ai).f1))).setCell ⟨bM,3,none⟩ (.bool ((am l0 ai).f2))) w.heap.size (fun k_=>k_≠bM) (.slice a5R bQ.length Ko) bQ):=⟨by(with_reducible repeat(first|apply Kd.bG|apply Kd.bE|apply Kd.al));exact Kd.aY (Kd.aQ (p:=⟨bM,3,none⟩) (Kd.aQ (p:=⟨bM,2,none⟩) (Kd.aQ (p:=⟨bM,1,none⟩) (Kd.aQ (p:=⟨bM,0,none⟩) (Kd.aY cv.out (fun k_ hk=>(⟨hk,hk.2⟩:_∧k_≠bM))) (fun _ hk=>hk.2) (.int .i64 ai)) (fun _ hk=>hk.2) (.int .i64 1)) (fun _ hk=>hk.2) (.int .i64 ((am l0 ai).f1))) (fun _ hk=>hk.2) (.bool ((am l0 ai).f2))) (fun _ hk=>hk.1.2)⟩;have ab:U (((((rY.setCell ⟨bM,0,none⟩ (.int .i64 ai)).setCell ⟨bM,1,none⟩ (.int .i64 1)).setCell ⟨bM,2,none⟩ (.int .i64 ((am l0 ai).f1))).setCell ⟨bM,3,none⟩ (.bool ((am l0 ai).f2))).heap[m7]?=some (.cells #[.slice none 0 0] 25 (0,0))):=⟨bf cm yL⟩;have ac:U (((((rY.setCell ⟨bM,0,none⟩ (.int .i64 ai)).setCell ⟨bM,1,none⟩ (.int .i64 1)).setCell ⟨bM,2,none⟩ (.int .i64 ((am l0 ai).f1))).setCell ⟨bM,3,none⟩ (.bool ((am l0 ai).f2))).heap[lh]?=some (.cells #[.slice a5R bQ.length Ko] 25 (0,0))):=⟨bf cD yM⟩;have ae:U (((((rY.setCell ⟨bM,0,none⟩ (.int .i64 ai)).setCell ⟨bM,1,none⟩ (.int .i64 1)).setCell ⟨bM,2,none⟩ (.int .i64 ((am l0 ai).f1))).setCell ⟨bM,3,none⟩ (.bool ((am l0 ai).f2))).heap[jT]?=some (.cells #[.bool true,.int .i64 ((am l0 ai).f1),.bool ((am l0 ai).f2)] 71 (0,0))):=⟨bf dz yN⟩;have bK:U (((((rY.setCell ⟨bM,0,none⟩ (.int .i64 ai)).setCell ⟨bM,1,none⟩ (.int .i64 1)).setCell ⟨bM,2,none⟩ (.int .i64 ((am l0 ai).f1))).setCell ⟨bM,3,none⟩ (.bool ((am l0 ai).f2))).heap[bM]?=some (.cells #[.int .i64 ai,.int .i64 1,.int .i64 ((am l0 ai).f1),.bool ((am l0 ai).f2)] 65 (0,0))):=⟨by(with_reducible repeat(first|refine aD ?_ _|refine Z ?_|refine aC ?_ _));refine aj (cs:= #[.int .i64 ai,.int .i64 1,.int .i64 ((am l0 ai).f1),.bool false]) ?_ 3 _ rfl;(with_reducible repeat(first|refine aD ?_ _|refine Z ?_|refine aC ?_ _));refine aj (cs:= #[.int .i64 ai,.int .i64 1,.int .i64 0,.bool false]) ?_ 2 _ rfl;(with_reducible repeat(first|refine aD ?_ _|refine Z ?_|refine aC ?_ _));refine aj (cs:= #[.int .i64 ai,.int .i64 0,.int .i64 0,.bool false]) ?_ 1 _ rfl;(with_reducible repeat(first|refine aD ?_ _|refine Z ?_|refine aC ?_ _));refine aj (cs:= #[.int .i64 0,.int .i64 0,.int .i64 0,.bool false]) ?_ 0 _ rfl;(with_reducible repeat(first|refine aD ?_ _|refine Z ?_|refine aC ?_ _));exact e7.out⟩;have bP:U (Below w.heap.size w ((((rY.setCell ⟨bM,0,none⟩ (.int .i64 ai)).setCell ⟨bM,1,none⟩ (.int .i64 1)).setCell ⟨bM,2,none⟩ (.int .i64 ((am l0 ai).f1))).setCell ⟨bM,3,none⟩ (.bool ((am l0 ai).f2)))):=⟨dc HB fu gQ jf pg⟩;(try clear cv);(try clear cm);(try clear cD);(try clear dz);(try clear e7);(try clear HB)
    generalize ((((rY.setCell ⟨bM,0,none⟩ (.int .i64 ai)).setCell ⟨bM,1,none⟩ (.int .i64 1)).setCell ⟨bM,2,none⟩ (.int .i64 ((am l0 ai).f1))).setCell ⟨bM,3,none⟩ (.bool ((am l0 ai).f2)))=w49 at aa ab ac ae bK bP⊢
    have cv:=aa;have cm:=ab;have cD:=ac;have dz:=ae;have e7:=bK;have HB:=bP;clear aa ab ac ae bK bP;have aa:=Ah (Kd.al cv.out);have ab:=Ah (Z cm.out);have ac:=Ah (Z cD.out);have ae:=Ah (Z dz.out);have bK:=Ah (Z e7.out);have bP:=Ah (fO HB.out);clear cv cm cD dz e7 HB;have cv:=aa;have cm:=ab;have cD:=ac;have dz:=ae;have e7:=bK;have HB:=bP;clear aa ab ac ae bK bP;have DM:0≤((cN):Int):=od;have DN:(cN)<(bQ.length:Int):=od;obtain⟨ll,W8,EX,EY,EZ,yw⟩:=f6 (Kd.af cv.out).2.2 (cN) DM DN;(try rw[←uN.out]at yw)
    cases W8
    replace DM:=eq_true DM;replace DN:=eq_true DN;refine iY (n:=11) (S:=fun w'=>w'.cell? ⟨lh,0,none⟩=some (.slice (some ll) bQ.length Ko)∧w'.cell? ⟨bM,0,none⟩=some (.int .i64 ai)∧w'.cell? ⟨bM,1,none⟩=some (.int .i64 1)∧w'.cell? ⟨bM,2,none⟩=some (.int .i64 ((am l0 ai).f1))∧w'.cell? ⟨bM,3,none⟩=some (.bool ((am l0 ai).f2))∧w'.cell? (ll.add (((cN)).toNat*4))=some (.int .i64 ((I bQ (cN)).f0))∧w'.cell? ⟨(ll.add (((cN)).toNat*4)).block,(ll.add (((cN)).toNat*4)).off+1,none⟩=some (.int .i64 ((I bQ (cN)).f1))∧w'.cell? ⟨(ll.add (((cN)).toNat*4)).block,(ll.add (((cN)).toNat*4)).off+2,none⟩=some (.int .i64 ((I bQ (cN)).f2))∧w'.cell? ⟨(ll.add (((cN)).toNat*4)).block,(ll.add (((cN)).toNat*4)).off+3,none⟩=some (.bool ((I bQ (cN)).f3))) (ds:=[]) #[false,false,false,false,false,false,false,false,false,false,false] (by kernel_rfl) rfl rfl ⟨(bC cD.out 0).trans rfl,(bC e7.out 0).trans rfl,(bC e7.out 1).trans rfl,(bC e7.out 2).trans rfl,(bC e7.out 3).trans rfl,EX,EY,EZ,yw⟩ (fun hHeld=> ?_);refine ig dP.Fx dP.FG (fun X cV=> ?_)
    generalize w49.drew=w50 at cv cm cD dz e7 HB EX EY EZ yw hHeld⊢
    refine aN 0 30 X.out ?_;refine aN 1 31 X.out ?_;refine aN 2 32 X.out ?_;refine aN 3 33 X.out ?_;refine aN 5 35 X.out ?_;refine eF 4 34 X.out cV.out hHeld (hr:=by rintro w' ⟨s0,s1,s2,s3,s4,s5,s6,s7,s8⟩;go_simp;with_reducible rfl) (h:= ?_);refine aN 6 36 X.out ?_;refine eF 7 37 X.out cV.out hHeld (hr:=by rintro w' ⟨s0,s1,s2,s3,s4,s5,s6,s7,s8⟩;go_simp;with_reducible rfl) (h:= ?_);refine eF 8 38 X.out cV.out hHeld (hr:=by rintro w' ⟨s0,s1,s2,s3,s4,s5,s6,s7,s8⟩;go_simp;with_reducible rfl) (h:= ?_);refine ga (i:=9) (N:=some 39) #[true,true,true,true,true,true,true,true,true,true,false] rfl rfl (fy X.out (by kernel_rfl)) (by decide) (fun K hK=> ?_);refine il Try.func31 (by kernel_rfl) rfl #[.agg #[.int .i64 ((I bQ (cN)).f0),.int .i64 ((I bQ (cN)).f1),.int .i64 ((I bQ (cN)).f2),.bool ((I bQ (cN)).f3)],.agg #[.int .i64 ai,.int .i64 1,.int .i64 ((am l0 ai).f1),.bool ((am l0 ai).f2)]] (by rfl) rfl rfl (by(try simp only[List.map_toArray,List.map_cons,List.map_nil]);first|done|(simp only[FH];rfl)|rfl|(simp only[List.length_drop,List.length_take];rfl)) ?_
    with_reducible refine(ri.calls ((I bQ (cN)).f0) ((I bQ (cN)).f1) ((I bQ (cN)).f2) ((I bQ (cN)).f3) ai 1 ((am l0 ai).f1) ((am l0 ai).f2) false _ LO.out).mono ?_
    rintro e Wj ⟨rfl,hb⟩;have Ct:=(hb.cell (LA _ _ (hHeld.2.2.2.2.2.1))).trans (hHeld.2.2.2.2.2.1);have Cu:=(hb.cell (LA _ _ (hHeld.2.2.2.2.2.2.1))).trans (hHeld.2.2.2.2.2.2.1);have Cv:=(hb.cell (LA _ _ (hHeld.2.2.2.2.2.2.2.1))).trans (hHeld.2.2.2.2.2.2.2.1);have W9:=(hb.cell (LA _ _ (hHeld.2.2.2.2.2.2.2.2))).trans (hHeld.2.2.2.2.2.2.2.2);refine⟨_,rfl, ?_⟩;have aa:=Ah (Kd.eO (rr cv.out) hb);have ab:=Ah (bb cm hb);have ac:=Ah (bb cD hb);have ae:=Ah (bb dz hb);have bK:=Ah (bb e7 hb);have bP:=Ah (aK (dc HB fu gQ jf pg) hb);clear cv cm cD dz e7 HB;have cv:=aa;have cm:=ab;have cD:=ac;have dz:=ae;have e7:=bK;have HB:=bP;clear aa ab ac ae bK bP;(try clear hb);(try clear hb2);(try clear hk);(try clear hi);refine hK.out _ _ ⟨(bC cD.out 0).trans rfl,(bC e7.out 0).trans rfl,(bC e7.out 1).trans rfl,(bC e7.out 2).trans rfl,(bC e7.out 3).trans rfl,Ct,Cu,Cv,W9⟩ (fun hHeld=> ?_);clear hK K;refine hU (a':= ?_) ?_ ?_;rotate_left
    ·
     show Act.put _ (some 39) _=_
     simp only[Act.put,Ok,bY,dl,cz,dS]
     rfl
    refine aN 10 40 X.out ?_;refine i9 (iD X.out (by kernel_rfl)) ?_;have ZE:=ap cD;have ZF:=an cD;obtain⟨t9,hcz53_1,hcz53_2,hcz53_3⟩:=cA e7;obtain⟨tA,hfz53_1,hfz53_2,hfz53_3⟩:=cB e7
    try go_wp2_with (first|((with_reducible refine eS (b:= .append) (xs:= #[.tmp 51,.tmp 53]) rfl ?_);at_builtin;refine Kd.gX b7 (w0:=w) w.heap.size rfl (.tmp 51) (.tmp 53) 23 65 (.agg #[(.int .i64 0),(.int .i64 0),(.int .i64 0),(.bool false)]) 32 rfl aac gF rfl (by decide) (by omega) (.slice (some ll) bQ.length Ko) bQ (⟨ai,1,(am l0 ai).f1,(am l0 ai).f2⟩:a7) [.int .i64 ai,.int .i64 1,.int .i64 ((am l0 ai).f1),.bool ((am l0 ai).f2)] (fun k_=>k_≠bM) (fun _=>False) rfl rfl ?aP (fun _ hk=>hk.elim) ?aF ?aO ?aB ?aS ?aL ?_;(case aP=>exact jp _ _ _ (⟨ai,1,(am l0 ai).f1,(am l0 ai).f2⟩:a7));(case aB=>exact(dc HB fu gQ jf pg));(case aF=>exact(fun k_ hk=>Kd.gE (bk e7) k_ hk));(case aO=>exact(rr cv.out));(case aS=>exact(be (dc HB fu gQ jf pg)));(case aL=>have:=LMc36.out;omega);intro v482 w54 ho hb hg hat;rw[←Ny481.out]at ho;replace cm:=Ah (cX (bk cm) hg (Kd.eD cv.out cm.out (by decide)));replace cD:=Ah (cX (bk cD) hg (Kd.eD cv.out cD.out (by decide)));replace dz:=Ah (cX (bk dz) hg (Kd.eD cv.out dz.out (by decide)));replace e7:=Ah (cX (bk e7) hg (Kd.bF cv.out (fun _ hk=>hk)));replace HB:=Ah (hb);have a27:=Ah (ho);clear cv;clear ho hb hg hat;obtain⟨a5S,a5T,eo55⟩:=Kd.bq a27.out;subst eo55;have hcz56_0:=ap cD;have hfz56_0:=an cD))
    go_roundg k1
    case measure=>have:=bU.out;omega
    case rel=>exact⟨(LS (ai+1)),(PA),(.slice a5S PA.length a5T),e3,H',⟨by have:=bU.out;omega⟩,⟨by(with_reducible repeat(first|apply Kd.bG|apply Kd.bE|apply Kd.al));exact Kd.aY (Kd.aQ (p:=⟨lh,0,none⟩) (Kd.cl a27.out cD.out (by decide)) (fun _ hk=>hk.2) (.slice a5S PA.length a5T)) (fun _ hk=>trivial)⟩,⟨bf cm wA⟩,⟨by(with_reducible repeat(first|refine aD ?_ _|refine Z ?_|refine aC ?_ _));refine aj (cs:= #[.slice (some ll) bQ.length Ko]) ?_ 0 _ rfl;(with_reducible repeat(first|refine aD ?_ _|refine Z ?_|refine aC ?_ _));exact cD.out⟩,⟨dc HB fu gQ jf pg⟩⟩
   subst c16;rw[if_pos rfl]at H;obtain⟨WA,JE⟩:∃y_:List (a7),y_=(bQ.set ((cN):Int).toNat (⟨(I bQ (cN)).f0,LS (((I bQ (cN)).f1)+1),(I bQ (cN)).f2,(I bQ (cN)).f3⟩:a7)):=⟨_,rfl⟩
   replace H:(dP.l0 k1 l0 (l0.length:Int) (LS (ai+1)) WA)=some (r1,r2):=by first|(rw[JE];with_reducible exact H)|(have aX:=(Mq _ _).symm.trans H;rw[JE];with_reducible exact aX)|(have aX:=(Mq _ _).symm.trans H;with_reducible exact aX)|with_reducible exact H|(rw[JE];exact H)|exact H
   have Ny480:=Ah JE;clear JE;have H':=Ah H;clear H;have oU:0≤(ai:Int):=od;have oV:ai<(l0.length:Int):=od;obtain⟨Tv,DL,m2,o9,m3⟩:=oE gV.out ai oU oV;(try rw[←uN.out]at m2);(try rw[←uN.out]at m3)
   cases DL
   replace m2:=(HB.out.cell (LA w _ m2)).trans m2;replace o9:=(HB.out.cell (LA w _ o9)).trans o9;replace m3:=(HB.out.cell (LA w _ m3)).trans m3;replace oU:=eq_true oU;replace oV:=eq_true oV
   try go_wp2_with (first|((with_reducible refine ax (N:=6) rfl ?_);refine bA 6 71 #[.bool false,.int .i64 0,.bool false] ?_;intro jT hg Wh dz hb;replace cv:=nr cv hb;have Tw:=gw hg (aW HB fu gQ);have jf:=gw hg (aW HB fu gQ);replace HB:=Ah (aK (aW HB fu gQ) hb);have mr:=nn cm hg;have Af:=nm cm hg;replace cm:=nb cm hb;have ms:=nn cD hg;have Ag:=nm cD hg;replace cD:=nb cD hb;clear hb hg;have a28:=Af.out;have a29:=mr.out;have hnb20:=Ag.out;have hnc20:=ms.out;obtain⟨RA,hcz21_1,hcz21_2⟩:=rU dz;obtain⟨RB,hfz21_1,hfz21_2⟩:=rV dz)|((with_reducible refine ax (N:=7) rfl ?_);refine bA 7 65 #[.int .i64 0,.int .i64 0,.int .i64 0,.bool false] ?_;intro bM hg kt e7 hb;replace cv:=Ah (Kd.eO (Kd.gD (by(with_reducible repeat(first|apply Kd.bG|apply Kd.bE|apply Kd.al));exact(Kd.aY (Kd.aQ (p:=⟨jT,2,none⟩) (Kd.aQ (p:=⟨jT,1,none⟩) (Kd.aQ (p:=⟨jT,0,none⟩) (Kd.cl cv.out dz.out (by decide)) (fun _ hk=>hk.2) (.bool true)) (fun _ hk=>hk.2) (.int .i64 ((am l0 ai).f1))) (fun _ hk=>hk.2) (.bool ((am l0 ai).f2))) (fun _ h_=>h_.1))) bM (aaj hg.symm)) hb);have a25:=gw hg (bX HB fu gQ jf);have pg:=gw hg (bX HB fu gQ jf);replace HB:=Ah (aK (bX HB fu gQ jf) hb);have yL:=Ah ((by rw[hg];exact aaI (jr (g:=m7) (o:= .cells #[.slice none 0 0] 25 (0,0)) (bf cm mr)):m7≠bM));have Gm:=Ah ((by rw[hg];exact aaJ (jr (g:=m7) (o:= .cells #[.slice none 0 0] 25 (0,0)) (bf cm mr)):bM≠m7));replace cm:=Ah (cC (bf cm mr) hb);have yM:=Ah ((by rw[hg];exact aaI (jr (g:=lh) (o:= .cells #[vG] 25 (0,0)) (bf cD ms)):lh≠bM));have Gn:=Ah ((by rw[hg];exact aaJ (jr (g:=lh) (o:= .cells #[vG] 25 (0,0)) (bf cD ms)):bM≠lh));replace cD:=Ah (cC (bf cD ms) hb);have yN:=Ah ((LC dz hg:jT≠bM));have Gp:=Ah ((PH dz hg:bM≠jT));replace dz:=Ah (cC (g:=jT) (o:= .cells #[.bool true,.int .i64 ((am l0 ai).f1),.bool ((am l0 ai).f2)] 71 (0,0)) (by(with_reducible repeat(first|refine aD ?_ _|refine Z ?_|refine aC ?_ _));refine aj (cs:= #[.bool true,.int .i64 ((am l0 ai).f1),.bool false]) ?_ 2 _ rfl;(with_reducible repeat(first|refine aD ?_ _|refine Z ?_|refine aC ?_ _));refine aj (cs:= #[.bool true,.int .i64 0,.bool false]) ?_ 1 _ rfl;(with_reducible repeat(first|refine aD ?_ _|refine Z ?_|refine aC ?_ _));refine aj (cs:= #[.bool false,.int .i64 0,.bool false]) ?_ 0 _ rfl;(with_reducible repeat(first|refine aD ?_ _|refine Z ?_|refine aC ?_ _));exact dz.out) hb);clear hb hg;have SY:=Gm.out;have SZ:=yL.out;have NL:=Gn.out;have NM:=yM.out;have Sx:=Gp.out;have Sy:=yN.out;obtain⟨RY,ZM,ZN,hcz26_3⟩:=cA e7;obtain⟨RZ,ZO,ZP,hfz26_3⟩:=cB e7;have hnb27:=EA.out;have hnc27:=wA.out;have RW:=ap cD;have RX:=an cD;obtain⟨rT,mH,Kp⟩:=Kd.bq cv.out;subst Kp))
   have aa:U (Kd.R b7 65 ((((kt.setCell ⟨bM,0,none⟩ (.int .i64 ai)).setCell ⟨bM,1,none⟩ (.int .i64 1)).setCell ⟨bM,2,none⟩ (.int .i64 ((am l0 ai).f1))).setCell ⟨bM,3,none⟩ (.bool ((am l0 ai).f2))) w.heap.size (fun k_=>k_≠bM) (.slice rT bQ.length mH) bQ):=⟨by(with_reducible repeat(first|apply Kd.bG|apply Kd.bE|apply Kd.al));exact Kd.aY (Kd.aQ (p:=⟨bM,3,none⟩) (Kd.aQ (p:=⟨bM,2,none⟩) (Kd.aQ (p:=⟨bM,1,none⟩) (Kd.aQ (p:=⟨bM,0,none⟩) (Kd.aY cv.out (fun k_ hk=>(⟨hk,hk.2⟩:_∧k_≠bM))) (fun _ hk=>hk.2) (.int .i64 ai)) (fun _ hk=>hk.2) (.int .i64 1)) (fun _ hk=>hk.2) (.int .i64 ((am l0 ai).f1))) (fun _ hk=>hk.2) (.bool ((am l0 ai).f2))) (fun _ hk=>hk.1.2)⟩;have ab:U (((((kt.setCell ⟨bM,0,none⟩ (.int .i64 ai)).setCell ⟨bM,1,none⟩ (.int .i64 1)).setCell ⟨bM,2,none⟩ (.int .i64 ((am l0 ai).f1))).setCell ⟨bM,3,none⟩ (.bool ((am l0 ai).f2))).heap[m7]?=some (.cells #[.slice none 0 0] 25 (0,0))):=⟨bf cm yL⟩;have ac:U (((((kt.setCell ⟨bM,0,none⟩ (.int .i64 ai)).setCell ⟨bM,1,none⟩ (.int .i64 1)).setCell ⟨bM,2,none⟩ (.int .i64 ((am l0 ai).f1))).setCell ⟨bM,3,none⟩ (.bool ((am l0 ai).f2))).heap[lh]?=some (.cells #[.slice rT bQ.length mH] 25 (0,0))):=⟨bf cD yM⟩;have ae:U (((((kt.setCell ⟨bM,0,none⟩ (.int .i64 ai)).setCell ⟨bM,1,none⟩ (.int .i64 1)).setCell ⟨bM,2,none⟩ (.int .i64 ((am l0 ai).f1))).setCell ⟨bM,3,none⟩ (.bool ((am l0 ai).f2))).heap[jT]?=some (.cells #[.bool true,.int .i64 ((am l0 ai).f1),.bool ((am l0 ai).f2)] 71 (0,0))):=⟨bf dz yN⟩;have bK:U (((((kt.setCell ⟨bM,0,none⟩ (.int .i64 ai)).setCell ⟨bM,1,none⟩ (.int .i64 1)).setCell ⟨bM,2,none⟩ (.int .i64 ((am l0 ai).f1))).setCell ⟨bM,3,none⟩ (.bool ((am l0 ai).f2))).heap[bM]?=some (.cells #[.int .i64 ai,.int .i64 1,.int .i64 ((am l0 ai).f1),.bool ((am l0 ai).f2)] 65 (0,0))):=⟨by(with_reducible repeat(first|refine aD ?_ _|refine Z ?_|refine aC ?_ _));refine aj (cs:= #[.int .i64 ai,.int .i64 1,.int .i64 ((am l0 ai).f1),.bool false]) ?_ 3 _ rfl;(with_reducible repeat(first|refine aD ?_ _|refine Z ?_|refine aC ?_ _));refine aj (cs:= #[.int .i64 ai,.int .i64 1,.int .i64 0,.bool false]) ?_ 2 _ rfl;(with_reducible repeat(first|refine aD ?_ _|refine Z ?_|refine aC ?_ _));refine aj (cs:= #[.int .i64 ai,.int .i64 0,.int .i64 0,.bool false]) ?_ 1 _ rfl;(with_reducible repeat(first|refine aD ?_ _|refine Z ?_|refine aC ?_ _));refine aj (cs:= #[.int .i64 0,.int .i64 0,.int .i64 0,.bool false]) ?_ 0 _ rfl;(with_reducible repeat(first|refine aD ?_ _|refine Z ?_|refine aC ?_ _));exact e7.out⟩;have bP:U (Below w.heap.size w ((((kt.setCell ⟨bM,0,none⟩ (.int .i64 ai)).setCell ⟨bM,1,none⟩ (.int .i64 1)).setCell ⟨bM,2,none⟩ (.int .i64 ((am l0 ai).f1))).setCell ⟨bM,3,none⟩ (.bool ((am l0 ai).f2)))):=⟨dc HB fu gQ jf pg⟩;(try clear cv);(try clear cm);(try clear cD);(try clear dz);(try clear e7);(try clear HB)
   generalize ((((kt.setCell ⟨bM,0,none⟩ (.int .i64 ai)).setCell ⟨bM,1,none⟩ (.int .i64 1)).setCell ⟨bM,2,none⟩ (.int .i64 ((am l0 ai).f1))).setCell ⟨bM,3,none⟩ (.bool ((am l0 ai).f2)))=rb at aa ab ac ae bK bP⊢
   have cv:=aa;have cm:=ab;have cD:=ac;have dz:=ae;have e7:=bK;have HB:=bP;clear aa ab ac ae bK bP;have aa:=Ah (Kd.al cv.out);have ab:=Ah (Z cm.out);have ac:=Ah (Z cD.out);have ae:=Ah (Z dz.out);have bK:=Ah (Z e7.out);have bP:=Ah (fO HB.out);clear cv cm cD dz e7 HB;have cv:=aa;have cm:=ab;have cD:=ac;have dz:=ae;have e7:=bK;have HB:=bP;clear aa ab ac ae bK bP;have DM:0≤((cN):Int):=od;have DN:(cN)<(bQ.length:Int):=od;obtain⟨ll,W8,EX,EY,EZ,yw⟩:=f6 (Kd.af cv.out).2.2 (cN) DM DN;(try rw[←uN.out]at yw)
   cases W8
   replace DM:=eq_true DM;replace DN:=eq_true DN;refine iY (n:=11) (S:=fun w'=>w'.cell? ⟨lh,0,none⟩=some (.slice (some ll) bQ.length mH)∧w'.cell? ⟨bM,0,none⟩=some (.int .i64 ai)∧w'.cell? ⟨bM,1,none⟩=some (.int .i64 1)∧w'.cell? ⟨bM,2,none⟩=some (.int .i64 ((am l0 ai).f1))∧w'.cell? ⟨bM,3,none⟩=some (.bool ((am l0 ai).f2))∧w'.cell? (ll.add (((cN)).toNat*4))=some (.int .i64 ((I bQ (cN)).f0))∧w'.cell? ⟨(ll.add (((cN)).toNat*4)).block,(ll.add (((cN)).toNat*4)).off+1,none⟩=some (.int .i64 ((I bQ (cN)).f1))∧w'.cell? ⟨(ll.add (((cN)).toNat*4)).block,(ll.add (((cN)).toNat*4)).off+2,none⟩=some (.int .i64 ((I bQ (cN)).f2))∧w'.cell? ⟨(ll.add (((cN)).toNat*4)).block,(ll.add (((cN)).toNat*4)).off+3,none⟩=some (.bool ((I bQ (cN)).f3))) (ds:=[]) #[false,false,false,false,false,false,false,false,false,false,false] (by kernel_rfl) rfl rfl ⟨(bC cD.out 0).trans rfl,(bC e7.out 0).trans rfl,(bC e7.out 1).trans rfl,(bC e7.out 2).trans rfl,(bC e7.out 3).trans rfl,EX,EY,EZ,yw⟩ (fun hHeld=> ?_);refine ig dP.Fx dP.FG (fun X cV=> ?_)
   generalize rb.drew=Dv at cv cm cD dz e7 HB EX EY EZ yw hHeld⊢
   refine aN 0 30 X.out ?_;refine aN 1 31 X.out ?_;refine aN 2 32 X.out ?_;refine aN 3 33 X.out ?_;refine aN 5 35 X.out ?_;refine eF 4 34 X.out cV.out hHeld (hr:=by rintro w' ⟨s0,s1,s2,s3,s4,s5,s6,s7,s8⟩;go_simp;with_reducible rfl) (h:= ?_);refine aN 6 36 X.out ?_;refine eF 7 37 X.out cV.out hHeld (hr:=by rintro w' ⟨s0,s1,s2,s3,s4,s5,s6,s7,s8⟩;go_simp;with_reducible rfl) (h:= ?_);refine eF 8 38 X.out cV.out hHeld (hr:=by rintro w' ⟨s0,s1,s2,s3,s4,s5,s6,s7,s8⟩;go_simp;with_reducible rfl) (h:= ?_);refine ga (i:=9) (N:=some 39) #[true,true,true,true,true,true,true,true,true,true,false] rfl rfl (fy X.out (by kernel_rfl)) (by decide) (fun K hK=> ?_);refine il Try.func31 (by kernel_rfl) rfl #[.agg #[.int .i64 ((I bQ (cN)).f0),.int .i64 ((I bQ (cN)).f1),.int .i64 ((I bQ (cN)).f2),.bool ((I bQ (cN)).f3)],.agg #[.int .i64 ai,.int .i64 1,.int .i64 ((am l0 ai).f1),.bool ((am l0 ai).f2)]] (by rfl) rfl rfl (by(try simp only[List.map_toArray,List.map_cons,List.map_nil]);first|done|(simp only[FH];rfl)|rfl|(simp only[List.length_drop,List.length_take];rfl)) ?_
   with_reducible refine(ri.calls ((I bQ (cN)).f0) ((I bQ (cN)).f1) ((I bQ (cN)).f2) ((I bQ (cN)).f3) ai 1 ((am l0 ai).f1) ((am l0 ai).f2) true _ LO.out).mono ?_
   rintro e w32 ⟨rfl,hb⟩;have Ct:=(hb.cell (LA _ _ (hHeld.2.2.2.2.2.1))).trans (hHeld.2.2.2.2.2.1);have Cu:=(hb.cell (LA _ _ (hHeld.2.2.2.2.2.2.1))).trans (hHeld.2.2.2.2.2.2.1);have Cv:=(hb.cell (LA _ _ (hHeld.2.2.2.2.2.2.2.1))).trans (hHeld.2.2.2.2.2.2.2.1);have W9:=(hb.cell (LA _ _ (hHeld.2.2.2.2.2.2.2.2))).trans (hHeld.2.2.2.2.2.2.2.2);refine⟨_,rfl, ?_⟩;have aa:=Ah (Kd.eO (rr cv.out) hb);have ab:=Ah (bb cm hb);have ac:=Ah (bb cD hb);have ae:=Ah (bb dz hb);have bK:=Ah (bb e7 hb);have bP:=Ah (aK (dc HB fu gQ jf pg) hb);clear cv cm cD dz e7 HB;have cv:=aa;have cm:=ab;have cD:=ac;have dz:=ae;have e7:=bK;have HB:=bP;clear aa ab ac ae bK bP;(try clear hb);(try clear hb2);(try clear hk);(try clear hi);refine hK.out _ _ ⟨(bC cD.out 0).trans rfl,(bC e7.out 0).trans rfl,(bC e7.out 1).trans rfl,(bC e7.out 2).trans rfl,(bC e7.out 3).trans rfl,Ct,Cu,Cv,W9⟩ (fun hHeld=> ?_);clear hK K;refine hU (a':= ?_) ?_ ?_;rotate_left
   ·
    show Act.put _ (some 39) _=_
    simp only[Act.put,Ok,bY,dl,cz,dS]
    rfl
   refine aN 10 40 X.out ?_;refine i9 (iD X.out (by kernel_rfl)) ?_;have Zh:=ap cD;have Zi:=an cD;have WB:0≤((cN):Int):=od;have WC:(cN)<(bQ.length:Int):=od;obtain⟨ad479,e479,hx479_0,hx479_1,hx479_2,Zl⟩:=f6 (Kd.af cv.out).2.2 (cN) WB WC;(try rw[←uN.out]at Zl);obtain rfl:ll=ad479:=(by injection e479);replace WB:=eq_true WB;replace WC:=eq_true WC;have E0:0≤((cN):Int):=od;have E1:((cN):Int)<((bQ.length:Int):Int):=od;obtain⟨jc,Vr,Ka,Kb,Vs,cl17,Ke⟩:=Kd.nW cv.out (by omega);(first|cases Ka|(injection Ka with dB iV iW;(first|subst dB|(injection dB with dB;subst dB));subst iW;clear iV));have Kf:=Ah Kb;have GG17:=Ah Ke;clear Kb Vs Ke;(first|simp only[db]at EX|skip);(first|simp only[db]at EY|skip);(first|simp only[db]at EZ|skip);(first|simp only[db]at yw|skip);(first|simp only[db]at hx479_0|skip);(first|simp only[db]at hx479_1|skip);(first|simp only[db]at hx479_2|skip);(first|simp only[db]at Zl|skip);obtain⟨ce17,To,Kg,vQ,vR⟩:=Kd.hJ cv.out rW ((cN):Int) E0 E1;obtain rfl:=uf Kg;have hx17_0:w32.cell? ⟨jc,((cN):Int).toNat*4,none⟩=some (.int .i64 ((I bQ (cN)).f0)):=vQ 0 _ rfl;have hx17_1:w32.cell? ⟨jc,((cN):Int).toNat*4+1,none⟩=some (.int .i64 ((I bQ (cN)).f1)):=vQ 1 _ rfl;have hx17_2:w32.cell? ⟨jc,((cN):Int).toNat*4+2,none⟩=some (.int .i64 ((I bQ (cN)).f2)):=vQ 2 _ rfl;have hx17_3:w32.cell? ⟨jc,((cN):Int).toNat*4+3,none⟩=some (.bool ((I bQ (cN)).f3)):=vQ 3 _ rfl;have hf17_0:w32.frozen? ⟨jc,((cN):Int).toNat*4,none⟩=false:=vR 0;have hf17_1:w32.frozen? ⟨jc,((cN):Int).toNat*4+1,none⟩=false:=vR 1;have hf17_2:w32.frozen? ⟨jc,((cN):Int).toNat*4+2,none⟩=false:=vR 2;have hf17_3:w32.frozen? ⟨jc,((cN):Int).toNat*4+3,none⟩=false:=vR 3;clear To vQ vR Kg;replace E0:=eq_true E0;replace E1:=eq_true E1;have a5U:=Ah (show Kd.R b7 65 w32 w.heap.size (fun k_=>k_≠bM) (.slice (some ⟨jc,0,none⟩) bQ.length mH) bQ from(rr cv.out));obtain⟨ce34,a3a,a5V,Tx,a3b⟩:=Kd.hJ a5U.out rW ((cN):Int) (od) (by have h_:((cN):Int)<((bQ.length:Int):Int):=od;first|exact h_|(have e_:=(Kd.af cv.out).1;omega)|simpa using h_);obtain rfl:=uf a5V;have WD:=Kd.lT a5U.out ((cN):Int) (od) (by have h_:((cN):Int)<((bQ.length:Int):Int):=od;first|exact h_|(have e_:=(Kd.af cv.out).1;omega)|simpa using h_) (seg:=[.int .i64 (LS (((I bQ (cN)).f1)+1))]) (j:=1) a3a Tx (show 2≤4 from by decide) (x':=(⟨(I bQ (cN)).f0,LS (((I bQ (cN)).f1)+1),(I bQ (cN)).f2,(I bQ (cN)).f3⟩:a7)) (jp _ _ _ (⟨(I bQ (cN)).f0,LS (((I bQ (cN)).f1)+1),(I bQ (cN)).f2,(I bQ (cN)).f3⟩:a7)) (fun _ hk=>hk);have hx34_1:=Tx 1 _ rfl;(try simp only[show(b7).sz=4 from rfl,aao,aal]at hx34_1);have hf34_1:=a3b 1;(try simp only[show(b7).sz=4 from rfl,aao,aal]at hf34_1);clear a3a Tx a3b a5V
   try go_wp2_with (first|((with_reducible refine rl (t:=3) (p:=49) rfl ?_);refine rk (t:=3) (p:=49) (v:= ?vo_w35) (w1:=(w32.setCell ⟨jc,((cN):Int).toNat*4+1,none⟩ (.int .i64 (LS (((I bQ (cN)).f1)+1))))) ?hg ?ho ?hn ?hr ?_;(case ho=>rfl);(case hg=>rfl);(case hn=>rfl);(case hr=>first|(go_simp;done)|(go_simp;rfl));intro Dw hw;have hg:w32.grownBy Dw (some jc):=(by rw[hw];exact WD.2);have iR:Kd.R b7 65 Dw w.heap.size (fun k_=>k_≠bM) (.slice (some ⟨jc,0,none⟩) bQ.length mH) WA:=(by rw[hw,Ny480.out];exact WD.1);clear WD;replace cm:=Ah (cX (bk cm) hg (Kd.eD cv.out cm.out (by decide)));replace cD:=Ah (cX (bk cD) hg (Kd.eD cv.out cD.out (by decide)));replace dz:=Ah (cX (bk dz) hg (Kd.eD cv.out dz.out (by decide)));replace e7:=Ah (cX (bk e7) hg (Kd.bF cv.out (fun _ hk=>hk)));replace cv:=Ah (iR);replace HB:=Ah ((by rw[hw];exact cF (HB.out) Kf.out:Below w.heap.size w Dw));clear hg hw iR))
   go_roundg k1
   case measure=>have:=bU.out;omega
   case rel=>exact⟨(LS (ai+1)),(WA),(.slice (some ⟨jc,0,none⟩) bQ.length mH),e3,H',⟨by have:=bU.out;omega⟩,rm cv (fun _ hk=>trivial),⟨bk cm⟩,⟨bk cD⟩,⟨dc HB fu gQ jf pg⟩⟩
def ox.f(k:Nat)(J:List (a7))(a1:Int)(a2:Int):Option ((List (a7))×(List (aT))×Bool):=(ku.f k J a1 a2).bind fun Kq=>(if Kq=true then((dJ.f k J).bind fun g9=>(if 0≤a1 then(if a1≤(LS (a1+a2))then(if(LS (a1+a2))≤(g9.length:Int)then((some ((g9.take ((LS (a1+a2)):Int).toNat).drop (a1:Int).toNat:List (eW))).bind fun it=>((fX.f k it).bind fun xl=>((dP.f k (g9.take (a1:Int).toNat++aaA it.length dO++g9.drop ((a1:Int).toNat+it.length))).bind fun tj=>(if tj.2=true then(some (tj.1,xl,true))else(some (([]:List (a7)),([]:List (aT)),false))))))else(none))else(none))else(none)))else(some (([]:List (a7)),([]:List (aT)),false)))
theorem ox.mono:∀a0 a1 a2 k,aG (ox.f k a0 a1 a2) (ox.f (k+1) a0 a1 a2):=by
 intro a0 a1 a2 k;unfold ox.f
 repeat' with_reducible first|exact dJ.mono _ _|exact fX.mono _ _|exact ku.mono _ _ _ _|exact dP.mono _ _|exact aG.refl _|exact aG.none _|refine aG.ite ?_ ?_|refine aG.bind ?_ (fun _=> ?_)
set_option maxHeartbeats 8000000 in
set_option maxRecDepth 100000 in
theorem ox.calls(k:Nat)(bS:Option Addr)(bL:Nat)(J:List (a7))(a1:Int)(a2:Int)(r1:List (a7))(r2:List (aT))(r3:Bool)(w:World)(fT:Kd.C b7 w bS J.length J)(fU:J.length≤bL)(h:ox.f k J a1 a2=some (r1,r2,r3)):
 Calls aad 5 #[.agg #[.slice bS J.length bL],.int .i64 a1,.int .i64 a2] w fun e w'=>∃da sm:Value,e= .returned (.tuple #[.agg #[da],sm,.bool r3])∧Kd.R b7 65 w' w.heap.size (fun _=>True) da r1∧Kd.R bd 38 w' w.heap.size (fun _=>True) sm r2∧Below w.heap.size w w':=by
 have kJ:=ua;have cY:=Ah fT;have dw:=Ah fU;clear fT fU;have HB:=Ah (aaa w.heap.size w);have H:((ku.f k J a1 a2).bind fun Kq=>(if Kq=true then((dJ.f k J).bind fun g9=>(if 0≤a1 then(if a1≤(LS (a1+a2))then(if(LS (a1+a2))≤(g9.length:Int)then((some ((g9.take ((LS (a1+a2)):Int).toNat).drop (a1:Int).toNat:List (eW))).bind fun it=>((fX.f k it).bind fun xl=>((dP.f k (g9.take (a1:Int).toNat++aaA it.length dO++g9.drop ((a1:Int).toNat+it.length))).bind fun tj=>(if tj.2=true then(some (tj.1,xl,true))else(some (([]:List (a7)),([]:List (aT)),false))))))else(none))else(none))else(none)))else(some (([]:List (a7)),([]:List (aT)),false))))=some (r1,r2,r3):=h;clear h;replace H:=LT.mp H;obtain⟨Kq,iv,H⟩:=H
 try dsimp only at H
 have A4:=Ah iv;clear iv
 by_cases c5:Kq=true
 rotate_left
 ·
  replace c5:=dn.mpr c5;subst c5;rw[if_neg dV]at H;simp only[j4,ub]at H;obtain⟨rfl,rfl,rfl⟩:=H
  go_enter Try.func5,Try.ntmps5
  go_wp2_with (first|((with_reducible refine ax (N:=3) rfl ?_);refine bA 3 25 #[.slice bS J.length bL] ?_;intro a3c hg Wj eU hb;have a3d:=gw hg (bs HB);have gR:=gw hg (bs HB);replace HB:=Ah (aK (bs HB) hb);clear hb hg)|((with_reducible refine ax (N:=6) rfl ?_);refine bA 6 25 #[.slice none 0 0] ?_;intro CT hg w52 fd hb;have a3e:=gw hg (aH HB gR);have ib:=gw hg (aH HB gR);replace HB:=Ah (aK (aH HB gR) hb);have Gq:=nn eU hg;have Gr:=nm eU hg;replace eU:=nb eU hb;clear hb hg;have a1B:=Gq.out;have a1C:=Gr.out;have hcz54_0:=ap eU;have hfz54_0:=an eU)|((with_reducible refine bJ (f:=22) rfl ?_);refine gL (some 16) rfl rfl abA (by kernel_rfl) rfl #[.agg #[.slice bS J.length bL],.int .i64 a1,.int .i64 a2] rfl ?_;(with_reducible refine(ku.calls k _ _ J a1 a2 false _ ?a8 ?a9 A4.out).mono ?_);(case a8=>exact cb cY HB);(case a9=>exact dw.out);rintro e w55 ⟨rfl,hb⟩;refine⟨_,rfl, ?_⟩;replace eU:=nb eU hb;replace fd:=nb fd hb;replace HB:=Ah (aK (aW HB gR ib) hb);(try clear hb);have hcz56_0:=ap fd;have hfz56_0:=an fd))
  refine bodyPost_ret (rj rfl _ _ CT 25 #[.slice none 0 0] (0,0) _ rfl (by(with_reducible repeat(first|refine aD ?_ _|refine Z ?_|refine aC ?_ _));refine aj (cs:= #[.slice none 0 0]) ?_ 0 _ rfl;(with_reducible repeat(first|refine aD ?_ _|refine Z ?_|refine aC ?_ _));exact fd.out) ua rfl (by kernel_rfl)) rfl ?_;exact⟨_,_,er,by first|exact Kd.fk _ _ _ _ _|exact Kd.iI _ _ _ _ _|exact Kd.iJ _ _ _ _ _|exact Kd.iG _ _ _ _ _|exact Kd.iH _ _ _ _ _,by first|exact Kd.fk _ _ _ _ _|exact Kd.iI _ _ _ _ _|exact Kd.iJ _ _ _ _ _|exact Kd.iG _ _ _ _ _|exact Kd.iH _ _ _ _ _,aW HB gR ib⟩
 subst c5;rw[if_pos rfl]at H;replace H:=LT.mp H;obtain⟨g9,iw,H⟩:=H
 try dsimp only at H
 have A6:=Ah iw;clear iw
 by_cases c7:0≤a1
 rotate_left
 ·
  rw[if_neg c7]at H;exact absurd H (by simp)
 rw[if_pos c7]at H;have zn:=eq_true c7;have c7b1:decide (0≤a1)=true:=decide_eq_true c7;clear c7
 by_cases c8:a1≤(LS (a1+a2))
 rotate_left
 ·
  rw[if_neg c8]at H;exact absurd H (by simp)
 rw[if_pos c8]at H;have nC:=eq_true c8;have c8b1:decide (a1≤(LS (a1+a2)))=true:=decide_eq_true c8
 by_cases c9:(LS (a1+a2))≤(g9.length:Int)
 rotate_left
 ·
  rw[if_neg c9]at H;exact absurd H (by simp)
 rw[if_pos c9]at H;have u1:=eq_true c9;have c9b1:decide ((LS (a1+a2))≤(g9.length:Int))=true:=decide_eq_true c9;obtain⟨it,JF⟩:∃y_:List (eW),y_=((g9.take ((LS (a1+a2)):Int).toNat).drop (a1:Int).toNat):=⟨_,rfl⟩
 replace H:((fX.f k it).bind fun xl=>((dP.f k (g9.take (a1:Int).toNat++List.replicate it.length dO++g9.drop ((a1:Int).toNat+it.length))).bind fun tj=>(if tj.2=true then(some (tj.1,xl,true))else(some (([]:List (a7)),([]:List (aT)),false)))))=some (r1,r2,r3):=by first|(rw[JF];with_reducible exact H)|(have aX:=(Option.bind_some _ _).symm.trans H;rw[JF];with_reducible exact aX)|(have aX:=(Option.bind_some _ _).symm.trans H;with_reducible exact aX)|with_reducible exact H|(rw[JF];exact H)|exact H
 have O3:=Ah JF;clear JF;replace H:=LT.mp H;obtain⟨xl,u7,H⟩:=H
 try dsimp only at H
 have yA:=Ah u7;clear u7;obtain⟨xm,JG⟩:∃y_:List (eW),y_=(g9.take (a1:Int).toNat++aaA it.length dO++g9.drop ((a1:Int).toNat+it.length)):=⟨_,rfl⟩
 replace H:((dP.f k xm).bind fun tj=>(if tj.2=true then(some (tj.1,xl,true))else(some (([]:List (a7)),([]:List (aT)),false))))=some (r1,r2,r3):=by first|(rw[JG];with_reducible exact H)|(have aX:=(Mq _ _).symm.trans H;rw[JG];with_reducible exact aX)|(have aX:=(Mq _ _).symm.trans H;with_reducible exact aX)|with_reducible exact H|(rw[JG];exact H)|exact H
 have a3f:=Ah JG;clear JG;replace H:=LT.mp H;obtain⟨⟨DP,t504⟩,KM,H⟩:=H
 try dsimp only at H
 have GF:=Ah KM;clear KM
 by_cases c12:t504=true
 rotate_left
 ·
  replace c12:=dn.mpr c12;subst c12;rw[if_neg dV]at H;simp only[j4,ub]at H;obtain⟨rfl,rfl,rfl⟩:=H
  go_enter Try.func5,Try.ntmps5
  go_wp2_with (first|((with_reducible refine ax (N:=3) rfl ?_);refine bA 3 25 #[.slice bS J.length bL] ?_;intro a3c hg w32 eU hb;have a3d:=gw hg (bs HB);have gR:=gw hg (bs HB);replace HB:=Ah (aK (bs HB) hb);clear hb hg)|((with_reducible refine ax (N:=6) rfl ?_);refine bA 6 25 #[.slice none 0 0] ?_;intro CT hg q9 fd hb;have a3e:=gw hg (aH HB gR);have ib:=gw hg (aH HB gR);replace HB:=Ah (aK (aH HB gR) hb);have Gq:=nn eU hg;have Gr:=nm eU hg;replace eU:=nb eU hb;clear hb hg;have Sr:=Gq.out;have Ss:=Gr.out;have R2:=ap eU;have R3:=an eU)|((with_reducible refine bJ (f:=22) rfl ?_);refine gL (some 16) rfl rfl abA (by kernel_rfl) rfl #[.agg #[.slice bS J.length bL],.int .i64 a1,.int .i64 a2] rfl ?_;(with_reducible refine(ku.calls k _ _ J a1 a2 true _ ?a8 ?a9 A4.out).mono ?_);(case a8=>exact cb cY HB);(case a9=>exact dw.out);rintro e Wr ⟨rfl,hb⟩;refine⟨_,rfl, ?_⟩;replace eU:=nb eU hb;replace fd:=nb fd hb;replace HB:=Ah (aK (aW HB gR ib) hb);(try clear hb);have EM:=ap eU;have EN:=an eU)|((with_reducible refine bJ (f:=23) rfl ?_);refine gL (some 20) rfl rfl abG (by kernel_rfl) rfl #[.agg #[.slice bS J.length bL]] rfl ?_;(with_reducible refine(dJ.calls k _ _ J g9 _ ?a8 ?a9 A6.out).mono ?_);(case a8=>exact cb cY HB);(case a9=>exact dw.out);rintro e PR ⟨v491,rfl,ho0,hb⟩;refine⟨_,rfl, ?_⟩;have gS:=Ah (Kd.dD ho0 (be (aW HB gR ib)));replace eU:=nb eU hb;replace fd:=nb fd hb;replace HB:=Ah (aK (aW HB gR ib) hb);(try clear hb ho0);obtain⟨Fy,zz,eo40⟩:=Kd.bq gS.out;subst eo40;have Wy:((LS (a1+a2)):Int)≤((g9.length:Int):Int):=od;obtain⟨i039,a3g,_,a3h,_⟩:=info_parts Bz;have Mh:g9.length≤zz:=(Kd.af gS.out).2.1;have a5W:Kd.C gx _ Fy g9.length g9:=(Kd.af gS.out).2.2;have ql39:(a1:Int)≤((LS (a1+a2)):Int):=od;have q039:(0:Int)≤(a1:Int):=od;have hcut39:=Yu (P:=aad) 56 71 .i64 .i64 abk a3g 3 a3h Fy g9.length zz a1 (LS (a1+a2)) q039 ql39 Wy Mh;have Kr:=Kd.a0A (lo:=(a1:Int).toNat) (hi:=((LS (a1+a2)):Int).toNat) (c:=zz) a5W (by omega) (by omega) Mh;obtain⟨A39,PB⟩:∃A1,A1=(if zz=(a1:Int).toNat then Fy else(Fy:Option Addr).map (·.add ((a1:Int).toNat*3))):=⟨_,rfl⟩;obtain⟨kZ,hc39⟩:∃c1,c1=zz-(a1:Int).toNat:=⟨_,rfl⟩;have hy39:it.length=((LS (a1+a2)):Int).toNat-(a1:Int).toNat:=(by rw[O3.out,gy,ao]<;>omega);rw[show((g9).take ((LS (a1+a2)):Int).toNat).drop (a1:Int).toNat=it from O3.out.symm]at Kr;replace Kr:Kd.C gx _ A39 it.length it:=(by rw[PB];exact Kr);rw[←hy39,←PB,←hc39]at hcut39;have tk:=Ah Kr;have Ty:=Ah (show it.length≤kZ from by rw[hy39,hc39];exact aaR (Nat.le_trans (by omega) Mh) _);clear Kr a5W Mh a3g a3h hc39;have KY39:=Ah hy39;have KA39:=Ah PB;clear hy39 PB;have KL39:=Ah (show((LS (a1+a2)):Int).toNat≤g9.length from by omega);have KM39:=Ah (show(a1:Int).toNat≤((LS (a1+a2)):Int).toNat from by omega);replace Wy:=eq_true Wy)|((with_reducible refine bJ (f:=24) rfl ?_);refine gL (some 27) rfl rfl Try.func24 (by kernel_rfl) rfl #[.slice A39 it.length kZ] rfl ?_;(with_reducible refine(fX.calls k _ _ it xl _ ?a8 ?a9 yA.out).mono ?_);(case a8=>repeat(first|exact(by repeat(first|(with_reducible exact tk.out)|(with_reducible refine Kd.jn ?_ _)|(with_reducible refine Kd.jo ?_ _)|(with_reducible refine Kd.js ?_)|exact tk.out))|(with_reducible refine Kd.jn ?_ _)|(with_reducible refine Kd.jo ?_ _)|(with_reducible refine Kd.js ?_)));(case a9=>exact Ty.out);rintro e rY ⟨v498,rfl,ho0,hb⟩;refine⟨_,rfl, ?_⟩;replace gS:=nr gS hb;have ph:=Ah (Kd.dD ho0 (be (aW HB gR ib)));replace eU:=nb eU hb;replace fd:=nb fd hb;replace tk:=Ah (Kd.qQ (by repeat(first|(with_reducible exact tk.out)|(with_reducible refine Kd.jn ?_ _)|(with_reducible refine Kd.jo ?_ _)|(with_reducible refine Kd.js ?_)|exact tk.out)) hb);replace HB:=Ah (aK (aW HB gR ib) hb);(try clear hb ho0))|((with_reducible refine eS (b:= .clear) (xs:= #[.tmp 33]) rfl ?_);refine Kd.Yx gx (w0:=w) w.heap.size rfl (.tmp 33) 56 71 rfl abk (.agg #[(.bool false),(.int .i64 0),(.bool false)]) 24 Bz rfl (by decide) dO (H8 _ _ _ dO) (n:=g9.length) (c:=zz) (k:=(a1:Int).toNat) (m:=it.length) rfl KA39.out (rr gS.out) ?hkm (aW HB gR ib) (be (aW HB gR ib)) ?_;(case hkm=>have Pg:=KY39.out;have Ph:=KL39.out;have Pi:=(Kd.af gS.out).1;(try have Pj:=KM39.out);omega);intro w42 ho hb hg;rw[←a3f.out]at ho;replace eU:=Ah (cX (bk eU) hg (Kd.eD gS.out eU.out (by decide)));replace fd:=Ah (cX (bk fd) hg (Kd.eD gS.out fd.out (by decide)));replace ph:=Ah (Kd.Yt (v:=(.slice Fy g9.length zz)) (rr ph.out) (Kd.Ys gS.out) (by decide) hg);replace gS:=Ah (ho);replace HB:=Ah (hb);clear ho hb hg)|((with_reducible refine bJ (f:=25) rfl ?_);refine Rw (some 36) rfl rfl Try.func25 (by kernel_rfl) rfl #[.slice Fy xm.length zz] rfl (by(try simp only[aag,aan,aas]);first|done|(rw[show xm.length=g9.length from(Kd.af gS.out).1.symm]<;>rfl)|rfl|(simp only[gy,ao];rfl)) ?_;(with_reducible refine(dP.calls k _ _ xm DP false _ ?a8 ?a9 GF.out).mono ?_);(case a8=>exact fB gS);(case a9=>rw[show xm.length=g9.length from(Kd.af gS.out).1.symm];exact(Kd.af gS.out).2.1);rintro e PT ⟨v502,rfl,ho0,hb⟩;refine⟨_,rfl, ?_⟩;replace gS:=nr gS hb;replace ph:=nr ph hb;have zX:=Ah (Kd.dD ho0 (be (aW HB gR ib)));replace eU:=nb eU hb;replace fd:=nb fd hb;replace HB:=Ah (aK (aW HB gR ib) hb);(try clear hb ho0))|((with_reducible refine ax (N:=11) rfl ?_);refine bA 11 25 #[.slice none 0 0] ?_;intro Tz hg PY CU hb;replace gS:=nr gS hb;replace ph:=nr ph hb;replace zX:=nr zX hb;have GW505:=gw hg (aW HB gR ib);have U0:=gw hg (aW HB gR ib);replace HB:=Ah (aK (aW HB gR ib) hb);have QI:=nn eU hg;have QJ:=nm eU hg;replace eU:=nb eU hb;have Gs:=nn fd hg;have QK:=nm fd hg;replace fd:=nb fd hb;clear hb hg;obtain⟨Ao46,a5y,Vm⟩:=Kd.bq zX.out;subst Vm;have a1H:=QJ.out;have a1I:=QI.out;have SI:=QK.out;have SJ:=Gs.out;have hcz49_0:=ap CU;have hfz49_0:=an CU;have rv:=ap fd;have rx:=an fd))
  refine bodyPost_ret (rj rfl _ _ CT 25 #[.slice none 0 0] (0,0) _ rfl (by(with_reducible repeat(first|refine aD ?_ _|refine Z ?_|refine aC ?_ _));refine aj (cs:= #[.slice none 0 0]) ?_ 0 _ rfl;(with_reducible repeat(first|refine aD ?_ _|refine Z ?_|refine aC ?_ _));refine gc ?_ Gs.out _;(with_reducible repeat(first|refine aD ?_ _|refine Z ?_|refine aC ?_ _));exact fd.out) ua rfl (by kernel_rfl)) rfl ?_;exact⟨_,_,er,by first|exact Kd.fk _ _ _ _ _|exact Kd.iI _ _ _ _ _|exact Kd.iJ _ _ _ _ _|exact Kd.iG _ _ _ _ _|exact Kd.iH _ _ _ _ _,by first|exact Kd.fk _ _ _ _ _|exact Kd.iI _ _ _ _ _|exact Kd.iJ _ _ _ _ _|exact Kd.iG _ _ _ _ _|exact Kd.iH _ _ _ _ _,bX HB gR ib U0⟩
 subst c12;rw[if_pos rfl]at H;simp only[j4,ub]at H;obtain⟨rfl,rfl,rfl⟩:=H
 go_enter Try.func5,Try.ntmps5
 go_wp2_with (first|((with_reducible refine ax (N:=3) rfl ?_);refine bA 3 25 #[.slice bS J.length bL] ?_;intro a3c hg nJ eU hb;have a3d:=gw hg (bs HB);have gR:=gw hg (bs HB);replace HB:=Ah (aK (bs HB) hb);clear hb hg)|((with_reducible refine ax (N:=6) rfl ?_);refine bA 6 25 #[.slice none 0 0] ?_;intro CT hg PZ fd hb;have a3e:=gw hg (aH HB gR);have ib:=gw hg (aH HB gR);replace HB:=Ah (aK (aH HB gR) hb);have Gq:=nn eU hg;have Gr:=nm eU hg;replace eU:=nb eU hb;clear hb hg;have SE:=Gq.out;have SF:=Gr.out;have nQ:=ap eU;have nR:=an eU)|((with_reducible refine bJ (f:=22) rfl ?_);refine gL (some 16) rfl rfl abA (by kernel_rfl) rfl #[.agg #[.slice bS J.length bL],.int .i64 a1,.int .i64 a2] rfl ?_;(with_reducible refine(ku.calls k _ _ J a1 a2 true _ ?a8 ?a9 A4.out).mono ?_);(case a8=>exact cb cY HB);(case a9=>exact dw.out);rintro e xz ⟨rfl,hb⟩;refine⟨_,rfl, ?_⟩;replace eU:=nb eU hb;replace fd:=nb fd hb;replace HB:=Ah (aK (aW HB gR ib) hb);(try clear hb);have sA:=ap eU;have sB:=an eU)|((with_reducible refine bJ (f:=23) rfl ?_);refine gL (some 20) rfl rfl abG (by kernel_rfl) rfl #[.agg #[.slice bS J.length bL]] rfl ?_;(with_reducible refine(dJ.calls k _ _ J g9 _ ?a8 ?a9 A6.out).mono ?_);(case a8=>exact cb cY HB);(case a9=>exact dw.out);rintro e jl ⟨v491,rfl,ho0,hb⟩;refine⟨_,rfl, ?_⟩;have gS:=Ah (Kd.dD ho0 (be (aW HB gR ib)));replace eU:=nb eU hb;replace fd:=nb fd hb;replace HB:=Ah (aK (aW HB gR ib) hb);(try clear hb ho0);obtain⟨gI,fv,nD⟩:=Kd.bq gS.out;subst nD;have oo:((LS (a1+a2)):Int)≤((g9.length:Int):Int):=od;obtain⟨Uf,tV,_,tW,_⟩:=info_parts Bz;have nU:g9.length≤fv:=(Kd.af gS.out).2.1;have u2:Kd.C gx _ gI g9.length g9:=(Kd.af gS.out).2.2;have ql20:(a1:Int)≤((LS (a1+a2)):Int):=od;have Co:(0:Int)≤(a1:Int):=od;have C4:=Yu (P:=aad) 56 71 .i64 .i64 abk tV 3 tW gI g9.length fv a1 (LS (a1+a2)) Co ql20 oo nU;have kK:=Kd.a0A (lo:=(a1:Int).toNat) (hi:=((LS (a1+a2)):Int).toNat) (c:=fv) u2 (by omega) (by omega) nU;obtain⟨fo,mB⟩:∃A1,A1=(if fv=(a1:Int).toNat then gI else(gI:Option Addr).map (·.add ((a1:Int).toNat*3))):=⟨_,rfl⟩;obtain⟨c20,oQ⟩:∃c1,c1=fv-(a1:Int).toNat:=⟨_,rfl⟩;have mC:it.length=((LS (a1+a2)):Int).toNat-(a1:Int).toNat:=(by rw[O3.out,gy,ao]<;>omega);rw[show((g9).take ((LS (a1+a2)):Int).toNat).drop (a1:Int).toNat=it from O3.out.symm]at kK;replace kK:Kd.C gx _ fo it.length it:=(by rw[mB];exact kK);rw[←mC,←mB,←oQ]at C4;have tk:=Ah kK;have Ty:=Ah (show it.length≤c20 from by rw[mC,oQ];exact aaR (Nat.le_trans (by omega) nU) _);clear kK u2 nU tV tW oQ;have Oa:=Ah mC;have Ob:=Ah mB;clear mC mB;have KL20:=Ah (show((LS (a1+a2)):Int).toNat≤g9.length from by omega);have KM20:=Ah (show(a1:Int).toNat≤((LS (a1+a2)):Int).toNat from by omega);replace oo:=eq_true oo)|((with_reducible refine bJ (f:=24) rfl ?_);refine gL (some 27) rfl rfl Try.func24 (by kernel_rfl) rfl #[.slice fo it.length c20] rfl ?_;(with_reducible refine(fX.calls k _ _ it xl _ ?a8 ?a9 yA.out).mono ?_);(case a8=>repeat(first|exact(by repeat(first|(with_reducible exact tk.out)|(with_reducible refine Kd.jn ?_ _)|(with_reducible refine Kd.jo ?_ _)|(with_reducible refine Kd.js ?_)|exact tk.out))|(with_reducible refine Kd.jn ?_ _)|(with_reducible refine Kd.jo ?_ _)|(with_reducible refine Kd.js ?_)));(case a9=>exact Ty.out);rintro e kt ⟨v498,rfl,ho0,hb⟩;refine⟨_,rfl, ?_⟩;replace gS:=nr gS hb;have ph:=Ah (Kd.dD ho0 (be (aW HB gR ib)));replace eU:=nb eU hb;replace fd:=nb fd hb;replace tk:=Ah (Kd.qQ (by repeat(first|(with_reducible exact tk.out)|(with_reducible refine Kd.jn ?_ _)|(with_reducible refine Kd.jo ?_ _)|(with_reducible refine Kd.js ?_)|exact tk.out)) hb);replace HB:=Ah (aK (aW HB gR ib) hb);(try clear hb ho0))|((with_reducible refine eS (b:= .clear) (xs:= #[.tmp 33]) rfl ?_);refine Kd.Yx gx (w0:=w) w.heap.size rfl (.tmp 33) 56 71 rfl abk (.agg #[(.bool false),(.int .i64 0),(.bool false)]) 24 Bz rfl (by decide) dO (H8 _ _ _ dO) (n:=g9.length) (c:=fv) (k:=(a1:Int).toNat) (m:=it.length) rfl Ob.out (rr gS.out) ?hkm (aW HB gR ib) (be (aW HB gR ib)) ?_;(case hkm=>have Pg:=Oa.out;have Ph:=KL20.out;have Pi:=(Kd.af gS.out).1;(try have Pj:=KM20.out);omega);intro re ho hb hg;rw[←a3f.out]at ho;replace eU:=Ah (cX (bk eU) hg (Kd.eD gS.out eU.out (by decide)));replace fd:=Ah (cX (bk fd) hg (Kd.eD gS.out fd.out (by decide)));replace ph:=Ah (Kd.Yt (v:=(.slice gI g9.length fv)) (rr ph.out) (Kd.Ys gS.out) (by decide) hg);replace gS:=Ah (ho);replace HB:=Ah (hb);clear ho hb hg)|((with_reducible refine bJ (f:=25) rfl ?_);refine Rw (some 36) rfl rfl Try.func25 (by kernel_rfl) rfl #[.slice gI xm.length fv] rfl (by(try simp only[aag,aan,aas]);first|done|(rw[show xm.length=g9.length from(Kd.af gS.out).1.symm]<;>rfl)|rfl|(simp only[gy,ao];rfl)) ?_;(with_reducible refine(dP.calls k _ _ xm DP true _ ?a8 ?a9 GF.out).mono ?_);(case a8=>exact fB gS);(case a9=>rw[show xm.length=g9.length from(Kd.af gS.out).1.symm];exact(Kd.af gS.out).2.1);rintro e AM ⟨v502,rfl,ho0,hb⟩;refine⟨_,rfl, ?_⟩;replace gS:=nr gS hb;replace ph:=nr ph hb;have zX:=Ah (Kd.dD ho0 (be (aW HB gR ib)));replace eU:=nb eU hb;replace fd:=nb fd hb;replace HB:=Ah (aK (aW HB gR ib) hb);(try clear hb ho0))|((with_reducible refine ax (N:=11) rfl ?_);refine bA 11 25 #[.slice none 0 0] ?_;intro Tz hg Wo CU hb;replace gS:=nr gS hb;replace ph:=nr ph hb;replace zX:=nr zX hb;have GW505:=gw hg (aW HB gR ib);have U0:=gw hg (aW HB gR ib);replace HB:=Ah (aK (aW HB gR ib) hb);have QI:=nn eU hg;have QJ:=nm eU hg;replace eU:=nb eU hb;have Gs:=nn fd hg;have QK:=nm fd hg;replace fd:=nb fd hb;clear hb hg;obtain⟨DQ,DR,WE⟩:=Kd.bq zX.out;subst WE;have Eu:=QJ.out;have Ew:=QI.out;have NA:=QK.out;have NB:=Gs.out;have o6:=ap CU;have o7:=an CU;have H9:=ap fd;have HC:=an fd))
 refine bodyPost_ret (rj rfl _ _ CT 25 #[.slice DQ DP.length DR] (0,0) _ rfl (by(with_reducible repeat(first|refine aD ?_ _|refine Z ?_|refine aC ?_ _));refine aj (cs:= #[.slice none 0 0]) ?_ 0 _ rfl;(with_reducible repeat(first|refine aD ?_ _|refine Z ?_|refine aC ?_ _));refine gc ?_ Gs.out _;(with_reducible repeat(first|refine aD ?_ _|refine Z ?_|refine aC ?_ _));exact fd.out) ua rfl (by kernel_rfl)) rfl ?_;exact⟨_,_,er,by(with_reducible repeat(first|apply Kd.bG|apply Kd.bE|apply Kd.al));exact Kd.aY (Kd.aQ (p:=⟨CT,0,none⟩) (Kd.aQ (p:=⟨Tz,0,none⟩) (Kd.cl (Kd.cl zX.out CU.out (by decide)) fd.out (by decide)) (fun _ hk=>hk.1.2) (.slice DQ DP.length DR)) (fun _ hk=>hk.2) (.slice DQ DP.length DR)) (fun _ hk=>trivial),by(with_reducible repeat(first|apply Kd.bG|apply Kd.bE|apply Kd.al));exact Kd.aY (Kd.aQ (p:=⟨CT,0,none⟩) (Kd.aQ (p:=⟨Tz,0,none⟩) (Kd.cl (Kd.cl ph.out CU.out (by decide)) fd.out (by decide)) (fun _ hk=>hk.1.2) (.slice DQ DP.length DR)) (fun _ hk=>hk.2) (.slice DQ DP.length DR)) (fun _ hk=>trivial),bX HB gR ib U0⟩
def hD.l0:Nat→Int→Int→List (a7)→List (a7)→Option (Bool)
 |0,_,_,_,_=>none
 |k+1,dA,gh,Ea,Eb=>if gh<dA then(if 0≤gh then(if gh<(Ea.length:Int)then(if gh<(Eb.length:Int)then(if(!(((I Ea gh).f0)==((I Eb gh).f0))||(!(((I Ea gh).f1)==((I Eb gh).f1))||(!(((I Ea gh).f2)==((I Eb gh).f2))||(!(((I Ea gh).f3)==((I Eb gh).f3))))))=true then(some false)else(hD.l0 k dA (LS (gh+1)) Ea Eb))else(none))else(none))else(none))else(some true)
def hD.f(k:Nat)(J:List (a7))(bH:List (a7)):Option (Bool):=if(J.length:Int)=(bH.length:Int)then(hD.l0 k (J.length:Int) 0 J bH)else(some false)
theorem hD.dL:∀k,(∀y0 y1 y2 y3,aG (hD.l0 k y0 y1 y2 y3) (hD.l0 (k+1) y0 y1 y2 y3))
 |0=>fun _ _ _ _ r h=>by simp[hD.l0]at h
 |k+1=>by
  have bw:=hD.dL k
  ·
   intro y0 y1 y2 y3;unfold hD.l0
   repeat' with_reducible first|exact bw _ _ _ _|exact aG.refl _|exact aG.none _|refine aG.ite ?_ ?_|refine aG.bind ?_ (fun _=> ?_)
theorem hD.mono:∀a0 a1 k,aG (hD.f k a0 a1) (hD.f (k+1) a0 a1):=by
 intro a0 a1 k;have bw:=hD.dL k;unfold hD.f
 repeat' with_reducible first|exact bw _ _ _ _|exact aG.refl _|exact aG.none _|refine aG.ite ?_ ?_|refine aG.bind ?_ (fun _=> ?_)
set_option maxHeartbeats 8000000 in
set_option maxRecDepth 100000 in
theorem hD.calls(k:Nat)(bS:Option Addr)(bL:Nat)(J:List (a7))(dQ:Option Addr)(dR:Nat)(bH:List (a7))(r:Bool)(w:World)(fT:Kd.C b7 w bS J.length J)(fU:J.length≤bL)(pZ:Kd.C b7 w dQ bH.length bH)(pf:bH.length≤dR)(h:hD.f k J bH=some r):
 Calls aad 7 #[.agg #[.slice bS J.length bL],.agg #[.slice dQ bH.length dR]] w fun e w'=>e= .returned (.bool r)∧Below w.heap.size w w':=by
 have kJ:=ua;have mA:=aay;have cY:=Ah fT;have dw:=Ah fU;clear fT fU;have iL:=Ah pZ;have jC:=Ah pf;clear pZ pf;have HB:=Ah (aaa w.heap.size w);have H:(if(J.length:Int)=(bH.length:Int)then(hD.l0 k (J.length:Int) 0 J bH)else(some false))=some r:=h;clear h
 by_cases c3:(J.length:Int)=(bH.length:Int)
 rotate_left
 ·
  rw[if_neg c3]at H;have iN:((J.length:Int)==(bH.length:Int))=false:=beq_eq_false_iff_ne.mpr c3;have xV:((J.length:Int) !=(bH.length:Int))=true:=bne_iff_ne.mpr c3
  have Ks:(J.length==bH.length)=false:=by first|simpa using c3|(simp at c3⊢;omega)
  obtain rfl:=iz H
  go_enter Try.func7,Try.ntmps7
  go_wp2_with (first|((with_reducible refine ax (N:=2) rfl ?_);refine bA 2 25 #[.slice bS J.length bL] ?_;intro FI hg vm fM hb;have JH:=gw hg (bs HB);have jD:=gw hg (bs HB);replace HB:=Ah (aK (bs HB) hb);clear hb hg)|((with_reducible refine ax (N:=3) rfl ?_);refine bA 3 25 #[.slice dQ bH.length dR] ?_;intro FJ hg ot jx hb;have JI:=gw hg (aH HB jD);have vS:=gw hg (aH HB jD);replace HB:=Ah (aK (aH HB jD) hb);have qL:=nn fM hg;have qM:=nm fM hg;replace fM:=nb fM hb;clear hb hg;have z7:=qL.out;have z8:=qM.out;have mO:=ap fM;have mP:=an fM;have yj:=ap jx;have yk:=an jx))
  repeat(go_quiet (first|((with_reducible refine ax (N:=2) rfl ?_);refine bA 2 25 #[.slice bS J.length bL] ?_;intro FI hg vm fM hb;have JH:=gw hg (bs HB);have jD:=gw hg (bs HB);replace HB:=Ah (aK (bs HB) hb);clear hb hg)|((with_reducible refine ax (N:=3) rfl ?_);refine bA 3 25 #[.slice dQ bH.length dR] ?_;intro FJ hg ot jx hb;have JI:=gw hg (aH HB jD);have vS:=gw hg (aH HB jD);replace HB:=Ah (aK (aH HB jD) hb);have qL:=nn fM hg;have qM:=nm fM hg;replace fM:=nb fM hb;clear hb hg;have z7:=qL.out;have z8:=qM.out;have mO:=ap fM;have mP:=an fM;have yj:=ap jx;have yk:=an jx));try go_wp2_with (first|((with_reducible refine ax (N:=2) rfl ?_);refine bA 2 25 #[.slice bS J.length bL] ?_;intro FI hg vm fM hb;have JH:=gw hg (bs HB);have jD:=gw hg (bs HB);replace HB:=Ah (aK (bs HB) hb);clear hb hg)|((with_reducible refine ax (N:=3) rfl ?_);refine bA 3 25 #[.slice dQ bH.length dR] ?_;intro FJ hg ot jx hb;have JI:=gw hg (aH HB jD);have vS:=gw hg (aH HB jD);replace HB:=Ah (aK (aH HB jD) hb);have qL:=nn fM hg;have qM:=nm fM hg;replace fM:=nb fM hb;clear hb hg;have z7:=qL.out;have z8:=qM.out;have mO:=ap fM;have mP:=an fM;have yj:=ap jx;have yk:=an jx)))
  go_ret
  exact⟨er,aW HB jD vS⟩
 rw[if_pos c3]at H;have iN:((J.length:Int)==(bH.length:Int))=true:=beq_iff_eq.mpr c3;have xV:((J.length:Int) !=(bH.length:Int))=false:=bne_eq_false_iff_eq.mpr c3
 have Ks:(J.length==bH.length)=true:=by first|simpa using c3|(simp at c3⊢;omega)
 clear c3;have H':=Ah H;clear H
 go_enter Try.func7,Try.ntmps7
 go_wp2_with (first|((with_reducible refine ax (N:=2) rfl ?_);refine bA 2 25 #[.slice bS J.length bL] ?_;intro FI hg w4 fM hb;have JH:=gw hg (bs HB);have jD:=gw hg (bs HB);replace HB:=Ah (aK (bs HB) hb);clear hb hg)|((with_reducible refine ax (N:=3) rfl ?_);refine bA 3 25 #[.slice dQ bH.length dR] ?_;intro FJ hg w5 jx hb;have JI:=gw hg (aH HB jD);have vS:=gw hg (aH HB jD);replace HB:=Ah (aK (aH HB jD) hb);have qL:=nn fM hg;have qM:=nm fM hg;replace fM:=nb fM hb;clear hb hg;have VE:=qL.out;have VF:=qM.out;have qp:=ap fM;have qq:=an fM;have pJ:=ap jx;have qr:=an jx))
 repeat(go_quiet (first|((with_reducible refine ax (N:=2) rfl ?_);refine bA 2 25 #[.slice bS J.length bL] ?_;intro FI hg w4 fM hb;have JH:=gw hg (bs HB);have jD:=gw hg (bs HB);replace HB:=Ah (aK (bs HB) hb);clear hb hg)|((with_reducible refine ax (N:=3) rfl ?_);refine bA 3 25 #[.slice dQ bH.length dR] ?_;intro FJ hg w5 jx hb;have JI:=gw hg (aH HB jD);have vS:=gw hg (aH HB jD);replace HB:=Ah (aK (aH HB jD) hb);have qL:=nn fM hg;have qM:=nm fM hg;replace fM:=nb fM hb;clear hb hg;have VE:=qL.out;have VF:=qM.out;have qp:=ap fM;have qq:=an fM;have pJ:=ap jx;have qr:=an jx));try go_wp2_with (first|((with_reducible refine ax (N:=2) rfl ?_);refine bA 2 25 #[.slice bS J.length bL] ?_;intro FI hg w4 fM hb;have JH:=gw hg (bs HB);have jD:=gw hg (bs HB);replace HB:=Ah (aK (bs HB) hb);clear hb hg)|((with_reducible refine ax (N:=3) rfl ?_);refine bA 3 25 #[.slice dQ bH.length dR] ?_;intro FJ hg w5 jx hb;have JI:=gw hg (aH HB jD);have vS:=gw hg (aH HB jD);replace HB:=Ah (aK (aH HB jD) hb);have qL:=nn fM hg;have qM:=nm fM hg;replace fM:=nb fM hb;clear hb hg;have VE:=qL.out;have VF:=qM.out;have qp:=ap fM;have qq:=an fM;have pJ:=ap jx;have qr:=an jx)))
 go_loopg [16] k (fun kq v16 w'=>∃ (fI:Int),v16= .int .i64 fI∧U (hD.l0 kq (J.length:Int) fI J bH=some r)∧U (kq≤k)∧U (w'.heap[FI]?=some (.cells #[(.slice bS J.length bL)] 25 (0,0)))∧U (w'.heap[FJ]?=some (.cells #[(.slice dQ bH.length dR)] 25 (0,0)))∧U (Below w.heap.size w w'))
 case atStart=>exact⟨(0),e3,H',⟨bx _⟩,⟨bk fM⟩,⟨bk jx⟩,⟨aW HB jD vS⟩⟩
 case round=>
  clear H'
  try clear c1
  try clear p2
  try clear c3
  try clear iN
  try clear xV
  try clear Ks
  try clear c6
  try clear c7
  try clear qp
  try clear pJ
  try clear qq
  try clear qr
  obtain⟨fI,rfl,HA,bU,fM,jx,HB⟩:=hrel
  cases gk with
  |zero=>exact absurd HA.out (by simp[hD.l0])
  |succ k1=>
   have H:=HA.out;clear HA;simp only[hD.l0]at H
   by_cases c9:fI<(J.length:Int)
   rotate_left
   ·
    rw[if_neg c9]at H;have u1:decide (fI<(J.length:Int))=false:=decide_eq_false c9;clear c9;obtain rfl:=iz H
    go_wp2
    repeat(go_quiet (fail);try go_wp2)
    go_ret
    exact⟨er,aW HB jD vS⟩
   rw[if_pos c9]at H;have u1:decide (fI<(J.length:Int))=true:=decide_eq_true c9;clear c9
   by_cases c10:0≤fI
   rotate_left
   ·
    rw[if_neg c10]at H;exact absurd H (by simp)
   rw[if_pos c10]at H;have nZ:decide (0≤fI)=true:=decide_eq_true c10;clear c10
   by_cases c11:fI<(J.length:Int)
   rotate_left
   ·
    rw[if_neg c11]at H;exact absurd H (by simp)
   rw[if_pos c11]at H;have xC:decide (fI<(J.length:Int))=true:=decide_eq_true c11;clear c11
   by_cases c12:fI<(bH.length:Int)
   rotate_left
   ·
    rw[if_neg c12]at H;exact absurd H (by simp)
   rw[if_pos c12]at H;have jR:decide (fI<(bH.length:Int))=true:=decide_eq_true c12;clear c12
   by_cases c13:(!(((I J fI).f0)==((I bH fI).f0))||(!(((I J fI).f1)==((I bH fI).f1))||(!(((I J fI).f2)==((I bH fI).f2))||(!(((I J fI).f3)==((I bH fI).f3))))))=true
   ·
    rw[if_pos c13]at H;have ww:(!(((I J fI).f0)==((I bH fI).f0))||(!(((I J fI).f1)==((I bH fI).f1))||(!(((I J fI).f2)==((I bH fI).f2))||(!(((I J fI).f3)==((I bH fI).f3))))))=true:=c13;clear c13;obtain rfl:=iz H;have NN:=qL.out;have NO:=qM.out;have wU:=ap fM;have wV:=an fM;have DS:0≤(fI:Int):=od;have DT:fI<(J.length:Int):=od;obtain⟨ad508,WF,Bm,Bn,Bo,Bp⟩:=f6 cY.out fI DS DT
    cases WF
    replace Bm:=(HB.out.cell (LA w _ Bm)).trans Bm;replace Bn:=(HB.out.cell (LA w _ Bn)).trans Bn;replace Bo:=(HB.out.cell (LA w _ Bo)).trans Bo;replace Bp:=(HB.out.cell (LA w _ Bp)).trans Bp;replace DS:=eq_true DS;replace DT:=eq_true DT;have nQ:=ap jx;have nR:=an jx;have DU:0≤(fI:Int):=od;have DV:fI<(bH.length:Int):=od;obtain⟨ad509,WG,Bq,Br,Bs,Bt⟩:=f6 iL.out fI DU DV
    cases WG
    replace Bq:=(HB.out.cell (LA w _ Bq)).trans Bq;replace Br:=(HB.out.cell (LA w _ Br)).trans Br;replace Bs:=(HB.out.cell (LA w _ Bs)).trans Bs;replace Bt:=(HB.out.cell (LA w _ Bt)).trans Bt;replace DU:=eq_true DU;replace DV:=eq_true DV
    go_wp2
    repeat(go_quiet (fail);try go_wp2)
    go_ret
    exact⟨er,aW HB jD vS⟩
   rw[if_neg c13]at H
   have ww:(!(((I J fI).f0)==((I bH fI).f0))||(!(((I J fI).f1)==((I bH fI).f1))||(!(((I J fI).f2)==((I bH fI).f2))||(!(((I J fI).f3)==((I bH fI).f3))))))=false:=by simpa using c13
   clear c13;have H':=Ah H;clear H;have zE:=qL.out;have zF:=qM.out;have sA:=ap fM;have sB:=an fM;have DS:0≤(fI:Int):=od;have DT:fI<(J.length:Int):=od;obtain⟨ad508,WF,Bm,Bn,Bo,Bp⟩:=f6 cY.out fI DS DT
   cases WF
   replace Bm:=(HB.out.cell (LA w _ Bm)).trans Bm;replace Bn:=(HB.out.cell (LA w _ Bn)).trans Bn;replace Bo:=(HB.out.cell (LA w _ Bo)).trans Bo;replace Bp:=(HB.out.cell (LA w _ Bp)).trans Bp;replace DS:=eq_true DS;replace DT:=eq_true DT;have yl:=ap jx;have ym:=an jx;have DU:0≤(fI:Int):=od;have DV:fI<(bH.length:Int):=od;obtain⟨ad509,WG,Bq,Br,Bs,Bt⟩:=f6 iL.out fI DU DV
   cases WG
   replace Bq:=(HB.out.cell (LA w _ Bq)).trans Bq;replace Br:=(HB.out.cell (LA w _ Br)).trans Br;replace Bs:=(HB.out.cell (LA w _ Bs)).trans Bs;replace Bt:=(HB.out.cell (LA w _ Bt)).trans Bt;replace DU:=eq_true DU;replace DV:=eq_true DV
   go_wp2
   repeat(go_quiet (fail);try go_wp2)
   go_roundg k1
   case measure=>have:=bU.out;omega
   case rel=>exact⟨(LS (fI+1)),e3,H',⟨by have:=bU.out;omega⟩,⟨bk fM⟩,⟨bk jx⟩,⟨aW HB jD vS⟩⟩
end Go.Proofs.Ytjojdplkgekagaa.G
