-- Printed by a program of this session (drive.py, by way of the kit's print). Not trusted: Lean checks it.
import Derived.Test.YtjojdplkgekagaaG0
open Bool renaming eq_false_iff→dn,not_false→aaz,not_true→aaC
open Go.Proofs.Try renaming underlying23→aac,prog→aad,underlying28→aaq,underlying65→aay,func40→aby,func34→abz
open Go.RowKit renaming wrap64→LS
open Go.Value renaming ownBlock→aae
open Go.World renaming block_lt_of_cell?→LA,frozen?→aaL
open List renaming setIfInBounds_toArray→Ok,length_take→ao,set_cons_zero→bY,set_cons_succ→dl,length_drop→gy
open Nat renaming le_refl→bx,le_of_eq→aaj,sub_le_sub_right→aaR
open Option renaming bind_eq_some_iff→LT,bind_some→Mq
open Option.some renaming inj→iz
namespace Go.Proofs.Ytjojdplkgekagaa.G
open Go.RowKit Go.Proofs.YtjojdplkgekagaaW.PrintWords Go.Proofs.YtjojdplkgekagaaW.PrintLast Go.Proofs.YtjojdplkgekagaaW.PrintMore
attribute [local go_sem] um un uu uv ud ue uo uq
set_option linter.unusedVariables false
set_option linter.unusedSimpArgs false
def j7.f(a0:Int)(a1:Int)(a2:Int):Option (Bool):=if a0≥a1 then(some (decide (a0≤a2)))else(some false)
set_option maxHeartbeats 8000000 in
set_option maxRecDepth 100000 in
theorem j7.calls(a0:Int)(a1:Int)(a2:Int)(r:Bool)(w:World)(h:j7.f a0 a1 a2=some r):
 Calls aad 40 #[.int .i64 a0,.int .i64 a1,.int .i64 a2] w fun e w'=>e= .returned (.bool r)∧fp w w':=by
 have H:(if a0≥a1 then(some (decide (a0≤a2)))else(some false))=some r:=h;clear h
 by_cases c4:a0≥a1
 ·
  rw[if_pos c4]at H;have jb:decide (a1≤a0)=true:=decide_eq_true c4;clear c4;obtain rfl:=iz H
  go_enter aby,Try.ntmps40
  go_wp2
  go_ret
  exact⟨by first|rfl|(simp;done)|(simp[*];done),by repeat(first|exact fp.refl _|apply fp.step)⟩
 ·
  rw[if_neg c4]at H;have jb:decide (a1≤a0)=false:=decide_eq_false c4;clear c4;obtain rfl:=iz H
  go_enter aby,Try.ntmps40
  go_wp2
  go_ret
  exact⟨by first|rfl|(simp;done)|(simp[*];done),by repeat(first|exact fp.refl _|apply fp.step)⟩
def oy.f(dZ:Int)(dF:Int)(fN:Int)(iO:Bool):Option (Bool):=(j7.f dZ 0 200).bind fun KA=>(if KA=true then((j7.f dF 1 200).bind fun KB=>(if KB=true then(if(LS (dZ+dF))≤200 then((j7.f fN 0 (LS (400-dF))).bind fun KC=>(some KC))else(some false))else(some false)))else(some false))
set_option maxHeartbeats 8000000 in
set_option maxRecDepth 100000 in
theorem oy.calls(dZ:Int)(dF:Int)(fN:Int)(iO:Bool)(r:Bool)(w:World)(h:oy.f dZ dF fN iO=some r):
 Calls aad 34 #[.agg #[.int .i64 dZ,.int .i64 dF,.int .i64 fN,.bool iO]] w fun e w'=>e= .returned (.bool r)∧Below w.heap.size w w':=by
 have mA:=aay;have HB:=Ah (Below.refl w.heap.size w);have H:((j7.f dZ 0 200).bind fun KA=>(if KA=true then((j7.f dF 1 200).bind fun KB=>(if KB=true then(if(LS (dZ+dF))≤200 then((j7.f fN 0 (LS (400-dF))).bind fun KC=>(some KC))else(some false))else(some false)))else(some false)))=some r:=h;clear h;replace H:=LT.mp H;obtain⟨KA,fo,H⟩:=H
 try dsimp only at H
 have A2:=Ah fo;clear fo
 by_cases c3:KA=true
 rotate_left
 ·
  replace c3:=dn.mpr c3;subst c3;rw[if_neg dV]at H;obtain rfl:=iz H
  go_enter abz,Try.ntmps34
  go_wp2_with (first|((with_reducible refine ax (N:=1) rfl ?_);refine bA 1 65 #[.int .i64 dZ,.int .i64 dF,.int .i64 fN,.bool iO] ?_;intro T1 hg PZ ta hb;have T2:=gw hg (bs HB);have CK:=gw hg (bs HB);replace HB:=Ah (aK (bs HB) hb);clear hb hg;obtain⟨wU,Au,Av,Aw⟩:=cA ta;obtain⟨wV,Ax,Ay,Az⟩:=cB ta)|((with_reducible refine bJ (f:=40) rfl ?_);refine gL (some 5) rfl rfl aby (by kernel_rfl) rfl #[.int .i64 dZ,.int .i64 0,.int .i64 200] rfl ?_;(with_reducible refine(j7.calls dZ 0 200 false _ A2.out).mono ?_);rintro e w' ⟨rfl,⟨nd,rfl⟩⟩;refine⟨_,rfl, ?_⟩))
  go_ret
  exact⟨er,aH HB CK⟩
 subst c3;rw[if_pos rfl]at H;replace H:=LT.mp H;obtain⟨KB,iv,H⟩:=H
 try dsimp only at H
 have A4:=Ah iv;clear iv
 by_cases c5:KB=true
 rotate_left
 ·
  replace c5:=dn.mpr c5;subst c5;rw[if_neg dV]at H;obtain rfl:=iz H
  go_enter abz,Try.ntmps34
  go_wp2_with (first|((with_reducible refine ax (N:=1) rfl ?_);refine bA 1 65 #[.int .i64 dZ,.int .i64 dF,.int .i64 fN,.bool iO] ?_;intro T1 hg G9 ta hb;have T2:=gw hg (bs HB);have CK:=gw hg (bs HB);replace HB:=Ah (aK (bs HB) hb);clear hb hg;obtain⟨yp,ZG,ZH,ZI⟩:=cA ta;obtain⟨yq,ZJ,ZK,ZL⟩:=cB ta)|((with_reducible refine bJ (f:=40) rfl ?_);refine gL (some 5) rfl rfl aby (by kernel_rfl) rfl #[.int .i64 dZ,.int .i64 0,.int .i64 200] rfl ?_;(with_reducible refine(j7.calls dZ 0 200 true _ A2.out).mono ?_);rintro e w' ⟨rfl,⟨nd,rfl⟩⟩;refine⟨_,rfl, ?_⟩)|(go_at_call 40;(with_reducible refine(j7.calls dF 1 200 false _ A4.out).mono ?_);rintro e w' ⟨rfl,⟨nd,rfl⟩⟩))
  go_ret
  exact⟨er,aH HB CK⟩
 subst c5;rw[if_pos rfl]at H
 by_cases c6:(LS (dZ+dF))≤200
 rotate_left
 ·
  rw[if_neg c6]at H;have rM:decide ((LS (dZ+dF))≤200)=false:=decide_eq_false c6;clear c6;obtain rfl:=iz H
  go_enter abz,Try.ntmps34
  go_wp2_with (first|((with_reducible refine ax (N:=1) rfl ?_);refine bA 1 65 #[.int .i64 dZ,.int .i64 dF,.int .i64 fN,.bool iO] ?_;intro T1 hg AQ ta hb;have T2:=gw hg (bs HB);have CK:=gw hg (bs HB);replace HB:=Ah (aK (bs HB) hb);clear hb hg;obtain⟨lx,hcz11_1,hcz11_2,hcz11_3⟩:=cA ta;obtain⟨ly,hfz11_1,hfz11_2,hfz11_3⟩:=cB ta)|((with_reducible refine bJ (f:=40) rfl ?_);refine gL (some 5) rfl rfl aby (by kernel_rfl) rfl #[.int .i64 dZ,.int .i64 0,.int .i64 200] rfl ?_;(with_reducible refine(j7.calls dZ 0 200 true _ A2.out).mono ?_);rintro e w' ⟨rfl,⟨nd,rfl⟩⟩;refine⟨_,rfl, ?_⟩)|(go_at_call 40;(with_reducible refine(j7.calls dF 1 200 true _ A4.out).mono ?_);rintro e w' ⟨rfl,⟨nd,rfl⟩⟩))
  go_ret
  exact⟨er,aH HB CK⟩
 rw[if_pos c6]at H;have rM:decide ((LS (dZ+dF))≤200)=true:=decide_eq_true c6;clear c6;replace H:=LT.mp H;obtain⟨KC,kb,H⟩:=H
 try dsimp only at H
 have A7:=Ah kb;clear kb;obtain rfl:=iz H
 go_enter abz,Try.ntmps34
 go_wp2_with (first|((with_reducible refine ax (N:=1) rfl ?_);refine bA 1 65 #[.int .i64 dZ,.int .i64 dF,.int .i64 fN,.bool iO] ?_;intro T1 hg w8 ta hb;have T2:=gw hg (bs HB);have CK:=gw hg (bs HB);replace HB:=Ah (aK (bs HB) hb);clear hb hg;obtain⟨vI,wi,Ek,Hi⟩:=cA ta;obtain⟨wk,wj,El,Hj⟩:=cB ta)|((with_reducible refine bJ (f:=40) rfl ?_);refine gL (some 5) rfl rfl aby (by kernel_rfl) rfl #[.int .i64 dZ,.int .i64 0,.int .i64 200] rfl ?_;(with_reducible refine(j7.calls dZ 0 200 true _ A2.out).mono ?_);rintro e w' ⟨rfl,⟨nd,rfl⟩⟩;refine⟨_,rfl, ?_⟩)|(go_at_call 40;(with_reducible refine(j7.calls dF 1 200 true _ A4.out).mono ?_);rintro e w' ⟨rfl,⟨nd,rfl⟩⟩)|(go_at_call 40;(with_reducible refine(j7.calls fN 0 (LS (400-dF)) KC _ A7.out).mono ?_);rintro e w' ⟨rfl,⟨nd,rfl⟩⟩))
 go_ret
 exact⟨er,aH HB CK⟩
def ss.f(dZ:Int)(dF:Int)(fN:Int)(iO:Bool)(cU:Int)(d7:Int)(cM:Int)(dE:Bool):Option (Bool):=if(LS (dZ+dF))=cU then(if(LS (fN+dF))=cM then(some (iO==dE))else(some false))else(some false)
set_option maxHeartbeats 8000000 in
set_option maxRecDepth 100000 in
theorem ss.calls(dZ:Int)(dF:Int)(fN:Int)(iO:Bool)(cU:Int)(d7:Int)(cM:Int)(dE:Bool)(r:Bool)(w:World)(h:ss.f dZ dF fN iO cU d7 cM dE=some r):
 Calls aad 45 #[.agg #[.int .i64 dZ,.int .i64 dF,.int .i64 fN,.bool iO],.agg #[.int .i64 cU,.int .i64 d7,.int .i64 cM,.bool dE]] w fun e w'=>e= .returned (.bool r)∧Below w.heap.size w w':=by
 have mA:=aay;have HB:=Ah (Below.refl w.heap.size w);have H:(if(LS (dZ+dF))=cU then(if(LS (fN+dF))=cM then(some (iO==dE))else(some false))else(some false))=some r:=h;clear h
 by_cases c3:(LS (dZ+dF))=cU
 rotate_left
 ·
  rw[if_neg c3]at H;have iN:((LS (dZ+dF))==cU)=false:=beq_eq_false_iff_ne.mpr c3;have xV:((LS (dZ+dF)) !=cU)=true:=bne_iff_ne.mpr c3;obtain rfl:=iz H
  go_enter Try.func45,Try.ntmps45
  go_wp2_with (first|((with_reducible refine ax (N:=2) rfl ?_);refine bA 2 65 #[.int .i64 dZ,.int .i64 dF,.int .i64 fN,.bool iO] ?_;intro a1W hg LG lY hb;have a1X:=gw hg (bs HB);have pV:=gw hg (bs HB);replace HB:=Ah (aK (bs HB) hb);clear hb hg)|((with_reducible refine ax (N:=3) rfl ?_);refine bA 3 65 #[.int .i64 cU,.int .i64 d7,.int .i64 cM,.bool dE] ?_;intro a1Y hg w16 zK hb;have a1Z:=gw hg (aH HB pV);have IR:=gw hg (aH HB pV);replace HB:=Ah (aK (aH HB pV) hb);have Ge:=nn lY hg;have Gf:=nm lY hg;replace lY:=nb lY hb;clear hb hg;have zE:=Ge.out;have zF:=Gf.out;obtain⟨sA,EO,EP,HD⟩:=cA lY;obtain⟨sB,EQ,ER,HE⟩:=cB lY;obtain⟨yl,RK,RL,RM⟩:=cA zK;obtain⟨ym,RN,RO,RP⟩:=cB zK))
  go_ret
  exact⟨er,aW HB pV IR⟩
 rw[if_pos c3]at H;have iN:((LS (dZ+dF))==cU)=true:=beq_iff_eq.mpr c3;have xV:((LS (dZ+dF)) !=cU)=false:=bne_eq_false_iff_eq.mpr c3;clear c3
 by_cases c4:(LS (fN+dF))=cM
 ·
  rw[if_pos c4]at H;have jb:((LS (fN+dF))==cM)=true:=beq_iff_eq.mpr c4;have Uv:((LS (fN+dF)) !=cM)=false:=bne_eq_false_iff_eq.mpr c4;clear c4;obtain rfl:=iz H
  go_enter Try.func45,Try.ntmps45
  go_wp2_with (first|((with_reducible refine ax (N:=2) rfl ?_);refine bA 2 65 #[.int .i64 dZ,.int .i64 dF,.int .i64 fN,.bool iO] ?_;intro a1W hg w5 lY hb;have a1X:=gw hg (bs HB);have pV:=gw hg (bs HB);replace HB:=Ah (aK (bs HB) hb);clear hb hg)|((with_reducible refine ax (N:=3) rfl ?_);refine bA 3 65 #[.int .i64 cU,.int .i64 d7,.int .i64 cM,.bool dE] ?_;intro a1Y hg w6 zK hb;have a1Z:=gw hg (aH HB pV);have IR:=gw hg (aH HB pV);replace HB:=Ah (aK (aH HB pV) hb);have Ge:=nn lY hg;have Gf:=nm lY hg;replace lY:=nb lY hb;clear hb hg;have hnb7:=Ge.out;have hnc7:=Gf.out;obtain⟨pJ,Ry,Rz,a0o⟩:=cA lY;obtain⟨qr,S0,S1,a0p⟩:=cB lY;obtain⟨vI,wi,Ek,Hi⟩:=cA zK;obtain⟨wk,wj,El,Hj⟩:=cB zK))
  go_ret
  exact⟨er,aW HB pV IR⟩
 rw[if_neg c4]at H;have jb:((LS (fN+dF))==cM)=false:=beq_eq_false_iff_ne.mpr c4;have Uv:((LS (fN+dF)) !=cM)=true:=bne_iff_ne.mpr c4;obtain rfl:=iz H
 go_enter Try.func45,Try.ntmps45
 go_wp2_with (first|((with_reducible refine ax (N:=2) rfl ?_);refine bA 2 65 #[.int .i64 dZ,.int .i64 dF,.int .i64 fN,.bool iO] ?_;intro a1W hg AQ lY hb;have a1X:=gw hg (bs HB);have pV:=gw hg (bs HB);replace HB:=Ah (aK (bs HB) hb);clear hb hg)|((with_reducible refine ax (N:=3) rfl ?_);refine bA 3 65 #[.int .i64 cU,.int .i64 d7,.int .i64 cM,.bool dE] ?_;intro a1Y hg rg zK hb;have a1Z:=gw hg (aH HB pV);have IR:=gw hg (aH HB pV);replace HB:=Ah (aK (aH HB pV) hb);have Ge:=nn lY hg;have Gf:=nm lY hg;replace lY:=nb lY hb;clear hb hg;have T3:=Ge.out;have T5:=Gf.out;obtain⟨yp,ZG,ZH,ZI⟩:=cA lY;obtain⟨yq,ZJ,ZK,ZL⟩:=cB lY;obtain⟨yh,hcz14_1,hcz14_2,hcz14_3⟩:=cA zK;obtain⟨yi,hfz14_1,hfz14_2,hfz14_3⟩:=cB zK))
 go_ret
 exact⟨er,aW HB pV IR⟩
mutual
def br.l0:Nat→List (a7)→Int→Int→List (a7)→Option (Bool)
 |0,_,_,_,_=>none
 |k+1,x8,x9,cG,lz=>if cG<x9 then(if 0≤cG then(if cG<(x8.length:Int)then((oy.f ((I x8 cG).f0) ((I x8 cG).f1) ((I x8 cG).f2) ((I x8 cG).f3)).bind fun Uw=>(if Uw=true then(if cG>0 then(if 0≤(LS (cG-1))then(if(LS (cG-1))<(lz.length:Int)then(if(LS (((I lz (LS (cG-1))).f0)+((I lz (LS (cG-1))).f1)))>((I x8 cG).f0)then(br.j1 k cG x8 x9 cG true lz ((I x8 cG).f0) ((I x8 cG).f1) ((I x8 cG).f2) ((I x8 cG).f3))else((ss.f ((I lz (LS (cG-1))).f0) ((I lz (LS (cG-1))).f1) ((I lz (LS (cG-1))).f2) ((I lz (LS (cG-1))).f3) ((I x8 cG).f0) ((I x8 cG).f1) ((I x8 cG).f2) ((I x8 cG).f3)).bind fun Fl=>(br.j1 k cG x8 x9 cG Fl lz ((I x8 cG).f0) ((I x8 cG).f1) ((I x8 cG).f2) ((I x8 cG).f3))))else(none))else(none))else(br.j1 k cG x8 x9 cG false lz ((I x8 cG).f0) ((I x8 cG).f1) ((I x8 cG).f2) ((I x8 cG).f3)))else(some false)))else(none))else(none))else(some (decide ((lz.length:Int)≤40)))
def br.j1:Nat→Int→List (a7)→Int→Int→Bool→List (a7)→Int→Int→Int→Bool→Option (Bool)
 |0,_,_,_,_,_,_,_,_,_,_=>none
 |k+1,x3,x8,x9,cG,x49,lz,MH,HG,ET,MI=>if x49=true then(some false)else(if 0≤x3 then(if x3≤(lz.length:Int)then((some (lz.take (x3:Int).toNat:List (a7))).bind fun y115=>(br.l1 k x8 x9 cG y115 (y115.length:Int) 0 lz MH HG ET MI))else(none))else(none))
def br.l1:Nat→List (a7)→Int→Int→List (a7)→Int→Int→List (a7)→Int→Int→Int→Bool→Option (Bool)
 |0,_,_,_,_,_,_,_,_,_,_,_=>none
 |k+1,x8,x9,cG,xp,x54,x55,lz,MH,HG,ET,MI=>if x55<x54 then(if 0≤x55 then(if x55<(xp.length:Int)then(if((I xp x55).f2)<(LS (ET+HG))then(if ET<(LS (((I xp x55).f2)+((I xp x55).f1)))then(some false)else(br.l1 k x8 x9 cG xp x54 (LS (x55+1)) lz MH HG ET MI))else(br.l1 k x8 x9 cG xp x54 (LS (x55+1)) lz MH HG ET MI))else(none))else(none))else(br.l0 k x8 x9 (LS (cG+1)) lz)
end
def br.f(k:Nat)(J:List (a7)):Option (Bool):=br.l0 k J (J.length:Int) 0 J
theorem br.dL:∀k,(∀y0 y1 y2 y3,aG (br.l0 k y0 y1 y2 y3) (br.l0 (k+1) y0 y1 y2 y3))∧(∀y0 y1 y2 y3 y4 y5 y6 y7 y8 y9,aG (br.j1 k y0 y1 y2 y3 y4 y5 y6 y7 y8 y9) (br.j1 (k+1) y0 y1 y2 y3 y4 y5 y6 y7 y8 y9))∧(∀y0 y1 y2 y3 y4 y5 y6 y7 y8 y9 lp,aG (br.l1 k y0 y1 y2 y3 y4 y5 y6 y7 y8 y9 lp) (br.l1 (k+1) y0 y1 y2 y3 y4 y5 y6 y7 y8 y9 lp))
 |0=>⟨fun _ _ _ _ r h=>by simp[br.l0]at h,fun _ _ _ _ _ _ _ _ _ _ r h=>by simp[br.j1]at h,fun _ _ _ _ _ _ _ _ _ _ _ r h=>by simp[br.l1]at h⟩
 |k+1=>by
  obtain⟨bw,ih1,ih2⟩:=br.dL k
  refine⟨?_, ?_, ?_⟩<;>intros<;>first|unfold br.l0|unfold br.j1|unfold br.l1
  all_goals repeat' first
   |(with_reducible exact bw _ _ _ _)
   |(with_reducible exact ih1 _ _ _ _ _ _ _ _ _ _)
   |(with_reducible exact ih2 _ _ _ _ _ _ _ _ _ _ _)
   |(with_reducible exact aG.refl _)
   |(with_reducible exact aG.none _)
   |(with_reducible refine aG.ite ?_ ?_)
   |(with_reducible refine aG.bind ?_ (fun _=> ?_))
   |exact bw _ _ _ _
   |exact ih1 _ _ _ _ _ _ _ _ _ _
   |exact ih2 _ _ _ _ _ _ _ _ _ _ _
   |exact aG.none _
   |refine aG.ite ?_ ?_
   |refine aG.bind ?_ (fun _=> ?_)
theorem br.mono:∀a0 k,aG (br.f k a0) (br.f (k+1) a0):=by
 intro a0 k;obtain⟨bw,ih1,ih2⟩:=br.dL k;unfold br.f
 repeat' with_reducible first|exact bw _ _ _ _|exact ih1 _ _ _ _ _ _ _ _ _ _|exact ih2 _ _ _ _ _ _ _ _ _ _ _|exact aG.refl _|exact aG.none _|refine aG.ite ?_ ?_|refine aG.bind ?_ (fun _=> ?_)
def br.T6:Bool×List (List Nat×List Nat):=(true,[([],[]),([0],[0]),([1],[1]),([2],[2]),([3,2],[2,3]),([2],[2]),([5,2],[2,5]),([4,6,2],[2,4,6]),([7,2],[2,7]),([8,2],[2,8]),([2],[2]),([10,2],[2,10]),([2],[2]),([12,2],[2,12]),([11,13,2],[2,11,13]),([14,2],[2,14]),([15,2],[2,15]),([9,16,2],[2,9,16]),([2],[2]),([18,2],[2,18]),([17,19,2],[2,17,19]),([20,2,2],[2,20]),([21],[21]),([22,21],[21,22]),([21],[21]),([24,21],[21,24]),([23,25,21],[21,23,25]),([26,21],[21,26]),([21],[21]),([27,28,21,21],[21,27,28]),([21,29,2],[2,21,29]),([2,30],[2,30])])
def br.B6:List Nat:=[0,1,3,7,15,7,39,127,255,511,7,1031,7,4103,15367,31751,64519,131071,7,262151,1048575,2097151,4194303,8388607,4194303,20971519,67108863,134217727,4194303,536870911,1073741823,2147483647]
theorem br.Cp:gH .any (nY Try.f26 6)=br.T6:=by kernel_rfl
theorem br.CC:kx br.T6.2 br.B6=true:=by kernel_rfl
set_option maxHeartbeats 8000000 in
set_option maxRecDepth 100000 in
theorem br.calls(k:Nat)(bS:Option Addr)(bL:Nat)(J:List (a7))(r:Bool)(w:World)(fT:Kd.C b7 w bS J.length J)(fU:J.length≤bL)(h:br.f k J=some r):
 Calls aad 26 #[.agg #[.slice bS J.length bL]] w fun e w'=>e= .returned (.bool r)∧Below w.heap.size w w':=by
 have kJ:=Try.underlying25;have mA:=aay;have cY:=Ah fT;have dw:=Ah fU;clear fT fU;have HB:=Ah (Below.refl w.heap.size w);have H:(br.l0 k J (J.length:Int) 0 J)=some r:=h;clear h;have H':=Ah H;clear H
 go_enter Try.func26,Try.ntmps26
 go_wp2_with (first|((with_reducible refine ax (N:=1) rfl ?_);refine bA 1 25 #[.slice bS J.length bL] ?_;intro IS hg w2 eJ hb;have GW107:=gw hg (bs HB);have iZ:=gw hg (bs HB);replace HB:=Ah (aK (bs HB) hb);clear hb hg;have hcz3_0:=ap eJ;have hfz3_0:=an eJ))
 go_loopg [10] k (fun kq v10 w'=>∃ (aZ:Int),v10= .int .i64 aZ∧U (br.l0 kq J (J.length:Int) aZ J=some r)∧U (kq≤k)∧U (w'.heap[IS]?=some (.cells #[(.slice bS J.length bL)] 25 (0,0)))∧U (Below w.heap.size w w'))
 case atStart=>exact⟨(0),e3,H',⟨bx _⟩,⟨bk eJ⟩,⟨aH HB iZ⟩⟩
 case round=>
  clear H'
  try clear c2
  try clear p2
  try clear hcz3_0
  try clear hfz3_0
  obtain⟨aZ,rfl,HA,bU,eJ,HB⟩:=hrel
  cases gk with
  |zero=>exact absurd HA.out (by simp[br.l0])
  |succ k1=>
   have H:=HA.out;clear HA;simp only[br.l0]at H
   by_cases c4:aZ<(J.length:Int)
   rotate_left
   ·
    rw[if_neg c4]at H;have jb:decide (aZ<(J.length:Int))=false:=decide_eq_false c4;clear c4;obtain rfl:=iz H;have hcz57_0:=ap eJ;have hfz57_0:=an eJ
    go_wp2
    go_ret
    exact⟨er,aH HB iZ⟩
   rw[if_pos c4]at H;have jb:decide (aZ<(J.length:Int))=true:=decide_eq_true c4;clear c4
   by_cases c5:0≤aZ
   rotate_left
   ·
    rw[if_neg c5]at H;exact absurd H (by simp)
   rw[if_pos c5]at H;have oP:decide (0≤aZ)=true:=decide_eq_true c5;clear c5
   by_cases c6:aZ<(J.length:Int)
   rotate_left
   ·
    rw[if_neg c6]at H;exact absurd H (by simp)
   rw[if_pos c6]at H;have rM:decide (aZ<(J.length:Int))=true:=decide_eq_true c6;clear c6;replace H:=LT.mp H;obtain⟨Uw,kb,H⟩:=H
   try dsimp only at H
   have A7:=Ah kb;clear kb
   by_cases c8:Uw=true
   rotate_left
   ·
    replace c8:=dn.mpr c8;subst c8;rw[if_neg dV]at H;obtain rfl:=iz H;have Cy:0≤(aZ:Int):=od;have Cz:aZ<(J.length:Int):=od;obtain⟨f9,e108,BA,BB,BC,BD⟩:=f6 cY.out aZ Cy Cz
    cases e108
    replace BA:=(HB.out.cell (LA w _ BA)).trans BA;replace BB:=(HB.out.cell (LA w _ BB)).trans BB;replace BC:=(HB.out.cell (LA w _ BC)).trans BC;replace BD:=(HB.out.cell (LA w _ BD)).trans BD;replace Cy:=eq_true Cy;replace Cz:=eq_true Cz
    go_wp2_with (first|((with_reducible refine ax (N:=4) rfl ?_);refine bA 4 65 #[.int .i64 0,.int .i64 0,.int .i64 0,.bool false] ?_;intro qz hg w53 e8 hb;have GW109:=gw hg (aH HB iZ);have kF:=gw hg (aH HB iZ);replace HB:=Ah (aK (aH HB iZ) hb);have vv:=nn eJ hg;have Ac:=nm eJ hg;replace eJ:=nb eJ hb;clear hb hg;have hnb54:=Ac.out;have hnc54:=vv.out;obtain⟨ry,hcz55_1,hcz55_2,hcz55_3⟩:=cA e8;obtain⟨rz,hfz55_1,hfz55_2,hfz55_3⟩:=cB e8)|((with_reducible refine bJ (f:=34) rfl ?_);refine gL (some 16) rfl rfl abz (by kernel_rfl) rfl #[.agg #[.int .i64 ((I J aZ).f0),.int .i64 ((I J aZ).f1),.int .i64 ((I J aZ).f2),.bool ((I J aZ).f3)]] rfl ?_;(with_reducible refine(oy.calls ((I J aZ).f0) ((I J aZ).f1) ((I J aZ).f2) ((I J aZ).f3) false _ A7.out).mono ?_);rintro e w56 ⟨rfl,hb⟩;refine⟨_,rfl, ?_⟩;replace eJ:=Ah (cC (bf eJ vv) hb);replace e8:=Ah (cC (g:=qz) (o:= .cells #[.int .i64 ((I J aZ).f0),.int .i64 ((I J aZ).f1),.int .i64 ((I J aZ).f2),.bool ((I J aZ).f3)] 65 (0,0)) (by(with_reducible repeat(first|refine aD ?_ _|refine Z ?_|refine aC ?_ _));refine aj (cs:= #[.int .i64 ((I J aZ).f0),.int .i64 ((I J aZ).f1),.int .i64 ((I J aZ).f2),.bool false]) ?_ 3 _ rfl;(with_reducible repeat(first|refine aD ?_ _|refine Z ?_|refine aC ?_ _));refine aj (cs:= #[.int .i64 ((I J aZ).f0),.int .i64 ((I J aZ).f1),.int .i64 0,.bool false]) ?_ 2 _ rfl;(with_reducible repeat(first|refine aD ?_ _|refine Z ?_|refine aC ?_ _));refine aj (cs:= #[.int .i64 ((I J aZ).f0),.int .i64 0,.int .i64 0,.bool false]) ?_ 1 _ rfl;(with_reducible repeat(first|refine aD ?_ _|refine Z ?_|refine aC ?_ _));refine aj (cs:= #[.int .i64 0,.int .i64 0,.int .i64 0,.bool false]) ?_ 0 _ rfl;(with_reducible repeat(first|refine aD ?_ _|refine Z ?_|refine aC ?_ _));exact e8.out) hb);replace HB:=Ah (aK (aW HB iZ kF) hb);(try clear hb)))
    go_ret
    exact⟨er,aW HB iZ kF⟩
   subst c8;rw[if_pos rfl]at H;have Wp:=Ah H;clear H;have Cy:0≤(aZ:Int):=od;have Cz:aZ<(J.length:Int):=od;obtain⟨f9,e108,BA,BB,BC,BD⟩:=f6 cY.out aZ Cy Cz
   cases e108
   replace BA:=(HB.out.cell (LA w _ BA)).trans BA;replace BB:=(HB.out.cell (LA w _ BB)).trans BB;replace BC:=(HB.out.cell (LA w _ BC)).trans BC;replace BD:=(HB.out.cell (LA w _ BD)).trans BD;replace Cy:=eq_true Cy;replace Cz:=eq_true Cz
   go_upto_region 6 with(first|((with_reducible refine ax (N:=4) rfl ?_);refine bA 4 65 #[.int .i64 0,.int .i64 0,.int .i64 0,.bool false] ?_;intro qz hg AQ e8 hb;have GW109:=gw hg (aH HB iZ);have kF:=gw hg (aH HB iZ);replace HB:=Ah (aK (aH HB iZ) hb);have vv:=nn eJ hg;have Ac:=nm eJ hg;replace eJ:=nb eJ hb;clear hb hg;have a1L:=Ac.out;have a1M:=vv.out;obtain⟨yn,RQ,RR,RS⟩:=cA e8;obtain⟨yo,RT,RU,RV⟩:=cB e8)|((with_reducible refine bJ (f:=34) rfl ?_);refine gL (some 16) rfl rfl abz (by kernel_rfl) rfl #[.agg #[.int .i64 ((I J aZ).f0),.int .i64 ((I J aZ).f1),.int .i64 ((I J aZ).f2),.bool ((I J aZ).f3)]] rfl ?_;(with_reducible refine(oy.calls ((I J aZ).f0) ((I J aZ).f1) ((I J aZ).f2) ((I J aZ).f3) true _ A7.out).mono ?_);rintro e nJ ⟨rfl,hb⟩;refine⟨_,rfl, ?_⟩;replace eJ:=Ah (cC (bf eJ vv) hb);replace e8:=Ah (cC (g:=qz) (o:= .cells #[.int .i64 ((I J aZ).f0),.int .i64 ((I J aZ).f1),.int .i64 ((I J aZ).f2),.bool ((I J aZ).f3)] 65 (0,0)) (by(with_reducible repeat(first|refine aD ?_ _|refine Z ?_|refine aC ?_ _));refine aj (cs:= #[.int .i64 ((I J aZ).f0),.int .i64 ((I J aZ).f1),.int .i64 ((I J aZ).f2),.bool false]) ?_ 3 _ rfl;(with_reducible repeat(first|refine aD ?_ _|refine Z ?_|refine aC ?_ _));refine aj (cs:= #[.int .i64 ((I J aZ).f0),.int .i64 ((I J aZ).f1),.int .i64 0,.bool false]) ?_ 2 _ rfl;(with_reducible repeat(first|refine aD ?_ _|refine Z ?_|refine aC ?_ _));refine aj (cs:= #[.int .i64 ((I J aZ).f0),.int .i64 0,.int .i64 0,.bool false]) ?_ 1 _ rfl;(with_reducible repeat(first|refine aD ?_ _|refine Z ?_|refine aC ?_ _));refine aj (cs:= #[.int .i64 0,.int .i64 0,.int .i64 0,.bool false]) ?_ 0 _ rfl;(with_reducible repeat(first|refine aD ?_ _|refine Z ?_|refine aC ?_ _));exact e8.out) hb);replace HB:=Ah (aK (aW HB iZ kF) hb);(try clear hb)))
   (try simp only[Act.put,Ok,bY,dl])
   go_cut [49] (fun v49 wc=>∃ (kq:Nat) (Nb:Bool),v49= .bool Nb∧U (br.j1 kq aZ J (J.length:Int) aZ Nb J ((I J aZ).f0) ((I J aZ).f1) ((I J aZ).f2) ((I J aZ).f3)=some r)∧U (kq≤k1)∧U (wc.heap[IS]?=some (.cells #[(.slice (some f9) J.length bL)] 25 (0,0)))∧U (wc.heap[qz]?=some (.cells #[.int .i64 ((I J aZ).f0),.int .i64 ((I J aZ).f1),.int .i64 ((I J aZ).f2),.bool ((I J aZ).f3)] 65 (0,0)))∧U (Below w.heap.size w wc))
   case first=>
    have H:=Wp.out;clear Wp
    by_cases c14:aZ>0
    rotate_left
    ·
     rw[if_neg c14]at H;have pW:decide (0<aZ)=false:=decide_eq_false c14;clear c14;(first|rw[pW]|(simp only[cz,dS];rw[pW])|(simp only[c14b2,aaz,aaC])|skip);have H':=Ah H;clear H
     try go_wp2
     have aa:=Ah (Z eJ.out);have ab:=Ah (Z e8.out);have ac:=Ah (fO HB.out);clear eJ e8 HB;have eJ:=aa;have e8:=ab;have HB:=ac;clear aa ab ac;refine iY (n:=32) (S:=fun w'=>True) (ds:=[]) #[false,false,false,false,false,false,false,false,false,false,false,false,false,false,false,false,false,false,false,false,false,false,false,false,false,false,false,false,false,false,false,false] (by kernel_rfl) rfl rfl trivial (fun hHeld=> ?_);refine ig br.Cp br.CC (fun X cV=> ?_)
     generalize nJ.drew=re at eJ e8 HB hHeld⊢
     refine aN 0 18 X.out ?_;refine aN 1 19 X.out ?_;refine aN 2 20 X.out ?_;refine bz 3 21 X.out ?_;refine bz 4 22 X.out ?_;refine bz 5 23 X.out ?_;refine bz 6 24 X.out ?_;refine bz 7 25 X.out ?_;refine bz 8 26 X.out ?_;refine bz 9 27 X.out ?_;refine bz 10 28 X.out ?_;refine bz 11 29 X.out ?_;refine bz 12 30 X.out ?_;refine bz 13 31 X.out ?_;refine bz 14 32 X.out ?_;refine bz 15 33 X.out ?_;refine bz 16 34 X.out ?_;refine bz 17 35 X.out ?_;refine bz 18 36 X.out ?_;refine bz 19 37 X.out ?_;refine bz 20 38 X.out ?_;refine bz 21 39 X.out ?_;refine bz 22 40 X.out ?_;refine bz 23 41 X.out ?_;refine bz 24 42 X.out ?_;refine bz 25 43 X.out ?_;refine bz 26 44 X.out ?_;refine bz 27 45 X.out ?_;refine bz 28 46 X.out ?_;refine bz 29 47 X.out ?_;refine bz 30 48 X.out ?_;refine aN 31 49 X.out ?_;refine i9 (iD X.out (by kernel_rfl)) ?_
     try go_wp2
     go_meet
     case rel=>exact⟨_,(false),e3,H',⟨by have:=bU.out;first|omega|exact bx _⟩,⟨bk eJ⟩,⟨bk e8⟩,⟨aW HB iZ kF⟩⟩
    rw[if_pos c14]at H;have pW:decide (0<aZ)=true:=decide_eq_true c14;clear c14;(first|rw[pW]|(simp only[cz,dS];rw[pW])|(simp only[c14b2,aaz,aaC])|skip);obtain⟨cP,Nc⟩:∃j_:Int,(LS (aZ-1))=j_:=⟨_,rfl⟩
    replace H:(if 0≤(cP)then(if(cP)<(J.length:Int)then(if(LS (((I J (cP)).f0)+((I J (cP)).f1)))>((I J aZ).f0)then(br.j1 k1 aZ J (J.length:Int) aZ true J ((I J aZ).f0) ((I J aZ).f1) ((I J aZ).f2) ((I J aZ).f3))else((ss.f ((I J (cP)).f0) ((I J (cP)).f1) ((I J (cP)).f2) ((I J (cP)).f3) ((I J aZ).f0) ((I J aZ).f1) ((I J aZ).f2) ((I J aZ).f3)).bind fun Fl=>(br.j1 k1 aZ J (J.length:Int) aZ Fl J ((I J aZ).f0) ((I J aZ).f1) ((I J aZ).f2) ((I J aZ).f3))))else(none))else(none))=some r:=by first|(rw[Nc]at H;exact H)|(simp only[Nc]at H⊢;exact H)
    have hji15w:(IntKind.i64.wrap (aZ-1))=cP:=(cz _).trans Nc
    by_cases c16:0≤(cP)
    rotate_left
    ·
     rw[if_neg c16]at H;exact absurd H (by simp)
    rw[if_pos c16]at H;have IT:decide (0≤(cP))=true:=decide_eq_true c16;clear c16
    by_cases c17:(cP)<(J.length:Int)
    rotate_left
    ·
     rw[if_neg c17]at H;exact absurd H (by simp)
    rw[if_pos c17]at H;have Nd:decide ((cP)<(J.length:Int))=true:=decide_eq_true c17;clear c17
    by_cases c18:(LS (((I J (cP)).f0)+((I J (cP)).f1)))>((I J aZ).f0)
    ·
     rw[if_pos c18]at H;have IU:decide (((I J aZ).f0)<(LS (((I J (cP)).f0)+((I J (cP)).f1))))=true:=decide_eq_true c18;clear c18;have H':=Ah H;clear H
     try go_wp2
     have aa:=Ah (Z eJ.out);have ab:=Ah (Z e8.out);have ac:=Ah (fO HB.out);clear eJ e8 HB;have eJ:=aa;have e8:=ab;have HB:=ac;clear aa ab ac;have xW:0≤((cP):Int):=od;have xX:(cP)<(J.length:Int):=od;obtain⟨TA,Ux,qV,qW,qX,qY⟩:=f6 cY.out (cP) xW xX;have BE:=qY;have BF:=qX;have BG:=qW;have BH:=qV;obtain rfl:f9=TA:=(by injection Ux);replace qV:=(HB.out.cell (LA w _ qV)).trans qV;replace qW:=(HB.out.cell (LA w _ qW)).trans qW;replace qX:=(HB.out.cell (LA w _ qX)).trans qX;replace qY:=(HB.out.cell (LA w _ qY)).trans qY;replace xW:=eq_true xW;replace xX:=eq_true xX;have xY:0≤((cP):Int):=od;have xZ:(cP)<(J.length:Int):=od;obtain⟨TB,Uy,qZ,qa,qb,qc⟩:=f6 cY.out (cP) xY xZ;have BI:=qc;have BJ:=qb;have BK:=qa;have BL:=qZ;obtain rfl:f9=TB:=(by injection Uy);replace qZ:=(HB.out.cell (LA w _ qZ)).trans qZ;replace qa:=(HB.out.cell (LA w _ qa)).trans qa;replace qb:=(HB.out.cell (LA w _ qb)).trans qb;replace qc:=(HB.out.cell (LA w _ qc)).trans qc;replace xY:=eq_true xY;replace xZ:=eq_true xZ;refine iY (n:=32) (S:=fun w'=>w'.cell? ⟨IS,0,none⟩=some (.slice (some f9) J.length bL)∧w'.cell? ⟨qz,0,none⟩=some (.int .i64 ((I J aZ).f0))∧w'.cell? ⟨qz,1,none⟩=some (.int .i64 ((I J aZ).f1))∧w'.cell? ⟨qz,2,none⟩=some (.int .i64 ((I J aZ).f2))∧w'.cell? ⟨qz,3,none⟩=some (.bool ((I J aZ).f3))∧w'.cell? (f9.add (((cP)).toNat*4))=some (.int .i64 ((I J (cP)).f0))∧w'.cell? ⟨(f9.add (((cP)).toNat*4)).block,(f9.add (((cP)).toNat*4)).off+1,none⟩=some (.int .i64 ((I J (cP)).f1))∧w'.cell? ⟨(f9.add (((cP)).toNat*4)).block,(f9.add (((cP)).toNat*4)).off+2,none⟩=some (.int .i64 ((I J (cP)).f2))∧w'.cell? ⟨(f9.add (((cP)).toNat*4)).block,(f9.add (((cP)).toNat*4)).off+3,none⟩=some (.bool ((I J (cP)).f3))∧w'.cell? (f9.add (((cP)).toNat*4))=some (.int .i64 ((I J (cP)).f0))∧w'.cell? ⟨(f9.add (((cP)).toNat*4)).block,(f9.add (((cP)).toNat*4)).off+1,none⟩=some (.int .i64 ((I J (cP)).f1))∧w'.cell? ⟨(f9.add (((cP)).toNat*4)).block,(f9.add (((cP)).toNat*4)).off+2,none⟩=some (.int .i64 ((I J (cP)).f2))∧w'.cell? ⟨(f9.add (((cP)).toNat*4)).block,(f9.add (((cP)).toNat*4)).off+3,none⟩=some (.bool ((I J (cP)).f3))) (ds:=[]) #[false,false,false,false,false,false,false,false,false,false,false,false,false,false,false,false,false,false,false,false,false,false,false,false,false,false,false,false,false,false,false,false] (by kernel_rfl) rfl rfl ⟨(bC eJ.out 0).trans rfl,(bC e8.out 0).trans rfl,(bC e8.out 1).trans rfl,(bC e8.out 2).trans rfl,(bC e8.out 3).trans rfl,((HB.out.cell (LA w _ BH)).trans BH),((HB.out.cell (LA w _ BG)).trans BG),((HB.out.cell (LA w _ BF)).trans BF),((HB.out.cell (LA w _ BE)).trans BE),((HB.out.cell (LA w _ BL)).trans BL),((HB.out.cell (LA w _ BK)).trans BK),((HB.out.cell (LA w _ BJ)).trans BJ),((HB.out.cell (LA w _ BI)).trans BI)⟩ (fun hHeld=> ?_);refine ig br.Cp br.CC (fun X cV=> ?_)
     generalize nJ.drew=jl at eJ e8 HB qV qW qX qY qZ qa qb qc hHeld⊢
     refine aN 0 18 X.out ?_;refine aN 1 19 X.out ?_;refine aN 2 20 X.out ?_;refine aN 3 21 X.out ?_;refine aN 5 23 X.out ?_;refine aN 6 24 X.out ?_;refine aN 10 28 X.out ?_;refine aN 12 30 X.out ?_;refine aN 13 31 X.out ?_;refine aN 18 36 X.out ?_;refine eF 4 22 X.out cV.out hHeld (hr:=by rintro w' ⟨s0,s1,s2,s3,s4,s5,s6,s7,s8,s9,s10,s11,s12⟩;go_simp;with_reducible rfl) (h:= ?_);refine aN 7 25 X.out ?_;refine aN 8 26 X.out ?_;refine eF 9 27 X.out cV.out hHeld (hr:=by rintro w' ⟨s0,s1,s2,s3,s4,s5,s6,s7,s8,s9,s10,s11,s12⟩;go_simp;with_reducible rfl) (h:= ?_);refine eF 11 29 X.out cV.out hHeld (hr:=by rintro w' ⟨s0,s1,s2,s3,s4,s5,s6,s7,s8,s9,s10,s11,s12⟩;go_simp;with_reducible rfl) (h:= ?_);refine aN 14 32 X.out ?_;refine aN 15 33 X.out ?_;refine eF 16 34 X.out cV.out hHeld (hr:=by rintro w' ⟨s0,s1,s2,s3,s4,s5,s6,s7,s8,s9,s10,s11,s12⟩;go_simp;with_reducible rfl) (h:= ?_);refine aN 17 35 X.out ?_;refine eF 19 37 X.out cV.out hHeld (hr:=by rintro w' ⟨s0,s1,s2,s3,s4,s5,s6,s7,s8,s9,s10,s11,s12⟩;go_simp;with_reducible rfl) (h:= ?_);refine aN 20 38 X.out ?_;refine aN 21 39 X.out ?_;refine bz 22 40 X.out ?_;refine bz 23 41 X.out ?_;refine bz 24 42 X.out ?_;refine bz 25 43 X.out ?_;refine bz 26 44 X.out ?_;refine bz 27 45 X.out ?_;refine bz 28 46 X.out ?_;refine bz 29 47 X.out ?_;refine aN 30 48 X.out ?_;refine aN 31 49 X.out ?_;refine i9 (iD X.out (by kernel_rfl)) ?_
     try go_wp2
     go_meet
     case rel=>exact⟨_,(true),e3,H',⟨by have:=bU.out;first|omega|exact bx _⟩,⟨bk eJ⟩,⟨bk e8⟩,⟨aW HB iZ kF⟩⟩
    rw[if_neg c18]at H;have IU:decide (((I J aZ).f0)<(LS (((I J (cP)).f0)+((I J (cP)).f1))))=false:=decide_eq_false c18;clear c18;replace H:=LT.mp H;obtain⟨Fl,Jw,H⟩:=H
    try dsimp only at H
    have fo:=Ah Jw;clear Jw;have H':=Ah H;clear H
    try go_wp2
    have aa:=Ah (Z eJ.out);have ab:=Ah (Z e8.out);have ac:=Ah (fO HB.out);clear eJ e8 HB;have eJ:=aa;have e8:=ab;have HB:=ac;clear aa ab ac;have xW:0≤((cP):Int):=od;have xX:(cP)<(J.length:Int):=od;obtain⟨TA,Ux,qV,qW,qX,qY⟩:=f6 cY.out (cP) xW xX;have BE:=qY;have BF:=qX;have BG:=qW;have BH:=qV;obtain rfl:f9=TA:=(by injection Ux);replace qV:=(HB.out.cell (LA w _ qV)).trans qV;replace qW:=(HB.out.cell (LA w _ qW)).trans qW;replace qX:=(HB.out.cell (LA w _ qX)).trans qX;replace qY:=(HB.out.cell (LA w _ qY)).trans qY;replace xW:=eq_true xW;replace xX:=eq_true xX;have xY:0≤((cP):Int):=od;have xZ:(cP)<(J.length:Int):=od;obtain⟨TB,Uy,qZ,qa,qb,qc⟩:=f6 cY.out (cP) xY xZ;have BI:=qc;have BJ:=qb;have BK:=qa;have BL:=qZ;obtain rfl:f9=TB:=(by injection Uy);replace qZ:=(HB.out.cell (LA w _ qZ)).trans qZ;replace qa:=(HB.out.cell (LA w _ qa)).trans qa;replace qb:=(HB.out.cell (LA w _ qb)).trans qb;replace qc:=(HB.out.cell (LA w _ qc)).trans qc;replace xY:=eq_true xY;replace xZ:=eq_true xZ;have KD:0≤((cP):Int):=od;have KE:(cP)<(J.length:Int):=od;obtain⟨ad113,e113,BM,BN,BO,BP⟩:=f6 cY.out (cP) KD KE;have MJ:=BP;have MK:=BO;have ML:=BN;have MM:=BM;obtain rfl:f9=ad113:=(by injection e113);replace BM:=(HB.out.cell (LA w _ BM)).trans BM;replace BN:=(HB.out.cell (LA w _ BN)).trans BN;replace BO:=(HB.out.cell (LA w _ BO)).trans BO;replace BP:=(HB.out.cell (LA w _ BP)).trans BP;replace KD:=eq_true KD;replace KE:=eq_true KE;refine iY (n:=32) (S:=fun w'=>w'.cell? ⟨IS,0,none⟩=some (.slice (some f9) J.length bL)∧w'.cell? ⟨qz,0,none⟩=some (.int .i64 ((I J aZ).f0))∧w'.cell? ⟨qz,1,none⟩=some (.int .i64 ((I J aZ).f1))∧w'.cell? ⟨qz,2,none⟩=some (.int .i64 ((I J aZ).f2))∧w'.cell? ⟨qz,3,none⟩=some (.bool ((I J aZ).f3))∧w'.cell? (f9.add (((cP)).toNat*4))=some (.int .i64 ((I J (cP)).f0))∧w'.cell? ⟨(f9.add (((cP)).toNat*4)).block,(f9.add (((cP)).toNat*4)).off+1,none⟩=some (.int .i64 ((I J (cP)).f1))∧w'.cell? ⟨(f9.add (((cP)).toNat*4)).block,(f9.add (((cP)).toNat*4)).off+2,none⟩=some (.int .i64 ((I J (cP)).f2))∧w'.cell? ⟨(f9.add (((cP)).toNat*4)).block,(f9.add (((cP)).toNat*4)).off+3,none⟩=some (.bool ((I J (cP)).f3))∧w'.cell? (f9.add (((cP)).toNat*4))=some (.int .i64 ((I J (cP)).f0))∧w'.cell? ⟨(f9.add (((cP)).toNat*4)).block,(f9.add (((cP)).toNat*4)).off+1,none⟩=some (.int .i64 ((I J (cP)).f1))∧w'.cell? ⟨(f9.add (((cP)).toNat*4)).block,(f9.add (((cP)).toNat*4)).off+2,none⟩=some (.int .i64 ((I J (cP)).f2))∧w'.cell? ⟨(f9.add (((cP)).toNat*4)).block,(f9.add (((cP)).toNat*4)).off+3,none⟩=some (.bool ((I J (cP)).f3))∧w'.cell? (f9.add (((cP)).toNat*4))=some (.int .i64 ((I J (cP)).f0))∧w'.cell? ⟨(f9.add (((cP)).toNat*4)).block,(f9.add (((cP)).toNat*4)).off+1,none⟩=some (.int .i64 ((I J (cP)).f1))∧w'.cell? ⟨(f9.add (((cP)).toNat*4)).block,(f9.add (((cP)).toNat*4)).off+2,none⟩=some (.int .i64 ((I J (cP)).f2))∧w'.cell? ⟨(f9.add (((cP)).toNat*4)).block,(f9.add (((cP)).toNat*4)).off+3,none⟩=some (.bool ((I J (cP)).f3))) (ds:=[]) #[false,false,false,false,false,false,false,false,false,false,false,false,false,false,false,false,false,false,false,false,false,false,false,false,false,false,false,false,false,false,false,false] (by kernel_rfl) rfl rfl ⟨(bC eJ.out 0).trans rfl,(bC e8.out 0).trans rfl,(bC e8.out 1).trans rfl,(bC e8.out 2).trans rfl,(bC e8.out 3).trans rfl,((HB.out.cell (LA w _ BH)).trans BH),((HB.out.cell (LA w _ BG)).trans BG),((HB.out.cell (LA w _ BF)).trans BF),((HB.out.cell (LA w _ BE)).trans BE),((HB.out.cell (LA w _ BL)).trans BL),((HB.out.cell (LA w _ BK)).trans BK),((HB.out.cell (LA w _ BJ)).trans BJ),((HB.out.cell (LA w _ BI)).trans BI),((HB.out.cell (LA w _ MM)).trans MM),((HB.out.cell (LA w _ ML)).trans ML),((HB.out.cell (LA w _ MK)).trans MK),((HB.out.cell (LA w _ MJ)).trans MJ)⟩ (fun hHeld=> ?_);refine ig br.Cp br.CC (fun X cV=> ?_)
    generalize nJ.drew=ot at eJ e8 HB qV qW qX qY qZ qa qb qc BM BN BO BP hHeld⊢
    refine aN 0 18 X.out ?_;refine aN 1 19 X.out ?_;refine aN 2 20 X.out ?_;refine aN 3 21 X.out ?_;refine aN 5 23 X.out ?_;refine aN 6 24 X.out ?_;refine aN 10 28 X.out ?_;refine aN 12 30 X.out ?_;refine aN 13 31 X.out ?_;refine aN 18 36 X.out ?_;refine eF 4 22 X.out cV.out hHeld (hr:=by rintro w' ⟨s0,s1,s2,s3,s4,s5,s6,s7,s8,s9,s10,s11,s12,s13,ou,s15,s16⟩;go_simp;with_reducible rfl) (h:= ?_);refine aN 7 25 X.out ?_;refine aN 8 26 X.out ?_;refine eF 9 27 X.out cV.out hHeld (hr:=by rintro w' ⟨s0,s1,s2,s3,s4,s5,s6,s7,s8,s9,s10,s11,s12,s13,ou,s15,s16⟩;go_simp;with_reducible rfl) (h:= ?_);refine eF 11 29 X.out cV.out hHeld (hr:=by rintro w' ⟨s0,s1,s2,s3,s4,s5,s6,s7,s8,s9,s10,s11,s12,s13,ou,s15,s16⟩;go_simp;with_reducible rfl) (h:= ?_);refine aN 14 32 X.out ?_;refine aN 15 33 X.out ?_;refine eF 16 34 X.out cV.out hHeld (hr:=by rintro w' ⟨s0,s1,s2,s3,s4,s5,s6,s7,s8,s9,s10,s11,s12,s13,ou,s15,s16⟩;go_simp;with_reducible rfl) (h:= ?_);refine aN 17 35 X.out ?_;refine eF 19 37 X.out cV.out hHeld (hr:=by rintro w' ⟨s0,s1,s2,s3,s4,s5,s6,s7,s8,s9,s10,s11,s12,s13,ou,s15,s16⟩;go_simp;with_reducible rfl) (h:= ?_);refine aN 20 38 X.out ?_;refine aN 21 39 X.out ?_;refine aN 22 40 X.out ?_;refine aN 24 42 X.out ?_;refine aN 25 43 X.out ?_;refine eF 23 41 X.out cV.out hHeld (hr:=by rintro w' ⟨s0,s1,s2,s3,s4,s5,s6,s7,s8,s9,s10,s11,s12,s13,ou,s15,s16⟩;go_simp;with_reducible rfl) (h:= ?_);refine aN 26 44 X.out ?_;refine eF 27 45 X.out cV.out hHeld (hr:=by rintro w' ⟨s0,s1,s2,s3,s4,s5,s6,s7,s8,s9,s10,s11,s12,s13,ou,s15,s16⟩;go_simp;with_reducible rfl) (h:= ?_);refine eF 28 46 X.out cV.out hHeld (hr:=by rintro w' ⟨s0,s1,s2,s3,s4,s5,s6,s7,s8,s9,s10,s11,s12,s13,ou,s15,s16⟩;go_simp;with_reducible rfl) (h:= ?_);refine ga (i:=29) (N:=some 47) #[true,true,true,true,true,true,true,true,true,true,true,true,true,true,true,true,true,true,true,true,true,true,true,true,true,true,true,true,true,true,false,false] rfl rfl (fy X.out (by kernel_rfl)) (by decide) (fun K hK=> ?_);refine il Try.func45 (by kernel_rfl) rfl #[.agg #[.int .i64 ((I J (cP)).f0),.int .i64 ((I J (cP)).f1),.int .i64 ((I J (cP)).f2),.bool ((I J (cP)).f3)],.agg #[.int .i64 ((I J aZ).f0),.int .i64 ((I J aZ).f1),.int .i64 ((I J aZ).f2),.bool ((I J aZ).f3)]] (by rfl) rfl rfl (by(try simp only[List.map_toArray,List.map_cons,List.map_nil]);first|done|(simp only[Nc];rfl)|rfl|(simp only[List.length_drop,List.length_take];rfl)) ?_
    with_reducible refine(ss.calls ((I J (cP)).f0) ((I J (cP)).f1) ((I J (cP)).f2) ((I J (cP)).f3) ((I J aZ).f0) ((I J aZ).f1) ((I J aZ).f2) ((I J aZ).f3) Fl _ fo.out).mono ?_
    rintro e kt ⟨rfl,hb⟩;refine⟨_,rfl, ?_⟩;have aa:=Ah (bb eJ hb);have ab:=Ah (bb e8 hb);have ac:=Ah (aK (aW HB iZ kF) hb);clear eJ e8 HB;have eJ:=aa;have e8:=ab;have HB:=ac;clear aa ab ac;(try clear hb);(try clear hb2);(try clear hk);(try clear hi);refine hK.out _ _ ⟨(bC eJ.out 0).trans rfl,(bC e8.out 0).trans rfl,(bC e8.out 1).trans rfl,(bC e8.out 2).trans rfl,(bC e8.out 3).trans rfl,((HB.out.cell (LA w _ BH)).trans BH),((HB.out.cell (LA w _ BG)).trans BG),((HB.out.cell (LA w _ BF)).trans BF),((HB.out.cell (LA w _ BE)).trans BE),((HB.out.cell (LA w _ BL)).trans BL),((HB.out.cell (LA w _ BK)).trans BK),((HB.out.cell (LA w _ BJ)).trans BJ),((HB.out.cell (LA w _ BI)).trans BI),((HB.out.cell (LA w _ MM)).trans MM),((HB.out.cell (LA w _ ML)).trans ML),((HB.out.cell (LA w _ MK)).trans MK),((HB.out.cell (LA w _ MJ)).trans MJ)⟩ (fun hHeld=> ?_);clear hK K;refine hU (a':= ?_) ?_ ?_;rotate_left
    ·
     show Act.put _ (some 47) _=_
     simp only[Act.put,Ok,bY,dl,cz,dS]
     rfl
    refine aN 30 48 X.out ?_;refine aN 31 49 X.out ?_;refine i9 (iD X.out (by kernel_rfl)) ?_
    try go_wp2
    go_meet
    case rel=>exact⟨_,(Fl),e3,H',⟨by have:=bU.out;first|omega|exact bx _⟩,⟨bk eJ⟩,⟨bk e8⟩,⟨aW HB iZ kF⟩⟩
   case rest=>
    clear Wp
    try clear c1
    try clear p1
    try clear q1
    try clear hx1
    try clear p2
    try clear c4
    try clear p6
    try clear p11
    try clear q11
    try clear hx11
    try clear c14
    try clear pW
    try clear c16
    try clear c17
    try clear c18
    try clear IU
    try clear qV
    try clear qW
    try clear qX
    try clear qY
    try clear qZ
    try clear qa
    try clear qb
    try clear qc
    try clear BM
    try clear BN
    try clear BO
    try clear BP
    try clear xW
    try clear xY
    try clear KD
    try clear xX
    try clear xZ
    try clear KE
    obtain⟨kq,Nb,rfl,HA,GD,eJ,e8,HB⟩:=hcut
    cases kq with
    |zero=>exact absurd HA.out (by simp[br.j1])
    |succ Wq=>
     have H:=HA.out;clear HA;simp only[br.j1]at H
     by_cases c24:Nb=true
     ·
      subst c24;rw[if_pos rfl]at H;obtain rfl:=iz H
      go_wp2
      go_ret
      exact⟨er,aW HB iZ kF⟩
     replace c24:=dn.mpr c24;subst c24;rw[if_neg dV]at H
     by_cases ix:0≤aZ
     rotate_left
     ·
      rw[if_neg ix]at H;exact absurd H (by simp)
     rw[if_pos ix]at H;have F5:=eq_true ix;have c25b1:decide (0≤aZ)=true:=decide_eq_true ix;clear ix
     by_cases i3:aZ≤(J.length:Int)
     rotate_left
     ·
      rw[if_neg i3]at H;exact absurd H (by simp)
     rw[if_pos i3]at H;have Sf:=eq_true i3;have c26b1:decide (aZ≤(J.length:Int))=true:=decide_eq_true i3;clear i3;obtain⟨y115,hy115⟩:∃y_:List (a7),y_=(J.take (aZ:Int).toNat):=⟨_,rfl⟩
     replace H:(br.l1 Wq J (J.length:Int) aZ y115 (y115.length:Int) 0 J ((I J aZ).f0) ((I J aZ).f1) ((I J aZ).f2) ((I J aZ).f3))=some r:=by first|(rw[hy115];with_reducible exact H)|(have aX:=(Mq _ _).symm.trans H;rw[hy115];with_reducible exact aX)|(have aX:=(Mq _ _).symm.trans H;with_reducible exact aX)|with_reducible exact H|(rw[hy115];exact H)|exact H
     have a10:=Ah hy115;clear hy115;have H':=Ah H;clear H;have hnb27:=vv.out;have hnc27:=Ac.out;have RW:=ap eJ;have RX:=an eJ;have om:(aZ:Int)≤((J.length:Int):Int):=od;obtain⟨a4v,zG,_,F1,_⟩:=info_parts gF;have wT:J.length≤bL:=dw.out;have zk:Kd.C b7 _ (some f9) J.length J:=cY.out;have Hg:=Ed (P:=aad) 23 65 .i64 aac zG (some f9) J.length bL aZ (od) om wT;have rL:=Kd.qm (m:=(aZ:Int).toNat) zk (by omega);have hy29:y115.length=(aZ:Int).toNat:=(by rw[a10.out,ao];omega);rw[←a10.out]at rL;rw[←hy29]at Hg;have TC:=Ah rL;have Nf:=Ah (show y115.length≤bL from by omega);clear rL zk wT zG F1;have a4w:=Ah hy29;clear hy29;replace om:=eq_true om
     go_wp2
     go_loopg [55] Wq (fun kq v55 w'=>∃ (ia:Int),v55= .int .i64 ia∧U (br.l1 kq J (J.length:Int) aZ y115 (y115.length:Int) ia J ((I J aZ).f0) ((I J aZ).f1) ((I J aZ).f2) ((I J aZ).f3)=some r)∧U (kq≤Wq)∧U (w'.heap[IS]?=some (.cells #[(.slice (some f9) J.length bL)] 25 (0,0)))∧U (w'.heap[qz]?=some (.cells #[.int .i64 ((I J aZ).f0),.int .i64 ((I J aZ).f1),.int .i64 ((I J aZ).f2),.bool ((I J aZ).f3)] 65 (0,0)))∧U (Below w.heap.size w w'))
     case atStart=>exact⟨(0),e3,H',⟨bx _⟩,⟨bk eJ⟩,⟨bk e8⟩,⟨aW HB iZ kF⟩⟩
     case round=>
      clear H'
      try clear c1
      try clear p1
      try clear q1
      try clear hx1
      try clear c2
      try clear p2
      try clear q2
      try clear c4
      try clear p6
      try clear p11
      try clear q11
      try clear hx11
      try clear c14
      try clear pW
      try clear c16
      try clear c17
      try clear c18
      try clear IU
      try clear c24
      try clear ix
      try clear F5
      try clear c25b1
      try clear i3
      try clear Sf
      try clear c26b1
      try clear Wk
      try clear om
      try clear RW
      try clear RX
      try clear qV
      try clear qW
      try clear qX
      try clear qY
      try clear qZ
      try clear qa
      try clear qb
      try clear qc
      try clear BM
      try clear BN
      try clear BO
      try clear BP
      try clear p1
      try clear p11
      try clear xW
      try clear xY
      try clear KD
      try clear p2
      try clear p6
      try clear q1
      try clear q11
      try clear xX
      try clear xZ
      try clear KE
      try clear om
      obtain⟨ia,rfl,HA,mg,eJ,e8,HB⟩:=hrel
      cases gk with
      |zero=>exact absurd HA.out (by simp[br.l1])
      |succ k3=>
       have H:=HA.out;clear HA;simp only[br.l1]at H
       by_cases ra:ia<(y115.length:Int)
       rotate_left
       ·
        rw[if_neg ra]at H;have a1T:decide (ia<(y115.length:Int))=false:=decide_eq_false ra;clear ra;have H':=Ah H;clear H
        go_wp2
        go_roundg k3
        case measure=>have:=bU.out;have:=GD.out;have:=mg.out;omega
        case rel=>exact⟨(LS (aZ+1)),e3,H',⟨by have:=bU.out;have:=GD.out;have:=mg.out;omega⟩,⟨bk eJ⟩,⟨aW HB iZ kF⟩⟩
       rw[if_pos ra]at H;have a1T:decide (ia<(y115.length:Int))=true:=decide_eq_true ra;clear ra
       by_cases c31:0≤ia
       rotate_left
       ·
        rw[if_neg c31]at H;exact absurd H (by simp)
       rw[if_pos c31]at H;have NZ:decide (0≤ia)=true:=decide_eq_true c31;clear c31
       by_cases c32:ia<(y115.length:Int)
       rotate_left
       ·
        rw[if_neg c32]at H;exact absurd H (by simp)
       rw[if_pos c32]at H;have Na:decide (ia<(y115.length:Int))=true:=decide_eq_true c32;clear c32
       by_cases jd:((I y115 ia).f2)<(LS (((I J aZ).f2)+((I J aZ).f1)))
       rotate_left
       ·
        rw[if_neg jd]at H;have TD:decide (((I y115 ia).f2)<(LS (((I J aZ).f2)+((I J aZ).f1))))=false:=decide_eq_false jd;clear jd;have H':=Ah H;clear H;have uA:0≤(ia:Int):=od;have uB:ia<(y115.length:Int):=od;obtain⟨IV,e119,tH,tI,tJ,tK⟩:=f6 TC.out ia uA uB;obtain rfl:f9=IV:=(by injection e119);replace tH:=(HB.out.cell (LA w _ tH)).trans tH;replace tI:=(HB.out.cell (LA w _ tI)).trans tI;replace tJ:=(HB.out.cell (LA w _ tJ)).trans tJ;replace tK:=(HB.out.cell (LA w _ tK)).trans tK;replace uA:=eq_true uA;replace uB:=eq_true uB
        go_wp2_with (first|((with_reducible refine ax (N:=6) rfl ?_);refine bA 6 65 #[.int .i64 0,.int .i64 0,.int .i64 0,.bool false] ?_;intro a11 hg w47 zL hb;have a12:=gw hg (aW HB iZ kF);have IW:=gw hg (aW HB iZ kF);replace HB:=Ah (aK (aW HB iZ kF) hb);have Ad:=nn eJ hg;have Gg:=nm eJ hg;replace eJ:=nb eJ hb;have Ae:=nn e8 hg;have Gh:=nm e8 hg;replace e8:=nb e8 hb;clear hb hg;have SI:=Gg.out;have SJ:=Ad.out;have hnb49:=Gh.out;have hnc49:=Ae.out;obtain⟨rv,hcz50_1,hcz50_2,hcz50_3⟩:=cA zL;obtain⟨rx,hfz50_1,hfz50_2,hfz50_3⟩:=cB zL;have hnb51:=Ac.out;have hnc51:=vv.out;obtain⟨ZE,hcz52_1,hcz52_2,hcz52_3⟩:=cA e8;obtain⟨ZF,hfz52_1,hfz52_2,hfz52_3⟩:=cB e8))
        go_roundg k3
        case measure=>have:=bU.out;have:=GD.out;have:=mg.out;omega
        case rel=>exact⟨(LS (ia+1)),e3,H',⟨by have:=bU.out;have:=GD.out;have:=mg.out;omega⟩,⟨bf eJ Ad⟩,⟨bf e8 Ae⟩,⟨bX HB iZ kF IW⟩⟩
       rw[if_pos jd]at H;have TD:decide (((I y115 ia).f2)<(LS (((I J aZ).f2)+((I J aZ).f1))))=true:=decide_eq_true jd;clear jd
       by_cases c34:((I J aZ).f2)<(LS (((I y115 ia).f2)+((I y115 ia).f1)))
       ·
        rw[if_pos c34]at H;have TE:decide (((I J aZ).f2)<(LS (((I y115 ia).f2)+((I y115 ia).f1))))=true:=decide_eq_true c34;clear c34;obtain rfl:=iz H;have uA:0≤(ia:Int):=od;have uB:ia<(y115.length:Int):=od;obtain⟨IV,e119,tH,tI,tJ,tK⟩:=f6 TC.out ia uA uB;obtain rfl:f9=IV:=(by injection e119);replace tH:=(HB.out.cell (LA w _ tH)).trans tH;replace tI:=(HB.out.cell (LA w _ tI)).trans tI;replace tJ:=(HB.out.cell (LA w _ tJ)).trans tJ;replace tK:=(HB.out.cell (LA w _ tK)).trans tK;replace uA:=eq_true uA;replace uB:=eq_true uB
        go_wp2_with (first|((with_reducible refine ax (N:=6) rfl ?_);refine bA 6 65 #[.int .i64 0,.int .i64 0,.int .i64 0,.bool false] ?_;intro a11 hg Dw zL hb;have a12:=gw hg (aW HB iZ kF);have IW:=gw hg (aW HB iZ kF);replace HB:=Ah (aK (aW HB iZ kF) hb);have Ad:=nn eJ hg;have Gg:=nm eJ hg;replace eJ:=nb eJ hb;have Ae:=nn e8 hg;have Gh:=nm e8 hg;replace e8:=nb e8 hb;clear hb hg;have I0:=Gg.out;have I1:=Ad.out;have SG:=Gh.out;have SH:=Ae.out;obtain⟨pE,hcz38_1,hcz38_2,hcz38_3⟩:=cA zL;obtain⟨pF,hfz38_1,hfz38_2,hfz38_3⟩:=cB zL;have N8:=Ac.out;have N9:=vv.out;obtain⟨nS,RG,RH,ZC⟩:=cA e8;obtain⟨nT,RI,RJ,ZD⟩:=cB e8))
        go_ret
        exact⟨er,bX HB iZ kF IW⟩
       rw[if_neg c34]at H;have TE:decide (((I J aZ).f2)<(LS (((I y115 ia).f2)+((I y115 ia).f1))))=false:=decide_eq_false c34;clear c34;have H':=Ah H;clear H;have uA:0≤(ia:Int):=od;have uB:ia<(y115.length:Int):=od;obtain⟨IV,e119,tH,tI,tJ,tK⟩:=f6 TC.out ia uA uB;obtain rfl:f9=IV:=(by injection e119);replace tH:=(HB.out.cell (LA w _ tH)).trans tH;replace tI:=(HB.out.cell (LA w _ tI)).trans tI;replace tJ:=(HB.out.cell (LA w _ tJ)).trans tJ;replace tK:=(HB.out.cell (LA w _ tK)).trans tK;replace uA:=eq_true uA;replace uB:=eq_true uB
       go_wp2_with (first|((with_reducible refine ax (N:=6) rfl ?_);refine bA 6 65 #[.int .i64 0,.int .i64 0,.int .i64 0,.bool false] ?_;intro a11 hg rY zL hb;have a12:=gw hg (aW HB iZ kF);have IW:=gw hg (aW HB iZ kF);replace HB:=Ah (aK (aW HB iZ kF) hb);have Ad:=nn eJ hg;have Gg:=nm eJ hg;replace eJ:=nb eJ hb;have Ae:=nn e8 hg;have Gh:=nm e8 hg;replace e8:=nb e8 hb;clear hb hg;have NI:=Gg.out;have NJ:=Ad.out;have a1F:=Gh.out;have a1G:=Ae.out;obtain⟨hcz44_0,hcz44_1,hcz44_2,hcz44_3⟩:=cA zL;obtain⟨hfz44_0,hfz44_1,hfz44_2,hfz44_3⟩:=cB zL;have hnb45:=Ac.out;have hnc45:=vv.out;obtain⟨hcz46_0,hcz46_1,hcz46_2,hcz46_3⟩:=cA e8;obtain⟨hfz46_0,hfz46_1,hfz46_2,hfz46_3⟩:=cB e8))
       go_roundg k3
       case measure=>have:=bU.out;have:=GD.out;have:=mg.out;omega
       case rel=>exact⟨(LS (ia+1)),e3,H',⟨by have:=bU.out;have:=GD.out;have:=mg.out;omega⟩,⟨bf eJ Ad⟩,⟨bf e8 Ae⟩,⟨bX HB iZ kF IW⟩⟩
def sr.f(a0:Int)(a1:Int):Option (Bool):=(j7.f a0 0 200).bind fun KF=>(if KF=true then((j7.f a1 0 (LS (200-a0))).bind fun KG=>(some KG))else(some false))
set_option maxHeartbeats 8000000 in
set_option maxRecDepth 100000 in
theorem sr.calls(a0:Int)(a1:Int)(r:Bool)(w:World)(h:sr.f a0 a1=some r):
 Calls aad 27 #[.int .i64 a0,.int .i64 a1] w fun e w'=>e= .returned (.bool r)∧fp w w':=by
 have H:((j7.f a0 0 200).bind fun KF=>(if KF=true then((j7.f a1 0 (LS (200-a0))).bind fun KG=>(some KG))else(some false)))=some r:=h;clear h;replace H:=LT.mp H;obtain⟨KF,nK,H⟩:=H
 try dsimp only at H
 have A3:=Ah nK;clear nK
 by_cases c4:KF=true
 rotate_left
 ·
  replace c4:=dn.mpr c4;subst c4;rw[if_neg dV]at H;obtain rfl:=iz H
  go_enter Try.func27,Try.ntmps27
  go_wp2_with (first|((with_reducible refine bJ (f:=40) rfl ?_);refine gL (some 6) rfl rfl aby (by kernel_rfl) rfl #[.int .i64 a0,.int .i64 0,.int .i64 200] rfl ?_;(with_reducible refine(j7.calls a0 0 200 false _ A3.out).mono ?_);rintro e w' ⟨rfl,⟨nd,rfl⟩⟩;refine⟨_,rfl, ?_⟩))
  go_ret
  exact⟨e3,by repeat(first|exact fp.refl _|apply fp.step)⟩
 subst c4;rw[if_pos rfl]at H;replace H:=LT.mp H;obtain⟨KG,kX,H⟩:=H
 try dsimp only at H
 have A5:=Ah kX;clear kX;obtain rfl:=iz H
 go_enter Try.func27,Try.ntmps27
 go_wp2_with (first|((with_reducible refine bJ (f:=40) rfl ?_);refine gL (some 6) rfl rfl aby (by kernel_rfl) rfl #[.int .i64 a0,.int .i64 0,.int .i64 200] rfl ?_;(with_reducible refine(j7.calls a0 0 200 true _ A3.out).mono ?_);rintro e w' ⟨rfl,⟨nd,rfl⟩⟩;refine⟨_,rfl, ?_⟩)|(go_at_call 40;(with_reducible refine(j7.calls a1 0 (LS (200-a0)) KG _ A5.out).mono ?_);rintro e w' ⟨rfl,⟨nd,rfl⟩⟩))
 go_ret
 exact⟨e3,by repeat(first|exact fp.refl _|apply fp.step)⟩
mutual
def dC.l0:Nat→Int→List (a7)→List (a7)→Int→List (a7)→Int→Int→Option ((List (a7))×(List (a7)))
 |0,_,_,_,_,_,_,_=>none
 |k+1,x1,x8,x9,cG,x20,fi,eN=>if eN<fi then(if 0≤eN then(if eN<(x20.length:Int)then(if((I x20 eN).f0)<x1 then(dC.j1 k x1 x8 x9 cG ((I x20 eN).f0) (LS (((I x20 eN).f0)+((I x20 eN).f1))) x1 x20 fi eN ((I x20 eN).f0) ((I x20 eN).f1) ((I x20 eN).f2) ((I x20 eN).f3))else(dC.j1 k x1 x8 x9 cG ((I x20 eN).f0) (LS (((I x20 eN).f0)+((I x20 eN).f1))) ((I x20 eN).f0) x20 fi eN ((I x20 eN).f0) ((I x20 eN).f1) ((I x20 eN).f2) ((I x20 eN).f3)))else(none))else(none))else(some (x8,x9))
def dC.j1:Nat→Int→List (a7)→List (a7)→Int→Int→Int→Int→List (a7)→Int→Int→Int→Int→Int→Bool→Option ((List (a7))×(List (a7)))
 |0,_,_,_,_,_,_,_,_,_,_,_,_,_,_=>none
 |k+1,x1,x8,x9,cG,dd,gU,dA,x20,fi,eN,MN,MO,wY,wZ=>if gU>cG then(dC.j2 k x1 x8 x9 cG dd gU dA cG x20 fi eN MN MO wY wZ)else(dC.j2 k x1 x8 x9 cG dd gU dA gU x20 fi eN MN MO wY wZ)
def dC.j2:Nat→Int→List (a7)→List (a7)→Int→Int→Int→Int→Int→List (a7)→Int→Int→Int→Int→Int→Bool→Option ((List (a7))×(List (a7)))
 |0,_,_,_,_,_,_,_,_,_,_,_,_,_,_,_=>none
 |k+1,x1,x8,x9,cG,dd,gU,dA,gh,x20,fi,eN,MN,MO,wY,wZ=>if dA≥gh then(if x8.length<4398046511104 then(dC.l0 k x1 (x8++[(⟨MN,MO,wY,wZ⟩:a7)]) x9 cG x20 fi (LS (eN+1)))else(none))else(if dd<dA then(if x8.length<4398046511104 then((some (x8++[(⟨dd,LS (dA-dd),wY,wZ⟩:a7)]:List (a7))).bind fun pw=>(if x9.length<4398046511104 then((some (x9++[(⟨dA,LS (gh-dA),LS ((LS (wY+dA))-dd),wZ⟩:a7)]:List (a7))).bind fun uC=>(if gh<gU then(if pw.length<4398046511104 then(dC.l0 k x1 (pw++[(⟨gh,LS (gU-gh),LS ((LS (wY+gh))-dd),wZ⟩:a7)]) uC cG x20 fi (LS (eN+1)))else(none))else(dC.l0 k x1 pw uC cG x20 fi (LS (eN+1)))))else(none)))else(none))else(if x9.length<4398046511104 then((some (x9++[(⟨dA,LS (gh-dA),LS ((LS (wY+dA))-dd),wZ⟩:a7)]:List (a7))).bind fun zt=>(if gh<gU then(if x8.length<4398046511104 then(dC.l0 k x1 (x8++[(⟨gh,LS (gU-gh),LS ((LS (wY+gh))-dd),wZ⟩:a7)]) zt cG x20 fi (LS (eN+1)))else(none))else(dC.l0 k x1 x8 zt cG x20 fi (LS (eN+1)))))else(none)))
end
def dC.f(k:Nat)(l0:List (a7))(a1:Int)(a2:Int):Option ((List (a7))×(List (a7))):=dC.l0 k a1 ([]:List (a7)) ([]:List (a7)) (LS (a1+a2)) l0 (l0.length:Int) 0
theorem dC.dL:∀k,(∀y0 y1 y2 y3 y4 y5 y6,aG (dC.l0 k y0 y1 y2 y3 y4 y5 y6) (dC.l0 (k+1) y0 y1 y2 y3 y4 y5 y6))∧(∀y0 y1 y2 y3 y4 y5 y6 y7 y8 y9 lp uV uW y13,aG (dC.j1 k y0 y1 y2 y3 y4 y5 y6 y7 y8 y9 lp uV uW y13) (dC.j1 (k+1) y0 y1 y2 y3 y4 y5 y6 y7 y8 y9 lp uV uW y13))∧(∀y0 y1 y2 y3 y4 y5 y6 y7 y8 y9 lp uV uW y13 LE,aG (dC.j2 k y0 y1 y2 y3 y4 y5 y6 y7 y8 y9 lp uV uW y13 LE) (dC.j2 (k+1) y0 y1 y2 y3 y4 y5 y6 y7 y8 y9 lp uV uW y13 LE))
 |0=>⟨fun _ _ _ _ _ _ _ r h=>by simp[dC.l0]at h,fun _ _ _ _ _ _ _ _ _ _ _ _ _ _ r h=>by simp[dC.j1]at h,fun _ _ _ _ _ _ _ _ _ _ _ _ _ _ _ r h=>by simp[dC.j2]at h⟩
 |k+1=>by
  obtain⟨bw,ih1,ih2⟩:=dC.dL k
  refine⟨?_, ?_, ?_⟩<;>intros<;>first|unfold dC.l0|unfold dC.j1|unfold dC.j2
  all_goals repeat' first
   |(with_reducible exact bw _ _ _ _ _ _ _)
   |(with_reducible exact ih1 _ _ _ _ _ _ _ _ _ _ _ _ _ _)
   |(with_reducible exact ih2 _ _ _ _ _ _ _ _ _ _ _ _ _ _ _)
   |(with_reducible exact aG.refl _)
   |(with_reducible exact aG.none _)
   |(with_reducible refine aG.ite ?_ ?_)
   |(with_reducible refine aG.bind ?_ (fun _=> ?_))
   |exact bw _ _ _ _ _ _ _
   |exact ih1 _ _ _ _ _ _ _ _ _ _ _ _ _ _
   |exact ih2 _ _ _ _ _ _ _ _ _ _ _ _ _ _ _
   |exact aG.none _
   |refine aG.ite ?_ ?_
   |refine aG.bind ?_ (fun _=> ?_)
theorem dC.mono:∀a0 a1 a2 k,aG (dC.f k a0 a1 a2) (dC.f (k+1) a0 a1 a2):=by
 intro a0 a1 a2 k;obtain⟨bw,ih1,ih2⟩:=dC.dL k;unfold dC.f
 repeat' with_reducible first|exact bw _ _ _ _ _ _ _|exact ih1 _ _ _ _ _ _ _ _ _ _ _ _ _ _|exact ih2 _ _ _ _ _ _ _ _ _ _ _ _ _ _ _|exact aG.refl _|exact aG.none _|refine aG.ite ?_ ?_|refine aG.bind ?_ (fun _=> ?_)
set_option maxHeartbeats 8000000 in
set_option maxRecDepth 100000 in
theorem dC.calls(k:Nat)(A0:Option Addr)(c0:Nat)(l0:List (a7))(a1:Int)(a2:Int)(r1:List (a7))(r2:List (a7))(w:World)(hr0:Kd.C b7 w A0 l0.length l0)(hc0:l0.length≤c0)(h:dC.f k l0 a1 a2=some (r1,r2)):
 Calls Try.prog 28 #[.slice A0 l0.length c0,.int .i64 a1,.int .i64 a2] w fun e w'=>∃da sm:Value,e= .returned (.tuple #[da,sm])∧Kd.R b7 65 w' w.heap.size (fun k_=>some k_≠(sm:Value).ownBlock) da r1∧Kd.R b7 65 w' w.heap.size (fun k_=>some k_≠(da:Value).ownBlock) sm r2∧Below w.heap.size w w':=by
 have mA:=aay;have gV:=Ah hr0;have lG:=Ah hc0;clear hr0 hc0;have HB:=Ah (Below.refl w.heap.size w);have H:(dC.l0 k a1 ([]:List (a7)) ([]:List (a7)) (LS (a1+a2)) l0 (l0.length:Int) 0)=some (r1,r2):=h;clear h;have H':=Ah H;clear H
 go_enter Try.func28,Try.ntmps28
 go_wp2
 go_loopg [8,9,22] k (fun kq v8 v9 v22 w'=>∃ (fK:List (a7)) (aJ:List (a7)) (aU:Int),v22= .int .i64 aU∧U (dC.l0 kq a1 fK aJ (LS (a1+a2)) l0 (l0.length:Int) aU=some (r1,r2))∧U (kq≤k)∧U (Kd.R b7 65 w' w.heap.size (fun k_=>some k_≠(v9:Value).ownBlock) v8 fK)∧U (Kd.R b7 65 w' w.heap.size (fun k_=>some k_≠(v8:Value).ownBlock) v9 aJ)∧U (Below w.heap.size w w'))
 case atStart=>exact⟨(([]:List (a7))),(([]:List (a7))),(0),e3,H',⟨bx _⟩,⟨by first|exact Kd.fk _ _ _ _ _|exact Kd.iI _ _ _ _ _|exact Kd.iJ _ _ _ _ _|exact Kd.iG _ _ _ _ _|exact Kd.iH _ _ _ _ _⟩,⟨by first|exact Kd.fk _ _ _ _ _|exact Kd.iI _ _ _ _ _|exact Kd.iJ _ _ _ _ _|exact Kd.iG _ _ _ _ _|exact Kd.iH _ _ _ _ _⟩,⟨bs HB⟩⟩
 case round=>
  clear H'
  try clear c2
  try clear p2
  obtain⟨fK,aJ,aU,rfl,HA,bU,cq,cT,HB⟩:=hrel
  cases gk with
  |zero=>exact absurd HA.out (by simp[dC.l0])
  |succ k1=>
   have H:=HA.out;clear HA;simp only[dC.l0]at H
   by_cases c4:aU<(l0.length:Int)
   rotate_left
   ·
    rw[if_neg c4]at H;have jb:decide (aU<(l0.length:Int))=false:=decide_eq_false c4;clear c4;simp only[Option.some.injEq,Prod.mk.injEq]at H;obtain⟨rfl,rfl⟩:=H
    go_wp2
    go_ret2
    exact⟨_,_,er,by(with_reducible repeat(first|apply Kd.bG|apply Kd.bE|apply Kd.al));exact cq.out,by(with_reducible repeat(first|apply Kd.bG|apply Kd.bE|apply Kd.al));exact cT.out,bs HB⟩
   rw[if_pos c4]at H;have jb:decide (aU<(l0.length:Int))=true:=decide_eq_true c4;clear c4
   by_cases c5:0≤aU
   rotate_left
   ·
    rw[if_neg c5]at H;exact absurd H (by simp)
   rw[if_pos c5]at H;have oP:decide (0≤aU)=true:=decide_eq_true c5;clear c5
   by_cases c6:aU<(l0.length:Int)
   rotate_left
   ·
    rw[if_neg c6]at H;exact absurd H (by simp)
   rw[if_pos c6]at H;have rM:decide (aU<(l0.length:Int))=true:=decide_eq_true c6;clear c6;have Di:=Ah H;clear H;have KH:0≤(aU:Int):=od;have KI:aU<(l0.length:Int):=od;obtain⟨ad123,e123,HH,HI,HJ,HM⟩:=f6 gV.out aU KH KI
   cases e123
   replace HH:=(HB.out.cell (LA w _ HH)).trans HH;replace HI:=(HB.out.cell (LA w _ HI)).trans HI;replace HJ:=(HB.out.cell (LA w _ HJ)).trans HJ;replace HM:=(HB.out.cell (LA w _ HM)).trans HM;replace KH:=eq_true KH;replace KI:=eq_true KI
   go_upto_if 36 with(first|((with_reducible refine ax (N:=12) rfl ?_);refine bA 12 65 #[.int .i64 0,.int .i64 0,.int .i64 0,.bool false] ?_;intro fW hg w8 eo hb;replace cq:=Ah (Kd.eO (Kd.gD (rr cq.out) fW (aaj hg.symm)) hb);replace cT:=Ah (Kd.eO (Kd.gD (rr cT.out) fW (aaj hg.symm)) hb);have GW124:=gw hg (bs HB);have jS:=gw hg (bs HB);replace HB:=Ah (aK (bs HB) hb);clear hb hg;obtain⟨vI,wi,Ek,Hi⟩:=cA eo;obtain⟨wk,wj,El,Hj⟩:=cB eo))
   (try simp only[Act.put,Ok,bY,dl])
   go_cut [15] (fun v15 wc=>∃ (kq:Nat) (e9:Int),v15= .int .i64 e9∧U (dC.j1 kq a1 fK aJ (LS (a1+a2)) ((I l0 aU).f0) (LS (((I l0 aU).f0)+((I l0 aU).f1))) e9 l0 (l0.length:Int) aU ((I l0 aU).f0) ((I l0 aU).f1) ((I l0 aU).f2) ((I l0 aU).f3)=some (r1,r2))∧U (kq≤k1)∧U (Kd.R b7 65 wc w.heap.size (fun k_=>some k_≠(u9:Value).ownBlock∧k_≠fW) u8 fK)∧U (Kd.R b7 65 wc w.heap.size (fun k_=>some k_≠(u8:Value).ownBlock∧k_≠fW) u9 aJ)∧U (wc.heap[fW]?=some (.cells #[.int .i64 ((I l0 aU).f0),.int .i64 ((I l0 aU).f1),.int .i64 ((I l0 aU).f2),.bool ((I l0 aU).f3)] 65 (0,0)))∧U (Below w.heap.size w wc))
   case first=>
    have H:=Di.out;clear Di
    by_cases c10:((I l0 aU).f0)<a1
    ·
     rw[if_pos c10]at H;have nZ:decide (((I l0 aU).f0)<a1)=true:=decide_eq_true c10;clear c10;(first|rw[nZ]|(simp only[cz,dS];rw[nZ])|(simp only[c10b2,aaz,aaC])|skip);have H':=Ah H;clear H
     go_wp2
     go_meet
     case rel=>exact⟨_,(a1),e3,H',⟨by have:=bU.out;first|omega|exact bx _⟩,⟨by(with_reducible repeat(first|apply Kd.bG|apply Kd.bE|apply Kd.al));exact Kd.aY (Kd.aQ (p:=⟨fW,3,none⟩) (Kd.aQ (p:=⟨fW,2,none⟩) (Kd.aQ (p:=⟨fW,1,none⟩) (Kd.aQ (p:=⟨fW,0,none⟩) (Kd.aY cq.out (fun k_ hk=>(⟨hk,hk.2⟩:_∧k_≠fW))) (fun _ hk=>hk.2) (.int .i64 ((I l0 aU).f0))) (fun _ hk=>hk.2) (.int .i64 ((I l0 aU).f1))) (fun _ hk=>hk.2) (.int .i64 ((I l0 aU).f2))) (fun _ hk=>hk.2) (.bool ((I l0 aU).f3))) (fun _ hk=>⟨hk.1.1,hk.1.2⟩)⟩,⟨by(with_reducible repeat(first|apply Kd.bG|apply Kd.bE|apply Kd.al));exact Kd.aY (Kd.aQ (p:=⟨fW,3,none⟩) (Kd.aQ (p:=⟨fW,2,none⟩) (Kd.aQ (p:=⟨fW,1,none⟩) (Kd.aQ (p:=⟨fW,0,none⟩) (Kd.aY cT.out (fun k_ hk=>(⟨hk,hk.2⟩:_∧k_≠fW))) (fun _ hk=>hk.2) (.int .i64 ((I l0 aU).f0))) (fun _ hk=>hk.2) (.int .i64 ((I l0 aU).f1))) (fun _ hk=>hk.2) (.int .i64 ((I l0 aU).f2))) (fun _ hk=>hk.2) (.bool ((I l0 aU).f3))) (fun _ hk=>⟨hk.1.1,hk.1.2⟩)⟩,⟨by(with_reducible repeat(first|refine aD ?_ _|refine Z ?_|refine aC ?_ _));refine aj (cs:= #[.int .i64 ((I l0 aU).f0),.int .i64 ((I l0 aU).f1),.int .i64 ((I l0 aU).f2),.bool false]) ?_ 3 _ rfl;(with_reducible repeat(first|refine aD ?_ _|refine Z ?_|refine aC ?_ _));refine aj (cs:= #[.int .i64 ((I l0 aU).f0),.int .i64 ((I l0 aU).f1),.int .i64 0,.bool false]) ?_ 2 _ rfl;(with_reducible repeat(first|refine aD ?_ _|refine Z ?_|refine aC ?_ _));refine aj (cs:= #[.int .i64 ((I l0 aU).f0),.int .i64 0,.int .i64 0,.bool false]) ?_ 1 _ rfl;(with_reducible repeat(first|refine aD ?_ _|refine Z ?_|refine aC ?_ _));refine aj (cs:= #[.int .i64 0,.int .i64 0,.int .i64 0,.bool false]) ?_ 0 _ rfl;(with_reducible repeat(first|refine aD ?_ _|refine Z ?_|refine aC ?_ _));exact eo.out⟩,⟨aH HB jS⟩⟩
    rw[if_neg c10]at H;have nZ:decide (((I l0 aU).f0)<a1)=false:=decide_eq_false c10;clear c10;(first|rw[nZ]|(simp only[cz,dS];rw[nZ])|(simp only[c10b2,aaz,aaC])|skip);have H':=Ah H;clear H
    go_wp2
    go_meet
    case rel=>exact⟨_,((I l0 aU).f0),e3,H',⟨by have:=bU.out;first|omega|exact bx _⟩,⟨by(with_reducible repeat(first|apply Kd.bG|apply Kd.bE|apply Kd.al));exact Kd.aY (Kd.aQ (p:=⟨fW,3,none⟩) (Kd.aQ (p:=⟨fW,2,none⟩) (Kd.aQ (p:=⟨fW,1,none⟩) (Kd.aQ (p:=⟨fW,0,none⟩) (Kd.aY cq.out (fun k_ hk=>(⟨hk,hk.2⟩:_∧k_≠fW))) (fun _ hk=>hk.2) (.int .i64 ((I l0 aU).f0))) (fun _ hk=>hk.2) (.int .i64 ((I l0 aU).f1))) (fun _ hk=>hk.2) (.int .i64 ((I l0 aU).f2))) (fun _ hk=>hk.2) (.bool ((I l0 aU).f3))) (fun _ hk=>⟨hk.1.1,hk.1.2⟩)⟩,⟨by(with_reducible repeat(first|apply Kd.bG|apply Kd.bE|apply Kd.al));exact Kd.aY (Kd.aQ (p:=⟨fW,3,none⟩) (Kd.aQ (p:=⟨fW,2,none⟩) (Kd.aQ (p:=⟨fW,1,none⟩) (Kd.aQ (p:=⟨fW,0,none⟩) (Kd.aY cT.out (fun k_ hk=>(⟨hk,hk.2⟩:_∧k_≠fW))) (fun _ hk=>hk.2) (.int .i64 ((I l0 aU).f0))) (fun _ hk=>hk.2) (.int .i64 ((I l0 aU).f1))) (fun _ hk=>hk.2) (.int .i64 ((I l0 aU).f2))) (fun _ hk=>hk.2) (.bool ((I l0 aU).f3))) (fun _ hk=>⟨hk.1.1,hk.1.2⟩)⟩,⟨by(with_reducible repeat(first|refine aD ?_ _|refine Z ?_|refine aC ?_ _));refine aj (cs:= #[.int .i64 ((I l0 aU).f0),.int .i64 ((I l0 aU).f1),.int .i64 ((I l0 aU).f2),.bool false]) ?_ 3 _ rfl;(with_reducible repeat(first|refine aD ?_ _|refine Z ?_|refine aC ?_ _));refine aj (cs:= #[.int .i64 ((I l0 aU).f0),.int .i64 ((I l0 aU).f1),.int .i64 0,.bool false]) ?_ 2 _ rfl;(with_reducible repeat(first|refine aD ?_ _|refine Z ?_|refine aC ?_ _));refine aj (cs:= #[.int .i64 ((I l0 aU).f0),.int .i64 0,.int .i64 0,.bool false]) ?_ 1 _ rfl;(with_reducible repeat(first|refine aD ?_ _|refine Z ?_|refine aC ?_ _));refine aj (cs:= #[.int .i64 0,.int .i64 0,.int .i64 0,.bool false]) ?_ 0 _ rfl;(with_reducible repeat(first|refine aD ?_ _|refine Z ?_|refine aC ?_ _));exact eo.out⟩,⟨aH HB jS⟩⟩
   case rest=>
    clear Di
    try clear c1
    try clear p1
    try clear q1
    try clear hx1
    try clear c2
    try clear p2
    try clear c4
    try clear jb
    try clear c5
    try clear oP
    try clear c6
    try clear rM
    try clear p6
    try clear c10
    try clear nZ
    try clear vI wi Ek Hi
    try clear wk wj El Hj
    try clear HH
    try clear HI
    try clear HJ
    try clear HM
    try clear KH
    try clear p2
    try clear KI
    obtain⟨kq,e9,rfl,HA,fx,cq,cT,eo,HB⟩:=hcut
    cases kq with
    |zero=>exact absurd HA.out (by simp[dC.j1])
    |succ AI=>
     have H:=HA.out;clear HA;simp only[dC.j1]at H;have Uz:=Ah H;clear H
     go_upto_if 41 with(fail)
     go_cut [16] (fun v16 wc=>∃ (kq:Nat) (dv:Int),v16= .int .i64 dv∧U (dC.j2 kq a1 fK aJ (LS (a1+a2)) ((I l0 aU).f0) (LS (((I l0 aU).f0)+((I l0 aU).f1))) e9 dv l0 (l0.length:Int) aU ((I l0 aU).f0) ((I l0 aU).f1) ((I l0 aU).f2) ((I l0 aU).f3)=some (r1,r2))∧U (kq≤AI)∧U (Kd.R b7 65 wc w.heap.size (fun k_=>some k_≠(u9:Value).ownBlock∧k_≠fW) u8 fK)∧U (Kd.R b7 65 wc w.heap.size (fun k_=>some k_≠(u8:Value).ownBlock∧k_≠fW) u9 aJ)∧U (wc.heap[fW]?=some (.cells #[.int .i64 ((I l0 aU).f0),.int .i64 ((I l0 aU).f1),.int .i64 ((I l0 aU).f2),.bool ((I l0 aU).f3)] 65 (0,0)))∧U (Below w.heap.size w wc))
     case first=>
      have H:=Uz.out;clear Uz
      by_cases c12:(LS (((I l0 aU).f0)+((I l0 aU).f1)))>(LS (a1+a2))
      ·
       rw[if_pos c12]at H;have jR:decide ((LS (a1+a2))<(LS (((I l0 aU).f0)+((I l0 aU).f1))))=true:=decide_eq_true c12;clear c12;(first|rw[jR]|(simp only[cz,dS];rw[jR])|(simp only[TF,aaz,aaC])|skip);have H':=Ah H;clear H
       go_wp2
       go_meet
       case rel=>exact⟨_,((LS (a1+a2))),e3,H',⟨by have:=bU.out;have:=fx.out;first|omega|exact bx _⟩,⟨rr cq.out⟩,⟨rr cT.out⟩,⟨bk eo⟩,⟨aH HB jS⟩⟩
      rw[if_neg c12]at H;have jR:decide ((LS (a1+a2))<(LS (((I l0 aU).f0)+((I l0 aU).f1))))=false:=decide_eq_false c12;clear c12;(first|rw[jR]|(simp only[cz,dS];rw[jR])|(simp only[TF,aaz,aaC])|skip);have H':=Ah H;clear H
      go_wp2
      go_meet
      case rel=>exact⟨_,((LS (((I l0 aU).f0)+((I l0 aU).f1)))),e3,H',⟨by have:=bU.out;have:=fx.out;first|omega|exact bx _⟩,⟨rr cq.out⟩,⟨rr cT.out⟩,⟨bk eo⟩,⟨aH HB jS⟩⟩
     case rest=>
      clear Uz
      try clear c1
      try clear p1
      try clear q1
      try clear hx1
      try clear c2
      try clear p2
      try clear c4
      try clear jb
      try clear c5
      try clear oP
      try clear c6
      try clear rM
      try clear p6
      try clear c10
      try clear nZ
      try clear c12
      try clear jR
      try clear PW
      try clear PX
      try clear hx12
      try clear vI wi Ek Hi
      try clear wk wj El Hj
      try clear HH
      try clear HI
      try clear HJ
      try clear HM
      try clear p1
      try clear KH
      try clear p2
      try clear p6
      try clear q1
      try clear KI
      obtain⟨kq,dv,rfl,HA,vY,cq,cT,eo,HB⟩:=hcut
      cases kq with
      |zero=>exact absurd HA.out (by simp[dC.j2])
      |succ px=>
       have H:=HA.out;clear HA;simp only[dC.j2]at H
       by_cases c13:e9≥dv
       ·
        rw[if_pos c13]at H;have ww:decide (dv≤e9)=true:=decide_eq_true c13;clear c13
        by_cases c14:fK.length<4398046511104
        rotate_left
        ·
         rw[if_neg c14]at H;exact absurd H (by simp)
        rw[if_pos c14]at H;have IE:=Ah c14;clear c14;obtain⟨a4U,IX⟩:∃y_:List (a7),y_=(fK++[(⟨((I l0 aU).f0),((I l0 aU).f1),((I l0 aU).f2),((I l0 aU).f3)⟩:a7)]):=⟨_,rfl⟩
        replace H:(dC.l0 px a1 a4U aJ (LS (a1+a2)) l0 (l0.length:Int) (LS (aU+1)))=some (r1,r2):=by first|(rw[IX];with_reducible exact H)|(have aX:=(Mq _ _).symm.trans H;rw[IX];with_reducible exact aX)|(have aX:=(Mq _ _).symm.trans H;with_reducible exact aX)|with_reducible exact H|(rw[IX];exact H)|exact H
        have Ny125:=Ah IX;clear IX;have H':=Ah H;clear H;obtain⟨wU,Au,Av,Aw⟩:=cA eo;obtain⟨wV,Ax,Ay,Az⟩:=cB eo
        go_wp2_with (first|((with_reducible refine eS (b:= .append) (xs:= #[.tmp 46,.tmp 48]) rfl ?_);at_builtin;refine Kd.gX b7 (w0:=w) w.heap.size rfl (.tmp 46) (.tmp 48) 23 65 (.agg #[(.int .i64 0),(.int .i64 0),(.int .i64 0),(.bool false)]) 32 rfl aac gF rfl (by decide) (by omega) u8 fK (⟨((I l0 aU).f0),((I l0 aU).f1),((I l0 aU).f2),((I l0 aU).f3)⟩:a7) [.int .i64 ((I l0 aU).f0),.int .i64 ((I l0 aU).f1),.int .i64 ((I l0 aU).f2),.bool ((I l0 aU).f3)] (fun k_=>some k_≠(u9:Value).ownBlock∧k_≠fW) (fun _=>False) rfl rfl ?aP (fun _ hk=>hk.elim) ?aF ?aO ?aB ?aS ?aL ?_;(case aP=>exact jp _ _ _ (⟨((I l0 aU).f0),((I l0 aU).f1),((I l0 aU).f2),((I l0 aU).f3)⟩:a7));(case aB=>exact(aH HB jS));(case aF=>exact(fun k_ hk=>⟨Kd.fresh' (Kd.dU (rr cT.out)) k_ hk,Kd.gE (bk eo) k_ hk⟩));(case aO=>exact(rr cq.out));(case aS=>exact(be (aH HB jS)));(case aL=>have:=IE.out;omega);intro v126 w16 ho hb hg hat;rw[←Ny125.out]at ho;replace cT:=Ah (Kd.jI (ok:=(fun k_=>k_≠fW)) (by(with_reducible repeat(first|apply Kd.bG|apply Kd.bE|apply Kd.al));exact Kd.aY cT.out (fun _ hk=>⟨hk.2,hk.1⟩)) hg hat);replace eo:=Ah (cX (bk eo) hg (Kd.bF cq.out (fun _ hk=>hk.2)));replace HB:=Ah (hb);have HO127:=Ah (ho);clear cq;clear ho hb hg hat))
        go_roundg px
        case measure=>have:=bU.out;have:=fx.out;have:=vY.out;omega
        case rel=>exact⟨(a4U),(aJ),(LS (aU+1)),e3,H',⟨by have:=bU.out;have:=fx.out;have:=vY.out;omega⟩,rm HO127 (fun _ hk=>hk.1),rm cT (fun _ hk=>hk.2),⟨aH HB jS⟩⟩
       rw[if_neg c13]at H;have ww:decide (dv≤e9)=false:=decide_eq_false c13;clear c13
       by_cases c17:((I l0 aU).f0)<e9
       rotate_left
       ·
        rw[if_neg c17]at H;have Nd:decide (((I l0 aU).f0)<e9)=false:=decide_eq_false c17;clear c17
        by_cases c32:aJ.length<4398046511104
        rotate_left
        ·
         rw[if_neg c32]at H;exact absurd H (by simp)
        rw[if_pos c32]at H;have NK:=Ah c32;clear c32;obtain⟨zt,IY⟩:∃y_:List (a7),y_=(aJ++[(⟨e9,LS (dv-e9),LS ((LS (((I l0 aU).f2)+e9))-((I l0 aU).f0)),((I l0 aU).f3)⟩:a7)]):=⟨_,rfl⟩
        replace H:(if dv<(LS (((I l0 aU).f0)+((I l0 aU).f1)))then(if fK.length<4398046511104 then(dC.l0 px a1 (fK++[(⟨dv,LS ((LS (((I l0 aU).f0)+((I l0 aU).f1)))-dv),LS ((LS (((I l0 aU).f2)+dv))-((I l0 aU).f0)),((I l0 aU).f3)⟩:a7)]) zt (LS (a1+a2)) l0 (l0.length:Int) (LS (aU+1)))else(none))else(dC.l0 px a1 fK zt (LS (a1+a2)) l0 (l0.length:Int) (LS (aU+1))))=some (r1,r2):=by first|(rw[IY];with_reducible exact H)|(have aX:=(Mq _ _).symm.trans H;rw[IY];with_reducible exact aX)|(have aX:=(Mq _ _).symm.trans H;with_reducible exact aX)|with_reducible exact H|(rw[IY];exact H)|exact H
        have a13:=Ah IY;clear IY
        by_cases jd:dv<(LS (((I l0 aU).f0)+((I l0 aU).f1)))
        rotate_left
        ·
         rw[if_neg jd]at H;have TD:decide (dv<(LS (((I l0 aU).f0)+((I l0 aU).f1))))=false:=decide_eq_false jd;clear jd;have H':=Ah H;clear H;obtain⟨hcz39_0,hcz39_1,hcz39_2,hcz39_3⟩:=cA eo;obtain⟨hfz39_0,hfz39_1,hfz39_2,hfz39_3⟩:=cB eo
         go_wp2_with (first|((with_reducible refine eS (b:= .append) (xs:= #[.tmp 65,.tmp 79]) rfl ?_);at_builtin;refine Kd.gX b7 (w0:=w) w.heap.size rfl (.tmp 65) (.tmp 79) 23 65 (.agg #[(.int .i64 0),(.int .i64 0),(.int .i64 0),(.bool false)]) 32 rfl aac gF rfl (by decide) (by omega) u9 aJ (⟨e9,LS (dv-e9),LS ((LS (((I l0 aU).f2)+e9))-((I l0 aU).f0)),((I l0 aU).f3)⟩:a7) [.int .i64 e9,.int .i64 (LS (dv-e9)),.int .i64 (LS ((LS (((I l0 aU).f2)+e9))-((I l0 aU).f0))),.bool ((I l0 aU).f3)] (fun k_=>some k_≠(u8:Value).ownBlock∧k_≠fW) (fun _=>False) rfl rfl ?aP (fun _ hk=>hk.elim) ?aF ?aO ?aB ?aS ?aL ?_;(case aP=>exact jp _ _ _ (⟨e9,LS (dv-e9),LS ((LS (((I l0 aU).f2)+e9))-((I l0 aU).f0)),((I l0 aU).f3)⟩:a7));(case aB=>exact(aH HB jS));(case aF=>exact(fun k_ hk=>⟨Kd.fresh' (Kd.dU (rr cq.out)) k_ hk,Kd.gE (bk eo) k_ hk⟩));(case aO=>exact(rr cT.out));(case aS=>exact(be (aH HB jS)));(case aL=>have:=NK.out;omega);intro v138 PS ho hb hg hat;rw[←a13.out]at ho;replace cq:=Ah (Kd.jI (ok:=(fun k_=>k_≠fW)) (by(with_reducible repeat(first|apply Kd.bG|apply Kd.bE|apply Kd.al));exact Kd.aY cq.out (fun _ hk=>⟨hk.2,hk.1⟩)) hg hat);replace eo:=Ah (cX (bk eo) hg (Kd.bF cT.out (fun _ hk=>hk.2)));replace HB:=Ah (hb);have FB:=Ah (ho);clear cT;clear ho hb hg hat))
         go_roundg px
         case measure=>have:=bU.out;have:=fx.out;have:=vY.out;omega
         case rel=>exact⟨(fK),(zt),(LS (aU+1)),e3,H',⟨by have:=bU.out;have:=fx.out;have:=vY.out;omega⟩,rm cq (fun _ hk=>hk.2),rm FB (fun _ hk=>hk.1),⟨aH HB jS⟩⟩
        rw[if_pos jd]at H;have TD:decide (dv<(LS (((I l0 aU).f0)+((I l0 aU).f1))))=true:=decide_eq_true jd;clear jd
        by_cases c34:fK.length<4398046511104
        rotate_left
        ·
         rw[if_neg c34]at H;exact absurd H (by simp)
        rw[if_pos c34]at H;have TG:=Ah c34;clear c34;obtain⟨a4V,IZ⟩:∃y_:List (a7),y_=(fK++[(⟨dv,LS ((LS (((I l0 aU).f0)+((I l0 aU).f1)))-dv),LS ((LS (((I l0 aU).f2)+dv))-((I l0 aU).f0)),((I l0 aU).f3)⟩:a7)]):=⟨_,rfl⟩
        replace H:(dC.l0 px a1 a4V zt (LS (a1+a2)) l0 (l0.length:Int) (LS (aU+1)))=some (r1,r2):=by first|(rw[IZ];with_reducible exact H)|(have aX:=(Mq _ _).symm.trans H;rw[IZ];with_reducible exact aX)|(have aX:=(Mq _ _).symm.trans H;with_reducible exact aX)|with_reducible exact H|(rw[IZ];exact H)|exact H
        have Ny140:=Ah IZ;clear IZ;have H':=Ah H;clear H;obtain⟨R2,hcz35_1,hcz35_2,hcz35_3⟩:=cA eo;obtain⟨R3,hfz35_1,hfz35_2,hfz35_3⟩:=cB eo
        go_wp2_with (first|((with_reducible refine eS (b:= .append) (xs:= #[.tmp 65,.tmp 79]) rfl ?_);at_builtin;refine Kd.gX b7 (w0:=w) w.heap.size rfl (.tmp 65) (.tmp 79) 23 65 (.agg #[(.int .i64 0),(.int .i64 0),(.int .i64 0),(.bool false)]) 32 rfl aac gF rfl (by decide) (by omega) u9 aJ (⟨e9,LS (dv-e9),LS ((LS (((I l0 aU).f2)+e9))-((I l0 aU).f0)),((I l0 aU).f3)⟩:a7) [.int .i64 e9,.int .i64 (LS (dv-e9)),.int .i64 (LS ((LS (((I l0 aU).f2)+e9))-((I l0 aU).f0))),.bool ((I l0 aU).f3)] (fun k_=>some k_≠(u8:Value).ownBlock∧k_≠fW) (fun _=>False) rfl rfl ?aP (fun _ hk=>hk.elim) ?aF ?aO ?aB ?aS ?aL ?_;(case aP=>exact jp _ _ _ (⟨e9,LS (dv-e9),LS ((LS (((I l0 aU).f2)+e9))-((I l0 aU).f0)),((I l0 aU).f3)⟩:a7));(case aB=>exact(aH HB jS));(case aF=>exact(fun k_ hk=>⟨Kd.fresh' (Kd.dU (rr cq.out)) k_ hk,Kd.gE (bk eo) k_ hk⟩));(case aO=>exact(rr cT.out));(case aS=>exact(be (aH HB jS)));(case aL=>have:=NK.out;omega);intro v138 Wr ho hb hg hat;rw[←a13.out]at ho;replace cq:=Ah (Kd.jI (ok:=(fun k_=>k_≠fW)) (by(with_reducible repeat(first|apply Kd.bG|apply Kd.bE|apply Kd.al));exact Kd.aY cq.out (fun _ hk=>⟨hk.2,hk.1⟩)) hg hat);replace eo:=Ah (cX (bk eo) hg (Kd.bF cT.out (fun _ hk=>hk.2)));replace HB:=Ah (hb);have FB:=Ah (ho);clear cT;clear ho hb hg hat;obtain⟨EM,Z6,Z7,Z8⟩:=cA eo;obtain⟨EN,Z9,ZA,ZB⟩:=cB eo)|((with_reducible refine eS (b:= .append) (xs:= #[.tmp 84,.tmp 98]) rfl ?_);at_builtin;refine Kd.gX b7 (w0:=w) w.heap.size rfl (.tmp 84) (.tmp 98) 23 65 (.agg #[(.int .i64 0),(.int .i64 0),(.int .i64 0),(.bool false)]) 32 rfl aac gF rfl (by decide) (by omega) u8 fK (⟨dv,LS ((LS (((I l0 aU).f0)+((I l0 aU).f1)))-dv),LS ((LS (((I l0 aU).f2)+dv))-((I l0 aU).f0)),((I l0 aU).f3)⟩:a7) [.int .i64 dv,.int .i64 (LS ((LS (((I l0 aU).f0)+((I l0 aU).f1)))-dv)),.int .i64 (LS ((LS (((I l0 aU).f2)+dv))-((I l0 aU).f0))),.bool ((I l0 aU).f3)] (fun k_=>some k_≠(v138:Value).ownBlock∧k_≠fW) (fun _=>False) rfl rfl ?aP (fun _ hk=>hk.elim) ?aF ?aO ?aB ?aS ?aL ?_;(case aP=>exact jp _ _ _ (⟨dv,LS ((LS (((I l0 aU).f0)+((I l0 aU).f1)))-dv),LS ((LS (((I l0 aU).f2)+dv))-((I l0 aU).f0)),((I l0 aU).f3)⟩:a7));(case aB=>exact(aH HB jS));(case aF=>exact(fun k_ hk=>⟨Kd.fresh' (Kd.dU (rr FB.out)) k_ hk,Kd.gE (bk eo) k_ hk⟩));(case aO=>exact(by(with_reducible repeat(first|apply Kd.bG|apply Kd.bE|apply Kd.al));exact Kd.aY cq.out (fun _ hk=>⟨hk.2,hk.1⟩)));(case aS=>exact(be (aH HB jS)));(case aL=>have:=TG.out;omega);intro v141 PR ho hb hg hat;rw[←Ny140.out]at ho;replace eo:=Ah (cX (bk eo) hg (Kd.bF cq.out (fun _ hk=>hk.1)));replace FB:=Ah (Kd.jI (ok:=(fun k_=>k_≠fW)) (by(with_reducible repeat(first|apply Kd.bG|apply Kd.bE|apply Kd.al));exact Kd.aY FB.out (fun _ hk=>⟨hk.2,hk.1⟩)) hg hat);replace HB:=Ah (hb);have HO142:=Ah (ho);clear cq;clear ho hb hg hat))
        go_roundg px
        case measure=>have:=bU.out;have:=fx.out;have:=vY.out;omega
        case rel=>exact⟨(a4V),(zt),(LS (aU+1)),e3,H',⟨by have:=bU.out;have:=fx.out;have:=vY.out;omega⟩,rm HO142 (fun _ hk=>hk.1),rm FB (fun _ hk=>hk.2),⟨aH HB jS⟩⟩
       rw[if_pos c17]at H;have Nd:decide (((I l0 aU).f0)<e9)=true:=decide_eq_true c17;clear c17
       by_cases c18:fK.length<4398046511104
       rotate_left
       ·
        rw[if_neg c18]at H;exact absurd H (by simp)
       rw[if_pos c18]at H;have Ng:=Ah c18;clear c18;obtain⟨pw,hy128⟩:∃y_:List (a7),y_=(fK++[(⟨((I l0 aU).f0),LS (e9-((I l0 aU).f0)),((I l0 aU).f2),((I l0 aU).f3)⟩:a7)]):=⟨_,rfl⟩
       replace H:(if aJ.length<4398046511104 then((some (aJ++[(⟨e9,LS (dv-e9),LS ((LS (((I l0 aU).f2)+e9))-((I l0 aU).f0)),((I l0 aU).f3)⟩:a7)]:List (a7))).bind fun uC=>(if dv<(LS (((I l0 aU).f0)+((I l0 aU).f1)))then(if pw.length<4398046511104 then(dC.l0 px a1 (pw++[(⟨dv,LS ((LS (((I l0 aU).f0)+((I l0 aU).f1)))-dv),LS ((LS (((I l0 aU).f2)+dv))-((I l0 aU).f0)),((I l0 aU).f3)⟩:a7)]) uC (LS (a1+a2)) l0 (l0.length:Int) (LS (aU+1)))else(none))else(dC.l0 px a1 pw uC (LS (a1+a2)) l0 (l0.length:Int) (LS (aU+1)))))else(none))=some (r1,r2):=by first|(rw[hy128];with_reducible exact H)|(have aX:=(Mq _ _).symm.trans H;rw[hy128];with_reducible exact aX)|(have aX:=(Mq _ _).symm.trans H;with_reducible exact aX)|with_reducible exact H|(rw[hy128];exact H)|exact H
       have a14:=Ah hy128;clear hy128
       by_cases c19:aJ.length<4398046511104
       rotate_left
       ·
        rw[if_neg c19]at H;exact absurd H (by simp)
       rw[if_pos c19]at H;have Nh:=Ah c19;clear c19;obtain⟨uC,Ia⟩:∃y_:List (a7),y_=(aJ++[(⟨e9,LS (dv-e9),LS ((LS (((I l0 aU).f2)+e9))-((I l0 aU).f0)),((I l0 aU).f3)⟩:a7)]):=⟨_,rfl⟩
       replace H:(if dv<(LS (((I l0 aU).f0)+((I l0 aU).f1)))then(if pw.length<4398046511104 then(dC.l0 px a1 (pw++[(⟨dv,LS ((LS (((I l0 aU).f0)+((I l0 aU).f1)))-dv),LS ((LS (((I l0 aU).f2)+dv))-((I l0 aU).f0)),((I l0 aU).f3)⟩:a7)]) uC (LS (a1+a2)) l0 (l0.length:Int) (LS (aU+1)))else(none))else(dC.l0 px a1 pw uC (LS (a1+a2)) l0 (l0.length:Int) (LS (aU+1))))=some (r1,r2):=by first|(rw[Ia];with_reducible exact H)|(have aX:=(Mq _ _).symm.trans H;rw[Ia];with_reducible exact aX)|(have aX:=(Mq _ _).symm.trans H;with_reducible exact aX)|with_reducible exact H|(rw[Ia];exact H)|exact H
       have a15:=Ah Ia;clear Ia
       by_cases c20:dv<(LS (((I l0 aU).f0)+((I l0 aU).f1)))
       rotate_left
       ·
        rw[if_neg c20]at H;have Nl:decide (dv<(LS (((I l0 aU).f0)+((I l0 aU).f1))))=false:=decide_eq_false c20;clear c20;have H':=Ah H;clear H;obtain⟨RW,hcz28_1,hcz28_2,hcz28_3⟩:=cA eo;obtain⟨RX,hfz28_1,hfz28_2,hfz28_3⟩:=cB eo
        go_wp2_with (first|((with_reducible refine eS (b:= .append) (xs:= #[.tmp 53,.tmp 63]) rfl ?_);at_builtin;refine Kd.gX b7 (w0:=w) w.heap.size rfl (.tmp 53) (.tmp 63) 23 65 (.agg #[(.int .i64 0),(.int .i64 0),(.int .i64 0),(.bool false)]) 32 rfl aac gF rfl (by decide) (by omega) u8 fK (⟨((I l0 aU).f0),LS (e9-((I l0 aU).f0)),((I l0 aU).f2),((I l0 aU).f3)⟩:a7) [.int .i64 ((I l0 aU).f0),.int .i64 (LS (e9-((I l0 aU).f0))),.int .i64 ((I l0 aU).f2),.bool ((I l0 aU).f3)] (fun k_=>some k_≠(u9:Value).ownBlock∧k_≠fW) (fun _=>False) rfl rfl ?aP (fun _ hk=>hk.elim) ?aF ?aO ?aB ?aS ?aL ?_;(case aP=>exact jp _ _ _ (⟨((I l0 aU).f0),LS (e9-((I l0 aU).f0)),((I l0 aU).f2),((I l0 aU).f3)⟩:a7));(case aB=>exact(aH HB jS));(case aF=>exact(fun k_ hk=>⟨Kd.fresh' (Kd.dU (rr cT.out)) k_ hk,Kd.gE (bk eo) k_ hk⟩));(case aO=>exact(rr cq.out));(case aS=>exact(be (aH HB jS)));(case aL=>have:=Ng.out;omega);intro Oq LJ ho hb hg hat;rw[←a14.out]at ho;replace cT:=Ah (Kd.jI (ok:=(fun k_=>k_≠fW)) (by(with_reducible repeat(first|apply Kd.bG|apply Kd.bE|apply Kd.al));exact Kd.aY cT.out (fun _ hk=>⟨hk.2,hk.1⟩)) hg hat);replace eo:=Ah (cX (bk eo) hg (Kd.bF cq.out (fun _ hk=>hk.2)));replace HB:=Ah (hb);have tb:=Ah (ho);clear cq;clear ho hb hg hat;obtain⟨o6,hcz30_1,hcz30_2,hcz30_3⟩:=cA eo;obtain⟨o7,hfz30_1,hfz30_2,hfz30_3⟩:=cB eo)|((with_reducible refine eS (b:= .append) (xs:= #[.tmp 65,.tmp 79]) rfl ?_);at_builtin;refine Kd.gX b7 (w0:=w) w.heap.size rfl (.tmp 65) (.tmp 79) 23 65 (.agg #[(.int .i64 0),(.int .i64 0),(.int .i64 0),(.bool false)]) 32 rfl aac gF rfl (by decide) (by omega) u9 aJ (⟨e9,LS (dv-e9),LS ((LS (((I l0 aU).f2)+e9))-((I l0 aU).f0)),((I l0 aU).f3)⟩:a7) [.int .i64 e9,.int .i64 (LS (dv-e9)),.int .i64 (LS ((LS (((I l0 aU).f2)+e9))-((I l0 aU).f0))),.bool ((I l0 aU).f3)] (fun k_=>some k_≠(Oq:Value).ownBlock∧k_≠fW) (fun _=>False) rfl rfl ?aP (fun _ hk=>hk.elim) ?aF ?aO ?aB ?aS ?aL ?_;(case aP=>exact jp _ _ _ (⟨e9,LS (dv-e9),LS ((LS (((I l0 aU).f2)+e9))-((I l0 aU).f0)),((I l0 aU).f3)⟩:a7));(case aB=>exact(aH HB jS));(case aF=>exact(fun k_ hk=>⟨Kd.fresh' (Kd.dU (rr tb.out)) k_ hk,Kd.gE (bk eo) k_ hk⟩));(case aO=>exact(by(with_reducible repeat(first|apply Kd.bG|apply Kd.bE|apply Kd.al));exact Kd.aY cT.out (fun _ hk=>⟨hk.2,hk.1⟩)));(case aS=>exact(be (aH HB jS)));(case aL=>have:=Nh.out;omega);intro OP Dv ho hb hg hat;rw[←a15.out]at ho;replace eo:=Ah (cX (bk eo) hg (Kd.bF cT.out (fun _ hk=>hk.1)));replace tb:=Ah (Kd.jI (ok:=(fun k_=>k_≠fW)) (by(with_reducible repeat(first|apply Kd.bG|apply Kd.bE|apply Kd.al));exact Kd.aY tb.out (fun _ hk=>⟨hk.2,hk.1⟩)) hg hat);replace HB:=Ah (hb);have FC:=Ah (ho);clear cT;clear ho hb hg hat))
        go_roundg px
        case measure=>have:=bU.out;have:=fx.out;have:=vY.out;omega
        case rel=>exact⟨(pw),(uC),(LS (aU+1)),e3,H',⟨by have:=bU.out;have:=fx.out;have:=vY.out;omega⟩,rm tb (fun _ hk=>hk.2),rm FC (fun _ hk=>hk.1),⟨aH HB jS⟩⟩
       rw[if_pos c20]at H;have Nl:decide (dv<(LS (((I l0 aU).f0)+((I l0 aU).f1))))=true:=decide_eq_true c20;clear c20
       by_cases c21:pw.length<4398046511104
       rotate_left
       ·
        rw[if_neg c21]at H;exact absurd H (by simp)
       rw[if_pos c21]at H;have TH:=Ah c21;clear c21;obtain⟨a4W,Ib⟩:∃y_:List (a7),y_=(pw++[(⟨dv,LS ((LS (((I l0 aU).f0)+((I l0 aU).f1)))-dv),LS ((LS (((I l0 aU).f2)+dv))-((I l0 aU).f0)),((I l0 aU).f3)⟩:a7)]):=⟨_,rfl⟩
       replace H:(dC.l0 px a1 a4W uC (LS (a1+a2)) l0 (l0.length:Int) (LS (aU+1)))=some (r1,r2):=by first|(rw[Ib];with_reducible exact H)|(have aX:=(Mq _ _).symm.trans H;rw[Ib];with_reducible exact aX)|(have aX:=(Mq _ _).symm.trans H;with_reducible exact aX)|with_reducible exact H|(rw[Ib];exact H)|exact H
       have Ny134:=Ah Ib;clear Ib;have H':=Ah H;clear H;obtain⟨hcz22_0,hcz22_1,hcz22_2,hcz22_3⟩:=cA eo;obtain⟨hfz22_0,hfz22_1,hfz22_2,hfz22_3⟩:=cB eo
       go_wp2_with (first|((with_reducible refine eS (b:= .append) (xs:= #[.tmp 53,.tmp 63]) rfl ?_);at_builtin;refine Kd.gX b7 (w0:=w) w.heap.size rfl (.tmp 53) (.tmp 63) 23 65 (.agg #[(.int .i64 0),(.int .i64 0),(.int .i64 0),(.bool false)]) 32 rfl aac gF rfl (by decide) (by omega) u8 fK (⟨((I l0 aU).f0),LS (e9-((I l0 aU).f0)),((I l0 aU).f2),((I l0 aU).f3)⟩:a7) [.int .i64 ((I l0 aU).f0),.int .i64 (LS (e9-((I l0 aU).f0))),.int .i64 ((I l0 aU).f2),.bool ((I l0 aU).f3)] (fun k_=>some k_≠(u9:Value).ownBlock∧k_≠fW) (fun _=>False) rfl rfl ?aP (fun _ hk=>hk.elim) ?aF ?aO ?aB ?aS ?aL ?_;(case aP=>exact jp _ _ _ (⟨((I l0 aU).f0),LS (e9-((I l0 aU).f0)),((I l0 aU).f2),((I l0 aU).f3)⟩:a7));(case aB=>exact(aH HB jS));(case aF=>exact(fun k_ hk=>⟨Kd.fresh' (Kd.dU (rr cT.out)) k_ hk,Kd.gE (bk eo) k_ hk⟩));(case aO=>exact(rr cq.out));(case aS=>exact(be (aH HB jS)));(case aL=>have:=Ng.out;omega);intro Oq re ho hb hg hat;rw[←a14.out]at ho;replace cT:=Ah (Kd.jI (ok:=(fun k_=>k_≠fW)) (by(with_reducible repeat(first|apply Kd.bG|apply Kd.bE|apply Kd.al));exact Kd.aY cT.out (fun _ hk=>⟨hk.2,hk.1⟩)) hg hat);replace eo:=Ah (cX (bk eo) hg (Kd.bF cq.out (fun _ hk=>hk.2)));replace HB:=Ah (hb);have tb:=Ah (ho);clear cq;clear ho hb hg hat;obtain⟨yj,hcz24_1,hcz24_2,hcz24_3⟩:=cA eo;obtain⟨yk,hfz24_1,hfz24_2,hfz24_3⟩:=cB eo)|((with_reducible refine eS (b:= .append) (xs:= #[.tmp 65,.tmp 79]) rfl ?_);at_builtin;refine Kd.gX b7 (w0:=w) w.heap.size rfl (.tmp 65) (.tmp 79) 23 65 (.agg #[(.int .i64 0),(.int .i64 0),(.int .i64 0),(.bool false)]) 32 rfl aac gF rfl (by decide) (by omega) u9 aJ (⟨e9,LS (dv-e9),LS ((LS (((I l0 aU).f2)+e9))-((I l0 aU).f0)),((I l0 aU).f3)⟩:a7) [.int .i64 e9,.int .i64 (LS (dv-e9)),.int .i64 (LS ((LS (((I l0 aU).f2)+e9))-((I l0 aU).f0))),.bool ((I l0 aU).f3)] (fun k_=>some k_≠(Oq:Value).ownBlock∧k_≠fW) (fun _=>False) rfl rfl ?aP (fun _ hk=>hk.elim) ?aF ?aO ?aB ?aS ?aL ?_;(case aP=>exact jp _ _ _ (⟨e9,LS (dv-e9),LS ((LS (((I l0 aU).f2)+e9))-((I l0 aU).f0)),((I l0 aU).f3)⟩:a7));(case aB=>exact(aH HB jS));(case aF=>exact(fun k_ hk=>⟨Kd.fresh' (Kd.dU (rr tb.out)) k_ hk,Kd.gE (bk eo) k_ hk⟩));(case aO=>exact(by(with_reducible repeat(first|apply Kd.bG|apply Kd.bE|apply Kd.al));exact Kd.aY cT.out (fun _ hk=>⟨hk.2,hk.1⟩)));(case aS=>exact(be (aH HB jS)));(case aL=>have:=Nh.out;omega);intro OP AM ho hb hg hat;rw[←a15.out]at ho;replace eo:=Ah (cX (bk eo) hg (Kd.bF cT.out (fun _ hk=>hk.1)));replace tb:=Ah (Kd.jI (ok:=(fun k_=>k_≠fW)) (by(with_reducible repeat(first|apply Kd.bG|apply Kd.bE|apply Kd.al));exact Kd.aY tb.out (fun _ hk=>⟨hk.2,hk.1⟩)) hg hat);replace HB:=Ah (hb);have FC:=Ah (ho);clear cT;clear ho hb hg hat;obtain⟨RY,ZM,ZN,hcz26_3⟩:=cA eo;obtain⟨RZ,ZO,ZP,hfz26_3⟩:=cB eo)|((with_reducible refine eS (b:= .append) (xs:= #[.tmp 84,.tmp 98]) rfl ?_);at_builtin;refine Kd.gX b7 (w0:=w) w.heap.size rfl (.tmp 84) (.tmp 98) 23 65 (.agg #[(.int .i64 0),(.int .i64 0),(.int .i64 0),(.bool false)]) 32 rfl aac gF rfl (by decide) (by omega) Oq pw (⟨dv,LS ((LS (((I l0 aU).f0)+((I l0 aU).f1)))-dv),LS ((LS (((I l0 aU).f2)+dv))-((I l0 aU).f0)),((I l0 aU).f3)⟩:a7) [.int .i64 dv,.int .i64 (LS ((LS (((I l0 aU).f0)+((I l0 aU).f1)))-dv)),.int .i64 (LS ((LS (((I l0 aU).f2)+dv))-((I l0 aU).f0))),.bool ((I l0 aU).f3)] (fun k_=>some k_≠(OP:Value).ownBlock∧k_≠fW) (fun _=>False) rfl rfl ?aP (fun _ hk=>hk.elim) ?aF ?aO ?aB ?aS ?aL ?_;(case aP=>exact jp _ _ _ (⟨dv,LS ((LS (((I l0 aU).f0)+((I l0 aU).f1)))-dv),LS ((LS (((I l0 aU).f2)+dv))-((I l0 aU).f0)),((I l0 aU).f3)⟩:a7));(case aB=>exact(aH HB jS));(case aF=>exact(fun k_ hk=>⟨Kd.fresh' (Kd.dU (rr FC.out)) k_ hk,Kd.gE (bk eo) k_ hk⟩));(case aO=>exact(by(with_reducible repeat(first|apply Kd.bG|apply Kd.bE|apply Kd.al));exact Kd.aY tb.out (fun _ hk=>⟨hk.2,hk.1⟩)));(case aS=>exact(be (aH HB jS)));(case aL=>have:=TH.out;omega);intro v135 xy ho hb hg hat;rw[←Ny134.out]at ho;replace eo:=Ah (cX (bk eo) hg (Kd.bF tb.out (fun _ hk=>hk.1)));replace FC:=Ah (Kd.jI (ok:=(fun k_=>k_≠fW)) (by(with_reducible repeat(first|apply Kd.bG|apply Kd.bE|apply Kd.al));exact Kd.aY FC.out (fun _ hk=>⟨hk.2,hk.1⟩)) hg hat);replace HB:=Ah (hb);have HO136:=Ah (ho);clear tb;clear ho hb hg hat))
       go_roundg px
       case measure=>have:=bU.out;have:=fx.out;have:=vY.out;omega
       case rel=>exact⟨(a4W),(uC),(LS (aU+1)),e3,H',⟨by have:=bU.out;have:=fx.out;have:=vY.out;omega⟩,rm HO136 (fun _ hk=>hk.1),rm FC (fun _ hk=>hk.2),⟨aH HB jS⟩⟩
mutual
def bl.l0:Nat→List (aT)→List (a7)→Int→Int→Option ((List (aT)))
 |0,_,_,_,_=>none
 |k+1,x3,dd,gU,dA=>if dA<gU then(if 0≤dA then(if dA<(dd.length:Int)then(bl.l1 k x3 0 dd gU dA ((I dd dA).f2) ((I dd dA).f1))else(none))else(none))else(bl.l2 k ([]:List (aT)) x3 (x3.length:Int) 0)
def bl.l1:Nat→List (aT)→Int→List (a7)→Int→Int→Int→Int→Option ((List (aT)))
 |0,_,_,_,_,_,_,_=>none
 |k+1,x3,x7,dd,gU,dA,MP,Ra=>if x7<(x3.length:Int)then(if 0≤x7 then(if((aE x3 x7).f0)<MP then(bl.l1 k x3 (LS (x7+1)) dd gU dA MP Ra)else(if x7≤(x3.length:Int)then((some (x3.take (x7:Int).toNat:List (aT))).bind fun np=>(if([]:List (aT)).length+np.length<8796093022208 then((some (([]:List (aT))++np:List (aT))).bind fun y151=>(if y151.length<8796093022208 then((some (y151++[(⟨MP,Ra⟩:aT)]:List (aT))).bind fun nq=>((some (x3.drop (x7:Int).toNat:List (aT))).bind fun y157=>(if nq.length+y157.length<8796093022208 then(bl.l0 k (nq++y157) dd gU (LS (dA+1)))else(none))))else(none)))else(none)))else(none)))else(none))else(if 0≤x7 then(if x7≤(x3.length:Int)then((some (x3.take (x7:Int).toNat:List (aT))).bind fun nt=>(if([]:List (aT)).length+nt.length<8796093022208 then((some (([]:List (aT))++nt:List (aT))).bind fun y168=>(if y168.length<8796093022208 then((some (y168++[(⟨MP,Ra⟩:aT)]:List (aT))).bind fun nu=>((some (x3.drop (x7:Int).toNat:List (aT))).bind fun jz=>(if nu.length+jz.length<8796093022208 then(bl.l0 k (nu++jz) dd gU (LS (dA+1)))else(none))))else(none)))else(none)))else(none))else(none))
def bl.l2:Nat→List (aT)→List (aT)→Int→Int→Option ((List (aT)))
 |0,_,_,_,_=>none
 |k+1,x9,x55,vl,mM=>if mM<vl then(if 0≤mM then(if mM<(x55.length:Int)then(if(LS ((x9.length:Int)-1))≥0 then(if 0≤(LS ((x9.length:Int)-1))then(if(LS ((x9.length:Int)-1))<(x9.length:Int)then(if(LS (((aE x9 (LS ((x9.length:Int)-1))).f0)+((aE x9 (LS ((x9.length:Int)-1))).f1)))=((aE x55 mM).f0)then(bl.l2 k (x9.set ((LS ((x9.length:Int)-1)):Int).toNat (⟨(aE x9 (LS ((x9.length:Int)-1))).f0,LS (((aE x9 (LS ((x9.length:Int)-1))).f1)+((aE x55 mM).f1))⟩:aT)) x55 vl (LS (mM+1)))else(if x9.length<8796093022208 then(bl.l2 k (x9++[(⟨(aE x55 mM).f0,(aE x55 mM).f1⟩:aT)]) x55 vl (LS (mM+1)))else(none)))else(none))else(none))else(if x9.length<8796093022208 then(bl.l2 k (x9++[(⟨(aE x55 mM).f0,(aE x55 mM).f1⟩:aT)]) x55 vl (LS (mM+1)))else(none)))else(none))else(none))else(some x9)
end
def bl.f(k:Nat)(l0:List (a7)):Option ((List (aT))):=bl.l0 k ([]:List (aT)) l0 (l0.length:Int) 0
theorem bl.dL:∀k,(∀y0 y1 y2 y3,aG (bl.l0 k y0 y1 y2 y3) (bl.l0 (k+1) y0 y1 y2 y3))∧(∀y0 y1 y2 y3 y4 y5 y6,aG (bl.l1 k y0 y1 y2 y3 y4 y5 y6) (bl.l1 (k+1) y0 y1 y2 y3 y4 y5 y6))∧(∀y0 y1 y2 y3,aG (bl.l2 k y0 y1 y2 y3) (bl.l2 (k+1) y0 y1 y2 y3))
 |0=>⟨fun _ _ _ _ r h=>by simp[bl.l0]at h,fun _ _ _ _ _ _ _ r h=>by simp[bl.l1]at h,fun _ _ _ _ r h=>by simp[bl.l2]at h⟩
 |k+1=>by
  obtain⟨bw,ih1,ih2⟩:=bl.dL k
  refine⟨?_, ?_, ?_⟩<;>intros<;>first|unfold bl.l0|unfold bl.l1|unfold bl.l2
  all_goals repeat' first
   |(with_reducible exact bw _ _ _ _)
   |(with_reducible exact ih1 _ _ _ _ _ _ _)
   |(with_reducible exact ih2 _ _ _ _)
   |(with_reducible exact aG.refl _)
   |(with_reducible exact aG.none _)
   |(with_reducible refine aG.ite ?_ ?_)
   |(with_reducible refine aG.bind ?_ (fun _=> ?_))
   |exact bw _ _ _ _
   |exact ih1 _ _ _ _ _ _ _
   |exact ih2 _ _ _ _
   |exact aG.none _
   |refine aG.ite ?_ ?_
   |refine aG.bind ?_ (fun _=> ?_)
theorem bl.mono:∀a0 k,aG (bl.f k a0) (bl.f (k+1) a0):=by
 intro a0 k;obtain⟨bw,ih1,ih2⟩:=bl.dL k;unfold bl.f
 repeat' with_reducible first|exact bw _ _ _ _|exact ih1 _ _ _ _ _ _ _|exact ih2 _ _ _ _|exact aG.refl _|exact aG.none _|refine aG.ite ?_ ?_|refine aG.bind ?_ (fun _=> ?_)
def bl.T7:Bool×List (List Nat×List Nat):=(true,[([],[]),([],[]),([1],[1]),([0,2],[0,2]),([3],[3]),([4],[4]),([4],[4]),([5,6,4],[4,5,6]),([7,4],[4,7]),([8,4],[4,8]),([4],[4]),([10,4],[4,10]),([9,11,4],[4,9,11]),([4,12],[4,12])])
def bl.B7:List Nat:=[0,0,2,7,15,31,31,127,255,511,31,1055,4095,8191]
theorem bl.Cq:gH .any (nY Try.f29 7)=bl.T7:=by kernel_rfl
theorem bl.CD:kx bl.T7.2 bl.B7=true:=by kernel_rfl
def bl.T19:Bool×List (List Nat×List Nat):=(true,[([],[]),([0],[0]),([1],[1]),([2],[2]),([2],[2]),([3,4,2],[2,3,4]),([5,2],[2,5]),([6,2],[2,6]),([2],[2]),([2],[2]),([8,9,2],[2,8,9]),([10,2],[2,10]),([11,2],[2,11]),([7,12,2],[2,7,12]),([2],[2]),([14,2],[2,14]),([13,15,2],[2,13,15]),([2,16],[2,16])])
def bl.B19:List Nat:=[0,1,3,7,7,31,63,127,7,7,775,1799,3847,8191,7,16391,65535,131071]
theorem bl.TI:gH .any (nY Try.f29 19)=bl.T19:=by kernel_rfl
theorem bl.S7:kx bl.T19.2 bl.B19=true:=by kernel_rfl
def bl.T20:Bool×List (List Nat×List Nat):=(true,[([],[]),([],[]),([0,1],[0,1]),([2],[2]),([3],[3]),([],[]),([5],[5]),([4,6],[4,6]),([0,1,0,1,2,3,4,5,6,7],[0,1]),([8,0,1,2,3,4,5,6,7],[8]),([9,7,0,1,2,3,4,5,6,7],[7,9])])
def bl.B20:List Nat:=[0,0,3,7,15,0,32,127,255,511,1023]
theorem bl.tab20:gH .any (nY Try.f29 20)=bl.T20:=by kernel_rfl
theorem bl.bits20:kx bl.T20.2 bl.B20=true:=by kernel_rfl
set_option maxHeartbeats 8000000 in
set_option maxRecDepth 100000 in
theorem bl.calls(k:Nat)(A0:Option Addr)(c0:Nat)(l0:List (a7))(r:List (aT))(w:World)(hr0:Kd.C b7 w A0 l0.length l0)(hc0:l0.length≤c0)(h:bl.f k l0=some r):
 Calls aad 29 #[.slice A0 l0.length c0] w fun e w'=>∃da:Value,e= .returned (da)∧Kd.R bd 38 w' w.heap.size (fun _=>True) da r∧Below w.heap.size w w':=by
 have mA:=aay;have Jh:=Try.underlying38;have gV:=Ah hr0;have lG:=Ah hc0;clear hr0 hc0;have HB:=Ah (Below.refl w.heap.size w);have H:(bl.l0 k ([]:List (aT)) l0 (l0.length:Int) 0)=some r:=h;clear h;have H':=Ah H;clear H
 go_enter Try.func29,Try.ntmps29
 go_wp2
 go_loopg [3,15] k (fun kq v3 v15 w'=>∃ (ar:List (aT)) (aV:Int),v15= .int .i64 aV∧U (bl.l0 kq ar l0 (l0.length:Int) aV=some r)∧U (kq≤k)∧U (Kd.R bd 38 w' w.heap.size (fun _=>True) v3 ar)∧U (Below w.heap.size w w'))
 case atStart=>exact⟨(([]:List (aT))),(0),e3,H',⟨bx _⟩,⟨by first|exact Kd.fk _ _ _ _ _|exact Kd.iI _ _ _ _ _|exact Kd.iJ _ _ _ _ _|exact Kd.iG _ _ _ _ _|exact Kd.iH _ _ _ _ _⟩,⟨bs HB⟩⟩
 case round=>
  clear H';obtain⟨ar,aV,rfl,HA,bU,au,HB⟩:=hrel
  cases gk with
  |zero=>exact absurd HA.out (by simp[bl.l0])
  |succ k1=>
   have H:=HA.out;clear HA;simp only[bl.l0]at H
   by_cases c2:aV<(l0.length:Int)
   rotate_left
   ·
    rw[if_neg c2]at H;have rO:decide (aV<(l0.length:Int))=false:=decide_eq_false c2;clear c2;have H':=Ah H;clear H;obtain⟨a4X,vZ,eo47⟩:=Kd.bq au.out;subst eo47
    go_wp2
    go_loopg [9,57] k1 (fun kq v9 v57 w'=>∃ (dN:List (aT)) (bo:List (aT)) (bp:Int),v57= .int .i64 bp∧U (bl.l2 kq dN bo (ar.length:Int) bp=some r)∧U (kq≤k1)∧U (Kd.R bd 38 w' w.heap.size (fun k_=>some k_≠((.slice a4X ar.length vZ):Value).ownBlock) v9 dN)∧U (Kd.R bd 38 w' w.heap.size (fun k_=>some k_≠(v9:Value).ownBlock) (.slice a4X ar.length vZ) bo)∧U (Below w.heap.size w w'))
    case atStart=>exact⟨(([]:List (aT))),(ar),(0),e3,H',⟨bx _⟩,⟨by first|exact Kd.fk _ _ _ _ _|exact Kd.iI _ _ _ _ _|exact Kd.iJ _ _ _ _ _|exact Kd.iG _ _ _ _ _|exact Kd.iH _ _ _ _ _⟩,⟨by(with_reducible repeat(first|apply Kd.bG|apply Kd.bE|apply Kd.al));exact Kd.aY au.out (fun _ hk=>(by simp[aae]))⟩,⟨bs HB⟩⟩
    case round=>
     clear H'
     try clear c1
     try clear p1
     try clear q1
     try clear hx1
     try clear c2
     try clear rO
     try clear p2
     try clear q2
     try clear c3
     try clear iN
     try clear c4
     try clear jb
     try clear q4
     try clear p6
     try clear c8
     try clear c10
     try clear nZ
     try clear c11
     try clear xC
     try clear c12
     try clear jR
     try clear p14
     try clear q14
     try clear hx14
     try clear c15
     try clear Ic
     try clear c16
     try clear IT
     try clear c16b1
     try clear c17
     try clear c18
     try clear c19
     try clear a16
     try clear c20
     try clear Nl
     try clear c21
     try clear q24
     try clear i3
     try clear kY
     try clear om
     try clear c31
     try clear NZ
     try clear c31b1
     try clear c32
     try clear Na
     try clear c32b1
     try clear jd
     try clear c34
     try clear AN
     try clear Sv
     try clear lH
     try clear a17
     try clear c37
     try clear LK
     try clear nz
     try clear c45
     try clear LL
     try clear MF ZQ
     try clear Yy hcz43_1
     try clear C5 S3 S4 a0q
     try clear vI wi
     try clear MG ZR
     try clear Yz hfz43_1
     try clear En S5 S6 a0r
     try clear wk wj
     try clear HN
     try clear HP
     try clear HQ
     try clear HS
     try clear EU
     try clear EV
     try clear p1
     try clear KJ
     try clear zu
     try clear p2
     try clear a4Y
     try clear a4Z
     try clear q1
     try clear KK
     try clear zv
     try clear q24
     try clear om
     try clear LK
     try clear LL
     obtain⟨dN,bo,bp,rfl,HA,eg,cT,fa,HB⟩:=hrel;have mS:=(Kd.af fa.out).1;rw[mS]at fa;(try simp only[mS]);(try simp only[mS]at cT)
     cases gk with
     |zero=>exact absurd HA.out (by simp[bl.l2])
     |succ k2=>
      have H:=HA.out;clear HA;simp only[bl.l2]at H
      by_cases o0:bp<(ar.length:Int)
      rotate_left
      ·
       rw[if_neg o0]at H;have TJ:decide (bp<(ar.length:Int))=false:=decide_eq_false o0;(try(have S8:=TJ;simp only[mS]at S8));clear o0;obtain rfl:=iz H
       go_wp2
       go_ret
       exact⟨_,er,by(with_reducible repeat(first|apply Kd.bG|apply Kd.bE|apply Kd.al));exact Kd.aY cT.out (fun _ hk=>trivial),bs HB⟩
      rw[if_pos o0]at H;have TJ:decide (bp<(ar.length:Int))=true:=decide_eq_true o0;(try(have S8:=TJ;simp only[mS]at S8));clear o0
      by_cases c49:0≤bp
      rotate_left
      ·
       rw[if_neg c49]at H;exact absurd H (by simp)
      rw[if_pos c49]at H;have c49b0:decide (0≤bp)=true:=decide_eq_true c49;clear c49
      by_cases Pa:bp<(bo.length:Int)
      rotate_left
      ·
       rw[if_neg Pa]at H;exact absurd H (by simp)
      rw[if_pos Pa]at H;have c50b0:decide (bp<(bo.length:Int))=true:=decide_eq_true Pa;(try(have c50b0h:=c50b0;simp only[mS]at c50b0h));clear Pa
      by_cases c51:(LS ((dN.length:Int)-1))≥0
      rotate_left
      ·
       rw[if_neg c51]at H;have Nm:decide (0≤(LS ((dN.length:Int)-1)))=false:=decide_eq_false c51;(try(have S9:=Nm;simp only[mS]at S9));clear c51
       by_cases c72:dN.length<8796093022208
       rotate_left
       ·
        rw[if_neg c72]at H;exact absurd H (by simp)
       rw[if_pos c72]at H;have LMc72:=Ah c72;clear c72;obtain⟨a40,Id⟩:∃y_:List (aT),y_=(dN++[(⟨(aE bo bp).f0,(aE bo bp).f1⟩:aT)]):=⟨_,rfl⟩
       replace H:(bl.l2 k2 a40 bo (ar.length:Int) (LS (bp+1)))=some r:=by first|(rw[Id];with_reducible exact H)|(have aX:=(Mq _ _).symm.trans H;rw[Id];with_reducible exact aX)|(have aX:=(Mq _ _).symm.trans H;with_reducible exact aX)|with_reducible exact H|(rw[Id];exact H)|exact H
       have Ny190:=Ah Id;clear Id;have H':=Ah H;clear H;have uD:0≤(bp:Int):=od;have uE:bp<(bo.length:Int):=od;obtain⟨vM,e181,ZS,ZT⟩:=fE (Kd.af fa.out).2.2 bp uD uE
       cases e181
       replace uD:=eq_true uD;replace uE:=eq_true uE
       try go_wp2_with (first|((with_reducible refine ax (N:=11) rfl ?_);refine bA 11 38 #[.int .i64 0,.int .i64 0] ?_;intro dH hg Dx fH hb;replace cT:=Ah (Kd.eO (Kd.gD (rr cT.out) dH (aaj hg.symm)) hb);replace fa:=Ah (Kd.eO (Kd.gD (rr fa.out) dH (aaj hg.symm)) hb);have a18:=gw hg (bs HB);have sO:=gw hg (bs HB);replace HB:=Ah (aK (bs HB) hb);clear hb hg;obtain⟨hcz74_0,hcz74_1⟩:=nw fH;obtain⟨hfz74_0,hfz74_1⟩:=ny fH;obtain⟨Fm,Fn,V0⟩:=Kd.bq cT.out;subst V0))
       have aa:U (Kd.R bd 38 ((Dx.setCell ⟨dH,0,none⟩ (.int .i64 ((aE bo bp).f0))).setCell ⟨dH,1,none⟩ (.int .i64 ((aE bo bp).f1))) w.heap.size (fun k_=>some k_≠(.slice (some vM) bo.length vZ:Value).ownBlock∧k_≠dH) (.slice Fm dN.length Fn) dN):=⟨by(with_reducible repeat(first|apply Kd.bG|apply Kd.bE|apply Kd.al));exact Kd.aY (Kd.aQ (p:=⟨dH,1,none⟩) (Kd.aQ (p:=⟨dH,0,none⟩) (Kd.aY cT.out (fun k_ hk=>(⟨hk,hk.2⟩:_∧k_≠dH))) (fun _ hk=>hk.2) (.int .i64 ((aE bo bp).f0))) (fun _ hk=>hk.2) (.int .i64 ((aE bo bp).f1))) (fun _ hk=>⟨hk.1.1,hk.1.2⟩)⟩;have ab:U (Kd.R bd 38 ((Dx.setCell ⟨dH,0,none⟩ (.int .i64 ((aE bo bp).f0))).setCell ⟨dH,1,none⟩ (.int .i64 ((aE bo bp).f1))) w.heap.size (fun k_=>some k_≠(.slice Fm dN.length Fn:Value).ownBlock∧k_≠dH) (.slice (some vM) bo.length vZ) bo):=⟨by(with_reducible repeat(first|apply Kd.bG|apply Kd.bE|apply Kd.al));exact Kd.aY (Kd.aQ (p:=⟨dH,1,none⟩) (Kd.aQ (p:=⟨dH,0,none⟩) (Kd.aY fa.out (fun k_ hk=>(⟨hk,hk.2⟩:_∧k_≠dH))) (fun _ hk=>hk.2) (.int .i64 ((aE bo bp).f0))) (fun _ hk=>hk.2) (.int .i64 ((aE bo bp).f1))) (fun _ hk=>⟨hk.1.1,hk.1.2⟩)⟩;have ac:U (((Dx.setCell ⟨dH,0,none⟩ (.int .i64 ((aE bo bp).f0))).setCell ⟨dH,1,none⟩ (.int .i64 ((aE bo bp).f1))).heap[dH]?=some (.cells #[.int .i64 ((aE bo bp).f0),.int .i64 ((aE bo bp).f1)] 38 (0,0))):=⟨by(with_reducible repeat(first|refine aD ?_ _|refine Z ?_|refine aC ?_ _));refine aj (cs:= #[.int .i64 ((aE bo bp).f0),.int .i64 0]) ?_ 1 _ rfl;(with_reducible repeat(first|refine aD ?_ _|refine Z ?_|refine aC ?_ _));refine aj (cs:= #[.int .i64 0,.int .i64 0]) ?_ 0 _ rfl;(with_reducible repeat(first|refine aD ?_ _|refine Z ?_|refine aC ?_ _));exact fH.out⟩;have ae:U (Below w.heap.size w ((Dx.setCell ⟨dH,0,none⟩ (.int .i64 ((aE bo bp).f0))).setCell ⟨dH,1,none⟩ (.int .i64 ((aE bo bp).f1)))):=⟨aH HB sO⟩;(try clear cT);(try clear fa);(try clear fH);(try clear HB)
       generalize ((Dx.setCell ⟨dH,0,none⟩ (.int .i64 ((aE bo bp).f0))).setCell ⟨dH,1,none⟩ (.int .i64 ((aE bo bp).f1)))=w76 at aa ab ac ae⊢
       have cT:=aa;have fa:=ab;have fH:=ac;have HB:=ae;clear aa ab ac ae;have aa:=Ah (Kd.al cT.out);have ab:=Ah (Kd.al fa.out);have ac:=Ah (Z fH.out);have ae:=Ah (fO HB.out);clear cT fa fH HB;have cT:=aa;have fa:=ab;have fH:=ac;have HB:=ae;clear aa ab ac ae;refine iY (n:=18) (S:=fun w'=>True) (ds:=[]) #[false,false,false,false,false,false,false,false,false,false,false,false,false,false,false,false,false,false] (by kernel_rfl) rfl rfl trivial (fun hHeld=> ?_);refine ig bl.TI bl.S7 (fun X cV=> ?_)
       generalize w76.drew=w77 at cT fa fH HB hHeld⊢
       refine aN 0 64 X.out ?_;refine aN 1 65 X.out ?_;refine aN 2 66 X.out ?_;refine bz 3 67 X.out ?_;refine bz 4 68 X.out ?_;refine bz 5 69 X.out ?_;refine bz 6 70 X.out ?_;refine bz 7 71 X.out ?_;refine bz 8 72 X.out ?_;refine bz 9 73 X.out ?_;refine bz 10 74 X.out ?_;refine bz 11 75 X.out ?_;refine bz 12 76 X.out ?_;refine bz 13 77 X.out ?_;refine bz 14 78 X.out ?_;refine bz 15 79 X.out ?_;refine bz 16 80 X.out ?_;refine aN 17 81 X.out ?_;refine i9 (iD X.out (by kernel_rfl)) ?_;obtain⟨Rb,hcz78_1⟩:=nw fH;obtain⟨Rc,hfz78_1⟩:=ny fH
       try go_wp2_with (first|((with_reducible refine eS (b:= .append) (xs:= #[.tmp 92,.tmp 94]) rfl ?_);at_builtin;refine Kd.gX bd (w0:=w) w.heap.size rfl (.tmp 92) (.tmp 94) 28 38 (.agg #[(.int .i64 0),(.int .i64 0)]) 16 rfl aaq jN rfl (by decide) (by omega) (.slice Fm dN.length Fn) dN (⟨(aE bo bp).f0,(aE bo bp).f1⟩:aT) [.int .i64 ((aE bo bp).f0),.int .i64 ((aE bo bp).f1)] (fun k_=>some k_≠(.slice (some vM) bo.length vZ:Value).ownBlock∧k_≠dH) (fun _=>False) rfl rfl ?aP (fun _ hk=>hk.elim) ?aF ?aO ?aB ?aS ?aL ?_;(case aP=>exact iE _ _ _ (⟨(aE bo bp).f0,(aE bo bp).f1⟩:aT));(case aB=>exact(aH HB sO));(case aF=>exact(fun k_ hk=>⟨Kd.fresh' (Kd.dU (rr fa.out)) k_ hk,Kd.gE (bk fH) k_ hk⟩));(case aO=>exact(rr cT.out));(case aS=>exact(be (aH HB sO)));(case aL=>have:=LMc72.out;omega);intro v191 w79 ho hb hg hat;rw[←Ny190.out]at ho;replace fa:=Ah (Kd.jI (ok:=(fun k_=>k_≠dH)) (by(with_reducible repeat(first|apply Kd.bG|apply Kd.bE|apply Kd.al));exact Kd.aY fa.out (fun _ hk=>⟨hk.2,hk.1⟩)) hg hat);replace fH:=Ah (cX (bk fH) hg (Kd.bF cT.out (fun _ hk=>hk.2)));replace HB:=Ah (hb);have HO192:=Ah (ho);clear cT;clear ho hb hg hat))
       (try simp only[←mS])
       go_roundg k2
       case measure=>have:=bU.out;have:=eg.out;omega
       case rel=>exact⟨(a40),(bo),(LS (bp+1)),e3,H',⟨by have:=bU.out;have:=eg.out;omega⟩,⟨by(try simp only[mS]);(with_reducible repeat(first|apply Kd.bG|apply Kd.bE|apply Kd.al));exact Kd.aY HO192.out (fun _ hk=>hk.1)⟩,⟨by(try simp only[mS]);(with_reducible repeat(first|apply Kd.bG|apply Kd.bE|apply Kd.al));exact Kd.aY fa.out (fun _ hk=>hk.2)⟩,⟨aH HB sO⟩⟩
      rw[if_pos c51]at H;have Nm:decide (0≤(LS ((dN.length:Int)-1)))=true:=decide_eq_true c51;(try(have S9:=Nm;simp only[mS]at S9));clear c51;obtain⟨cr,Nn⟩:∃j_:Int,(LS ((dN.length:Int)-1))=j_:=⟨_,rfl⟩
      replace H:(if 0≤(cr)then(if(cr)<(dN.length:Int)then(if(LS (((aE dN (cr)).f0)+((aE dN (cr)).f1)))=((aE bo bp).f0)then(bl.l2 k2 (dN.set ((cr):Int).toNat (⟨(aE dN (cr)).f0,LS (((aE dN (cr)).f1)+((aE bo bp).f1))⟩:aT)) bo (ar.length:Int) (LS (bp+1)))else(if dN.length<8796093022208 then(bl.l2 k2 (dN++[(⟨(aE bo bp).f0,(aE bo bp).f1⟩:aT)]) bo (ar.length:Int) (LS (bp+1)))else(none)))else(none))else(none))=some r:=by first|(rw[Nn]at H;exact H)|(simp only[Nn]at H⊢;exact H)
      (try rw[Nn]at Nm);have hji52w:(IntKind.i64.wrap ((dN.length:Int)-1))=cr:=(cz _).trans Nn
      by_cases c53:0≤(cr)
      rotate_left
      ·
       rw[if_neg c53]at H;exact absurd H (by simp)
      rw[if_pos c53]at H;have c53b0:decide (0≤(cr))=true:=decide_eq_true c53;clear c53
      by_cases Pb:(cr)<(dN.length:Int)
      rotate_left
      ·
       rw[if_neg Pb]at H;exact absurd H (by simp)
      rw[if_pos Pb]at H;have c54b0:decide ((cr)<(dN.length:Int))=true:=decide_eq_true Pb;(try(have c54b0h:=c54b0;simp only[mS]at c54b0h));clear Pb
      by_cases Dy:(LS (((aE dN (cr)).f0)+((aE dN (cr)).f1)))=((aE bo bp).f0)
      rotate_left
      ·
       rw[if_neg Dy]at H;have c55b0:((LS (((aE dN (cr)).f0)+((aE dN (cr)).f1)))==((aE bo bp).f0))=false:=beq_eq_false_iff_ne.mpr Dy;have c55b1:((LS (((aE dN (cr)).f0)+((aE dN (cr)).f1))) !=((aE bo bp).f0))=true:=bne_iff_ne.mpr Dy
       by_cases c64:dN.length<8796093022208
       rotate_left
       ·
        rw[if_neg c64]at H;exact absurd H (by simp)
       rw[if_pos c64]at H;have LMc64:=Ah c64;clear c64;obtain⟨a41,Ie⟩:∃y_:List (aT),y_=(dN++[(⟨(aE bo bp).f0,(aE bo bp).f1⟩:aT)]):=⟨_,rfl⟩
       replace H:(bl.l2 k2 a41 bo (ar.length:Int) (LS (bp+1)))=some r:=by first|(rw[Ie];with_reducible exact H)|(have aX:=(Mq _ _).symm.trans H;rw[Ie];with_reducible exact aX)|(have aX:=(Mq _ _).symm.trans H;with_reducible exact aX)|with_reducible exact H|(rw[Ie];exact H)|exact H
       have Ny187:=Ah Ie;clear Ie;have H':=Ah H;clear H;have uD:0≤(bp:Int):=od;have uE:bp<(bo.length:Int):=od;obtain⟨vM,e181,ZS,ZT⟩:=fE (Kd.af fa.out).2.2 bp uD uE
       cases e181
       replace uD:=eq_true uD;replace uE:=eq_true uE
       try go_wp2_with (first|((with_reducible refine ax (N:=11) rfl ?_);refine bA 11 38 #[.int .i64 0,.int .i64 0] ?_;intro dH hg LM fH hb;replace cT:=Ah (Kd.eO (Kd.gD (rr cT.out) dH (aaj hg.symm)) hb);replace fa:=Ah (Kd.eO (Kd.gD (rr fa.out) dH (aaj hg.symm)) hb);have a18:=gw hg (bs HB);have sO:=gw hg (bs HB);replace HB:=Ah (aK (bs HB) hb);clear hb hg;obtain⟨hcz66_0,hcz66_1⟩:=nw fH;obtain⟨hfz66_0,hfz66_1⟩:=ny fH;obtain⟨a42,V1,eo67⟩:=Kd.bq cT.out;subst eo67))
       have aa:U (Kd.R bd 38 ((LM.setCell ⟨dH,0,none⟩ (.int .i64 ((aE bo bp).f0))).setCell ⟨dH,1,none⟩ (.int .i64 ((aE bo bp).f1))) w.heap.size (fun k_=>some k_≠(.slice (some vM) bo.length vZ:Value).ownBlock∧k_≠dH) (.slice a42 dN.length V1) dN):=⟨by(with_reducible repeat(first|apply Kd.bG|apply Kd.bE|apply Kd.al));exact Kd.aY (Kd.aQ (p:=⟨dH,1,none⟩) (Kd.aQ (p:=⟨dH,0,none⟩) (Kd.aY cT.out (fun k_ hk=>(⟨hk,hk.2⟩:_∧k_≠dH))) (fun _ hk=>hk.2) (.int .i64 ((aE bo bp).f0))) (fun _ hk=>hk.2) (.int .i64 ((aE bo bp).f1))) (fun _ hk=>⟨hk.1.1,hk.1.2⟩)⟩;have ab:U (Kd.R bd 38 ((LM.setCell ⟨dH,0,none⟩ (.int .i64 ((aE bo bp).f0))).setCell ⟨dH,1,none⟩ (.int .i64 ((aE bo bp).f1))) w.heap.size (fun k_=>some k_≠(.slice a42 dN.length V1:Value).ownBlock∧k_≠dH) (.slice (some vM) bo.length vZ) bo):=⟨by(with_reducible repeat(first|apply Kd.bG|apply Kd.bE|apply Kd.al));exact Kd.aY (Kd.aQ (p:=⟨dH,1,none⟩) (Kd.aQ (p:=⟨dH,0,none⟩) (Kd.aY fa.out (fun k_ hk=>(⟨hk,hk.2⟩:_∧k_≠dH))) (fun _ hk=>hk.2) (.int .i64 ((aE bo bp).f0))) (fun _ hk=>hk.2) (.int .i64 ((aE bo bp).f1))) (fun _ hk=>⟨hk.1.1,hk.1.2⟩)⟩;have ac:U (((LM.setCell ⟨dH,0,none⟩ (.int .i64 ((aE bo bp).f0))).setCell ⟨dH,1,none⟩ (.int .i64 ((aE bo bp).f1))).heap[dH]?=some (.cells #[.int .i64 ((aE bo bp).f0),.int .i64 ((aE bo bp).f1)] 38 (0,0))):=⟨by(with_reducible repeat(first|refine aD ?_ _|refine Z ?_|refine aC ?_ _));refine aj (cs:= #[.int .i64 ((aE bo bp).f0),.int .i64 0]) ?_ 1 _ rfl;(with_reducible repeat(first|refine aD ?_ _|refine Z ?_|refine aC ?_ _));refine aj (cs:= #[.int .i64 0,.int .i64 0]) ?_ 0 _ rfl;(with_reducible repeat(first|refine aD ?_ _|refine Z ?_|refine aC ?_ _));exact fH.out⟩;have ae:U (Below w.heap.size w ((LM.setCell ⟨dH,0,none⟩ (.int .i64 ((aE bo bp).f0))).setCell ⟨dH,1,none⟩ (.int .i64 ((aE bo bp).f1)))):=⟨aH HB sO⟩;(try clear cT);(try clear fa);(try clear fH);(try clear HB)
       generalize ((LM.setCell ⟨dH,0,none⟩ (.int .i64 ((aE bo bp).f0))).setCell ⟨dH,1,none⟩ (.int .i64 ((aE bo bp).f1)))=w68 at aa ab ac ae⊢
       have cT:=aa;have fa:=ab;have fH:=ac;have HB:=ae;clear aa ab ac ae;have aa:=Ah (Kd.al cT.out);have ab:=Ah (Kd.al fa.out);have ac:=Ah (Z fH.out);have ae:=Ah (fO HB.out);clear cT fa fH HB;have cT:=aa;have fa:=ab;have fH:=ac;have HB:=ae;clear aa ab ac ae;have D0:0≤((cr):Int):=od;have D1:(cr)<(dN.length:Int):=od;obtain⟨n2,V2,BQ,BR⟩:=fE (Kd.af cT.out).2.2 (cr) D0 D1
       cases V2
       replace D0:=eq_true D0;replace D1:=eq_true D1;have D2:0≤((cr):Int):=od;have D3:(cr)<(dN.length:Int):=od;obtain⟨TK,V3,BS,BT⟩:=fE (Kd.af cT.out).2.2 (cr) D2 D3;obtain rfl:n2=TK:=(by injection V3);replace D2:=eq_true D2;replace D3:=eq_true D3;refine iY (n:=18) (S:=fun w'=>w'.cell? ⟨dH,0,none⟩=some (.int .i64 ((aE bo bp).f0))∧w'.cell? ⟨dH,1,none⟩=some (.int .i64 ((aE bo bp).f1))∧w'.cell? (n2.add (((cr)).toNat*2))=some (.int .i64 ((aE dN (cr)).f0))∧w'.cell? ⟨(n2.add (((cr)).toNat*2)).block,(n2.add (((cr)).toNat*2)).off+1,none⟩=some (.int .i64 ((aE dN (cr)).f1))∧w'.cell? (n2.add (((cr)).toNat*2))=some (.int .i64 ((aE dN (cr)).f0))∧w'.cell? ⟨(n2.add (((cr)).toNat*2)).block,(n2.add (((cr)).toNat*2)).off+1,none⟩=some (.int .i64 ((aE dN (cr)).f1))) (ds:=[]) #[false,false,false,false,false,false,false,false,false,false,false,false,false,false,false,false,false,false] (by kernel_rfl) rfl rfl ⟨(bC fH.out 0).trans rfl,(bC fH.out 1).trans rfl,BQ,BR,BS,BT⟩ (fun hHeld=> ?_);refine ig bl.TI bl.S7 (fun X cV=> ?_)
       generalize w68.drew=w69 at cT fa fH HB BQ BR BS BT hHeld⊢
       refine aN 0 64 X.out ?_;refine aN 1 65 X.out ?_;refine aN 2 66 X.out ?_;refine aN 3 67 X.out ?_;refine aN 4 68 X.out ?_;refine aN 5 69 X.out ?_;refine aN 6 70 X.out ?_;refine aN 8 72 X.out ?_;refine aN 9 73 X.out ?_;refine aN 10 74 X.out ?_;refine aN 11 75 X.out ?_;refine aN 14 78 X.out ?_;refine eF 7 71 X.out cV.out hHeld (hr:=by rintro w' ⟨s0,s1,s2,s3,s4,s5⟩;go_simp;with_reducible rfl) (h:= ?_);refine eF 12 76 X.out cV.out hHeld (hr:=by rintro w' ⟨s0,s1,s2,s3,s4,s5⟩;go_simp;with_reducible rfl) (h:= ?_);refine aN 13 77 X.out ?_;refine eF 15 79 X.out cV.out hHeld (hr:=by rintro w' ⟨s0,s1,s2,s3,s4,s5⟩;go_simp;with_reducible rfl) (h:= ?_);refine aN 16 80 X.out ?_;refine aN 17 81 X.out ?_;refine i9 (iD X.out (by kernel_rfl)) ?_;obtain⟨hcz70_0,hcz70_1⟩:=nw fH;obtain⟨hfz70_0,hfz70_1⟩:=ny fH
       try go_wp2_with (first|((with_reducible refine eS (b:= .append) (xs:= #[.tmp 92,.tmp 94]) rfl ?_);at_builtin;refine Kd.gX bd (w0:=w) w.heap.size rfl (.tmp 92) (.tmp 94) 28 38 (.agg #[(.int .i64 0),(.int .i64 0)]) 16 rfl aaq jN rfl (by decide) (by omega) (.slice (some n2) dN.length V1) dN (⟨(aE bo bp).f0,(aE bo bp).f1⟩:aT) [.int .i64 ((aE bo bp).f0),.int .i64 ((aE bo bp).f1)] (fun k_=>some k_≠(.slice (some vM) bo.length vZ:Value).ownBlock∧k_≠dH) (fun _=>False) rfl rfl ?aP (fun _ hk=>hk.elim) ?aF ?aO ?aB ?aS ?aL ?_;(case aP=>exact iE _ _ _ (⟨(aE bo bp).f0,(aE bo bp).f1⟩:aT));(case aB=>exact(aH HB sO));(case aF=>exact(fun k_ hk=>⟨Kd.fresh' (Kd.dU (rr fa.out)) k_ hk,Kd.gE (bk fH) k_ hk⟩));(case aO=>exact(rr cT.out));(case aS=>exact(be (aH HB sO)));(case aL=>have:=LMc64.out;omega);intro v188 w71 ho hb hg hat;rw[←Ny187.out]at ho;replace fa:=Ah (Kd.jI (ok:=(fun k_=>k_≠dH)) (by(with_reducible repeat(first|apply Kd.bG|apply Kd.bE|apply Kd.al));exact Kd.aY fa.out (fun _ hk=>⟨hk.2,hk.1⟩)) hg hat);replace fH:=Ah (cX (bk fH) hg (Kd.bF cT.out (fun _ hk=>hk.2)));replace HB:=Ah (hb);have HO189:=Ah (ho);clear cT;clear ho hb hg hat))
       (try simp only[←mS])
       go_roundg k2
       case measure=>have:=bU.out;have:=eg.out;omega
       case rel=>exact⟨(a41),(bo),(LS (bp+1)),e3,H',⟨by have:=bU.out;have:=eg.out;omega⟩,⟨by(try simp only[mS]);(with_reducible repeat(first|apply Kd.bG|apply Kd.bE|apply Kd.al));exact Kd.aY HO189.out (fun _ hk=>hk.1)⟩,⟨by(try simp only[mS]);(with_reducible repeat(first|apply Kd.bG|apply Kd.bE|apply Kd.al));exact Kd.aY fa.out (fun _ hk=>hk.2)⟩,⟨aH HB sO⟩⟩
      rw[if_pos Dy]at H;have c55b0:((LS (((aE dN (cr)).f0)+((aE dN (cr)).f1)))==((aE bo bp).f0))=true:=beq_iff_eq.mpr Dy;have c55b1:((LS (((aE dN (cr)).f0)+((aE dN (cr)).f1))) !=((aE bo bp).f0))=false:=bne_eq_false_iff_eq.mpr Dy;clear Dy;obtain⟨a43,If⟩:∃y_:List (aT),y_=(dN.set ((cr):Int).toNat (⟨(aE dN (cr)).f0,LS (((aE dN (cr)).f1)+((aE bo bp).f1))⟩:aT)):=⟨_,rfl⟩
      replace H:(bl.l2 k2 a43 bo (ar.length:Int) (LS (bp+1)))=some r:=by first|(rw[If];with_reducible exact H)|(have aX:=(Mq _ _).symm.trans H;rw[If];with_reducible exact aX)|(have aX:=(Mq _ _).symm.trans H;with_reducible exact aX)|with_reducible exact H|(rw[If];exact H)|exact H
      have Ny186:=Ah If;clear If;have H':=Ah H;clear H;have uD:0≤(bp:Int):=od;have uE:bp<(bo.length:Int):=od;obtain⟨vM,e181,ZS,ZT⟩:=fE (Kd.af fa.out).2.2 bp uD uE
      cases e181
      replace uD:=eq_true uD;replace uE:=eq_true uE
      try go_wp2_with (first|((with_reducible refine ax (N:=11) rfl ?_);refine bA 11 38 #[.int .i64 0,.int .i64 0] ?_;intro dH hg LN fH hb;replace cT:=Ah (Kd.eO (Kd.gD (rr cT.out) dH (aaj hg.symm)) hb);replace fa:=Ah (Kd.eO (Kd.gD (rr fa.out) dH (aaj hg.symm)) hb);have a18:=gw hg (bs HB);have sO:=gw hg (bs HB);replace HB:=Ah (aK (bs HB) hb);clear hb hg;obtain⟨hcz58_0,hcz58_1⟩:=nw fH;obtain⟨hfz58_0,hfz58_1⟩:=ny fH;obtain⟨Of,Og,Un⟩:=Kd.bq cT.out;subst Un))
      have aa:U (Kd.R bd 38 ((LN.setCell ⟨dH,0,none⟩ (.int .i64 ((aE bo bp).f0))).setCell ⟨dH,1,none⟩ (.int .i64 ((aE bo bp).f1))) w.heap.size (fun k_=>some k_≠(.slice (some vM) bo.length vZ:Value).ownBlock∧k_≠dH) (.slice Of dN.length Og) dN):=⟨by(with_reducible repeat(first|apply Kd.bG|apply Kd.bE|apply Kd.al));exact Kd.aY (Kd.aQ (p:=⟨dH,1,none⟩) (Kd.aQ (p:=⟨dH,0,none⟩) (Kd.aY cT.out (fun k_ hk=>(⟨hk,hk.2⟩:_∧k_≠dH))) (fun _ hk=>hk.2) (.int .i64 ((aE bo bp).f0))) (fun _ hk=>hk.2) (.int .i64 ((aE bo bp).f1))) (fun _ hk=>⟨hk.1.1,hk.1.2⟩)⟩;have ab:U (Kd.R bd 38 ((LN.setCell ⟨dH,0,none⟩ (.int .i64 ((aE bo bp).f0))).setCell ⟨dH,1,none⟩ (.int .i64 ((aE bo bp).f1))) w.heap.size (fun k_=>some k_≠(.slice Of dN.length Og:Value).ownBlock∧k_≠dH) (.slice (some vM) bo.length vZ) bo):=⟨by(with_reducible repeat(first|apply Kd.bG|apply Kd.bE|apply Kd.al));exact Kd.aY (Kd.aQ (p:=⟨dH,1,none⟩) (Kd.aQ (p:=⟨dH,0,none⟩) (Kd.aY fa.out (fun k_ hk=>(⟨hk,hk.2⟩:_∧k_≠dH))) (fun _ hk=>hk.2) (.int .i64 ((aE bo bp).f0))) (fun _ hk=>hk.2) (.int .i64 ((aE bo bp).f1))) (fun _ hk=>⟨hk.1.1,hk.1.2⟩)⟩;have ac:U (((LN.setCell ⟨dH,0,none⟩ (.int .i64 ((aE bo bp).f0))).setCell ⟨dH,1,none⟩ (.int .i64 ((aE bo bp).f1))).heap[dH]?=some (.cells #[.int .i64 ((aE bo bp).f0),.int .i64 ((aE bo bp).f1)] 38 (0,0))):=⟨by(with_reducible repeat(first|refine aD ?_ _|refine Z ?_|refine aC ?_ _));refine aj (cs:= #[.int .i64 ((aE bo bp).f0),.int .i64 0]) ?_ 1 _ rfl;(with_reducible repeat(first|refine aD ?_ _|refine Z ?_|refine aC ?_ _));refine aj (cs:= #[.int .i64 0,.int .i64 0]) ?_ 0 _ rfl;(with_reducible repeat(first|refine aD ?_ _|refine Z ?_|refine aC ?_ _));exact fH.out⟩;have ae:U (Below w.heap.size w ((LN.setCell ⟨dH,0,none⟩ (.int .i64 ((aE bo bp).f0))).setCell ⟨dH,1,none⟩ (.int .i64 ((aE bo bp).f1)))):=⟨aH HB sO⟩;(try clear cT);(try clear fa);(try clear fH);(try clear HB)
      generalize ((LN.setCell ⟨dH,0,none⟩ (.int .i64 ((aE bo bp).f0))).setCell ⟨dH,1,none⟩ (.int .i64 ((aE bo bp).f1)))=Wn at aa ab ac ae⊢
      have cT:=aa;have fa:=ab;have fH:=ac;have HB:=ae;clear aa ab ac ae;have aa:=Ah (Kd.al cT.out);have ab:=Ah (Kd.al fa.out);have ac:=Ah (Z fH.out);have ae:=Ah (fO HB.out);clear cT fa fH HB;have cT:=aa;have fa:=ab;have fH:=ac;have HB:=ae;clear aa ab ac ae;have D0:0≤((cr):Int):=od;have D1:(cr)<(dN.length:Int):=od;obtain⟨n2,V2,BQ,BR⟩:=fE (Kd.af cT.out).2.2 (cr) D0 D1
      cases V2
      replace D0:=eq_true D0;replace D1:=eq_true D1;have D2:0≤((cr):Int):=od;have D3:(cr)<(dN.length:Int):=od;obtain⟨TK,V3,BS,BT⟩:=fE (Kd.af cT.out).2.2 (cr) D2 D3;obtain rfl:n2=TK:=(by injection V3);replace D2:=eq_true D2;replace D3:=eq_true D3;refine iY (n:=18) (S:=fun w'=>w'.cell? ⟨dH,0,none⟩=some (.int .i64 ((aE bo bp).f0))∧w'.cell? ⟨dH,1,none⟩=some (.int .i64 ((aE bo bp).f1))∧w'.cell? (n2.add (((cr)).toNat*2))=some (.int .i64 ((aE dN (cr)).f0))∧w'.cell? ⟨(n2.add (((cr)).toNat*2)).block,(n2.add (((cr)).toNat*2)).off+1,none⟩=some (.int .i64 ((aE dN (cr)).f1))∧w'.cell? (n2.add (((cr)).toNat*2))=some (.int .i64 ((aE dN (cr)).f0))∧w'.cell? ⟨(n2.add (((cr)).toNat*2)).block,(n2.add (((cr)).toNat*2)).off+1,none⟩=some (.int .i64 ((aE dN (cr)).f1))) (ds:=[]) #[false,false,false,false,false,false,false,false,false,false,false,false,false,false,false,false,false,false] (by kernel_rfl) rfl rfl ⟨(bC fH.out 0).trans rfl,(bC fH.out 1).trans rfl,BQ,BR,BS,BT⟩ (fun hHeld=> ?_);refine ig bl.TI bl.S7 (fun X cV=> ?_)
      generalize Wn.drew=GA at cT fa fH HB BQ BR BS BT hHeld⊢
      refine aN 0 64 X.out ?_;refine aN 1 65 X.out ?_;refine aN 2 66 X.out ?_;refine aN 3 67 X.out ?_;refine aN 4 68 X.out ?_;refine aN 5 69 X.out ?_;refine aN 6 70 X.out ?_;refine aN 8 72 X.out ?_;refine aN 9 73 X.out ?_;refine aN 10 74 X.out ?_;refine aN 11 75 X.out ?_;refine aN 14 78 X.out ?_;refine eF 7 71 X.out cV.out hHeld (hr:=by rintro w' ⟨s0,s1,s2,s3,s4,s5⟩;go_simp;with_reducible rfl) (h:= ?_);refine eF 12 76 X.out cV.out hHeld (hr:=by rintro w' ⟨s0,s1,s2,s3,s4,s5⟩;go_simp;with_reducible rfl) (h:= ?_);refine aN 13 77 X.out ?_;refine eF 15 79 X.out cV.out hHeld (hr:=by rintro w' ⟨s0,s1,s2,s3,s4,s5⟩;go_simp;with_reducible rfl) (h:= ?_);refine aN 16 80 X.out ?_;refine aN 17 81 X.out ?_;refine i9 (iD X.out (by kernel_rfl)) ?_
      try go_wp2
      have aa:=Ah (Kd.al cT.out);have ab:=Ah (Kd.al fa.out);have ac:=Ah (Z fH.out);have ae:=Ah (fO HB.out);clear cT fa fH HB;have cT:=aa;have fa:=ab;have fH:=ac;have HB:=ae;clear aa ab ac ae;have V4:0≤((cr):Int):=od;have V5:(cr)<(dN.length:Int):=od;obtain⟨ad185,e185,Rd,Re⟩:=fE (Kd.af cT.out).2.2 (cr) V4 V5;obtain rfl:n2=ad185:=(by injection e185);replace V4:=eq_true V4;replace V5:=eq_true V5;have p56:0≤((cr):Int):=od;have Ws:((cr):Int)<((dN.length:Int):Int):=od;obtain⟨zw,co56,a44,a45,gl56,cl56,a46⟩:=Kd.nW cT.out (by omega);(first|cases a44|(injection a44 with dB iV iW;(first|subst dB|(injection dB with dB;subst dB));subst iW;clear iV));have GB56:=Ah a45;have GG56:=Ah a46;clear a45 gl56 a46;(first|simp only[db]at BQ|skip);(first|simp only[db]at BR|skip);(first|simp only[db]at BS|skip);(first|simp only[db]at BT|skip);(first|simp only[db]at Rd|skip);(first|simp only[db]at Re|skip);obtain⟨ce56,hcl56,a47,TL,TM⟩:=Kd.hJ cT.out kW ((cr):Int) p56 Ws;obtain rfl:=lN a47;have hx56_0:World.cell? _ ⟨zw,((cr):Int).toNat*2,none⟩=some (.int .i64 ((aE dN (cr)).f0)):=TL 0 _ rfl;have hx56_1:World.cell? _ ⟨zw,((cr):Int).toNat*2+1,none⟩=some (.int .i64 ((aE dN (cr)).f1)):=TL 1 _ rfl;have hf56_0:aaL _ ⟨zw,((cr):Int).toNat*2,none⟩=false:=TM 0;have hf56_1:aaL _ ⟨zw,((cr):Int).toNat*2+1,none⟩=false:=TM 1;clear hcl56 TL TM a47;replace p56:=eq_true p56;replace Ws:=eq_true Ws;obtain⟨ce63,a19,a48,a2a,hfr63⟩:=Kd.hJ cT.out kW ((cr):Int) (od) (by have h_:((cr):Int)<((dN.length:Int):Int):=od;first|exact h_|(have e_:=(Kd.af cT.out).1;omega)|simpa using h_);obtain rfl:=lN a48;have V6:=(Kd.lT cT.out ((cr):Int) (od) (by have h_:((cr):Int)<((dN.length:Int):Int):=od;first|exact h_|(have e_:=(Kd.af cT.out).1;omega)|simpa using h_) (seg:=[.int .i64 (LS (((aE dN (cr)).f1)+((aE bo bp).f1)))]) (j:=1) a19 a2a (show 2≤2 from by decide) (x':=(⟨(aE dN (cr)).f0,LS (((aE dN (cr)).f1)+((aE bo bp).f1))⟩:aT)) (iE _ _ _ (⟨(aE dN (cr)).f0,LS (((aE dN (cr)).f1)+((aE bo bp).f1))⟩:aT)) (fun _ hk=>hk)).1;rw[←Ny186.out]at V6;have a49:=Ah V6;clear a19 a2a hfr63 a48 V6;refine iY (n:=11) (S:=fun w'=>w'.cell? ⟨dH,0,none⟩=some (.int .i64 ((aE bo bp).f0))∧w'.cell? ⟨dH,1,none⟩=some (.int .i64 ((aE bo bp).f1))∧w'.cell? ⟨zw,(((cr)).toNat*2),none⟩=some (.int .i64 ((aE dN (cr)).f0))∧w'.cell? ⟨zw,(((cr)).toNat*2)+1,none⟩=some (.int .i64 ((aE dN (cr)).f1))) (ds:=[10]) #[false,false,false,false,false,false,false,false,false,false,false] (by kernel_rfl) rfl rfl ⟨(bC fH.out 0).trans rfl,(bC fH.out 1).trans rfl,Rd,Re⟩ (fun hHeld=> ?_);refine ig bl.tab20 bl.bits20 (fun X cV=> ?_)
      generalize GA.drew=uZ at cT fa fH HB GG56 a49 hf56_0 hf56_1 BQ BR BS BT Rd Re hx56_0 hx56_1 hHeld⊢
      refine aN 0 82 X.out ?_;refine aN 1 83 X.out ?_;refine aN 2 84 X.out ?_;refine aN 3 85 X.out ?_;refine aN 5 87 X.out ?_;refine eF 4 86 X.out cV.out hHeld (hr:=by rintro w' ⟨s0,s1,s2,s3⟩;go_simp;with_reducible rfl) (h:= ?_);refine eF 6 88 X.out cV.out hHeld (hr:=by rintro w' ⟨s0,s1,s2,s3⟩;go_simp;with_reducible rfl) (h:= ?_);refine aN 7 89 X.out ?_;refine aN 8 90 X.out ?_;refine aN 9 91 X.out ?_;refine Hy (i:=10) (N:=none) #[true,true,true,true,true,true,true,true,true,true,true] rfl rfl (fy X.out (by kernel_rfl)) (by decide) (fun K hK=> ?_);refine oG (w1:= ?_) (by rfl) rfl ?_ ?_;rotate_left
      ·
       go_simp
       rfl
      refine hK.out _ _ ?_;clear hK K;refine i9 (iD X.out (by kernel_rfl)) ?_
      try go_wp2
      (try simp only[←mS])
      go_roundg k2
      case measure=>have:=bU.out;have:=eg.out;omega
      case rel=>exact⟨(a43),(bo),(LS (bp+1)),e3,H',⟨by have:=bU.out;have:=eg.out;omega⟩,⟨by(try simp only[mS]);(with_reducible repeat(first|apply Kd.bG|apply Kd.bE|apply Kd.al));exact Kd.aY a49.out (fun _ hk=>hk.1)⟩,⟨by(try simp only[mS]);(with_reducible repeat(first|apply Kd.bG|apply Kd.bE|apply Kd.al));exact Kd.aY (Kd.aQ (p:=⟨zw,((cr):Int).toNat*2+1,none⟩) (Kd.aY fa.out (fun k_ hk=>(⟨hk,fun e_=>hk.1 (by rw[e_];rfl)⟩:_∧k_≠zw))) (fun _ hk=>hk.2) (.int .i64 (LS (((aE dN (cr)).f1)+((aE bo bp).f1))))) (fun _ hk=>hk.1.1)⟩,⟨aW HB GB56 sO⟩⟩
   rw[if_pos c2]at H;have rO:decide (aV<(l0.length:Int))=true:=decide_eq_true c2;clear c2
   by_cases c3:0≤aV
   rotate_left
   ·
    rw[if_neg c3]at H;exact absurd H (by simp)
   rw[if_pos c3]at H;have iN:decide (0≤aV)=true:=decide_eq_true c3;clear c3
   by_cases c4:aV<(l0.length:Int)
   rotate_left
   ·
    rw[if_neg c4]at H;exact absurd H (by simp)
   rw[if_pos c4]at H;have jb:decide (aV<(l0.length:Int))=true:=decide_eq_true c4;clear c4;have H':=Ah H;clear H;have KJ:0≤(aV:Int):=od;have KK:aV<(l0.length:Int):=od;obtain⟨ad143,e143,HN,HP,HQ,HS⟩:=f6 gV.out aV KJ KK
   cases e143
   replace HN:=(HB.out.cell (LA w _ HN)).trans HN;replace HP:=(HB.out.cell (LA w _ HP)).trans HP;replace HQ:=(HB.out.cell (LA w _ HQ)).trans HQ;replace HS:=(HB.out.cell (LA w _ HS)).trans HS;replace KJ:=eq_true KJ;replace KK:=eq_true KK
   go_wp2_with (first|((with_reducible refine ax (N:=5) rfl ?_);refine bA 5 65 #[.int .i64 0,.int .i64 0,.int .i64 0,.bool false] ?_;intro zM hg w5 gZ hb;replace au:=nr au hb;have GW144:=gw hg (bs HB);have m6:=gw hg (bs HB);replace HB:=Ah (aK (bs HB) hb);clear hb hg;obtain⟨C5,S3,S4,a0q⟩:=cA gZ;obtain⟨En,S5,S6,a0r⟩:=cB gZ)|((with_reducible refine ax (N:=6) rfl ?_);refine bA 6 38 #[.int .i64 0,.int .i64 0] ?_;intro iK hg w7 fl hb;replace au:=Ah (Kd.eO (Kd.gD (by(with_reducible repeat(first|apply Kd.bG|apply Kd.bE|apply Kd.al));exact(Kd.aY (Kd.aQ (p:=⟨zM,3,none⟩) (Kd.aQ (p:=⟨zM,2,none⟩) (Kd.aQ (p:=⟨zM,1,none⟩) (Kd.aQ (p:=⟨zM,0,none⟩) (Kd.cl au.out gZ.out (by decide)) (fun _ hk=>hk.2) (.int .i64 ((I l0 aV).f0))) (fun _ hk=>hk.2) (.int .i64 ((I l0 aV).f1))) (fun _ hk=>hk.2) (.int .i64 ((I l0 aV).f2))) (fun _ hk=>hk.2) (.bool ((I l0 aV).f3))) (fun _ h_=>h_.1))) iK (aaj hg.symm)) hb);have GW145:=gw hg (aH HB m6);have nc:=gw hg (aH HB m6);replace HB:=Ah (aK (aH HB m6) hb);have Ly:=Ah ((LC gZ hg:zM≠iK));have QF:=Ah ((PH gZ hg:iK≠zM));replace gZ:=Ah (cC (g:=zM) (o:= .cells #[.int .i64 ((I l0 aV).f0),.int .i64 ((I l0 aV).f1),.int .i64 ((I l0 aV).f2),.bool ((I l0 aV).f3)] 65 (0,0)) (by(with_reducible repeat(first|refine aD ?_ _|refine Z ?_|refine aC ?_ _));refine aj (cs:= #[.int .i64 ((I l0 aV).f0),.int .i64 ((I l0 aV).f1),.int .i64 ((I l0 aV).f2),.bool false]) ?_ 3 _ rfl;(with_reducible repeat(first|refine aD ?_ _|refine Z ?_|refine aC ?_ _));refine aj (cs:= #[.int .i64 ((I l0 aV).f0),.int .i64 ((I l0 aV).f1),.int .i64 0,.bool false]) ?_ 2 _ rfl;(with_reducible repeat(first|refine aD ?_ _|refine Z ?_|refine aC ?_ _));refine aj (cs:= #[.int .i64 ((I l0 aV).f0),.int .i64 0,.int .i64 0,.bool false]) ?_ 1 _ rfl;(with_reducible repeat(first|refine aD ?_ _|refine Z ?_|refine aC ?_ _));refine aj (cs:= #[.int .i64 0,.int .i64 0,.int .i64 0,.bool false]) ?_ 0 _ rfl;(with_reducible repeat(first|refine aD ?_ _|refine Z ?_|refine aC ?_ _));exact gZ.out) hb);clear hb hg;have hnb8:=QF.out;have hnc8:=Ly.out;obtain⟨vI,wi⟩:=nw fl;obtain⟨wk,wj⟩:=ny fl))
   go_loopg [7] k1 (fun kq v7 w'=>∃ (ba:Int),v7= .int .i64 ba∧U (bl.l1 kq ar ba l0 (l0.length:Int) aV ((I l0 aV).f2) ((I l0 aV).f1)=some r)∧U (kq≤k1)∧U (Kd.R bd 38 w' w.heap.size (fun k_=>k_≠iK) u3 ar)∧U (w'.heap[zM]?=some (.cells #[.int .i64 ((I l0 aV).f0),.int .i64 ((I l0 aV).f1),.int .i64 ((I l0 aV).f2),.bool ((I l0 aV).f3)] 65 (0,0)))∧U (w'.heap[iK]?=some (.cells #[.int .i64 ((I l0 aV).f2),.int .i64 ((I l0 aV).f1)] 38 (0,0)))∧U (Below w.heap.size w w'))
   case atStart=>exact⟨(0),e3,H',⟨bx _⟩,⟨by(with_reducible repeat(first|apply Kd.bG|apply Kd.bE|apply Kd.al));exact Kd.aY (Kd.aQ (p:=⟨iK,1,none⟩) (Kd.aQ (p:=⟨iK,0,none⟩) (Kd.aY au.out (fun k_ hk=>(⟨hk,hk.2⟩:_∧k_≠iK))) (fun _ hk=>hk.2) (.int .i64 ((I l0 aV).f2))) (fun _ hk=>hk.2) (.int .i64 ((I l0 aV).f1))) (fun _ hk=>hk.1.2)⟩,⟨bf gZ Ly⟩,⟨by(with_reducible repeat(first|refine aD ?_ _|refine Z ?_|refine aC ?_ _));refine aj (cs:= #[.int .i64 ((I l0 aV).f2),.int .i64 0]) ?_ 1 _ rfl;(with_reducible repeat(first|refine aD ?_ _|refine Z ?_|refine aC ?_ _));refine aj (cs:= #[.int .i64 0,.int .i64 0]) ?_ 0 _ rfl;(with_reducible repeat(first|refine aD ?_ _|refine Z ?_|refine aC ?_ _));exact fl.out⟩,⟨aW HB m6 nc⟩⟩
   case round=>
    clear H'
    try clear p1
    try clear q1
    try clear hx1
    try clear c2
    try clear rO
    try clear p2
    try clear c3
    try clear iN
    try clear c4
    try clear jb
    try clear c8
    try clear C5 S3 S4 a0q
    try clear vI wi
    try clear En S5 S6 a0r
    try clear wk wj
    try clear HN
    try clear HP
    try clear HQ
    try clear HS
    try clear KJ
    try clear KK
    obtain⟨ba,rfl,HA,eg,au,gZ,fl,HB⟩:=hrel
    cases gk with
    |zero=>exact absurd HA.out (by simp[bl.l1])
    |succ k2=>
     have H:=HA.out;clear HA;simp only[bl.l1]at H
     by_cases c10:ba<(ar.length:Int)
     rotate_left
     ·
      rw[if_neg c10]at H;have nZ:decide (ba<(ar.length:Int))=false:=decide_eq_false c10;clear c10
      by_cases c31:0≤ba
      rotate_left
      ·
       rw[if_neg c31]at H;exact absurd H (by simp)
      rw[if_pos c31]at H;have NZ:=eq_true c31;have c31b1:decide (0≤ba)=true:=decide_eq_true c31;clear c31
      by_cases c32:ba≤(ar.length:Int)
      rotate_left
      ·
       rw[if_neg c32]at H;exact absurd H (by simp)
      rw[if_pos c32]at H;have Na:=eq_true c32;have c32b1:decide (ba≤(ar.length:Int))=true:=decide_eq_true c32;clear c32;obtain⟨nt,Ig⟩:∃y_:List (aT),y_=(ar.take (ba:Int).toNat):=⟨_,rfl⟩
      replace H:(if([]:List (aT)).length+nt.length<8796093022208 then((some (([]:List (aT))++nt:List (aT))).bind fun y168=>(if y168.length<8796093022208 then((some (y168++[(⟨((I l0 aV).f2),((I l0 aV).f1)⟩:aT)]:List (aT))).bind fun nu=>((some (ar.drop (ba:Int).toNat:List (aT))).bind fun jz=>(if nu.length+jz.length<8796093022208 then(bl.l0 k2 (nu++jz) l0 (l0.length:Int) (wrap64 (aV+1)))else(none))))else(none)))else(none))=some r:=by first|(rw[Ig];with_reducible exact H)|(have aX:=(Option.bind_some _ _).symm.trans H;rw[Ig];with_reducible exact aX)|(have aX:=(Option.bind_some _ _).symm.trans H;with_reducible exact aX)|with_reducible exact H|(rw[Ig];exact H)|exact H
      have Ih:=Ah Ig;clear Ig
      by_cases jd:([]:List (aT)).length+nt.length<8796093022208
      rotate_left
      ·
       rw[if_neg jd]at H;exact absurd H (by simp)
      rw[if_pos jd]at H;have LMc33:=Ah jd;clear jd;obtain⟨y168,hy168⟩:∃y_:List (aT),y_=(([]:List (aT))++nt):=⟨_,rfl⟩
      replace H:(if y168.length<8796093022208 then((some (y168++[(⟨((I l0 aV).f2),((I l0 aV).f1)⟩:aT)]:List (aT))).bind fun nu=>((some (ar.drop (ba:Int).toNat:List (aT))).bind fun jz=>(if nu.length+jz.length<8796093022208 then(bl.l0 k2 (nu++jz) l0 (l0.length:Int) (wrap64 (aV+1)))else(none))))else(none))=some r:=by first|(rw[hy168];with_reducible exact H)|(have aX:=(Option.bind_some _ _).symm.trans H;rw[hy168];with_reducible exact aX)|(have aX:=(Option.bind_some _ _).symm.trans H;with_reducible exact aX)|with_reducible exact H|(rw[hy168];exact H)|exact H
      have Ny168:=Ah hy168;clear hy168
      by_cases c34:y168.length<8796093022208
      rotate_left
      ·
       rw[if_neg c34]at H;exact absurd H (by simp)
      rw[if_pos c34]at H;have TG:=Ah c34;clear c34;obtain⟨nu,Ii⟩:∃y_:List (aT),y_=(y168++[(⟨((I l0 aV).f2),((I l0 aV).f1)⟩:aT)]):=⟨_,rfl⟩
      replace H:((some (ar.drop (ba:Int).toNat:List (aT))).bind fun jz=>(if nu.length+jz.length<8796093022208 then(bl.l0 k2 (nu++jz) l0 (l0.length:Int) (wrap64 (aV+1)))else(none)))=some r:=by first|(rw[Ii];with_reducible exact H)|(have aX:=(Option.bind_some _ _).symm.trans H;rw[Ii];with_reducible exact aX)|(have aX:=(Option.bind_some _ _).symm.trans H;with_reducible exact aX)|with_reducible exact H|(rw[Ii];exact H)|exact H
      have Ny171:=Ah Ii;clear Ii;have Sv:=eq_true (od:0≤ba);have a17:=eq_true (od:ba≤(ar.length:Int));obtain⟨jz,Ij⟩:∃y_:List (aT),y_=(ar.drop (ba:Int).toNat):=⟨_,rfl⟩
      replace H:(if nu.length+jz.length<8796093022208 then(bl.l0 k2 (nu++jz) l0 (l0.length:Int) (LS (aV+1)))else(none))=some r:=by first|(rw[Ij];with_reducible exact H)|(have aX:=(Mq _ _).symm.trans H;rw[Ij];with_reducible exact aX)|(have aX:=(Mq _ _).symm.trans H;with_reducible exact aX)|with_reducible exact H|(rw[Ij];exact H)|exact H
      have TN:=Ah Ij;clear Ij
      by_cases c37:nu.length+jz.length<8796093022208
      rotate_left
      ·
       rw[if_neg c37]at H;exact absurd H (by simp)
      rw[if_pos c37]at H;have LMc37:=Ah c37;clear c37;obtain⟨a5a,Ik⟩:∃y_:List (aT),y_=(nu++jz):=⟨_,rfl⟩
      replace H:(bl.l0 k2 a5a l0 (l0.length:Int) (LS (aV+1)))=some r:=by first|(rw[Ik];with_reducible exact H)|(have aX:=(Mq _ _).symm.trans H;rw[Ik];with_reducible exact aX)|(have aX:=(Mq _ _).symm.trans H;with_reducible exact aX)|with_reducible exact H|(rw[Ik];exact H)|exact H
      have Ny178:=Ah Ik;clear Ik;have H':=Ah H;clear H
      try go_wp2
      have aa:=Ah (Kd.al au.out);have ab:=Ah (Z gZ.out);have ac:=Ah (Z fl.out);have ae:=Ah (fO HB.out);clear au gZ fl HB;have au:=aa;have gZ:=ab;have fl:=ac;have HB:=ae;clear aa ab ac ae;obtain⟨nj,nk,OZ⟩:=Kd.bq au.out;(first|subst OZ|(injection OZ with kc oc kd;have oe:=kc.symm;have oh:=kd.symm;clear kc oc kd;subst oe;subst oh));refine iY (n:=14) (S:=fun w'=>True) (ds:=[]) #[false,false,false,false,false,false,false,false,false,false,false,false,false,false] (by kernel_rfl) rfl rfl trivial (fun hHeld=> ?_);refine ig bl.Cq bl.CD (fun X cV=> ?_)
      generalize wr.drew=PR at au gZ fl HB hHeld⊢
      refine aN 0 24 X.out ?_;refine aN 1 25 X.out ?_;refine aN 2 26 X.out ?_;refine aN 3 27 X.out ?_;refine aN 4 28 X.out ?_;refine bz 5 29 X.out ?_;refine bz 6 30 X.out ?_;refine bz 7 31 X.out ?_;refine bz 8 32 X.out ?_;refine bz 9 33 X.out ?_;refine bz 10 34 X.out ?_;refine bz 11 35 X.out ?_;refine bz 12 36 X.out ?_;refine aN 13 37 X.out ?_;refine i9 (iD X.out (by kernel_rfl)) ?_;have LK:(ba:Int)≤((ar.length:Int):Int):=od;obtain⟨i040,a2b,_,hsz40,_⟩:=info_parts jN;have ZU:ar.length≤nk:=(Kd.af au.out).2.1;have a5b:Kd.C bd _ nj ar.length ar:=(Kd.af au.out).2.2;have hcut40:=Ed (P:=aad) 28 38 .i64 aaq a2b nj ar.length nk ba (od) LK ZU;have V7:=Kd.qm (m:=(ba:Int).toNat) a5b (by omega);have V8:nt.length=(ba:Int).toNat:=(by rw[Ih.out,ao];omega);rw[←Ih.out]at V7;rw[←V8]at hcut40;have Il:=Ah V7;have HC167:=Ah (show nt.length≤nk from by omega);clear V7 a5b ZU a2b hsz40;have KY40:=Ah V8;clear V8;have V9:=Ah (show(ba:Int).toNat≤ar.length from by omega);replace LK:=eq_true LK
      try go_wp2_with (first|((with_reducible refine eS (b:= .append) (xs:= #[.tmp 40,.tmp 43]) rfl ?_);at_builtin;refine Kd.nN bd (w0:=w) w.heap.size rfl (.tmp 40) (.tmp 43) 28 38 (.agg #[(.int .i64 0),(.int .i64 0)]) 16 rfl aaq jN rfl (by decide) (by omega) (.slice none 0 0) ([]:List (aT)) nt _ _ _ (fun k_=>some k_≠(.slice nj ar.length nk:Value).ownBlock∧k_≠iK) (fun _=>False) rfl rfl ?aO ?aR (fun _ _ h=>h) (fun _ h=>h.elim) ?aF ?aB ?aS ?aL ?_;(case aR=>repeat(first|exact(by repeat(first|(with_reducible exact Il.out)|(with_reducible refine Kd.jn ?_ _)|(with_reducible refine Kd.jo ?_ _)|(with_reducible refine Kd.js ?_)|exact Il.out))|(with_reducible refine Kd.jn ?_ _)|(with_reducible refine Kd.jo ?_ _)|(with_reducible refine Kd.js ?_)));(case aB=>exact(aW HB m6 nc));(case aF=>exact(fun k_ hk=>⟨Kd.fresh' (Kd.dU (rr au.out)) k_ hk,Kd.gE (bk fl) k_ hk⟩));(case aO=>exact((Kd.fk _ _ _ _ (fun k_=>some k_≠(.slice nj ar.length nk:Value).ownBlock∧k_≠iK))));(case aS=>exact(be (aW HB m6 nc)));(case aL=>have:=LMc33.out;omega);intro v169 rY ho hb hg hat;rw[←Ny168.out]at ho;replace gZ:=Ah (cX (bk gZ) hg (by simp[aae]));replace fl:=Ah (cX (bk fl) hg (by simp[aae]));replace HB:=Ah (hb);replace Il:=Ah ((show Kd.C bd rY nj nt.length nt from by rw[Ih.out];exact Kd.qm (m:=(ba:Int).toNat) ((Kd.af (Kd.jI (Kd.La (rr au.out)) hg hat)).2.2) V9.out));replace au:=Ah (Kd.jI (Kd.La (rr au.out)) hg hat);have No:=Ah (ho);clear ho hb hg hat;have NI:=QF.out;have NJ:=Ly.out;obtain⟨Yy,hcz43_1⟩:=nw fl;obtain⟨Yz,hfz43_1⟩:=ny fl)|((with_reducible refine eS (b:= .append) (xs:= #[.tmp 45,.tmp 47]) rfl ?_);at_builtin;refine Kd.gX bd (w0:=w) w.heap.size rfl (.tmp 45) (.tmp 47) 28 38 (.agg #[(.int .i64 0),(.int .i64 0)]) 16 rfl aaq jN rfl (by decide) (by omega) v169 y168 (⟨((I l0 aV).f2),((I l0 aV).f1)⟩:aT) [.int .i64 ((I l0 aV).f2),.int .i64 ((I l0 aV).f1)] (fun k_=>some k_≠(.slice nj ar.length nk:Value).ownBlock∧k_≠iK) (fun _=>False) rfl rfl ?aP (fun _ hk=>hk.elim) ?aF ?aO ?aB ?aS ?aL ?_;(case aP=>exact iE _ _ _ (⟨((I l0 aV).f2),((I l0 aV).f1)⟩:aT));(case aB=>exact(aW HB m6 nc));(case aF=>exact(fun k_ hk=>⟨Kd.fresh' (Kd.dU (rr au.out)) k_ hk,Kd.gE (bk fl) k_ hk⟩));(case aO=>exact(rr No.out));(case aS=>exact(be (aW HB m6 nc)));(case aL=>have:=TG.out;omega);intro v172 PT ho hb hg hat;rw[←Ny171.out]at ho;replace gZ:=Ah (cX (bk gZ) hg (Kd.eD No.out gZ.out (by decide)));replace fl:=Ah (cX (bk fl) hg (Kd.bF No.out (fun _ hk=>hk.2)));replace HB:=Ah (hb);replace Il:=Ah ((show Kd.C bd PT nj nt.length nt from by rw[Ih.out];exact Kd.qm (m:=(ba:Int).toNat) ((Kd.af (Kd.jI (ok:=(fun k_=>k_≠iK)) (rr au.out) hg hat)).2.2) V9.out));replace au:=Ah (Kd.jI (ok:=(fun k_=>k_≠iK)) (rr au.out) hg hat);have Np:=Ah (ho);clear No;clear ho hb hg hat;have LL:(ba:Int)≤((ar.length:Int):Int):=od;obtain⟨i045,a2c,_,a2d,_⟩:=info_parts jN;have Rf:ar.length≤nk:=(Kd.af au.out).2.1;have a5c:Kd.C bd _ nj ar.length ar:=(Kd.af au.out).2.2;have a4Z:(0:Int)≤(ba:Int):=od;have hcut45:=wC (P:=aad) 28 38 .i64 aaq a2c 2 a2d nj ar.length nk ba a4Z LL;have KL:=Kd.sD (m:=(ba:Int).toNat) (c:=nk) a5c (by omega) Rf;obtain⟨PP,Ot⟩:∃A1,A1=(if nk=(ba:Int).toNat then nj else(nj:Option Addr).map (·.add ((ba:Int).toNat*2))):=⟨_,rfl⟩;obtain⟨c45,VA⟩:∃c1,c1=nk-(ba:Int).toNat:=⟨_,rfl⟩;have Ou:jz.length=ar.length-(ba:Int).toNat:=(by rw[TN.out,gy]<;>omega);rw[show(ar).drop (ba:Int).toNat=jz from TN.out.symm]at KL;replace KL:Kd.C bd _ PP jz.length jz:=(by rw[Ot];exact KL);rw[←Ou,←Ot,←VA]at hcut45;have TO:=Ah KL;have HC177:=Ah (show jz.length≤c45 from by rw[Ou,VA];exact aaR Rf _);clear KL a5c Rf a2c a2d VA;have KY45:=Ah Ou;have KA45:=Ah Ot;clear Ou Ot;have KL45:=Ah (show(ba:Int).toNat≤ar.length from by omega);replace LL:=eq_true LL)|((with_reducible refine eS (b:= .append) (xs:= #[.tmp 49,.tmp 52]) rfl ?_);at_builtin;refine Kd.nN bd (w0:=w) w.heap.size rfl (.tmp 49) (.tmp 52) 28 38 (.agg #[(.int .i64 0),(.int .i64 0)]) 16 rfl aaq jN rfl (by decide) (by omega) v172 nu jz _ _ _ (fun k_=>some k_≠(.slice nj ar.length nk:Value).ownBlock∧k_≠iK) (fun _=>False) rfl rfl ?aO ?aR (fun _ _ h=>h) (fun _ h=>h.elim) ?aF ?aB ?aS ?aL ?_;(case aR=>repeat(first|exact(by repeat(first|(with_reducible exact TO.out)|(with_reducible refine Kd.jn ?_ _)|(with_reducible refine Kd.jo ?_ _)|(with_reducible refine Kd.js ?_)|exact TO.out))|(with_reducible refine Kd.jn ?_ _)|(with_reducible refine Kd.jo ?_ _)|(with_reducible refine Kd.js ?_)));(case aB=>exact(aW HB m6 nc));(case aF=>exact(fun k_ hk=>⟨Kd.fresh' (Kd.dU (rr au.out)) k_ hk,Kd.gE (bk fl) k_ hk⟩));(case aO=>exact(rr Np.out));(case aS=>exact(be (aW HB m6 nc)));(case aL=>have:=LMc37.out;omega);intro v179 w46 ho hb hg hat;rw[←Ny178.out]at ho;replace gZ:=Ah (cX (bk gZ) hg (Kd.eD Np.out gZ.out (by decide)));replace fl:=Ah (cX (bk fl) hg (Kd.bF Np.out (fun _ hk=>hk.2)));replace HB:=Ah (hb);replace Il:=Ah ((show Kd.C bd w46 nj nt.length nt from by rw[Ih.out];exact Kd.qm (m:=(ba:Int).toNat) ((Kd.af (Kd.jI (ok:=(fun k_=>k_≠iK)) (rr au.out) hg hat)).2.2) V9.out));replace TO:=Ah ((show Kd.C bd w46 PP jz.length jz from by rw[TN.out,KA45.out];exact Kd.sD (m:=(ba:Int).toNat) (c:=nk) ((Kd.af (Kd.jI (ok:=(fun k_=>k_≠iK)) (rr au.out) hg hat)).2.2) KL45.out ((Kd.af (Kd.jI (ok:=(fun k_=>k_≠iK)) (rr au.out) hg hat)).2.1)));replace au:=Ah (Kd.jI (ok:=(fun k_=>k_≠iK)) (rr au.out) hg hat);have HO180:=Ah (ho);clear Np;clear ho hb hg hat))
      go_roundg k2
      case measure=>have:=bU.out;have:=eg.out;omega
      case rel=>exact⟨(a5a),(LS (aV+1)),e3,H',⟨by have:=bU.out;have:=eg.out;omega⟩,rm HO180 (fun _ hk=>trivial),⟨aW HB m6 nc⟩⟩
     rw[if_pos c10]at H;have nZ:decide (ba<(ar.length:Int))=true:=decide_eq_true c10;clear c10
     by_cases c11:0≤ba
     rotate_left
     ·
      rw[if_neg c11]at H;exact absurd H (by simp)
     rw[if_pos c11]at H;have xC:decide (0≤ba)=true:=decide_eq_true c11;clear c11
     by_cases c12:((aE ar ba).f0)<((I l0 aV).f2)
     ·
      rw[if_pos c12]at H;have jR:decide (((aE ar ba).f0)<((I l0 aV).f2))=true:=decide_eq_true c12;clear c12;have H':=Ah H;clear H
      try go_wp2
      have aa:=Ah (Kd.al au.out);have ab:=Ah (Z gZ.out);have ac:=Ah (Z fl.out);have ae:=Ah (fO HB.out);clear au gZ fl HB;have au:=aa;have gZ:=ab;have fl:=ac;have HB:=ae;clear aa ab ac ae;obtain⟨dI,cd,ni⟩:=Kd.bq au.out;(first|subst ni|(injection ni with kc oc kd;have oe:=kc.symm;have oh:=kd.symm;clear kc oc kd;subst oe;subst oh));have zu:0≤(ba:Int):=od;have zv:ba<(ar.length:Int):=od;obtain⟨lZ,VB,EU,EV⟩:=fE (Kd.af au.out).2.2 ba zu zv
      cases VB
      replace zu:=eq_true zu;replace zv:=eq_true zv;refine iY (n:=14) (S:=fun w'=>w'.cell? ⟨iK,0,none⟩=some (.int .i64 ((I l0 aV).f2))∧w'.cell? ⟨iK,1,none⟩=some (.int .i64 ((I l0 aV).f1))∧w'.cell? (lZ.add ((ba).toNat*2))=some (.int .i64 ((aE ar ba).f0))∧w'.cell? ⟨(lZ.add ((ba).toNat*2)).block,(lZ.add ((ba).toNat*2)).off+1,none⟩=some (.int .i64 ((aE ar ba).f1))) (ds:=[]) #[false,false,false,false,false,false,false,false,false,false,false,false,false,false] (by kernel_rfl) rfl rfl ⟨(bC fl.out 0).trans rfl,(bC fl.out 1).trans rfl,EU,EV⟩ (fun hHeld=> ?_);refine ig bl.Cq bl.CD (fun X cV=> ?_)
      generalize wr.drew=nJ at au gZ fl HB EU EV hHeld⊢
      refine aN 0 24 X.out ?_;refine aN 1 25 X.out ?_;refine aN 2 26 X.out ?_;refine aN 3 27 X.out ?_;refine aN 4 28 X.out ?_;refine aN 5 29 X.out ?_;refine aN 6 30 X.out ?_;refine aN 7 31 X.out ?_;refine aN 8 32 X.out ?_;refine aN 10 34 X.out ?_;refine eF 9 33 X.out cV.out hHeld (hr:=by rintro w' ⟨s0,s1,s2,s3⟩;go_simp;with_reducible rfl) (h:= ?_);refine eF 11 35 X.out cV.out hHeld (hr:=by rintro w' ⟨s0,s1,s2,s3⟩;go_simp;with_reducible rfl) (h:= ?_);refine aN 12 36 X.out ?_;refine aN 13 37 X.out ?_;refine i9 (iD X.out (by kernel_rfl)) ?_
      try go_wp2
      go_roundg k2
      case measure=>have:=bU.out;have:=eg.out;omega
      case rel=>exact⟨(LS (ba+1)),e3,H',⟨by have:=bU.out;have:=eg.out;omega⟩,⟨rr au.out⟩,⟨bk gZ⟩,⟨bk fl⟩,⟨aW HB m6 nc⟩⟩
     rw[if_neg c12]at H;have jR:decide (((aE ar ba).f0)<((I l0 aV).f2))=false:=decide_eq_false c12;clear c12;have Ic:=eq_true (od:0≤ba)
     by_cases c16:ba≤(ar.length:Int)
     rotate_left
     ·
      rw[if_neg c16]at H;exact absurd H (by simp)
     rw[if_pos c16]at H;have IT:=eq_true c16;have c16b1:decide (ba≤(ar.length:Int))=true:=decide_eq_true c16;clear c16;obtain⟨np,Im⟩:∃y_:List (aT),y_=(ar.take (ba:Int).toNat):=⟨_,rfl⟩
     replace H:(if([]:List (aT)).length+np.length<8796093022208 then((some (([]:List (aT))++np:List (aT))).bind fun y151=>(if y151.length<8796093022208 then((some (y151++[(⟨((I l0 aV).f2),((I l0 aV).f1)⟩:aT)]:List (aT))).bind fun nq=>((some (ar.drop (ba:Int).toNat:List (aT))).bind fun y157=>(if nq.length+y157.length<8796093022208 then(bl.l0 k2 (nq++y157) l0 (l0.length:Int) (wrap64 (aV+1)))else(none))))else(none)))else(none))=some r:=by first|(rw[Im];with_reducible exact H)|(have aX:=(Option.bind_some _ _).symm.trans H;rw[Im];with_reducible exact aX)|(have aX:=(Option.bind_some _ _).symm.trans H;with_reducible exact aX)|with_reducible exact H|(rw[Im];exact H)|exact H
     have In:=Ah Im;clear Im
     by_cases c17:([]:List (aT)).length+np.length<8796093022208
     rotate_left
     ·
      rw[if_neg c17]at H;exact absurd H (by simp)
     rw[if_pos c17]at H;have xD:=Ah c17;clear c17;obtain⟨y151,hy151⟩:∃y_:List (aT),y_=(([]:List (aT))++np):=⟨_,rfl⟩
     replace H:(if y151.length<8796093022208 then((some (y151++[(⟨((I l0 aV).f2),((I l0 aV).f1)⟩:aT)]:List (aT))).bind fun nq=>((some (ar.drop (ba:Int).toNat:List (aT))).bind fun y157=>(if nq.length+y157.length<8796093022208 then(bl.l0 k2 (nq++y157) l0 (l0.length:Int) (wrap64 (aV+1)))else(none))))else(none))=some r:=by first|(rw[hy151];with_reducible exact H)|(have aX:=(Option.bind_some _ _).symm.trans H;rw[hy151];with_reducible exact aX)|(have aX:=(Option.bind_some _ _).symm.trans H;with_reducible exact aX)|with_reducible exact H|(rw[hy151];exact H)|exact H
     have Ny151:=Ah hy151;clear hy151
     by_cases c18:y151.length<8796093022208
     rotate_left
     ·
      rw[if_neg c18]at H;exact absurd H (by simp)
     rw[if_pos c18]at H;have Ng:=Ah c18;clear c18;obtain⟨nq,Io⟩:∃y_:List (aT),y_=(y151++[(⟨((I l0 aV).f2),((I l0 aV).f1)⟩:aT)]):=⟨_,rfl⟩
     replace H:((some (ar.drop (ba:Int).toNat:List (aT))).bind fun y157=>(if nq.length+y157.length<8796093022208 then(bl.l0 k2 (nq++y157) l0 (l0.length:Int) (wrap64 (aV+1)))else(none)))=some r:=by first|(rw[Io];with_reducible exact H)|(have aX:=(Option.bind_some _ _).symm.trans H;rw[Io];with_reducible exact aX)|(have aX:=(Option.bind_some _ _).symm.trans H;with_reducible exact aX)|with_reducible exact H|(rw[Io];exact H)|exact H
     have Ny154:=Ah Io;clear Io;have a16:=eq_true (od:0≤ba);have Nl:=eq_true (od:ba≤(ar.length:Int));obtain⟨y157,hy157⟩:∃y_:List (aT),y_=(ar.drop (ba:Int).toNat):=⟨_,rfl⟩
     replace H:(if nq.length+y157.length<8796093022208 then(bl.l0 k2 (nq++y157) l0 (l0.length:Int) (LS (aV+1)))else(none))=some r:=by first|(rw[hy157];with_reducible exact H)|(have aX:=(Mq _ _).symm.trans H;rw[hy157];with_reducible exact aX)|(have aX:=(Mq _ _).symm.trans H;with_reducible exact aX)|with_reducible exact H|(rw[hy157];exact H)|exact H
     have TP:=Ah hy157;clear hy157
     by_cases c21:nq.length+y157.length<8796093022208
     rotate_left
     ·
      rw[if_neg c21]at H;exact absurd H (by simp)
     rw[if_pos c21]at H;have TH:=Ah c21;clear c21;obtain⟨a5d,Ip⟩:∃y_:List (aT),y_=(nq++y157):=⟨_,rfl⟩
     replace H:(bl.l0 k2 a5d l0 (l0.length:Int) (LS (aV+1)))=some r:=by first|(rw[Ip];with_reducible exact H)|(have aX:=(Mq _ _).symm.trans H;rw[Ip];with_reducible exact aX)|(have aX:=(Mq _ _).symm.trans H;with_reducible exact aX)|with_reducible exact H|(rw[Ip];exact H)|exact H
     have Ny161:=Ah Ip;clear Ip;have H':=Ah H;clear H
     try go_wp2
     have aa:=Ah (Kd.al au.out);have ab:=Ah (Z gZ.out);have ac:=Ah (Z fl.out);have ae:=Ah (fO HB.out);clear au gZ fl HB;have au:=aa;have gZ:=ab;have fl:=ac;have HB:=ae;clear aa ab ac ae;obtain⟨Oe,mb,Fe⟩:=Kd.bq au.out;(first|subst Fe|(injection Fe with kc oc kd;have oe:=kc.symm;have oh:=kd.symm;clear kc oc kd;subst oe;subst oh));have zu:0≤(ba:Int):=od;have zv:ba<(ar.length:Int):=od;obtain⟨lZ,VB,EU,EV⟩:=fE (Kd.af au.out).2.2 ba zu zv
     cases VB
     replace zu:=eq_true zu;replace zv:=eq_true zv;refine iY (n:=14) (S:=fun w'=>w'.cell? ⟨iK,0,none⟩=some (.int .i64 ((I l0 aV).f2))∧w'.cell? ⟨iK,1,none⟩=some (.int .i64 ((I l0 aV).f1))∧w'.cell? (lZ.add ((ba).toNat*2))=some (.int .i64 ((aE ar ba).f0))∧w'.cell? ⟨(lZ.add ((ba).toNat*2)).block,(lZ.add ((ba).toNat*2)).off+1,none⟩=some (.int .i64 ((aE ar ba).f1))) (ds:=[]) #[false,false,false,false,false,false,false,false,false,false,false,false,false,false] (by kernel_rfl) rfl rfl ⟨(bC fl.out 0).trans rfl,(bC fl.out 1).trans rfl,EU,EV⟩ (fun hHeld=> ?_);refine ig bl.Cq bl.CD (fun X cV=> ?_)
     generalize wr.drew=kt at au gZ fl HB EU EV hHeld⊢
     refine aN 0 24 X.out ?_;refine aN 1 25 X.out ?_;refine aN 2 26 X.out ?_;refine aN 3 27 X.out ?_;refine aN 4 28 X.out ?_;refine aN 5 29 X.out ?_;refine aN 6 30 X.out ?_;refine aN 7 31 X.out ?_;refine aN 8 32 X.out ?_;refine aN 10 34 X.out ?_;refine eF 9 33 X.out cV.out hHeld (hr:=by rintro w' ⟨s0,s1,s2,s3⟩;go_simp;with_reducible rfl) (h:= ?_);refine eF 11 35 X.out cV.out hHeld (hr:=by rintro w' ⟨s0,s1,s2,s3⟩;go_simp;with_reducible rfl) (h:= ?_);refine aN 12 36 X.out ?_;refine aN 13 37 X.out ?_;refine i9 (iD X.out (by kernel_rfl)) ?_;have q24:(ba:Int)≤((ar.length:Int):Int):=od;obtain⟨i024,a2e,_,hsz24,_⟩:=info_parts jN;have ZV:ar.length≤mb:=(Kd.af au.out).2.1;have a5e:Kd.C bd _ (some lZ) ar.length ar:=(Kd.af au.out).2.2;have hcut24:=Ed (P:=Try.prog) 28 38 .i64 Try.underlying28 a2e (some lZ) ar.length mb ba (od) q24 ZV;have VC:=Kd.qm (m:=(ba:Int).toNat) a5e (by omega);have hy24:np.length=(ba:Int).toNat:=(by rw[In.out,List.length_take];omega);rw[←In.out]at VC;rw[←hy24]at hcut24;have Iq:=Ah VC;have HC150:=Ah (show np.length≤mb from by omega);clear VC a5e ZV a2e hsz24;have KY24:=Ah hy24;clear hy24;have VD:=Ah (show(ba:Int).toNat≤ar.length from by omega);replace q24:=eq_true q24
     try go_wp2_with (first|((with_reducible refine eS (b:= .append) (xs:= #[.tmp 40,.tmp 43]) rfl ?_);at_builtin;refine Kd.nN bd (w0:=w) w.heap.size rfl (.tmp 40) (.tmp 43) 28 38 (.agg #[(.int .i64 0),(.int .i64 0)]) 16 rfl aaq jN rfl (by decide) (by omega) (.slice none 0 0) ([]:List (aT)) np _ _ _ (fun k_=>some k_≠(.slice (some lZ) ar.length mb:Value).ownBlock∧k_≠iK) (fun _=>False) rfl rfl ?aO ?aR (fun _ _ h=>h) (fun _ h=>h.elim) ?aF ?aB ?aS ?aL ?_;(case aR=>repeat(first|exact(by repeat(first|(with_reducible exact Iq.out)|(with_reducible refine Kd.jn ?_ _)|(with_reducible refine Kd.jo ?_ _)|(with_reducible refine Kd.js ?_)|exact Iq.out))|(with_reducible refine Kd.jn ?_ _)|(with_reducible refine Kd.jo ?_ _)|(with_reducible refine Kd.js ?_)));(case aB=>exact(aW HB m6 nc));(case aF=>exact(fun k_ hk=>⟨Kd.fresh' (Kd.dU (rr au.out)) k_ hk,Kd.gE (bk fl) k_ hk⟩));(case aO=>exact((Kd.fk _ _ _ _ (fun k_=>some k_≠(.slice (some lZ) ar.length mb:Value).ownBlock∧k_≠iK))));(case aS=>exact(be (aW HB m6 nc)));(case aL=>have:=xD.out;omega);intro v152 AM ho hb hg hat;rw[←Ny151.out]at ho;replace gZ:=Ah (cX (bk gZ) hg (by simp[aae]));replace fl:=Ah (cX (bk fl) hg (by simp[aae]));replace HB:=Ah (hb);replace Iq:=Ah ((show Kd.C bd AM (some lZ) np.length np from by rw[In.out];exact Kd.qm (m:=(ba:Int).toNat) ((Kd.af (Kd.jI (Kd.La (rr au.out)) hg hat)).2.2) VD.out));replace au:=Ah (Kd.jI (Kd.La (rr au.out)) hg hat);have Nq:=Ah (ho);clear ho hb hg hat;have a1N:=QF.out;have a1O:=Ly.out;obtain⟨MF,ZQ⟩:=nw fl;obtain⟨MG,ZR⟩:=ny fl)|((with_reducible refine eS (b:= .append) (xs:= #[.tmp 45,.tmp 47]) rfl ?_);at_builtin;refine Kd.gX bd (w0:=w) w.heap.size rfl (.tmp 45) (.tmp 47) 28 38 (.agg #[(.int .i64 0),(.int .i64 0)]) 16 rfl aaq jN rfl (by decide) (by omega) v152 y151 (⟨((I l0 aV).f2),((I l0 aV).f1)⟩:aT) [.int .i64 ((I l0 aV).f2),.int .i64 ((I l0 aV).f1)] (fun k_=>some k_≠(.slice (some lZ) ar.length mb:Value).ownBlock∧k_≠iK) (fun _=>False) rfl rfl ?aP (fun _ hk=>hk.elim) ?aF ?aO ?aB ?aS ?aL ?_;(case aP=>exact iE _ _ _ (⟨((I l0 aV).f2),((I l0 aV).f1)⟩:aT));(case aB=>exact(aW HB m6 nc));(case aF=>exact(fun k_ hk=>⟨Kd.fresh' (Kd.dU (rr au.out)) k_ hk,Kd.gE (bk fl) k_ hk⟩));(case aO=>exact(rr Nq.out));(case aS=>exact(be (aW HB m6 nc)));(case aL=>have:=Ng.out;omega);intro v155 GB ho hb hg hat;rw[←Ny154.out]at ho;replace gZ:=Ah (cX (bk gZ) hg (Kd.eD Nq.out gZ.out (by decide)));replace fl:=Ah (cX (bk fl) hg (Kd.bF Nq.out (fun _ hk=>hk.2)));replace HB:=Ah (hb);replace Iq:=Ah ((show Kd.C bd GB (some lZ) np.length np from by rw[In.out];exact Kd.qm (m:=(ba:Int).toNat) ((Kd.af (Kd.jI (ok:=(fun k_=>k_≠iK)) (rr au.out) hg hat)).2.2) VD.out));replace au:=Ah (Kd.jI (ok:=(fun k_=>k_≠iK)) (rr au.out) hg hat);have Nr:=Ah (ho);clear Nq;clear ho hb hg hat;have om:(ba:Int)≤((ar.length:Int):Int):=od;obtain⟨a4v,zG,_,F1,_⟩:=info_parts jN;have wT:ar.length≤mb:=(Kd.af au.out).2.1;have zk:Kd.C bd _ (some lZ) ar.length ar:=(Kd.af au.out).2.2;have a4Y:(0:Int)≤(ba:Int):=od;have Hg:=wC (P:=aad) 28 38 .i64 aaq zG 2 F1 (some lZ) ar.length mb ba a4Y om;have rL:=Kd.sD (m:=(ba:Int).toNat) (c:=mb) zk (by omega) wT;obtain⟨A29,Ov⟩:∃A1,A1=(if mb=(ba:Int).toNat then(some lZ)else((some lZ):Option Addr).map (·.add ((ba:Int).toNat*2))):=⟨_,rfl⟩;obtain⟨kY,hc29⟩:∃c1,c1=mb-(ba:Int).toNat:=⟨_,rfl⟩;have hy29:y157.length=ar.length-(ba:Int).toNat:=(by rw[TP.out,gy]<;>omega);rw[show(ar).drop (ba:Int).toNat=y157 from TP.out.symm]at rL;replace rL:Kd.C bd _ A29 y157.length y157:=(by rw[Ov];exact rL);rw[←hy29,←Ov,←hc29]at Hg;have TQ:=Ah rL;have HC160:=Ah (show y157.length≤kY from by rw[hy29,hc29];exact aaR wT _);clear rL zk wT zG F1 hc29;have a4w:=Ah hy29;have KA29:=Ah Ov;clear hy29 Ov;have KL29:=Ah (show(ba:Int).toNat≤ar.length from by omega);replace om:=eq_true om)|((with_reducible refine eS (b:= .append) (xs:= #[.tmp 49,.tmp 52]) rfl ?_);at_builtin;refine Kd.nN bd (w0:=w) w.heap.size rfl (.tmp 49) (.tmp 52) 28 38 (.agg #[(.int .i64 0),(.int .i64 0)]) 16 rfl aaq jN rfl (by decide) (by omega) v155 nq y157 _ _ _ (fun k_=>some k_≠(.slice (some lZ) ar.length mb:Value).ownBlock∧k_≠iK) (fun _=>False) rfl rfl ?aO ?aR (fun _ _ h=>h) (fun _ h=>h.elim) ?aF ?aB ?aS ?aL ?_;(case aR=>repeat(first|exact(by repeat(first|(with_reducible exact TQ.out)|(with_reducible refine Kd.jn ?_ _)|(with_reducible refine Kd.jo ?_ _)|(with_reducible refine Kd.js ?_)|exact TQ.out))|(with_reducible refine Kd.jn ?_ _)|(with_reducible refine Kd.jo ?_ _)|(with_reducible refine Kd.js ?_)));(case aB=>exact(aW HB m6 nc));(case aF=>exact(fun k_ hk=>⟨Kd.fresh' (Kd.dU (rr au.out)) k_ hk,Kd.gE (bk fl) k_ hk⟩));(case aO=>exact(rr Nr.out));(case aS=>exact(be (aW HB m6 nc)));(case aL=>have:=TH.out;omega);intro v162 rb ho hb hg hat;rw[←Ny161.out]at ho;replace gZ:=Ah (cX (bk gZ) hg (Kd.eD Nr.out gZ.out (by decide)));replace fl:=Ah (cX (bk fl) hg (Kd.bF Nr.out (fun _ hk=>hk.2)));replace HB:=Ah (hb);replace Iq:=Ah ((show Kd.C bd rb (some lZ) np.length np from by rw[In.out];exact Kd.qm (m:=(ba:Int).toNat) ((Kd.af (Kd.jI (ok:=(fun k_=>k_≠iK)) (rr au.out) hg hat)).2.2) VD.out));replace TQ:=Ah ((show Kd.C bd rb A29 y157.length y157 from by rw[TP.out,KA29.out];exact Kd.sD (m:=(ba:Int).toNat) (c:=mb) ((Kd.af (Kd.jI (ok:=(fun k_=>k_≠iK)) (rr au.out) hg hat)).2.2) KL29.out ((Kd.af (Kd.jI (ok:=(fun k_=>k_≠iK)) (rr au.out) hg hat)).2.1)));replace au:=Ah (Kd.jI (ok:=(fun k_=>k_≠iK)) (rr au.out) hg hat);have HO163:=Ah (ho);clear Nr;clear ho hb hg hat))
     go_roundg k2
     case measure=>have:=bU.out;have:=eg.out;omega
     case rel=>exact⟨(a5d),(LS (aV+1)),e3,H',⟨by have:=bU.out;have:=eg.out;omega⟩,rm HO163 (fun _ hk=>trivial),⟨aW HB m6 nc⟩⟩
end Go.Proofs.Ytjojdplkgekagaa.G
