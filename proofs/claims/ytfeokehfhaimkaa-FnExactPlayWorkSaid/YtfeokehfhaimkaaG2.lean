-- Printed by a program of this session (drive.py, by way of the kit's print). Not trusted: Lean checks it.
import Derived.Test.YtfeokehfhaimkaaG0
import Derived.Test.YtfeokehfhaimkaaG1
open Bool renaming eq_false_iff→PT,not_false→abo
open Go.Addr renaming add→rx
open Go.Proofs.Try renaming prog→Uf,underlying29→cp,underlying45→fk,underlying26→ig,underlying24→aad,underlying27→aax
open Go.RowKit renaming wrap64→Gj
open Go.RowKit.Below renaming refl→Ud
open Go.World renaming block_lt_of_cell?→Gk,drewN_drewN→fD,drewN→aao
open List renaming length_take→Ja,length_drop→SI,map_toArray→dl,map_cons→dV,map_nil→lK
open Nat renaming le_refl→QQ,lt_of_lt_of_le→kY,ne_of_lt→aai,add_assoc→aaq
open Option renaming bind_eq_some_iff→Gl,bind_some→Gm
open Option.some renaming inj→Gn,injEq→Jh
open Prod.mk renaming injEq→Ue
namespace Go.Proofs.Ytfeokehfhaimkaa.G
open Go.RowKit Go.Proofs.YtfeokehfhaimkaaW.PrintWords Go.Proofs.YtfeokehfhaimkaaW.PrintLast Go.Proofs.YtfeokehfhaimkaaW.PrintMore
attribute [local go_sem] zO zP zX zY zE zG zQ zR
set_option maxHeartbeats 8000000
set_option maxRecDepth 100000
set_option linter.unusedVariables false
set_option linter.unusedSimpArgs false
attribute [local go_sem high] YH
def Bq.f(l0:List (kE))(a1:Int):Option (Int):=if(Gj (a1-(l0.length:Int)))<0 then(some (-1))else(some (Gj (a1-(l0.length:Int))))
theorem Bq.calls(A0:Option Addr)(c0:Nat)(l0:List (kE))(a1:Int)(r:Int)(w:World)(hr0:Kd.C rj w A0 l0.length l0)(hc0:l0.length≤c0)(h:Bq.f l0 a1=some r):
 Calls Uf 4 #[.slice A0 l0.length c0,.int .i64 a1] w fun e w'=>e= .returned (.int .i64 r)∧bU w w':=by
 have cX:=Z.mk hr0;have oE:=Z.mk hc0;clear hr0 hc0;have H:(if(Gj (a1-(l0.length:Int)))<0 then(some (-1))else(some (Gj (a1-(l0.length:Int)))))=some r:=h;clear h
 by_cases c3:(Gj (a1-(l0.length:Int)))<0
 ·
  rw[if_pos c3]at H;have dc:=bJ c3;clear c3;obtain rfl:=Gn H
  go_enter Try.func4,Try.ntmps4
  go_wp2
  go_ret
  exact⟨by first|rfl|(simp;done)|(simp[*];done),by repeat(first|exact bU.refl _|apply bU.step)⟩
 ·
  rw[if_neg c3]at H;have dc:=dn c3;clear c3;obtain rfl:=Gn H
  go_enter Try.func4,Try.ntmps4
  go_wp2
  go_ret
  exact⟨by first|rfl|(simp;done)|(simp[*];done),by repeat(first|exact bU.refl _|apply bU.step)⟩
def lr.f(a0:Int)(a1:Int)(a2:Int):Option (Bool):=if a0≥a1 then(some (decide (a0≤a2)))else(some false)
theorem lr.calls(a0:Int)(a1:Int)(a2:Int)(r:Bool)(w:World)(h:lr.f a0 a1 a2=some r):
 Calls Uf 33 #[.int .i64 a0,.int .i64 a1,.int .i64 a2] w fun e w'=>e= .returned (.bool r)∧bU w w':=by
 have H:(if a0≥a1 then(some (decide (a0≤a2)))else(some false))=some r:=h;clear h
 by_cases c4:a0≥a1
 ·
  rw[if_pos c4]at H;have fB:=bJ c4;clear c4;obtain rfl:=Gn H
  go_enter Try.func33,Try.ntmps33
  go_wp2
  go_ret
  exact⟨by first|rfl|(simp;done)|(simp[*];done),by repeat(first|exact bU.refl _|apply bU.step)⟩
 ·
  rw[if_neg c4]at H;have fB:=dn c4;clear c4;obtain rfl:=Gn H
  go_enter Try.func33,Try.ntmps33
  go_wp2
  go_ret
  exact⟨by first|rfl|(simp;done)|(simp[*];done),by repeat(first|exact bU.refl _|apply bU.step)⟩
def Dl.f(aA:Int)(bN:Int)(aN:Int)(aQ:Int):Option (Bool):=if bN<aQ then(some true)else(if bN=aQ then(some (decide (aA<aN)))else(some false))
theorem Dl.calls(aA:Int)(bN:Int)(aN:Int)(aQ:Int)(r:Bool)(w:World)(h:Dl.f aA bN aN aQ=some r):
 Calls Uf 69 #[.agg #[.int .i64 aA,.int .i64 bN],.agg #[.int .i64 aN,.int .i64 aQ]] w fun e w'=>e= .returned (.bool r)∧Below w.heap.size w w':=by
 have jT:=fk;have HB:=Ah (Ud w.heap.size w);have H:(if bN<aQ then(some true)else(if bN=aQ then(some (decide (aA<aN)))else(some false)))=some r:=h;clear h
 by_cases c3:bN<aQ
 ·
  rw[if_pos c3]at H;have dc:=bJ c3;clear c3;obtain rfl:=Gn H
  go_enter Try.func69,Try.ntmps69
  go_wp2_with (first|((with_reducible refine ag (N:=2) rfl ?_);refine an 2 45 #[.int .i64 aA,.int .i64 bN] ?_;intro gb101 hg w4 nt hb;have GW101:=gw hg (bs HB);have sa:=gw hg (bs HB);replace HB:=Ah (aH (bs HB) hb);clear hb hg)|((with_reducible refine ag (N:=3) rfl ?_);refine an 3 45 #[.int .i64 aN,.int .i64 aQ] ?_;intro gb102 hg w5 CZ hb;have GW102:=gw hg (aM HB sa);have Lf:=gw hg (aM HB sa);replace HB:=Ah (aH (aM HB sa) hb);have Jj:=nn nt hg;have Jk:=nm nt hg;replace nt:=nb nt hb;clear hb hg;have Nw:=Jj.out;have Nx:=Jk.out;obtain⟨pr,pt⟩:=cg nt;obtain⟨pu,pv⟩:=ch nt;obtain⟨r9,rA⟩:=cg CZ;obtain⟨rB,rC⟩:=ch CZ))
  go_ret
  exact⟨er,am HB sa Lf⟩
 rw[if_neg c3]at H;have dc:=dn c3;clear c3
 by_cases c9:bN=aQ
 rotate_left
 ·
  rw[if_neg c9]at H;have sk:=fS c9;have Zk:=fT c9;obtain rfl:=Gn H
  go_enter Try.func69,Try.ntmps69
  go_wp2_with (first|((with_reducible refine ag (N:=2) rfl ?_);refine an 2 45 #[.int .i64 aA,.int .i64 bN] ?_;intro gb101 hg yp nt hb;have GW101:=gw hg (bs HB);have sa:=gw hg (bs HB);replace HB:=Ah (aH (bs HB) hb);clear hb hg)|((with_reducible refine ag (N:=3) rfl ?_);refine an 3 45 #[.int .i64 aN,.int .i64 aQ] ?_;intro gb102 hg w16 CZ hb;have GW102:=gw hg (aM HB sa);have Lf:=gw hg (aM HB sa);replace HB:=Ah (aH (aM HB sa) hb);have Jj:=nn nt hg;have Jk:=nm nt hg;replace nt:=nb nt hb;clear hb hg;have Sg:=Jj.out;have Sh:=Jk.out;obtain⟨vv,vw⟩:=cg nt;obtain⟨vx,vy⟩:=ch nt;obtain⟨E2,E3⟩:=cg CZ;obtain⟨E4,E5⟩:=ch CZ))
  go_ret
  exact⟨er,am HB sa Lf⟩
 rw[if_pos c9]at H;have sk:=fU c9;have Zk:=fV c9;clear c9;obtain rfl:=Gn H
 go_enter Try.func69,Try.ntmps69
 go_wp2_with (first|((with_reducible refine ag (N:=2) rfl ?_);refine an 2 45 #[.int .i64 aA,.int .i64 bN] ?_;intro gb101 hg lp nt hb;have GW101:=gw hg (bs HB);have sa:=gw hg (bs HB);replace HB:=Ah (aH (bs HB) hb);clear hb hg)|((with_reducible refine ag (N:=3) rfl ?_);refine an 3 45 #[.int .i64 aN,.int .i64 aQ] ?_;intro gb102 hg kF CZ hb;have GW102:=gw hg (aM HB sa);have Lf:=gw hg (aM HB sa);replace HB:=Ah (aH (aM HB sa) hb);have Jj:=nn nt hg;have Jk:=nm nt hg;replace nt:=nb nt hb;clear hb hg;have Lg:=Jj.out;have Lh:=Jk.out;obtain⟨oK,oL⟩:=cg nt;obtain⟨oM,oN⟩:=ch nt;obtain⟨sG,sH⟩:=cg CZ;obtain⟨sI,sJ⟩:=ch CZ))
 go_ret
 exact⟨er,am HB sa Lf⟩
mutual
def dA.l0:Nat→List (Y)→List (Y)→Int→Int→Option ((List (Y)))
 |0,_,_,_,_=>none
 |k+1,x3,x8,x9,fy=>if fy<x9 then(if 0≤fy then(if fy<(x8.length:Int)then(dA.l1 k x3 0 x8 x9 fy ((aD x8 fy).f0) ((aD x8 fy).f1))else(none))else(none))else(some x3)
def dA.l1:Nat→List (Y)→Int→List (Y)→Int→Int→Int→Int→Option ((List (Y)))
 |0,_,_,_,_,_,_,_=>none
 |k+1,x3,x6,x8,x9,fy,Qt,Qu=>if x6<(x3.length:Int)then(if 0≤x6 then((Dl.f ((aD x3 x6).f0) ((aD x3 x6).f1) Qt Qu).bind fun Zl=>(if Zl=true then(dA.l1 k x3 (Gj (x6+1)) x8 x9 fy Qt Qu)else(if x6≤(x3.length:Int)then((some (x3.take (x6:Int).toNat:List (Y))).bind fun ot=>(if([]:List (Y)).length+ot.length<8796093022208 then((some (([]:List (Y))++ot:List (Y))).bind fun sl=>(if sl.length<8796093022208 then((some (sl++[(⟨Qt,Qu⟩:Y)]:List (Y))).bind fun y114=>((some (x3.drop (x6:Int).toNat:List (Y))).bind fun ku=>(if y114.length+ku.length<8796093022208 then(dA.l0 k (y114++ku) x8 x9 (Gj (fy+1)))else(none))))else(none)))else(none)))else(none))))else(none))else(if 0≤x6 then(if x6≤(x3.length:Int)then((some (x3.take (x6:Int).toNat:List (Y))).bind fun qi=>(if([]:List (Y)).length+qi.length<8796093022208 then((some (([]:List (Y))++qi:List (Y))).bind fun wo=>(if wo.length<8796093022208 then((some (wo++[(⟨Qt,Qu⟩:Y)]:List (Y))).bind fun qj=>((some (x3.drop (x6:Int).toNat:List (Y))).bind fun m6=>(if qj.length+m6.length<8796093022208 then(dA.l0 k (qj++m6) x8 x9 (Gj (fy+1)))else(none))))else(none)))else(none)))else(none))else(none))
end
def dA.f(k:Nat)(l0:List (Y)):Option ((List (Y))):=dA.l0 k ([]:List (Y)) l0 (l0.length:Int) 0
theorem dA.cQ:∀k,(∀y0 y1 y2 y3,aG (dA.l0 k y0 y1 y2 y3) (dA.l0 (k+1) y0 y1 y2 y3))∧(∀y0 y1 y2 y3 y4 y5 y6,aG (dA.l1 k y0 y1 y2 y3 y4 y5 y6) (dA.l1 (k+1) y0 y1 y2 y3 y4 y5 y6))
 |0=>⟨fun _ _ _ _ r h=>by simp[dA.l0]at h,fun _ _ _ _ _ _ _ r h=>by simp[dA.l1]at h⟩
 |k+1=>by
  obtain⟨bS,ih1⟩:=dA.cQ k
  refine⟨?_, ?_⟩<;>intros<;>first|unfold dA.l0|unfold dA.l1
  all_goals repeat' first
   |(with_reducible exact bS _ _ _ _)
   |(with_reducible exact ih1 _ _ _ _ _ _ _)
   |(with_reducible exact aG.refl _)
   |(with_reducible exact aG.none _)
   |(with_reducible refine aG.ite ?_ ?_)
   |(with_reducible refine aG.bind ?_ (fun _=> ?_))
   |exact bS _ _ _ _
   |exact ih1 _ _ _ _ _ _ _
   |exact aG.none _
   |refine aG.ite ?_ ?_
   |refine aG.bind ?_ (fun _=> ?_)
theorem dA.mono:∀a0 k,aG (dA.f k a0) (dA.f (k+1) a0):=by
 intro a0 k;obtain⟨bS,ih1⟩:=dA.cQ k;unfold dA.f
 repeat' with_reducible first|exact bS _ _ _ _|exact ih1 _ _ _ _ _ _ _|exact aG.refl _|exact aG.none _|refine aG.ite ?_ ?_|refine aG.bind ?_ (fun _=> ?_)
def dA.T6:Bool×List (List Nat×List Nat):=(true,[([],[]),([],[]),([1],[1]),([0,2],[0,2]),([3],[3]),([4],[4]),([4],[4]),([5,6,4],[4,5,6]),([7,4],[4,7]),([4],[4]),([8,9,4,4],[4,8,9]),([4,10],[4,10])])
def dA.B6:List Nat:=[0,0,2,7,15,31,31,127,255,31,1023,2047]
theorem dA.sm:i5 .any (uw Try.f53 6)=dA.T6:=by kernel_rfl
theorem dA.sb:pm dA.T6.2 dA.B6=true:=by kernel_rfl
theorem dA.calls(k:Nat)(A0:Option Addr)(c0:Nat)(l0:List (Y))(r:List (Y))(w:World)(hr0:Kd.C aT w A0 l0.length l0)(hc0:l0.length≤c0)(h:dA.f k l0=some r):
 Calls Uf 53 #[.slice A0 l0.length c0] w fun e w'=>∃lI:Value,e= .returned (lI)∧Kd.R aT 45 w' w.heap.size (fun _=>True) lI r∧Below w.heap.size w w':=by
 have jT:=fk;have cX:=Ah hr0;have oE:=Ah hc0;clear hr0 hc0;have HB:=Ah (Ud w.heap.size w);have H:(dA.l0 k ([]:List (Y)) l0 (l0.length:Int) 0)=some r:=h;clear h;have H':=Ah H;clear H
 go_enter Try.func53,Try.ntmps53
 go_wp2
 go_loopg [3,10] k (fun kq v3 v10 w'=>∃ (bx:List (Y)) (bA:Int),v10= .int .i64 bA∧Z (dA.l0 kq bx l0 (l0.length:Int) bA=some r)∧Z (kq≤k)∧Z (Kd.R aT 45 w' w.heap.size (fun _=>True) v3 bx)∧Z (Below w.heap.size w w'))
 case atStart=>exact⟨(([]:List (Y))),(0),e3,H',⟨QQ _⟩,⟨by first|exact Kd.be _ _ _ _ _|exact Kd.ce _ _ _ _ _|exact Kd.cf _ _ _ _ _|exact Kd.cZ _ _ _ _ _|exact Kd.ca _ _ _ _ _⟩,⟨bs HB⟩⟩
 case round=>
  clear H';obtain⟨bx,bA,rfl,HA,bi,bu,HB⟩:=hrel
  cases gk with
  |zero=>exact absurd HA.out (by simp[dA.l0])
  |succ k1=>
   have H:=HA.out;clear HA;simp only[dA.l0]at H
   by_cases c2:bA<(l0.length:Int)
   rotate_left
   ·
    rw[if_neg c2]at H;have vJ:=dn c2;clear c2;obtain rfl:=Gn H
    go_wp2
    go_ret
    exact⟨_,er,by(with_reducible repeat(first|apply Kd.bd|apply Kd.bZ|apply Kd.bQ));exact bu.out,bs HB⟩
   rw[if_pos c2]at H;have vJ:=bJ c2;clear c2
   by_cases c3:0≤bA
   rotate_left
   ·
    rw[if_neg c3]at H;exact absurd H (by simp)
   rw[if_pos c3]at H;have dc:=bJ c3;clear c3
   by_cases c4:bA<(l0.length:Int)
   rotate_left
   ·
    rw[if_neg c4]at H;exact absurd H (by simp)
   rw[if_pos c4]at H;have fB:=bJ c4;clear c4;have H':=Ah H;clear H;have Tl:0≤(bA:Int):=od;have Tm:bA<(l0.length:Int):=od;obtain⟨ad103,e103,Vw,Vx⟩:=dN cX.out bA Tl Tm
   cases e103
   replace Vw:=hq HB Vw;replace Vx:=hq HB Vx;replace Tl:=eq_true Tl;replace Tm:=eq_true Tm
   go_wp2_with (first|((with_reducible refine ag (N:=5) rfl ?_);refine an 5 45 #[.int .i64 0,.int .i64 0] ?_;intro jo hg w5 ep hb;replace bu:=Ah (Kd.b9 (Kd.kN (rr bu.out) jo (Nat.le_of_eq hg.symm)) hb);have GW104:=gw hg (bs HB);have pR:=gw hg (bs HB);replace HB:=Ah (aH (bs HB) hb);clear hb hg;obtain⟨AG,AH⟩:=cg ep;obtain⟨AI,AJ⟩:=ch ep))
   go_loopg [6] k1 (fun kq v6 w'=>∃ (b5:Int),v6= .int .i64 b5∧Z (dA.l1 kq bx b5 l0 (l0.length:Int) bA ((aD l0 bA).f0) ((aD l0 bA).f1)=some r)∧Z (kq≤k1)∧Z (Kd.R aT 45 w' w.heap.size (fun k_=>k_≠jo) u3 bx)∧Z (w'.heap[jo]?=some (.cells #[.int .i64 ((aD l0 bA).f0),.int .i64 ((aD l0 bA).f1)] 45 (0,0)))∧Z (Below w.heap.size w w'))
   case atStart=>exact⟨(0),e3,H',⟨QQ _⟩,⟨by(with_reducible repeat(first|apply Kd.bd|apply Kd.bZ|apply Kd.bQ));exact Kd.ax (Kd.aK (p:=⟨jo,1,none⟩) (Kd.aK (p:=⟨jo,0,none⟩) (Kd.ax bu.out (fun k_ hk=>(⟨hk,hk.2⟩:_∧k_≠jo))) (fun _ hk=>hk.2) (.int .i64 ((aD l0 bA).f0))) (fun _ hk=>hk.2) (.int .i64 ((aD l0 bA).f1))) (fun _ hk=>hk.1.2)⟩,⟨by exact pb ep⟩,⟨aM HB pR⟩⟩
   case round=>
    clear H'
    try clear p1
    try clear q1
    try clear hx1
    try clear c2
    try clear vJ
    try clear p2
    try clear c3
    try clear dc
    try clear c4
    try clear fB
    try clear c5
    try clear AG AH
    try clear AI AJ
    try clear Vw
    try clear Vx
    try clear Tl
    try clear Tm
    obtain⟨b5,rfl,HA,eE,bu,ep,HB⟩:=hrel
    cases gk with
    |zero=>exact absurd HA.out (by simp[dA.l1])
    |succ k2=>
     have H:=HA.out;clear HA;simp only[dA.l1]at H
     by_cases c7:b5<(bx.length:Int)
     rotate_left
     ·
      rw[if_neg c7]at H;have pY:=dn c7;clear c7
      by_cases jg:0≤b5
      rotate_left
      ·
       rw[if_neg jg]at H;exact absurd H (by simp)
      rw[if_pos jg]at H;have Ed:=eq_true jg;have Si:=bJ jg;clear jg
      by_cases c31:b5≤(bx.length:Int)
      rotate_left
      ·
       rw[if_neg c31]at H;exact absurd H (by simp)
      rw[if_pos c31]at H;have wT:=eq_true c31;have c31b1:=bJ c31;clear c31;obtain⟨qi,Li⟩:∃y_:List (Y),y_=(bx.take (b5:Int).toNat):=⟨_,rfl⟩
      replace H:(if([]:List (Y)).length+qi.length<8796093022208 then((some (([]:List (Y))++qi:List (Y))).bind fun wo=>(if wo.length<8796093022208 then((some (wo++[(⟨((aD l0 bA).f0),((aD l0 bA).f1)⟩:Y)]:List (Y))).bind fun qj=>((some (bx.drop (b5:Int).toNat:List (Y))).bind fun m6=>(if qj.length+m6.length<8796093022208 then(dA.l0 k2 (qj++m6) l0 (l0.length:Int) (wrap64 (bA+1)))else(none))))else(none)))else(none))=some r:=by first|(rw[Li];with_reducible exact H)|(have aq:=(Option.bind_some _ _).symm.trans H;rw[Li];with_reducible exact aq)|(have aq:=(Option.bind_some _ _).symm.trans H;with_reducible exact aq)|with_reducible exact H|(rw[Li];exact H)|exact H
      have Lj:=Ah Li;clear Li
      by_cases c32:([]:List (Y)).length+qi.length<8796093022208
      rotate_left
      ·
       rw[if_neg c32]at H;exact absurd H (by simp)
      rw[if_pos c32]at H;have LMc32:=Ah c32;clear c32;obtain⟨wo,hy128⟩:∃y_:List (Y),y_=(([]:List (Y))++qi):=⟨_,rfl⟩
      replace H:(if wo.length<8796093022208 then((some (wo++[(⟨((aD l0 bA).f0),((aD l0 bA).f1)⟩:Y)]:List (Y))).bind fun qj=>((some (bx.drop (b5:Int).toNat:List (Y))).bind fun m6=>(if qj.length+m6.length<8796093022208 then(dA.l0 k2 (qj++m6) l0 (l0.length:Int) (wrap64 (bA+1)))else(none))))else(none))=some r:=by first|(rw[hy128];with_reducible exact H)|(have aq:=(Option.bind_some _ _).symm.trans H;rw[hy128];with_reducible exact aq)|(have aq:=(Option.bind_some _ _).symm.trans H;with_reducible exact aq)|with_reducible exact H|(rw[hy128];exact H)|exact H
      have Ny128:=Ah hy128;clear hy128
      by_cases rl:wo.length<8796093022208
      rotate_left
      ·
       rw[if_neg rl]at H;exact absurd H (by simp)
      rw[if_pos rl]at H;have YI:=Ah rl;clear rl;obtain⟨qj,Lk⟩:∃y_:List (Y),y_=(wo++[(⟨((aD l0 bA).f0),((aD l0 bA).f1)⟩:Y)]):=⟨_,rfl⟩
      replace H:((some (bx.drop (b5:Int).toNat:List (Y))).bind fun m6=>(if qj.length+m6.length<8796093022208 then(dA.l0 k2 (qj++m6) l0 (l0.length:Int) (wrap64 (bA+1)))else(none)))=some r:=by first|(rw[Lk];with_reducible exact H)|(have aq:=(Option.bind_some _ _).symm.trans H;rw[Lk];with_reducible exact aq)|(have aq:=(Option.bind_some _ _).symm.trans H;with_reducible exact aq)|with_reducible exact H|(rw[Lk];exact H)|exact H
      have Ny131:=Ah Lk;clear Lk;have c34b0:=eq_true (od:0≤b5);have c35b0:=eq_true (od:b5≤(bx.length:Int));obtain⟨m6,Ll⟩:∃y_:List (Y),y_=(bx.drop (b5:Int).toNat):=⟨_,rfl⟩
      replace H:(if qj.length+m6.length<8796093022208 then(dA.l0 k2 (qj++m6) l0 (l0.length:Int) (Gj (bA+1)))else(none))=some r:=by first|(rw[Ll];with_reducible exact H)|(have aq:=(Gm _ _).symm.trans H;rw[Ll];with_reducible exact aq)|(have aq:=(Gm _ _).symm.trans H;with_reducible exact aq)|with_reducible exact H|(rw[Ll];exact H)|exact H
      have YJ:=Ah Ll;clear Ll
      by_cases JM:qj.length+m6.length<8796093022208
      rotate_left
      ·
       rw[if_neg JM]at H;exact absurd H (by simp)
      rw[if_pos JM]at H;have LMc36:=Ah JM;clear JM;obtain⟨y138,Lm⟩:∃y_:List (Y),y_=(qj++m6):=⟨_,rfl⟩
      replace H:(dA.l0 k2 y138 l0 (l0.length:Int) (Gj (bA+1)))=some r:=by first|(rw[Lm];with_reducible exact H)|(have aq:=(Gm _ _).symm.trans H;rw[Lm];with_reducible exact aq)|(have aq:=(Gm _ _).symm.trans H;with_reducible exact aq)|with_reducible exact H|(rw[Lm];exact H)|exact H
      have Ny138:=Ah Lm;clear Lm;have H':=Ah H;clear H
      try go_wp2
      replace bu:=Ah (Kd.bQ bu.out);replace ep:=Ah (cY ep.out);replace HB:=Ah (j7 HB.out);obtain⟨nH,lW,Ag⟩:=Kd.az bu.out;(first|subst Ag|(injection Ag with cR dw cS;have dx:=cR.symm;have dy:=cS.symm;clear cR dw cS;subst dx;subst dy));refine mt (n:=12) (S:=fun w'=>True) (ds:=[]) #[false,false,false,false,false,false,false,false,false,false,false,false] (by kernel_rfl) rfl rfl trivial (fun hHeld=> ?_);refine na dA.sm dA.sb (fun aI cz=> ?_)
      generalize wr.drew=mc at bu ep HB hHeld⊢
      refine b6 0 14 aI.out ?_;refine b6 1 15 aI.out ?_;refine b6 2 16 aI.out ?_;refine b6 3 17 aI.out ?_;refine b6 4 18 aI.out ?_;refine cK 5 19 aI.out ?_;refine cK 6 20 aI.out ?_;refine cK 7 21 aI.out ?_;refine cK 8 22 aI.out ?_;refine cK 9 23 aI.out ?_;refine cK 10 24 aI.out ?_;refine b6 11 25 aI.out ?_;refine jn (kO aI.out (by kernel_rfl)) ?_;have q39:(b5:Int)≤((bx.length:Int):Int):=od;obtain⟨i039,hi039,_,hsz39,_⟩:=info_parts mG;have hroom39:bx.length≤lW:=(Kd.aY bu.out).2.1;have hC39:Kd.C aT _ nH bx.length bx:=(Kd.aY bu.out).2.2;have hcut39:=SJ (P:=Uf) 24 45 .i64 aad hi039 nH bx.length lW b5 (od) q39 hroom39;have Zm:=Kd.yT (m:=(b5:Int).toNat) hC39 (by omega);have hy39:qi.length=(b5:Int).toNat:=(by rw[Lj.out,Ja];omega);rw[←Lj.out]at Zm;rw[←hy39]at hcut39;have Ln:=Ah Zm;have HC127:=Ah (show qi.length≤lW from by omega);clear Zm hC39 hroom39 hi039 hsz39;have KY39:=Ah hy39;clear hy39;have Zn:=Ah (show(b5:Int).toNat≤bx.length from by omega);replace q39:=eq_true q39
      try go_wp2_with (first|((with_reducible refine ik (b:= .append) (xs:= #[.tmp 28,.tmp 31]) rfl ?_);at_builtin;refine Kd.Br aT (w0:=w) w.heap.size rfl (.tmp 28) (.tmp 31) 24 45 (.agg #[(.int .i64 0),(.int .i64 0)]) 16 rfl aad mG rfl (by decide) (by omega) (.slice none 0 0) ([]:List (Y)) qi _ _ _ (fun k_=>some k_≠(.slice nH bx.length lW:Value).ownBlock∧k_≠jo) (fun _=>False) rfl rfl ?aO ?aR (fun _ _ h=>h) (fun _ h=>h.elim) ?aF ?aB ?aS ?aL ?_;(case aR=>repeat(first|exact(by repeat(first|(with_reducible exact Ln.out)|(with_reducible refine Kd.tO ?_ _)|(with_reducible refine Kd.tP ?_ _)|(with_reducible refine Kd.th ?_)|exact Ln.out))|(with_reducible refine Kd.tO ?_ _)|(with_reducible refine Kd.tP ?_ _)|(with_reducible refine Kd.th ?_)));(case aB=>exact(aM HB pR));(case aF=>exact(fun k_ hk=>⟨Kd.fresh' (Kd.i4 (rr bu.out)) k_ hk,Kd.jm (bk ep) k_ hk⟩));(case aO=>exact((Kd.be _ _ _ _ (fun k_=>some k_≠(.slice nH bx.length lW:Value).ownBlock∧k_≠jo))));(case aS=>exact(bE (aM HB pR)));(case aL=>have:=LMc32.out;omega);intro v129 UP ho hb hg hat;rw[←Ny128.out]at ho;replace ep:=Ah (dJ (bk ep) hg (by simp[Value.ownBlock]));replace HB:=Ah (hb);replace Ln:=Ah ((show Kd.C aT UP nH qi.length qi from by rw[Lj.out];exact Kd.yT (m:=(b5:Int).toNat) ((Kd.aY (Kd.pJ (Kd.QN (rr bu.out)) hg hat)).2.2) Zn.out));replace bu:=Ah (Kd.pJ (Kd.QN (rr bu.out)) hg hat);have YK:=Ah (ho);clear ho hb hg hat;obtain⟨H5,H6⟩:=cg ep;obtain⟨H7,H8⟩:=ch ep)|((with_reducible refine ik (b:= .append) (xs:= #[.tmp 33,.tmp 35]) rfl ?_);at_builtin;refine Kd.lM aT (w0:=w) w.heap.size rfl (.tmp 33) (.tmp 35) 24 45 (.agg #[(.int .i64 0),(.int .i64 0)]) 16 rfl aad mG rfl (by decide) (by omega) v129 wo (⟨((aD l0 bA).f0),((aD l0 bA).f1)⟩:Y) [.int .i64 ((aD l0 bA).f0),.int .i64 ((aD l0 bA).f1)] (fun k_=>some k_≠(.slice nH bx.length lW:Value).ownBlock∧k_≠jo) (fun _=>False) rfl rfl ?aP (fun _ hk=>hk.elim) ?aF ?aO ?aB ?aS ?aL ?_;(case aP=>exact ls _ _ _ (⟨((aD l0 bA).f0),((aD l0 bA).f1)⟩:Y));(case aB=>exact(aM HB pR));(case aF=>exact(fun k_ hk=>⟨Kd.fresh' (Kd.i4 (rr bu.out)) k_ hk,Kd.jm (bk ep) k_ hk⟩));(case aO=>exact(rr YK.out));(case aS=>exact(bE (aM HB pR)));(case aL=>have:=YI.out;omega);intro v132 Pm ho hb hg hat;rw[←Ny131.out]at ho;replace ep:=Ah (dJ (bk ep) hg (Kd.jL YK.out (fun _ hk=>hk.2)));replace HB:=Ah (hb);replace Ln:=Ah ((show Kd.C aT Pm nH qi.length qi from by rw[Lj.out];exact Kd.yT (m:=(b5:Int).toNat) ((Kd.aY (Kd.pJ (ok:=(fun k_=>k_≠jo)) (rr bu.out) hg hat)).2.2) Zn.out));replace bu:=Ah (Kd.pJ (ok:=(fun k_=>k_≠jo)) (rr bu.out) hg hat);have YL:=Ah (ho);clear YK;clear ho hb hg hat;have q43:(b5:Int)≤((bx.length:Int):Int):=od;obtain⟨i043,hi043,_,hsz43,_⟩:=info_parts mG;have Vy:bx.length≤lW:=(Kd.aY bu.out).2.1;have hC43:Kd.C aT _ nH bx.length bx:=(Kd.aY bu.out).2.2;have q043:(0:Int)≤(b5:Int):=od;have hcut43:=cut_from (P:=Uf) 24 45 .i64 aad hi043 2 hsz43 nH bx.length lW b5 q043 q43;have Ny:=Kd.SK (m:=(b5:Int).toNat) (c:=lW) hC43 (by omega) Vy;obtain⟨A43,Tn⟩:∃A1,A1=(if lW=(b5:Int).toNat then nH else(nH:Option Addr).map (·.add ((b5:Int).toNat*2))):=⟨_,rfl⟩;obtain⟨t8,Zo⟩:∃c1,c1=lW-(b5:Int).toNat:=⟨_,rfl⟩;have To:m6.length=bx.length-(b5:Int).toNat:=(by rw[YJ.out,SI]<;>omega);rw[show(bx).drop (b5:Int).toNat=m6 from YJ.out.symm]at Ny;replace Ny:Kd.C aT _ A43 m6.length m6:=(by rw[Tn];exact Ny);rw[←To,←Tn,←Zo]at hcut43;have YM:=Ah Ny;have HC137:=Ah (show m6.length≤t8 from by rw[To,Zo];exact Nat.sub_le_sub_right Vy _);clear Ny hC43 Vy hi043 hsz43 Zo;have KY43:=Ah To;have KA43:=Ah Tn;clear To Tn;have KL43:=Ah (show(b5:Int).toNat≤bx.length from by omega);replace q43:=eq_true q43)|((with_reducible refine ik (b:= .append) (xs:= #[.tmp 37,.tmp 40]) rfl ?_);at_builtin;refine Kd.Br aT (w0:=w) w.heap.size rfl (.tmp 37) (.tmp 40) 24 45 (.agg #[(.int .i64 0),(.int .i64 0)]) 16 rfl aad mG rfl (by decide) (by omega) v132 qj m6 _ _ _ (fun k_=>some k_≠(.slice nH bx.length lW:Value).ownBlock∧k_≠jo) (fun _=>False) rfl rfl ?aO ?aR (fun _ _ h=>h) (fun _ h=>h.elim) ?aF ?aB ?aS ?aL ?_;(case aR=>repeat(first|exact(by repeat(first|(with_reducible exact YM.out)|(with_reducible refine Kd.tO ?_ _)|(with_reducible refine Kd.tP ?_ _)|(with_reducible refine Kd.th ?_)|exact YM.out))|(with_reducible refine Kd.tO ?_ _)|(with_reducible refine Kd.tP ?_ _)|(with_reducible refine Kd.th ?_)));(case aB=>exact(aM HB pR));(case aF=>exact(fun k_ hk=>⟨Kd.fresh' (Kd.i4 (rr bu.out)) k_ hk,Kd.jm (bk ep) k_ hk⟩));(case aO=>exact(rr YL.out));(case aS=>exact(bE (aM HB pR)));(case aL=>have:=LMc36.out;omega);intro v139 w44 ho hb hg hat;rw[←Ny138.out]at ho;replace ep:=Ah (dJ (bk ep) hg (Kd.jL YL.out (fun _ hk=>hk.2)));replace HB:=Ah (hb);replace Ln:=Ah ((show Kd.C aT w44 nH qi.length qi from by rw[Lj.out];exact Kd.yT (m:=(b5:Int).toNat) ((Kd.aY (Kd.pJ (ok:=(fun k_=>k_≠jo)) (rr bu.out) hg hat)).2.2) Zn.out));replace YM:=Ah ((show Kd.C aT w44 A43 m6.length m6 from by rw[YJ.out,KA43.out];exact Kd.SK (m:=(b5:Int).toNat) (c:=lW) ((Kd.aY (Kd.pJ (ok:=(fun k_=>k_≠jo)) (rr bu.out) hg hat)).2.2) KL43.out ((Kd.aY (Kd.pJ (ok:=(fun k_=>k_≠jo)) (rr bu.out) hg hat)).2.1)));replace bu:=Ah (Kd.pJ (ok:=(fun k_=>k_≠jo)) (rr bu.out) hg hat);have HO140:=Ah (ho);clear YL;clear ho hb hg hat))
      go_roundg k2
      case measure=>have:=bi.out;have:=eE.out;omega
      case rel=>exact⟨(y138),(Gj (bA+1)),e3,H',⟨by have:=bi.out;have:=eE.out;omega⟩,rm HO140 (fun _ hk=>trivial),⟨aM HB pR⟩⟩
     rw[if_pos c7]at H;have pY:=bJ c7;clear c7
     by_cases c8:0≤b5
     rotate_left
     ·
      rw[if_neg c8]at H;exact absurd H (by simp)
     rw[if_pos c8]at H;have rO:=bJ c8;clear c8;replace H:=Gl.mp H;obtain⟨Zl,DI,H⟩:=H
     try dsimp only at H
     have A9:=Ah DI;clear DI
     by_cases c10:Zl=true
     ·
      subst c10;rw[if_pos rfl]at H;have H':=Ah H;clear H
      try go_wp2
      replace bu:=Ah (Kd.bQ bu.out);replace ep:=Ah (cY ep.out);replace HB:=Ah (j7 HB.out);obtain⟨Ao12,co12,Tp⟩:=Kd.az bu.out;(first|subst Tp|(injection Tp with cR dw cS;have dx:=cR.symm;have dy:=cS.symm;clear cR dw cS;subst dx;subst dy));have FH:0≤(b5:Int):=od;have FI:b5<(bx.length:Int):=od;obtain⟨nu,Zp,KW,KX⟩:=dN (Kd.aY bu.out).2.2 b5 FH FI
      cases Zp
      replace FH:=eq_true FH;replace FI:=eq_true FI;refine mt (n:=12) (S:=fun w'=>w'.cell? ⟨jo,0,none⟩=some (.int .i64 ((aD l0 bA).f0))∧w'.cell? ⟨jo,1,none⟩=some (.int .i64 ((aD l0 bA).f1))∧w'.cell? (nu.add ((b5).toNat*2))=some (.int .i64 ((aD bx b5).f0))∧w'.cell? ⟨(nu.add ((b5).toNat*2)).block,(nu.add ((b5).toNat*2)).off+1,none⟩=some (.int .i64 ((aD bx b5).f1))) (ds:=[]) #[false,false,false,false,false,false,false,false,false,false,false,false] (by kernel_rfl) rfl rfl ⟨(aE ep.out 0).trans rfl,(aE ep.out 1).trans rfl,KW,KX⟩ (fun hHeld=> ?_);refine na dA.sm dA.sb (fun aI cz=> ?_)
      generalize wr.drew=kF at bu ep HB KW KX hHeld⊢
      refine b6 0 14 aI.out ?_;refine b6 1 15 aI.out ?_;refine b6 2 16 aI.out ?_;refine b6 3 17 aI.out ?_;refine b6 4 18 aI.out ?_;refine b6 5 19 aI.out ?_;refine b6 6 20 aI.out ?_;refine b6 7 21 aI.out ?_;refine dv 8 22 aI.out cz.out hHeld (hr:=by rintro w' ⟨s0,s1,s2,s3⟩;go_simp;with_reducible rfl) (h:= ?_);refine dv 9 23 aI.out cz.out hHeld (hr:=by rintro w' ⟨s0,s1,s2,s3⟩;go_simp;with_reducible rfl) (h:= ?_);refine fv (i:=10) (N:=some 24) #[true,true,true,true,true,true,true,true,true,true,true,false] rfl rfl (gJ aI.out (by kernel_rfl)) (by decide) (fun K hK=> ?_);refine gZ Try.func69 (by kernel_rfl) rfl #[.agg #[.int .i64 ((aD bx b5).f0),.int .i64 ((aD bx b5).f1)],.agg #[.int .i64 ((aD l0 bA).f0),.int .i64 ((aD l0 bA).f1)]] (by rfl) rfl rfl (by(try simp only[List.map_toArray,List.map_cons,List.map_nil]);first|done|rfl|(simp only[List.length_drop,List.length_take];rfl)) ?_
      with_reducible refine(Dl.calls ((aD bx b5).f0) ((aD bx b5).f1) ((aD l0 bA).f0) ((aD l0 bA).f1) true _ A9.out).mono ?_
      rintro e pd ⟨rfl,hb⟩;have Zq:=(hb.cell (Gk _ _ (hHeld.2.2.1))).trans (hHeld.2.2.1);have Zr:=(hb.cell (Gk _ _ (hHeld.2.2.2))).trans (hHeld.2.2.2);refine⟨_,rfl, ?_⟩;replace bu:=Ah (Kd.b9 (rr bu.out) hb);replace ep:=Ah (bb ep hb);replace HB:=Ah (aH (aM HB pR) hb);(try clear hb);(try clear hb2);(try clear hk);(try clear hi);refine hK.out _ _ ⟨(aE ep.out 0).trans rfl,(aE ep.out 1).trans rfl,Zq,Zr⟩ (fun hHeld=> ?_);clear hK K;refine nq 24 ?_;refine b6 11 25 aI.out ?_;refine jn (kO aI.out (by kernel_rfl)) ?_
      try go_wp2
      go_roundg k2
      case measure=>have:=bi.out;have:=eE.out;omega
      case rel=>exact⟨(Gj (b5+1)),e3,H',⟨by have:=bi.out;have:=eE.out;omega⟩,⟨rr bu.out⟩,⟨bk ep⟩,⟨aM HB pR⟩⟩
     replace c10:=PT.mpr c10;subst c10;rw[if_neg dr]at H;have c14b0:=eq_true (od:0≤b5)
     by_cases c15:b5≤(bx.length:Int)
     rotate_left
     ·
      rw[if_neg c15]at H;exact absurd H (by simp)
     rw[if_pos c15]at H;have Ee:=eq_true c15;have c15b1:=bJ c15;clear c15;obtain⟨ot,Lo⟩:∃y_:List (Y),y_=(bx.take (b5:Int).toNat):=⟨_,rfl⟩
     replace H:(if([]:List (Y)).length+ot.length<8796093022208 then((some (([]:List (Y))++ot:List (Y))).bind fun sl=>(if sl.length<8796093022208 then((some (sl++[(⟨((aD l0 bA).f0),((aD l0 bA).f1)⟩:Y)]:List (Y))).bind fun y114=>((some (bx.drop (b5:Int).toNat:List (Y))).bind fun ku=>(if y114.length+ku.length<8796093022208 then(dA.l0 k2 (y114++ku) l0 (l0.length:Int) (wrap64 (bA+1)))else(none))))else(none)))else(none))=some r:=by first|(rw[Lo];with_reducible exact H)|(have aq:=(Option.bind_some _ _).symm.trans H;rw[Lo];with_reducible exact aq)|(have aq:=(Option.bind_some _ _).symm.trans H;with_reducible exact aq)|with_reducible exact H|(rw[Lo];exact H)|exact H
     have Lp:=Ah Lo;clear Lo
     by_cases c16:([]:List (Y)).length+ot.length<8796093022208
     rotate_left
     ·
      rw[if_neg c16]at H;exact absurd H (by simp)
     rw[if_pos c16]at H;have LMc16:=Ah c16;clear c16;obtain⟨sl,Lq⟩:∃y_:List (Y),y_=(([]:List (Y))++ot):=⟨_,rfl⟩
     replace H:(if sl.length<8796093022208 then((some (sl++[(⟨((aD l0 bA).f0),((aD l0 bA).f1)⟩:Y)]:List (Y))).bind fun y114=>((some (bx.drop (b5:Int).toNat:List (Y))).bind fun ku=>(if y114.length+ku.length<8796093022208 then(dA.l0 k2 (y114++ku) l0 (l0.length:Int) (wrap64 (bA+1)))else(none))))else(none))=some r:=by first|(rw[Lq];with_reducible exact H)|(have aq:=(Option.bind_some _ _).symm.trans H;rw[Lq];with_reducible exact aq)|(have aq:=(Option.bind_some _ _).symm.trans H;with_reducible exact aq)|with_reducible exact H|(rw[Lq];exact H)|exact H
     have Ny111:=Ah Lq;clear Lq
     by_cases c17:sl.length<8796093022208
     rotate_left
     ·
      rw[if_neg c17]at H;exact absurd H (by simp)
     rw[if_pos c17]at H;have Lr:=Ah c17;clear c17;obtain⟨y114,hy114⟩:∃y_:List (Y),y_=(sl++[(⟨((aD l0 bA).f0),((aD l0 bA).f1)⟩:Y)]):=⟨_,rfl⟩
     replace H:((some (bx.drop (b5:Int).toNat:List (Y))).bind fun ku=>(if y114.length+ku.length<8796093022208 then(dA.l0 k2 (y114++ku) l0 (l0.length:Int) (wrap64 (bA+1)))else(none)))=some r:=by first|(rw[hy114];with_reducible exact H)|(have aq:=(Option.bind_some _ _).symm.trans H;rw[hy114];with_reducible exact aq)|(have aq:=(Option.bind_some _ _).symm.trans H;with_reducible exact aq)|with_reducible exact H|(rw[hy114];exact H)|exact H
     have Ny114:=Ah hy114;clear hy114;have Ls:=eq_true (od:0≤b5);have YN:=eq_true (od:b5≤(bx.length:Int));obtain⟨ku,Lt⟩:∃y_:List (Y),y_=(bx.drop (b5:Int).toNat):=⟨_,rfl⟩
     replace H:(if y114.length+ku.length<8796093022208 then(dA.l0 k2 (y114++ku) l0 (l0.length:Int) (Gj (bA+1)))else(none))=some r:=by first|(rw[Lt];with_reducible exact H)|(have aq:=(Gm _ _).symm.trans H;rw[Lt];with_reducible exact aq)|(have aq:=(Gm _ _).symm.trans H;with_reducible exact aq)|with_reducible exact H|(rw[Lt];exact H)|exact H
     have YO:=Ah Lt;clear Lt
     by_cases c20:y114.length+ku.length<8796093022208
     rotate_left
     ·
      rw[if_neg c20]at H;exact absurd H (by simp)
     rw[if_pos c20]at H;have Lu:=Ah c20;clear c20;obtain⟨y121,Lv⟩:∃y_:List (Y),y_=(y114++ku):=⟨_,rfl⟩
     replace H:(dA.l0 k2 y121 l0 (l0.length:Int) (Gj (bA+1)))=some r:=by first|(rw[Lv];with_reducible exact H)|(have aq:=(Gm _ _).symm.trans H;rw[Lv];with_reducible exact aq)|(have aq:=(Gm _ _).symm.trans H;with_reducible exact aq)|with_reducible exact H|(rw[Lv];exact H)|exact H
     have Ny121:=Ah Lv;clear Lv;have H':=Ah H;clear H
     try go_wp2
     replace bu:=Ah (Kd.bQ bu.out);replace ep:=Ah (cY ep.out);replace HB:=Ah (j7 HB.out);obtain⟨Ai,mz,yk⟩:=Kd.az bu.out;(first|subst yk|(injection yk with cR dw cS;have dx:=cR.symm;have dy:=cS.symm;clear cR dw cS;subst dx;subst dy));have FH:0≤(b5:Int):=od;have FI:b5<(bx.length:Int):=od;obtain⟨nu,Zp,KW,KX⟩:=dN (Kd.aY bu.out).2.2 b5 FH FI
     cases Zp
     replace FH:=eq_true FH;replace FI:=eq_true FI;refine mt (n:=12) (S:=fun w'=>w'.cell? ⟨jo,0,none⟩=some (.int .i64 ((aD l0 bA).f0))∧w'.cell? ⟨jo,1,none⟩=some (.int .i64 ((aD l0 bA).f1))∧w'.cell? (nu.add ((b5).toNat*2))=some (.int .i64 ((aD bx b5).f0))∧w'.cell? ⟨(nu.add ((b5).toNat*2)).block,(nu.add ((b5).toNat*2)).off+1,none⟩=some (.int .i64 ((aD bx b5).f1))) (ds:=[]) #[false,false,false,false,false,false,false,false,false,false,false,false] (by kernel_rfl) rfl rfl ⟨(aE ep.out 0).trans rfl,(aE ep.out 1).trans rfl,KW,KX⟩ (fun hHeld=> ?_);refine na dA.sm dA.sb (fun aI cz=> ?_)
     generalize wr.drew=vS at bu ep HB KW KX hHeld⊢
     refine b6 0 14 aI.out ?_;refine b6 1 15 aI.out ?_;refine b6 2 16 aI.out ?_;refine b6 3 17 aI.out ?_;refine b6 4 18 aI.out ?_;refine b6 5 19 aI.out ?_;refine b6 6 20 aI.out ?_;refine b6 7 21 aI.out ?_;refine dv 8 22 aI.out cz.out hHeld (hr:=by rintro w' ⟨s0,s1,s2,s3⟩;go_simp;with_reducible rfl) (h:= ?_);refine dv 9 23 aI.out cz.out hHeld (hr:=by rintro w' ⟨s0,s1,s2,s3⟩;go_simp;with_reducible rfl) (h:= ?_);refine fv (i:=10) (N:=some 24) #[true,true,true,true,true,true,true,true,true,true,true,false] rfl rfl (gJ aI.out (by kernel_rfl)) (by decide) (fun K hK=> ?_);refine gZ Try.func69 (by kernel_rfl) rfl #[.agg #[.int .i64 ((aD bx b5).f0),.int .i64 ((aD bx b5).f1)],.agg #[.int .i64 ((aD l0 bA).f0),.int .i64 ((aD l0 bA).f1)]] (by rfl) rfl rfl (by(try simp only[List.map_toArray,List.map_cons,List.map_nil]);first|done|rfl|(simp only[List.length_drop,List.length_take];rfl)) ?_
     with_reducible refine(Dl.calls ((aD bx b5).f0) ((aD bx b5).f1) ((aD l0 bA).f0) ((aD l0 bA).f1) false _ A9.out).mono ?_
     rintro e kG ⟨rfl,hb⟩;have Zq:=(hb.cell (Gk _ _ (hHeld.2.2.1))).trans (hHeld.2.2.1);have Zr:=(hb.cell (Gk _ _ (hHeld.2.2.2))).trans (hHeld.2.2.2);refine⟨_,rfl, ?_⟩;replace bu:=Ah (Kd.b9 (rr bu.out) hb);replace ep:=Ah (bb ep hb);replace HB:=Ah (aH (aM HB pR) hb);(try clear hb);(try clear hb2);(try clear hk);(try clear hi);refine hK.out _ _ ⟨(aE ep.out 0).trans rfl,(aE ep.out 1).trans rfl,Zq,Zr⟩ (fun hHeld=> ?_);clear hK K;refine nq 24 ?_;refine b6 11 25 aI.out ?_;refine jn (kO aI.out (by kernel_rfl)) ?_;have q24:(b5:Int)≤((bx.length:Int):Int):=od;obtain⟨i024,hi024,_,hsz24,_⟩:=info_parts mG;have hroom24:bx.length≤mz:=(Kd.aY bu.out).2.1;have hC24:Kd.C aT _ (some nu) bx.length bx:=(Kd.aY bu.out).2.2;have hcut24:=SJ (P:=Uf) 24 45 .i64 aad hi024 (some nu) bx.length mz b5 (od) q24 hroom24;have Zs:=Kd.yT (m:=(b5:Int).toNat) hC24 (by omega);have hy24:ot.length=(b5:Int).toNat:=(by rw[Lp.out,Ja];omega);rw[←Lp.out]at Zs;rw[←hy24]at hcut24;have Lw:=Ah Zs;have HC110:=Ah (show ot.length≤mz from by omega);clear Zs hC24 hroom24 hi024 hsz24;have KY24:=Ah hy24;clear hy24;have Zt:=Ah (show(b5:Int).toNat≤bx.length from by omega);replace q24:=eq_true q24
     try go_wp2_with (first|((with_reducible refine ik (b:= .append) (xs:= #[.tmp 28,.tmp 31]) rfl ?_);at_builtin;refine Kd.Br aT (w0:=w) w.heap.size rfl (.tmp 28) (.tmp 31) 24 45 (.agg #[(.int .i64 0),(.int .i64 0)]) 16 rfl aad mG rfl (by decide) (by omega) (.slice none 0 0) ([]:List (Y)) ot _ _ _ (fun k_=>some k_≠(.slice (some nu) bx.length mz:Value).ownBlock∧k_≠jo) (fun _=>False) rfl rfl ?aO ?aR (fun _ _ h=>h) (fun _ h=>h.elim) ?aF ?aB ?aS ?aL ?_;(case aR=>repeat(first|exact(by repeat(first|(with_reducible exact Lw.out)|(with_reducible refine Kd.tO ?_ _)|(with_reducible refine Kd.tP ?_ _)|(with_reducible refine Kd.th ?_)|exact Lw.out))|(with_reducible refine Kd.tO ?_ _)|(with_reducible refine Kd.tP ?_ _)|(with_reducible refine Kd.th ?_)));(case aB=>exact(aM HB pR));(case aF=>exact(fun k_ hk=>⟨Kd.fresh' (Kd.i4 (rr bu.out)) k_ hk,Kd.jm (bk ep) k_ hk⟩));(case aO=>exact((Kd.be _ _ _ _ (fun k_=>some k_≠(.slice (some nu) bx.length mz:Value).ownBlock∧k_≠jo))));(case aS=>exact(bE (aM HB pR)));(case aL=>have:=LMc16.out;omega);intro v112 ek ho hb hg hat;rw[←Ny111.out]at ho;replace ep:=Ah (dJ (bk ep) hg (by simp[Value.ownBlock]));replace HB:=Ah (hb);replace Lw:=Ah ((show Kd.C aT ek (some nu) ot.length ot from by rw[Lp.out];exact Kd.yT (m:=(b5:Int).toNat) ((Kd.aY (Kd.pJ (Kd.QN (rr bu.out)) hg hat)).2.2) Zt.out));replace bu:=Ah (Kd.pJ (Kd.QN (rr bu.out)) hg hat);have YP:=Ah (ho);clear ho hb hg hat;obtain⟨KY,KZ⟩:=cg ep;obtain⟨Ka,Kb⟩:=ch ep)|((with_reducible refine ik (b:= .append) (xs:= #[.tmp 33,.tmp 35]) rfl ?_);at_builtin;refine Kd.lM aT (w0:=w) w.heap.size rfl (.tmp 33) (.tmp 35) 24 45 (.agg #[(.int .i64 0),(.int .i64 0)]) 16 rfl aad mG rfl (by decide) (by omega) v112 sl (⟨((aD l0 bA).f0),((aD l0 bA).f1)⟩:Y) [.int .i64 ((aD l0 bA).f0),.int .i64 ((aD l0 bA).f1)] (fun k_=>some k_≠(.slice (some nu) bx.length mz:Value).ownBlock∧k_≠jo) (fun _=>False) rfl rfl ?aP (fun _ hk=>hk.elim) ?aF ?aO ?aB ?aS ?aL ?_;(case aP=>exact ls _ _ _ (⟨((aD l0 bA).f0),((aD l0 bA).f1)⟩:Y));(case aB=>exact(aM HB pR));(case aF=>exact(fun k_ hk=>⟨Kd.fresh' (Kd.i4 (rr bu.out)) k_ hk,Kd.jm (bk ep) k_ hk⟩));(case aO=>exact(rr YP.out));(case aS=>exact(bE (aM HB pR)));(case aL=>have:=Lr.out;omega);intro v115 BK ho hb hg hat;rw[←Ny114.out]at ho;replace ep:=Ah (dJ (bk ep) hg (Kd.jL YP.out (fun _ hk=>hk.2)));replace HB:=Ah (hb);replace Lw:=Ah ((show Kd.C aT BK (some nu) ot.length ot from by rw[Lp.out];exact Kd.yT (m:=(b5:Int).toNat) ((Kd.aY (Kd.pJ (ok:=(fun k_=>k_≠jo)) (rr bu.out) hg hat)).2.2) Zt.out));replace bu:=Ah (Kd.pJ (ok:=(fun k_=>k_≠jo)) (rr bu.out) hg hat);have YQ:=Ah (ho);clear YP;clear ho hb hg hat;have q28:(b5:Int)≤((bx.length:Int):Int):=od;obtain⟨i028,hi028,_,hsz28,_⟩:=info_parts mG;have Vz:bx.length≤mz:=(Kd.aY bu.out).2.1;have hC28:Kd.C aT _ (some nu) bx.length bx:=(Kd.aY bu.out).2.2;have q028:(0:Int)≤(b5:Int):=od;have hcut28:=cut_from (P:=Uf) 24 45 .i64 aad hi028 2 hsz28 (some nu) bx.length mz b5 q028 q28;have Nz:=Kd.SK (m:=(b5:Int).toNat) (c:=mz) hC28 (by omega) Vz;obtain⟨A28,Tq⟩:∃A1,A1=(if mz=(b5:Int).toNat then(some nu)else((some nu):Option Addr).map (·.add ((b5:Int).toNat*2))):=⟨_,rfl⟩;obtain⟨c28,hc28⟩:∃c1,c1=mz-(b5:Int).toNat:=⟨_,rfl⟩;have hy28:ku.length=bx.length-(b5:Int).toNat:=(by rw[YO.out,SI]<;>omega);rw[show(bx).drop (b5:Int).toNat=ku from YO.out.symm]at Nz;replace Nz:Kd.C aT _ A28 ku.length ku:=(by rw[Tq];exact Nz);rw[←hy28,←Tq,←hc28]at hcut28;have YR:=Ah Nz;have HC120:=Ah (show ku.length≤c28 from by rw[hy28,hc28];exact Nat.sub_le_sub_right Vz _);clear Nz hC28 Vz hi028 hsz28 hc28;have KY28:=Ah hy28;have KA28:=Ah Tq;clear hy28 Tq;have KL28:=Ah (show(b5:Int).toNat≤bx.length from by omega);replace q28:=eq_true q28)|((with_reducible refine ik (b:= .append) (xs:= #[.tmp 37,.tmp 40]) rfl ?_);at_builtin;refine Kd.Br aT (w0:=w) w.heap.size rfl (.tmp 37) (.tmp 40) 24 45 (.agg #[(.int .i64 0),(.int .i64 0)]) 16 rfl aad mG rfl (by decide) (by omega) v115 y114 ku _ _ _ (fun k_=>some k_≠(.slice (some nu) bx.length mz:Value).ownBlock∧k_≠jo) (fun _=>False) rfl rfl ?aO ?aR (fun _ _ h=>h) (fun _ h=>h.elim) ?aF ?aB ?aS ?aL ?_;(case aR=>repeat(first|exact(by repeat(first|(with_reducible exact YR.out)|(with_reducible refine Kd.tO ?_ _)|(with_reducible refine Kd.tP ?_ _)|(with_reducible refine Kd.th ?_)|exact YR.out))|(with_reducible refine Kd.tO ?_ _)|(with_reducible refine Kd.tP ?_ _)|(with_reducible refine Kd.th ?_)));(case aB=>exact(aM HB pR));(case aF=>exact(fun k_ hk=>⟨Kd.fresh' (Kd.i4 (rr bu.out)) k_ hk,Kd.jm (bk ep) k_ hk⟩));(case aO=>exact(rr YQ.out));(case aS=>exact(bE (aM HB pR)));(case aL=>have:=Lu.out;omega);intro v122 DJ ho hb hg hat;rw[←Ny121.out]at ho;replace ep:=Ah (dJ (bk ep) hg (Kd.jL YQ.out (fun _ hk=>hk.2)));replace HB:=Ah (hb);replace Lw:=Ah ((show Kd.C aT DJ (some nu) ot.length ot from by rw[Lp.out];exact Kd.yT (m:=(b5:Int).toNat) ((Kd.aY (Kd.pJ (ok:=(fun k_=>k_≠jo)) (rr bu.out) hg hat)).2.2) Zt.out));replace YR:=Ah ((show Kd.C aT DJ A28 ku.length ku from by rw[YO.out,KA28.out];exact Kd.SK (m:=(b5:Int).toNat) (c:=mz) ((Kd.aY (Kd.pJ (ok:=(fun k_=>k_≠jo)) (rr bu.out) hg hat)).2.2) KL28.out ((Kd.aY (Kd.pJ (ok:=(fun k_=>k_≠jo)) (rr bu.out) hg hat)).2.1)));replace bu:=Ah (Kd.pJ (ok:=(fun k_=>k_≠jo)) (rr bu.out) hg hat);have HO123:=Ah (ho);clear YQ;clear ho hb hg hat))
     go_roundg k2
     case measure=>have:=bi.out;have:=eE.out;omega
     case rel=>exact⟨(y121),(Gj (bA+1)),e3,H',⟨by have:=bi.out;have:=eE.out;omega⟩,rm HO123 (fun _ hk=>trivial),⟨aM HB pR⟩⟩
def j8.f(k:Nat)(a0:Int)(l1:List (Y)):Option (Int×(List (Y))×(List (Y))):=(some (([]:List (Y)):List (Y))).bind fun wq=>(if wq.length+l1.length<8796093022208 then((dA.f k l1).bind fun t148=>(some (a0,(wq++l1),t148)))else(none))
theorem j8.mono:∀a0 a1 k,aG (j8.f k a0 a1) (j8.f (k+1) a0 a1):=by
 intro a0 a1 k;unfold j8.f
 repeat' with_reducible first|exact dA.mono _ _|exact aG.refl _|exact aG.none _|refine aG.ite ?_ ?_|refine aG.bind ?_ (fun _=> ?_)
theorem j8.calls(k:Nat)(a0:Int)(A1:Option Addr)(c1:Nat)(l1:List (Y))(r1:Int)(r2:List (Y))(r3:List (Y))(w:World)(hr1:Kd.C aT w A1 l1.length l1)(hc1:l1.length≤c1)(h:j8.f k a0 l1=some (r1,r2,r3)):
 Calls Try.prog 34 #[.int .i64 a0,.slice A1 l1.length c1] w fun e w'=>∃df da:Value,e= .returned (.agg #[.int .i64 r1,df,da])∧Kd.R aT 45 w' w.heap.size (fun k_=>some k_≠(da:Value).ownBlock) df r2∧Kd.R aT 45 w' w.heap.size (fun k_=>some k_≠(df:Value).ownBlock) da r3∧Below w.heap.size w w':=by
 have mL:=ig;have HR1:=Ah hr1;have qn:=Ah hc1;clear hr1 hc1;have HB:=Ah (Ud w.heap.size w);have H:((some (([]:List (Y)):List (Y))).bind fun wq=>(if wq.length+l1.length<8796093022208 then((dA.f k l1).bind fun t148=>(some (a0,(wq++l1),t148)))else(none)))=some (r1,r2,r3):=h;clear h;obtain⟨wq,Lx⟩:∃y_:List (Y),y_=(([]:List (Y))):=⟨_,rfl⟩
 replace H:(if wq.length+l1.length<8796093022208 then((dA.f k l1).bind fun t148=>(some (a0,(wq++l1),t148)))else(none))=some (r1,r2,r3):=by first|(rw[Lx];with_reducible exact H)|(have aq:=(Gm _ _).symm.trans H;rw[Lx];with_reducible exact aq)|(have aq:=(Gm _ _).symm.trans H;with_reducible exact aq)|with_reducible exact H|(rw[Lx];exact H)|exact H
 have Ny142:=Ah Lx;clear Lx
 by_cases c3:wq.length+l1.length<8796093022208
 rotate_left
 ·
  rw[if_neg c3]at H;exact absurd H (by simp)
 rw[if_pos c3]at H;have Zu:=Ah c3;clear c3;obtain⟨Tr,Ly⟩:∃y_:List (Y),y_=(wq++l1):=⟨_,rfl⟩
 replace H:((dA.f k l1).bind fun t148=>(some (a0,Tr,t148)))=some (r1,r2,r3):=by first|(rw[Ly];with_reducible exact H)|(have aq:=(Gm _ _).symm.trans H;rw[Ly];with_reducible exact aq)|(have aq:=(Gm _ _).symm.trans H;with_reducible exact aq)|with_reducible exact H|(rw[Ly];exact H)|exact H
 have Ny145:=Ah Ly;clear Ly;replace H:=Gl.mp H;obtain⟨t148,eJ,H⟩:=H
 try dsimp only at H
 have A4:=Ah eJ;clear eJ;simp only[Jh,Ue]at H;obtain⟨rfl,rfl,rfl⟩:=H
 go_enter Try.func34,Try.ntmps34
 go_wp2_with (first|((with_reducible refine ag (N:=4) rfl ?_);refine an 4 26 #[.int .i64 0,.slice none 0 0,.slice none 0 0] ?_;intro Ef hg w5 ux hb;have GW141:=gw hg (bs HB);have Eg:=gw hg (bs HB);replace HB:=Ah (aH (bs HB) hb);clear hb hg)|((with_reducible refine ag (N:=6) rfl ?_);refine Kd.yW aT _ 45 ?hg (N:=6) ?hd (xs:=([]:List (Y))) (inner:=[]) (ok:=fun _=>True) (okp:=fun _=>True) ?hr ?hp (fun _ hk=>hk) trivial (Ud _ _) (QQ _) (by simp) ?_;(case hd=>rfl);(case hg=>rfl);(case hr=>first|(go_simp;done)|(go_simp;rfl));(case hp=>exact(cA.none _ _));intro v143 w6 xj hb i9 hX;clear i9 hX;(first|rw[←Ny142.out]at xj|(simp only[Int.reduceToNat]at xj;rw[←Ny142.out]at xj));have YS:=Ah (Kd.bR xj (bE (aM HB Eg)));replace ux:=nb ux hb;replace HB:=Ah (aH (aM HB Eg) hb);clear hb xj)|((with_reducible refine ik (b:= .append) (xs:= #[.tmp 6,.tmp 7]) rfl ?_);at_builtin;refine Kd.Br aT (w0:=w) w.heap.size rfl (.tmp 6) (.tmp 7) 24 45 (.agg #[(.int .i64 0),(.int .i64 0)]) 16 rfl aad mG rfl (by decide) (by omega) v143 wq l1 _ _ _ (fun _=>True) (fun _=>False) rfl rfl ?aO ?aR (fun _ _ h=>h) (fun _ h=>h.elim) ?aF ?aB ?aS ?aL ?_;(case aR=>exact cb HR1 HB);(case aB=>exact(aM HB Eg));(case aF=>exact(fun _ _=>trivial));(case aO=>exact(rr YS.out));(case aS=>exact(bE (aM HB Eg)));(case aL=>have:=Zu.out;omega);intro v146 w8 ho hb hg hat;rw[←Ny145.out]at ho;replace ux:=Ah (dJ (bk ux) hg (Kd.dX YS.out ux.out (by decide)));replace HB:=Ah (hb);have Lz:=Ah (ho);clear YS;clear ho hb hg hat)|((with_reducible refine bY (f:=53) rfl ?_);refine gL (some 10) rfl rfl Try.func53 (by kernel_rfl) rfl #[.slice A1 l1.length c1] rfl ?_;(with_reducible refine(dA.calls k _ _ l1 t148 _ ?aZ ?ae A4.out).mono ?_);(case aZ=>exact cb HR1 HB);(case ae=>exact qn.out);rintro e w9 ⟨v149,rfl,ho0,hb⟩;refine⟨_,rfl, ?_⟩;have HO150:=Ah (Kd.bR (Kd.k9 ho0 (Kd.i4 (rr Lz.out))) (bE (aM HB Eg)));replace Lz:=Ah (Kd.zN (rr Lz.out) (Kd.jK ho0) hb);replace ux:=nb ux hb;replace HB:=Ah (aH (aM HB Eg) hb);(try clear hb ho0);obtain⟨qF,gP,qk⟩:=Kd.az HO150.out;subst qk;obtain⟨u0,u5,Aj⟩:=Kd.az Lz.out;subst Aj;obtain⟨tQ,tR,yJ⟩:=dE ux;obtain⟨tS,tT,yK⟩:=dF ux))
 refine bodyPost_ret (results_cell_row rfl _ _ Ef 26 #[.int .i64 a0,.slice u0 Tr.length u5,.slice qF t148.length gP] (0,0) _ rfl (pb ux) ig rfl (by kernel_rfl)) rfl ?_;exact⟨_,_,er,by(with_reducible repeat(first|apply Kd.bd|apply Kd.bZ|apply Kd.bQ));exact Kd.ax (Kd.aK (p:=⟨Ef,2,none⟩) (Kd.aK (p:=⟨Ef,1,none⟩) (Kd.aK (p:=⟨Ef,0,none⟩) (Kd.dU Lz.out ux.out (by decide)) (fun _ hk=>hk.2) (.int .i64 a0)) (fun _ hk=>hk.2) (.slice u0 Tr.length u5)) (fun _ hk=>hk.2) (.slice qF t148.length gP)) (fun _ hk=>hk.1.2),by(with_reducible repeat(first|apply Kd.bd|apply Kd.bZ|apply Kd.bQ));exact Kd.ax (Kd.aK (p:=⟨Ef,2,none⟩) (Kd.aK (p:=⟨Ef,1,none⟩) (Kd.aK (p:=⟨Ef,0,none⟩) (Kd.dU HO150.out ux.out (by decide)) (fun _ hk=>hk.2) (.int .i64 a0)) (fun _ hk=>hk.2) (.slice u0 Tr.length u5)) (fun _ hk=>hk.2) (.slice qF t148.length gP)) (fun _ hk=>hk.1.2),aM HB Eg⟩
def pF.f(k:Nat)(a0:Int):Option (Int×(List (Y))×(List (Y))×Int×(List (aJ))×Bool):=(lr.f a0 1 400).bind fun t152=>(if t152=true then((j8.f k a0 ([]:List (Y))).bind fun Eh=>(some (Eh.1,Eh.2.1,Eh.2.2,1,([]:List (aJ)),true)))else(some (0,([]:List (Y)),([]:List (Y)),0,([]:List (aJ)),false)))
theorem pF.mono:∀a0 k,aG (pF.f k a0) (pF.f (k+1) a0):=by
 intro a0 k;unfold pF.f
 repeat' with_reducible first|exact j8.mono _ _ _|exact aG.refl _|exact aG.none _|refine aG.ite ?_ ?_|refine aG.bind ?_ (fun _=> ?_)
theorem pF.calls(k:Nat)(a0:Int)(r1:Int)(r2:List (Y))(r3:List (Y))(r4:Int)(r5:List (aJ))(r6:Bool)(w:World)(h:pF.f k a0=some (r1,r2,r3,r4,r5,r6)):
 Calls Try.prog 16 #[.int .i64 a0] w fun e w'=>∃df da kH:Value,e= .returned (.tuple #[.agg #[.int .i64 r1,df,da,.int .i64 r4,kH],.bool r6])∧Kd.R aT 45 w' w.heap.size (fun k_=>some k_≠(da:Value).ownBlock) df r2∧Kd.R aT 45 w' w.heap.size (fun k_=>some k_≠(df:Value).ownBlock) da r3∧Kd.R b8 66 w' w.heap.size (fun _=>True) kH r5∧Below w.heap.size w w':=by
 have sn:=cp;have HB:=Ah (Ud w.heap.size w);have H:((lr.f a0 1 400).bind fun t152=>(if t152=true then((j8.f k a0 ([]:List (Y))).bind fun Eh=>(some (Eh.1,Eh.2.1,Eh.2.2,1,([]:List (aJ)),true)))else(some (0,([]:List (Y)),([]:List (Y)),0,([]:List (aJ)),false))))=some (r1,r2,r3,r4,r5,r6):=h;clear h;replace H:=Gl.mp H;obtain⟨t152,lq,H⟩:=H
 try dsimp only at H
 have A2:=Ah lq;clear lq
 by_cases c3:t152=true
 rotate_left
 ·
  replace c3:=PT.mpr c3;subst c3;rw[if_neg dr]at H;simp only[Jh,Ue]at H;obtain⟨rfl,rfl,rfl,rfl,rfl,rfl⟩:=H
  go_enter Try.func16,Try.ntmps16
  go_wp2_with (first|((with_reducible refine ag (N:=2) rfl ?_);refine an 2 29 #[.int .i64 0,.slice none 0 0,.slice none 0 0,.int .i64 0,.slice none 0 0] ?_;intro rH hg lp py hb;have GW151:=gw hg (bs HB);have Ca:=gw hg (bs HB);replace HB:=Ah (aH (bs HB) hb);clear hb hg)|((with_reducible refine bY (f:=33) rfl ?_);refine gL (some 5) rfl rfl Try.func33 (by kernel_rfl) rfl #[.int .i64 a0,.int .i64 1,.int .i64 400] rfl ?_;(with_reducible refine(lr.calls a0 1 400 false _ A2.out).mono ?_);rintro e w' ⟨rfl,⟨nd,rfl⟩⟩;refine⟨_,rfl, ?_⟩;(try(rw[Gp lp];generalize kX:aao lp _=lp;have fI:Z (lp.heap[rH]?=some (.cells #[.int .i64 0,.slice none 0 0,.slice none 0 0,.int .i64 0,.slice none 0 0] 29 (0,0))):=⟨by rw[←kX];exact(bk py)⟩;have eU:Z (Below w.heap.size w lp):=⟨by rw[←kX];exact(aM HB Ca)⟩;clear py HB kX;have py:=fI;have HB:=eU;clear fI eU));obtain⟨oO,oP,qx,sK,sL⟩:=aj py;obtain⟨oQ,oR,qy,sM,sN⟩:=ai py))
  refine bodyPost_ret (iU rfl _ _ rH 29 #[.int .i64 0,.slice none 0 0,.slice none 0 0,.int .i64 0,.slice none 0 0] (0,0) _ rfl (pb py) cp rfl (by kernel_rfl)) rfl ?_;exact⟨_,_,_,er,by first|exact Kd.be _ _ _ _ _|exact Kd.ce _ _ _ _ _|exact Kd.cf _ _ _ _ _|exact Kd.cZ _ _ _ _ _|exact Kd.ca _ _ _ _ _,by first|exact Kd.be _ _ _ _ _|exact Kd.ce _ _ _ _ _|exact Kd.cf _ _ _ _ _|exact Kd.cZ _ _ _ _ _|exact Kd.ca _ _ _ _ _,by first|exact Kd.be _ _ _ _ _|exact Kd.ce _ _ _ _ _|exact Kd.cf _ _ _ _ _|exact Kd.cZ _ _ _ _ _|exact Kd.ca _ _ _ _ _,aM HB Ca⟩
 subst c3;rw[if_pos rfl]at H;replace H:=Gl.mp H;obtain⟨⟨Ts,t154,t157⟩,eJ,H⟩:=H
 try dsimp only at H
 have A4:=Ah eJ;clear eJ;simp only[Jh,Ue]at H;obtain⟨rfl,rfl,rfl,rfl,rfl,rfl⟩:=H
 go_enter Try.func16,Try.ntmps16
 go_wp2_with (first|((with_reducible refine ag (N:=2) rfl ?_);refine an 2 29 #[.int .i64 0,.slice none 0 0,.slice none 0 0,.int .i64 0,.slice none 0 0] ?_;intro rH hg w5 py hb;have GW151:=gw hg (bs HB);have Ca:=gw hg (bs HB);replace HB:=Ah (aH (bs HB) hb);clear hb hg)|((with_reducible refine bY (f:=33) rfl ?_);refine gL (some 5) rfl rfl Try.func33 (by kernel_rfl) rfl #[.int .i64 a0,.int .i64 1,.int .i64 400] rfl ?_;(with_reducible refine(lr.calls a0 1 400 true _ A2.out).mono ?_);rintro e w' ⟨rfl,⟨nd,rfl⟩⟩;refine⟨_,rfl, ?_⟩;(try(rw[Gp w5];generalize kX:aao w5 _=w5;have fI:Z (w5.heap[rH]?=some (.cells #[.int .i64 0,.slice none 0 0,.slice none 0 0,.int .i64 0,.slice none 0 0] 29 (0,0))):=⟨by rw[←kX];exact(bk py)⟩;have eU:Z (Below w.heap.size w w5):=⟨by rw[←kX];exact(aM HB Ca)⟩;clear py HB kX;have py:=fI;have HB:=eU;clear fI eU)))|((with_reducible refine bY (f:=34) rfl ?_);refine gL (some 9) rfl rfl Try.func34 (by kernel_rfl) rfl #[.int .i64 a0,.slice none 0 0] rfl ?_;(refine(j8.calls k a0 _ _ ([]:List (Y)) Ts t154 t157 _ ?aZ ?ae A4.out).mono ?_);(case aZ=>exact Kd.C_nil _ _);(case ae=>exact QQ _);rintro e w6 ⟨v155,v158,rfl,ho0,ho1,hb⟩;refine⟨_,rfl, ?_⟩;have HO156:=Ah (Kd.bR ho0 (bE (aM HB Ca)));have HO159:=Ah (Kd.bR ho1 (bE (aM HB Ca)));replace py:=nb py hb;replace HB:=Ah (aH (aM HB Ca) hb);(try clear hb ho0 ho1);obtain⟨qO,nM,GX⟩:=Kd.az HO159.out;subst GX;obtain⟨xk,xl,eo8⟩:=Kd.az HO156.out;subst eo8;obtain⟨rD,rE,wN,LW,LX⟩:=aj py;obtain⟨rF,rG,wO,LY,LZ⟩:=ai py))
 refine bodyPost_ret (iU rfl _ _ rH 29 #[.int .i64 Ts,.slice xk t154.length xl,.slice qO t157.length nM,.int .i64 1,.slice none 0 0] (0,0) _ rfl (pb py) cp rfl (by kernel_rfl)) rfl ?_;exact⟨_,_,_,er,by(with_reducible repeat(first|apply Kd.bd|apply Kd.bZ|apply Kd.bQ));exact Kd.ax (Kd.aK (p:=⟨rH,4,none⟩) (Kd.aK (p:=⟨rH,3,none⟩) (Kd.aK (p:=⟨rH,2,none⟩) (Kd.aK (p:=⟨rH,1,none⟩) (Kd.aK (p:=⟨rH,0,none⟩) (Kd.dU HO156.out py.out (by decide)) (fun _ hk=>hk.2) (.int .i64 Ts)) (fun _ hk=>hk.2) (.slice xk t154.length xl)) (fun _ hk=>hk.2) (.slice qO t157.length nM)) (fun _ hk=>hk.2) (.int .i64 1)) (fun _ hk=>hk.2) (.slice none 0 0)) (fun _ hk=>hk.1),by(with_reducible repeat(first|apply Kd.bd|apply Kd.bZ|apply Kd.bQ));exact Kd.ax (Kd.aK (p:=⟨rH,4,none⟩) (Kd.aK (p:=⟨rH,3,none⟩) (Kd.aK (p:=⟨rH,2,none⟩) (Kd.aK (p:=⟨rH,1,none⟩) (Kd.aK (p:=⟨rH,0,none⟩) (Kd.dU HO159.out py.out (by decide)) (fun _ hk=>hk.2) (.int .i64 Ts)) (fun _ hk=>hk.2) (.slice xk t154.length xl)) (fun _ hk=>hk.2) (.slice qO t157.length nM)) (fun _ hk=>hk.2) (.int .i64 1)) (fun _ hk=>hk.2) (.slice none 0 0)) (fun _ hk=>hk.1),by first|exact Kd.be _ _ _ _ _|exact Kd.ce _ _ _ _ _|exact Kd.cf _ _ _ _ _|exact Kd.cZ _ _ _ _ _|exact Kd.ca _ _ _ _ _,aM HB Ca⟩
def nZ.f(k:Nat)(aA:Int)(X:List (Y))(aC:List (Y))(aV:Int)(aU:List (aJ)):Option (Int×(List (Y))×(List (Y))×Int×(List (aJ))):=(j8.f k aA X).bind fun Ei=>((some (([]:List (aJ)):List (aJ))).bind fun ws=>(if ws.length+aU.length<3518437208883 then(some (Ei.1,Ei.2.1,Ei.2.2,aV,(ws++aU)))else(none)))
theorem nZ.mono:∀a0 a1 a2 a3 a4 k,aG (nZ.f k a0 a1 a2 a3 a4) (nZ.f (k+1) a0 a1 a2 a3 a4):=by
 intro a0 a1 a2 a3 a4 k;unfold nZ.f
 repeat' with_reducible first|exact j8.mono _ _ _|exact aG.refl _|exact aG.none _|refine aG.ite ?_ ?_|refine aG.bind ?_ (fun _=> ?_)
theorem nZ.calls(k:Nat)(aA:Int)(af:Option Addr)(aa:Nat)(X:List (Y))(ab:Option Addr)(ac:Nat)(aC:List (Y))(aV:Int)(bG:Option Addr)(bH:Nat)(aU:List (aJ))(r1:Int)(r2:List (Y))(r3:List (Y))(r4:Int)(r5:List (aJ))(w:World)(dO:Kd.C aT w af X.length X)(dP:X.length≤aa)(dQ:Kd.C aT w ab aC.length aC)(dR:aC.length≤ac)(gu:Kd.C b8 w bG aU.length aU)(gy:aU.length≤bH)(h:nZ.f k aA X aC aV aU=some (r1,r2,r3,r4,r5)):
 Calls Try.prog 20 #[.agg #[.int .i64 aA,.slice af X.length aa,.slice ab aC.length ac,.int .i64 aV,.slice bG aU.length bH]] w fun e w'=>∃df da kH:Value,e= .returned (.agg #[.int .i64 r1,df,da,.int .i64 r4,kH])∧Kd.R aT 45 w' w.heap.size (fun k_=>some k_≠(da:Value).ownBlock) df r2∧Kd.R aT 45 w' w.heap.size (fun k_=>some k_≠(df:Value).ownBlock) da r3∧Kd.R b8 66 w' w.heap.size (fun _=>True) kH r5∧Below w.heap.size w w':=by
 have sn:=cp;have mL:=ig;have bo:=Ah dO;have cU:=Ah dP;clear dO dP;have cn:=Ah dQ;have co:=Ah dR;clear dQ dR;have fF:=Ah gu;have fL:=Ah gy;clear gu gy;have HB:=Ah (Ud w.heap.size w);have H:((j8.f k aA X).bind fun Ei=>((some (([]:List (aJ)):List (aJ))).bind fun ws=>(if ws.length+aU.length<3518437208883 then(some (Ei.1,Ei.2.1,Ei.2.2,aV,(ws++aU)))else(none))))=some (r1,r2,r3,r4,r5):=h;clear h;replace H:=Gl.mp H;obtain⟨⟨t162,Cu,Cv⟩,lq,H⟩:=H
 try dsimp only at H
 have A2:=Ah lq;clear lq;obtain⟨ws,M0⟩:∃y_:List (aJ),y_=(([]:List (aJ))):=⟨_,rfl⟩
 replace H:(if ws.length+aU.length<3518437208883 then(some (t162,Cu,Cv,aV,(ws++aU)))else(none))=some (r1,r2,r3,r4,r5):=by first|(rw[M0];with_reducible exact H)|(have aq:=(Gm _ _).symm.trans H;rw[M0];with_reducible exact aq)|(have aq:=(Gm _ _).symm.trans H;with_reducible exact aq)|with_reducible exact H|(rw[M0];exact H)|exact H
 have Ny169:=Ah M0;clear M0
 by_cases c3:ws.length+aU.length<3518437208883
 rotate_left
 ·
  rw[if_neg c3]at H;exact absurd H (by simp)
 rw[if_pos c3]at H;have Zu:=Ah c3;clear c3;obtain⟨Cw,M1⟩:∃y_:List (aJ),y_=(ws++aU):=⟨_,rfl⟩
 replace H:(some (t162,Cu,Cv,aV,Cw))=some (r1,r2,r3,r4,r5):=by first|(rw[M1];with_reducible exact H)|(have aq:=(Gm _ _).symm.trans H;rw[M1];with_reducible exact aq)|(have aq:=(Gm _ _).symm.trans H;with_reducible exact aq)|with_reducible exact H|(rw[M1];exact H)|exact H
 have Ny172:=Ah M1;clear M1;simp only[Jh,Ue]at H;obtain⟨rfl,rfl,rfl,rfl,rfl⟩:=H
 go_enter Try.func20,Try.ntmps20
 go_wp2_with (first|((with_reducible refine ag (N:=1) rfl ?_);refine an 1 29 #[.int .i64 aA,.slice af X.length aa,.slice ab aC.length ac,.int .i64 aV,.slice bG aU.length bH] ?_;intro Sj hg w4 lu hb;have GW160:=gw hg (bs HB);have wU:=gw hg (bs HB);replace HB:=Ah (aH (bs HB) hb);clear hb hg)|((with_reducible refine ag (N:=2) rfl ?_);refine an 2 29 #[.int .i64 0,.slice none 0 0,.slice none 0 0,.int .i64 0,.slice none 0 0] ?_;intro qa hg w5 tj hb;have GW161:=gw hg (aM HB wU);have Cb:=gw hg (aM HB wU);replace HB:=Ah (aH (aM HB wU) hb);have NB160_161:=nn lu hg;have Ux:=nm lu hg;replace lu:=nb lu hb;clear hb hg;have Nw:=NB160_161.out;have Nx:=Ux.out;obtain⟨pr,pt,yU,SP,SQ⟩:=aj lu;obtain⟨pu,pv,yV,SR,SS⟩:=ai lu)|((with_reducible refine bY (f:=34) rfl ?_);refine gL (some 9) rfl rfl Try.func34 (by kernel_rfl) rfl #[.int .i64 aA,.slice af X.length aa] rfl ?_;(with_reducible refine(j8.calls k aA _ _ X t162 Cu Cv _ ?aZ ?ae A2.out).mono ?_);(case aZ=>exact cb bo HB);(case ae=>exact cU.out);rintro e w8 ⟨v164,v167,rfl,ho0,ho1,hb⟩;refine⟨_,rfl, ?_⟩;have IQ:=Ah (Kd.bR ho0 (bE (am HB wU Cb)));have IR:=Ah (Kd.bR ho1 (bE (am HB wU Cb)));replace lu:=nb lu hb;replace tj:=nb tj hb;replace HB:=Ah (aH (am HB wU Cb) hb);(try clear hb ho0 ho1);obtain⟨rD,rE,wN,LW,LX⟩:=aj lu;obtain⟨rF,rG,wO,LY,LZ⟩:=ai lu;obtain⟨qF,gP,qk⟩:=Kd.az IQ.out;subst qk;obtain⟨u0,u5,Aj⟩:=Kd.az IR.out;subst Aj)|((with_reducible refine ag (N:=11) rfl ?_);refine Kd.yW b8 _ 66 ?hg (N:=11) ?hd (xs:=([]:List (aJ))) (inner:=[]) (ok:=fun _=>True) (okp:=fun _=>True) ?hr ?hp (fun _ hk=>hk) trivial (Ud _ _) (QQ _) (by simp) ?_;(case hd=>rfl);(case hg=>rfl);(case hr=>first|(go_simp;done)|(go_simp;rfl));(case hp=>exact(cA.none _ _));intro v170 ef wt hb i9 hX;clear i9 hX;(first|rw[←Ny169.out]at wt|(simp only[Int.reduceToNat]at wt;rw[←Ny169.out]at wt));replace IQ:=nf IQ lu hb;replace IR:=nf IR lu hb;have IS:=Ah (Kd.bR wt (bE (am HB wU Cb)));replace lu:=Ah (bT (g:=Sj) (o:= .cells #[.int .i64 t162,.slice qF Cu.length gP,.slice u0 Cv.length u5,.int .i64 aV,.slice bG aU.length bH] 29 (0,0)) (pb lu) hb);replace tj:=Ah (bT (bf tj Ux) hb);replace HB:=Ah (aH (am HB wU Cb) hb);clear hb wt;obtain⟨sG,sH,E6,H9,HG⟩:=aj lu;obtain⟨sI,sJ,E7,HH,HI⟩:=ai lu)|((with_reducible refine ik (b:= .append) (xs:= #[.tmp 11,.tmp 13]) rfl ?_);at_builtin;refine Kd.Br b8 (w0:=w) w.heap.size rfl (.tmp 11) (.tmp 13) 27 66 (.agg #[(.int .i64 0),(.int .i64 0),(.int .i64 0),(.int .i64 0),(.int .i64 0)]) 40 rfl aax sY rfl (by decide) (by omega) v170 ws aU _ _ _ (fun _=>True) (fun _=>False) rfl rfl ?aO ?aR (fun _ _ h=>h) (fun _ h=>h.elim) ?aF ?aB ?aS ?aL ?_;(case aR=>exact cb fF HB);(case aB=>exact(am HB wU Cb));(case aF=>exact(fun _ _=>trivial));(case aO=>exact(rr IS.out));(case aS=>exact(bE (am HB wU Cb)));(case aL=>have:=Zu.out;omega);intro v173 yp ho hb hg hat;rw[←Ny172.out]at ho;replace lu:=Ah (dJ (bk lu) hg (Kd.dX IS.out lu.out (by decide)));replace tj:=Ah (dJ (bk tj) hg (Kd.dX IS.out tj.out (by decide)));replace IQ:=Ah (Kd.pK (rr IQ.out) (Kd.lN (rr IS.out)) (by decide) hg);replace IR:=Ah (Kd.pK (rr IR.out) (Kd.lN (rr IS.out)) (by decide) hg);replace HB:=Ah (hb);have HO174:=Ah (ho);clear IS;clear ho hb hg hat;obtain⟨FJ,FL,eo16⟩:=Kd.az HO174.out;subst eo16;obtain⟨sO,ub,za,W3,W4⟩:=aj lu;obtain⟨sP,uc,zb,W5,W7⟩:=ai lu;obtain⟨vv,vw,zc,zd,ze⟩:=aj tj;obtain⟨vx,vy,zf,zg,zh⟩:=ai tj))
 refine bodyPost_ret (results_cell_row rfl _ _ qa 29 #[.int .i64 t162,.slice qF Cu.length gP,.slice u0 Cv.length u5,.int .i64 aV,.slice FJ Cw.length FL] (0,0) _ rfl (B4 tj Ux) cp rfl (by kernel_rfl)) rfl ?_;exact⟨_,_,_,er,by(with_reducible repeat(first|apply Kd.bd|apply Kd.bZ|apply Kd.bQ));exact Kd.ax (Kd.aK (p:=⟨qa,4,none⟩) (Kd.aK (p:=⟨qa,3,none⟩) (Kd.aK (p:=⟨qa,2,none⟩) (Kd.aK (p:=⟨qa,1,none⟩) (Kd.aK (p:=⟨qa,0,none⟩) (Kd.aK (p:=⟨Sj,4,none⟩) (Kd.dU (Kd.dU IQ.out lu.out (by decide)) tj.out (by decide)) (fun _ hk=>hk.1.2) (.slice FJ Cw.length FL)) (fun _ hk=>hk.2) (.int .i64 t162)) (fun _ hk=>hk.2) (.slice qF Cu.length gP)) (fun _ hk=>hk.2) (.slice u0 Cv.length u5)) (fun _ hk=>hk.2) (.int .i64 aV)) (fun _ hk=>hk.2) (.slice FJ Cw.length FL)) (fun _ hk=>hk.1.1),by(with_reducible repeat(first|apply Kd.bd|apply Kd.bZ|apply Kd.bQ));exact Kd.ax (Kd.aK (p:=⟨qa,4,none⟩) (Kd.aK (p:=⟨qa,3,none⟩) (Kd.aK (p:=⟨qa,2,none⟩) (Kd.aK (p:=⟨qa,1,none⟩) (Kd.aK (p:=⟨qa,0,none⟩) (Kd.aK (p:=⟨Sj,4,none⟩) (Kd.dU (Kd.dU IR.out lu.out (by decide)) tj.out (by decide)) (fun _ hk=>hk.1.2) (.slice FJ Cw.length FL)) (fun _ hk=>hk.2) (.int .i64 t162)) (fun _ hk=>hk.2) (.slice qF Cu.length gP)) (fun _ hk=>hk.2) (.slice u0 Cv.length u5)) (fun _ hk=>hk.2) (.int .i64 aV)) (fun _ hk=>hk.2) (.slice FJ Cw.length FL)) (fun _ hk=>hk.1.1),by(with_reducible repeat(first|apply Kd.bd|apply Kd.bZ|apply Kd.bQ));exact Kd.ax (Kd.aK (p:=⟨qa,4,none⟩) (Kd.aK (p:=⟨qa,3,none⟩) (Kd.aK (p:=⟨qa,2,none⟩) (Kd.aK (p:=⟨qa,1,none⟩) (Kd.aK (p:=⟨qa,0,none⟩) (Kd.aK (p:=⟨Sj,4,none⟩) (Kd.dU (Kd.dU HO174.out lu.out (by decide)) tj.out (by decide)) (fun _ hk=>hk.1.2) (.slice FJ Cw.length FL)) (fun _ hk=>hk.2) (.int .i64 t162)) (fun _ hk=>hk.2) (.slice qF Cu.length gP)) (fun _ hk=>hk.2) (.slice u0 Cv.length u5)) (fun _ hk=>hk.2) (.int .i64 aV)) (fun _ hk=>hk.2) (.slice FJ Cw.length FL)) (fun _ hk=>trivial),am HB wU Cb⟩
def xz.f(aA:Int)(bN:Int)(a1:Int):Option (Bool):=if aA≥0 then((lr.f bN 1 a1).bind fun O0=>(if O0=true then(some (decide (aA≤(Gj (a1-bN)))))else(some false)))else(some false)
theorem xz.calls(aA:Int)(bN:Int)(a1:Int)(r:Bool)(w:World)(h:xz.f aA bN a1=some r):
 Calls Uf 55 #[.agg #[.int .i64 aA,.int .i64 bN],.int .i64 a1] w fun e w'=>e= .returned (.bool r)∧Below w.heap.size w w':=by
 have jT:=fk;have HB:=Ah (Ud w.heap.size w);have H:(if aA≥0 then((lr.f bN 1 a1).bind fun O0=>(if O0=true then(some (decide (aA≤(Gj (a1-bN)))))else(some false)))else(some false))=some r:=h;clear h
 by_cases c3:aA≥0
 rotate_left
 ·
  rw[if_neg c3]at H;have dc:=dn c3;clear c3;obtain rfl:=Gn H
  go_enter Try.func55,Try.ntmps55
  go_wp2_with (first|((with_reducible refine ag (N:=2) rfl ?_);refine an 2 45 #[.int .i64 aA,.int .i64 bN] ?_;intro gb175 hg lp Cc hb;have GW175:=gw hg (bs HB);have M2:=gw hg (bs HB);replace HB:=Ah (aH (bs HB) hb);clear hb hg;obtain⟨oO,oP⟩:=cg Cc;obtain⟨oQ,oR⟩:=ch Cc))
  go_ret
  exact⟨er,aM HB M2⟩
 rw[if_pos c3]at H;have dc:=bJ c3;clear c3;replace H:=Gl.mp H;obtain⟨O0,eJ,H⟩:=H
 try dsimp only at H
 have A4:=Ah eJ;clear eJ
 by_cases c5:O0=true
 ·
  subst c5;rw[if_pos rfl]at H;obtain rfl:=Gn H
  go_enter Try.func55,Try.ntmps55
  go_wp2_with (first|((with_reducible refine ag (N:=2) rfl ?_);refine an 2 45 #[.int .i64 aA,.int .i64 bN] ?_;intro gb175 hg w6 Cc hb;have GW175:=gw hg (bs HB);have M2:=gw hg (bs HB);replace HB:=Ah (aH (bs HB) hb);clear hb hg;obtain⟨pr,pt⟩:=cg Cc;obtain⟨pu,pv⟩:=ch Cc)|(go_at_call 33;(with_reducible refine(lr.calls bN 1 a1 true _ A4.out).mono ?_);rintro e w' ⟨rfl,⟨nd,rfl⟩⟩))
  go_ret
  exact⟨er,aM HB M2⟩
 replace c5:=PT.mpr c5;subst c5;rw[if_neg dr]at H;obtain rfl:=Gn H
 go_enter Try.func55,Try.ntmps55
 go_wp2_with (first|((with_reducible refine ag (N:=2) rfl ?_);refine an 2 45 #[.int .i64 aA,.int .i64 bN] ?_;intro gb175 hg w8 Cc hb;have GW175:=gw hg (bs HB);have M2:=gw hg (bs HB);replace HB:=Ah (aH (bs HB) hb);clear hb hg;obtain⟨rD,rE⟩:=cg Cc;obtain⟨rF,rG⟩:=ch Cc)|(go_at_call 33;(with_reducible refine(lr.calls bN 1 a1 false _ A4.out).mono ?_);rintro e w' ⟨rfl,⟨nd,rfl⟩⟩))
 go_ret
 exact⟨er,aM HB M2⟩
def xv.f(aA:Int)(bN:Int)(aN:Int)(aQ:Int):Option (Bool):=if aA<(Gj (aN+aQ))then(some (decide (aN<(Gj (aA+bN)))))else(some false)
theorem xv.calls(aA:Int)(bN:Int)(aN:Int)(aQ:Int)(r:Bool)(w:World)(h:xv.f aA bN aN aQ=some r):
 Calls Uf 56 #[.agg #[.int .i64 aA,.int .i64 bN],.agg #[.int .i64 aN,.int .i64 aQ]] w fun e w'=>e= .returned (.bool r)∧Below w.heap.size w w':=by
 have jT:=fk;have HB:=Ah (Ud w.heap.size w);have H:(if aA<(Gj (aN+aQ))then(some (decide (aN<(Gj (aA+bN)))))else(some false))=some r:=h;clear h
 by_cases c3:aA<(Gj (aN+aQ))
 ·
  rw[if_pos c3]at H;have dc:=bJ c3;clear c3;obtain rfl:=Gn H
  go_enter Try.func56,Try.ntmps56
  go_wp2_with (first|((with_reducible refine ag (N:=2) rfl ?_);refine an 2 45 #[.int .i64 aA,.int .i64 bN] ?_;intro gb177 hg w4 tk hb;have GW177:=gw hg (bs HB);have AM:=gw hg (bs HB);replace HB:=Ah (aH (bs HB) hb);clear hb hg)|((with_reducible refine ag (N:=3) rfl ?_);refine an 3 45 #[.int .i64 aN,.int .i64 aQ] ?_;intro gb178 hg w5 M3 hb;have GW178:=gw hg (aM HB AM);have YT:=gw hg (aM HB AM);replace HB:=Ah (aH (aM HB AM) hb);have Uy:=nn tk hg;have Uz:=nm tk hg;replace tk:=nb tk hb;clear hb hg;have Nw:=Uy.out;have Nx:=Uz.out;obtain⟨pr,pt⟩:=cg tk;obtain⟨pu,pv⟩:=ch tk;obtain⟨r9,rA⟩:=cg M3;obtain⟨rB,rC⟩:=ch M3))
  go_ret
  exact⟨er,am HB AM YT⟩
 rw[if_neg c3]at H;have dc:=dn c3;clear c3;obtain rfl:=Gn H
 go_enter Try.func56,Try.ntmps56
 go_wp2_with (first|((with_reducible refine ag (N:=2) rfl ?_);refine an 2 45 #[.int .i64 aA,.int .i64 bN] ?_;intro gb177 hg w9 tk hb;have GW177:=gw hg (bs HB);have AM:=gw hg (bs HB);replace HB:=Ah (aH (bs HB) hb);clear hb hg)|((with_reducible refine ag (N:=3) rfl ?_);refine an 3 45 #[.int .i64 aN,.int .i64 aQ] ?_;intro gb178 hg lp M3 hb;have GW178:=gw hg (aM HB AM);have YT:=gw hg (aM HB AM);replace HB:=Ah (aH (aM HB AM) hb);have Uy:=nn tk hg;have Uz:=nm tk hg;replace tk:=nb tk hb;clear hb hg;have Sk:=Uy.out;have Sl:=Uz.out;obtain⟨tQ,tR⟩:=cg tk;obtain⟨tS,tT⟩:=ch tk;obtain⟨oK,oL⟩:=cg M3;obtain⟨oM,oN⟩:=ch M3))
 go_ret
 exact⟨er,am HB AM YT⟩
mutual
def br.l0:Nat→List (aJ)→Int→List (aJ)→Int→Int→Int→List (Y)→List (Y)→Option (Int×Bool)
 |0,_,_,_,_,_,_,_,_=>none
 |k+1,x1,x6,eD,fz,di,oS,ni,pL=>if di<fz then(if 0≤di then(if di<(eD.length:Int)then(if((U eD di).f0)=1 then(if((U eD di).f1)=x6 then(if((U eD di).f3)=0 then((xz.f ((U eD di).f2.f0) ((U eD di).f2.f1) oS).bind fun t182=>(br.j1 k x1 x6 di eD fz di (!t182) oS ni pL ((U eD di).f0) ((U eD di).f1) ((U eD di).f2.f0) ((U eD di).f2.f1) ((U eD di).f3)))else(br.j1 k x1 x6 di eD fz di true oS ni pL ((U eD di).f0) ((U eD di).f1) ((U eD di).f2.f0) ((U eD di).f2.f1) ((U eD di).f3)))else(br.j1 k x1 x6 di eD fz di true oS ni pL ((U eD di).f0) ((U eD di).f1) ((U eD di).f2.f0) ((U eD di).f2.f1) ((U eD di).f3)))else(if di≤(x1.length:Int)then((some (x1.take (di:Int).toNat:List (aJ))).bind fun ou=>(br.l3 k x1 x6 0 (-1) eD fz di ou (ou.length:Int) 0 oS ni pL ((U eD di).f0) ((U eD di).f1) ((U eD di).f2.f0) ((U eD di).f2.f1) ((U eD di).f3)))else(none)))else(none))else(none))else(some (x6,decide ((x1.length:Int)≤30)))
def br.j1:Nat→List (aJ)→Int→Int→List (aJ)→Int→Int→Bool→Int→List (Y)→List (Y)→Int→Int→Int→Int→Int→Option (Int×Bool)
 |0,_,_,_,_,_,_,_,_,_,_,_,_,_,_,_=>none
 |k+1,x1,x6,x7,eD,fz,di,x43,oS,ni,pL,ud,ue,sQ,sR,uf=>if x43=true then(some (0,false))else(if 0≤x7 then(if x7≤(x1.length:Int)then((some (x1.take (x7:Int).toNat:List (aJ))).bind fun kB=>(br.l1 k x1 x6 eD fz di kB (kB.length:Int) 0 oS ni pL ud ue sQ sR uf))else(none))else(none))
def br.l1:Nat→List (aJ)→Int→List (aJ)→Int→Int→List (aJ)→Int→Int→Int→List (Y)→List (Y)→Int→Int→Int→Int→Int→Option (Int×Bool)
 |0,_,_,_,_,_,_,_,_,_,_,_,_,_,_,_,_=>none
 |k+1,x1,x6,eD,fz,di,JN,x47,DK,oS,ni,pL,ud,ue,sQ,sR,uf=>if DK<x47 then(if 0≤DK then(if DK<(JN.length:Int)then(if((U JN DK).f0)=1 then((xv.f ((U JN DK).f2.f0) ((U JN DK).f2.f1) sQ sR).bind fun Zv=>(if Zv=true then(some (0,false))else(br.l1 k x1 x6 eD fz di JN x47 (Gj (DK+1)) oS ni pL ud ue sQ sR uf)))else(br.l1 k x1 x6 eD fz di JN x47 (Gj (DK+1)) oS ni pL ud ue sQ sR uf))else(none))else(none))else(br.l2 k x1 x6 eD fz di ni (ni.length:Int) 0 oS ni pL ud ue sQ sR uf)
def br.l2:Nat→List (aJ)→Int→List (aJ)→Int→Int→List (Y)→Int→Int→Int→List (Y)→List (Y)→Int→Int→Int→Int→Int→Option (Int×Bool)
 |0,_,_,_,_,_,_,_,_,_,_,_,_,_,_,_,_=>none
 |k+1,x1,x6,eD,fz,di,UQ,x65,x66,oS,ni,pL,ud,ue,sQ,sR,uf=>if x66<x65 then(if 0≤x66 then(if x66<(UQ.length:Int)then((xv.f ((aD UQ x66).f0) ((aD UQ x66).f1) sQ sR).bind fun Zw=>(if Zw=true then(some (0,false))else(br.l2 k x1 x6 eD fz di UQ x65 (Gj (x66+1)) oS ni pL ud ue sQ sR uf)))else(none))else(none))else(br.l0 k x1 (Gj (x6+1)) eD fz (Gj (di+1)) oS ni pL)
def br.l3:Nat→List (aJ)→Int→Int→Int→List (aJ)→Int→Int→List (aJ)→Int→Int→Int→List (Y)→List (Y)→Int→Int→Int→Int→Int→Option (Int×Bool)
 |0,_,_,_,_,_,_,_,_,_,_,_,_,_,_,_,_,_,_=>none
 |k+1,x1,x6,iv,BL,eD,fz,di,BM,x80,x81,oS,ni,pL,ud,ue,sQ,sR,uf=>if x81<x80 then(if 0≤x81 then(if x81<(BM.length:Int)then(if((U BM x81).f1)=ue then(if((U BM x81).f0)=1 then(br.l3 k x1 x6 ((U BM x81).f3) ((U BM x81).f2.f1) eD fz di BM x80 (Gj (x81+1)) oS ni pL ud ue sQ sR uf)else(br.l3 k x1 x6 ((U BM x81).f3) BL eD fz di BM x80 (Gj (x81+1)) oS ni pL ud ue sQ sR uf))else(br.l3 k x1 x6 iv BL eD fz di BM x80 (Gj (x81+1)) oS ni pL ud ue sQ sR uf))else(none))else(none))else(if ud=2 then(if(!(sQ==0)||(!(sR==0)))=true then(some (0,false))else(if BL<0 then(some (0,false))else((lr.f uf (Gj (iv+1)) BL).bind fun Zx=>(if Zx=true then(br.l0 k x1 x6 eD fz (Gj (di+1)) oS ni pL)else(some (0,false))))))else(some (0,false)))
end
def br.f(k:Nat)(aA:Int)(X:List (Y))(aC:List (Y))(l1:List (aJ)):Option (Int×Bool):=br.l0 k l1 1 l1 (l1.length:Int) 0 aA X aC
theorem br.cQ:∀k,(∀y0 y1 y2 y3 y4 y5 y6 y7,aG (br.l0 k y0 y1 y2 y3 y4 y5 y6 y7) (br.l0 (k+1) y0 y1 y2 y3 y4 y5 y6 y7))∧(∀y0 y1 y2 y3 y4 y5 y6 y7 y8 y9 qP qQ tA y13 xm,aG (br.j1 k y0 y1 y2 y3 y4 y5 y6 y7 y8 y9 qP qQ tA y13 xm) (br.j1 (k+1) y0 y1 y2 y3 y4 y5 y6 y7 y8 y9 qP qQ tA y13 xm))∧(∀y0 y1 y2 y3 y4 y5 y6 y7 y8 y9 qP qQ tA y13 xm DL,aG (br.l1 k y0 y1 y2 y3 y4 y5 y6 y7 y8 y9 qP qQ tA y13 xm DL) (br.l1 (k+1) y0 y1 y2 y3 y4 y5 y6 y7 y8 y9 qP qQ tA y13 xm DL))∧(∀y0 y1 y2 y3 y4 y5 y6 y7 y8 y9 qP qQ tA y13 xm DL,aG (br.l2 k y0 y1 y2 y3 y4 y5 y6 y7 y8 y9 qP qQ tA y13 xm DL) (br.l2 (k+1) y0 y1 y2 y3 y4 y5 y6 y7 y8 y9 qP qQ tA y13 xm DL))∧(∀y0 y1 y2 y3 y4 y5 y6 y7 y8 y9 qP qQ tA y13 xm DL y16 y17,aG (br.l3 k y0 y1 y2 y3 y4 y5 y6 y7 y8 y9 qP qQ tA y13 xm DL y16 y17) (br.l3 (k+1) y0 y1 y2 y3 y4 y5 y6 y7 y8 y9 qP qQ tA y13 xm DL y16 y17))
 |0=>⟨fun _ _ _ _ _ _ _ _ r h=>by simp[br.l0]at h,fun _ _ _ _ _ _ _ _ _ _ _ _ _ _ _ r h=>by simp[br.j1]at h,fun _ _ _ _ _ _ _ _ _ _ _ _ _ _ _ _ r h=>by simp[br.l1]at h,fun _ _ _ _ _ _ _ _ _ _ _ _ _ _ _ _ r h=>by simp[br.l2]at h,fun _ _ _ _ _ _ _ _ _ _ _ _ _ _ _ _ _ _ r h=>by simp[br.l3]at h⟩
 |k+1=>by
  obtain⟨bS,ih1,ih2,ih3,BO⟩:=br.cQ k
  refine⟨?_, ?_, ?_, ?_, ?_⟩<;>intros<;>first|unfold br.l0|unfold br.j1|unfold br.l1|unfold br.l2|unfold br.l3
  all_goals repeat' first
   |(with_reducible exact bS _ _ _ _ _ _ _ _)
   |(with_reducible exact ih1 _ _ _ _ _ _ _ _ _ _ _ _ _ _ _)
   |(with_reducible exact ih2 _ _ _ _ _ _ _ _ _ _ _ _ _ _ _ _)
   |(with_reducible exact ih3 _ _ _ _ _ _ _ _ _ _ _ _ _ _ _ _)
   |(with_reducible exact BO _ _ _ _ _ _ _ _ _ _ _ _ _ _ _ _ _ _)
   |(with_reducible exact aG.refl _)
   |(with_reducible exact aG.none _)
   |(with_reducible refine aG.ite ?_ ?_)
   |(with_reducible refine aG.bind ?_ (fun _=> ?_))
   |exact bS _ _ _ _ _ _ _ _
   |exact ih1 _ _ _ _ _ _ _ _ _ _ _ _ _ _ _
   |exact ih2 _ _ _ _ _ _ _ _ _ _ _ _ _ _ _ _
   |exact ih3 _ _ _ _ _ _ _ _ _ _ _ _ _ _ _ _
   |exact BO _ _ _ _ _ _ _ _ _ _ _ _ _ _ _ _ _ _
   |exact aG.none _
   |refine aG.ite ?_ ?_
   |refine aG.bind ?_ (fun _=> ?_)
theorem br.mono:∀a0 a1 a2 a3 k,aG (br.f k a0 a1 a2 a3) (br.f (k+1) a0 a1 a2 a3):=by
 intro a0 a1 a2 a3 k;obtain⟨bS,ih1,ih2,ih3,BO⟩:=br.cQ k;unfold br.f
 repeat' with_reducible first|exact bS _ _ _ _ _ _ _ _|exact ih1 _ _ _ _ _ _ _ _ _ _ _ _ _ _ _|exact ih2 _ _ _ _ _ _ _ _ _ _ _ _ _ _ _ _|exact ih3 _ _ _ _ _ _ _ _ _ _ _ _ _ _ _ _|exact BO _ _ _ _ _ _ _ _ _ _ _ _ _ _ _ _ _ _|exact aG.refl _|exact aG.none _|refine aG.ite ?_ ?_|refine aG.bind ?_ (fun _=> ?_)
theorem br.calls(k:Nat)(aA:Int)(af:Option Addr)(aa:Nat)(X:List (Y))(ab:Option Addr)(ac:Nat)(aC:List (Y))(A1:Option Addr)(c1:Nat)(l1:List (aJ))(r1:Int)(r2:Bool)(w:World)(dO:Kd.C aT w af X.length X)(dP:X.length≤aa)(dQ:Kd.C aT w ab aC.length aC)(dR:aC.length≤ac)(hr1:Kd.C b8 w A1 l1.length l1)(hc1:l1.length≤c1)(h:br.f k aA X aC l1=some (r1,r2)):
 Calls Uf 37 #[.agg #[.int .i64 aA,.slice af X.length aa,.slice ab aC.length ac],.slice A1 l1.length c1] w fun e w'=>e= .returned (.tuple #[.int .i64 r1,.bool r2])∧Below w.heap.size w w':=by
 have mL:=ig;have u7:=Try.underlying66;have jT:=fk;have bo:=Ah dO;have cU:=Ah dP;clear dO dP;have cn:=Ah dQ;have co:=Ah dR;clear dQ dR;have HR1:=Ah hr1;have qn:=Ah hc1;clear hr1 hc1;have HB:=Ah (Ud w.heap.size w);have H:(br.l0 k l1 1 l1 (l1.length:Int) 0 aA X aC)=some (r1,r2):=h;clear h;have H':=Ah H;clear H
 go_enter Try.func37,Try.ntmps37
 go_wp2_with (first|((with_reducible refine ag (N:=2) rfl ?_);refine an 2 26 #[.int .i64 aA,.slice af X.length aa,.slice ab aC.length ac] ?_;intro IT hg w3 dD hb;have GW179:=gw hg (bs HB);have e8:=gw hg (bs HB);replace HB:=Ah (aH (bs HB) hb);clear hb hg))
 go_loopg [6,19] k (fun kq v6 v19 w'=>∃ (vK:Int) (bW:Int),v6= .int .i64 vK∧v19= .int .i64 bW∧Z (br.l0 kq l1 vK l1 (l1.length:Int) bW aA X aC=some (r1,r2))∧Z (kq≤k)∧Z (w'.heap[IT]?=some (.cells #[.int .i64 aA,(.slice af X.length aa),(.slice ab aC.length ac)] 26 (0,0)))∧Z (Below w.heap.size w w'))
 case atStart=>exact⟨(1),(0),e3,e3,H',⟨QQ _⟩,⟨bk dD⟩,⟨aM HB e8⟩⟩
 case round=>
  clear H'
  try clear c1
  try clear p2
  try clear c3
  obtain⟨vK,bW,rfl,rfl,HA,bi,dD,HB⟩:=hrel
  cases gk with
  |zero=>exact absurd HA.out (by simp[br.l0])
  |succ k1=>
   have H:=HA.out;clear HA;simp only[br.l0]at H
   by_cases c4:bW<(l1.length:Int)
   rotate_left
   ·
    rw[if_neg c4]at H;have fB:=dn c4;clear c4;simp only[Jh,Ue]at H;obtain⟨rfl,rfl⟩:=H
    go_wp2
    go_ret2
    exact⟨er,aM HB e8⟩
   rw[if_pos c4]at H;have fB:=bJ c4;clear c4
   by_cases c5:0≤bW
   rotate_left
   ·
    rw[if_neg c5]at H;exact absurd H (by simp)
   rw[if_pos c5]at H;have kV:=bJ c5;clear c5
   by_cases c6:bW<(l1.length:Int)
   rotate_left
   ·
    rw[if_neg c6]at H;exact absurd H (by simp)
   rw[if_pos c6]at H;have o6:=bJ c6;clear c6
   by_cases c7:((U l1 bW).f0)=1
   rotate_left
   ·
    rw[if_neg c7]at H;have pY:=fS c7;have uA:=fT c7;have c72b0:=eq_true (od:0≤bW)
    by_cases JO:bW≤(l1.length:Int)
    rotate_left
    ·
     rw[if_neg JO]at H;exact absurd H (by simp)
    rw[if_pos JO]at H;have c73b0:=eq_true JO;have c73b1:=bJ JO;clear JO;obtain⟨ou,M4⟩:∃y_:List (aJ),y_=(l1.take (bW:Int).toNat):=⟨_,rfl⟩
    replace H:(br.l3 k1 l1 vK 0 (-1) l1 (l1.length:Int) bW ou (ou.length:Int) 0 aA X aC ((U l1 bW).f0) ((U l1 bW).f1) ((U l1 bW).f2.f0) ((U l1 bW).f2.f1) ((U l1 bW).f3))=some (r1,r2):=by first|(rw[M4];with_reducible exact H)|(have aq:=(Gm _ _).symm.trans H;rw[M4];with_reducible exact aq)|(have aq:=(Gm _ _).symm.trans H;with_reducible exact aq)|with_reducible exact H|(rw[M4];exact H)|exact H
    have Ny193:=Ah M4;clear M4;have H':=Ah H;clear H;have wu:0≤(bW:Int):=od;have wv:bW<(l1.length:Int):=od;obtain⟨wV,Zy,zi,zj,zk,zl,zm⟩:=eC HR1.out bW wu wv
    cases Zy
    replace zi:=hq HB zi;replace zj:=hq HB zj;replace zk:=hq HB zk;replace zl:=hq HB zl;replace zm:=hq HB zm;replace wu:=eq_true wu;replace wv:=eq_true wv
    go_wp2_with (first|((with_reducible refine ag (N:=8) rfl ?_);refine an 8 66 #[.int .i64 0,.int .i64 0,.int .i64 0,.int .i64 0,.int .i64 0] ?_;intro uy hg w74 cH hb;have GW181:=gw hg (aM HB e8);have eK:=gw hg (aM HB e8);replace HB:=Ah (aH (aM HB e8) hb);have mE:=nn dD hg;have oF:=nm dD hg;replace dD:=nb dD hb;clear hb hg;have YU:=oF.out;have YV:=mE.out;obtain⟨Qv,Qw,hcz76_2,hcz76_3,hcz76_4⟩:=aj cH;obtain⟨Qx,Qy,hfz76_2,hfz76_3,hfz76_4⟩:=ai cH)|((with_reducible refine n8 (t:=66) (p:=8) rfl ?_);refine n7 (t:=66) (p:=8) (v:= ?vo_w77) (w1:=(((((w74.setCell ⟨uy,0,none⟩ (.int .i64 ((U l1 bW).f0))).setCell ⟨uy,1,none⟩ (.int .i64 ((U l1 bW).f1))).setCell ⟨uy,2,none⟩ (.int .i64 ((U l1 bW).f2.f0))).setCell ⟨uy,3,none⟩ (.int .i64 ((U l1 bW).f2.f1))).setCell ⟨uy,4,none⟩ (.int .i64 ((U l1 bW).f3)))) ?hg ?ho ?hn ?hr ?_;(case ho=>rfl);(case hg=>rfl);(case hn=>rfl);(case hr=>first|(go_simp;done)|(go_simp;rfl));intro UR hw;have fI:Z (UR.heap[IT]?=some (.cells #[.int .i64 aA,.slice af X.length aa,.slice ab aC.length ac] 26 (0,0))):=⟨(by rw[hw];exact(bf dD mE))⟩;have eU:Z (UR.heap[uy]?=some (.cells #[.int .i64 ((U l1 bW).f0),.int .i64 ((U l1 bW).f1),.int .i64 ((U l1 bW).f2.f0),.int .i64 ((U l1 bW).f2.f1),.int .i64 ((U l1 bW).f3)] 66 (0,0))):=⟨(by rw[hw];exact(pb cH))⟩;have ie:Z (Below w.heap.size w UR):=⟨(by rw[hw];exact(am HB e8 eK))⟩;clear hw;clear dD;clear cH;clear HB;have dD:=fI;have cH:=eU;have HB:=ie;clear fI eU ie;obtain⟨hcz78_0,hcz78_1,hcz78_2,hcz78_3,hcz78_4⟩:=aj cH;obtain⟨hfz78_0,hfz78_1,hfz78_2,hfz78_3,hfz78_4⟩:=ai cH;have Pn:(bW:Int)≤((l1.length:Int):Int):=od;obtain⟨i079,hi079,_,hsz79,_⟩:=info_parts sY;have hroom79:l1.length≤c1:=qn.out;have hC79:Kd.C b8 _ (some wV) l1.length l1:=HR1.out;have hcut79:=SJ (P:=Uf) 27 66 .i64 aax hi079 (some wV) l1.length c1 bW (od) Pn hroom79;have Zz:=Kd.yT (m:=(bW:Int).toNat) hC79 (by omega);have a0a:ou.length=(bW:Int).toNat:=(by rw[Ny193.out,Ja];omega);rw[←Ny193.out]at Zz;rw[←a0a]at hcut79;have YW:=Ah Zz;have HC196:=Ah (show ou.length≤c1 from by omega);clear Zz hC79 hroom79 hi079 hsz79;have KY79:=Ah a0a;clear a0a;replace Pn:=eq_true Pn))
    go_loopg [13,14,81] k1 (fun kq v13 v14 v81 w'=>∃ (IU:Int) (Cd:Int) (mH:Int),v13= .int .i64 IU∧v14= .int .i64 Cd∧v81= .int .i64 mH∧Z (br.l3 kq l1 vK IU Cd l1 (l1.length:Int) bW ou (ou.length:Int) mH aA X aC ((U l1 bW).f0) ((U l1 bW).f1) ((U l1 bW).f2.f0) ((U l1 bW).f2.f1) ((U l1 bW).f3)=some (r1,r2))∧Z (kq≤k1)∧Z (w'.heap[IT]?=some (.cells #[.int .i64 aA,(.slice af X.length aa),(.slice ab aC.length ac)] 26 (0,0)))∧Z (w'.heap[uy]?=some (.cells #[.int .i64 ((U l1 bW).f0),.int .i64 ((U l1 bW).f1),.int .i64 ((U l1 bW).f2.f0),.int .i64 ((U l1 bW).f2.f1),.int .i64 ((U l1 bW).f3)] 66 (0,0)))∧Z (Below w.heap.size w w'))
    case atStart=>exact⟨(0),((-1)),(0),e3,e3,e3,H',⟨QQ _⟩,⟨bk dD⟩,⟨bk cH⟩,⟨am HB e8 eK⟩⟩
    case round=>
     clear H'
     try clear c1
     try clear p1
     try clear q1
     try clear hx1
     try clear c2
     try clear p2
     try clear q2
     try clear c3
     try clear c4
     try clear fB
     try clear c5
     try clear kV
     try clear c6
     try clear o6
     try clear p6
     try clear c7
     try clear pY
     try clear uA
     try clear q7
     try clear c10
     try clear c12
     try clear sc
     try clear Ej
     try clear c13
     try clear M5
     try clear M6
     try clear c15
     try clear JP
     try clear JQ
     try clear a0b
     try clear c19
     try clear US
     try clear UT
     try clear hx19
     try clear c21
     try clear c23
     try clear c24
     try clear IV
     try clear M7
     try clear tB
     try clear Sm
     try clear YX
     try clear yq
     try clear yr
     try clear YY
     try clear c28
     try clear M8
     try clear lJ
     try clear Ce
     try clear jg
     try clear Ed
     try clear Si
     try clear c32
     try clear c34
     try clear DM
     try clear c37
     try clear yt
     try clear DN
     try clear GY
     try clear c48
     try clear c49
     try clear c51
     try clear c53
     try clear c53b0
     try clear tC
     try clear YZ
     try clear pD
     try clear Ya
     try clear tD
     try clear Po
     try clear c59
     try clear JR
     try clear c62
     try clear p64
     try clear c66
     try clear Pp
     try clear yu
     try clear c72
     try clear c72b0
     try clear JO
     try clear c73b0
     try clear c73b1
     try clear c75
     try clear Pn
     try clear oO oP qx sK sL
     try clear ug uh vz E8 E9
     try clear sO ub za
     try clear pn po qY zn zo
     try clear tU tV ui wA wB
     try clear EA EB HL W9 WA
     try clear EC ED Ke Kf Kg
     try clear Qz R5 R6 R7 R8
     try clear HM HU HV WB WC
     try clear HW HX R9 RA RB
     try clear WD WE WF
     try clear WI WJ
     try clear WK WL WM WO WP
     try clear hcz68_0 hcz68_1
     try clear hcz70_0 hcz70_1 hcz70_2 hcz70_3 hcz70_4
     try clear Qv Qw hcz76_2 hcz76_3 hcz76_4
     try clear hcz78_0 hcz78_1 hcz78_2 hcz78_3 hcz78_4
     try clear oQ oR qy sM sN
     try clear uj uk wC EE EF
     try clear sP uc zb
     try clear pp pq qZ zp zq
     try clear tW tX ul wD wE
     try clear EG EH HY WQ WR
     try clear EI EJ Kh Ki Kj
     try clear RC RD RE RF RG
     try clear HZ Ha Hb WT WU
     try clear Hd He RH RI RJ
     try clear WV WW WY
     try clear WZ Wa
     try clear Wb Wc Wd We Wf
     try clear hfz68_0 hfz68_1
     try clear hfz70_0 hfz70_1 hfz70_2 hfz70_3 hfz70_4
     try clear Qx Qy hfz76_2 hfz76_3 hfz76_4
     try clear hfz78_0 hfz78_1 hfz78_2 hfz78_3 hfz78_4
     try clear zi
     try clear zj
     try clear zk
     try clear zl
     try clear zm
     try clear yL
     try clear yM
     try clear yN
     try clear yO
     try clear yP
     try clear Hf
     try clear Hg
     try clear p1
     try clear JP
     try clear wu
     try clear uB
     try clear Cy
     try clear p2
     try clear p6
     try clear q1
     try clear JQ
     try clear wv
     try clear uC
     try clear Cz
     try clear q2
     try clear yq
     try clear Pn
     obtain⟨IU,Cd,mH,rfl,rfl,rfl,HA,eE,dD,cH,HB⟩:=hrel
     cases gk with
     |zero=>exact absurd HA.out (by simp[br.l3])
     |succ k2=>
      have H:=HA.out;clear HA;simp only[br.l3]at H
      by_cases c80:mH<(ou.length:Int)
      rotate_left
      ·
       rw[if_neg c80]at H;have c80b0:=dn c80;clear c80
       by_cases FM:((U l1 bW).f0)=2
       rotate_left
       ·
        rw[if_neg FM]at H;have c103b0:=fS FM;have c103b1:=fT FM;simp only[Jh,Ue]at H;obtain⟨rfl,rfl⟩:=H;have hnb116:=oF.out;have hnc116:=mE.out;obtain⟨hcz117_0,hcz117_1,hcz117_2,hcz117_3,hcz117_4⟩:=aj cH;obtain⟨hfz117_0,hfz117_1,hfz117_2,hfz117_3,hfz117_4⟩:=ai cH
        go_wp2
        go_ret2
        exact⟨er,am HB e8 eK⟩
       rw[if_pos FM]at H;have c103b0:=fU FM;have c103b1:=fV FM;clear FM
       by_cases Ir:(!(((U l1 bW).f2.f0)==0)||(!(((U l1 bW).f2.f1)==0)))=true
       ·
        rw[if_pos Ir]at H;have c104b0:(!(((U l1 bW).f2.f0)==0)||(!(((U l1 bW).f2.f1)==0)))=true:=Ir;clear Ir;simp only[Jh,Ue]at H;obtain⟨rfl,rfl⟩:=H;have hnb105:=oF.out;have hnc105:=mE.out;obtain⟨hcz106_0,hcz106_1,hcz106_2,hcz106_3,hcz106_4⟩:=aj cH;obtain⟨hfz106_0,hfz106_1,hfz106_2,hfz106_3,hfz106_4⟩:=ai cH
        go_wp2
        go_ret2
        exact⟨er,am HB e8 eK⟩
       rw[if_neg Ir]at H
       have c104b0:(!(((U l1 bW).f2.f0)==0)||(!(((U l1 bW).f2.f1)==0)))=false:=by simpa using Ir
       clear Ir
       by_cases c107:Cd<0
       ·
        rw[if_pos c107]at H;have c107b0:=bJ c107;clear c107;simp only[Jh,Ue]at H;obtain⟨rfl,rfl⟩:=H;have hnb108:=oF.out;have hnc108:=mE.out;obtain⟨hcz109_0,hcz109_1,hcz109_2,hcz109_3,hcz109_4⟩:=aj cH;obtain⟨hfz109_0,hfz109_1,hfz109_2,hfz109_3,hfz109_4⟩:=ai cH
        go_wp2
        go_ret2
        exact⟨er,am HB e8 eK⟩
       rw[if_neg c107]at H;have c107b0:=dn c107;clear c107;replace H:=Gl.mp H;obtain⟨Zx,A1100,H⟩:=H
       try dsimp only at H
       have O3:=Ah A1100;clear A1100
       by_cases Tt:Zx=true
       rotate_left
       ·
        replace Tt:=PT.mpr Tt;subst Tt;rw[if_neg dr]at H;simp only[Jh,Ue]at H;obtain⟨rfl,rfl⟩:=H;have hnb114:=oF.out;have hnc114:=mE.out;obtain⟨hcz115_0,hcz115_1,hcz115_2,hcz115_3,hcz115_4⟩:=aj cH;obtain⟨hfz115_0,hfz115_1,hfz115_2,hfz115_3,hfz115_4⟩:=ai cH
        go_wp2_with (first|(go_at_call 33;(with_reducible refine(lr.calls ((U l1 bW).f3) (Gj (IU+1)) Cd false _ O3.out).mono ?_);rintro e w' ⟨rfl,⟨nd,rfl⟩⟩))
        go_ret2
        exact⟨er,am HB e8 eK⟩
       subst Tt;rw[if_pos rfl]at H;have H':=Ah H;clear H;have hnb112:=oF.out;have hnc112:=mE.out;obtain⟨hcz113_0,hcz113_1,hcz113_2,hcz113_3,hcz113_4⟩:=aj cH;obtain⟨hfz113_0,hfz113_1,hfz113_2,hfz113_3,hfz113_4⟩:=ai cH
       go_wp2_with (first|(go_at_call 33;(with_reducible refine(lr.calls ((U l1 bW).f3) (Gj (IU+1)) Cd true _ O3.out).mono ?_);rintro e w' ⟨rfl,⟨nd,rfl⟩⟩))
       go_roundg k2
       case measure=>have:=bi.out;have:=eE.out;omega
       case rel=>exact⟨(vK),(Gj (bW+1)),e3,e3,H',⟨by have:=bi.out;have:=eE.out;omega⟩,⟨bk dD⟩,⟨am HB e8 eK⟩⟩
      rw[if_pos c80]at H;have c80b0:=bJ c80;clear c80
      by_cases Pq:0≤mH
      rotate_left
      ·
       rw[if_neg Pq]at H;exact absurd H (by simp)
      rw[if_pos Pq]at H;have c81b0:=bJ Pq;clear Pq
      by_cases UU:mH<(ou.length:Int)
      rotate_left
      ·
       rw[if_neg UU]at H;exact absurd H (by simp)
      rw[if_pos UU]at H;have c82b0:=bJ UU;clear UU
      by_cases DO:((U ou mH).f1)=((U l1 bW).f1)
      rotate_left
      ·
       rw[if_neg DO]at H;have c83b0:=fS DO;have c83b1:=fT DO;have H':=Ah H;clear H;have ww:0≤(mH:Int):=od;have wy:mH<(ou.length:Int):=od;obtain⟨M9,O5,CA,CB,CC,CD,CE⟩:=eC YW.out mH ww wy;obtain rfl:wV=M9:=(by injection O5);replace CA:=hq HB CA;replace CB:=hq HB CB;replace CC:=hq HB CC;replace CD:=hq HB CD;replace CE:=hq HB CE;replace ww:=eq_true ww;replace wy:=eq_true wy
       go_wp2_with (first|((with_reducible refine ag (N:=16) rfl ?_);refine an 16 66 #[.int .i64 0,.int .i64 0,.int .i64 0,.int .i64 0,.int .i64 0] ?_;intro gb199 hg w97 Cf hb;have GW199:=gw hg (am HB e8 eK);have MA:=gw hg (am HB e8 eK);replace HB:=Ah (aH (am HB e8 eK) hb);have Bu:=nn dD hg;have Jl:=nm dD hg;replace dD:=nb dD hb;have Bv:=nn cH hg;have Jm:=nm cH hg;replace cH:=nb cH hb;clear hb hg;have hnb98:=Jl.out;have hnc98:=Bu.out;have hnb99:=Jm.out;have hnc99:=Bv.out;obtain⟨hcz100_0,hcz100_1,hcz100_2,hcz100_3,hcz100_4⟩:=aj Cf;obtain⟨hfz100_0,hfz100_1,hfz100_2,hfz100_3,hfz100_4⟩:=ai Cf;have hnb101:=oF.out;have hnc101:=mE.out;obtain⟨hcz102_0,hcz102_1,hcz102_2,hcz102_3,hcz102_4⟩:=aj cH;obtain⟨hfz102_0,hfz102_1,hfz102_2,hfz102_3,hfz102_4⟩:=ai cH))
       go_roundg k2
       case measure=>have:=bi.out;have:=eE.out;omega
       case rel=>exact⟨(IU),(Cd),(Gj (mH+1)),e3,e3,e3,H',⟨by have:=bi.out;have:=eE.out;omega⟩,⟨bf dD Bu⟩,⟨bf cH Bv⟩,⟨aw HB e8 eK MA⟩⟩
      rw[if_pos DO]at H;have c83b0:=fU DO;have c83b1:=fV DO;clear DO
      by_cases DP:((U ou mH).f0)=1
      rotate_left
      ·
       rw[if_neg DP]at H;have c84b0:=fS DP;have c84b1:=fT DP;have H':=Ah H;clear H;have ww:0≤(mH:Int):=od;have wy:mH<(ou.length:Int):=od;obtain⟨M9,O5,CA,CB,CC,CD,CE⟩:=eC YW.out mH ww wy;obtain rfl:wV=M9:=(by injection O5);replace CA:=hq HB CA;replace CB:=hq HB CB;replace CC:=hq HB CC;replace CD:=hq HB CD;replace CE:=hq HB CE;replace ww:=eq_true ww;replace wy:=eq_true wy
       go_wp2_with (first|((with_reducible refine ag (N:=16) rfl ?_);refine an 16 66 #[.int .i64 0,.int .i64 0,.int .i64 0,.int .i64 0,.int .i64 0] ?_;intro gb199 hg w91 Cf hb;have GW199:=gw hg (am HB e8 eK);have MA:=gw hg (am HB e8 eK);replace HB:=Ah (aH (am HB e8 eK) hb);have Bu:=nn dD hg;have Jl:=nm dD hg;replace dD:=nb dD hb;have Bv:=nn cH hg;have Jm:=nm cH hg;replace cH:=nb cH hb;clear hb hg;have Sn:=Jl.out;have So:=Bu.out;have hnb93:=Jm.out;have hnc93:=Bv.out;obtain⟨hcz94_0,hcz94_1,hcz94_2,hcz94_3,hcz94_4⟩:=aj Cf;obtain⟨hfz94_0,hfz94_1,hfz94_2,hfz94_3,hfz94_4⟩:=ai Cf;have hnb95:=oF.out;have hnc95:=mE.out;obtain⟨hcz96_0,hcz96_1,hcz96_2,hcz96_3,hcz96_4⟩:=aj cH;obtain⟨hfz96_0,hfz96_1,hfz96_2,hfz96_3,hfz96_4⟩:=ai cH))
       go_roundg k2
       case measure=>have:=bi.out;have:=eE.out;omega
       case rel=>exact⟨((U ou mH).f3),(Cd),(Gj (mH+1)),e3,e3,e3,H',⟨by have:=bi.out;have:=eE.out;omega⟩,⟨bf dD Bu⟩,⟨bf cH Bv⟩,⟨aw HB e8 eK MA⟩⟩
      rw[if_pos DP]at H;have c84b0:=fU DP;have c84b1:=fV DP;clear DP;have H':=Ah H;clear H;have ww:0≤(mH:Int):=od;have wy:mH<(ou.length:Int):=od;obtain⟨M9,O5,CA,CB,CC,CD,CE⟩:=eC YW.out mH ww wy;obtain rfl:wV=M9:=(by injection O5);replace CA:=hq HB CA;replace CB:=hq HB CB;replace CC:=hq HB CC;replace CD:=hq HB CD;replace CE:=hq HB CE;replace ww:=eq_true ww;replace wy:=eq_true wy
      go_wp2_with (first|((with_reducible refine ag (N:=16) rfl ?_);refine an 16 66 #[.int .i64 0,.int .i64 0,.int .i64 0,.int .i64 0,.int .i64 0] ?_;intro gb199 hg w85 Cf hb;have GW199:=gw hg (am HB e8 eK);have MA:=gw hg (am HB e8 eK);replace HB:=Ah (aH (am HB e8 eK) hb);have Bu:=nn dD hg;have Jl:=nm dD hg;replace dD:=nb dD hb;have Bv:=nn cH hg;have Jm:=nm cH hg;replace cH:=nb cH hb;clear hb hg;have hnb86:=Jl.out;have hnc86:=Bu.out;have hnb87:=Jm.out;have hnc87:=Bv.out;obtain⟨hcz88_0,hcz88_1,hcz88_2,hcz88_3,hcz88_4⟩:=aj Cf;obtain⟨hfz88_0,hfz88_1,hfz88_2,hfz88_3,hfz88_4⟩:=ai Cf;have hnb89:=oF.out;have hnc89:=mE.out;obtain⟨Wg,Wh,hcz90_2,hcz90_3,hcz90_4⟩:=aj cH;obtain⟨Wi,Wj,hfz90_2,hfz90_3,hfz90_4⟩:=ai cH))
      go_roundg k2
      case measure=>have:=bi.out;have:=eE.out;omega
      case rel=>exact⟨((U ou mH).f3),((U ou mH).f2.f1),(Gj (mH+1)),e3,e3,e3,H',⟨by have:=bi.out;have:=eE.out;omega⟩,⟨bf dD Bu⟩,⟨bf cH Bv⟩,⟨aw HB e8 eK MA⟩⟩
   rw[if_pos c7]at H;have pY:=fU c7;have uA:=fV c7;clear c7;have HC8:=Ah H;clear H;have wu:0≤(bW:Int):=od;have wv:bW<(l1.length:Int):=od;obtain⟨wV,Zy,zi,zj,zk,zl,zm⟩:=eC HR1.out bW wu wv
   cases Zy
   replace zi:=hq HB zi;replace zj:=hq HB zj;replace zk:=hq HB zk;replace zl:=hq HB zl;replace zm:=hq HB zm;replace wu:=eq_true wu;replace wv:=eq_true wv
   go_upto_region 6 with(first|((with_reducible refine ag (N:=8) rfl ?_);refine an 8 66 #[.int .i64 0,.int .i64 0,.int .i64 0,.int .i64 0,.int .i64 0] ?_;intro uy hg w9 cH hb;have GW181:=gw hg (aM HB e8);have eK:=gw hg (aM HB e8);replace HB:=Ah (aH (aM HB e8) hb);have mE:=nn dD hg;have oF:=nm dD hg;replace dD:=nb dD hb;clear hb hg;have IW:=oF.out;have IX:=mE.out;obtain⟨oO,oP,qx,sK,sL⟩:=aj cH;obtain⟨oQ,oR,qy,sM,sN⟩:=ai cH))
   (try simp only[Act.put,List.setIfInBounds_toArray,List.set_cons_zero,List.set_cons_succ])
   go_cut [43] (fun v43 wc=>∃ (kq:Nat) (Sp:Bool),v43= .bool Sp∧Z (br.j1 kq l1 vK bW l1 (l1.length:Int) bW Sp aA X aC ((U l1 bW).f0) ((U l1 bW).f1) ((U l1 bW).f2.f0) ((U l1 bW).f2.f1) ((U l1 bW).f3)=some (r1,r2))∧Z (kq≤k1)∧Z (wc.heap[IT]?=some (.cells #[.int .i64 aA,(.slice af X.length aa),(.slice ab aC.length ac)] 26 (0,0)))∧Z (wc.heap[uy]?=some (.cells #[.int .i64 ((U l1 bW).f0),.int .i64 ((U l1 bW).f1),.int .i64 ((U l1 bW).f2.f0),.int .i64 ((U l1 bW).f2.f1),.int .i64 ((U l1 bW).f3)] 66 (0,0)))∧Z (Below w.heap.size w wc))
   case first=>
    have H:=HC8.out;clear HC8
    by_cases c12:((U l1 bW).f1)=vK
    rotate_left
    ·
     rw[if_neg c12]at H;have sc:=fS c12;have Ej:=fT c12;(first|rw[sc]|(simp only[kP,nE];rw[sc])|(simp only[c12b2,abo,Bool.not_true])|skip);have H':=Ah H;clear H;have hnb21:=oF.out;have hnc21:=mE.out;obtain⟨tU,tV,ui,wA,wB⟩:=aj cH;obtain⟨tW,tX,ul,wD,wE⟩:=ai cH
     go_wp2
     go_meet
     case rel=>exact⟨_,(true),e3,H',⟨by have:=bi.out;first|omega|exact QQ _⟩,⟨bf dD mE⟩,⟨by exact pb cH⟩,⟨am HB e8 eK⟩⟩
    rw[if_pos c12]at H;have sc:=fU c12;have Ej:=fV c12;clear c12;(first|rw[sc]|(simp only[kP,nE];rw[sc])|(simp only[c12b2,abo,Bool.not_true])|skip)
    by_cases c13:((U l1 bW).f3)=0
    rotate_left
    ·
     rw[if_neg c13]at H;have M5:=fS c13;have M6:=fT c13;have H':=Ah H;clear H;have MB:=oF.out;have MC:=mE.out;obtain⟨pn,po,qY,zn,zo⟩:=aj cH;obtain⟨pp,pq,qZ,zp,zq⟩:=ai cH
     go_wp2
     go_meet
     case rel=>exact⟨_,(true),e3,H',⟨by have:=bi.out;first|omega|exact QQ _⟩,⟨bf dD mE⟩,⟨by exact pb cH⟩,⟨am HB e8 eK⟩⟩
    rw[if_pos c13]at H;have M5:=fU c13;have M6:=fV c13;clear c13;replace H:=Gl.mp H;obtain⟨t182,A140,H⟩:=H
    try dsimp only at H
    have A14:=Ah A140;clear A140;have H':=Ah H;clear H;have Sq:=oF.out;have Sr:=mE.out;obtain⟨ug,uh,vz,E8,E9⟩:=aj cH;obtain⟨uj,uk,wC,EE,EF⟩:=ai cH;obtain⟨sO,ub,za⟩:=dE dD;obtain⟨sP,uc,zb⟩:=dF dD
    go_wp2_with (first|(go_at_call 55;(with_reducible refine(xz.calls ((U l1 bW).f2.f0) ((U l1 bW).f2.f1) aA t182 _ A14.out).mono ?_);rintro e cG ⟨rfl,hb⟩;replace dD:=Ah (bT (bf dD mE) hb);replace cH:=Ah (bT (g:=uy) (o:= .cells #[.int .i64 ((U l1 bW).f0),.int .i64 ((U l1 bW).f1),.int .i64 ((U l1 bW).f2.f0),.int .i64 ((U l1 bW).f2.f1),.int .i64 ((U l1 bW).f3)] 66 (0,0)) (pb cH) hb);replace HB:=Ah (aH (am HB e8 eK) hb);(try clear hb)))
    go_meet
    case rel=>exact⟨_,(!t182),e3,H',⟨by have:=bi.out;first|omega|exact QQ _⟩,⟨bk dD⟩,⟨bk cH⟩,⟨am HB e8 eK⟩⟩
   case rest=>
    clear HC8
    try clear c1
    try clear p1
    try clear q1
    try clear hx1
    try clear c2
    try clear p2
    try clear c3
    try clear c4
    try clear fB
    try clear c5
    try clear kV
    try clear c6
    try clear o6
    try clear c7
    try clear pY
    try clear uA
    try clear c10
    try clear c12
    try clear sc
    try clear Ej
    try clear c13
    try clear M5
    try clear M6
    try clear c15
    try clear JP
    try clear JQ
    try clear a0b
    try clear c19
    try clear c21
    try clear oO oP qx sK sL
    try clear ug uh vz E8 E9
    try clear sO ub za
    try clear pn po qY zn zo
    try clear tU tV ui wA wB
    try clear oQ oR qy sM sN
    try clear uj uk wC EE EF
    try clear sP uc zb
    try clear pp pq qZ zp zq
    try clear tW tX ul wD wE
    try clear zi
    try clear zj
    try clear zk
    try clear zl
    try clear zm
    try clear wu
    try clear p2
    try clear wv
    obtain⟨kq,Sp,rfl,HA,DQ,dD,cH,HB⟩:=hcut
    cases kq with
    |zero=>exact absurd HA.out (by simp[br.j1])
    |succ kj7=>
     have H:=HA.out;clear HA;simp only[br.j1]at H
     by_cases c23:Sp=true
     ·
      subst c23;rw[if_pos rfl]at H;simp only[Jh,Ue]at H;obtain⟨rfl,rfl⟩:=H
      go_wp2
      go_ret2
      exact⟨er,am HB e8 eK⟩
     replace c23:=PT.mpr c23;subst c23;rw[if_neg dr]at H
     by_cases c24:0≤bW
     rotate_left
     ·
      rw[if_neg c24]at H;exact absurd H (by simp)
     rw[if_pos c24]at H;have IV:=eq_true c24;have M7:=bJ c24;clear c24
     by_cases tB:bW≤(l1.length:Int)
     rotate_left
     ·
      rw[if_neg tB]at H;exact absurd H (by simp)
     rw[if_pos tB]at H;have Sm:=eq_true tB;have YX:=bJ tB;clear tB;obtain⟨kB,MD⟩:∃y_:List (aJ),y_=(l1.take (bW:Int).toNat):=⟨_,rfl⟩
     replace H:(br.l1 kj7 l1 vK l1 (l1.length:Int) bW kB (kB.length:Int) 0 aA X aC ((U l1 bW).f0) ((U l1 bW).f1) ((U l1 bW).f2.f0) ((U l1 bW).f2.f1) ((U l1 bW).f3))=some (r1,r2):=by first|(rw[MD];with_reducible exact H)|(have aq:=(Gm _ _).symm.trans H;rw[MD];with_reducible exact aq)|(have aq:=(Gm _ _).symm.trans H;with_reducible exact aq)|with_reducible exact H|(rw[MD];exact H)|exact H
     have Ny183:=Ah MD;clear MD;have H':=Ah H;clear H;have yq:(bW:Int)≤((l1.length:Int):Int):=od;obtain⟨i026,hi026,_,hsz26,_⟩:=info_parts sY;have hroom26:l1.length≤c1:=qn.out;have hC26:Kd.C b8 _ (some wV) l1.length l1:=HR1.out;have hcut26:=SJ (P:=Uf) 27 66 .i64 aax hi026 (some wV) l1.length c1 bW (od) yq hroom26;have a0c:=Kd.yT (m:=(bW:Int).toNat) hC26 (by omega);have a0d:kB.length=(bW:Int).toNat:=(by rw[Ny183.out,Ja];omega);rw[←Ny183.out]at a0c;rw[←a0d]at hcut26;have Yb:=Ah a0c;have HC186:=Ah (show kB.length≤c1 from by omega);clear a0c hC26 hroom26 hi026 hsz26;have KY26:=Ah a0d;clear a0d;replace yq:=eq_true yq
     go_wp2
     go_loopg [48] kj7 (fun kq v48 w'=>∃ (jA:Int),v48= .int .i64 jA∧Z (br.l1 kq l1 vK l1 (l1.length:Int) bW kB (kB.length:Int) jA aA X aC ((U l1 bW).f0) ((U l1 bW).f1) ((U l1 bW).f2.f0) ((U l1 bW).f2.f1) ((U l1 bW).f3)=some (r1,r2))∧Z (kq≤kj7)∧Z (w'.heap[IT]?=some (.cells #[.int .i64 aA,(.slice af X.length aa),(.slice ab aC.length ac)] 26 (0,0)))∧Z (w'.heap[uy]?=some (.cells #[.int .i64 ((U l1 bW).f0),.int .i64 ((U l1 bW).f1),.int .i64 ((U l1 bW).f2.f0),.int .i64 ((U l1 bW).f2.f1),.int .i64 ((U l1 bW).f3)] 66 (0,0)))∧Z (Below w.heap.size w w'))
     case atStart=>exact⟨(0),e3,H',⟨QQ _⟩,⟨bk dD⟩,⟨bk cH⟩,⟨am HB e8 eK⟩⟩
     case round=>
      clear H'
      try clear c1
      try clear p1
      try clear q1
      try clear hx1
      try clear c2
      try clear p2
      try clear q2
      try clear c3
      try clear c4
      try clear fB
      try clear c5
      try clear kV
      try clear c6
      try clear o6
      try clear c7
      try clear pY
      try clear uA
      try clear c10
      try clear c12
      try clear sc
      try clear Ej
      try clear c13
      try clear M5
      try clear M6
      try clear c15
      try clear JP
      try clear JQ
      try clear a0b
      try clear c19
      try clear c21
      try clear c23
      try clear c24
      try clear IV
      try clear M7
      try clear tB
      try clear Sm
      try clear YX
      try clear yq
      try clear oO oP qx sK sL
      try clear ug uh vz E8 E9
      try clear sO ub za
      try clear pn po qY zn zo
      try clear tU tV ui wA wB
      try clear oQ oR qy sM sN
      try clear uj uk wC EE EF
      try clear sP uc zb
      try clear pp pq qZ zp zq
      try clear tW tX ul wD wE
      try clear zi
      try clear zj
      try clear zk
      try clear zl
      try clear zm
      try clear p1
      try clear JP
      try clear wu
      try clear p2
      try clear q1
      try clear JQ
      try clear wv
      try clear yq
      obtain⟨jA,rfl,HA,uR,dD,cH,HB⟩:=hrel
      cases gk with
      |zero=>exact absurd HA.out (by simp[br.l1])
      |succ k3=>
       have H:=HA.out;clear HA;simp only[br.l1]at H
       by_cases yr:jA<(kB.length:Int)
       ·
        rw[if_pos yr]at H;have YY:=bJ yr;clear yr
        by_cases c28:0≤jA
        rotate_left
        ·
         rw[if_neg c28]at H;exact absurd H (by simp)
        rw[if_pos c28]at H;have M8:=bJ c28;clear c28
        by_cases lJ:jA<(kB.length:Int)
        rotate_left
        ·
         rw[if_neg lJ]at H;exact absurd H (by simp)
        rw[if_pos lJ]at H;have Ce:=bJ lJ;clear lJ
        by_cases jg:((U kB jA).f0)=1
        rotate_left
        ·
         rw[if_neg jg]at H;have Ed:=fS jg;have Si:=fT jg;have H':=Ah H;clear H;have uB:0≤(jA:Int):=od;have uC:jA<(kB.length:Int):=od;obtain⟨ME,e187,yL,yM,yN,yO,yP⟩:=eC Yb.out jA uB uC;obtain rfl:wV=ME:=(by injection e187);replace yL:=hq HB yL;replace yM:=hq HB yM;replace yN:=hq HB yN;replace yO:=hq HB yO;replace yP:=hq HB yP;replace uB:=eq_true uB;replace uC:=eq_true uC
         go_wp2_with (first|((with_reducible refine ag (N:=10) rfl ?_);refine an 10 66 #[.int .i64 0,.int .i64 0,.int .i64 0,.int .i64 0,.int .i64 0] ?_;intro Ss hg w47 uz hb;have GW188:=gw hg (am HB e8 eK);have Ek:=gw hg (am HB e8 eK);replace HB:=Ah (aH (am HB e8 eK) hb);have Bw:=nn dD hg;have Jn:=nm dD hg;replace dD:=nb dD hb;have Bx:=nn cH hg;have Jo:=nm cH hg;replace cH:=nb cH hb;clear hb hg;have hnb48:=Jn.out;have hnc48:=Bw.out;have Su:=Jo.out;have Sv:=Bx.out;obtain⟨HW,HX,R9,RA,RB⟩:=aj uz;obtain⟨Hd,He,RH,RI,RJ⟩:=ai uz))
         go_roundg k3
         case measure=>have:=bi.out;have:=DQ.out;have:=uR.out;omega
         case rel=>exact⟨(Gj (jA+1)),e3,H',⟨by have:=bi.out;have:=DQ.out;have:=uR.out;omega⟩,⟨bf dD Bw⟩,⟨bf cH Bx⟩,⟨aw HB e8 eK Ek⟩⟩
        rw[if_pos jg]at H;have Ed:=fU jg;have Si:=fV jg;clear jg;replace H:=Gl.mp H;obtain⟨Zv,A310,H⟩:=H
        try dsimp only at H
        have A31:=Ah A310;clear A310
        by_cases c32:Zv=true
        ·
         subst c32;rw[if_pos rfl]at H;simp only[Jh,Ue]at H;obtain⟨rfl,rfl⟩:=H;have uB:0≤(jA:Int):=od;have uC:jA<(kB.length:Int):=od;obtain⟨ME,e187,yL,yM,yN,yO,yP⟩:=eC Yb.out jA uB uC;obtain rfl:wV=ME:=(by injection e187);replace yL:=hq HB yL;replace yM:=hq HB yM;replace yN:=hq HB yN;replace yO:=hq HB yO;replace yP:=hq HB yP;replace uB:=eq_true uB;replace uC:=eq_true uC
         go_wp2_with (first|((with_reducible refine ag (N:=10) rfl ?_);refine an 10 66 #[.int .i64 0,.int .i64 0,.int .i64 0,.int .i64 0,.int .i64 0] ?_;intro Ss hg DS uz hb;have GW188:=gw hg (am HB e8 eK);have Ek:=gw hg (am HB e8 eK);replace HB:=Ah (aH (am HB e8 eK) hb);have Bw:=nn dD hg;have Jn:=nm dD hg;replace dD:=nb dD hb;have Bx:=nn cH hg;have Jo:=nm cH hg;replace cH:=nb cH hb;clear hb hg;have IY:=Jn.out;have IZ:=Bw.out;have MF:=Jo.out;have MG:=Bx.out;obtain⟨EA,EB,HL,W9,WA⟩:=aj uz;obtain⟨EG,EH,HY,WQ,WR⟩:=ai uz;have MH:=oF.out;have MI:=mE.out;obtain⟨EC,ED,Ke,Kf,Kg⟩:=aj cH;obtain⟨EI,EJ,Kh,Ki,Kj⟩:=ai cH)|(go_at_call 56;(with_reducible refine(xv.calls ((U kB jA).f2.f0) ((U kB jA).f2.f1) ((U l1 bW).f2.f0) ((U l1 bW).f2.f1) true _ A31.out).mono ?_);rintro e Pr ⟨rfl,hb⟩;replace dD:=Ah (bT (bf dD Bw) hb);replace cH:=Ah (bT (bf cH Bx) hb);replace uz:=Ah (bT (g:=Ss) (o:= .cells #[.int .i64 ((U kB jA).f0),.int .i64 ((U kB jA).f1),.int .i64 ((U kB jA).f2.f0),.int .i64 ((U kB jA).f2.f1),.int .i64 ((U kB jA).f3)] 66 (0,0)) (pb uz) hb);replace HB:=Ah (aH (aw HB e8 eK Ek) hb);(try clear hb)))
         go_ret2
         exact⟨er,aw HB e8 eK Ek⟩
        replace c32:=PT.mpr c32;subst c32;rw[if_neg dr]at H;have H':=Ah H;clear H;have uB:0≤(jA:Int):=od;have uC:jA<(kB.length:Int):=od;obtain⟨ME,e187,yL,yM,yN,yO,yP⟩:=eC Yb.out jA uB uC;obtain rfl:wV=ME:=(by injection e187);replace yL:=hq HB yL;replace yM:=hq HB yM;replace yN:=hq HB yN;replace yO:=hq HB yO;replace yP:=hq HB yP;replace uB:=eq_true uB;replace uC:=eq_true uC
        go_wp2_with (first|((with_reducible refine ag (N:=10) rfl ?_);refine an 10 66 #[.int .i64 0,.int .i64 0,.int .i64 0,.int .i64 0,.int .i64 0] ?_;intro Ss hg UP uz hb;have GW188:=gw hg (am HB e8 eK);have Ek:=gw hg (am HB e8 eK);replace HB:=Ah (aH (am HB e8 eK) hb);have Bw:=nn dD hg;have Jn:=nm dD hg;replace dD:=nb dD hb;have Bx:=nn cH hg;have Jo:=nm cH hg;replace cH:=nb cH hb;clear hb hg;have MJ:=Jn.out;have MK:=Bw.out;have hnb42:=Jo.out;have hnc42:=Bx.out;obtain⟨Qz,R5,R6,R7,R8⟩:=aj uz;obtain⟨RC,RD,RE,RF,RG⟩:=ai uz;have Yc:=oF.out;have Yd:=mE.out;obtain⟨HM,HU,HV,WB,WC⟩:=aj cH;obtain⟨HZ,Ha,Hb,WT,WU⟩:=ai cH)|(go_at_call 56;(with_reducible refine(xv.calls ((U kB jA).f2.f0) ((U kB jA).f2.f1) ((U l1 bW).f2.f0) ((U l1 bW).f2.f1) false _ A31.out).mono ?_);rintro e w46 ⟨rfl,hb⟩;replace dD:=Ah (bT (bf dD Bw) hb);replace cH:=Ah (bT (bf cH Bx) hb);replace uz:=Ah (bT (g:=Ss) (o:= .cells #[.int .i64 ((U kB jA).f0),.int .i64 ((U kB jA).f1),.int .i64 ((U kB jA).f2.f0),.int .i64 ((U kB jA).f2.f1),.int .i64 ((U kB jA).f3)] 66 (0,0)) (pb uz) hb);replace HB:=Ah (aH (aw HB e8 eK Ek) hb);(try clear hb)))
        go_roundg k3
        case measure=>have:=bi.out;have:=DQ.out;have:=uR.out;omega
        case rel=>exact⟨(Gj (jA+1)),e3,H',⟨by have:=bi.out;have:=DQ.out;have:=uR.out;omega⟩,⟨bk dD⟩,⟨bk cH⟩,⟨aw HB e8 eK Ek⟩⟩
       rw[if_neg yr]at H;have YY:=dn yr;clear yr;have H':=Ah H;clear H;have Ye:=mE.out;have Yf:=oF.out;obtain⟨WD,WE,WF⟩:=dE dD;obtain⟨WV,WW,WY⟩:=dF dD
       go_wp2
       go_loopg [66] k3 (fun kq v66 w'=>∃ (lO:Int),v66= .int .i64 lO∧Z (br.l2 kq l1 vK l1 (l1.length:Int) bW X (X.length:Int) lO aA X aC ((U l1 bW).f0) ((U l1 bW).f1) ((U l1 bW).f2.f0) ((U l1 bW).f2.f1) ((U l1 bW).f3)=some (r1,r2))∧Z (kq≤k3)∧Z (w'.heap[IT]?=some (.cells #[.int .i64 aA,(.slice af X.length aa),(.slice ab aC.length ac)] 26 (0,0)))∧Z (w'.heap[uy]?=some (.cells #[.int .i64 ((U l1 bW).f0),.int .i64 ((U l1 bW).f1),.int .i64 ((U l1 bW).f2.f0),.int .i64 ((U l1 bW).f2.f1),.int .i64 ((U l1 bW).f3)] 66 (0,0)))∧Z (Below w.heap.size w w'))
       case atStart=>exact⟨(0),e3,H',⟨QQ _⟩,⟨bk dD⟩,⟨bk cH⟩,⟨am HB e8 eK⟩⟩
       case round=>
        clear H'
        try clear c1
        try clear p1
        try clear q1
        try clear hx1
        try clear c2
        try clear p2
        try clear q2
        try clear c3
        try clear c4
        try clear fB
        try clear c5
        try clear kV
        try clear c6
        try clear o6
        try clear p6
        try clear c7
        try clear pY
        try clear uA
        try clear c10
        try clear c12
        try clear sc
        try clear Ej
        try clear c13
        try clear M5
        try clear M6
        try clear c15
        try clear JP
        try clear JQ
        try clear a0b
        try clear c19
        try clear c21
        try clear c23
        try clear c24
        try clear IV
        try clear M7
        try clear tB
        try clear Sm
        try clear YX
        try clear yq
        try clear yr
        try clear YY
        try clear c28
        try clear M8
        try clear lJ
        try clear Ce
        try clear jg
        try clear Ed
        try clear Si
        try clear c32
        try clear c34
        try clear DM
        try clear c37
        try clear yt
        try clear DN
        try clear GY
        try clear c48
        try clear c49
        try clear c51
        try clear oO oP qx sK sL
        try clear ug uh vz E8 E9
        try clear sO ub za
        try clear pn po qY zn zo
        try clear tU tV ui wA wB
        try clear EA EB HL W9 WA
        try clear EC ED Ke Kf Kg
        try clear Qz R5 R6 R7 R8
        try clear HM HU HV WB WC
        try clear HW HX R9 RA RB
        try clear WD WE WF
        try clear oQ oR qy sM sN
        try clear uj uk wC EE EF
        try clear sP uc zb
        try clear pp pq qZ zp zq
        try clear tW tX ul wD wE
        try clear EG EH HY WQ WR
        try clear EI EJ Kh Ki Kj
        try clear RC RD RE RF RG
        try clear HZ Ha Hb WT WU
        try clear Hd He RH RI RJ
        try clear WV WW WY
        try clear zi
        try clear zj
        try clear zk
        try clear zl
        try clear zm
        try clear yL
        try clear yM
        try clear yN
        try clear yO
        try clear yP
        try clear p1
        try clear JP
        try clear wu
        try clear uB
        try clear p2
        try clear q1
        try clear JQ
        try clear wv
        try clear uC
        try clear q2
        try clear yq
        obtain⟨lO,rfl,HA,UV,dD,cH,HB⟩:=hrel
        cases gk with
        |zero=>exact absurd HA.out (by simp[br.l2])
        |succ k4=>
         have H:=HA.out;clear HA;simp only[br.l2]at H
         by_cases c53:lO<(X.length:Int)
         rotate_left
         ·
          rw[if_neg c53]at H;have c53b0:=dn c53;clear c53;have H':=Ah H;clear H
          go_wp2
          go_roundg k4
          case measure=>have:=bi.out;have:=DQ.out;have:=uR.out;have:=UV.out;omega
          case rel=>exact⟨(Gj (vK+1)),(Gj (bW+1)),e3,e3,H',⟨by have:=bi.out;have:=DQ.out;have:=uR.out;have:=UV.out;omega⟩,⟨bk dD⟩,⟨am HB e8 eK⟩⟩
         rw[if_pos c53]at H;have c53b0:=bJ c53;clear c53
         by_cases tC:0≤lO
         rotate_left
         ·
          rw[if_neg tC]at H;exact absurd H (by simp)
         rw[if_pos tC]at H;have YZ:=bJ tC;clear tC
         by_cases pD:lO<(X.length:Int)
         rotate_left
         ·
          rw[if_neg pD]at H;exact absurd H (by simp)
         rw[if_pos pD]at H;have Ya:=bJ pD;clear pD;replace H:=Gl.mp H;obtain⟨Zw,A560,H⟩:=H
         try dsimp only at H
         have A56:=Ah A560;clear A560
         by_cases Po:Zw=true
         ·
          subst Po;rw[if_pos rfl]at H;simp only[Jh,Ue]at H;obtain⟨rfl,rfl⟩:=H;have Cy:0≤(lO:Int):=od;have Cz:lO<(X.length:Int):=od;obtain⟨ad190,e190,Hf,Hg⟩:=dN bo.out lO Cy Cz
          cases e190
          replace Hf:=hq HB Hf;replace Hg:=hq HB Hg;replace Cy:=eq_true Cy;replace Cz:=eq_true Cz
          go_wp2_with (first|((with_reducible refine ag (N:=12) rfl ?_);refine an 12 45 #[.int .i64 0,.int .i64 0] ?_;intro Yg hg w58 AN hb;have GW191:=gw hg (am HB e8 eK);have ML:=gw hg (am HB e8 eK);replace HB:=Ah (aH (am HB e8 eK) hb);have Jp:=nn dD hg;have V0:=nm dD hg;replace dD:=nb dD hb;have Jq:=nn cH hg;have V3:=nm cH hg;replace cH:=nb cH hb;clear hb hg;have hnb59:=V0.out;have hnc59:=Jp.out;have hnb60:=V3.out;have hnc60:=Jq.out;obtain⟨WI,WJ⟩:=cg AN;obtain⟨WZ,Wa⟩:=ch AN;have MM:=oF.out;have MN:=mE.out;obtain⟨WK,WL,WM,WO,WP⟩:=aj cH;obtain⟨Wb,Wc,Wd,We,Wf⟩:=ai cH)|((with_reducible refine bY (f:=56) rfl ?_);refine gL (some 73) rfl rfl Try.func56 (by kernel_rfl) rfl #[.agg #[.int .i64 ((aD X lO).f0),.int .i64 ((aD X lO).f1)],.agg #[.int .i64 ((U l1 bW).f2.f0),.int .i64 ((U l1 bW).f2.f1)]] rfl ?_;(with_reducible refine(xv.calls ((aD X lO).f0) ((aD X lO).f1) ((U l1 bW).f2.f0) ((U l1 bW).f2.f1) true _ A56.out).mono ?_);rintro e bv ⟨rfl,hb⟩;refine⟨_,rfl, ?_⟩;replace dD:=Ah (bT (bf dD Jp) hb);replace cH:=Ah (bT (bf cH Jq) hb);replace AN:=Ah (bT (g:=Yg) (o:= .cells #[.int .i64 ((aD X lO).f0),.int .i64 ((aD X lO).f1)] 45 (0,0)) (pb AN) hb);replace HB:=Ah (aH (aw HB e8 eK ML) hb);(try clear hb)))
          go_ret2
          exact⟨er,aw HB e8 eK ML⟩
         replace Po:=PT.mpr Po;subst Po;rw[if_neg dr]at H;have H':=Ah H;clear H;have Cy:0≤(lO:Int):=od;have Cz:lO<(X.length:Int):=od;obtain⟨ad190,e190,Hf,Hg⟩:=dN bo.out lO Cy Cz
         cases e190
         replace Hf:=hq HB Hf;replace Hg:=hq HB Hg;replace Cy:=eq_true Cy;replace Cz:=eq_true Cz
         go_wp2_with (first|((with_reducible refine ag (N:=12) rfl ?_);refine an 12 45 #[.int .i64 0,.int .i64 0] ?_;intro Yg hg w65 AN hb;have GW191:=gw hg (am HB e8 eK);have ML:=gw hg (am HB e8 eK);replace HB:=Ah (aH (am HB e8 eK) hb);have Jp:=nn dD hg;have V0:=nm dD hg;replace dD:=nb dD hb;have Jq:=nn cH hg;have V3:=nm cH hg;replace cH:=nb cH hb;clear hb hg;have hnb66:=V0.out;have hnc66:=Jp.out;have hnb67:=V3.out;have hnc67:=Jq.out;obtain⟨hcz68_0,hcz68_1⟩:=cg AN;obtain⟨hfz68_0,hfz68_1⟩:=ch AN;have Yh:=oF.out;have Yi:=mE.out;obtain⟨hcz70_0,hcz70_1,hcz70_2,hcz70_3,hcz70_4⟩:=aj cH;obtain⟨hfz70_0,hfz70_1,hfz70_2,hfz70_3,hfz70_4⟩:=ai cH)|((with_reducible refine bY (f:=56) rfl ?_);refine gL (some 73) rfl rfl Try.func56 (by kernel_rfl) rfl #[.agg #[.int .i64 ((aD X lO).f0),.int .i64 ((aD X lO).f1)],.agg #[.int .i64 ((U l1 bW).f2.f0),.int .i64 ((U l1 bW).f2.f1)]] rfl ?_;(with_reducible refine(xv.calls ((aD X lO).f0) ((aD X lO).f1) ((U l1 bW).f2.f0) ((U l1 bW).f2.f1) false _ A56.out).mono ?_);rintro e w71 ⟨rfl,hb⟩;refine⟨_,rfl, ?_⟩;replace dD:=Ah (bT (bf dD Jp) hb);replace cH:=Ah (bT (bf cH Jq) hb);replace AN:=Ah (bT (g:=Yg) (o:= .cells #[.int .i64 ((aD X lO).f0),.int .i64 ((aD X lO).f1)] 45 (0,0)) (pb AN) hb);replace HB:=Ah (aH (aw HB e8 eK ML) hb);(try clear hb)))
         go_roundg k4
         case measure=>have:=bi.out;have:=DQ.out;have:=uR.out;have:=UV.out;omega
         case rel=>exact⟨(Gj (lO+1)),e3,H',⟨by have:=bi.out;have:=DQ.out;have:=uR.out;have:=UV.out;omega⟩,⟨bk dD⟩,⟨bk cH⟩,⟨aw HB e8 eK ML⟩⟩
def gI.l0:Nat→List (Y)→Int→List (Y)→Int→Int→Option (Bool)
 |0,_,_,_,_,_=>none
 |k+1,x0,x1,x7,x8,x9=>if x9<x8 then(if 0≤x9 then(if x9<(x7.length:Int)then(if((aD x7 x9).f0)<0 then(some false)else(if((aD x7 x9).f1)<1 then(some false)else(if((aD x7 x9).f1)>x1 then(some false)else(if((aD x7 x9).f0)>(Gj (x1-((aD x7 x9).f1)))then(some false)else(if x9>0 then(if 0≤(Gj (x9-1))then(if(Gj (x9-1))<(x0.length:Int)then(if(Gj (((aD x0 (Gj (x9-1))).f0)+((aD x0 (Gj (x9-1))).f1)))≥ ((aD x7 x9).f0)then(some false)else(gI.l0 k x0 x1 x7 x8 (Gj (x9+1))))else(none))else(none))else(gI.l0 k x0 x1 x7 x8 (Gj (x9+1))))))))else(none))else(none))else((lr.f x1 1 400).bind fun a0e=>(if a0e=true then(some (decide ((x0.length:Int)≤60)))else(some false)))
def gI.f(k:Nat)(l0:List (Y))(a1:Int):Option (Bool):=gI.l0 k l0 a1 l0 (l0.length:Int) 0
theorem gI.cQ:∀k,(∀y0 y1 y2 y3 y4,aG (gI.l0 k y0 y1 y2 y3 y4) (gI.l0 (k+1) y0 y1 y2 y3 y4))
 |0=>fun _ _ _ _ _ r h=>by simp[gI.l0]at h
 |k+1=>by
  have bS:=gI.cQ k
  ·
   intro y0 y1 y2 y3 y4;unfold gI.l0
   repeat' with_reducible first|exact bS _ _ _ _ _|exact aG.refl _|exact aG.none _|refine aG.ite ?_ ?_|refine aG.bind ?_ (fun _=> ?_)
theorem gI.mono:∀a0 a1 k,aG (gI.f k a0 a1) (gI.f (k+1) a0 a1):=by
 intro a0 a1 k;have bS:=gI.cQ k;unfold gI.f
 repeat' with_reducible first|exact bS _ _ _ _ _|exact aG.refl _|exact aG.none _|refine aG.ite ?_ ?_|refine aG.bind ?_ (fun _=> ?_)
theorem gI.calls(k:Nat)(A0:Option Addr)(c0:Nat)(l0:List (Y))(a1:Int)(r:Bool)(w:World)(hr0:Kd.C aT w A0 l0.length l0)(hc0:l0.length≤c0)(h:gI.f k l0 a1=some r):
 Calls Uf 70 #[.slice A0 l0.length c0,.int .i64 a1] w fun e w'=>e= .returned (.bool r)∧Below w.heap.size w w':=by
 have jT:=fk;have cX:=Ah hr0;have oE:=Ah hc0;clear hr0 hc0;have HB:=Ah (Ud w.heap.size w);have H:(gI.l0 k l0 a1 l0 (l0.length:Int) 0)=some r:=h;clear h;have H':=Ah H;clear H
 go_enter Try.func70,Try.ntmps70
 go_wp2
 repeat(go_quiet (fail);try go_wp2)
 go_loopg [9] k (fun kq v9 w'=>∃ (bP:Int),v9= .int .i64 bP∧Z (gI.l0 kq l0 a1 l0 (l0.length:Int) bP=some r)∧Z (kq≤k)∧Z (Below w.heap.size w w'))
 case atStart=>exact⟨(0),e3,H',⟨QQ _⟩,⟨bs HB⟩⟩
 case round=>
  clear H'
  try clear p2
  obtain⟨bP,rfl,HA,bi,HB⟩:=hrel
  cases gk with
  |zero=>exact absurd HA.out (by simp[gI.l0])
  |succ k1=>
   have H:=HA.out;clear HA;simp only[gI.l0]at H
   by_cases c3:bP<(l0.length:Int)
   rotate_left
   ·
    rw[if_neg c3]at H;have dc:=dn c3;clear c3;replace H:=Gl.mp H;obtain⟨a0e,A290,H⟩:=H
    try dsimp only at H
    have JS:=Ah A290;clear A290
    by_cases jg:a0e=true
    ·
     subst jg;rw[if_pos rfl]at H;obtain rfl:=Gn H
     go_wp2_with (first|(go_at_call 33;(with_reducible refine(lr.calls a1 1 400 true _ JS.out).mono ?_);rintro e w' ⟨rfl,⟨nd,rfl⟩⟩;(try first|exact⟨rfl,_,fD _ _ _⟩|exact⟨rfl,_,Eq.trans (fD _ _ _) (congrArg (aao _) (aaq _ _ _))⟩)))
     repeat(go_quiet (first|(go_at_call 33;(with_reducible refine(lr.calls a1 1 400 true _ JS.out).mono ?_);rintro e w' ⟨rfl,⟨nd,rfl⟩⟩;(try first|exact⟨rfl,_,fD _ _ _⟩|exact⟨rfl,_,Eq.trans (fD _ _ _) (congrArg (aao _) (aaq _ _ _))⟩)));try go_wp2_with (first|(go_at_call 33;(with_reducible refine(lr.calls a1 1 400 true _ JS.out).mono ?_);rintro e w' ⟨rfl,⟨nd,rfl⟩⟩;(try first|exact⟨rfl,_,fD _ _ _⟩|exact⟨rfl,_,Eq.trans (fD _ _ _) (congrArg (aao _) (aaq _ _ _))⟩))))
     go_ret
     exact⟨er,bs HB⟩
    replace jg:=PT.mpr jg;subst jg;rw[if_neg dr]at H;obtain rfl:=Gn H
    go_wp2_with (first|(go_at_call 33;(with_reducible refine(lr.calls a1 1 400 false _ JS.out).mono ?_);rintro e w' ⟨rfl,⟨nd,rfl⟩⟩;(try first|exact⟨rfl,_,fD _ _ _⟩|exact⟨rfl,_,Eq.trans (fD _ _ _) (congrArg (aao _) (aaq _ _ _))⟩)))
    repeat(go_quiet (first|(go_at_call 33;(with_reducible refine(lr.calls a1 1 400 false _ JS.out).mono ?_);rintro e w' ⟨rfl,⟨nd,rfl⟩⟩;(try first|exact⟨rfl,_,fD _ _ _⟩|exact⟨rfl,_,Eq.trans (fD _ _ _) (congrArg (aao _) (aaq _ _ _))⟩)));try go_wp2_with (first|(go_at_call 33;(with_reducible refine(lr.calls a1 1 400 false _ JS.out).mono ?_);rintro e w' ⟨rfl,⟨nd,rfl⟩⟩;(try first|exact⟨rfl,_,fD _ _ _⟩|exact⟨rfl,_,Eq.trans (fD _ _ _) (congrArg (aao _) (aaq _ _ _))⟩))))
    go_ret
    exact⟨er,bs HB⟩
   rw[if_pos c3]at H;have dc:=bJ c3;clear c3
   by_cases c4:0≤bP
   rotate_left
   ·
    rw[if_neg c4]at H;exact absurd H (by simp)
   rw[if_pos c4]at H;have fB:=bJ c4;clear c4
   by_cases c5:bP<(l0.length:Int)
   rotate_left
   ·
    rw[if_neg c5]at H;exact absurd H (by simp)
   rw[if_pos c5]at H;have kV:=bJ c5;clear c5
   by_cases c6:((aD l0 bP).f0)<0
   ·
    rw[if_pos c6]at H;have o6:=bJ c6;clear c6;obtain rfl:=Gn H;have kv:0≤(bP:Int):=od;have kw:bP<(l0.length:Int):=od;obtain⟨fq,uD,nj,nk⟩:=dN cX.out bP kv kw
    cases uD
    replace nj:=hq HB nj;replace nk:=hq HB nk;replace kv:=eq_true kv;replace kw:=eq_true kw
    go_wp2_with (first|((with_reducible refine ag (N:=6) rfl ?_);(try(refine ev (by rfl) ?_;dsimp only));refine an 6 45 #[.int .i64 0,.int .i64 0] ?_;intro bM hg w7 dt hb;have fX:=gw hg (bs HB);have kf:=gw hg (bs HB);replace HB:=Ah (aH (bs HB) hb);clear hb hg;obtain⟨r9,rA⟩:=cg dt;obtain⟨rB,rC⟩:=ch dt))
    repeat(go_quiet (first|((with_reducible refine ag (N:=6) rfl ?_);(try(refine ev (by rfl) ?_;dsimp only));refine an 6 45 #[.int .i64 0,.int .i64 0] ?_;intro bM hg w7 dt hb;have fX:=gw hg (bs HB);have kf:=gw hg (bs HB);replace HB:=Ah (aH (bs HB) hb);clear hb hg;obtain⟨r9,rA⟩:=cg dt;obtain⟨rB,rC⟩:=ch dt));try go_wp2_with (first|((with_reducible refine ag (N:=6) rfl ?_);(try(refine ev (by rfl) ?_;dsimp only));refine an 6 45 #[.int .i64 0,.int .i64 0] ?_;intro bM hg w7 dt hb;have fX:=gw hg (bs HB);have kf:=gw hg (bs HB);replace HB:=Ah (aH (bs HB) hb);clear hb hg;obtain⟨r9,rA⟩:=cg dt;obtain⟨rB,rC⟩:=ch dt)))
    go_ret
    exact⟨er,aM HB kf⟩
   rw[if_neg c6]at H;have o6:=dn c6;clear c6
   by_cases c9:((aD l0 bP).f1)<1
   ·
    rw[if_pos c9]at H;have sk:=bJ c9;clear c9;obtain rfl:=Gn H;have kv:0≤(bP:Int):=od;have kw:bP<(l0.length:Int):=od;obtain⟨fq,uD,nj,nk⟩:=dN cX.out bP kv kw
    cases uD
    replace nj:=hq HB nj;replace nk:=hq HB nk;replace kv:=eq_true kv;replace kw:=eq_true kw
    go_wp2_with (first|((with_reducible refine ag (N:=6) rfl ?_);(try(refine ev (by rfl) ?_;dsimp only));refine an 6 45 #[.int .i64 0,.int .i64 0] ?_;intro bM hg lp dt hb;have fX:=gw hg (bs HB);have kf:=gw hg (bs HB);replace HB:=Ah (aH (bs HB) hb);clear hb hg;obtain⟨oO,oP⟩:=cg dt;obtain⟨oQ,oR⟩:=ch dt))
    repeat(go_quiet (first|((with_reducible refine ag (N:=6) rfl ?_);(try(refine ev (by rfl) ?_;dsimp only));refine an 6 45 #[.int .i64 0,.int .i64 0] ?_;intro bM hg lp dt hb;have fX:=gw hg (bs HB);have kf:=gw hg (bs HB);replace HB:=Ah (aH (bs HB) hb);clear hb hg;obtain⟨oO,oP⟩:=cg dt;obtain⟨oQ,oR⟩:=ch dt));try go_wp2_with (first|((with_reducible refine ag (N:=6) rfl ?_);(try(refine ev (by rfl) ?_;dsimp only));refine an 6 45 #[.int .i64 0,.int .i64 0] ?_;intro bM hg lp dt hb;have fX:=gw hg (bs HB);have kf:=gw hg (bs HB);replace HB:=Ah (aH (bs HB) hb);clear hb hg;obtain⟨oO,oP⟩:=cg dt;obtain⟨oQ,oR⟩:=ch dt)))
    go_ret
    exact⟨er,aM HB kf⟩
   rw[if_neg c9]at H;have sk:=dn c9;clear c9
   by_cases c12:((aD l0 bP).f1)>a1
   ·
    rw[if_pos c12]at H;have sc:=bJ c12;clear c12;obtain rfl:=Gn H;have kv:0≤(bP:Int):=od;have kw:bP<(l0.length:Int):=od;obtain⟨fq,uD,nj,nk⟩:=dN cX.out bP kv kw
    cases uD
    replace nj:=hq HB nj;replace nk:=hq HB nk;replace kv:=eq_true kv;replace kw:=eq_true kw
    go_wp2_with (first|((with_reducible refine ag (N:=6) rfl ?_);(try(refine ev (by rfl) ?_;dsimp only));refine an 6 45 #[.int .i64 0,.int .i64 0] ?_;intro bM hg pd dt hb;have fX:=gw hg (bs HB);have kf:=gw hg (bs HB);replace HB:=Ah (aH (bs HB) hb);clear hb hg;obtain⟨sG,sH⟩:=cg dt;obtain⟨sI,sJ⟩:=ch dt))
    repeat(go_quiet (first|((with_reducible refine ag (N:=6) rfl ?_);(try(refine ev (by rfl) ?_;dsimp only));refine an 6 45 #[.int .i64 0,.int .i64 0] ?_;intro bM hg pd dt hb;have fX:=gw hg (bs HB);have kf:=gw hg (bs HB);replace HB:=Ah (aH (bs HB) hb);clear hb hg;obtain⟨sG,sH⟩:=cg dt;obtain⟨sI,sJ⟩:=ch dt));try go_wp2_with (first|((with_reducible refine ag (N:=6) rfl ?_);(try(refine ev (by rfl) ?_;dsimp only));refine an 6 45 #[.int .i64 0,.int .i64 0] ?_;intro bM hg pd dt hb;have fX:=gw hg (bs HB);have kf:=gw hg (bs HB);replace HB:=Ah (aH (bs HB) hb);clear hb hg;obtain⟨sG,sH⟩:=cg dt;obtain⟨sI,sJ⟩:=ch dt)))
    go_ret
    exact⟨er,aM HB kf⟩
   rw[if_neg c12]at H;have sc:=dn c12;clear c12
   by_cases c15:((aD l0 bP).f0)>(Gj (a1-((aD l0 bP).f1)))
   ·
    rw[if_pos c15]at H;have Ee:=bJ c15;clear c15;obtain rfl:=Gn H;have kv:0≤(bP:Int):=od;have kw:bP<(l0.length:Int):=od;obtain⟨fq,uD,nj,nk⟩:=dN cX.out bP kv kw
    cases uD
    replace nj:=hq HB nj;replace nk:=hq HB nk;replace kv:=eq_true kv;replace kw:=eq_true kw
    go_wp2_with (first|((with_reducible refine ag (N:=6) rfl ?_);(try(refine ev (by rfl) ?_;dsimp only));refine an 6 45 #[.int .i64 0,.int .i64 0] ?_;intro bM hg w16 dt hb;have fX:=gw hg (bs HB);have kf:=gw hg (bs HB);replace HB:=Ah (aH (bs HB) hb);clear hb hg;obtain⟨sO,ub⟩:=cg dt;obtain⟨sP,uc⟩:=ch dt))
    repeat(go_quiet (first|((with_reducible refine ag (N:=6) rfl ?_);(try(refine ev (by rfl) ?_;dsimp only));refine an 6 45 #[.int .i64 0,.int .i64 0] ?_;intro bM hg w16 dt hb;have fX:=gw hg (bs HB);have kf:=gw hg (bs HB);replace HB:=Ah (aH (bs HB) hb);clear hb hg;obtain⟨sO,ub⟩:=cg dt;obtain⟨sP,uc⟩:=ch dt));try go_wp2_with (first|((with_reducible refine ag (N:=6) rfl ?_);(try(refine ev (by rfl) ?_;dsimp only));refine an 6 45 #[.int .i64 0,.int .i64 0] ?_;intro bM hg w16 dt hb;have fX:=gw hg (bs HB);have kf:=gw hg (bs HB);replace HB:=Ah (aH (bs HB) hb);clear hb hg;obtain⟨sO,ub⟩:=cg dt;obtain⟨sP,uc⟩:=ch dt)))
    go_ret
    exact⟨er,aM HB kf⟩
   rw[if_neg c15]at H;have Ee:=dn c15;clear c15
   by_cases c18:bP>0
   rotate_left
   ·
    rw[if_neg c18]at H;have Ls:=dn c18;clear c18;have H':=Ah H;clear H;have kv:0≤(bP:Int):=od;have kw:bP<(l0.length:Int):=od;obtain⟨fq,uD,nj,nk⟩:=dN cX.out bP kv kw
    cases uD
    replace nj:=hq HB nj;replace nk:=hq HB nk;replace kv:=eq_true kv;replace kw:=eq_true kw
    go_wp2_with (first|((with_reducible refine ag (N:=6) rfl ?_);(try(refine ev (by rfl) ?_;dsimp only));refine an 6 45 #[.int .i64 0,.int .i64 0] ?_;intro bM hg BK dt hb;have fX:=gw hg (bs HB);have kf:=gw hg (bs HB);replace HB:=Ah (aH (bs HB) hb);clear hb hg;obtain⟨zr,CG⟩:=cg dt;obtain⟨zs,CH⟩:=ch dt))
    repeat(go_quiet (first|((with_reducible refine ag (N:=6) rfl ?_);(try(refine ev (by rfl) ?_;dsimp only));refine an 6 45 #[.int .i64 0,.int .i64 0] ?_;intro bM hg BK dt hb;have fX:=gw hg (bs HB);have kf:=gw hg (bs HB);replace HB:=Ah (aH (bs HB) hb);clear hb hg;obtain⟨zr,CG⟩:=cg dt;obtain⟨zs,CH⟩:=ch dt));try go_wp2_with (first|((with_reducible refine ag (N:=6) rfl ?_);(try(refine ev (by rfl) ?_;dsimp only));refine an 6 45 #[.int .i64 0,.int .i64 0] ?_;intro bM hg BK dt hb;have fX:=gw hg (bs HB);have kf:=gw hg (bs HB);replace HB:=Ah (aH (bs HB) hb);clear hb hg;obtain⟨zr,CG⟩:=cg dt;obtain⟨zs,CH⟩:=ch dt)))
    go_roundg k1
    case measure=>have:=bi.out;omega
    case rel=>exact⟨(Gj (bP+1)),e3,H',⟨by have:=bi.out;omega⟩,⟨aM HB kf⟩⟩
   rw[if_pos c18]at H;have Ls:=bJ c18;clear c18;obtain⟨fQ,Sw⟩:∃j_:Int,(Gj (bP-1))=j_:=⟨_,rfl⟩
   replace H:(if 0≤(fQ)then(if(fQ)<(l0.length:Int)then(if(Gj (((aD l0 (fQ)).f0)+((aD l0 (fQ)).f1)))≥ ((aD l0 bP).f0)then(some false)else(gI.l0 k1 l0 a1 l0 (l0.length:Int) (Gj (bP+1))))else(none))else(none))=some r:=by first|(rw[Sw]at H;exact H)|(simp only[Sw]at H⊢;exact H)
   have hji19w:(IntKind.i64.wrap (bP-1))=fQ:=(kP _).trans Sw
   by_cases c20:0≤(fQ)
   rotate_left
   ·
    rw[if_neg c20]at H;exact absurd H (by simp)
   rw[if_pos c20]at H;have Cg:=bJ c20;clear c20
   by_cases c21:(fQ)<(l0.length:Int)
   rotate_left
   ·
    rw[if_neg c21]at H;exact absurd H (by simp)
   rw[if_pos c21]at H;have c21b0:=bJ c21;clear c21
   by_cases pe:(Gj (((aD l0 (fQ)).f0)+((aD l0 (fQ)).f1)))≥ ((aD l0 bP).f0)
   ·
    rw[if_pos pe]at H;have c22b0:=bJ pe;clear pe;obtain rfl:=Gn H;have kv:0≤(bP:Int):=od;have kw:bP<(l0.length:Int):=od;obtain⟨fq,uD,nj,nk⟩:=dN cX.out bP kv kw
    cases uD
    replace nj:=hq HB nj;replace nk:=hq HB nk;replace kv:=eq_true kv;replace kw:=eq_true kw
    go_wp2_with (first|((with_reducible refine ag (N:=6) rfl ?_);(try(refine ev (by rfl) ?_;dsimp only));refine an 6 45 #[.int .i64 0,.int .i64 0] ?_;intro bM hg kG dt hb;have fX:=gw hg (bs HB);have kf:=gw hg (bs HB);replace HB:=Ah (aH (bs HB) hb);clear hb hg;obtain⟨zt,zu⟩:=cg dt;obtain⟨zv,zw⟩:=ch dt;have mM:0≤((fQ):Int):=od;have mN:(fQ)<(l0.length:Int):=od;obtain⟨wW,wz,e6,ey⟩:=dN cX.out (fQ) mM mN;obtain rfl:fq=wW:=(by injection wz);have f4:fq.block≠bM:=aai (kY (by have:=Gk _ _ e6;first|rwa [bc]at this|exact this) fX.out);have f5:fq.block≠bM:=aai (kY (by have:=Gk _ _ e6;first|rwa [bc]at this|exact this) fX.out);replace e6:=hq HB e6;replace ey:=hq HB ey;replace e6:=(aW (p:=⟨bM,0,none⟩) (by first|(rw[bc];exact f4)|(show(rx _ _).block≠_;rw[bc];exact f4)|exact f4) (.int .i64 ((aD l0 bP).f0))).trans e6;replace ey:=(aW (p:=⟨bM,0,none⟩) (by first|(rw[bc];exact f4)|(show(rx _ _).block≠_;rw[bc];exact f4)|exact f4) (.int .i64 ((aD l0 bP).f0))).trans ey;replace e6:=(aW (p:=⟨bM,1,none⟩) (by first|(rw[bc];exact f5)|(show(rx _ _).block≠_;rw[bc];exact f5)|exact f5) (.int .i64 ((aD l0 bP).f1))).trans e6;replace ey:=(aW (p:=⟨bM,1,none⟩) (by first|(rw[bc];exact f5)|(show(rx _ _).block≠_;rw[bc];exact f5)|exact f5) (.int .i64 ((aD l0 bP).f1))).trans ey;(try have Kk:=fun(n_:Nat)=>(show((((kG.drewN n_).setCell ⟨bM,0,none⟩ (.int .i64 ((aD l0 bP).f0))).setCell ⟨bM,1,none⟩ (.int .i64 ((aD l0 bP).f1)))).cell? _=some _ from e6));(try have Kl:=fun(n_:Nat)=>(show((((kG.drewN n_).setCell ⟨bM,0,none⟩ (.int .i64 ((aD l0 bP).f0))).setCell ⟨bM,1,none⟩ (.int .i64 ((aD l0 bP).f1)))).cell? _=some _ from ey));clear f4;clear f5;replace mM:=eq_true mM;replace mN:=eq_true mN;have mO:0≤((fQ):Int):=od;have mP:(fQ)<(l0.length:Int):=od;obtain⟨wX,e203,e7,f7⟩:=dN cX.out (fQ) mO mP;obtain rfl:fq=wX:=(by injection e203);have f8:fq.block≠bM:=aai (kY (by have:=Gk _ _ e7;first|rwa [bc]at this|exact this) fX.out);have f9:fq.block≠bM:=aai (kY (by have:=Gk _ _ e7;first|rwa [bc]at this|exact this) fX.out);replace e7:=hq HB e7;replace f7:=hq HB f7;replace e7:=(aW (p:=⟨bM,0,none⟩) (by first|(rw[bc];exact f8)|(show(rx _ _).block≠_;rw[bc];exact f8)|exact f8) (.int .i64 ((aD l0 bP).f0))).trans e7;replace f7:=(aW (p:=⟨bM,0,none⟩) (by first|(rw[bc];exact f8)|(show(rx _ _).block≠_;rw[bc];exact f8)|exact f8) (.int .i64 ((aD l0 bP).f0))).trans f7;replace e7:=(aW (p:=⟨bM,1,none⟩) (by first|(rw[bc];exact f9)|(show(rx _ _).block≠_;rw[bc];exact f9)|exact f9) (.int .i64 ((aD l0 bP).f1))).trans e7;replace f7:=(aW (p:=⟨bM,1,none⟩) (by first|(rw[bc];exact f9)|(show(rx _ _).block≠_;rw[bc];exact f9)|exact f9) (.int .i64 ((aD l0 bP).f1))).trans f7;(try have Km:=fun(n_:Nat)=>(show((((kG.drewN n_).setCell ⟨bM,0,none⟩ (.int .i64 ((aD l0 bP).f0))).setCell ⟨bM,1,none⟩ (.int .i64 ((aD l0 bP).f1)))).cell? _=some _ from e7));(try have Kn:=fun(n_:Nat)=>(show((((kG.drewN n_).setCell ⟨bM,0,none⟩ (.int .i64 ((aD l0 bP).f0))).setCell ⟨bM,1,none⟩ (.int .i64 ((aD l0 bP).f1)))).cell? _=some _ from f7));clear f8;clear f9;replace mO:=eq_true mO;replace mP:=eq_true mP))
    repeat(go_quiet (first|((with_reducible refine ag (N:=6) rfl ?_);(try(refine ev (by rfl) ?_;dsimp only));refine an 6 45 #[.int .i64 0,.int .i64 0] ?_;intro bM hg kG dt hb;have fX:=gw hg (bs HB);have kf:=gw hg (bs HB);replace HB:=Ah (aH (bs HB) hb);clear hb hg;obtain⟨zt,zu⟩:=cg dt;obtain⟨zv,zw⟩:=ch dt;have mM:0≤((fQ):Int):=od;have mN:(fQ)<(l0.length:Int):=od;obtain⟨wW,wz,e6,ey⟩:=dN cX.out (fQ) mM mN;obtain rfl:fq=wW:=(by injection wz);have f4:fq.block≠bM:=aai (kY (by have:=Gk _ _ e6;first|rwa [bc]at this|exact this) fX.out);have f5:fq.block≠bM:=aai (kY (by have:=Gk _ _ e6;first|rwa [bc]at this|exact this) fX.out);replace e6:=hq HB e6;replace ey:=hq HB ey;replace e6:=(aW (p:=⟨bM,0,none⟩) (by first|(rw[bc];exact f4)|(show(rx _ _).block≠_;rw[bc];exact f4)|exact f4) (.int .i64 ((aD l0 bP).f0))).trans e6;replace ey:=(aW (p:=⟨bM,0,none⟩) (by first|(rw[bc];exact f4)|(show(rx _ _).block≠_;rw[bc];exact f4)|exact f4) (.int .i64 ((aD l0 bP).f0))).trans ey;replace e6:=(aW (p:=⟨bM,1,none⟩) (by first|(rw[bc];exact f5)|(show(rx _ _).block≠_;rw[bc];exact f5)|exact f5) (.int .i64 ((aD l0 bP).f1))).trans e6;replace ey:=(aW (p:=⟨bM,1,none⟩) (by first|(rw[bc];exact f5)|(show(rx _ _).block≠_;rw[bc];exact f5)|exact f5) (.int .i64 ((aD l0 bP).f1))).trans ey;(try have Kk:=fun(n_:Nat)=>(show((((kG.drewN n_).setCell ⟨bM,0,none⟩ (.int .i64 ((aD l0 bP).f0))).setCell ⟨bM,1,none⟩ (.int .i64 ((aD l0 bP).f1)))).cell? _=some _ from e6));(try have Kl:=fun(n_:Nat)=>(show((((kG.drewN n_).setCell ⟨bM,0,none⟩ (.int .i64 ((aD l0 bP).f0))).setCell ⟨bM,1,none⟩ (.int .i64 ((aD l0 bP).f1)))).cell? _=some _ from ey));clear f4;clear f5;replace mM:=eq_true mM;replace mN:=eq_true mN;have mO:0≤((fQ):Int):=od;have mP:(fQ)<(l0.length:Int):=od;obtain⟨wX,e203,e7,f7⟩:=dN cX.out (fQ) mO mP;obtain rfl:fq=wX:=(by injection e203);have f8:fq.block≠bM:=aai (kY (by have:=Gk _ _ e7;first|rwa [bc]at this|exact this) fX.out);have f9:fq.block≠bM:=aai (kY (by have:=Gk _ _ e7;first|rwa [bc]at this|exact this) fX.out);replace e7:=hq HB e7;replace f7:=hq HB f7;replace e7:=(aW (p:=⟨bM,0,none⟩) (by first|(rw[bc];exact f8)|(show(rx _ _).block≠_;rw[bc];exact f8)|exact f8) (.int .i64 ((aD l0 bP).f0))).trans e7;replace f7:=(aW (p:=⟨bM,0,none⟩) (by first|(rw[bc];exact f8)|(show(rx _ _).block≠_;rw[bc];exact f8)|exact f8) (.int .i64 ((aD l0 bP).f0))).trans f7;replace e7:=(aW (p:=⟨bM,1,none⟩) (by first|(rw[bc];exact f9)|(show(rx _ _).block≠_;rw[bc];exact f9)|exact f9) (.int .i64 ((aD l0 bP).f1))).trans e7;replace f7:=(aW (p:=⟨bM,1,none⟩) (by first|(rw[bc];exact f9)|(show(rx _ _).block≠_;rw[bc];exact f9)|exact f9) (.int .i64 ((aD l0 bP).f1))).trans f7;(try have Km:=fun(n_:Nat)=>(show((((kG.drewN n_).setCell ⟨bM,0,none⟩ (.int .i64 ((aD l0 bP).f0))).setCell ⟨bM,1,none⟩ (.int .i64 ((aD l0 bP).f1)))).cell? _=some _ from e7));(try have Kn:=fun(n_:Nat)=>(show((((kG.drewN n_).setCell ⟨bM,0,none⟩ (.int .i64 ((aD l0 bP).f0))).setCell ⟨bM,1,none⟩ (.int .i64 ((aD l0 bP).f1)))).cell? _=some _ from f7));clear f8;clear f9;replace mO:=eq_true mO;replace mP:=eq_true mP));try go_wp2_with (first|((with_reducible refine ag (N:=6) rfl ?_);(try(refine ev (by rfl) ?_;dsimp only));refine an 6 45 #[.int .i64 0,.int .i64 0] ?_;intro bM hg kG dt hb;have fX:=gw hg (bs HB);have kf:=gw hg (bs HB);replace HB:=Ah (aH (bs HB) hb);clear hb hg;obtain⟨zt,zu⟩:=cg dt;obtain⟨zv,zw⟩:=ch dt;have mM:0≤((fQ):Int):=od;have mN:(fQ)<(l0.length:Int):=od;obtain⟨wW,wz,e6,ey⟩:=dN cX.out (fQ) mM mN;obtain rfl:fq=wW:=(by injection wz);have f4:fq.block≠bM:=aai (kY (by have:=Gk _ _ e6;first|rwa [bc]at this|exact this) fX.out);have f5:fq.block≠bM:=aai (kY (by have:=Gk _ _ e6;first|rwa [bc]at this|exact this) fX.out);replace e6:=hq HB e6;replace ey:=hq HB ey;replace e6:=(aW (p:=⟨bM,0,none⟩) (by first|(rw[bc];exact f4)|(show(rx _ _).block≠_;rw[bc];exact f4)|exact f4) (.int .i64 ((aD l0 bP).f0))).trans e6;replace ey:=(aW (p:=⟨bM,0,none⟩) (by first|(rw[bc];exact f4)|(show(rx _ _).block≠_;rw[bc];exact f4)|exact f4) (.int .i64 ((aD l0 bP).f0))).trans ey;replace e6:=(aW (p:=⟨bM,1,none⟩) (by first|(rw[bc];exact f5)|(show(rx _ _).block≠_;rw[bc];exact f5)|exact f5) (.int .i64 ((aD l0 bP).f1))).trans e6;replace ey:=(aW (p:=⟨bM,1,none⟩) (by first|(rw[bc];exact f5)|(show(rx _ _).block≠_;rw[bc];exact f5)|exact f5) (.int .i64 ((aD l0 bP).f1))).trans ey;(try have Kk:=fun(n_:Nat)=>(show((((kG.drewN n_).setCell ⟨bM,0,none⟩ (.int .i64 ((aD l0 bP).f0))).setCell ⟨bM,1,none⟩ (.int .i64 ((aD l0 bP).f1)))).cell? _=some _ from e6));(try have Kl:=fun(n_:Nat)=>(show((((kG.drewN n_).setCell ⟨bM,0,none⟩ (.int .i64 ((aD l0 bP).f0))).setCell ⟨bM,1,none⟩ (.int .i64 ((aD l0 bP).f1)))).cell? _=some _ from ey));clear f4;clear f5;replace mM:=eq_true mM;replace mN:=eq_true mN;have mO:0≤((fQ):Int):=od;have mP:(fQ)<(l0.length:Int):=od;obtain⟨wX,e203,e7,f7⟩:=dN cX.out (fQ) mO mP;obtain rfl:fq=wX:=(by injection e203);have f8:fq.block≠bM:=aai (kY (by have:=Gk _ _ e7;first|rwa [bc]at this|exact this) fX.out);have f9:fq.block≠bM:=aai (kY (by have:=Gk _ _ e7;first|rwa [bc]at this|exact this) fX.out);replace e7:=hq HB e7;replace f7:=hq HB f7;replace e7:=(aW (p:=⟨bM,0,none⟩) (by first|(rw[bc];exact f8)|(show(rx _ _).block≠_;rw[bc];exact f8)|exact f8) (.int .i64 ((aD l0 bP).f0))).trans e7;replace f7:=(aW (p:=⟨bM,0,none⟩) (by first|(rw[bc];exact f8)|(show(rx _ _).block≠_;rw[bc];exact f8)|exact f8) (.int .i64 ((aD l0 bP).f0))).trans f7;replace e7:=(aW (p:=⟨bM,1,none⟩) (by first|(rw[bc];exact f9)|(show(rx _ _).block≠_;rw[bc];exact f9)|exact f9) (.int .i64 ((aD l0 bP).f1))).trans e7;replace f7:=(aW (p:=⟨bM,1,none⟩) (by first|(rw[bc];exact f9)|(show(rx _ _).block≠_;rw[bc];exact f9)|exact f9) (.int .i64 ((aD l0 bP).f1))).trans f7;(try have Km:=fun(n_:Nat)=>(show((((kG.drewN n_).setCell ⟨bM,0,none⟩ (.int .i64 ((aD l0 bP).f0))).setCell ⟨bM,1,none⟩ (.int .i64 ((aD l0 bP).f1)))).cell? _=some _ from e7));(try have Kn:=fun(n_:Nat)=>(show((((kG.drewN n_).setCell ⟨bM,0,none⟩ (.int .i64 ((aD l0 bP).f0))).setCell ⟨bM,1,none⟩ (.int .i64 ((aD l0 bP).f1)))).cell? _=some _ from f7));clear f8;clear f9;replace mO:=eq_true mO;replace mP:=eq_true mP)))
    go_ret
    exact⟨by first|rfl|(simp[mC,mD]<;>rfl)|(simp only[←Sw];first|rfl|(simp[mC,mD]<;>rfl))|(simp[*,mC,mD]<;>rfl),aM HB kf⟩
   rw[if_neg pe]at H;have c22b0:=dn pe;clear pe;have H':=Ah H;clear H;have kv:0≤(bP:Int):=od;have kw:bP<(l0.length:Int):=od;obtain⟨fq,uD,nj,nk⟩:=dN cX.out bP kv kw
   cases uD
   replace nj:=hq HB nj;replace nk:=hq HB nk;replace kv:=eq_true kv;replace kw:=eq_true kw
   go_wp2_with (first|((with_reducible refine ag (N:=6) rfl ?_);(try(refine ev (by rfl) ?_;dsimp only));refine an 6 45 #[.int .i64 0,.int .i64 0] ?_;intro bM hg ek dt hb;have fX:=gw hg (bs HB);have kf:=gw hg (bs HB);replace HB:=Ah (aH (bs HB) hb);clear hb hg;obtain⟨KY,KZ⟩:=cg dt;obtain⟨Ka,Kb⟩:=ch dt;have mM:0≤((fQ):Int):=od;have mN:(fQ)<(l0.length:Int):=od;obtain⟨wW,wz,e6,ey⟩:=dN cX.out (fQ) mM mN;obtain rfl:fq=wW:=(by injection wz);have f4:fq.block≠bM:=aai (kY (by have:=Gk _ _ e6;first|rwa [bc]at this|exact this) fX.out);have f5:fq.block≠bM:=aai (kY (by have:=Gk _ _ e6;first|rwa [bc]at this|exact this) fX.out);replace e6:=hq HB e6;replace ey:=hq HB ey;replace e6:=(aW (p:=⟨bM,0,none⟩) (by first|(rw[bc];exact f4)|(show(rx _ _).block≠_;rw[bc];exact f4)|exact f4) (.int .i64 ((aD l0 bP).f0))).trans e6;replace ey:=(aW (p:=⟨bM,0,none⟩) (by first|(rw[bc];exact f4)|(show(rx _ _).block≠_;rw[bc];exact f4)|exact f4) (.int .i64 ((aD l0 bP).f0))).trans ey;replace e6:=(aW (p:=⟨bM,1,none⟩) (by first|(rw[bc];exact f5)|(show(rx _ _).block≠_;rw[bc];exact f5)|exact f5) (.int .i64 ((aD l0 bP).f1))).trans e6;replace ey:=(aW (p:=⟨bM,1,none⟩) (by first|(rw[bc];exact f5)|(show(rx _ _).block≠_;rw[bc];exact f5)|exact f5) (.int .i64 ((aD l0 bP).f1))).trans ey;(try have Kk:=fun(n_:Nat)=>(show((((ek.drewN n_).setCell ⟨bM,0,none⟩ (.int .i64 ((aD l0 bP).f0))).setCell ⟨bM,1,none⟩ (.int .i64 ((aD l0 bP).f1)))).cell? _=some _ from e6));(try have Kl:=fun(n_:Nat)=>(show((((ek.drewN n_).setCell ⟨bM,0,none⟩ (.int .i64 ((aD l0 bP).f0))).setCell ⟨bM,1,none⟩ (.int .i64 ((aD l0 bP).f1)))).cell? _=some _ from ey));clear f4;clear f5;replace mM:=eq_true mM;replace mN:=eq_true mN;have mO:0≤((fQ):Int):=od;have mP:(fQ)<(l0.length:Int):=od;obtain⟨wX,e203,e7,f7⟩:=dN cX.out (fQ) mO mP;obtain rfl:fq=wX:=(by injection e203);have f8:fq.block≠bM:=aai (kY (by have:=Gk _ _ e7;first|rwa [bc]at this|exact this) fX.out);have f9:fq.block≠bM:=aai (kY (by have:=Gk _ _ e7;first|rwa [bc]at this|exact this) fX.out);replace e7:=hq HB e7;replace f7:=hq HB f7;replace e7:=(aW (p:=⟨bM,0,none⟩) (by first|(rw[bc];exact f8)|(show(rx _ _).block≠_;rw[bc];exact f8)|exact f8) (.int .i64 ((aD l0 bP).f0))).trans e7;replace f7:=(aW (p:=⟨bM,0,none⟩) (by first|(rw[bc];exact f8)|(show(rx _ _).block≠_;rw[bc];exact f8)|exact f8) (.int .i64 ((aD l0 bP).f0))).trans f7;replace e7:=(aW (p:=⟨bM,1,none⟩) (by first|(rw[bc];exact f9)|(show(rx _ _).block≠_;rw[bc];exact f9)|exact f9) (.int .i64 ((aD l0 bP).f1))).trans e7;replace f7:=(aW (p:=⟨bM,1,none⟩) (by first|(rw[bc];exact f9)|(show(rx _ _).block≠_;rw[bc];exact f9)|exact f9) (.int .i64 ((aD l0 bP).f1))).trans f7;(try have Km:=fun(n_:Nat)=>(show((((ek.drewN n_).setCell ⟨bM,0,none⟩ (.int .i64 ((aD l0 bP).f0))).setCell ⟨bM,1,none⟩ (.int .i64 ((aD l0 bP).f1)))).cell? _=some _ from e7));(try have Kn:=fun(n_:Nat)=>(show((((ek.drewN n_).setCell ⟨bM,0,none⟩ (.int .i64 ((aD l0 bP).f0))).setCell ⟨bM,1,none⟩ (.int .i64 ((aD l0 bP).f1)))).cell? _=some _ from f7));clear f8;clear f9;replace mO:=eq_true mO;replace mP:=eq_true mP))
   repeat(go_quiet (first|((with_reducible refine ag (N:=6) rfl ?_);(try(refine ev (by rfl) ?_;dsimp only));refine an 6 45 #[.int .i64 0,.int .i64 0] ?_;intro bM hg ek dt hb;have fX:=gw hg (bs HB);have kf:=gw hg (bs HB);replace HB:=Ah (aH (bs HB) hb);clear hb hg;obtain⟨KY,KZ⟩:=cg dt;obtain⟨Ka,Kb⟩:=ch dt;have mM:0≤((fQ):Int):=od;have mN:(fQ)<(l0.length:Int):=od;obtain⟨wW,wz,e6,ey⟩:=dN cX.out (fQ) mM mN;obtain rfl:fq=wW:=(by injection wz);have f4:fq.block≠bM:=aai (kY (by have:=Gk _ _ e6;first|rwa [bc]at this|exact this) fX.out);have f5:fq.block≠bM:=aai (kY (by have:=Gk _ _ e6;first|rwa [bc]at this|exact this) fX.out);replace e6:=hq HB e6;replace ey:=hq HB ey;replace e6:=(aW (p:=⟨bM,0,none⟩) (by first|(rw[bc];exact f4)|(show(rx _ _).block≠_;rw[bc];exact f4)|exact f4) (.int .i64 ((aD l0 bP).f0))).trans e6;replace ey:=(aW (p:=⟨bM,0,none⟩) (by first|(rw[bc];exact f4)|(show(rx _ _).block≠_;rw[bc];exact f4)|exact f4) (.int .i64 ((aD l0 bP).f0))).trans ey;replace e6:=(aW (p:=⟨bM,1,none⟩) (by first|(rw[bc];exact f5)|(show(rx _ _).block≠_;rw[bc];exact f5)|exact f5) (.int .i64 ((aD l0 bP).f1))).trans e6;replace ey:=(aW (p:=⟨bM,1,none⟩) (by first|(rw[bc];exact f5)|(show(rx _ _).block≠_;rw[bc];exact f5)|exact f5) (.int .i64 ((aD l0 bP).f1))).trans ey;(try have Kk:=fun(n_:Nat)=>(show((((ek.drewN n_).setCell ⟨bM,0,none⟩ (.int .i64 ((aD l0 bP).f0))).setCell ⟨bM,1,none⟩ (.int .i64 ((aD l0 bP).f1)))).cell? _=some _ from e6));(try have Kl:=fun(n_:Nat)=>(show((((ek.drewN n_).setCell ⟨bM,0,none⟩ (.int .i64 ((aD l0 bP).f0))).setCell ⟨bM,1,none⟩ (.int .i64 ((aD l0 bP).f1)))).cell? _=some _ from ey));clear f4;clear f5;replace mM:=eq_true mM;replace mN:=eq_true mN;have mO:0≤((fQ):Int):=od;have mP:(fQ)<(l0.length:Int):=od;obtain⟨wX,e203,e7,f7⟩:=dN cX.out (fQ) mO mP;obtain rfl:fq=wX:=(by injection e203);have f8:fq.block≠bM:=aai (kY (by have:=Gk _ _ e7;first|rwa [bc]at this|exact this) fX.out);have f9:fq.block≠bM:=aai (kY (by have:=Gk _ _ e7;first|rwa [bc]at this|exact this) fX.out);replace e7:=hq HB e7;replace f7:=hq HB f7;replace e7:=(aW (p:=⟨bM,0,none⟩) (by first|(rw[bc];exact f8)|(show(rx _ _).block≠_;rw[bc];exact f8)|exact f8) (.int .i64 ((aD l0 bP).f0))).trans e7;replace f7:=(aW (p:=⟨bM,0,none⟩) (by first|(rw[bc];exact f8)|(show(rx _ _).block≠_;rw[bc];exact f8)|exact f8) (.int .i64 ((aD l0 bP).f0))).trans f7;replace e7:=(aW (p:=⟨bM,1,none⟩) (by first|(rw[bc];exact f9)|(show(rx _ _).block≠_;rw[bc];exact f9)|exact f9) (.int .i64 ((aD l0 bP).f1))).trans e7;replace f7:=(aW (p:=⟨bM,1,none⟩) (by first|(rw[bc];exact f9)|(show(rx _ _).block≠_;rw[bc];exact f9)|exact f9) (.int .i64 ((aD l0 bP).f1))).trans f7;(try have Km:=fun(n_:Nat)=>(show((((ek.drewN n_).setCell ⟨bM,0,none⟩ (.int .i64 ((aD l0 bP).f0))).setCell ⟨bM,1,none⟩ (.int .i64 ((aD l0 bP).f1)))).cell? _=some _ from e7));(try have Kn:=fun(n_:Nat)=>(show((((ek.drewN n_).setCell ⟨bM,0,none⟩ (.int .i64 ((aD l0 bP).f0))).setCell ⟨bM,1,none⟩ (.int .i64 ((aD l0 bP).f1)))).cell? _=some _ from f7));clear f8;clear f9;replace mO:=eq_true mO;replace mP:=eq_true mP));try go_wp2_with (first|((with_reducible refine ag (N:=6) rfl ?_);(try(refine ev (by rfl) ?_;dsimp only));refine an 6 45 #[.int .i64 0,.int .i64 0] ?_;intro bM hg ek dt hb;have fX:=gw hg (bs HB);have kf:=gw hg (bs HB);replace HB:=Ah (aH (bs HB) hb);clear hb hg;obtain⟨KY,KZ⟩:=cg dt;obtain⟨Ka,Kb⟩:=ch dt;have mM:0≤((fQ):Int):=od;have mN:(fQ)<(l0.length:Int):=od;obtain⟨wW,wz,e6,ey⟩:=dN cX.out (fQ) mM mN;obtain rfl:fq=wW:=(by injection wz);have f4:fq.block≠bM:=aai (kY (by have:=Gk _ _ e6;first|rwa [bc]at this|exact this) fX.out);have f5:fq.block≠bM:=aai (kY (by have:=Gk _ _ e6;first|rwa [bc]at this|exact this) fX.out);replace e6:=hq HB e6;replace ey:=hq HB ey;replace e6:=(aW (p:=⟨bM,0,none⟩) (by first|(rw[bc];exact f4)|(show(rx _ _).block≠_;rw[bc];exact f4)|exact f4) (.int .i64 ((aD l0 bP).f0))).trans e6;replace ey:=(aW (p:=⟨bM,0,none⟩) (by first|(rw[bc];exact f4)|(show(rx _ _).block≠_;rw[bc];exact f4)|exact f4) (.int .i64 ((aD l0 bP).f0))).trans ey;replace e6:=(aW (p:=⟨bM,1,none⟩) (by first|(rw[bc];exact f5)|(show(rx _ _).block≠_;rw[bc];exact f5)|exact f5) (.int .i64 ((aD l0 bP).f1))).trans e6;replace ey:=(aW (p:=⟨bM,1,none⟩) (by first|(rw[bc];exact f5)|(show(rx _ _).block≠_;rw[bc];exact f5)|exact f5) (.int .i64 ((aD l0 bP).f1))).trans ey;(try have Kk:=fun(n_:Nat)=>(show((((ek.drewN n_).setCell ⟨bM,0,none⟩ (.int .i64 ((aD l0 bP).f0))).setCell ⟨bM,1,none⟩ (.int .i64 ((aD l0 bP).f1)))).cell? _=some _ from e6));(try have Kl:=fun(n_:Nat)=>(show((((ek.drewN n_).setCell ⟨bM,0,none⟩ (.int .i64 ((aD l0 bP).f0))).setCell ⟨bM,1,none⟩ (.int .i64 ((aD l0 bP).f1)))).cell? _=some _ from ey));clear f4;clear f5;replace mM:=eq_true mM;replace mN:=eq_true mN;have mO:0≤((fQ):Int):=od;have mP:(fQ)<(l0.length:Int):=od;obtain⟨wX,e203,e7,f7⟩:=dN cX.out (fQ) mO mP;obtain rfl:fq=wX:=(by injection e203);have f8:fq.block≠bM:=aai (kY (by have:=Gk _ _ e7;first|rwa [bc]at this|exact this) fX.out);have f9:fq.block≠bM:=aai (kY (by have:=Gk _ _ e7;first|rwa [bc]at this|exact this) fX.out);replace e7:=hq HB e7;replace f7:=hq HB f7;replace e7:=(aW (p:=⟨bM,0,none⟩) (by first|(rw[bc];exact f8)|(show(rx _ _).block≠_;rw[bc];exact f8)|exact f8) (.int .i64 ((aD l0 bP).f0))).trans e7;replace f7:=(aW (p:=⟨bM,0,none⟩) (by first|(rw[bc];exact f8)|(show(rx _ _).block≠_;rw[bc];exact f8)|exact f8) (.int .i64 ((aD l0 bP).f0))).trans f7;replace e7:=(aW (p:=⟨bM,1,none⟩) (by first|(rw[bc];exact f9)|(show(rx _ _).block≠_;rw[bc];exact f9)|exact f9) (.int .i64 ((aD l0 bP).f1))).trans e7;replace f7:=(aW (p:=⟨bM,1,none⟩) (by first|(rw[bc];exact f9)|(show(rx _ _).block≠_;rw[bc];exact f9)|exact f9) (.int .i64 ((aD l0 bP).f1))).trans f7;(try have Km:=fun(n_:Nat)=>(show((((ek.drewN n_).setCell ⟨bM,0,none⟩ (.int .i64 ((aD l0 bP).f0))).setCell ⟨bM,1,none⟩ (.int .i64 ((aD l0 bP).f1)))).cell? _=some _ from e7));(try have Kn:=fun(n_:Nat)=>(show((((ek.drewN n_).setCell ⟨bM,0,none⟩ (.int .i64 ((aD l0 bP).f0))).setCell ⟨bM,1,none⟩ (.int .i64 ((aD l0 bP).f1)))).cell? _=some _ from f7));clear f8;clear f9;replace mO:=eq_true mO;replace mP:=eq_true mP)))
   go_roundg k1
   case measure=>have:=bi.out;omega
   case rel=>exact⟨(Gj (bP+1)),e3,H',⟨by have:=bi.out;omega⟩,⟨aM HB kf⟩⟩
def iT.l0:Nat→List (Y)→List (Y)→Int→Int→Option (Bool)
 |0,_,_,_,_=>none
 |k+1,x0,x1,xn,iv=>if iv<xn then(if 0≤iv then(if iv<(x0.length:Int)then(if iv<(x1.length:Int)then(if(!(((aD x0 iv).f0)==((aD x1 iv).f0))||(!(((aD x0 iv).f1)==((aD x1 iv).f1))))=true then(some false)else(iT.l0 k x0 x1 xn (Gj (iv+1))))else(none))else(none))else(none))else(some true)
def iT.f(k:Nat)(l0:List (Y))(l1:List (Y)):Option (Bool):=if(l0.length:Int)=(l1.length:Int)then(iT.l0 k l0 l1 (l0.length:Int) 0)else(some false)
theorem iT.cQ:∀k,(∀y0 y1 y2 y3,aG (iT.l0 k y0 y1 y2 y3) (iT.l0 (k+1) y0 y1 y2 y3))
 |0=>fun _ _ _ _ r h=>by simp[iT.l0]at h
 |k+1=>by
  have bS:=iT.cQ k
  ·
   intro y0 y1 y2 y3;unfold iT.l0
   repeat' with_reducible first|exact bS _ _ _ _|exact aG.refl _|exact aG.none _|refine aG.ite ?_ ?_|refine aG.bind ?_ (fun _=> ?_)
theorem iT.mono:∀a0 a1 k,aG (iT.f k a0 a1) (iT.f (k+1) a0 a1):=by
 intro a0 a1 k;have bS:=iT.cQ k;unfold iT.f
 repeat' with_reducible first|exact bS _ _ _ _|exact aG.refl _|exact aG.none _|refine aG.ite ?_ ?_|refine aG.bind ?_ (fun _=> ?_)
theorem iT.calls(k:Nat)(A0:Option Addr)(c0:Nat)(l0:List (Y))(A1:Option Addr)(c1:Nat)(l1:List (Y))(r:Bool)(w:World)(hr0:Kd.C aT w A0 l0.length l0)(hc0:l0.length≤c0)(hr1:Kd.C aT w A1 l1.length l1)(hc1:l1.length≤c1)(h:iT.f k l0 l1=some r):
 Calls Uf 71 #[.slice A0 l0.length c0,.slice A1 l1.length c1] w fun e w'=>e= .returned (.bool r)∧bU w w':=by
 have jT:=fk;have cX:=Ah hr0;have oE:=Ah hc0;clear hr0 hc0;have HR1:=Ah hr1;have qn:=Ah hc1;clear hr1 hc1;have H:(if(l0.length:Int)=(l1.length:Int)then(iT.l0 k l0 l1 (l0.length:Int) 0)else(some false))=some r:=h;clear h
 by_cases c3:(l0.length:Int)=(l1.length:Int)
 rotate_left
 ·
  rw[if_neg c3]at H;have dc:=fS c3;have jr:=fT c3
  have qG:(l0.length==l1.length)=false:=by first|simpa using c3|(simp at c3⊢;omega)
  obtain rfl:=Gn H
  go_enter Try.func71,Try.ntmps71
  go_wp2
  repeat(go_quiet (fail);try go_wp2)
  go_ret
  exact⟨e3,by repeat(first|exact bU.refl _|apply bU.step)⟩
 rw[if_pos c3]at H;have dc:=fU c3;have jr:=fV c3
 have qG:(l0.length==l1.length)=true:=by first|simpa using c3|(simp at c3⊢;omega)
 clear c3;have H':=Ah H;clear H
 go_enter Try.func71,Try.ntmps71
 go_wp2
 repeat(go_quiet (fail);try go_wp2)
 go_loopg [13] k (fun kq v13 w'=>∃ (cL:Int),v13= .int .i64 cL∧Z (iT.l0 kq l0 l1 (l0.length:Int) cL=some r)∧Z (kq≤k)∧bU w w')
 case atStart=>exact⟨(0),e3,H',⟨QQ _⟩,by repeat(first|exact bU.refl _|apply bU.step)⟩
 case round=>
  clear H'
  try clear c1
  try clear p2
  try clear c3
  try clear dc
  try clear jr
  try clear qG
  obtain⟨cL,rfl,HA,bi,⟨m1,rfl⟩⟩:=hrel
  cases gk with
  |zero=>exact absurd HA.out (by simp[iT.l0])
  |succ k1=>
   have H:=HA.out;clear HA;simp only[iT.l0]at H
   by_cases c4:cL<(l0.length:Int)
   rotate_left
   ·
    rw[if_neg c4]at H;have fB:=dn c4;clear c4;obtain rfl:=Gn H
    go_wp2
    repeat(go_quiet (fail);try go_wp2)
    go_ret
    exact⟨e3,by repeat(first|exact bU.refl _|apply bU.step)⟩
   rw[if_pos c4]at H;have fB:=bJ c4;clear c4
   by_cases c5:0≤cL
   rotate_left
   ·
    rw[if_neg c5]at H;exact absurd H (by simp)
   rw[if_pos c5]at H;have kV:=bJ c5;clear c5
   by_cases c6:cL<(l0.length:Int)
   rotate_left
   ·
    rw[if_neg c6]at H;exact absurd H (by simp)
   rw[if_pos c6]at H;have o6:=bJ c6;clear c6
   by_cases c7:cL<(l1.length:Int)
   rotate_left
   ·
    rw[if_neg c7]at H;exact absurd H (by simp)
   rw[if_pos c7]at H;have pY:=bJ c7;clear c7
   by_cases c8:(!(((aD l0 cL).f0)==((aD l1 cL).f0))||(!(((aD l0 cL).f1)==((aD l1 cL).f1))))=true
   ·
    rw[if_pos c8]at H;have rO:(!(((aD l0 cL).f0)==((aD l1 cL).f0))||(!(((aD l0 cL).f1)==((aD l1 cL).f1))))=true:=c8;clear c8;obtain rfl:=Gn H;have FN:0≤(cL:Int):=od;have FO:cL<(l0.length:Int):=od;obtain⟨ad205,a0f,hx205_0,hx205_1⟩:=dN cX.out cL FN FO
    cases a0f
    replace FN:=eq_true FN;replace FO:=eq_true FO;have FP:0≤(cL:Int):=od;have FQ:cL<(l1.length:Int):=od;obtain⟨ad206,e206,hx206_0,hx206_1⟩:=dN HR1.out cL FP FQ
    cases e206
    replace FP:=eq_true FP;replace FQ:=eq_true FQ
    go_wp2
    repeat(go_quiet (fail);try go_wp2)
    go_ret
    exact⟨e3,by repeat(first|exact bU.refl _|apply bU.step)⟩
   rw[if_neg c8]at H
   have rO:(!(((aD l0 cL).f0)==((aD l1 cL).f0))||(!(((aD l0 cL).f1)==((aD l1 cL).f1))))=false:=by simpa using c8
   clear c8;have H':=Ah H;clear H;have FN:0≤(cL:Int):=od;have FO:cL<(l0.length:Int):=od;obtain⟨ad205,a0f,hx205_0,hx205_1⟩:=dN cX.out cL FN FO
   cases a0f
   replace FN:=eq_true FN;replace FO:=eq_true FO;have FP:0≤(cL:Int):=od;have FQ:cL<(l1.length:Int):=od;obtain⟨ad206,e206,hx206_0,hx206_1⟩:=dN HR1.out cL FP FQ
   cases e206
   replace FP:=eq_true FP;replace FQ:=eq_true FQ
   go_wp2
   repeat(go_quiet (fail);try go_wp2)
   go_roundg k1
   case measure=>have:=bi.out;omega
   case rel=>exact⟨(Gj (cL+1)),e3,H',⟨by have:=bi.out;omega⟩,by repeat(first|exact bU.refl _|apply bU.step)⟩
end Go.Proofs.Ytfeokehfhaimkaa.G
