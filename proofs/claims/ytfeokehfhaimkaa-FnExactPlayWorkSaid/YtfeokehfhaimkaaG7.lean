-- Printed by a program of this session (drive.py, by way of the kit's print). Not trusted: Lean checks it.
import Derived.Test.YtfeokehfhaimkaaG0
import Derived.Test.YtfeokehfhaimkaaG4
import Derived.Test.YtfeokehfhaimkaaG5
import Derived.Test.YtfeokehfhaimkaaG6
open Bool renaming eq_false_iff→PT
open Eq renaming trans→aaQ
open Go.Proofs.Try renaming prog→Uf,underlying29→cp,underlying45→fk,underlying26→ig,underlying24→aad,underlying66→aay,func50→aa2,func61→abr,func26→abt,func48→abH
open Go.RowKit renaming wrap64→Gj
open Go.RowKit.Below renaming refl→Ud
open Go.World renaming block_lt_of_cell?→Gk,drewN_drewN→fD,drewN→aao
open List renaming length_take→Ja,setIfInBounds_toArray→Ok,length_drop→SI,set_cons_zero→bD,set_cons_succ→ck,map_toArray→dl,map_cons→dV,map_nil→lK
open Nat renaming le_refl→QQ,add_zero→dH,mul_one→fl,add_assoc→aaq
open Option renaming bind_eq_some_iff→Gl,bind_some→Gm
open Option.some renaming inj→Gn,injEq→Jh
open Prod.mk renaming injEq→Ue
namespace Go.Proofs.Ytfeokehfhaimkaa.G
open Go.RowKit Go.Proofs.YtfeokehfhaimkaaW.PrintWords Go.Proofs.YtfeokehfhaimkaaW.PrintLast Go.Proofs.YtfeokehfhaimkaaW.PrintMore
attribute [local go_sem] zO zP zX zY zE zG zQ zR
set_option maxHeartbeats 8000000
set_option maxRecDepth 100000
set_option linter.unusedVariables false
set_option linter.unusedSimpArgs false
def fm.l0:Nat→List (Y)→Int→Int→List Bool→Option ((List (Y)))
 |0,_,_,_,_=>none
 |k+1,x5,x9,fy,LI=>if fy<x9 then((pi.f fy LI).bind fun a0Q=>(if a0Q=true then(if(Gj ((x5.length:Int)-1))≥0 then(if 0≤(Gj ((x5.length:Int)-1))then(if(Gj ((x5.length:Int)-1))<(x5.length:Int)then(if(Gj (((aD x5 (Gj ((x5.length:Int)-1))).f0)+((aD x5 (Gj ((x5.length:Int)-1))).f1)))=fy then(fm.l0 k (x5.set ((Gj ((x5.length:Int)-1)):Int).toNat (⟨(aD x5 (Gj ((x5.length:Int)-1))).f0,Gj (((aD x5 (Gj ((x5.length:Int)-1))).f1)+1)⟩:Y)) x9 (Gj (fy+1)) LI)else(if x5.length<8796093022208 then(fm.l0 k (x5++[(⟨fy,1⟩:Y)]) x9 (Gj (fy+1)) LI)else(none)))else(none))else(none))else(if x5.length<8796093022208 then(fm.l0 k (x5++[(⟨fy,1⟩:Y)]) x9 (Gj (fy+1)) LI)else(none)))else(fm.l0 k x5 x9 (Gj (fy+1)) LI)))else(some x5)
def fm.f(k:Nat)(a0:Int)(eG:List Bool):Option ((List (Y))):=fm.l0 k (([]:List (Y))) a0 0 eG
theorem fm.cQ:∀k,(∀y0 y1 y2 y3,aG (fm.l0 k y0 y1 y2 y3) (fm.l0 (k+1) y0 y1 y2 y3))
 |0=>fun _ _ _ _ r h=>by simp[fm.l0]at h
 |k+1=>by
  have bS:=fm.cQ k
  ·
   intro y0 y1 y2 y3;unfold fm.l0
   repeat' with_reducible first|exact bS _ _ _ _|exact aG.refl _|exact aG.none _|refine aG.ite ?_ ?_|refine aG.bind ?_ (fun _=> ?_)
theorem fm.mono:∀a0 a1 k,aG (fm.f k a0 a1) (fm.f (k+1) a0 a1):=by
 intro a0 a1 k;have bS:=fm.cQ k;unfold fm.f
 repeat' with_reducible first|exact bS _ _ _ _|exact aG.refl _|exact aG.none _|refine aG.ite ?_ ?_|refine aG.bind ?_ (fun _=> ?_)
theorem fm.calls(k:Nat)(a0:Int)(cT:Nat)(jW:Option Addr)(jX:Nat)(eG:List Bool)(r:List (Y))(w:World)(Mz:Kd.C Kd.bool w jW eG.length eG)(N0:eG.length≤jX)(lE:w.heap[cT]?=some (.cells #[.slice jW eG.length jX] 30 (0,0)))(h:fm.f k a0 eG=some r):
 Calls Uf 80 #[.int .i64 a0,.func (.func 81) #[] #[.pointer (some ⟨cT,0,none⟩)]] w fun e w'=>∃lI:Value,e= .returned (lI)∧Kd.R aT 45 w' w.heap.size (fun _=>True) lI r∧Below w.heap.size w w':=by
 have jT:=fk
 have eg81:=fun(args:Array Value) (w:World)=>Qp (P:=Uf) Try.func81 (by kernel_rfl) rfl args w
 have sf:=Ah Mz;have tq:=Ah N0;clear Mz N0;have bh:=Ah lE;clear lE;have HB:=Ah (Ud w.heap.size w);have H:(fm.l0 k (([]:List (Y))) a0 0 eG)=some r:=h;clear h;obtain⟨y583,N1⟩:∃y_:List (Y),y_=(([]:List (Y))):=⟨_,rfl⟩
 replace H:(fm.l0 k y583 a0 0 eG)=some r:=by first|(rw[N1];with_reducible exact H)|(have aq:=(Gm _ _).symm.trans H;rw[N1];with_reducible exact aq)|(have aq:=(Gm _ _).symm.trans H;with_reducible exact aq)|with_reducible exact H|(rw[N1];exact H)|exact H
 have Ij:=Ah N1;clear N1;have H':=Ah H;clear H
 go_enter Try.func80,Try.ntmps80
 go_wp2_with (first|((with_reducible refine ag (N:=8) rfl ?_);refine Kd.yW aT _ 45 ?hg (N:=8) ?hd (xs:=([]:List (Y))) (inner:=[]) (ok:=fun _=>True) (okp:=fun _=>True) ?hr ?hp (fun _ hk=>hk) trivial (Ud _ _) (QQ _) (by simp) ?_;(case hd=>rfl);(case hg=>rfl);(case hr=>first|(go_simp;done)|(go_simp;rfl));(case hp=>exact(cA.none _ _));intro a0R w3 oD hb i9 hX;clear i9 hX;(first|rw[←Ij.out]at oD|(simp only[Int.reduceToNat]at oD;rw[←Ij.out]at oD));have Cl:=Ah (Kd.bR oD (bE (bs HB)));replace bh:=Ah (bT (g:=cT) (o:= .cells #[.slice jW eG.length jX] 30 (0,0)) (bk bh) hb);replace HB:=Ah (aH (bs HB) hb);clear hb oD))
 repeat(go_quiet (first|((with_reducible refine ag (N:=8) rfl ?_);refine Kd.yW aT _ 45 ?hg (N:=8) ?hd (xs:=([]:List (Y))) (inner:=[]) (ok:=fun _=>True) (okp:=fun _=>True) ?hr ?hp (fun _ hk=>hk) trivial (Ud _ _) (QQ _) (by simp) ?_;(case hd=>rfl);(case hg=>rfl);(case hr=>first|(go_simp;done)|(go_simp;rfl));(case hp=>exact(cA.none _ _));intro a0R w3 oD hb i9 hX;clear i9 hX;(first|rw[←Ij.out]at oD|(simp only[Int.reduceToNat]at oD;rw[←Ij.out]at oD));have Cl:=Ah (Kd.bR oD (bE (bs HB)));replace bh:=Ah (bT (g:=cT) (o:= .cells #[.slice jW eG.length jX] 30 (0,0)) (bk bh) hb);replace HB:=Ah (aH (bs HB) hb);clear hb oD));try go_wp2_with (first|((with_reducible refine ag (N:=8) rfl ?_);refine Kd.yW aT _ 45 ?hg (N:=8) ?hd (xs:=([]:List (Y))) (inner:=[]) (ok:=fun _=>True) (okp:=fun _=>True) ?hr ?hp (fun _ hk=>hk) trivial (Ud _ _) (QQ _) (by simp) ?_;(case hd=>rfl);(case hg=>rfl);(case hr=>first|(go_simp;done)|(go_simp;rfl));(case hp=>exact(cA.none _ _));intro a0R w3 oD hb i9 hX;clear i9 hX;(first|rw[←Ij.out]at oD|(simp only[Int.reduceToNat]at oD;rw[←Ij.out]at oD));have Cl:=Ah (Kd.bR oD (bE (bs HB)));replace bh:=Ah (bT (g:=cT) (o:= .cells #[.slice jW eG.length jX] 30 (0,0)) (bk bh) hb);replace HB:=Ah (aH (bs HB) hb);clear hb oD)))
 go_loopg [5,10] k (fun kq v5 v10 w'=>∃ (I:List (Y)) (bA:Int),v10= .int .i64 bA∧Z (fm.l0 kq I a0 bA eG=some r)∧Z (kq≤k)∧Z (Kd.R aT 45 w' w.heap.size (fun _=>True) v5 I)∧Z (w'.heap[cT]?=some (.cells #[(.slice jW eG.length jX)] 30 (0,0)))∧Z (Below w.heap.size w w'))
 case atStart=>exact⟨(y583),(0),e3,H',⟨QQ _⟩,⟨rr Cl.out⟩,⟨bk bh⟩,⟨bs HB⟩⟩
 case round=>
  clear H'
  try clear c1
  try clear hx1
  try clear p2
  try clear lE
  obtain⟨I,bA,rfl,HA,bi,cy,bh,HB⟩:=hrel
  cases gk with
  |zero=>exact absurd HA.out (by simp[fm.l0])
  |succ k1=>
   have H:=HA.out;clear HA;simp only[fm.l0]at H
   by_cases c5:bA<a0
   rotate_left
   ·
    rw[if_neg c5]at H;have kV:=dn c5;clear c5;obtain rfl:=Gn H
    go_wp2
    repeat(go_quiet (fail);try go_wp2)
    go_ret
    exact⟨_,er,by(with_reducible repeat(first|apply Kd.bd|apply Kd.bZ|apply Kd.bQ));exact cy.out,bs HB⟩
   rw[if_pos c5]at H;have kV:=bJ c5;clear c5;replace H:=Gl.mp H;obtain⟨a0Q,tE,H⟩:=H
   try dsimp only at H
   have A6:=Ah tE;clear tE
   by_cases c7:a0Q=true
   rotate_left
   ·
    replace c7:=PT.mpr c7;subst c7;rw[if_neg dr]at H;have H':=Ah H;clear H
    go_wp2_with (first|(go_at_call 81;(with_reducible refine(pi.calls bA cT jW jX eG false _ ?aZ ?ae ?ay A6.out).mono ?_);(case aZ=>exact cb sf HB);(case ae=>exact tq.out);(case ay=>exact bk bh);rintro e w' ⟨rfl,⟨nd,rfl⟩⟩;(try first|exact⟨rfl,_,fD _ _ _⟩|exact⟨rfl,_,aaQ (fD _ _ _) (congrArg (aao _) (aaq _ _ _))⟩)))
    repeat(go_quiet (first|(go_at_call 81;(with_reducible refine(pi.calls bA cT jW jX eG false _ ?aZ ?ae ?ay A6.out).mono ?_);(case aZ=>exact cb sf HB);(case ae=>exact tq.out);(case ay=>exact bk bh);rintro e w' ⟨rfl,⟨nd,rfl⟩⟩;(try first|exact⟨rfl,_,fD _ _ _⟩|exact⟨rfl,_,aaQ (fD _ _ _) (congrArg (aao _) (aaq _ _ _))⟩)));try go_wp2_with (first|(go_at_call 81;(with_reducible refine(pi.calls bA cT jW jX eG false _ ?aZ ?ae ?ay A6.out).mono ?_);(case aZ=>exact cb sf HB);(case ae=>exact tq.out);(case ay=>exact bk bh);rintro e w' ⟨rfl,⟨nd,rfl⟩⟩;(try first|exact⟨rfl,_,fD _ _ _⟩|exact⟨rfl,_,aaQ (fD _ _ _) (congrArg (aao _) (aaq _ _ _))⟩))))
    go_roundg k1
    case measure=>have:=bi.out;omega
    case rel=>exact⟨(I),(Gj (bA+1)),e3,H',⟨by have:=bi.out;omega⟩,⟨rr cy.out⟩,⟨bk bh⟩,⟨bs HB⟩⟩
   subst c7;rw[if_pos rfl]at H
   by_cases c8:(Gj ((I.length:Int)-1))≥0
   rotate_left
   ·
    rw[if_neg c8]at H;have rO:=dn c8;clear c8
    by_cases c20:I.length<8796093022208
    rotate_left
    ·
     rw[if_neg c20]at H;exact absurd H (by simp)
    rw[if_pos c20]at H;have Lu:=Ah c20;clear c20;obtain⟨y594,N3⟩:∃y_:List (Y),y_=(I++[(⟨bA,1⟩:Y)]):=⟨_,rfl⟩
    replace H:(fm.l0 k1 y594 a0 (Gj (bA+1)) eG)=some r:=by first|(rw[N3];with_reducible exact H)|(have aq:=(Gm _ _).symm.trans H;rw[N3];with_reducible exact aq)|(have aq:=(Gm _ _).symm.trans H;with_reducible exact aq)|with_reducible exact H|(rw[N3];exact H)|exact H
    have Z2:=Ah N3;clear N3;have H':=Ah H;clear H
    go_wp2_with (first|(go_at_call 81;(with_reducible refine(pi.calls bA cT jW jX eG true _ ?aZ ?ae ?ay A6.out).mono ?_);(case aZ=>exact cb sf HB);(case ae=>exact tq.out);(case ay=>exact bk bh);rintro e w' ⟨rfl,⟨nd,rfl⟩⟩;(try first|exact⟨rfl,_,fD _ _ _⟩|exact⟨rfl,_,aaQ (fD _ _ _) (congrArg (aao _) (aaq _ _ _))⟩);obtain⟨gQ,gR,o7⟩:=Kd.az cy.out;subst o7)|((with_reducible refine ik (b:= .append) (xs:= #[.tmp 45,.tmp 48]) rfl ?_);at_builtin;refine Kd.lM aT (w0:=w) w.heap.size rfl (.tmp 45) (.tmp 48) 24 45 (.agg #[(.int .i64 0),(.int .i64 0)]) 16 rfl aad mG rfl (by decide) (by omega) (.slice gQ I.length gR) I (⟨bA,1⟩:Y) [.int .i64 bA,.int .i64 1] (fun _=>True) (fun _=>False) rfl rfl ?aP (fun _ hk=>hk.elim) ?aF ?aO ?aB ?aS ?aL ?_;(case aP=>exact ls _ _ _ (⟨bA,1⟩:Y));(case aB=>exact(bs HB));(case aF=>exact(fun _ _=>trivial));(case aO=>exact(rr cy.out));(case aS=>exact(bE (bs HB)));(case aL=>have:=Lu.out;omega);intro v595 DY ho hb hg hat;rw[←Z2.out]at ho;replace bh:=Ah (dJ (g:=cT) (o:= .cells #[.slice jW eG.length jX] 30 (0,0)) (bk bh) hg (Kd.dX cy.out bh.out (by decide)));replace HB:=Ah (hb);have Z3:=Ah (ho);clear cy;clear ho hb hg hat))
    repeat(go_quiet (first|(go_at_call 81;(with_reducible refine(pi.calls bA cT jW jX eG true _ ?aZ ?ae ?ay A6.out).mono ?_);(case aZ=>exact cb sf HB);(case ae=>exact tq.out);(case ay=>exact bk bh);rintro e w' ⟨rfl,⟨nd,rfl⟩⟩;(try first|exact⟨rfl,_,fD _ _ _⟩|exact⟨rfl,_,aaQ (fD _ _ _) (congrArg (aao _) (aaq _ _ _))⟩);obtain⟨gQ,gR,o7⟩:=Kd.az cy.out;subst o7)|((with_reducible refine ik (b:= .append) (xs:= #[.tmp 45,.tmp 48]) rfl ?_);at_builtin;refine Kd.lM aT (w0:=w) w.heap.size rfl (.tmp 45) (.tmp 48) 24 45 (.agg #[(.int .i64 0),(.int .i64 0)]) 16 rfl aad mG rfl (by decide) (by omega) (.slice gQ I.length gR) I (⟨bA,1⟩:Y) [.int .i64 bA,.int .i64 1] (fun _=>True) (fun _=>False) rfl rfl ?aP (fun _ hk=>hk.elim) ?aF ?aO ?aB ?aS ?aL ?_;(case aP=>exact ls _ _ _ (⟨bA,1⟩:Y));(case aB=>exact(bs HB));(case aF=>exact(fun _ _=>trivial));(case aO=>exact(rr cy.out));(case aS=>exact(bE (bs HB)));(case aL=>have:=Lu.out;omega);intro v595 DY ho hb hg hat;rw[←Z2.out]at ho;replace bh:=Ah (dJ (g:=cT) (o:= .cells #[.slice jW eG.length jX] 30 (0,0)) (bk bh) hg (Kd.dX cy.out bh.out (by decide)));replace HB:=Ah (hb);have Z3:=Ah (ho);clear cy;clear ho hb hg hat));try go_wp2_with (first|(go_at_call 81;(with_reducible refine(pi.calls bA cT jW jX eG true _ ?aZ ?ae ?ay A6.out).mono ?_);(case aZ=>exact cb sf HB);(case ae=>exact tq.out);(case ay=>exact bk bh);rintro e w' ⟨rfl,⟨nd,rfl⟩⟩;(try first|exact⟨rfl,_,fD _ _ _⟩|exact⟨rfl,_,aaQ (fD _ _ _) (congrArg (aao _) (aaq _ _ _))⟩);obtain⟨gQ,gR,o7⟩:=Kd.az cy.out;subst o7)|((with_reducible refine ik (b:= .append) (xs:= #[.tmp 45,.tmp 48]) rfl ?_);at_builtin;refine Kd.lM aT (w0:=w) w.heap.size rfl (.tmp 45) (.tmp 48) 24 45 (.agg #[(.int .i64 0),(.int .i64 0)]) 16 rfl aad mG rfl (by decide) (by omega) (.slice gQ I.length gR) I (⟨bA,1⟩:Y) [.int .i64 bA,.int .i64 1] (fun _=>True) (fun _=>False) rfl rfl ?aP (fun _ hk=>hk.elim) ?aF ?aO ?aB ?aS ?aL ?_;(case aP=>exact ls _ _ _ (⟨bA,1⟩:Y));(case aB=>exact(bs HB));(case aF=>exact(fun _ _=>trivial));(case aO=>exact(rr cy.out));(case aS=>exact(bE (bs HB)));(case aL=>have:=Lu.out;omega);intro v595 DY ho hb hg hat;rw[←Z2.out]at ho;replace bh:=Ah (dJ (g:=cT) (o:= .cells #[.slice jW eG.length jX] 30 (0,0)) (bk bh) hg (Kd.dX cy.out bh.out (by decide)));replace HB:=Ah (hb);have Z3:=Ah (ho);clear cy;clear ho hb hg hat)))
    go_roundg k1
    case measure=>have:=bi.out;omega
    case rel=>exact⟨(y594),(Gj (bA+1)),e3,H',⟨by have:=bi.out;omega⟩,⟨rr Z3.out⟩,⟨bk bh⟩,⟨bs HB⟩⟩
   rw[if_pos c8]at H;have rO:=bJ c8;clear c8;obtain⟨bK,OX⟩:∃j_:Int,(Gj ((I.length:Int)-1))=j_:=⟨_,rfl⟩
   replace H:(if 0≤(bK)then(if(bK)<(I.length:Int)then(if(Gj (((aD I (bK)).f0)+((aD I (bK)).f1)))=bA then(fm.l0 k1 (I.set ((bK):Int).toNat (⟨(aD I (bK)).f0,Gj (((aD I (bK)).f1)+1)⟩:Y)) a0 (Gj (bA+1)) eG)else(if I.length<8796093022208 then(fm.l0 k1 (I++[(⟨bA,1⟩:Y)]) a0 (Gj (bA+1)) eG)else(none)))else(none))else(none))=some r:=by first|(rw[OX]at H;exact H)|(simp only[OX]at H⊢;exact H)
   (try rw[OX]at rO);(try rw[OX]at A6);have hji9w:(IntKind.i64.wrap ((I.length:Int)-1))=bK:=(kP _).trans OX
   by_cases c10:0≤(bK)
   rotate_left
   ·
    rw[if_neg c10]at H;exact absurd H (by simp)
   rw[if_pos c10]at H;have Ma:=bJ c10;clear c10
   by_cases c11:(bK)<(I.length:Int)
   rotate_left
   ·
    rw[if_neg c11]at H;exact absurd H (by simp)
   rw[if_pos c11]at H;have Mb:=bJ c11;clear c11
   by_cases c12:(Gj (((aD I (bK)).f0)+((aD I (bK)).f1)))=bA
   rotate_left
   ·
    rw[if_neg c12]at H;have sc:=fS c12;have Ej:=fT c12
    by_cases c17:I.length<8796093022208
    rotate_left
    ·
     rw[if_neg c17]at H;exact absurd H (by simp)
    rw[if_pos c17]at H;have Lr:=Ah c17;clear c17;obtain⟨y591,N4⟩:∃y_:List (Y),y_=(I++[(⟨bA,1⟩:Y)]):=⟨_,rfl⟩
    replace H:(fm.l0 k1 y591 a0 (Gj (bA+1)) eG)=some r:=by first|(rw[N4];with_reducible exact H)|(have aq:=(Gm _ _).symm.trans H;rw[N4];with_reducible exact aq)|(have aq:=(Gm _ _).symm.trans H;with_reducible exact aq)|with_reducible exact H|(rw[N4];exact H)|exact H
    have Z4:=Ah N4;clear N4;have H':=Ah H;clear H
    go_wp2_with (first|(go_at_call 81;(with_reducible refine(pi.calls bA cT jW jX eG true _ ?aZ ?ae ?ay A6.out).mono ?_);(case aZ=>exact cb sf HB);(case ae=>exact tq.out);(case ay=>exact bk bh);rintro e w' ⟨rfl,⟨nd,rfl⟩⟩;(try first|exact⟨rfl,_,fD _ _ _⟩|exact⟨rfl,_,aaQ (fD _ _ _) (congrArg (aao _) (aaq _ _ _))⟩);obtain⟨Ao18,OY,OZ⟩:=Kd.az cy.out;subst OZ;have jY:0≤((bK):Int):=od;have jZ:(bK)<(I.length:Int):=od;obtain⟨oY,rb,wL,CQ⟩:=dN (Kd.aY cy.out).2.2 (bK) jY jZ;cases rb;replace jY:=eq_true jY;replace jZ:=eq_true jZ;have mR:0≤((bK):Int):=od;have mS:(bK)<(I.length:Int):=od;obtain⟨wZ,xI,CR,CS⟩:=dN (Kd.aY cy.out).2.2 (bK) mR mS;obtain rfl:oY=wZ:=(by injection xI);replace mR:=eq_true mR;replace mS:=eq_true mS)|((with_reducible refine ik (b:= .append) (xs:= #[.tmp 45,.tmp 48]) rfl ?_);at_builtin;refine Kd.lM aT (w0:=w) w.heap.size rfl (.tmp 45) (.tmp 48) 24 45 (.agg #[(.int .i64 0),(.int .i64 0)]) 16 rfl aad mG rfl (by decide) (by omega) (.slice (some oY) I.length OY) I (⟨bA,1⟩:Y) [.int .i64 bA,.int .i64 1] (fun _=>True) (fun _=>False) rfl rfl ?aP (fun _ hk=>hk.elim) ?aF ?aO ?aB ?aS ?aL ?_;(case aP=>exact ls _ _ _ (⟨bA,1⟩:Y));(case aB=>exact(bs HB));(case aF=>exact(fun _ _=>trivial));(case aO=>exact(rr cy.out));(case aS=>exact(bE (bs HB)));(case aL=>have:=Lr.out;omega);intro v592 fC ho hb hg hat;rw[←Z4.out]at ho;replace bh:=Ah (dJ (g:=cT) (o:= .cells #[.slice jW eG.length jX] 30 (0,0)) (bk bh) hg (Kd.dX cy.out bh.out (by decide)));replace HB:=Ah (hb);have Z5:=Ah (ho);clear cy;clear ho hb hg hat))
    repeat(go_quiet (first|(go_at_call 81;(with_reducible refine(pi.calls bA cT jW jX eG true _ ?aZ ?ae ?ay A6.out).mono ?_);(case aZ=>exact cb sf HB);(case ae=>exact tq.out);(case ay=>exact bk bh);rintro e w' ⟨rfl,⟨nd,rfl⟩⟩;(try first|exact⟨rfl,_,fD _ _ _⟩|exact⟨rfl,_,aaQ (fD _ _ _) (congrArg (aao _) (aaq _ _ _))⟩);obtain⟨Ao18,OY,OZ⟩:=Kd.az cy.out;subst OZ;have jY:0≤((bK):Int):=od;have jZ:(bK)<(I.length:Int):=od;obtain⟨oY,rb,wL,CQ⟩:=dN (Kd.aY cy.out).2.2 (bK) jY jZ;cases rb;replace jY:=eq_true jY;replace jZ:=eq_true jZ;have mR:0≤((bK):Int):=od;have mS:(bK)<(I.length:Int):=od;obtain⟨wZ,xI,CR,CS⟩:=dN (Kd.aY cy.out).2.2 (bK) mR mS;obtain rfl:oY=wZ:=(by injection xI);replace mR:=eq_true mR;replace mS:=eq_true mS)|((with_reducible refine ik (b:= .append) (xs:= #[.tmp 45,.tmp 48]) rfl ?_);at_builtin;refine Kd.lM aT (w0:=w) w.heap.size rfl (.tmp 45) (.tmp 48) 24 45 (.agg #[(.int .i64 0),(.int .i64 0)]) 16 rfl aad mG rfl (by decide) (by omega) (.slice (some oY) I.length OY) I (⟨bA,1⟩:Y) [.int .i64 bA,.int .i64 1] (fun _=>True) (fun _=>False) rfl rfl ?aP (fun _ hk=>hk.elim) ?aF ?aO ?aB ?aS ?aL ?_;(case aP=>exact ls _ _ _ (⟨bA,1⟩:Y));(case aB=>exact(bs HB));(case aF=>exact(fun _ _=>trivial));(case aO=>exact(rr cy.out));(case aS=>exact(bE (bs HB)));(case aL=>have:=Lr.out;omega);intro v592 fC ho hb hg hat;rw[←Z4.out]at ho;replace bh:=Ah (dJ (g:=cT) (o:= .cells #[.slice jW eG.length jX] 30 (0,0)) (bk bh) hg (Kd.dX cy.out bh.out (by decide)));replace HB:=Ah (hb);have Z5:=Ah (ho);clear cy;clear ho hb hg hat));try go_wp2_with (first|(go_at_call 81;(with_reducible refine(pi.calls bA cT jW jX eG true _ ?aZ ?ae ?ay A6.out).mono ?_);(case aZ=>exact cb sf HB);(case ae=>exact tq.out);(case ay=>exact bk bh);rintro e w' ⟨rfl,⟨nd,rfl⟩⟩;(try first|exact⟨rfl,_,fD _ _ _⟩|exact⟨rfl,_,aaQ (fD _ _ _) (congrArg (aao _) (aaq _ _ _))⟩);obtain⟨Ao18,OY,OZ⟩:=Kd.az cy.out;subst OZ;have jY:0≤((bK):Int):=od;have jZ:(bK)<(I.length:Int):=od;obtain⟨oY,rb,wL,CQ⟩:=dN (Kd.aY cy.out).2.2 (bK) jY jZ;cases rb;replace jY:=eq_true jY;replace jZ:=eq_true jZ;have mR:0≤((bK):Int):=od;have mS:(bK)<(I.length:Int):=od;obtain⟨wZ,xI,CR,CS⟩:=dN (Kd.aY cy.out).2.2 (bK) mR mS;obtain rfl:oY=wZ:=(by injection xI);replace mR:=eq_true mR;replace mS:=eq_true mS)|((with_reducible refine ik (b:= .append) (xs:= #[.tmp 45,.tmp 48]) rfl ?_);at_builtin;refine Kd.lM aT (w0:=w) w.heap.size rfl (.tmp 45) (.tmp 48) 24 45 (.agg #[(.int .i64 0),(.int .i64 0)]) 16 rfl aad mG rfl (by decide) (by omega) (.slice (some oY) I.length OY) I (⟨bA,1⟩:Y) [.int .i64 bA,.int .i64 1] (fun _=>True) (fun _=>False) rfl rfl ?aP (fun _ hk=>hk.elim) ?aF ?aO ?aB ?aS ?aL ?_;(case aP=>exact ls _ _ _ (⟨bA,1⟩:Y));(case aB=>exact(bs HB));(case aF=>exact(fun _ _=>trivial));(case aO=>exact(rr cy.out));(case aS=>exact(bE (bs HB)));(case aL=>have:=Lr.out;omega);intro v592 fC ho hb hg hat;rw[←Z4.out]at ho;replace bh:=Ah (dJ (g:=cT) (o:= .cells #[.slice jW eG.length jX] 30 (0,0)) (bk bh) hg (Kd.dX cy.out bh.out (by decide)));replace HB:=Ah (hb);have Z5:=Ah (ho);clear cy;clear ho hb hg hat)))
    go_roundg k1
    case measure=>have:=bi.out;omega
    case rel=>exact⟨(y591),(Gj (bA+1)),e3,H',⟨by have:=bi.out;omega⟩,⟨rr Z5.out⟩,⟨bk bh⟩,⟨bs HB⟩⟩
   rw[if_pos c12]at H;have sc:=fU c12;have Ej:=fV c12;clear c12;obtain⟨Oa,N5⟩:∃y_:List (Y),y_=(I.set ((bK):Int).toNat (⟨(aD I (bK)).f0,Gj (((aD I (bK)).f1)+1)⟩:Y)):=⟨_,rfl⟩
   replace H:(fm.l0 k1 Oa a0 (Gj (bA+1)) eG)=some r:=by first|(rw[N5];with_reducible exact H)|(have aq:=(Gm _ _).symm.trans H;rw[N5];with_reducible exact aq)|(have aq:=(Gm _ _).symm.trans H;with_reducible exact aq)|with_reducible exact H|(rw[N5];exact H)|exact H
   have Z6:=Ah N5;clear N5;have H':=Ah H;clear H
   go_wp2_with (first|(go_at_call 81;(with_reducible refine(pi.calls bA cT jW jX eG true _ ?aZ ?ae ?ay A6.out).mono ?_);(case aZ=>exact cb sf HB);(case ae=>exact tq.out);(case ay=>exact bk bh);rintro e w' ⟨rfl,⟨nd,rfl⟩⟩;(try first|exact⟨rfl,_,fD _ _ _⟩|exact⟨rfl,_,aaQ (fD _ _ _) (congrArg (aao _) (aaq _ _ _))⟩);obtain⟨a0S,vN,Fn⟩:=Kd.az cy.out;subst Fn;have jY:0≤((bK):Int):=od;have jZ:(bK)<(I.length:Int):=od;obtain⟨oY,rb,wL,CQ⟩:=dN (Kd.aY cy.out).2.2 (bK) jY jZ;cases rb;replace jY:=eq_true jY;replace jZ:=eq_true jZ;have mR:0≤((bK):Int):=od;have mS:(bK)<(I.length:Int):=od;obtain⟨wZ,xI,CR,CS⟩:=dN (Kd.aY cy.out).2.2 (bK) mR mS;obtain rfl:oY=wZ:=(by injection xI);replace mR:=eq_true mR;replace mS:=eq_true mS;have xJ:0≤((bK):Int):=od;have xK:(bK)<(I.length:Int):=od;obtain⟨N6,Ob,LJ,LK⟩:=dN (Kd.aY cy.out).2.2 (bK) xJ xK;obtain rfl:oY=N6:=(by injection Ob);replace xJ:=eq_true xJ;replace xK:=eq_true xK;have xo:0≤((bK):Int):=od;have xp:((bK):Int)<((I.length:Int):Int):=od;obtain⟨kC,JD,vO,D7,Oc,cl13,D8⟩:=Kd.wM cy.out (by omega);(first|cases vO|(injection vO with eH nN nO;(first|subst eH|(injection eH with eH;subst eH));subst nO;clear nN));have Od:=Ah D7;have GG13:=Ah D8;clear D7 Oc D8;(first|simp only[jI]at wL|skip);(first|simp only[jI]at CQ|skip);(first|simp only[jI]at CR|skip);(first|simp only[jI]at CS|skip);(first|simp only[jI]at LJ|skip);(first|simp only[jI]at LK|skip);obtain⟨U6,wa,so,oZ,qC⟩:=Kd.gt cy.out z45 ((bK):Int) xo xp;obtain rfl:=qT so;have hx13_0:wr.cell? ⟨kC,((bK):Int).toNat*2,none⟩=some (.int .i64 ((aD I (bK)).f0)):=oZ 0 _ rfl;have IL:wr.cell? ⟨kC,((bK):Int).toNat*2+1,none⟩=some (.int .i64 ((aD I (bK)).f1)):=oZ 1 _ rfl;have hf13_0:wr.frozen? ⟨kC,((bK):Int).toNat*2,none⟩=false:=qC 0;have IM:wr.frozen? ⟨kC,((bK):Int).toNat*2+1,none⟩=false:=qC 1;clear wa oZ qC so;replace xo:=eq_true xo;replace xp:=eq_true xp;have mT:=Ah (show Kd.R aT 45 wr w.heap.size (fun _=>True) (.slice (some ⟨kC,0,none⟩) I.length vN) I from(rr cy.out));obtain⟨Fo,mI,mU,jP,mJ⟩:=Kd.gt mT.out z45 ((bK):Int) (od) (by have h_:((bK):Int)<((I.length:Int):Int):=od;first|exact h_|(have e_:=(Kd.aY cy.out).1;omega)|simpa using h_);obtain rfl:=qT mU;have n3:=Kd.nD mT.out ((bK):Int) (od) (by have h_:((bK):Int)<((I.length:Int):Int):=od;first|exact h_|(have e_:=(Kd.aY cy.out).1;omega)|simpa using h_) (seg:=[.int .i64 (Gj (((aD I (bK)).f1)+1))]) (j:=1) mI jP (show 2≤2 from by decide) (x':=(⟨(aD I (bK)).f0,Gj (((aD I (bK)).f1)+1)⟩:Y)) (ls _ _ _ (⟨(aD I (bK)).f0,Gj (((aD I (bK)).f1)+1)⟩:Y)) (fun _ hk=>hk);have wP:=jP 1 _ rfl;(try simp only[show(aT).sz=2 from rfl,fl,dH]at wP);have wQ:=mJ 1;(try simp only[show(aT).sz=2 from rfl,fl,dH]at wQ);clear mI jP mJ mU)|((with_reducible refine n8 (t:=3) (p:=44) rfl ?_);(try(rw[Gp wr];generalize kX:aao wr _=wr;replace cy:=Ah (Kd.Tj kX cy.out);replace bh:=Ah (LV kX bh.out);replace HB:=Ah (Qn kX HB.out);clear kX;(try(have mT:=Ah (show Kd.R aT 45 wr w.heap.size (fun _=>True) (.slice (some ⟨kC,0,none⟩) I.length vN) I from(rr cy.out))));(try(obtain⟨Fo,mI,mU,jP,mJ⟩:=Kd.gt mT.out z45 ((bK):Int) (od) (by have h_:((bK):Int)<((I.length:Int):Int):=od;first|exact h_|(have e_:=(Kd.aY cy.out).1;omega)|simpa using h_)));(try(obtain rfl:=qT mU));(try(have n3:=Kd.nD mT.out ((bK):Int) (od) (by have h_:((bK):Int)<((I.length:Int):Int):=od;first|exact h_|(have e_:=(Kd.aY cy.out).1;omega)|simpa using h_) (seg:=[.int .i64 (Gj (((aD I (bK)).f1)+1))]) (j:=1) mI jP (show 2≤2 from by decide) (x':=(⟨(aD I (bK)).f0,Gj (((aD I (bK)).f1)+1)⟩:Y)) (ls _ _ _ (⟨(aD I (bK)).f0,Gj (((aD I (bK)).f1)+1)⟩:Y)) (fun _ hk=>hk)));(try(have wP:=jP 1 _ rfl));(try(try simp only[show(aT).sz=2 from rfl,fl,dH]at wP));(try(have wQ:=mJ 1));(try(try simp only[show(aT).sz=2 from rfl,fl,dH]at wQ));(try(clear mI jP mJ mU))));refine n7 (t:=3) (p:=44) (v:= ?vo_w16) (w1:=(wr.setCell ⟨kC,((bK):Int).toNat*2+1,none⟩ (.int .i64 (Gj (((aD I (bK)).f1)+1))))) ?hg ?ho ?hn ?hr ?_;(case ho=>rfl);(case hg=>rfl);(case hn=>rfl);(case hr=>first|(go_simp;done)|(go_simp;rfl));intro w16 hw;have hg:wr.grownBy w16 (some kC):=(by rw[hw];exact n3.2);have eB:Kd.R aT 45 w16 w.heap.size (fun _=>True) (.slice (some ⟨kC,0,none⟩) I.length vN) Oa:=(by rw[hw,Z6.out];exact n3.1);clear n3;replace bh:=Ah (dJ (g:=cT) (o:= .cells #[.slice jW eG.length jX] 30 (0,0)) (bk bh) hg (Kd.dX cy.out bh.out (by decide)));replace cy:=Ah (eB);replace HB:=Ah ((by rw[hw];exact fJ (HB.out) Od.out:Below w.heap.size w w16));clear hg hw eB))
   repeat(go_quiet (first|(go_at_call 81;(with_reducible refine(pi.calls bA cT jW jX eG true _ ?aZ ?ae ?ay A6.out).mono ?_);(case aZ=>exact cb sf HB);(case ae=>exact tq.out);(case ay=>exact bk bh);rintro e w' ⟨rfl,⟨nd,rfl⟩⟩;(try first|exact⟨rfl,_,fD _ _ _⟩|exact⟨rfl,_,aaQ (fD _ _ _) (congrArg (aao _) (aaq _ _ _))⟩);obtain⟨a0S,vN,Fn⟩:=Kd.az cy.out;subst Fn;have jY:0≤((bK):Int):=od;have jZ:(bK)<(I.length:Int):=od;obtain⟨oY,rb,wL,CQ⟩:=dN (Kd.aY cy.out).2.2 (bK) jY jZ;cases rb;replace jY:=eq_true jY;replace jZ:=eq_true jZ;have mR:0≤((bK):Int):=od;have mS:(bK)<(I.length:Int):=od;obtain⟨wZ,xI,CR,CS⟩:=dN (Kd.aY cy.out).2.2 (bK) mR mS;obtain rfl:oY=wZ:=(by injection xI);replace mR:=eq_true mR;replace mS:=eq_true mS;have xJ:0≤((bK):Int):=od;have xK:(bK)<(I.length:Int):=od;obtain⟨N6,Ob,LJ,LK⟩:=dN (Kd.aY cy.out).2.2 (bK) xJ xK;obtain rfl:oY=N6:=(by injection Ob);replace xJ:=eq_true xJ;replace xK:=eq_true xK;have xo:0≤((bK):Int):=od;have xp:((bK):Int)<((I.length:Int):Int):=od;obtain⟨kC,JD,vO,D7,Oc,cl13,D8⟩:=Kd.wM cy.out (by omega);(first|cases vO|(injection vO with eH nN nO;(first|subst eH|(injection eH with eH;subst eH));subst nO;clear nN));have Od:=Ah D7;have GG13:=Ah D8;clear D7 Oc D8;(first|simp only[jI]at wL|skip);(first|simp only[jI]at CQ|skip);(first|simp only[jI]at CR|skip);(first|simp only[jI]at CS|skip);(first|simp only[jI]at LJ|skip);(first|simp only[jI]at LK|skip);obtain⟨U6,wa,so,oZ,qC⟩:=Kd.gt cy.out z45 ((bK):Int) xo xp;obtain rfl:=qT so;have hx13_0:wr.cell? ⟨kC,((bK):Int).toNat*2,none⟩=some (.int .i64 ((aD I (bK)).f0)):=oZ 0 _ rfl;have IL:wr.cell? ⟨kC,((bK):Int).toNat*2+1,none⟩=some (.int .i64 ((aD I (bK)).f1)):=oZ 1 _ rfl;have hf13_0:wr.frozen? ⟨kC,((bK):Int).toNat*2,none⟩=false:=qC 0;have IM:wr.frozen? ⟨kC,((bK):Int).toNat*2+1,none⟩=false:=qC 1;clear wa oZ qC so;replace xo:=eq_true xo;replace xp:=eq_true xp;have mT:=Ah (show Kd.R aT 45 wr w.heap.size (fun _=>True) (.slice (some ⟨kC,0,none⟩) I.length vN) I from(rr cy.out));obtain⟨Fo,mI,mU,jP,mJ⟩:=Kd.gt mT.out z45 ((bK):Int) (od) (by have h_:((bK):Int)<((I.length:Int):Int):=od;first|exact h_|(have e_:=(Kd.aY cy.out).1;omega)|simpa using h_);obtain rfl:=qT mU;have n3:=Kd.nD mT.out ((bK):Int) (od) (by have h_:((bK):Int)<((I.length:Int):Int):=od;first|exact h_|(have e_:=(Kd.aY cy.out).1;omega)|simpa using h_) (seg:=[.int .i64 (Gj (((aD I (bK)).f1)+1))]) (j:=1) mI jP (show 2≤2 from by decide) (x':=(⟨(aD I (bK)).f0,Gj (((aD I (bK)).f1)+1)⟩:Y)) (ls _ _ _ (⟨(aD I (bK)).f0,Gj (((aD I (bK)).f1)+1)⟩:Y)) (fun _ hk=>hk);have wP:=jP 1 _ rfl;(try simp only[show(aT).sz=2 from rfl,fl,dH]at wP);have wQ:=mJ 1;(try simp only[show(aT).sz=2 from rfl,fl,dH]at wQ);clear mI jP mJ mU)|((with_reducible refine n8 (t:=3) (p:=44) rfl ?_);(try(rw[Gp wr];generalize kX:aao wr _=wr;replace cy:=Ah (Kd.Tj kX cy.out);replace bh:=Ah (LV kX bh.out);replace HB:=Ah (Qn kX HB.out);clear kX;(try(have mT:=Ah (show Kd.R aT 45 wr w.heap.size (fun _=>True) (.slice (some ⟨kC,0,none⟩) I.length vN) I from(rr cy.out))));(try(obtain⟨Fo,mI,mU,jP,mJ⟩:=Kd.gt mT.out z45 ((bK):Int) (od) (by have h_:((bK):Int)<((I.length:Int):Int):=od;first|exact h_|(have e_:=(Kd.aY cy.out).1;omega)|simpa using h_)));(try(obtain rfl:=qT mU));(try(have n3:=Kd.nD mT.out ((bK):Int) (od) (by have h_:((bK):Int)<((I.length:Int):Int):=od;first|exact h_|(have e_:=(Kd.aY cy.out).1;omega)|simpa using h_) (seg:=[.int .i64 (Gj (((aD I (bK)).f1)+1))]) (j:=1) mI jP (show 2≤2 from by decide) (x':=(⟨(aD I (bK)).f0,Gj (((aD I (bK)).f1)+1)⟩:Y)) (ls _ _ _ (⟨(aD I (bK)).f0,Gj (((aD I (bK)).f1)+1)⟩:Y)) (fun _ hk=>hk)));(try(have wP:=jP 1 _ rfl));(try(try simp only[show(aT).sz=2 from rfl,fl,dH]at wP));(try(have wQ:=mJ 1));(try(try simp only[show(aT).sz=2 from rfl,fl,dH]at wQ));(try(clear mI jP mJ mU))));refine n7 (t:=3) (p:=44) (v:= ?vo_w16) (w1:=(wr.setCell ⟨kC,((bK):Int).toNat*2+1,none⟩ (.int .i64 (Gj (((aD I (bK)).f1)+1))))) ?hg ?ho ?hn ?hr ?_;(case ho=>rfl);(case hg=>rfl);(case hn=>rfl);(case hr=>first|(go_simp;done)|(go_simp;rfl));intro w16 hw;have hg:wr.grownBy w16 (some kC):=(by rw[hw];exact n3.2);have eB:Kd.R aT 45 w16 w.heap.size (fun _=>True) (.slice (some ⟨kC,0,none⟩) I.length vN) Oa:=(by rw[hw,Z6.out];exact n3.1);clear n3;replace bh:=Ah (dJ (g:=cT) (o:= .cells #[.slice jW eG.length jX] 30 (0,0)) (bk bh) hg (Kd.dX cy.out bh.out (by decide)));replace cy:=Ah (eB);replace HB:=Ah ((by rw[hw];exact fJ (HB.out) Od.out:Below w.heap.size w w16));clear hg hw eB));try go_wp2_with (first|(go_at_call 81;(with_reducible refine(pi.calls bA cT jW jX eG true _ ?aZ ?ae ?ay A6.out).mono ?_);(case aZ=>exact cb sf HB);(case ae=>exact tq.out);(case ay=>exact bk bh);rintro e w' ⟨rfl,⟨nd,rfl⟩⟩;(try first|exact⟨rfl,_,fD _ _ _⟩|exact⟨rfl,_,aaQ (fD _ _ _) (congrArg (aao _) (aaq _ _ _))⟩);obtain⟨a0S,vN,Fn⟩:=Kd.az cy.out;subst Fn;have jY:0≤((bK):Int):=od;have jZ:(bK)<(I.length:Int):=od;obtain⟨oY,rb,wL,CQ⟩:=dN (Kd.aY cy.out).2.2 (bK) jY jZ;cases rb;replace jY:=eq_true jY;replace jZ:=eq_true jZ;have mR:0≤((bK):Int):=od;have mS:(bK)<(I.length:Int):=od;obtain⟨wZ,xI,CR,CS⟩:=dN (Kd.aY cy.out).2.2 (bK) mR mS;obtain rfl:oY=wZ:=(by injection xI);replace mR:=eq_true mR;replace mS:=eq_true mS;have xJ:0≤((bK):Int):=od;have xK:(bK)<(I.length:Int):=od;obtain⟨N6,Ob,LJ,LK⟩:=dN (Kd.aY cy.out).2.2 (bK) xJ xK;obtain rfl:oY=N6:=(by injection Ob);replace xJ:=eq_true xJ;replace xK:=eq_true xK;have xo:0≤((bK):Int):=od;have xp:((bK):Int)<((I.length:Int):Int):=od;obtain⟨kC,JD,vO,D7,Oc,cl13,D8⟩:=Kd.wM cy.out (by omega);(first|cases vO|(injection vO with eH nN nO;(first|subst eH|(injection eH with eH;subst eH));subst nO;clear nN));have Od:=Ah D7;have GG13:=Ah D8;clear D7 Oc D8;(first|simp only[jI]at wL|skip);(first|simp only[jI]at CQ|skip);(first|simp only[jI]at CR|skip);(first|simp only[jI]at CS|skip);(first|simp only[jI]at LJ|skip);(first|simp only[jI]at LK|skip);obtain⟨U6,wa,so,oZ,qC⟩:=Kd.gt cy.out z45 ((bK):Int) xo xp;obtain rfl:=qT so;have hx13_0:wr.cell? ⟨kC,((bK):Int).toNat*2,none⟩=some (.int .i64 ((aD I (bK)).f0)):=oZ 0 _ rfl;have IL:wr.cell? ⟨kC,((bK):Int).toNat*2+1,none⟩=some (.int .i64 ((aD I (bK)).f1)):=oZ 1 _ rfl;have hf13_0:wr.frozen? ⟨kC,((bK):Int).toNat*2,none⟩=false:=qC 0;have IM:wr.frozen? ⟨kC,((bK):Int).toNat*2+1,none⟩=false:=qC 1;clear wa oZ qC so;replace xo:=eq_true xo;replace xp:=eq_true xp;have mT:=Ah (show Kd.R aT 45 wr w.heap.size (fun _=>True) (.slice (some ⟨kC,0,none⟩) I.length vN) I from(rr cy.out));obtain⟨Fo,mI,mU,jP,mJ⟩:=Kd.gt mT.out z45 ((bK):Int) (od) (by have h_:((bK):Int)<((I.length:Int):Int):=od;first|exact h_|(have e_:=(Kd.aY cy.out).1;omega)|simpa using h_);obtain rfl:=qT mU;have n3:=Kd.nD mT.out ((bK):Int) (od) (by have h_:((bK):Int)<((I.length:Int):Int):=od;first|exact h_|(have e_:=(Kd.aY cy.out).1;omega)|simpa using h_) (seg:=[.int .i64 (Gj (((aD I (bK)).f1)+1))]) (j:=1) mI jP (show 2≤2 from by decide) (x':=(⟨(aD I (bK)).f0,Gj (((aD I (bK)).f1)+1)⟩:Y)) (ls _ _ _ (⟨(aD I (bK)).f0,Gj (((aD I (bK)).f1)+1)⟩:Y)) (fun _ hk=>hk);have wP:=jP 1 _ rfl;(try simp only[show(aT).sz=2 from rfl,fl,dH]at wP);have wQ:=mJ 1;(try simp only[show(aT).sz=2 from rfl,fl,dH]at wQ);clear mI jP mJ mU)|((with_reducible refine n8 (t:=3) (p:=44) rfl ?_);(try(rw[Gp wr];generalize kX:aao wr _=wr;replace cy:=Ah (Kd.Tj kX cy.out);replace bh:=Ah (LV kX bh.out);replace HB:=Ah (Qn kX HB.out);clear kX;(try(have mT:=Ah (show Kd.R aT 45 wr w.heap.size (fun _=>True) (.slice (some ⟨kC,0,none⟩) I.length vN) I from(rr cy.out))));(try(obtain⟨Fo,mI,mU,jP,mJ⟩:=Kd.gt mT.out z45 ((bK):Int) (od) (by have h_:((bK):Int)<((I.length:Int):Int):=od;first|exact h_|(have e_:=(Kd.aY cy.out).1;omega)|simpa using h_)));(try(obtain rfl:=qT mU));(try(have n3:=Kd.nD mT.out ((bK):Int) (od) (by have h_:((bK):Int)<((I.length:Int):Int):=od;first|exact h_|(have e_:=(Kd.aY cy.out).1;omega)|simpa using h_) (seg:=[.int .i64 (Gj (((aD I (bK)).f1)+1))]) (j:=1) mI jP (show 2≤2 from by decide) (x':=(⟨(aD I (bK)).f0,Gj (((aD I (bK)).f1)+1)⟩:Y)) (ls _ _ _ (⟨(aD I (bK)).f0,Gj (((aD I (bK)).f1)+1)⟩:Y)) (fun _ hk=>hk)));(try(have wP:=jP 1 _ rfl));(try(try simp only[show(aT).sz=2 from rfl,fl,dH]at wP));(try(have wQ:=mJ 1));(try(try simp only[show(aT).sz=2 from rfl,fl,dH]at wQ));(try(clear mI jP mJ mU))));refine n7 (t:=3) (p:=44) (v:= ?vo_w16) (w1:=(wr.setCell ⟨kC,((bK):Int).toNat*2+1,none⟩ (.int .i64 (Gj (((aD I (bK)).f1)+1))))) ?hg ?ho ?hn ?hr ?_;(case ho=>rfl);(case hg=>rfl);(case hn=>rfl);(case hr=>first|(go_simp;done)|(go_simp;rfl));intro w16 hw;have hg:wr.grownBy w16 (some kC):=(by rw[hw];exact n3.2);have eB:Kd.R aT 45 w16 w.heap.size (fun _=>True) (.slice (some ⟨kC,0,none⟩) I.length vN) Oa:=(by rw[hw,Z6.out];exact n3.1);clear n3;replace bh:=Ah (dJ (g:=cT) (o:= .cells #[.slice jW eG.length jX] 30 (0,0)) (bk bh) hg (Kd.dX cy.out bh.out (by decide)));replace cy:=Ah (eB);replace HB:=Ah ((by rw[hw];exact fJ (HB.out) Od.out:Below w.heap.size w w16));clear hg hw eB)))
   go_roundg k1
   case measure=>have:=bi.out;omega
   case rel=>exact⟨(Oa),(Gj (bA+1)),e3,H',⟨by have:=bi.out;omega⟩,⟨rr cy.out⟩,⟨bk bh⟩,⟨bs HB⟩⟩
def xw.f(a0:Int)(l1:List (Y)):Option (Int×(List (Y))×(List (Y))):=(mq.f l1).bind fun uF=>((tG.f uF).bind fun Oe=>(some (a0,l1,Oe)))
theorem xw.calls(a0:Int)(pf:Nat→Prop)(fd:Value)(l1:List (Y))(r1:Int)(r2:List (Y))(r3:List (Y))(w0 w:World)(hB:Below w0.heap.size w0 w)(ho1:Kd.R aT 45 w w0.heap.size pf fd l1)(h:xw.f a0 l1=some (r1,r2,r3)):
 Calls Try.prog 41 #[.int .i64 a0,fd] w fun e w'=>∃df da:Value,e= .returned (.agg #[.int .i64 r1,df,da])∧Kd.R aT 45 w' w0.heap.size (fun k_=>(pf k_∨w.heap.size≤k_)∧some k_≠(da:Value).ownBlock) df r2∧Kd.R aT 45 w' w0.heap.size (fun k_=>(pf k_∨w.heap.size≤k_)∧some k_≠(df:Value).ownBlock) da r3∧Below w0.heap.size w0 w'∧ap w w' (fun k_=>pf k_):=by
 have mL:=ig;have nP:=Ah (show Kd.R aT 45 w w0.heap.size (fun k_=>(pf k_∨w.heap.size≤k_)) fd l1 from Kd.ax ho1 (fun k_ hk=>(.inl hk)));have HK:=Ah (ap.refl w (fun k_=>pf k_));have HW0:=Ah hB.size;have HB:=Ah hB;clear hB;have H:((mq.f l1).bind fun uF=>((tG.f uF).bind fun Oe=>(some (a0,l1,Oe))))=some (r1,r2,r3):=h;clear h;replace H:=Gl.mp H;obtain⟨uF,dj,H⟩:=H
 try dsimp only at H
 have A3:=Ah dj;clear dj;replace H:=Gl.mp H;obtain⟨Oe,eJ,H⟩:=H
 try dsimp only at H
 have A4:=Ah eJ;clear eJ;simp only[Jh,Ue]at H;obtain⟨rfl,rfl,rfl⟩:=H
 go_enter Try.func41,Try.ntmps41
 go_wp2_with (first|((with_reducible refine ag (N:=4) rfl ?_);refine an 4 26 #[.int .i64 0,.slice none 0 0,.slice none 0 0] ?_;intro lF hg w5 cF hb;replace nP:=nr nP hb;have N7:=Ah ((by rw[hg];exact(by first|exact HK.out.1|exact(show ap w _ (fun k_=>pf k_)from by repeat(first|(with_reducible first|exact HK.out|apply ap.alloc|apply ap.drewN|apply ap.drew)|exact HK.out)).1):w.heap.size≤lF));replace HK:=Ah (ap.below (S:=(fun k_=>pf k_)) (by repeat(first|(with_reducible first|exact HK.out|apply ap.alloc|apply ap.drewN|apply ap.drew)|exact HK.out)) hb);have fu:=Ah ((by rw[hg];exact(bE (bs HB)):w0.heap.size≤lF));replace HB:=Ah (aH (bs HB) hb);clear hb hg;obtain⟨qR,pg,Gd⟩:=Kd.az nP.out;subst Gd)|((with_reducible refine bY (f:=57) rfl ?_);refine gL (some 7) rfl rfl Try.func57 (by kernel_rfl) rfl #[.slice qR l1.length pg] rfl ?_;(with_reducible refine(mq.calls _ _ l1 uF _ ?aZ ?ae A3.out).mono ?_);(case aZ=>exact jF nP);(case ae=>exact(Kd.aY nP.out).2.1);rintro e w7 ⟨v582,rfl,ho0,hb⟩;refine⟨_,rfl, ?_⟩;have F0:=Ah (Kd.bR (Kd.k9 (Kd.R_newM (M:=fun k_=>(pf k_∨w.heap.size≤k_)) ho0 (by first|exact HK.out.1|exact(show ap w _ (fun k_=>pf k_)from by repeat(first|(with_reducible first|exact HK.out|apply ap.alloc|apply ap.drewN|apply ap.drew|refine ap.setCell ?_ (.inr N7.out) _)|exact HK.out)).1) (fun k_ h_=> .inr h_)) (Kd.i4 (rr nP.out))) (bE (aM HB fu)));replace nP:=Ah (Kd.zN (rr nP.out) (Kd.jK ho0) hb);replace cF:=nb cF hb;replace HK:=Ah (ap.below (S:=(fun k_=>pf k_)) (by repeat(first|(with_reducible first|exact HK.out|apply ap.alloc|apply ap.drewN|apply ap.drew|refine ap.setCell ?_ (.inr N7.out) _)|exact HK.out)) hb);replace HB:=Ah (aH (aM HB fu) hb);(try clear hb ho0);obtain⟨xk,xl,eo8⟩:=Kd.az F0.out;subst eo8)|((with_reducible refine bY (f:=58) rfl ?_);refine gL (some 9) rfl rfl Try.func58 (by kernel_rfl) rfl #[.slice xk uF.length xl,.func (.func 59) #[] #[]] rfl ?_;(with_reducible refine(tG.calls (fun k_=>some k_=(.slice xk uF.length xl:Value).ownBlock) (.slice xk uF.length xl) uF Oe w0 _ ?aZ ?ae A4.out).mono ?_);(case aZ=>repeat(first|(with_reducible first|exact HB.out|apply mr|apply qS|apply j7|refine fJ ?_ fu.out)|exact HB.out));(case ae=>exact Kd.vu rfl F0.out);rintro e w9 ⟨rfl,hy0,hb,hkp⟩;refine⟨_,rfl, ?_⟩;replace nP:=Ah (Kd.ax (ok':=fun k_=>(pf k_∨w.heap.size≤k_)∧some k_≠(.slice xk uF.length xl:Value).ownBlock) (Kd.zZ (nP.out) hkp (fun k_ dg hs_=>(dg.2) hs_)) (fun k_ dg=>⟨dg.1.1,dg.1.2⟩));replace cF:=Ah (nh (bk cF) hkp (fun hs_=>(fun e_=>(Kd.dX F0.out cF.out (by decide)) e_) hs_));replace HK:=Ah (ap.AL (S:=(fun k_=>pf k_)) (by repeat(first|(with_reducible first|exact HK.out|apply ap.alloc|apply ap.drewN|apply ap.drew|refine ap.setCell ?_ (.inr N7.out) _)|exact HK.out)) hkp (fun k_ hs_=>(fun e_=>(F0.out.1 k_ e_.symm).1.1) hs_));replace F0:=Ah (Kd.EZ rfl hy0 (fun k_ e_=>F0.out.1 k_ e_));replace HB:=Ah (hb);(try clear hb hkp hy0);obtain⟨tY,tZ,ur⟩:=dE cF;obtain⟨ta,tb,us⟩:=dF cF))
 refine bodyPost_ret (results_cell_row rfl _ _ lF 26 #[.int .i64 a0,.slice qR l1.length pg,.slice xk uF.length xl] (0,0) _ rfl (pb cF) ig rfl (by kernel_rfl)) rfl ?_;exact⟨_,_,er,by(with_reducible repeat(first|apply Kd.bd|apply Kd.bZ|apply Kd.bQ));exact Kd.ax (Kd.aK (p:=⟨lF,2,none⟩) (Kd.aK (p:=⟨lF,1,none⟩) (Kd.aK (p:=⟨lF,0,none⟩) (Kd.dU nP.out cF.out (by decide)) (fun _ hk=>hk.2) (.int .i64 a0)) (fun _ hk=>hk.2) (.slice qR l1.length pg)) (fun _ hk=>hk.2) (.slice xk uF.length xl)) (fun _ hk=>⟨hk.1.1,hk.1.2⟩),by(with_reducible repeat(first|apply Kd.bd|apply Kd.bZ|apply Kd.bQ));exact Kd.ax (Kd.aK (p:=⟨lF,2,none⟩) (Kd.aK (p:=⟨lF,1,none⟩) (Kd.aK (p:=⟨lF,0,none⟩) (Kd.dU F0.out cF.out (by decide)) (fun _ hk=>hk.2) (.int .i64 a0)) (fun _ hk=>hk.2) (.slice qR l1.length pg)) (fun _ hk=>hk.2) (.slice xk uF.length xl)) (fun _ hk=>⟨hk.1.1.1,hk.1.2⟩),aM HB fu,by repeat(first|(with_reducible first|exact HK.out|apply ap.alloc|apply ap.drewN|apply ap.drew|refine ap.setCell ?_ (.inr N7.out) _)|exact HK.out)⟩
def fo.l0:Nat→Bool→Int→Int→Int→List (Y)→List (Y)→Int→Int→List Bool→Option (Int×(List (Y))×(List (Y))×Bool)
 |0,_,_,_,_,_,_,_,_,_=>none
 |k+1,x2,BL,JV,XA,x581001,x581002,LL,x582001,Ra=>if JV<BL then(if 0≤(Gj (LL+JV))then(if(Gj (LL+JV))<(Ra.length:Int)then(if((eO false Ra (Gj (LL+JV)))==x2)=true then(some (0,([]:List (Y)),([]:List (Y)),false))else(fo.l0 k x2 BL (Gj (JV+1)) XA x581001 x581002 LL x582001 (Ra.set ((Gj (LL+JV)):Int).toNat x2)))else(none))else(none))else((fm.f k XA Ra).bind fun oz=>((xw.f XA oz).bind fun Ik=>((cV.f k Ik.1 Ik.2.1 Ik.2.2).bind fun a0T=>(if a0T=true then(some (Ik.1,Ik.2.1,Ik.2.2,true))else(some (0,([]:List (Y)),([]:List (Y)),false))))))
def fo.f(k:Nat)(aA:Int)(X:List (Y))(aC:List (Y))(aN:Int)(aQ:Int)(a2:Bool):Option (Int×(List (Y))×(List (Y))×Bool):=(eV.f k aA X aC).bind fun D9=>(fo.l0 k a2 aQ 0 aA X aC aN aQ D9)
theorem fo.cQ:∀k,(∀y0 y1 y2 y3 y4 y5 y6 y7 y8,aG (fo.l0 k y0 y1 y2 y3 y4 y5 y6 y7 y8) (fo.l0 (k+1) y0 y1 y2 y3 y4 y5 y6 y7 y8))
 |0=>fun _ _ _ _ _ _ _ _ _ r h=>by simp[fo.l0]at h
 |k+1=>by
  have bS:=fo.cQ k
  ·
   intro y0 y1 y2 y3 y4 y5 y6 y7 y8;unfold fo.l0
   repeat' with_reducible first|exact bS _ _ _ _ _ _ _ _ _|exact eV.mono _ _ _ _|exact cV.mono _ _ _ _|exact fm.mono _ _ _|exact aG.refl _|exact aG.none _|refine aG.ite ?_ ?_|refine aG.bind ?_ (fun _=> ?_)
theorem fo.mono:∀a0 a1 a2 a3 a4 a5 k,aG (fo.f k a0 a1 a2 a3 a4 a5) (fo.f (k+1) a0 a1 a2 a3 a4 a5):=by
 intro a0 a1 a2 a3 a4 a5 k;have bS:=fo.cQ k;unfold fo.f
 repeat' with_reducible first|exact bS _ _ _ _ _ _ _ _ _|exact eV.mono _ _ _ _|exact cV.mono _ _ _ _|exact fm.mono _ _ _|exact aG.refl _|exact aG.none _|refine aG.ite ?_ ?_|refine aG.bind ?_ (fun _=> ?_)
def fo.T9:Bool×List (List Nat×List Nat):=(true,[([],[]),([0],[0]),([],[]),([2],[2]),([],[]),([3,4],[3,4]),([1,5,5],[1,5]),([],[]),([7,6,6,0,1,2,3,4,5,6,7],[6,7])])
def fo.B9:List Nat:=[0,1,0,4,0,28,63,0,255]
theorem fo.a0B:i5 .any (uw Try.f68 9)=fo.T9:=by kernel_rfl
theorem fo.Yn:pm fo.T9.2 fo.B9=true:=by kernel_rfl
theorem fo.calls(k:Nat)(aA:Int)(af:Option Addr)(aa:Nat)(X:List (Y))(ab:Option Addr)(ac:Nat)(aC:List (Y))(aN:Int)(aQ:Int)(a2:Bool)(r1:Int)(r2:List (Y))(r3:List (Y))(r4:Bool)(w:World)(dO:Kd.C aT w af X.length X)(dP:X.length≤aa)(dQ:Kd.C aT w ab aC.length aC)(dR:aC.length≤ac)(h:fo.f k aA X aC aN aQ a2=some (r1,r2,r3,r4)):
 Calls Try.prog 68 #[.agg #[.int .i64 aA,.slice af X.length aa,.slice ab aC.length ac],.agg #[.int .i64 aN,.int .i64 aQ],.bool a2] w fun e w'=>∃df da:Value,e= .returned (.tuple #[.agg #[.int .i64 r1,df,da],.bool r4])∧Kd.R aT 45 w' w.heap.size (fun k_=>some k_≠(da:Value).ownBlock) df r2∧Kd.R aT 45 w' w.heap.size (fun k_=>some k_≠(df:Value).ownBlock) da r3∧Below w.heap.size w w':=by
 have mL:=ig;have jT:=fk;have bo:=Ah dO;have cU:=Ah dP;clear dO dP;have cn:=Ah dQ;have co:=Ah dR;clear dQ dR;have HB:=Ah (Ud w.heap.size w);have H:((eV.f k aA X aC).bind fun D9=>(fo.l0 k a2 aQ 0 aA X aC aN aQ D9))=some (r1,r2,r3,r4):=h;clear h;replace H:=Gl.mp H;obtain⟨D9,eJ,H⟩:=H
 try dsimp only at H
 have A4:=Ah eJ;clear eJ;have H':=Ah H;clear H
 go_enter Try.func68,Try.ntmps68
 go_wp2_with (first|((with_reducible refine ag (N:=3) rfl ?_);refine an 3 26 #[.int .i64 aA,.slice af X.length aa,.slice ab aC.length ac] ?_;intro lF hg w5 cF hb;have N7:=gw hg (bs HB);have fu:=gw hg (bs HB);replace HB:=Ah (aH (bs HB) hb);clear hb hg)|((with_reducible refine ag (N:=4) rfl ?_);refine an 4 45 #[.int .i64 aN,.int .i64 aQ] ?_;intro ob hg w6 dp hb;have GW581:=gw hg (aM HB fu);have iW:=gw hg (aM HB fu);replace HB:=Ah (aH (aM HB fu) hb);have VJ:=nn cF hg;have VK:=nm cF hg;replace cF:=nb cF hb;clear hb hg)|((with_reducible refine ag (N:=6) rfl ?_);refine an 6 26 #[.int .i64 0,.slice none 0 0,.slice none 0 0] ?_;intro qd hg w7 bh hb;have GW582:=gw hg (am HB fu iW);have jQ:=gw hg (am HB fu iW);replace HB:=Ah (aH (am HB fu iW) hb);have Qc:=nn cF hg;have Qd:=nm cF hg;replace cF:=nb cF hb;have K4:=nn dp hg;have K5:=nm dp hg;replace dp:=nb dp hb;clear hb hg;have a0m:=VJ.out;have a0n:=VK.out;have a0p:=Qc.out;have a0q:=Qd.out;obtain⟨tY,tZ,ur⟩:=dE cF;obtain⟨ta,tb,us⟩:=dF cF)|((with_reducible refine bY (f:=79) rfl ?_);refine gL (some 12) rfl rfl Try.func79 (by kernel_rfl) rfl #[.agg #[.int .i64 aA,.slice af X.length aa,.slice ab aC.length ac]] rfl ?_;(with_reducible refine(eV.calls k aA _ _ X _ _ aC D9 _ ?aZ ?ae ?ay ?bI A4.out).mono ?_);(case aZ=>exact cb bo HB);(case ae=>exact cU.out);(case ay=>exact cb cn HB);(case bI=>exact co.out);rintro e kF ⟨a0R,rfl,ho0,hb⟩;refine⟨_,rfl, ?_⟩;have Cl:=Ah (Kd.bR ho0 (bE (aw HB fu iW jQ)));replace cF:=nb cF hb;replace dp:=nb dp hb;replace bh:=nb bh hb;replace HB:=Ah (aH (aw HB fu iW jQ) hb);(try clear hb ho0))|((with_reducible refine ag (N:=8) rfl ?_);refine an 8 30 #[.slice none 0 0] ?_;intro vC hg ef eN hb;replace Cl:=nr Cl hb;have GW586:=gw hg (aw HB fu iW jQ);have lG:=gw hg (aw HB fu iW jQ);replace HB:=Ah (aH (aw HB fu iW jQ) hb);have Qe:=nn cF hg;have VL:=nm cF hg;replace cF:=nb cF hb;have Qf:=nn dp hg;have VM:=nm dp hg;replace dp:=nb dp hb;have Gu:=nn bh hg;have K6:=nm bh hg;replace bh:=nb bh hb;clear hb hg;obtain⟨a0U,JD,vO⟩:=Kd.az Cl.out;subst vO;have hnb14:=VL.out;have hnc14:=Qe.out;have Sq:=VM.out;have Sr:=Qf.out;have hnb16:=K6.out;have hnc16:=Gu.out;have sO:=cz1 eN;have sP:=UN eN;have T0:=K4.out;have T2:=K5.out;obtain⟨E2,E3⟩:=cg dp;obtain⟨E4,E5⟩:=ch dp))
 go_loopg [15] k (fun kq v15 w'=>∃ (AU:Int) (K7:Int) (jy:List Bool) (XB:Value),v15= .int .i64 AU∧Z (fo.l0 kq a2 aQ AU aA X aC aN aQ jy=some (r1,r2,r3,r4))∧Z (kq≤k)∧Z (Kd.R Kd.bool 4 w' w.heap.size (fun _=>True) XB jy)∧Z (w'.heap[lF]?=some (.cells #[.int .i64 aA,(.slice af X.length aa),(.slice ab aC.length ac)] 26 (0,0)))∧Z (w'.heap[ob]?=some (.cells #[.int .i64 aN,.int .i64 aQ] 45 (0,0)))∧Z (w'.heap[qd]?=some (.cells #[.int .i64 K7,(.slice none 0 0),(.slice none 0 0)] 26 (0,0)))∧Z (w'.heap[vC]?=some (.cells #[XB] 30 (0,0)))∧Z (Below w.heap.size w w'))
 case atStart=>exact⟨(0),(0),(D9),(.slice a0U D9.length JD),e3,H',⟨QQ _⟩,⟨by(with_reducible repeat(first|apply Kd.bd|apply Kd.bZ|apply Kd.bQ));exact Kd.ax (Kd.aK (p:=⟨vC,0,none⟩) (Kd.dU Cl.out eN.out (by decide)) (fun _ hk=>hk.2) (.slice a0U D9.length JD)) (fun _ hk=>trivial)⟩,⟨bf cF Qe⟩,⟨bf dp Qf⟩,⟨bf bh Gu⟩,⟨by exact pb eN⟩,⟨bq HB fu iW jQ lG⟩⟩
 case round=>
  clear H'
  try clear c1
  try clear p2
  try clear c6
  try clear c7
  try clear c8
  try clear c9
  try clear c14
  try clear c15
  try clear c16
  try clear c18
  try clear tY tZ ur
  try clear sO
  try clear E2 E3
  try clear ta tb us
  try clear sP
  try clear E4 E5
  obtain⟨AU,K7,jy,XB,rfl,HA,bi,fK,cF,dp,bh,eN,HB⟩:=hrel
  cases gk with
  |zero=>exact absurd HA.out (by simp[fo.l0])
  |succ k1=>
   have H:=HA.out;clear HA;simp only[fo.l0]at H
   by_cases c20:AU<aQ
   ·
    rw[if_pos c20]at H;have Cg:=bJ c20;clear c20;obtain⟨kx,TJ⟩:∃j_:Int,(Gj (aN+AU))=j_:=⟨_,rfl⟩
    replace H:(if 0≤(kx)then(if(kx)<(jy.length:Int)then(if((eO false jy (kx))==a2)=true then(some (0,([]:List (Y)),([]:List (Y)),false))else(fo.l0 k1 a2 aQ (Gj (AU+1)) aA X aC aN aQ (jy.set ((kx):Int).toNat a2)))else(none))else(none))=some (r1,r2,r3,r4):=by first|(rw[TJ]at H;exact H)|(simp only[TJ]at H⊢;exact H)
    have hji21w:(IntKind.i64.wrap (aN+AU))=kx:=(kP _).trans TJ
    by_cases pe:0≤(kx)
    rotate_left
    ·
     rw[if_neg pe]at H;exact absurd H (by simp)
    rw[if_pos pe]at H;have c22b0:=bJ pe;clear pe
    by_cases c23:(kx)<(jy.length:Int)
    rotate_left
    ·
     rw[if_neg c23]at H;exact absurd H (by simp)
    rw[if_pos c23]at H;have c23b0:=bJ c23;clear c23
    by_cases c24:((eO false jy (kx))==a2)=true
    ·
     rw[if_pos c24]at H;have IV:((eO false jy (kx))==a2)=true:=c24;(try(have M7:decide ((eO false jy (kx))=a2)=true:=by simpa using c24));(try(have c24b2:((eO false jy (kx))==a2)=true:=by simpa using c24));clear c24;simp only[Jh,Ue]at H;obtain⟨rfl,rfl,rfl,rfl⟩:=H;have hnb25:=VL.out;have hnc25:=Qe.out;have TF:=VM.out;have TG:=Qf.out;have hnb27:=K6.out;have hnc27:=Gu.out;have zr:=cz1 eN;have zs:=UN eN;have hnb29:=VK.out;have hnc29:=VJ.out;have hnb30:=K4.out;have hnc30:=K5.out;obtain⟨hcz31_0,hcz31_1⟩:=cg dp;obtain⟨hfz31_0,hfz31_1⟩:=ch dp;obtain⟨Ao32,co32,U7⟩:=Kd.az fK.out;subst U7;have jY:0≤((kx):Int):=od;have jZ:(kx)<(jy.length:Int):=od;obtain⟨oY,rb,wL⟩:=Kd.zU (Kd.aY fK.out).2.2 (kx) jY jZ
     cases rb
     replace jY:=eq_true jY;replace jZ:=eq_true jZ;have hnb33:=Qd.out;have hnc33:=Qc.out;obtain⟨RO,RP,XC⟩:=dE bh;obtain⟨RQ,RR,XD⟩:=dF bh
     go_wp2
     refine bodyPost_ret (iU rfl _ _ qd 26 #[.int .i64 0,.slice none 0 0,.slice none 0 0] (0,0) _ rfl (pb bh) ig rfl (by kernel_rfl)) rfl ?_;exact⟨_,_,by first|rfl|(simp[mC,mD]<;>rfl)|(simp only[←TJ];first|rfl|(simp[mC,mD]<;>rfl))|(simp[*,mC,mD]<;>rfl),by first|exact Kd.be _ _ _ _ _|exact Kd.ce _ _ _ _ _|exact Kd.cf _ _ _ _ _|exact Kd.cZ _ _ _ _ _|exact Kd.ca _ _ _ _ _,by first|exact Kd.be _ _ _ _ _|exact Kd.ce _ _ _ _ _|exact Kd.cf _ _ _ _ _|exact Kd.cZ _ _ _ _ _|exact Kd.ca _ _ _ _ _,bq HB fu iW jQ lG⟩
    rw[if_neg c24]at H
    have IV:((eO false jy (kx))==a2)=false:=by simpa using c24
    (try(have M7:decide ((eO false jy (kx))=a2)=false:=by simpa using c24));(try(have c24b2:((eO false jy (kx))==a2)=false:=by simpa using c24));(try(have c24b3:¬((eO false jy (kx))=a2):=by simpa using c24));clear c24;obtain⟨a0V,N8⟩:∃y_:List Bool,y_=(jy.set ((kx):Int).toNat a2):=⟨_,rfl⟩
    replace H:(fo.l0 k1 a2 aQ (Gj (AU+1)) aA X aC aN aQ a0V)=some (r1,r2,r3,r4):=by first|(rw[N8];with_reducible exact H)|(have aq:=(Gm _ _).symm.trans H;rw[N8];with_reducible exact aq)|(have aq:=(Gm _ _).symm.trans H;with_reducible exact aq)|with_reducible exact H|(rw[N8];exact H)|exact H
    have Ny588:=Ah N8;clear N8;have H':=Ah H;clear H;have TH:=VL.out;have TI:=Qe.out;have MH:=VM.out;have MI:=Qf.out;have hnb38:=K6.out;have hnc38:=Gu.out;have X1:=cz1 eN;have X2:=UN eN;have Ey:=VK.out;have Ez:=VJ.out;have MJ:=K4.out;have MK:=K5.out;obtain⟨Rb,Rc⟩:=cg dp;obtain⟨Rd,Re⟩:=ch dp;obtain⟨U8,Fp,Of⟩:=Kd.az fK.out;subst Of;have jY:0≤((kx):Int):=od;have jZ:(kx)<(jy.length:Int):=od;obtain⟨oY,rb,wL⟩:=Kd.zU (Kd.aY fK.out).2.2 (kx) jY jZ
    cases rb
    replace jY:=eq_true jY;replace jZ:=eq_true jZ;have p35:0≤((kx):Int):=od;have q35:((kx):Int)<((jy.length:Int):Int):=od;obtain⟨U9,co35,eo35,gb35,gl35,cl35,HG35⟩:=Kd.wM fK.out (by omega);(first|cases eo35|(injection eo35 with eH nN nO;(first|subst eH|(injection eH with eH;subst eH));subst nO;clear nN));have GB35:=Ah gb35;have GG35:=Ah HG35;clear gb35 gl35 HG35;(first|simp only[jI]at wL|skip);obtain⟨hx35_0,hf35_0⟩:=Kd.Vs false fK.out ((kx):Int) p35 q35;replace p35:=eq_true p35;replace q35:=eq_true q35;have a0W:=Kd.Xr fK.out ((kx):Int) a2
    go_wp2_with (first|((with_reducible refine n8 (t:=4) (p:=34) rfl ?_);refine n7 (t:=4) (p:=34) (v:= ?vo_w45) (w1:=(wr.setCell ⟨U9,((kx):Int).toNat,none⟩ (.bool a2))) ?hg ?ho ?hn ?hr ?_;(case ho=>rfl);(case hg=>rfl);(case hn=>rfl);(case hr=>first|(go_simp;done)|(go_simp;rfl));intro Ua hw;have hg:wr.grownBy Ua (some U9):=(by rw[hw];exact a0W.2);have eB:Kd.R Kd.bool 4 Ua w.heap.size (fun _=>True) (.slice (some ⟨U9,0,none⟩) jy.length Fp) a0V:=(by rw[hw,Ny588.out];exact a0W.1);clear a0W;replace cF:=Ah (dJ (bk cF) hg (Kd.dX fK.out cF.out (by decide)));replace dp:=Ah (dJ (bk dp) hg (Kd.dX fK.out dp.out (by decide)));replace bh:=Ah (dJ (bk bh) hg (Kd.dX fK.out bh.out (by decide)));replace eN:=Ah (dJ (bk eN) hg (Kd.dX fK.out eN.out (by decide)));replace fK:=Ah (eB);replace HB:=Ah ((by rw[hw];exact fJ (HB.out) GB35.out:Below w.heap.size w Ua));clear hg hw eB))
    go_roundg k1
    case measure=>have:=bi.out;omega
    case rel=>exact⟨(Gj (AU+1)),(K7),(a0V),(.slice (some ⟨U9,0,none⟩) jy.length Fp),e3,H',⟨by have:=bi.out;omega⟩,⟨rr fK.out⟩,⟨bk cF⟩,⟨bk dp⟩,⟨bk bh⟩,⟨bk eN⟩,⟨bq HB fu iW jQ lG⟩⟩
   rw[if_neg c20]at H;have Cg:=dn c20;clear c20;replace H:=Gl.mp H;obtain⟨oz,A460,H⟩:=H
   try dsimp only at H
   have A46:=Ah A460;clear A460;replace H:=Gl.mp H;obtain⟨⟨uG,sp,sq⟩,A470,H⟩:=H
   try dsimp only at H
   have A47:=Ah A470;clear A470;replace H:=Gl.mp H;obtain⟨a0T,A480,H⟩:=H
   try dsimp only at H
   have A48:=Ah A480;clear A480;have H_:=Ah H;clear H;obtain⟨Am,ym,a0H⟩:=Kd.az fK.out;subst a0H
   try go_wp2
   replace fK:=Ah (Kd.bQ fK.out);replace cF:=Ah (cY cF.out);replace dp:=Ah (cY dp.out);replace bh:=Ah (cY bh.out);replace eN:=Ah (cY eN.out);replace HB:=Ah (j7 HB.out);refine mt (n:=9) (S:=fun w'=>w'.cell? ⟨lF,0,none⟩=some (.int .i64 aA)∧w'.cell? ⟨lF,1,none⟩=some (.slice af X.length aa)∧w'.cell? ⟨lF,2,none⟩=some (.slice ab aC.length ac)) (ds:=[]) #[false,false,false,false,false,false,false,false,false] (by kernel_rfl) rfl rfl ⟨(aE cF.out 0).trans rfl,(aE cF.out 1).trans rfl,(aE cF.out 2).trans rfl⟩ (fun hHeld=> ?_);refine na fo.a0B fo.Yn (fun aI cz=> ?_)
   generalize wr.drew=w51 at fK cF dp bh eN HB hHeld⊢
   refine b6 0 36 aI.out ?_;refine b6 2 38 aI.out ?_;refine b6 4 40 aI.out ?_;refine dv 1 37 aI.out cz.out hHeld (hr:=by rintro w' ⟨s0,s1,s2⟩;go_simp;with_reducible rfl) (h:= ?_);refine dv 3 39 aI.out cz.out hHeld (hr:=by rintro w' ⟨s0,s1,s2⟩;go_simp;with_reducible rfl) (h:= ?_);refine sZ (σ:=Value×Value×Value×Nat) 1 #[true,true,true,true,true,true,true,true,false] (fun s_=>[(41,s_.1),(42,.agg #[.int .i64 uG,s_.2.1,s_.2.2.1]),(10,.pointer (some ⟨s_.2.2.2,0,none⟩))]) (fun s_ w'=>(w'.cell? ⟨lF,0,none⟩=some (.int .i64 aA)∧w'.cell? ⟨lF,1,none⟩=some (.slice af X.length aa)∧w'.cell? ⟨lF,2,none⟩=some (.slice ab aC.length ac))∧(Kd.R aT 45 w' w.heap.size (fun k_=>some k_≠(s_.2.2.1:Value).ownBlock∧k_≠ob) s_.2.1 sp)∧(Kd.R aT 45 w' w.heap.size (fun k_=>some k_≠(s_.2.1:Value).ownBlock∧k_≠ob) s_.2.2.1 sq)∧(Kd.R Kd.bool 4 w' w.heap.size (fun _=>True) (.slice Am jy.length ym) jy)∧(w'.heap[lF]?=some (.cells #[.int .i64 aA,.slice af X.length aa,.slice ab aC.length ac] 26 (0,0)))∧(w'.heap[ob]?=some (.cells #[.int .i64 aN,.int .i64 aQ] 45 (0,0)))∧(w'.heap[qd]?=some (.cells #[.int .i64 K7,.slice none 0 0,.slice none 0 0] 26 (0,0)))∧(w'.heap[vC]?=some (.cells #[.slice Am jy.length ym] 30 (0,0)))∧(w'.heap[s_.2.2.2]?=some (.cells #[.int .i64 0,.slice none 0 0,.slice none 0 0] 26 (0,0)))∧(w.heap.size≤s_.2.2.2)∧(w.heap.size≤s_.2.2.2)∧(lF≠s_.2.2.2)∧(s_.2.2.2≠lF)∧(ob≠s_.2.2.2)∧(s_.2.2.2≠ob)∧(qd≠s_.2.2.2)∧(s_.2.2.2≠qd)∧(vC≠s_.2.2.2)∧(s_.2.2.2≠vC)∧(Below w.heap.size w w')) ?_ ?_;rotate_left
   ·
    intro hCont;refine Ct (i:=5) (j:=7) (Ni:=some 41) (Nj:=some 10) #[true,true,true,true,true,true,false,false,false] #[true,true,true,true,true,false,false,true,false] rfl rfl rfl rfl (CU aI.out (by kernel_rfl)) (by decide) (by decide) (fun K hK=> ?_) (fun K hK=> ?_)
    ·
     skip
     refine gZ Try.func80 (by kernel_rfl) rfl #[.int .i64 aA,.func (.func 81) #[] #[.pointer (some ⟨vC,0,none⟩)]] (by rfl) rfl rfl (by(try simp only[dl,dV,lK]);first|done|rfl|(simp only[SI,Ja];rfl)) ?_
     with_reducible refine(fm.calls k1 aA vC Am ym jy oz _ ?aZ ?ae ?ay A46.out).mono ?_
     (case aZ=>exact jF fK);(case ae=>exact(Kd.aY fK.out).2.1);(case ay=>exact bk eN);rintro e w52 ⟨v590,rfl,ho0,hb⟩;refine⟨_,rfl, ?_⟩;replace fK:=Ah (Kd.b9 (rr fK.out) hb);have iN:=Ah (Kd.bR (Kd.kd ho0 (g:=ob) (o:= .cells #[.int .i64 aN,.int .i64 aQ] 45 (0,0)) (bk dp)) (bE (bq HB fu iW jQ lG)));replace cF:=Ah (bb cF hb);replace dp:=Ah (bb dp hb);replace bh:=Ah (bb bh hb);replace eN:=Ah (bb eN hb);replace HB:=Ah (aH (bq HB fu iW jQ lG) hb);(try clear hb);(try clear hb2);(try clear hk);(try clear hi);(try clear ho0);obtain⟨Og,Oh,Oi⟩:=Kd.az iN.out;(first|subst Oi|(injection Oi with cR dw cS;have dx:=cR.symm;have dy:=cS.symm;clear cR dw cS;subst dx;subst dy));refine hK.out _ _ ⟨(aE cF.out 0).trans rfl,(aE cF.out 1).trans rfl,(aE cF.out 2).trans rfl⟩ (fun hHeld=> ?_);clear hK K;refine nq 41 ?_;refine Ct (i:=6) (j:=7) (Ni:=some 42) (Nj:=some 10) #[true,true,true,true,true,true,true,false,false] #[true,true,true,true,true,true,false,true,false] rfl rfl rfl rfl (CU aI.out (by kernel_rfl)) (by decide) (by decide) (fun K hK=> ?_) (fun K hK=> ?_)
     ·
      skip
      refine gZ Try.func41 (by kernel_rfl) rfl #[.int .i64 aA,.slice Og oz.length Oh] (by rfl) rfl rfl (by(try simp only[dl,dV,lK]);first|done|rfl|(simp only[SI,Ja];rfl)) ?_
      with_reducible refine(xw.calls aA (fun k_=>some k_=(.slice Og oz.length Oh:Value).ownBlock) (.slice Og oz.length Oh) oz uG sp sq w _ ?aZ ?ae A47.out).mono ?_
      (case aZ=>repeat(first|(with_reducible first|exact HB.out|apply mr|apply qS|apply j7|refine fJ ?_ fu.out|refine fJ ?_ iW.out|refine fJ ?_ jQ.out|refine fJ ?_ lG.out)|exact HB.out));(case ae=>exact Kd.vu rfl iN.out);rintro e w54 ⟨xL,xM,rfl,ho0,ho1,hb,hkp⟩;refine⟨_,rfl, ?_⟩;replace fK:=Ah (Kd.ax (ok':=fun k_=>True) (Kd.zZ ((Kd.Dz fK.out (Kd.lN iN.out) (by decide))) hkp (fun k_ dg hs_=>(dg.2) hs_)) (fun k_ dg=>trivial));replace cF:=Ah (nh (bk cF) hkp (fun hs_=>(fun e_=>(Kd.dX iN.out cF.out (by decide)) e_) hs_));replace bh:=Ah (nh (bk bh) hkp (fun hs_=>(fun e_=>(Kd.dX iN.out bh.out (by decide)) e_) hs_));replace eN:=Ah (nh (bk eN) hkp (fun hs_=>(fun e_=>(Kd.dX iN.out eN.out (by decide)) e_) hs_));have pT:=Ah (Kd.ax (ok':=fun k_=>some k_≠(xM:Value).ownBlock∧k_≠ob) ho0 (fun k_ dg=>⟨dg.2,Or.elim dg.1 (fun hs_=>fun e_=>(Kd.jL iN.out (fun _ hk=>hk.2)) (by rw[←e_];exact hs_)) (fun uS=>(Kd.jm (bk dp) k_ uS))⟩));have pU:=Ah (Kd.ax (ok':=fun k_=>some k_≠(xL:Value).ownBlock∧k_≠ob) ho1 (fun k_ dg=>⟨dg.2,Or.elim dg.1 (fun hs_=>fun e_=>(Kd.jL iN.out (fun _ hk=>hk.2)) (by rw[←e_];exact hs_)) (fun uS=>(Kd.jm (bk dp) k_ uS))⟩));replace dp:=Ah (nh (bk dp) hkp (fun hs_=>(fun e_=>(Kd.jL iN.out (fun _ hk=>hk.2)) e_) hs_));replace HB:=Ah (hb);clear iN;(try clear hb);(try clear hkp);(try clear ho0);(try clear ho1);refine hK.out _ _ ⟨(aE cF.out 0).trans rfl,(aE cF.out 1).trans rfl,(aE cF.out 2).trans rfl⟩ (fun hHeld=> ?_);clear hK K;refine nq 42 ?_;refine fv (i:=7) (N:=some 10) #[true,true,true,true,true,true,true,true,false] rfl rfl (gJ aI.out (by kernel_rfl)) (by decide) (fun K hK=> ?_);refine yG ?hg (N:=10) ?hd (cs:= #[.int .i64 0,.slice none 0 0,.slice none 0 0]) (t:=26) ?hr ?_;(case hd=>rfl);(case hg=>rfl);(case hr=>first|(go_simp;done)|(go_simp;rfl));intro gM hg w55 hbox hb;replace fK:=Ah (Kd.b9 (rr fK.out) hb);replace pT:=Ah (Kd.b9 (rr pT.out) hb);replace pU:=Ah (Kd.b9 (rr pU.out) hb);have gN:=Ah (hbox);have Il:=gw hg (bq HB fu iW jQ lG);have qD:=gw hg (bq HB fu iW jQ lG);replace HB:=Ah (aH (bq HB fu iW jQ lG) hb);have jJ:=nn cF hg;have vo:=nm cF hg;replace cF:=Ah (bb cF hb);have tK:=nn dp hg;have vp:=nm dp hg;replace dp:=Ah (bb dp hb);have tL:=nn bh hg;have vq:=nm bh hg;replace bh:=Ah (bb bh hb);have tM:=nn eN hg;have vr:=nm eN hg;replace eN:=Ah (bb eN hb);clear hb hbox hg;refine hK.out _ _ ⟨(aE cF.out 0).trans rfl,(aE cF.out 1).trans rfl,(aE cF.out 2).trans rfl⟩ (fun hHeld=> ?_);clear hK K;refine nq 10 ?_;exact px (by simp only[mu,Act.put,Ok,bD,ck]) (hCont (.slice Og oz.length Oh,xL,xM,gM) _ ⟨hHeld,(rr pT.out),(rr pU.out),(rr fK.out),(bk cF),(bk dp),(bk bh),(bk eN),(bk gN),Il.out,qD.out,jJ.out,vo.out,tK.out,vp.out,tL.out,vq.out,tM.out,vr.out,(xX HB fu iW jQ lG qD)⟩)
     ·
      skip
      refine yG ?hg (N:=10) ?hd (cs:= #[.int .i64 0,.slice none 0 0,.slice none 0 0]) (t:=26) ?hr ?_;(case hd=>rfl);(case hg=>rfl);(case hr=>first|(go_simp;done)|(go_simp;rfl));intro gM hg w53 hbox hb;replace fK:=Ah (Kd.b9 (rr fK.out) hb);replace iN:=Ah (Kd.b9 (rr iN.out) hb);have gN:=Ah (hbox);have Il:=gw hg (bq HB fu iW jQ lG);have qD:=gw hg (bq HB fu iW jQ lG);replace HB:=Ah (aH (bq HB fu iW jQ lG) hb);have jJ:=nn cF hg;have vo:=nm cF hg;replace cF:=Ah (bb cF hb);have tK:=nn dp hg;have vp:=nm dp hg;replace dp:=Ah (bb dp hb);have tL:=nn bh hg;have vq:=nm bh hg;replace bh:=Ah (bb bh hb);have tM:=nn eN hg;have vr:=nm eN hg;replace eN:=Ah (bb eN hb);clear hb hbox hg;obtain⟨Aq,Ar,Oj⟩:=Kd.az iN.out;(first|subst Oj|(injection Oj with cR dw cS;have dx:=cR.symm;have dy:=cS.symm;clear cR dw cS;subst dx;subst dy));refine hK.out _ _ ⟨(aE cF.out 0).trans rfl,(aE cF.out 1).trans rfl,(aE cF.out 2).trans rfl⟩ (fun hHeld=> ?_);clear hK K;refine nq 10 ?_;refine fv (i:=6) (N:=some 42) #[true,true,true,true,true,true,true,true,false] rfl rfl (gJ aI.out (by kernel_rfl)) (by decide) (fun K hK=> ?_);refine gZ Try.func41 (by kernel_rfl) rfl #[.int .i64 aA,.slice Aq oz.length Ar] (by rfl) rfl rfl (by(try simp only[dl,dV,lK]);first|done|rfl|(simp only[SI,Ja];rfl)) ?_
      with_reducible refine(xw.calls aA (fun k_=>some k_=(.slice Aq oz.length Ar:Value).ownBlock) (.slice Aq oz.length Ar) oz uG sp sq w _ ?aZ ?ae A47.out).mono ?_
      (case aZ=>repeat(first|(with_reducible first|exact HB.out|apply mr|apply qS|apply j7|refine fJ ?_ fu.out|refine fJ ?_ iW.out|refine fJ ?_ jQ.out|refine fJ ?_ lG.out|refine fJ ?_ qD.out)|exact HB.out));(case ae=>exact Kd.vu rfl iN.out);rintro e w55 ⟨xL,xM,rfl,ho0,ho1,hb,hkp⟩;refine⟨_,rfl, ?_⟩;replace fK:=Ah (Kd.ax (ok':=fun k_=>True) (Kd.zZ ((Kd.Dz fK.out (Kd.lN iN.out) (by decide))) hkp (fun k_ dg hs_=>(dg.2) hs_)) (fun k_ dg=>trivial));replace cF:=Ah (nh (bk cF) hkp (fun hs_=>(fun e_=>(Kd.dX iN.out cF.out (by decide)) e_) hs_));replace bh:=Ah (nh (bk bh) hkp (fun hs_=>(fun e_=>(Kd.dX iN.out bh.out (by decide)) e_) hs_));replace eN:=Ah (nh (bk eN) hkp (fun hs_=>(fun e_=>(Kd.dX iN.out eN.out (by decide)) e_) hs_));replace gN:=Ah (nh (bk gN) hkp (fun hs_=>(fun e_=>(Kd.dX iN.out gN.out (by decide)) e_) hs_));have pT:=Ah (Kd.ax (ok':=fun k_=>some k_≠(xM:Value).ownBlock∧k_≠ob) ho0 (fun k_ dg=>⟨dg.2,Or.elim dg.1 (fun hs_=>fun e_=>(Kd.jL iN.out (fun _ hk=>hk.2)) (by rw[←e_];exact hs_)) (fun uS=>(Kd.jm (bk dp) k_ uS))⟩));have pU:=Ah (Kd.ax (ok':=fun k_=>some k_≠(xL:Value).ownBlock∧k_≠ob) ho1 (fun k_ dg=>⟨dg.2,Or.elim dg.1 (fun hs_=>fun e_=>(Kd.jL iN.out (fun _ hk=>hk.2)) (by rw[←e_];exact hs_)) (fun uS=>(Kd.jm (bk dp) k_ uS))⟩));replace dp:=Ah (nh (bk dp) hkp (fun hs_=>(fun e_=>(Kd.jL iN.out (fun _ hk=>hk.2)) e_) hs_));replace HB:=Ah (hb);clear iN;(try clear hb);(try clear hkp);(try clear ho0);(try clear ho1);refine hK.out _ _ ⟨(aE cF.out 0).trans rfl,(aE cF.out 1).trans rfl,(aE cF.out 2).trans rfl⟩ (fun hHeld=> ?_);clear hK K;refine nq 42 ?_;exact px (by simp only[mu,Act.put,Ok,bD,ck]) (hCont (.slice Aq oz.length Ar,xL,xM,gM) _ ⟨hHeld,(rr pT.out),(rr pU.out),(rr fK.out),(bk cF),(bk dp),(bk bh),(bk eN),(bk gN),Il.out,qD.out,jJ.out,vo.out,tK.out,vp.out,tL.out,vq.out,tM.out,vr.out,(xX HB fu iW jQ lG qD)⟩)
    ·
     skip
     refine yG ?hg (N:=10) ?hd (cs:= #[.int .i64 0,.slice none 0 0,.slice none 0 0]) (t:=26) ?hr ?_;(case hd=>rfl);(case hg=>rfl);(case hr=>first|(go_simp;done)|(go_simp;rfl));intro gM hg w52 hbox hb;replace fK:=Ah (Kd.b9 (rr fK.out) hb);have gN:=Ah (hbox);have Il:=gw hg (bq HB fu iW jQ lG);have qD:=gw hg (bq HB fu iW jQ lG);replace HB:=Ah (aH (bq HB fu iW jQ lG) hb);have jJ:=nn cF hg;have vo:=nm cF hg;replace cF:=Ah (bb cF hb);have tK:=nn dp hg;have vp:=nm dp hg;replace dp:=Ah (bb dp hb);have tL:=nn bh hg;have vq:=nm bh hg;replace bh:=Ah (bb bh hb);have tM:=nn eN hg;have vr:=nm eN hg;replace eN:=Ah (bb eN hb);clear hb hbox hg;refine hK.out _ _ ⟨(aE cF.out 0).trans rfl,(aE cF.out 1).trans rfl,(aE cF.out 2).trans rfl⟩ (fun hHeld=> ?_);clear hK K;refine nq 10 ?_;refine fv (i:=5) (N:=some 41) #[true,true,true,true,true,true,false,true,false] rfl rfl (gJ aI.out (by kernel_rfl)) (by decide) (fun K hK=> ?_);refine gZ Try.func80 (by kernel_rfl) rfl #[.int .i64 aA,.func (.func 81) #[] #[.pointer (some ⟨vC,0,none⟩)]] (by rfl) rfl rfl (by(try simp only[dl,dV,lK]);first|done|rfl|(simp only[SI,Ja];rfl)) ?_
     with_reducible refine(fm.calls k1 aA vC Am ym jy oz _ ?aZ ?ae ?ay A46.out).mono ?_
     (case aZ=>exact jF fK);(case ae=>exact(Kd.aY fK.out).2.1);(case ay=>exact bk eN);rintro e w53 ⟨v590,rfl,ho0,hb⟩;refine⟨_,rfl, ?_⟩;replace fK:=Ah (Kd.b9 (rr fK.out) hb);have iN:=Ah (Kd.bR (Kd.kd ho0 (g:=ob) (o:= .cells #[.int .i64 aN,.int .i64 aQ] 45 (0,0)) (bk dp)) (bE (xX HB fu iW jQ lG qD)));replace cF:=Ah (bb cF hb);replace dp:=Ah (bb dp hb);replace bh:=Ah (bb bh hb);replace eN:=Ah (bb eN hb);replace gN:=Ah (bb gN hb);replace HB:=Ah (aH (xX HB fu iW jQ lG qD) hb);(try clear hb);(try clear hb2);(try clear hk);(try clear hi);(try clear ho0);obtain⟨Aq,Ar,Oj⟩:=Kd.az iN.out;(first|subst Oj|(injection Oj with cR dw cS;have dx:=cR.symm;have dy:=cS.symm;clear cR dw cS;subst dx;subst dy));refine hK.out _ _ ⟨(aE cF.out 0).trans rfl,(aE cF.out 1).trans rfl,(aE cF.out 2).trans rfl⟩ (fun hHeld=> ?_);clear hK K;refine nq 41 ?_;refine fv (i:=6) (N:=some 42) #[true,true,true,true,true,true,true,true,false] rfl rfl (gJ aI.out (by kernel_rfl)) (by decide) (fun K hK=> ?_);refine gZ Try.func41 (by kernel_rfl) rfl #[.int .i64 aA,.slice Aq oz.length Ar] (by rfl) rfl rfl (by(try simp only[dl,dV,lK]);first|done|rfl|(simp only[SI,Ja];rfl)) ?_
     with_reducible refine(xw.calls aA (fun k_=>some k_=(.slice Aq oz.length Ar:Value).ownBlock) (.slice Aq oz.length Ar) oz uG sp sq w _ ?aZ ?ae A47.out).mono ?_
     (case aZ=>repeat(first|(with_reducible first|exact HB.out|apply mr|apply qS|apply j7|refine fJ ?_ fu.out|refine fJ ?_ iW.out|refine fJ ?_ jQ.out|refine fJ ?_ lG.out|refine fJ ?_ qD.out)|exact HB.out));(case ae=>exact Kd.vu rfl iN.out);rintro e w55 ⟨xL,xM,rfl,ho0,ho1,hb,hkp⟩;refine⟨_,rfl, ?_⟩;replace fK:=Ah (Kd.ax (ok':=fun k_=>True) (Kd.zZ ((Kd.Dz fK.out (Kd.lN iN.out) (by decide))) hkp (fun k_ dg hs_=>(dg.2) hs_)) (fun k_ dg=>trivial));replace cF:=Ah (nh (bk cF) hkp (fun hs_=>(fun e_=>(Kd.dX iN.out cF.out (by decide)) e_) hs_));replace bh:=Ah (nh (bk bh) hkp (fun hs_=>(fun e_=>(Kd.dX iN.out bh.out (by decide)) e_) hs_));replace eN:=Ah (nh (bk eN) hkp (fun hs_=>(fun e_=>(Kd.dX iN.out eN.out (by decide)) e_) hs_));replace gN:=Ah (nh (bk gN) hkp (fun hs_=>(fun e_=>(Kd.dX iN.out gN.out (by decide)) e_) hs_));have pT:=Ah (Kd.ax (ok':=fun k_=>some k_≠(xM:Value).ownBlock∧k_≠ob) ho0 (fun k_ dg=>⟨dg.2,Or.elim dg.1 (fun hs_=>fun e_=>(Kd.jL iN.out (fun _ hk=>hk.2)) (by rw[←e_];exact hs_)) (fun uS=>(Kd.jm (bk dp) k_ uS))⟩));have pU:=Ah (Kd.ax (ok':=fun k_=>some k_≠(xL:Value).ownBlock∧k_≠ob) ho1 (fun k_ dg=>⟨dg.2,Or.elim dg.1 (fun hs_=>fun e_=>(Kd.jL iN.out (fun _ hk=>hk.2)) (by rw[←e_];exact hs_)) (fun uS=>(Kd.jm (bk dp) k_ uS))⟩));replace dp:=Ah (nh (bk dp) hkp (fun hs_=>(fun e_=>(Kd.jL iN.out (fun _ hk=>hk.2)) e_) hs_));replace HB:=Ah (hb);clear iN;(try clear hb);(try clear hkp);(try clear ho0);(try clear ho1);refine hK.out _ _ ⟨(aE cF.out 0).trans rfl,(aE cF.out 1).trans rfl,(aE cF.out 2).trans rfl⟩ (fun hHeld=> ?_);clear hK K;refine nq 42 ?_;exact px (by simp only[mu,Act.put,Ok,bD,ck]) (hCont (.slice Aq oz.length Ar,xL,xM,gM) _ ⟨hHeld,(rr pT.out),(rr pU.out),(rr fK.out),(bk cF),(bk dp),(bk bh),(bk eN),(bk gN),Il.out,qD.out,jJ.out,vo.out,tK.out,vp.out,tL.out,vq.out,tM.out,vr.out,(xX HB fu iW jQ lG qD)⟩)
   rintro⟨v590,xL,xM,gM⟩ qo ⟨l5,gB,fa,gC,gD,gE,hO,iP,kK,me,mf,mV,mW,mX,o8,qH,sr,DA,h17_,h18_⟩;have pT:Z (Kd.R aT 45 qo w.heap.size (fun k_=>some k_≠(xM:Value).ownBlock∧k_≠ob) xL sp):=⟨gB⟩;have pU:Z (Kd.R aT 45 qo w.heap.size (fun k_=>some k_≠(xL:Value).ownBlock∧k_≠ob) xM sq):=⟨fa⟩;replace fK:Z (Kd.R Kd.bool 4 qo w.heap.size (fun _=>True) (.slice Am jy.length ym) jy):=⟨gC⟩;replace cF:Z (qo.heap[lF]?=some (.cells #[.int .i64 aA,.slice af X.length aa,.slice ab aC.length ac] 26 (0,0))):=⟨gD⟩;replace dp:Z (qo.heap[ob]?=some (.cells #[.int .i64 aN,.int .i64 aQ] 45 (0,0))):=⟨gE⟩;replace bh:Z (qo.heap[qd]?=some (.cells #[.int .i64 K7,.slice none 0 0,.slice none 0 0] 26 (0,0))):=⟨hO⟩;replace eN:Z (qo.heap[vC]?=some (.cells #[.slice Am jy.length ym] 30 (0,0))):=⟨iP⟩;have gN:Z (qo.heap[gM]?=some (.cells #[.int .i64 0,.slice none 0 0,.slice none 0 0] 26 (0,0))):=⟨kK⟩;have Il:Z (w.heap.size≤gM):=⟨me⟩;have qD:Z (w.heap.size≤gM):=⟨mf⟩;have jJ:Z (lF≠gM):=⟨mV⟩;have vo:Z (gM≠lF):=⟨mW⟩;have tK:Z (ob≠gM):=⟨mX⟩;have vp:Z (gM≠ob):=⟨o8⟩;have tL:Z (qd≠gM):=⟨qH⟩;have vq:Z (gM≠qd):=⟨sr⟩;have tM:Z (vC≠gM):=⟨DA⟩;have vr:Z (gM≠vC):=⟨h17_⟩;replace HB:Z (Below w.heap.size w qo):=⟨h18_⟩;clear gB fa gC gD gE hO iP kK me mf mV mW mX o8 qH sr DA h17_ h18_;have hHeld:qo.cell? ⟨lF,0,none⟩=some (.int .i64 aA)∧qo.cell? ⟨lF,1,none⟩=some (.slice af X.length aa)∧qo.cell? ⟨lF,2,none⟩=some (.slice ab aC.length ac):=l5;obtain⟨yl,xC,Tv⟩:=Kd.az pT.out;(first|subst Tv|(injection Tv with cR dw cS;have dx:=cR.symm;have dy:=cS.symm;clear cR dw cS;subst dx;subst dy));obtain⟨DB,DC,UA⟩:=Kd.az pU.out;(first|subst UA|(injection UA with cR dw cS;have dx:=cR.symm;have dy:=cS.symm;clear cR dw cS;subst dx;subst dy));refine px (a':= ?_) ?_ ?_;rotate_left
   ·
    simp only[mu,Act.put,Ok,bD,ck]
    rfl
   refine fv (i:=8) (N:=none) #[true,true,true,true,true,true,true,true,true] rfl rfl (gJ aI.out (by kernel_rfl)) (by decide) (fun K hK=> ?_);have hs57:qo.cell? ⟨gM,0,none⟩=some (.int .i64 0):=(aE gN.out 0).trans rfl;have hfs57:=fE gN.out 0;have hns57_0:=jJ.out;have hns57_1:=tK.out;have hns57_2:=tL.out;have hns57_3:=tM.out;have hms57_0:=vo.out;have hms57_1:=vp.out;have hms57_2:=vq.out;have hms57_3:=vr.out;have hs59:qo.cell? ⟨gM,1,none⟩=some (.slice none 0 0):=(aE gN.out 1).trans rfl;have hfs59:=fE gN.out 1;have hns59_0:=jJ.out;have hns59_1:=tK.out;have hns59_2:=tL.out;have hns59_3:=tM.out;have hms59_0:=vo.out;have hms59_1:=vp.out;have hms59_2:=vq.out;have hms59_3:=vr.out;have hs61:qo.cell? ⟨gM,2,none⟩=some (.slice none 0 0):=(aE gN.out 2).trans rfl;have hfs61:=fE gN.out 2;have hns61_0:=jJ.out;have hns61_1:=tK.out;have hns61_2:=tL.out;have hns61_3:=tM.out;have hms61_0:=vo.out;have hms61_1:=vp.out;have hms61_2:=vq.out;have hms61_3:=vr.out;have H:=H_.out;clear H_
   by_cases c49:a0T=true
   rotate_left
   ·
    replace c49:=PT.mpr c49;subst c49;rw[if_neg dr]at H;simp only[Jh,Ue]at H;obtain⟨rfl,rfl,rfl,rfl⟩:=H;refine CY (w1:= ?_) (by rfl) rfl ?_ ?_;rotate_left
    ·
     go_simp
     rfl
    refine hK.out _ _ ⟨((aW (p:=⟨gM,_,none⟩) jJ.out _).trans (((aW (p:=⟨gM,_,none⟩) jJ.out _).trans (((aW (p:=⟨gM,_,none⟩) jJ.out _).trans (hHeld.1)))))),((aW (p:=⟨gM,_,none⟩) jJ.out _).trans (((aW (p:=⟨gM,_,none⟩) jJ.out _).trans (((aW (p:=⟨gM,_,none⟩) jJ.out _).trans (hHeld.2.1)))))),((aW (p:=⟨gM,_,none⟩) jJ.out _).trans (((aW (p:=⟨gM,_,none⟩) jJ.out _).trans (((aW (p:=⟨gM,_,none⟩) jJ.out _).trans (hHeld.2.2))))))⟩ (fun hHeld=> ?_);clear hK K;refine jn (kO aI.out (by kernel_rfl)) ?_;have hnb85:=vo.out;have hnc85:=jJ.out;have hnb86:=vp.out;have hnc86:=tK.out;have hnb87:=vq.out;have hnc87:=tL.out;have hnb88:=vr.out;have hnc88:=tM.out;obtain⟨hcz89_0,hcz89_1,hcz89_2⟩:=dE gN;obtain⟨hfz89_0,hfz89_1,hfz89_2⟩:=dF gN
    try go_wp2_with (first|((with_reducible refine bY (f:=61) rfl ?_);refine gL (some 44) rfl rfl abr (by kernel_rfl) rfl #[.agg #[.int .i64 uG,.slice yl sp.length xC,.slice DB sq.length DC]] rfl ?_;(with_reducible refine(cV.calls k1 uG _ _ sp _ _ sq false _ ?aZ ?ae ?ay ?bI A48.out).mono ?_);(case aZ=>exact rc pT gN);(case ae=>exact(Kd.aY pT.out).2.1);(case ay=>exact rc pU gN);(case bI=>exact(Kd.aY pU.out).2.1);rintro e w90 ⟨rfl,hb⟩;refine⟨_,rfl, ?_⟩;replace fK:=nf fK gN hb;replace pT:=nf pT gN hb;replace pU:=nf pU gN hb;replace cF:=Ah (bT (bf cF jJ) hb);replace dp:=Ah (bT (bf dp tK) hb);replace bh:=Ah (bT (bf bh tL) hb);replace eN:=Ah (bT (bf eN tM) hb);replace gN:=Ah (bT (g:=gM) (o:= .cells #[.int .i64 uG,.slice yl sp.length xC,.slice DB sq.length DC] 26 (0,0)) (pb gN) hb);replace HB:=Ah (aH (xX HB fu iW jQ lG qD) hb);(try clear hb);have hnb91:=Qd.out;have hnc91:=Qc.out;have Sn:=K5.out;have So:=K4.out;have hnb93:=Gu.out;have hnc93:=K6.out;obtain⟨hcz94_0,hcz94_1,hcz94_2⟩:=dE bh;obtain⟨hfz94_0,hfz94_1,hfz94_2⟩:=dF bh))
    refine bodyPost_ret (iU rfl _ _ qd 26 #[.int .i64 0,.slice none 0 0,.slice none 0 0] (0,0) _ rfl (pb bh) ig rfl (by kernel_rfl)) rfl ?_;exact⟨_,_,er,by first|exact Kd.be _ _ _ _ _|exact Kd.ce _ _ _ _ _|exact Kd.cf _ _ _ _ _|exact Kd.cZ _ _ _ _ _|exact Kd.ca _ _ _ _ _,by first|exact Kd.be _ _ _ _ _|exact Kd.ce _ _ _ _ _|exact Kd.cf _ _ _ _ _|exact Kd.cZ _ _ _ _ _|exact Kd.ca _ _ _ _ _,xX HB fu iW jQ lG qD⟩
   subst c49;rw[if_pos rfl]at H;simp only[Jh,Ue]at H;obtain⟨rfl,rfl,rfl,rfl⟩:=H;refine CY (w1:= ?_) (by rfl) rfl ?_ ?_;rotate_left
   ·
    go_simp
    rfl
   refine hK.out _ _ ⟨((aW (p:=⟨gM,_,none⟩) jJ.out _).trans (((aW (p:=⟨gM,_,none⟩) jJ.out _).trans (((aW (p:=⟨gM,_,none⟩) jJ.out _).trans (hHeld.1)))))),((aW (p:=⟨gM,_,none⟩) jJ.out _).trans (((aW (p:=⟨gM,_,none⟩) jJ.out _).trans (((aW (p:=⟨gM,_,none⟩) jJ.out _).trans (hHeld.2.1)))))),((aW (p:=⟨gM,_,none⟩) jJ.out _).trans (((aW (p:=⟨gM,_,none⟩) jJ.out _).trans (((aW (p:=⟨gM,_,none⟩) jJ.out _).trans (hHeld.2.2))))))⟩ (fun hHeld=> ?_);clear hK K;refine jn (kO aI.out (by kernel_rfl)) ?_;have MM:=vo.out;have MN:=jJ.out;have hnb63:=vp.out;have hnc63:=tK.out;have hnb64:=vq.out;have hnc64:=tL.out;have hnb65:=vr.out;have hnc65:=tM.out;obtain⟨RU,RV,hcz66_2⟩:=dE gN;obtain⟨RW,RX,hfz66_2⟩:=dF gN
   try go_wp2_with (first|((with_reducible refine bY (f:=61) rfl ?_);refine gL (some 44) rfl rfl abr (by kernel_rfl) rfl #[.agg #[.int .i64 uG,.slice yl sp.length xC,.slice DB sq.length DC]] rfl ?_;(with_reducible refine(cV.calls k1 uG _ _ sp _ _ sq true _ ?aZ ?ae ?ay ?bI A48.out).mono ?_);(case aZ=>exact rc pT gN);(case ae=>exact(Kd.aY pT.out).2.1);(case ay=>exact rc pU gN);(case bI=>exact(Kd.aY pU.out).2.1);rintro e w67 ⟨rfl,hb⟩;refine⟨_,rfl, ?_⟩;replace fK:=nf fK gN hb;replace pT:=nf pT gN hb;replace pU:=nf pU gN hb;replace cF:=Ah (bT (bf cF jJ) hb);replace dp:=Ah (bT (bf dp tK) hb);replace bh:=Ah (bT (bf bh tL) hb);replace eN:=Ah (bT (bf eN tM) hb);replace gN:=Ah (bT (g:=gM) (o:= .cells #[.int .i64 uG,.slice yl sp.length xC,.slice DB sq.length DC] 26 (0,0)) (pb gN) hb);replace HB:=Ah (aH (xX HB fu iW jQ lG qD) hb);(try clear hb);obtain⟨hcz68_0,hcz68_1,hcz68_2⟩:=dE gN;obtain⟨hfz68_0,hfz68_1,hfz68_2⟩:=dF gN;have Yh:=Qd.out;have Yi:=Qc.out;have hnb70:=K5.out;have hnc70:=K4.out;have T3:=Gu.out;have T4:=K6.out;obtain⟨hcz72_0,hcz72_1,hcz72_2⟩:=dE bh;obtain⟨hfz72_0,hfz72_1,hfz72_2⟩:=dF bh))
   refine bodyPost_ret (iU rfl _ _ qd 26 #[.int .i64 uG,.slice yl sp.length xC,.slice DB sq.length DC] (0,0) _ rfl (pb bh) ig rfl (by kernel_rfl)) rfl ?_;exact⟨_,_,er,by(with_reducible repeat(first|apply Kd.bd|apply Kd.bZ|apply Kd.bQ));exact Kd.ax (Kd.aK (p:=⟨qd,2,none⟩) (Kd.aK (p:=⟨qd,1,none⟩) (Kd.aK (p:=⟨qd,0,none⟩) (Kd.dU pT.out bh.out (by decide)) (fun _ hk=>hk.2) (.int .i64 uG)) (fun _ hk=>hk.2) (.slice yl sp.length xC)) (fun _ hk=>hk.2) (.slice DB sq.length DC)) (fun _ hk=>hk.1.1),by(with_reducible repeat(first|apply Kd.bd|apply Kd.bZ|apply Kd.bQ));exact Kd.ax (Kd.aK (p:=⟨qd,2,none⟩) (Kd.aK (p:=⟨qd,1,none⟩) (Kd.aK (p:=⟨qd,0,none⟩) (Kd.dU pU.out bh.out (by decide)) (fun _ hk=>hk.2) (.int .i64 uG)) (fun _ hk=>hk.2) (.slice yl sp.length xC)) (fun _ hk=>hk.2) (.slice DB sq.length DC)) (fun _ hk=>hk.1.1),xX HB fu iW jQ lG qD⟩
def qr.f(k:Nat)(aA:Int)(X:List (Y))(aC:List (Y))(aN:Int)(aQ:Int):Option (Int×(List (Y))×(List (Y))×Bool):=(cV.f k aA X aC).bind fun Ol=>(if Ol=true then((n5.f aN aQ aA).bind fun Om=>(if Om=true then((fo.f k aA X aC aN aQ true).bind fun AV=>(some (AV.1,AV.2.1,AV.2.2.1,AV.2.2.2)))else(some (0,([]:List (Y)),([]:List (Y)),false))))else(some (0,([]:List (Y)),([]:List (Y)),false)))
theorem qr.mono:∀a0 a1 a2 a3 a4 k,aG (qr.f k a0 a1 a2 a3 a4) (qr.f (k+1) a0 a1 a2 a3 a4):=by
 intro a0 a1 a2 a3 a4 k;unfold qr.f
 repeat' with_reducible first|exact fo.mono _ _ _ _ _ _ _|exact cV.mono _ _ _ _|exact aG.refl _|exact aG.none _|refine aG.ite ?_ ?_|refine aG.bind ?_ (fun _=> ?_)
theorem qr.calls(k:Nat)(aA:Int)(af:Option Addr)(aa:Nat)(X:List (Y))(ab:Option Addr)(ac:Nat)(aC:List (Y))(aN:Int)(aQ:Int)(r1:Int)(r2:List (Y))(r3:List (Y))(r4:Bool)(w:World)(dO:Kd.C aT w af X.length X)(dP:X.length≤aa)(dQ:Kd.C aT w ab aC.length aC)(dR:aC.length≤ac)(h:qr.f k aA X aC aN aQ=some (r1,r2,r3,r4)):
 Calls Try.prog 47 #[.agg #[.int .i64 aA,.slice af X.length aa,.slice ab aC.length ac],.agg #[.int .i64 aN,.int .i64 aQ]] w fun e w'=>∃df da:Value,e= .returned (.tuple #[.agg #[.int .i64 r1,df,da],.bool r4])∧Kd.R aT 45 w' w.heap.size (fun k_=>some k_≠(da:Value).ownBlock) df r2∧Kd.R aT 45 w' w.heap.size (fun k_=>some k_≠(df:Value).ownBlock) da r3∧Below w.heap.size w w':=by
 have mL:=ig;have jT:=fk;have bo:=Ah dO;have cU:=Ah dP;clear dO dP;have cn:=Ah dQ;have co:=Ah dR;clear dQ dR;have HB:=Ah (Ud w.heap.size w);have H:((cV.f k aA X aC).bind fun Ol=>(if Ol=true then((n5.f aN aQ aA).bind fun Om=>(if Om=true then((fo.f k aA X aC aN aQ true).bind fun AV=>(some (AV.1,AV.2.1,AV.2.2.1,AV.2.2.2)))else(some (0,([]:List (Y)),([]:List (Y)),false))))else(some (0,([]:List (Y)),([]:List (Y)),false))))=some (r1,r2,r3,r4):=h;clear h;replace H:=Gl.mp H;obtain⟨Ol,dj,H⟩:=H
 try dsimp only at H
 have A3:=Ah dj;clear dj
 by_cases c4:Ol=true
 rotate_left
 ·
  replace c4:=PT.mpr c4;subst c4;rw[if_neg dr]at H;simp only[Jh,Ue]at H;obtain⟨rfl,rfl,rfl,rfl⟩:=H
  go_enter Try.func47,Try.ntmps47
  go_wp2_with (first|((with_reducible refine ag (N:=2) rfl ?_);refine an 2 26 #[.int .i64 aA,.slice af X.length aa,.slice ab aC.length ac] ?_;intro gb601 hg mc eS hb;have GW601:=gw hg (bs HB);have jR:=gw hg (bs HB);replace HB:=Ah (aH (bs HB) hb);clear hb hg)|((with_reducible refine ag (N:=3) rfl ?_);refine an 3 45 #[.int .i64 aN,.int .i64 aQ] ?_;intro TK hg DU iX hb;have GW602:=gw hg (aM HB jR);have my:=gw hg (aM HB jR);replace HB:=Ah (aH (aM HB jR) hb);have K8:=nn eS hg;have K9:=nm eS hg;replace eS:=nb eS hb;clear hb hg)|((with_reducible refine ag (N:=4) rfl ?_);refine an 4 26 #[.int .i64 0,.slice none 0 0,.slice none 0 0] ?_;intro wg hg Pr lQ hb;have GW603:=gw hg (am HB jR my);have tr:=gw hg (am HB jR my);replace HB:=Ah (aH (am HB jR my) hb);have KA:=nn eS hg;have KB:=nm eS hg;replace eS:=nb eS hb;have KC:=nn iX hg;have KD:=nm iX hg;replace iX:=nb iX hb;clear hb hg;have Ey:=K8.out;have Ez:=K9.out;have MJ:=KA.out;have MK:=KB.out;obtain⟨Rb,Rc,XE⟩:=dE eS;obtain⟨Rd,Re,XF⟩:=dF eS)|((with_reducible refine bY (f:=61) rfl ?_);refine gL (some 7) rfl rfl abr (by kernel_rfl) rfl #[.agg #[.int .i64 aA,.slice af X.length aa,.slice ab aC.length ac]] rfl ?_;(with_reducible refine(cV.calls k aA _ _ X _ _ aC false _ ?aZ ?ae ?ay ?bI A3.out).mono ?_);(case aZ=>exact cb bo HB);(case ae=>exact cU.out);(case ay=>exact cb cn HB);(case bI=>exact co.out);rintro e w43 ⟨rfl,hb⟩;refine⟨_,rfl, ?_⟩;replace eS:=nb eS hb;replace iX:=nb iX hb;replace lQ:=nb lQ hb;replace HB:=Ah (aH (aw HB jR my tr) hb);(try clear hb);have Yc:=KD.out;have Yd:=KC.out;obtain⟨HM,HU,HV⟩:=dE lQ;obtain⟨HZ,Ha,Hb⟩:=dF lQ))
  refine bodyPost_ret (iU rfl _ _ wg 26 #[.int .i64 0,.slice none 0 0,.slice none 0 0] (0,0) _ rfl (pb lQ) ig rfl (by kernel_rfl)) rfl ?_;exact⟨_,_,er,by first|exact Kd.be _ _ _ _ _|exact Kd.ce _ _ _ _ _|exact Kd.cf _ _ _ _ _|exact Kd.cZ _ _ _ _ _|exact Kd.ca _ _ _ _ _,by first|exact Kd.be _ _ _ _ _|exact Kd.ce _ _ _ _ _|exact Kd.cf _ _ _ _ _|exact Kd.cZ _ _ _ _ _|exact Kd.ca _ _ _ _ _,aw HB jR my tr⟩
 subst c4;rw[if_pos rfl]at H;replace H:=Gl.mp H;obtain⟨Om,kI,H⟩:=H
 try dsimp only at H
 have A5:=Ah kI;clear kI
 by_cases c6:Om=true
 rotate_left
 ·
  replace c6:=PT.mpr c6;subst c6;rw[if_neg dr]at H;simp only[Jh,Ue]at H;obtain⟨rfl,rfl,rfl,rfl⟩:=H
  go_enter Try.func47,Try.ntmps47
  go_wp2_with (first|((with_reducible refine ag (N:=2) rfl ?_);refine an 2 26 #[.int .i64 aA,.slice af X.length aa,.slice ab aC.length ac] ?_;intro gb601 hg ek eS hb;have GW601:=gw hg (bs HB);have jR:=gw hg (bs HB);replace HB:=Ah (aH (bs HB) hb);clear hb hg)|((with_reducible refine ag (N:=3) rfl ?_);refine an 3 45 #[.int .i64 aN,.int .i64 aQ] ?_;intro TK hg GZ iX hb;have GW602:=gw hg (aM HB jR);have my:=gw hg (aM HB jR);replace HB:=Ah (aH (aM HB jR) hb);have K8:=nn eS hg;have K9:=nm eS hg;replace eS:=nb eS hb;clear hb hg)|((with_reducible refine ag (N:=4) rfl ?_);refine an 4 26 #[.int .i64 0,.slice none 0 0,.slice none 0 0] ?_;intro wg hg BK lQ hb;have GW603:=gw hg (am HB jR my);have tr:=gw hg (am HB jR my);replace HB:=Ah (aH (am HB jR my) hb);have KA:=nn eS hg;have KB:=nm eS hg;replace eS:=nb eS hb;have KC:=nn iX hg;have KD:=nm iX hg;replace iX:=nb iX hb;clear hb hg;have hnb28:=K8.out;have hnc28:=K9.out;have hnb29:=KA.out;have hnc29:=KB.out;obtain⟨XG,XH,XI⟩:=dE eS;obtain⟨XJ,XK,XL⟩:=dF eS)|((with_reducible refine bY (f:=61) rfl ?_);refine gL (some 7) rfl rfl abr (by kernel_rfl) rfl #[.agg #[.int .i64 aA,.slice af X.length aa,.slice ab aC.length ac]] rfl ?_;(with_reducible refine(cV.calls k aA _ _ X _ _ aC true _ ?aZ ?ae ?ay ?bI A3.out).mono ?_);(case aZ=>exact cb bo HB);(case ae=>exact cU.out);(case ay=>exact cb cn HB);(case bI=>exact co.out);rintro e Px ⟨rfl,hb⟩;refine⟨_,rfl, ?_⟩;replace eS:=nb eS hb;replace iX:=nb iX hb;replace lQ:=nb lQ hb;replace HB:=Ah (aH (aw HB jR my tr) hb);(try clear hb);have MO:=KC.out;have MP:=KD.out;obtain⟨EO,EP⟩:=cg iX;obtain⟨EQ,ER⟩:=ch iX;obtain⟨RO,RP,XC⟩:=dE eS;obtain⟨RQ,RR,XD⟩:=dF eS)|(go_at_call 65;(with_reducible refine(n5.calls aN aQ aA false _ A5.out).mono ?_);rintro e Pw ⟨rfl,hb⟩;replace eS:=nb eS hb;replace iX:=nb iX hb;replace lQ:=nb lQ hb;replace HB:=Ah (aH (aw HB jR my tr) hb);(try clear hb);obtain⟨EA,EB,HL⟩:=dE lQ;obtain⟨EG,EH,HY⟩:=dF lQ))
  refine bodyPost_ret (iU rfl _ _ wg 26 #[.int .i64 0,.slice none 0 0,.slice none 0 0] (0,0) _ rfl (pb lQ) ig rfl (by kernel_rfl)) rfl ?_;exact⟨_,_,er,by first|exact Kd.be _ _ _ _ _|exact Kd.ce _ _ _ _ _|exact Kd.cf _ _ _ _ _|exact Kd.cZ _ _ _ _ _|exact Kd.ca _ _ _ _ _,by first|exact Kd.be _ _ _ _ _|exact Kd.ce _ _ _ _ _|exact Kd.cf _ _ _ _ _|exact Kd.cZ _ _ _ _ _|exact Kd.ca _ _ _ _ _,aw HB jR my tr⟩
 subst c6;rw[if_pos rfl]at H;replace H:=Gl.mp H;obtain⟨⟨UB,UC,UD,t613⟩,kJ,H⟩:=H
 try dsimp only at H
 have A7:=Ah kJ;clear kJ;simp only[Jh,Ue]at H;obtain⟨rfl,rfl,rfl,rfl⟩:=H
 go_enter Try.func47,Try.ntmps47
 go_wp2_with (first|((with_reducible refine ag (N:=2) rfl ?_);refine an 2 26 #[.int .i64 aA,.slice af X.length aa,.slice ab aC.length ac] ?_;intro gb601 hg w8 eS hb;have GW601:=gw hg (bs HB);have jR:=gw hg (bs HB);replace HB:=Ah (aH (bs HB) hb);clear hb hg)|((with_reducible refine ag (N:=3) rfl ?_);refine an 3 45 #[.int .i64 aN,.int .i64 aQ] ?_;intro TK hg w9 iX hb;have GW602:=gw hg (aM HB jR);have my:=gw hg (aM HB jR);replace HB:=Ah (aH (aM HB jR) hb);have K8:=nn eS hg;have K9:=nm eS hg;replace eS:=nb eS hb;clear hb hg)|((with_reducible refine ag (N:=4) rfl ?_);refine an 4 26 #[.int .i64 0,.slice none 0 0,.slice none 0 0] ?_;intro wg hg lp lQ hb;have GW603:=gw hg (am HB jR my);have tr:=gw hg (am HB jR my);replace HB:=Ah (aH (am HB jR my) hb);have KA:=nn eS hg;have KB:=nm eS hg;replace eS:=nb eS hb;have KC:=nn iX hg;have KD:=nm iX hg;replace iX:=nb iX hb;clear hb hg;have Sk:=K8.out;have Sl:=K9.out;have Lg:=KA.out;have Lh:=KB.out;obtain⟨oK,oL,qz⟩:=dE eS;obtain⟨oM,oN,r8⟩:=dF eS)|((with_reducible refine bY (f:=61) rfl ?_);refine gL (some 7) rfl rfl abr (by kernel_rfl) rfl #[.agg #[.int .i64 aA,.slice af X.length aa,.slice ab aC.length ac]] rfl ?_;(with_reducible refine(cV.calls k aA _ _ X _ _ aC true _ ?aZ ?ae ?ay ?bI A3.out).mono ?_);(case aZ=>exact cb bo HB);(case ae=>exact cU.out);(case ay=>exact cb cn HB);(case bI=>exact co.out);rintro e eL ⟨rfl,hb⟩;refine⟨_,rfl, ?_⟩;replace eS:=nb eS hb;replace iX:=nb iX hb;replace lQ:=nb lQ hb;replace HB:=Ah (aH (aw HB jR my tr) hb);(try clear hb);have Sq:=KC.out;have Sr:=KD.out;obtain⟨ug,uh⟩:=cg iX;obtain⟨uj,uk⟩:=ch iX;obtain⟨sO,ub,za⟩:=dE eS;obtain⟨sP,uc,zb⟩:=dF eS)|(go_at_call 65;(with_reducible refine(n5.calls aN aQ aA true _ A5.out).mono ?_);rintro e cG ⟨rfl,hb⟩;replace eS:=nb eS hb;replace iX:=nb iX hb;replace lQ:=nb lQ hb;replace HB:=Ah (aH (aw HB jR my tr) hb);(try clear hb);obtain⟨E2,E3,X8⟩:=dE eS;obtain⟨E4,E5,X9⟩:=dF eS;obtain⟨pn,po⟩:=cg iX;obtain⟨pp,pq⟩:=ch iX)|((with_reducible refine bY (f:=68) rfl ?_);refine gL (some 19) rfl rfl Try.func68 (by kernel_rfl) rfl #[.agg #[.int .i64 aA,.slice af X.length aa,.slice ab aC.length ac],.agg #[.int .i64 aN,.int .i64 aQ],.bool true] rfl ?_;(with_reducible refine(fo.calls k aA _ _ X _ _ aC aN aQ true UB UC UD t613 _ ?aZ ?ae ?ay ?bI A7.out).mono ?_);(case aZ=>exact cb bo HB);(case ae=>exact cU.out);(case ay=>exact cb cn HB);(case bI=>exact co.out);rintro e vS ⟨v608,v611,rfl,ho0,ho1,hb⟩;refine⟨_,rfl, ?_⟩;have HO609:=Ah (Kd.bR (Kd.kd ho0 (g:=TK) (o:= .cells #[.int .i64 aN,.int .i64 aQ] 45 (0,0)) (bk iX)) (bE (aw HB jR my tr)));have HO612:=Ah (Kd.bR (Kd.kd ho1 (g:=TK) (o:= .cells #[.int .i64 aN,.int .i64 aQ] 45 (0,0)) (bk iX)) (bE (aw HB jR my tr)));replace eS:=nb eS hb;replace iX:=nb iX hb;replace lQ:=nb lQ hb;replace HB:=Ah (aH (aw HB jR my tr) hb);(try clear hb ho0 ho1);obtain⟨tU,tV,ui⟩:=dE lQ;obtain⟨tW,tX,ul⟩:=dF lQ;obtain⟨Fq,Fr,Fs⟩:=Kd.az HO609.out;subst Fs;obtain⟨Ft,Fu,Fv⟩:=Kd.az HO612.out;subst Fv))
 refine bodyPost_ret (iU rfl _ _ wg 26 #[.int .i64 UB,.slice Fq UC.length Fr,.slice Ft UD.length Fu] (0,0) _ rfl (pb lQ) ig rfl (by kernel_rfl)) rfl ?_;exact⟨_,_,er,by(with_reducible repeat(first|apply Kd.bd|apply Kd.bZ|apply Kd.bQ));exact Kd.ax (Kd.aK (p:=⟨wg,2,none⟩) (Kd.aK (p:=⟨wg,1,none⟩) (Kd.aK (p:=⟨wg,0,none⟩) (Kd.dU HO609.out lQ.out (by decide)) (fun _ hk=>hk.2) (.int .i64 UB)) (fun _ hk=>hk.2) (.slice Fq UC.length Fr)) (fun _ hk=>hk.2) (.slice Ft UD.length Fu)) (fun _ hk=>hk.1.1),by(with_reducible repeat(first|apply Kd.bd|apply Kd.bZ|apply Kd.bQ));exact Kd.ax (Kd.aK (p:=⟨wg,2,none⟩) (Kd.aK (p:=⟨wg,1,none⟩) (Kd.aK (p:=⟨wg,0,none⟩) (Kd.dU HO612.out lQ.out (by decide)) (fun _ hk=>hk.2) (.int .i64 UB)) (fun _ hk=>hk.2) (.slice Fq UC.length Fr)) (fun _ hk=>hk.2) (.slice Ft UD.length Fu)) (fun _ hk=>hk.1.1),aw HB jR my tr⟩
mutual
def fb.j0:Nat→List (aJ)→Bool→Int→List (Y)→List (Y)→Int→List (aJ)→Option (Int×(List (Y))×(List (Y))×Int×(List (aJ))×Bool)
 |0,_,_,_,_,_,_,_=>none
 |k+1,x6,x24,x615000,x615001,x615002,x615003,x615004=>if x24=true then(some (0,([]:List (Y)),([]:List (Y)),0,([]:List (aJ)),false))else((kZ.f x615000 x615001 x615002).bind fun Z7=>(fb.l0 k x6 (x6.length:Int) 0 Z7.1 Z7.2.1 Z7.2.2))
def fb.l0:Nat→List (aJ)→Int→Int→Int→List (Y)→List (Y)→Option (Int×(List (Y))×(List (Y))×Int×(List (aJ))×Bool)
 |0,_,_,_,_,_,_=>none
 |k+1,x29,x30,x31,x629000,x629001,x629002=>if x31<x30 then(if 0≤x31 then(if x31<(x29.length:Int)then((qr.f k x629000 x629001 x629002 ((U x29 x31).f2.f0) ((U x29 x31).f2.f1)).bind fun TL=>(if TL.2.2.2=true then(fb.l0 k x29 x30 (Gj (x31+1)) TL.1 TL.2.1 TL.2.2.1)else(some (0,([]:List (Y)),([]:List (Y)),0,([]:List (aJ)),false))))else(none))else(none))else(some (x629000,x629001,x629002,1,([]:List (aJ)),true))
end
def fb.f(k:Nat)(aA:Int)(X:List (Y))(aC:List (Y))(aV:Int)(aU:List (aJ))(l1:List (aJ)):Option (Int×(List (Y))×(List (Y))×Int×(List (aJ))×Bool):=(d9.f k aA X aC l1).bind fun F1=>(if F1.2=true then((gH.f k aA X aC aV aU).bind fun JE=>(fb.j0 k F1.1 (!JE) aA X aC aV aU))else(fb.j0 k F1.1 true aA X aC aV aU))
theorem fb.cQ:∀k,(∀y0 y1 y2 y3 y4 y5 y6,aG (fb.j0 k y0 y1 y2 y3 y4 y5 y6) (fb.j0 (k+1) y0 y1 y2 y3 y4 y5 y6))∧(∀y0 y1 y2 y3 y4 y5,aG (fb.l0 k y0 y1 y2 y3 y4 y5) (fb.l0 (k+1) y0 y1 y2 y3 y4 y5))
 |0=>⟨fun _ _ _ _ _ _ _ r h=>by simp[fb.j0]at h,fun _ _ _ _ _ _ r h=>by simp[fb.l0]at h⟩
 |k+1=>by
  obtain⟨bS,ih1⟩:=fb.cQ k
  refine⟨?_, ?_⟩<;>intros<;>first|unfold fb.j0|unfold fb.l0
  all_goals repeat' first
   |(with_reducible exact bS _ _ _ _ _ _ _)
   |(with_reducible exact ih1 _ _ _ _ _ _)
   |(with_reducible exact qr.mono _ _ _ _ _ _)
   |(with_reducible exact gH.mono _ _ _ _ _ _)
   |(with_reducible exact d9.mono _ _ _ _ _)
   |(with_reducible exact aG.refl _)
   |(with_reducible exact aG.none _)
   |(with_reducible refine aG.ite ?_ ?_)
   |(with_reducible refine aG.bind ?_ (fun _=> ?_))
   |exact bS _ _ _ _ _ _ _
   |exact ih1 _ _ _ _ _ _
   |exact qr.mono _ _ _ _ _ _
   |exact gH.mono _ _ _ _ _ _
   |exact d9.mono _ _ _ _ _
   |exact aG.none _
   |refine aG.ite ?_ ?_
   |refine aG.bind ?_ (fun _=> ?_)
theorem fb.mono:∀a0 a1 a2 a3 a4 a5 k,aG (fb.f k a0 a1 a2 a3 a4 a5) (fb.f (k+1) a0 a1 a2 a3 a4 a5):=by
 intro a0 a1 a2 a3 a4 a5 k;obtain⟨bS,ih1⟩:=fb.cQ k;unfold fb.f
 repeat' with_reducible first|exact bS _ _ _ _ _ _ _|exact ih1 _ _ _ _ _ _|exact qr.mono _ _ _ _ _ _|exact gH.mono _ _ _ _ _ _|exact d9.mono _ _ _ _ _|exact aG.refl _|exact aG.none _|refine aG.ite ?_ ?_|refine aG.bind ?_ (fun _=> ?_)
theorem fb.calls(k:Nat)(aA:Int)(af:Option Addr)(aa:Nat)(X:List (Y))(ab:Option Addr)(ac:Nat)(aC:List (Y))(aV:Int)(bG:Option Addr)(bH:Nat)(aU:List (aJ))(A1:Option Addr)(c1:Nat)(l1:List (aJ))(r1:Int)(r2:List (Y))(r3:List (Y))(r4:Int)(r5:List (aJ))(r6:Bool)(w:World)(dO:Kd.C aT w af X.length X)(dP:X.length≤aa)(dQ:Kd.C aT w ab aC.length aC)(dR:aC.length≤ac)(gu:Kd.C b8 w bG aU.length aU)(gy:aU.length≤bH)(hr1:Kd.C b8 w A1 l1.length l1)(hc1:l1.length≤c1)(h:fb.f k aA X aC aV aU l1=some (r1,r2,r3,r4,r5,r6)):
 Calls Try.prog 25 #[.agg #[.int .i64 aA,.slice af X.length aa,.slice ab aC.length ac,.int .i64 aV,.slice bG aU.length bH],.slice A1 l1.length c1] w fun e w'=>∃df da kH:Value,e= .returned (.tuple #[.agg #[.int .i64 r1,df,da,.int .i64 r4,kH],.bool r6])∧Kd.R aT 45 w' w.heap.size (fun k_=>some k_≠(da:Value).ownBlock) df r2∧Kd.R aT 45 w' w.heap.size (fun k_=>some k_≠(df:Value).ownBlock) da r3∧Kd.R b8 66 w' w.heap.size (fun _=>True) kH r5∧Below w.heap.size w w':=by
 have sn:=cp;have mL:=ig;have u7:=aay;have jT:=fk;have bo:=Ah dO;have cU:=Ah dP;clear dO dP;have cn:=Ah dQ;have co:=Ah dR;clear dQ dR;have fF:=Ah gu;have fL:=Ah gy;clear gu gy;have HR1:=Ah hr1;have qn:=Ah hc1;clear hr1 hc1;have HB:=Ah (Ud w.heap.size w);have H:((d9.f k aA X aC l1).bind fun F1=>(if F1.2=true then((gH.f k aA X aC aV aU).bind fun JE=>(fb.j0 k F1.1 (!JE) aA X aC aV aU))else(fb.j0 k F1.1 true aA X aC aV aU)))=some (r1,r2,r3,r4,r5,r6):=h;clear h;replace H:=Gl.mp H;obtain⟨⟨gf,t619⟩,dj,H⟩:=H
 try dsimp only at H
 have A3:=Ah dj;clear dj;have Gb:=Ah H;clear H
 go_enter Try.func25,Try.ntmps25
 go_upto_region 2 with(first|((with_reducible refine ag (N:=2) rfl ?_);refine an 2 29 #[.int .i64 aA,.slice af X.length aa,.slice ab aC.length ac,.int .i64 aV,.slice bG aU.length bH] ?_;intro gb614 hg w5 hD hb;have GW614:=gw hg (bs HB);have jS:=gw hg (bs HB);replace HB:=Ah (aH (bs HB) hb);clear hb hg)|((with_reducible refine ag (N:=4) rfl ?_);refine an 4 29 #[.int .i64 0,.slice none 0 0,.slice none 0 0,.int .i64 0,.slice none 0 0] ?_;intro rM hg w6 gc hb;have GW615:=gw hg (aM HB jS);have kR:=gw hg (aM HB jS);replace HB:=Ah (aH (aM HB jS) hb);have Gv:=nn hD hg;have Gw:=nm hD hg;replace hD:=nb hD hb;clear hb hg;have hnb7:=Gv.out;have hnc7:=Gw.out;obtain⟨r9,rA,CV,ST,SU⟩:=aj hD;obtain⟨rB,rC,CW,SV,SW⟩:=ai hD)|((with_reducible refine bY (f:=44) rfl ?_);refine gL (some 15) rfl rfl Try.func44 (by kernel_rfl) rfl #[.agg #[.int .i64 aA,.slice af X.length aa,.slice ab aC.length ac],.slice A1 l1.length c1] rfl ?_;(with_reducible refine(d9.calls k aA _ _ X _ _ aC _ _ l1 gf t619 _ ?aZ ?ae ?ay ?bI ?cq ?d7 A3.out).mono ?_);(case aZ=>exact cb bo HB);(case ae=>exact cU.out);(case ay=>exact cb cn HB);(case bI=>exact co.out);(case cq=>exact cb HR1 HB);(case d7=>exact qn.out);rintro e w9 ⟨v617,rfl,ho0,hb⟩;refine⟨_,rfl, ?_⟩;have TM:=Ah (Kd.bR ho0 (bE (am HB jS kR)));replace hD:=nb hD hb;replace gc:=nb gc hb;replace HB:=Ah (aH (am HB jS kR) hb);(try clear hb ho0)))
 (try simp only[Act.put,Ok,bD,ck])
 go_cut [24] (fun v24 wc=>∃ (kq:Nat) (TN:Bool),v24= .bool TN∧Z (fb.j0 kq gf TN aA X aC aV aU=some (r1,r2,r3,r4,r5,r6))∧Z (kq≤k)∧Z (Kd.R b8 66 wc w.heap.size (fun _=>True) v617 gf)∧Z (wc.heap[gb614]?=some (.cells #[.int .i64 aA,(.slice af X.length aa),(.slice ab aC.length ac),.int .i64 aV,(.slice bG aU.length bH)] 29 (0,0)))∧Z (wc.heap[rM]?=some (.cells #[.int .i64 0,(.slice none 0 0),(.slice none 0 0),.int .i64 0,(.slice none 0 0)] 29 (0,0)))∧Z (Below w.heap.size w wc))
 case first=>
  have H:=Gb.out;clear Gb
  by_cases c10:t619=true
  rotate_left
  ·
   replace c10:=PT.mpr c10;subst c10;rw[if_neg dr]at H;have H':=Ah H;clear H
   go_wp2
   go_meet
   case rel=>exact⟨_,(true),e3,H',⟨by first|omega|exact QQ _⟩,⟨rr TM.out⟩,⟨bk hD⟩,⟨bk gc⟩,⟨am HB jS kR⟩⟩
  subst c10;rw[if_pos rfl]at H;replace H:=Gl.mp H;obtain⟨JE,O3,H⟩:=H
  try dsimp only at H
  have A11:=Ah O3;clear O3;have H':=Ah H;clear H;have Lg:=Gv.out;have Lh:=Gw.out;obtain⟨oK,oL,qz,sS,sT⟩:=aj hD;obtain⟨oM,oN,r8,sU,sV⟩:=ai hD
  go_wp2_with (first|(go_at_call 45;(with_reducible refine(gH.calls k aA _ _ X _ _ aC aV _ _ aU JE _ ?aZ ?ae ?ay ?bI ?cq ?d7 A11.out).mono ?_);(case aZ=>exact cb bo HB);(case ae=>exact cU.out);(case ay=>exact cb cn HB);(case bI=>exact co.out);(case cq=>exact cb fF HB);(case d7=>exact fL.out);rintro e eL ⟨rfl,hb⟩;replace TM:=nr TM hb;replace hD:=nb hD hb;replace gc:=nb gc hb;replace HB:=Ah (aH (am HB jS kR) hb);(try clear hb)))
  go_meet
  case rel=>exact⟨_,(!JE),e3,H',⟨by first|omega|exact QQ _⟩,⟨rr TM.out⟩,⟨bk hD⟩,⟨bk gc⟩,⟨am HB jS kR⟩⟩
 case rest=>
  clear Gb
  try clear c1
  try clear c2
  try clear p2
  try clear c4
  try clear c7
  try clear c10
  try clear c12
  try clear oK oL qz sS sT
  try clear r9 rA CV ST SU
  try clear oM oN r8 sU sV
  try clear rB rC CW SV SW
  obtain⟨kq,TN,rfl,HA,DV,bF,hD,gc,HB⟩:=hcut
  cases kq with
  |zero=>exact absurd HA.out (by simp[fb.j0])
  |succ UZ=>
   have H:=HA.out;clear HA;simp only[fb.j0]at H
   by_cases c15:TN=true
   ·
    subst c15;rw[if_pos rfl]at H;simp only[Jh,Ue]at H;obtain⟨rfl,rfl,rfl,rfl,rfl,rfl⟩:=H;have hnb16:=Gw.out;have hnc16:=Gv.out;obtain⟨sO,ub,za,W3,W4⟩:=aj gc;obtain⟨sP,uc,zb,W5,W7⟩:=ai gc
    go_wp2
    refine bodyPost_ret (iU rfl _ _ rM 29 #[.int .i64 0,.slice none 0 0,.slice none 0 0,.int .i64 0,.slice none 0 0] (0,0) _ rfl (pb gc) cp rfl (by kernel_rfl)) rfl ?_;exact⟨_,_,_,er,by first|exact Kd.be _ _ _ _ _|exact Kd.ce _ _ _ _ _|exact Kd.cf _ _ _ _ _|exact Kd.cZ _ _ _ _ _|exact Kd.ca _ _ _ _ _,by first|exact Kd.be _ _ _ _ _|exact Kd.ce _ _ _ _ _|exact Kd.cf _ _ _ _ _|exact Kd.cZ _ _ _ _ _|exact Kd.ca _ _ _ _ _,by first|exact Kd.be _ _ _ _ _|exact Kd.ce _ _ _ _ _|exact Kd.cf _ _ _ _ _|exact Kd.cZ _ _ _ _ _|exact Kd.ca _ _ _ _ _,am HB jS kR⟩
   replace c15:=PT.mpr c15;subst c15;rw[if_neg dr]at H;replace H:=Gl.mp H;obtain⟨⟨On,JF,JG⟩,Oo,H⟩:=H
   try dsimp only at H
   have JW:=Ah Oo;clear Oo;have H':=Ah H;clear H;have MB:=Gv.out;have MC:=Gw.out;obtain⟨pn,po,qY,zn,zo⟩:=aj hD;obtain⟨pp,pq,qZ,zp,zq⟩:=ai hD
   go_wp2_with (first|((with_reducible refine bY (f:=46) rfl ?_);refine gL (some 28) rfl rfl Try.func46 (by kernel_rfl) rfl #[.agg #[.int .i64 aA,.slice af X.length aa,.slice ab aC.length ac]] rfl ?_;(with_reducible refine(kZ.calls aA _ _ X _ _ aC On JF JG _ ?aZ ?ae ?ay ?bI JW.out).mono ?_);(case aZ=>exact cb bo HB);(case ae=>exact cU.out);(case ay=>exact cb cn HB);(case bI=>exact co.out);rintro e vS ⟨v623,v626,rfl,ho0,ho1,hb⟩;refine⟨_,rfl, ?_⟩;replace bF:=nr bF hb;have TO:=Ah (Kd.bR ho0 (bE (am HB jS kR)));have TP:=Ah (Kd.bR ho1 (bE (am HB jS kR)));replace hD:=nb hD hb;replace gc:=nb gc hb;replace HB:=Ah (aH (am HB jS kR) hb);(try clear hb ho0 ho1))|((with_reducible refine ag (N:=8) rfl ?_);refine an 8 26 #[.int .i64 0,.slice none 0 0,.slice none 0 0] ?_;intro oc hg DY it hb;replace bF:=nr bF hb;replace TO:=nr TO hb;replace TP:=nr TP hb;have GW628:=gw hg (am HB jS kR);have qe:=gw hg (am HB jS kR);replace HB:=Ah (aH (am HB jS kR) hb);have Gx:=nn hD hg;have Qg:=nm hD hg;replace hD:=nb hD hb;have Du:=nn gc hg;have Qh:=nm gc hg;replace gc:=nb gc hb;clear hb hg;have hnb23:=Qg.out;have hnc23:=Gx.out;have hnb24:=Qh.out;have hnc24:=Du.out;obtain⟨LC,LD,LE⟩:=dE it;obtain⟨LF,LG,LH⟩:=dF it;obtain⟨fw,fx,vM⟩:=Kd.az TO.out;subst vM;obtain⟨pa,pc,Ao⟩:=Kd.az TP.out;subst Ao;obtain⟨As,Aw,UE⟩:=Kd.az bF.out;subst UE))
   go_loopg [31] UZ (fun kq v31 w'=>∃ (g7:Int) (VN:Int) (VO:Int) (yE:Int) (sD:List (Y)) (sE:List (Y)) (Rf:Value) (Rg:Value),v31= .int .i64 g7∧Z (fb.l0 kq gf (gf.length:Int) g7 yE sD sE=some (r1,r2,r3,r4,r5,r6))∧Z (kq≤UZ)∧Z (Kd.R b8 66 w' w.heap.size (fun _=>True) (.slice As gf.length Aw) gf)∧Z (Kd.R aT 45 w' w.heap.size (fun k_=>some k_≠(Rg:Value).ownBlock) Rf sD)∧Z (Kd.R aT 45 w' w.heap.size (fun k_=>some k_≠(Rf:Value).ownBlock) Rg sE)∧Z (w'.heap[gb614]?=some (.cells #[.int .i64 aA,(.slice af X.length aa),(.slice ab aC.length ac),.int .i64 aV,(.slice bG aU.length bH)] 29 (0,0)))∧Z (w'.heap[rM]?=some (.cells #[.int .i64 VN,(.slice none 0 0),(.slice none 0 0),.int .i64 VO,(.slice none 0 0)] 29 (0,0)))∧Z (w'.heap[oc]?=some (.cells #[.int .i64 yE,Rf,Rg] 26 (0,0)))∧Z (Below w.heap.size w w'))
   case atStart=>exact⟨(0),(0),(0),(On),(JF),(JG),(.slice fw JF.length fx),(.slice pa JG.length pc),e3,H',⟨QQ _⟩,⟨by(with_reducible repeat(first|apply Kd.bd|apply Kd.bZ|apply Kd.bQ));exact Kd.ax (Kd.aK (p:=⟨oc,2,none⟩) (Kd.aK (p:=⟨oc,1,none⟩) (Kd.aK (p:=⟨oc,0,none⟩) (Kd.dU bF.out it.out (by decide)) (fun _ hk=>hk.2) (.int .i64 On)) (fun _ hk=>hk.2) (.slice fw JF.length fx)) (fun _ hk=>hk.2) (.slice pa JG.length pc)) (fun _ hk=>trivial)⟩,⟨by(with_reducible repeat(first|apply Kd.bd|apply Kd.bZ|apply Kd.bQ));exact Kd.ax (Kd.aK (p:=⟨oc,2,none⟩) (Kd.aK (p:=⟨oc,1,none⟩) (Kd.aK (p:=⟨oc,0,none⟩) (Kd.dU TO.out it.out (by decide)) (fun _ hk=>hk.2) (.int .i64 On)) (fun _ hk=>hk.2) (.slice fw JF.length fx)) (fun _ hk=>hk.2) (.slice pa JG.length pc)) (fun _ hk=>hk.1)⟩,⟨by(with_reducible repeat(first|apply Kd.bd|apply Kd.bZ|apply Kd.bQ));exact Kd.ax (Kd.aK (p:=⟨oc,2,none⟩) (Kd.aK (p:=⟨oc,1,none⟩) (Kd.aK (p:=⟨oc,0,none⟩) (Kd.dU TP.out it.out (by decide)) (fun _ hk=>hk.2) (.int .i64 On)) (fun _ hk=>hk.2) (.slice fw JF.length fx)) (fun _ hk=>hk.2) (.slice pa JG.length pc)) (fun _ hk=>hk.1)⟩,⟨bf hD Gx⟩,⟨bf gc Du⟩,⟨by exact pb it⟩,⟨aw HB jS kR qe⟩⟩
   case round=>
    clear H'
    try clear c1
    try clear c2
    try clear p2
    try clear c4
    try clear c7
    try clear c10
    try clear c12
    try clear c15
    try clear c16
    try clear c19
    try clear c23
    try clear c24
    try clear tB
    try clear oK oL qz sS sT
    try clear sO ub za W3 W4
    try clear pn po qY zn zo
    try clear LC LD LE
    try clear r9 rA CV ST SU
    try clear oM oN r8 sU sV
    try clear sP uc zb W5 W7
    try clear pp pq qZ zp zq
    try clear LF LG LH
    try clear rB rC CW SV SW
    try clear p2
    obtain⟨g7,VN,VO,yE,sD,sE,Rf,Rg,rfl,HA,eE,wh,nc,ng,hD,gc,it,HB⟩:=hrel
    cases gk with
    |zero=>exact absurd HA.out (by simp[fb.l0])
    |succ k2=>
     have H:=HA.out;clear HA;simp only[fb.l0]at H
     by_cases lJ:g7<(gf.length:Int)
     rotate_left
     ·
      rw[if_neg lJ]at H;have Ce:=dn lJ;clear lJ;simp only[Jh,Ue]at H;obtain⟨rfl,rfl,rfl,rfl,rfl,rfl⟩:=H;have hnb64:=Qg.out;have hnc64:=Gx.out;have hnb65:=Qh.out;have hnc65:=Du.out;obtain⟨RU,RV,hcz66_2⟩:=dE it;obtain⟨RW,RX,hfz66_2⟩:=dF it;obtain⟨Tw,Tx,a0l⟩:=Kd.az ng.out;subst a0l;obtain⟨a0X,a0Y,eo68⟩:=Kd.az nc.out;subst eo68;have Yh:=Gw.out;have Yi:=Gv.out;obtain⟨hcz70_0,hcz70_1,hcz70_2,hcz70_3,hcz70_4⟩:=aj gc;obtain⟨hfz70_0,hfz70_1,hfz70_2,hfz70_3,hfz70_4⟩:=ai gc
      go_wp2
      refine bodyPost_ret (iU rfl _ _ rM 29 #[.int .i64 yE,.slice a0X sD.length a0Y,.slice Tw sE.length Tx,.int .i64 1,.slice none 0 0] (0,0) _ rfl (pb gc) cp rfl (by kernel_rfl)) rfl ?_;exact⟨_,_,_,er,by(with_reducible repeat(first|apply Kd.bd|apply Kd.bZ|apply Kd.bQ));exact Kd.ax (Kd.aK (p:=⟨rM,4,none⟩) (Kd.aK (p:=⟨rM,3,none⟩) (Kd.aK (p:=⟨rM,2,none⟩) (Kd.aK (p:=⟨rM,1,none⟩) (Kd.aK (p:=⟨rM,0,none⟩) (Kd.dU nc.out gc.out (by decide)) (fun _ hk=>hk.2) (.int .i64 yE)) (fun _ hk=>hk.2) (.slice a0X sD.length a0Y)) (fun _ hk=>hk.2) (.slice Tw sE.length Tx)) (fun _ hk=>hk.2) (.int .i64 1)) (fun _ hk=>hk.2) (.slice none 0 0)) (fun _ hk=>hk.1),by(with_reducible repeat(first|apply Kd.bd|apply Kd.bZ|apply Kd.bQ));exact Kd.ax (Kd.aK (p:=⟨rM,4,none⟩) (Kd.aK (p:=⟨rM,3,none⟩) (Kd.aK (p:=⟨rM,2,none⟩) (Kd.aK (p:=⟨rM,1,none⟩) (Kd.aK (p:=⟨rM,0,none⟩) (Kd.dU ng.out gc.out (by decide)) (fun _ hk=>hk.2) (.int .i64 yE)) (fun _ hk=>hk.2) (.slice a0X sD.length a0Y)) (fun _ hk=>hk.2) (.slice Tw sE.length Tx)) (fun _ hk=>hk.2) (.int .i64 1)) (fun _ hk=>hk.2) (.slice none 0 0)) (fun _ hk=>hk.1),by first|exact Kd.be _ _ _ _ _|exact Kd.ce _ _ _ _ _|exact Kd.cf _ _ _ _ _|exact Kd.cZ _ _ _ _ _|exact Kd.ca _ _ _ _ _,aw HB jS kR qe⟩
     rw[if_pos lJ]at H;have Ce:=bJ lJ;clear lJ
     by_cases jg:0≤g7
     rotate_left
     ·
      rw[if_neg jg]at H;exact absurd H (by simp)
     rw[if_pos jg]at H;have Ed:=bJ jg;clear jg
     by_cases c31:g7<(gf.length:Int)
     rotate_left
     ·
      rw[if_neg c31]at H;exact absurd H (by simp)
     rw[if_pos c31]at H;have wT:=bJ c31;clear c31;replace H:=Gl.mp H;obtain⟨⟨JH,Fw,Fx,t638⟩,A320,H⟩:=H
     try dsimp only at H
     have A32:=Ah A320;clear A320
     by_cases rl:t638=true
     ·
      subst rl;rw[if_pos rfl]at H;have H':=Ah H;clear H;have Fy:0≤(g7:Int):=od;have Fz:g7<(gf.length:Int):=od;obtain⟨ad629,a0Z,hx629_0,hx629_1,hx629_2,hx629_3,hx629_4⟩:=eC (Kd.aY wh.out).2.2 g7 Fy Fz
      cases a0Z
      replace Fy:=eq_true Fy;replace Fz:=eq_true Fz
      go_wp2_with (first|((with_reducible refine ag (N:=10) rfl ?_);refine an 10 66 #[.int .i64 0,.int .i64 0,.int .i64 0,.int .i64 0,.int .i64 0] ?_;intro qE hg w34 lR hb;replace wh:=Ah (Kd.b9 (Kd.kN (rr wh.out) qE (Nat.le_of_eq hg.symm)) hb);replace nc:=nr nc hb;replace ng:=nr ng hb;have GW630:=gw hg (aw HB jS kR qe);have AW:=gw hg (aw HB jS kR qe);replace HB:=Ah (aH (aw HB jS kR qe) hb);have KE:=nn hD hg;have VP:=nm hD hg;replace hD:=nb hD hb;have KF:=nn gc hg;have VQ:=nm gc hg;replace gc:=nb gc hb;have KG:=nn it hg;have VR:=nm it hg;replace it:=nb it hb;clear hb hg;have MF:=VP.out;have MG:=KE.out;have TH:=VQ.out;have TI:=KF.out;have MH:=VR.out;have MI:=KG.out;obtain⟨EC,ED,Ke,Kf,Kg⟩:=aj lR;obtain⟨EI,EJ,Kh,Ki,Kj⟩:=ai lR;have Mc:=Qg.out;have Md:=Gx.out;have Ey:=Qh.out;have Ez:=Du.out;obtain⟨H5,H6,X3⟩:=dE it;obtain⟨H7,H8,X4⟩:=dF it;obtain⟨Ao42,a00,eo42⟩:=Kd.az nc.out;subst eo42;obtain⟨U8,Fp,Of⟩:=Kd.az ng.out;subst Of)|((with_reducible refine bY (f:=47) rfl ?_);refine gL (some 39) rfl rfl Try.func47 (by kernel_rfl) rfl #[.agg #[.int .i64 yE,.slice Ao42 sD.length a00,.slice U8 sE.length Fp],.agg #[.int .i64 ((U gf g7).f2.f0),.int .i64 ((U gf g7).f2.f1)]] rfl ?_;(with_reducible refine(qr.calls k2 yE _ _ sD _ _ sE ((U gf g7).f2.f0) ((U gf g7).f2.f1) JH Fw Fx true _ ?aZ ?ae ?ay ?bI A32.out).mono ?_);(case aZ=>refine(Kd.aY (e:=45) (base:=w.heap.size) (ok:=fun k_=>some k_≠(.slice U8 sE.length Fp:Value).ownBlock) (n:=sD.length) (c:=a00) ?_).2.2;exact(rf nc lR));(case ae=>exact(Kd.aY nc.out).2.1);(case ay=>refine(Kd.aY (e:=45) (base:=w.heap.size) (ok:=fun k_=>some k_≠(.slice Ao42 sD.length a00:Value).ownBlock) (n:=sE.length) (c:=Fp) ?_).2.2;exact(rf ng lR));(case bI=>exact(Kd.aY ng.out).2.1);rintro e w44 ⟨v633,v636,rfl,ho0,ho1,hb⟩;refine⟨_,rfl, ?_⟩;replace wh:=Ah (Kd.b9 (by(with_reducible repeat(first|apply Kd.bd|apply Kd.bZ|apply Kd.bQ));exact(Kd.ax (Kd.aK (p:=⟨qE,4,none⟩) (Kd.aK (p:=⟨qE,3,none⟩) (Kd.aK (p:=⟨qE,2,none⟩) (Kd.aK (p:=⟨qE,1,none⟩) (Kd.aK (p:=⟨qE,0,none⟩) (Kd.ax wh.out (fun k_ hk=>(⟨hk,hk.2⟩:_∧k_≠qE))) (fun _ hk=>hk.2) (.int .i64 ((U gf g7).f0))) (fun _ hk=>hk.2) (.int .i64 ((U gf g7).f1))) (fun _ hk=>hk.2) (.int .i64 ((U gf g7).f2.f0))) (fun _ hk=>hk.2) (.int .i64 ((U gf g7).f2.f1))) (fun _ hk=>hk.2) (.int .i64 ((U gf g7).f3))) (fun _ h_=>h_.1))) hb);have TQ:=Ah (Kd.bR (Kd.k9 (Kd.k9 ho0 (Kd.i4 (rf nc lR))) (Kd.i4 (rf ng lR))) (bE (bq HB jS kR qe AW)));have TR:=Ah (Kd.bR (Kd.k9 (Kd.k9 ho1 (Kd.i4 (rf nc lR))) (Kd.i4 (rf ng lR))) (bE (bq HB jS kR qe AW)));replace nc:=Ah (Kd.ax (Kd.nl (Kd.nl (Kd.yY (rf nc lR) hb) (Kd.jK ho0)) (Kd.jK ho1)) (fun _ h_=>h_.1));replace ng:=Ah (Kd.ax (Kd.nl (Kd.nl (Kd.yY (rf ng lR) hb) (Kd.jK ho0)) (Kd.jK ho1)) (fun _ h_=>h_.1));replace hD:=Ah (bT (bf hD KE) hb);replace gc:=Ah (bT (bf gc KF) hb);replace it:=Ah (bT (bf it KG) hb);replace lR:=Ah (bT (g:=qE) (o:= .cells #[.int .i64 ((U gf g7).f0),.int .i64 ((U gf g7).f1),.int .i64 ((U gf g7).f2.f0),.int .i64 ((U gf g7).f2.f1),.int .i64 ((U gf g7).f3)] 66 (0,0)) (pb lR) hb);replace HB:=Ah (aH (bq HB jS kR qe AW) hb);(try clear hb hk ho0 ho1);obtain⟨HM,HU,HV⟩:=dE it;obtain⟨HZ,Ha,Hb⟩:=dF it;obtain⟨rP,rQ,OB⟩:=Kd.az TQ.out;subst OB;obtain⟨rR,rS,OC⟩:=Kd.az TR.out;subst OC))
      go_roundg k2
      case measure=>have:=DV.out;have:=eE.out;omega
      case rel=>exact⟨(Gj (g7+1)),(VN),(VO),(JH),(Fw),(Fx),(.slice rP Fw.length rQ),(.slice rR Fx.length rS),e3,H',⟨by have:=DV.out;have:=eE.out;omega⟩,⟨by(with_reducible repeat(first|apply Kd.bd|apply Kd.bZ|apply Kd.bQ));exact Kd.ax (Kd.aK (p:=⟨oc,2,none⟩) (Kd.aK (p:=⟨oc,1,none⟩) (Kd.aK (p:=⟨oc,0,none⟩) (Kd.dU wh.out it.out (by decide)) (fun _ hk=>hk.2) (.int .i64 JH)) (fun _ hk=>hk.2) (.slice rP Fw.length rQ)) (fun _ hk=>hk.2) (.slice rR Fx.length rS)) (fun _ hk=>trivial)⟩,⟨by(with_reducible repeat(first|apply Kd.bd|apply Kd.bZ|apply Kd.bQ));exact Kd.ax (Kd.aK (p:=⟨oc,2,none⟩) (Kd.aK (p:=⟨oc,1,none⟩) (Kd.aK (p:=⟨oc,0,none⟩) (Kd.dU TQ.out it.out (by decide)) (fun _ hk=>hk.2) (.int .i64 JH)) (fun _ hk=>hk.2) (.slice rP Fw.length rQ)) (fun _ hk=>hk.2) (.slice rR Fx.length rS)) (fun _ hk=>hk.1.1.1)⟩,⟨by(with_reducible repeat(first|apply Kd.bd|apply Kd.bZ|apply Kd.bQ));exact Kd.ax (Kd.aK (p:=⟨oc,2,none⟩) (Kd.aK (p:=⟨oc,1,none⟩) (Kd.aK (p:=⟨oc,0,none⟩) (Kd.dU TR.out it.out (by decide)) (fun _ hk=>hk.2) (.int .i64 JH)) (fun _ hk=>hk.2) (.slice rP Fw.length rQ)) (fun _ hk=>hk.2) (.slice rR Fx.length rS)) (fun _ hk=>hk.1.1.1)⟩,⟨bf hD Gx⟩,⟨bf gc Du⟩,⟨by exact pb it⟩,⟨bq HB jS kR qe AW⟩⟩
     replace rl:=PT.mpr rl;subst rl;rw[if_neg dr]at H;simp only[Jh,Ue]at H;obtain⟨rfl,rfl,rfl,rfl,rfl,rfl⟩:=H;have Fy:0≤(g7:Int):=od;have Fz:g7<(gf.length:Int):=od;obtain⟨ad629,a0Z,hx629_0,hx629_1,hx629_2,hx629_3,hx629_4⟩:=eC (Kd.aY wh.out).2.2 g7 Fy Fz
     cases a0Z
     replace Fy:=eq_true Fy;replace Fz:=eq_true Fz
     go_wp2_with (first|((with_reducible refine ag (N:=10) rfl ?_);refine an 10 66 #[.int .i64 0,.int .i64 0,.int .i64 0,.int .i64 0,.int .i64 0] ?_;intro qE hg JX lR hb;replace wh:=Ah (Kd.b9 (Kd.kN (rr wh.out) qE (Nat.le_of_eq hg.symm)) hb);replace nc:=nr nc hb;replace ng:=nr ng hb;have GW630:=gw hg (aw HB jS kR qe);have AW:=gw hg (aw HB jS kR qe);replace HB:=Ah (aH (aw HB jS kR qe) hb);have KE:=nn hD hg;have VP:=nm hD hg;replace hD:=nb hD hb;have KF:=nn gc hg;have VQ:=nm gc hg;replace gc:=nb gc hb;have KG:=nn it hg;have VR:=nm it hg;replace it:=nb it hb;clear hb hg;have Su:=VP.out;have Sv:=KE.out;have hnb50:=VQ.out;have hnc50:=KF.out;have Ye:=VR.out;have Yf:=KG.out;obtain⟨WD,WE,WF,hcz52_3,hcz52_4⟩:=aj lR;obtain⟨WV,WW,WY,hfz52_3,hfz52_4⟩:=ai lR;have hnb53:=Qg.out;have hnc53:=Gx.out;have hnb54:=Qh.out;have hnc54:=Du.out;obtain⟨hcz55_0,hcz55_1,hcz55_2⟩:=dE it;obtain⟨hfz55_0,hfz55_1,hfz55_2⟩:=dF it;obtain⟨Ao56,a01,eo56⟩:=Kd.az nc.out;subst eo56;obtain⟨O9,FR,a0k⟩:=Kd.az ng.out;subst a0k)|((with_reducible refine bY (f:=47) rfl ?_);refine gL (some 39) rfl rfl Try.func47 (by kernel_rfl) rfl #[.agg #[.int .i64 yE,.slice Ao56 sD.length a01,.slice O9 sE.length FR],.agg #[.int .i64 ((U gf g7).f2.f0),.int .i64 ((U gf g7).f2.f1)]] rfl ?_;(with_reducible refine(qr.calls k2 yE _ _ sD _ _ sE ((U gf g7).f2.f0) ((U gf g7).f2.f1) JH Fw Fx false _ ?aZ ?ae ?ay ?bI A32.out).mono ?_);(case aZ=>refine(Kd.aY (e:=45) (base:=w.heap.size) (ok:=fun k_=>some k_≠(.slice O9 sE.length FR:Value).ownBlock) (n:=sD.length) (c:=a01) ?_).2.2;exact(rf nc lR));(case ae=>exact(Kd.aY nc.out).2.1);(case ay=>refine(Kd.aY (e:=45) (base:=w.heap.size) (ok:=fun k_=>some k_≠(.slice Ao56 sD.length a01:Value).ownBlock) (n:=sE.length) (c:=FR) ?_).2.2;exact(rf ng lR));(case bI=>exact(Kd.aY ng.out).2.1);rintro e w58 ⟨v633,v636,rfl,ho0,ho1,hb⟩;refine⟨_,rfl, ?_⟩;replace wh:=Ah (Kd.b9 (by(with_reducible repeat(first|apply Kd.bd|apply Kd.bZ|apply Kd.bQ));exact(Kd.ax (Kd.aK (p:=⟨qE,4,none⟩) (Kd.aK (p:=⟨qE,3,none⟩) (Kd.aK (p:=⟨qE,2,none⟩) (Kd.aK (p:=⟨qE,1,none⟩) (Kd.aK (p:=⟨qE,0,none⟩) (Kd.ax wh.out (fun k_ hk=>(⟨hk,hk.2⟩:_∧k_≠qE))) (fun _ hk=>hk.2) (.int .i64 ((U gf g7).f0))) (fun _ hk=>hk.2) (.int .i64 ((U gf g7).f1))) (fun _ hk=>hk.2) (.int .i64 ((U gf g7).f2.f0))) (fun _ hk=>hk.2) (.int .i64 ((U gf g7).f2.f1))) (fun _ hk=>hk.2) (.int .i64 ((U gf g7).f3))) (fun _ h_=>h_.1))) hb);have TQ:=Ah (Kd.bR (Kd.k9 (Kd.k9 ho0 (Kd.i4 (rf nc lR))) (Kd.i4 (rf ng lR))) (bE (bq HB jS kR qe AW)));have TR:=Ah (Kd.bR (Kd.k9 (Kd.k9 ho1 (Kd.i4 (rf nc lR))) (Kd.i4 (rf ng lR))) (bE (bq HB jS kR qe AW)));replace nc:=Ah (Kd.ax (Kd.nl (Kd.nl (Kd.yY (rf nc lR) hb) (Kd.jK ho0)) (Kd.jK ho1)) (fun _ h_=>h_.1));replace ng:=Ah (Kd.ax (Kd.nl (Kd.nl (Kd.yY (rf ng lR) hb) (Kd.jK ho0)) (Kd.jK ho1)) (fun _ h_=>h_.1));replace hD:=Ah (bT (bf hD KE) hb);replace gc:=Ah (bT (bf gc KF) hb);replace it:=Ah (bT (bf it KG) hb);replace lR:=Ah (bT (g:=qE) (o:= .cells #[.int .i64 ((U gf g7).f0),.int .i64 ((U gf g7).f1),.int .i64 ((U gf g7).f2.f0),.int .i64 ((U gf g7).f2.f1),.int .i64 ((U gf g7).f3)] 66 (0,0)) (pb lR) hb);replace HB:=Ah (aH (bq HB jS kR qe AW) hb);(try clear hb hk ho0 ho1);obtain⟨hcz59_0,hcz59_1,hcz59_2⟩:=dE it;obtain⟨hfz59_0,hfz59_1,hfz59_2⟩:=dF it;obtain⟨DB,DC,UA⟩:=Kd.az TQ.out;subst UA;obtain⟨Ao61,co61,eo61⟩:=Kd.az TR.out;subst eo61;have MM:=Gw.out;have MN:=Gv.out;obtain⟨WK,WL,WM,WO,WP⟩:=aj gc;obtain⟨Wb,Wc,Wd,We,Wf⟩:=ai gc))
     refine bodyPost_ret (iU rfl _ _ rM 29 #[.int .i64 0,.slice none 0 0,.slice none 0 0,.int .i64 0,.slice none 0 0] (0,0) _ rfl (B4 gc Du) cp rfl (by kernel_rfl)) rfl ?_;exact⟨_,_,_,er,by first|exact Kd.be _ _ _ _ _|exact Kd.ce _ _ _ _ _|exact Kd.cf _ _ _ _ _|exact Kd.cZ _ _ _ _ _|exact Kd.ca _ _ _ _ _,by first|exact Kd.be _ _ _ _ _|exact Kd.ce _ _ _ _ _|exact Kd.cf _ _ _ _ _|exact Kd.cZ _ _ _ _ _|exact Kd.ca _ _ _ _ _,by first|exact Kd.be _ _ _ _ _|exact Kd.ce _ _ _ _ _|exact Kd.cf _ _ _ _ _|exact Kd.cZ _ _ _ _ _|exact Kd.ca _ _ _ _ _,bq HB jS kR qe AW⟩
def nY.f(aA:Int)(bN:Int)(aN:Int)(aQ:Int):Option (Bool):=if aA=aN then(if bN=aQ then(some true)else(some false))else(some false)
theorem nY.calls(aA:Int)(bN:Int)(aN:Int)(aQ:Int)(r:Bool)(w:World)(h:nY.f aA bN aN aQ=some r):
 Calls Uf 50 #[.agg #[.int .i64 aA,.int .i64 bN],.agg #[.int .i64 aN,.int .i64 aQ]] w fun e w'=>e= .returned (.bool r)∧Below w.heap.size w w':=by
 have jT:=fk;have HB:=Ah (Ud w.heap.size w);have H:(if aA=aN then(if bN=aQ then(some true)else(some false))else(some false))=some r:=h;clear h
 by_cases c3:aA=aN
 rotate_left
 ·
  rw[if_neg c3]at H;have dc:=fS c3;have jr:=fT c3;obtain rfl:=Gn H
  go_enter aa2,Try.ntmps50
  go_wp2_with (first|((with_reducible refine ag (N:=2) rfl ?_);refine an 2 45 #[.int .i64 aA,.int .i64 bN] ?_;intro gb717 hg yp ny hb;have GW717:=gw hg (bs HB);have sg:=gw hg (bs HB);replace HB:=Ah (aH (bs HB) hb);clear hb hg)|((with_reducible refine ag (N:=3) rfl ?_);refine an 3 45 #[.int .i64 aN,.int .i64 aQ] ?_;intro gb718 hg w16 Cm hb;have GW718:=gw hg (aM HB sg);have N9:=gw hg (aM HB sg);replace HB:=Ah (aH (aM HB sg) hb);have KH:=nn ny hg;have KI:=nm ny hg;replace ny:=nb ny hb;clear hb hg;have Sg:=KH.out;have Sh:=KI.out;obtain⟨vv,vw⟩:=cg ny;obtain⟨vx,vy⟩:=ch ny;obtain⟨E2,E3⟩:=cg Cm;obtain⟨E4,E5⟩:=ch Cm))
  go_ret
  exact⟨er,am HB sg N9⟩
 rw[if_pos c3]at H;have dc:=fU c3;have jr:=fV c3;clear c3
 by_cases c4:bN=aQ
 ·
  rw[if_pos c4]at H;have fB:=fU c4;have Oq:=fV c4;clear c4;obtain rfl:=Gn H
  go_enter aa2,Try.ntmps50
  go_wp2_with (first|((with_reducible refine ag (N:=2) rfl ?_);refine an 2 45 #[.int .i64 aA,.int .i64 bN] ?_;intro gb717 hg w5 ny hb;have GW717:=gw hg (bs HB);have sg:=gw hg (bs HB);replace HB:=Ah (aH (bs HB) hb);clear hb hg)|((with_reducible refine ag (N:=3) rfl ?_);refine an 3 45 #[.int .i64 aN,.int .i64 aQ] ?_;intro gb718 hg w6 Cm hb;have GW718:=gw hg (aM HB sg);have N9:=gw hg (aM HB sg);replace HB:=Ah (aH (aM HB sg) hb);have KH:=nn ny hg;have KI:=nm ny hg;replace ny:=nb ny hb;clear hb hg;have hnb7:=KH.out;have hnc7:=KI.out;obtain⟨r9,rA⟩:=cg ny;obtain⟨rB,rC⟩:=ch ny;obtain⟨rD,rE⟩:=cg Cm;obtain⟨rF,rG⟩:=ch Cm))
  go_ret
  exact⟨er,am HB sg N9⟩
 rw[if_neg c4]at H;have fB:=fS c4;have Oq:=fT c4;obtain rfl:=Gn H
 go_enter aa2,Try.ntmps50
 go_wp2_with (first|((with_reducible refine ag (N:=2) rfl ?_);refine an 2 45 #[.int .i64 aA,.int .i64 bN] ?_;intro gb717 hg lp ny hb;have GW717:=gw hg (bs HB);have sg:=gw hg (bs HB);replace HB:=Ah (aH (bs HB) hb);clear hb hg)|((with_reducible refine ag (N:=3) rfl ?_);refine an 3 45 #[.int .i64 aN,.int .i64 aQ] ?_;intro gb718 hg kF Cm hb;have GW718:=gw hg (aM HB sg);have N9:=gw hg (aM HB sg);replace HB:=Ah (aH (aM HB sg) hb);have KH:=nn ny hg;have KI:=nm ny hg;replace ny:=nb ny hb;clear hb hg;have Lg:=KH.out;have Lh:=KI.out;obtain⟨oK,oL⟩:=cg ny;obtain⟨oM,oN⟩:=ch ny;obtain⟨sG,sH⟩:=cg Cm;obtain⟨sI,sJ⟩:=ch Cm))
 go_ret
 exact⟨er,am HB sg N9⟩
def fW.l0:Nat→List (Y)→List (Y)→Int→Option (Bool)
 |0,_,_,_=>none
 |k+1,x0,x1,x5=>if x5<(x0.length:Int)then(if 0≤x5 then(if x5<(x1.length:Int)then((nY.f ((aD x0 x5).f0) ((aD x0 x5).f1) ((aD x1 x5).f0) ((aD x1 x5).f1)).bind fun a02=>(if a02=true then(fW.l0 k x0 x1 (Gj (x5+1)))else(some false)))else(none))else(none))else(some true)
def fW.f(k:Nat)(l0:List (Y))(l1:List (Y)):Option (Bool):=if(l0.length:Int)=(l1.length:Int)then(fW.l0 k l0 l1 0)else(some false)
theorem fW.cQ:∀k,(∀y0 y1 y2,aG (fW.l0 k y0 y1 y2) (fW.l0 (k+1) y0 y1 y2))
 |0=>fun _ _ _ r h=>by simp[fW.l0]at h
 |k+1=>by
  have bS:=fW.cQ k
  ·
   intro y0 y1 y2;unfold fW.l0
   repeat' with_reducible first|exact bS _ _ _|exact aG.refl _|exact aG.none _|refine aG.ite ?_ ?_|refine aG.bind ?_ (fun _=> ?_)
theorem fW.mono:∀a0 a1 k,aG (fW.f k a0 a1) (fW.f (k+1) a0 a1):=by
 intro a0 a1 k;have bS:=fW.cQ k;unfold fW.f
 repeat' with_reducible first|exact bS _ _ _|exact aG.refl _|exact aG.none _|refine aG.ite ?_ ?_|refine aG.bind ?_ (fun _=> ?_)
def fW.T6:Bool×List (List Nat×List Nat):=(true,[([],[]),([],[]),([0,1],[0,1]),([2],[2]),([],[]),([],[]),([4,5],[4,5]),([6],[6]),([3,7],[3,7]),([8],[8])])
def fW.B6:List Nat:=[0,0,3,7,0,0,48,112,255,511]
theorem fW.sm:i5 .any (uw Try.f48 6)=fW.T6:=by kernel_rfl
theorem fW.sb:pm fW.T6.2 fW.B6=true:=by kernel_rfl
theorem fW.calls(k:Nat)(A0:Option Addr)(c0:Nat)(l0:List (Y))(A1:Option Addr)(c1:Nat)(l1:List (Y))(r:Bool)(w:World)(hr0:Kd.C aT w A0 l0.length l0)(hc0:l0.length≤c0)(hr1:Kd.C aT w A1 l1.length l1)(hc1:l1.length≤c1)(h:fW.f k l0 l1=some r):
 Calls Uf 48 #[.slice A0 l0.length c0,.slice A1 l1.length c1] w fun e w'=>e= .returned (.bool r)∧Below w.heap.size w w':=by
 have jT:=fk;have cX:=Ah hr0;have oE:=Ah hc0;clear hr0 hc0;have HR1:=Ah hr1;have qn:=Ah hc1;clear hr1 hc1;have HB:=Ah (Ud w.heap.size w);have H:(if(l0.length:Int)=(l1.length:Int)then(fW.l0 k l0 l1 0)else(some false))=some r:=h;clear h
 by_cases c3:(l0.length:Int)=(l1.length:Int)
 rotate_left
 ·
  rw[if_neg c3]at H;have dc:=fS c3;have jr:=fT c3
  have qG:(l0.length==l1.length)=false:=by first|simpa using c3|(simp at c3⊢;omega)
  obtain rfl:=Gn H
  go_enter abH,Try.ntmps48
  go_wp2
  go_ret
  exact⟨er,bs HB⟩
 rw[if_pos c3]at H;have dc:=fU c3;have jr:=fV c3
 have qG:(l0.length==l1.length)=true:=by first|simpa using c3|(simp at c3⊢;omega)
 clear c3;have H':=Ah H;clear H
 go_enter abH,Try.ntmps48
 go_wp2
 go_loopg [5] k (fun kq v5 w'=>∃ (I:Int),v5= .int .i64 I∧Z (fW.l0 kq l0 l1 I=some r)∧Z (kq≤k)∧Z (Below w.heap.size w w'))
 case atStart=>exact⟨(0),e3,H',⟨QQ _⟩,⟨bs HB⟩⟩
 case round=>
  clear H'
  try clear c1
  try clear p2
  try clear c3
  try clear dc
  try clear jr
  try clear qG
  obtain⟨I,rfl,HA,bi,HB⟩:=hrel
  cases gk with
  |zero=>exact absurd HA.out (by simp[fW.l0])
  |succ k1=>
   have H:=HA.out;clear HA;simp only[fW.l0]at H
   by_cases c4:I<(l0.length:Int)
   rotate_left
   ·
    rw[if_neg c4]at H;have fB:=dn c4;clear c4;obtain rfl:=Gn H
    go_wp2
    go_ret
    exact⟨er,bs HB⟩
   rw[if_pos c4]at H;have fB:=bJ c4;clear c4
   by_cases c5:0≤I
   rotate_left
   ·
    rw[if_neg c5]at H;exact absurd H (by simp)
   rw[if_pos c5]at H;have kV:=bJ c5;clear c5
   by_cases c6:I<(l1.length:Int)
   rotate_left
   ·
    rw[if_neg c6]at H;exact absurd H (by simp)
   rw[if_pos c6]at H;have o6:=bJ c6;clear c6;replace H:=Gl.mp H;obtain⟨a02,kJ,H⟩:=H
   try dsimp only at H
   have A7:=Ah kJ;clear kJ;have H_:=Ah H;clear H
   try go_wp2
   replace HB:=Ah (j7 HB.out);have a03:0≤(I:Int):=od;have a04:I<(l0.length:Int):=od;obtain⟨Z8,e719,Rh,Ri⟩:=dN cX.out I a03 a04;have Hv:=Ri;have Hw:=Rh
   cases e719
   replace Rh:=hq HB Rh;replace Ri:=hq HB Ri;replace a03:=eq_true a03;replace a04:=eq_true a04;have a05:0≤(I:Int):=od;have a06:I<(l1.length:Int):=od;obtain⟨Z9,e720,Rj,Rk⟩:=dN HR1.out I a05 a06;have Hx:=Rk;have Hy:=Rj
   cases e720
   replace Rj:=hq HB Rj;replace Rk:=hq HB Rk;replace a05:=eq_true a05;replace a06:=eq_true a06;refine mt (n:=10) (S:=fun w'=>w'.cell? (Z8.add ((I).toNat*2))=some (.int .i64 ((aD l0 I).f0))∧w'.cell? ⟨(Z8.add ((I).toNat*2)).block,(Z8.add ((I).toNat*2)).off+1,none⟩=some (.int .i64 ((aD l0 I).f1))∧w'.cell? (Z9.add ((I).toNat*2))=some (.int .i64 ((aD l1 I).f0))∧w'.cell? ⟨(Z9.add ((I).toNat*2)).block,(Z9.add ((I).toNat*2)).off+1,none⟩=some (.int .i64 ((aD l1 I).f1))) (ds:=[]) #[false,false,false,false,false,false,false,false,false,false] (by kernel_rfl) rfl rfl ⟨((HB.out.cell (Gk w _ Hw)).trans Hw),((HB.out.cell (Gk w _ Hv)).trans Hv),((HB.out.cell (Gk w _ Hy)).trans Hy),((HB.out.cell (Gk w _ Hx)).trans Hx)⟩ (fun hHeld=> ?_);refine na fW.sm fW.sb (fun aI cz=> ?_)
   generalize wr.drew=w9 at HB Rh Ri Rj Rk hHeld⊢
   refine b6 0 17 aI.out ?_;refine b6 1 18 aI.out ?_;refine b6 2 19 aI.out ?_;refine b6 4 21 aI.out ?_;refine b6 5 22 aI.out ?_;refine b6 6 23 aI.out ?_;refine dv 3 20 aI.out cz.out hHeld (hr:=by rintro w' ⟨s0,s1,s2,s3⟩;go_simp;with_reducible rfl) (h:= ?_);refine dv 7 24 aI.out cz.out hHeld (hr:=by rintro w' ⟨s0,s1,s2,s3⟩;go_simp;with_reducible rfl) (h:= ?_);refine fv (i:=8) (N:=some 25) #[true,true,true,true,true,true,true,true,true,false] rfl rfl (gJ aI.out (by kernel_rfl)) (by decide) (fun K hK=> ?_);refine gZ Try.func50 (by kernel_rfl) rfl #[.agg #[.int .i64 ((aD l0 I).f0),.int .i64 ((aD l0 I).f1)],.agg #[.int .i64 ((aD l1 I).f0),.int .i64 ((aD l1 I).f1)]] (by rfl) rfl rfl (by(try simp only[List.map_toArray,List.map_cons,List.map_nil]);first|done|rfl|(simp only[List.length_drop,List.length_take];rfl)) ?_;have H:=H_.out;clear H_
   by_cases c8:a02=true
   rotate_left
   ·
    replace c8:=PT.mpr c8;subst c8;rw[if_neg dr]at H;obtain rfl:=Gn H
    with_reducible refine(nY.calls ((aD l0 I).f0) ((aD l0 I).f1) ((aD l1 I).f0) ((aD l1 I).f1) false _ A7.out).mono ?_
    rintro e ef ⟨rfl,hb⟩;refine⟨_,rfl, ?_⟩;replace HB:=Ah (aH (bs HB) hb);(try clear hb);(try clear hb2);(try clear hk);(try clear hi);refine hK.out _ _ ⟨((HB.out.cell (Gk w _ Hw)).trans Hw),((HB.out.cell (Gk w _ Hv)).trans Hv),((HB.out.cell (Gk w _ Hy)).trans Hy),((HB.out.cell (Gk w _ Hx)).trans Hx)⟩ (fun hHeld=> ?_);clear hK K;refine nq 25 ?_;refine b6 9 26 aI.out ?_;refine jn (kO aI.out (by kernel_rfl)) ?_
    try go_wp2
    go_ret
    exact⟨er,bs HB⟩
   subst c8;rw[if_pos rfl]at H;have H':=Ah H;clear H
   with_reducible refine(nY.calls ((aD l0 I).f0) ((aD l0 I).f1) ((aD l1 I).f0) ((aD l1 I).f1) true _ A7.out).mono ?_
   rintro e lp ⟨rfl,hb⟩;refine⟨_,rfl, ?_⟩;replace HB:=Ah (aH (bs HB) hb);(try clear hb);(try clear hb2);(try clear hk);(try clear hi);refine hK.out _ _ ⟨((HB.out.cell (Gk w _ Hw)).trans Hw),((HB.out.cell (Gk w _ Hv)).trans Hv),((HB.out.cell (Gk w _ Hy)).trans Hy),((HB.out.cell (Gk w _ Hx)).trans Hx)⟩ (fun hHeld=> ?_);clear hK K;refine nq 25 ?_;refine b6 9 26 aI.out ?_;refine jn (kO aI.out (by kernel_rfl)) ?_
   try go_wp2
   go_roundg k1
   case measure=>have:=bi.out;omega
   case rel=>exact⟨(Gj (I+1)),e3,H',⟨by have:=bi.out;omega⟩,⟨bs HB⟩⟩
def qu.f(k:Nat)(aA:Int)(X:List (Y))(aC:List (Y))(aN:Int)(gj:List (Y))(i6:List (Y)):Option (Bool):=if aA=aN then((fW.f k X gj).bind fun Ow=>(if Ow=true then((fW.f k aC i6).bind fun Ox=>(if Ox=true then(some true)else(some false)))else(some false)))else(some false)
theorem qu.mono:∀a0 a1 a2 a3 a4 a5 k,aG (qu.f k a0 a1 a2 a3 a4 a5) (qu.f (k+1) a0 a1 a2 a3 a4 a5):=by
 intro a0 a1 a2 a3 a4 a5 k;unfold qu.f
 repeat' with_reducible first|exact fW.mono _ _ _|exact aG.refl _|exact aG.none _|refine aG.ite ?_ ?_|refine aG.bind ?_ (fun _=> ?_)
theorem qu.calls(k:Nat)(aA:Int)(af:Option Addr)(aa:Nat)(X:List (Y))(ab:Option Addr)(ac:Nat)(aC:List (Y))(aN:Int)(o9:Option Addr)(oA:Nat)(gj:List (Y))(p3:Option Addr)(p4:Nat)(i6:List (Y))(r:Bool)(w:World)(dO:Kd.C aT w af X.length X)(dP:X.length≤aa)(dQ:Kd.C aT w ab aC.length aC)(dR:aC.length≤ac)(NA:Kd.C aT w o9 gj.length gj)(NB:gj.length≤oA)(NC:Kd.C aT w p3 i6.length i6)(ND:i6.length≤p4)(h:qu.f k aA X aC aN gj i6=some r):
 Calls Uf 26 #[.agg #[.int .i64 aA,.slice af X.length aa,.slice ab aC.length ac],.agg #[.int .i64 aN,.slice o9 gj.length oA,.slice p3 i6.length p4]] w fun e w'=>e= .returned (.bool r)∧Below w.heap.size w w':=by
 have mL:=ig;have bo:=Ah dO;have cU:=Ah dP;clear dO dP;have cn:=Ah dQ;have co:=Ah dR;clear dQ dR;have Cn:=Ah NA;have Co:=Ah NB;clear NA NB;have F2:=Ah NC;have F3:=Ah ND;clear NC ND;have HB:=Ah (Ud w.heap.size w);have H:(if aA=aN then((fW.f k X gj).bind fun Ow=>(if Ow=true then((fW.f k aC i6).bind fun Ox=>(if Ox=true then(some true)else(some false)))else(some false)))else(some false))=some r:=h;clear h
 by_cases c3:aA=aN
 rotate_left
 ·
  rw[if_neg c3]at H;have dc:=fS c3;have jr:=fT c3;obtain rfl:=Gn H
  go_enter abt,Try.ntmps26
  go_wp2_with (first|((with_reducible refine ag (N:=2) rfl ?_);refine an 2 26 #[.int .i64 aA,.slice af X.length aa,.slice ab aC.length ac] ?_;intro ZA hg w32 g8 hb;have ZB:=gw hg (bs HB);have ly:=gw hg (bs HB);replace HB:=Ah (aH (bs HB) hb);clear hb hg)|((with_reducible refine ag (N:=3) rfl ?_);refine an 3 26 #[.int .i64 aN,.slice o9 gj.length oA,.slice p3 i6.length p4] ?_;intro ZC hg DS lS hb;have ZD:=gw hg (aM HB ly);have vD:=gw hg (aM HB ly);replace HB:=Ah (aH (aM HB ly) hb);have Dv:=nn g8 hg;have Dw:=nm g8 hg;replace g8:=nb g8 hb;clear hb hg;have IY:=Dv.out;have IZ:=Dw.out;obtain⟨XM,XN,XO⟩:=dE g8;obtain⟨XP,XQ,XR⟩:=dF g8;obtain⟨EA,EB,HL⟩:=dE lS;obtain⟨EG,EH,HY⟩:=dF lS))
  go_ret
  exact⟨er,am HB ly vD⟩
 rw[if_pos c3]at H;have dc:=fU c3;have jr:=fV c3;clear c3;replace H:=Gl.mp H;obtain⟨Ow,eJ,H⟩:=H
 try dsimp only at H
 have A4:=Ah eJ;clear eJ
 by_cases c5:Ow=true
 rotate_left
 ·
  replace c5:=PT.mpr c5;subst c5;rw[if_neg dr]at H;obtain rfl:=Gn H
  go_enter abt,Try.ntmps26
  go_wp2_with (first|((with_reducible refine ag (N:=2) rfl ?_);refine an 2 26 #[.int .i64 aA,.slice af X.length aa,.slice ab aC.length ac] ?_;intro ZA hg GZ g8 hb;have ZB:=gw hg (bs HB);have ly:=gw hg (bs HB);replace HB:=Ah (aH (bs HB) hb);clear hb hg)|((with_reducible refine ag (N:=3) rfl ?_);refine an 3 26 #[.int .i64 aN,.slice o9 gj.length oA,.slice p3 i6.length p4] ?_;intro ZC hg BK lS hb;have ZD:=gw hg (aM HB ly);have vD:=gw hg (aM HB ly);replace HB:=Ah (aH (aM HB ly) hb);have Dv:=nn g8 hg;have Dw:=nm g8 hg;replace g8:=nb g8 hb;clear hb hg;have hnb28:=Dv.out;have hnc28:=Dw.out;obtain⟨hcz29_0,hcz29_1,hcz29_2⟩:=dE g8;obtain⟨hfz29_0,hfz29_1,hfz29_2⟩:=dF g8;obtain⟨XG,XH,XI⟩:=dE lS;obtain⟨XJ,XK,XL⟩:=dF lS)|((with_reducible refine bY (f:=48) rfl ?_);refine gL (some 14) rfl rfl abH (by kernel_rfl) rfl #[.slice af X.length aa,.slice o9 gj.length oA] rfl ?_;(with_reducible refine(fW.calls k _ _ X _ _ gj false _ ?aZ ?ae ?ay ?bI A4.out).mono ?_);(case aZ=>exact cb bo HB);(case ae=>exact cU.out);(case ay=>exact cb Cn HB);(case bI=>exact Co.out);rintro e Px ⟨rfl,hb⟩;refine⟨_,rfl, ?_⟩;replace g8:=nb g8 hb;replace lS:=nb lS hb;replace HB:=Ah (aH (am HB ly vD) hb);(try clear hb)))
  go_ret
  exact⟨er,am HB ly vD⟩
 subst c5;rw[if_pos rfl]at H;replace H:=Gl.mp H;obtain⟨Ox,tE,H⟩:=H
 try dsimp only at H
 have A6:=Ah tE;clear tE
 by_cases c7:Ox=true
 ·
  subst c7;rw[if_pos rfl]at H;obtain rfl:=Gn H
  go_enter abt,Try.ntmps26
  go_wp2_with (first|((with_reducible refine ag (N:=2) rfl ?_);refine an 2 26 #[.int .i64 aA,.slice af X.length aa,.slice ab aC.length ac] ?_;intro ZA hg w8 g8 hb;have ZB:=gw hg (bs HB);have ly:=gw hg (bs HB);replace HB:=Ah (aH (bs HB) hb);clear hb hg)|((with_reducible refine ag (N:=3) rfl ?_);refine an 3 26 #[.int .i64 aN,.slice o9 gj.length oA,.slice p3 i6.length p4] ?_;intro ZC hg w9 lS hb;have ZD:=gw hg (aM HB ly);have vD:=gw hg (aM HB ly);replace HB:=Ah (aH (aM HB ly) hb);have Dv:=nn g8 hg;have Dw:=nm g8 hg;replace g8:=nb g8 hb;clear hb hg;have IW:=Dv.out;have IX:=Dw.out;obtain⟨oO,oP,qx⟩:=dE g8;obtain⟨oQ,oR,qy⟩:=dF g8;obtain⟨tQ,tR,yJ⟩:=dE lS;obtain⟨tS,tT,yK⟩:=dF lS)|((with_reducible refine bY (f:=48) rfl ?_);refine gL (some 14) rfl rfl abH (by kernel_rfl) rfl #[.slice af X.length aa,.slice o9 gj.length oA] rfl ?_;(with_reducible refine(fW.calls k _ _ X _ _ gj true _ ?aZ ?ae ?ay ?bI A4.out).mono ?_);(case aZ=>exact cb bo HB);(case ae=>exact cU.out);(case ay=>exact cb Cn HB);(case bI=>exact Co.out);rintro e pd ⟨rfl,hb⟩;refine⟨_,rfl, ?_⟩;replace g8:=nb g8 hb;replace lS:=nb lS hb;replace HB:=Ah (aH (am HB ly vD) hb);(try clear hb);obtain⟨sG,sH,E6⟩:=dE g8;obtain⟨sI,sJ,E7⟩:=dF g8;obtain⟨um,un,CI⟩:=dE lS;obtain⟨uo,uq,CJ⟩:=dF lS)|((with_reducible refine bY (f:=48) rfl ?_);refine gL (some 20) rfl rfl abH (by kernel_rfl) rfl #[.slice ab aC.length ac,.slice p3 i6.length p4] rfl ?_;(with_reducible refine(fW.calls k _ _ aC _ _ i6 true _ ?aZ ?ae ?ay ?bI A6.out).mono ?_);(case aZ=>exact cb cn HB);(case ae=>exact co.out);(case ay=>exact cb F2 HB);(case bI=>exact F3.out);rintro e w16 ⟨rfl,hb⟩;refine⟨_,rfl, ?_⟩;replace g8:=nb g8 hb;replace lS:=nb lS hb;replace HB:=Ah (aH (am HB ly vD) hb);(try clear hb)))
  go_ret
  exact⟨er,am HB ly vD⟩
 replace c7:=PT.mpr c7;subst c7;rw[if_neg dr]at H;obtain rfl:=Gn H
 go_enter abt,Try.ntmps26
 go_wp2_with (first|((with_reducible refine ag (N:=2) rfl ?_);refine an 2 26 #[.int .i64 aA,.slice af X.length aa,.slice ab aC.length ac] ?_;intro ZA hg de g8 hb;have ZB:=gw hg (bs HB);have ly:=gw hg (bs HB);replace HB:=Ah (aH (bs HB) hb);clear hb hg)|((with_reducible refine ag (N:=3) rfl ?_);refine an 3 26 #[.int .i64 aN,.slice o9 gj.length oA,.slice p3 i6.length p4] ?_;intro ZC hg cG lS hb;have ZD:=gw hg (aM HB ly);have vD:=gw hg (aM HB ly);replace HB:=Ah (aH (aM HB ly) hb);have Dv:=nn g8 hg;have Dw:=nm g8 hg;replace g8:=nb g8 hb;clear hb hg;have MB:=Dv.out;have MC:=Dw.out;obtain⟨pn,po,qY⟩:=dE g8;obtain⟨pp,pq,qZ⟩:=dF g8;obtain⟨hcz21_0,hcz21_1,hcz21_2⟩:=dE lS;obtain⟨hfz21_0,hfz21_1,hfz21_2⟩:=dF lS)|((with_reducible refine bY (f:=48) rfl ?_);refine gL (some 14) rfl rfl abH (by kernel_rfl) rfl #[.slice af X.length aa,.slice o9 gj.length oA] rfl ?_;(with_reducible refine(fW.calls k _ _ X _ _ gj true _ ?aZ ?ae ?ay ?bI A4.out).mono ?_);(case aZ=>exact cb bo HB);(case ae=>exact cU.out);(case ay=>exact cb Cn HB);(case bI=>exact Co.out);rintro e DY ⟨rfl,hb⟩;refine⟨_,rfl, ?_⟩;replace g8:=nb g8 hb;replace lS:=nb lS hb;replace HB:=Ah (aH (am HB ly vD) hb);(try clear hb);obtain⟨Kz,L0,Rl⟩:=dE g8;obtain⟨L1,L2,Rm⟩:=dF g8;obtain⟨zt,zu,Ht⟩:=dE lS;obtain⟨zv,zw,Hu⟩:=dF lS)|((with_reducible refine bY (f:=48) rfl ?_);refine gL (some 20) rfl rfl abH (by kernel_rfl) rfl #[.slice ab aC.length ac,.slice p3 i6.length p4] rfl ?_;(with_reducible refine(fW.calls k _ _ aC _ _ i6 false _ ?aZ ?ae ?ay ?bI A6.out).mono ?_);(case aZ=>exact cb cn HB);(case ae=>exact co.out);(case ay=>exact cb F2 HB);(case bI=>exact F3.out);rintro e ek ⟨rfl,hb⟩;refine⟨_,rfl, ?_⟩;replace g8:=nb g8 hb;replace lS:=nb lS hb;replace HB:=Ah (aH (am HB ly vD) hb);(try clear hb)))
 go_ret
 exact⟨er,am HB ly vD⟩
def Dm.f(aA:Int)(bN:Int)(eI:Int)(aV:Int)(iG:Int)(aN:Int)(aQ:Int)(av:Int)(au:Int)(b7:Int):Option (Bool):=if aA=aN then(if bN=aQ then((nY.f eI aV av au).bind fun Oy=>(if Oy=true then(if iG=b7 then(some true)else(some false))else(some false)))else(some false))else(some false)
theorem Dm.calls(aA:Int)(bN:Int)(eI:Int)(aV:Int)(iG:Int)(aN:Int)(aQ:Int)(av:Int)(au:Int)(b7:Int)(r:Bool)(w:World)(h:Dm.f aA bN eI aV iG aN aQ av au b7=some r):
 Calls Uf 49 #[.agg #[.int .i64 aA,.int .i64 bN,.int .i64 eI,.int .i64 aV,.int .i64 iG],.agg #[.int .i64 aN,.int .i64 aQ,.int .i64 av,.int .i64 au,.int .i64 b7]] w fun e w'=>e= .returned (.bool r)∧Below w.heap.size w w':=by
 have u7:=aay;have jT:=fk;have HB:=Ah (Ud w.heap.size w);have H:(if aA=aN then(if bN=aQ then((nY.f eI aV av au).bind fun Oy=>(if Oy=true then(if iG=b7 then(some true)else(some false))else(some false)))else(some false))else(some false))=some r:=h;clear h
 by_cases c3:aA=aN
 rotate_left
 ·
  rw[if_neg c3]at H;have dc:=fS c3;have jr:=fT c3;obtain rfl:=Gn H
  go_enter Try.func49,Try.ntmps49
  go_wp2_with (first|((with_reducible refine ag (N:=2) rfl ?_);refine an 2 66 #[.int .i64 aA,.int .i64 bN,.int .i64 eI,.int .i64 aV,.int .i64 iG] ?_;intro TS hg Pw fY hb;have TT:=gw hg (bs HB);have kj:=gw hg (bs HB);replace HB:=Ah (aH (bs HB) hb);clear hb hg)|((with_reducible refine ag (N:=3) rfl ?_);refine an 3 66 #[.int .i64 aN,.int .i64 aQ,.int .i64 av,.int .i64 au,.int .i64 b7] ?_;intro TU hg UY lz hb;have TV:=gw hg (aM HB kj);have vE:=gw hg (aM HB kj);replace HB:=Ah (aH (aM HB kj) hb);have zJ:=nn fY hg;have zK:=nm fY hg;replace fY:=nb fY hb;clear hb hg;have MH:=zJ.out;have MI:=zK.out;obtain⟨EC,ED,Ke,Kf,Kg⟩:=aj fY;obtain⟨EI,EJ,Kh,Ki,Kj⟩:=ai fY;obtain⟨X1,hcz39_1,hcz39_2,hcz39_3,hcz39_4⟩:=aj lz;obtain⟨X2,hfz39_1,hfz39_2,hfz39_3,hfz39_4⟩:=ai lz))
  go_ret
  exact⟨er,am HB kj vE⟩
 rw[if_pos c3]at H;have dc:=fU c3;have jr:=fV c3;clear c3
 by_cases c4:bN=aQ
 rotate_left
 ·
  rw[if_neg c4]at H;have fB:=fS c4;have Oq:=fT c4;obtain rfl:=Gn H
  go_enter Try.func49,Try.ntmps49
  go_wp2_with (first|((with_reducible refine ag (N:=2) rfl ?_);refine an 2 66 #[.int .i64 aA,.int .i64 bN,.int .i64 eI,.int .i64 aV,.int .i64 iG] ?_;intro TS hg w30 fY hb;have TT:=gw hg (bs HB);have kj:=gw hg (bs HB);replace HB:=Ah (aH (bs HB) hb);clear hb hg)|((with_reducible refine ag (N:=3) rfl ?_);refine an 3 66 #[.int .i64 aN,.int .i64 aQ,.int .i64 av,.int .i64 au,.int .i64 b7] ?_;intro TU hg Px lz hb;have TV:=gw hg (aM HB kj);have vE:=gw hg (aM HB kj);replace HB:=Ah (aH (aM HB kj) hb);have zJ:=nn fY hg;have zK:=nm fY hg;replace fY:=nb fY hb;clear hb hg;have MO:=zJ.out;have MP:=zK.out;obtain⟨EO,EP,Hh,Hi,Hj⟩:=aj fY;obtain⟨EQ,ER,Hk,Hl,Hm⟩:=ai fY;obtain⟨RO,RP,XC,hcz34_3,hcz34_4⟩:=aj lz;obtain⟨RQ,RR,XD,hfz34_3,hfz34_4⟩:=ai lz))
  go_ret
  exact⟨er,am HB kj vE⟩
 rw[if_pos c4]at H;have fB:=fU c4;have Oq:=fV c4;clear c4;replace H:=Gl.mp H;obtain⟨Oy,kI,H⟩:=H
 try dsimp only at H
 have A5:=Ah kI;clear kI
 by_cases c6:Oy=true
 rotate_left
 ·
  replace c6:=PT.mpr c6;subst c6;rw[if_neg dr]at H;obtain rfl:=Gn H
  go_enter Try.func49,Try.ntmps49
  go_wp2_with (first|((with_reducible refine ag (N:=2) rfl ?_);refine an 2 66 #[.int .i64 aA,.int .i64 bN,.int .i64 eI,.int .i64 aV,.int .i64 iG] ?_;intro TS hg mA fY hb;have TT:=gw hg (bs HB);have kj:=gw hg (bs HB);replace HB:=Ah (aH (bs HB) hb);clear hb hg)|((with_reducible refine ag (N:=3) rfl ?_);refine an 3 66 #[.int .i64 aN,.int .i64 aQ,.int .i64 av,.int .i64 au,.int .i64 b7] ?_;intro TU hg ek lz hb;have TV:=gw hg (aM HB kj);have vE:=gw hg (aM HB kj);replace HB:=Ah (aH (aM HB kj) hb);have zJ:=nn fY hg;have zK:=nm fY hg;replace fY:=nb fY hb;clear hb hg;have TF:=zJ.out;have TG:=zK.out;obtain⟨hcz27_0,hcz27_1,hcz27_2,hcz27_3,hcz27_4⟩:=aj fY;obtain⟨hfz27_0,hfz27_1,hfz27_2,hfz27_3,hfz27_4⟩:=ai fY;obtain⟨zr,CG,RY,hcz28_3,hcz28_4⟩:=aj lz;obtain⟨zs,CH,RZ,hfz28_3,hfz28_4⟩:=ai lz)|((with_reducible refine bY (f:=50) rfl ?_);refine gL (some 19) rfl rfl aa2 (by kernel_rfl) rfl #[.agg #[.int .i64 eI,.int .i64 aV],.agg #[.int .i64 av,.int .i64 au]] rfl ?_;(with_reducible refine(nY.calls eI aV av au false _ A5.out).mono ?_);rintro e DJ ⟨rfl,hb⟩;refine⟨_,rfl, ?_⟩;replace fY:=nb fY hb;replace lz:=nb lz hb;replace HB:=Ah (aH (am HB kj vE) hb);(try clear hb)))
  go_ret
  exact⟨er,am HB kj vE⟩
 subst c6;rw[if_pos rfl]at H
 by_cases c7:iG=b7
 rotate_left
 ·
  rw[if_neg c7]at H;have pY:=fS c7;have uA:=fT c7;obtain rfl:=Gn H
  go_enter Try.func49,Try.ntmps49
  go_wp2_with (first|((with_reducible refine ag (N:=2) rfl ?_);refine an 2 66 #[.int .i64 aA,.int .i64 bN,.int .i64 eI,.int .i64 aV,.int .i64 iG] ?_;intro TS hg w16 fY hb;have TT:=gw hg (bs HB);have kj:=gw hg (bs HB);replace HB:=Ah (aH (bs HB) hb);clear hb hg)|((with_reducible refine ag (N:=3) rfl ?_);refine an 3 66 #[.int .i64 aN,.int .i64 aQ,.int .i64 av,.int .i64 au,.int .i64 b7] ?_;intro TU hg de lz hb;have TV:=gw hg (aM HB kj);have vE:=gw hg (aM HB kj);replace HB:=Ah (aH (aM HB kj) hb);have zJ:=nn fY hg;have zK:=nm fY hg;replace fY:=nb fY hb;clear hb hg;have T0:=zJ.out;have T2:=zK.out;obtain⟨E2,E3,X8,hcz19_3,hcz19_4⟩:=aj fY;obtain⟨E4,E5,X9,hfz19_3,hfz19_4⟩:=ai fY;obtain⟨pn,po,qY,zn,zo⟩:=aj lz;obtain⟨pp,pq,qZ,zp,zq⟩:=ai lz)|((with_reducible refine bY (f:=50) rfl ?_);refine gL (some 19) rfl rfl aa2 (by kernel_rfl) rfl #[.agg #[.int .i64 eI,.int .i64 aV],.agg #[.int .i64 av,.int .i64 au]] rfl ?_;(with_reducible refine(nY.calls eI aV av au true _ A5.out).mono ?_);rintro e vS ⟨rfl,hb⟩;refine⟨_,rfl, ?_⟩;replace fY:=nb fY hb;replace lz:=nb lz hb;replace HB:=Ah (aH (am HB kj vE) hb);(try clear hb);obtain⟨tU,tV,ui,wA,wB⟩:=aj fY;obtain⟨tW,tX,ul,wD,wE⟩:=ai fY;obtain⟨Kz,L0,Rl,XS,XT⟩:=aj lz;obtain⟨L1,L2,Rm,XU,XV⟩:=ai lz))
  go_ret
  exact⟨er,am HB kj vE⟩
 rw[if_pos c7]at H;have pY:=fU c7;have uA:=fV c7;clear c7;obtain rfl:=Gn H
 go_enter Try.func49,Try.ntmps49
 go_wp2_with (first|((with_reducible refine ag (N:=2) rfl ?_);refine an 2 66 #[.int .i64 aA,.int .i64 bN,.int .i64 eI,.int .i64 aV,.int .i64 iG] ?_;intro TS hg w8 fY hb;have TT:=gw hg (bs HB);have kj:=gw hg (bs HB);replace HB:=Ah (aH (bs HB) hb);clear hb hg)|((with_reducible refine ag (N:=3) rfl ?_);refine an 3 66 #[.int .i64 aN,.int .i64 aQ,.int .i64 av,.int .i64 au,.int .i64 b7] ?_;intro TU hg w9 lz hb;have TV:=gw hg (aM HB kj);have vE:=gw hg (aM HB kj);replace HB:=Ah (aH (aM HB kj) hb);have zJ:=nn fY hg;have zK:=nm fY hg;replace fY:=nb fY hb;clear hb hg;have IW:=zJ.out;have IX:=zK.out;obtain⟨oO,oP,qx,sK,sL⟩:=aj fY;obtain⟨oQ,oR,qy,sM,sN⟩:=ai fY;obtain⟨tQ,tR,yJ,Wx,Wy⟩:=aj lz;obtain⟨tS,tT,yK,Wz,X0⟩:=ai lz)|((with_reducible refine bY (f:=50) rfl ?_);refine gL (some 19) rfl rfl aa2 (by kernel_rfl) rfl #[.agg #[.int .i64 eI,.int .i64 aV],.agg #[.int .i64 av,.int .i64 au]] rfl ?_;(with_reducible refine(nY.calls eI aV av au true _ A5.out).mono ?_);rintro e pd ⟨rfl,hb⟩;refine⟨_,rfl, ?_⟩;replace fY:=nb fY hb;replace lz:=nb lz hb;replace HB:=Ah (aH (am HB kj vE) hb);(try clear hb);obtain⟨sG,sH,E6,H9,HG⟩:=aj fY;obtain⟨sI,sJ,E7,HH,HI⟩:=ai fY;obtain⟨um,un,CI,EK,EL⟩:=aj lz;obtain⟨uo,uq,CJ,EM,EN⟩:=ai lz))
 go_ret
 exact⟨er,am HB kj vE⟩
def gW.l0:Nat→List (aJ)→List (aJ)→Int→Option (Bool)
 |0,_,_,_=>none
 |k+1,x0,x1,x5=>if x5<(x0.length:Int)then(if 0≤x5 then(if x5<(x1.length:Int)then((Dm.f ((U x0 x5).f0) ((U x0 x5).f1) ((U x0 x5).f2.f0) ((U x0 x5).f2.f1) ((U x0 x5).f3) ((U x1 x5).f0) ((U x1 x5).f1) ((U x1 x5).f2.f0) ((U x1 x5).f2.f1) ((U x1 x5).f3)).bind fun a07=>(if a07=true then(gW.l0 k x0 x1 (Gj (x5+1)))else(some false)))else(none))else(none))else(some true)
def gW.f(k:Nat)(l0:List (aJ))(l1:List (aJ)):Option (Bool):=if(l0.length:Int)=(l1.length:Int)then(gW.l0 k l0 l1 0)else(some false)
theorem gW.cQ:∀k,(∀y0 y1 y2,aG (gW.l0 k y0 y1 y2) (gW.l0 (k+1) y0 y1 y2))
 |0=>fun _ _ _ r h=>by simp[gW.l0]at h
 |k+1=>by
  have bS:=gW.cQ k
  ·
   intro y0 y1 y2;unfold gW.l0
   repeat' with_reducible first|exact bS _ _ _|exact aG.refl _|exact aG.none _|refine aG.ite ?_ ?_|refine aG.bind ?_ (fun _=> ?_)
theorem gW.mono:∀a0 a1 k,aG (gW.f k a0 a1) (gW.f (k+1) a0 a1):=by
 intro a0 a1 k;have bS:=gW.cQ k;unfold gW.f
 repeat' with_reducible first|exact bS _ _ _|exact aG.refl _|exact aG.none _|refine aG.ite ?_ ?_|refine aG.bind ?_ (fun _=> ?_)
def gW.T6:Bool×List (List Nat×List Nat):=(true,[([],[]),([],[]),([0,1],[0,1]),([2],[2]),([],[]),([],[]),([4,5],[4,5]),([6],[6]),([3,7],[3,7]),([8],[8])])
def gW.B6:List Nat:=[0,0,3,7,0,0,48,112,255,511]
theorem gW.sm:i5 .any (uw Try.f27 6)=gW.T6:=by kernel_rfl
theorem gW.sb:pm gW.T6.2 gW.B6=true:=by kernel_rfl
theorem gW.calls(k:Nat)(A0:Option Addr)(c0:Nat)(l0:List (aJ))(A1:Option Addr)(c1:Nat)(l1:List (aJ))(r:Bool)(w:World)(hr0:Kd.C b8 w A0 l0.length l0)(hc0:l0.length≤c0)(hr1:Kd.C b8 w A1 l1.length l1)(hc1:l1.length≤c1)(h:gW.f k l0 l1=some r):
 Calls Uf 27 #[.slice A0 l0.length c0,.slice A1 l1.length c1] w fun e w'=>e= .returned (.bool r)∧Below w.heap.size w w':=by
 have u7:=aay;have cX:=Ah hr0;have oE:=Ah hc0;clear hr0 hc0;have HR1:=Ah hr1;have qn:=Ah hc1;clear hr1 hc1;have HB:=Ah (Ud w.heap.size w);have H:(if(l0.length:Int)=(l1.length:Int)then(gW.l0 k l0 l1 0)else(some false))=some r:=h;clear h
 by_cases c3:(l0.length:Int)=(l1.length:Int)
 rotate_left
 ·
  rw[if_neg c3]at H;have dc:=fS c3;have jr:=fT c3
  have qG:(l0.length==l1.length)=false:=by first|simpa using c3|(simp at c3⊢;omega)
  obtain rfl:=Gn H
  go_enter Try.func27,Try.ntmps27
  go_wp2
  go_ret
  exact⟨er,bs HB⟩
 rw[if_pos c3]at H;have dc:=fU c3;have jr:=fV c3
 have qG:(l0.length==l1.length)=true:=by first|simpa using c3|(simp at c3⊢;omega)
 clear c3;have H':=Ah H;clear H
 go_enter Try.func27,Try.ntmps27
 go_wp2
 go_loopg [5] k (fun kq v5 w'=>∃ (I:Int),v5= .int .i64 I∧Z (gW.l0 kq l0 l1 I=some r)∧Z (kq≤k)∧Z (Below w.heap.size w w'))
 case atStart=>exact⟨(0),e3,H',⟨QQ _⟩,⟨bs HB⟩⟩
 case round=>
  clear H'
  try clear c1
  try clear c2
  try clear p2
  try clear c3
  try clear dc
  try clear jr
  try clear qG
  obtain⟨I,rfl,HA,bi,HB⟩:=hrel
  cases gk with
  |zero=>exact absurd HA.out (by simp[gW.l0])
  |succ k1=>
   have H:=HA.out;clear HA;simp only[gW.l0]at H
   by_cases c4:I<(l0.length:Int)
   rotate_left
   ·
    rw[if_neg c4]at H;have fB:=dn c4;clear c4;obtain rfl:=Gn H
    go_wp2
    go_ret
    exact⟨er,bs HB⟩
   rw[if_pos c4]at H;have fB:=bJ c4;clear c4
   by_cases c5:0≤I
   rotate_left
   ·
    rw[if_neg c5]at H;exact absurd H (by simp)
   rw[if_pos c5]at H;have kV:=bJ c5;clear c5
   by_cases c6:I<(l1.length:Int)
   rotate_left
   ·
    rw[if_neg c6]at H;exact absurd H (by simp)
   rw[if_pos c6]at H;have o6:=bJ c6;clear c6;replace H:=Gl.mp H;obtain⟨a07,kJ,H⟩:=H
   try dsimp only at H
   have A7:=Ah kJ;clear kJ;have H_:=Ah H;clear H
   try go_wp2
   replace HB:=Ah (j7 HB.out);have a08:0≤(I:Int):=od;have a09:I<(l0.length:Int):=od;obtain⟨AX,e729,Rn,Ro,Rp,Rq,Rs⟩:=eC cX.out I a08 a09;have Hz:=Rs;have I0:=Rq;have I1:=Rp;have I2:=Ro;have I3:=Rn
   cases e729
   replace Rn:=hq HB Rn;replace Ro:=hq HB Ro;replace Rp:=hq HB Rp;replace Rq:=hq HB Rq;replace Rs:=hq HB Rs;replace a08:=eq_true a08;replace a09:=eq_true a09;have a1a:0≤(I:Int):=od;have a1b:I<(l1.length:Int):=od;obtain⟨AY,e730,Rt,Ru,Rv,Rw,Rx⟩:=eC HR1.out I a1a a1b;have I4:=Rx;have I5:=Rw;have I6:=Rv;have I7:=Ru;have I8:=Rt
   cases e730
   replace Rt:=hq HB Rt;replace Ru:=hq HB Ru;replace Rv:=hq HB Rv;replace Rw:=hq HB Rw;replace Rx:=hq HB Rx;replace a1a:=eq_true a1a;replace a1b:=eq_true a1b;refine mt (n:=10) (S:=fun w'=>w'.cell? (AX.add ((I).toNat*5))=some (.int .i64 ((U l0 I).f0))∧w'.cell? ⟨(AX.add ((I).toNat*5)).block,(AX.add ((I).toNat*5)).off+1,none⟩=some (.int .i64 ((U l0 I).f1))∧w'.cell? ⟨(AX.add ((I).toNat*5)).block,(AX.add ((I).toNat*5)).off+2,none⟩=some (.int .i64 ((U l0 I).f2.f0))∧w'.cell? ⟨(AX.add ((I).toNat*5)).block,(AX.add ((I).toNat*5)).off+3,none⟩=some (.int .i64 ((U l0 I).f2.f1))∧w'.cell? ⟨(AX.add ((I).toNat*5)).block,(AX.add ((I).toNat*5)).off+4,none⟩=some (.int .i64 ((U l0 I).f3))∧w'.cell? (AY.add ((I).toNat*5))=some (.int .i64 ((U l1 I).f0))∧w'.cell? ⟨(AY.add ((I).toNat*5)).block,(AY.add ((I).toNat*5)).off+1,none⟩=some (.int .i64 ((U l1 I).f1))∧w'.cell? ⟨(AY.add ((I).toNat*5)).block,(AY.add ((I).toNat*5)).off+2,none⟩=some (.int .i64 ((U l1 I).f2.f0))∧w'.cell? ⟨(AY.add ((I).toNat*5)).block,(AY.add ((I).toNat*5)).off+3,none⟩=some (.int .i64 ((U l1 I).f2.f1))∧w'.cell? ⟨(AY.add ((I).toNat*5)).block,(AY.add ((I).toNat*5)).off+4,none⟩=some (.int .i64 ((U l1 I).f3))) (ds:=[]) #[false,false,false,false,false,false,false,false,false,false] (by kernel_rfl) rfl rfl ⟨((HB.out.cell (Gk w _ I3)).trans I3),((HB.out.cell (Gk w _ I2)).trans I2),((HB.out.cell (Gk w _ I1)).trans I1),((HB.out.cell (Gk w _ I0)).trans I0),((HB.out.cell (Gk w _ Hz)).trans Hz),((HB.out.cell (Gk w _ I8)).trans I8),((HB.out.cell (Gk w _ I7)).trans I7),((HB.out.cell (Gk w _ I6)).trans I6),((HB.out.cell (Gk w _ I5)).trans I5),((HB.out.cell (Gk w _ I4)).trans I4)⟩ (fun hHeld=> ?_);refine na gW.sm gW.sb (fun aI cz=> ?_)
   generalize wr.drew=w9 at HB Rn Ro Rp Rq Rs Rt Ru Rv Rw Rx hHeld⊢
   refine b6 0 17 aI.out ?_;refine b6 1 18 aI.out ?_;refine b6 2 19 aI.out ?_;refine b6 4 21 aI.out ?_;refine b6 5 22 aI.out ?_;refine b6 6 23 aI.out ?_;refine dv 3 20 aI.out cz.out hHeld (hr:=by rintro w' ⟨s0,s1,s2,s3,s4,s5,s6,s7,s8,s9⟩;go_simp;with_reducible rfl) (h:= ?_);refine dv 7 24 aI.out cz.out hHeld (hr:=by rintro w' ⟨s0,s1,s2,s3,s4,s5,s6,s7,s8,s9⟩;go_simp;with_reducible rfl) (h:= ?_);refine fv (i:=8) (N:=some 25) #[true,true,true,true,true,true,true,true,true,false] rfl rfl (gJ aI.out (by kernel_rfl)) (by decide) (fun K hK=> ?_);refine gZ Try.func49 (by kernel_rfl) rfl #[.agg #[.int .i64 ((U l0 I).f0),.int .i64 ((U l0 I).f1),.int .i64 ((U l0 I).f2.f0),.int .i64 ((U l0 I).f2.f1),.int .i64 ((U l0 I).f3)],.agg #[.int .i64 ((U l1 I).f0),.int .i64 ((U l1 I).f1),.int .i64 ((U l1 I).f2.f0),.int .i64 ((U l1 I).f2.f1),.int .i64 ((U l1 I).f3)]] (by rfl) rfl rfl (by(try simp only[List.map_toArray,List.map_cons,List.map_nil]);first|done|rfl|(simp only[List.length_drop,List.length_take];rfl)) ?_;have H:=H_.out;clear H_
   by_cases c8:a07=true
   rotate_left
   ·
    replace c8:=PT.mpr c8;subst c8;rw[if_neg dr]at H;obtain rfl:=Gn H
    with_reducible refine(Dm.calls ((U l0 I).f0) ((U l0 I).f1) ((U l0 I).f2.f0) ((U l0 I).f2.f1) ((U l0 I).f3) ((U l1 I).f0) ((U l1 I).f1) ((U l1 I).f2.f0) ((U l1 I).f2.f1) ((U l1 I).f3) false _ A7.out).mono ?_
    rintro e ef ⟨rfl,hb⟩;refine⟨_,rfl, ?_⟩;replace HB:=Ah (aH (bs HB) hb);(try clear hb);(try clear hb2);(try clear hk);(try clear hi);refine hK.out _ _ ⟨((HB.out.cell (Gk w _ I3)).trans I3),((HB.out.cell (Gk w _ I2)).trans I2),((HB.out.cell (Gk w _ I1)).trans I1),((HB.out.cell (Gk w _ I0)).trans I0),((HB.out.cell (Gk w _ Hz)).trans Hz),((HB.out.cell (Gk w _ I8)).trans I8),((HB.out.cell (Gk w _ I7)).trans I7),((HB.out.cell (Gk w _ I6)).trans I6),((HB.out.cell (Gk w _ I5)).trans I5),((HB.out.cell (Gk w _ I4)).trans I4)⟩ (fun hHeld=> ?_);clear hK K;refine nq 25 ?_;refine b6 9 26 aI.out ?_;refine jn (kO aI.out (by kernel_rfl)) ?_
    try go_wp2
    go_ret
    exact⟨er,bs HB⟩
   subst c8;rw[if_pos rfl]at H;have H':=Ah H;clear H
   with_reducible refine(Dm.calls ((U l0 I).f0) ((U l0 I).f1) ((U l0 I).f2.f0) ((U l0 I).f2.f1) ((U l0 I).f3) ((U l1 I).f0) ((U l1 I).f1) ((U l1 I).f2.f0) ((U l1 I).f2.f1) ((U l1 I).f3) true _ A7.out).mono ?_
   rintro e lp ⟨rfl,hb⟩;refine⟨_,rfl, ?_⟩;replace HB:=Ah (aH (bs HB) hb);(try clear hb);(try clear hb2);(try clear hk);(try clear hi);refine hK.out _ _ ⟨((HB.out.cell (Gk w _ I3)).trans I3),((HB.out.cell (Gk w _ I2)).trans I2),((HB.out.cell (Gk w _ I1)).trans I1),((HB.out.cell (Gk w _ I0)).trans I0),((HB.out.cell (Gk w _ Hz)).trans Hz),((HB.out.cell (Gk w _ I8)).trans I8),((HB.out.cell (Gk w _ I7)).trans I7),((HB.out.cell (Gk w _ I6)).trans I6),((HB.out.cell (Gk w _ I5)).trans I5),((HB.out.cell (Gk w _ I4)).trans I4)⟩ (fun hHeld=> ?_);clear hK K;refine nq 25 ?_;refine b6 9 26 aI.out ?_;refine jn (kO aI.out (by kernel_rfl)) ?_
   try go_wp2
   go_roundg k1
   case measure=>have:=bi.out;omega
   case rel=>exact⟨(Gj (I+1)),e3,H',⟨by have:=bi.out;omega⟩,⟨bs HB⟩⟩
def uV.f(k:Nat)(aA:Int)(X:List (Y))(aC:List (Y))(aV:Int)(aU:List (aJ))(aN:Int)(gj:List (Y))(i6:List (Y))(au:Int)(ql:List (aJ)):Option (Bool):=(qu.f k aA X aC aN gj i6).bind fun Oz=>(if Oz=true then(if aV=au then((gW.f k aU ql).bind fun P0=>(if P0=true then(some true)else(some false)))else(some false))else(some false))
theorem uV.mono:∀a0 a1 a2 a3 a4 a5 a6 a7 a8 a9 k,aG (uV.f k a0 a1 a2 a3 a4 a5 a6 a7 a8 a9) (uV.f (k+1) a0 a1 a2 a3 a4 a5 a6 a7 a8 a9):=by
 intro a0 a1 a2 a3 a4 a5 a6 a7 a8 a9 k;unfold uV.f
 repeat' with_reducible first|exact qu.mono _ _ _ _ _ _ _|exact gW.mono _ _ _|exact aG.refl _|exact aG.none _|refine aG.ite ?_ ?_|refine aG.bind ?_ (fun _=> ?_)
theorem uV.calls(k:Nat)(aA:Int)(af:Option Addr)(aa:Nat)(X:List (Y))(ab:Option Addr)(ac:Nat)(aC:List (Y))(aV:Int)(bG:Option Addr)(bH:Nat)(aU:List (aJ))(aN:Int)(o9:Option Addr)(oA:Nat)(gj:List (Y))(p3:Option Addr)(p4:Nat)(i6:List (Y))(au:Int)(DD:Option Addr)(DE:Nat)(ql:List (aJ))(r:Bool)(w:World)(dO:Kd.C aT w af X.length X)(dP:X.length≤aa)(dQ:Kd.C aT w ab aC.length aC)(dR:aC.length≤ac)(gu:Kd.C b8 w bG aU.length aU)(gy:aU.length≤bH)(NA:Kd.C aT w o9 gj.length gj)(NB:gj.length≤oA)(NC:Kd.C aT w p3 i6.length i6)(ND:i6.length≤p4)(hr1_4:Kd.C b8 w DD ql.length ql)(hc1_4:ql.length≤DE)(h:uV.f k aA X aC aV aU aN gj i6 au ql=some r):
 Calls Uf 8 #[.agg #[.int .i64 aA,.slice af X.length aa,.slice ab aC.length ac,.int .i64 aV,.slice bG aU.length bH],.agg #[.int .i64 aN,.slice o9 gj.length oA,.slice p3 i6.length p4,.int .i64 au,.slice DD ql.length DE]] w fun e w'=>e= .returned (.bool r)∧Below w.heap.size w w':=by
 have sn:=cp;have mL:=ig;have bo:=Ah dO;have cU:=Ah dP;clear dO dP;have cn:=Ah dQ;have co:=Ah dR;clear dQ dR;have fF:=Ah gu;have fL:=Ah gy;clear gu gy;have Cn:=Ah NA;have Co:=Ah NB;clear NA NB;have F2:=Ah NC;have F3:=Ah ND;clear NC ND;have HR1_4:=Ah hr1_4;have HC1_4:=Ah hc1_4;clear hr1_4 hc1_4;have HB:=Ah (Ud w.heap.size w);have H:((qu.f k aA X aC aN gj i6).bind fun Oz=>(if Oz=true then(if aV=au then((gW.f k aU ql).bind fun P0=>(if P0=true then(some true)else(some false)))else(some false))else(some false)))=some r:=h;clear h;replace H:=Gl.mp H;obtain⟨Oz,dj,H⟩:=H
 try dsimp only at H
 have A3:=Ah dj;clear dj
 by_cases c4:Oz=true
 rotate_left
 ·
  replace c4:=PT.mpr c4;subst c4;rw[if_neg dr]at H;obtain rfl:=Gn H
  go_enter Try.func8,Try.ntmps8
  go_wp2_with (first|((with_reducible refine ag (N:=2) rfl ?_);refine an 2 29 #[.int .i64 aA,.slice af X.length aa,.slice ab aC.length ac,.int .i64 aV,.slice bG aU.length bH] ?_;intro ZE hg w34 fO hb;have ZF:=gw hg (bs HB);have lT:=gw hg (bs HB);replace HB:=Ah (aH (bs HB) hb);clear hb hg)|((with_reducible refine ag (N:=3) rfl ?_);refine an 3 29 #[.int .i64 aN,.slice o9 gj.length oA,.slice p3 i6.length p4,.int .i64 au,.slice DD ql.length DE] ?_;intro ZG hg Pw kA hb;have ZH:=gw hg (aM HB lT);have tt:=gw hg (aM HB lT);replace HB:=Ah (aH (aM HB lT) hb);have Dx:=nn fO hg;have Dy:=nm fO hg;replace fO:=nb fO hb;clear hb hg;have TH:=Dx.out;have TI:=Dy.out;obtain⟨hcz37_0,hcz37_1,hcz37_2,hcz37_3,hcz37_4⟩:=aj fO;obtain⟨hfz37_0,hfz37_1,hfz37_2,hfz37_3,hfz37_4⟩:=ai fO;obtain⟨EC,ED,Ke,Kf,Kg⟩:=aj kA;obtain⟨EI,EJ,Kh,Ki,Kj⟩:=ai kA)|((with_reducible refine bY (f:=26) rfl ?_);refine gL (some 9) rfl rfl abt (by kernel_rfl) rfl #[.agg #[.int .i64 aA,.slice af X.length aa,.slice ab aC.length ac],.agg #[.int .i64 aN,.slice o9 gj.length oA,.slice p3 i6.length p4]] rfl ?_;(with_reducible refine(qu.calls k aA _ _ X _ _ aC aN _ _ gj _ _ i6 false _ ?aZ ?ae ?ay ?bI ?cq ?d7 ?F5 ?F6 A3.out).mono ?_);(case aZ=>exact cb bo HB);(case ae=>exact cU.out);(case ay=>exact cb cn HB);(case bI=>exact co.out);(case cq=>exact cb Cn HB);(case d7=>exact Co.out);(case F5=>exact cb F2 HB);(case F6=>exact F3.out);rintro e Pr ⟨rfl,hb⟩;refine⟨_,rfl, ?_⟩;replace fO:=nb fO hb;replace kA:=nb kA hb;replace HB:=Ah (aH (am HB lT tt) hb);(try clear hb)))
  go_ret
  exact⟨er,am HB lT tt⟩
 subst c4;rw[if_pos rfl]at H
 by_cases c5:aV=au
 rotate_left
 ·
  rw[if_neg c5]at H;have kV:=fS c5;have vL:=fT c5;obtain rfl:=Gn H
  go_enter Try.func8,Try.ntmps8
  go_wp2_with (first|((with_reducible refine ag (N:=2) rfl ?_);refine an 2 29 #[.int .i64 aA,.slice af X.length aa,.slice ab aC.length ac,.int .i64 aV,.slice bG aU.length bH] ?_;intro ZE hg GZ fO hb;have ZF:=gw hg (bs HB);have lT:=gw hg (bs HB);replace HB:=Ah (aH (bs HB) hb);clear hb hg)|((with_reducible refine ag (N:=3) rfl ?_);refine an 3 29 #[.int .i64 aN,.slice o9 gj.length oA,.slice p3 i6.length p4,.int .i64 au,.slice DD ql.length DE] ?_;intro ZG hg BK kA hb;have ZH:=gw hg (aM HB lT);have tt:=gw hg (aM HB lT);replace HB:=Ah (aH (aM HB lT) hb);have Dx:=nn fO hg;have Dy:=nm fO hg;replace fO:=nb fO hb;clear hb hg;have hnb28:=Dx.out;have hnc28:=Dy.out;obtain⟨hcz29_0,hcz29_1,hcz29_2,hcz29_3,hcz29_4⟩:=aj fO;obtain⟨hfz29_0,hfz29_1,hfz29_2,hfz29_3,hfz29_4⟩:=ai fO;obtain⟨XG,XH,XI,hcz30_3,hcz30_4⟩:=aj kA;obtain⟨XJ,XK,XL,hfz30_3,hfz30_4⟩:=ai kA)|((with_reducible refine bY (f:=26) rfl ?_);refine gL (some 9) rfl rfl abt (by kernel_rfl) rfl #[.agg #[.int .i64 aA,.slice af X.length aa,.slice ab aC.length ac],.agg #[.int .i64 aN,.slice o9 gj.length oA,.slice p3 i6.length p4]] rfl ?_;(with_reducible refine(qu.calls k aA _ _ X _ _ aC aN _ _ gj _ _ i6 true _ ?aZ ?ae ?ay ?bI ?cq ?d7 ?F5 ?F6 A3.out).mono ?_);(case aZ=>exact cb bo HB);(case ae=>exact cU.out);(case ay=>exact cb cn HB);(case bI=>exact co.out);(case cq=>exact cb Cn HB);(case d7=>exact Co.out);(case F5=>exact cb F2 HB);(case F6=>exact F3.out);rintro e Px ⟨rfl,hb⟩;refine⟨_,rfl, ?_⟩;replace fO:=nb fO hb;replace kA:=nb kA hb;replace HB:=Ah (aH (am HB lT tt) hb);(try clear hb);obtain⟨hcz32_0,hcz32_1,hcz32_2,hcz32_3,hcz32_4⟩:=aj fO;obtain⟨hfz32_0,hfz32_1,hfz32_2,hfz32_3,hfz32_4⟩:=ai fO;obtain⟨EO,EP,Hh,Hi,Hj⟩:=aj kA;obtain⟨EQ,ER,Hk,Hl,Hm⟩:=ai kA))
  go_ret
  exact⟨er,am HB lT tt⟩
 rw[if_pos c5]at H;have kV:=fU c5;have vL:=fV c5;clear c5;replace H:=Gl.mp H;obtain⟨P0,tE,H⟩:=H
 try dsimp only at H
 have A6:=Ah tE;clear tE
 by_cases c7:P0=true
 ·
  subst c7;rw[if_pos rfl]at H;obtain rfl:=Gn H
  go_enter Try.func8,Try.ntmps8
  go_wp2_with (first|((with_reducible refine ag (N:=2) rfl ?_);refine an 2 29 #[.int .i64 aA,.slice af X.length aa,.slice ab aC.length ac,.int .i64 aV,.slice bG aU.length bH] ?_;intro ZE hg w8 fO hb;have ZF:=gw hg (bs HB);have lT:=gw hg (bs HB);replace HB:=Ah (aH (bs HB) hb);clear hb hg)|((with_reducible refine ag (N:=3) rfl ?_);refine an 3 29 #[.int .i64 aN,.slice o9 gj.length oA,.slice p3 i6.length p4,.int .i64 au,.slice DD ql.length DE] ?_;intro ZG hg w9 kA hb;have ZH:=gw hg (aM HB lT);have tt:=gw hg (aM HB lT);replace HB:=Ah (aH (aM HB lT) hb);have Dx:=nn fO hg;have Dy:=nm fO hg;replace fO:=nb fO hb;clear hb hg;have IW:=Dx.out;have IX:=Dy.out;obtain⟨oO,oP,qx,sK,sL⟩:=aj fO;obtain⟨oQ,oR,qy,sM,sN⟩:=ai fO;obtain⟨tQ,tR,yJ,Wx,Wy⟩:=aj kA;obtain⟨tS,tT,yK,Wz,X0⟩:=ai kA)|((with_reducible refine bY (f:=26) rfl ?_);refine gL (some 9) rfl rfl abt (by kernel_rfl) rfl #[.agg #[.int .i64 aA,.slice af X.length aa,.slice ab aC.length ac],.agg #[.int .i64 aN,.slice o9 gj.length oA,.slice p3 i6.length p4]] rfl ?_;(with_reducible refine(qu.calls k aA _ _ X _ _ aC aN _ _ gj _ _ i6 true _ ?aZ ?ae ?ay ?bI ?cq ?d7 ?F5 ?F6 A3.out).mono ?_);(case aZ=>exact cb bo HB);(case ae=>exact cU.out);(case ay=>exact cb cn HB);(case bI=>exact co.out);(case cq=>exact cb Cn HB);(case d7=>exact Co.out);(case F5=>exact cb F2 HB);(case F6=>exact F3.out);rintro e pd ⟨rfl,hb⟩;refine⟨_,rfl, ?_⟩;replace fO:=nb fO hb;replace kA:=nb kA hb;replace HB:=Ah (aH (am HB lT tt) hb);(try clear hb);obtain⟨sG,sH,E6,H9,HG⟩:=aj fO;obtain⟨sI,sJ,E7,HH,HI⟩:=ai fO;obtain⟨um,un,CI,EK,EL⟩:=aj kA;obtain⟨uo,uq,CJ,EM,EN⟩:=ai kA)|((with_reducible refine bY (f:=27) rfl ?_);refine gL (some 20) rfl rfl Try.func27 (by kernel_rfl) rfl #[.slice bG aU.length bH,.slice DD ql.length DE] rfl ?_;(with_reducible refine(gW.calls k _ _ aU _ _ ql true _ ?aZ ?ae ?ay ?bI A6.out).mono ?_);(case aZ=>exact cb fF HB);(case ae=>exact fL.out);(case ay=>exact cb HR1_4 HB);(case bI=>exact HC1_4.out);rintro e w16 ⟨rfl,hb⟩;refine⟨_,rfl, ?_⟩;replace fO:=nb fO hb;replace kA:=nb kA hb;replace HB:=Ah (aH (am HB lT tt) hb);(try clear hb)))
  go_ret
  exact⟨er,am HB lT tt⟩
 replace c7:=PT.mpr c7;subst c7;rw[if_neg dr]at H;obtain rfl:=Gn H
 go_enter Try.func8,Try.ntmps8
 go_wp2_with (first|((with_reducible refine ag (N:=2) rfl ?_);refine an 2 29 #[.int .i64 aA,.slice af X.length aa,.slice ab aC.length ac,.int .i64 aV,.slice bG aU.length bH] ?_;intro ZE hg de fO hb;have ZF:=gw hg (bs HB);have lT:=gw hg (bs HB);replace HB:=Ah (aH (bs HB) hb);clear hb hg)|((with_reducible refine ag (N:=3) rfl ?_);refine an 3 29 #[.int .i64 aN,.slice o9 gj.length oA,.slice p3 i6.length p4,.int .i64 au,.slice DD ql.length DE] ?_;intro ZG hg cG kA hb;have ZH:=gw hg (aM HB lT);have tt:=gw hg (aM HB lT);replace HB:=Ah (aH (aM HB lT) hb);have Dx:=nn fO hg;have Dy:=nm fO hg;replace fO:=nb fO hb;clear hb hg;have MB:=Dx.out;have MC:=Dy.out;obtain⟨pn,po,qY,zn,zo⟩:=aj fO;obtain⟨pp,pq,qZ,zp,zq⟩:=ai fO;obtain⟨hcz21_0,hcz21_1,hcz21_2,hcz21_3,hcz21_4⟩:=aj kA;obtain⟨hfz21_0,hfz21_1,hfz21_2,hfz21_3,hfz21_4⟩:=ai kA)|((with_reducible refine bY (f:=26) rfl ?_);refine gL (some 9) rfl rfl abt (by kernel_rfl) rfl #[.agg #[.int .i64 aA,.slice af X.length aa,.slice ab aC.length ac],.agg #[.int .i64 aN,.slice o9 gj.length oA,.slice p3 i6.length p4]] rfl ?_;(with_reducible refine(qu.calls k aA _ _ X _ _ aC aN _ _ gj _ _ i6 true _ ?aZ ?ae ?ay ?bI ?cq ?d7 ?F5 ?F6 A3.out).mono ?_);(case aZ=>exact cb bo HB);(case ae=>exact cU.out);(case ay=>exact cb cn HB);(case bI=>exact co.out);(case cq=>exact cb Cn HB);(case d7=>exact Co.out);(case F5=>exact cb F2 HB);(case F6=>exact F3.out);rintro e DY ⟨rfl,hb⟩;refine⟨_,rfl, ?_⟩;replace fO:=nb fO hb;replace kA:=nb kA hb;replace HB:=Ah (aH (am HB lT tt) hb);(try clear hb);obtain⟨Kz,L0,Rl,XS,XT⟩:=aj fO;obtain⟨L1,L2,Rm,XU,XV⟩:=ai fO;obtain⟨zt,zu,Ht,L3,L4⟩:=aj kA;obtain⟨zv,zw,Hu,L5,L6⟩:=ai kA)|((with_reducible refine bY (f:=27) rfl ?_);refine gL (some 20) rfl rfl Try.func27 (by kernel_rfl) rfl #[.slice bG aU.length bH,.slice DD ql.length DE] rfl ?_;(with_reducible refine(gW.calls k _ _ aU _ _ ql false _ ?aZ ?ae ?ay ?bI A6.out).mono ?_);(case aZ=>exact cb fF HB);(case ae=>exact fL.out);(case ay=>exact cb HR1_4 HB);(case bI=>exact HC1_4.out);rintro e ek ⟨rfl,hb⟩;refine⟨_,rfl, ?_⟩;replace fO:=nb fO hb;replace kA:=nb kA hb;replace HB:=Ah (aH (am HB lT tt) hb);(try clear hb)))
 go_ret
 exact⟨er,am HB lT tt⟩
def jx.l0:Nat→List Bool→List Bool→Int→Option (Bool)
 |0,_,_,_=>none
 |k+1,x0,x1,x5=>if x5<(x0.length:Int)then(if 0≤x5 then(if x5<(x1.length:Int)then(if((eO false x0 x5) !=(eO false x1 x5))=true then(some false)else(jx.l0 k x0 x1 (Gj (x5+1))))else(none))else(none))else(some true)
def jx.f(k:Nat)(l0:List Bool)(l1:List Bool):Option (Bool):=if(l0.length:Int)=(l1.length:Int)then(jx.l0 k l0 l1 0)else(some false)
theorem jx.cQ:∀k,(∀y0 y1 y2,aG (jx.l0 k y0 y1 y2) (jx.l0 (k+1) y0 y1 y2))
 |0=>fun _ _ _ r h=>by simp[jx.l0]at h
 |k+1=>by
  have bS:=jx.cQ k
  ·
   intro y0 y1 y2;unfold jx.l0
   repeat' with_reducible first|exact bS _ _ _|exact aG.refl _|exact aG.none _|refine aG.ite ?_ ?_|refine aG.bind ?_ (fun _=> ?_)
theorem jx.mono:∀a0 a1 k,aG (jx.f k a0 a1) (jx.f (k+1) a0 a1):=by
 intro a0 a1 k;have bS:=jx.cQ k;unfold jx.f
 repeat' with_reducible first|exact bS _ _ _|exact aG.refl _|exact aG.none _|refine aG.ite ?_ ?_|refine aG.bind ?_ (fun _=> ?_)
theorem jx.calls(k:Nat)(A0:Option Addr)(c0:Nat)(l0:List Bool)(A1:Option Addr)(c1:Nat)(l1:List Bool)(r:Bool)(w:World)(hr0:Kd.C Kd.bool w A0 l0.length l0)(hc0:l0.length≤c0)(hr1:Kd.C Kd.bool w A1 l1.length l1)(hc1:l1.length≤c1)(h:jx.f k l0 l1=some r):
 Calls Uf 9 #[.slice A0 l0.length c0,.slice A1 l1.length c1] w fun e w'=>e= .returned (.bool r)∧bU w w':=by
 have cX:=Ah hr0;have oE:=Ah hc0;clear hr0 hc0;have HR1:=Ah hr1;have qn:=Ah hc1;clear hr1 hc1;have H:(if(l0.length:Int)=(l1.length:Int)then(jx.l0 k l0 l1 0)else(some false))=some r:=h;clear h
 by_cases c3:(l0.length:Int)=(l1.length:Int)
 rotate_left
 ·
  rw[if_neg c3]at H;have dc:=fS c3;have jr:=fT c3
  have qG:(l0.length==l1.length)=false:=by first|simpa using c3|(simp at c3⊢;omega)
  obtain rfl:=Gn H
  go_enter Try.func9,Try.ntmps9
  go_wp2
  repeat(go_quiet (fail);try go_wp2)
  go_ret
  exact⟨e3,by repeat(first|exact bU.refl _|apply bU.step)⟩
 rw[if_pos c3]at H;have dc:=fU c3;have jr:=fV c3
 have qG:(l0.length==l1.length)=true:=by first|simpa using c3|(simp at c3⊢;omega)
 clear c3;have H':=Ah H;clear H
 go_enter Try.func9,Try.ntmps9
 go_wp2
 repeat(go_quiet (fail);try go_wp2)
 go_loopg [5] k (fun kq v5 w'=>∃ (I:Int),v5= .int .i64 I∧Z (jx.l0 kq l0 l1 I=some r)∧Z (kq≤k)∧bU w w')
 case atStart=>exact⟨(0),e3,H',⟨QQ _⟩,by repeat(first|exact bU.refl _|apply bU.step)⟩
 case round=>
  clear H'
  try clear c1
  try clear p2
  try clear c3
  try clear dc
  try clear jr
  try clear qG
  obtain⟨I,rfl,HA,bi,⟨m1,rfl⟩⟩:=hrel
  cases gk with
  |zero=>exact absurd HA.out (by simp[jx.l0])
  |succ k1=>
   have H:=HA.out;clear HA;simp only[jx.l0]at H
   by_cases c4:I<(l0.length:Int)
   rotate_left
   ·
    rw[if_neg c4]at H;have fB:=dn c4;clear c4;obtain rfl:=Gn H
    go_wp2
    repeat(go_quiet (fail);try go_wp2)
    go_ret
    exact⟨e3,by repeat(first|exact bU.refl _|apply bU.step)⟩
   rw[if_pos c4]at H;have fB:=bJ c4;clear c4
   by_cases c5:0≤I
   rotate_left
   ·
    rw[if_neg c5]at H;exact absurd H (by simp)
   rw[if_pos c5]at H;have kV:=bJ c5;clear c5
   by_cases c6:I<(l1.length:Int)
   rotate_left
   ·
    rw[if_neg c6]at H;exact absurd H (by simp)
   rw[if_pos c6]at H;have o6:=bJ c6;clear c6
   by_cases c7:((eO false l0 I) !=(eO false l1 I))=true
   ·
    rw[if_pos c7]at H;have pY:((eO false l0 I) !=(eO false l1 I))=true:=c7;(try(have uA:decide ((eO false l0 I)=(eO false l1 I))=false:=by simpa using c7));(try(have c7b2:((eO false l0 I)==(eO false l1 I))=false:=by simpa using c7));(try(have c7b3:¬((eO false l0 I)=(eO false l1 I)):=by simpa using c7));clear c7;obtain rfl:=Gn H;have G5:0≤(I:Int):=od;have G6:I<(l0.length:Int):=od;obtain⟨ad736,a1c,hx736_0⟩:=Kd.zU cX.out I G5 G6
    cases a1c
    replace G5:=eq_true G5;replace G6:=eq_true G6;have G7:0≤(I:Int):=od;have G8:I<(l1.length:Int):=od;obtain⟨ad737,a1d,hx737_0⟩:=Kd.zU HR1.out I G7 G8
    cases a1d
    replace G7:=eq_true G7;replace G8:=eq_true G8
    go_wp2
    repeat(go_quiet (fail);try go_wp2)
    go_ret
    exact⟨e3,by repeat(first|exact bU.refl _|apply bU.step)⟩
   rw[if_neg c7]at H
   have pY:((eO false l0 I) !=(eO false l1 I))=false:=by simpa using c7
   (try(have uA:decide ((eO false l0 I)=(eO false l1 I))=true:=by simpa using c7));(try(have c7b2:((eO false l0 I)==(eO false l1 I))=true:=by simpa using c7));clear c7;have H':=Ah H;clear H;have G5:0≤(I:Int):=od;have G6:I<(l0.length:Int):=od;obtain⟨ad736,a1c,hx736_0⟩:=Kd.zU cX.out I G5 G6
   cases a1c
   replace G5:=eq_true G5;replace G6:=eq_true G6;have G7:0≤(I:Int):=od;have G8:I<(l1.length:Int):=od;obtain⟨ad737,a1d,hx737_0⟩:=Kd.zU HR1.out I G7 G8
   cases a1d
   replace G7:=eq_true G7;replace G8:=eq_true G8
   go_wp2
   repeat(go_quiet (fail);try go_wp2)
   go_roundg k1
   case measure=>have:=bi.out;omega
   case rel=>exact⟨(Gj (I+1)),e3,H',⟨by have:=bi.out;omega⟩,by repeat(first|exact bU.refl _|apply bU.step)⟩
def Df.f(aA:Int)(bN:Int)(eI:Int)(aV:Int)(iG:Int)(aN:Int)(aQ:Int)(av:Int)(au:Int)(b7:Int):Option (Bool):=if aA=aN then((nY.f bN eI aQ av).bind fun P3=>(if P3=true then(if aV=au then(if iG=b7 then(some true)else(some false))else(some false))else(some false)))else(some false)
theorem Df.calls(aA:Int)(bN:Int)(eI:Int)(aV:Int)(iG:Int)(aN:Int)(aQ:Int)(av:Int)(au:Int)(b7:Int)(r:Bool)(w:World)(h:Df.f aA bN eI aV iG aN aQ av au b7=some r):
 Calls Uf 28 #[.agg #[.int .i64 aA,.int .i64 bN,.int .i64 eI,.int .i64 aV,.int .i64 iG],.agg #[.int .i64 aN,.int .i64 aQ,.int .i64 av,.int .i64 au,.int .i64 b7]] w fun e w'=>e= .returned (.bool r)∧Below w.heap.size w w':=by
 have a0o:=Try.underlying47;have jT:=fk;have HB:=Ah (Ud w.heap.size w);have H:(if aA=aN then((nY.f bN eI aQ av).bind fun P3=>(if P3=true then(if aV=au then(if iG=b7 then(some true)else(some false))else(some false))else(some false)))else(some false))=some r:=h;clear h
 by_cases c3:aA=aN
 rotate_left
 ·
  rw[if_neg c3]at H;have dc:=fS c3;have jr:=fT c3;obtain rfl:=Gn H
  go_enter Try.func28,Try.ntmps28
  go_wp2_with (first|((with_reducible refine ag (N:=2) rfl ?_);refine an 2 47 #[.int .i64 aA,.int .i64 bN,.int .i64 eI,.int .i64 aV,.int .i64 iG] ?_;intro TW hg DU es hb;have TX:=gw hg (bs HB);have kS:=gw hg (bs HB);replace HB:=Ah (aH (bs HB) hb);clear hb hg)|((with_reducible refine ag (N:=3) rfl ?_);refine an 3 47 #[.int .i64 aN,.int .i64 aQ,.int .i64 av,.int .i64 au,.int .i64 b7] ?_;intro TY hg Pr kT hb;have TZ:=gw hg (aM HB kS);have tu:=gw hg (aM HB kS);replace HB:=Ah (aH (aM HB kS) hb);have zL:=nn es hg;have zM:=nm es hg;replace es:=nb es hb;clear hb hg;have Ey:=zL.out;have Ez:=zM.out;obtain⟨H5,H6,X3,hcz41_3,hcz41_4⟩:=aj es;obtain⟨H7,H8,X4,hfz41_3,hfz41_4⟩:=ai es;obtain⟨Rb,Rc,XE,hcz42_3,hcz42_4⟩:=aj kT;obtain⟨Rd,Re,XF,hfz42_3,hfz42_4⟩:=ai kT))
  go_ret
  exact⟨er,am HB kS tu⟩
 rw[if_pos c3]at H;have dc:=fU c3;have jr:=fV c3;clear c3;replace H:=Gl.mp H;obtain⟨P3,eJ,H⟩:=H
 try dsimp only at H
 have A4:=Ah eJ;clear eJ
 by_cases c5:P3=true
 rotate_left
 ·
  replace c5:=PT.mpr c5;subst c5;rw[if_neg dr]at H;obtain rfl:=Gn H
  go_enter Try.func28,Try.ntmps28
  go_wp2_with (first|((with_reducible refine ag (N:=2) rfl ?_);refine an 2 47 #[.int .i64 aA,.int .i64 bN,.int .i64 eI,.int .i64 aV,.int .i64 iG] ?_;intro TW hg w32 es hb;have TX:=gw hg (bs HB);have kS:=gw hg (bs HB);replace HB:=Ah (aH (bs HB) hb);clear hb hg)|((with_reducible refine ag (N:=3) rfl ?_);refine an 3 47 #[.int .i64 aN,.int .i64 aQ,.int .i64 av,.int .i64 au,.int .i64 b7] ?_;intro TY hg DS kT hb;have TZ:=gw hg (aM HB kS);have tu:=gw hg (aM HB kS);replace HB:=Ah (aH (aM HB kS) hb);have zL:=nn es hg;have zM:=nm es hg;replace es:=nb es hb;clear hb hg;have IY:=zL.out;have IZ:=zM.out;obtain⟨XM,XN,XO,hcz35_3,hcz35_4⟩:=aj es;obtain⟨XP,XQ,XR,hfz35_3,hfz35_4⟩:=ai es;obtain⟨EA,EB,HL,W9,WA⟩:=aj kT;obtain⟨EG,EH,HY,WQ,WR⟩:=ai kT)|((with_reducible refine bY (f:=50) rfl ?_);refine gL (some 14) rfl rfl aa2 (by kernel_rfl) rfl #[.agg #[.int .i64 bN,.int .i64 eI],.agg #[.int .i64 aQ,.int .i64 av]] rfl ?_;(with_reducible refine(nY.calls bN eI aQ av false _ A4.out).mono ?_);rintro e mc ⟨rfl,hb⟩;refine⟨_,rfl, ?_⟩;replace es:=nb es hb;replace kT:=nb kT hb;replace HB:=Ah (aH (am HB kS tu) hb);(try clear hb)))
  go_ret
  exact⟨er,am HB kS tu⟩
 subst c5;rw[if_pos rfl]at H
 by_cases c6:aV=au
 rotate_left
 ·
  rw[if_neg c6]at H;have o6:=fS c6;have P5:=fT c6;obtain rfl:=Gn H
  go_enter Try.func28,Try.ntmps28
  go_wp2_with (first|((with_reducible refine ag (N:=2) rfl ?_);refine an 2 47 #[.int .i64 aA,.int .i64 bN,.int .i64 eI,.int .i64 aV,.int .i64 iG] ?_;intro TW hg mA es hb;have TX:=gw hg (bs HB);have kS:=gw hg (bs HB);replace HB:=Ah (aH (bs HB) hb);clear hb hg)|((with_reducible refine ag (N:=3) rfl ?_);refine an 3 47 #[.int .i64 aN,.int .i64 aQ,.int .i64 av,.int .i64 au,.int .i64 b7] ?_;intro TY hg ek kT hb;have TZ:=gw hg (aM HB kS);have tu:=gw hg (aM HB kS);replace HB:=Ah (aH (aM HB kS) hb);have zL:=nn es hg;have zM:=nm es hg;replace es:=nb es hb;clear hb hg;have TF:=zL.out;have TG:=zM.out;obtain⟨hcz27_0,hcz27_1,hcz27_2,hcz27_3,hcz27_4⟩:=aj es;obtain⟨hfz27_0,hfz27_1,hfz27_2,hfz27_3,hfz27_4⟩:=ai es;obtain⟨zr,CG,RY,hcz28_3,hcz28_4⟩:=aj kT;obtain⟨zs,CH,RZ,hfz28_3,hfz28_4⟩:=ai kT)|((with_reducible refine bY (f:=50) rfl ?_);refine gL (some 14) rfl rfl aa2 (by kernel_rfl) rfl #[.agg #[.int .i64 bN,.int .i64 eI],.agg #[.int .i64 aQ,.int .i64 av]] rfl ?_;(with_reducible refine(nY.calls bN eI aQ av true _ A4.out).mono ?_);rintro e DJ ⟨rfl,hb⟩;refine⟨_,rfl, ?_⟩;replace es:=nb es hb;replace kT:=nb kT hb;replace HB:=Ah (aH (am HB kS tu) hb);(try clear hb);obtain⟨XG,XH,XI,hcz30_3,hcz30_4⟩:=aj es;obtain⟨XJ,XK,XL,hfz30_3,hfz30_4⟩:=ai es;obtain⟨hcz31_0,hcz31_1,hcz31_2,hcz31_3,hcz31_4⟩:=aj kT;obtain⟨hfz31_0,hfz31_1,hfz31_2,hfz31_3,hfz31_4⟩:=ai kT))
  go_ret
  exact⟨er,am HB kS tu⟩
 rw[if_pos c6]at H;have o6:=fU c6;have P5:=fV c6;clear c6
 by_cases c7:iG=b7
 rotate_left
 ·
  rw[if_neg c7]at H;have pY:=fS c7;have uA:=fT c7;obtain rfl:=Gn H
  go_enter Try.func28,Try.ntmps28
  go_wp2_with (first|((with_reducible refine ag (N:=2) rfl ?_);refine an 2 47 #[.int .i64 aA,.int .i64 bN,.int .i64 eI,.int .i64 aV,.int .i64 iG] ?_;intro TW hg w16 es hb;have TX:=gw hg (bs HB);have kS:=gw hg (bs HB);replace HB:=Ah (aH (bs HB) hb);clear hb hg)|((with_reducible refine ag (N:=3) rfl ?_);refine an 3 47 #[.int .i64 aN,.int .i64 aQ,.int .i64 av,.int .i64 au,.int .i64 b7] ?_;intro TY hg de kT hb;have TZ:=gw hg (aM HB kS);have tu:=gw hg (aM HB kS);replace HB:=Ah (aH (aM HB kS) hb);have zL:=nn es hg;have zM:=nm es hg;replace es:=nb es hb;clear hb hg;have T0:=zL.out;have T2:=zM.out;obtain⟨E2,E3,X8,hcz19_3,hcz19_4⟩:=aj es;obtain⟨E4,E5,X9,hfz19_3,hfz19_4⟩:=ai es;obtain⟨pn,po,qY,zn,zo⟩:=aj kT;obtain⟨pp,pq,qZ,zp,zq⟩:=ai kT)|((with_reducible refine bY (f:=50) rfl ?_);refine gL (some 14) rfl rfl aa2 (by kernel_rfl) rfl #[.agg #[.int .i64 bN,.int .i64 eI],.agg #[.int .i64 aQ,.int .i64 av]] rfl ?_;(with_reducible refine(nY.calls bN eI aQ av true _ A4.out).mono ?_);rintro e vS ⟨rfl,hb⟩;refine⟨_,rfl, ?_⟩;replace es:=nb es hb;replace kT:=nb kT hb;replace HB:=Ah (aH (am HB kS tu) hb);(try clear hb);obtain⟨tU,tV,ui,wA,wB⟩:=aj es;obtain⟨tW,tX,ul,wD,wE⟩:=ai es;obtain⟨Kz,L0,Rl,XS,XT⟩:=aj kT;obtain⟨L1,L2,Rm,XU,XV⟩:=ai kT))
  go_ret
  exact⟨er,am HB kS tu⟩
 rw[if_pos c7]at H;have pY:=fU c7;have uA:=fV c7;clear c7;obtain rfl:=Gn H
 go_enter Try.func28,Try.ntmps28
 go_wp2_with (first|((with_reducible refine ag (N:=2) rfl ?_);refine an 2 47 #[.int .i64 aA,.int .i64 bN,.int .i64 eI,.int .i64 aV,.int .i64 iG] ?_;intro TW hg w8 es hb;have TX:=gw hg (bs HB);have kS:=gw hg (bs HB);replace HB:=Ah (aH (bs HB) hb);clear hb hg)|((with_reducible refine ag (N:=3) rfl ?_);refine an 3 47 #[.int .i64 aN,.int .i64 aQ,.int .i64 av,.int .i64 au,.int .i64 b7] ?_;intro TY hg w9 kT hb;have TZ:=gw hg (aM HB kS);have tu:=gw hg (aM HB kS);replace HB:=Ah (aH (aM HB kS) hb);have zL:=nn es hg;have zM:=nm es hg;replace es:=nb es hb;clear hb hg;have IW:=zL.out;have IX:=zM.out;obtain⟨oO,oP,qx,sK,sL⟩:=aj es;obtain⟨oQ,oR,qy,sM,sN⟩:=ai es;obtain⟨tQ,tR,yJ,Wx,Wy⟩:=aj kT;obtain⟨tS,tT,yK,Wz,X0⟩:=ai kT)|((with_reducible refine bY (f:=50) rfl ?_);refine gL (some 14) rfl rfl aa2 (by kernel_rfl) rfl #[.agg #[.int .i64 bN,.int .i64 eI],.agg #[.int .i64 aQ,.int .i64 av]] rfl ?_;(with_reducible refine(nY.calls bN eI aQ av true _ A4.out).mono ?_);rintro e pd ⟨rfl,hb⟩;refine⟨_,rfl, ?_⟩;replace es:=nb es hb;replace kT:=nb kT hb;replace HB:=Ah (aH (am HB kS tu) hb);(try clear hb);obtain⟨sG,sH,E6,H9,HG⟩:=aj es;obtain⟨sI,sJ,E7,HH,HI⟩:=ai es;obtain⟨um,un,CI,EK,EL⟩:=aj kT;obtain⟨uo,uq,CJ,EM,EN⟩:=ai kT))
 go_ret
 exact⟨er,am HB kS tu⟩
end Go.Proofs.Ytfeokehfhaimkaa.G
