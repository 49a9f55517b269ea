-- Printed by a program of this session (drive.py, by way of the kit's print). Not trusted: Lean checks it.
import Derived.Test.YtfeokehfhaimkaaG0
import Derived.Test.YtfeokehfhaimkaaG7
open Go.Proofs.Try renaming prog→Uf,underlying29→cp,underlying26→ig
open Go.RowKit renaming wrap64→Gj
open Go.World renaming block_lt_of_cell?→Gk
open Int renaming tmod→aa0
open Nat renaming le_refl→QQ,add_zero→dH,mul_one→fl
open Option renaming bind_eq_some_iff→Gl,bind_some→Gm
open Option.some renaming inj→Gn,injEq→Jh
open Prod.mk renaming injEq→Ue
namespace Go.Proofs.Ytfeokehfhaimkaa.G
open Go.RowKit Go.Proofs.YtfeokehfhaimkaaW.PrintWords Go.Proofs.YtfeokehfhaimkaaW.PrintLast Go.Proofs.YtfeokehfhaimkaaW.PrintMore
attribute [local go_sem] zO zP zX zY zE zG zQ zR
set_option maxHeartbeats 8000000
set_option maxRecDepth 100000
set_option linter.unusedVariables false
set_option linter.unusedSimpArgs false
def iA.l0:Nat→List (bg)→List (bg)→Int→Option (Bool)
 |0,_,_,_=>none
 |k+1,x0,x1,x5=>if x5<(x0.length:Int)then(if 0≤x5 then(if x5<(x1.length:Int)then((Df.f ((ar x0 x5).f0) ((ar x0 x5).f1.f0) ((ar x0 x5).f1.f1) ((ar x0 x5).f2) ((ar x0 x5).f3) ((ar x1 x5).f0) ((ar x1 x5).f1.f0) ((ar x1 x5).f1.f1) ((ar x1 x5).f2) ((ar x1 x5).f3)).bind fun a1s=>(if a1s=true then(iA.l0 k x0 x1 (Gj (x5+1)))else(some false)))else(none))else(none))else(some true)
def iA.f(k:Nat)(l0:List (bg))(l1:List (bg)):Option (Bool):=if(l0.length:Int)=(l1.length:Int)then(iA.l0 k l0 l1 0)else(some false)
theorem iA.cQ:∀k,(∀y0 y1 y2,aG (iA.l0 k y0 y1 y2) (iA.l0 (k+1) y0 y1 y2))
 |0=>fun _ _ _ r h=>by simp[iA.l0]at h
 |k+1=>by
  have bS:=iA.cQ k
  ·
   intro y0 y1 y2;unfold iA.l0
   repeat' with_reducible first|exact bS _ _ _|exact aG.refl _|exact aG.none _|refine aG.ite ?_ ?_|refine aG.bind ?_ (fun _=> ?_)
theorem iA.mono:∀a0 a1 k,aG (iA.f k a0 a1) (iA.f (k+1) a0 a1):=by
 intro a0 a1 k;have bS:=iA.cQ k;unfold iA.f
 repeat' with_reducible first|exact bS _ _ _|exact aG.refl _|exact aG.none _|refine aG.ite ?_ ?_|refine aG.bind ?_ (fun _=> ?_)
def iA.T6:Bool×List (List Nat×List Nat):=(true,[([],[]),([],[]),([0,1],[0,1]),([2],[2]),([],[]),([],[]),([4,5],[4,5]),([6],[6]),([3,7],[3,7]),([8],[8])])
def iA.B6:List Nat:=[0,0,3,7,0,0,48,112,255,511]
theorem iA.sm:i5 .any (uw Try.f10 6)=iA.T6:=by kernel_rfl
theorem iA.sb:pm iA.T6.2 iA.B6=true:=by kernel_rfl
theorem iA.calls(k:Nat)(A0:Option Addr)(c0:Nat)(l0:List (bg))(A1:Option Addr)(c1:Nat)(l1:List (bg))(r:Bool)(w:World)(hr0:Kd.C e5 w A0 l0.length l0)(hc0:l0.length≤c0)(hr1:Kd.C e5 w A1 l1.length l1)(hc1:l1.length≤c1)(h:iA.f k l0 l1=some r):
 Calls Uf 10 #[.slice A0 l0.length c0,.slice A1 l1.length c1] w fun e w'=>e= .returned (.bool r)∧Below w.heap.size w w':=by
 have a0o:=Try.underlying47;have cX:=Ah hr0;have oE:=Ah hc0;clear hr0 hc0;have HR1:=Ah hr1;have qn:=Ah hc1;clear hr1 hc1;have HB:=Ah (Below.refl w.heap.size w);have H:(if(l0.length:Int)=(l1.length:Int)then(iA.l0 k l0 l1 0)else(some false))=some r:=h;clear h
 by_cases c3:(l0.length:Int)=(l1.length:Int)
 rotate_left
 ·
  rw[if_neg c3]at H;have dc:=fS c3;have jr:=fT c3
  have qG:(l0.length==l1.length)=false:=by first|simpa using c3|(simp at c3⊢;omega)
  obtain rfl:=Gn H
  go_enter Try.func10,Try.ntmps10
  go_wp2
  go_ret
  exact⟨er,bs HB⟩
 rw[if_pos c3]at H;have dc:=fU c3;have jr:=fV c3
 have qG:(l0.length==l1.length)=true:=by first|simpa using c3|(simp at c3⊢;omega)
 clear c3;have H':=Ah H;clear H
 go_enter Try.func10,Try.ntmps10
 go_wp2
 go_loopg [5] k (fun kq v5 w'=>∃ (I:Int),v5= .int .i64 I∧Z (iA.l0 kq l0 l1 I=some r)∧Z (kq≤k)∧Z (Below w.heap.size w w'))
 case atStart=>exact⟨(0),e3,H',⟨QQ _⟩,⟨bs HB⟩⟩
 case round=>
  clear H'
  try clear c1
  try clear p2
  try clear c3
  try clear dc
  try clear jr
  try clear qG
  obtain⟨I,rfl,HA,bi,HB⟩:=hrel
  cases gk with
  |zero=>exact absurd HA.out (by simp[iA.l0])
  |succ k1=>
   have H:=HA.out;clear HA;simp only[iA.l0]at H
   by_cases c4:I<(l0.length:Int)
   rotate_left
   ·
    rw[if_neg c4]at H;have fB:=dn c4;clear c4;obtain rfl:=Gn H
    go_wp2
    go_ret
    exact⟨er,bs HB⟩
   rw[if_pos c4]at H;have fB:=bJ c4;clear c4
   by_cases c5:0≤I
   rotate_left
   ·
    rw[if_neg c5]at H;exact absurd H (by simp)
   rw[if_pos c5]at H;have kV:=bJ c5;clear c5
   by_cases c6:I<(l1.length:Int)
   rotate_left
   ·
    rw[if_neg c6]at H;exact absurd H (by simp)
   rw[if_pos c6]at H;have o6:=bJ c6;clear c6;replace H:=Gl.mp H;obtain⟨a1s,kJ,H⟩:=H
   try dsimp only at H
   have A7:=Ah kJ;clear kJ;have H_:=Ah H;clear H
   try go_wp2
   replace HB:=Ah (j7 HB.out);have a1t:0≤(I:Int):=od;have a1u:I<(l0.length:Int):=od;obtain⟨Ac,e741,S0,S1,S3,S4,S5⟩:=SO cX.out I a1t a1u;have I9:=S5;have IA:=S4;have IB:=S3;have IC:=S1;have ID:=S0
   cases e741
   replace S0:=hq HB S0;replace S1:=hq HB S1;replace S3:=hq HB S3;replace S4:=hq HB S4;replace S5:=hq HB S5;replace a1t:=eq_true a1t;replace a1u:=eq_true a1u;have a1v:0≤(I:Int):=od;have a1w:I<(l1.length:Int):=od;obtain⟨Ae,e742,S6,S7,S8,S9,SA⟩:=SO HR1.out I a1v a1w;have IE:=SA;have IF:=S9;have IG:=S8;have IH:=S7;have II:=S6
   cases e742
   replace S6:=hq HB S6;replace S7:=hq HB S7;replace S8:=hq HB S8;replace S9:=hq HB S9;replace SA:=hq HB SA;replace a1v:=eq_true a1v;replace a1w:=eq_true a1w;refine mt (n:=10) (S:=fun w'=>w'.cell? (Ac.add ((I).toNat*5))=some (.int .i64 ((ar l0 I).f0))∧w'.cell? ⟨(Ac.add ((I).toNat*5)).block,(Ac.add ((I).toNat*5)).off+1,none⟩=some (.int .i64 ((ar l0 I).f1.f0))∧w'.cell? ⟨(Ac.add ((I).toNat*5)).block,(Ac.add ((I).toNat*5)).off+2,none⟩=some (.int .i64 ((ar l0 I).f1.f1))∧w'.cell? ⟨(Ac.add ((I).toNat*5)).block,(Ac.add ((I).toNat*5)).off+3,none⟩=some (.int .i64 ((ar l0 I).f2))∧w'.cell? ⟨(Ac.add ((I).toNat*5)).block,(Ac.add ((I).toNat*5)).off+4,none⟩=some (.int .i64 ((ar l0 I).f3))∧w'.cell? (Ae.add ((I).toNat*5))=some (.int .i64 ((ar l1 I).f0))∧w'.cell? ⟨(Ae.add ((I).toNat*5)).block,(Ae.add ((I).toNat*5)).off+1,none⟩=some (.int .i64 ((ar l1 I).f1.f0))∧w'.cell? ⟨(Ae.add ((I).toNat*5)).block,(Ae.add ((I).toNat*5)).off+2,none⟩=some (.int .i64 ((ar l1 I).f1.f1))∧w'.cell? ⟨(Ae.add ((I).toNat*5)).block,(Ae.add ((I).toNat*5)).off+3,none⟩=some (.int .i64 ((ar l1 I).f2))∧w'.cell? ⟨(Ae.add ((I).toNat*5)).block,(Ae.add ((I).toNat*5)).off+4,none⟩=some (.int .i64 ((ar l1 I).f3))) (ds:=[]) #[false,false,false,false,false,false,false,false,false,false] (by kernel_rfl) rfl rfl ⟨((HB.out.cell (Gk w _ ID)).trans ID),((HB.out.cell (Gk w _ IC)).trans IC),((HB.out.cell (Gk w _ IB)).trans IB),((HB.out.cell (Gk w _ IA)).trans IA),((HB.out.cell (Gk w _ I9)).trans I9),((HB.out.cell (Gk w _ II)).trans II),((HB.out.cell (Gk w _ IH)).trans IH),((HB.out.cell (Gk w _ IG)).trans IG),((HB.out.cell (Gk w _ IF)).trans IF),((HB.out.cell (Gk w _ IE)).trans IE)⟩ (fun hHeld=> ?_);refine na iA.sm iA.sb (fun aI cz=> ?_)
   generalize wr.drew=w9 at HB S0 S1 S3 S4 S5 S6 S7 S8 S9 SA hHeld⊢
   refine b6 0 17 aI.out ?_;refine b6 1 18 aI.out ?_;refine b6 2 19 aI.out ?_;refine b6 4 21 aI.out ?_;refine b6 5 22 aI.out ?_;refine b6 6 23 aI.out ?_;refine dv 3 20 aI.out cz.out hHeld (hr:=by rintro w' ⟨s0,s1,s2,s3,s4,s5,s6,s7,s8,s9⟩;go_simp;with_reducible rfl) (h:= ?_);refine dv 7 24 aI.out cz.out hHeld (hr:=by rintro w' ⟨s0,s1,s2,s3,s4,s5,s6,s7,s8,s9⟩;go_simp;with_reducible rfl) (h:= ?_);refine fv (i:=8) (N:=some 25) #[true,true,true,true,true,true,true,true,true,false] rfl rfl (gJ aI.out (by kernel_rfl)) (by decide) (fun K hK=> ?_);refine gZ Try.func28 (by kernel_rfl) rfl #[.agg #[.int .i64 ((ar l0 I).f0),.int .i64 ((ar l0 I).f1.f0),.int .i64 ((ar l0 I).f1.f1),.int .i64 ((ar l0 I).f2),.int .i64 ((ar l0 I).f3)],.agg #[.int .i64 ((ar l1 I).f0),.int .i64 ((ar l1 I).f1.f0),.int .i64 ((ar l1 I).f1.f1),.int .i64 ((ar l1 I).f2),.int .i64 ((ar l1 I).f3)]] (by rfl) rfl rfl (by(try simp only[List.map_toArray,List.map_cons,List.map_nil]);first|done|rfl|(simp only[List.length_drop,List.length_take];rfl)) ?_;have H:=H_.out;clear H_
   by_cases c8:a1s=true
   rotate_left
   ·
    replace c8:=Bool.eq_false_iff.mpr c8;subst c8;rw[if_neg dr]at H;obtain rfl:=Gn H
    with_reducible refine(Df.calls ((ar l0 I).f0) ((ar l0 I).f1.f0) ((ar l0 I).f1.f1) ((ar l0 I).f2) ((ar l0 I).f3) ((ar l1 I).f0) ((ar l1 I).f1.f0) ((ar l1 I).f1.f1) ((ar l1 I).f2) ((ar l1 I).f3) false _ A7.out).mono ?_
    rintro e ef ⟨rfl,hb⟩;refine⟨_,rfl, ?_⟩;replace HB:=Ah (aH (bs HB) hb);(try clear hb);(try clear hb2);(try clear hk);(try clear hi);refine hK.out _ _ ⟨((HB.out.cell (Gk w _ ID)).trans ID),((HB.out.cell (Gk w _ IC)).trans IC),((HB.out.cell (Gk w _ IB)).trans IB),((HB.out.cell (Gk w _ IA)).trans IA),((HB.out.cell (Gk w _ I9)).trans I9),((HB.out.cell (Gk w _ II)).trans II),((HB.out.cell (Gk w _ IH)).trans IH),((HB.out.cell (Gk w _ IG)).trans IG),((HB.out.cell (Gk w _ IF)).trans IF),((HB.out.cell (Gk w _ IE)).trans IE)⟩ (fun hHeld=> ?_);clear hK K;refine nq 25 ?_;refine b6 9 26 aI.out ?_;refine jn (kO aI.out (by kernel_rfl)) ?_
    try go_wp2
    go_ret
    exact⟨er,bs HB⟩
   subst c8;rw[if_pos rfl]at H;have H':=Ah H;clear H
   with_reducible refine(Df.calls ((ar l0 I).f0) ((ar l0 I).f1.f0) ((ar l0 I).f1.f1) ((ar l0 I).f2) ((ar l0 I).f3) ((ar l1 I).f0) ((ar l1 I).f1.f0) ((ar l1 I).f1.f1) ((ar l1 I).f2) ((ar l1 I).f3) true _ A7.out).mono ?_
   rintro e lp ⟨rfl,hb⟩;refine⟨_,rfl, ?_⟩;replace HB:=Ah (aH (bs HB) hb);(try clear hb);(try clear hb2);(try clear hk);(try clear hi);refine hK.out _ _ ⟨((HB.out.cell (Gk w _ ID)).trans ID),((HB.out.cell (Gk w _ IC)).trans IC),((HB.out.cell (Gk w _ IB)).trans IB),((HB.out.cell (Gk w _ IA)).trans IA),((HB.out.cell (Gk w _ I9)).trans I9),((HB.out.cell (Gk w _ II)).trans II),((HB.out.cell (Gk w _ IH)).trans IH),((HB.out.cell (Gk w _ IG)).trans IG),((HB.out.cell (Gk w _ IF)).trans IF),((HB.out.cell (Gk w _ IE)).trans IE)⟩ (fun hHeld=> ?_);clear hK K;refine nq 25 ?_;refine b6 9 26 aI.out ?_;refine jn (kO aI.out (by kernel_rfl)) ?_
   try go_wp2
   go_roundg k1
   case measure=>have:=bi.out;omega
   case rel=>exact⟨(Gj (I+1)),e3,H',⟨by have:=bi.out;omega⟩,⟨bs HB⟩⟩
def j6.l0:Nat→List (bg)→Int→Int→Option (Int×(List (bg)))
 |0,_,_,_=>none
 |k+1,x0,x1,x5=>if x5<(x0.length:Int)then(if 0≤x5 then((some (x0.set (x5:Int).toNat (⟨x1,(⟨(ar x0 x5).f1.f0,(ar x0 x5).f1.f1⟩:Y),(ar x0 x5).f2,(ar x0 x5).f3⟩:bg):List (bg))).bind fun ja=>((some (ja.set (x5:Int).toNat (⟨(ar ja x5).f0,(⟨Gj (x1+1),(ar ja x5).f1.f1⟩:Y),(ar ja x5).f2,(ar ja x5).f3⟩:bg):List (bg))).bind fun i7=>((some (i7.set (x5:Int).toNat (⟨(ar i7 x5).f0,(⟨(ar i7 x5).f1.f0,Gj ((Gj (x1+1))+1)⟩:Y),(ar i7 x5).f2,(ar i7 x5).f3⟩:bg):List (bg))).bind fun fg=>((some (fg.set (x5:Int).toNat (⟨(ar fg x5).f0,(⟨(ar fg x5).f1.f0,(ar fg x5).f1.f1⟩:Y),Gj ((Gj ((Gj (x1+1))+1))+1),(ar fg x5).f3⟩:bg):List (bg))).bind fun ec=>(j6.l0 k (ec.set (x5:Int).toNat (⟨(ar ec x5).f0,(⟨(ar ec x5).f1.f0,(ar ec x5).f1.f1⟩:Y),(ar ec x5).f2,Gj ((Gj ((Gj ((Gj (x1+1))+1))+1))+1)⟩:bg)) (Gj ((Gj ((Gj ((Gj ((Gj (x1+1))+1))+1))+1))+1)) (Gj (x5+1)))))))else(none))else(some (x1,x0))
def j6.f(k:Nat)(l0:List (bg))(a1:Int):Option (Int×(List (bg))):=j6.l0 k l0 a1 0
theorem j6.cQ:∀k,(∀y0 y1 y2,aG (j6.l0 k y0 y1 y2) (j6.l0 (k+1) y0 y1 y2))
 |0=>fun _ _ _ r h=>by simp[j6.l0]at h
 |k+1=>by
  have bS:=j6.cQ k
  ·
   intro y0 y1 y2;unfold j6.l0
   repeat' with_reducible first|exact bS _ _ _|exact aG.refl _|exact aG.none _|refine aG.ite ?_ ?_|refine aG.bind ?_ (fun _=> ?_)
theorem j6.mono:∀a0 a1 k,aG (j6.f k a0 a1) (j6.f (k+1) a0 a1):=by
 intro a0 a1 k;have bS:=j6.cQ k;unfold j6.f
 repeat' with_reducible first|exact bS _ _ _|exact aG.refl _|exact aG.none _|refine aG.ite ?_ ?_|refine aG.bind ?_ (fun _=> ?_)
theorem j6.calls(k:Nat)(dG:Nat→Prop)(fd:Value)(l0:List (bg))(a1:Int)(r1:Int)(r2:List (bg))(w0 w:World)(hB:Below w0.heap.size w0 w)(ho0:Kd.R e5 47 w w0.heap.size dG fd l0)(h:j6.f k l0 a1=some (r1,r2)):
 Calls Uf 11 #[fd,.int .i64 a1] w fun e w'=>e= .returned (.int .i64 r1)∧Kd.R e5 47 w' w0.heap.size (fun k_=>(dG k_∨w.heap.size≤k_)) fd r2∧Below w0.heap.size w0 w'∧ap w w' (fun k_=>dG k_):=by
 have Ge:=Ah (show Kd.R e5 47 w w0.heap.size (fun k_=>(dG k_∨w.heap.size≤k_)) fd l0 from Kd.ax ho0 (fun k_ hk=>(.inl hk)));have HK:=Ah (ap.refl w (fun k_=>dG k_));have HW0:=Ah hB.size;have HB:=Ah hB;clear hB;have H:(j6.l0 k l0 a1 0)=some (r1,r2):=h;clear h;have H':=Ah H;clear H
 go_enter Try.func11,Try.ntmps11
 go_wp2
 go_loopg [1,5] k (fun kq v1 v5 w'=>∃ (bX:List (bg)) (bL:Int) (I:Int),v1= .int .i64 bL∧v5= .int .i64 I∧Z (j6.l0 kq bX bL I=some (r1,r2))∧Z (kq≤k)∧Z (Kd.R e5 47 w' w0.heap.size (fun k_=>(dG k_∨w.heap.size≤k_)) fd bX)∧Z (ap w w' (fun k_=>dG k_))∧Z (Below w0.heap.size w0 w'))
 case atStart=>exact⟨(l0),(a1),(0),e3,e3,H',⟨QQ _⟩,⟨rr Ge.out⟩,⟨by repeat(first|(with_reducible first|exact HK.out|apply ap.alloc|apply ap.drewN|apply ap.drew)|exact HK.out)⟩,⟨bs HB⟩⟩
 case round=>
  clear H'
  try clear c1
  try clear p2
  obtain⟨bX,bL,I,rfl,rfl,HA,bi,bz,HK,HB⟩:=hrel
  cases gk with
  |zero=>exact absurd HA.out (by simp[j6.l0])
  |succ k1=>
   have H:=HA.out;clear HA;simp only[j6.l0]at H
   by_cases c3:I<(bX.length:Int)
   rotate_left
   ·
    rw[if_neg c3]at H;have dc:=dn c3;clear c3;simp only[Jh,Ue]at H;obtain⟨rfl,rfl⟩:=H;obtain⟨gQ,gR,o7⟩:=Kd.az bz.out;subst o7
    go_wp2
    go_ret
    exact⟨er,by(with_reducible repeat(first|apply Kd.bd|apply Kd.bZ|apply Kd.bQ));exact bz.out,bs HB,by repeat(first|(with_reducible first|exact HK.out|apply ap.alloc|apply ap.drewN|apply ap.drew)|exact HK.out)⟩
   rw[if_pos c3]at H;have dc:=bJ c3;clear c3
   by_cases c4:0≤I
   rotate_left
   ·
    rw[if_neg c4]at H;exact absurd H (by simp)
   rw[if_pos c4]at H;have fB:=bJ c4;clear c4;obtain⟨ja,NS⟩:∃y_:List (bg),y_=(bX.set (I:Int).toNat (⟨bL,(⟨(ar bX I).f1.f0,(ar bX I).f1.f1⟩:Y),(ar bX I).f2,(ar bX I).f3⟩:bg)):=⟨_,rfl⟩
   replace H:((some (ja.set (I:Int).toNat (⟨(ar ja I).f0,(⟨wrap64 (bL+1),(ar ja I).f1.f1⟩:Y),(ar ja I).f2,(ar ja I).f3⟩:bg):List (bg))).bind fun i7=>((some (i7.set (I:Int).toNat (⟨(ar i7 I).f0,(⟨(ar i7 I).f1.f0,wrap64 ((wrap64 (bL+1))+1)⟩:Y),(ar i7 I).f2,(ar i7 I).f3⟩:bg):List (bg))).bind fun fg=>((some (fg.set (I:Int).toNat (⟨(ar fg I).f0,(⟨(ar fg I).f1.f0,(ar fg I).f1.f1⟩:Y),wrap64 ((wrap64 ((wrap64 (bL+1))+1))+1),(ar fg I).f3⟩:bg):List (bg))).bind fun ec=>(j6.l0 k1 (ec.set (I:Int).toNat (⟨(ar ec I).f0,(⟨(ar ec I).f1.f0,(ar ec I).f1.f1⟩:Y),(ar ec I).f2,wrap64 ((wrap64 ((wrap64 ((wrap64 (bL+1))+1))+1))+1)⟩:bg)) (wrap64 ((wrap64 ((wrap64 ((wrap64 ((wrap64 (bL+1))+1))+1))+1))+1)) (wrap64 (I+1))))))=some (r1,r2):=by first|(rw[NS];with_reducible exact H)|(have aq:=(Option.bind_some _ _).symm.trans H;rw[NS];with_reducible exact aq)|(have aq:=(Option.bind_some _ _).symm.trans H;with_reducible exact aq)|with_reducible exact H|(rw[NS];exact H)|exact H
   have Ny744:=Ah NS;clear NS;obtain⟨i7,NT⟩:∃y_:List (bg),y_=(ja.set (I:Int).toNat (⟨(ar ja I).f0,(⟨Gj (bL+1),(ar ja I).f1.f1⟩:Y),(ar ja I).f2,(ar ja I).f3⟩:bg)):=⟨_,rfl⟩
   replace H:((some (i7.set (I:Int).toNat (⟨(ar i7 I).f0,(⟨(ar i7 I).f1.f0,wrap64 ((wrap64 (bL+1))+1)⟩:Y),(ar i7 I).f2,(ar i7 I).f3⟩:bg):List (bg))).bind fun fg=>((some (fg.set (I:Int).toNat (⟨(ar fg I).f0,(⟨(ar fg I).f1.f0,(ar fg I).f1.f1⟩:Y),wrap64 ((wrap64 ((wrap64 (bL+1))+1))+1),(ar fg I).f3⟩:bg):List (bg))).bind fun ec=>(j6.l0 k1 (ec.set (I:Int).toNat (⟨(ar ec I).f0,(⟨(ar ec I).f1.f0,(ar ec I).f1.f1⟩:Y),(ar ec I).f2,wrap64 ((wrap64 ((wrap64 ((wrap64 (bL+1))+1))+1))+1)⟩:bg)) (wrap64 ((wrap64 ((wrap64 ((wrap64 ((wrap64 (bL+1))+1))+1))+1))+1)) (wrap64 (I+1)))))=some (r1,r2):=by first|(rw[NT];with_reducible exact H)|(have aq:=(Option.bind_some _ _).symm.trans H;rw[NT];with_reducible exact aq)|(have aq:=(Option.bind_some _ _).symm.trans H;with_reducible exact aq)|with_reducible exact H|(rw[NT];exact H)|exact H
   have Ny745:=Ah NT;clear NT;obtain⟨fg,NU⟩:∃y_:List (bg),y_=(i7.set (I:Int).toNat (⟨(ar i7 I).f0,(⟨(ar i7 I).f1.f0,Gj ((Gj (bL+1))+1)⟩:Y),(ar i7 I).f2,(ar i7 I).f3⟩:bg)):=⟨_,rfl⟩
   replace H:((some (fg.set (I:Int).toNat (⟨(ar fg I).f0,(⟨(ar fg I).f1.f0,(ar fg I).f1.f1⟩:Y),wrap64 ((wrap64 ((wrap64 (bL+1))+1))+1),(ar fg I).f3⟩:bg):List (bg))).bind fun ec=>(j6.l0 k1 (ec.set (I:Int).toNat (⟨(ar ec I).f0,(⟨(ar ec I).f1.f0,(ar ec I).f1.f1⟩:Y),(ar ec I).f2,wrap64 ((wrap64 ((wrap64 ((wrap64 (bL+1))+1))+1))+1)⟩:bg)) (wrap64 ((wrap64 ((wrap64 ((wrap64 ((wrap64 (bL+1))+1))+1))+1))+1)) (wrap64 (I+1))))=some (r1,r2):=by first|(rw[NU];with_reducible exact H)|(have aq:=(Option.bind_some _ _).symm.trans H;rw[NU];with_reducible exact aq)|(have aq:=(Option.bind_some _ _).symm.trans H;with_reducible exact aq)|with_reducible exact H|(rw[NU];exact H)|exact H
   have Ny746:=Ah NU;clear NU;obtain⟨ec,NV⟩:∃y_:List (bg),y_=(fg.set (I:Int).toNat (⟨(ar fg I).f0,(⟨(ar fg I).f1.f0,(ar fg I).f1.f1⟩:Y),Gj ((Gj ((Gj (bL+1))+1))+1),(ar fg I).f3⟩:bg)):=⟨_,rfl⟩
   replace H:(j6.l0 k1 (ec.set (I:Int).toNat (⟨(ar ec I).f0,(⟨(ar ec I).f1.f0,(ar ec I).f1.f1⟩:Y),(ar ec I).f2,wrap64 ((wrap64 ((wrap64 ((wrap64 (bL+1))+1))+1))+1)⟩:bg)) (wrap64 ((wrap64 ((wrap64 ((wrap64 ((wrap64 (bL+1))+1))+1))+1))+1)) (wrap64 (I+1)))=some (r1,r2):=by first|(rw[NV];with_reducible exact H)|(have aq:=(Option.bind_some _ _).symm.trans H;rw[NV];with_reducible exact aq)|(have aq:=(Option.bind_some _ _).symm.trans H;with_reducible exact aq)|with_reducible exact H|(rw[NV];exact H)|exact H
   have Ny747:=Ah NV;clear NV;obtain⟨a1x,NW⟩:∃y_:List (bg),y_=(ec.set (I:Int).toNat (⟨(ar ec I).f0,(⟨(ar ec I).f1.f0,(ar ec I).f1.f1⟩:Y),(ar ec I).f2,Gj ((Gj ((Gj ((Gj (bL+1))+1))+1))+1)⟩:bg)):=⟨_,rfl⟩
   replace H:(j6.l0 k1 a1x (Gj ((Gj ((Gj ((Gj ((Gj (bL+1))+1))+1))+1))+1)) (Gj (I+1)))=some (r1,r2):=by first|(rw[NW];with_reducible exact H)|(have aq:=(Gm _ _).symm.trans H;rw[NW];with_reducible exact aq)|(have aq:=(Gm _ _).symm.trans H;with_reducible exact aq)|with_reducible exact H|(rw[NW];exact H)|exact H
   have Ny748:=Ah NW;clear NW;have H':=Ah H;clear H;obtain⟨qF,gP,qk⟩:=Kd.az bz.out;subst qk;have p5:0≤(I:Int):=od;have q5:(I:Int)<((bX.length:Int):Int):=od;obtain⟨bC,ro,rp,xq,Gf,cl5,xr⟩:=Kd.wM bz.out (by omega);(first|cases rp|(injection rp with eH nN nO;(first|subst eH|(injection eH with eH;subst eH));subst nO;clear nN));have qp:=Ah xq;have GG5:=Ah xr;clear xq Gf xr;have ZP:=Ah (show(dG bC∨w.heap.size≤bC)from(bz.out.1 _ rfl));obtain⟨ce5,PH,Da,qI,qJ⟩:=Kd.gt bz.out lH (I:Int) p5 q5;obtain rfl:=uW Da;have ZQ:wr.cell? ⟨bC,(I:Int).toNat*5,none⟩=some (.int .i64 ((ar bX I).f0)):=qI 0 _ rfl;have hx5_1:wr.cell? ⟨bC,(I:Int).toNat*5+1,none⟩=some (.int .i64 ((ar bX I).f1.f0)):=qI 1 _ rfl;have hx5_2:wr.cell? ⟨bC,(I:Int).toNat*5+2,none⟩=some (.int .i64 ((ar bX I).f1.f1)):=qI 2 _ rfl;have hx5_3:wr.cell? ⟨bC,(I:Int).toNat*5+3,none⟩=some (.int .i64 ((ar bX I).f2)):=qI 3 _ rfl;have hx5_4:wr.cell? ⟨bC,(I:Int).toNat*5+4,none⟩=some (.int .i64 ((ar bX I).f3)):=qI 4 _ rfl;have ZR:wr.frozen? ⟨bC,(I:Int).toNat*5,none⟩=false:=qJ 0;have hf5_1:wr.frozen? ⟨bC,(I:Int).toNat*5+1,none⟩=false:=qJ 1;have hf5_2:wr.frozen? ⟨bC,(I:Int).toNat*5+2,none⟩=false:=qJ 2;have hf5_3:wr.frozen? ⟨bC,(I:Int).toNat*5+3,none⟩=false:=qJ 3;have hf5_4:wr.frozen? ⟨bC,(I:Int).toNat*5+4,none⟩=false:=qJ 4;clear PH qI qJ Da;replace p5:=eq_true p5;replace q5:=eq_true q5;have PI:=Ah (show Kd.R e5 47 wr w0.heap.size (fun k_=>(dG k_∨w.heap.size≤k_)) (.slice (some ⟨bC,0,none⟩) bX.length gP) bX from(rr bz.out));obtain⟨ce11,NX,PJ,FB,NY⟩:=Kd.gt PI.out lH (I:Int) (od) (by have h_:(I:Int)<((bX.length:Int):Int):=od;first|exact h_|(have e_:=(Kd.aY bz.out).1;omega)|simpa using h_);obtain rfl:=uW PJ;have GA:=Kd.nD PI.out (I:Int) (od) (by have h_:(I:Int)<((bX.length:Int):Int):=od;first|exact h_|(have e_:=(Kd.aY bz.out).1;omega)|simpa using h_) (seg:=[.int .i64 bL]) (j:=0) NX FB (show 1≤5 from by decide) (x':=(⟨bL,(⟨(ar bX I).f1.f0,(ar bX I).f1.f1⟩:Y),(ar bX I).f2,(ar bX I).f3⟩:bg)) (E0 _ _ _ (⟨bL,(⟨(ar bX I).f1.f0,(ar bX I).f1.f1⟩:Y),(ar bX I).f2,(ar bX I).f3⟩:bg)) (fun _ hk=>hk);have Y4:=FB 0 _ rfl;(try simp only[show(e5).sz=5 from rfl,fl,dH]at Y4);have Y5:=NY 0;(try simp only[show(e5).sz=5 from rfl,fl,dH]at Y5);clear NX FB NY PJ
   go_wp2_with (first|((with_reducible refine n8 (t:=3) (p:=16) rfl ?_);refine n7 (t:=3) (p:=16) (v:= ?vo_w12) (w1:=(wr.setCell ⟨bC,(I:Int).toNat*5,none⟩ (.int .i64 bL))) ?hg ?ho ?hn ?hr ?_;(case ho=>rfl);(case hg=>rfl);(case hn=>rfl);(case hr=>first|(go_simp;done)|(go_simp;rfl));intro ef hw;have hg:wr.grownBy ef (some bC):=(by rw[hw];exact GA.2);have eB:Kd.R e5 47 ef w0.heap.size (fun k_=>(dG k_∨w.heap.size≤k_)) (.slice (some ⟨bC,0,none⟩) bX.length gP) ja:=(by rw[hw,Ny744.out];exact GA.1);clear GA;replace HB:=Ah ((by rw[hw];exact fJ (HB.out) qp.out:Below w0.heap.size w0 ef));replace HK:=Ah (ap.sF (S:=(fun k_=>dG k_)) hg (by repeat(first|(with_reducible first|exact HK.out|apply ap.alloc|apply ap.drewN|apply ap.drew)|exact HK.out)) (fun k_ e_=>(bz.out.1 k_ e_)));replace bz:=Ah (eB);clear hg hw eB;have p6:0≤(I:Int):=od;have q6:(I:Int)<((bX.length:Int):Int):=od;obtain⟨ce6,PK,Db,qK,qL⟩:=Kd.gt bz.out lH (I:Int) p6 q6;obtain rfl:=uW Db;have hx6_0:ef.cell? ⟨bC,(I:Int).toNat*5,none⟩=some (.int .i64 ((ar ja I).f0)):=qK 0 _ rfl;have hx6_1:ef.cell? ⟨bC,(I:Int).toNat*5+1,none⟩=some (.int .i64 ((ar ja I).f1.f0)):=qK 1 _ rfl;have hx6_2:ef.cell? ⟨bC,(I:Int).toNat*5+2,none⟩=some (.int .i64 ((ar ja I).f1.f1)):=qK 2 _ rfl;have hx6_3:ef.cell? ⟨bC,(I:Int).toNat*5+3,none⟩=some (.int .i64 ((ar ja I).f2)):=qK 3 _ rfl;have hx6_4:ef.cell? ⟨bC,(I:Int).toNat*5+4,none⟩=some (.int .i64 ((ar ja I).f3)):=qK 4 _ rfl;have hf6_0:ef.frozen? ⟨bC,(I:Int).toNat*5,none⟩=false:=qL 0;have hf6_1:ef.frozen? ⟨bC,(I:Int).toNat*5+1,none⟩=false:=qL 1;have hf6_2:ef.frozen? ⟨bC,(I:Int).toNat*5+2,none⟩=false:=qL 2;have hf6_3:ef.frozen? ⟨bC,(I:Int).toNat*5+3,none⟩=false:=qL 3;have hf6_4:ef.frozen? ⟨bC,(I:Int).toNat*5+4,none⟩=false:=qL 4;clear PK qK qL Db;replace p6:=eq_true p6;replace q6:=eq_true q6;have PL:=Ah (show Kd.R e5 47 ef w0.heap.size (fun k_=>(dG k_∨w.heap.size≤k_)) (.slice (some ⟨bC,0,none⟩) bX.length gP) ja from(rr bz.out));obtain⟨U6,wa,so,oZ,qC⟩:=Kd.gt PL.out lH (I:Int) (od) (by have h_:(I:Int)<((bX.length:Int):Int):=od;first|exact h_|(have e_:=(Kd.aY bz.out).1;omega)|simpa using h_);obtain rfl:=uW so;have GB:=Kd.nD PL.out (I:Int) (od) (by have h_:(I:Int)<((bX.length:Int):Int):=od;first|exact h_|(have e_:=(Kd.aY bz.out).1;omega)|simpa using h_) (seg:=[.int .i64 (Gj (bL+1))]) (j:=1) wa oZ (show 2≤5 from by decide) (x':=(⟨(ar ja I).f0,(⟨Gj (bL+1),(ar ja I).f1.f1⟩:Y),(ar ja I).f2,(ar ja I).f3⟩:bg)) (E0 _ _ _ (⟨(ar ja I).f0,(⟨Gj (bL+1),(ar ja I).f1.f1⟩:Y),(ar ja I).f2,(ar ja I).f3⟩:bg)) (fun _ hk=>hk);have IL:=oZ 1 _ rfl;(try simp only[show(e5).sz=5 from rfl,fl,dH]at IL);have IM:=qC 1;(try simp only[show(e5).sz=5 from rfl,fl,dH]at IM);clear wa oZ qC so)|((with_reducible refine n8 (t:=3) (p:=24) rfl ?_);refine n7 (t:=3) (p:=24) (v:= ?vo_w14) (w1:=(ef.setCell ⟨bC,(I:Int).toNat*5+1,none⟩ (.int .i64 (Gj (bL+1))))) ?hg ?ho ?hn ?hr ?_;(case ho=>rfl);(case hg=>rfl);(case hn=>rfl);(case hr=>first|(go_simp;done)|(go_simp;rfl));intro eL hw;have hg:ef.grownBy eL (some bC):=(by rw[hw];exact GB.2);have eB:Kd.R e5 47 eL w0.heap.size (fun k_=>(dG k_∨w.heap.size≤k_)) (.slice (some ⟨bC,0,none⟩) bX.length gP) i7:=(by rw[hw,Ny745.out];exact GB.1);clear GB;replace HB:=Ah ((by rw[hw];exact fJ (HB.out) qp.out:Below w0.heap.size w0 eL));replace HK:=Ah (ap.sF (S:=(fun k_=>dG k_)) hg (by repeat(first|(with_reducible first|exact HK.out|apply ap.alloc|apply ap.drewN|apply ap.drew)|exact HK.out)) (fun k_ e_=>(bz.out.1 k_ e_)));replace bz:=Ah (eB);clear hg hw eB;have p7:0≤(I:Int):=od;have q7:(I:Int)<((bX.length:Int):Int):=od;obtain⟨ce7,a1y,QA,uH,uI⟩:=Kd.gt bz.out lH (I:Int) p7 q7;obtain rfl:=uW QA;have hx7_0:eL.cell? ⟨bC,(I:Int).toNat*5,none⟩=some (.int .i64 ((ar i7 I).f0)):=uH 0 _ rfl;have hx7_1:eL.cell? ⟨bC,(I:Int).toNat*5+1,none⟩=some (.int .i64 ((ar i7 I).f1.f0)):=uH 1 _ rfl;have hx7_2:eL.cell? ⟨bC,(I:Int).toNat*5+2,none⟩=some (.int .i64 ((ar i7 I).f1.f1)):=uH 2 _ rfl;have hx7_3:eL.cell? ⟨bC,(I:Int).toNat*5+3,none⟩=some (.int .i64 ((ar i7 I).f2)):=uH 3 _ rfl;have hx7_4:eL.cell? ⟨bC,(I:Int).toNat*5+4,none⟩=some (.int .i64 ((ar i7 I).f3)):=uH 4 _ rfl;have hf7_0:eL.frozen? ⟨bC,(I:Int).toNat*5,none⟩=false:=uI 0;have hf7_1:eL.frozen? ⟨bC,(I:Int).toNat*5+1,none⟩=false:=uI 1;have hf7_2:eL.frozen? ⟨bC,(I:Int).toNat*5+2,none⟩=false:=uI 2;have hf7_3:eL.frozen? ⟨bC,(I:Int).toNat*5+3,none⟩=false:=uI 3;have hf7_4:eL.frozen? ⟨bC,(I:Int).toNat*5+4,none⟩=false:=uI 4;clear a1y uH uI QA;replace p7:=eq_true p7;replace q7:=eq_true q7;have mT:=Ah (show Kd.R e5 47 eL w0.heap.size (fun k_=>(dG k_∨w.heap.size≤k_)) (.slice (some ⟨bC,0,none⟩) bX.length gP) i7 from(rr bz.out));obtain⟨Fo,mI,mU,jP,mJ⟩:=Kd.gt mT.out lH (I:Int) (od) (by have h_:(I:Int)<((bX.length:Int):Int):=od;first|exact h_|(have e_:=(Kd.aY bz.out).1;omega)|simpa using h_);obtain rfl:=uW mU;have n3:=Kd.nD mT.out (I:Int) (od) (by have h_:(I:Int)<((bX.length:Int):Int):=od;first|exact h_|(have e_:=(Kd.aY bz.out).1;omega)|simpa using h_) (seg:=[.int .i64 (Gj ((Gj (bL+1))+1))]) (j:=2) mI jP (show 3≤5 from by decide) (x':=(⟨(ar i7 I).f0,(⟨(ar i7 I).f1.f0,Gj ((Gj (bL+1))+1)⟩:Y),(ar i7 I).f2,(ar i7 I).f3⟩:bg)) (E0 _ _ _ (⟨(ar i7 I).f0,(⟨(ar i7 I).f1.f0,Gj ((Gj (bL+1))+1)⟩:Y),(ar i7 I).f2,(ar i7 I).f3⟩:bg)) (fun _ hk=>hk);have Y6:=jP 2 _ rfl;(try simp only[show(e5).sz=5 from rfl,fl,dH]at Y6);have Y7:=mJ 2;(try simp only[show(e5).sz=5 from rfl,fl,dH]at Y7);clear mI jP mJ mU)|((with_reducible refine n8 (t:=3) (p:=32) rfl ?_);refine n7 (t:=3) (p:=32) (v:= ?vo_w16) (w1:=(eL.setCell ⟨bC,(I:Int).toNat*5+2,none⟩ (.int .i64 (Gj ((Gj (bL+1))+1))))) ?hg ?ho ?hn ?hr ?_;(case ho=>rfl);(case hg=>rfl);(case hn=>rfl);(case hr=>first|(go_simp;done)|(go_simp;rfl));intro w16 hw;have hg:eL.grownBy w16 (some bC):=(by rw[hw];exact n3.2);have eB:Kd.R e5 47 w16 w0.heap.size (fun k_=>(dG k_∨w.heap.size≤k_)) (.slice (some ⟨bC,0,none⟩) bX.length gP) fg:=(by rw[hw,Ny746.out];exact n3.1);clear n3;replace HB:=Ah ((by rw[hw];exact fJ (HB.out) qp.out:Below w0.heap.size w0 w16));replace HK:=Ah (ap.sF (S:=(fun k_=>dG k_)) hg (by repeat(first|(with_reducible first|exact HK.out|apply ap.alloc|apply ap.drewN|apply ap.drew)|exact HK.out)) (fun k_ e_=>(bz.out.1 k_ e_)));replace bz:=Ah (eB);clear hg hw eB;have p8:0≤(I:Int):=od;have q8:(I:Int)<((bX.length:Int):Int):=od;obtain⟨ce8,JK,Dc,qM,qm⟩:=Kd.gt bz.out lH (I:Int) p8 q8;obtain rfl:=uW Dc;have ZS:w16.cell? ⟨bC,(I:Int).toNat*5,none⟩=some (.int .i64 ((ar fg I).f0)):=qM 0 _ rfl;have hx8_1:w16.cell? ⟨bC,(I:Int).toNat*5+1,none⟩=some (.int .i64 ((ar fg I).f1.f0)):=qM 1 _ rfl;have hx8_2:w16.cell? ⟨bC,(I:Int).toNat*5+2,none⟩=some (.int .i64 ((ar fg I).f1.f1)):=qM 2 _ rfl;have hx8_3:w16.cell? ⟨bC,(I:Int).toNat*5+3,none⟩=some (.int .i64 ((ar fg I).f2)):=qM 3 _ rfl;have hx8_4:w16.cell? ⟨bC,(I:Int).toNat*5+4,none⟩=some (.int .i64 ((ar fg I).f3)):=qM 4 _ rfl;have ZT:w16.frozen? ⟨bC,(I:Int).toNat*5,none⟩=false:=qm 0;have hf8_1:w16.frozen? ⟨bC,(I:Int).toNat*5+1,none⟩=false:=qm 1;have hf8_2:w16.frozen? ⟨bC,(I:Int).toNat*5+2,none⟩=false:=qm 2;have hf8_3:w16.frozen? ⟨bC,(I:Int).toNat*5+3,none⟩=false:=qm 3;have hf8_4:w16.frozen? ⟨bC,(I:Int).toNat*5+4,none⟩=false:=qm 4;clear JK qM qm Dc;replace p8:=eq_true p8;replace q8:=eq_true q8;have PM:=Ah (show Kd.R e5 47 w16 w0.heap.size (fun k_=>(dG k_∨w.heap.size≤k_)) (.slice (some ⟨bC,0,none⟩) bX.length gP) fg from(rr bz.out));obtain⟨ce17,NZ,PN,FC,Na⟩:=Kd.gt PM.out lH (I:Int) (od) (by have h_:(I:Int)<((bX.length:Int):Int):=od;first|exact h_|(have e_:=(Kd.aY bz.out).1;omega)|simpa using h_);obtain rfl:=uW PN;have GC:=Kd.nD PM.out (I:Int) (od) (by have h_:(I:Int)<((bX.length:Int):Int):=od;first|exact h_|(have e_:=(Kd.aY bz.out).1;omega)|simpa using h_) (seg:=[.int .i64 (Gj ((Gj ((Gj (bL+1))+1))+1))]) (j:=3) NZ FC (show 4≤5 from by decide) (x':=(⟨(ar fg I).f0,(⟨(ar fg I).f1.f0,(ar fg I).f1.f1⟩:Y),Gj ((Gj ((Gj (bL+1))+1))+1),(ar fg I).f3⟩:bg)) (E0 _ _ _ (⟨(ar fg I).f0,(⟨(ar fg I).f1.f0,(ar fg I).f1.f1⟩:Y),Gj ((Gj ((Gj (bL+1))+1))+1),(ar fg I).f3⟩:bg)) (fun _ hk=>hk);have Y8:=FC 3 _ rfl;(try simp only[show(e5).sz=5 from rfl,fl,dH]at Y8);have Y9:=Na 3;(try simp only[show(e5).sz=5 from rfl,fl,dH]at Y9);clear NZ FC Na PN)|((with_reducible refine n8 (t:=3) (p:=39) rfl ?_);refine n7 (t:=3) (p:=39) (v:= ?vo_w18) (w1:=(w16.setCell ⟨bC,(I:Int).toNat*5+3,none⟩ (.int .i64 (Gj ((Gj ((Gj (bL+1))+1))+1))))) ?hg ?ho ?hn ?hr ?_;(case ho=>rfl);(case hg=>rfl);(case hn=>rfl);(case hr=>first|(go_simp;done)|(go_simp;rfl));intro cG hw;have hg:w16.grownBy cG (some bC):=(by rw[hw];exact GC.2);have eB:Kd.R e5 47 cG w0.heap.size (fun k_=>(dG k_∨w.heap.size≤k_)) (.slice (some ⟨bC,0,none⟩) bX.length gP) ec:=(by rw[hw,Ny747.out];exact GC.1);clear GC;replace HB:=Ah ((by rw[hw];exact fJ (HB.out) qp.out:Below w0.heap.size w0 cG));replace HK:=Ah (ap.sF (S:=(fun k_=>dG k_)) hg (by repeat(first|(with_reducible first|exact HK.out|apply ap.alloc|apply ap.drewN|apply ap.drew)|exact HK.out)) (fun k_ e_=>(bz.out.1 k_ e_)));replace bz:=Ah (eB);clear hg hw eB;have p9:0≤(I:Int):=od;have q9:(I:Int)<((bX.length:Int):Int):=od;obtain⟨ce9,a1z,QB,uJ,uK⟩:=Kd.gt bz.out lH (I:Int) p9 q9;obtain rfl:=uW QB;have hx9_0:cG.cell? ⟨bC,(I:Int).toNat*5,none⟩=some (.int .i64 ((ar ec I).f0)):=uJ 0 _ rfl;have hx9_1:cG.cell? ⟨bC,(I:Int).toNat*5+1,none⟩=some (.int .i64 ((ar ec I).f1.f0)):=uJ 1 _ rfl;have hx9_2:cG.cell? ⟨bC,(I:Int).toNat*5+2,none⟩=some (.int .i64 ((ar ec I).f1.f1)):=uJ 2 _ rfl;have hx9_3:cG.cell? ⟨bC,(I:Int).toNat*5+3,none⟩=some (.int .i64 ((ar ec I).f2)):=uJ 3 _ rfl;have hx9_4:cG.cell? ⟨bC,(I:Int).toNat*5+4,none⟩=some (.int .i64 ((ar ec I).f3)):=uJ 4 _ rfl;have hf9_0:cG.frozen? ⟨bC,(I:Int).toNat*5,none⟩=false:=uK 0;have hf9_1:cG.frozen? ⟨bC,(I:Int).toNat*5+1,none⟩=false:=uK 1;have hf9_2:cG.frozen? ⟨bC,(I:Int).toNat*5+2,none⟩=false:=uK 2;have hf9_3:cG.frozen? ⟨bC,(I:Int).toNat*5+3,none⟩=false:=uK 3;have hf9_4:cG.frozen? ⟨bC,(I:Int).toNat*5+4,none⟩=false:=uK 4;clear a1z uJ uK QB;replace p9:=eq_true p9;replace q9:=eq_true q9;have PO:=Ah (show Kd.R e5 47 cG w0.heap.size (fun k_=>(dG k_∨w.heap.size≤k_)) (.slice (some ⟨bC,0,none⟩) bX.length gP) ec from(rr bz.out));obtain⟨ce19,Nb,PP,FD,Nc⟩:=Kd.gt PO.out lH (I:Int) (od) (by have h_:(I:Int)<((bX.length:Int):Int):=od;first|exact h_|(have e_:=(Kd.aY bz.out).1;omega)|simpa using h_);obtain rfl:=uW PP;have GD:=Kd.nD PO.out (I:Int) (od) (by have h_:(I:Int)<((bX.length:Int):Int):=od;first|exact h_|(have e_:=(Kd.aY bz.out).1;omega)|simpa using h_) (seg:=[.int .i64 (Gj ((Gj ((Gj ((Gj (bL+1))+1))+1))+1))]) (j:=4) Nb FD (show 5≤5 from by decide) (x':=(⟨(ar ec I).f0,(⟨(ar ec I).f1.f0,(ar ec I).f1.f1⟩:Y),(ar ec I).f2,Gj ((Gj ((Gj ((Gj (bL+1))+1))+1))+1)⟩:bg)) (E0 _ _ _ (⟨(ar ec I).f0,(⟨(ar ec I).f1.f0,(ar ec I).f1.f1⟩:Y),(ar ec I).f2,Gj ((Gj ((Gj ((Gj (bL+1))+1))+1))+1)⟩:bg)) (fun _ hk=>hk);have YA:=FD 4 _ rfl;(try simp only[show(e5).sz=5 from rfl,fl,dH]at YA);have YB:=Nc 4;(try simp only[show(e5).sz=5 from rfl,fl,dH]at YB);clear Nb FD Nc PP)|((with_reducible refine n8 (t:=3) (p:=46) rfl ?_);refine n7 (t:=3) (p:=46) (v:= ?vo_w20) (w1:=(cG.setCell ⟨bC,(I:Int).toNat*5+4,none⟩ (.int .i64 (Gj ((Gj ((Gj ((Gj (bL+1))+1))+1))+1))))) ?hg ?ho ?hn ?hr ?_;(case ho=>rfl);(case hg=>rfl);(case hn=>rfl);(case hr=>first|(go_simp;done)|(go_simp;rfl));intro iH hw;have hg:cG.grownBy iH (some bC):=(by rw[hw];exact GD.2);have eB:Kd.R e5 47 iH w0.heap.size (fun k_=>(dG k_∨w.heap.size≤k_)) (.slice (some ⟨bC,0,none⟩) bX.length gP) a1x:=(by rw[hw,Ny748.out];exact GD.1);clear GD;replace HB:=Ah ((by rw[hw];exact fJ (HB.out) qp.out:Below w0.heap.size w0 iH));replace HK:=Ah (ap.sF (S:=(fun k_=>dG k_)) hg (by repeat(first|(with_reducible first|exact HK.out|apply ap.alloc|apply ap.drewN|apply ap.drew)|exact HK.out)) (fun k_ e_=>(bz.out.1 k_ e_)));replace bz:=Ah (eB);clear hg hw eB))
   go_roundg k1
   case measure=>have:=bi.out;omega
   case rel=>exact⟨(a1x),(Gj ((Gj ((Gj ((Gj ((Gj (bL+1))+1))+1))+1))+1)),(Gj (I+1)),e3,e3,H',⟨by have:=bi.out;omega⟩,⟨rr bz.out⟩,⟨by repeat(first|(with_reducible first|exact HK.out|apply ap.alloc|apply ap.drewN|apply ap.drew)|exact HK.out)⟩,⟨bs HB⟩⟩
def iR.l0:Nat→List (Y)→Int→Int→Option (Int×(List (Y)))
 |0,_,_,_=>none
 |k+1,x0,x1,x5=>if x5<(x0.length:Int)then(if 0≤x5 then((some (x0.set (x5:Int).toNat (⟨x1,(aD x0 x5).f1⟩:Y):List (Y))).bind fun uL=>(iR.l0 k (uL.set (x5:Int).toNat (⟨(aD uL x5).f0,Gj (x1+1)⟩:Y)) (Gj ((Gj (x1+1))+1)) (Gj (x5+1))))else(none))else(some (x1,x0))
def iR.f(k:Nat)(l0:List (Y))(a1:Int):Option (Int×(List (Y))):=iR.l0 k l0 a1 0
theorem iR.cQ:∀k,(∀y0 y1 y2,aG (iR.l0 k y0 y1 y2) (iR.l0 (k+1) y0 y1 y2))
 |0=>fun _ _ _ r h=>by simp[iR.l0]at h
 |k+1=>by
  have bS:=iR.cQ k
  ·
   intro y0 y1 y2;unfold iR.l0
   repeat' with_reducible first|exact bS _ _ _|exact aG.refl _|exact aG.none _|refine aG.ite ?_ ?_|refine aG.bind ?_ (fun _=> ?_)
theorem iR.mono:∀a0 a1 k,aG (iR.f k a0 a1) (iR.f (k+1) a0 a1):=by
 intro a0 a1 k;have bS:=iR.cQ k;unfold iR.f
 repeat' with_reducible first|exact bS _ _ _|exact aG.refl _|exact aG.none _|refine aG.ite ?_ ?_|refine aG.bind ?_ (fun _=> ?_)
theorem iR.calls(k:Nat)(dG:Nat→Prop)(fd:Value)(l0:List (Y))(a1:Int)(r1:Int)(r2:List (Y))(w0 w:World)(hB:Below w0.heap.size w0 w)(ho0:Kd.R aT 45 w w0.heap.size dG fd l0)(h:iR.f k l0 a1=some (r1,r2)):
 Calls Uf 51 #[fd,.int .i64 a1] w fun e w'=>e= .returned (.int .i64 r1)∧Kd.R aT 45 w' w0.heap.size (fun k_=>(dG k_∨w.heap.size≤k_)) fd r2∧Below w0.heap.size w0 w'∧ap w w' (fun k_=>dG k_):=by
 have Ge:=Ah (show Kd.R aT 45 w w0.heap.size (fun k_=>(dG k_∨w.heap.size≤k_)) fd l0 from Kd.ax ho0 (fun k_ hk=>(.inl hk)));have HK:=Ah (ap.refl w (fun k_=>dG k_));have HW0:=Ah hB.size;have HB:=Ah hB;clear hB;have H:(iR.l0 k l0 a1 0)=some (r1,r2):=h;clear h;have H':=Ah H;clear H
 go_enter Try.func51,Try.ntmps51
 go_wp2
 go_loopg [1,5] k (fun kq v1 v5 w'=>∃ (bX:List (Y)) (bL:Int) (I:Int),v1= .int .i64 bL∧v5= .int .i64 I∧Z (iR.l0 kq bX bL I=some (r1,r2))∧Z (kq≤k)∧Z (Kd.R aT 45 w' w0.heap.size (fun k_=>(dG k_∨w.heap.size≤k_)) fd bX)∧Z (ap w w' (fun k_=>dG k_))∧Z (Below w0.heap.size w0 w'))
 case atStart=>exact⟨(l0),(a1),(0),e3,e3,H',⟨QQ _⟩,⟨rr Ge.out⟩,⟨by repeat(first|(with_reducible first|exact HK.out|apply ap.alloc|apply ap.drewN|apply ap.drew)|exact HK.out)⟩,⟨bs HB⟩⟩
 case round=>
  clear H'
  try clear p2
  obtain⟨bX,bL,I,rfl,rfl,HA,bi,bz,HK,HB⟩:=hrel
  cases gk with
  |zero=>exact absurd HA.out (by simp[iR.l0])
  |succ k1=>
   have H:=HA.out;clear HA;simp only[iR.l0]at H
   by_cases c3:I<(bX.length:Int)
   rotate_left
   ·
    rw[if_neg c3]at H;have dc:=dn c3;clear c3;simp only[Jh,Ue]at H;obtain⟨rfl,rfl⟩:=H;obtain⟨Ao12,co12,Tp⟩:=Kd.az bz.out;subst Tp
    go_wp2
    go_ret
    exact⟨er,by(with_reducible repeat(first|apply Kd.bd|apply Kd.bZ|apply Kd.bQ));exact bz.out,bs HB,by repeat(first|(with_reducible first|exact HK.out|apply ap.alloc|apply ap.drewN|apply ap.drew)|exact HK.out)⟩
   rw[if_pos c3]at H;have dc:=bJ c3;clear c3
   by_cases c4:0≤I
   rotate_left
   ·
    rw[if_neg c4]at H;exact absurd H (by simp)
   rw[if_pos c4]at H;have fB:=bJ c4;clear c4;obtain⟨uL,Nd⟩:∃y_:List (Y),y_=(bX.set (I:Int).toNat (⟨bL,(aD bX I).f1⟩:Y)):=⟨_,rfl⟩
   replace H:(iR.l0 k1 (uL.set (I:Int).toNat (⟨(aD uL I).f0,wrap64 (bL+1)⟩:Y)) (wrap64 ((wrap64 (bL+1))+1)) (wrap64 (I+1)))=some (r1,r2):=by first|(rw[Nd];with_reducible exact H)|(have aq:=(Option.bind_some _ _).symm.trans H;rw[Nd];with_reducible exact aq)|(have aq:=(Option.bind_some _ _).symm.trans H;with_reducible exact aq)|with_reducible exact H|(rw[Nd];exact H)|exact H
   have Ny749:=Ah Nd;clear Nd;obtain⟨a1A,Nf⟩:∃y_:List (Y),y_=(uL.set (I:Int).toNat (⟨(aD uL I).f0,Gj (bL+1)⟩:Y)):=⟨_,rfl⟩
   replace H:(iR.l0 k1 a1A (Gj ((Gj (bL+1))+1)) (Gj (I+1)))=some (r1,r2):=by first|(rw[Nf];with_reducible exact H)|(have aq:=(Gm _ _).symm.trans H;rw[Nf];with_reducible exact aq)|(have aq:=(Gm _ _).symm.trans H;with_reducible exact aq)|with_reducible exact H|(rw[Nf];exact H)|exact H
   have Ny750:=Ah Nf;clear Nf;have H':=Ah H;clear H;obtain⟨qO,nM,GX⟩:=Kd.az bz.out;subst GX;have p5:0≤(I:Int):=od;have q5:(I:Int)<((bX.length:Int):Int):=od;obtain⟨bC,ro,rp,xq,Gf,cl5,xr⟩:=Kd.wM bz.out (by omega);(first|cases rp|(injection rp with eH nN nO;(first|subst eH|(injection eH with eH;subst eH));subst nO;clear nN));have qp:=Ah xq;have GG5:=Ah xr;clear xq Gf xr;have ZP:=Ah (show(dG bC∨w.heap.size≤bC)from(bz.out.1 _ rfl));obtain⟨ce5,PH,Da,qI,qJ⟩:=Kd.gt bz.out z45 (I:Int) p5 q5;obtain rfl:=qT Da;have ZQ:wr.cell? ⟨bC,(I:Int).toNat*2,none⟩=some (.int .i64 ((aD bX I).f0)):=qI 0 _ rfl;have hx5_1:wr.cell? ⟨bC,(I:Int).toNat*2+1,none⟩=some (.int .i64 ((aD bX I).f1)):=qI 1 _ rfl;have ZR:wr.frozen? ⟨bC,(I:Int).toNat*2,none⟩=false:=qJ 0;have hf5_1:wr.frozen? ⟨bC,(I:Int).toNat*2+1,none⟩=false:=qJ 1;clear PH qI qJ Da;replace p5:=eq_true p5;replace q5:=eq_true q5;have HX8:=Ah (show Kd.R aT 45 wr w0.heap.size (fun k_=>(dG k_∨w.heap.size≤k_)) (.slice (some ⟨bC,0,none⟩) bX.length nM) bX from(rr bz.out));obtain⟨ce8,JK,Dc,qM,qm⟩:=Kd.gt HX8.out z45 (I:Int) (od) (by have h_:(I:Int)<((bX.length:Int):Int):=od;first|exact h_|(have e_:=(Kd.aY bz.out).1;omega)|simpa using h_);obtain rfl:=qT Dc;have HP8:=Kd.nD HX8.out (I:Int) (od) (by have h_:(I:Int)<((bX.length:Int):Int):=od;first|exact h_|(have e_:=(Kd.aY bz.out).1;omega)|simpa using h_) (seg:=[.int .i64 bL]) (j:=0) JK qM (show 1≤2 from by decide) (x':=(⟨bL,(aD bX I).f1⟩:Y)) (ls _ _ _ (⟨bL,(aD bX I).f1⟩:Y)) (fun _ hk=>hk);have ZS:=qM 0 _ rfl;(try simp only[show(aT).sz=2 from rfl,fl,dH]at ZS);have ZT:=qm 0;(try simp only[show(aT).sz=2 from rfl,fl,dH]at ZT);clear JK qM qm Dc
   go_wp2_with (first|((with_reducible refine n8 (t:=3) (p:=16) rfl ?_);refine n7 (t:=3) (p:=16) (v:= ?vo_w9) (w1:=(wr.setCell ⟨bC,(I:Int).toNat*2,none⟩ (.int .i64 bL))) ?hg ?ho ?hn ?hr ?_;(case ho=>rfl);(case hg=>rfl);(case hn=>rfl);(case hr=>first|(go_simp;done)|(go_simp;rfl));intro w9 hw;have hg:wr.grownBy w9 (some bC):=(by rw[hw];exact HP8.2);have eB:Kd.R aT 45 w9 w0.heap.size (fun k_=>(dG k_∨w.heap.size≤k_)) (.slice (some ⟨bC,0,none⟩) bX.length nM) uL:=(by rw[hw,Ny749.out];exact HP8.1);clear HP8;replace HB:=Ah ((by rw[hw];exact fJ (HB.out) qp.out:Below w0.heap.size w0 w9));replace HK:=Ah (ap.sF (S:=(fun k_=>dG k_)) hg (by repeat(first|(with_reducible first|exact HK.out|apply ap.alloc|apply ap.drewN|apply ap.drew)|exact HK.out)) (fun k_ e_=>(bz.out.1 k_ e_)));replace bz:=Ah (eB);clear hg hw eB;have p6:0≤(I:Int):=od;have q6:(I:Int)<((bX.length:Int):Int):=od;obtain⟨ce6,PK,Db,qK,qL⟩:=Kd.gt bz.out z45 (I:Int) p6 q6;obtain rfl:=qT Db;have hx6_0:w9.cell? ⟨bC,(I:Int).toNat*2,none⟩=some (.int .i64 ((aD uL I).f0)):=qK 0 _ rfl;have hx6_1:w9.cell? ⟨bC,(I:Int).toNat*2+1,none⟩=some (.int .i64 ((aD uL I).f1)):=qK 1 _ rfl;have hf6_0:w9.frozen? ⟨bC,(I:Int).toNat*2,none⟩=false:=qL 0;have hf6_1:w9.frozen? ⟨bC,(I:Int).toNat*2+1,none⟩=false:=qL 1;clear PK qK qL Db;replace p6:=eq_true p6;replace q6:=eq_true q6;have HX10:=Ah (show Kd.R aT 45 w9 w0.heap.size (fun k_=>(dG k_∨w.heap.size≤k_)) (.slice (some ⟨bC,0,none⟩) bX.length nM) uL from(rr bz.out));obtain⟨ce10,T7,OG,yb,AP⟩:=Kd.gt HX10.out z45 (I:Int) (od) (by have h_:(I:Int)<((bX.length:Int):Int):=od;first|exact h_|(have e_:=(Kd.aY bz.out).1;omega)|simpa using h_);obtain rfl:=qT OG;have a1B:=Kd.nD HX10.out (I:Int) (od) (by have h_:(I:Int)<((bX.length:Int):Int):=od;first|exact h_|(have e_:=(Kd.aY bz.out).1;omega)|simpa using h_) (seg:=[.int .i64 (Gj (bL+1))]) (j:=1) T7 yb (show 2≤2 from by decide) (x':=(⟨(aD uL I).f0,Gj (bL+1)⟩:Y)) (ls _ _ _ (⟨(aD uL I).f0,Gj (bL+1)⟩:Y)) (fun _ hk=>hk);have hx10_1:=yb 1 _ rfl;(try simp only[show(aT).sz=2 from rfl,fl,dH]at hx10_1);have hf10_1:=AP 1;(try simp only[show(aT).sz=2 from rfl,fl,dH]at hf10_1);clear T7 yb AP OG)|((with_reducible refine n8 (t:=3) (p:=23) rfl ?_);refine n7 (t:=3) (p:=23) (v:= ?vo_w11) (w1:=(w9.setCell ⟨bC,(I:Int).toNat*2+1,none⟩ (.int .i64 (Gj (bL+1))))) ?hg ?ho ?hn ?hr ?_;(case ho=>rfl);(case hg=>rfl);(case hn=>rfl);(case hr=>first|(go_simp;done)|(go_simp;rfl));intro kF hw;have hg:w9.grownBy kF (some bC):=(by rw[hw];exact a1B.2);have eB:Kd.R aT 45 kF w0.heap.size (fun k_=>(dG k_∨w.heap.size≤k_)) (.slice (some ⟨bC,0,none⟩) bX.length nM) a1A:=(by rw[hw,Ny750.out];exact a1B.1);clear a1B;replace HB:=Ah ((by rw[hw];exact fJ (HB.out) qp.out:Below w0.heap.size w0 kF));replace HK:=Ah (ap.sF (S:=(fun k_=>dG k_)) hg (by repeat(first|(with_reducible first|exact HK.out|apply ap.alloc|apply ap.drewN|apply ap.drew)|exact HK.out)) (fun k_ e_=>(bz.out.1 k_ e_)));replace bz:=Ah (eB);clear hg hw eB))
   go_roundg k1
   case measure=>have:=bi.out;omega
   case rel=>exact⟨(a1A),(Gj ((Gj (bL+1))+1)),(Gj (I+1)),e3,e3,H',⟨by have:=bi.out;omega⟩,⟨rr bz.out⟩,⟨by repeat(first|(with_reducible first|exact HK.out|apply ap.alloc|apply ap.drewN|apply ap.drew)|exact HK.out)⟩,⟨bs HB⟩⟩
def uU.f(k:Nat)(aA:Int)(X:List (Y))(aC:List (Y))(a1:Int):Option (Int×(List (Y))×(List (Y))):=(iR.f k X a1).bind fun Ng=>((iR.f k aC Ng.1).bind fun Nh=>(some (Nh.1,Ng.2,Nh.2)))
theorem uU.mono:∀a0 a1 a2 a3 k,aG (uU.f k a0 a1 a2 a3) (uU.f (k+1) a0 a1 a2 a3):=by
 intro a0 a1 a2 a3 k;unfold uU.f
 repeat' with_reducible first|exact iR.mono _ _ _|exact aG.refl _|exact aG.none _|refine aG.ite ?_ ?_|refine aG.bind ?_ (fun _=> ?_)
theorem uU.calls(k:Nat)(aA:Int)(ia:Nat→Prop)(fd:Value)(X:List (Y))(ib:Nat→Prop)(wR:Value)(aC:List (Y))(a1:Int)(r1:Int)(r2:List (Y))(r3:List (Y))(w0 w:World)(hB:Below w0.heap.size w0 w)(Nl:Kd.R aT 45 w w0.heap.size ia fd X)(Ve:∀k_,ia k_→¬ib k_)(Nm:Kd.R aT 45 w w0.heap.size ib wR aC)(Vf:∀k_,ib k_→¬ia k_)(h:uU.f k aA X aC a1=some (r1,r2,r3)):
 Calls Uf 29 #[.agg #[.int .i64 aA,fd,wR],.int .i64 a1] w fun e w'=>e= .returned (.int .i64 r1)∧Kd.R aT 45 w' w0.heap.size (fun k_=>((ia k_∨ib k_)∨w.heap.size≤k_)) fd r2∧Kd.R aT 45 w' w0.heap.size (fun k_=>((ia k_∨ib k_)∨w.heap.size≤k_)) wR r3∧Below w0.heap.size w0 w'∧ap w w' (fun k_=>ia k_∨ib k_):=by
 have mL:=ig;have lU:=Ah (show Kd.R aT 45 w w0.heap.size (fun k_=>((ia k_∨ib k_)∨w.heap.size≤k_)∧some k_≠(wR:Value).ownBlock) fd X from Kd.ax Nl (fun k_ hk=>⟨(.inl (.inl hk)),fun e_=>Ve k_ hk (Nm.1 k_ e_.symm)⟩));have lV:=Ah (show Kd.R aT 45 w w0.heap.size (fun k_=>((ia k_∨ib k_)∨w.heap.size≤k_)∧some k_≠(fd:Value).ownBlock) wR aC from Kd.ax Nm (fun k_ hk=>⟨(.inl (.inr hk)),fun e_=>Vf k_ hk (Nl.1 k_ e_.symm)⟩));have HK:=Ah (ap.refl w (fun k_=>ia k_∨ib k_));have HW0:=Ah hB.size;have HB:=Ah hB;clear hB;have H:((iR.f k X a1).bind fun Ng=>((iR.f k aC Ng.1).bind fun Nh=>(some (Nh.1,Ng.2,Nh.2))))=some (r1,r2,r3):=h;clear h;replace H:=Gl.mp H;obtain⟨⟨a1C,t753⟩,dj,H⟩:=H
 try dsimp only at H
 have A3:=Ah dj;clear dj;replace H:=Gl.mp H;obtain⟨⟨t754,t755⟩,eJ,H⟩:=H
 try dsimp only at H
 have A4:=Ah eJ;clear eJ;simp only[Jh,Ue]at H;obtain⟨rfl,rfl,rfl⟩:=H;obtain⟨xt,ro,rp⟩:=Kd.az lU.out;subst rp;obtain⟨qR,pg,Gd⟩:=Kd.az lV.out;subst Gd
 go_enter Try.func29,Try.ntmps29
 go_wp2_with (first|((with_reducible refine ag (N:=2) rfl ?_);refine an 2 26 #[.int .i64 aA,.slice xt X.length ro,.slice qR aC.length pg] ?_;intro gb751 hg w7 yh hb;replace lU:=nr lU hb;replace lV:=nr lV hb;have ZU:=Ah ((by rw[hg];exact(by first|exact HK.out.1|exact(show ap w _ (fun k_=>ia k_∨ib k_)from by repeat(first|(with_reducible first|exact HK.out|apply ap.alloc|apply ap.drewN|apply ap.drew)|exact HK.out)).1):w.heap.size≤gb751));replace HK:=Ah (ap.below (S:=(fun k_=>ia k_∨ib k_)) (by repeat(first|(with_reducible first|exact HK.out|apply ap.alloc|apply ap.drewN|apply ap.drew)|exact HK.out)) hb);have ZV:=Ah ((by rw[hg];exact(bE (bs HB)):w0.heap.size≤gb751));replace HB:=Ah (aH (bs HB) hb);clear hb hg;obtain⟨r9,rA,CV⟩:=dE yh;obtain⟨rB,rC,CW⟩:=dF yh)|((with_reducible refine bY (f:=51) rfl ?_);refine gL (some 8) rfl rfl Try.func51 (by kernel_rfl) rfl #[.slice xt X.length ro,.int .i64 a1] rfl ?_;(with_reducible refine(iR.calls k (fun k_=>some k_=(.slice xt X.length ro:Value).ownBlock) (.slice xt X.length ro) X a1 a1C t753 w0 _ ?aZ ?ae A3.out).mono ?_);(case aZ=>repeat(first|(with_reducible first|exact HB.out|apply mr|apply qS|apply j7|refine fJ ?_ ZV.out)|exact HB.out));(case ae=>exact Kd.vu rfl lU.out);rintro e w9 ⟨rfl,hy0,hb,hkp⟩;refine⟨_,rfl, ?_⟩;replace lV:=Ah (Kd.ax (ok':=fun k_=>((ia k_∨ib k_)∨w.heap.size≤k_)∧some k_≠(.slice xt X.length ro:Value).ownBlock) (Kd.zZ (lV.out) hkp (fun k_ dg hs_=>(dg.2) hs_)) (fun k_ dg=>⟨dg.1.1,dg.1.2⟩));replace yh:=Ah (nh (bk yh) hkp (fun hs_=>(fun e_=>(Kd.dX lU.out yh.out (by decide)) e_) hs_));replace HK:=Ah (ap.AL (S:=(fun k_=>ia k_∨ib k_)) (by repeat(first|(with_reducible first|exact HK.out|apply ap.alloc|apply ap.drewN|apply ap.drew|refine ap.setCell ?_ (.inr ZU.out) _)|exact HK.out)) hkp (fun k_ hs_=>(fun e_=>(lU.out.1 k_ e_.symm).1) hs_));replace lU:=Ah (Kd.EZ rfl hy0 (fun k_ e_=>lU.out.1 k_ e_));replace HB:=Ah (hb);(try clear hb hkp hy0);obtain⟨tY,tZ,ur⟩:=dE yh;obtain⟨ta,tb,us⟩:=dF yh)|((with_reducible refine bY (f:=51) rfl ?_);refine gL (some 12) rfl rfl Try.func51 (by kernel_rfl) rfl #[.slice qR aC.length pg,.int .i64 a1C] rfl ?_;(with_reducible refine(iR.calls k (fun k_=>some k_=(.slice qR aC.length pg:Value).ownBlock) (.slice qR aC.length pg) aC a1C t754 t755 w0 _ ?aZ ?ae A4.out).mono ?_);(case aZ=>repeat(first|(with_reducible first|exact HB.out|apply mr|apply qS|apply j7|refine fJ ?_ ZV.out)|exact HB.out));(case ae=>exact Kd.vu rfl lV.out);rintro e kF ⟨rfl,hy0,hb,hkp⟩;refine⟨_,rfl, ?_⟩;replace lU:=Ah (Kd.ax (ok':=fun k_=>((ia k_∨ib k_)∨w.heap.size≤k_)∧some k_≠(.slice qR aC.length pg:Value).ownBlock) (Kd.zZ (lU.out) hkp (fun k_ dg hs_=>(dg.2) hs_)) (fun k_ dg=>⟨dg.1.1,dg.1.2⟩));replace yh:=Ah (nh (bk yh) hkp (fun hs_=>(fun e_=>(Kd.dX lV.out yh.out (by decide)) e_) hs_));replace HK:=Ah (ap.AL (S:=(fun k_=>ia k_∨ib k_)) (by repeat(first|(with_reducible first|exact HK.out|apply ap.alloc|apply ap.drewN|apply ap.drew|refine ap.setCell ?_ (.inr ZU.out) _)|exact HK.out)) hkp (fun k_ hs_=>(fun e_=>(lV.out.1 k_ e_.symm).1) hs_));replace lV:=Ah (Kd.EZ rfl hy0 (fun k_ e_=>lV.out.1 k_ e_));replace HB:=Ah (hb);(try clear hb hkp hy0)))
 go_ret
 exact⟨er,by(with_reducible repeat(first|apply Kd.bd|apply Kd.bZ|apply Kd.bQ));exact Kd.ax lU.out (fun _ hk=>hk.1),by(with_reducible repeat(first|apply Kd.bd|apply Kd.bZ|apply Kd.bQ));exact Kd.ax lV.out (fun _ hk=>hk.1),aM HB ZV,by repeat(first|(with_reducible first|exact HK.out|apply ap.alloc|apply ap.drewN|apply ap.drew|refine ap.setCell ?_ (.inr ZU.out) _)|exact HK.out)⟩
def iS.l0:Nat→List (aJ)→Int→Int→Option (Int×(List (aJ)))
 |0,_,_,_=>none
 |k+1,x0,x1,x5=>if x5<(x0.length:Int)then(if 0≤x5 then((some (x0.set (x5:Int).toNat (⟨x1,(U x0 x5).f1,(⟨(U x0 x5).f2.f0,(U x0 x5).f2.f1⟩:Y),(U x0 x5).f3⟩:aJ):List (aJ))).bind fun jb=>((some (jb.set (x5:Int).toNat (⟨(U jb x5).f0,Gj (x1+1),(⟨(U jb x5).f2.f0,(U jb x5).f2.f1⟩:Y),(U jb x5).f3⟩:aJ):List (aJ))).bind fun i8=>((some (i8.set (x5:Int).toNat (⟨(U i8 x5).f0,(U i8 x5).f1,(⟨Gj ((Gj (x1+1))+1),(U i8 x5).f2.f1⟩:Y),(U i8 x5).f3⟩:aJ):List (aJ))).bind fun fh=>((some (fh.set (x5:Int).toNat (⟨(U fh x5).f0,(U fh x5).f1,(⟨(U fh x5).f2.f0,Gj ((Gj ((Gj (x1+1))+1))+1)⟩:Y),(U fh x5).f3⟩:aJ):List (aJ))).bind fun ee=>(iS.l0 k (ee.set (x5:Int).toNat (⟨(U ee x5).f0,(U ee x5).f1,(⟨(U ee x5).f2.f0,(U ee x5).f2.f1⟩:Y),Gj ((Gj ((Gj ((Gj (x1+1))+1))+1))+1)⟩:aJ)) (Gj ((Gj ((Gj ((Gj ((Gj (x1+1))+1))+1))+1))+1)) (Gj (x5+1)))))))else(none))else(some (x1,x0))
def iS.f(k:Nat)(l0:List (aJ))(a1:Int):Option (Int×(List (aJ))):=iS.l0 k l0 a1 0
theorem iS.cQ:∀k,(∀y0 y1 y2,aG (iS.l0 k y0 y1 y2) (iS.l0 (k+1) y0 y1 y2))
 |0=>fun _ _ _ r h=>by simp[iS.l0]at h
 |k+1=>by
  have bS:=iS.cQ k
  ·
   intro y0 y1 y2;unfold iS.l0
   repeat' with_reducible first|exact bS _ _ _|exact aG.refl _|exact aG.none _|refine aG.ite ?_ ?_|refine aG.bind ?_ (fun _=> ?_)
theorem iS.mono:∀a0 a1 k,aG (iS.f k a0 a1) (iS.f (k+1) a0 a1):=by
 intro a0 a1 k;have bS:=iS.cQ k;unfold iS.f
 repeat' with_reducible first|exact bS _ _ _|exact aG.refl _|exact aG.none _|refine aG.ite ?_ ?_|refine aG.bind ?_ (fun _=> ?_)
theorem iS.calls(k:Nat)(dG:Nat→Prop)(fd:Value)(l0:List (aJ))(a1:Int)(r1:Int)(r2:List (aJ))(w0 w:World)(hB:Below w0.heap.size w0 w)(ho0:Kd.R b8 66 w w0.heap.size dG fd l0)(h:iS.f k l0 a1=some (r1,r2)):
 Calls Uf 30 #[fd,.int .i64 a1] w fun e w'=>e= .returned (.int .i64 r1)∧Kd.R b8 66 w' w0.heap.size (fun k_=>(dG k_∨w.heap.size≤k_)) fd r2∧Below w0.heap.size w0 w'∧ap w w' (fun k_=>dG k_):=by
 have Ge:=Ah (show Kd.R b8 66 w w0.heap.size (fun k_=>(dG k_∨w.heap.size≤k_)) fd l0 from Kd.ax ho0 (fun k_ hk=>(.inl hk)));have HK:=Ah (ap.refl w (fun k_=>dG k_));have HW0:=Ah hB.size;have HB:=Ah hB;clear hB;have H:(iS.l0 k l0 a1 0)=some (r1,r2):=h;clear h;have H':=Ah H;clear H
 go_enter Try.func30,Try.ntmps30
 go_wp2
 go_loopg [1,5] k (fun kq v1 v5 w'=>∃ (bX:List (aJ)) (bL:Int) (I:Int),v1= .int .i64 bL∧v5= .int .i64 I∧Z (iS.l0 kq bX bL I=some (r1,r2))∧Z (kq≤k)∧Z (Kd.R b8 66 w' w0.heap.size (fun k_=>(dG k_∨w.heap.size≤k_)) fd bX)∧Z (ap w w' (fun k_=>dG k_))∧Z (Below w0.heap.size w0 w'))
 case atStart=>exact⟨(l0),(a1),(0),e3,e3,H',⟨QQ _⟩,⟨rr Ge.out⟩,⟨by repeat(first|(with_reducible first|exact HK.out|apply ap.alloc|apply ap.drewN|apply ap.drew)|exact HK.out)⟩,⟨bs HB⟩⟩
 case round=>
  clear H'
  try clear p2
  obtain⟨bX,bL,I,rfl,rfl,HA,bi,bz,HK,HB⟩:=hrel
  cases gk with
  |zero=>exact absurd HA.out (by simp[iS.l0])
  |succ k1=>
   have H:=HA.out;clear HA;simp only[iS.l0]at H
   by_cases c3:I<(bX.length:Int)
   rotate_left
   ·
    rw[if_neg c3]at H;have dc:=dn c3;clear c3;simp only[Jh,Ue]at H;obtain⟨rfl,rfl⟩:=H;obtain⟨gQ,gR,o7⟩:=Kd.az bz.out;subst o7
    go_wp2
    go_ret
    exact⟨er,by(with_reducible repeat(first|apply Kd.bd|apply Kd.bZ|apply Kd.bQ));exact bz.out,bs HB,by repeat(first|(with_reducible first|exact HK.out|apply ap.alloc|apply ap.drewN|apply ap.drew)|exact HK.out)⟩
   rw[if_pos c3]at H;have dc:=bJ c3;clear c3
   by_cases c4:0≤I
   rotate_left
   ·
    rw[if_neg c4]at H;exact absurd H (by simp)
   rw[if_pos c4]at H;have fB:=bJ c4;clear c4;obtain⟨jb,Nn⟩:∃y_:List (aJ),y_=(bX.set (I:Int).toNat (⟨bL,(U bX I).f1,(⟨(U bX I).f2.f0,(U bX I).f2.f1⟩:Y),(U bX I).f3⟩:aJ)):=⟨_,rfl⟩
   replace H:((some (jb.set (I:Int).toNat (⟨(U jb I).f0,wrap64 (bL+1),(⟨(U jb I).f2.f0,(U jb I).f2.f1⟩:Y),(U jb I).f3⟩:aJ):List (aJ))).bind fun i8=>((some (i8.set (I:Int).toNat (⟨(U i8 I).f0,(U i8 I).f1,(⟨wrap64 ((wrap64 (bL+1))+1),(U i8 I).f2.f1⟩:Y),(U i8 I).f3⟩:aJ):List (aJ))).bind fun fh=>((some (fh.set (I:Int).toNat (⟨(U fh I).f0,(U fh I).f1,(⟨(U fh I).f2.f0,wrap64 ((wrap64 ((wrap64 (bL+1))+1))+1)⟩:Y),(U fh I).f3⟩:aJ):List (aJ))).bind fun ee=>(iS.l0 k1 (ee.set (I:Int).toNat (⟨(U ee I).f0,(U ee I).f1,(⟨(U ee I).f2.f0,(U ee I).f2.f1⟩:Y),wrap64 ((wrap64 ((wrap64 ((wrap64 (bL+1))+1))+1))+1)⟩:aJ)) (wrap64 ((wrap64 ((wrap64 ((wrap64 ((wrap64 (bL+1))+1))+1))+1))+1)) (wrap64 (I+1))))))=some (r1,r2):=by first|(rw[Nn];with_reducible exact H)|(have aq:=(Option.bind_some _ _).symm.trans H;rw[Nn];with_reducible exact aq)|(have aq:=(Option.bind_some _ _).symm.trans H;with_reducible exact aq)|with_reducible exact H|(rw[Nn];exact H)|exact H
   have Ny756:=Ah Nn;clear Nn;obtain⟨i8,No⟩:∃y_:List (aJ),y_=(jb.set (I:Int).toNat (⟨(U jb I).f0,Gj (bL+1),(⟨(U jb I).f2.f0,(U jb I).f2.f1⟩:Y),(U jb I).f3⟩:aJ)):=⟨_,rfl⟩
   replace H:((some (i8.set (I:Int).toNat (⟨(U i8 I).f0,(U i8 I).f1,(⟨wrap64 ((wrap64 (bL+1))+1),(U i8 I).f2.f1⟩:Y),(U i8 I).f3⟩:aJ):List (aJ))).bind fun fh=>((some (fh.set (I:Int).toNat (⟨(U fh I).f0,(U fh I).f1,(⟨(U fh I).f2.f0,wrap64 ((wrap64 ((wrap64 (bL+1))+1))+1)⟩:Y),(U fh I).f3⟩:aJ):List (aJ))).bind fun ee=>(iS.l0 k1 (ee.set (I:Int).toNat (⟨(U ee I).f0,(U ee I).f1,(⟨(U ee I).f2.f0,(U ee I).f2.f1⟩:Y),wrap64 ((wrap64 ((wrap64 ((wrap64 (bL+1))+1))+1))+1)⟩:aJ)) (wrap64 ((wrap64 ((wrap64 ((wrap64 ((wrap64 (bL+1))+1))+1))+1))+1)) (wrap64 (I+1)))))=some (r1,r2):=by first|(rw[No];with_reducible exact H)|(have aq:=(Option.bind_some _ _).symm.trans H;rw[No];with_reducible exact aq)|(have aq:=(Option.bind_some _ _).symm.trans H;with_reducible exact aq)|with_reducible exact H|(rw[No];exact H)|exact H
   have Ny757:=Ah No;clear No;obtain⟨fh,Np⟩:∃y_:List (aJ),y_=(i8.set (I:Int).toNat (⟨(U i8 I).f0,(U i8 I).f1,(⟨Gj ((Gj (bL+1))+1),(U i8 I).f2.f1⟩:Y),(U i8 I).f3⟩:aJ)):=⟨_,rfl⟩
   replace H:((some (fh.set (I:Int).toNat (⟨(U fh I).f0,(U fh I).f1,(⟨(U fh I).f2.f0,wrap64 ((wrap64 ((wrap64 (bL+1))+1))+1)⟩:Y),(U fh I).f3⟩:aJ):List (aJ))).bind fun ee=>(iS.l0 k1 (ee.set (I:Int).toNat (⟨(U ee I).f0,(U ee I).f1,(⟨(U ee I).f2.f0,(U ee I).f2.f1⟩:Y),wrap64 ((wrap64 ((wrap64 ((wrap64 (bL+1))+1))+1))+1)⟩:aJ)) (wrap64 ((wrap64 ((wrap64 ((wrap64 ((wrap64 (bL+1))+1))+1))+1))+1)) (wrap64 (I+1))))=some (r1,r2):=by first|(rw[Np];with_reducible exact H)|(have aq:=(Option.bind_some _ _).symm.trans H;rw[Np];with_reducible exact aq)|(have aq:=(Option.bind_some _ _).symm.trans H;with_reducible exact aq)|with_reducible exact H|(rw[Np];exact H)|exact H
   have Ny758:=Ah Np;clear Np;obtain⟨ee,Nq⟩:∃y_:List (aJ),y_=(fh.set (I:Int).toNat (⟨(U fh I).f0,(U fh I).f1,(⟨(U fh I).f2.f0,Gj ((Gj ((Gj (bL+1))+1))+1)⟩:Y),(U fh I).f3⟩:aJ)):=⟨_,rfl⟩
   replace H:(iS.l0 k1 (ee.set (I:Int).toNat (⟨(U ee I).f0,(U ee I).f1,(⟨(U ee I).f2.f0,(U ee I).f2.f1⟩:Y),wrap64 ((wrap64 ((wrap64 ((wrap64 (bL+1))+1))+1))+1)⟩:aJ)) (wrap64 ((wrap64 ((wrap64 ((wrap64 ((wrap64 (bL+1))+1))+1))+1))+1)) (wrap64 (I+1)))=some (r1,r2):=by first|(rw[Nq];with_reducible exact H)|(have aq:=(Option.bind_some _ _).symm.trans H;rw[Nq];with_reducible exact aq)|(have aq:=(Option.bind_some _ _).symm.trans H;with_reducible exact aq)|with_reducible exact H|(rw[Nq];exact H)|exact H
   have Ny759:=Ah Nq;clear Nq;obtain⟨a1D,Nr⟩:∃y_:List (aJ),y_=(ee.set (I:Int).toNat (⟨(U ee I).f0,(U ee I).f1,(⟨(U ee I).f2.f0,(U ee I).f2.f1⟩:Y),Gj ((Gj ((Gj ((Gj (bL+1))+1))+1))+1)⟩:aJ)):=⟨_,rfl⟩
   replace H:(iS.l0 k1 a1D (Gj ((Gj ((Gj ((Gj ((Gj (bL+1))+1))+1))+1))+1)) (Gj (I+1)))=some (r1,r2):=by first|(rw[Nr];with_reducible exact H)|(have aq:=(Gm _ _).symm.trans H;rw[Nr];with_reducible exact aq)|(have aq:=(Gm _ _).symm.trans H;with_reducible exact aq)|with_reducible exact H|(rw[Nr];exact H)|exact H
   have Ny760:=Ah Nr;clear Nr;have H':=Ah H;clear H;obtain⟨qF,gP,qk⟩:=Kd.az bz.out;subst qk;have p5:0≤(I:Int):=od;have q5:(I:Int)<((bX.length:Int):Int):=od;obtain⟨bC,ro,rp,xq,Gf,cl5,xr⟩:=Kd.wM bz.out (by omega);(first|cases rp|(injection rp with eH nN nO;(first|subst eH|(injection eH with eH;subst eH));subst nO;clear nN));have qp:=Ah xq;have GG5:=Ah xr;clear xq Gf xr;have ZP:=Ah (show(dG bC∨w.heap.size≤bC)from(bz.out.1 _ rfl));obtain⟨ce5,PH,Da,qI,qJ⟩:=Kd.gt bz.out z66 (I:Int) p5 q5;obtain rfl:=tJ Da;have ZQ:wr.cell? ⟨bC,(I:Int).toNat*5,none⟩=some (.int .i64 ((U bX I).f0)):=qI 0 _ rfl;have hx5_1:wr.cell? ⟨bC,(I:Int).toNat*5+1,none⟩=some (.int .i64 ((U bX I).f1)):=qI 1 _ rfl;have hx5_2:wr.cell? ⟨bC,(I:Int).toNat*5+2,none⟩=some (.int .i64 ((U bX I).f2.f0)):=qI 2 _ rfl;have hx5_3:wr.cell? ⟨bC,(I:Int).toNat*5+3,none⟩=some (.int .i64 ((U bX I).f2.f1)):=qI 3 _ rfl;have hx5_4:wr.cell? ⟨bC,(I:Int).toNat*5+4,none⟩=some (.int .i64 ((U bX I).f3)):=qI 4 _ rfl;have ZR:wr.frozen? ⟨bC,(I:Int).toNat*5,none⟩=false:=qJ 0;have hf5_1:wr.frozen? ⟨bC,(I:Int).toNat*5+1,none⟩=false:=qJ 1;have hf5_2:wr.frozen? ⟨bC,(I:Int).toNat*5+2,none⟩=false:=qJ 2;have hf5_3:wr.frozen? ⟨bC,(I:Int).toNat*5+3,none⟩=false:=qJ 3;have hf5_4:wr.frozen? ⟨bC,(I:Int).toNat*5+4,none⟩=false:=qJ 4;clear PH qI qJ Da;replace p5:=eq_true p5;replace q5:=eq_true q5;have PI:=Ah (show Kd.R b8 66 wr w0.heap.size (fun k_=>(dG k_∨w.heap.size≤k_)) (.slice (some ⟨bC,0,none⟩) bX.length gP) bX from(rr bz.out));obtain⟨ce11,NX,PJ,FB,NY⟩:=Kd.gt PI.out z66 (I:Int) (od) (by have h_:(I:Int)<((bX.length:Int):Int):=od;first|exact h_|(have e_:=(Kd.aY bz.out).1;omega)|simpa using h_);obtain rfl:=tJ PJ;have GA:=Kd.nD PI.out (I:Int) (od) (by have h_:(I:Int)<((bX.length:Int):Int):=od;first|exact h_|(have e_:=(Kd.aY bz.out).1;omega)|simpa using h_) (seg:=[.int .i64 bL]) (j:=0) NX FB (show 1≤5 from by decide) (x':=(⟨bL,(U bX I).f1,(⟨(U bX I).f2.f0,(U bX I).f2.f1⟩:Y),(U bX I).f3⟩:aJ)) (nB _ _ _ (⟨bL,(U bX I).f1,(⟨(U bX I).f2.f0,(U bX I).f2.f1⟩:Y),(U bX I).f3⟩:aJ)) (fun _ hk=>hk);have Y4:=FB 0 _ rfl;(try simp only[show(b8).sz=5 from rfl,fl,dH]at Y4);have Y5:=NY 0;(try simp only[show(b8).sz=5 from rfl,fl,dH]at Y5);clear NX FB NY PJ
   go_wp2_with (first|((with_reducible refine n8 (t:=3) (p:=16) rfl ?_);refine n7 (t:=3) (p:=16) (v:= ?vo_w12) (w1:=(wr.setCell ⟨bC,(I:Int).toNat*5,none⟩ (.int .i64 bL))) ?hg ?ho ?hn ?hr ?_;(case ho=>rfl);(case hg=>rfl);(case hn=>rfl);(case hr=>first|(go_simp;done)|(go_simp;rfl));intro ef hw;have hg:wr.grownBy ef (some bC):=(by rw[hw];exact GA.2);have eB:Kd.R b8 66 ef w0.heap.size (fun k_=>(dG k_∨w.heap.size≤k_)) (.slice (some ⟨bC,0,none⟩) bX.length gP) jb:=(by rw[hw,Ny756.out];exact GA.1);clear GA;replace HB:=Ah ((by rw[hw];exact fJ (HB.out) qp.out:Below w0.heap.size w0 ef));replace HK:=Ah (ap.sF (S:=(fun k_=>dG k_)) hg (by repeat(first|(with_reducible first|exact HK.out|apply ap.alloc|apply ap.drewN|apply ap.drew)|exact HK.out)) (fun k_ e_=>(bz.out.1 k_ e_)));replace bz:=Ah (eB);clear hg hw eB;have p6:0≤(I:Int):=od;have q6:(I:Int)<((bX.length:Int):Int):=od;obtain⟨ce6,PK,Db,qK,qL⟩:=Kd.gt bz.out z66 (I:Int) p6 q6;obtain rfl:=tJ Db;have hx6_0:ef.cell? ⟨bC,(I:Int).toNat*5,none⟩=some (.int .i64 ((U jb I).f0)):=qK 0 _ rfl;have hx6_1:ef.cell? ⟨bC,(I:Int).toNat*5+1,none⟩=some (.int .i64 ((U jb I).f1)):=qK 1 _ rfl;have hx6_2:ef.cell? ⟨bC,(I:Int).toNat*5+2,none⟩=some (.int .i64 ((U jb I).f2.f0)):=qK 2 _ rfl;have hx6_3:ef.cell? ⟨bC,(I:Int).toNat*5+3,none⟩=some (.int .i64 ((U jb I).f2.f1)):=qK 3 _ rfl;have hx6_4:ef.cell? ⟨bC,(I:Int).toNat*5+4,none⟩=some (.int .i64 ((U jb I).f3)):=qK 4 _ rfl;have hf6_0:ef.frozen? ⟨bC,(I:Int).toNat*5,none⟩=false:=qL 0;have hf6_1:ef.frozen? ⟨bC,(I:Int).toNat*5+1,none⟩=false:=qL 1;have hf6_2:ef.frozen? ⟨bC,(I:Int).toNat*5+2,none⟩=false:=qL 2;have hf6_3:ef.frozen? ⟨bC,(I:Int).toNat*5+3,none⟩=false:=qL 3;have hf6_4:ef.frozen? ⟨bC,(I:Int).toNat*5+4,none⟩=false:=qL 4;clear PK qK qL Db;replace p6:=eq_true p6;replace q6:=eq_true q6;have PL:=Ah (show Kd.R b8 66 ef w0.heap.size (fun k_=>(dG k_∨w.heap.size≤k_)) (.slice (some ⟨bC,0,none⟩) bX.length gP) jb from(rr bz.out));obtain⟨U6,wa,so,oZ,qC⟩:=Kd.gt PL.out z66 (I:Int) (od) (by have h_:(I:Int)<((bX.length:Int):Int):=od;first|exact h_|(have e_:=(Kd.aY bz.out).1;omega)|simpa using h_);obtain rfl:=tJ so;have GB:=Kd.nD PL.out (I:Int) (od) (by have h_:(I:Int)<((bX.length:Int):Int):=od;first|exact h_|(have e_:=(Kd.aY bz.out).1;omega)|simpa using h_) (seg:=[.int .i64 (Gj (bL+1))]) (j:=1) wa oZ (show 2≤5 from by decide) (x':=(⟨(U jb I).f0,Gj (bL+1),(⟨(U jb I).f2.f0,(U jb I).f2.f1⟩:Y),(U jb I).f3⟩:aJ)) (nB _ _ _ (⟨(U jb I).f0,Gj (bL+1),(⟨(U jb I).f2.f0,(U jb I).f2.f1⟩:Y),(U jb I).f3⟩:aJ)) (fun _ hk=>hk);have IL:=oZ 1 _ rfl;(try simp only[show(b8).sz=5 from rfl,fl,dH]at IL);have IM:=qC 1;(try simp only[show(b8).sz=5 from rfl,fl,dH]at IM);clear wa oZ qC so)|((with_reducible refine n8 (t:=3) (p:=23) rfl ?_);refine n7 (t:=3) (p:=23) (v:= ?vo_w14) (w1:=(ef.setCell ⟨bC,(I:Int).toNat*5+1,none⟩ (.int .i64 (Gj (bL+1))))) ?hg ?ho ?hn ?hr ?_;(case ho=>rfl);(case hg=>rfl);(case hn=>rfl);(case hr=>first|(go_simp;done)|(go_simp;rfl));intro eL hw;have hg:ef.grownBy eL (some bC):=(by rw[hw];exact GB.2);have eB:Kd.R b8 66 eL w0.heap.size (fun k_=>(dG k_∨w.heap.size≤k_)) (.slice (some ⟨bC,0,none⟩) bX.length gP) i8:=(by rw[hw,Ny757.out];exact GB.1);clear GB;replace HB:=Ah ((by rw[hw];exact fJ (HB.out) qp.out:Below w0.heap.size w0 eL));replace HK:=Ah (ap.sF (S:=(fun k_=>dG k_)) hg (by repeat(first|(with_reducible first|exact HK.out|apply ap.alloc|apply ap.drewN|apply ap.drew)|exact HK.out)) (fun k_ e_=>(bz.out.1 k_ e_)));replace bz:=Ah (eB);clear hg hw eB;have p7:0≤(I:Int):=od;have q7:(I:Int)<((bX.length:Int):Int):=od;obtain⟨ce7,a1y,QA,uH,uI⟩:=Kd.gt bz.out z66 (I:Int) p7 q7;obtain rfl:=tJ QA;have hx7_0:eL.cell? ⟨bC,(I:Int).toNat*5,none⟩=some (.int .i64 ((U i8 I).f0)):=uH 0 _ rfl;have hx7_1:eL.cell? ⟨bC,(I:Int).toNat*5+1,none⟩=some (.int .i64 ((U i8 I).f1)):=uH 1 _ rfl;have hx7_2:eL.cell? ⟨bC,(I:Int).toNat*5+2,none⟩=some (.int .i64 ((U i8 I).f2.f0)):=uH 2 _ rfl;have hx7_3:eL.cell? ⟨bC,(I:Int).toNat*5+3,none⟩=some (.int .i64 ((U i8 I).f2.f1)):=uH 3 _ rfl;have hx7_4:eL.cell? ⟨bC,(I:Int).toNat*5+4,none⟩=some (.int .i64 ((U i8 I).f3)):=uH 4 _ rfl;have hf7_0:eL.frozen? ⟨bC,(I:Int).toNat*5,none⟩=false:=uI 0;have hf7_1:eL.frozen? ⟨bC,(I:Int).toNat*5+1,none⟩=false:=uI 1;have hf7_2:eL.frozen? ⟨bC,(I:Int).toNat*5+2,none⟩=false:=uI 2;have hf7_3:eL.frozen? ⟨bC,(I:Int).toNat*5+3,none⟩=false:=uI 3;have hf7_4:eL.frozen? ⟨bC,(I:Int).toNat*5+4,none⟩=false:=uI 4;clear a1y uH uI QA;replace p7:=eq_true p7;replace q7:=eq_true q7;have mT:=Ah (show Kd.R b8 66 eL w0.heap.size (fun k_=>(dG k_∨w.heap.size≤k_)) (.slice (some ⟨bC,0,none⟩) bX.length gP) i8 from(rr bz.out));obtain⟨Fo,mI,mU,jP,mJ⟩:=Kd.gt mT.out z66 (I:Int) (od) (by have h_:(I:Int)<((bX.length:Int):Int):=od;first|exact h_|(have e_:=(Kd.aY bz.out).1;omega)|simpa using h_);obtain rfl:=tJ mU;have n3:=Kd.nD mT.out (I:Int) (od) (by have h_:(I:Int)<((bX.length:Int):Int):=od;first|exact h_|(have e_:=(Kd.aY bz.out).1;omega)|simpa using h_) (seg:=[.int .i64 (Gj ((Gj (bL+1))+1))]) (j:=2) mI jP (show 3≤5 from by decide) (x':=(⟨(U i8 I).f0,(U i8 I).f1,(⟨Gj ((Gj (bL+1))+1),(U i8 I).f2.f1⟩:Y),(U i8 I).f3⟩:aJ)) (nB _ _ _ (⟨(U i8 I).f0,(U i8 I).f1,(⟨Gj ((Gj (bL+1))+1),(U i8 I).f2.f1⟩:Y),(U i8 I).f3⟩:aJ)) (fun _ hk=>hk);have Y6:=jP 2 _ rfl;(try simp only[show(b8).sz=5 from rfl,fl,dH]at Y6);have Y7:=mJ 2;(try simp only[show(b8).sz=5 from rfl,fl,dH]at Y7);clear mI jP mJ mU)|((with_reducible refine n8 (t:=3) (p:=31) rfl ?_);refine n7 (t:=3) (p:=31) (v:= ?vo_w16) (w1:=(eL.setCell ⟨bC,(I:Int).toNat*5+2,none⟩ (.int .i64 (Gj ((Gj (bL+1))+1))))) ?hg ?ho ?hn ?hr ?_;(case ho=>rfl);(case hg=>rfl);(case hn=>rfl);(case hr=>first|(go_simp;done)|(go_simp;rfl));intro w16 hw;have hg:eL.grownBy w16 (some bC):=(by rw[hw];exact n3.2);have eB:Kd.R b8 66 w16 w0.heap.size (fun k_=>(dG k_∨w.heap.size≤k_)) (.slice (some ⟨bC,0,none⟩) bX.length gP) fh:=(by rw[hw,Ny758.out];exact n3.1);clear n3;replace HB:=Ah ((by rw[hw];exact fJ (HB.out) qp.out:Below w0.heap.size w0 w16));replace HK:=Ah (ap.sF (S:=(fun k_=>dG k_)) hg (by repeat(first|(with_reducible first|exact HK.out|apply ap.alloc|apply ap.drewN|apply ap.drew)|exact HK.out)) (fun k_ e_=>(bz.out.1 k_ e_)));replace bz:=Ah (eB);clear hg hw eB;have p8:0≤(I:Int):=od;have q8:(I:Int)<((bX.length:Int):Int):=od;obtain⟨ce8,JK,Dc,qM,qm⟩:=Kd.gt bz.out z66 (I:Int) p8 q8;obtain rfl:=tJ Dc;have ZS:w16.cell? ⟨bC,(I:Int).toNat*5,none⟩=some (.int .i64 ((U fh I).f0)):=qM 0 _ rfl;have hx8_1:w16.cell? ⟨bC,(I:Int).toNat*5+1,none⟩=some (.int .i64 ((U fh I).f1)):=qM 1 _ rfl;have hx8_2:w16.cell? ⟨bC,(I:Int).toNat*5+2,none⟩=some (.int .i64 ((U fh I).f2.f0)):=qM 2 _ rfl;have hx8_3:w16.cell? ⟨bC,(I:Int).toNat*5+3,none⟩=some (.int .i64 ((U fh I).f2.f1)):=qM 3 _ rfl;have hx8_4:w16.cell? ⟨bC,(I:Int).toNat*5+4,none⟩=some (.int .i64 ((U fh I).f3)):=qM 4 _ rfl;have ZT:w16.frozen? ⟨bC,(I:Int).toNat*5,none⟩=false:=qm 0;have hf8_1:w16.frozen? ⟨bC,(I:Int).toNat*5+1,none⟩=false:=qm 1;have hf8_2:w16.frozen? ⟨bC,(I:Int).toNat*5+2,none⟩=false:=qm 2;have hf8_3:w16.frozen? ⟨bC,(I:Int).toNat*5+3,none⟩=false:=qm 3;have hf8_4:w16.frozen? ⟨bC,(I:Int).toNat*5+4,none⟩=false:=qm 4;clear JK qM qm Dc;replace p8:=eq_true p8;replace q8:=eq_true q8;have PM:=Ah (show Kd.R b8 66 w16 w0.heap.size (fun k_=>(dG k_∨w.heap.size≤k_)) (.slice (some ⟨bC,0,none⟩) bX.length gP) fh from(rr bz.out));obtain⟨ce17,NZ,PN,FC,Na⟩:=Kd.gt PM.out z66 (I:Int) (od) (by have h_:(I:Int)<((bX.length:Int):Int):=od;first|exact h_|(have e_:=(Kd.aY bz.out).1;omega)|simpa using h_);obtain rfl:=tJ PN;have GC:=Kd.nD PM.out (I:Int) (od) (by have h_:(I:Int)<((bX.length:Int):Int):=od;first|exact h_|(have e_:=(Kd.aY bz.out).1;omega)|simpa using h_) (seg:=[.int .i64 (Gj ((Gj ((Gj (bL+1))+1))+1))]) (j:=3) NZ FC (show 4≤5 from by decide) (x':=(⟨(U fh I).f0,(U fh I).f1,(⟨(U fh I).f2.f0,Gj ((Gj ((Gj (bL+1))+1))+1)⟩:Y),(U fh I).f3⟩:aJ)) (nB _ _ _ (⟨(U fh I).f0,(U fh I).f1,(⟨(U fh I).f2.f0,Gj ((Gj ((Gj (bL+1))+1))+1)⟩:Y),(U fh I).f3⟩:aJ)) (fun _ hk=>hk);have Y8:=FC 3 _ rfl;(try simp only[show(b8).sz=5 from rfl,fl,dH]at Y8);have Y9:=Na 3;(try simp only[show(b8).sz=5 from rfl,fl,dH]at Y9);clear NZ FC Na PN)|((with_reducible refine n8 (t:=3) (p:=39) rfl ?_);refine n7 (t:=3) (p:=39) (v:= ?vo_w18) (w1:=(w16.setCell ⟨bC,(I:Int).toNat*5+3,none⟩ (.int .i64 (Gj ((Gj ((Gj (bL+1))+1))+1))))) ?hg ?ho ?hn ?hr ?_;(case ho=>rfl);(case hg=>rfl);(case hn=>rfl);(case hr=>first|(go_simp;done)|(go_simp;rfl));intro cG hw;have hg:w16.grownBy cG (some bC):=(by rw[hw];exact GC.2);have eB:Kd.R b8 66 cG w0.heap.size (fun k_=>(dG k_∨w.heap.size≤k_)) (.slice (some ⟨bC,0,none⟩) bX.length gP) ee:=(by rw[hw,Ny759.out];exact GC.1);clear GC;replace HB:=Ah ((by rw[hw];exact fJ (HB.out) qp.out:Below w0.heap.size w0 cG));replace HK:=Ah (ap.sF (S:=(fun k_=>dG k_)) hg (by repeat(first|(with_reducible first|exact HK.out|apply ap.alloc|apply ap.drewN|apply ap.drew)|exact HK.out)) (fun k_ e_=>(bz.out.1 k_ e_)));replace bz:=Ah (eB);clear hg hw eB;have p9:0≤(I:Int):=od;have q9:(I:Int)<((bX.length:Int):Int):=od;obtain⟨ce9,a1z,QB,uJ,uK⟩:=Kd.gt bz.out z66 (I:Int) p9 q9;obtain rfl:=tJ QB;have hx9_0:cG.cell? ⟨bC,(I:Int).toNat*5,none⟩=some (.int .i64 ((U ee I).f0)):=uJ 0 _ rfl;have hx9_1:cG.cell? ⟨bC,(I:Int).toNat*5+1,none⟩=some (.int .i64 ((U ee I).f1)):=uJ 1 _ rfl;have hx9_2:cG.cell? ⟨bC,(I:Int).toNat*5+2,none⟩=some (.int .i64 ((U ee I).f2.f0)):=uJ 2 _ rfl;have hx9_3:cG.cell? ⟨bC,(I:Int).toNat*5+3,none⟩=some (.int .i64 ((U ee I).f2.f1)):=uJ 3 _ rfl;have hx9_4:cG.cell? ⟨bC,(I:Int).toNat*5+4,none⟩=some (.int .i64 ((U ee I).f3)):=uJ 4 _ rfl;have hf9_0:cG.frozen? ⟨bC,(I:Int).toNat*5,none⟩=false:=uK 0;have hf9_1:cG.frozen? ⟨bC,(I:Int).toNat*5+1,none⟩=false:=uK 1;have hf9_2:cG.frozen? ⟨bC,(I:Int).toNat*5+2,none⟩=false:=uK 2;have hf9_3:cG.frozen? ⟨bC,(I:Int).toNat*5+3,none⟩=false:=uK 3;have hf9_4:cG.frozen? ⟨bC,(I:Int).toNat*5+4,none⟩=false:=uK 4;clear a1z uJ uK QB;replace p9:=eq_true p9;replace q9:=eq_true q9;have PO:=Ah (show Kd.R b8 66 cG w0.heap.size (fun k_=>(dG k_∨w.heap.size≤k_)) (.slice (some ⟨bC,0,none⟩) bX.length gP) ee from(rr bz.out));obtain⟨ce19,Nb,PP,FD,Nc⟩:=Kd.gt PO.out z66 (I:Int) (od) (by have h_:(I:Int)<((bX.length:Int):Int):=od;first|exact h_|(have e_:=(Kd.aY bz.out).1;omega)|simpa using h_);obtain rfl:=tJ PP;have GD:=Kd.nD PO.out (I:Int) (od) (by have h_:(I:Int)<((bX.length:Int):Int):=od;first|exact h_|(have e_:=(Kd.aY bz.out).1;omega)|simpa using h_) (seg:=[.int .i64 (Gj ((Gj ((Gj ((Gj (bL+1))+1))+1))+1))]) (j:=4) Nb FD (show 5≤5 from by decide) (x':=(⟨(U ee I).f0,(U ee I).f1,(⟨(U ee I).f2.f0,(U ee I).f2.f1⟩:Y),Gj ((Gj ((Gj ((Gj (bL+1))+1))+1))+1)⟩:aJ)) (nB _ _ _ (⟨(U ee I).f0,(U ee I).f1,(⟨(U ee I).f2.f0,(U ee I).f2.f1⟩:Y),Gj ((Gj ((Gj ((Gj (bL+1))+1))+1))+1)⟩:aJ)) (fun _ hk=>hk);have YA:=FD 4 _ rfl;(try simp only[show(b8).sz=5 from rfl,fl,dH]at YA);have YB:=Nc 4;(try simp only[show(b8).sz=5 from rfl,fl,dH]at YB);clear Nb FD Nc PP)|((with_reducible refine n8 (t:=3) (p:=46) rfl ?_);refine n7 (t:=3) (p:=46) (v:= ?vo_w20) (w1:=(cG.setCell ⟨bC,(I:Int).toNat*5+4,none⟩ (.int .i64 (Gj ((Gj ((Gj ((Gj (bL+1))+1))+1))+1))))) ?hg ?ho ?hn ?hr ?_;(case ho=>rfl);(case hg=>rfl);(case hn=>rfl);(case hr=>first|(go_simp;done)|(go_simp;rfl));intro iH hw;have hg:cG.grownBy iH (some bC):=(by rw[hw];exact GD.2);have eB:Kd.R b8 66 iH w0.heap.size (fun k_=>(dG k_∨w.heap.size≤k_)) (.slice (some ⟨bC,0,none⟩) bX.length gP) a1D:=(by rw[hw,Ny760.out];exact GD.1);clear GD;replace HB:=Ah ((by rw[hw];exact fJ (HB.out) qp.out:Below w0.heap.size w0 iH));replace HK:=Ah (ap.sF (S:=(fun k_=>dG k_)) hg (by repeat(first|(with_reducible first|exact HK.out|apply ap.alloc|apply ap.drewN|apply ap.drew)|exact HK.out)) (fun k_ e_=>(bz.out.1 k_ e_)));replace bz:=Ah (eB);clear hg hw eB))
   go_roundg k1
   case measure=>have:=bi.out;omega
   case rel=>exact⟨(a1D),(Gj ((Gj ((Gj ((Gj ((Gj (bL+1))+1))+1))+1))+1)),(Gj (I+1)),e3,e3,H',⟨by have:=bi.out;omega⟩,⟨rr bz.out⟩,⟨by repeat(first|(with_reducible first|exact HK.out|apply ap.alloc|apply ap.drewN|apply ap.drew)|exact HK.out)⟩,⟨bs HB⟩⟩
def xy.f(k:Nat)(aA:Int)(X:List (Y))(aC:List (Y))(aV:Int)(aU:List (aJ))(a1:Int):Option (Int×(List (Y))×(List (Y))×(List (aJ))):=(uU.f k aA X aC a1).bind fun FE=>((iS.f k aU FE.1).bind fun Ns=>(some (Ns.1,FE.2.1,FE.2.2,Ns.2)))
theorem xy.mono:∀a0 a1 a2 a3 a4 a5 k,aG (xy.f k a0 a1 a2 a3 a4 a5) (xy.f (k+1) a0 a1 a2 a3 a4 a5):=by
 intro a0 a1 a2 a3 a4 a5 k;unfold xy.f
 repeat' with_reducible first|exact uU.mono _ _ _ _ _|exact iS.mono _ _ _|exact aG.refl _|exact aG.none _|refine aG.ite ?_ ?_|refine aG.bind ?_ (fun _=> ?_)
theorem xy.calls(k:Nat)(aA:Int)(ia:Nat→Prop)(fd:Value)(X:List (Y))(ib:Nat→Prop)(wR:Value)(aC:List (Y))(aV:Int)(qg:Nat→Prop)(SX:Value)(aU:List (aJ))(a1:Int)(r1:Int)(r2:List (Y))(r3:List (Y))(r4:List (aJ))(w0 w:World)(hB:Below w0.heap.size w0 w)(Nl:Kd.R aT 45 w w0.heap.size ia fd X)(Ve:∀k_,ia k_→¬ib k_)(Nm:Kd.R aT 45 w w0.heap.size ib wR aC)(Vf:∀k_,ib k_→¬ia k_)(ho0_4:Kd.R b8 66 w w0.heap.size qg SX aU)(h:xy.f k aA X aC aV aU a1=some (r1,r2,r3,r4)):
 Calls Uf 12 #[.agg #[.int .i64 aA,fd,wR,.int .i64 aV,SX],.int .i64 a1] w fun e w'=>e= .returned (.int .i64 r1)∧Kd.R aT 45 w' w0.heap.size (fun k_=>((ia k_∨ib k_∨qg k_)∨w.heap.size≤k_)) fd r2∧Kd.R aT 45 w' w0.heap.size (fun k_=>((ia k_∨ib k_∨qg k_)∨w.heap.size≤k_)) wR r3∧Kd.R b8 66 w' w0.heap.size (fun k_=>((ia k_∨ib k_∨qg k_)∨w.heap.size≤k_)) SX r4∧Below w0.heap.size w0 w'∧ap w w' (fun k_=>ia k_∨ib k_∨qg k_):=by
 have sn:=cp;have mL:=ig;have lU:=Ah (show Kd.R aT 45 w w0.heap.size (fun k_=>((ia k_∨ib k_∨qg k_)∨w.heap.size≤k_)∧some k_≠(wR:Value).ownBlock) fd X from Kd.ax Nl (fun k_ hk=>⟨(.inl (.inl hk)),fun e_=>Ve k_ hk (Nm.1 k_ e_.symm)⟩));have lV:=Ah (show Kd.R aT 45 w w0.heap.size (fun k_=>((ia k_∨ib k_∨qg k_)∨w.heap.size≤k_)∧some k_≠(fd:Value).ownBlock) wR aC from Kd.ax Nm (fun k_ hk=>⟨(.inl (.inr (.inl hk))),fun e_=>Vf k_ hk (Nl.1 k_ e_.symm)⟩));have tx:=Ah (show Kd.R b8 66 w w0.heap.size (fun k_=>((ia k_∨ib k_∨qg k_)∨w.heap.size≤k_)) SX aU from Kd.ax ho0_4 (fun k_ hk=>(.inl (.inr (.inr hk)))));have HK:=Ah (ap.refl w (fun k_=>ia k_∨ib k_∨qg k_));have HW0:=Ah hB.size;have HB:=Ah hB;clear hB;have H:((uU.f k aA X aC a1).bind fun FE=>((iS.f k aU FE.1).bind fun Ns=>(some (Ns.1,FE.2.1,FE.2.2,Ns.2))))=some (r1,r2,r3,r4):=h;clear h;replace H:=Gl.mp H;obtain⟨⟨a1E,t763,t764⟩,dj,H⟩:=H
 try dsimp only at H
 have A3:=Ah dj;clear dj;replace H:=Gl.mp H;obtain⟨⟨t765,t766⟩,eJ,H⟩:=H
 try dsimp only at H
 have A4:=Ah eJ;clear eJ;simp only[Jh,Ue]at H;obtain⟨rfl,rfl,rfl,rfl⟩:=H;obtain⟨xt,ro,rp⟩:=Kd.az lU.out;subst rp;obtain⟨qR,pg,Gd⟩:=Kd.az lV.out;subst Gd;obtain⟨qO,nM,GX⟩:=Kd.az tx.out;subst GX
 go_enter Try.func12,Try.ntmps12
 go_wp2_with (first|((with_reducible refine ag (N:=2) rfl ?_);refine an 2 29 #[.int .i64 aA,.slice xt X.length ro,.slice qR aC.length pg,.int .i64 aV,.slice qO aU.length nM] ?_;intro gb761 hg w8 wl hb;replace lU:=nr lU hb;replace lV:=nr lV hb;replace tx:=nr tx hb;have ZW:=Ah ((by rw[hg];exact(by first|exact HK.out.1|exact(show ap w _ (fun k_=>ia k_∨ib k_∨qg k_)from by repeat(first|(with_reducible first|exact HK.out|apply ap.alloc|apply ap.drewN|apply ap.drew)|exact HK.out)).1):w.heap.size≤gb761));replace HK:=Ah (ap.below (S:=(fun k_=>ia k_∨ib k_∨qg k_)) (by repeat(first|(with_reducible first|exact HK.out|apply ap.alloc|apply ap.drewN|apply ap.drew)|exact HK.out)) hb);have ZX:=Ah ((by rw[hg];exact(bE (bs HB)):w0.heap.size≤gb761));replace HB:=Ah (aH (bs HB) hb);clear hb hg;obtain⟨rD,rE,wN,LW,LX⟩:=aj wl;obtain⟨rF,rG,wO,LY,LZ⟩:=ai wl)|((with_reducible refine bY (f:=29) rfl ?_);refine gL (some 8) rfl rfl Try.func29 (by kernel_rfl) rfl #[.agg #[.int .i64 aA,.slice xt X.length ro,.slice qR aC.length pg],.int .i64 a1] rfl ?_;(with_reducible refine(uU.calls k aA (fun k_=>some k_=(.slice xt X.length ro:Value).ownBlock) (.slice xt X.length ro) X (fun k_=>some k_=(.slice qR aC.length pg:Value).ownBlock) (.slice qR aC.length pg) aC a1 a1E t763 t764 w0 _ ?aZ ?ae ?ay ?bI ?cq A3.out).mono ?_);(case aZ=>repeat(first|(with_reducible first|exact HB.out|apply mr|apply qS|apply j7|refine fJ ?_ ZX.out)|exact HB.out));(case ae=>exact Kd.vu rfl lU.out);(case ay=>exact fun k_ e_=>(lU.out.1 k_ e_.symm).2);(case bI=>exact Kd.vu rfl lV.out);(case cq=>exact fun k_ e_=>(lV.out.1 k_ e_.symm).2);rintro e lp ⟨rfl,hy0,hy1,hb,hkp⟩;refine⟨_,rfl, ?_⟩;replace tx:=Ah (Kd.ax (ok':=fun k_=>((ia k_∨ib k_∨qg k_)∨w.heap.size≤k_)) (Kd.zZ ((Kd.Dz (Kd.Dz tx.out (Kd.lN lU.out) (by decide)) (Kd.lN lV.out) (by decide))) hkp (fun k_ dg hs_=>Or.elim hs_ (fun e_=>(dg.1.2) e_) (fun e_=>(dg.2) e_))) (fun k_ dg=>dg.1.1.1));replace wl:=Ah (nh (bk wl) hkp (fun hs_=>Or.elim hs_ (fun e_=>(fun e_=>(Kd.dX lU.out wl.out (by decide)) e_) e_) (fun e_=>(fun e_=>(Kd.dX lV.out wl.out (by decide)) e_) e_)));replace HK:=Ah (ap.AL (S:=(fun k_=>ia k_∨ib k_∨qg k_)) (by repeat(first|(with_reducible first|exact HK.out|apply ap.alloc|apply ap.drewN|apply ap.drew|refine ap.setCell ?_ (.inr ZW.out) _)|exact HK.out)) hkp (fun k_ hs_=>Or.elim hs_ (fun e_=>(fun e_=>(lU.out.1 k_ e_.symm).1) e_) (fun e_=>(fun e_=>(lV.out.1 k_ e_.symm).1) e_)));replace lU:=Ah (Kd.EZ rfl hy0 (fun k_ e_=>lU.out.1 k_ e_));replace lV:=Ah (Kd.EZ rfl hy1 (fun k_ e_=>lV.out.1 k_ e_));replace HB:=Ah (hb);(try clear hb hkp hy0 hy1);obtain⟨oO,oP,qx,sK,sL⟩:=aj wl;obtain⟨oQ,oR,qy,sM,sN⟩:=ai wl)|((with_reducible refine bY (f:=30) rfl ?_);refine gL (some 12) rfl rfl Try.func30 (by kernel_rfl) rfl #[.slice qO aU.length nM,.int .i64 a1E] rfl ?_;(with_reducible refine(iS.calls k (fun k_=>some k_=(.slice qO aU.length nM:Value).ownBlock) (.slice qO aU.length nM) aU a1E t765 t766 w0 _ ?aZ ?ae A4.out).mono ?_);(case aZ=>repeat(first|(with_reducible first|exact HB.out|apply mr|apply qS|apply j7|refine fJ ?_ ZX.out)|exact HB.out));(case ae=>exact Kd.vu rfl tx.out);rintro e ef ⟨rfl,hy0,hb,hkp⟩;refine⟨_,rfl, ?_⟩;replace lU:=Ah (Kd.ax (ok':=fun k_=>((ia k_∨ib k_∨qg k_)∨w.heap.size≤k_)∧some k_≠(.slice qR aC.length pg:Value).ownBlock) (Kd.zZ ((Kd.Dz lU.out (Kd.lN tx.out) (by decide))) hkp (fun k_ dg hs_=>(dg.2) hs_)) (fun k_ dg=>⟨dg.1.1.1,dg.1.1.2⟩));replace lV:=Ah (Kd.ax (ok':=fun k_=>((ia k_∨ib k_∨qg k_)∨w.heap.size≤k_)∧some k_≠(.slice xt X.length ro:Value).ownBlock) (Kd.zZ ((Kd.Dz lV.out (Kd.lN tx.out) (by decide))) hkp (fun k_ dg hs_=>(dg.2) hs_)) (fun k_ dg=>⟨dg.1.1.1,dg.1.1.2⟩));replace wl:=Ah (nh (bk wl) hkp (fun hs_=>(fun e_=>(Kd.dX tx.out wl.out (by decide)) e_) hs_));replace HK:=Ah (ap.AL (S:=(fun k_=>ia k_∨ib k_∨qg k_)) (by repeat(first|(with_reducible first|exact HK.out|apply ap.alloc|apply ap.drewN|apply ap.drew|refine ap.setCell ?_ (.inr ZW.out) _)|exact HK.out)) hkp (fun k_ hs_=>(fun e_=>(tx.out.1 k_ e_.symm)) hs_));replace tx:=Ah (Kd.EZ rfl hy0 (fun k_ e_=>tx.out.1 k_ e_));replace HB:=Ah (hb);(try clear hb hkp hy0)))
 go_ret
 exact⟨er,by(with_reducible repeat(first|apply Kd.bd|apply Kd.bZ|apply Kd.bQ));exact Kd.ax lU.out (fun _ hk=>hk.1),by(with_reducible repeat(first|apply Kd.bd|apply Kd.bZ|apply Kd.bQ));exact Kd.ax lV.out (fun _ hk=>hk.1),by(with_reducible repeat(first|apply Kd.bd|apply Kd.bZ|apply Kd.bQ));exact tx.out,aM HB ZX,by repeat(first|(with_reducible first|exact HK.out|apply ap.alloc|apply ap.drewN|apply ap.drew|refine ap.setCell ?_ (.inr ZW.out) _)|exact HK.out)⟩
def kL.l0:Nat→List Bool→Int→Int→Option (Int×List Bool)
 |0,_,_,_=>none
 |k+1,x0,x1,x5=>if x5<(x0.length:Int)then(if 0≤x5 then(kL.l0 k (x0.set (x5:Int).toNat ((aa0 x1 3)==0)) (Gj (x1+1)) (Gj (x5+1)))else(none))else(some (x1,x0))
def kL.f(k:Nat)(l0:List Bool)(a1:Int):Option (Int×List Bool):=kL.l0 k l0 a1 0
theorem kL.cQ:∀k,(∀y0 y1 y2,aG (kL.l0 k y0 y1 y2) (kL.l0 (k+1) y0 y1 y2))
 |0=>fun _ _ _ r h=>by simp[kL.l0]at h
 |k+1=>by
  have bS:=kL.cQ k
  ·
   intro y0 y1 y2;unfold kL.l0
   repeat' with_reducible first|exact bS _ _ _|exact aG.refl _|exact aG.none _|refine aG.ite ?_ ?_|refine aG.bind ?_ (fun _=> ?_)
theorem kL.mono:∀a0 a1 k,aG (kL.f k a0 a1) (kL.f (k+1) a0 a1):=by
 intro a0 a1 k;have bS:=kL.cQ k;unfold kL.f
 repeat' with_reducible first|exact bS _ _ _|exact aG.refl _|exact aG.none _|refine aG.ite ?_ ?_|refine aG.bind ?_ (fun _=> ?_)
theorem kL.calls(k:Nat)(dG:Nat→Prop)(fd:Value)(l0:List Bool)(a1:Int)(r1:Int)(r2:List Bool)(w0 w:World)(hB:Below w0.heap.size w0 w)(ho0:Kd.R Kd.bool 4 w w0.heap.size dG fd l0)(h:kL.f k l0 a1=some (r1,r2)):
 Calls Uf 13 #[fd,.int .i64 a1] w fun e w'=>e= .returned (.int .i64 r1)∧Kd.R Kd.bool 4 w' w0.heap.size (fun k_=>(dG k_∨w.heap.size≤k_)) fd r2∧Below w0.heap.size w0 w'∧ap w w' (fun k_=>dG k_):=by
 have Ge:=Ah (show Kd.R Kd.bool 4 w w0.heap.size (fun k_=>(dG k_∨w.heap.size≤k_)) fd l0 from Kd.ax ho0 (fun k_ hk=>(.inl hk)));have HK:=Ah (ap.refl w (fun k_=>dG k_));have HW0:=Ah hB.size;have HB:=Ah hB;clear hB;have H:(kL.l0 k l0 a1 0)=some (r1,r2):=h;clear h;have H':=Ah H;clear H
 go_enter Try.func13,Try.ntmps13
 go_wp2
 go_loopg [1,5] k (fun kq v1 v5 w'=>∃ (bX:List Bool) (bL:Int) (I:Int),v1= .int .i64 bL∧v5= .int .i64 I∧Z (kL.l0 kq bX bL I=some (r1,r2))∧Z (kq≤k)∧Z (Kd.R Kd.bool 4 w' w0.heap.size (fun k_=>(dG k_∨w.heap.size≤k_)) fd bX)∧Z (ap w w' (fun k_=>dG k_))∧Z (Below w0.heap.size w0 w'))
 case atStart=>exact⟨(l0),(a1),(0),e3,e3,H',⟨QQ _⟩,⟨rr Ge.out⟩,⟨by repeat(first|(with_reducible first|exact HK.out|apply ap.alloc|apply ap.drewN|apply ap.drew)|exact HK.out)⟩,⟨bs HB⟩⟩
 case round=>
  clear H'
  try clear c1
  try clear p2
  obtain⟨bX,bL,I,rfl,rfl,HA,bi,bz,HK,HB⟩:=hrel
  cases gk with
  |zero=>exact absurd HA.out (by simp[kL.l0])
  |succ k1=>
   have H:=HA.out;clear HA;simp only[kL.l0]at H
   by_cases c3:I<(bX.length:Int)
   rotate_left
   ·
    rw[if_neg c3]at H;have dc:=dn c3;clear c3;simp only[Jh,Ue]at H;obtain⟨rfl,rfl⟩:=H;obtain⟨Q8,Q9,JZ⟩:=Kd.az bz.out;subst JZ
    go_wp2
    go_ret
    exact⟨er,by(with_reducible repeat(first|apply Kd.bd|apply Kd.bZ|apply Kd.bQ));exact bz.out,bs HB,by repeat(first|(with_reducible first|exact HK.out|apply ap.alloc|apply ap.drewN|apply ap.drew)|exact HK.out)⟩
   rw[if_pos c3]at H;have dc:=bJ c3;clear c3
   by_cases c4:0≤I
   rotate_left
   ·
    rw[if_neg c4]at H;exact absurd H (by simp)
   rw[if_pos c4]at H;have fB:=bJ c4;clear c4;obtain⟨a1F,Nt⟩:∃y_:List Bool,y_=(bX.set (I:Int).toNat ((aa0 bL 3)==0)):=⟨_,rfl⟩
   replace H:(kL.l0 k1 a1F (Gj (bL+1)) (Gj (I+1)))=some (r1,r2):=by first|(rw[Nt];with_reducible exact H)|(have aq:=(Gm _ _).symm.trans H;rw[Nt];with_reducible exact aq)|(have aq:=(Gm _ _).symm.trans H;with_reducible exact aq)|with_reducible exact H|(rw[Nt];exact H)|exact H
   have Ny767:=Ah Nt;clear Nt;have H':=Ah H;clear H;obtain⟨qR,pg,Gd⟩:=Kd.az bz.out;subst Gd;have p5:0≤(I:Int):=od;have q5:(I:Int)<((bX.length:Int):Int):=od;obtain⟨bC,ro,rp,xq,Gf,cl5,xr⟩:=Kd.wM bz.out (by omega);(first|cases rp|(injection rp with eH nN nO;(first|subst eH|(injection eH with eH;subst eH));subst nO;clear nN));have qp:=Ah xq;have GG5:=Ah xr;clear xq Gf xr;have ZP:=Ah (show(dG bC∨w.heap.size≤bC)from(bz.out.1 _ rfl));obtain⟨ZQ,ZR⟩:=Kd.Vs false bz.out (I:Int) p5 q5;replace p5:=eq_true p5;replace q5:=eq_true q5;have HP7:=Kd.Xr bz.out (I:Int) ((aa0 bL 3)==0)
   go_wp2_with (first|((with_reducible refine n8 (t:=4) (p:=17) rfl ?_);refine n7 (t:=4) (p:=17) (v:= ?vo_w8) (w1:=(wr.setCell ⟨bC,(I:Int).toNat,none⟩ (.bool ((aa0 bL 3)==0)))) ?hg ?ho ?hn ?hr ?_;(case ho=>rfl);(case hg=>rfl);(case hn=>rfl);(case hr=>first|(go_simp;done)|(go_simp;rfl));intro w8 hw;have hg:wr.grownBy w8 (some bC):=(by rw[hw];exact HP7.2);have eB:Kd.R Kd.bool 4 w8 w0.heap.size (fun k_=>(dG k_∨w.heap.size≤k_)) (.slice (some ⟨bC,0,none⟩) bX.length pg) a1F:=(by rw[hw,Ny767.out];exact HP7.1);clear HP7;replace HB:=Ah ((by rw[hw];exact fJ (HB.out) qp.out:Below w0.heap.size w0 w8));replace HK:=Ah (ap.sF (S:=(fun k_=>dG k_)) hg (by repeat(first|(with_reducible first|exact HK.out|apply ap.alloc|apply ap.drewN|apply ap.drew)|exact HK.out)) (fun k_ e_=>(bz.out.1 k_ e_)));replace bz:=Ah (eB);clear hg hw eB))
   go_roundg k1
   case measure=>have:=bi.out;omega
   case rel=>exact⟨(a1F),(Gj (bL+1)),(Gj (I+1)),e3,e3,H',⟨by have:=bi.out;omega⟩,⟨rr bz.out⟩,⟨by repeat(first|(with_reducible first|exact HK.out|apply ap.alloc|apply ap.drewN|apply ap.drew)|exact HK.out)⟩,⟨bs HB⟩⟩
def iJ.l0:Nat→List (Y)→Int→Int→Option (Int)
 |0,_,_,_=>none
 |k+1,x0,x1,x5=>if x5<(x0.length:Int)then(if 0≤x5 then(if((aD x0 x5).f0)=x1 then(if((aD x0 x5).f1)=(Gj (x1+1))then(iJ.l0 k x0 (Gj ((Gj (x1+1))+1)) (Gj (x5+1)))else(some (-1)))else(some (-1)))else(none))else(some x1)
def iJ.f(k:Nat)(l0:List (Y))(a1:Int):Option (Int):=iJ.l0 k l0 a1 0
theorem iJ.cQ:∀k,(∀y0 y1 y2,aG (iJ.l0 k y0 y1 y2) (iJ.l0 (k+1) y0 y1 y2))
 |0=>fun _ _ _ r h=>by simp[iJ.l0]at h
 |k+1=>by
  have bS:=iJ.cQ k
  ·
   intro y0 y1 y2;unfold iJ.l0
   repeat' with_reducible first|exact bS _ _ _|exact aG.refl _|exact aG.none _|refine aG.ite ?_ ?_|refine aG.bind ?_ (fun _=> ?_)
theorem iJ.mono:∀a0 a1 k,aG (iJ.f k a0 a1) (iJ.f (k+1) a0 a1):=by
 intro a0 a1 k;have bS:=iJ.cQ k;unfold iJ.f
 repeat' with_reducible first|exact bS _ _ _|exact aG.refl _|exact aG.none _|refine aG.ite ?_ ?_|refine aG.bind ?_ (fun _=> ?_)
theorem iJ.calls(k:Nat)(A0:Option Addr)(c0:Nat)(l0:List (Y))(a1:Int)(r:Int)(w:World)(hr0:Kd.C aT w A0 l0.length l0)(hc0:l0.length≤c0)(h:iJ.f k l0 a1=some r):
 Calls Uf 52 #[.slice A0 l0.length c0,.int .i64 a1] w fun e w'=>e= .returned (.int .i64 r)∧bU w w':=by
 have cX:=Ah hr0;have oE:=Ah hc0;clear hr0 hc0;have H:(iJ.l0 k l0 a1 0)=some r:=h;clear h;have H':=Ah H;clear H
 go_enter Try.func52,Try.ntmps52
 go_wp2
 go_loopg [1,5] k (fun kq v1 v5 w'=>∃ (bL:Int) (I:Int),v1= .int .i64 bL∧v5= .int .i64 I∧Z (iJ.l0 kq l0 bL I=some r)∧Z (kq≤k)∧bU w w')
 case atStart=>exact⟨(a1),(0),e3,e3,H',⟨QQ _⟩,by repeat(first|exact bU.refl _|apply bU.step)⟩
 case round=>
  clear H'
  try clear p2
  obtain⟨bL,I,rfl,rfl,HA,bi,⟨m1,rfl⟩⟩:=hrel
  cases gk with
  |zero=>exact absurd HA.out (by simp[iJ.l0])
  |succ k1=>
   have H:=HA.out;clear HA;simp only[iJ.l0]at H
   by_cases c3:I<(l0.length:Int)
   rotate_left
   ·
    rw[if_neg c3]at H;have dc:=dn c3;clear c3;obtain rfl:=Gn H
    go_wp2
    go_ret
    exact⟨e3,by repeat(first|exact bU.refl _|apply bU.step)⟩
   rw[if_pos c3]at H;have dc:=bJ c3;clear c3
   by_cases c4:0≤I
   rotate_left
   ·
    rw[if_neg c4]at H;exact absurd H (by simp)
   rw[if_pos c4]at H;have fB:=bJ c4;clear c4
   by_cases c5:((aD l0 I).f0)=bL
   rotate_left
   ·
    rw[if_neg c5]at H;have kV:=fS c5;have vL:=fT c5;obtain rfl:=Gn H;have xQ:0≤(I:Int):=od;have xR:I<(l0.length:Int):=od;obtain⟨Td,PQ,hx768_0,hx768_1⟩:=dN cX.out I xQ xR
    cases PQ
    replace xQ:=eq_true xQ;replace xR:=eq_true xR
    go_wp2
    go_ret
    exact⟨e3,by repeat(first|exact bU.refl _|apply bU.step)⟩
   rw[if_pos c5]at H;have kV:=fU c5;have vL:=fV c5;clear c5
   by_cases c6:((aD l0 I).f1)=(Gj (bL+1))
   rotate_left
   ·
    rw[if_neg c6]at H;have o6:=fS c6;have P5:=fT c6;obtain rfl:=Gn H;have xQ:0≤(I:Int):=od;have xR:I<(l0.length:Int):=od;obtain⟨Td,PQ,hx768_0,hx768_1⟩:=dN cX.out I xQ xR
    cases PQ
    replace xQ:=eq_true xQ;replace xR:=eq_true xR;have GE:0≤(I:Int):=od;have GF:I<(l0.length:Int):=od;obtain⟨ZY,a1G,hx769_0,hx769_1⟩:=dN cX.out I GE GF;obtain rfl:Td=ZY:=(by injection a1G);replace GE:=eq_true GE;replace GF:=eq_true GF
    go_wp2
    go_ret
    exact⟨e3,by repeat(first|exact bU.refl _|apply bU.step)⟩
   rw[if_pos c6]at H;have o6:=fU c6;have P5:=fV c6;clear c6;have H':=Ah H;clear H;have xQ:0≤(I:Int):=od;have xR:I<(l0.length:Int):=od;obtain⟨Td,PQ,hx768_0,hx768_1⟩:=dN cX.out I xQ xR
   cases PQ
   replace xQ:=eq_true xQ;replace xR:=eq_true xR;have GE:0≤(I:Int):=od;have GF:I<(l0.length:Int):=od;obtain⟨ZY,a1G,hx769_0,hx769_1⟩:=dN cX.out I GE GF;obtain rfl:Td=ZY:=(by injection a1G);replace GE:=eq_true GE;replace GF:=eq_true GF
   go_wp2
   go_roundg k1
   case measure=>have:=bi.out;omega
   case rel=>exact⟨(Gj ((Gj (bL+1))+1)),(Gj (I+1)),e3,e3,H',⟨by have:=bi.out;omega⟩,by repeat(first|exact bU.refl _|apply bU.step)⟩
def rz.f(k:Nat)(aA:Int)(X:List (Y))(aC:List (Y))(a1:Int):Option (Int):=(iJ.f k X a1).bind fun ss=>(if ss<0 then(some (-1))else((iJ.f k aC ss).bind fun B0=>(if B0<0 then(some (-1))else(some B0))))
theorem rz.mono:∀a0 a1 a2 a3 k,aG (rz.f k a0 a1 a2 a3) (rz.f (k+1) a0 a1 a2 a3):=by
 intro a0 a1 a2 a3 k;unfold rz.f
 repeat' with_reducible first|exact iJ.mono _ _ _|exact aG.refl _|exact aG.none _|refine aG.ite ?_ ?_|refine aG.bind ?_ (fun _=> ?_)
theorem rz.calls(k:Nat)(aA:Int)(af:Option Addr)(aa:Nat)(X:List (Y))(ab:Option Addr)(ac:Nat)(aC:List (Y))(a1:Int)(r:Int)(w:World)(dO:Kd.C aT w af X.length X)(dP:X.length≤aa)(dQ:Kd.C aT w ab aC.length aC)(dR:aC.length≤ac)(h:rz.f k aA X aC a1=some r):
 Calls Uf 31 #[.agg #[.int .i64 aA,.slice af X.length aa,.slice ab aC.length ac],.int .i64 a1] w fun e w'=>e= .returned (.int .i64 r)∧Below w.heap.size w w':=by
 have mL:=ig;have bo:=Ah dO;have cU:=Ah dP;clear dO dP;have cn:=Ah dQ;have co:=Ah dR;clear dQ dR;have HB:=Ah (Below.refl w.heap.size w);have H:((iJ.f k X a1).bind fun ss=>(if ss<0 then(some (-1))else((iJ.f k aC ss).bind fun B0=>(if B0<0 then(some (-1))else(some B0)))))=some r:=h;clear h;replace H:=Gl.mp H;obtain⟨ss,dj,H⟩:=H
 try dsimp only at H
 have A3:=Ah dj;clear dj
 by_cases c4:ss<0
 ·
  rw[if_pos c4]at H;have fB:=bJ c4;clear c4;obtain rfl:=Gn H
  go_enter Try.func31,Try.ntmps31
  go_wp2_with (first|((with_reducible refine ag (N:=2) rfl ?_);refine an 2 26 #[.int .i64 aA,.slice af X.length aa,.slice ab aC.length ac] ?_;intro gb770 hg w5 Cr hb;have GW770:=gw hg (bs HB);have FF:=gw hg (bs HB);replace HB:=Ah (aH (bs HB) hb);clear hb hg;obtain⟨AG,AH,Ea⟩:=dE Cr;obtain⟨AI,AJ,Eb⟩:=dF Cr)|((with_reducible refine bY (f:=52) rfl ?_);refine gL (some 8) rfl rfl Try.func52 (by kernel_rfl) rfl #[.slice af X.length aa,.int .i64 a1] rfl ?_;(with_reducible refine(iJ.calls k _ _ X a1 ss _ ?aZ ?ae A3.out).mono ?_);(case aZ=>exact cb bo HB);(case ae=>exact cU.out);rintro e w' ⟨rfl,⟨nd,rfl⟩⟩;refine⟨_,rfl, ?_⟩))
  go_ret
  exact⟨er,aM HB FF⟩
 rw[if_neg c4]at H;have fB:=dn c4;clear c4;replace H:=Gl.mp H;obtain⟨B0,kJ,H⟩:=H
 try dsimp only at H
 have A7:=Ah kJ;clear kJ
 by_cases c8:B0<0
 ·
  rw[if_pos c8]at H;have rO:=bJ c8;clear c8;obtain rfl:=Gn H
  go_enter Try.func31,Try.ntmps31
  go_wp2_with (first|((with_reducible refine ag (N:=2) rfl ?_);refine an 2 26 #[.int .i64 aA,.slice af X.length aa,.slice ab aC.length ac] ?_;intro gb770 hg w9 Cr hb;have GW770:=gw hg (bs HB);have FF:=gw hg (bs HB);replace HB:=Ah (aH (bs HB) hb);clear hb hg;obtain⟨tY,tZ,ur⟩:=dE Cr;obtain⟨ta,tb,us⟩:=dF Cr)|((with_reducible refine bY (f:=52) rfl ?_);refine gL (some 8) rfl rfl Try.func52 (by kernel_rfl) rfl #[.slice af X.length aa,.int .i64 a1] rfl ?_;(with_reducible refine(iJ.calls k _ _ X a1 ss _ ?aZ ?ae A3.out).mono ?_);(case aZ=>exact cb bo HB);(case ae=>exact cU.out);rintro e w' ⟨rfl,⟨nd,rfl⟩⟩;refine⟨_,rfl, ?_⟩)|((with_reducible refine bY (f:=52) rfl ?_);refine gL (some 14) rfl rfl Try.func52 (by kernel_rfl) rfl #[.slice ab aC.length ac,.int .i64 ss] rfl ?_;(with_reducible refine(iJ.calls k _ _ aC ss B0 _ ?aZ ?ae A7.out).mono ?_);(case aZ=>repeat(first|exact(Kd.iV cn.out (aM HB FF))|(with_reducible refine Kd.tO ?_ _)|(with_reducible refine Kd.tP ?_ _)|(with_reducible refine Kd.th ?_)));(case ae=>exact co.out);rintro e w' ⟨rfl,⟨nd,rfl⟩⟩;refine⟨_,rfl, ?_⟩))
  go_ret
  exact⟨er,aM HB FF⟩
 rw[if_neg c8]at H;have rO:=dn c8;clear c8;obtain rfl:=Gn H
 go_enter Try.func31,Try.ntmps31
 go_wp2_with (first|((with_reducible refine ag (N:=2) rfl ?_);refine an 2 26 #[.int .i64 aA,.slice af X.length aa,.slice ab aC.length ac] ?_;intro gb770 hg kF Cr hb;have GW770:=gw hg (bs HB);have FF:=gw hg (bs HB);replace HB:=Ah (aH (bs HB) hb);clear hb hg;obtain⟨tQ,tR,yJ⟩:=dE Cr;obtain⟨tS,tT,yK⟩:=dF Cr)|((with_reducible refine bY (f:=52) rfl ?_);refine gL (some 8) rfl rfl Try.func52 (by kernel_rfl) rfl #[.slice af X.length aa,.int .i64 a1] rfl ?_;(with_reducible refine(iJ.calls k _ _ X a1 ss _ ?aZ ?ae A3.out).mono ?_);(case aZ=>exact cb bo HB);(case ae=>exact cU.out);rintro e w' ⟨rfl,⟨nd,rfl⟩⟩;refine⟨_,rfl, ?_⟩)|((with_reducible refine bY (f:=52) rfl ?_);refine gL (some 14) rfl rfl Try.func52 (by kernel_rfl) rfl #[.slice ab aC.length ac,.int .i64 ss] rfl ?_;(with_reducible refine(iJ.calls k _ _ aC ss B0 _ ?aZ ?ae A7.out).mono ?_);(case aZ=>repeat(first|exact(Kd.iV cn.out (aM HB FF))|(with_reducible refine Kd.tO ?_ _)|(with_reducible refine Kd.tP ?_ _)|(with_reducible refine Kd.th ?_)));(case ae=>exact co.out);rintro e w' ⟨rfl,⟨nd,rfl⟩⟩;refine⟨_,rfl, ?_⟩))
 go_ret
 exact⟨er,aM HB FF⟩
def jk.l0:Nat→List (aJ)→Int→Int→Option (Int)
 |0,_,_,_=>none
 |k+1,x0,x1,x5=>if x5<(x0.length:Int)then(if 0≤x5 then(if((U x0 x5).f0)=x1 then(if((U x0 x5).f1)=(Gj (x1+1))then(if((U x0 x5).f2.f0)=(Gj ((Gj (x1+1))+1))then(if((U x0 x5).f2.f1)=(Gj ((Gj ((Gj (x1+1))+1))+1))then(if((U x0 x5).f3)=(Gj ((Gj ((Gj ((Gj (x1+1))+1))+1))+1))then(jk.l0 k x0 (Gj ((Gj ((Gj ((Gj ((Gj (x1+1))+1))+1))+1))+1)) (Gj (x5+1)))else(some (-1)))else(some (-1)))else(some (-1)))else(some (-1)))else(some (-1)))else(none))else(some x1)
def jk.f(k:Nat)(l0:List (aJ))(a1:Int):Option (Int):=jk.l0 k l0 a1 0
theorem jk.cQ:∀k,(∀y0 y1 y2,aG (jk.l0 k y0 y1 y2) (jk.l0 (k+1) y0 y1 y2))
 |0=>fun _ _ _ r h=>by simp[jk.l0]at h
 |k+1=>by
  have bS:=jk.cQ k
  ·
   intro y0 y1 y2;unfold jk.l0
   repeat' with_reducible first|exact bS _ _ _|exact aG.refl _|exact aG.none _|refine aG.ite ?_ ?_|refine aG.bind ?_ (fun _=> ?_)
theorem jk.mono:∀a0 a1 k,aG (jk.f k a0 a1) (jk.f (k+1) a0 a1):=by
 intro a0 a1 k;have bS:=jk.cQ k;unfold jk.f
 repeat' with_reducible first|exact bS _ _ _|exact aG.refl _|exact aG.none _|refine aG.ite ?_ ?_|refine aG.bind ?_ (fun _=> ?_)
theorem jk.calls(k:Nat)(A0:Option Addr)(c0:Nat)(l0:List (aJ))(a1:Int)(r:Int)(w:World)(hr0:Kd.C b8 w A0 l0.length l0)(hc0:l0.length≤c0)(h:jk.f k l0 a1=some r):
 Calls Uf 32 #[.slice A0 l0.length c0,.int .i64 a1] w fun e w'=>e= .returned (.int .i64 r)∧bU w w':=by
 have cX:=Ah hr0;have oE:=Ah hc0;clear hr0 hc0;have H:(jk.l0 k l0 a1 0)=some r:=h;clear h;have H':=Ah H;clear H
 go_enter Try.func32,Try.ntmps32
 go_wp2
 go_loopg [1,5] k (fun kq v1 v5 w'=>∃ (bL:Int) (I:Int),v1= .int .i64 bL∧v5= .int .i64 I∧Z (jk.l0 kq l0 bL I=some r)∧Z (kq≤k)∧bU w w')
 case atStart=>exact⟨(a1),(0),e3,e3,H',⟨QQ _⟩,by repeat(first|exact bU.refl _|apply bU.step)⟩
 case round=>
  clear H'
  try clear p2
  obtain⟨bL,I,rfl,rfl,HA,bi,⟨m1,rfl⟩⟩:=hrel
  cases gk with
  |zero=>exact absurd HA.out (by simp[jk.l0])
  |succ k1=>
   have H:=HA.out;clear HA;simp only[jk.l0]at H
   by_cases c3:I<(l0.length:Int)
   rotate_left
   ·
    rw[if_neg c3]at H;have dc:=dn c3;clear c3;obtain rfl:=Gn H
    go_wp2
    go_ret
    exact⟨e3,by repeat(first|exact bU.refl _|apply bU.step)⟩
   rw[if_pos c3]at H;have dc:=bJ c3;clear c3
   by_cases c4:0≤I
   rotate_left
   ·
    rw[if_neg c4]at H;exact absurd H (by simp)
   rw[if_pos c4]at H;have fB:=bJ c4;clear c4
   by_cases c5:((U l0 I).f0)=bL
   rotate_left
   ·
    rw[if_neg c5]at H;have kV:=fS c5;have vL:=fT c5;obtain rfl:=Gn H;have ma:0≤(I:Int):=od;have mb:I<(l0.length:Int):=od;obtain⟨oq,xS,LO,LP,LQ,LR,LS⟩:=eC cX.out I ma mb
    cases xS
    replace ma:=eq_true ma;replace mb:=eq_true mb
    go_wp2
    go_ret
    exact⟨e3,by repeat(first|exact bU.refl _|apply bU.step)⟩
   rw[if_pos c5]at H;have kV:=fU c5;have vL:=fV c5;clear c5
   by_cases c6:((U l0 I).f1)=(Gj (bL+1))
   rotate_left
   ·
    rw[if_neg c6]at H;have o6:=fS c6;have P5:=fT c6;obtain rfl:=Gn H;have ma:0≤(I:Int):=od;have mb:I<(l0.length:Int):=od;obtain⟨oq,xS,LO,LP,LQ,LR,LS⟩:=eC cX.out I ma mb
    cases xS
    replace ma:=eq_true ma;replace mb:=eq_true mb;have pB:0≤(I:Int):=od;have pC:I<(l0.length:Int):=od;obtain⟨Af,B2,SB,SC,SD,SE,SF⟩:=eC cX.out I pB pC;obtain rfl:oq=Af:=(by injection B2);replace pB:=eq_true pB;replace pC:=eq_true pC
    go_wp2
    go_ret
    exact⟨e3,by repeat(first|exact bU.refl _|apply bU.step)⟩
   rw[if_pos c6]at H;have o6:=fU c6;have P5:=fV c6;clear c6
   by_cases c7:((U l0 I).f2.f0)=(Gj ((Gj (bL+1))+1))
   rotate_left
   ·
    rw[if_neg c7]at H;have pY:=fS c7;have uA:=fT c7;obtain rfl:=Gn H;have ma:0≤(I:Int):=od;have mb:I<(l0.length:Int):=od;obtain⟨oq,xS,LO,LP,LQ,LR,LS⟩:=eC cX.out I ma mb
    cases xS
    replace ma:=eq_true ma;replace mb:=eq_true mb;have pB:0≤(I:Int):=od;have pC:I<(l0.length:Int):=od;obtain⟨Af,B2,SB,SC,SD,SE,SF⟩:=eC cX.out I pB pC;obtain rfl:oq=Af:=(by injection B2);replace pB:=eq_true pB;replace pC:=eq_true pC;have rh:0≤(I:Int):=od;have ri:I<(l0.length:Int):=od;obtain⟨FG,GG,Xi,Xj,Xk,Xl,Xm⟩:=eC cX.out I rh ri;obtain rfl:oq=FG:=(by injection GG);replace rh:=eq_true rh;replace ri:=eq_true ri
    go_wp2
    go_ret
    exact⟨e3,by repeat(first|exact bU.refl _|apply bU.step)⟩
   rw[if_pos c7]at H;have pY:=fU c7;have uA:=fV c7;clear c7
   by_cases c8:((U l0 I).f2.f1)=(Gj ((Gj ((Gj (bL+1))+1))+1))
   rotate_left
   ·
    rw[if_neg c8]at H;have rO:=fS c8;have c8b1:=fT c8;obtain rfl:=Gn H;have ma:0≤(I:Int):=od;have mb:I<(l0.length:Int):=od;obtain⟨oq,xS,LO,LP,LQ,LR,LS⟩:=eC cX.out I ma mb
    cases xS
    replace ma:=eq_true ma;replace mb:=eq_true mb;have pB:0≤(I:Int):=od;have pC:I<(l0.length:Int):=od;obtain⟨Af,B2,SB,SC,SD,SE,SF⟩:=eC cX.out I pB pC;obtain rfl:oq=Af:=(by injection B2);replace pB:=eq_true pB;replace pC:=eq_true pC;have rh:0≤(I:Int):=od;have ri:I<(l0.length:Int):=od;obtain⟨FG,GG,Xi,Xj,Xk,Xl,Xm⟩:=eC cX.out I rh ri;obtain rfl:oq=FG:=(by injection GG);replace rh:=eq_true rh;replace ri:=eq_true ri;have xT:0≤(I:Int):=od;have xU:I<(l0.length:Int):=od;obtain⟨Nu,PR,hx776_0,hx776_1,hx776_2,hx776_3,hx776_4⟩:=eC cX.out I xT xU;obtain rfl:oq=Nu:=(by injection PR);replace xT:=eq_true xT;replace xU:=eq_true xU
    go_wp2
    go_ret
    exact⟨e3,by repeat(first|exact bU.refl _|apply bU.step)⟩
   rw[if_pos c8]at H;have rO:=fU c8;have c8b1:=fV c8;clear c8
   by_cases c9:((U l0 I).f3)=(Gj ((Gj ((Gj ((Gj (bL+1))+1))+1))+1))
   rotate_left
   ·
    rw[if_neg c9]at H;have sk:=fS c9;have Zk:=fT c9;obtain rfl:=Gn H;have ma:0≤(I:Int):=od;have mb:I<(l0.length:Int):=od;obtain⟨oq,xS,LO,LP,LQ,LR,LS⟩:=eC cX.out I ma mb
    cases xS
    replace ma:=eq_true ma;replace mb:=eq_true mb;have pB:0≤(I:Int):=od;have pC:I<(l0.length:Int):=od;obtain⟨Af,B2,SB,SC,SD,SE,SF⟩:=eC cX.out I pB pC;obtain rfl:oq=Af:=(by injection B2);replace pB:=eq_true pB;replace pC:=eq_true pC;have rh:0≤(I:Int):=od;have ri:I<(l0.length:Int):=od;obtain⟨FG,GG,Xi,Xj,Xk,Xl,Xm⟩:=eC cX.out I rh ri;obtain rfl:oq=FG:=(by injection GG);replace rh:=eq_true rh;replace ri:=eq_true ri;have xT:0≤(I:Int):=od;have xU:I<(l0.length:Int):=od;obtain⟨Nu,PR,hx776_0,hx776_1,hx776_2,hx776_3,hx776_4⟩:=eC cX.out I xT xU;obtain rfl:oq=Nu:=(by injection PR);replace xT:=eq_true xT;replace xU:=eq_true xU;have GH:0≤(I:Int):=od;have GI:I<(l0.length:Int):=od;obtain⟨ZZ,a1H,hx777_0,hx777_1,hx777_2,hx777_3,hx777_4⟩:=eC cX.out I GH GI;obtain rfl:oq=ZZ:=(by injection a1H);replace GH:=eq_true GH;replace GI:=eq_true GI
    go_wp2
    go_ret
    exact⟨e3,by repeat(first|exact bU.refl _|apply bU.step)⟩
   rw[if_pos c9]at H;have sk:=fU c9;have Zk:=fV c9;clear c9;have H':=Ah H;clear H;have ma:0≤(I:Int):=od;have mb:I<(l0.length:Int):=od;obtain⟨oq,xS,LO,LP,LQ,LR,LS⟩:=eC cX.out I ma mb
   cases xS
   replace ma:=eq_true ma;replace mb:=eq_true mb;have pB:0≤(I:Int):=od;have pC:I<(l0.length:Int):=od;obtain⟨Af,B2,SB,SC,SD,SE,SF⟩:=eC cX.out I pB pC;obtain rfl:oq=Af:=(by injection B2);replace pB:=eq_true pB;replace pC:=eq_true pC;have rh:0≤(I:Int):=od;have ri:I<(l0.length:Int):=od;obtain⟨FG,GG,Xi,Xj,Xk,Xl,Xm⟩:=eC cX.out I rh ri;obtain rfl:oq=FG:=(by injection GG);replace rh:=eq_true rh;replace ri:=eq_true ri;have xT:0≤(I:Int):=od;have xU:I<(l0.length:Int):=od;obtain⟨Nu,PR,hx776_0,hx776_1,hx776_2,hx776_3,hx776_4⟩:=eC cX.out I xT xU;obtain rfl:oq=Nu:=(by injection PR);replace xT:=eq_true xT;replace xU:=eq_true xU;have GH:0≤(I:Int):=od;have GI:I<(l0.length:Int):=od;obtain⟨ZZ,a1H,hx777_0,hx777_1,hx777_2,hx777_3,hx777_4⟩:=eC cX.out I GH GI;obtain rfl:oq=ZZ:=(by injection a1H);replace GH:=eq_true GH;replace GI:=eq_true GI
   go_wp2
   go_roundg k1
   case measure=>have:=bi.out;omega
   case rel=>exact⟨(Gj ((Gj ((Gj ((Gj ((Gj (bL+1))+1))+1))+1))+1)),(Gj (I+1)),e3,e3,H',⟨by have:=bi.out;omega⟩,by repeat(first|exact bU.refl _|apply bU.step)⟩
def vV.f(k:Nat)(aA:Int)(X:List (Y))(aC:List (Y))(aV:Int)(aU:List (aJ))(a1:Int):Option (Int):=(rz.f k aA X aC a1).bind fun st=>(if st<0 then(some (-1))else((jk.f k aU st).bind fun B3=>(if B3<0 then(some (-1))else(some B3))))
theorem vV.mono:∀a0 a1 a2 a3 a4 a5 k,aG (vV.f k a0 a1 a2 a3 a4 a5) (vV.f (k+1) a0 a1 a2 a3 a4 a5):=by
 intro a0 a1 a2 a3 a4 a5 k;unfold vV.f
 repeat' with_reducible first|exact rz.mono _ _ _ _ _|exact jk.mono _ _ _|exact aG.refl _|exact aG.none _|refine aG.ite ?_ ?_|refine aG.bind ?_ (fun _=> ?_)
theorem vV.calls(k:Nat)(aA:Int)(af:Option Addr)(aa:Nat)(X:List (Y))(ab:Option Addr)(ac:Nat)(aC:List (Y))(aV:Int)(bG:Option Addr)(bH:Nat)(aU:List (aJ))(a1:Int)(r:Int)(w:World)(dO:Kd.C aT w af X.length X)(dP:X.length≤aa)(dQ:Kd.C aT w ab aC.length aC)(dR:aC.length≤ac)(gu:Kd.C b8 w bG aU.length aU)(gy:aU.length≤bH)(h:vV.f k aA X aC aV aU a1=some r):
 Calls Uf 14 #[.agg #[.int .i64 aA,.slice af X.length aa,.slice ab aC.length ac,.int .i64 aV,.slice bG aU.length bH],.int .i64 a1] w fun e w'=>e= .returned (.int .i64 r)∧Below w.heap.size w w':=by
 have sn:=cp;have mL:=ig;have bo:=Ah dO;have cU:=Ah dP;clear dO dP;have cn:=Ah dQ;have co:=Ah dR;clear dQ dR;have fF:=Ah gu;have fL:=Ah gy;clear gu gy;have HB:=Ah (Below.refl w.heap.size w);have H:((rz.f k aA X aC a1).bind fun st=>(if st<0 then(some (-1))else((jk.f k aU st).bind fun B3=>(if B3<0 then(some (-1))else(some B3)))))=some r:=h;clear h;replace H:=Gl.mp H;obtain⟨st,dj,H⟩:=H
 try dsimp only at H
 have A3:=Ah dj;clear dj
 by_cases c4:st<0
 ·
  rw[if_pos c4]at H;have fB:=bJ c4;clear c4;obtain rfl:=Gn H
  go_enter Try.func14,Try.ntmps14
  go_wp2_with (first|((with_reducible refine ag (N:=2) rfl ?_);refine an 2 29 #[.int .i64 aA,.slice af X.length aa,.slice ab aC.length ac,.int .i64 aV,.slice bG aU.length bH] ?_;intro gb778 hg w5 pX hb;have GW778:=gw hg (bs HB);have Cs:=gw hg (bs HB);replace HB:=Ah (aH (bs HB) hb);clear hb hg;obtain⟨AG,AH,Ea,Xw,Xx⟩:=aj pX;obtain⟨AI,AJ,Eb,Xy,Xz⟩:=ai pX)|((with_reducible refine bY (f:=31) rfl ?_);refine gL (some 8) rfl rfl Try.func31 (by kernel_rfl) rfl #[.agg #[.int .i64 aA,.slice af X.length aa,.slice ab aC.length ac],.int .i64 a1] rfl ?_;(with_reducible refine(rz.calls k aA _ _ X _ _ aC a1 st _ ?aZ ?ae ?ay ?bI A3.out).mono ?_);(case aZ=>exact cb bo HB);(case ae=>exact cU.out);(case ay=>exact cb cn HB);(case bI=>exact co.out);rintro e w7 ⟨rfl,hb⟩;refine⟨_,rfl, ?_⟩;replace pX:=nb pX hb;replace HB:=Ah (aH (aM HB Cs) hb);(try clear hb)))
  go_ret
  exact⟨er,aM HB Cs⟩
 rw[if_neg c4]at H;have fB:=dn c4;clear c4;replace H:=Gl.mp H;obtain⟨B3,Ps,H⟩:=H
 try dsimp only at H
 have A8:=Ah Ps;clear Ps
 by_cases c9:B3<0
 ·
  rw[if_pos c9]at H;have sk:=bJ c9;clear c9;obtain rfl:=Gn H
  go_enter Try.func14,Try.ntmps14
  go_wp2_with (first|((with_reducible refine ag (N:=2) rfl ?_);refine an 2 29 #[.int .i64 aA,.slice af X.length aa,.slice ab aC.length ac,.int .i64 aV,.slice bG aU.length bH] ?_;intro gb778 hg lp pX hb;have GW778:=gw hg (bs HB);have Cs:=gw hg (bs HB);replace HB:=Ah (aH (bs HB) hb);clear hb hg;obtain⟨oO,oP,qx,sK,sL⟩:=aj pX;obtain⟨oQ,oR,qy,sM,sN⟩:=ai pX)|((with_reducible refine bY (f:=31) rfl ?_);refine gL (some 8) rfl rfl Try.func31 (by kernel_rfl) rfl #[.agg #[.int .i64 aA,.slice af X.length aa,.slice ab aC.length ac],.int .i64 a1] rfl ?_;(with_reducible refine(rz.calls k aA _ _ X _ _ aC a1 st _ ?aZ ?ae ?ay ?bI A3.out).mono ?_);(case aZ=>exact cb bo HB);(case ae=>exact cU.out);(case ay=>exact cb cn HB);(case bI=>exact co.out);rintro e ef ⟨rfl,hb⟩;refine⟨_,rfl, ?_⟩;replace pX:=nb pX hb;replace HB:=Ah (aH (aM HB Cs) hb);(try clear hb);obtain⟨oK,oL,qz,sS,sT⟩:=aj pX;obtain⟨oM,oN,r8,sU,sV⟩:=ai pX)|((with_reducible refine bY (f:=32) rfl ?_);refine gL (some 14) rfl rfl Try.func32 (by kernel_rfl) rfl #[.slice bG aU.length bH,.int .i64 st] rfl ?_;(with_reducible refine(jk.calls k _ _ aU st B3 _ ?aZ ?ae A8.out).mono ?_);(case aZ=>exact cb fF HB);(case ae=>exact fL.out);rintro e w' ⟨rfl,⟨nd,rfl⟩⟩;refine⟨_,rfl, ?_⟩))
  go_ret
  exact⟨er,aM HB Cs⟩
 rw[if_neg c9]at H;have sk:=dn c9;clear c9;obtain rfl:=Gn H
 go_enter Try.func14,Try.ntmps14
 go_wp2_with (first|((with_reducible refine ag (N:=2) rfl ?_);refine an 2 29 #[.int .i64 aA,.slice af X.length aa,.slice ab aC.length ac,.int .i64 aV,.slice bG aU.length bH] ?_;intro gb778 hg eL pX hb;have GW778:=gw hg (bs HB);have Cs:=gw hg (bs HB);replace HB:=Ah (aH (bs HB) hb);clear hb hg;obtain⟨um,un,CI,EK,EL⟩:=aj pX;obtain⟨uo,uq,CJ,EM,EN⟩:=ai pX)|((with_reducible refine bY (f:=31) rfl ?_);refine gL (some 8) rfl rfl Try.func31 (by kernel_rfl) rfl #[.agg #[.int .i64 aA,.slice af X.length aa,.slice ab aC.length ac],.int .i64 a1] rfl ?_;(with_reducible refine(rz.calls k aA _ _ X _ _ aC a1 st _ ?aZ ?ae ?ay ?bI A3.out).mono ?_);(case aZ=>exact cb bo HB);(case ae=>exact cU.out);(case ay=>exact cb cn HB);(case bI=>exact co.out);rintro e w16 ⟨rfl,hb⟩;refine⟨_,rfl, ?_⟩;replace pX:=nb pX hb;replace HB:=Ah (aH (aM HB Cs) hb);(try clear hb);obtain⟨sO,ub,za,W3,W4⟩:=aj pX;obtain⟨sP,uc,zb,W5,W7⟩:=ai pX)|((with_reducible refine bY (f:=32) rfl ?_);refine gL (some 14) rfl rfl Try.func32 (by kernel_rfl) rfl #[.slice bG aU.length bH,.int .i64 st] rfl ?_;(with_reducible refine(jk.calls k _ _ aU st B3 _ ?aZ ?ae A8.out).mono ?_);(case aZ=>exact cb fF HB);(case ae=>exact fL.out);rintro e w' ⟨rfl,⟨nd,rfl⟩⟩;refine⟨_,rfl, ?_⟩))
 go_ret
 exact⟨er,aM HB Cs⟩
def kM.l0:Nat→List Bool→Int→Int→Option (Int)
 |0,_,_,_=>none
 |k+1,x0,x1,x5=>if x5<(x0.length:Int)then(if 0≤x5 then(if((eO false x0 x5) !=((aa0 x1 3)==0))=true then(some (-1))else(kM.l0 k x0 (Gj (x1+1)) (Gj (x5+1))))else(none))else(some x1)
def kM.f(k:Nat)(l0:List Bool)(a1:Int):Option (Int):=kM.l0 k l0 a1 0
theorem kM.cQ:∀k,(∀y0 y1 y2,aG (kM.l0 k y0 y1 y2) (kM.l0 (k+1) y0 y1 y2))
 |0=>fun _ _ _ r h=>by simp[kM.l0]at h
 |k+1=>by
  have bS:=kM.cQ k
  ·
   intro y0 y1 y2;unfold kM.l0
   repeat' with_reducible first|exact bS _ _ _|exact aG.refl _|exact aG.none _|refine aG.ite ?_ ?_|refine aG.bind ?_ (fun _=> ?_)
theorem kM.mono:∀a0 a1 k,aG (kM.f k a0 a1) (kM.f (k+1) a0 a1):=by
 intro a0 a1 k;have bS:=kM.cQ k;unfold kM.f
 repeat' with_reducible first|exact bS _ _ _|exact aG.refl _|exact aG.none _|refine aG.ite ?_ ?_|refine aG.bind ?_ (fun _=> ?_)
theorem kM.calls(k:Nat)(A0:Option Addr)(c0:Nat)(l0:List Bool)(a1:Int)(r:Int)(w:World)(hr0:Kd.C Kd.bool w A0 l0.length l0)(hc0:l0.length≤c0)(h:kM.f k l0 a1=some r):
 Calls Uf 15 #[.slice A0 l0.length c0,.int .i64 a1] w fun e w'=>e= .returned (.int .i64 r)∧bU w w':=by
 have cX:=Ah hr0;have oE:=Ah hc0;clear hr0 hc0;have H:(kM.l0 k l0 a1 0)=some r:=h;clear h;have H':=Ah H;clear H
 go_enter Try.func15,Try.ntmps15
 go_wp2
 go_loopg [1,5] k (fun kq v1 v5 w'=>∃ (bL:Int) (I:Int),v1= .int .i64 bL∧v5= .int .i64 I∧Z (kM.l0 kq l0 bL I=some r)∧Z (kq≤k)∧bU w w')
 case atStart=>exact⟨(a1),(0),e3,e3,H',⟨QQ _⟩,by repeat(first|exact bU.refl _|apply bU.step)⟩
 case round=>
  clear H'
  try clear c1
  try clear p2
  obtain⟨bL,I,rfl,rfl,HA,bi,⟨m1,rfl⟩⟩:=hrel
  cases gk with
  |zero=>exact absurd HA.out (by simp[kM.l0])
  |succ k1=>
   have H:=HA.out;clear HA;simp only[kM.l0]at H
   by_cases c3:I<(l0.length:Int)
   rotate_left
   ·
    rw[if_neg c3]at H;have dc:=dn c3;clear c3;obtain rfl:=Gn H
    go_wp2
    go_ret
    exact⟨e3,by repeat(first|exact bU.refl _|apply bU.step)⟩
   rw[if_pos c3]at H;have dc:=bJ c3;clear c3
   by_cases c4:0≤I
   rotate_left
   ·
    rw[if_neg c4]at H;exact absurd H (by simp)
   rw[if_pos c4]at H;have fB:=bJ c4;clear c4
   by_cases c5:((eO false l0 I) !=((aa0 bL 3)==0))=true
   ·
    rw[if_pos c5]at H;have kV:((eO false l0 I) !=((aa0 bL 3)==0))=true:=c5;(try(have vL:decide ((eO false l0 I)=((aa0 bL 3)==0))=false:=by simpa using c5));(try(have c5b2:((eO false l0 I)==((aa0 bL 3)==0))=false:=by simpa using c5));(try(have c5b3:¬((eO false l0 I)=((aa0 bL 3)==0)):=by simpa using c5));clear c5;obtain rfl:=Gn H;have GJ:0≤(I:Int):=od;have GK:I<(l0.length:Int):=od;obtain⟨ad781,a1I,hx781_0⟩:=Kd.zU cX.out I GJ GK
    cases a1I
    replace GJ:=eq_true GJ;replace GK:=eq_true GK
    go_wp2
    go_ret
    exact⟨e3,by repeat(first|exact bU.refl _|apply bU.step)⟩
   rw[if_neg c5]at H
   have kV:((eO false l0 I) !=((aa0 bL 3)==0))=false:=by simpa using c5
   (try(have vL:decide ((eO false l0 I)=((aa0 bL 3)==0))=true:=by simpa using c5));(try(have c5b2:((eO false l0 I)==((aa0 bL 3)==0))=true:=by simpa using c5));clear c5;have H':=Ah H;clear H;have GJ:0≤(I:Int):=od;have GK:I<(l0.length:Int):=od;obtain⟨ad781,a1I,hx781_0⟩:=Kd.zU cX.out I GJ GK
   cases a1I
   replace GJ:=eq_true GJ;replace GK:=eq_true GK
   go_wp2
   go_roundg k1
   case measure=>have:=bi.out;omega
   case rel=>exact⟨(Gj (bL+1)),(Gj (I+1)),e3,e3,H',⟨by have:=bi.out;omega⟩,by repeat(first|exact bU.refl _|apply bU.step)⟩
end Go.Proofs.Ytfeokehfhaimkaa.G
