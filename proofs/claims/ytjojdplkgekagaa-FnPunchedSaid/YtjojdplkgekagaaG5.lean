-- Printed by a program of this session (drive.py, by way of the kit's print). Not trusted: Lean checks it.
import Derived.Test.YtjojdplkgekagaaG0
import Derived.Test.YtjojdplkgekagaaG4
open Bool renaming eq_false_iff→dn,not_false→aaz,not_true→aaC
open Go.Act renaming put→aab
open Go.Proofs.Try renaming underlying25→ua,prog→aad,func21→aar,underlying65→aay
open Go.RowKit renaming wrap64→LS
open Go.World renaming cell?→aaH,frozen?→aaL
open List renaming setIfInBounds_toArray→Ok,length_take→ao,set_cons_zero→bY,set_cons_succ→dl,length_drop→gy,map_toArray→aag,map_cons→aan,map_nil→aas
open Nat renaming le_refl→bx,le_of_eq→aaj,le_trans→aax,ne_of_lt→aaI,ne_of_gt→aaJ
open Option renaming bind_eq_some_iff→LT,bind_some→Mq
open Option.some renaming inj→iz,injEq→j4
open Prod.mk renaming injEq→ub
namespace Go.Proofs.Ytjojdplkgekagaa.G
open Go.RowKit Go.Proofs.YtjojdplkgekagaaW.PrintWords Go.Proofs.YtjojdplkgekagaaW.PrintLast Go.Proofs.YtjojdplkgekagaaW.PrintMore
attribute [local go_sem] um un uu uv ud ue uo uq
set_option linter.unusedVariables false
set_option linter.unusedSimpArgs false
mutual
def bV.l0:Nat→Int→Int→List Int→Int→Int→List (a7)→Option ((List (a7))×Int×Int)
 |0,_,_,_,_,_,_=>none
 |k+1,x4,x5,x1000,tc,td,i7=>if x5>0 then((yD.f x1000 tc td).bind fun vN=>((ct.f x1000 vN.2.2.2.2.1 vN.2.2.2.2.2 6).bind fun r7=>(if r7.1=0 then((ct.f x1000 r7.2.1 r7.2.2 30).bind fun TR=>((ct.f x1000 TR.2.1 TR.2.2 5).bind fun Ir=>((gM.f k i7 TR.1 Ir.1).bind fun a2f=>(if a2f.2.2=true then(bV.l0 k x4 (LS (x5-1)) x1000 Ir.2.1 Ir.2.2 a2f.1)else(bV.l0 k x4 (LS (x5-1)) x1000 Ir.2.1 Ir.2.2 i7)))))else(if r7.1=1 then((ct.f x1000 r7.2.1 r7.2.2 30).bind fun TS=>((ct.f x1000 TS.2.1 TS.2.2 3).bind fun Is=>((eY.f k i7 TS.1 (LS (1+Is.1))).bind fun a2g=>(if a2g.2=true then(bV.l0 k x4 (LS (x5-1)) x1000 Is.2.1 Is.2.2 a2g.1)else(bV.l0 k x4 (LS (x5-1)) x1000 Is.2.1 Is.2.2 i7)))))else(if r7.1=2 then(bV.j1 k x4 x5 (r7.1==2) x1000 r7.2.1 r7.2.2 i7 vN.1 vN.2.1 vN.2.2.1 vN.2.2.2.1)else(bV.j1 k x4 x5 (r7.1==3) x1000 r7.2.1 r7.2.2 i7 vN.1 vN.2.1 vN.2.2.1 vN.2.2.2.1))))))else(if(i7.length:Int)>0 then((mj.f x1000 tc td 20).bind fun TT=>(bV.j2 k TT.1 x1000 TT.2.1 TT.2.2 i7))else(bV.j2 k false x1000 tc td i7))
def bV.j1:Nat→Int→Int→Bool→List Int→Int→Int→List (a7)→Int→Int→Int→Bool→Option ((List (a7))×Int×Int)
 |0,_,_,_,_,_,_,_,_,_,_,_=>none
 |k+1,x4,x5,x52,x1000,tc,td,i7,x342000,MQ,x342002,ZW=>if x52=true then((eR.f k i7 x4 MQ (LS (x4+100)) ZW).bind fun a2h=>(if a2h.2=true then(bV.l0 k (LS (x4+MQ)) (LS (x5-1)) x1000 tc td a2h.1)else(bV.l0 k (LS (x4+MQ)) (LS (x5-1)) x1000 tc td i7)))else((eR.f k i7 x342000 MQ x342002 ZW).bind fun a2i=>(if a2i.2=true then(bV.l0 k x4 (LS (x5-1)) x1000 tc td a2i.1)else(bV.l0 k x4 (LS (x5-1)) x1000 tc td i7)))
def bV.j2:Nat→Bool→List Int→Int→Int→List (a7)→Option ((List (a7))×Int×Int)
 |0,_,_,_,_,_=>none
 |k+1,x80,x1000,tc,td,i7=>if x80=true then((ct.f x1000 tc td (i7.length:Int)).bind fun lA=>((ct.f x1000 lA.2.1 lA.2.2 3).bind fun zN=>(if zN.1=0 then(if 0≤lA.1 then(if lA.1<(i7.length:Int)then((ct.f x1000 zN.2.1 zN.2.2 5).bind fun TU=>(some ((i7.set (lA.1:Int).toNat (⟨(I i7 lA.1).f0,LS (((I i7 lA.1).f1)+(LS (TU.1-2))),(I i7 lA.1).f2,(I i7 lA.1).f3⟩:a7)),TU.2.1,TU.2.2)))else(none))else(none))else(if zN.1=1 then((ct.f x1000 zN.2.1 zN.2.2 9).bind fun TV=>(if 0≤lA.1 then(if lA.1<(i7.length:Int)then(some ((i7.set (lA.1:Int).toNat (⟨(I i7 lA.1).f0,(I i7 lA.1).f1,TV.1,(I i7 lA.1).f3⟩:a7)),TV.2.1,TV.2.2))else(none))else(none)))else((ct.f x1000 zN.2.1 zN.2.2 9).bind fun TW=>(if 0≤lA.1 then(if lA.1<(i7.length:Int)then(some ((i7.set (lA.1:Int).toNat (⟨LS (TW.1-1),(I i7 lA.1).f1,(I i7 lA.1).f2,(I i7 lA.1).f3⟩:a7)),TW.2.1,TW.2.2))else(none))else(none)))))))else(some (i7,tc,td))
end
def bV.f(k:Nat)(av:List Int)(ci:Int)(eA:Int):Option ((List (a7))×Int×Int):=(ct.f av ci eA 12).bind fun CL=>(bV.l0 k 0 CL.1 av CL.2.1 CL.2.2 ([]:List (a7)))
theorem bV.dL:∀k,(∀y0 y1 y2 y3 y4 y5,aG (bV.l0 k y0 y1 y2 y3 y4 y5) (bV.l0 (k+1) y0 y1 y2 y3 y4 y5))∧(∀y0 y1 y2 y3 y4 y5 y6 y7 y8 y9 lp,aG (bV.j1 k y0 y1 y2 y3 y4 y5 y6 y7 y8 y9 lp) (bV.j1 (k+1) y0 y1 y2 y3 y4 y5 y6 y7 y8 y9 lp))∧(∀y0 y1 y2 y3 y4,aG (bV.j2 k y0 y1 y2 y3 y4) (bV.j2 (k+1) y0 y1 y2 y3 y4))
 |0=>⟨fun _ _ _ _ _ _ r h=>by simp[bV.l0]at h,fun _ _ _ _ _ _ _ _ _ _ _ r h=>by simp[bV.j1]at h,fun _ _ _ _ _ r h=>by simp[bV.j2]at h⟩
 |k+1=>by
  obtain⟨bw,ih1,ih2⟩:=bV.dL k
  refine⟨?_, ?_, ?_⟩<;>intros<;>first|unfold bV.l0|unfold bV.j1|unfold bV.j2
  all_goals repeat' first
   |(with_reducible exact bw _ _ _ _ _ _)
   |(with_reducible exact ih1 _ _ _ _ _ _ _ _ _ _ _)
   |(with_reducible exact ih2 _ _ _ _ _)
   |(with_reducible exact eR.mono _ _ _ _ _ _)
   |(with_reducible exact gM.mono _ _ _ _)
   |(with_reducible exact eY.mono _ _ _ _)
   |(with_reducible exact aG.refl _)
   |(with_reducible exact aG.none _)
   |(with_reducible refine aG.ite ?_ ?_)
   |(with_reducible refine aG.bind ?_ (fun _=> ?_))
   |exact bw _ _ _ _ _ _
   |exact ih1 _ _ _ _ _ _ _ _ _ _ _
   |exact ih2 _ _ _ _ _
   |exact eR.mono _ _ _ _ _ _
   |exact gM.mono _ _ _ _
   |exact eY.mono _ _ _ _
   |exact aG.none _
   |refine aG.ite ?_ ?_
   |refine aG.bind ?_ (fun _=> ?_)
theorem bV.mono:∀a0 a1 a2 k,aG (bV.f k a0 a1 a2) (bV.f (k+1) a0 a1 a2):=by
 intro a0 a1 a2 k;obtain⟨bw,ih1,ih2⟩:=bV.dL k;unfold bV.f
 repeat' with_reducible first|exact bw _ _ _ _ _ _|exact ih1 _ _ _ _ _ _ _ _ _ _ _|exact ih2 _ _ _ _ _|exact eR.mono _ _ _ _ _ _|exact gM.mono _ _ _ _|exact eY.mono _ _ _ _|exact aG.refl _|exact aG.none _|refine aG.ite ?_ ?_|refine aG.bind ?_ (fun _=> ?_)
def bV.T11:Bool×List (List Nat×List Nat):=(true,[([],[]),([],[]),([1],[1]),([],[]),([3,2],[3]),([0,2,4,4],[0,2,4]),([5],[5]),([6],[6]),([6],[6]),([6],[6]),([7,5,0,1,2,3,4,5,6,7],[7]),([9,10,0,1,2,3,4,5,6,7,8,9,10],[9])])
def bV.B11:List Nat:=[0,0,2,0,14,31,63,127,127,127,255,2047]
theorem bV.tab11:gH .any (nY Try.f20 11)=bV.T11:=by kernel_rfl
theorem bV.bits11:kx bV.T11.2 bV.B11=true:=by kernel_rfl
def bV.T13:Bool×List (List Nat×List Nat):=(true,[([],[]),([],[]),([1],[1]),([],[]),([3,2],[3]),([4],[4]),([0,2,5,4],[0,2,5]),([6],[6]),([7],[7]),([7],[7]),([8,6,0,1,2,3,4,5,6,7,8],[8]),([9,10,0,1,2,3,4,5,6,7,8,9,10],[9])])
def bV.B13:List Nat:=[0,0,2,0,14,30,63,127,255,255,511,2047]
theorem bV.tab13:gH .any (nY Try.f20 13)=bV.T13:=by kernel_rfl
theorem bV.bits13:kx bV.T13.2 bV.B13=true:=by kernel_rfl
def bV.T25:Bool×List (List Nat×List Nat):=(true,[([],[]),([0],[0]),([],[]),([],[]),([3],[3]),([4],[4]),([1,2,0,1,2,3,4,5],[1,2]),([6,0,1,2,3,4,5],[6]),([7,5,4,0,1,2,3,4,5],[5,7])])
def bV.B25:List Nat:=[0,1,0,0,8,24,63,127,255]
theorem bV.tab25:gH .any (nY Try.f20 25)=bV.T25:=by kernel_rfl
theorem bV.bits25:kx bV.T25.2 bV.B25=true:=by kernel_rfl
def bV.T27:Bool×List (List Nat×List Nat):=(true,[([],[]),([0],[0]),([],[]),([1,2],[1,2]),([3],[3]),([4],[4]),([],[]),([6],[6]),([7],[7]),([5,8],[5,8]),([1,2,0,1,2,3,4,5,6,7,8,9],[1,2]),([10,0,1,2,3,4,5,6,7,8,9],[10]),([11,9,7,0,1,2,3,4,5,6,7,8,9],[9,11])])
def bV.B27:List Nat:=[0,1,0,7,15,31,0,64,192,511,1023,2047,4095]
theorem bV.tab27:gH .any (nY Try.f20 27)=bV.T27:=by kernel_rfl
theorem bV.bits27:kx bV.T27.2 bV.B27=true:=by kernel_rfl
def bV.T29:Bool×List (List Nat×List Nat):=(true,[([],[]),([0],[0]),([],[]),([],[]),([3],[3]),([1,2,0,1,2,3,4],[1,2]),([5,0,1,2,3,4],[5]),([6,4,4,0,1,2,3,4],[4,6])])
def bV.B29:List Nat:=[0,1,0,0,8,31,63,127]
theorem bV.tab29:gH .any (nY Try.f20 29)=bV.T29:=by kernel_rfl
theorem bV.bits29:kx bV.T29.2 bV.B29=true:=by kernel_rfl
set_option maxHeartbeats 8000000 in
set_option maxRecDepth 100000 in
theorem bV.calls(k:Nat)(g:Nat)(av:List Int)(ci:Int)(eA:Int)(r1:List (a7))(r2:Int)(r3:Int)(w0 w:World)(hI:Y w0 w g av ci eA)(hB:Below w0.heap.size w0 w)(h:bV.f k av ci eA=some (r1,r2,r3)):
 Calls aad 20 #[.pointer (some ⟨g,0,none⟩)] w fun e w'=>∃da:Value,e= .returned (.agg #[da])∧Kd.R b7 65 w' w.heap.size (fun _=>True) da r1∧Y w0 w' g av r2 r3∧Below w0.heap.size w0 w'∧aM w w' g none:=by
 have kJ:=ua;have mA:=aay;have HI0:=Ah hI;have HK:=Ah (aM.refl w g none);have HL:=Ah hB.size;clear hI;have HW0:=Ah hB.size;have HB:=Ah hB;clear hB;have H:((ct.f av ci eA 12).bind fun CL=>(bV.l0 k 0 CL.1 av CL.2.1 CL.2.2 ([]:List (a7))))=some (r1,r2,r3):=h;clear h;replace H:=LT.mp H;obtain⟨⟨a5f,a5g,a5h⟩,fo,H⟩:=H
 try dsimp only at H
 have A2:=Ah fo;clear fo;have H':=Ah H;clear H
 go_enter Try.func20,Try.ntmps20
 go_wp2_with (first|((with_reducible refine ax (N:=2) rfl ?_);refine bA 2 25 #[.slice none 0 0] ?_;intro fg hg w3 ay hb;replace HB:=Ah (aK (bs HB) hb);have cn:=Ah ((by rw[hg];exact(gn (w:=w) (g:=g) (row:=none) (mJ HK)):w.heap.size≤fg));have eC:=Ah ((aax HW0.out (by rw[hg];exact(gn (w:=w) (g:=g) (row:=none) (mJ HK)):w.heap.size≤fg):w0.heap.size≤fg));replace HK:=Ah (aM.trans (mJ HK) (aM.of_below hb g none) (.inl rfl));have cH:=Ah ((by rw[hg];exact aaI (Y.lt (show Y w0 _ g av ci eA from Y.mL HI0)):g≠fg));have ij:=Ah ((by rw[hg];exact aaJ (Y.lt (show Y w0 _ g av ci eA from Y.mL HI0)):fg≠g));replace HI0:=Ah (Y.below (Y.mL HI0) hb);clear hb hg)|((with_reducible refine ax (N:=3) rfl ?_);refine bA 3 25 #[.slice none 0 0] ?_;intro fb hg w4 ag hb;replace HB:=Ah (aK (aH HB eC) hb);have d5:=Ah ((by rw[hg];exact(gn (w:=w) (g:=g) (row:=none) (nI HK cn)):w.heap.size≤fb));have eK:=Ah ((aax HW0.out (by rw[hg];exact(gn (w:=w) (g:=g) (row:=none) (nI HK cn)):w.heap.size≤fb):w0.heap.size≤fb));replace HK:=Ah (aM.trans (nI HK cn) (aM.of_below hb g none) (.inl rfl));have lv:=nn ay hg;have p8:=nm ay hg;replace ay:=nb ay hb;have bv:=Ah ((by rw[hg];exact aaI (Y.lt (show Y w0 _ g av ci eA from Y.iC HI0 cH)):g≠fb));have gN:=Ah ((by rw[hg];exact aaJ (Y.lt (show Y w0 _ g av ci eA from Y.iC HI0 cH)):fb≠g));replace HI0:=Ah (Y.below (Y.iC HI0 cH) hb);clear hb hg;have hnb5:=p8.out;have hnc5:=lv.out;have VE:=gN.out;have VF:=bv.out;have qp:=ap ag;have qq:=an ag)|((with_reducible refine bJ (f:=21) rfl ?_);refine gL (some 12) rfl rfl aar (by kernel_rfl) rfl #[.pointer (some ⟨g,0,none⟩),.int .i64 12] rfl ?_;(with_reducible refine(ct.calls g av ci eA 12 a5f a5g a5h w0 _ ?a8 ?a9 A2.out).mono ?_);(case a8=>exact Y.eE HI0 cH bv);(case a9=>exact aW HB eC eK);rintro e w8 ⟨rfl,hi,hb,hk⟩;refine⟨_,rfl, ?_⟩;replace ay:=Ah (aM.blk hk (g':=fg) (o:= .cells #[.slice none 0 0] 25 (0,0)) (bf ay lv) ij.out (by simp));replace ag:=Ah (aM.blk hk (g':=fb) (o:= .cells #[.slice none 0 0] 25 (0,0)) (by(with_reducible repeat(first|refine aD ?_ _|refine Z ?_|refine aC ?_ _));refine aj (cs:= #[.slice none 0 0]) ?_ 0 _ rfl;(with_reducible repeat(first|refine aD ?_ _|refine Z ?_|refine aC ?_ _));exact ag.out) gN.out (by simp));replace HK:=Ah (aM.trans (hZ HK cn d5) hk (.inl rfl));replace HB:=Ah (hb);replace HI0:=Ah (hi);(try clear hb hk hi)))
 go_loopg [4,5] k (fun kq v4 v5 w'=>∃ (eV:Int) (aA:Int) (mQ:Int) (mR:Int) (aq:List (a7)) (HT:Value),v4= .int .i64 eV∧v5= .int .i64 aA∧U (bV.l0 kq eV aA av mQ mR aq=some (r1,r2,r3))∧U (kq≤k)∧U (Kd.R b7 65 w' w.heap.size (fun _=>True) HT aq)∧U (w'.heap[fg]?=some (.cells #[(.slice none 0 0)] 25 (0,0)))∧U (w'.heap[fb]?=some (.cells #[HT] 25 (0,0)))∧U (Y w0 w' g av mQ mR)∧U (aM w w' g none)∧U (Below w0.heap.size w0 w'))
 case atStart=>exact⟨(0),(a5f),(a5g),(a5h),(([]:List (a7))),(.slice none 0 0),e3,e3,H',⟨bx _⟩,⟨by first|exact Kd.fk _ _ _ _ _|exact Kd.iI _ _ _ _ _|exact Kd.iJ _ _ _ _ _|exact Kd.iG _ _ _ _ _|exact Kd.iH _ _ _ _ _⟩,⟨bk ay⟩,⟨bk ag⟩,⟨Y.eE HI0 cH bv⟩,⟨hZ HK cn d5⟩,⟨aW HB eC eK⟩⟩
 case round=>
  clear H'
  try clear c2
  try clear p2
  try clear c5
  try clear c6
  try clear qp
  try clear qq
  obtain⟨eV,aA,mQ,mR,aq,HT,rfl,rfl,HA,bU,ak,ay,ag,HI0,HK,HB⟩:=hrel
  cases gk with
  |zero=>exact absurd HA.out (by simp[bV.l0])
  |succ k1=>
   have H:=HA.out;clear HA;simp only[bV.l0]at H
   by_cases c9:aA>0
   rotate_left
   ·
    rw[if_neg c9]at H;have u1:decide (0<aA)=false:=decide_eq_false c9;clear c9;have TX:=Ah H;clear H
    go_upto_region 22 with(fail)
    go_cut [80] (fun v80 wc=>∃ (kq:Nat) (MR:Bool) (vw:Int) (vx:Int),v80= .bool MR∧U (bV.j2 kq MR av vw vx aq=some (r1,r2,r3))∧U (kq≤k1)∧U (Kd.R b7 65 wc w.heap.size (fun _=>True) HT aq)∧U (wc.heap[fg]?=some (.cells #[(.slice none 0 0)] 25 (0,0)))∧U (wc.heap[fb]?=some (.cells #[HT] 25 (0,0)))∧U (Y w0 wc g av vw vx)∧U (aM w wc g none)∧U (Below w0.heap.size w0 wc))
    case first=>
     have H:=TX.out;clear TX
     by_cases c203:(aq.length:Int)>0
     rotate_left
     ·
      rw[if_neg c203]at H;have Eo:decide (0<(aq.length:Int))=false:=decide_eq_false c203;have a0s:decide (0<aq.length)=false:=decide_eq_false (by omega);clear c203;(first|rw[Eo]|(simp only[cz,dS];rw[Eo])|(simp only[c203b2,aaz,aaC])|skip);have H':=Ah H;clear H;have hnb210:=p8.out;have hnc210:=lv.out;have hnb211:=gN.out;have hnc211:=bv.out;have hcz212_0:=ap ag;have hfz212_0:=an ag;obtain⟨Ao213,co213,eo213⟩:=Kd.bq ak.out;subst eo213
      go_wp2
      go_meet
      case rel=>exact⟨_,(false),(mQ),(mR),e3,H',⟨by have:=bU.out;first|omega|exact bx _⟩,⟨rr ak.out⟩,⟨bk ay⟩,⟨bk ag⟩,⟨Y.eE HI0 cH bv⟩,⟨hZ HK cn d5⟩,⟨aW HB eC eK⟩⟩
     rw[if_pos c203]at H;have Eo:decide (0<(aq.length:Int))=true:=decide_eq_true c203;have a0s:decide (0<aq.length)=true:=decide_eq_true (by omega);clear c203;(first|rw[Eo]|(simp only[cz,dS];rw[Eo])|(simp only[c203b2,aaz,aaC])|skip);replace H:=LT.mp H;obtain⟨⟨a5i,a5j,a5k⟩,a2j,H⟩:=H
     try dsimp only at H
     have A204:=Ah a2j;clear a2j;have H':=Ah H;clear H;have hnb205:=p8.out;have hnc205:=lv.out;have hnb206:=gN.out;have hnc206:=bv.out;have hcz207_0:=ap ag;have hfz207_0:=an ag;obtain⟨Ao208,co208,eo208⟩:=Kd.bq ak.out;subst eo208
     go_wp2_with (first|(go_at_call 33;(with_reducible refine(mj.calls g av mQ mR 20 a5i a5j a5k w0 _ ?a8 ?a9 A204.out).mono ?_);(case a8=>exact Y.eE HI0 cH bv);(case a9=>exact aW HB eC eK);rintro e w209 ⟨rfl,hi,hb,hk⟩;replace ak:=Ah (Kd.aY (Kd.gO (Y.apart (show Y w0 _ g av mQ mR from Y.eE HI0 cH bv) (rr ak.out) (by decide)) hk (fun _ h=>h.2)) (fun _ h=>h.1));replace ay:=Ah (aM.blk hk (g':=fg) (o:= .cells #[.slice none 0 0] 25 (0,0)) (bk ay) ij.out (by simp));replace ag:=Ah (aM.blk hk (g':=fb) (o:= .cells #[.slice Ao208 aq.length co208] 25 (0,0)) (bk ag) gN.out (by simp));replace HK:=Ah (aM.trans (hZ HK cn d5) hk (.inl rfl));replace HB:=Ah (hb);replace HI0:=Ah (hi);(try clear hb hk hi)))
     go_meet
     case rel=>exact⟨_,(a5i),(a5j),(a5k),e3,H',⟨by have:=bU.out;first|omega|exact bx _⟩,⟨rr ak.out⟩,⟨bk ay⟩,⟨bk ag⟩,⟨Y.eE HI0 cH bv⟩,⟨hZ HK cn d5⟩,⟨aW HB eC eK⟩⟩
    case rest=>
     clear TX
     try clear c1
     try clear c2
     try clear p2
     try clear c4
     try clear c6
     try clear p6
     try clear c7
     try clear c8
     try clear c9
     try clear u1
     try clear c10
     try clear c11
     try clear c12
     try clear jR
     try clear vO
     try clear c13
     try clear c14
     try clear c15
     try clear c16
     try clear c17
     try clear c18
     try clear c19
     try clear c20
     try clear c21
     try clear c41
     try clear nz
     try clear p64
     try clear yB
     try clear TY
     try clear TZ
     try clear mK
     try clear c70
     try clear ka
     try clear c75
     try clear c76
     try clear c77
     try clear c81
     try clear GE
     try clear xt
     try clear xu
     try clear xv
     try clear xw
     try clear xN
     try clear c101
     try clear Fk
     try clear n9
     try clear c107
     try clear xO
     try clear c109
     try clear c119
     try clear c120
     try clear c124
     try clear Ce
     try clear Cf
     try clear c130
     try clear c131
     try clear c132
     try clear c133
     try clear pn
     try clear C6
     try clear SA
     try clear vW
     try clear c139
     try clear c140
     try clear c141
     try clear c142
     try clear c143
     try clear c145
     try clear c146
     try clear c147
     try clear c151
     try clear c152
     try clear c156
     try clear c157
     try clear nA
     try clear c159
     try clear Jq
     try clear c162
     try clear Jr
     try clear c167
     try clear c168
     try clear po
     try clear c173
     try clear xQ
     try clear c175
     try clear c176
     try clear zi
     try clear zj
     try clear tw
     try clear UP
     try clear UQ
     try clear UR
     try clear c189
     try clear c190
     try clear US
     try clear c193
     try clear c194
     try clear c195
     try clear UT
     try clear UU
     try clear c203
     try clear Eo
     try clear a0s
     try clear UV
     try clear c206
     try clear c210
     try clear UW
     try clear hcz103_0
     try clear ur hcz110_1 hcz110_2 hcz110_3
     try clear Ya
     try clear wE
     try clear Yb Yc Yd Ye
     try clear hcz144_0 hcz144_1 hcz144_2 hcz144_3
     try clear Am
     try clear hcz153_0
     try clear hcz154_0 hcz154_1 hcz154_2 hcz154_3
     try clear hcz155_0
     try clear hcz160_0 hcz160_1 hcz160_2 hcz160_3
     try clear hcz164_0
     try clear hcz169_0
     try clear Ao hcz170_1 hcz170_2 hcz170_3
     try clear hcz177_0
     try clear hcz181_0 hcz181_1 hcz181_2 hcz181_3
     try clear hcz186_0
     try clear hcz187_0
     try clear hcz192_0
     try clear hcz196_0 hcz196_1 hcz196_2 hcz196_3
     try clear hcz201_0
     try clear hcz207_0
     try clear hcz212_0
     try clear Rg
     try clear Rb
     try clear ZX ZY ZZ Za
     try clear Rh
     try clear Zb
     try clear uy
     try clear hfz103_0
     try clear us hfz110_1 hfz110_2 hfz110_3
     try clear Yf
     try clear wF
     try clear Yg Yh Yi Yj
     try clear hfz144_0 hfz144_1 hfz144_2 hfz144_3
     try clear An
     try clear hfz153_0
     try clear hfz154_0 hfz154_1 hfz154_2 hfz154_3
     try clear hfz155_0
     try clear hfz160_0 hfz160_1 hfz160_2 hfz160_3
     try clear hfz164_0
     try clear hfz169_0
     try clear Ap hfz170_1 hfz170_2 hfz170_3
     try clear hfz177_0
     try clear hfz181_0 hfz181_1 hfz181_2 hfz181_3
     try clear hfz186_0
     try clear hfz187_0
     try clear hfz192_0
     try clear hfz196_0 hfz196_1 hfz196_2 hfz196_3
     try clear hfz201_0
     try clear hfz207_0
     try clear hfz212_0
     try clear Ri
     try clear Rc
     try clear Zc Zd Ze Zf
     try clear Rj
     try clear Zg
     try clear vB
     try clear p2
     try clear p6
     try clear p64
     obtain⟨kq,MR,vw,vx,rfl,HA,HJ201,ak,ay,ag,HI0,HK,HB⟩:=hcut
     cases kq with
     |zero=>exact absurd HA.out (by simp[bV.j2])
     |succ kj201=>
      have H:=HA.out;clear HA;simp only[bV.j2]at H
      by_cases Cg:MR=true
      rotate_left
      ·
       replace Cg:=dn.mpr Cg;subst Cg;rw[if_neg dV]at H;simp only[j4,ub]at H;obtain⟨rfl,rfl,rfl⟩:=H;have hnb270:=p8.out;have hnc270:=lv.out;have hnb271:=gN.out;have hnc271:=bv.out;have hcz272_0:=ap ag;have hfz272_0:=an ag;obtain⟨a2k,a2l,eo273⟩:=Kd.bq ak.out;subst eo273;have hnb274:=ij.out;have hnc274:=cH.out;have hcz275_0:=ap ay;have hfz275_0:=an ay
       go_wp2
       refine bodyPost_ret (results_cell_row rfl _ _ fg 25 #[.slice a2k aq.length a2l] (0,0) _ rfl (by(with_reducible repeat(first|refine aD ?_ _|refine Z ?_|refine aC ?_ _));refine aj (cs:= #[.slice none 0 0]) ?_ 0 _ rfl;(with_reducible repeat(first|refine aD ?_ _|refine Z ?_|refine aC ?_ _));exact ay.out) ua rfl (by kernel_rfl)) rfl ?_;exact⟨_,er,by(with_reducible repeat(first|apply Kd.bG|apply Kd.bE|apply Kd.al));exact Kd.aY (Kd.aQ (p:=⟨fg,0,none⟩) (Kd.cl ak.out ay.out (by decide)) (fun _ hk=>hk.2) (.slice a2k aq.length a2l)) (fun _ hk=>trivial),Y.eE HI0 cH bv,aW HB eC eK,hZ HK cn d5⟩
      subst Cg;rw[if_pos rfl]at H;replace H:=LT.mp H;obtain⟨⟨bI,xa,xb⟩,a2m,H⟩:=H
      try dsimp only at H
      have VG:=Ah a2m;clear a2m;replace H:=LT.mp H;obtain⟨⟨rR,xc,xd⟩,a2n,H⟩:=H
      try dsimp only at H
      have VH:=Ah a2n;clear a2n
      by_cases D4:rR=0
      ·
       rw[if_pos D4]at H;have c217b0:(rR==0)=true:=beq_iff_eq.mpr D4;have c217b1:(rR !=0)=false:=bne_eq_false_iff_eq.mpr D4;clear D4
       by_cases c218:0≤bI
       rotate_left
       ·
        rw[if_neg c218]at H;exact absurd H (by simp)
       rw[if_pos c218]at H;have c218b0:decide (0≤bI)=true:=decide_eq_true c218;clear c218
       by_cases Ch:bI<(aq.length:Int)
       rotate_left
       ·
        rw[if_neg Ch]at H;exact absurd H (by simp)
       rw[if_pos Ch]at H;have c219b0:decide (bI<(aq.length:Int))=true:=decide_eq_true Ch;clear Ch;replace H:=LT.mp H;obtain⟨⟨sg,VI,VJ⟩,a2o,H⟩:=H
       try dsimp only at H
       have Cl:=Ah a2o;clear a2o;obtain⟨a5l,It⟩:∃y_:List (a7),y_=(aq.set (bI:Int).toNat (⟨(I aq bI).f0,LS (((I aq bI).f1)+(LS (sg-2))),(I aq bI).f2,(I aq bI).f3⟩:a7)):=⟨_,rfl⟩
       replace H:(some (a5l,VI,VJ))=some (r1,r2,r3):=by first|(rw[It];with_reducible exact H)|(have aX:=(Mq _ _).symm.trans H;rw[It];with_reducible exact aX)|(have aX:=(Mq _ _).symm.trans H;with_reducible exact aX)|with_reducible exact H|(rw[It];exact H)|exact H
       have Ny389:=Ah It;clear It;simp only[j4,ub]at H;obtain⟨rfl,rfl,rfl⟩:=H;have hnb222:=p8.out;have hnc222:=lv.out;have hnb223:=gN.out;have hnc223:=bv.out;have hcz224_0:=ap ag;have hfz224_0:=an ag;obtain⟨a2p,zO,eo225⟩:=Kd.bq ak.out;subst eo225
       try go_wp2_with (first|((with_reducible refine bJ (f:=21) rfl ?_);refine gL (some 85) rfl rfl aar (by kernel_rfl) rfl #[.pointer (some ⟨g,0,none⟩),.int .i64 (aq.length:Int)] rfl ?_;(with_reducible refine(ct.calls g av vw vx (aq.length:Int) bI xa xb w0 _ ?a8 ?a9 VG.out).mono ?_);(case a8=>exact Y.eE HI0 cH bv);(case a9=>exact aW HB eC eK);rintro e w226 ⟨rfl,hi,hb,hk⟩;refine⟨_,rfl, ?_⟩;replace ak:=Ah (Kd.aY (Kd.gO (Y.apart (show Y w0 _ g av vw vx from Y.eE HI0 cH bv) (rr ak.out) (by decide)) hk (fun _ h=>h.2)) (fun _ h=>h.1));replace ay:=Ah (aM.blk hk (g':=fg) (o:= .cells #[.slice none 0 0] 25 (0,0)) (bk ay) ij.out (by simp));replace ag:=Ah (aM.blk hk (g':=fb) (o:= .cells #[.slice a2p aq.length zO] 25 (0,0)) (bk ag) gN.out (by simp));replace HK:=Ah (aM.trans (hZ HK cn d5) hk (.inl rfl));replace HB:=Ah (hb);replace HI0:=Ah (hi);(try clear hb hk hi))|((with_reducible refine bJ (f:=21) rfl ?_);refine gL (some 87) rfl rfl aar (by kernel_rfl) rfl #[.pointer (some ⟨g,0,none⟩),.int .i64 3] rfl ?_;(with_reducible refine(ct.calls g av xa xb 3 rR xc xd w0 _ ?a8 ?a9 VH.out).mono ?_);(case a8=>exact Y.eE HI0 cH bv);(case a9=>exact aW HB eC eK);rintro e w227 ⟨rfl,hi,hb,hk⟩;refine⟨_,rfl, ?_⟩;replace ak:=Ah (Kd.aY (Kd.gO (Y.apart (show Y w0 _ g av xa xb from Y.eE HI0 cH bv) (rr ak.out) (by decide)) hk (fun _ h=>h.2)) (fun _ h=>h.1));replace ay:=Ah (aM.blk hk (g':=fg) (o:= .cells #[.slice none 0 0] 25 (0,0)) (bk ay) ij.out (by simp));replace ag:=Ah (aM.blk hk (g':=fb) (o:= .cells #[.slice a2p aq.length zO] 25 (0,0)) (bk ag) gN.out (by simp));replace HK:=Ah (aM.trans (hZ HK cn d5) hk (.inl rfl));replace HB:=Ah (hb);replace HI0:=Ah (hi);(try clear hb hk hi)))
       have aa:=Ah (Kd.al ak.out);have ab:=Ah (Z ay.out);have ac:=Ah (Z ag.out);have ae:=Ah (Y.drew HI0.out);have bK:=Ah (vq HK.out);have bP:=Ah (fO HB.out);clear ak ay ag HI0 HK HB;have ak:=aa;have ay:=ab;have ag:=ac;have HI0:=ae;have HK:=bK;have HB:=bP;clear aa ab ac ae bK bP;have VK:0≤(bI:Int):=od;have VL:bI<(aq.length:Int):=od;obtain⟨xE,e385,Rk,Rl,Rm,Rn⟩:=f6 (Kd.af ak.out).2.2 bI VK VL
       cases e385
       replace VK:=eq_true VK;replace VL:=eq_true VL;refine iY (n:=13) (S:=fun w'=>w'.cell? ⟨fb,0,none⟩=some (.slice (some xE) aq.length zO)∧w'.cell? (xE.add ((bI).toNat*4))=some (.int .i64 ((I aq bI).f0))∧w'.cell? ⟨(xE.add ((bI).toNat*4)).block,(xE.add ((bI).toNat*4)).off+1,none⟩=some (.int .i64 ((I aq bI).f1))∧w'.cell? ⟨(xE.add ((bI).toNat*4)).block,(xE.add ((bI).toNat*4)).off+2,none⟩=some (.int .i64 ((I aq bI).f2))∧w'.cell? ⟨(xE.add ((bI).toNat*4)).block,(xE.add ((bI).toNat*4)).off+3,none⟩=some (.bool ((I aq bI).f3))) (ds:=[12]) #[false,false,false,false,false,false,false,false,false,false,false,false,false] (by kernel_rfl) rfl rfl ⟨(bC ag.out 0).trans rfl,Rk,Rl,Rm,Rn⟩ (fun hHeld=> ?_);refine ig bV.tab27 bV.bits27 (fun X cV=> ?_)
       generalize w227.drew=w228 at ak ay ag HI0 HK HB Rk Rl Rm Rn hHeld⊢
       refine aN 0 98 X.out ?_;refine aN 2 100 X.out ?_;refine aN 6 104 X.out ?_;refine eF 1 99 X.out cV.out hHeld (hr:=by rintro w' ⟨s0,s1,s2,s3,s4⟩;go_simp;with_reducible rfl) (h:= ?_);refine aN 3 101 X.out ?_;refine aN 4 102 X.out ?_;refine eF 5 103 X.out cV.out hHeld (hr:=by rintro w' ⟨s0,s1,s2,s3,s4⟩;go_simp;with_reducible rfl) (h:= ?_);refine ga (i:=7) (N:=some 105) #[true,true,true,true,true,true,true,true,false,false,false,false,false] rfl rfl (fy X.out (by kernel_rfl)) (by decide) (fun K hK=> ?_);refine il Try.func21 (by kernel_rfl) rfl #[.pointer (some ⟨g,0,none⟩),.int .i64 5] (by rfl) rfl rfl (by(try simp only[List.map_toArray,List.map_cons,List.map_nil]);first|done|rfl|(simp only[List.length_drop,List.length_take];rfl)) ?_
       with_reducible refine(ct.calls g av xc xd 5 sg VI VJ w0 _ ?a8 ?a9 Cl.out).mono ?_
       (case a8=>exact Y.eE HI0 cH bv);(case a9=>exact aW HB eC eK);rintro e D5 ⟨rfl,hi,hb,hk⟩;have xe:=o4 hk (hHeld.2.1) (by first|(rw[cf];exact Kd.b9 (Y.own_ne HI0.out ak.out (by decide)))|(show(Addr.add _ _).block≠_;rw[cf];exact Kd.b9 (Y.own_ne HI0.out ak.out (by decide)))|exact Kd.b9 (Y.own_ne HI0.out ak.out (by decide)));have xf:=o4 hk (hHeld.2.2.1) (by first|(rw[cf];exact Kd.b9 (Y.own_ne HI0.out ak.out (by decide)))|(show(Addr.add _ _).block≠_;rw[cf];exact Kd.b9 (Y.own_ne HI0.out ak.out (by decide)))|exact Kd.b9 (Y.own_ne HI0.out ak.out (by decide)));have xg:=o4 hk (hHeld.2.2.2.1) (by first|(rw[cf];exact Kd.b9 (Y.own_ne HI0.out ak.out (by decide)))|(show(Addr.add _ _).block≠_;rw[cf];exact Kd.b9 (Y.own_ne HI0.out ak.out (by decide)))|exact Kd.b9 (Y.own_ne HI0.out ak.out (by decide)));have rN:=o4 hk (hHeld.2.2.2.2) (by first|(rw[cf];exact Kd.b9 (Y.own_ne HI0.out ak.out (by decide)))|(show(Addr.add _ _).block≠_;rw[cf];exact Kd.b9 (Y.own_ne HI0.out ak.out (by decide)))|exact Kd.b9 (Y.own_ne HI0.out ak.out (by decide)));refine⟨_,rfl, ?_⟩;have aa:=Ah (Kd.aY (Kd.gO (Y.apart (show Y w0 _ g av xc xd from Y.eE HI0 cH bv) (rr ak.out) (by decide)) hk (fun _ h=>h.2)) (fun _ h=>h.1));have ab:=Ah (aM.blk hk (g':=fg) (o:= .cells #[.slice none 0 0] 25 (0,0)) (bk ay) ij.out (by simp));have ac:=Ah (aM.blk hk (g':=fb) (o:= .cells #[.slice (some xE) aq.length zO] 25 (0,0)) (bk ag) gN.out (by simp));have ae:=Ah (aM.trans (hZ HK cn d5) hk (.inl rfl));have bK:=Ah (hb);have bP:=Ah (hi);clear ak ay ag HK HB HI0;have ak:=aa;have ay:=ab;have ag:=ac;have HK:=ae;have HB:=bK;have HI0:=bP;clear aa ab ac ae bK bP;(try clear hb);(try clear hb2);(try clear hk);(try clear hi);have VM:0≤(bI:Int):=od;have VN:(bI:Int)<((aq.length:Int):Int):=od;obtain⟨la,co221,a2q,a2r,gl221,cl221,a2s⟩:=Kd.nW ak.out (by omega);(first|cases a2q|(injection a2q with dB iV iW;(first|subst dB|(injection dB with dB;subst dB));subst iW;clear iV));have a2t:=Ah a2r;have GG221:=Ah a2s;clear a2r gl221 a2s;(first|simp only[db]at Rk|skip);(first|simp only[db]at Rl|skip);(first|simp only[db]at Rm|skip);(first|simp only[db]at Rn|skip);obtain⟨ce221,hcl221,a2u,Hk,Hl⟩:=Kd.hJ ak.out rW (bI:Int) VM VN;obtain rfl:=uf a2u;have hx221_0:aaH _ ⟨la,(bI:Int).toNat*4,none⟩=some (.int .i64 ((I aq bI).f0)):=Hk 0 _ rfl;have hx221_1:aaH _ ⟨la,(bI:Int).toNat*4+1,none⟩=some (.int .i64 ((I aq bI).f1)):=Hk 1 _ rfl;have hx221_2:aaH _ ⟨la,(bI:Int).toNat*4+2,none⟩=some (.int .i64 ((I aq bI).f2)):=Hk 2 _ rfl;have hx221_3:aaH _ ⟨la,(bI:Int).toNat*4+3,none⟩=some (.bool ((I aq bI).f3)):=Hk 3 _ rfl;have hf221_0:aaL _ ⟨la,(bI:Int).toNat*4,none⟩=false:=Hl 0;have hf221_1:aaL _ ⟨la,(bI:Int).toNat*4+1,none⟩=false:=Hl 1;have hf221_2:aaL _ ⟨la,(bI:Int).toNat*4+2,none⟩=false:=Hl 2;have hf221_3:aaL _ ⟨la,(bI:Int).toNat*4+3,none⟩=false:=Hl 3;clear hcl221 Hk Hl a2u;replace VM:=eq_true VM;replace VN:=eq_true VN;have HN0_go221:=Ah (show g≠la from by have h_:=Y.own_ne HI0.out ak.out (by decide);intro e_;exact h_ (by rw[e_];rfl));obtain⟨ce230,a0t,a2v,a0u,hfr230⟩:=Kd.hJ ak.out rW (bI:Int) (od) (by have h_:(bI:Int)<((aq.length:Int):Int):=od;first|exact h_|(have e_:=(Kd.af ak.out).1;omega)|simpa using h_);obtain rfl:=uf a2v;have Ta:=(Kd.lT ak.out (bI:Int) (od) (by have h_:(bI:Int)<((aq.length:Int):Int):=od;first|exact h_|(have e_:=(Kd.af ak.out).1;omega)|simpa using h_) (seg:=[.int .i64 (LS (((I aq bI).f1)+(LS (sg-2))))]) (j:=1) a0t a0u (show 2≤4 from by decide) (x':=(⟨(I aq bI).f0,LS (((I aq bI).f1)+(LS (sg-2))),(I aq bI).f2,(I aq bI).f3⟩:a7)) (jp _ _ _ (⟨(I aq bI).f0,LS (((I aq bI).f1)+(LS (sg-2))),(I aq bI).f2,(I aq bI).f3⟩:a7)) (fun _ hk=>hk)).1;rw[←Ny389.out]at Ta;have a2w:=Ah Ta;clear a0t a0u hfr230 a2v Ta;refine hK.out _ _ ⟨(bC ag.out 0).trans rfl,xe,xf,xg,rN⟩ (fun hHeld=> ?_);clear hK K;refine hU (a':= ?_) ?_ ?_;rotate_left
       ·
        show aab _ (some 105) _=_
        simp only[aab,Ok,bY,dl,cz,dS]
        rfl
       refine aN 8 106 X.out ?_;refine aN 9 107 X.out ?_;refine aN 10 108 X.out ?_;refine aN 11 109 X.out ?_;refine Hy (i:=12) (N:=none) #[true,true,true,true,true,true,true,true,true,true,true,true,true] rfl rfl (fy X.out (by kernel_rfl)) (by decide) (fun K hK=> ?_);refine oG (w1:= ?_) (by rfl) rfl ?_ ?_;rotate_left
       ·
        go_simp
        rfl
       refine hK.out _ _ ?_;clear hK K;refine i9 (iD X.out (by kernel_rfl)) ?_;have aa:U (Kd.R b7 65 (D5.setCell ⟨la,(bI:Int).toNat*4+1,none⟩ (.int .i64 (LS (((I aq bI).f1)+(LS (sg-2)))))) w.heap.size (fun _=>True) (.slice (some ⟨la,0,none⟩) aq.length zO) a5l):=⟨(by first|exact rr a2w.out|exact a2w.out)⟩;have ab:U ((D5.setCell ⟨la,(bI:Int).toNat*4+1,none⟩ (.int .i64 (LS (((I aq bI).f1)+(LS (sg-2)))))).heap[fg]?=some (.cells #[.slice none 0 0] 25 (0,0))):=⟨by(with_reducible repeat(first|refine aD ?_ _|refine Z ?_|refine aC ?_ _));refine gc ?_ (by have h_:=Kd.eD ak.out ay.out (by decide);intro e_;exact h_ (by rw[e_];rfl)) _;(with_reducible repeat(first|refine aD ?_ _|refine Z ?_|refine aC ?_ _));exact ay.out⟩;have ac:U ((D5.setCell ⟨la,(bI:Int).toNat*4+1,none⟩ (.int .i64 (LS (((I aq bI).f1)+(LS (sg-2)))))).heap[fb]?=some (.cells #[.slice (some ⟨la,0,none⟩) aq.length zO] 25 (0,0))):=⟨by(with_reducible repeat(first|refine aD ?_ _|refine Z ?_|refine aC ?_ _));refine gc ?_ (by have h_:=Kd.eD ak.out ag.out (by decide);intro e_;exact h_ (by rw[e_];rfl)) _;(with_reducible repeat(first|refine aD ?_ _|refine Z ?_|refine aC ?_ _));exact ag.out⟩;have ae:U (Y w0 (D5.setCell ⟨la,(bI:Int).toNat*4+1,none⟩ (.int .i64 (LS (((I aq bI).f1)+(LS (sg-2)))))) g av VI VJ):=⟨Y.iQ HI0 HN0_go221 cH bv⟩;have bK:U (aM w (D5.setCell ⟨la,(bI:Int).toNat*4+1,none⟩ (.int .i64 (LS (((I aq bI).f1)+(LS (sg-2)))))) g none):=⟨oZ HK a2t cn d5⟩;have bP:U (Below w0.heap.size w0 (D5.setCell ⟨la,(bI:Int).toNat*4+1,none⟩ (.int .i64 (LS (((I aq bI).f1)+(LS (sg-2))))))):=⟨by repeat(first|(with_reducible first|exact HB.out|apply jH|apply k5|apply fO|refine cF ?_ (aax HL.out a2t.out)|refine cF ?_ (Y.ge HI0.out)|refine cF ?_ eC.out|refine cF ?_ eK.out)|exact HB.out)⟩;(try clear ak);(try clear ay);(try clear ag);(try clear HI0);(try clear HK);(try clear HB)
       generalize (D5.setCell ⟨la,(bI:Int).toNat*4+1,none⟩ (.int .i64 (LS (((I aq bI).f1)+(LS (sg-2))))))=w231 at aa ab ac ae bK bP⊢
       have ak:=aa;have ay:=ab;have ag:=ac;have HI0:=ae;have HK:=bK;have HB:=bP;clear aa ab ac ae bK bP;have hcz232_0:=ap ag;have hfz232_0:=an ag;have hnb233:=ij.out;have hnc233:=cH.out;have hcz234_0:=ap ay;have hfz234_0:=an ay
       try go_wp2
       refine bodyPost_ret (results_cell_row rfl _ _ fg 25 #[.slice (some ⟨la,0,none⟩) aq.length zO] (0,0) _ rfl (by(with_reducible repeat(first|refine aD ?_ _|refine Z ?_|refine aC ?_ _));refine aj (cs:= #[.slice none 0 0]) ?_ 0 _ rfl;(with_reducible repeat(first|refine aD ?_ _|refine Z ?_|refine aC ?_ _));exact ay.out) ua rfl (by kernel_rfl)) rfl ?_;exact⟨_,er,by(with_reducible repeat(first|apply Kd.bG|apply Kd.bE|apply Kd.al));exact Kd.aY (Kd.aQ (p:=⟨fg,0,none⟩) (Kd.cl ak.out ay.out (by decide)) (fun _ hk=>hk.2) (.slice (some ⟨la,0,none⟩) aq.length zO)) (fun _ hk=>trivial),Y.eE HI0 cH bv,aW HB eC eK,hZ HK cn d5⟩
      rw[if_neg D4]at H;have c217b0:(rR==0)=false:=beq_eq_false_iff_ne.mpr D4;have c217b1:(rR !=0)=true:=bne_iff_ne.mpr D4
      by_cases D6:rR=1
      ·
       rw[if_pos D6]at H;have c235b0:(rR==1)=true:=beq_iff_eq.mpr D6;have c235b1:(rR !=1)=false:=bne_eq_false_iff_eq.mpr D6;clear D6;replace H:=LT.mp H;obtain⟨⟨sh,VO,VP⟩,a2x,H⟩:=H
       try dsimp only at H
       have A236:=Ah a2x;clear a2x
       by_cases Ci:0≤bI
       rotate_left
       ·
        rw[if_neg Ci]at H;exact absurd H (by simp)
       rw[if_pos Ci]at H;have c237b0:decide (0≤bI)=true:=decide_eq_true Ci;clear Ci
       by_cases Cj:bI<(aq.length:Int)
       rotate_left
       ·
        rw[if_neg Cj]at H;exact absurd H (by simp)
       rw[if_pos Cj]at H;have c238b0:decide (bI<(aq.length:Int))=true:=decide_eq_true Cj;clear Cj;obtain⟨a5m,Iu⟩:∃y_:List (a7),y_=(aq.set (bI:Int).toNat (⟨(I aq bI).f0,(I aq bI).f1,sh,(I aq bI).f3⟩:a7)):=⟨_,rfl⟩
       replace H:(some (a5m,VO,VP))=some (r1,r2,r3):=by first|(rw[Iu];with_reducible exact H)|(have aX:=(Mq _ _).symm.trans H;rw[Iu];with_reducible exact aX)|(have aX:=(Mq _ _).symm.trans H;with_reducible exact aX)|with_reducible exact H|(rw[Iu];exact H)|exact H
       have Ny393:=Ah Iu;clear Iu;simp only[j4,ub]at H;obtain⟨rfl,rfl,rfl⟩:=H;have hnb240:=p8.out;have hnc240:=lv.out;have hnb241:=gN.out;have hnc241:=bv.out;have Qi:=ap ag;have Qj:=an ag;obtain⟨Ns,zP,eo243⟩:=Kd.bq ak.out;subst eo243
       try go_wp2_with (first|((with_reducible refine bJ (f:=21) rfl ?_);refine gL (some 85) rfl rfl aar (by kernel_rfl) rfl #[.pointer (some ⟨g,0,none⟩),.int .i64 (aq.length:Int)] rfl ?_;(with_reducible refine(ct.calls g av vw vx (aq.length:Int) bI xa xb w0 _ ?a8 ?a9 VG.out).mono ?_);(case a8=>exact Y.eE HI0 cH bv);(case a9=>exact aW HB eC eK);rintro e w244 ⟨rfl,hi,hb,hk⟩;refine⟨_,rfl, ?_⟩;replace ak:=Ah (Kd.aY (Kd.gO (Y.apart (show Y w0 _ g av vw vx from Y.eE HI0 cH bv) (rr ak.out) (by decide)) hk (fun _ h=>h.2)) (fun _ h=>h.1));replace ay:=Ah (aM.blk hk (g':=fg) (o:= .cells #[.slice none 0 0] 25 (0,0)) (bk ay) ij.out (by simp));replace ag:=Ah (aM.blk hk (g':=fb) (o:= .cells #[.slice Ns aq.length zP] 25 (0,0)) (bk ag) gN.out (by simp));replace HK:=Ah (aM.trans (hZ HK cn d5) hk (.inl rfl));replace HB:=Ah (hb);replace HI0:=Ah (hi);(try clear hb hk hi))|((with_reducible refine bJ (f:=21) rfl ?_);refine gL (some 87) rfl rfl aar (by kernel_rfl) rfl #[.pointer (some ⟨g,0,none⟩),.int .i64 3] rfl ?_;(with_reducible refine(ct.calls g av xa xb 3 rR xc xd w0 _ ?a8 ?a9 VH.out).mono ?_);(case a8=>exact Y.eE HI0 cH bv);(case a9=>exact aW HB eC eK);rintro e w245 ⟨rfl,hi,hb,hk⟩;refine⟨_,rfl, ?_⟩;replace ak:=Ah (Kd.aY (Kd.gO (Y.apart (show Y w0 _ g av xa xb from Y.eE HI0 cH bv) (rr ak.out) (by decide)) hk (fun _ h=>h.2)) (fun _ h=>h.1));replace ay:=Ah (aM.blk hk (g':=fg) (o:= .cells #[.slice none 0 0] 25 (0,0)) (bk ay) ij.out (by simp));replace ag:=Ah (aM.blk hk (g':=fb) (o:= .cells #[.slice Ns aq.length zP] 25 (0,0)) (bk ag) gN.out (by simp));replace HK:=Ah (aM.trans (hZ HK cn d5) hk (.inl rfl));replace HB:=Ah (hb);replace HI0:=Ah (hi);(try clear hb hk hi)))
       have aa:=Ah (Kd.al ak.out);have ab:=Ah (Z ay.out);have ac:=Ah (Z ag.out);have ae:=Ah (Y.drew HI0.out);have bK:=Ah (vq HK.out);have bP:=Ah (fO HB.out);clear ak ay ag HI0 HK HB;have ak:=aa;have ay:=ab;have ag:=ac;have HI0:=ae;have HK:=bK;have HB:=bP;clear aa ab ac ae bK bP;refine iY (n:=8) (S:=fun w'=>w'.cell? ⟨fb,0,none⟩=some (.slice Ns aq.length zP)) (ds:=[7]) #[false,false,false,false,false,false,false,false] (by kernel_rfl) rfl rfl ((bC ag.out 0).trans rfl) (fun hHeld=> ?_);refine ig bV.tab29 bV.bits29 (fun X cV=> ?_)
       generalize w245.drew=w246 at ak ay ag HI0 HK HB hHeld⊢
       refine aN 0 112 X.out ?_;refine aN 2 114 X.out ?_;refine aN 3 115 X.out ?_;refine sH (i:=1) (N:=some 113) (v:= ?_) (a':= ?_) #[true,true,true,true,false,false,false,false] rfl rfl (wD X.out cV.out (by kernel_rfl)) (fun _ _ _ h=>h) (Or.inl ⟨by rfl, ?_⟩) hHeld ?_ ?_;rotate_left
       ·
        intro w' s0
        go_simp
        with_reducible rfl
       rotate_left
       ·
        simp only[aab,Ok,bY,dl,cz,dS]
        rfl
       refine ga (i:=4) (N:=some 116) #[true,true,true,true,true,false,false,false] rfl rfl (fy X.out (by kernel_rfl)) (by decide) (fun K hK=> ?_);refine il aar (by kernel_rfl) rfl #[.pointer (some ⟨g,0,none⟩),.int .i64 9] (by rfl) rfl rfl (by(try simp only[aag,aan,aas]);first|done|rfl|(simp only[gy,ao];rfl)) ?_
       with_reducible refine(ct.calls g av xc xd 9 sh VO VP w0 _ ?a8 ?a9 A236.out).mono ?_
       (case a8=>exact Y.eE HI0 cH bv);(case a9=>exact aW HB eC eK);rintro e D7 ⟨rfl,hi,hb,hk⟩;refine⟨_,rfl, ?_⟩;have aa:=Ah (Kd.aY (Kd.gO (Y.apart (show Y w0 _ g av xc xd from Y.eE HI0 cH bv) (rr ak.out) (by decide)) hk (fun _ h=>h.2)) (fun _ h=>h.1));have ab:=Ah (aM.blk hk (g':=fg) (o:= .cells #[.slice none 0 0] 25 (0,0)) (bk ay) ij.out (by simp));have ac:=Ah (aM.blk hk (g':=fb) (o:= .cells #[.slice Ns aq.length zP] 25 (0,0)) (bk ag) gN.out (by simp));have ae:=Ah (aM.trans (hZ HK cn d5) hk (.inl rfl));have bK:=Ah (hb);have bP:=Ah (hi);clear ak ay ag HK HB HI0;have ak:=aa;have ay:=ab;have ag:=ac;have HK:=ae;have HB:=bK;have HI0:=bP;clear aa ab ac ae bK bP;(try clear hb);(try clear hb2);(try clear hk);(try clear hi);have VQ:0≤(bI:Int):=od;have VR:(bI:Int)<((aq.length:Int):Int):=od;obtain⟨lc,co239,a2y,a2z,gl239,cl239,a2A⟩:=Kd.nW ak.out (by omega);(first|cases a2y|(injection a2y with dB iV iW;(first|subst dB|(injection dB with dB;subst dB));subst iW;clear iV));have a2B:=Ah a2z;have GG239:=Ah a2A;clear a2z gl239 a2A;obtain⟨ce239,hcl239,a2C,Hm,Hn⟩:=Kd.hJ ak.out rW (bI:Int) VQ VR;obtain rfl:=uf a2C;have hx239_0:aaH _ ⟨lc,(bI:Int).toNat*4,none⟩=some (.int .i64 ((I aq bI).f0)):=Hm 0 _ rfl;have hx239_1:aaH _ ⟨lc,(bI:Int).toNat*4+1,none⟩=some (.int .i64 ((I aq bI).f1)):=Hm 1 _ rfl;have hx239_2:aaH _ ⟨lc,(bI:Int).toNat*4+2,none⟩=some (.int .i64 ((I aq bI).f2)):=Hm 2 _ rfl;have hx239_3:aaH _ ⟨lc,(bI:Int).toNat*4+3,none⟩=some (.bool ((I aq bI).f3)):=Hm 3 _ rfl;have hf239_0:aaL _ ⟨lc,(bI:Int).toNat*4,none⟩=false:=Hn 0;have hf239_1:aaL _ ⟨lc,(bI:Int).toNat*4+1,none⟩=false:=Hn 1;have hf239_2:aaL _ ⟨lc,(bI:Int).toNat*4+2,none⟩=false:=Hn 2;have hf239_3:aaL _ ⟨lc,(bI:Int).toNat*4+3,none⟩=false:=Hn 3;clear hcl239 Hm Hn a2C;replace VQ:=eq_true VQ;replace VR:=eq_true VR;have HN0_go239:=Ah (show g≠lc from by have h_:=Y.own_ne HI0.out ak.out (by decide);intro e_;exact h_ (by rw[e_];rfl));obtain⟨ce248,a0v,a2D,a0w,hfr248⟩:=Kd.hJ ak.out rW (bI:Int) (od) (by have h_:(bI:Int)<((aq.length:Int):Int):=od;first|exact h_|(have e_:=(Kd.af ak.out).1;omega)|simpa using h_);obtain rfl:=uf a2D;have Tb:=(Kd.lT ak.out (bI:Int) (od) (by have h_:(bI:Int)<((aq.length:Int):Int):=od;first|exact h_|(have e_:=(Kd.af ak.out).1;omega)|simpa using h_) (seg:=[.int .i64 sh]) (j:=2) a0v a0w (show 3≤4 from by decide) (x':=(⟨(I aq bI).f0,(I aq bI).f1,sh,(I aq bI).f3⟩:a7)) (jp _ _ _ (⟨(I aq bI).f0,(I aq bI).f1,sh,(I aq bI).f3⟩:a7)) (fun _ hk=>hk)).1;rw[←Ny393.out]at Tb;have a2E:=Ah Tb;clear a0v a0w hfr248 a2D Tb;refine hK.out _ _ ((bC ag.out 0).trans rfl) (fun hHeld=> ?_);clear hK K;refine hU (a':= ?_) ?_ ?_;rotate_left
       ·
        show aab _ (some 116) _=_
        simp only[aab,Ok,bY,dl,cz,dS]
        rfl
       refine aN 5 117 X.out ?_;refine aN 6 118 X.out ?_;refine Hy (i:=7) (N:=none) #[true,true,true,true,true,true,true,true] rfl rfl (fy X.out (by kernel_rfl)) (by decide) (fun K hK=> ?_);refine oG (w1:= ?_) (by rfl) rfl ?_ ?_;rotate_left
       ·
        go_simp
        rfl
       refine hK.out _ _ ?_;clear hK K;refine i9 (iD X.out (by kernel_rfl)) ?_;have aa:U (Kd.R b7 65 (D7.setCell ⟨lc,(bI:Int).toNat*4+2,none⟩ (.int .i64 sh)) w.heap.size (fun _=>True) (.slice (some ⟨lc,0,none⟩) aq.length zP) a5m):=⟨(by first|exact rr a2E.out|exact a2E.out)⟩;have ab:U ((D7.setCell ⟨lc,(bI:Int).toNat*4+2,none⟩ (.int .i64 sh)).heap[fg]?=some (.cells #[.slice none 0 0] 25 (0,0))):=⟨by(with_reducible repeat(first|refine aD ?_ _|refine Z ?_|refine aC ?_ _));refine gc ?_ (by have h_:=Kd.eD ak.out ay.out (by decide);intro e_;exact h_ (by rw[e_];rfl)) _;(with_reducible repeat(first|refine aD ?_ _|refine Z ?_|refine aC ?_ _));exact ay.out⟩;have ac:U ((D7.setCell ⟨lc,(bI:Int).toNat*4+2,none⟩ (.int .i64 sh)).heap[fb]?=some (.cells #[.slice (some ⟨lc,0,none⟩) aq.length zP] 25 (0,0))):=⟨by(with_reducible repeat(first|refine aD ?_ _|refine Z ?_|refine aC ?_ _));refine gc ?_ (by have h_:=Kd.eD ak.out ag.out (by decide);intro e_;exact h_ (by rw[e_];rfl)) _;(with_reducible repeat(first|refine aD ?_ _|refine Z ?_|refine aC ?_ _));exact ag.out⟩;have ae:U (Y w0 (D7.setCell ⟨lc,(bI:Int).toNat*4+2,none⟩ (.int .i64 sh)) g av VO VP):=⟨Y.iQ HI0 HN0_go239 cH bv⟩;have bK:U (aM w (D7.setCell ⟨lc,(bI:Int).toNat*4+2,none⟩ (.int .i64 sh)) g none):=⟨oZ HK a2B cn d5⟩;have bP:U (Below w0.heap.size w0 (D7.setCell ⟨lc,(bI:Int).toNat*4+2,none⟩ (.int .i64 sh))):=⟨by repeat(first|(with_reducible first|exact HB.out|apply jH|apply k5|apply fO|refine cF ?_ (aax HL.out a2B.out)|refine cF ?_ (Y.ge HI0.out)|refine cF ?_ eC.out|refine cF ?_ eK.out)|exact HB.out)⟩;(try clear ak);(try clear ay);(try clear ag);(try clear HI0);(try clear HK);(try clear HB)
       generalize (D7.setCell ⟨lc,(bI:Int).toNat*4+2,none⟩ (.int .i64 sh))=w249 at aa ab ac ae bK bP⊢
       have ak:=aa;have ay:=ab;have ag:=ac;have HI0:=ae;have HK:=bK;have HB:=bP;clear aa ab ac ae bK bP;have hcz250_0:=ap ag;have hfz250_0:=an ag;have hnb251:=ij.out;have hnc251:=cH.out;have hcz252_0:=ap ay;have hfz252_0:=an ay
       try go_wp2
       refine bodyPost_ret (results_cell_row rfl _ _ fg 25 #[.slice (some ⟨lc,0,none⟩) aq.length zP] (0,0) _ rfl (by(with_reducible repeat(first|refine aD ?_ _|refine Z ?_|refine aC ?_ _));refine aj (cs:= #[.slice none 0 0]) ?_ 0 _ rfl;(with_reducible repeat(first|refine aD ?_ _|refine Z ?_|refine aC ?_ _));exact ay.out) ua rfl (by kernel_rfl)) rfl ?_;exact⟨_,er,by(with_reducible repeat(first|apply Kd.bG|apply Kd.bE|apply Kd.al));exact Kd.aY (Kd.aQ (p:=⟨fg,0,none⟩) (Kd.cl ak.out ay.out (by decide)) (fun _ hk=>hk.2) (.slice (some ⟨lc,0,none⟩) aq.length zP)) (fun _ hk=>trivial),Y.eE HI0 cH bv,aW HB eC eK,hZ HK cn d5⟩
      rw[if_neg D6]at H;have c235b0:(rR==1)=false:=beq_eq_false_iff_ne.mpr D6;have c235b1:(rR !=1)=true:=bne_iff_ne.mpr D6;replace H:=LT.mp H;obtain⟨⟨si,VS,VT⟩,a2F,H⟩:=H
      try dsimp only at H
      have A253:=Ah a2F;clear a2F
      by_cases Ck:0≤bI
      rotate_left
      ·
       rw[if_neg Ck]at H;exact absurd H (by simp)
      rw[if_pos Ck]at H;have c254b0:decide (0≤bI)=true:=decide_eq_true Ck;clear Ck
      by_cases Ow:bI<(aq.length:Int)
      rotate_left
      ·
       rw[if_neg Ow]at H;exact absurd H (by simp)
      rw[if_pos Ow]at H;have c255b0:decide (bI<(aq.length:Int))=true:=decide_eq_true Ow;clear Ow;obtain⟨a5n,Iv⟩:∃y_:List (a7),y_=(aq.set (bI:Int).toNat (⟨LS (si-1),(I aq bI).f1,(I aq bI).f2,(I aq bI).f3⟩:a7)):=⟨_,rfl⟩
      replace H:(some (a5n,VS,VT))=some (r1,r2,r3):=by first|(rw[Iv];with_reducible exact H)|(have aX:=(Mq _ _).symm.trans H;rw[Iv];with_reducible exact aX)|(have aX:=(Mq _ _).symm.trans H;with_reducible exact aX)|with_reducible exact H|(rw[Iv];exact H)|exact H
      have Ny397:=Ah Iv;clear Iv;simp only[j4,ub]at H;obtain⟨rfl,rfl,rfl⟩:=H;have hnb257:=p8.out;have hnc257:=lv.out;have hnb258:=gN.out;have hnc258:=bv.out;have hcz259_0:=ap ag;have hfz259_0:=an ag;obtain⟨Nt,zQ,eo260⟩:=Kd.bq ak.out;subst eo260
      try go_wp2_with (first|((with_reducible refine bJ (f:=21) rfl ?_);refine gL (some 85) rfl rfl aar (by kernel_rfl) rfl #[.pointer (some ⟨g,0,none⟩),.int .i64 (aq.length:Int)] rfl ?_;(with_reducible refine(ct.calls g av vw vx (aq.length:Int) bI xa xb w0 _ ?a8 ?a9 VG.out).mono ?_);(case a8=>exact Y.eE HI0 cH bv);(case a9=>exact aW HB eC eK);rintro e w261 ⟨rfl,hi,hb,hk⟩;refine⟨_,rfl, ?_⟩;replace ak:=Ah (Kd.aY (Kd.gO (Y.apart (show Y w0 _ g av vw vx from Y.eE HI0 cH bv) (rr ak.out) (by decide)) hk (fun _ h=>h.2)) (fun _ h=>h.1));replace ay:=Ah (aM.blk hk (g':=fg) (o:= .cells #[.slice none 0 0] 25 (0,0)) (bk ay) ij.out (by simp));replace ag:=Ah (aM.blk hk (g':=fb) (o:= .cells #[.slice Nt aq.length zQ] 25 (0,0)) (bk ag) gN.out (by simp));replace HK:=Ah (aM.trans (hZ HK cn d5) hk (.inl rfl));replace HB:=Ah (hb);replace HI0:=Ah (hi);(try clear hb hk hi))|((with_reducible refine bJ (f:=21) rfl ?_);refine gL (some 87) rfl rfl aar (by kernel_rfl) rfl #[.pointer (some ⟨g,0,none⟩),.int .i64 3] rfl ?_;(with_reducible refine(ct.calls g av xa xb 3 rR xc xd w0 _ ?a8 ?a9 VH.out).mono ?_);(case a8=>exact Y.eE HI0 cH bv);(case a9=>exact aW HB eC eK);rintro e a3J ⟨rfl,hi,hb,hk⟩;refine⟨_,rfl, ?_⟩;replace ak:=Ah (Kd.aY (Kd.gO (Y.apart (show Y w0 _ g av xa xb from Y.eE HI0 cH bv) (rr ak.out) (by decide)) hk (fun _ h=>h.2)) (fun _ h=>h.1));replace ay:=Ah (aM.blk hk (g':=fg) (o:= .cells #[.slice none 0 0] 25 (0,0)) (bk ay) ij.out (by simp));replace ag:=Ah (aM.blk hk (g':=fb) (o:= .cells #[.slice Nt aq.length zQ] 25 (0,0)) (bk ag) gN.out (by simp));replace HK:=Ah (aM.trans (hZ HK cn d5) hk (.inl rfl));replace HB:=Ah (hb);replace HI0:=Ah (hi);(try clear hb hk hi)))
      have aa:=Ah (Kd.al ak.out);have ab:=Ah (Z ay.out);have ac:=Ah (Z ag.out);have ae:=Ah (Y.drew HI0.out);have bK:=Ah (vq HK.out);have bP:=Ah (fO HB.out);clear ak ay ag HI0 HK HB;have ak:=aa;have ay:=ab;have ag:=ac;have HI0:=ae;have HK:=bK;have HB:=bP;clear aa ab ac ae bK bP;refine iY (n:=9) (S:=fun w'=>w'.cell? ⟨fb,0,none⟩=some (.slice Nt aq.length zQ)) (ds:=[8]) #[false,false,false,false,false,false,false,false,false] (by kernel_rfl) rfl rfl ((bC ag.out 0).trans rfl) (fun hHeld=> ?_);refine ig bV.tab25 bV.bits25 (fun X cV=> ?_)
      generalize a3J.drew=w263 at ak ay ag HI0 HK HB hHeld⊢
      refine aN 0 88 X.out ?_;refine aN 2 90 X.out ?_;refine aN 3 91 X.out ?_;refine sH (i:=1) (N:=some 89) (v:= ?_) (a':= ?_) #[true,true,true,true,false,false,false,false,false] rfl rfl (wD X.out cV.out (by kernel_rfl)) (fun _ _ _ h=>h) (Or.inl ⟨by rfl, ?_⟩) hHeld ?_ ?_;rotate_left
      ·
       intro w' s0
       go_simp
       with_reducible rfl
      rotate_left
      ·
       simp only[aab,Ok,bY,dl,cz,dS]
       rfl
      refine ga (i:=4) (N:=some 92) #[true,true,true,true,true,false,false,false,false] rfl rfl (fy X.out (by kernel_rfl)) (by decide) (fun K hK=> ?_);refine il aar (by kernel_rfl) rfl #[.pointer (some ⟨g,0,none⟩),.int .i64 9] (by rfl) rfl rfl (by(try simp only[aag,aan,aas]);first|done|rfl|(simp only[gy,ao];rfl)) ?_
      with_reducible refine(ct.calls g av xc xd 9 si VS VT w0 _ ?a8 ?a9 A253.out).mono ?_
      (case a8=>exact Y.eE HI0 cH bv);(case a9=>exact aW HB eC eK);rintro e D8 ⟨rfl,hi,hb,hk⟩;refine⟨_,rfl, ?_⟩;have aa:=Ah (Kd.aY (Kd.gO (Y.apart (show Y w0 _ g av xc xd from Y.eE HI0 cH bv) (rr ak.out) (by decide)) hk (fun _ h=>h.2)) (fun _ h=>h.1));have ab:=Ah (aM.blk hk (g':=fg) (o:= .cells #[.slice none 0 0] 25 (0,0)) (bk ay) ij.out (by simp));have ac:=Ah (aM.blk hk (g':=fb) (o:= .cells #[.slice Nt aq.length zQ] 25 (0,0)) (bk ag) gN.out (by simp));have ae:=Ah (aM.trans (hZ HK cn d5) hk (.inl rfl));have bK:=Ah (hb);have bP:=Ah (hi);clear ak ay ag HK HB HI0;have ak:=aa;have ay:=ab;have ag:=ac;have HK:=ae;have HB:=bK;have HI0:=bP;clear aa ab ac ae bK bP;(try clear hb);(try clear hb2);(try clear hk);(try clear hi);have VU:0≤(bI:Int):=od;have VV:(bI:Int)<((aq.length:Int):Int):=od;obtain⟨ld,co256,a2G,a2H,gl256,cl256,a2I⟩:=Kd.nW ak.out (by omega);(first|cases a2G|(injection a2G with dB iV iW;(first|subst dB|(injection dB with dB;subst dB));subst iW;clear iV));have a2J:=Ah a2H;have GG256:=Ah a2I;clear a2H gl256 a2I;obtain⟨ce256,hcl256,a2K,Ho,Hp⟩:=Kd.hJ ak.out rW (bI:Int) VU VV;obtain rfl:=uf a2K;have hx256_0:aaH _ ⟨ld,(bI:Int).toNat*4,none⟩=some (.int .i64 ((I aq bI).f0)):=Ho 0 _ rfl;have hx256_1:aaH _ ⟨ld,(bI:Int).toNat*4+1,none⟩=some (.int .i64 ((I aq bI).f1)):=Ho 1 _ rfl;have hx256_2:aaH _ ⟨ld,(bI:Int).toNat*4+2,none⟩=some (.int .i64 ((I aq bI).f2)):=Ho 2 _ rfl;have hx256_3:aaH _ ⟨ld,(bI:Int).toNat*4+3,none⟩=some (.bool ((I aq bI).f3)):=Ho 3 _ rfl;have hf256_0:aaL _ ⟨ld,(bI:Int).toNat*4,none⟩=false:=Hp 0;have hf256_1:aaL _ ⟨ld,(bI:Int).toNat*4+1,none⟩=false:=Hp 1;have hf256_2:aaL _ ⟨ld,(bI:Int).toNat*4+2,none⟩=false:=Hp 2;have hf256_3:aaL _ ⟨ld,(bI:Int).toNat*4+3,none⟩=false:=Hp 3;clear hcl256 Ho Hp a2K;replace VU:=eq_true VU;replace VV:=eq_true VV;have HN0_go256:=Ah (show g≠ld from by have h_:=Y.own_ne HI0.out ak.out (by decide);intro e_;exact h_ (by rw[e_];rfl));obtain⟨ce265,a0x,a2L,a0y,hfr265⟩:=Kd.hJ ak.out rW (bI:Int) (od) (by have h_:(bI:Int)<((aq.length:Int):Int):=od;first|exact h_|(have e_:=(Kd.af ak.out).1;omega)|simpa using h_);obtain rfl:=uf a2L;have Tc:=(Kd.lT ak.out (bI:Int) (od) (by have h_:(bI:Int)<((aq.length:Int):Int):=od;first|exact h_|(have e_:=(Kd.af ak.out).1;omega)|simpa using h_) (seg:=[.int .i64 (LS (si-1))]) (j:=0) a0x a0y (show 1≤4 from by decide) (x':=(⟨LS (si-1),(I aq bI).f1,(I aq bI).f2,(I aq bI).f3⟩:a7)) (jp _ _ _ (⟨LS (si-1),(I aq bI).f1,(I aq bI).f2,(I aq bI).f3⟩:a7)) (fun _ hk=>hk)).1;rw[←Ny397.out]at Tc;have a2M:=Ah Tc;clear a0x a0y hfr265 a2L Tc;refine hK.out _ _ ((bC ag.out 0).trans rfl) (fun hHeld=> ?_);clear hK K;refine hU (a':= ?_) ?_ ?_;rotate_left
      ·
       show aab _ (some 92) _=_
       simp only[aab,Ok,bY,dl,cz,dS]
       rfl
      refine aN 5 93 X.out ?_;refine aN 6 94 X.out ?_;refine aN 7 95 X.out ?_;refine Hy (i:=8) (N:=none) #[true,true,true,true,true,true,true,true,true] rfl rfl (fy X.out (by kernel_rfl)) (by decide) (fun K hK=> ?_);refine oG (w1:= ?_) (by rfl) rfl ?_ ?_;rotate_left
      ·
       go_simp
       rfl
      refine hK.out _ _ ?_;clear hK K;refine i9 (iD X.out (by kernel_rfl)) ?_;have aa:U (Kd.R b7 65 (D8.setCell ⟨ld,(bI:Int).toNat*4,none⟩ (.int .i64 (LS (si-1)))) w.heap.size (fun _=>True) (.slice (some ⟨ld,0,none⟩) aq.length zQ) a5n):=⟨(by first|exact rr a2M.out|exact a2M.out)⟩;have ab:U ((D8.setCell ⟨ld,(bI:Int).toNat*4,none⟩ (.int .i64 (LS (si-1)))).heap[fg]?=some (.cells #[.slice none 0 0] 25 (0,0))):=⟨by(with_reducible repeat(first|refine aD ?_ _|refine Z ?_|refine aC ?_ _));refine gc ?_ (by have h_:=Kd.eD ak.out ay.out (by decide);intro e_;exact h_ (by rw[e_];rfl)) _;(with_reducible repeat(first|refine aD ?_ _|refine Z ?_|refine aC ?_ _));exact ay.out⟩;have ac:U ((D8.setCell ⟨ld,(bI:Int).toNat*4,none⟩ (.int .i64 (LS (si-1)))).heap[fb]?=some (.cells #[.slice (some ⟨ld,0,none⟩) aq.length zQ] 25 (0,0))):=⟨by(with_reducible repeat(first|refine aD ?_ _|refine Z ?_|refine aC ?_ _));refine gc ?_ (by have h_:=Kd.eD ak.out ag.out (by decide);intro e_;exact h_ (by rw[e_];rfl)) _;(with_reducible repeat(first|refine aD ?_ _|refine Z ?_|refine aC ?_ _));exact ag.out⟩;have ae:U (Y w0 (D8.setCell ⟨ld,(bI:Int).toNat*4,none⟩ (.int .i64 (LS (si-1)))) g av VS VT):=⟨Y.iQ HI0 HN0_go256 cH bv⟩;have bK:U (aM w (D8.setCell ⟨ld,(bI:Int).toNat*4,none⟩ (.int .i64 (LS (si-1)))) g none):=⟨oZ HK a2J cn d5⟩;have bP:U (Below w0.heap.size w0 (D8.setCell ⟨ld,(bI:Int).toNat*4,none⟩ (.int .i64 (LS (si-1))))):=⟨by repeat(first|(with_reducible first|exact HB.out|apply jH|apply k5|apply fO|refine cF ?_ (aax HL.out a2J.out)|refine cF ?_ (Y.ge HI0.out)|refine cF ?_ eC.out|refine cF ?_ eK.out)|exact HB.out)⟩;(try clear ak);(try clear ay);(try clear ag);(try clear HI0);(try clear HK);(try clear HB)
      generalize (D8.setCell ⟨ld,(bI:Int).toNat*4,none⟩ (.int .i64 (LS (si-1))))=w266 at aa ab ac ae bK bP⊢
      have ak:=aa;have ay:=ab;have ag:=ac;have HI0:=ae;have HK:=bK;have HB:=bP;clear aa ab ac ae bK bP;have hcz267_0:=ap ag;have hfz267_0:=an ag;have hnb268:=ij.out;have hnc268:=cH.out;have hcz269_0:=ap ay;have hfz269_0:=an ay
      try go_wp2
      refine bodyPost_ret (results_cell_row rfl _ _ fg 25 #[.slice (some ⟨ld,0,none⟩) aq.length zQ] (0,0) _ rfl (by(with_reducible repeat(first|refine aD ?_ _|refine Z ?_|refine aC ?_ _));refine aj (cs:= #[.slice none 0 0]) ?_ 0 _ rfl;(with_reducible repeat(first|refine aD ?_ _|refine Z ?_|refine aC ?_ _));exact ay.out) ua rfl (by kernel_rfl)) rfl ?_;exact⟨_,er,by(with_reducible repeat(first|apply Kd.bG|apply Kd.bE|apply Kd.al));exact Kd.aY (Kd.aQ (p:=⟨fg,0,none⟩) (Kd.cl ak.out ay.out (by decide)) (fun _ hk=>hk.2) (.slice (some ⟨ld,0,none⟩) aq.length zQ)) (fun _ hk=>trivial),Y.eE HI0 cH bv,aW HB eC eK,hZ HK cn d5⟩
   rw[if_pos c9]at H;have u1:decide (0<aA)=true:=decide_eq_true c9;clear c9;replace H:=LT.mp H;obtain⟨⟨fw,ev,gJ,fe,oS,oT⟩,u7,H⟩:=H
   try dsimp only at H
   have yA:=Ah u7;clear u7;replace H:=LT.mp H;obtain⟨⟨ln,mD,mE⟩,KM,H⟩:=H
   try dsimp only at H
   have GF:=Ah KM;clear KM
   by_cases c12:ln=0
   ·
    rw[if_pos c12]at H;have jR:(ln==0)=true:=beq_iff_eq.mpr c12;have vO:(ln !=0)=false:=bne_eq_false_iff_eq.mpr c12;clear c12;replace H:=LT.mp H;obtain⟨⟨Fo,Fp,Fq⟩,rG,H⟩:=H
    try dsimp only at H
    have rh:=Ah rG;clear rG;replace H:=LT.mp H;obtain⟨⟨Fr,Ox,Oy⟩,zx,H⟩:=H
    try dsimp only at H
    have Dz:=Ah zx;clear zx;replace H:=LT.mp H;obtain⟨⟨D9,a5o,t357⟩,KN,H⟩:=H
    try dsimp only at H
    have LO:=Ah KN;clear KN;have H_:=Ah H;clear H;have zE:=p8.out;have zF:=lv.out;have NV:=gN.out;have NW:=bv.out;have yl:=ap ag;have ym:=an ag
    try go_wp2_with (first|((with_reducible refine ax (N:=6) rfl ?_);refine bA 6 25 #[.slice none 0 0] ?_;intro fL hg vm bj hb;replace ak:=nr ak hb;replace HB:=Ah (aK (aW HB eC eK) hb);have ep:=Ah ((by rw[hg];exact(gn (w:=w) (g:=g) (row:=none) (hZ HK cn d5)):w.heap.size≤fL));have gf:=Ah ((aax HW0.out (by rw[hg];exact(gn (w:=w) (g:=g) (row:=none) (hZ HK cn d5)):w.heap.size≤fL):w0.heap.size≤fL));replace HK:=Ah (aM.trans (hZ HK cn d5) (aM.of_below hb g none) (.inl rfl));have jm:=nn ay hg;have qI:=nm ay hg;replace ay:=nb ay hb;have jA:=nn ag hg;have qJ:=nm ag hg;replace ag:=nb ag hb;have dr:=Ah ((by rw[hg];exact aaI (Y.lt (show Y w0 _ g av mQ mR from Y.eE HI0 cH bv)):g≠fL));have k7:=Ah ((by rw[hg];exact aaJ (Y.lt (show Y w0 _ g av mQ mR from Y.eE HI0 cH bv)):fL≠g));replace HI0:=Ah (Y.below (Y.eE HI0 cH bv) hb);clear hb hg;obtain⟨gI,fv,nD⟩:=Kd.bq ak.out;subst nD;have z7:=qI.out;have z8:=jm.out;have SY:=qJ.out;have SZ:=jA.out;have NL:=k7.out;have NM:=dr.out;have R4:=ap bj;have R5:=an bj)|((with_reducible refine bJ (f:=41) rfl ?_);refine gL (some 19) rfl rfl Try.func41 (by kernel_rfl) rfl #[.pointer (some ⟨g,0,none⟩)] rfl ?_;(with_reducible refine(yD.calls g av mQ mR fw ev gJ fe oS oT w0 _ ?a8 ?a9 yA.out).mono ?_);(case a8=>exact Y.iQ HI0 cH bv dr);(case a9=>exact bX HB eC eK gf);rintro e Wo ⟨rfl,hi,hb,hk⟩;refine⟨_,rfl, ?_⟩;replace ak:=Ah (Kd.aY (Kd.gO (Y.apart (show Y w0 _ g av mQ mR from Y.iQ HI0 cH bv dr) (rf ak bj) (by decide)) hk (fun _ h=>h.2)) (fun _ h=>h.1));replace ay:=Ah (aM.blk hk (g':=fg) (o:= .cells #[.slice none 0 0] 25 (0,0)) (bf ay jm) ij.out (by simp));replace ag:=Ah (aM.blk hk (g':=fb) (o:= .cells #[.slice gI aq.length fv] 25 (0,0)) (bf ag jA) gN.out (by simp));replace bj:=Ah (aM.blk hk (g':=fL) (o:= .cells #[.slice gI aq.length fv] 25 (0,0)) (by(with_reducible repeat(first|refine aD ?_ _|refine Z ?_|refine aC ?_ _));refine aj (cs:= #[.slice none 0 0]) ?_ 0 _ rfl;(with_reducible repeat(first|refine aD ?_ _|refine Z ?_|refine aC ?_ _));exact bj.out) k7.out (by simp));replace HK:=Ah (aM.trans (oZ HK cn d5 ep) hk (.inl rfl));replace HB:=Ah (hb);replace HI0:=Ah (hi);(try clear hb hk hi))|((with_reducible refine ax (N:=8) rfl ?_);refine bA 8 65 #[.int .i64 0,.int .i64 0,.int .i64 0,.bool false] ?_;intro cS hg xy ck hb;replace ak:=Ah (Kd.eO (Kd.gD (rr ak.out) cS (aaj hg.symm)) hb);replace HB:=Ah (aK (bX HB eC eK gf) hb);have g7:=Ah ((by rw[hg];exact(gn (w:=w) (g:=g) (row:=none) (oZ HK cn d5 ep)):w.heap.size≤cS));have iU:=Ah ((aax HW0.out (by rw[hg];exact(gn (w:=w) (g:=g) (row:=none) (oZ HK cn d5 ep)):w.heap.size≤cS):w0.heap.size≤cS));replace HK:=Ah (aM.trans (oZ HK cn d5 ep) (aM.of_below hb g none) (.inl rfl));have p9:=nn ay hg;have vy:=nm ay hg;replace ay:=nb ay hb;have pA:=nn ag hg;have vz:=nm ag hg;replace ag:=nb ag hb;have mN:=nn bj hg;have qK:=nm bj hg;replace bj:=nb bj hb;have fD:=Ah ((by rw[hg];exact aaI (Y.lt (show Y w0 _ g av oS oT from Y.iQ HI0 cH bv dr)):g≠cS));have lR:=Ah ((by rw[hg];exact aaJ (Y.lt (show Y w0 _ g av oS oT from Y.iQ HI0 cH bv dr)):cS≠g));replace HI0:=Ah (Y.below (Y.iQ HI0 cH bv dr) hb);clear hb hg;have Eu:=vy.out;have Ew:=p9.out;have NA:=vz.out;have NB:=pA.out;have a1y:=qK.out;have a1z:=mN.out;have a0L:=lR.out;have a0M:=fD.out;obtain⟨qT,hcz32_1,hcz32_2,hcz32_3⟩:=cA ck;obtain⟨qU,hfz32_1,hfz32_2,hfz32_3⟩:=cB ck)|((with_reducible refine bJ (f:=21) rfl ?_);refine gL (some 21) rfl rfl aar (by kernel_rfl) rfl #[.pointer (some ⟨g,0,none⟩),.int .i64 6] rfl ?_;(with_reducible refine(ct.calls g av oS oT 6 ln mD mE w0 _ ?a8 ?a9 GF.out).mono ?_);(case a8=>exact Y.gK HI0 cH bv dr fD);(case a9=>exact dc HB eC eK gf iU);rintro e q9 ⟨rfl,hi,hb,hk⟩;refine⟨_,rfl, ?_⟩;replace ak:=Ah (Kd.aY (Kd.gO (Y.apart (show Y w0 _ g av oS oT from Y.gK HI0 cH bv dr fD) (by(with_reducible repeat(first|apply Kd.bG|apply Kd.bE|apply Kd.al));exact(Kd.aY (Kd.aQ (p:=⟨cS,3,none⟩) (Kd.aQ (p:=⟨cS,2,none⟩) (Kd.aQ (p:=⟨cS,1,none⟩) (Kd.aQ (p:=⟨cS,0,none⟩) (Kd.aY ak.out (fun k_ hk=>(⟨hk,hk.2⟩:_∧k_≠cS))) (fun _ hk=>hk.2) (.int .i64 fw)) (fun _ hk=>hk.2) (.int .i64 ev)) (fun _ hk=>hk.2) (.int .i64 gJ)) (fun _ hk=>hk.2) (.bool fe)) (fun _ h_=>h_.1))) (by decide)) hk (fun _ h=>h.2)) (fun _ h=>h.1));replace ay:=Ah (aM.blk hk (g':=fg) (o:= .cells #[.slice none 0 0] 25 (0,0)) (bf ay p9) ij.out (by simp));replace ag:=Ah (aM.blk hk (g':=fb) (o:= .cells #[.slice gI aq.length fv] 25 (0,0)) (bf ag pA) gN.out (by simp));replace bj:=Ah (aM.blk hk (g':=fL) (o:= .cells #[.slice gI aq.length fv] 25 (0,0)) (bf bj mN) k7.out (by simp));replace ck:=Ah (aM.blk hk (g':=cS) (o:= .cells #[.int .i64 fw,.int .i64 ev,.int .i64 gJ,.bool fe] 65 (0,0)) (by(with_reducible repeat(first|refine aD ?_ _|refine Z ?_|refine aC ?_ _));refine aj (cs:= #[.int .i64 fw,.int .i64 ev,.int .i64 gJ,.bool false]) ?_ 3 _ rfl;(with_reducible repeat(first|refine aD ?_ _|refine Z ?_|refine aC ?_ _));refine aj (cs:= #[.int .i64 fw,.int .i64 ev,.int .i64 0,.bool false]) ?_ 2 _ rfl;(with_reducible repeat(first|refine aD ?_ _|refine Z ?_|refine aC ?_ _));refine aj (cs:= #[.int .i64 fw,.int .i64 0,.int .i64 0,.bool false]) ?_ 1 _ rfl;(with_reducible repeat(first|refine aD ?_ _|refine Z ?_|refine aC ?_ _));refine aj (cs:= #[.int .i64 0,.int .i64 0,.int .i64 0,.bool false]) ?_ 0 _ rfl;(with_reducible repeat(first|refine aD ?_ _|refine Z ?_|refine aC ?_ _));exact ck.out) lR.out (by simp));replace HK:=Ah (aM.trans (gT HK cn d5 ep g7) hk (.inl rfl));replace HB:=Ah (hb);replace HI0:=Ah (hi);(try clear hb hk hi)))
    have aa:=Ah (Kd.al ak.out);have ab:=Ah (Z ay.out);have ac:=Ah (Z ag.out);have ae:=Ah (Z bj.out);have bK:=Ah (Z ck.out);have bP:=Ah (Y.drew HI0.out);have ew:=Ah (vq HK.out);have fC:=Ah (fO HB.out);clear ak ay ag bj ck HI0 HK HB;have ak:=aa;have ay:=ab;have ag:=ac;have bj:=ae;have ck:=bK;have HI0:=bP;have HK:=ew;have HB:=fC;clear aa ab ac ae bK bP ew fC;refine iY (n:=12) (S:=fun w'=>w'.cell? ⟨fb,0,none⟩=some (.slice gI aq.length fv)) (ds:=[]) #[false,false,false,false,false,false,false,false,false,false,false,false] (by kernel_rfl) rfl rfl ((bC ag.out 0).trans rfl) (fun hHeld=> ?_);refine ig bV.tab11 bV.bits11 (fun X cV=> ?_)
    generalize q9.drew=LH at ak ay ag bj ck HI0 HK HB hHeld⊢
    refine aN 1 32 X.out ?_;refine aN 3 34 X.out ?_;have H:=H_.out;clear H_
    by_cases c16:t357=true
    rotate_left
    ·
     replace c16:=dn.mpr c16;subst c16;rw[if_neg dV]at H;have H':=Ah H;clear H;refine sH (i:=0) (N:=some 31) (v:= ?_) (a':= ?_) #[true,true,false,true,false,false,false,false,false,false,false,false] rfl rfl (wD X.out cV.out (by kernel_rfl)) (fun _ _ _ h=>h) (Or.inl ⟨by rfl, ?_⟩) hHeld ?_ ?_;rotate_left
     ·
      intro w' s0
      go_simp
      with_reducible rfl
     rotate_left
     ·
      simp only[aab,Ok,bY,dl,cz,dS]
      rfl
     refine ga (i:=2) (N:=some 33) #[true,true,true,true,false,false,false,false,false,false,false,false] rfl rfl (fy X.out (by kernel_rfl)) (by decide) (fun K hK=> ?_);refine il aar (by kernel_rfl) rfl #[.pointer (some ⟨g,0,none⟩),.int .i64 30] (by rfl) rfl rfl (by(try simp only[aag,aan,aas]);first|done|rfl|(simp only[gy,ao];rfl)) ?_
     with_reducible refine(ct.calls g av mD mE 30 Fo Fp Fq w0 _ ?a8 ?a9 rh.out).mono ?_
     (case a8=>exact Y.gK HI0 cH bv dr fD);(case a9=>exact dc HB eC eK gf iU);rintro e Wn ⟨rfl,hi,hb,hk⟩;refine⟨_,rfl, ?_⟩;have aa:=Ah (Kd.aY (Kd.gO (Y.apart (show Y w0 _ g av mD mE from Y.gK HI0 cH bv dr fD) (rr ak.out) (by decide)) hk (fun _ h=>h.2)) (fun _ h=>h.1));have ab:=Ah (aM.blk hk (g':=fg) (o:= .cells #[.slice none 0 0] 25 (0,0)) (bk ay) ij.out (by simp));have ac:=Ah (aM.blk hk (g':=fb) (o:= .cells #[.slice gI aq.length fv] 25 (0,0)) (bk ag) gN.out (by simp));have ae:=Ah (aM.blk hk (g':=fL) (o:= .cells #[.slice gI aq.length fv] 25 (0,0)) (bk bj) k7.out (by simp));have bK:=Ah (aM.blk hk (g':=cS) (o:= .cells #[.int .i64 fw,.int .i64 ev,.int .i64 gJ,.bool fe] 65 (0,0)) (bk ck) lR.out (by simp));have bP:=Ah (aM.trans (gT HK cn d5 ep g7) hk (.inl rfl));have ew:=Ah (hb);have fC:=Ah (hi);clear ak ay ag bj ck HK HB HI0;have ak:=aa;have ay:=ab;have ag:=ac;have bj:=ae;have ck:=bK;have HK:=bP;have HB:=ew;have HI0:=fC;clear aa ab ac ae bK bP ew fC;(try clear hb);(try clear hb2);(try clear hk);(try clear hi);refine hK.out _ _ ((bC ag.out 0).trans rfl) (fun hHeld=> ?_);clear hK K;refine hU (a':= ?_) ?_ ?_;rotate_left
     ·
      show aab _ (some 33) _=_
      simp only[aab,Ok,bY,dl,cz,dS]
      rfl
     refine ga (i:=4) (N:=some 35) #[true,true,true,true,true,false,false,false,false,false,false,false] rfl rfl (fy X.out (by kernel_rfl)) (by decide) (fun K hK=> ?_);refine il aar (by kernel_rfl) rfl #[.pointer (some ⟨g,0,none⟩),.int .i64 5] (by rfl) rfl rfl (by(try simp only[aag,aan,aas]);first|done|rfl|(simp only[gy,ao];rfl)) ?_
     with_reducible refine(ct.calls g av Fp Fq 5 Fr Ox Oy w0 _ ?a8 ?a9 Dz.out).mono ?_
     (case a8=>exact Y.gK HI0 cH bv dr fD);(case a9=>exact dc HB eC eK gf iU);rintro e GA ⟨rfl,hi,hb,hk⟩;refine⟨_,rfl, ?_⟩;have aa:=Ah (Kd.aY (Kd.gO (Y.apart (show Y w0 _ g av Fp Fq from Y.gK HI0 cH bv dr fD) (rr ak.out) (by decide)) hk (fun _ h=>h.2)) (fun _ h=>h.1));have ab:=Ah (aM.blk hk (g':=fg) (o:= .cells #[.slice none 0 0] 25 (0,0)) (bk ay) ij.out (by simp));have ac:=Ah (aM.blk hk (g':=fb) (o:= .cells #[.slice gI aq.length fv] 25 (0,0)) (bk ag) gN.out (by simp));have ae:=Ah (aM.blk hk (g':=fL) (o:= .cells #[.slice gI aq.length fv] 25 (0,0)) (bk bj) k7.out (by simp));have bK:=Ah (aM.blk hk (g':=cS) (o:= .cells #[.int .i64 fw,.int .i64 ev,.int .i64 gJ,.bool fe] 65 (0,0)) (bk ck) lR.out (by simp));have bP:=Ah (aM.trans (gT HK cn d5 ep g7) hk (.inl rfl));have ew:=Ah (hb);have fC:=Ah (hi);clear ak ay ag bj ck HK HB HI0;have ak:=aa;have ay:=ab;have ag:=ac;have bj:=ae;have ck:=bK;have HK:=bP;have HB:=ew;have HI0:=fC;clear aa ab ac ae bK bP ew fC;(try clear hb);(try clear hb2);(try clear hk);(try clear hi);refine hK.out _ _ ((bC ag.out 0).trans rfl) (fun hHeld=> ?_);clear hK K;refine hU (a':= ?_) ?_ ?_;rotate_left
     ·
      show aab _ (some 35) _=_
      simp only[aab,Ok,bY,dl,cz,dS]
      rfl
     refine ga (i:=5) (N:=some 36) #[true,true,true,true,true,true,false,false,false,false,false,false] rfl rfl (fy X.out (by kernel_rfl)) (by decide) (fun K hK=> ?_);refine il Try.func6 (by kernel_rfl) rfl #[.agg #[.slice gI aq.length fv],.int .i64 Fo,.int .i64 Fr] (by rfl) rfl rfl (by(try simp only[aag,aan,aas]);first|done|rfl|(simp only[gy,ao];rfl)) ?_
     with_reducible refine(gM.calls k1 _ _ aq Fo Fr D9 a5o false _ ?a8 ?a9 LO.out).mono ?_
     (case a8=>exact fB ak);(case a9=>exact(Kd.af ak.out).2.1);rintro e uZ ⟨v352,v355,rfl,ho0,ho1,hb⟩;refine⟨_,rfl, ?_⟩;have aa:=Ah (Kd.eZ (rr ak.out) (Kd.eX ho0) hb);have ab:=Ah (Kd.dD (Kd.qn (Kd.ec ho0 (Kd.dU (rr ak.out))) (g:=cS) (o:= .cells #[.int .i64 fw,.int .i64 ev,.int .i64 gJ,.bool fe] 65 (0,0)) (bk ck)) (gn (w:=w) (g:=g) (row:=none) (gT HK cn d5 ep g7)));have ac:=Ah (Kd.dD ho1 (gn (w:=w) (g:=g) (row:=none) (gT HK cn d5 ep g7)));have ae:=Ah (bb ay hb);have bK:=Ah (bb ag hb);have bP:=Ah (Y.below (Y.gK HI0 cH bv dr fD) hb);have ew:=Ah (bb bj hb);have fC:=Ah (bb ck hb);have lq:=Ah (aM.trans (gT HK cn d5 ep g7) (aM.of_below hb g none) (.inl rfl));have qC:=Ah (aK (dc HB eC eK gf iU) hb);clear ak ay ag HI0 bj ck HK HB;have ak:=aa;have Nu:=ab;have HO356:=ac;have ay:=ae;have ag:=bK;have HI0:=bP;have bj:=ew;have ck:=fC;have HK:=lq;have HB:=qC;clear aa ab ac ae bK bP ew fC lq qC;(try clear hb);(try clear hb2);(try clear hk);(try clear hi);(try clear ho0);(try clear ho1);obtain⟨Ao63,co63,a5p⟩:=Kd.bq Nu.out;(first|subst a5p|(injection a5p with kc oc kd;have oe:=kc.symm;have oh:=kd.symm;clear kc oc kd;subst oe;subst oh));refine hK.out _ _ ((bC ag.out 0).trans rfl) (fun hHeld=> ?_);clear hK K;refine hU (a':= ?_) ?_ ?_;rotate_left
     ·
      show aab _ (some 36) _=_
      simp only[aab,Ok,bY,dl,cz,dS]
      rfl
     refine aN 6 30 X.out ?_;refine aN 7 37 X.out ?_;refine aN 8 38 X.out ?_;refine aN 9 39 X.out ?_;refine ga (i:=10) (N:=none) #[true,true,true,true,true,true,true,true,true,true,true,false] rfl rfl (fy X.out (by kernel_rfl)) (by decide) (fun K hK=> ?_);have hs64:uZ.cell? ⟨fL,0,none⟩=some (.slice gI aq.length fv):=(bC bj.out 0).trans rfl;have hfs64:=ff bj.out 0;have hns64_0:=jm.out;have hns64_1:=jA.out;have hns64_3:=qK.out;have hms64_0:=qI.out;have hms64_1:=qJ.out;have hms64_3:=mN.out;refine oG (w1:= ?_) (by rfl) rfl ?_ ?_;rotate_left
     ·
      go_simp
      rfl
     refine hK.out _ _ (((ex (p:=⟨fL,_,none⟩) jA.out _).trans (hHeld))) (fun hHeld=> ?_);clear hK K;refine aN 11 7 X.out ?_;refine i9 (iD X.out (by kernel_rfl)) ?_
     try go_wp2
     go_roundg k1
     case measure=>have:=bU.out;omega
     case rel=>exact⟨(eV),(LS (aA-1)),(Ox),(Oy),(aq),(.slice gI aq.length fv),e3,e3,H',⟨by have:=bU.out;omega⟩,⟨by(with_reducible repeat(first|apply Kd.bG|apply Kd.bE|apply Kd.al));exact Kd.aY (Kd.aQ (p:=⟨fL,0,none⟩) (Kd.cl ak.out bj.out (by decide)) (fun _ hk=>hk.2) (.slice Ao63 D9.length co63)) (fun _ hk=>trivial)⟩,⟨bf ay jm⟩,⟨bf ag jA⟩,⟨Y.gK HI0 cH bv dr fD⟩,⟨gT HK cn d5 ep g7⟩,⟨dc HB eC eK gf iU⟩⟩
    subst c16;rw[if_pos rfl]at H;have H':=Ah H;clear H;refine sH (i:=0) (N:=some 31) (v:= ?_) (a':= ?_) #[true,true,false,true,false,false,false,false,false,false,false,false] rfl rfl (wD X.out cV.out (by kernel_rfl)) (fun _ _ _ h=>h) (Or.inl ⟨by rfl, ?_⟩) hHeld ?_ ?_;rotate_left
    ·
     intro w' s0
     go_simp
     with_reducible rfl
    rotate_left
    ·
     simp only[aab,Ok,bY,dl,cz,dS]
     rfl
    refine ga (i:=2) (N:=some 33) #[true,true,true,true,false,false,false,false,false,false,false,false] rfl rfl (fy X.out (by kernel_rfl)) (by decide) (fun K hK=> ?_);refine il aar (by kernel_rfl) rfl #[.pointer (some ⟨g,0,none⟩),.int .i64 30] (by rfl) rfl rfl (by(try simp only[aag,aan,aas]);first|done|rfl|(simp only[gy,ao];rfl)) ?_
    with_reducible refine(ct.calls g av mD mE 30 Fo Fp Fq w0 _ ?a8 ?a9 rh.out).mono ?_
    (case a8=>exact Y.gK HI0 cH bv dr fD);(case a9=>exact dc HB eC eK gf iU);rintro e Dw ⟨rfl,hi,hb,hk⟩;refine⟨_,rfl, ?_⟩;have aa:=Ah (Kd.aY (Kd.gO (Y.apart (show Y w0 _ g av mD mE from Y.gK HI0 cH bv dr fD) (rr ak.out) (by decide)) hk (fun _ h=>h.2)) (fun _ h=>h.1));have ab:=Ah (aM.blk hk (g':=fg) (o:= .cells #[.slice none 0 0] 25 (0,0)) (bk ay) ij.out (by simp));have ac:=Ah (aM.blk hk (g':=fb) (o:= .cells #[.slice gI aq.length fv] 25 (0,0)) (bk ag) gN.out (by simp));have ae:=Ah (aM.blk hk (g':=fL) (o:= .cells #[.slice gI aq.length fv] 25 (0,0)) (bk bj) k7.out (by simp));have bK:=Ah (aM.blk hk (g':=cS) (o:= .cells #[.int .i64 fw,.int .i64 ev,.int .i64 gJ,.bool fe] 65 (0,0)) (bk ck) lR.out (by simp));have bP:=Ah (aM.trans (gT HK cn d5 ep g7) hk (.inl rfl));have ew:=Ah (hb);have fC:=Ah (hi);clear ak ay ag bj ck HK HB HI0;have ak:=aa;have ay:=ab;have ag:=ac;have bj:=ae;have ck:=bK;have HK:=bP;have HB:=ew;have HI0:=fC;clear aa ab ac ae bK bP ew fC;(try clear hb);(try clear hb2);(try clear hk);(try clear hi);refine hK.out _ _ ((bC ag.out 0).trans rfl) (fun hHeld=> ?_);clear hK K;refine hU (a':= ?_) ?_ ?_;rotate_left
    ·
     show aab _ (some 33) _=_
     simp only[aab,Ok,bY,dl,cz,dS]
     rfl
    refine ga (i:=4) (N:=some 35) #[true,true,true,true,true,false,false,false,false,false,false,false] rfl rfl (fy X.out (by kernel_rfl)) (by decide) (fun K hK=> ?_);refine il aar (by kernel_rfl) rfl #[.pointer (some ⟨g,0,none⟩),.int .i64 5] (by rfl) rfl rfl (by(try simp only[aag,aan,aas]);first|done|rfl|(simp only[gy,ao];rfl)) ?_
    with_reducible refine(ct.calls g av Fp Fq 5 Fr Ox Oy w0 _ ?a8 ?a9 Dz.out).mono ?_
    (case a8=>exact Y.gK HI0 cH bv dr fD);(case a9=>exact dc HB eC eK gf iU);rintro e Wr ⟨rfl,hi,hb,hk⟩;refine⟨_,rfl, ?_⟩;have aa:=Ah (Kd.aY (Kd.gO (Y.apart (show Y w0 _ g av Fp Fq from Y.gK HI0 cH bv dr fD) (rr ak.out) (by decide)) hk (fun _ h=>h.2)) (fun _ h=>h.1));have ab:=Ah (aM.blk hk (g':=fg) (o:= .cells #[.slice none 0 0] 25 (0,0)) (bk ay) ij.out (by simp));have ac:=Ah (aM.blk hk (g':=fb) (o:= .cells #[.slice gI aq.length fv] 25 (0,0)) (bk ag) gN.out (by simp));have ae:=Ah (aM.blk hk (g':=fL) (o:= .cells #[.slice gI aq.length fv] 25 (0,0)) (bk bj) k7.out (by simp));have bK:=Ah (aM.blk hk (g':=cS) (o:= .cells #[.int .i64 fw,.int .i64 ev,.int .i64 gJ,.bool fe] 65 (0,0)) (bk ck) lR.out (by simp));have bP:=Ah (aM.trans (gT HK cn d5 ep g7) hk (.inl rfl));have ew:=Ah (hb);have fC:=Ah (hi);clear ak ay ag bj ck HK HB HI0;have ak:=aa;have ay:=ab;have ag:=ac;have bj:=ae;have ck:=bK;have HK:=bP;have HB:=ew;have HI0:=fC;clear aa ab ac ae bK bP ew fC;(try clear hb);(try clear hb2);(try clear hk);(try clear hi);refine hK.out _ _ ((bC ag.out 0).trans rfl) (fun hHeld=> ?_);clear hK K;refine hU (a':= ?_) ?_ ?_;rotate_left
    ·
     show aab _ (some 35) _=_
     simp only[aab,Ok,bY,dl,cz,dS]
     rfl
    refine ga (i:=5) (N:=some 36) #[true,true,true,true,true,true,false,false,false,false,false,false] rfl rfl (fy X.out (by kernel_rfl)) (by decide) (fun K hK=> ?_);refine il Try.func6 (by kernel_rfl) rfl #[.agg #[.slice gI aq.length fv],.int .i64 Fo,.int .i64 Fr] (by rfl) rfl rfl (by(try simp only[aag,aan,aas]);first|done|rfl|(simp only[gy,ao];rfl)) ?_
    with_reducible refine(gM.calls k1 _ _ aq Fo Fr D9 a5o true _ ?a8 ?a9 LO.out).mono ?_
    (case a8=>exact fB ak);(case a9=>exact(Kd.af ak.out).2.1);rintro e PV ⟨v352,v355,rfl,ho0,ho1,hb⟩;refine⟨_,rfl, ?_⟩;have aa:=Ah (Kd.eZ (rr ak.out) (Kd.eX ho0) hb);have ab:=Ah (Kd.dD (Kd.qn (Kd.ec ho0 (Kd.dU (rr ak.out))) (g:=cS) (o:= .cells #[.int .i64 fw,.int .i64 ev,.int .i64 gJ,.bool fe] 65 (0,0)) (bk ck)) (gn (w:=w) (g:=g) (row:=none) (gT HK cn d5 ep g7)));have ac:=Ah (Kd.dD ho1 (gn (w:=w) (g:=g) (row:=none) (gT HK cn d5 ep g7)));have ae:=Ah (bb ay hb);have bK:=Ah (bb ag hb);have bP:=Ah (Y.below (Y.gK HI0 cH bv dr fD) hb);have ew:=Ah (bb bj hb);have fC:=Ah (bb ck hb);have lq:=Ah (aM.trans (gT HK cn d5 ep g7) (aM.of_below hb g none) (.inl rfl));have qC:=Ah (aK (dc HB eC eK gf iU) hb);clear ak ay ag HI0 bj ck HK HB;have ak:=aa;have Nu:=ab;have HO356:=ac;have ay:=ae;have ag:=bK;have HI0:=bP;have bj:=ew;have ck:=fC;have HK:=lq;have HB:=qC;clear aa ab ac ae bK bP ew fC lq qC;(try clear hb);(try clear hb2);(try clear hk);(try clear hi);(try clear ho0);(try clear ho1);obtain⟨K3,K4,Oh⟩:=Kd.bq Nu.out;(first|subst Oh|(injection Oh with kc oc kd;have oe:=kc.symm;have oh:=kd.symm;clear kc oc kd;subst oe;subst oh));refine hK.out _ _ ((bC ag.out 0).trans rfl) (fun hHeld=> ?_);clear hK K;refine hU (a':= ?_) ?_ ?_;rotate_left
    ·
     show aab _ (some 36) _=_
     simp only[aab,Ok,bY,dl,cz,dS]
     rfl
    refine aN 6 30 X.out ?_;refine aN 7 37 X.out ?_;refine aN 8 38 X.out ?_;refine aN 9 39 X.out ?_;refine ga (i:=10) (N:=none) #[true,true,true,true,true,true,true,true,true,true,true,false] rfl rfl (fy X.out (by kernel_rfl)) (by decide) (fun K hK=> ?_);have hs39:PV.cell? ⟨fL,0,none⟩=some (.slice gI aq.length fv):=(bC bj.out 0).trans rfl;have hfs39:=ff bj.out 0;have hns39_0:=jm.out;have hns39_1:=jA.out;have hns39_3:=qK.out;have hms39_0:=qI.out;have hms39_1:=qJ.out;have hms39_3:=mN.out;refine oG (w1:= ?_) (by rfl) rfl ?_ ?_;rotate_left
    ·
     go_simp
     rfl
    refine hK.out _ _ (((ex (p:=⟨fL,_,none⟩) jA.out _).trans (hHeld))) (fun hHeld=> ?_);clear hK K;refine aN 11 7 X.out ?_;refine i9 (iD X.out (by kernel_rfl)) ?_;have nS:=ap bj;have nT:=an bj;have hcz41_0:=ap ag;have hfz41_0:=an ag
    try go_wp2
    go_roundg k1
    case measure=>have:=bU.out;omega
    case rel=>exact⟨(eV),(LS (aA-1)),(Ox),(Oy),(D9),(.slice K3 D9.length K4),e3,e3,H',⟨by have:=bU.out;omega⟩,⟨by(with_reducible repeat(first|apply Kd.bG|apply Kd.bE|apply Kd.al));exact Kd.aY (Kd.aQ (p:=⟨fb,0,none⟩) (Kd.aQ (p:=⟨fL,0,none⟩) (Kd.cl (Kd.cl Nu.out bj.out (by decide)) ag.out (by decide)) (fun _ hk=>hk.1.2) (.slice K3 D9.length K4)) (fun _ hk=>hk.2) (.slice K3 D9.length K4)) (fun _ hk=>trivial)⟩,⟨by(with_reducible repeat(first|refine aD ?_ _|refine Z ?_|refine aC ?_ _));refine gc ?_ lv.out _;(with_reducible repeat(first|refine aD ?_ _|refine Z ?_|refine aC ?_ _));refine gc ?_ jm.out _;(with_reducible repeat(first|refine aD ?_ _|refine Z ?_|refine aC ?_ _));exact ay.out⟩,⟨by(with_reducible repeat(first|refine aD ?_ _|refine Z ?_|refine aC ?_ _));refine aj (cs:= #[.slice gI aq.length fv]) ?_ 0 _ rfl;(with_reducible repeat(first|refine aD ?_ _|refine Z ?_|refine aC ?_ _));refine gc ?_ jA.out _;(with_reducible repeat(first|refine aD ?_ _|refine Z ?_|refine aC ?_ _));exact ag.out⟩,⟨Y.gK HI0 cH bv dr fD⟩,⟨gT HK cn d5 ep g7⟩,⟨dc HB eC eK gf iU⟩⟩
   rw[if_neg c12]at H;have jR:(ln==0)=false:=beq_eq_false_iff_ne.mpr c12;have vO:(ln !=0)=true:=bne_iff_ne.mpr c12
   by_cases yB:ln=1
   ·
    rw[if_pos yB]at H;have TY:(ln==1)=true:=beq_iff_eq.mpr yB;have TZ:(ln !=1)=false:=bne_eq_false_iff_eq.mpr yB;clear yB;replace H:=LT.mp H;obtain⟨⟨Fs,Ft,Fu⟩,KO,H⟩:=H
    try dsimp only at H
    have Pd:=Ah KO;clear KO;replace H:=LT.mp H;obtain⟨⟨Fv,Oz,P0⟩,KP,H⟩:=H
    try dsimp only at H
    have Pe:=Ah KP;clear KP;replace H:=LT.mp H;obtain⟨⟨DA,t367⟩,a5q,H⟩:=H
    try dsimp only at H
    have A68:=Ah a5q;clear a5q;have H_:=Ah H;clear H;have hnb70:=p8.out;have hnc70:=lv.out;have hnb71:=gN.out;have hnc71:=bv.out;have Rg:=ap ag;have Ri:=an ag
    try go_wp2_with (first|((with_reducible refine ax (N:=6) rfl ?_);refine bA 6 25 #[.slice none 0 0] ?_;intro fL hg Dx bj hb;replace ak:=nr ak hb;replace HB:=Ah (aK (aW HB eC eK) hb);have ep:=Ah ((by rw[hg];exact(gn (w:=w) (g:=g) (row:=none) (hZ HK cn d5)):w.heap.size≤fL));have gf:=Ah ((aax HW0.out (by rw[hg];exact(gn (w:=w) (g:=g) (row:=none) (hZ HK cn d5)):w.heap.size≤fL):w0.heap.size≤fL));replace HK:=Ah (aM.trans (hZ HK cn d5) (aM.of_below hb g none) (.inl rfl));have jm:=nn ay hg;have qI:=nm ay hg;replace ay:=nb ay hb;have jA:=nn ag hg;have qJ:=nm ag hg;replace ag:=nb ag hb;have dr:=Ah ((by rw[hg];exact aaI (Y.lt (show Y w0 _ g av mQ mR from Y.eE HI0 cH bv)):g≠fL));have k7:=Ah ((by rw[hg];exact aaJ (Y.lt (show Y w0 _ g av mQ mR from Y.eE HI0 cH bv)):fL≠g));replace HI0:=Ah (Y.below (Y.eE HI0 cH bv) hb);clear hb hg;obtain⟨mF,mG,eo74⟩:=Kd.bq ak.out;subst eo74;have a0U:=qI.out;have a0V:=jm.out;have a0W:=qJ.out;have a0X:=jA.out;have hnb77:=k7.out;have hnc77:=dr.out;have Rb:=ap bj;have Rc:=an bj)|((with_reducible refine bJ (f:=41) rfl ?_);refine gL (some 19) rfl rfl Try.func41 (by kernel_rfl) rfl #[.pointer (some ⟨g,0,none⟩)] rfl ?_;(with_reducible refine(yD.calls g av mQ mR fw ev gJ fe oS oT w0 _ ?a8 ?a9 yA.out).mono ?_);(case a8=>exact Y.iQ HI0 cH bv dr);(case a9=>exact bX HB eC eK gf);rintro e w79 ⟨rfl,hi,hb,hk⟩;refine⟨_,rfl, ?_⟩;replace ak:=Ah (Kd.aY (Kd.gO (Y.apart (show Y w0 _ g av mQ mR from Y.iQ HI0 cH bv dr) (rf ak bj) (by decide)) hk (fun _ h=>h.2)) (fun _ h=>h.1));replace ay:=Ah (aM.blk hk (g':=fg) (o:= .cells #[.slice none 0 0] 25 (0,0)) (bf ay jm) ij.out (by simp));replace ag:=Ah (aM.blk hk (g':=fb) (o:= .cells #[.slice mF aq.length mG] 25 (0,0)) (bf ag jA) gN.out (by simp));replace bj:=Ah (aM.blk hk (g':=fL) (o:= .cells #[.slice mF aq.length mG] 25 (0,0)) (by(with_reducible repeat(first|refine aD ?_ _|refine Z ?_|refine aC ?_ _));refine aj (cs:= #[.slice none 0 0]) ?_ 0 _ rfl;(with_reducible repeat(first|refine aD ?_ _|refine Z ?_|refine aC ?_ _));exact bj.out) k7.out (by simp));replace HK:=Ah (aM.trans (oZ HK cn d5 ep) hk (.inl rfl));replace HB:=Ah (hb);replace HI0:=Ah (hi);(try clear hb hk hi))|((with_reducible refine ax (N:=8) rfl ?_);refine bA 8 65 #[.int .i64 0,.int .i64 0,.int .i64 0,.bool false] ?_;intro cS hg w80 ck hb;replace ak:=Ah (Kd.eO (Kd.gD (rr ak.out) cS (aaj hg.symm)) hb);replace HB:=Ah (aK (bX HB eC eK gf) hb);have g7:=Ah ((by rw[hg];exact(gn (w:=w) (g:=g) (row:=none) (oZ HK cn d5 ep)):w.heap.size≤cS));have iU:=Ah ((aax HW0.out (by rw[hg];exact(gn (w:=w) (g:=g) (row:=none) (oZ HK cn d5 ep)):w.heap.size≤cS):w0.heap.size≤cS));replace HK:=Ah (aM.trans (oZ HK cn d5 ep) (aM.of_below hb g none) (.inl rfl));have p9:=nn ay hg;have vy:=nm ay hg;replace ay:=nb ay hb;have pA:=nn ag hg;have vz:=nm ag hg;replace ag:=nb ag hb;have mN:=nn bj hg;have qK:=nm bj hg;replace bj:=nb bj hb;have fD:=Ah ((by rw[hg];exact aaI (Y.lt (show Y w0 _ g av oS oT from Y.iQ HI0 cH bv dr)):g≠cS));have lR:=Ah ((by rw[hg];exact aaJ (Y.lt (show Y w0 _ g av oS oT from Y.iQ HI0 cH bv dr)):cS≠g));replace HI0:=Ah (Y.below (Y.iQ HI0 cH bv dr) hb);clear hb hg;have hnb81:=vy.out;have hnc81:=p9.out;have hnb82:=vz.out;have hnc82:=pA.out;have a02:=qK.out;have a03:=mN.out;have a04:=lR.out;have a05:=fD.out;obtain⟨ZX,ZY,ZZ,Za⟩:=cA ck;obtain⟨Zc,Zd,Ze,Zf⟩:=cB ck)|((with_reducible refine bJ (f:=21) rfl ?_);refine gL (some 21) rfl rfl aar (by kernel_rfl) rfl #[.pointer (some ⟨g,0,none⟩),.int .i64 6] rfl ?_;(with_reducible refine(ct.calls g av oS oT 6 ln mD mE w0 _ ?a8 ?a9 GF.out).mono ?_);(case a8=>exact Y.gK HI0 cH bv dr fD);(case a9=>exact dc HB eC eK gf iU);rintro e w86 ⟨rfl,hi,hb,hk⟩;refine⟨_,rfl, ?_⟩;replace ak:=Ah (Kd.aY (Kd.gO (Y.apart (show Y w0 _ g av oS oT from Y.gK HI0 cH bv dr fD) (by(with_reducible repeat(first|apply Kd.bG|apply Kd.bE|apply Kd.al));exact(Kd.aY (Kd.aQ (p:=⟨cS,3,none⟩) (Kd.aQ (p:=⟨cS,2,none⟩) (Kd.aQ (p:=⟨cS,1,none⟩) (Kd.aQ (p:=⟨cS,0,none⟩) (Kd.aY ak.out (fun k_ hk=>(⟨hk,hk.2⟩:_∧k_≠cS))) (fun _ hk=>hk.2) (.int .i64 fw)) (fun _ hk=>hk.2) (.int .i64 ev)) (fun _ hk=>hk.2) (.int .i64 gJ)) (fun _ hk=>hk.2) (.bool fe)) (fun _ h_=>h_.1))) (by decide)) hk (fun _ h=>h.2)) (fun _ h=>h.1));replace ay:=Ah (aM.blk hk (g':=fg) (o:= .cells #[.slice none 0 0] 25 (0,0)) (bf ay p9) ij.out (by simp));replace ag:=Ah (aM.blk hk (g':=fb) (o:= .cells #[.slice mF aq.length mG] 25 (0,0)) (bf ag pA) gN.out (by simp));replace bj:=Ah (aM.blk hk (g':=fL) (o:= .cells #[.slice mF aq.length mG] 25 (0,0)) (bf bj mN) k7.out (by simp));replace ck:=Ah (aM.blk hk (g':=cS) (o:= .cells #[.int .i64 fw,.int .i64 ev,.int .i64 gJ,.bool fe] 65 (0,0)) (by(with_reducible repeat(first|refine aD ?_ _|refine Z ?_|refine aC ?_ _));refine aj (cs:= #[.int .i64 fw,.int .i64 ev,.int .i64 gJ,.bool false]) ?_ 3 _ rfl;(with_reducible repeat(first|refine aD ?_ _|refine Z ?_|refine aC ?_ _));refine aj (cs:= #[.int .i64 fw,.int .i64 ev,.int .i64 0,.bool false]) ?_ 2 _ rfl;(with_reducible repeat(first|refine aD ?_ _|refine Z ?_|refine aC ?_ _));refine aj (cs:= #[.int .i64 fw,.int .i64 0,.int .i64 0,.bool false]) ?_ 1 _ rfl;(with_reducible repeat(first|refine aD ?_ _|refine Z ?_|refine aC ?_ _));refine aj (cs:= #[.int .i64 0,.int .i64 0,.int .i64 0,.bool false]) ?_ 0 _ rfl;(with_reducible repeat(first|refine aD ?_ _|refine Z ?_|refine aC ?_ _));exact ck.out) lR.out (by simp));replace HK:=Ah (aM.trans (gT HK cn d5 ep g7) hk (.inl rfl));replace HB:=Ah (hb);replace HI0:=Ah (hi);(try clear hb hk hi)))
    have aa:=Ah (Kd.al ak.out);have ab:=Ah (Z ay.out);have ac:=Ah (Z ag.out);have ae:=Ah (Z bj.out);have bK:=Ah (Z ck.out);have bP:=Ah (Y.drew HI0.out);have ew:=Ah (vq HK.out);have fC:=Ah (fO HB.out);clear ak ay ag bj ck HI0 HK HB;have ak:=aa;have ay:=ab;have ag:=ac;have bj:=ae;have ck:=bK;have HI0:=bP;have HK:=ew;have HB:=fC;clear aa ab ac ae bK bP ew fC;refine iY (n:=12) (S:=fun w'=>w'.cell? ⟨fb,0,none⟩=some (.slice mF aq.length mG)) (ds:=[]) #[false,false,false,false,false,false,false,false,false,false,false,false] (by kernel_rfl) rfl rfl ((bC ag.out 0).trans rfl) (fun hHeld=> ?_);refine ig bV.tab13 bV.bits13 (fun X cV=> ?_)
    generalize w86.drew=w87 at ak ay ag bj ck HI0 HK HB hHeld⊢
    refine aN 1 44 X.out ?_;refine aN 3 46 X.out ?_;have H:=H_.out;clear H_
    by_cases mK:t367=true
    rotate_left
    ·
     replace mK:=dn.mpr mK;subst mK;rw[if_neg dV]at H;have H':=Ah H;clear H;refine sH (i:=0) (N:=some 43) (v:= ?_) (a':= ?_) #[true,true,false,true,false,false,false,false,false,false,false,false] rfl rfl (wD X.out cV.out (by kernel_rfl)) (fun _ _ _ h=>h) (Or.inl ⟨by rfl, ?_⟩) hHeld ?_ ?_;rotate_left
     ·
      intro w' s0
      go_simp
      with_reducible rfl
     rotate_left
     ·
      simp only[aab,Ok,bY,dl,cz,dS]
      rfl
     refine ga (i:=2) (N:=some 45) #[true,true,true,true,false,false,false,false,false,false,false,false] rfl rfl (fy X.out (by kernel_rfl)) (by decide) (fun K hK=> ?_);refine il aar (by kernel_rfl) rfl #[.pointer (some ⟨g,0,none⟩),.int .i64 30] (by rfl) rfl rfl (by(try simp only[aag,aan,aas]);first|done|rfl|(simp only[gy,ao];rfl)) ?_
     with_reducible refine(ct.calls g av mD mE 30 Fs Ft Fu w0 _ ?a8 ?a9 Pd.out).mono ?_
     (case a8=>exact Y.gK HI0 cH bv dr fD);(case a9=>exact dc HB eC eK gf iU);rintro e w113 ⟨rfl,hi,hb,hk⟩;refine⟨_,rfl, ?_⟩;have aa:=Ah (Kd.aY (Kd.gO (Y.apart (show Y w0 _ g av mD mE from Y.gK HI0 cH bv dr fD) (rr ak.out) (by decide)) hk (fun _ h=>h.2)) (fun _ h=>h.1));have ab:=Ah (aM.blk hk (g':=fg) (o:= .cells #[.slice none 0 0] 25 (0,0)) (bk ay) ij.out (by simp));have ac:=Ah (aM.blk hk (g':=fb) (o:= .cells #[.slice mF aq.length mG] 25 (0,0)) (bk ag) gN.out (by simp));have ae:=Ah (aM.blk hk (g':=fL) (o:= .cells #[.slice mF aq.length mG] 25 (0,0)) (bk bj) k7.out (by simp));have bK:=Ah (aM.blk hk (g':=cS) (o:= .cells #[.int .i64 fw,.int .i64 ev,.int .i64 gJ,.bool fe] 65 (0,0)) (bk ck) lR.out (by simp));have bP:=Ah (aM.trans (gT HK cn d5 ep g7) hk (.inl rfl));have ew:=Ah (hb);have fC:=Ah (hi);clear ak ay ag bj ck HK HB HI0;have ak:=aa;have ay:=ab;have ag:=ac;have bj:=ae;have ck:=bK;have HK:=bP;have HB:=ew;have HI0:=fC;clear aa ab ac ae bK bP ew fC;(try clear hb);(try clear hb2);(try clear hk);(try clear hi);refine hK.out _ _ ((bC ag.out 0).trans rfl) (fun hHeld=> ?_);clear hK K;refine hU (a':= ?_) ?_ ?_;rotate_left
     ·
      show aab _ (some 45) _=_
      simp only[aab,Ok,bY,dl,cz,dS]
      rfl
     refine ga (i:=4) (N:=some 47) #[true,true,true,true,true,false,false,false,false,false,false,false] rfl rfl (fy X.out (by kernel_rfl)) (by decide) (fun K hK=> ?_);refine il aar (by kernel_rfl) rfl #[.pointer (some ⟨g,0,none⟩),.int .i64 3] (by rfl) rfl rfl (by(try simp only[aag,aan,aas]);first|done|rfl|(simp only[gy,ao];rfl)) ?_
     with_reducible refine(ct.calls g av Ft Fu 3 Fv Oz P0 w0 _ ?a8 ?a9 Pe.out).mono ?_
     (case a8=>exact Y.gK HI0 cH bv dr fD);(case a9=>exact dc HB eC eK gf iU);rintro e w114 ⟨rfl,hi,hb,hk⟩;refine⟨_,rfl, ?_⟩;have aa:=Ah (Kd.aY (Kd.gO (Y.apart (show Y w0 _ g av Ft Fu from Y.gK HI0 cH bv dr fD) (rr ak.out) (by decide)) hk (fun _ h=>h.2)) (fun _ h=>h.1));have ab:=Ah (aM.blk hk (g':=fg) (o:= .cells #[.slice none 0 0] 25 (0,0)) (bk ay) ij.out (by simp));have ac:=Ah (aM.blk hk (g':=fb) (o:= .cells #[.slice mF aq.length mG] 25 (0,0)) (bk ag) gN.out (by simp));have ae:=Ah (aM.blk hk (g':=fL) (o:= .cells #[.slice mF aq.length mG] 25 (0,0)) (bk bj) k7.out (by simp));have bK:=Ah (aM.blk hk (g':=cS) (o:= .cells #[.int .i64 fw,.int .i64 ev,.int .i64 gJ,.bool fe] 65 (0,0)) (bk ck) lR.out (by simp));have bP:=Ah (aM.trans (gT HK cn d5 ep g7) hk (.inl rfl));have ew:=Ah (hb);have fC:=Ah (hi);clear ak ay ag bj ck HK HB HI0;have ak:=aa;have ay:=ab;have ag:=ac;have bj:=ae;have ck:=bK;have HK:=bP;have HB:=ew;have HI0:=fC;clear aa ab ac ae bK bP ew fC;(try clear hb);(try clear hb2);(try clear hk);(try clear hi);refine hK.out _ _ ((bC ag.out 0).trans rfl) (fun hHeld=> ?_);clear hK K;refine hU (a':= ?_) ?_ ?_;rotate_left
     ·
      show aab _ (some 47) _=_
      simp only[aab,Ok,bY,dl,cz,dS]
      rfl
     refine aN 5 48 X.out ?_;refine ga (i:=6) (N:=some 49) #[true,true,true,true,true,true,true,false,false,false,false,false] rfl rfl (fy X.out (by kernel_rfl)) (by decide) (fun K hK=> ?_);refine il Try.func15 (by kernel_rfl) rfl #[.agg #[.slice mF aq.length mG],.int .i64 Fs,.int .i64 (LS (1+Fv))] (by rfl) rfl rfl (by(try simp only[aag,aan,aas]);first|done|rfl|(simp only[gy,ao];rfl)) ?_
     with_reducible refine(eY.calls k1 _ _ aq Fs (LS (1+Fv)) DA false _ ?a8 ?a9 A68.out).mono ?_
     (case a8=>exact fB ak);(case a9=>exact(Kd.af ak.out).2.1);rintro e w115 ⟨v365,rfl,ho0,hb⟩;refine⟨_,rfl, ?_⟩;have aa:=Ah (Kd.eZ (rr ak.out) (Kd.eX ho0) hb);have ab:=Ah (Kd.dD (Kd.qn (Kd.ec ho0 (Kd.dU (rr ak.out))) (g:=cS) (o:= .cells #[.int .i64 fw,.int .i64 ev,.int .i64 gJ,.bool fe] 65 (0,0)) (bk ck)) (gn (w:=w) (g:=g) (row:=none) (gT HK cn d5 ep g7)));have ac:=Ah (bb ay hb);have ae:=Ah (bb ag hb);have bK:=Ah (Y.below (Y.gK HI0 cH bv dr fD) hb);have bP:=Ah (bb bj hb);have ew:=Ah (bb ck hb);have fC:=Ah (aM.trans (gT HK cn d5 ep g7) (aM.of_below hb g none) (.inl rfl));have lq:=Ah (aK (dc HB eC eK gf iU) hb);clear ak ay ag HI0 bj ck HK HB;have ak:=aa;have Nv:=ab;have ay:=ac;have ag:=ae;have HI0:=bK;have bj:=bP;have ck:=ew;have HK:=fC;have HB:=lq;clear aa ab ac ae bK bP ew fC lq;(try clear hb);(try clear hb2);(try clear hk);(try clear hi);(try clear ho0);obtain⟨Ao116,co116,a2N⟩:=Kd.bq Nv.out;(first|subst a2N|(injection a2N with kc oc kd;have oe:=kc.symm;have oh:=kd.symm;clear kc oc kd;subst oe;subst oh));refine hK.out _ _ ((bC ag.out 0).trans rfl) (fun hHeld=> ?_);clear hK K;refine hU (a':= ?_) ?_ ?_;rotate_left
     ·
      show aab _ (some 49) _=_
      simp only[aab,Ok,bY,dl,cz,dS]
      rfl
     refine aN 7 42 X.out ?_;refine aN 8 50 X.out ?_;refine aN 9 51 X.out ?_;refine ga (i:=10) (N:=none) #[true,true,true,true,true,true,true,true,true,true,true,false] rfl rfl (fy X.out (by kernel_rfl)) (by decide) (fun K hK=> ?_);have hs117:w115.cell? ⟨fL,0,none⟩=some (.slice mF aq.length mG):=(bC bj.out 0).trans rfl;have hfs117:=ff bj.out 0;have hns117_0:=jm.out;have hns117_1:=jA.out;have hns117_3:=qK.out;have hms117_0:=qI.out;have hms117_1:=qJ.out;have hms117_3:=mN.out;refine oG (w1:= ?_) (by rfl) rfl ?_ ?_;rotate_left
     ·
      go_simp
      rfl
     refine hK.out _ _ (((ex (p:=⟨fL,_,none⟩) jA.out _).trans (hHeld))) (fun hHeld=> ?_);clear hK K;refine aN 11 7 X.out ?_;refine i9 (iD X.out (by kernel_rfl)) ?_
     try go_wp2
     go_roundg k1
     case measure=>have:=bU.out;omega
     case rel=>exact⟨(eV),(LS (aA-1)),(Oz),(P0),(aq),(.slice mF aq.length mG),e3,e3,H',⟨by have:=bU.out;omega⟩,⟨by(with_reducible repeat(first|apply Kd.bG|apply Kd.bE|apply Kd.al));exact Kd.aY (Kd.aQ (p:=⟨fL,0,none⟩) (Kd.cl ak.out bj.out (by decide)) (fun _ hk=>hk.2) (.slice Ao116 DA.length co116)) (fun _ hk=>trivial)⟩,⟨bf ay jm⟩,⟨bf ag jA⟩,⟨Y.gK HI0 cH bv dr fD⟩,⟨gT HK cn d5 ep g7⟩,⟨dc HB eC eK gf iU⟩⟩
    subst mK;rw[if_pos rfl]at H;have H':=Ah H;clear H;refine sH (i:=0) (N:=some 43) (v:= ?_) (a':= ?_) #[true,true,false,true,false,false,false,false,false,false,false,false] rfl rfl (wD X.out cV.out (by kernel_rfl)) (fun _ _ _ h=>h) (Or.inl ⟨by rfl, ?_⟩) hHeld ?_ ?_;rotate_left
    ·
     intro w' s0
     go_simp
     with_reducible rfl
    rotate_left
    ·
     simp only[aab,Ok,bY,dl,cz,dS]
     rfl
    refine ga (i:=2) (N:=some 45) #[true,true,true,true,false,false,false,false,false,false,false,false] rfl rfl (fy X.out (by kernel_rfl)) (by decide) (fun K hK=> ?_);refine il aar (by kernel_rfl) rfl #[.pointer (some ⟨g,0,none⟩),.int .i64 30] (by rfl) rfl rfl (by(try simp only[aag,aan,aas]);first|done|rfl|(simp only[gy,ao];rfl)) ?_
    with_reducible refine(ct.calls g av mD mE 30 Fs Ft Fu w0 _ ?a8 ?a9 Pd.out).mono ?_
    (case a8=>exact Y.gK HI0 cH bv dr fD);(case a9=>exact dc HB eC eK gf iU);rintro e w88 ⟨rfl,hi,hb,hk⟩;refine⟨_,rfl, ?_⟩;have aa:=Ah (Kd.aY (Kd.gO (Y.apart (show Y w0 _ g av mD mE from Y.gK HI0 cH bv dr fD) (rr ak.out) (by decide)) hk (fun _ h=>h.2)) (fun _ h=>h.1));have ab:=Ah (aM.blk hk (g':=fg) (o:= .cells #[.slice none 0 0] 25 (0,0)) (bk ay) ij.out (by simp));have ac:=Ah (aM.blk hk (g':=fb) (o:= .cells #[.slice mF aq.length mG] 25 (0,0)) (bk ag) gN.out (by simp));have ae:=Ah (aM.blk hk (g':=fL) (o:= .cells #[.slice mF aq.length mG] 25 (0,0)) (bk bj) k7.out (by simp));have bK:=Ah (aM.blk hk (g':=cS) (o:= .cells #[.int .i64 fw,.int .i64 ev,.int .i64 gJ,.bool fe] 65 (0,0)) (bk ck) lR.out (by simp));have bP:=Ah (aM.trans (gT HK cn d5 ep g7) hk (.inl rfl));have ew:=Ah (hb);have fC:=Ah (hi);clear ak ay ag bj ck HK HB HI0;have ak:=aa;have ay:=ab;have ag:=ac;have bj:=ae;have ck:=bK;have HK:=bP;have HB:=ew;have HI0:=fC;clear aa ab ac ae bK bP ew fC;(try clear hb);(try clear hb2);(try clear hk);(try clear hi);refine hK.out _ _ ((bC ag.out 0).trans rfl) (fun hHeld=> ?_);clear hK K;refine hU (a':= ?_) ?_ ?_;rotate_left
    ·
     show aab _ (some 45) _=_
     simp only[aab,Ok,bY,dl,cz,dS]
     rfl
    refine ga (i:=4) (N:=some 47) #[true,true,true,true,true,false,false,false,false,false,false,false] rfl rfl (fy X.out (by kernel_rfl)) (by decide) (fun K hK=> ?_);refine il aar (by kernel_rfl) rfl #[.pointer (some ⟨g,0,none⟩),.int .i64 3] (by rfl) rfl rfl (by(try simp only[aag,aan,aas]);first|done|rfl|(simp only[gy,ao];rfl)) ?_
    with_reducible refine(ct.calls g av Ft Fu 3 Fv Oz P0 w0 _ ?a8 ?a9 Pe.out).mono ?_
    (case a8=>exact Y.gK HI0 cH bv dr fD);(case a9=>exact dc HB eC eK gf iU);rintro e w89 ⟨rfl,hi,hb,hk⟩;refine⟨_,rfl, ?_⟩;have aa:=Ah (Kd.aY (Kd.gO (Y.apart (show Y w0 _ g av Ft Fu from Y.gK HI0 cH bv dr fD) (rr ak.out) (by decide)) hk (fun _ h=>h.2)) (fun _ h=>h.1));have ab:=Ah (aM.blk hk (g':=fg) (o:= .cells #[.slice none 0 0] 25 (0,0)) (bk ay) ij.out (by simp));have ac:=Ah (aM.blk hk (g':=fb) (o:= .cells #[.slice mF aq.length mG] 25 (0,0)) (bk ag) gN.out (by simp));have ae:=Ah (aM.blk hk (g':=fL) (o:= .cells #[.slice mF aq.length mG] 25 (0,0)) (bk bj) k7.out (by simp));have bK:=Ah (aM.blk hk (g':=cS) (o:= .cells #[.int .i64 fw,.int .i64 ev,.int .i64 gJ,.bool fe] 65 (0,0)) (bk ck) lR.out (by simp));have bP:=Ah (aM.trans (gT HK cn d5 ep g7) hk (.inl rfl));have ew:=Ah (hb);have fC:=Ah (hi);clear ak ay ag bj ck HK HB HI0;have ak:=aa;have ay:=ab;have ag:=ac;have bj:=ae;have ck:=bK;have HK:=bP;have HB:=ew;have HI0:=fC;clear aa ab ac ae bK bP ew fC;(try clear hb);(try clear hb2);(try clear hk);(try clear hi);refine hK.out _ _ ((bC ag.out 0).trans rfl) (fun hHeld=> ?_);clear hK K;refine hU (a':= ?_) ?_ ?_;rotate_left
    ·
     show aab _ (some 47) _=_
     simp only[aab,Ok,bY,dl,cz,dS]
     rfl
    refine aN 5 48 X.out ?_;refine ga (i:=6) (N:=some 49) #[true,true,true,true,true,true,true,false,false,false,false,false] rfl rfl (fy X.out (by kernel_rfl)) (by decide) (fun K hK=> ?_);refine il Try.func15 (by kernel_rfl) rfl #[.agg #[.slice mF aq.length mG],.int .i64 Fs,.int .i64 (LS (1+Fv))] (by rfl) rfl rfl (by(try simp only[aag,aan,aas]);first|done|rfl|(simp only[gy,ao];rfl)) ?_
    with_reducible refine(eY.calls k1 _ _ aq Fs (LS (1+Fv)) DA true _ ?a8 ?a9 A68.out).mono ?_
    (case a8=>exact fB ak);(case a9=>exact(Kd.af ak.out).2.1);rintro e w90 ⟨v365,rfl,ho0,hb⟩;refine⟨_,rfl, ?_⟩;have aa:=Ah (Kd.eZ (rr ak.out) (Kd.eX ho0) hb);have ab:=Ah (Kd.dD (Kd.qn (Kd.ec ho0 (Kd.dU (rr ak.out))) (g:=cS) (o:= .cells #[.int .i64 fw,.int .i64 ev,.int .i64 gJ,.bool fe] 65 (0,0)) (bk ck)) (gn (w:=w) (g:=g) (row:=none) (gT HK cn d5 ep g7)));have ac:=Ah (bb ay hb);have ae:=Ah (bb ag hb);have bK:=Ah (Y.below (Y.gK HI0 cH bv dr fD) hb);have bP:=Ah (bb bj hb);have ew:=Ah (bb ck hb);have fC:=Ah (aM.trans (gT HK cn d5 ep g7) (aM.of_below hb g none) (.inl rfl));have lq:=Ah (aK (dc HB eC eK gf iU) hb);clear ak ay ag HI0 bj ck HK HB;have ak:=aa;have Nv:=ab;have ay:=ac;have ag:=ae;have HI0:=bK;have bj:=bP;have ck:=ew;have HK:=fC;have HB:=lq;clear aa ab ac ae bK bP ew fC lq;(try clear hb);(try clear hb2);(try clear hk);(try clear hi);(try clear ho0);obtain⟨KQ,KR,P1⟩:=Kd.bq Nv.out;(first|subst P1|(injection P1 with kc oc kd;have oe:=kc.symm;have oh:=kd.symm;clear kc oc kd;subst oe;subst oh));refine hK.out _ _ ((bC ag.out 0).trans rfl) (fun hHeld=> ?_);clear hK K;refine hU (a':= ?_) ?_ ?_;rotate_left
    ·
     show aab _ (some 49) _=_
     simp only[aab,Ok,bY,dl,cz,dS]
     rfl
    refine aN 7 42 X.out ?_;refine aN 8 50 X.out ?_;refine aN 9 51 X.out ?_;refine ga (i:=10) (N:=none) #[true,true,true,true,true,true,true,true,true,true,true,false] rfl rfl (fy X.out (by kernel_rfl)) (by decide) (fun K hK=> ?_);have hs92:w90.cell? ⟨fL,0,none⟩=some (.slice mF aq.length mG):=(bC bj.out 0).trans rfl;have hfs92:=ff bj.out 0;have hns92_0:=jm.out;have hns92_1:=jA.out;have hns92_3:=qK.out;have hms92_0:=qI.out;have hms92_1:=qJ.out;have hms92_3:=mN.out;refine oG (w1:= ?_) (by rfl) rfl ?_ ?_;rotate_left
    ·
     go_simp
     rfl
    refine hK.out _ _ (((ex (p:=⟨fL,_,none⟩) jA.out _).trans (hHeld))) (fun hHeld=> ?_);clear hK K;refine aN 11 7 X.out ?_;refine i9 (iD X.out (by kernel_rfl)) ?_;have Rh:=ap bj;have Rj:=an bj;have Zb:=ap ag;have Zg:=an ag
    try go_wp2
    go_roundg k1
    case measure=>have:=bU.out;omega
    case rel=>exact⟨(eV),(LS (aA-1)),(Oz),(P0),(DA),(.slice KQ DA.length KR),e3,e3,H',⟨by have:=bU.out;omega⟩,⟨by(with_reducible repeat(first|apply Kd.bG|apply Kd.bE|apply Kd.al));exact Kd.aY (Kd.aQ (p:=⟨fb,0,none⟩) (Kd.aQ (p:=⟨fL,0,none⟩) (Kd.cl (Kd.cl Nv.out bj.out (by decide)) ag.out (by decide)) (fun _ hk=>hk.1.2) (.slice KQ DA.length KR)) (fun _ hk=>hk.2) (.slice KQ DA.length KR)) (fun _ hk=>trivial)⟩,⟨by(with_reducible repeat(first|refine aD ?_ _|refine Z ?_|refine aC ?_ _));refine gc ?_ lv.out _;(with_reducible repeat(first|refine aD ?_ _|refine Z ?_|refine aC ?_ _));refine gc ?_ jm.out _;(with_reducible repeat(first|refine aD ?_ _|refine Z ?_|refine aC ?_ _));exact ay.out⟩,⟨by(with_reducible repeat(first|refine aD ?_ _|refine Z ?_|refine aC ?_ _));refine aj (cs:= #[.slice mF aq.length mG]) ?_ 0 _ rfl;(with_reducible repeat(first|refine aD ?_ _|refine Z ?_|refine aC ?_ _));refine gc ?_ jA.out _;(with_reducible repeat(first|refine aD ?_ _|refine Z ?_|refine aC ?_ _));exact ag.out⟩,⟨Y.gK HI0 cH bv dr fD⟩,⟨gT HK cn d5 ep g7⟩,⟨dc HB eC eK gf iU⟩⟩
   rw[if_neg yB]at H;have TY:(ln==1)=false:=beq_eq_false_iff_ne.mpr yB;have TZ:(ln !=1)=true:=bne_iff_ne.mpr yB;have Nf:=Ah H;clear H;have hnb119:=p8.out;have hnc119:=lv.out;have hnb120:=gN.out;have hnc120:=bv.out;have Ya:=ap ag;have Yf:=an ag
   go_upto_if 52 with(first|((with_reducible refine ax (N:=6) rfl ?_);refine bA 6 25 #[.slice none 0 0] ?_;intro fL hg w122 bj hb;replace ak:=nr ak hb;replace HB:=Ah (aK (aW HB eC eK) hb);have ep:=Ah ((by rw[hg];exact(gn (w:=w) (g:=g) (row:=none) (hZ HK cn d5)):w.heap.size≤fL));have gf:=Ah ((aax HW0.out (by rw[hg];exact(gn (w:=w) (g:=g) (row:=none) (hZ HK cn d5)):w.heap.size≤fL):w0.heap.size≤fL));replace HK:=Ah (aM.trans (hZ HK cn d5) (aM.of_below hb g none) (.inl rfl));have jm:=nn ay hg;have qI:=nm ay hg;replace ay:=nb ay hb;have jA:=nn ag hg;have qJ:=nm ag hg;replace ag:=nb ag hb;have dr:=Ah ((by rw[hg];exact aaI (Y.lt (show Y w0 _ g av mQ mR from Y.eE HI0 cH bv)):g≠fL));have k7:=Ah ((by rw[hg];exact aaJ (Y.lt (show Y w0 _ g av mQ mR from Y.eE HI0 cH bv)):fL≠g));replace HI0:=Ah (Y.below (Y.eE HI0 cH bv) hb);clear hb hg;obtain⟨ng,mU,eo123⟩:=Kd.bq ak.out;subst eo123;have hnb124:=qI.out;have hnc124:=jm.out;have hnb125:=qJ.out;have hnc125:=jA.out;have hnb126:=k7.out;have hnc126:=dr.out;have wE:=ap bj;have wF:=an bj)|((with_reducible refine bJ (f:=41) rfl ?_);refine gL (some 19) rfl rfl Try.func41 (by kernel_rfl) rfl #[.pointer (some ⟨g,0,none⟩)] rfl ?_;(with_reducible refine(yD.calls g av mQ mR fw ev gJ fe oS oT w0 _ ?a8 ?a9 yA.out).mono ?_);(case a8=>exact Y.iQ HI0 cH bv dr);(case a9=>exact bX HB eC eK gf);rintro e a3H ⟨rfl,hi,hb,hk⟩;refine⟨_,rfl, ?_⟩;replace ak:=Ah (Kd.aY (Kd.gO (Y.apart (show Y w0 _ g av mQ mR from Y.iQ HI0 cH bv dr) (rf ak bj) (by decide)) hk (fun _ h=>h.2)) (fun _ h=>h.1));replace ay:=Ah (aM.blk hk (g':=fg) (o:= .cells #[.slice none 0 0] 25 (0,0)) (bf ay jm) ij.out (by simp));replace ag:=Ah (aM.blk hk (g':=fb) (o:= .cells #[.slice ng aq.length mU] 25 (0,0)) (bf ag jA) gN.out (by simp));replace bj:=Ah (aM.blk hk (g':=fL) (o:= .cells #[.slice ng aq.length mU] 25 (0,0)) (by(with_reducible repeat(first|refine aD ?_ _|refine Z ?_|refine aC ?_ _));refine aj (cs:= #[.slice none 0 0]) ?_ 0 _ rfl;(with_reducible repeat(first|refine aD ?_ _|refine Z ?_|refine aC ?_ _));exact bj.out) k7.out (by simp));replace HK:=Ah (aM.trans (oZ HK cn d5 ep) hk (.inl rfl));replace HB:=Ah (hb);replace HI0:=Ah (hi);(try clear hb hk hi))|((with_reducible refine ax (N:=8) rfl ?_);refine bA 8 65 #[.int .i64 0,.int .i64 0,.int .i64 0,.bool false] ?_;intro cS hg w129 ck hb;replace ak:=Ah (Kd.eO (Kd.gD (rr ak.out) cS (aaj hg.symm)) hb);replace HB:=Ah (aK (bX HB eC eK gf) hb);have g7:=Ah ((by rw[hg];exact(gn (w:=w) (g:=g) (row:=none) (oZ HK cn d5 ep)):w.heap.size≤cS));have iU:=Ah ((aax HW0.out (by rw[hg];exact(gn (w:=w) (g:=g) (row:=none) (oZ HK cn d5 ep)):w.heap.size≤cS):w0.heap.size≤cS));replace HK:=Ah (aM.trans (oZ HK cn d5 ep) (aM.of_below hb g none) (.inl rfl));have p9:=nn ay hg;have vy:=nm ay hg;replace ay:=nb ay hb;have pA:=nn ag hg;have vz:=nm ag hg;replace ag:=nb ag hb;have mN:=nn bj hg;have qK:=nm bj hg;replace bj:=nb bj hb;have fD:=Ah ((by rw[hg];exact aaI (Y.lt (show Y w0 _ g av oS oT from Y.iQ HI0 cH bv dr)):g≠cS));have lR:=Ah ((by rw[hg];exact aaJ (Y.lt (show Y w0 _ g av oS oT from Y.iQ HI0 cH bv dr)):cS≠g));replace HI0:=Ah (Y.below (Y.iQ HI0 cH bv dr) hb);clear hb hg;have hnb130:=vy.out;have hnc130:=p9.out;have hnb131:=vz.out;have hnc131:=pA.out;have hnb132:=qK.out;have hnc132:=mN.out;have hnb133:=lR.out;have hnc133:=fD.out;obtain⟨Yb,Yc,Yd,Ye⟩:=cA ck;obtain⟨Yg,Yh,Yi,Yj⟩:=cB ck)|((with_reducible refine bJ (f:=21) rfl ?_);refine gL (some 21) rfl rfl aar (by kernel_rfl) rfl #[.pointer (some ⟨g,0,none⟩),.int .i64 6] rfl ?_;(with_reducible refine(ct.calls g av oS oT 6 ln mD mE w0 _ ?a8 ?a9 GF.out).mono ?_);(case a8=>exact Y.gK HI0 cH bv dr fD);(case a9=>exact dc HB eC eK gf iU);rintro e w135 ⟨rfl,hi,hb,hk⟩;refine⟨_,rfl, ?_⟩;replace ak:=Ah (Kd.aY (Kd.gO (Y.apart (show Y w0 _ g av oS oT from Y.gK HI0 cH bv dr fD) (by(with_reducible repeat(first|apply Kd.bG|apply Kd.bE|apply Kd.al));exact(Kd.aY (Kd.aQ (p:=⟨cS,3,none⟩) (Kd.aQ (p:=⟨cS,2,none⟩) (Kd.aQ (p:=⟨cS,1,none⟩) (Kd.aQ (p:=⟨cS,0,none⟩) (Kd.aY ak.out (fun k_ hk=>(⟨hk,hk.2⟩:_∧k_≠cS))) (fun _ hk=>hk.2) (.int .i64 fw)) (fun _ hk=>hk.2) (.int .i64 ev)) (fun _ hk=>hk.2) (.int .i64 gJ)) (fun _ hk=>hk.2) (.bool fe)) (fun _ h_=>h_.1))) (by decide)) hk (fun _ h=>h.2)) (fun _ h=>h.1));replace ay:=Ah (aM.blk hk (g':=fg) (o:= .cells #[.slice none 0 0] 25 (0,0)) (bf ay p9) ij.out (by simp));replace ag:=Ah (aM.blk hk (g':=fb) (o:= .cells #[.slice ng aq.length mU] 25 (0,0)) (bf ag pA) gN.out (by simp));replace bj:=Ah (aM.blk hk (g':=fL) (o:= .cells #[.slice ng aq.length mU] 25 (0,0)) (bf bj mN) k7.out (by simp));replace ck:=Ah (aM.blk hk (g':=cS) (o:= .cells #[.int .i64 fw,.int .i64 ev,.int .i64 gJ,.bool fe] 65 (0,0)) (by(with_reducible repeat(first|refine aD ?_ _|refine Z ?_|refine aC ?_ _));refine aj (cs:= #[.int .i64 fw,.int .i64 ev,.int .i64 gJ,.bool false]) ?_ 3 _ rfl;(with_reducible repeat(first|refine aD ?_ _|refine Z ?_|refine aC ?_ _));refine aj (cs:= #[.int .i64 fw,.int .i64 ev,.int .i64 0,.bool false]) ?_ 2 _ rfl;(with_reducible repeat(first|refine aD ?_ _|refine Z ?_|refine aC ?_ _));refine aj (cs:= #[.int .i64 fw,.int .i64 0,.int .i64 0,.bool false]) ?_ 1 _ rfl;(with_reducible repeat(first|refine aD ?_ _|refine Z ?_|refine aC ?_ _));refine aj (cs:= #[.int .i64 0,.int .i64 0,.int .i64 0,.bool false]) ?_ 0 _ rfl;(with_reducible repeat(first|refine aD ?_ _|refine Z ?_|refine aC ?_ _));exact ck.out) lR.out (by simp));replace HK:=Ah (aM.trans (gT HK cn d5 ep g7) hk (.inl rfl));replace HB:=Ah (hb);replace HI0:=Ah (hi);(try clear hb hk hi)))
   (try simp only[aab,Ok,bY,dl])
   go_cut [52] (fun v52 wc=>∃ (kq:Nat) (MS:Bool),v52= .bool MS∧U (bV.j1 kq eV aA MS av mD mE aq fw ev gJ fe=some (r1,r2,r3))∧U (kq≤k1)∧U (Kd.R b7 65 wc w.heap.size (fun k_=>k_≠cS) (.slice ng aq.length mU) aq)∧U (Kd.R b7 65 wc w.heap.size (fun k_=>k_≠cS) (.slice ng aq.length mU) aq)∧U (wc.heap[fg]?=some (.cells #[(.slice none 0 0)] 25 (0,0)))∧U (wc.heap[fb]?=some (.cells #[(.slice ng aq.length mU)] 25 (0,0)))∧U (wc.heap[fL]?=some (.cells #[(.slice ng aq.length mU)] 25 (0,0)))∧U (wc.heap[cS]?=some (.cells #[.int .i64 fw,.int .i64 ev,.int .i64 gJ,.bool fe] 65 (0,0)))∧U (Y w0 wc g av mD mE)∧U (aM w wc g none)∧U (Below w0.heap.size w0 wc))
   case first=>
    have H:=Nf.out;clear Nf
    by_cases pn:ln=2
    rotate_left
    ·
     rw[if_neg pn]at H;have C6:(ln==2)=false:=beq_eq_false_iff_ne.mpr pn;have SA:(ln !=2)=true:=bne_iff_ne.mpr pn;(first|rw[C6]|(simp only[cz,dS];rw[C6])|(simp only[c136b2,aaz,aaC])|skip);have H':=Ah H;clear H
     go_wp2
     go_meet
     case rel=>exact⟨_,((ln==3)),e3,H',⟨by have:=bU.out;first|omega|exact bx _⟩,rm ak (fun _ hk=>hk.2),rm ak (fun _ hk=>hk.2),⟨bk ay⟩,⟨bk ag⟩,⟨bk bj⟩,⟨bk ck⟩,⟨Y.gK HI0 cH bv dr fD⟩,⟨gT HK cn d5 ep g7⟩,⟨dc HB eC eK gf iU⟩⟩
    rw[if_pos pn]at H;have C6:(ln==2)=true:=beq_iff_eq.mpr pn;have SA:(ln !=2)=false:=bne_eq_false_iff_eq.mpr pn;clear pn;(first|rw[C6]|(simp only[cz,dS];rw[C6])|(simp only[c136b2,aaz,aaC])|skip);have H':=Ah H;clear H
    go_wp2
    go_meet
    case rel=>exact⟨_,((ln==2)),e3,H',⟨by have:=bU.out;first|omega|exact bx _⟩,rm ak (fun _ hk=>hk.2),rm ak (fun _ hk=>hk.2),⟨bk ay⟩,⟨bk ag⟩,⟨bk bj⟩,⟨bk ck⟩,⟨Y.gK HI0 cH bv dr fD⟩,⟨gT HK cn d5 ep g7⟩,⟨dc HB eC eK gf iU⟩⟩
   case rest=>
    clear Nf
    try clear c1
    try clear c2
    try clear p2
    try clear c4
    try clear c6
    try clear p6
    try clear c7
    try clear c8
    try clear c9
    try clear c10
    try clear c11
    try clear c12
    try clear jR
    try clear vO
    try clear c13
    try clear c15
    try clear c21
    try clear c41
    try clear p64
    try clear yB
    try clear TY
    try clear TZ
    try clear mK
    try clear c70
    try clear ka
    try clear c75
    try clear c76
    try clear c77
    try clear c81
    try clear GE
    try clear xt
    try clear xu
    try clear xv
    try clear xw
    try clear xN
    try clear c101
    try clear Fk
    try clear n9
    try clear c107
    try clear xO
    try clear c109
    try clear c119
    try clear c120
    try clear c124
    try clear Ce
    try clear Cf
    try clear c130
    try clear c131
    try clear c132
    try clear c133
    try clear pn
    try clear C6
    try clear SA
    try clear hcz103_0
    try clear ur hcz110_1 hcz110_2 hcz110_3
    try clear Ya
    try clear wE
    try clear Yb Yc Yd Ye
    try clear Rg
    try clear Rb
    try clear ZX ZY ZZ Za
    try clear Rh
    try clear Zb
    try clear uy
    try clear hfz103_0
    try clear us hfz110_1 hfz110_2 hfz110_3
    try clear Yf
    try clear wF
    try clear Yg Yh Yi Yj
    try clear Ri
    try clear Rc
    try clear Zc Zd Ze Zf
    try clear Rj
    try clear Zg
    try clear vB
    obtain⟨kq,MS,rfl,HA,zR,ak,rt,ay,ag,bj,ck,HI0,HK,HB⟩:=hcut
    cases kq with
    |zero=>exact absurd HA.out (by simp[bV.j1])
    |succ zS=>
     have H:=HA.out;clear HA;simp only[bV.j1]at H
     by_cases vW:MS=true
     rotate_left
     ·
      replace vW:=dn.mpr vW;subst vW;rw[if_neg dV]at H;replace H:=LT.mp H;obtain⟨⟨DB,t375⟩,a2O,H⟩:=H
      try dsimp only at H
      have a5r:=Ah a2O;clear a2O
      by_cases po:t375=true
      rotate_left
      ·
       replace po:=dn.mpr po;subst po;rw[if_neg dV]at H;have H':=Ah H;clear H;have hnb188:=p8.out;have hnc188:=lv.out;have hnb189:=jA.out;have hnc189:=qJ.out;have hnb190:=pA.out;have hnc190:=vz.out;have hnb191:=gN.out;have hnc191:=bv.out;have hcz192_0:=ap ag;have hfz192_0:=an ag;have hnb193:=vy.out;have hnc193:=p9.out;have hnb194:=qK.out;have hnc194:=mN.out;have hnb195:=lR.out;have hnc195:=fD.out;obtain⟨hcz196_0,hcz196_1,hcz196_2,hcz196_3⟩:=cA ck;obtain⟨hfz196_0,hfz196_1,hfz196_2,hfz196_3⟩:=cB ck
       go_wp2_with (first|((with_reducible refine bJ (f:=42) rfl ?_);refine gL (some 25) rfl rfl Try.func42 (by kernel_rfl) rfl #[.agg #[.slice ng aq.length mU],.agg #[.int .i64 fw,.int .i64 ev,.int .i64 gJ,.bool fe]] rfl ?_;(with_reducible refine(eR.calls zS _ _ aq fw ev gJ fe DB false _ ?a8 ?a9 a5r.out).mono ?_);(case a8=>exact fB ak);(case a9=>exact(Kd.af ak.out).2.1);rintro e w197 ⟨v373,rfl,ho0,hb⟩;refine⟨_,rfl, ?_⟩;have Nw:=Ah (Kd.dD (Kd.qn (Kd.ec (Kd.ec ho0 (Kd.dU (rr ak.out))) (Kd.dU (rr rt.out))) (g:=cS) (o:= .cells #[.int .i64 fw,.int .i64 ev,.int .i64 gJ,.bool fe] 65 (0,0)) (bk ck)) (gn (w:=w) (g:=g) (row:=none) (gT HK cn d5 ep g7)));replace ak:=Ah (Kd.eZ (rr ak.out) (Kd.eX ho0) hb);replace rt:=Ah (Kd.eZ (rr rt.out) (Kd.eX ho0) hb);replace ay:=nb ay hb;replace ag:=nb ag hb;replace bj:=nb bj hb;replace ck:=nb ck hb;replace HK:=Ah (aM.trans (gT HK cn d5 ep g7) (aM.of_below hb g none) (.inl rfl));replace HB:=Ah (aK (dc HB eC eK gf iU) hb);replace HI0:=Ah (Y.below (Y.gK HI0 cH bv dr fD) hb);(try clear hb ho0);obtain⟨Ao198,co198,eo198⟩:=Kd.bq Nw.out;subst eo198;have hnb199:=qI.out;have hnc199:=jm.out;have hnb200:=k7.out;have hnc200:=dr.out;have hcz201_0:=ap bj;have hfz201_0:=an bj))
       go_roundg zS
       case measure=>have:=bU.out;have:=zR.out;omega
       case rel=>exact⟨(eV),(LS (aA-1)),(mD),(mE),(aq),(.slice ng aq.length mU),e3,e3,H',⟨by have:=bU.out;have:=zR.out;omega⟩,⟨by(with_reducible repeat(first|apply Kd.bG|apply Kd.bE|apply Kd.al));exact Kd.aY (Kd.aQ (p:=⟨fL,0,none⟩) (Kd.cl ak.out bj.out (by decide)) (fun _ hk=>hk.2) (.slice Ao198 DB.length co198)) (fun _ hk=>trivial)⟩,⟨bf ay jm⟩,⟨bf ag jA⟩,⟨Y.gK HI0 cH bv dr fD⟩,⟨gT HK cn d5 ep g7⟩,⟨dc HB eC eK gf iU⟩⟩
      subst po;rw[if_pos rfl]at H;have H':=Ah H;clear H;have hnb173:=p8.out;have hnc173:=lv.out;have hnb174:=jA.out;have hnc174:=qJ.out;have hnb175:=pA.out;have hnc175:=vz.out;have hnb176:=gN.out;have hnc176:=bv.out;have hcz177_0:=ap ag;have hfz177_0:=an ag;have hnb178:=vy.out;have hnc178:=p9.out;have hnb179:=qK.out;have hnc179:=mN.out;have hnb180:=lR.out;have hnc180:=fD.out;obtain⟨hcz181_0,hcz181_1,hcz181_2,hcz181_3⟩:=cA ck;obtain⟨hfz181_0,hfz181_1,hfz181_2,hfz181_3⟩:=cB ck
      go_wp2_with (first|((with_reducible refine bJ (f:=42) rfl ?_);refine gL (some 25) rfl rfl Try.func42 (by kernel_rfl) rfl #[.agg #[.slice ng aq.length mU],.agg #[.int .i64 fw,.int .i64 ev,.int .i64 gJ,.bool fe]] rfl ?_;(with_reducible refine(eR.calls zS _ _ aq fw ev gJ fe DB true _ ?a8 ?a9 a5r.out).mono ?_);(case a8=>exact fB ak);(case a9=>exact(Kd.af ak.out).2.1);rintro e w182 ⟨v373,rfl,ho0,hb⟩;refine⟨_,rfl, ?_⟩;have Nw:=Ah (Kd.dD (Kd.qn (Kd.ec (Kd.ec ho0 (Kd.dU (rr ak.out))) (Kd.dU (rr rt.out))) (g:=cS) (o:= .cells #[.int .i64 fw,.int .i64 ev,.int .i64 gJ,.bool fe] 65 (0,0)) (bk ck)) (gn (w:=w) (g:=g) (row:=none) (gT HK cn d5 ep g7)));replace ak:=Ah (Kd.eZ (rr ak.out) (Kd.eX ho0) hb);replace rt:=Ah (Kd.eZ (rr rt.out) (Kd.eX ho0) hb);replace ay:=nb ay hb;replace ag:=nb ag hb;replace bj:=nb bj hb;replace ck:=nb ck hb;replace HK:=Ah (aM.trans (gT HK cn d5 ep g7) (aM.of_below hb g none) (.inl rfl));replace HB:=Ah (aK (dc HB eC eK gf iU) hb);replace HI0:=Ah (Y.below (Y.gK HI0 cH bv dr fD) hb);(try clear hb ho0);obtain⟨Td,Te,eo183⟩:=Kd.bq Nw.out;subst eo183;have hnb184:=qI.out;have hnc184:=jm.out;have hnb185:=k7.out;have hnc185:=dr.out;have hcz186_0:=ap bj;have hfz186_0:=an bj;have hcz187_0:=ap ag;have hfz187_0:=an ag))
      go_roundg zS
      case measure=>have:=bU.out;have:=zR.out;omega
      case rel=>exact⟨(eV),(LS (aA-1)),(mD),(mE),(DB),(.slice Td DB.length Te),e3,e3,H',⟨by have:=bU.out;have:=zR.out;omega⟩,⟨by(with_reducible repeat(first|apply Kd.bG|apply Kd.bE|apply Kd.al));exact Kd.aY (Kd.aQ (p:=⟨fb,0,none⟩) (Kd.aQ (p:=⟨fL,0,none⟩) (Kd.cl (Kd.cl Nw.out bj.out (by decide)) ag.out (by decide)) (fun _ hk=>hk.1.2) (.slice Td DB.length Te)) (fun _ hk=>hk.2) (.slice Td DB.length Te)) (fun _ hk=>trivial)⟩,⟨by(with_reducible repeat(first|refine aD ?_ _|refine Z ?_|refine aC ?_ _));refine gc ?_ lv.out _;(with_reducible repeat(first|refine aD ?_ _|refine Z ?_|refine aC ?_ _));refine gc ?_ jm.out _;(with_reducible repeat(first|refine aD ?_ _|refine Z ?_|refine aC ?_ _));exact ay.out⟩,⟨by(with_reducible repeat(first|refine aD ?_ _|refine Z ?_|refine aC ?_ _));refine aj (cs:= #[.slice ng aq.length mU]) ?_ 0 _ rfl;(with_reducible repeat(first|refine aD ?_ _|refine Z ?_|refine aC ?_ _));refine gc ?_ jA.out _;(with_reducible repeat(first|refine aD ?_ _|refine Z ?_|refine aC ?_ _));exact ag.out⟩,⟨Y.gK HI0 cH bv dr fD⟩,⟨gT HK cn d5 ep g7⟩,⟨dc HB eC eK gf iU⟩⟩
     subst vW;rw[if_pos rfl]at H;replace H:=LT.mp H;obtain⟨⟨DC,t371⟩,a2P,H⟩:=H
     try dsimp only at H
     have a5s:=Ah a2P;clear a2P
     by_cases c139:t371=true
     rotate_left
     ·
      replace c139:=dn.mpr c139;subst c139;rw[if_neg dV]at H;have H':=Ah H;clear H;have hnb156:=vy.out;have hnc156:=p9.out;have hnb157:=vz.out;have hnc157:=pA.out;have hnb158:=qK.out;have hnc158:=mN.out;have hnb159:=lR.out;have hnc159:=fD.out;obtain⟨hcz160_0,hcz160_1,hcz160_2,hcz160_3⟩:=cA ck;obtain⟨hfz160_0,hfz160_1,hfz160_2,hfz160_3⟩:=cB ck;have hnb161:=p8.out;have hnc161:=lv.out;have hnb162:=jA.out;have hnc162:=qJ.out;have hnb163:=gN.out;have hnc163:=bv.out;have hcz164_0:=ap ag;have hfz164_0:=an ag
      go_wp2_with (first|((with_reducible refine bJ (f:=42) rfl ?_);refine gL (some 63) rfl rfl Try.func42 (by kernel_rfl) rfl #[.agg #[.slice ng aq.length mU],.agg #[.int .i64 eV,.int .i64 ev,.int .i64 (LS (eV+100)),.bool fe]] rfl ?_;(with_reducible refine(eR.calls zS _ _ aq eV ev (LS (eV+100)) fe DC false _ ?a8 ?a9 a5s.out).mono ?_);(case a8=>refine(Kd.af (e:=65) (base:=w.heap.size) (ok:=fun k_=>k_≠cS) (n:=aq.length) (c:=mU) ?_).2.2;exact(by(with_reducible repeat(first|apply Kd.bG|apply Kd.bE|apply Kd.al));exact(Kd.aY (Kd.aQ (p:=⟨cS,2,none⟩) (Kd.aQ (p:=⟨cS,0,none⟩) (Kd.aY ak.out (fun k_ hk=>(⟨hk,hk⟩:_∧k_≠cS))) (fun _ hk=>hk.2) (.int .i64 eV)) (fun _ hk=>hk.2) (.int .i64 (LS (eV+100)))) (fun _ h_=>h_.1))));(case a9=>exact(Kd.af ak.out).2.1);rintro e w165 ⟨v369,rfl,ho0,hb⟩;refine⟨_,rfl, ?_⟩;have Nx:=Ah (Kd.dD (Kd.qn (Kd.ec (Kd.ec ho0 (Kd.dU (by(with_reducible repeat(first|apply Kd.bG|apply Kd.bE|apply Kd.al));exact(Kd.aY (Kd.aQ (p:=⟨cS,2,none⟩) (Kd.aQ (p:=⟨cS,0,none⟩) (Kd.aY ak.out (fun k_ hk=>(⟨hk,hk⟩:_∧k_≠cS))) (fun _ hk=>hk.2) (.int .i64 eV)) (fun _ hk=>hk.2) (.int .i64 (LS (eV+100)))) (fun _ h_=>h_.1))))) (Kd.dU (by(with_reducible repeat(first|apply Kd.bG|apply Kd.bE|apply Kd.al));exact(Kd.aY (Kd.aQ (p:=⟨cS,2,none⟩) (Kd.aQ (p:=⟨cS,0,none⟩) (Kd.aY rt.out (fun k_ hk=>(⟨hk,hk⟩:_∧k_≠cS))) (fun _ hk=>hk.2) (.int .i64 eV)) (fun _ hk=>hk.2) (.int .i64 (LS (eV+100)))) (fun _ h_=>h_.1))))) (g:=cS) (o:= .cells #[.int .i64 eV,.int .i64 ev,.int .i64 (LS (eV+100)),.bool fe] 65 (0,0)) (by(with_reducible repeat(first|refine aD ?_ _|refine Z ?_|refine aC ?_ _));refine aj (cs:= #[.int .i64 eV,.int .i64 ev,.int .i64 gJ,.bool fe]) ?_ 2 _ rfl;(with_reducible repeat(first|refine aD ?_ _|refine Z ?_|refine aC ?_ _));refine aj (cs:= #[.int .i64 fw,.int .i64 ev,.int .i64 gJ,.bool fe]) ?_ 0 _ rfl;(with_reducible repeat(first|refine aD ?_ _|refine Z ?_|refine aC ?_ _));exact ck.out)) (gn (w:=w) (g:=g) (row:=none) (gT HK cn d5 ep g7)));replace ak:=Ah (Kd.eZ (by(with_reducible repeat(first|apply Kd.bG|apply Kd.bE|apply Kd.al));exact(Kd.aY (Kd.aQ (p:=⟨cS,2,none⟩) (Kd.aQ (p:=⟨cS,0,none⟩) (Kd.aY ak.out (fun k_ hk=>(⟨hk,hk⟩:_∧k_≠cS))) (fun _ hk=>hk.2) (.int .i64 eV)) (fun _ hk=>hk.2) (.int .i64 (LS (eV+100)))) (fun _ h_=>h_.1))) (Kd.eX ho0) hb);replace rt:=Ah (Kd.eZ (by(with_reducible repeat(first|apply Kd.bG|apply Kd.bE|apply Kd.al));exact(Kd.aY (Kd.aQ (p:=⟨cS,2,none⟩) (Kd.aQ (p:=⟨cS,0,none⟩) (Kd.aY rt.out (fun k_ hk=>(⟨hk,hk⟩:_∧k_≠cS))) (fun _ hk=>hk.2) (.int .i64 eV)) (fun _ hk=>hk.2) (.int .i64 (LS (eV+100)))) (fun _ h_=>h_.1))) (Kd.eX ho0) hb);replace ay:=Ah (cC (bf ay p9) hb);replace ag:=Ah (cC (bf ag pA) hb);replace bj:=Ah (cC (bf bj mN) hb);replace ck:=Ah (cC (g:=cS) (o:= .cells #[.int .i64 eV,.int .i64 ev,.int .i64 (LS (eV+100)),.bool fe] 65 (0,0)) (by(with_reducible repeat(first|refine aD ?_ _|refine Z ?_|refine aC ?_ _));refine aj (cs:= #[.int .i64 eV,.int .i64 ev,.int .i64 gJ,.bool fe]) ?_ 2 _ rfl;(with_reducible repeat(first|refine aD ?_ _|refine Z ?_|refine aC ?_ _));refine aj (cs:= #[.int .i64 fw,.int .i64 ev,.int .i64 gJ,.bool fe]) ?_ 0 _ rfl;(with_reducible repeat(first|refine aD ?_ _|refine Z ?_|refine aC ?_ _));exact ck.out) hb);replace HK:=Ah (aM.trans (gT HK cn d5 ep g7) (aM.of_below hb g none) (.inl rfl));replace HB:=Ah (aK (dc HB eC eK gf iU) hb);replace HI0:=Ah (Y.below (show Y w0 ((wc.setCell ⟨cS,0,none⟩ (.int .i64 eV)).setCell ⟨cS,2,none⟩ (.int .i64 (LS (eV+100)))) g av mD mE from Y.gK HI0 cH bv dr fD) hb);(try clear hb hk ho0);obtain⟨Ao166,co166,eo166⟩:=Kd.bq Nx.out;subst eo166;have hnb167:=qI.out;have hnc167:=jm.out;have hnb168:=k7.out;have hnc168:=dr.out;have hcz169_0:=ap bj;have hfz169_0:=an bj;obtain⟨Ao,hcz170_1,hcz170_2,hcz170_3⟩:=cA ck;obtain⟨Ap,hfz170_1,hfz170_2,hfz170_3⟩:=cB ck))
      go_roundg zS
      case measure=>have:=bU.out;have:=zR.out;omega
      case rel=>exact⟨(LS (eV+ev)),(LS (aA-1)),(mD),(mE),(aq),(.slice ng aq.length mU),e3,e3,H',⟨by have:=bU.out;have:=zR.out;omega⟩,⟨by(with_reducible repeat(first|apply Kd.bG|apply Kd.bE|apply Kd.al));exact Kd.aY (Kd.aQ (p:=⟨fL,0,none⟩) (Kd.cl ak.out bj.out (by decide)) (fun _ hk=>hk.2) (.slice Ao166 DC.length co166)) (fun _ hk=>trivial)⟩,⟨bf ay jm⟩,⟨bf ag jA⟩,⟨Y.gK HI0 cH bv dr fD⟩,⟨gT HK cn d5 ep g7⟩,⟨dc HB eC eK gf iU⟩⟩
     subst c139;rw[if_pos rfl]at H;have H':=Ah H;clear H;have hnb140:=vy.out;have hnc140:=p9.out;have hnb141:=vz.out;have hnc141:=pA.out;have hnb142:=qK.out;have hnc142:=mN.out;have hnb143:=lR.out;have hnc143:=fD.out;obtain⟨hcz144_0,hcz144_1,hcz144_2,hcz144_3⟩:=cA ck;obtain⟨hfz144_0,hfz144_1,hfz144_2,hfz144_3⟩:=cB ck;have hnb145:=p8.out;have hnc145:=lv.out;have hnb146:=jA.out;have hnc146:=qJ.out;have hnb147:=gN.out;have hnc147:=bv.out;have Am:=ap ag;have An:=an ag
     go_wp2_with (first|((with_reducible refine bJ (f:=42) rfl ?_);refine gL (some 63) rfl rfl Try.func42 (by kernel_rfl) rfl #[.agg #[.slice ng aq.length mU],.agg #[.int .i64 eV,.int .i64 ev,.int .i64 (LS (eV+100)),.bool fe]] rfl ?_;(with_reducible refine(eR.calls zS _ _ aq eV ev (LS (eV+100)) fe DC true _ ?a8 ?a9 a5s.out).mono ?_);(case a8=>refine(Kd.af (e:=65) (base:=w.heap.size) (ok:=fun k_=>k_≠cS) (n:=aq.length) (c:=mU) ?_).2.2;exact(by(with_reducible repeat(first|apply Kd.bG|apply Kd.bE|apply Kd.al));exact(Kd.aY (Kd.aQ (p:=⟨cS,2,none⟩) (Kd.aQ (p:=⟨cS,0,none⟩) (Kd.aY ak.out (fun k_ hk=>(⟨hk,hk⟩:_∧k_≠cS))) (fun _ hk=>hk.2) (.int .i64 eV)) (fun _ hk=>hk.2) (.int .i64 (LS (eV+100)))) (fun _ h_=>h_.1))));(case a9=>exact(Kd.af ak.out).2.1);rintro e w149 ⟨v369,rfl,ho0,hb⟩;refine⟨_,rfl, ?_⟩;have Nx:=Ah (Kd.dD (Kd.qn (Kd.ec (Kd.ec ho0 (Kd.dU (by(with_reducible repeat(first|apply Kd.bG|apply Kd.bE|apply Kd.al));exact(Kd.aY (Kd.aQ (p:=⟨cS,2,none⟩) (Kd.aQ (p:=⟨cS,0,none⟩) (Kd.aY ak.out (fun k_ hk=>(⟨hk,hk⟩:_∧k_≠cS))) (fun _ hk=>hk.2) (.int .i64 eV)) (fun _ hk=>hk.2) (.int .i64 (LS (eV+100)))) (fun _ h_=>h_.1))))) (Kd.dU (by(with_reducible repeat(first|apply Kd.bG|apply Kd.bE|apply Kd.al));exact(Kd.aY (Kd.aQ (p:=⟨cS,2,none⟩) (Kd.aQ (p:=⟨cS,0,none⟩) (Kd.aY rt.out (fun k_ hk=>(⟨hk,hk⟩:_∧k_≠cS))) (fun _ hk=>hk.2) (.int .i64 eV)) (fun _ hk=>hk.2) (.int .i64 (LS (eV+100)))) (fun _ h_=>h_.1))))) (g:=cS) (o:= .cells #[.int .i64 eV,.int .i64 ev,.int .i64 (LS (eV+100)),.bool fe] 65 (0,0)) (by(with_reducible repeat(first|refine aD ?_ _|refine Z ?_|refine aC ?_ _));refine aj (cs:= #[.int .i64 eV,.int .i64 ev,.int .i64 gJ,.bool fe]) ?_ 2 _ rfl;(with_reducible repeat(first|refine aD ?_ _|refine Z ?_|refine aC ?_ _));refine aj (cs:= #[.int .i64 fw,.int .i64 ev,.int .i64 gJ,.bool fe]) ?_ 0 _ rfl;(with_reducible repeat(first|refine aD ?_ _|refine Z ?_|refine aC ?_ _));exact ck.out)) (gn (w:=w) (g:=g) (row:=none) (gT HK cn d5 ep g7)));replace ak:=Ah (Kd.eZ (by(with_reducible repeat(first|apply Kd.bG|apply Kd.bE|apply Kd.al));exact(Kd.aY (Kd.aQ (p:=⟨cS,2,none⟩) (Kd.aQ (p:=⟨cS,0,none⟩) (Kd.aY ak.out (fun k_ hk=>(⟨hk,hk⟩:_∧k_≠cS))) (fun _ hk=>hk.2) (.int .i64 eV)) (fun _ hk=>hk.2) (.int .i64 (LS (eV+100)))) (fun _ h_=>h_.1))) (Kd.eX ho0) hb);replace rt:=Ah (Kd.eZ (by(with_reducible repeat(first|apply Kd.bG|apply Kd.bE|apply Kd.al));exact(Kd.aY (Kd.aQ (p:=⟨cS,2,none⟩) (Kd.aQ (p:=⟨cS,0,none⟩) (Kd.aY rt.out (fun k_ hk=>(⟨hk,hk⟩:_∧k_≠cS))) (fun _ hk=>hk.2) (.int .i64 eV)) (fun _ hk=>hk.2) (.int .i64 (LS (eV+100)))) (fun _ h_=>h_.1))) (Kd.eX ho0) hb);replace ay:=Ah (cC (bf ay p9) hb);replace ag:=Ah (cC (bf ag pA) hb);replace bj:=Ah (cC (bf bj mN) hb);replace ck:=Ah (cC (g:=cS) (o:= .cells #[.int .i64 eV,.int .i64 ev,.int .i64 (LS (eV+100)),.bool fe] 65 (0,0)) (by(with_reducible repeat(first|refine aD ?_ _|refine Z ?_|refine aC ?_ _));refine aj (cs:= #[.int .i64 eV,.int .i64 ev,.int .i64 gJ,.bool fe]) ?_ 2 _ rfl;(with_reducible repeat(first|refine aD ?_ _|refine Z ?_|refine aC ?_ _));refine aj (cs:= #[.int .i64 fw,.int .i64 ev,.int .i64 gJ,.bool fe]) ?_ 0 _ rfl;(with_reducible repeat(first|refine aD ?_ _|refine Z ?_|refine aC ?_ _));exact ck.out) hb);replace HK:=Ah (aM.trans (gT HK cn d5 ep g7) (aM.of_below hb g none) (.inl rfl));replace HB:=Ah (aK (dc HB eC eK gf iU) hb);replace HI0:=Ah (Y.below (show Y w0 ((wc.setCell ⟨cS,0,none⟩ (.int .i64 eV)).setCell ⟨cS,2,none⟩ (.int .i64 (LS (eV+100)))) g av mD mE from Y.gK HI0 cH bv dr fD) hb);(try clear hb hk ho0);obtain⟨Tf,Tg,eo150⟩:=Kd.bq Nx.out;subst eo150;have hnb151:=qI.out;have hnc151:=jm.out;have hnb152:=k7.out;have hnc152:=dr.out;have hcz153_0:=ap bj;have hfz153_0:=an bj;obtain⟨hcz154_0,hcz154_1,hcz154_2,hcz154_3⟩:=cA ck;obtain⟨hfz154_0,hfz154_1,hfz154_2,hfz154_3⟩:=cB ck;have hcz155_0:=ap ag;have hfz155_0:=an ag))
     go_roundg zS
     case measure=>have:=bU.out;have:=zR.out;omega
     case rel=>exact⟨(LS (eV+ev)),(LS (aA-1)),(mD),(mE),(DC),(.slice Tf DC.length Tg),e3,e3,H',⟨by have:=bU.out;have:=zR.out;omega⟩,⟨by(with_reducible repeat(first|apply Kd.bG|apply Kd.bE|apply Kd.al));exact Kd.aY (Kd.aQ (p:=⟨fb,0,none⟩) (Kd.aQ (p:=⟨fL,0,none⟩) (Kd.cl (Kd.cl Nx.out bj.out (by decide)) ag.out (by decide)) (fun _ hk=>hk.1.2) (.slice Tf DC.length Tg)) (fun _ hk=>hk.2) (.slice Tf DC.length Tg)) (fun _ hk=>trivial)⟩,⟨by(with_reducible repeat(first|refine aD ?_ _|refine Z ?_|refine aC ?_ _));refine gc ?_ lv.out _;(with_reducible repeat(first|refine aD ?_ _|refine Z ?_|refine aC ?_ _));refine gc ?_ jm.out _;(with_reducible repeat(first|refine aD ?_ _|refine Z ?_|refine aC ?_ _));exact ay.out⟩,⟨by(with_reducible repeat(first|refine aD ?_ _|refine Z ?_|refine aC ?_ _));refine aj (cs:= #[.slice ng aq.length mU]) ?_ 0 _ rfl;(with_reducible repeat(first|refine aD ?_ _|refine Z ?_|refine aC ?_ _));refine gc ?_ jA.out _;(with_reducible repeat(first|refine aD ?_ _|refine Z ?_|refine aC ?_ _));exact ag.out⟩,⟨Y.gK HI0 cH bv dr fD⟩,⟨gT HK cn d5 ep g7⟩,⟨dc HB eC eK gf iU⟩⟩
def ov.f(k:Nat)(l0:List Int):Option ((List (a7))×Int×Int):=(bV.f k l0 0 0).bind fun CM=>((ct.f l0 CM.2.1 CM.2.2 34).bind fun CN=>((ct.f l0 CN.2.1 CN.2.2 12).bind fun CO=>((ct.f l0 CO.2.1 CO.2.2 2).bind fun Th=>(some (CM.1,LS (CN.1-1),LS (CO.1-Th.1))))))
theorem ov.mono:∀a0 k,aG (ov.f k a0) (ov.f (k+1) a0):=by
 intro a0 k;unfold ov.f
 repeat' with_reducible first|exact bV.mono _ _ _ _|exact aG.refl _|exact aG.none _|refine aG.ite ?_ ?_|refine aG.bind ?_ (fun _=> ?_)
set_option maxHeartbeats 8000000 in
set_option maxRecDepth 100000 in
theorem ov.calls(k:Nat)(A0:Option Addr)(c0:Nat)(l0:List Int)(r1:List (a7))(r2:Int)(r3:Int)(w:World)(hr0:Kd.C (Kd.int .u8) w A0 l0.length l0)(hc0:l0.length≤c0)(h:ov.f k l0=some (r1,r2,r3)):
 Calls aad 4 #[.slice A0 l0.length c0] w fun e w'=>∃da:Value,e= .returned (.tuple #[.agg #[da],.int .i64 r2,.int .i64 r3])∧Kd.R b7 65 w' w.heap.size (fun _=>True) da r1∧Below w.heap.size w w':=by
 have kJ:=ua;have a5t:=Try.underlying52;have gV:=Ah hr0;have lG:=Ah hc0;clear hr0 hc0;have HB:=Ah (Below.refl w.heap.size w);have H:((bV.f k l0 0 0).bind fun CM=>((ct.f l0 CM.2.1 CM.2.2 34).bind fun CN=>((ct.f l0 CN.2.1 CN.2.2 12).bind fun CO=>((ct.f l0 CO.2.1 CO.2.2 2).bind fun Th=>(some (CM.1,LS (CN.1-1),LS (CO.1-Th.1)))))))=some (r1,r2,r3):=h;clear h;replace H:=LT.mp H;obtain⟨⟨VW,VX,VY⟩,fo,H⟩:=H
 try dsimp only at H
 have A2:=Ah fo;clear fo;replace H:=LT.mp H;obtain⟨⟨t405,VZ,Va⟩,nK,H⟩:=H
 try dsimp only at H
 have A3:=Ah nK;clear nK;replace H:=LT.mp H;obtain⟨⟨t408,Vb,Vc⟩,iv,H⟩:=H
 try dsimp only at H
 have A4:=Ah iv;clear iv;replace H:=LT.mp H;obtain⟨⟨t411,t412,t413⟩,kX,H⟩:=H
 try dsimp only at H
 have A5:=Ah kX;clear kX;simp only[j4,ub]at H;obtain⟨rfl,rfl,rfl⟩:=H
 go_enter Try.func4,Try.ntmps4
 go_wp2_with (first|((with_reducible refine ax (N:=2) rfl ?_);refine bA 2 25 #[.slice none 0 0] ?_;intro FD hg w6 nh hb;have GW398:=gw hg (bs HB);have xF:=gw hg (bs HB);replace HB:=Ah (aK (bs HB) hb);clear hb hg)|((with_reducible refine ax (N:=8) rfl ?_);refine bA 8 52 #[.slice A0 l0.length c0,.int .i64 0,.int .u64 0] ?_;intro sP hg w7 BK399 hb;have GW399:=gw hg (aH HB xF);have GE399:=gw hg (aH HB xF);replace HB:=Ah (aK (aH HB xF) hb);have Gi:=nn nh hg;have yJ:=nm nh hg;replace nh:=nb nh hb;clear hb hg;have te:=Ah (show Y w w7 sP l0 0 0 from⟨_,_,(bk BK399),GE399.out,gV.out⟩))|((with_reducible refine bJ (f:=20) rfl ?_);refine gL (some 10) rfl rfl Try.func20 (by kernel_rfl) rfl #[.pointer (some ⟨sP,0,none⟩)] rfl ?_;(with_reducible refine(bV.calls k sP l0 0 0 VW VX VY w _ ?a8 ?a9 A2.out).mono ?_);(case a8=>exact Y.iC te yJ);(case a9=>exact aH HB xF);rintro e w8 ⟨v401,rfl,ho0,hi,hb,hk⟩;refine⟨_,rfl, ?_⟩;replace nh:=Ah (aM.blk hk (g':=FD) (o:= .cells #[.slice none 0 0] 25 (0,0)) (bk nh) Gi.out (by simp));have zT:=Ah (Kd.dD ho0 (be (aH HB xF)));replace HB:=Ah (hb);replace te:=Ah (hi);(try clear hb hk hi ho0))|((with_reducible refine bJ (f:=21) rfl ?_);refine gL (some 12) rfl rfl aar (by kernel_rfl) rfl #[.pointer (some ⟨sP,0,none⟩),.int .i64 34] rfl ?_;(with_reducible refine(ct.calls sP l0 VX VY 34 t405 VZ Va w _ ?a8 ?a9 A3.out).mono ?_);(case a8=>exact Y.iC te yJ);(case a9=>exact aH HB xF);rintro e w9 ⟨rfl,hi,hb,hk⟩;refine⟨_,rfl, ?_⟩;replace nh:=Ah (aM.blk hk (g':=FD) (o:= .cells #[.slice none 0 0] 25 (0,0)) (bk nh) Gi.out (by simp));replace zT:=Ah (Kd.aY (Kd.gO (Y.apart (show Y w _ sP l0 VX VY from Y.iC te yJ) (rr zT.out) (by decide)) hk (fun _ h=>h.2)) (fun _ h=>h.1));replace HB:=Ah (hb);replace te:=Ah (hi);(try clear hb hk hi))|((with_reducible refine bJ (f:=21) rfl ?_);refine gL (some 15) rfl rfl aar (by kernel_rfl) rfl #[.pointer (some ⟨sP,0,none⟩),.int .i64 12] rfl ?_;(with_reducible refine(ct.calls sP l0 VZ Va 12 t408 Vb Vc w _ ?a8 ?a9 A4.out).mono ?_);(case a8=>exact Y.iC te yJ);(case a9=>exact aH HB xF);rintro e AQ ⟨rfl,hi,hb,hk⟩;refine⟨_,rfl, ?_⟩;replace nh:=Ah (aM.blk hk (g':=FD) (o:= .cells #[.slice none 0 0] 25 (0,0)) (bk nh) Gi.out (by simp));replace zT:=Ah (Kd.aY (Kd.gO (Y.apart (show Y w _ sP l0 VZ Va from Y.iC te yJ) (rr zT.out) (by decide)) hk (fun _ h=>h.2)) (fun _ h=>h.1));replace HB:=Ah (hb);replace te:=Ah (hi);(try clear hb hk hi))|((with_reducible refine bJ (f:=21) rfl ?_);refine gL (some 17) rfl rfl aar (by kernel_rfl) rfl #[.pointer (some ⟨sP,0,none⟩),.int .i64 2] rfl ?_;(with_reducible refine(ct.calls sP l0 Vb Vc 2 t411 t412 t413 w _ ?a8 ?a9 A5.out).mono ?_);(case a8=>exact Y.iC te yJ);(case a9=>exact aH HB xF);rintro e rg ⟨rfl,hi,hb,hk⟩;refine⟨_,rfl, ?_⟩;replace nh:=Ah (aM.blk hk (g':=FD) (o:= .cells #[.slice none 0 0] 25 (0,0)) (bk nh) Gi.out (by simp));replace zT:=Ah (Kd.aY (Kd.gO (Y.apart (show Y w _ sP l0 Vb Vc from Y.iC te yJ) (rr zT.out) (by decide)) hk (fun _ h=>h.2)) (fun _ h=>h.1));replace HB:=Ah (hb);replace te:=Ah (hi);(try clear hb hk hi);obtain⟨a5u,Uj,Oc⟩:=Kd.bq zT.out;subst Oc;have a1m:=Gi.out;have a1n:=yJ.out;have yh:=ap nh;have yi:=an nh))
 refine bodyPost_ret (rj rfl _ _ FD 25 #[.slice a5u VW.length Uj] (0,0) _ rfl (by(with_reducible repeat(first|refine aD ?_ _|refine Z ?_|refine aC ?_ _));refine aj (cs:= #[.slice none 0 0]) ?_ 0 _ rfl;(with_reducible repeat(first|refine aD ?_ _|refine Z ?_|refine aC ?_ _));exact nh.out) ua rfl (by kernel_rfl)) rfl ?_;exact⟨_,er,by(with_reducible repeat(first|apply Kd.bG|apply Kd.bE|apply Kd.al));exact Kd.aY (Kd.aQ (p:=⟨FD,0,none⟩) (Kd.cl zT.out nh.out (by decide)) (fun _ hk=>hk.2) (.slice a5u VW.length Uj)) (fun _ hk=>trivial),aH HB xF⟩
def hF.f(a0:Int)(a1:Int)(a2:Int):Option (Bool):=if a0≥a1 then(some (decide (a0≤a2)))else(some false)
set_option maxHeartbeats 8000000 in
set_option maxRecDepth 100000 in
theorem hF.calls(a0:Int)(a1:Int)(a2:Int)(r:Bool)(w:World)(h:hF.f a0 a1 a2=some r):
 Calls aad 32 #[.int .i64 a0,.int .i64 a1,.int .i64 a2] w fun e w'=>e= .returned (.bool r)∧fp w w':=by
 have H:(if a0≥a1 then(some (decide (a0≤a2)))else(some false))=some r:=h;clear h
 by_cases c4:a0≥a1
 ·
  rw[if_pos c4]at H;have jb:decide (a1≤a0)=true:=decide_eq_true c4;clear c4;obtain rfl:=iz H
  go_enter Try.func32,Try.ntmps32
  go_wp2
  go_ret
  exact⟨by first|rfl|(simp;done)|(simp[*];done),by repeat(first|exact fp.refl _|apply fp.step)⟩
 ·
  rw[if_neg c4]at H;have jb:decide (a1≤a0)=false:=decide_eq_false c4;clear c4;obtain rfl:=iz H
  go_enter Try.func32,Try.ntmps32
  go_wp2
  go_ret
  exact⟨by first|rfl|(simp;done)|(simp[*];done),by repeat(first|exact fp.refl _|apply fp.step)⟩
def AT.f(dZ:Int)(dF:Int)(fN:Int)(iO:Bool):Option (Bool):=(hF.f dZ 0 199).bind fun KS=>(if KS=true then((hF.f dF 1 (LS (200-dZ))).bind fun KT=>(if KT=true then((hF.f fN 0 (LS (400-dF))).bind fun KU=>(some KU))else(some false)))else(some false))
set_option maxHeartbeats 8000000 in
set_option maxRecDepth 100000 in
theorem AT.calls(dZ:Int)(dF:Int)(fN:Int)(iO:Bool)(r:Bool)(w:World)(h:AT.f dZ dF fN iO=some r):
 Calls aad 30 #[.agg #[.int .i64 dZ,.int .i64 dF,.int .i64 fN,.bool iO]] w fun e w'=>e= .returned (.bool r)∧Below w.heap.size w w':=by
 have mA:=aay;have HB:=Ah (Below.refl w.heap.size w);have H:((hF.f dZ 0 199).bind fun KS=>(if KS=true then((hF.f dF 1 (LS (200-dZ))).bind fun KT=>(if KT=true then((hF.f fN 0 (LS (400-dF))).bind fun KU=>(some KU))else(some false)))else(some false)))=some r:=h;clear h;replace H:=LT.mp H;obtain⟨KS,fo,H⟩:=H
 try dsimp only at H
 have A2:=Ah fo;clear fo
 by_cases c3:KS=true
 rotate_left
 ·
  replace c3:=dn.mpr c3;subst c3;rw[if_neg dV]at H;obtain rfl:=iz H
  go_enter Try.func30,Try.ntmps30
  go_wp2_with (first|((with_reducible refine ax (N:=1) rfl ?_);refine bA 1 65 #[.int .i64 dZ,.int .i64 dF,.int .i64 fN,.bool iO] ?_;intro a2Q hg rg zU hb;have a2R:=gw hg (bs HB);have Iw:=gw hg (bs HB);replace HB:=Ah (aK (bs HB) hb);clear hb hg;obtain⟨yn,RQ,RR,RS⟩:=cA zU;obtain⟨yo,RT,RU,RV⟩:=cB zU)|((with_reducible refine bJ (f:=32) rfl ?_);refine gL (some 5) rfl rfl Try.func32 (by kernel_rfl) rfl #[.int .i64 dZ,.int .i64 0,.int .i64 199] rfl ?_;(with_reducible refine(hF.calls dZ 0 199 false _ A2.out).mono ?_);rintro e w' ⟨rfl,⟨nd,rfl⟩⟩;refine⟨_,rfl, ?_⟩))
  go_ret
  exact⟨er,aH HB Iw⟩
 subst c3;rw[if_pos rfl]at H;replace H:=LT.mp H;obtain⟨KT,iv,H⟩:=H
 try dsimp only at H
 have A4:=Ah iv;clear iv
 by_cases c5:KT=true
 rotate_left
 ·
  replace c5:=dn.mpr c5;subst c5;rw[if_neg dV]at H;obtain rfl:=iz H
  go_enter Try.func30,Try.ntmps30
  go_wp2_with (first|((with_reducible refine ax (N:=1) rfl ?_);refine bA 1 65 #[.int .i64 dZ,.int .i64 dF,.int .i64 fN,.bool iO] ?_;intro a2Q hg w9 zU hb;have a2R:=gw hg (bs HB);have Iw:=gw hg (bs HB);replace HB:=Ah (aK (bs HB) hb);clear hb hg;obtain⟨pH,hcz10_1,hcz10_2,hcz10_3⟩:=cA zU;obtain⟨pI,hfz10_1,hfz10_2,hfz10_3⟩:=cB zU)|((with_reducible refine bJ (f:=32) rfl ?_);refine gL (some 5) rfl rfl Try.func32 (by kernel_rfl) rfl #[.int .i64 dZ,.int .i64 0,.int .i64 199] rfl ?_;(with_reducible refine(hF.calls dZ 0 199 true _ A2.out).mono ?_);rintro e w' ⟨rfl,⟨nd,rfl⟩⟩;refine⟨_,rfl, ?_⟩)|(go_at_call 32;(with_reducible refine(hF.calls dF 1 (LS (200-dZ)) false _ A4.out).mono ?_);rintro e w' ⟨rfl,⟨nd,rfl⟩⟩))
  go_ret
  exact⟨er,aH HB Iw⟩
 subst c5;rw[if_pos rfl]at H;replace H:=LT.mp H;obtain⟨KU,iw,H⟩:=H
 try dsimp only at H
 have A6:=Ah iw;clear iw;obtain rfl:=iz H
 go_enter Try.func30,Try.ntmps30
 go_wp2_with (first|((with_reducible refine ax (N:=1) rfl ?_);refine bA 1 65 #[.int .i64 dZ,.int .i64 dF,.int .i64 fN,.bool iO] ?_;intro a2Q hg w7 zU hb;have a2R:=gw hg (bs HB);have Iw:=gw hg (bs HB);replace HB:=Ah (aK (bs HB) hb);clear hb hg;obtain⟨pJ,Ry,Rz,a0o⟩:=cA zU;obtain⟨qr,S0,S1,a0p⟩:=cB zU)|((with_reducible refine bJ (f:=32) rfl ?_);refine gL (some 5) rfl rfl Try.func32 (by kernel_rfl) rfl #[.int .i64 dZ,.int .i64 0,.int .i64 199] rfl ?_;(with_reducible refine(hF.calls dZ 0 199 true _ A2.out).mono ?_);rintro e w' ⟨rfl,⟨nd,rfl⟩⟩;refine⟨_,rfl, ?_⟩)|(go_at_call 32;(with_reducible refine(hF.calls dF 1 (LS (200-dZ)) true _ A4.out).mono ?_);rintro e w' ⟨rfl,⟨nd,rfl⟩⟩)|(go_at_call 32;(with_reducible refine(hF.calls fN 0 (LS (400-dF)) KU _ A6.out).mono ?_);rintro e w' ⟨rfl,⟨nd,rfl⟩⟩))
 go_ret
 exact⟨er,aH HB Iw⟩
def ri.f(dZ:Int)(dF:Int)(fN:Int)(iO:Bool)(cU:Int)(d7:Int)(cM:Int)(dE:Bool):Option (Bool):=if(LS (dZ+dF))=cU then(if(LS (fN+dF))=cM then(some (iO==dE))else(some false))else(some false)
set_option maxHeartbeats 8000000 in
set_option maxRecDepth 100000 in
theorem ri.calls(dZ:Int)(dF:Int)(fN:Int)(iO:Bool)(cU:Int)(d7:Int)(cM:Int)(dE:Bool)(r:Bool)(w:World)(h:ri.f dZ dF fN iO cU d7 cM dE=some r):
 Calls aad 31 #[.agg #[.int .i64 dZ,.int .i64 dF,.int .i64 fN,.bool iO],.agg #[.int .i64 cU,.int .i64 d7,.int .i64 cM,.bool dE]] w fun e w'=>e= .returned (.bool r)∧Below w.heap.size w w':=by
 have mA:=aay;have HB:=Ah (Below.refl w.heap.size w);have H:(if(LS (dZ+dF))=cU then(if(LS (fN+dF))=cM then(some (iO==dE))else(some false))else(some false))=some r:=h;clear h
 by_cases c3:(LS (dZ+dF))=cU
 rotate_left
 ·
  rw[if_neg c3]at H;have iN:((LS (dZ+dF))==cU)=false:=beq_eq_false_iff_ne.mpr c3;have xV:((LS (dZ+dF)) !=cU)=true:=bne_iff_ne.mpr c3;obtain rfl:=iz H
  go_enter Try.func31,Try.ntmps31
  go_wp2_with (first|((with_reducible refine ax (N:=2) rfl ?_);refine bA 2 65 #[.int .i64 dZ,.int .i64 dF,.int .i64 fN,.bool iO] ?_;intro a2S hg LG lf hb;have a2T:=gw hg (bs HB);have pX:=gw hg (bs HB);replace HB:=Ah (aK (bs HB) hb);clear hb hg)|((with_reducible refine ax (N:=3) rfl ?_);refine bA 3 65 #[.int .i64 cU,.int .i64 d7,.int .i64 cM,.bool dE] ?_;intro a2U hg w16 zV hb;have a2V:=gw hg (aH HB pX);have Ix:=gw hg (aH HB pX);replace HB:=Ah (aK (aH HB pX) hb);have Gj:=nn lf hg;have Gk:=nm lf hg;replace lf:=nb lf hb;clear hb hg;have zE:=Gj.out;have zF:=Gk.out;obtain⟨sA,EO,EP,HD⟩:=cA lf;obtain⟨sB,EQ,ER,HE⟩:=cB lf;obtain⟨yl,RK,RL,RM⟩:=cA zV;obtain⟨ym,RN,RO,RP⟩:=cB zV))
  go_ret
  exact⟨er,aW HB pX Ix⟩
 rw[if_pos c3]at H;have iN:((LS (dZ+dF))==cU)=true:=beq_iff_eq.mpr c3;have xV:((LS (dZ+dF)) !=cU)=false:=bne_eq_false_iff_eq.mpr c3;clear c3
 by_cases c4:(LS (fN+dF))=cM
 ·
  rw[if_pos c4]at H;have jb:((LS (fN+dF))==cM)=true:=beq_iff_eq.mpr c4;have Uv:((LS (fN+dF)) !=cM)=false:=bne_eq_false_iff_eq.mpr c4;clear c4;obtain rfl:=iz H
  go_enter Try.func31,Try.ntmps31
  go_wp2_with (first|((with_reducible refine ax (N:=2) rfl ?_);refine bA 2 65 #[.int .i64 dZ,.int .i64 dF,.int .i64 fN,.bool iO] ?_;intro a2S hg w5 lf hb;have a2T:=gw hg (bs HB);have pX:=gw hg (bs HB);replace HB:=Ah (aK (bs HB) hb);clear hb hg)|((with_reducible refine ax (N:=3) rfl ?_);refine bA 3 65 #[.int .i64 cU,.int .i64 d7,.int .i64 cM,.bool dE] ?_;intro a2U hg w6 zV hb;have a2V:=gw hg (aH HB pX);have Ix:=gw hg (aH HB pX);replace HB:=Ah (aK (aH HB pX) hb);have Gj:=nn lf hg;have Gk:=nm lf hg;replace lf:=nb lf hb;clear hb hg;have hnb7:=Gj.out;have hnc7:=Gk.out;obtain⟨pJ,Ry,Rz,a0o⟩:=cA lf;obtain⟨qr,S0,S1,a0p⟩:=cB lf;obtain⟨vI,wi,Ek,Hi⟩:=cA zV;obtain⟨wk,wj,El,Hj⟩:=cB zV))
  go_ret
  exact⟨er,aW HB pX Ix⟩
 rw[if_neg c4]at H;have jb:((LS (fN+dF))==cM)=false:=beq_eq_false_iff_ne.mpr c4;have Uv:((LS (fN+dF)) !=cM)=true:=bne_iff_ne.mpr c4;obtain rfl:=iz H
 go_enter Try.func31,Try.ntmps31
 go_wp2_with (first|((with_reducible refine ax (N:=2) rfl ?_);refine bA 2 65 #[.int .i64 dZ,.int .i64 dF,.int .i64 fN,.bool iO] ?_;intro a2S hg AQ lf hb;have a2T:=gw hg (bs HB);have pX:=gw hg (bs HB);replace HB:=Ah (aK (bs HB) hb);clear hb hg)|((with_reducible refine ax (N:=3) rfl ?_);refine bA 3 65 #[.int .i64 cU,.int .i64 d7,.int .i64 cM,.bool dE] ?_;intro a2U hg rg zV hb;have a2V:=gw hg (aH HB pX);have Ix:=gw hg (aH HB pX);replace HB:=Ah (aK (aH HB pX) hb);have Gj:=nn lf hg;have Gk:=nm lf hg;replace lf:=nb lf hb;clear hb hg;have T3:=Gj.out;have T5:=Gk.out;obtain⟨yp,ZG,ZH,ZI⟩:=cA lf;obtain⟨yq,ZJ,ZK,ZL⟩:=cB lf;obtain⟨yh,hcz14_1,hcz14_2,hcz14_3⟩:=cA zV;obtain⟨yi,hfz14_1,hfz14_2,hfz14_3⟩:=cB zV))
 go_ret
 exact⟨er,aW HB pX Ix⟩
end Go.Proofs.Ytjojdplkgekagaa.G
