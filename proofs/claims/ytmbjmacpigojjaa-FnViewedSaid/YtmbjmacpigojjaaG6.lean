-- Printed by a program of this session (drive.py, by way of the kit's print). Not trusted: Lean checks it.
import Derived.Test.YtmbjmacpigojjaaG0
import Derived.Test.YtmbjmacpigojjaaG1
import Derived.Test.YtmbjmacpigojjaaG5
open Bool renaming eq_false_iff→i1,not_false→aaX
open ByteArray renaming empty→JZ
open Go.Act renaming put→aab
open Go.Proofs.Try renaming prog→tP,underlying28→aaa,underlying37→aah,underlying26→aam,underlying23→aas,underlying22→aaA,underlying24→aaF,func44→abb,underlying9→abd,func16→aby
open Go.RowKit renaming wrap64→IH
open Go.RowKit.Below renaming refl→qB
open Go.World renaming block_lt_of_cell?→cy
open List renaming setIfInBounds_toArray→Ok,length_take→fu,set_cons_zero→mr,set_cons_succ→mQ,length_drop→qC,map_toArray→aac,map_cons→aad,map_nil→aaf,eq_nil_of_length_eq_zero→aaU
open Nat renaming le_refl→lQ,ne_of_lt→aap,ne_of_gt→aaq,eq_zero_or_pos→aaV
open Option renaming bind_eq_some_iff→Hz,bind_some→aV
open Option.some renaming inj→ec,injEq→kD
open Prod.mk renaming injEq→o7
namespace Go.Proofs.Ytmbjmacpigojjaa.G
open Go.RowKit Go.Proofs.YtmbjmacpigojjaaW.PrintWords Go.Proofs.YtmbjmacpigojjaaW.PrintLast Go.Proofs.YtmbjmacpigojjaaW.PrintMore
attribute [local go_sem] uf ug uk ul uV uW uh ui
set_option linter.unusedVariables false
set_option linter.unusedSimpArgs false
attribute [local go_sem high] Ou
mutual
def eH.l0:Nat→List Int→List (aQ)→Int→Int→Option (ByteArray)
 |0,_,_,_,_=>none
 |k+1,x3,de,o3,kS=>if kS<o3 then(if 0≤kS then(if kS<(de.length:Int)then(if x3.length<140737488355328 then((some (x3++[((aM de kS).f0) %256]:List Int)).bind fun yL=>(if yL.length+((aM de kS).f1).size<140737488355328 then(eH.l0 k (yL++jB ((aM de kS).f1)) de o3 (IH (kS+1)))else(none)))else(none))else(none))else(none))else(eH.l1 k x3 0 x3 (x3.length:Int) 0)
def eH.l1:Nat→List Int→Int→List Int→Int→Int→Option (ByteArray)
 |0,_,_,_,_,_=>none
 |k+1,x3,x6,x29,x30,x31=>if x31<x30 then(if 0≤x31 then(if x31<(x29.length:Int)then(eH.l1 k x3 (Go.bits .xor .u8 x6 (rd x29 x31)) x29 x30 (IH (x31+1)))else(none))else(none))else(if x3.length<140737488355328 then(some (strOfNums (x3++[x6])))else(none))
end
def eH.f(k:Nat)(l0:List (aQ)):Option (ByteArray):=eH.l0 k (([((l0.length:Int)) %256]:List Int)) l0 (l0.length:Int) 0
theorem eH.cW:∀k,(∀y0 y1 y2 y3,aE (eH.l0 k y0 y1 y2 y3) (eH.l0 (k+1) y0 y1 y2 y3))∧(∀y0 y1 y2 y3 y4,aE (eH.l1 k y0 y1 y2 y3 y4) (eH.l1 (k+1) y0 y1 y2 y3 y4))
 |0=>⟨fun _ _ _ _ r h=>by simp[eH.l0]at h,fun _ _ _ _ _ r h=>by simp[eH.l1]at h⟩
 |k+1=>by
  obtain⟨be,ih1⟩:=eH.cW k
  refine⟨?_, ?_⟩<;>intros<;>first|unfold eH.l0|unfold eH.l1
  all_goals repeat' first
   |(with_reducible exact be _ _ _ _)
   |(with_reducible exact ih1 _ _ _ _ _)
   |(with_reducible exact aE.refl _)
   |(with_reducible exact aE.none _)
   |(with_reducible refine aE.ite ?_ ?_)
   |(with_reducible refine aE.bind ?_ (fun _=> ?_))
   |exact be _ _ _ _
   |exact ih1 _ _ _ _ _
   |exact aE.none _
   |refine aE.ite ?_ ?_
   |refine aE.bind ?_ (fun _=> ?_)
theorem eH.mono:∀a0 k,aE (eH.f k a0) (eH.f (k+1) a0):=by
 intro a0 k;obtain⟨be,ih1⟩:=eH.cW k;unfold eH.f
 repeat' with_reducible first|exact be _ _ _ _|exact ih1 _ _ _ _ _|exact aE.refl _|exact aE.none _|refine aE.ite ?_ ?_|refine aE.bind ?_ (fun _=> ?_)
def eH.T5:Bool×List (List Nat×List Nat):=(true,[([],[]),([],[]),([1],[1]),([2],[2]),([3],[3]),([0,4],[0,4]),([],[]),([6],[6]),([5,7,5],[5,7]),([8,8,0,1,2,3,4,5,6,7,8],[0,8])])
def eH.B5:List Nat:=[0,0,2,6,14,31,0,64,255,511]
theorem eH.LX:gh .any (mz Try.f23 5)=eH.T5:=by kernel_rfl
theorem eH.Ky:kc eH.T5.2 eH.B5=true:=by kernel_rfl
set_option maxHeartbeats 8000000 in
set_option maxRecDepth 100000 in
theorem eH.calls(k:Nat)(A0:Option Addr)(c0:Nat)(l0:List (aQ))(r:ByteArray)(w:World)(hr0:Kd.C bL w A0 l0.length l0)(hc0:l0.length≤c0)(h:eH.f k l0=some r):
 Calls tP 23 #[.slice A0 l0.length c0] w fun e w'=>e= .returned (.string r)∧Below w.heap.size w w':=by
 have jt:=aah;have dU:=Ah hr0;have gK:=Ah hc0;clear hr0 hc0;have HB:=Ah (qB w.heap.size w);have H:(eH.l0 k (([((l0.length:Int)) %256]:List Int)) l0 (l0.length:Int) 0)=some r:=h;clear h;obtain⟨a1c,GB⟩:∃y_:List Int,y_=(([((l0.length:Int)) %256]:List Int)):=⟨_,rfl⟩
 replace H:(eH.l0 k a1c l0 (l0.length:Int) 0)=some r:=by first|(rw[GB];with_reducible exact H)|(have bB:=(aV _ _).symm.trans H;rw[GB];with_reducible exact bB)|(have bB:=(aV _ _).symm.trans H;with_reducible exact bB)|with_reducible exact H|(rw[GB];exact H)|exact H
 have ZI:=Ah GB;clear GB;have H':=Ah H;clear H
 go_enter Try.func23,Try.ntmps23
 go_wp2_with (first|((with_reducible refine bC (N:=12) rfl ?_);refine Kd.oR (Kd.int .u8) _ 5 ?hg (N:=12) ?hd (xs:=([((l0.length:Int)) %256]:List Int)) (inner:=[.int .u8 (((l0.length:Int)) %256)]) (ok:=fun _=>True) (okp:=fun _=>True) ?hr ?hp (fun _ hk=>hk) trivial (qB _ _) (lQ _) (by simp) ?_;(case hd=>rfl);(case hg=>rfl);(case hr=>first|(go_simp;done)|(go_simp;rfl));(case hp=>exact(cU.one (show Kd.M (Kd.int .u8) _ _ _ (((l0.length:Int)) %256) [.int .u8 (((l0.length:Int)) %256)]from rfl) (cU.none _ _)));intro v533 w2 ho3 hb iH iB;clear iH iB;(first|rw[←ZI.out]at ho3|(simp only[Int.reduceToNat]at ho3;rw[←ZI.out]at ho3));have HO534:=Ah (Kd.b8 ho3 (bF (bs HB)));replace HB:=Ah (aT (bs HB) hb);clear hb ho3))
 go_loopg [3,15] k (fun kq v3 v15 w'=>∃ (fB:List Int) (dn:Int),v15= .int .i64 dn∧a9 (eH.l0 kq fB l0 (l0.length:Int) dn=some r)∧a9 (kq≤k)∧a9 (Kd.R (Kd.int .u8) 5 w' w.heap.size (fun _=>True) v3 fB)∧a9 (Below w.heap.size w w'))
 case atStart=>exact⟨(a1c),(0),e3,H',⟨lQ _⟩,⟨rr HO534.out⟩,⟨bs HB⟩⟩
 case round=>
  clear H'
  try clear c2
  try clear p2
  obtain⟨fB,dn,rfl,HA,cN,jd,HB⟩:=hrel
  cases gk with
  |zero=>exact absurd HA.out (by simp[eH.l0])
  |succ k1=>
   have H:=HA.out;clear HA;simp only[eH.l0]at H
   by_cases c4:dn<(l0.length:Int)
   rotate_left
   ·
    rw[if_neg c4]at H;have gt:decide (dn<(l0.length:Int))=false:=decide_eq_false c4;clear c4;have H':=Ah H;clear H;obtain⟨nJ,mO,uC⟩:=Kd.ao jd.out;subst uC
    go_wp2
    go_loopg [6,31] k1 (fun kq v6 v31 w'=>∃ (nF:Int) (oq:Int),v6= .int .u8 nF∧v31= .int .i64 oq∧a9 (eH.l1 kq fB nF fB (fB.length:Int) oq=some r)∧a9 (kq≤k1)∧a9 (Kd.R (Kd.int .u8) 5 w' w.heap.size (fun _=>True) (.slice nJ fB.length mO) fB)∧a9 (Kd.R (Kd.int .u8) 5 w' w.heap.size (fun _=>True) (.slice nJ fB.length mO) fB)∧a9 (Below w.heap.size w w'))
    case atStart=>exact⟨(0),(0),e3,e3,H',⟨lQ _⟩,⟨rr jd.out⟩,⟨rr jd.out⟩,⟨bs HB⟩⟩
    case round=>
     clear H'
     try clear c2
     try clear p2
     try clear c4
     try clear gt
     try clear c5
     try clear iV
     try clear p5
     try clear q5
     try clear hx5
     try clear c6
     try clear iG
     try clear p6
     try clear c7
     try clear c8
     try clear Ec Ed
     try clear Ee Ef
     try clear JT
     try clear JU
     try clear p2
     try clear LY
     try clear LZ
     obtain⟨nF,oq,rfl,rfl,HA,jf,jd,ZJ,HB⟩:=hrel
     cases gk with
     |zero=>exact absurd HA.out (by simp[eH.l1])
     |succ k2=>
      have H:=HA.out;clear HA;simp only[eH.l1]at H
      by_cases c16:oq<(fB.length:Int)
      ·
       rw[if_pos c16]at H;have xW:decide (oq<(fB.length:Int))=true:=decide_eq_true c16;clear c16
       by_cases c17:0≤oq
       rotate_left
       ·
        rw[if_neg c17]at H;exact absurd H (by simp)
       rw[if_pos c17]at H;have KQ:decide (0≤oq)=true:=decide_eq_true c17;clear c17
       by_cases c18:oq<(fB.length:Int)
       rotate_left
       ·
        rw[if_neg c18]at H;exact absurd H (by simp)
       rw[if_pos c18]at H;have Kf:decide (oq<(fB.length:Int))=true:=decide_eq_true c18;clear c18;have H':=Ah H;clear H;have RL:0≤(oq:Int):=od;have RM:oq<(fB.length:Int):=od;obtain⟨ad543,e543,hx543_0⟩:=Kd.CK (Kd.aq ZJ.out).2.2 oq RL RM
       cases e543
       replace RL:=eq_true RL;replace RM:=eq_true RM
       go_wp2
       go_roundg k2
       case measure=>have:=cN.out;have:=jf.out;omega
       case rel=>exact⟨(Go.bits .xor .u8 nF (rd fB oq)),(IH (oq+1)),e3,e3,H',⟨by have:=cN.out;have:=jf.out;omega⟩,⟨rr jd.out⟩,⟨rr ZJ.out⟩,⟨bs HB⟩⟩
      rw[if_neg c16]at H;have xW:decide (oq<(fB.length:Int))=false:=decide_eq_false c16;clear c16
      by_cases c19:fB.length<140737488355328
      rotate_left
      ·
       rw[if_neg c19]at H;exact absurd H (by simp)
      rw[if_pos c19]at H;have LMc19:=Ah c19;clear c19;obtain⟨y544,GC⟩:∃y_:List Int,y_=(fB++[nF]):=⟨_,rfl⟩
      replace H:(some (strOfNums y544))=some r:=by first|(rw[GC];with_reducible exact H)|(have bB:=(aV _ _).symm.trans H;rw[GC];with_reducible exact bB)|(have bB:=(aV _ _).symm.trans H;with_reducible exact bB)|with_reducible exact H|(rw[GC];exact H)|exact H
      have Ny544:=Ah GC;clear GC;obtain rfl:=ec H
      go_wp2_with (first|((with_reducible refine oA (b:= .append) (xs:= #[.tmp 39,.tmp 41]) rfl ?_);at_builtin;refine Kd.yq (Kd.int .u8) (w0:=w) w.heap.size rfl (.tmp 39) (.tmp 41) 22 5 (.int .u8 0) 1 rfl aaA Es rfl (by decide) (by omega) (.slice nJ fB.length mO) fB nF [.int .u8 nF] (fun _=>True) (fun _=>False) rfl rfl ?aP (fun _ hk=>hk.elim) ?aF ?aO ?aB ?aS ?aL ?_;(case aP=>exact rfl);(case aB=>exact(bs HB));(case aF=>exact(fun _ _=>trivial));(case aO=>exact(rr jd.out));(case aS=>exact(bF (bs HB)));(case aL=>have:=LMc19.out;omega);intro v545 py ho hb hg hat;rw[←Ny544.out]at ho;replace HB:=Ah (hb);have HO546:=Ah (ho);clear jd;clear ho hb hg hat;have hcv21:=Bz (P:=tP) aaA Try.underlying5 abd (Kd.ue HO546.out)))
      go_ret
      exact⟨er,bs HB⟩
   rw[if_pos c4]at H;have gt:decide (dn<(l0.length:Int))=true:=decide_eq_true c4;clear c4
   by_cases c5:0≤dn
   rotate_left
   ·
    rw[if_neg c5]at H;exact absurd H (by simp)
   rw[if_pos c5]at H;have iV:decide (0≤dn)=true:=decide_eq_true c5;clear c5
   by_cases c6:dn<(l0.length:Int)
   rotate_left
   ·
    rw[if_neg c6]at H;exact absurd H (by simp)
   rw[if_pos c6]at H;have iG:decide (dn<(l0.length:Int))=true:=decide_eq_true c6;clear c6
   by_cases c7:fB.length<140737488355328
   rotate_left
   ·
    rw[if_neg c7]at H;exact absurd H (by simp)
   rw[if_pos c7]at H;have LMc7:=Ah c7;clear c7;obtain⟨yL,GD⟩:∃y_:List Int,y_=(fB++[((aM l0 dn).f0) %256]):=⟨_,rfl⟩
   replace H:(if yL.length+((aM l0 dn).f1).size<140737488355328 then(eH.l0 k1 (yL++jB ((aM l0 dn).f1)) l0 (l0.length:Int) (IH (dn+1)))else(none))=some r:=by first|(rw[GD];with_reducible exact H)|(have bB:=(aV _ _).symm.trans H;rw[GD];with_reducible exact bB)|(have bB:=(aV _ _).symm.trans H;with_reducible exact bB)|with_reducible exact H|(rw[GD];exact H)|exact H
   have Ny537:=Ah GD;clear GD
   by_cases c8:yL.length+((aM l0 dn).f1).size<140737488355328
   rotate_left
   ·
    rw[if_neg c8]at H;exact absurd H (by simp)
   rw[if_pos c8]at H;have HX:=Ah c8;clear c8;obtain⟨RN,GE⟩:∃y_:List Int,y_=(yL++jB ((aM l0 dn).f1)):=⟨_,rfl⟩
   replace H:(eH.l0 k1 RN l0 (l0.length:Int) (IH (dn+1)))=some r:=by first|(rw[GE];with_reducible exact H)|(have bB:=(aV _ _).symm.trans H;rw[GE];with_reducible exact bB)|(have bB:=(aV _ _).symm.trans H;with_reducible exact bB)|with_reducible exact H|(rw[GE];exact H)|exact H
   have Ny540:=Ah GE;clear GE;have H':=Ah H;clear H;have LY:0≤(dn:Int):=od;have LZ:dn<(l0.length:Int):=od;obtain⟨ad535,e535,JT,JU⟩:=iA dU.out dn LY LZ
   cases e535
   replace JT:=(HB.out.cell (cy w _ JT)).trans JT;replace JU:=(HB.out.cell (cy w _ JU)).trans JU;replace LY:=eq_true LY;replace LZ:=eq_true LZ
   try go_wp2_with (first|((with_reducible refine bC (N:=5) rfl ?_);refine bK 5 37 #[.int .i64 0,.string (⟨#[]⟩:ByteArray)] ?_;intro qo hg w9 jV hb;replace jd:=nr jd hb;have GW536:=gw hg (bs HB);have Cs:=gw hg (bs HB);replace HB:=Ah (aT (bs HB) hb);clear hb hg;obtain⟨Ec,Ed⟩:=cH jV;obtain⟨Ee,Ef⟩:=cD jV))
   have an:a9 (Kd.R (Kd.int .u8) 5 ((w9.setCell ⟨qo,0,none⟩ (.int .i64 ((aM l0 dn).f0))).setCell ⟨qo,1,none⟩ (.string ((aM l0 dn).f1))) w.heap.size (fun _=>True) u3 fB):=⟨by(with_reducible repeat(first|apply Kd.ah|apply Kd.ai|apply Kd.aY));exact Kd.aH (Kd.I (p:=⟨qo,1,none⟩) (Kd.I (p:=⟨qo,0,none⟩) (Kd.al jd.out jV.out (by decide)) (fun _ hk=>hk.2) (.int .i64 ((aM l0 dn).f0))) (fun _ hk=>hk.2) (.string ((aM l0 dn).f1))) (fun _ hk=>trivial)⟩;have am:a9 (((w9.setCell ⟨qo,0,none⟩ (.int .i64 ((aM l0 dn).f0))).setCell ⟨qo,1,none⟩ (.string ((aM l0 dn).f1))).heap[qo]?=some (.cells #[.int .i64 ((aM l0 dn).f0),.string ((aM l0 dn).f1)] 37 (0,0))):=⟨by(with_reducible repeat(first|refine aC ?_ _|refine U ?_|refine X ?_ _));refine aU (cs:= #[.int .i64 ((aM l0 dn).f0),.string (⟨#[]⟩:ByteArray)]) ?_ 1 _ rfl;(with_reducible repeat(first|refine aC ?_ _|refine U ?_|refine X ?_ _));refine aU (cs:= #[.int .i64 0,.string (⟨#[]⟩:ByteArray)]) ?_ 0 _ rfl;(with_reducible repeat(first|refine aC ?_ _|refine U ?_|refine X ?_ _));exact jV.out⟩;have aw:a9 (Below w.heap.size w ((w9.setCell ⟨qo,0,none⟩ (.int .i64 ((aM l0 dn).f0))).setCell ⟨qo,1,none⟩ (.string ((aM l0 dn).f1)))):=⟨aZ HB Cs⟩;(try clear jd);(try clear jV);(try clear HB)
   generalize ((w9.setCell ⟨qo,0,none⟩ (.int .i64 ((aM l0 dn).f0))).setCell ⟨qo,1,none⟩ (.string ((aM l0 dn).f1)))=uP at an am aw⊢
   have jd:=an;have jV:=am;have HB:=aw;clear an am aw;have an:=Ah (Kd.aY jd.out);have am:=Ah (U jV.out);have aw:=Ah (jg HB.out);clear jd jV HB;have jd:=an;have jV:=am;have HB:=aw;clear an am aw;refine la (n:=10) (S:=fun w'=>w'.cell? ⟨qo,0,none⟩=some (.int .i64 ((aM l0 dn).f0))∧w'.cell? ⟨qo,1,none⟩=some (.string ((aM l0 dn).f1))) (ds:=[]) #[false,false,false,false,false,false,false,false,false,false] (by kernel_rfl) rfl rfl ⟨(ab jV.out 0).trans rfl,(ab jV.out 1).trans rfl⟩ (fun hHeld=> ?_);refine m4 eH.LX eH.Ky (fun ac eh=> ?_)
   generalize uP.drew=lP at jd jV HB hHeld⊢
   refine bZ 0 19 ac.out ?_;refine bZ 1 20 ac.out ?_;refine bZ 6 25 ac.out ?_;refine gy 2 21 ac.out eh.out hHeld (hr:=by rintro w' ⟨s0,s1⟩;go_simp;with_reducible rfl) (h:= ?_);refine bZ 3 22 ac.out ?_;refine gy 7 26 ac.out eh.out hHeld (hr:=by rintro w' ⟨s0,s1⟩;go_simp;with_reducible rfl) (h:= ?_);refine fw (i:=4) (N:=some 23) #[true,true,true,true,true,false,true,true,false,false] rfl rfl (ff ac.out (by kernel_rfl)) (by decide) (fun K hK=> ?_);refine zQ (w1:= ?_) (v:= ?_) (by rfl) rfl ?_ ?_;rotate_left 2
   ·
    go_simp
    constructor
    ·
     rfl
    ·
     rfl
   refine hK.out _ _ ⟨(ab (X jV.out _) 0).trans rfl,(ab (X jV.out _) 1).trans rfl⟩ (fun hHeld=> ?_);clear hK K;refine gN (a':= ?_) ?_ ?_;rotate_left
   ·
    show aab _ (some 23) _=_
    simp only[aab,Ok,mr,mQ,eK,eT]
    rfl
   refine fw (i:=5) (N:=some 24) #[true,true,true,true,true,true,true,true,false,false] rfl rfl (ff ac.out (by kernel_rfl)) (by decide) (fun K hK=> ?_);refine Kd.yZ (Kd.int .u8) (w0:=w) w.heap.size (by rfl) (.tmp 19) (.tmp 23) 22 5 (.int .u8 0) 1 rfl aaA Es rfl (by decide) (by omega) u3 fB (((aM l0 dn).f0) %256) [.int .u8 (((aM l0 dn).f0) %256)] (fun _=>True) (fun _=>False) rfl rfl ?aP (fun _ hk=>hk.elim) ?aF ?aO ?aB ?aS ?aL ?_;(case aP=>exact rfl);(case aB=>exact(aZ HB Cs));(case aF=>exact(fun _ _=>trivial));(case aO=>exact(rr jd.out));(case aS=>exact(bF (aZ HB Cs)));(case aL=>have:=LMc7.out;omega);intro v538 pz ho hb hg hat;rw[←Ny537.out]at ho;have an:=Ah (hH (bk jV) hg (Kd.gY jd.out jV.out (by decide)));have am:=Ah (hb);have aw:=Ah (ho);clear jV HB jd;have jV:=an;have HB:=am;have Pl:=aw;clear an am aw ho hb hg hat;refine hK.out _ _ ⟨(ab jV.out 0).trans rfl,(ab jV.out 1).trans rfl⟩ (fun hHeld=> ?_);clear hK K;refine gN (a':= ?_) ?_ ?_;rotate_left
   ·
    show aab _ (some 24) _=_
    simp only[aab,Ok,mr,mQ,eK,eT]
    rfl
   refine fw (i:=8) (N:=some 27) #[true,true,true,true,true,true,true,true,true,false] rfl rfl (ff ac.out (by kernel_rfl)) (by decide) (fun K hK=> ?_);refine print_append_str_step (w0:=w) w.heap.size (by rfl) (.tmp 24) _ 22 9 5 rfl aaA abd Es v538 yL ((aM l0 dn).f1) rfl rfl ?aO ?aB ?aS ?aL ?_;(case aB=>exact(aZ HB Cs));(case aO=>exact(Kd.ue (rr Pl.out)));(case aS=>exact(bF (aZ HB Cs)));(case aL=>have:=HX.out;omega);intro v541 pM ho0 hb hg;have ho:=Kd.TT (h1:=fun _=>rfl) (ok:=fun _=>True) ho0 (fun _ _=>trivial);clear ho0;have hat:=True.intro;rw[←Ny540.out]at ho
   change Kd.R (Kd.int .u8) 5 pM w.heap.size (fun _=>True) v541 RN at ho
   have an:=Ah (hH (bk jV) hg (Kd.gY Pl.out jV.out (by decide)));have am:=Ah (hb);have aw:=Ah (ho);clear jV HB Pl;have jV:=an;have HB:=am;have HO542:=aw;clear an am aw ho hb hg hat;refine hK.out _ _ ⟨(ab jV.out 0).trans rfl,(ab jV.out 1).trans rfl⟩ (fun hHeld=> ?_);clear hK K;refine gN (a':= ?_) ?_ ?_;rotate_left
   ·
    show aab _ (some 27) _=_
    simp only[aab,Ok,mr,mQ,eK,eT]
    rfl
   refine bZ 9 3 ac.out ?_;refine kj (l3 ac.out (by kernel_rfl)) ?_
   try go_wp2
   go_roundg k1
   case measure=>have:=cN.out;omega
   case rel=>exact⟨(RN),(IH (dn+1)),e3,H',⟨by have:=cN.out;omega⟩,⟨rr HO542.out⟩,⟨aZ HB Cs⟩⟩
def ex.l0:Nat→ByteArray→List (aQ)→Int→Option ((List (aQ))×Bool)
 |0,_,_,_=>none
 |k+1,x0,x4,x5=>if(IH ((IH (x5+8))+1))<(x0.size:Int)then(if 0≤x5 then(if x5<(x0.size:Int)then(if 0≤(IH (x5+1))then(if(IH (x5+1))≤(IH ((IH (x5+1))+8))then(if(IH ((IH (x5+1))+8))≤(x0.size:Int)then(if x4.length<5864062014805 then(ex.l0 k x0 (x4++[(⟨IH (bt x0 x5),x0.extract ((IH (x5+1)):Int).toNat ((IH ((IH (x5+1))+8)):Int).toNat⟩:aQ)]) (IH (x5+9)))else(none))else(none))else(none))else(none))else(none))else(none))else((fZ.f k x4 32).bind fun RO=>(if RO=true then((eH.f k x4).bind fun wT=>(if wT.toList=x0.toList then(some (x4,true))else(some (([]:List (aQ)),false))))else(some (([]:List (aQ)),false))))
def ex.f(k:Nat)(a0:ByteArray):Option ((List (aQ))×Bool):=if(a0.size:Int)>74 then(some (([]:List (aQ)),false))else(ex.l0 k a0 (([]:List (aQ))) 1)
theorem ex.cW:∀k,(∀y0 y1 y2,aE (ex.l0 k y0 y1 y2) (ex.l0 (k+1) y0 y1 y2))
 |0=>fun _ _ _ r h=>by simp[ex.l0]at h
 |k+1=>by
  have be:=ex.cW k
  ·
   intro y0 y1 y2;unfold ex.l0
   repeat' with_reducible first|exact be _ _ _|exact fZ.mono _ _ _|exact eH.mono _ _|exact aE.refl _|exact aE.none _|refine aE.ite ?_ ?_|refine aE.bind ?_ (fun _=> ?_)
theorem ex.mono:∀a0 k,aE (ex.f k a0) (ex.f (k+1) a0):=by
 intro a0 k;have be:=ex.cW k;unfold ex.f
 repeat' with_reducible first|exact be _ _ _|exact fZ.mono _ _ _|exact eH.mono _ _|exact aE.refl _|exact aE.none _|refine aE.ite ?_ ?_|refine aE.bind ?_ (fun _=> ?_)
def ex.T7:Bool×List (List Nat×List Nat):=(true,[([],[]),([],[]),([],[]),([1,2],[1,2]),([3],[3]),([],[]),([],[]),([6],[6]),([],[]),([8],[8]),([9],[9]),([5,7,10],[5,7,10]),([4,11],[4,11]),([12],[12]),([0,13],[0,13]),([14,14,0,1,2,3,4,5,6,7,8,9,10,11,12,13,14],[0,14])])
def ex.B7:List Nat:=[0,0,0,6,14,0,0,64,0,256,768,2016,4094,8190,16383,32767]
theorem ex.RH:gh .any (mz Try.f16 7)=ex.T7:=by kernel_rfl
theorem ex.Ph:kc ex.T7.2 ex.B7=true:=by kernel_rfl
set_option maxHeartbeats 8000000 in
set_option maxRecDepth 100000 in
theorem ex.calls(k:Nat)(a0:ByteArray)(r1:List (aQ))(r2:Bool)(w:World)(h:ex.f k a0=some (r1,r2)):
 Calls tP 16 #[.string a0] w fun e w'=>∃cM:Value,e= .returned (.tuple #[cM,.bool r2])∧Kd.R bL 37 w' w.heap.size (fun _=>True) cM r1∧Below w.heap.size w w':=by
 have jt:=aah;have HB:=Ah (qB w.heap.size w);have H:(if(a0.size:Int)>74 then(some (([]:List (aQ)),false))else(ex.l0 k a0 (([]:List (aQ))) 1))=some (r1,r2):=h;clear h
 by_cases c2:(a0.size:Int)>74
 ·
  rw[if_pos c2]at H;have Ay:decide (74<(a0.size:Int))=true:=decide_eq_true c2;have H6:decide (74<a0.size)=true:=decide_eq_true (by omega);clear c2;simp only[kD,o7]at H;obtain⟨rfl,rfl⟩:=H
  go_enter aby,Try.ntmps16
  go_wp2
  go_ret2
  exact⟨_,er,by first|exact Kd.dr _ _ _ _ _|exact Kd.e8 _ _ _ _ _|exact Kd.e9 _ _ _ _ _|exact Kd.e5 _ _ _ _ _|exact Kd.e7 _ _ _ _ _,bs HB⟩
 rw[if_neg c2]at H;have Ay:decide (74<(a0.size:Int))=false:=decide_eq_false c2;have H6:decide (74<a0.size)=false:=decide_eq_false (by omega);clear c2;obtain⟨a1d,GF⟩:∃y_:List (aQ),y_=(([]:List (aQ))):=⟨_,rfl⟩
 replace H:(ex.l0 k a0 a1d 1)=some (r1,r2):=by first|(rw[GF];with_reducible exact H)|(have bB:=(aV _ _).symm.trans H;rw[GF];with_reducible exact bB)|(have bB:=(aV _ _).symm.trans H;with_reducible exact bB)|with_reducible exact H|(rw[GF];exact H)|exact H
 have ZK:=Ah GF;clear GF;have H':=Ah H;clear H
 go_enter aby,Try.ntmps16
 go_wp2_with (first|((with_reducible refine bC (N:=9) rfl ?_);refine Kd.oR bL _ 37 ?hg (N:=9) ?hd (xs:=([]:List (aQ))) (inner:=[]) (ok:=fun _=>True) (okp:=fun _=>True) ?hr ?hp (fun _ hk=>hk) trivial (qB _ _) (lQ _) (by simp) ?_;(case hd=>rfl);(case hg=>rfl);(case hr=>first|(go_simp;done)|(go_simp;rfl));(case hp=>exact(cU.none _ _));intro v548 w3 IE hb iH iB;clear iH iB;(first|rw[←ZK.out]at IE|(simp only[Int.reduceToNat]at IE;rw[←ZK.out]at IE));have HO549:=Ah (Kd.b8 IE (bF (bs HB)));replace HB:=Ah (aT (bs HB) hb);clear hb IE))
 go_loopg [4,5] k (fun kq v4 v5 w'=>∃ (nw:List (aQ)) (dT:Int),v5= .int .i64 dT∧a9 (ex.l0 kq a0 nw dT=some (r1,r2))∧a9 (kq≤k)∧a9 (Kd.R bL 37 w' w.heap.size (fun _=>True) v4 nw)∧a9 (Below w.heap.size w w'))
 case atStart=>exact⟨(a1d),(1),e3,H',⟨lQ _⟩,⟨rr HO549.out⟩,⟨bs HB⟩⟩
 case round=>
  clear H'
  try clear c1
  try clear c2
  try clear Ay
  try clear H6
  try clear p2
  obtain⟨nw,dT,rfl,HA,cN,eR,HB⟩:=hrel
  cases gk with
  |zero=>exact absurd HA.out (by simp[ex.l0])
  |succ k1=>
   have H:=HA.out;clear HA;simp only[ex.l0]at H
   by_cases c5:(IH ((IH (dT+8))+1))<(a0.size:Int)
   rotate_left
   ·
    rw[if_neg c5]at H;have iV:decide ((IH ((IH (dT+8))+1))<(a0.size:Int))=false:=decide_eq_false c5;clear c5;replace H:=Hz.mp H;obtain⟨RO,a1e,H⟩:=H
    try dsimp only at H
    have SH:=Ah a1e;clear a1e
    by_cases c17:RO=true
    rotate_left
    ·
     replace c17:=i1.mpr c17;subst c17;rw[if_neg dO]at H;simp only[kD,o7]at H;obtain⟨rfl,rfl⟩:=H;obtain⟨HG,DY,R8⟩:=Kd.ao eR.out;subst R8
     go_wp2_with (first|((with_reducible refine ar (f:=21) rfl ?_);refine gL (some 34) rfl rfl Try.func21 (by kernel_rfl) rfl #[.slice HG nw.length DY,.int .i64 32] rfl ?_;(with_reducible refine(fZ.calls k1 _ _ nw 32 false _ ?aI ?aJ SH.out).mono ?_);(case aI=>exact bd eR);(case aJ=>exact(Kd.aq eR.out).2.1);rintro e Lk ⟨rfl,hb⟩;refine⟨_,rfl, ?_⟩;replace eR:=nr eR hb;replace HB:=Ah (aT (bs HB) hb);(try clear hb)))
     go_ret2
     exact⟨_,er,by first|exact Kd.dr _ _ _ _ _|exact Kd.e8 _ _ _ _ _|exact Kd.e9 _ _ _ _ _|exact Kd.e5 _ _ _ _ _|exact Kd.e7 _ _ _ _ _,bs HB⟩
    subst c17;rw[if_pos rfl]at H;replace H:=Hz.mp H;obtain⟨wT,a1f,H⟩:=H
    try dsimp only at H
    have A18:=Ah a1f;clear a1f
    by_cases c19:wT.toList=a0.toList
    ·
     rw[if_pos c19]at H;have Ca:(wT.toList==a0.toList)=true:=beq_iff_eq.mpr c19;have FB:(wT.toList !=a0.toList)=false:=bne_eq_false_iff_eq.mpr c19;clear c19;simp only[kD,o7]at H;obtain⟨rfl,rfl⟩:=H;obtain⟨fP,fQ,AQ⟩:=Kd.ao eR.out;subst AQ
     go_wp2_with (first|((with_reducible refine ar (f:=21) rfl ?_);refine gL (some 34) rfl rfl Try.func21 (by kernel_rfl) rfl #[.slice fP nw.length fQ,.int .i64 32] rfl ?_;(with_reducible refine(fZ.calls k1 _ _ nw 32 true _ ?aI ?aJ SH.out).mono ?_);(case aI=>exact bd eR);(case aJ=>exact(Kd.aq eR.out).2.1);rintro e yS ⟨rfl,hb⟩;refine⟨_,rfl, ?_⟩;replace eR:=nr eR hb;replace HB:=Ah (aT (bs HB) hb);(try clear hb))|(go_at_call 23;(with_reducible refine(eH.calls k1 _ _ nw wT _ ?aI ?aJ A18.out).mono ?_);(case aI=>exact bd eR);(case aJ=>exact(Kd.aq eR.out).2.1);rintro e Bp ⟨rfl,hb⟩;replace eR:=nr eR hb;replace HB:=Ah (aT (bs HB) hb);(try clear hb)))
     go_ret2
     exact⟨_,er,by(with_reducible repeat(first|apply Kd.ah|apply Kd.ai|apply Kd.aY));exact eR.out,bs HB⟩
    rw[if_neg c19]at H;have Ca:(wT.toList==a0.toList)=false:=beq_eq_false_iff_ne.mpr c19;have FB:(wT.toList !=a0.toList)=true:=bne_iff_ne.mpr c19;simp only[kD,o7]at H;obtain⟨rfl,rfl⟩:=H;obtain⟨kt,ku,RP⟩:=Kd.ao eR.out;subst RP
    go_wp2_with (first|((with_reducible refine ar (f:=21) rfl ?_);refine gL (some 34) rfl rfl Try.func21 (by kernel_rfl) rfl #[.slice kt nw.length ku,.int .i64 32] rfl ?_;(with_reducible refine(fZ.calls k1 _ _ nw 32 true _ ?aI ?aJ SH.out).mono ?_);(case aI=>exact bd eR);(case aJ=>exact(Kd.aq eR.out).2.1);rintro e nL ⟨rfl,hb⟩;refine⟨_,rfl, ?_⟩;replace eR:=nr eR hb;replace HB:=Ah (aT (bs HB) hb);(try clear hb))|(go_at_call 23;(with_reducible refine(eH.calls k1 _ _ nw wT _ ?aI ?aJ A18.out).mono ?_);(case aI=>exact bd eR);(case aJ=>exact(Kd.aq eR.out).2.1);rintro e Bs ⟨rfl,hb⟩;replace eR:=nr eR hb;replace HB:=Ah (aT (bs HB) hb);(try clear hb)))
    go_ret2
    exact⟨_,er,by first|exact Kd.dr _ _ _ _ _|exact Kd.e8 _ _ _ _ _|exact Kd.e9 _ _ _ _ _|exact Kd.e5 _ _ _ _ _|exact Kd.e7 _ _ _ _ _,bs HB⟩
   rw[if_pos c5]at H;have iV:decide ((IH ((IH (dT+8))+1))<(a0.size:Int))=true:=decide_eq_true c5;clear c5
   by_cases c6:0≤dT
   rotate_left
   ·
    rw[if_neg c6]at H;exact absurd H (by simp)
   rw[if_pos c6]at H;have iG:decide (0≤dT)=true:=decide_eq_true c6;clear c6
   by_cases c7:dT<(a0.size:Int)
   rotate_left
   ·
    rw[if_neg c7]at H;exact absurd H (by simp)
   rw[if_pos c7]at H;have lu:decide (dT<(a0.size:Int))=true:=decide_eq_true c7;clear c7;obtain⟨kT,RQ⟩:∃j_:Int,(IH (dT+1))=j_:=⟨_,rfl⟩
   replace H:(if 0≤(kT)then(if(kT)≤(IH ((kT)+8))then(if(IH ((kT)+8))≤(a0.size:Int)then(if nw.length<5864062014805 then(ex.l0 k1 a0 (nw++[(⟨IH (bt a0 dT),a0.extract ((kT):Int).toNat ((IH ((kT)+8)):Int).toNat⟩:aQ)]) (IH (dT+9)))else(none))else(none))else(none))else(none))=some (r1,r2):=by first|(rw[RQ]at H;exact H)|(simp only[RQ]at H⊢;exact H)
   have hji9w:(IntKind.i64.wrap (dT+1))=kT:=(eK _).trans RQ
   by_cases c10:0≤(kT)
   rotate_left
   ·
    rw[if_neg c10]at H;exact absurd H (by simp)
   rw[if_pos c10]at H;have Cc:=eq_true c10;have Yl:decide (0≤(kT))=true:=decide_eq_true c10;clear c10
   by_cases c11:(kT)≤(IH ((kT)+8))
   rotate_left
   ·
    rw[if_neg c11]at H;exact absurd H (by simp)
   rw[if_pos c11]at H;have zd:=eq_true c11;have c11b1:decide ((kT)≤(IH ((kT)+8)))=true:=decide_eq_true c11
   by_cases c12:(IH ((kT)+8))≤(a0.size:Int)
   rotate_left
   ·
    rw[if_neg c12]at H;exact absurd H (by simp)
   rw[if_pos c12]at H;have P2:=eq_true c12;have c12b1:decide ((IH ((kT)+8))≤(a0.size:Int))=true:=decide_eq_true c12
   by_cases c13:nw.length<5864062014805
   rotate_left
   ·
    rw[if_neg c13]at H;exact absurd H (by simp)
   rw[if_pos c13]at H;have Pj:=Ah c13;clear c13;obtain⟨a1g,GG⟩:∃y_:List (aQ),y_=(nw++[(⟨IH (bt a0 dT),a0.extract ((kT):Int).toNat ((IH ((kT)+8)):Int).toNat⟩:aQ)]):=⟨_,rfl⟩
   replace H:(ex.l0 k1 a0 a1g (IH (dT+9)))=some (r1,r2):=by first|(rw[GG];with_reducible exact H)|(have bB:=(aV _ _).symm.trans H;rw[GG];with_reducible exact bB)|(have bB:=(aV _ _).symm.trans H;with_reducible exact bB)|with_reducible exact H|(rw[GG];exact H)|exact H
   have Ny550:=Ah GG;clear GG;have H':=Ah H;clear H
   try go_wp2
   have an:=Ah (Kd.aY eR.out);have am:=Ah (jg HB.out);clear eR HB;have eR:=an;have HB:=am;clear an am;have p8:0≤(dT:Int):=od;have q8:dT<(a0.size:Int):=od;have Lj:=xP a0 dT;replace p8:=eq_true p8;replace q8:=eq_true q8;refine la (n:=16) (S:=fun w'=>True) (ds:=[]) #[false,false,false,false,false,false,false,false,false,false,false,false,false,false,false,false] (by kernel_rfl) rfl rfl trivial (fun hHeld=> ?_);refine m4 ex.RH ex.Ph (fun ac eh=> ?_)
   generalize wr.drew=pM at eR HB hHeld⊢
   refine bZ 0 18 ac.out ?_;refine bZ 1 19 ac.out ?_;refine bZ 2 20 ac.out ?_;refine bZ 5 23 ac.out ?_;refine bZ 6 24 ac.out ?_;refine bZ 7 25 ac.out ?_;refine bZ 8 26 ac.out ?_;refine bZ 9 27 ac.out ?_;refine bZ 10 28 ac.out ?_;refine bZ 11 29 ac.out ?_;refine zY (i:=3) (N:=some 21) (v:= ?_) (a':= ?_) #[true,true,true,true,false,true,true,true,true,true,true,true,false,false,false,false] rfl rfl (Ml ac.out eh.out (by kernel_rfl)) (fun _ _ _ h=>h) (Or.inl ⟨by rfl, ?_⟩) hHeld ?_ ?_;rotate_left
   ·
    intro w' _
    go_simp
    with_reducible rfl
   rotate_left
   ·
    simp only[aab,Ok,mr,mQ,eK,eT]
    rfl
   refine bZ 4 22 ac.out ?_;refine bZ 12 30 ac.out ?_;refine fw (i:=13) (N:=some 31) #[true,true,true,true,true,true,true,true,true,true,true,true,true,true,false,false] rfl rfl (ff ac.out (by kernel_rfl)) (by decide) (fun K hK=> ?_);refine zQ (w1:= ?_) (v:= ?_) (by rfl) rfl ?_ ?_;rotate_left 2
   ·
    go_simp
    constructor
    ·
     rfl
    ·
     rfl
   refine hK.out _ _ trivial (fun hHeld=> ?_);clear hK K;refine gN (a':= ?_) ?_ ?_;rotate_left
   ·
    show aab _ (some 31) _=_
    simp only[aab,Ok,mr,mQ,eK,eT]
    rfl
   refine fw (i:=14) (N:=some 32) #[true,true,true,true,true,true,true,true,true,true,true,true,true,true,true,false] rfl rfl (ff ac.out (by kernel_rfl)) (by decide) (fun K hK=> ?_);refine Kd.yZ bL (w0:=w) w.heap.size (by rfl) (.tmp 18) (.tmp 31) 24 37 (.agg #[(.int .i64 0),(.string ⟨#[]⟩)]) 24 rfl aaF pb rfl (by decide) (by omega) u4 nw (⟨IH (bt a0 dT),a0.extract ((kT):Int).toNat ((IH ((kT)+8)):Int).toNat⟩:aQ) [.int .i64 (IH (bt a0 dT)),.string (a0.extract ((kT):Int).toNat ((IH ((kT)+8)):Int).toNat)] (fun _=>True) (fun _=>False) rfl rfl ?aP (fun _ hk=>hk.elim) ?aF ?aO ?aB ?aS ?aL ?_;(case aP=>exact CB _ _ _ (⟨IH (bt a0 dT),a0.extract ((kT):Int).toNat ((IH ((kT)+8)):Int).toNat⟩:aQ));(case aB=>exact(bs HB));(case aF=>exact(fun _ _=>trivial));(case aO=>exact(rr eR.out));(case aS=>exact(bF (bs HB)));(case aL=>have:=Pj.out;omega);intro v551 jN ho hb hg hat;rw[←Ny550.out]at ho;have an:=Ah (hb);have am:=Ah (ho);clear HB eR;have HB:=an;have HO552:=am;clear an am ho hb hg hat;refine hK.out _ _ trivial (fun hHeld=> ?_);clear hK K;refine gN (a':= ?_) ?_ ?_;rotate_left
   ·
    show aab _ (some 32) _=_
    simp only[aab,Ok,mr,mQ,eK,eT]
    rfl
   refine bZ 15 4 ac.out ?_;refine kj (l3 ac.out (by kernel_rfl)) ?_
   try go_wp2
   go_roundg k1
   case measure=>have:=cN.out;omega
   case rel=>exact⟨(a1g),(IH (dT+9)),e3,H',⟨by have:=cN.out;omega⟩,⟨rr HO552.out⟩,⟨bs HB⟩⟩
def fy.l0:Nat→List (aQ)→List ByteArray→Int→Int→Option ((List (aQ)))
 |0,_,_,_,_=>none
 |k+1,x3,x9,nN,ft=>if ft<nN then(if 0≤ft then(if ft<(x9.length:Int)then((ex.f k (dN JZ x9 ft)).bind fun ZL=>(if x3.length+ZL.1.length<5864062014805 then(fy.l0 k (x3++ZL.1) x9 nN (IH (ft+1)))else(none)))else(none))else(none))else(some x3)
def fy.f(k:Nat)(l0:List ByteArray):Option ((List (aQ))):=fy.l0 k (([]:List (aQ))) l0 (l0.length:Int) 0
theorem fy.cW:∀k,(∀y0 y1 y2 y3,aE (fy.l0 k y0 y1 y2 y3) (fy.l0 (k+1) y0 y1 y2 y3))
 |0=>fun _ _ _ _ r h=>by simp[fy.l0]at h
 |k+1=>by
  have be:=fy.cW k
  ·
   intro y0 y1 y2 y3;unfold fy.l0
   repeat' with_reducible first|exact be _ _ _ _|exact ex.mono _ _|exact aE.refl _|exact aE.none _|refine aE.ite ?_ ?_|refine aE.bind ?_ (fun _=> ?_)
theorem fy.mono:∀a0 k,aE (fy.f k a0) (fy.f (k+1) a0):=by
 intro a0 k;have be:=fy.cW k;unfold fy.f
 repeat' with_reducible first|exact be _ _ _ _|exact ex.mono _ _|exact aE.refl _|exact aE.none _|refine aE.ite ?_ ?_|refine aE.bind ?_ (fun _=> ?_)
set_option maxHeartbeats 8000000 in
set_option maxRecDepth 100000 in
theorem fy.calls(k:Nat)(A0:Option Addr)(c0:Nat)(l0:List ByteArray)(r:List (aQ))(w:World)(hr0:Kd.C Kd.string w A0 l0.length l0)(hc0:l0.length≤c0)(h:fy.f k l0=some r):
 Calls tP 31 #[.slice A0 l0.length c0] w fun e w'=>∃cM:Value,e= .returned (cM)∧Kd.R bL 37 w' w.heap.size (fun _=>True) cM r∧Below w.heap.size w w':=by
 have dU:=Ah hr0;have gK:=Ah hc0;clear hr0 hc0;have HB:=Ah (qB w.heap.size w);have H:(fy.l0 k (([]:List (aQ))) l0 (l0.length:Int) 0)=some r:=h;clear h;obtain⟨a1h,GH⟩:∃y_:List (aQ),y_=(([]:List (aQ))):=⟨_,rfl⟩
 replace H:(fy.l0 k a1h l0 (l0.length:Int) 0)=some r:=by first|(rw[GH];with_reducible exact H)|(have bB:=(aV _ _).symm.trans H;rw[GH];with_reducible exact bB)|(have bB:=(aV _ _).symm.trans H;with_reducible exact bB)|with_reducible exact H|(rw[GH];exact H)|exact H
 have ZM:=Ah GH;clear GH;have H':=Ah H;clear H
 go_enter Try.func31,Try.ntmps31
 go_wp2_with (first|((with_reducible refine bC (N:=8) rfl ?_);refine Kd.oR bL _ 37 ?hg (N:=8) ?hd (xs:=([]:List (aQ))) (inner:=[]) (ok:=fun _=>True) (okp:=fun _=>True) ?hr ?hp (fun _ hk=>hk) trivial (qB _ _) (lQ _) (by simp) ?_;(case hd=>rfl);(case hg=>rfl);(case hr=>first|(go_simp;done)|(go_simp;rfl));(case hp=>exact(cU.none _ _));intro v556 w2 ho3 hb iH iB;clear iH iB;(first|rw[←ZM.out]at ho3|(simp only[Int.reduceToNat]at ho3;rw[←ZM.out]at ho3));have HO557:=Ah (Kd.b8 ho3 (bF (bs HB)));replace HB:=Ah (aT (bs HB) hb);clear hb ho3))
 go_loopg [3,11] k (fun kq v3 v11 w'=>∃ (fB:List (aQ)) (ch:Int),v11= .int .i64 ch∧a9 (fy.l0 kq fB l0 (l0.length:Int) ch=some r)∧a9 (kq≤k)∧a9 (Kd.R bL 37 w' w.heap.size (fun _=>True) v3 fB)∧a9 (Below w.heap.size w w'))
 case atStart=>exact⟨(a1h),(0),e3,H',⟨lQ _⟩,⟨rr HO557.out⟩,⟨bs HB⟩⟩
 case round=>
  clear H'
  try clear p2
  try clear c3
  obtain⟨fB,ch,rfl,HA,cN,jd,HB⟩:=hrel
  cases gk with
  |zero=>exact absurd HA.out (by simp[fy.l0])
  |succ k1=>
   have H:=HA.out;clear HA;simp only[fy.l0]at H
   by_cases c4:ch<(l0.length:Int)
   rotate_left
   ·
    rw[if_neg c4]at H;have gt:decide (ch<(l0.length:Int))=false:=decide_eq_false c4;clear c4;obtain rfl:=ec H
    go_wp2
    go_ret
    exact⟨_,er,by(with_reducible repeat(first|apply Kd.ah|apply Kd.ai|apply Kd.aY));exact jd.out,bs HB⟩
   rw[if_pos c4]at H;have gt:decide (ch<(l0.length:Int))=true:=decide_eq_true c4;clear c4
   by_cases c5:0≤ch
   rotate_left
   ·
    rw[if_neg c5]at H;exact absurd H (by simp)
   rw[if_pos c5]at H;have iV:decide (0≤ch)=true:=decide_eq_true c5;clear c5
   by_cases c6:ch<(l0.length:Int)
   rotate_left
   ·
    rw[if_neg c6]at H;exact absurd H (by simp)
   rw[if_pos c6]at H;have iG:decide (ch<(l0.length:Int))=true:=decide_eq_true c6;clear c6;replace H:=Hz.mp H;obtain⟨⟨HY,t560⟩,nO,H⟩:=H
   try dsimp only at H
   have A7:=Ah nO;clear nO
   by_cases c8:fB.length+HY.length<5864062014805
   rotate_left
   ·
    rw[if_neg c8]at H;exact absurd H (by simp)
   rw[if_pos c8]at H;have HX:=Ah c8;clear c8;obtain⟨a1i,GI⟩:∃y_:List (aQ),y_=(fB++HY):=⟨_,rfl⟩
   replace H:(fy.l0 k1 a1i l0 (l0.length:Int) (IH (ch+1)))=some r:=by first|(rw[GI];with_reducible exact H)|(have bB:=(aV _ _).symm.trans H;rw[GI];with_reducible exact bB)|(have bB:=(aV _ _).symm.trans H;with_reducible exact bB)|with_reducible exact H|(rw[GI];exact H)|exact H
   have Ny563:=Ah GI;clear GI;have H':=Ah H;clear H;have RR:0≤(ch:Int):=od;have RS:ch<(l0.length:Int):=od;obtain⟨ad558,e558,O6⟩:=Kd.jR dU.out ch RR RS
   cases e558
   replace O6:=(HB.out.cell (cy w _ O6)).trans O6;replace RR:=eq_true RR;replace RS:=eq_true RS
   go_wp2_with (first|((with_reducible refine ar (f:=16) rfl ?_);refine gL (some 17) rfl rfl aby (by kernel_rfl) rfl #[.string (dN JZ l0 ch)] rfl ?_;(with_reducible refine(ex.calls k1 (dN JZ l0 ch) HY t560 _ A7.out).mono ?_);rintro e w9 ⟨v561,rfl,ho0,hb⟩;refine⟨_,rfl, ?_⟩;have GJ:=Ah (Kd.b8 (Kd.aA ho0 (Kd.Z (rr jd.out))) (bF (bs HB)));replace jd:=Ah (Kd.aX (rr jd.out) (Kd.a8 ho0) hb);replace HB:=Ah (aT (bs HB) hb);(try clear hb ho0);obtain⟨kO,kP,yA⟩:=Kd.ao GJ.out;subst yA)|((with_reducible refine oA (b:= .append) (xs:= #[.tmp 20,.tmp 21]) rfl ?_);at_builtin;refine Kd.wa bL (w0:=w) w.heap.size rfl (.tmp 20) (.tmp 21) 24 37 (.agg #[(.int .i64 0),(.string ⟨#[]⟩)]) 24 rfl aaF pb rfl (by decide) (by omega) u3 fB HY _ _ _ (fun k_=>some k_≠(.slice kO HY.length kP:Value).ownBlock) (fun _=>False) rfl rfl ?aO ?aR (fun _ _ h=>h) (fun _ h=>h.elim) ?aF ?aB ?aS ?aL ?_;(case aR=>exact bd GJ);(case aB=>exact(bs HB));(case aF=>exact(fun k_ hk=>Kd.fresh' (Kd.Z (rr GJ.out)) k_ hk));(case aO=>exact(by(with_reducible repeat(first|apply Kd.ah|apply Kd.ai|apply Kd.aY));exact Kd.aH jd.out (fun _ hk=>hk.2)));(case aS=>exact(bF (bs HB)));(case aL=>have:=HX.out;omega);intro v564 wY ho hb hg hat;rw[←Ny563.out]at ho;replace GJ:=Ah (Kd.uj (ok:=(fun _=>True)) (rr GJ.out) hg hat);replace HB:=Ah (hb);have HO565:=Ah (ho);clear jd;clear ho hb hg hat))
   go_roundg k1
   case measure=>have:=cN.out;omega
   case rel=>exact⟨(a1i),(IH (ch+1)),e3,H',⟨by have:=cN.out;omega⟩,rm HO565 (fun _ hk=>trivial),⟨bs HB⟩⟩
def Dq.f(a0:ByteArray):Option (Bool):=some ((a0.size:Int) !=8)
set_option maxHeartbeats 8000000 in
set_option maxRecDepth 100000 in
theorem Dq.calls(a0:ByteArray)(r:Bool)(w:World)(h:Dq.f a0=some r):
 Calls tP 56 #[.string a0] w fun e w'=>e= .returned (.bool r)∧dE w w':=by
 have H:(some ((a0.size:Int) !=8))=some r:=h;clear h;obtain rfl:=ec H
 go_enter Try.func56,Try.ntmps56
 go_wp2
 go_ret
 exact⟨by first|rfl|(simp;done)|(simp[*];done),by repeat(first|exact dE.refl _|apply dE.step)⟩
def iX.l0:Nat→List ByteArray→Int→Int→Option (Int)
 |0,_,_,_=>none
 |k+1,x0,x7,x8=>if x8<x7 then(if 0≤x8 then(if x8<(x0.length:Int)then((Dq.f (dN JZ x0 x8)).bind fun RT=>(if RT=true then(some x8)else(iX.l0 k x0 x7 (IH (x8+1)))))else(none))else(none))else(some (-1))
def iX.f(k:Nat)(l0:List ByteArray):Option (Int):=iX.l0 k l0 (l0.length:Int) 0
theorem iX.cW:∀k,(∀y0 y1 y2,aE (iX.l0 k y0 y1 y2) (iX.l0 (k+1) y0 y1 y2))
 |0=>fun _ _ _ r h=>by simp[iX.l0]at h
 |k+1=>by
  have be:=iX.cW k
  ·
   intro y0 y1 y2;unfold iX.l0
   repeat' with_reducible first|exact be _ _ _|exact aE.refl _|exact aE.none _|refine aE.ite ?_ ?_|refine aE.bind ?_ (fun _=> ?_)
theorem iX.mono:∀a0 k,aE (iX.f k a0) (iX.f (k+1) a0):=by
 intro a0 k;have be:=iX.cW k;unfold iX.f
 repeat' with_reducible first|exact be _ _ _|exact aE.refl _|exact aE.none _|refine aE.ite ?_ ?_|refine aE.bind ?_ (fun _=> ?_)
set_option maxHeartbeats 8000000 in
set_option maxRecDepth 100000 in
theorem iX.calls(k:Nat)(A0:Option Addr)(c0:Nat)(l0:List ByteArray)(r:Int)(w:World)(hr0:Kd.C Kd.string w A0 l0.length l0)(hc0:l0.length≤c0)(h:iX.f k l0=some r):
 Calls tP 68 #[.slice A0 l0.length c0,.func (.func 56) #[] #[]] w fun e w'=>e= .returned (.int .i64 r)∧Below w.heap.size w w':=by
 have dU:=Ah hr0;have gK:=Ah hc0;clear hr0 hc0;have HB:=Ah (qB w.heap.size w);have H:(iX.l0 k l0 (l0.length:Int) 0)=some r:=h;clear h;have H':=Ah H;clear H
 go_enter Try.func68,Try.ntmps68
 go_wp2
 go_loopg [8] k (fun kq v8 w'=>∃ (bD:Int),v8= .int .i64 bD∧a9 (iX.l0 kq l0 (l0.length:Int) bD=some r)∧a9 (kq≤k)∧a9 (Below w.heap.size w w'))
 case atStart=>exact⟨(0),e3,H',⟨lQ _⟩,⟨bs HB⟩⟩
 case round=>
  clear H'
  try clear p2
  obtain⟨bD,rfl,HA,cN,HB⟩:=hrel
  cases gk with
  |zero=>exact absurd HA.out (by simp[iX.l0])
  |succ k1=>
   have H:=HA.out;clear HA;simp only[iX.l0]at H
   by_cases c3:bD<(l0.length:Int)
   rotate_left
   ·
    rw[if_neg c3]at H;have f9:decide (bD<(l0.length:Int))=false:=decide_eq_false c3;clear c3;obtain rfl:=ec H
    go_wp2
    go_ret
    exact⟨er,bs HB⟩
   rw[if_pos c3]at H;have f9:decide (bD<(l0.length:Int))=true:=decide_eq_true c3;clear c3
   by_cases c4:0≤bD
   rotate_left
   ·
    rw[if_neg c4]at H;exact absurd H (by simp)
   rw[if_pos c4]at H;have gt:decide (0≤bD)=true:=decide_eq_true c4;clear c4
   by_cases c5:bD<(l0.length:Int)
   rotate_left
   ·
    rw[if_neg c5]at H;exact absurd H (by simp)
   rw[if_pos c5]at H;have iV:decide (bD<(l0.length:Int))=true:=decide_eq_true c5;clear c5;replace H:=Hz.mp H;obtain⟨RT,gF,H⟩:=H
   try dsimp only at H
   have A6:=Ah gF;clear gF
   by_cases c7:RT=true
   ·
    subst c7;rw[if_pos rfl]at H;obtain rfl:=ec H;have BN:0≤(bD:Int):=od;have BO:bD<(l0.length:Int):=od;obtain⟨ad566,RU,zE⟩:=Kd.jR dU.out bD BN BO
    cases RU
    replace zE:=(HB.out.cell (cy w _ zE)).trans zE;replace BN:=eq_true BN;replace BO:=eq_true BO
    go_wp2_with (first|((with_reducible refine tQ (t:=11) rfl ?_);refine tb (some 16) rfl rfl Try.func56 (by kernel_rfl) rfl #[.string (dN JZ l0 bD)] rfl rfl (by(try simp only[aac,aad,aaf]);first|done|rfl|(simp only[qC,fu];rfl)) ?_;(with_reducible refine(Dq.calls (dN JZ l0 bD) true _ A6.out).mono ?_);rintro e w' ⟨rfl,⟨nd,rfl⟩⟩;refine⟨_,rfl, ?_⟩))
    go_ret
    exact⟨er,bs HB⟩
   replace c7:=i1.mpr c7;subst c7;rw[if_neg dO]at H;have H':=Ah H;clear H;have BN:0≤(bD:Int):=od;have BO:bD<(l0.length:Int):=od;obtain⟨ad566,RU,zE⟩:=Kd.jR dU.out bD BN BO
   cases RU
   replace zE:=(HB.out.cell (cy w _ zE)).trans zE;replace BN:=eq_true BN;replace BO:=eq_true BO
   go_wp2_with (first|((with_reducible refine tQ (t:=11) rfl ?_);refine tb (some 16) rfl rfl Try.func56 (by kernel_rfl) rfl #[.string (dN JZ l0 bD)] rfl rfl (by(try simp only[aac,aad,aaf]);first|done|rfl|(simp only[qC,fu];rfl)) ?_;(with_reducible refine(Dq.calls (dN JZ l0 bD) false _ A6.out).mono ?_);rintro e w' ⟨rfl,⟨nd,rfl⟩⟩;refine⟨_,rfl, ?_⟩))
   go_roundg k1
   case measure=>have:=cN.out;omega
   case rel=>exact⟨(IH (bD+1)),e3,H',⟨by have:=cN.out;omega⟩,⟨bs HB⟩⟩
def rD.f(k:Nat)(l0:List ByteArray):Option (Bool):=(iX.f k l0).bind fun tF=>(some (decide (tF≥0)))
theorem rD.mono:∀a0 k,aE (rD.f k a0) (rD.f (k+1) a0):=by
 intro a0 k;unfold rD.f
 repeat' with_reducible first|exact iX.mono _ _|exact aE.refl _|exact aE.none _|refine aE.ite ?_ ?_|refine aE.bind ?_ (fun _=> ?_)
set_option maxHeartbeats 8000000 in
set_option maxRecDepth 100000 in
theorem rD.calls(k:Nat)(A0:Option Addr)(c0:Nat)(l0:List ByteArray)(r:Bool)(w:World)(hr0:Kd.C Kd.string w A0 l0.length l0)(hc0:l0.length≤c0)(h:rD.f k l0=some r):
 Calls tP 55 #[.slice A0 l0.length c0,.func (.func 56) #[] #[]] w fun e w'=>e= .returned (.bool r)∧Below w.heap.size w w':=by
 have dU:=Ah hr0;have gK:=Ah hc0;clear hr0 hc0;have HB:=Ah (qB w.heap.size w);have H:((iX.f k l0).bind fun tF=>(some (decide (tF≥0))))=some r:=h;clear h;replace H:=Hz.mp H;obtain⟨tF,fH,H⟩:=H
 try dsimp only at H
 have A3:=Ah fH;clear fH;obtain rfl:=ec H
 go_enter Try.func55,Try.ntmps55
 go_wp2_with (first|((with_reducible refine ar (f:=68) rfl ?_);refine gL (some 7) rfl rfl Try.func68 (by kernel_rfl) rfl #[.slice A0 l0.length c0,.func (.func 56) #[] #[]] rfl ?_;(with_reducible refine(iX.calls k _ _ l0 tF _ ?aI ?aJ A3.out).mono ?_);(case aI=>repeat(first|exact dU.out|(with_reducible refine Kd.ji ?_ _)|(with_reducible refine Kd.jj ?_ _)|(with_reducible refine Kd.jm ?_)));(case aJ=>exact gK.out);rintro e w4 ⟨rfl,hb⟩;refine⟨_,rfl, ?_⟩;replace HB:=Ah (aT (bs HB) hb);(try clear hb)))
 go_ret
 exact⟨er,bs HB⟩
def yX.f(gn:Int)(iu:ByteArray)(cL:List ByteArray)(fC:List (aQ)):Option (Bool):=(kW.f gn 0 (IH ((cL.length:Int)-1))).bind fun tF=>(if tF=true then(some ((iu.size:Int) !=8))else(some true))
set_option maxHeartbeats 8000000 in
set_option maxRecDepth 100000 in
theorem yX.calls(gn:Int)(iu:ByteArray)(d4:Nat)(fL:Option Addr)(fM:Nat)(cL:List ByteArray)(ik:Option Addr)(il:Nat)(fC:List (aQ))(r:Bool)(w:World)(lf:Kd.C Kd.string w fL cL.length cL)(lg:cL.length≤fM)(sn:Kd.C bL w ik fC.length fC)(so:fC.length≤il)(iq:w.heap[d4]?=some (.cells #[.slice fL cL.length fM,.slice ik fC.length il] 26 (0,0)))(h:yX.f gn iu cL fC=some r):
 Calls tP 57 #[.agg #[.int .i64 gn,.string iu],.pointer (some ⟨d4,0,none⟩)] w fun e w'=>e= .returned (.bool r)∧Below w.heap.size w w':=by
 have jt:=aah;have ot:=Ah lf;have ou:=Ah lg;clear lf lg;have AJ:=Ah sn;have AK:=Ah so;clear sn so;have pl:=Ah iq;clear iq;have HB:=Ah (qB w.heap.size w);have H:((kW.f gn 0 (IH ((cL.length:Int)-1))).bind fun tF=>(if tF=true then(some ((iu.size:Int) !=8))else(some true)))=some r:=h;clear h;replace H:=Hz.mp H;obtain⟨tF,fH,H⟩:=H
 try dsimp only at H
 have A3:=Ah fH;clear fH
 by_cases c4:tF=true
 ·
  subst c4;rw[if_pos rfl]at H;obtain rfl:=ec H
  go_enter Try.func57,Try.ntmps57
  go_wp2_with (first|((with_reducible refine bC (N:=2) rfl ?_);(try(refine fS (by rfl) ?_;dsimp only));refine bK 2 37 #[.int .i64 gn,.string iu] ?_;intro GK hg w5 GL hb;have GW567:=gw hg (bs HB);have Pm:=gw hg (bs HB);replace HB:=Ah (aT (bs HB) hb);have MW:=Ah ((by rw[hg];exact aap (iy (g:=d4) (o:= .cells #[.slice fL cL.length fM,.slice ik fC.length il] 26 (0,0)) (bk pl)):d4≠GK));have MX:=Ah ((by rw[hg];exact aaq (iy (g:=d4) (o:= .cells #[.slice fL cL.length fM,.slice ik fC.length il] 26 (0,0)) (bk pl)):GK≠d4));replace pl:=Ah (cS (g:=d4) (o:= .cells #[.slice fL cL.length fM,.slice ik fC.length il] 26 (0,0)) (bk pl) hb);clear hb hg;have a0x:=MX.out;have a0y:=MW.out;obtain⟨oM,oN⟩:=cH GL;obtain⟨oO,oP⟩:=cD GL;have vE:w5.cell? ⟨d4,0,none⟩=some (.slice fL cL.length fM):=(ab pl.out 0).trans rfl;have vF:w5.cell? ⟨d4,1,none⟩=some (.slice ik fC.length il):=(ab pl.out 1).trans rfl;obtain⟨xM,vG⟩:=cD pl)|((with_reducible refine ar (f:=44) rfl ?_);refine gL (some 10) rfl rfl abb (by kernel_rfl) rfl #[.int .i64 gn,.int .i64 0,.int .i64 (IH ((cL.length:Int)-1))] rfl ?_;(with_reducible refine(kW.calls gn 0 (IH ((cL.length:Int)-1)) true _ A3.out).mono ?_);rintro e w' ⟨rfl,⟨nd,rfl⟩⟩;refine⟨_,rfl, ?_⟩))
  go_ret
  exact⟨er,aZ HB Pm⟩
 replace c4:=i1.mpr c4;subst c4;rw[if_neg dO]at H;obtain rfl:=ec H
 go_enter Try.func57,Try.ntmps57
 go_wp2_with (first|((with_reducible refine bC (N:=2) rfl ?_);(try(refine fS (by rfl) ?_;dsimp only));refine bK 2 37 #[.int .i64 gn,.string iu] ?_;intro GK hg w9 GL hb;have GW567:=gw hg (bs HB);have Pm:=gw hg (bs HB);replace HB:=Ah (aT (bs HB) hb);have MW:=Ah ((by rw[hg];exact aap (iy (g:=d4) (o:= .cells #[.slice fL cL.length fM,.slice ik fC.length il] 26 (0,0)) (bk pl)):d4≠GK));have MX:=Ah ((by rw[hg];exact aaq (iy (g:=d4) (o:= .cells #[.slice fL cL.length fM,.slice ik fC.length il] 26 (0,0)) (bk pl)):GK≠d4));replace pl:=Ah (cS (g:=d4) (o:= .cells #[.slice fL cL.length fM,.slice ik fC.length il] 26 (0,0)) (bk pl) hb);clear hb hg;have Kb:=MX.out;have Ke:=MW.out;obtain⟨jC,jD⟩:=cH GL;obtain⟨jE,jF⟩:=cD GL;have JJ:w9.cell? ⟨d4,0,none⟩=some (.slice fL cL.length fM):=(ab pl.out 0).trans rfl;have JK:w9.cell? ⟨d4,1,none⟩=some (.slice ik fC.length il):=(ab pl.out 1).trans rfl;obtain⟨JL,JM⟩:=cD pl)|((with_reducible refine ar (f:=44) rfl ?_);refine gL (some 10) rfl rfl abb (by kernel_rfl) rfl #[.int .i64 gn,.int .i64 0,.int .i64 (IH ((cL.length:Int)-1))] rfl ?_;(with_reducible refine(kW.calls gn 0 (IH ((cL.length:Int)-1)) false _ A3.out).mono ?_);rintro e w' ⟨rfl,⟨nd,rfl⟩⟩;refine⟨_,rfl, ?_⟩))
 go_ret
 exact⟨er,aZ HB Pm⟩
def iY.l0:Nat→List (aQ)→Int→Int→List ByteArray→List (aQ)→Option (Int)
 |0,_,_,_,_,_=>none
 |k+1,x0,x7,x8,XA,XB=>if x8<x7 then(if 0≤x8 then(if x8<(x0.length:Int)then((yX.f ((aM x0 x8).f0) ((aM x0 x8).f1) XA XB).bind fun RV=>(if RV=true then(some x8)else(iY.l0 k x0 x7 (IH (x8+1)) XA XB)))else(none))else(none))else(some (-1))
def iY.f(k:Nat)(l0:List (aQ))(cL:List ByteArray)(fC:List (aQ)):Option (Int):=iY.l0 k l0 (l0.length:Int) 0 cL fC
theorem iY.cW:∀k,(∀y0 y1 y2 y3 y4,aE (iY.l0 k y0 y1 y2 y3 y4) (iY.l0 (k+1) y0 y1 y2 y3 y4))
 |0=>fun _ _ _ _ _ r h=>by simp[iY.l0]at h
 |k+1=>by
  have be:=iY.cW k
  ·
   intro y0 y1 y2 y3 y4;unfold iY.l0
   repeat' with_reducible first|exact be _ _ _ _ _|exact aE.refl _|exact aE.none _|refine aE.ite ?_ ?_|refine aE.bind ?_ (fun _=> ?_)
theorem iY.mono:∀a0 a1 a2 k,aE (iY.f k a0 a1 a2) (iY.f (k+1) a0 a1 a2):=by
 intro a0 a1 a2 k;have be:=iY.cW k;unfold iY.f
 repeat' with_reducible first|exact be _ _ _ _ _|exact aE.refl _|exact aE.none _|refine aE.ite ?_ ?_|refine aE.bind ?_ (fun _=> ?_)
set_option maxHeartbeats 8000000 in
set_option maxRecDepth 100000 in
theorem iY.calls(k:Nat)(A0:Option Addr)(c0:Nat)(l0:List (aQ))(d4:Nat)(fL:Option Addr)(fM:Nat)(cL:List ByteArray)(ik:Option Addr)(il:Nat)(fC:List (aQ))(r:Int)(w:World)(hr0:Kd.C bL w A0 l0.length l0)(hc0:l0.length≤c0)(lf:Kd.C Kd.string w fL cL.length cL)(lg:cL.length≤fM)(sn:Kd.C bL w ik fC.length fC)(so:fC.length≤il)(iq:w.heap[d4]?=some (.cells #[.slice fL cL.length fM,.slice ik fC.length il] 26 (0,0)))(h:iY.f k l0 cL fC=some r):
 Calls tP 65 #[.slice A0 l0.length c0,.func (.func 57) #[] #[.pointer (some ⟨d4,0,none⟩)]] w fun e w'=>e= .returned (.int .i64 r)∧Below w.heap.size w w':=by
 have jt:=aah;have dU:=Ah hr0;have gK:=Ah hc0;clear hr0 hc0;have ot:=Ah lf;have ou:=Ah lg;clear lf lg;have AJ:=Ah sn;have AK:=Ah so;clear sn so;have vu:=Ah iq;clear iq;have HB:=Ah (qB w.heap.size w);have H:(iY.l0 k l0 (l0.length:Int) 0 cL fC)=some r:=h;clear h;have H':=Ah H;clear H
 go_enter Try.func65,Try.ntmps65
 go_wp2
 go_loopg [8] k (fun kq v8 w'=>∃ (bD:Int),v8= .int .i64 bD∧a9 (iY.l0 kq l0 (l0.length:Int) bD cL fC=some r)∧a9 (kq≤k)∧a9 (w'.heap[d4]?=some (.cells #[(.slice fL cL.length fM),(.slice ik fC.length il)] 26 (0,0)))∧a9 (Below w.heap.size w w'))
 case atStart=>exact⟨(0),e3,H',⟨lQ _⟩,⟨bk vu⟩,⟨bs HB⟩⟩
 case round=>
  clear H'
  try clear c1
  try clear hx1
  try clear p2
  try clear iq
  obtain⟨bD,rfl,HA,cN,vu,HB⟩:=hrel
  cases gk with
  |zero=>exact absurd HA.out (by simp[iY.l0])
  |succ k1=>
   have H:=HA.out;clear HA;simp only[iY.l0]at H
   by_cases c3:bD<(l0.length:Int)
   rotate_left
   ·
    rw[if_neg c3]at H;have f9:decide (bD<(l0.length:Int))=false:=decide_eq_false c3;clear c3;obtain rfl:=ec H
    go_wp2
    go_ret
    exact⟨er,bs HB⟩
   rw[if_pos c3]at H;have f9:decide (bD<(l0.length:Int))=true:=decide_eq_true c3;clear c3
   by_cases c4:0≤bD
   rotate_left
   ·
    rw[if_neg c4]at H;exact absurd H (by simp)
   rw[if_pos c4]at H;have gt:decide (0≤bD)=true:=decide_eq_true c4;clear c4
   by_cases c5:bD<(l0.length:Int)
   rotate_left
   ·
    rw[if_neg c5]at H;exact absurd H (by simp)
   rw[if_pos c5]at H;have iV:decide (bD<(l0.length:Int))=true:=decide_eq_true c5;clear c5;replace H:=Hz.mp H;obtain⟨RV,gF,H⟩:=H
   try dsimp only at H
   have A6:=Ah gF;clear gF
   by_cases c7:RV=true
   ·
    subst c7;rw[if_pos rfl]at H;obtain rfl:=ec H;have BP:0≤(bD:Int):=od;have BQ:bD<(l0.length:Int):=od;obtain⟨ad570,RW,zF,zG⟩:=iA dU.out bD BP BQ
    cases RW
    replace zF:=(HB.out.cell (cy w _ zF)).trans zF;replace zG:=(HB.out.cell (cy w _ zG)).trans zG;replace BP:=eq_true BP;replace BQ:=eq_true BQ
    go_wp2_with (first|((with_reducible refine tQ (t:=11) rfl ?_);refine tb (some 16) rfl rfl Try.func57 (by kernel_rfl) rfl #[.agg #[.int .i64 ((aM l0 bD).f0),.string ((aM l0 bD).f1)],.pointer (some ⟨d4,0,none⟩)] rfl rfl (by(try simp only[aac,aad,aaf]);first|done|rfl|(simp only[qC,fu];rfl)) ?_;(with_reducible refine(yX.calls ((aM l0 bD).f0) ((aM l0 bD).f1) d4 fL fM cL ik il fC true _ ?aI ?aJ ?af ?ak ?bN A6.out).mono ?_);(case aI=>exact cb ot HB);(case aJ=>exact ou.out);(case af=>exact cb AJ HB);(case ak=>exact AK.out);(case bN=>(with_reducible repeat(first|refine aC ?_ _|refine U ?_|refine X ?_ _));exact vu.out);rintro e w8 ⟨rfl,hb⟩;refine⟨_,rfl, ?_⟩;replace vu:=Ah (cS (g:=d4) (o:= .cells #[.slice fL cL.length fM,.slice ik fC.length il] 26 (0,0)) (bk vu) hb);replace HB:=Ah (aT (bs HB) hb);(try clear hb)))
    go_ret
    exact⟨er,bs HB⟩
   replace c7:=i1.mpr c7;subst c7;rw[if_neg dO]at H;have H':=Ah H;clear H;have BP:0≤(bD:Int):=od;have BQ:bD<(l0.length:Int):=od;obtain⟨ad570,RW,zF,zG⟩:=iA dU.out bD BP BQ
   cases RW
   replace zF:=(HB.out.cell (cy w _ zF)).trans zF;replace zG:=(HB.out.cell (cy w _ zG)).trans zG;replace BP:=eq_true BP;replace BQ:=eq_true BQ
   go_wp2_with (first|((with_reducible refine tQ (t:=11) rfl ?_);refine tb (some 16) rfl rfl Try.func57 (by kernel_rfl) rfl #[.agg #[.int .i64 ((aM l0 bD).f0),.string ((aM l0 bD).f1)],.pointer (some ⟨d4,0,none⟩)] rfl rfl (by(try simp only[aac,aad,aaf]);first|done|rfl|(simp only[qC,fu];rfl)) ?_;(with_reducible refine(yX.calls ((aM l0 bD).f0) ((aM l0 bD).f1) d4 fL fM cL ik il fC false _ ?aI ?aJ ?af ?ak ?bN A6.out).mono ?_);(case aI=>exact cb ot HB);(case aJ=>exact ou.out);(case af=>exact cb AJ HB);(case ak=>exact AK.out);(case bN=>(with_reducible repeat(first|refine aC ?_ _|refine U ?_|refine X ?_ _));exact vu.out);rintro e w9 ⟨rfl,hb⟩;refine⟨_,rfl, ?_⟩;replace vu:=Ah (cS (g:=d4) (o:= .cells #[.slice fL cL.length fM,.slice ik fC.length il] 26 (0,0)) (bk vu) hb);replace HB:=Ah (aT (bs HB) hb);(try clear hb)))
   go_roundg k1
   case measure=>have:=cN.out;omega
   case rel=>exact⟨(IH (bD+1)),e3,H',⟨by have:=cN.out;omega⟩,⟨bk vu⟩,⟨bs HB⟩⟩
def sE.f(k:Nat)(l0:List (aQ))(cL:List ByteArray)(fC:List (aQ)):Option (Bool):=(iY.f k l0 cL fC).bind fun HZ=>(some (decide (HZ≥0)))
theorem sE.mono:∀a0 a1 a2 k,aE (sE.f k a0 a1 a2) (sE.f (k+1) a0 a1 a2):=by
 intro a0 a1 a2 k;unfold sE.f
 repeat' with_reducible first|exact iY.mono _ _ _ _|exact aE.refl _|exact aE.none _|refine aE.ite ?_ ?_|refine aE.bind ?_ (fun _=> ?_)
set_option maxHeartbeats 8000000 in
set_option maxRecDepth 100000 in
theorem sE.calls(k:Nat)(A0:Option Addr)(c0:Nat)(l0:List (aQ))(d4:Nat)(fL:Option Addr)(fM:Nat)(cL:List ByteArray)(ik:Option Addr)(il:Nat)(fC:List (aQ))(r:Bool)(w:World)(hr0:Kd.C bL w A0 l0.length l0)(hc0:l0.length≤c0)(lf:Kd.C Kd.string w fL cL.length cL)(lg:cL.length≤fM)(sn:Kd.C bL w ik fC.length fC)(so:fC.length≤il)(iq:w.heap[d4]?=some (.cells #[.slice fL cL.length fM,.slice ik fC.length il] 26 (0,0)))(h:sE.f k l0 cL fC=some r):
 Calls tP 45 #[.slice A0 l0.length c0,.func (.func 57) #[] #[.pointer (some ⟨d4,0,none⟩)]] w fun e w'=>e= .returned (.bool r)∧Below w.heap.size w w':=by
 have dU:=Ah hr0;have gK:=Ah hc0;clear hr0 hc0;have ot:=Ah lf;have ou:=Ah lg;clear lf lg;have AJ:=Ah sn;have AK:=Ah so;clear sn so;have Pn:=Ah iq;clear iq;have HB:=Ah (qB w.heap.size w);have H:((iY.f k l0 cL fC).bind fun HZ=>(some (decide (HZ≥0))))=some r:=h;clear h;replace H:=Hz.mp H;obtain⟨HZ,fH,H⟩:=H
 try dsimp only at H
 have A3:=Ah fH;clear fH;obtain rfl:=ec H
 go_enter Try.func45,Try.ntmps45
 go_wp2_with (first|((with_reducible refine ar (f:=65) rfl ?_);refine gL (some 7) rfl rfl Try.func65 (by kernel_rfl) rfl #[.slice A0 l0.length c0,.func (.func 57) #[] #[.pointer (some ⟨d4,0,none⟩)]] rfl ?_;(with_reducible refine(iY.calls k _ _ l0 d4 fL fM cL ik il fC HZ _ ?aI ?aJ ?af ?ak ?bN ?bc ?qU A3.out).mono ?_);(case aI=>repeat(first|exact dU.out|(with_reducible refine Kd.ji ?_ _)|(with_reducible refine Kd.jj ?_ _)|(with_reducible refine Kd.jm ?_)));(case aJ=>exact gK.out);(case af=>repeat(first|exact ot.out|(with_reducible refine Kd.ji ?_ _)|(with_reducible refine Kd.jj ?_ _)|(with_reducible refine Kd.jm ?_)));(case ak=>exact ou.out);(case bN=>repeat(first|exact AJ.out|(with_reducible refine Kd.ji ?_ _)|(with_reducible refine Kd.jj ?_ _)|(with_reducible refine Kd.jm ?_)));(case bc=>exact AK.out);(case qU=>(with_reducible repeat(first|refine aC ?_ _|refine U ?_|refine X ?_ _));exact Pn.out);rintro e w4 ⟨rfl,hb⟩;refine⟨_,rfl, ?_⟩;replace Pn:=Ah (cS (g:=d4) (o:= .cells #[.slice fL cL.length fM,.slice ik fC.length il] 26 (0,0)) (bk Pn) hb);replace HB:=Ah (aT (bs HB) hb);(try clear hb)))
 go_ret
 exact⟨er,bs HB⟩
def gc.j0:Nat→Bool→List ByteArray→List (aQ)→Option (Bool)
 |0,_,_,_=>none
 |k+1,de,XC,XD=>if de=true then(some false)else((rD.f k XC).bind fun RX=>(if RX=true then(some false)else((sE.f k XD XC XD).bind fun RY=>(some (!RY)))))
def gc.f(k:Nat)(aG:List ByteArray)(aD:List (aQ)):Option (Bool):=(kW.f (aG.length:Int) 1 32).bind fun Ha=>(if Ha=true then(gc.j0 k (decide ((aD.length:Int)>60)) aG aD)else(gc.j0 k true aG aD))
theorem gc.cW:∀k,(∀y0 y1 y2,aE (gc.j0 k y0 y1 y2) (gc.j0 (k+1) y0 y1 y2))
 |0=>fun _ _ _ r h=>by simp[gc.j0]at h
 |k+1=>by
  have be:=gc.cW k
  ·
   intro y0 y1 y2;unfold gc.j0
   repeat' with_reducible first|exact be _ _ _|exact sE.mono _ _ _ _|exact rD.mono _ _|exact aE.refl _|exact aE.none _|refine aE.ite ?_ ?_|refine aE.bind ?_ (fun _=> ?_)
theorem gc.mono:∀a0 a1 k,aE (gc.f k a0 a1) (gc.f (k+1) a0 a1):=by
 intro a0 a1 k;have be:=gc.cW k;unfold gc.f
 repeat' with_reducible first|exact be _ _ _|exact sE.mono _ _ _ _|exact rD.mono _ _|exact aE.refl _|exact aE.none _|refine aE.ite ?_ ?_|refine aE.bind ?_ (fun _=> ?_)
set_option maxHeartbeats 8000000 in
set_option maxRecDepth 100000 in
theorem gc.calls(k:Nat)(b0:Option Addr)(b5:Nat)(aG:List ByteArray)(b7:Option Addr)(ay:Nat)(aD:List (aQ))(r:Bool)(w:World)(eV:Kd.C Kd.string w b0 aG.length aG)(eW:aG.length≤b5)(eX:Kd.C bL w b7 aD.length aD)(eY:aD.length≤ay)(h:gc.f k aG aD=some r):
 Calls tP 32 #[.agg #[.slice b0 aG.length b5,.slice b7 aD.length ay]] w fun e w'=>e= .returned (.bool r)∧Below w.heap.size w w':=by
 have nG:=aam;have dY:=Ah eV;have dj:=Ah eW;clear eV eW;have dS:=Ah eX;have dt:=Ah eY;clear eX eY;have HB:=Ah (qB w.heap.size w);have H:((kW.f (aG.length:Int) 1 32).bind fun Ha=>(if Ha=true then(gc.j0 k (decide ((aD.length:Int)>60)) aG aD)else(gc.j0 k true aG aD)))=some r:=h;clear h;have pN:=Ah H;clear H
 go_enter Try.func32,Try.ntmps32
 go_upto_region 1 with(first|((with_reducible refine bC (N:=1) rfl ?_);(try(refine fS (by rfl) ?_;dsimp only));refine bK 1 26 #[.slice b0 aG.length b5,.slice b7 aD.length ay] ?_;intro ZN hg w3 lh hb;have GW574:=gw hg (bs HB);have xn:=gw hg (bs HB);replace HB:=Ah (aT (bs HB) hb);clear hb hg))
 (try simp only[aab,Ok,mr,mQ])
 go_cut [13] (fun v13 wc=>∃ (kq:Nat) (az:Bool),v13= .bool az∧a9 (gc.j0 kq az aG aD=some r)∧a9 (kq≤k)∧a9 (wc.heap[ZN]?=some (.cells #[(.slice b0 aG.length b5),(.slice b7 aD.length ay)] 26 (0,0)))∧a9 (Below w.heap.size w wc))
 case first=>
  have H:=pN.out;clear pN;replace H:=Hz.mp H;obtain⟨Ha,ek,H⟩:=H
  try dsimp only at H
  have A4:=Ah ek;clear ek
  by_cases c5:Ha=true
  ·
   subst c5;rw[if_pos rfl]at H;have H':=Ah H;clear H;obtain⟨En,Jg⟩:=cH lh;obtain⟨Jh,Ji⟩:=cD lh
   go_wp2_with (first|((with_reducible refine ar (f:=44) rfl ?_);refine gL (some 6) rfl rfl abb (by kernel_rfl) rfl #[.int .i64 (aG.length:Int),.int .i64 1,.int .i64 32] rfl ?_;(with_reducible refine(kW.calls (aG.length:Int) 1 32 true _ A4.out).mono ?_);rintro e w' ⟨rfl,⟨nd,rfl⟩⟩;refine⟨_,rfl, ?_⟩))
   go_meet
   case rel=>exact⟨_,(decide ((aD.length:Int)>60)),e3,H',⟨by first|omega|exact lQ _⟩,⟨bk lh⟩,⟨aZ HB xn⟩⟩
  replace c5:=i1.mpr c5;subst c5;rw[if_neg dO]at H;have H':=Ah H;clear H;obtain⟨oM,oN⟩:=cH lh;obtain⟨oO,oP⟩:=cD lh
  go_wp2_with (first|((with_reducible refine ar (f:=44) rfl ?_);refine gL (some 6) rfl rfl abb (by kernel_rfl) rfl #[.int .i64 (aG.length:Int),.int .i64 1,.int .i64 32] rfl ?_;(with_reducible refine(kW.calls (aG.length:Int) 1 32 false _ A4.out).mono ?_);rintro e w' ⟨rfl,⟨nd,rfl⟩⟩;refine⟨_,rfl, ?_⟩))
  go_meet
  case rel=>exact⟨_,(true),e3,H',⟨by first|omega|exact lQ _⟩,⟨bk lh⟩,⟨aZ HB xn⟩⟩
 case rest=>
  clear pN
  try clear p2
  try clear c3
  try clear c4
  try clear c5
  try clear En Jg
  try clear oM oN
  try clear Jh Ji
  try clear oO oP
  obtain⟨kq,az,rfl,HA,rB,lh,HB⟩:=hcut
  cases kq with
  |zero=>exact absurd HA.out (by simp[gc.j0])
  |succ pO=>
   have H:=HA.out;clear HA;simp only[gc.j0]at H
   by_cases c8:az=true
   ·
    subst c8;rw[if_pos rfl]at H;obtain rfl:=ec H
    go_wp2
    go_ret
    exact⟨er,aZ HB xn⟩
   replace c8:=i1.mpr c8;subst c8;rw[if_neg dO]at H;replace H:=Hz.mp H;obtain⟨RX,m3,H⟩:=H
   try dsimp only at H
   have A9:=Ah m3;clear m3
   by_cases c10:RX=true
   ·
    subst c10;rw[if_pos rfl]at H;obtain rfl:=ec H;obtain⟨jC,jD⟩:=cH lh;obtain⟨jE,jF⟩:=cD lh
    go_wp2_with (first|((with_reducible refine ar (f:=55) rfl ?_);refine gL (some 16) rfl rfl Try.func55 (by kernel_rfl) rfl #[.slice b0 aG.length b5,.func (.func 56) #[] #[]] rfl ?_;(with_reducible refine(rD.calls pO _ _ aG true _ ?aI ?aJ A9.out).mono ?_);(case aI=>exact cb dY HB);(case aJ=>exact dj.out);rintro e lP ⟨rfl,hb⟩;refine⟨_,rfl, ?_⟩;replace lh:=nb lh hb;replace HB:=Ah (aT (aZ HB xn) hb);(try clear hb)))
    go_ret
    exact⟨er,aZ HB xn⟩
   replace c10:=i1.mpr c10;subst c10;rw[if_neg dO]at H;replace H:=Hz.mp H;obtain⟨RY,Hb,H⟩:=H
   try dsimp only at H
   have SI:=Ah Hb;clear Hb;obtain rfl:=ec H;obtain⟨sM,sN⟩:=cH lh;obtain⟨sO,sP⟩:=cD lh
   go_wp2_with (first|((with_reducible refine ar (f:=55) rfl ?_);refine gL (some 16) rfl rfl Try.func55 (by kernel_rfl) rfl #[.slice b0 aG.length b5,.func (.func 56) #[] #[]] rfl ?_;(with_reducible refine(rD.calls pO _ _ aG false _ ?aI ?aJ A9.out).mono ?_);(case aI=>exact cb dY HB);(case aJ=>exact dj.out);rintro e jN ⟨rfl,hb⟩;refine⟨_,rfl, ?_⟩;replace lh:=nb lh hb;replace HB:=Ah (aT (aZ HB xn) hb);(try clear hb);obtain⟨vA,vB⟩:=cH lh;obtain⟨vC,vD⟩:=cD lh)|(go_at_call 45;(with_reducible refine(sE.calls pO _ _ aD ZN b0 b5 aG b7 ay aD RY _ ?aI ?aJ ?af ?ak ?bN ?bc ?qU SI.out).mono ?_);(case aI=>exact cb dS HB);(case aJ=>exact dt.out);(case af=>exact cb dY HB);(case ak=>exact dj.out);(case bN=>exact cb dS HB);(case bc=>exact dt.out);(case qU=>(with_reducible repeat(first|refine aC ?_ _|refine U ?_|refine X ?_ _));exact lh.out);rintro e Lm ⟨rfl,hb⟩;replace lh:=nb lh hb;replace HB:=Ah (aT (aZ HB xn) hb);(try clear hb)))
   go_ret
   exact⟨er,aZ HB xn⟩
def ic.l0:Nat→List (aQ)→Int→Int→Int→ByteArray→Option (Int)
 |0,_,_,_,_,_=>none
 |k+1,x0,x7,x8,XE,XF=>if x8<x7 then(if 0≤x8 then(if x8<(x0.length:Int)then(if(XE==((aM x0 x8).f0)&& (XF.toList==(((aM x0 x8).f1).toList)))=true then(some x8)else(ic.l0 k x0 x7 (IH (x8+1)) XE XF))else(none))else(none))else(some (-1))
def ic.f(k:Nat)(l0:List (aQ))(db:Int)(df:ByteArray):Option (Int):=ic.l0 k l0 (l0.length:Int) 0 db df
theorem ic.cW:∀k,(∀y0 y1 y2 y3 y4,aE (ic.l0 k y0 y1 y2 y3 y4) (ic.l0 (k+1) y0 y1 y2 y3 y4))
 |0=>fun _ _ _ _ _ r h=>by simp[ic.l0]at h
 |k+1=>by
  have be:=ic.cW k
  ·
   intro y0 y1 y2 y3 y4;unfold ic.l0
   repeat' with_reducible first|exact be _ _ _ _ _|exact aE.refl _|exact aE.none _|refine aE.ite ?_ ?_|refine aE.bind ?_ (fun _=> ?_)
theorem ic.mono:∀a0 a1 a2 k,aE (ic.f k a0 a1 a2) (ic.f (k+1) a0 a1 a2):=by
 intro a0 a1 a2 k;have be:=ic.cW k;unfold ic.f
 repeat' with_reducible first|exact be _ _ _ _ _|exact aE.refl _|exact aE.none _|refine aE.ite ?_ ?_|refine aE.bind ?_ (fun _=> ?_)
set_option maxHeartbeats 8000000 in
set_option maxRecDepth 100000 in
theorem ic.calls(k:Nat)(A0:Option Addr)(c0:Nat)(l0:List (aQ))(db:Int)(df:ByteArray)(r:Int)(w:World)(hr0:Kd.C bL w A0 l0.length l0)(hc0:l0.length≤c0)(h:ic.f k l0 db df=some r):
 Calls tP 66 #[.slice A0 l0.length c0,.agg #[.int .i64 db,.string df]] w fun e w'=>e= .returned (.int .i64 r)∧Below w.heap.size w w':=by
 have jt:=aah;have dU:=Ah hr0;have gK:=Ah hc0;clear hr0 hc0;have HB:=Ah (qB w.heap.size w);have H:(ic.l0 k l0 (l0.length:Int) 0 db df)=some r:=h;clear h;have H':=Ah H;clear H
 go_enter Try.func66,Try.ntmps66
 go_wp2_with (first|((with_reducible refine bC (N:=3) rfl ?_);refine bK 3 37 #[.int .i64 db,.string df] ?_;intro Po hg w3 vv hb;have ZO:=gw hg (bs HB);have Ct:=gw hg (bs HB);replace HB:=Ah (aT (bs HB) hb);clear hb hg))
 repeat(go_quiet (first|((with_reducible refine bC (N:=3) rfl ?_);refine bK 3 37 #[.int .i64 db,.string df] ?_;intro Po hg w3 vv hb;have ZO:=gw hg (bs HB);have Ct:=gw hg (bs HB);replace HB:=Ah (aT (bs HB) hb);clear hb hg));try go_wp2_with (first|((with_reducible refine bC (N:=3) rfl ?_);refine bK 3 37 #[.int .i64 db,.string df] ?_;intro Po hg w3 vv hb;have ZO:=gw hg (bs HB);have Ct:=gw hg (bs HB);replace HB:=Ah (aT (bs HB) hb);clear hb hg)))
 go_loopg [8] k (fun kq v8 w'=>∃ (bD:Int),v8= .int .i64 bD∧a9 (ic.l0 kq l0 (l0.length:Int) bD db df=some r)∧a9 (kq≤k)∧a9 (w'.heap[Po]?=some (.cells #[.int .i64 db,.string df] 37 (0,0)))∧a9 (Below w.heap.size w w'))
 case atStart=>exact⟨(0),e3,H',⟨lQ _⟩,⟨bk vv⟩,⟨aZ HB Ct⟩⟩
 case round=>
  clear H'
  try clear p2
  obtain⟨bD,rfl,HA,cN,vv,HB⟩:=hrel
  cases gk with
  |zero=>exact absurd HA.out (by simp[ic.l0])
  |succ k1=>
   have H:=HA.out;clear HA;simp only[ic.l0]at H
   by_cases c4:bD<(l0.length:Int)
   rotate_left
   ·
    rw[if_neg c4]at H;have gt:decide (bD<(l0.length:Int))=false:=decide_eq_false c4;clear c4;obtain rfl:=ec H
    go_wp2
    repeat(go_quiet (fail);try go_wp2)
    go_ret
    exact⟨er,aZ HB Ct⟩
   rw[if_pos c4]at H;have gt:decide (bD<(l0.length:Int))=true:=decide_eq_true c4;clear c4
   by_cases c5:0≤bD
   rotate_left
   ·
    rw[if_neg c5]at H;exact absurd H (by simp)
   rw[if_pos c5]at H;have iV:decide (0≤bD)=true:=decide_eq_true c5;clear c5
   by_cases c6:bD<(l0.length:Int)
   rotate_left
   ·
    rw[if_neg c6]at H;exact absurd H (by simp)
   rw[if_pos c6]at H;have iG:decide (bD<(l0.length:Int))=true:=decide_eq_true c6;clear c6
   by_cases c7:(db==((aM l0 bD).f0)&& (df.toList==(((aM l0 bD).f1).toList)))=true
   ·
    rw[if_pos c7]at H;have lu:(db==((aM l0 bD).f0)&& (df.toList==(((aM l0 bD).f1).toList)))=true:=c7;(try(have tz:decide (db=((aM l0 bD).f0)&& (df.toList==(((aM l0 bD).f1).toList)))=true:=by simpa using c7));(try(have c7b2:(db==((aM l0 bD).f0)&& (df.toList==(((aM l0 bD).f1).toList)))=true:=by simpa using c7));clear c7;obtain rfl:=ec H;obtain⟨vE,vF⟩:=cH vv;obtain⟨xM,vG⟩:=cD vv;have BR:0≤(bD:Int):=od;have BS:bD<(l0.length:Int):=od;obtain⟨ad579,RZ,zH,zI⟩:=iA dU.out bD BR BS
    cases RZ
    replace zH:=(HB.out.cell (cy w _ zH)).trans zH;replace zI:=(HB.out.cell (cy w _ zI)).trans zI;replace BR:=eq_true BR;replace BS:=eq_true BS
    go_wp2
    repeat(go_quiet (fail);try go_wp2)
    go_ret
    exact⟨er,aZ HB Ct⟩
   rw[if_neg c7]at H
   have lu:(db==((aM l0 bD).f0)&& (df.toList==(((aM l0 bD).f1).toList)))=false:=by simpa using c7
   (try(have tz:decide (db=((aM l0 bD).f0)&& (df.toList==(((aM l0 bD).f1).toList)))=false:=by simpa using c7));(try(have c7b2:(db==((aM l0 bD).f0)&& (df.toList==(((aM l0 bD).f1).toList)))=false:=by simpa using c7));(try(have c7b3:¬(db=((aM l0 bD).f0)&& (df.toList==(((aM l0 bD).f1).toList))):=by simpa using c7));clear c7;have H':=Ah H;clear H;obtain⟨sT,sU⟩:=cH vv;obtain⟨tc,sV⟩:=cD vv;have BR:0≤(bD:Int):=od;have BS:bD<(l0.length:Int):=od;obtain⟨ad579,RZ,zH,zI⟩:=iA dU.out bD BR BS
   cases RZ
   replace zH:=(HB.out.cell (cy w _ zH)).trans zH;replace zI:=(HB.out.cell (cy w _ zI)).trans zI;replace BR:=eq_true BR;replace BS:=eq_true BS
   go_wp2
   repeat(go_quiet (fail);try go_wp2)
   go_roundg k1
   case measure=>have:=cN.out;omega
   case rel=>exact⟨(IH (bD+1)),e3,H',⟨by have:=cN.out;omega⟩,⟨bk vv⟩,⟨aZ HB Ct⟩⟩
def rF.f(k:Nat)(l0:List (aQ))(db:Int)(df:ByteArray):Option (Bool):=(ic.f k l0 db df).bind fun Hc=>(some (decide (Hc≥0)))
theorem rF.mono:∀a0 a1 a2 k,aE (rF.f k a0 a1 a2) (rF.f (k+1) a0 a1 a2):=by
 intro a0 a1 a2 k;unfold rF.f
 repeat' with_reducible first|exact ic.mono _ _ _ _|exact aE.refl _|exact aE.none _|refine aE.ite ?_ ?_|refine aE.bind ?_ (fun _=> ?_)
set_option maxHeartbeats 8000000 in
set_option maxRecDepth 100000 in
theorem rF.calls(k:Nat)(A0:Option Addr)(c0:Nat)(l0:List (aQ))(db:Int)(df:ByteArray)(r:Bool)(w:World)(hr0:Kd.C bL w A0 l0.length l0)(hc0:l0.length≤c0)(h:rF.f k l0 db df=some r):
 Calls tP 47 #[.slice A0 l0.length c0,.agg #[.int .i64 db,.string df]] w fun e w'=>e= .returned (.bool r)∧Below w.heap.size w w':=by
 have jt:=aah;have dU:=Ah hr0;have gK:=Ah hc0;clear hr0 hc0;have HB:=Ah (qB w.heap.size w);have H:((ic.f k l0 db df).bind fun Hc=>(some (decide (Hc≥0))))=some r:=h;clear h;replace H:=Hz.mp H;obtain⟨Hc,fH,H⟩:=H
 try dsimp only at H
 have A3:=Ah fH;clear fH;obtain rfl:=ec H
 go_enter Try.func47,Try.ntmps47
 go_wp2_with (first|((with_reducible refine bC (N:=3) rfl ?_);refine bK 3 37 #[.int .i64 db,.string df] ?_;intro gb580 hg w4 Kz hb;have GW580:=gw hg (bs HB);have ZP:=gw hg (bs HB);replace HB:=Ah (aT (bs HB) hb);clear hb hg;obtain⟨Jj,Jk⟩:=cH Kz;obtain⟨OI,Jl⟩:=cD Kz)|((with_reducible refine ar (f:=66) rfl ?_);refine gL (some 7) rfl rfl Try.func66 (by kernel_rfl) rfl #[.slice A0 l0.length c0,.agg #[.int .i64 db,.string df]] rfl ?_;(with_reducible refine(ic.calls k _ _ l0 db df Hc _ ?aI ?aJ A3.out).mono ?_);(case aI=>exact cb dU HB);(case aJ=>exact gK.out);rintro e w6 ⟨rfl,hb⟩;refine⟨_,rfl, ?_⟩;replace Kz:=nb Kz hb;replace HB:=Ah (aT (aZ HB ZP) hb);(try clear hb)))
 go_ret
 exact⟨er,aZ HB ZP⟩
def qG.f(k:Nat)(gn:Int)(iu:ByteArray)(cL:List (aQ)):Option (Bool):=(rF.f k cL gn iu).bind fun Hd=>(some (!Hd))
theorem qG.mono:∀a0 a1 a2 k,aE (qG.f k a0 a1 a2) (qG.f (k+1) a0 a1 a2):=by
 intro a0 a1 a2 k;unfold qG.f
 repeat' with_reducible first|exact rF.mono _ _ _ _|exact aE.refl _|exact aE.none _|refine aE.ite ?_ ?_|refine aE.bind ?_ (fun _=> ?_)
set_option maxHeartbeats 8000000 in
set_option maxRecDepth 100000 in
theorem qG.calls(k:Nat)(gn:Int)(iu:ByteArray)(d4:Nat)(fL:Option Addr)(fM:Nat)(cL:List (aQ))(r:Bool)(w:World)(lf:Kd.C bL w fL cL.length cL)(lg:cL.length≤fM)(iq:w.heap[d4]?=some (.cells #[.slice fL cL.length fM] 24 (0,0)))(h:qG.f k gn iu cL=some r):
 Calls tP 46 #[.agg #[.int .i64 gn,.string iu],.pointer (some ⟨d4,0,none⟩)] w fun e w'=>e= .returned (.bool r)∧Below w.heap.size w w':=by
 have jt:=aah;have ot:=Ah lf;have ou:=Ah lg;clear lf lg;have xo:=Ah iq;clear iq;have HB:=Ah (qB w.heap.size w);have H:((rF.f k cL gn iu).bind fun Hd=>(some (!Hd)))=some r:=h;clear h;replace H:=Hz.mp H;obtain⟨Hd,fH,H⟩:=H
 try dsimp only at H
 have A3:=Ah fH;clear fH;obtain rfl:=ec H
 go_enter Try.func46,Try.ntmps46
 go_wp2_with (first|((with_reducible refine bC (N:=2) rfl ?_);refine bK 2 37 #[.int .i64 gn,.string iu] ?_;intro ZQ hg w4 L0 hb;have GW583:=gw hg (bs HB);have ZR:=gw hg (bs HB);replace HB:=Ah (aT (bs HB) hb);have NB582_583:=Ah ((by rw[hg];exact aap (iy (g:=d4) (o:= .cells #[.slice fL cL.length fM] 24 (0,0)) (bk xo)):d4≠ZQ));have NB583_582:=Ah ((by rw[hg];exact aaq (iy (g:=d4) (o:= .cells #[.slice fL cL.length fM] 24 (0,0)) (bk xo)):ZQ≠d4));replace xo:=Ah (cS (g:=d4) (o:= .cells #[.slice fL cL.length fM] 24 (0,0)) (bk xo) hb);clear hb hg;have hnb5:=NB582_583.out;have hnc5:=NB583_582.out;have En:w4.cell? ⟨d4,0,none⟩=some (.slice fL cL.length fM):=(ab xo.out 0).trans rfl;have Jh:=fz1 xo;obtain⟨oM,oN⟩:=cH L0;obtain⟨oO,oP⟩:=cD L0)|((with_reducible refine ar (f:=47) rfl ?_);refine gL (some 6) rfl rfl Try.func47 (by kernel_rfl) rfl #[.slice fL cL.length fM,.agg #[.int .i64 gn,.string iu]] rfl ?_;(with_reducible refine(rF.calls k _ _ cL gn iu Hd _ ?aI ?aJ A3.out).mono ?_);(case aI=>exact cb ot HB);(case aJ=>exact ou.out);rintro e w8 ⟨rfl,hb⟩;refine⟨_,rfl, ?_⟩;replace xo:=Ah (cS (g:=d4) (o:= .cells #[.slice fL cL.length fM] 24 (0,0)) (bk xo) hb);replace L0:=nb L0 hb;replace HB:=Ah (aT (aZ HB ZR) hb);(try clear hb)))
 go_ret
 exact⟨er,aZ HB ZR⟩
def iZ.l0:Nat→List (aQ)→Int→Int→List (aQ)→Option (Int)
 |0,_,_,_,_=>none
 |k+1,x0,x7,x8,XG=>if x8<x7 then(if 0≤x8 then(if x8<(x0.length:Int)then((qG.f k ((aM x0 x8).f0) ((aM x0 x8).f1) XG).bind fun Ra=>(if Ra=true then(some x8)else(iZ.l0 k x0 x7 (IH (x8+1)) XG)))else(none))else(none))else(some (-1))
def iZ.f(k:Nat)(l0:List (aQ))(cL:List (aQ)):Option (Int):=iZ.l0 k l0 (l0.length:Int) 0 cL
theorem iZ.cW:∀k,(∀y0 y1 y2 y3,aE (iZ.l0 k y0 y1 y2 y3) (iZ.l0 (k+1) y0 y1 y2 y3))
 |0=>fun _ _ _ _ r h=>by simp[iZ.l0]at h
 |k+1=>by
  have be:=iZ.cW k
  ·
   intro y0 y1 y2 y3;unfold iZ.l0
   repeat' with_reducible first|exact be _ _ _ _|exact qG.mono _ _ _ _|exact aE.refl _|exact aE.none _|refine aE.ite ?_ ?_|refine aE.bind ?_ (fun _=> ?_)
theorem iZ.mono:∀a0 a1 k,aE (iZ.f k a0 a1) (iZ.f (k+1) a0 a1):=by
 intro a0 a1 k;have be:=iZ.cW k;unfold iZ.f
 repeat' with_reducible first|exact be _ _ _ _|exact qG.mono _ _ _ _|exact aE.refl _|exact aE.none _|refine aE.ite ?_ ?_|refine aE.bind ?_ (fun _=> ?_)
set_option maxHeartbeats 8000000 in
set_option maxRecDepth 100000 in
theorem iZ.calls(k:Nat)(A0:Option Addr)(c0:Nat)(l0:List (aQ))(d4:Nat)(fL:Option Addr)(fM:Nat)(cL:List (aQ))(r:Int)(w:World)(hr0:Kd.C bL w A0 l0.length l0)(hc0:l0.length≤c0)(lf:Kd.C bL w fL cL.length cL)(lg:cL.length≤fM)(iq:w.heap[d4]?=some (.cells #[.slice fL cL.length fM] 24 (0,0)))(h:iZ.f k l0 cL=some r):
 Calls tP 65 #[.slice A0 l0.length c0,.func (.func 46) #[] #[.pointer (some ⟨d4,0,none⟩)]] w fun e w'=>e= .returned (.int .i64 r)∧Below w.heap.size w w':=by
 have jt:=aah;have dU:=Ah hr0;have gK:=Ah hc0;clear hr0 hc0;have ot:=Ah lf;have ou:=Ah lg;clear lf lg;have vw:=Ah iq;clear iq;have HB:=Ah (qB w.heap.size w);have H:(iZ.l0 k l0 (l0.length:Int) 0 cL)=some r:=h;clear h;have H':=Ah H;clear H
 go_enter Try.func65,Try.ntmps65
 go_wp2
 go_loopg [8] k (fun kq v8 w'=>∃ (bD:Int),v8= .int .i64 bD∧a9 (iZ.l0 kq l0 (l0.length:Int) bD cL=some r)∧a9 (kq≤k)∧a9 (w'.heap[d4]?=some (.cells #[(.slice fL cL.length fM)] 24 (0,0)))∧a9 (Below w.heap.size w w'))
 case atStart=>exact⟨(0),e3,H',⟨lQ _⟩,⟨bk vw⟩,⟨bs HB⟩⟩
 case round=>
  clear H'
  try clear c1
  try clear hx1
  try clear p2
  try clear iq
  obtain⟨bD,rfl,HA,cN,vw,HB⟩:=hrel
  cases gk with
  |zero=>exact absurd HA.out (by simp[iZ.l0])
  |succ k1=>
   have H:=HA.out;clear HA;simp only[iZ.l0]at H
   by_cases c3:bD<(l0.length:Int)
   rotate_left
   ·
    rw[if_neg c3]at H;have f9:decide (bD<(l0.length:Int))=false:=decide_eq_false c3;clear c3;obtain rfl:=ec H
    go_wp2
    go_ret
    exact⟨er,bs HB⟩
   rw[if_pos c3]at H;have f9:decide (bD<(l0.length:Int))=true:=decide_eq_true c3;clear c3
   by_cases c4:0≤bD
   rotate_left
   ·
    rw[if_neg c4]at H;exact absurd H (by simp)
   rw[if_pos c4]at H;have gt:decide (0≤bD)=true:=decide_eq_true c4;clear c4
   by_cases c5:bD<(l0.length:Int)
   rotate_left
   ·
    rw[if_neg c5]at H;exact absurd H (by simp)
   rw[if_pos c5]at H;have iV:decide (bD<(l0.length:Int))=true:=decide_eq_true c5;clear c5;replace H:=Hz.mp H;obtain⟨Ra,gF,H⟩:=H
   try dsimp only at H
   have A6:=Ah gF;clear gF
   by_cases c7:Ra=true
   ·
    subst c7;rw[if_pos rfl]at H;obtain rfl:=ec H;have BT:0≤(bD:Int):=od;have BU:bD<(l0.length:Int):=od;obtain⟨ad586,Rb,zJ,zK⟩:=iA dU.out bD BT BU
    cases Rb
    replace zJ:=(HB.out.cell (cy w _ zJ)).trans zJ;replace zK:=(HB.out.cell (cy w _ zK)).trans zK;replace BT:=eq_true BT;replace BU:=eq_true BU
    go_wp2_with (first|((with_reducible refine tQ (t:=11) rfl ?_);refine tb (some 16) rfl rfl Try.func46 (by kernel_rfl) rfl #[.agg #[.int .i64 ((aM l0 bD).f0),.string ((aM l0 bD).f1)],.pointer (some ⟨d4,0,none⟩)] rfl rfl (by(try simp only[aac,aad,aaf]);first|done|rfl|(simp only[qC,fu];rfl)) ?_;(with_reducible refine(qG.calls k1 ((aM l0 bD).f0) ((aM l0 bD).f1) d4 fL fM cL true _ ?aI ?aJ ?af A6.out).mono ?_);(case aI=>exact cb ot HB);(case aJ=>exact ou.out);(case af=>(with_reducible repeat(first|refine aC ?_ _|refine U ?_|refine X ?_ _));exact vw.out);rintro e w8 ⟨rfl,hb⟩;refine⟨_,rfl, ?_⟩;replace vw:=Ah (cS (g:=d4) (o:= .cells #[.slice fL cL.length fM] 24 (0,0)) (bk vw) hb);replace HB:=Ah (aT (bs HB) hb);(try clear hb)))
    go_ret
    exact⟨er,bs HB⟩
   replace c7:=i1.mpr c7;subst c7;rw[if_neg dO]at H;have H':=Ah H;clear H;have BT:0≤(bD:Int):=od;have BU:bD<(l0.length:Int):=od;obtain⟨ad586,Rb,zJ,zK⟩:=iA dU.out bD BT BU
   cases Rb
   replace zJ:=(HB.out.cell (cy w _ zJ)).trans zJ;replace zK:=(HB.out.cell (cy w _ zK)).trans zK;replace BT:=eq_true BT;replace BU:=eq_true BU
   go_wp2_with (first|((with_reducible refine tQ (t:=11) rfl ?_);refine tb (some 16) rfl rfl Try.func46 (by kernel_rfl) rfl #[.agg #[.int .i64 ((aM l0 bD).f0),.string ((aM l0 bD).f1)],.pointer (some ⟨d4,0,none⟩)] rfl rfl (by(try simp only[aac,aad,aaf]);first|done|rfl|(simp only[qC,fu];rfl)) ?_;(with_reducible refine(qG.calls k1 ((aM l0 bD).f0) ((aM l0 bD).f1) d4 fL fM cL false _ ?aI ?aJ ?af A6.out).mono ?_);(case aI=>exact cb ot HB);(case aJ=>exact ou.out);(case af=>(with_reducible repeat(first|refine aC ?_ _|refine U ?_|refine X ?_ _));exact vw.out);rintro e w9 ⟨rfl,hb⟩;refine⟨_,rfl, ?_⟩;replace vw:=Ah (cS (g:=d4) (o:= .cells #[.slice fL cL.length fM] 24 (0,0)) (bk vw) hb);replace HB:=Ah (aT (bs HB) hb);(try clear hb)))
   go_roundg k1
   case measure=>have:=cN.out;omega
   case rel=>exact⟨(IH (bD+1)),e3,H',⟨by have:=cN.out;omega⟩,⟨bk vw⟩,⟨bs HB⟩⟩
def rE.f(k:Nat)(l0:List (aQ))(cL:List (aQ)):Option (Bool):=(iZ.f k l0 cL).bind fun He=>(some (decide (He≥0)))
theorem rE.mono:∀a0 a1 k,aE (rE.f k a0 a1) (rE.f (k+1) a0 a1):=by
 intro a0 a1 k;unfold rE.f
 repeat' with_reducible first|exact iZ.mono _ _ _|exact aE.refl _|exact aE.none _|refine aE.ite ?_ ?_|refine aE.bind ?_ (fun _=> ?_)
set_option maxHeartbeats 8000000 in
set_option maxRecDepth 100000 in
theorem rE.calls(k:Nat)(A0:Option Addr)(c0:Nat)(l0:List (aQ))(d4:Nat)(fL:Option Addr)(fM:Nat)(cL:List (aQ))(r:Bool)(w:World)(hr0:Kd.C bL w A0 l0.length l0)(hc0:l0.length≤c0)(lf:Kd.C bL w fL cL.length cL)(lg:cL.length≤fM)(iq:w.heap[d4]?=some (.cells #[.slice fL cL.length fM] 24 (0,0)))(h:rE.f k l0 cL=some r):
 Calls tP 45 #[.slice A0 l0.length c0,.func (.func 46) #[] #[.pointer (some ⟨d4,0,none⟩)]] w fun e w'=>e= .returned (.bool r)∧Below w.heap.size w w':=by
 have dU:=Ah hr0;have gK:=Ah hc0;clear hr0 hc0;have ot:=Ah lf;have ou:=Ah lg;clear lf lg;have Pp:=Ah iq;clear iq;have HB:=Ah (qB w.heap.size w);have H:((iZ.f k l0 cL).bind fun He=>(some (decide (He≥0))))=some r:=h;clear h;replace H:=Hz.mp H;obtain⟨He,fH,H⟩:=H
 try dsimp only at H
 have A3:=Ah fH;clear fH;obtain rfl:=ec H
 go_enter Try.func45,Try.ntmps45
 go_wp2_with (first|((with_reducible refine ar (f:=65) rfl ?_);refine gL (some 7) rfl rfl Try.func65 (by kernel_rfl) rfl #[.slice A0 l0.length c0,.func (.func 46) #[] #[.pointer (some ⟨d4,0,none⟩)]] rfl ?_;(with_reducible refine(iZ.calls k _ _ l0 d4 fL fM cL He _ ?aI ?aJ ?af ?ak ?bN A3.out).mono ?_);(case aI=>repeat(first|exact dU.out|(with_reducible refine Kd.ji ?_ _)|(with_reducible refine Kd.jj ?_ _)|(with_reducible refine Kd.jm ?_)));(case aJ=>exact gK.out);(case af=>repeat(first|exact ot.out|(with_reducible refine Kd.ji ?_ _)|(with_reducible refine Kd.jj ?_ _)|(with_reducible refine Kd.jm ?_)));(case ak=>exact ou.out);(case bN=>(with_reducible repeat(first|refine aC ?_ _|refine U ?_|refine X ?_ _));exact Pp.out);rintro e w4 ⟨rfl,hb⟩;refine⟨_,rfl, ?_⟩;replace Pp:=Ah (cS (g:=d4) (o:= .cells #[.slice fL cL.length fM] 24 (0,0)) (bk Pp) hb);replace HB:=Ah (aT (bs HB) hb);(try clear hb)))
 go_ret
 exact⟨er,bs HB⟩
mutual
def dv.j0:Nat→Bool→List ByteArray→List (aQ)→List ByteArray→Int→Option (Bool)
 |0,_,_,_,_,_=>none
 |k+1,x26,JV,JW,zL,CH=>if x26=true then(some false)else(dv.l0 k zL (zL.length:Int) 0 JV JW zL CH)
def dv.l0:Nat→List ByteArray→Int→Int→List ByteArray→List (aQ)→List ByteArray→Int→Option (Bool)
 |0,_,_,_,_,_,_,_=>none
 |k+1,x28,x29,x30,JV,JW,zL,CH=>if x30<x29 then(if 0≤x30 then(if x30<(x28.length:Int)then((ex.f k (dN JZ x28 x30)).bind fun ZS=>(if ZS.2=true then((fZ.f k ZS.1 (JV.length:Int)).bind fun Rc=>(if Rc=true then(dv.l0 k x28 x29 (IH (x30+1)) JV JW zL CH)else(some false)))else(some false)))else(none))else(none))else(if 0≤CH then(if CH≤(zL.length:Int)then((fy.f k (zL.take (CH:Int).toNat)).bind fun Hf=>((rE.f k JW Hf).bind fun Rd=>(some (!Rd))))else(none))else(none))
end
def dv.f(k:Nat)(aG:List ByteArray)(aD:List (aQ))(aK:List ByteArray)(aN:Int):Option (Bool):=(gc.f k aG aD).bind fun Hg=>(if Hg=true then(if(aK.length:Int)>40 then(dv.j0 k true aG aD aK aN)else((kW.f aN 0 (aK.length:Int)).bind fun Db=>(dv.j0 k (!Db) aG aD aK aN)))else(dv.j0 k true aG aD aK aN))
theorem dv.cW:∀k,(∀y0 y1 y2 y3 y4,aE (dv.j0 k y0 y1 y2 y3 y4) (dv.j0 (k+1) y0 y1 y2 y3 y4))∧(∀y0 y1 y2 y3 y4 y5 y6,aE (dv.l0 k y0 y1 y2 y3 y4 y5 y6) (dv.l0 (k+1) y0 y1 y2 y3 y4 y5 y6))
 |0=>⟨fun _ _ _ _ _ r h=>by simp[dv.j0]at h,fun _ _ _ _ _ _ _ r h=>by simp[dv.l0]at h⟩
 |k+1=>by
  obtain⟨be,ih1⟩:=dv.cW k
  refine⟨?_, ?_⟩<;>intros<;>first|unfold dv.j0|unfold dv.l0
  all_goals repeat' first
   |(with_reducible exact be _ _ _ _ _)
   |(with_reducible exact ih1 _ _ _ _ _ _ _)
   |(with_reducible exact gc.mono _ _ _)
   |(with_reducible exact ex.mono _ _)
   |(with_reducible exact fZ.mono _ _ _)
   |(with_reducible exact fy.mono _ _)
   |(with_reducible exact rE.mono _ _ _)
   |(with_reducible exact aE.refl _)
   |(with_reducible exact aE.none _)
   |(with_reducible refine aE.ite ?_ ?_)
   |(with_reducible refine aE.bind ?_ (fun _=> ?_))
   |exact be _ _ _ _ _
   |exact ih1 _ _ _ _ _ _ _
   |exact gc.mono _ _ _
   |exact ex.mono _ _
   |exact fZ.mono _ _ _
   |exact fy.mono _ _
   |exact rE.mono _ _ _
   |exact aE.none _
   |refine aE.ite ?_ ?_
   |refine aE.bind ?_ (fun _=> ?_)
theorem dv.mono:∀a0 a1 a2 a3 k,aE (dv.f k a0 a1 a2 a3) (dv.f (k+1) a0 a1 a2 a3):=by
 intro a0 a1 a2 a3 k;obtain⟨be,ih1⟩:=dv.cW k;unfold dv.f
 repeat' with_reducible first|exact be _ _ _ _ _|exact ih1 _ _ _ _ _ _ _|exact gc.mono _ _ _|exact ex.mono _ _|exact fZ.mono _ _ _|exact fy.mono _ _|exact rE.mono _ _ _|exact aE.refl _|exact aE.none _|refine aE.ite ?_ ?_|refine aE.bind ?_ (fun _=> ?_)
set_option maxHeartbeats 8000000 in
set_option maxRecDepth 100000 in
theorem dv.calls(k:Nat)(b0:Option Addr)(b5:Nat)(aG:List ByteArray)(b7:Option Addr)(ay:Nat)(aD:List (aQ))(bV:Option Addr)(bR:Nat)(aK:List ByteArray)(aN:Int)(r:Bool)(w:World)(eV:Kd.C Kd.string w b0 aG.length aG)(eW:aG.length≤b5)(eX:Kd.C bL w b7 aD.length aD)(eY:aD.length≤ay)(gS:Kd.C Kd.string w bV aK.length aK)(gT:aK.length≤bR)(h:dv.f k aG aD aK aN=some r):
 Calls tP 20 #[.agg #[.slice b0 aG.length b5,.slice b7 aD.length ay,.slice bV aK.length bR,.int .i64 aN]] w fun e w'=>e= .returned (.bool r)∧Below w.heap.size w w':=by
 have me:=aaa;have nG:=aam;have dY:=Ah eV;have dj:=Ah eW;clear eV eW;have dS:=Ah eX;have dt:=Ah eY;clear eX eY;have eQ:=Ah gS;have ef:=Ah gT;clear gS gT;have HB:=Ah (qB w.heap.size w);have H:((gc.f k aG aD).bind fun Hg=>(if Hg=true then(if(aK.length:Int)>40 then(dv.j0 k true aG aD aK aN)else((kW.f aN 0 (aK.length:Int)).bind fun Db=>(dv.j0 k (!Db) aG aD aK aN)))else(dv.j0 k true aG aD aK aN)))=some r:=h;clear h;have pN:=Ah H;clear H
 go_enter Try.func20,Try.ntmps20
 go_upto_region 1 with(first|((with_reducible refine bC (N:=1) rfl ?_);(try(refine fS (by rfl) ?_;dsimp only));refine bK 1 28 #[.slice b0 aG.length b5,.slice b7 aD.length ay,.slice bV aK.length bR,.int .i64 aN] ?_;intro ZT hg w3 fO hb;have GW590:=gw hg (bs HB);have jK:=gw hg (bs HB);replace HB:=Ah (aT (bs HB) hb);clear hb hg))
 (try simp only[aab,Ok,mr,mQ])
 go_cut [26] (fun v26 wc=>∃ (kq:Nat) (L1:Bool),v26= .bool L1∧a9 (dv.j0 kq L1 aG aD aK aN=some r)∧a9 (kq≤k)∧a9 (wc.heap[ZT]?=some (.cells #[(.slice b0 aG.length b5),(.slice b7 aD.length ay),(.slice bV aK.length bR),.int .i64 aN] 28 (0,0)))∧a9 (Below w.heap.size w wc))
 case first=>
  have H:=pN.out;clear pN;replace H:=Hz.mp H;obtain⟨Hg,ek,H⟩:=H
  try dsimp only at H
  have A4:=Ah ek;clear ek
  by_cases c5:Hg=true
  rotate_left
  ·
   replace c5:=i1.mpr c5;subst c5;rw[if_neg dO]at H;have H':=Ah H;clear H;obtain⟨sM,sN,xH,xI⟩:=b9 fO;obtain⟨sO,sP,xJ,xK⟩:=bA fO
   go_wp2_with (first|((with_reducible refine ar (f:=32) rfl ?_);refine gL (some 10) rfl rfl Try.func32 (by kernel_rfl) rfl #[.agg #[.slice b0 aG.length b5,.slice b7 aD.length ay]] rfl ?_;(with_reducible refine(gc.calls k _ _ aG _ _ aD false _ ?aI ?aJ ?af ?ak A4.out).mono ?_);(case aI=>exact cb dY HB);(case aJ=>exact dj.out);(case af=>exact cb dS HB);(case ak=>exact dt.out);rintro e jN ⟨rfl,hb⟩;refine⟨_,rfl, ?_⟩;replace fO:=nb fO hb;replace HB:=Ah (aT (aZ HB jK) hb);(try clear hb)))
   go_meet
   case rel=>exact⟨_,(true),e3,H',⟨by first|omega|exact lQ _⟩,⟨bk fO⟩,⟨aZ HB jK⟩⟩
  subst c5;rw[if_pos rfl]at H
  by_cases c6:(aK.length:Int)>40
  ·
   rw[if_pos c6]at H;have iG:decide (40<(aK.length:Int))=true:=decide_eq_true c6;have rt:decide (40<aK.length)=true:=decide_eq_true (by omega);clear c6;(first|rw[iG]|(simp only[eK,eT];rw[iG])|(simp only[QW,aaX,Bool.not_true])|skip);have H':=Ah H;clear H;obtain⟨oM,oN,zS,zT⟩:=b9 fO;obtain⟨oO,oP,zU,zV⟩:=bA fO
   go_wp2_with (first|((with_reducible refine ar (f:=32) rfl ?_);refine gL (some 10) rfl rfl Try.func32 (by kernel_rfl) rfl #[.agg #[.slice b0 aG.length b5,.slice b7 aD.length ay]] rfl ?_;(with_reducible refine(gc.calls k _ _ aG _ _ aD true _ ?aI ?aJ ?af ?ak A4.out).mono ?_);(case aI=>exact cb dY HB);(case aJ=>exact dj.out);(case af=>exact cb dS HB);(case ak=>exact dt.out);rintro e w8 ⟨rfl,hb⟩;refine⟨_,rfl, ?_⟩;replace fO:=nb fO hb;replace HB:=Ah (aT (aZ HB jK) hb);(try clear hb);obtain⟨sT,sU,xN,zW⟩:=b9 fO;obtain⟨tc,sV,xO,zX⟩:=bA fO))
   go_meet
   case rel=>exact⟨_,(true),e3,H',⟨by first|omega|exact lQ _⟩,⟨bk fO⟩,⟨aZ HB jK⟩⟩
  rw[if_neg c6]at H;have iG:decide (40<(aK.length:Int))=false:=decide_eq_false c6;have rt:decide (40<aK.length)=false:=decide_eq_false (by omega);clear c6;(first|rw[iG]|(simp only[eK,eT];rw[iG])|(simp only[QW,aaX,Bool.not_true])|skip);replace H:=Hz.mp H;obtain⟨Db,Ge,H⟩:=H
  try dsimp only at H
  have Rz:=Ah Ge;clear Ge;have H':=Ah H;clear H;obtain⟨jC,jD,l4,l5⟩:=b9 fO;obtain⟨jE,jF,l6,l7⟩:=bA fO
  go_wp2_with (first|((with_reducible refine ar (f:=32) rfl ?_);refine gL (some 10) rfl rfl Try.func32 (by kernel_rfl) rfl #[.agg #[.slice b0 aG.length b5,.slice b7 aD.length ay]] rfl ?_;(with_reducible refine(gc.calls k _ _ aG _ _ aD true _ ?aI ?aJ ?af ?ak A4.out).mono ?_);(case aI=>exact cb dY HB);(case aJ=>exact dj.out);(case af=>exact cb dS HB);(case ak=>exact dt.out);rintro e lP ⟨rfl,hb⟩;refine⟨_,rfl, ?_⟩;replace fO:=nb fO hb;replace HB:=Ah (aT (aZ HB jK) hb);(try clear hb);obtain⟨pX,pY,rQ,rR⟩:=b9 fO;obtain⟨pZ,pa,rS,rT⟩:=bA fO)|(go_at_call 44;(with_reducible refine(kW.calls aN 0 (aK.length:Int) Db _ Rz.out).mono ?_);rintro e w' ⟨rfl,⟨nd,rfl⟩⟩))
  go_meet
  case rel=>exact⟨_,(!Db),e3,H',⟨by first|omega|exact lQ _⟩,⟨bk fO⟩,⟨aZ HB jK⟩⟩
 case rest=>
  clear pN
  try clear c2
  try clear p2
  try clear c3
  try clear c5
  try clear c6
  try clear iG
  try clear rt
  try clear jC jD l4 l5
  try clear pX pY rQ rR
  try clear sM sN xH xI
  try clear oM oN zS zT
  try clear sT sU xN zW
  try clear jE jF l6 l7
  try clear pZ pa rS rT
  try clear sO sP xJ xK
  try clear oO oP zU zV
  try clear tc sV xO zX
  obtain⟨kq,L1,rfl,HA,rB,fO,HB⟩:=hcut
  cases kq with
  |zero=>exact absurd HA.out (by simp[dv.j0])
  |succ pO=>
   have H:=HA.out;clear HA;simp only[dv.j0]at H
   by_cases c16:L1=true
   ·
    subst c16;rw[if_pos rfl]at H;obtain rfl:=ec H
    go_wp2
    go_ret
    exact⟨er,aZ HB jK⟩
   replace c16:=i1.mpr c16;subst c16;rw[if_neg dO]at H;have H':=Ah H;clear H;obtain⟨oG,oH,tW,tX⟩:=b9 fO;obtain⟨oI,oJ,tY,tZ⟩:=bA fO
   go_wp2
   go_loopg [30] pO (fun kq v30 w'=>∃ (jW:Int),v30= .int .i64 jW∧a9 (dv.l0 kq aK (aK.length:Int) jW aG aD aK aN=some r)∧a9 (kq≤pO)∧a9 (w'.heap[ZT]?=some (.cells #[(.slice b0 aG.length b5),(.slice b7 aD.length ay),(.slice bV aK.length bR),.int .i64 aN] 28 (0,0)))∧a9 (Below w.heap.size w w'))
   case atStart=>exact⟨(0),e3,H',⟨lQ _⟩,⟨bk fO⟩,⟨aZ HB jK⟩⟩
   case round=>
    clear H'
    try clear c1
    try clear c2
    try clear p2
    try clear c3
    try clear c5
    try clear c6
    try clear iG
    try clear rt
    try clear c16
    try clear jC jD l4 l5
    try clear pX pY rQ rR
    try clear sM sN xH xI
    try clear oG oH tW tX
    try clear oM oN zS zT
    try clear sT sU xN zW
    try clear jE jF l6 l7
    try clear pZ pa rS rT
    try clear sO sP xJ xK
    try clear oI oJ tY tZ
    try clear oO oP zU zV
    try clear tc sV xO zX
    try clear p2
    obtain⟨jW,rfl,HA,jf,fO,HB⟩:=hrel
    cases gk with
    |zero=>exact absurd HA.out (by simp[dv.l0])
    |succ k2=>
     have H:=HA.out;clear HA;simp only[dv.l0]at H
     by_cases c18:jW<(aK.length:Int)
     rotate_left
     ·
      rw[if_neg c18]at H;have Kf:decide (jW<(aK.length:Int))=false:=decide_eq_false c18;clear c18
      by_cases c34:0≤aN
      rotate_left
      ·
       rw[if_neg c34]at H;exact absurd H (by simp)
      rw[if_pos c34]at H;have c34b0:=eq_true c34;have c34b1:decide (0≤aN)=true:=decide_eq_true c34;clear c34
      by_cases sB:aN≤(aK.length:Int)
      rotate_left
      ·
       rw[if_neg sB]at H;exact absurd H (by simp)
      rw[if_pos sB]at H;have YN:=eq_true sB;have c35b1:decide (aN≤(aK.length:Int))=true:=decide_eq_true sB;clear sB;replace H:=Hz.mp H;obtain⟨Hf,a1j,H⟩:=H
      try dsimp only at H
      have A36:=Ah a1j;clear a1j;replace H:=Hz.mp H;obtain⟨Rd,a1k,H⟩:=H
      try dsimp only at H
      have A37:=Ah a1k;clear a1k;obtain rfl:=ec H;obtain⟨hcz38_0,hcz38_1,hcz38_2,hcz38_3⟩:=b9 fO;obtain⟨hfz38_0,hfz38_1,hfz38_2,hfz38_3⟩:=bA fO;obtain⟨i039,ZU,_,ZV,_⟩:=info_parts mB;obtain⟨hcut39,a1l,a1m⟩:=yY (P:=tP) Value.string (⟨#[]⟩:ByteArray) 23 9 .i64 aas ZU ZV bV bR aK aN (od) (od) ef.out;have HR593:=Ah (Kd.uU (h1:=fun _=>rfl) (a1l _ (Kd.sH eQ.out)));have HC593:=Ah a1m;clear a1l a1m ZU ZV
      go_wp2_with (first|((with_reducible refine ar (f:=31) rfl ?_);refine Ek (some 56) rfl rfl Try.func31 (by kernel_rfl) rfl #[.slice bV (aK.take (aN:Int).toNat).length bR] rfl (by(try simp only[aac,aad,aaf]);first|done|(rw[show(aK.take (aN:Int).toNat).length=aN.toNat from(by rw[fu];have h_:(aN:Int)≤(aK.length:Int):=od;omega)]<;>rfl)|rfl|(simp only[qC,fu];rfl)) ?_;(with_reducible refine(fy.calls k2 _ _ (aK.take (aN:Int).toNat) Hf _ ?aI ?aJ A36.out).mono ?_);(case aI=>exact cb HR593 HB);(case aJ=>exact HC593.out);rintro e Dp ⟨v595,rfl,ho0,hb⟩;refine⟨_,rfl, ?_⟩;have AL:=Ah (Kd.b8 ho0 (bF (aZ HB jK)));replace fO:=nb fO hb;replace HB:=Ah (aT (aZ HB jK) hb);(try clear hb ho0))|((with_reducible refine bC (N:=7) rfl ?_);(try(refine fS (by rfl) ?_;dsimp only));refine bK 7 24 #[.slice none 0 0] ?_;intro Pq hg w41 AM hb;replace AL:=nr AL hb;have GW597:=gw hg (aZ HB jK);have Pr:=gw hg (aZ HB jK);replace HB:=Ah (aT (aZ HB jK) hb);have TC:=nn fO hg;have NB597_590:=nm fO hg;replace fO:=nb fO hb;clear hb hg;obtain⟨LU,HF,R5⟩:=Kd.ao AL.out;subst R5;have hnb43:=NB597_590.out;have hnc43:=TC.out;have hcz44_0:=cz1 AM;have hfz44_0:=fz1 AM;obtain⟨hcz45_0,hcz45_1,hcz45_2,hcz45_3⟩:=b9 fO;obtain⟨hfz45_0,hfz45_1,hfz45_2,hfz45_3⟩:=bA fO)|((with_reducible refine ar (f:=45) rfl ?_);refine gL (some 61) rfl rfl Try.func45 (by kernel_rfl) rfl #[.slice b7 aD.length ay,.func (.func 46) #[] #[.pointer (some ⟨Pq,0,none⟩)]] rfl ?_;(with_reducible refine(rE.calls k2 _ _ aD Pq LU HF Hf Rd _ ?aI ?aJ ?af ?ak ?bN A37.out).mono ?_);(case aI=>exact Kd.mT dS.out (aj HB jK Pr));(case aJ=>exact dt.out);(case af=>exact rc AL AM);(case ak=>exact(Kd.aq AL.out).2.1);(case bN=>(with_reducible repeat(first|refine aC ?_ _|refine U ?_|refine X ?_ _));refine aU (cs:= #[.slice none 0 0]) ?_ 0 _ rfl;(with_reducible repeat(first|refine aC ?_ _|refine U ?_|refine X ?_ _));exact AM.out);rintro e SB ⟨rfl,hb⟩;refine⟨_,rfl, ?_⟩;replace AL:=nf AL AM hb;replace fO:=Ah (cS (bf fO TC) hb);replace AM:=Ah (cS (g:=Pq) (o:= .cells #[.slice LU Hf.length HF] 24 (0,0)) (by(with_reducible repeat(first|refine aC ?_ _|refine U ?_|refine X ?_ _));refine aU (cs:= #[.slice none 0 0]) ?_ 0 _ rfl;(with_reducible repeat(first|refine aC ?_ _|refine U ?_|refine X ?_ _));exact AM.out) hb);replace HB:=Ah (aT (aj HB jK Pr) hb);(try clear hb)))
      go_ret
      exact⟨er,aj HB jK Pr⟩
     rw[if_pos c18]at H;have Kf:decide (jW<(aK.length:Int))=true:=decide_eq_true c18;clear c18
     by_cases c19:0≤jW
     rotate_left
     ·
      rw[if_neg c19]at H;exact absurd H (by simp)
     rw[if_pos c19]at H;have Ca:decide (0≤jW)=true:=decide_eq_true c19;clear c19
     by_cases c20:jW<(aK.length:Int)
     rotate_left
     ·
      rw[if_neg c20]at H;exact absurd H (by simp)
     rw[if_pos c20]at H;have P5:decide (jW<(aK.length:Int))=true:=decide_eq_true c20;clear c20;replace H:=Hz.mp H;obtain⟨⟨Hh,t601⟩,t3,H⟩:=H
     try dsimp only at H
     have tO:=Ah t3;clear t3
     by_cases o1:t601=true
     rotate_left
     ·
      replace o1:=i1.mpr o1;subst o1;rw[if_neg dO]at H;obtain rfl:=ec H;have tG:0≤(jW:Int):=od;have tH:jW<(aK.length:Int):=od;obtain⟨ZW,Hi,sQ⟩:=Kd.jR eQ.out jW tG tH
      cases Hi
      replace sQ:=(HB.out.cell (cy w _ sQ)).trans sQ;replace tG:=eq_true tG;replace tH:=eq_true tH
      go_wp2_with (first|((with_reducible refine ar (f:=16) rfl ?_);refine gL (some 36) rfl rfl aby (by kernel_rfl) rfl #[.string (dN JZ aK jW)] rfl ?_;(with_reducible refine(ex.calls k2 (dN JZ aK jW) Hh false _ tO.out).mono ?_);rintro e kC ⟨a1n,rfl,ho0,hb⟩;refine⟨_,rfl, ?_⟩;have ri:=Ah (Kd.b8 ho0 (bF (aZ HB jK)));replace fO:=nb fO hb;replace HB:=Ah (aT (aZ HB jK) hb);(try clear hb ho0)))
      go_ret
      exact⟨er,aZ HB jK⟩
     subst o1;rw[if_pos rfl]at H;replace H:=Hz.mp H;obtain⟨Rc,Gc,H⟩:=H
     try dsimp only at H
     have I5:=Ah Gc;clear Gc
     by_cases c24:Rc=true
     rotate_left
     ·
      replace c24:=i1.mpr c24;subst c24;rw[if_neg dO]at H;obtain rfl:=ec H;have tG:0≤(jW:Int):=od;have tH:jW<(aK.length:Int):=od;obtain⟨ZW,Hi,sQ⟩:=Kd.jR eQ.out jW tG tH
      cases Hi
      replace sQ:=(HB.out.cell (cy w _ sQ)).trans sQ;replace tG:=eq_true tG;replace tH:=eq_true tH
      go_wp2_with (first|((with_reducible refine ar (f:=16) rfl ?_);refine gL (some 36) rfl rfl aby (by kernel_rfl) rfl #[.string (dN JZ aK jW)] rfl ?_;(with_reducible refine(ex.calls k2 (dN JZ aK jW) Hh true _ tO.out).mono ?_);rintro e I6 ⟨a1n,rfl,ho0,hb⟩;refine⟨_,rfl, ?_⟩;have ri:=Ah (Kd.b8 ho0 (bF (aZ HB jK)));replace fO:=nb fO hb;replace HB:=Ah (aT (aZ HB jK) hb);(try clear hb ho0);obtain⟨hcz30_0,hcz30_1,hcz30_2,hcz30_3⟩:=b9 fO;obtain⟨hfz30_0,hfz30_1,hfz30_2,hfz30_3⟩:=bA fO;obtain⟨ja,jb,u1⟩:=Kd.ao ri.out;subst u1)|(go_at_call 21;(with_reducible refine(fZ.calls k2 _ _ Hh (aG.length:Int) false _ ?aI ?aJ I5.out).mono ?_);(case aI=>exact bd ri);(case aJ=>exact(Kd.aq ri.out).2.1);rintro e w32 ⟨rfl,hb⟩;replace ri:=nr ri hb;replace fO:=nb fO hb;replace HB:=Ah (aT (aZ HB jK) hb);(try clear hb)))
      go_ret
      exact⟨er,aZ HB jK⟩
     subst c24;rw[if_pos rfl]at H;have H':=Ah H;clear H;have tG:0≤(jW:Int):=od;have tH:jW<(aK.length:Int):=od;obtain⟨ZW,Hi,sQ⟩:=Kd.jR eQ.out jW tG tH
     cases Hi
     replace sQ:=(HB.out.cell (cy w _ sQ)).trans sQ;replace tG:=eq_true tG;replace tH:=eq_true tH
     go_wp2_with (first|((with_reducible refine ar (f:=16) rfl ?_);refine gL (some 36) rfl rfl aby (by kernel_rfl) rfl #[.string (dN JZ aK jW)] rfl ?_;(with_reducible refine(ex.calls k2 (dN JZ aK jW) Hh true _ tO.out).mono ?_);rintro e Bs ⟨a1n,rfl,ho0,hb⟩;refine⟨_,rfl, ?_⟩;have ri:=Ah (Kd.b8 ho0 (bF (aZ HB jK)));replace fO:=nb fO hb;replace HB:=Ah (aT (aZ HB jK) hb);(try clear hb ho0);obtain⟨z4,z5,Nr,Ns⟩:=b9 fO;obtain⟨z6,z7,Nt,Nu⟩:=bA fO;obtain⟨DT,DU,H5⟩:=Kd.ao ri.out;subst H5)|(go_at_call 21;(with_reducible refine(fZ.calls k2 _ _ Hh (aG.length:Int) true _ ?aI ?aJ I5.out).mono ?_);(case aI=>exact bd ri);(case aJ=>exact(Kd.aq ri.out).2.1);rintro e I4 ⟨rfl,hb⟩;replace ri:=nr ri hb;replace fO:=nb fO hb;replace HB:=Ah (aT (aZ HB jK) hb);(try clear hb)))
     go_roundg k2
     case measure=>have:=rB.out;have:=jf.out;omega
     case rel=>exact⟨(IH (jW+1)),e3,H',⟨by have:=rB.out;have:=jf.out;omega⟩,⟨bk fO⟩,⟨aZ HB jK⟩⟩
def mR.f(l0:List ByteArray):Option (List ByteArray):=if l0.length*16≤140737488355328 then some l0 else none
set_option maxRecDepth 100000 in
theorem mR.calls(A0:Option Addr)(c0:Nat)(l0:List ByteArray)(r:List ByteArray)(w:World)(hr0:Kd.C Kd.string w A0 l0.length l0)(hc0:l0.length≤c0)(h:mR.f l0=some r):
 Calls tP 34 #[.slice A0 l0.length c0] w fun e w'=>∃cM:Value,e= .returned (cM)∧Kd.R Kd.string 9 w' w.heap.size (fun _=>True) cM r∧Below w.heap.size w w':=by
 have hus:=aas;have huu:∀w,Sem.run tP (underlying 23) w= .ok (TypeDesc.slice 9) w:=run_underlying hus
 have hee:∀ (w:World) (a:Option Addr) (n c n' c':Nat),(binOp .eql 23 (.slice a n c) (.slice none n' c')).run tP w= .ok (.bool a.isNone) w:=fun w a n c n' c'=>Lib.run_eql_slice_nil w _ _ a n c n' c' hus
 unfold mR.f at h
 by_cases hl:l0.length*16≤140737488355328
 ·rw[if_pos hl]at h
  obtain rfl:=ec h;have hR:=a9.mk hr0;have hL:=a9.mk hl;clear hr0 h hl
  rcases A0 with _|ad
  ·have h0:l0=[]:=by
    rcases aaV l0.length with h0|h0
    ·exact aaU h0
    ·obtain⟨ad,h,_⟩:=hR.out.2.2 h0
     cases h
   subst h0
   go_enter Try.func34,Try.ntmps34
   go_wp2
   go_ret
   exact⟨_,rfl,Kd.dr _ _ _ _ _,qB _ _⟩
  ·go_enter Try.func34,Try.ntmps34
   go_wp2_with (first
    |((with_reducible refine bC (N:=5) rfl ?_);refine Kd.oR Kd.string _ 9 ?hg (N:=5) ?hd (xs:=([]:List ByteArray)) (inner:=[]) (ok:=fun _=>True) (okp:=fun _=>True) ?hr ?hp (fun _ hk=>hk) trivial (qB _ _) (lQ _) (by simp) ?_;(case hd=>rfl);(case hg=>rfl);(case hr=>first|(go_simp;done)|(go_simp;rfl));(case hp=>exact(cU.none _ _));intro HU w4 nP hb iH iB;clear iH iB;have an:=a9.mk (Kd.b8 nP (lQ _));have am:=a9.mk hb;clear nP hb)
    |((with_reducible refine oA (b:= .append) (xs:= #[.tmp 5,.tmp 6]) rfl ?_);at_builtin;refine Kd.wa Kd.string (w0:=w) w.heap.size rfl (.tmp 5) (.tmp 6) 23 9 (.string ⟨#[]⟩) 16 rfl hus mB rfl (by decide) (by omega) HU ([]:List ByteArray) l0 _ _ _ (fun _=>True) (fun _=>False) rfl rfl ?aO ?aR (fun _ _ h=>h) (fun _ h=>h.elim) ?aF ?aB ?aS ?aL ?_;(case aR=>exact Kd.mT hR.out am.out);(case aB=>exact am.out);(case aF=>exact(fun _ _=>trivial));(case aO=>exact an.out);(case aS=>exact am.out.size);(case aL=>have:=hL.out;simp only[List.length_nil,Nat.zero_add];omega);intro RI w6 ho hb hg hat;rw[List.nil_append]at ho;have SJ:=a9.mk ho;have SK:=a9.mk hb;clear an am ho hb hg hat))
   go_ret
   exact⟨_,rfl,SJ.out,SK.out⟩
 ·rw[if_neg hl]at h
  cases h
def ya.f(l0:List (aQ)):Option (List (aQ)):=if l0.length*24≤140737488355328 then some l0 else none
set_option maxRecDepth 100000 in
theorem ya.calls(A0:Option Addr)(c0:Nat)(l0:List (aQ))(r:List (aQ))(w:World)(hr0:Kd.C bL w A0 l0.length l0)(hc0:l0.length≤c0)(h:ya.f l0=some r):
 Calls tP 49 #[.slice A0 l0.length c0] w fun e w'=>∃cM:Value,e= .returned (cM)∧Kd.R bL 37 w' w.heap.size (fun _=>True) cM r∧Below w.heap.size w w':=by
 have hus:=aaF;have huu:∀w,Sem.run tP (underlying 24) w= .ok (TypeDesc.slice 37) w:=run_underlying hus
 have hee:∀ (w:World) (a:Option Addr) (n c n' c':Nat),(binOp .eql 24 (.slice a n c) (.slice none n' c')).run tP w= .ok (.bool a.isNone) w:=fun w a n c n' c'=>Lib.run_eql_slice_nil w _ _ a n c n' c' hus
 unfold ya.f at h
 by_cases hl:l0.length*24≤140737488355328
 ·rw[if_pos hl]at h
  obtain rfl:=ec h;have hR:=a9.mk hr0;have hL:=a9.mk hl;clear hr0 h hl
  rcases A0 with _|ad
  ·have h0:l0=[]:=by
    rcases aaV l0.length with h0|h0
    ·exact aaU h0
    ·obtain⟨ad,h,_⟩:=hR.out.2.2 h0
     cases h
   subst h0
   go_enter Try.func49,Try.ntmps49
   go_wp2
   go_ret
   exact⟨_,rfl,Kd.dr _ _ _ _ _,qB _ _⟩
  ·go_enter Try.func49,Try.ntmps49
   go_wp2_with (first
    |((with_reducible refine bC (N:=5) rfl ?_);refine Kd.oR bL _ 37 ?hg (N:=5) ?hd (xs:=([]:List (aQ))) (inner:=[]) (ok:=fun _=>True) (okp:=fun _=>True) ?hr ?hp (fun _ hk=>hk) trivial (qB _ _) (lQ _) (by simp) ?_;(case hd=>rfl);(case hg=>rfl);(case hr=>first|(go_simp;done)|(go_simp;rfl));(case hp=>exact(cU.none _ _));intro HU w4 nP hb iH iB;clear iH iB;have an:=a9.mk (Kd.b8 nP (lQ _));have am:=a9.mk hb;clear nP hb)
    |((with_reducible refine oA (b:= .append) (xs:= #[.tmp 5,.tmp 6]) rfl ?_);at_builtin;refine Kd.wa bL (w0:=w) w.heap.size rfl (.tmp 5) (.tmp 6) 24 37 (.agg #[(.int .i64 0),(.string ⟨#[]⟩)]) 24 rfl hus pb rfl (by decide) (by omega) HU ([]:List (aQ)) l0 _ _ _ (fun _=>True) (fun _=>False) rfl rfl ?aO ?aR (fun _ _ h=>h) (fun _ h=>h.elim) ?aF ?aB ?aS ?aL ?_;(case aR=>exact Kd.mT hR.out am.out);(case aB=>exact am.out);(case aF=>exact(fun _ _=>trivial));(case aO=>exact an.out);(case aS=>exact am.out.size);(case aL=>have:=hL.out;simp only[List.length_nil,Nat.zero_add];omega);intro RI w6 ho hb hg hat;rw[List.nil_append]at ho;have SJ:=a9.mk ho;have SK:=a9.mk hb;clear an am ho hb hg hat))
   go_ret
   exact⟨_,rfl,SJ.out,SK.out⟩
 ·rw[if_neg hl]at h
  cases h
def kw.f(aG:List ByteArray)(aD:List (aQ))(aK:List ByteArray)(aN:Int):Option (List ByteArray×(List (aQ))×List ByteArray×Int):=(mR.f aG).bind fun s8=>((ya.f aD).bind fun tI=>((mR.f aK).bind fun uE=>(some (s8,tI,uE,aN))))
def kw.T1:Bool×List (List Nat×List Nat):=(true,[([],[]),([0],[0]),([1],[1]),([2],[2]),([],[]),([4],[4]),([5],[5]),([6,3],[6]),([3,7],[3,7]),([],[]),([9],[9]),([10,7],[10]),([],[]),([12],[12]),([8,11,13],[8,11,13]),([14,11,0,1,2,3,4,5,6,7,8,9,10,11,12,13,14],[14])])
def kw.B1:List Nat:=[0,1,3,7,0,16,48,127,255,0,512,1791,0,4096,16383,32767]
theorem kw.R2:gh .any (mz Try.f22 1)=kw.T1:=by kernel_rfl
theorem kw.Pc:kc kw.T1.2 kw.B1=true:=by kernel_rfl
set_option maxHeartbeats 8000000 in
set_option maxRecDepth 100000 in
theorem kw.calls(b0:Option Addr)(b5:Nat)(aG:List ByteArray)(b7:Option Addr)(ay:Nat)(aD:List (aQ))(bV:Option Addr)(bR:Nat)(aK:List ByteArray)(aN:Int)(r1:List ByteArray)(r2:List (aQ))(r3:List ByteArray)(r4:Int)(w:World)(eV:Kd.C Kd.string w b0 aG.length aG)(eW:aG.length≤b5)(eX:Kd.C bL w b7 aD.length aD)(eY:aD.length≤ay)(gS:Kd.C Kd.string w bV aK.length aK)(gT:aK.length≤bR)(h:kw.f aG aD aK aN=some (r1,r2,r3,r4)):
 Calls Try.prog 22 #[.agg #[.slice b0 aG.length b5,.slice b7 aD.length ay,.slice bV aK.length bR,.int .i64 aN]] w fun e w'=>∃cM fD ew:Value,e= .returned (.agg #[cM,fD,ew,.int .i64 r4])∧Kd.R Kd.string 9 w' w.heap.size (fun k_=>some k_≠(ew:Value).ownBlock) cM r1∧Kd.R bL 37 w' w.heap.size (fun _=>True) fD r2∧Kd.R Kd.string 9 w' w.heap.size (fun k_=>some k_≠(cM:Value).ownBlock) ew r3∧Below w.heap.size w w':=by
 have me:=aaa;have nG:=aam;have dY:=Ah eV;have dj:=Ah eW;clear eV eW;have dS:=Ah eX;have dt:=Ah eY;clear eX eY;have eQ:=Ah gS;have ef:=Ah gT;clear gS gT;have HB:=Ah (qB w.heap.size w);have H:((mR.f aG).bind fun s8=>((ya.f aD).bind fun tI=>((mR.f aK).bind fun uE=>(some (s8,tI,uE,aN)))))=some (r1,r2,r3,r4):=h;clear h;replace H:=Hz.mp H;obtain⟨s8,fX,H⟩:=H
 try dsimp only at H
 have A2:=Ah fX;clear fX;replace H:=Hz.mp H;obtain⟨tI,fH,H⟩:=H
 try dsimp only at H
 have A3:=Ah fH;clear fH;replace H:=Hz.mp H;obtain⟨uE,ek,H⟩:=H
 try dsimp only at H
 have A4:=Ah ek;clear ek;simp only[kD,o7]at H;obtain⟨rfl,rfl,rfl,rfl⟩:=H
 go_enter Try.func22,Try.ntmps22
 try go_wp2_with (first|((with_reducible refine bC (N:=1) rfl ?_);refine bK 1 28 #[.slice b0 aG.length b5,.slice b7 aD.length ay,.slice bV aK.length bR,.int .i64 aN] ?_;intro L2 hg w5 iD hb;have GW605:=gw hg (bs HB);have tl:=gw hg (bs HB);replace HB:=Ah (aT (bs HB) hb);clear hb hg)|((with_reducible refine bC (N:=2) rfl ?_);refine bK 2 28 #[.slice none 0 0,.slice none 0 0,.slice none 0 0,.int .i64 0] ?_;intro iE hg w6 jp hb;have GW606:=gw hg (aZ HB tl);have AN:=gw hg (aZ HB tl);replace HB:=Ah (aT (aZ HB tl) hb);have lY:=nn iD hg;have Ik:=nm iD hg;replace iD:=nb iD hb;clear hb hg))
 have an:=Ah (U iD.out);have am:=Ah (U jp.out);have aw:=Ah (jg HB.out);clear iD jp HB;have iD:=an;have jp:=am;have HB:=aw;clear an am aw;refine la (n:=16) (S:=fun w'=>w'.cell? ⟨L2,0,none⟩=some (.slice b0 aG.length b5)∧w'.cell? ⟨L2,1,none⟩=some (.slice b7 aD.length ay)∧w'.cell? ⟨L2,2,none⟩=some (.slice bV aK.length bR)∧w'.cell? ⟨L2,3,none⟩=some (.int .i64 aN)) (ds:=[]) #[false,false,false,false,false,false,false,false,false,false,false,false,false,false,false,false] (by kernel_rfl) rfl rfl ⟨(ab iD.out 0).trans rfl,(ab iD.out 1).trans rfl,(ab iD.out 2).trans rfl,(ab iD.out 3).trans rfl⟩ (fun hHeld=> ?_);refine m4 kw.R2 kw.Pc (fun ac eh=> ?_)
 generalize w6.drew=w7 at iD jp HB hHeld⊢
 refine bZ 0 3 ac.out ?_;refine bZ 1 4 ac.out ?_;refine bZ 4 7 ac.out ?_;refine bZ 5 8 ac.out ?_;refine bZ 9 12 ac.out ?_;refine bZ 12 15 ac.out ?_;refine gy 2 5 ac.out eh.out hHeld (hr:=by rintro w' ⟨s0,s1,s2,s3⟩;go_simp;with_reducible rfl) (h:= ?_);refine gy 6 9 ac.out eh.out hHeld (hr:=by rintro w' ⟨s0,s1,s2,s3⟩;go_simp;with_reducible rfl) (h:= ?_);refine gy 10 13 ac.out eh.out hHeld (hr:=by rintro w' ⟨s0,s1,s2,s3⟩;go_simp;with_reducible rfl) (h:= ?_);refine gy 13 16 ac.out eh.out hHeld (hr:=by rintro w' ⟨s0,s1,s2,s3⟩;go_simp;with_reducible rfl) (h:= ?_);refine fw (i:=3) (N:=some 6) #[true,true,true,true,true,true,true,false,false,true,true,false,true,true,false,false] rfl rfl (ff ac.out (by kernel_rfl)) (by decide) (fun K hK=> ?_);refine kI Try.func34 (by kernel_rfl) rfl #[.slice b0 aG.length b5] (by rfl) rfl rfl (by(try simp only[List.map_toArray,List.map_cons,List.map_nil]);first|done|rfl|(simp only[List.length_drop,List.length_take];rfl)) ?_
 with_reducible refine(mR.calls _ _ aG s8 _ ?aI ?aJ A2.out).mono ?_
 (case aI=>exact cb dY HB);(case aJ=>exact dj.out);rintro e w8 ⟨v608,rfl,ho0,hb⟩;refine⟨_,rfl, ?_⟩;have an:=Ah (Kd.b8 ho0 (bF (aj HB tl AN)));have am:=Ah (bb iD hb);have aw:=Ah (bb jp hb);have bI:=Ah (aT (aj HB tl AN) hb);clear iD jp HB;have vx:=an;have iD:=am;have jp:=aw;have HB:=bI;clear an am aw bI;(try clear hb);(try clear hb2);(try clear hk);(try clear hi);(try clear ho0);refine hK.out _ _ ⟨(ab iD.out 0).trans rfl,(ab iD.out 1).trans rfl,(ab iD.out 2).trans rfl,(ab iD.out 3).trans rfl⟩ (fun hHeld=> ?_);clear hK K;refine gN (a':= ?_) ?_ ?_;rotate_left
 ·
  show aab _ (some 6) _=_
  simp only[aab,Ok,mr,mQ,eK,eT]
  rfl
 refine fw (i:=7) (N:=some 10) #[true,true,true,true,true,true,true,true,false,true,true,false,true,true,false,false] rfl rfl (ff ac.out (by kernel_rfl)) (by decide) (fun K hK=> ?_);refine kI Try.func49 (by kernel_rfl) rfl #[.slice b7 aD.length ay] (by rfl) rfl rfl (by(try simp only[aac,aad,aaf]);first|done|rfl|(simp only[qC,fu];rfl)) ?_
 with_reducible refine(ya.calls _ _ aD tI _ ?aI ?aJ A3.out).mono ?_
 (case aI=>exact cb dS HB);(case aJ=>exact dt.out);rintro e w9 ⟨v611,rfl,ho0,hb⟩;refine⟨_,rfl, ?_⟩;have an:=Ah (Kd.fT (rr vx.out) hb);have am:=Ah (Kd.b8 ho0 (bF (aj HB tl AN)));have aw:=Ah (bb iD hb);have bI:=Ah (bb jp hb);have bj:=Ah (aT (aj HB tl AN) hb);clear vx iD jp HB;have vx:=an;have GM:=am;have iD:=aw;have jp:=bI;have HB:=bj;clear an am aw bI bj;(try clear hb);(try clear hb2);(try clear hk);(try clear hi);(try clear ho0);obtain⟨dB,dC,Cy⟩:=Kd.ao GM.out;(first|subst Cy|(injection Cy with dy gA dz;have gB:=dy.symm;have gC:=dz.symm;clear dy gA dz;subst gB;subst gC));obtain⟨kO,kP,yA⟩:=Kd.ao vx.out;(first|subst yA|(injection yA with dy gA dz;have gB:=dy.symm;have gC:=dz.symm;clear dy gA dz;subst gB;subst gC));refine hK.out _ _ ⟨(ab iD.out 0).trans rfl,(ab iD.out 1).trans rfl,(ab iD.out 2).trans rfl,(ab iD.out 3).trans rfl⟩ (fun hHeld=> ?_);clear hK K;refine gN (a':= ?_) ?_ ?_;rotate_left
 ·
  show aab _ (some 10) _=_
  simp only[aab,Ok,mr,mQ,eK,eT]
  rfl
 refine bZ 8 11 ac.out ?_;refine fw (i:=11) (N:=some 14) #[true,true,true,true,true,true,true,true,true,true,true,true,true,true,false,false] rfl rfl (ff ac.out (by kernel_rfl)) (by decide) (fun K hK=> ?_);refine kI Try.func34 (by kernel_rfl) rfl #[.slice bV aK.length bR] (by rfl) rfl rfl (by(try simp only[aac,aad,aaf]);first|done|rfl|(simp only[qC,fu];rfl)) ?_
 with_reducible refine(mR.calls _ _ aK uE _ ?aI ?aJ A4.out).mono ?_
 (case aI=>exact cb eQ HB);(case aJ=>exact ef.out);rintro e lP ⟨v614,rfl,ho0,hb⟩;refine⟨_,rfl, ?_⟩;have an:=Ah (Kd.aX (rr vx.out) (Kd.a8 ho0) hb);have am:=Ah (Kd.fT (rr GM.out) hb);have aw:=Ah (Kd.b8 (Kd.aA ho0 (Kd.Z (rr vx.out))) (bF (aj HB tl AN)));have bI:=Ah (bb iD hb);have bj:=Ah (bb jp hb);have bv:=Ah (aT (aj HB tl AN) hb);clear vx GM iD jp HB;have vx:=an;have GM:=am;have ZX:=aw;have iD:=bI;have jp:=bj;have HB:=bv;clear an am aw bI bj bv;(try clear hb);(try clear hb2);(try clear hk);(try clear hi);(try clear ho0);obtain⟨bx,bu,nE⟩:=Kd.ao ZX.out;(first|subst nE|(injection nE with dy gA dz;have gB:=dy.symm;have gC:=dz.symm;clear dy gA dz;subst gB;subst gC));refine hK.out _ _ ⟨(ab iD.out 0).trans rfl,(ab iD.out 1).trans rfl,(ab iD.out 2).trans rfl,(ab iD.out 3).trans rfl⟩ (fun hHeld=> ?_);clear hK K;refine gN (a':= ?_) ?_ ?_;rotate_left
 ·
  show aab _ (some 14) _=_
  simp only[aab,Ok,mr,mQ,eK,eT]
  rfl
 refine bZ 14 17 ac.out ?_;refine fw (i:=15) (N:=none) #[true,true,true,true,true,true,true,true,true,true,true,true,true,true,true,true] rfl rfl (ff ac.out (by kernel_rfl)) (by decide) (fun K hK=> ?_);have hs14:lP.cell? ⟨iE,0,none⟩=some (.slice none 0 0):=(ab jp.out 0).trans rfl;have hfs14:=ee jp.out 0;have hns14_0:=lY.out;have hms14_0:=Ik.out;have hs15:lP.cell? ⟨iE,1,none⟩=some (.slice none 0 0):=(ab jp.out 1).trans rfl;have hfs15:=ee jp.out 1;have hns15_0:=lY.out;have hms15_0:=Ik.out;have hs16:lP.cell? ⟨iE,2,none⟩=some (.slice none 0 0):=(ab jp.out 2).trans rfl;have hfs16:=ee jp.out 2;have hns16_0:=lY.out;have hms16_0:=Ik.out;have hs17:lP.cell? ⟨iE,3,none⟩=some (.int .i64 0):=(ab jp.out 3).trans rfl;have hfs17:=ee jp.out 3;have hns17_0:=lY.out;have hms17_0:=Ik.out;refine ra (w1:= ?_) (by rfl) rfl ?_ ?_;rotate_left
 ·
  go_simp
  rfl
 refine hK.out _ _ ⟨((cl (p:=⟨iE,_,none⟩) lY.out _).trans (((cl (p:=⟨iE,_,none⟩) lY.out _).trans (((cl (p:=⟨iE,_,none⟩) lY.out _).trans (((cl (p:=⟨iE,_,none⟩) lY.out _).trans (hHeld.1)))))))),((cl (p:=⟨iE,_,none⟩) lY.out _).trans (((cl (p:=⟨iE,_,none⟩) lY.out _).trans (((cl (p:=⟨iE,_,none⟩) lY.out _).trans (((cl (p:=⟨iE,_,none⟩) lY.out _).trans (hHeld.2.1)))))))),((cl (p:=⟨iE,_,none⟩) lY.out _).trans (((cl (p:=⟨iE,_,none⟩) lY.out _).trans (((cl (p:=⟨iE,_,none⟩) lY.out _).trans (((cl (p:=⟨iE,_,none⟩) lY.out _).trans (hHeld.2.2.1)))))))),((cl (p:=⟨iE,_,none⟩) lY.out _).trans (((cl (p:=⟨iE,_,none⟩) lY.out _).trans (((cl (p:=⟨iE,_,none⟩) lY.out _).trans (((cl (p:=⟨iE,_,none⟩) lY.out _).trans (hHeld.2.2.2))))))))⟩ (fun hHeld=> ?_);clear hK K;refine kj (l3 ac.out (by kernel_rfl)) ?_
 try go_wp2
 refine bodyPost_ret (results_cell_row rfl _ _ iE 28 #[.slice kO s8.length kP,.slice dB tI.length dC,.slice bx uE.length bu,.int .i64 aN] (0,0) _ rfl (by(with_reducible repeat(first|refine aC ?_ _|refine U ?_|refine X ?_ _));refine aU (cs:= #[.slice kO s8.length kP,.slice dB tI.length dC,.slice bx uE.length bu,.int .i64 0]) ?_ 3 _ rfl;(with_reducible repeat(first|refine aC ?_ _|refine U ?_|refine X ?_ _));refine aU (cs:= #[.slice kO s8.length kP,.slice dB tI.length dC,.slice none 0 0,.int .i64 0]) ?_ 2 _ rfl;(with_reducible repeat(first|refine aC ?_ _|refine U ?_|refine X ?_ _));refine aU (cs:= #[.slice kO s8.length kP,.slice none 0 0,.slice none 0 0,.int .i64 0]) ?_ 1 _ rfl;(with_reducible repeat(first|refine aC ?_ _|refine U ?_|refine X ?_ _));refine aU (cs:= #[.slice none 0 0,.slice none 0 0,.slice none 0 0,.int .i64 0]) ?_ 0 _ rfl;(with_reducible repeat(first|refine aC ?_ _|refine U ?_|refine X ?_ _));exact jp.out) aaa rfl (by kernel_rfl)) rfl ?_;exact⟨_,_,_,er,by(with_reducible repeat(first|apply Kd.ah|apply Kd.ai|apply Kd.aY));exact Kd.aH (Kd.I (p:=⟨iE,3,none⟩) (Kd.I (p:=⟨iE,2,none⟩) (Kd.I (p:=⟨iE,1,none⟩) (Kd.I (p:=⟨iE,0,none⟩) (Kd.al vx.out jp.out (by decide)) (fun _ hk=>hk.2) (.slice kO s8.length kP)) (fun _ hk=>hk.2) (.slice dB tI.length dC)) (fun _ hk=>hk.2) (.slice bx uE.length bu)) (fun _ hk=>hk.2) (.int .i64 aN)) (fun _ hk=>hk.1.2),by(with_reducible repeat(first|apply Kd.ah|apply Kd.ai|apply Kd.aY));exact Kd.aH (Kd.I (p:=⟨iE,3,none⟩) (Kd.I (p:=⟨iE,2,none⟩) (Kd.I (p:=⟨iE,1,none⟩) (Kd.I (p:=⟨iE,0,none⟩) (Kd.al GM.out jp.out (by decide)) (fun _ hk=>hk.2) (.slice kO s8.length kP)) (fun _ hk=>hk.2) (.slice dB tI.length dC)) (fun _ hk=>hk.2) (.slice bx uE.length bu)) (fun _ hk=>hk.2) (.int .i64 aN)) (fun _ hk=>trivial),by(with_reducible repeat(first|apply Kd.ah|apply Kd.ai|apply Kd.aY));exact Kd.aH (Kd.I (p:=⟨iE,3,none⟩) (Kd.I (p:=⟨iE,2,none⟩) (Kd.I (p:=⟨iE,1,none⟩) (Kd.I (p:=⟨iE,0,none⟩) (Kd.al ZX.out jp.out (by decide)) (fun _ hk=>hk.2) (.slice kO s8.length kP)) (fun _ hk=>hk.2) (.slice dB tI.length dC)) (fun _ hk=>hk.2) (.slice bx uE.length bu)) (fun _ hk=>hk.2) (.int .i64 aN)) (fun _ hk=>hk.1.2),aj HB tl AN⟩
end Go.Proofs.Ytmbjmacpigojjaa.G
