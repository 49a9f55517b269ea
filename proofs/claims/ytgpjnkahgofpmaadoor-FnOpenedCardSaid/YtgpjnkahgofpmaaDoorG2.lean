-- Printed by a program of this session (drive.py, by way of the kit's print). Not trusted: Lean checks it.
import Derived.Test.YtgpjnkahgofpmaaDoorG0
import Derived.Test.YtgpjnkahgofpmaaDoorG1
open Bool renaming eq_false_iff→iK,not_false→aaD,not_true→aaF
open ByteArray renaming size_append→aaH
open Go.Addr renaming add→ro
open Go.Proofs.Tryd renaming underlying25→aac,prog→aaf,underlying36→aan,func33→aaP,underlying22→aaS,underlying5→aa5,underlying9→abl,func34→abn,func12→abJ,func29→abK,func30→abR
open Go.RowKit renaming wrap64→F5
open Go.RowKit.Below renaming refl→aag
open Go.World renaming block_lt_of_cell?→Fe
open Int renaming tmod→GW,tdiv→aQ,reduceToNat→aba
open List renaming length_take→ca,length_drop→fF,map_toArray→fT,map_cons→gJ,map_nil→j5,setIfInBounds_toArray→aab,set_cons_zero→aai,set_cons_succ→aaj
open Nat renaming lt_of_lt_of_le→WR,ne_of_lt→ek,le_refl→kV,not_lt→abI
open Option renaming bind_eq_some_iff→Ok,bind_some→zD
open Option.some renaming inj→qE,injEq→aaa
namespace Go.Proofs.YtgpjnkahgofpmaaDoor.G
open Go.RowKit Go.Proofs.YtgpjnkahgofpmaaDoorW.PrintWords Go.Proofs.YtgpjnkahgofpmaaDoorW.PrintLast Go.Proofs.YtgpjnkahgofpmaaDoorW.PrintMore
attribute [local go_sem] uM uN uS uT u9 uA uO uP
set_option maxHeartbeats 8000000
set_option maxRecDepth 100000
set_option linter.unusedVariables false
set_option linter.unusedSimpArgs false
attribute [local go_sem high] Kw
def eu.f(a0:Int)(a1:Int)(a2:Int):Option (Bool):=if a0≥a1 then(some (decide (a0≤a2)))else(some false)
theorem eu.calls(a0:Int)(a1:Int)(a2:Int)(r:Bool)(w:World)(h:eu.f a0 a1 a2=some r):
 Calls aaf 33 #[.int .i64 a0,.int .i64 a1,.int .i64 a2] w fun e w'=>e= .returned (.bool r)∧fQ w w':=by
 have H:(if a0≥a1 then(some (decide (a0≤a2)))else(some false))=some r:=h;clear h
 by_cases c4:a0≥a1
 ·
  rw[if_pos c4]at H;have rO:=bV c4;clear c4;obtain rfl:=qE H
  go_enter aaP,Tryd.ntmps33
  go_wp2
  go_ret
  exact⟨by first|rfl|(simp;done)|(simp[*];done),by repeat(first|exact fQ.refl _|apply fQ.step)⟩
 ·
  rw[if_neg c4]at H;have rO:=ev c4;clear c4;obtain rfl:=qE H
  go_enter aaP,Tryd.ntmps33
  go_wp2
  go_ret
  exact⟨by first|rfl|(simp;done)|(simp[*];done),by repeat(first|exact fQ.refl _|apply fQ.step)⟩
def lJ.f(bI:Int)(aA:Int)(aD:ByteArray)(aE:Int):Option (Bool):=(eu.f bI 0 1000000).bind fun Dy=>(if Dy=true then((eu.f aA 0 10000000).bind fun Dz=>(if Dz=true then(some (decide ((aD.size:Int)≤12)))else(some false)))else(some false))
theorem lJ.calls(bI:Int)(aA:Int)(aD:ByteArray)(aE:Int)(r:Bool)(w:World)(h:lJ.f bI aA aD aE=some r):
 Calls aaf 29 #[.agg #[.int .i64 bI,.int .i64 aA,.string aD,.int .i64 aE]] w fun e w'=>e= .returned (.bool r)∧Below w.heap.size w w':=by
 have kH:=aan;have HB:=Ah (aag w.heap.size w);have H:((eu.f bI 0 1000000).bind fun Dy=>(if Dy=true then((eu.f aA 0 10000000).bind fun Dz=>(if Dz=true then(some (decide ((aD.size:Int)≤12)))else(some false)))else(some false)))=some r:=h;clear h;replace H:=Ok.mp H;obtain⟨Dy,eg,H⟩:=H
 try dsimp only at H
 have A2:=Ah eg;clear eg
 by_cases c3:Dy=true
 rotate_left
 ·
  replace c3:=iK.mpr c3;subst c3;rw[if_neg dM]at H;obtain rfl:=qE H
  go_enter abK,Tryd.ntmps29
  go_wp2_with (first|((with_reducible refine bY (N:=1) rfl ?_);(try(refine fV (by rfl) ?_;dsimp only));refine br 1 36 #[.int .i64 bI,.int .i64 aA,.string aD,.int .i64 aE] ?_;intro Ru hg FP vZ hb;have Rv:=gw hg (bs HB);have Cs:=gw hg (bs HB);replace HB:=Ah (aM (bs HB) hb);clear hb hg;obtain⟨qL,qM,qN,qO⟩:=aT vZ;obtain⟨qP,qQ,qR,qS⟩:=aU vZ)|((with_reducible refine bU (f:=33) rfl ?_);refine gL (some 5) rfl rfl aaP (by kernel_rfl) rfl #[.int .i64 bI,.int .i64 0,.int .i64 1000000] rfl ?_;(with_reducible refine(eu.calls bI 0 1000000 false _ A2.out).mono ?_);rintro e w' ⟨rfl,⟨nd,rfl⟩⟩;refine⟨_,rfl, ?_⟩))
  go_ret
  exact⟨er,aX HB Cs⟩
 subst c3;rw[if_pos rfl]at H;replace H:=Ok.mp H;obtain⟨Dz,fo,H⟩:=H
 try dsimp only at H
 have A4:=Ah fo;clear fo
 by_cases c5:Dz=true
 ·
  subst c5;rw[if_pos rfl]at H;obtain rfl:=qE H
  go_enter abK,Tryd.ntmps29
  go_wp2_with (first|((with_reducible refine bY (N:=1) rfl ?_);(try(refine fV (by rfl) ?_;dsimp only));refine br 1 36 #[.int .i64 bI,.int .i64 aA,.string aD,.int .i64 aE] ?_;intro Ru hg w6 vZ hb;have Rv:=gw hg (bs HB);have Cs:=gw hg (bs HB);replace HB:=Ah (aM (bs HB) hb);clear hb hg;obtain⟨vD,vE,vF,vG⟩:=aT vZ;obtain⟨vH,vI,vJ,vK⟩:=aU vZ)|((with_reducible refine bU (f:=33) rfl ?_);refine gL (some 5) rfl rfl aaP (by kernel_rfl) rfl #[.int .i64 bI,.int .i64 0,.int .i64 1000000] rfl ?_;(with_reducible refine(eu.calls bI 0 1000000 true _ A2.out).mono ?_);rintro e w' ⟨rfl,⟨nd,rfl⟩⟩;refine⟨_,rfl, ?_⟩)|(go_at_call 33;(with_reducible refine(eu.calls aA 0 10000000 true _ A4.out).mono ?_);rintro e w' ⟨rfl,⟨nd,rfl⟩⟩))
  go_ret
  exact⟨er,aX HB Cs⟩
 replace c5:=iK.mpr c5;subst c5;rw[if_neg dM]at H;obtain rfl:=qE H
 go_enter abK,Tryd.ntmps29
 go_wp2_with (first|((with_reducible refine bY (N:=1) rfl ?_);(try(refine fV (by rfl) ?_;dsimp only));refine br 1 36 #[.int .i64 bI,.int .i64 aA,.string aD,.int .i64 aE] ?_;intro Ru hg w8 vZ hb;have Rv:=gw hg (bs HB);have Cs:=gw hg (bs HB);replace HB:=Ah (aM (bs HB) hb);clear hb hg;obtain⟨so,sp,sq,vL⟩:=aT vZ;obtain⟨vM,sr,st,vN⟩:=aU vZ)|((with_reducible refine bU (f:=33) rfl ?_);refine gL (some 5) rfl rfl aaP (by kernel_rfl) rfl #[.int .i64 bI,.int .i64 0,.int .i64 1000000] rfl ?_;(with_reducible refine(eu.calls bI 0 1000000 true _ A2.out).mono ?_);rintro e w' ⟨rfl,⟨nd,rfl⟩⟩;refine⟨_,rfl, ?_⟩)|(go_at_call 33;(with_reducible refine(eu.calls aA 0 10000000 false _ A4.out).mono ?_);rintro e w' ⟨rfl,⟨nd,rfl⟩⟩))
 go_ret
 exact⟨er,aX HB Cs⟩
def fk.f:Nat→Int→Option (ByteArray)
 |0,_=>none
 |k+1,a0=>if a0<10 then(some (strOfNums (([(F5 (48+a0)) %256]:List Int))))else((fk.f k (F5 (aQ a0 10))).bind fun t107=>((some (([(F5 (48+(GW a0 10))) %256]:List Int):List Int)).bind fun nV=>(if t107.size+(strOfNums nV).size≤9223372036854775807 then(some (t107++(strOfNums nV)))else(none))))
theorem fk.eC:∀k,(∀y0,aJ (fk.f k y0) (fk.f (k+1) y0))
 |0=>fun _ r h=>by simp[fk.f]at h
 |k+1=>by
  have cj:=fk.eC k
  ·
   intro y0;unfold fk.f
   repeat' with_reducible first|exact cj _|exact aJ.refl _|exact aJ.none _|refine aJ.ite ?_ ?_|refine aJ.bind ?_ (fun _=> ?_)
theorem fk.mono:∀a0 k,aJ (fk.f k a0) (fk.f (k+1) a0):=by
 intro a0 k;have cj:=fk.eC k;exact cj a0
def fk.T3:Bool×List (List Nat×List Nat):=(true,[([],[]),([0],[0]),([1],[1]),([],[]),([3],[3]),([4],[4]),([5],[5]),([6],[6]),([7],[7]),([2,8],[2,8]),([9,2,0,1,2,3,4,5,6,7,8,9],[9])])
def fk.B3:List Nat:=[0,1,3,0,8,24,56,120,248,511,1023]
theorem fk.Ls:dt .any (gN Tryd.f30 3)=fk.T3:=by kernel_rfl
theorem fk.Kx:fh fk.T3.2 fk.B3=true:=by kernel_rfl
theorem fk.calls(k:Nat):∀ (a0:Int) (r:ByteArray) (w:World) (h:fk.f k a0=some r),
 Calls aaf 30 #[.int .i64 a0] w fun e w'=>e= .returned (.string r)∧Below w.heap.size w w':=by
 induction k using Nat.strongRecOn with
 |_ k ih=>
 intro a0 r w h
 cases k with
 |zero=>exact absurd h (by simp[fk.f])
 |succ k=>
 simp only[fk.f]at h;have HB:=Ah (aag w.heap.size w);have H:(if a0<10 then(some (strOfNums (([(F5 (48+a0)) %256]:List Int))))else((fk.f k (F5 (aQ a0 10))).bind fun t107=>((some (([(F5 (48+(GW a0 10))) %256]:List Int):List Int)).bind fun nV=>(if t107.size+(strOfNums nV).size≤9223372036854775807 then(some (t107++(strOfNums nV)))else(none)))))=some r:=h;clear h
 by_cases c2:a0<10
 ·
  rw[if_pos c2]at H;have E0:=bV c2;clear c2;obtain⟨y104,hy104⟩:∃y_:List Int,y_=(([(F5 (48+a0)) %256]:List Int)):=⟨_,rfl⟩
  replace H:(some (strOfNums y104))=some r:=by first|(rw[hy104];with_reducible exact H)|(have cL:=(zD _ _).symm.trans H;rw[hy104];with_reducible exact cL)|(have cL:=(zD _ _).symm.trans H;with_reducible exact cL)|with_reducible exact H|(rw[hy104];exact H)|exact H
  have Rw:=Ah hy104;clear hy104;obtain rfl:=qE H
  go_enter abR,Tryd.ntmps30
  go_wp2_with (first|((with_reducible refine bY (N:=8) rfl ?_);refine Kd.vP (Kd.int .u8) _ 5 ?hg (N:=8) ?hd (xs:=([(F5 (48+a0)) %256]:List Int)) (inner:=[.int .u8 ((F5 (48+a0)) %256)]) (ok:=fun _=>True) (okp:=fun _=>True) ?hr ?hp (fun _ hk=>hk) trivial (aag _ _) (kV _) (by simp) ?_;(case hd=>rfl);(case hg=>rfl);(case hr=>first|(go_simp;done)|(go_simp;rfl));(case hp=>exact(cR.one (show Kd.M (Kd.int .u8) _ _ _ ((F5 (48+a0)) %256) [.int .u8 ((F5 (48+a0)) %256)]from rfl) (cR.none _ _)));intro v105 w3 FQ hb jW jJ;clear jW jJ;(first|rw[←Rw.out]at FQ|(simp only[aba]at FQ;rw[←Rw.out]at FQ));have a3f:=Ah (Kd.eZ FQ (eo (bs HB)));replace HB:=Ah (aM (bs HB) hb);clear hb FQ;have hcv5:=BL (P:=aaf) aaS aa5 abl (Kd.wt a3f.out)))
  go_ret
  exact⟨er,bs HB⟩
 rw[if_neg c2]at H;have E0:=ev c2;clear c2;replace H:=Ok.mp H;obtain⟨t107,iz,H⟩:=H
 try dsimp only at H
 have A6:=Ah iz;clear iz;obtain⟨nV,Ct⟩:∃y_:List Int,y_=(([(F5 (48+(GW a0 10))) %256]:List Int)):=⟨_,rfl⟩
 replace H:(if t107.size+(strOfNums nV).size≤9223372036854775807 then(some (t107++(strOfNums nV)))else(none))=some r:=by first|(rw[Ct];with_reducible exact H)|(have cL:=(zD _ _).symm.trans H;rw[Ct];with_reducible exact cL)|(have cL:=(zD _ _).symm.trans H;with_reducible exact cL)|with_reducible exact H|(rw[Ct];exact H)|exact H
 have Gy:=Ah Ct;clear Ct
 by_cases c7:t107.size+(strOfNums nV).size≤9223372036854775807
 rotate_left
 ·
  rw[if_neg c7]at H;exact absurd H (by simp)
 rw[if_pos c7]at H;have kI:=eq_true c7;have oE:=bV c7
 try have tW:(9223372036854775807<t107.size+(strOfNums nV).size)=False:=eq_false (abI.2 c7)
 obtain rfl:=qE H
 go_enter abR,Tryd.ntmps30
 try go_wp2
 replace HB:=Ah (bc HB.out);refine dk (n:=11) (S:=fun w'=>True) (ds:=[]) #[false,false,false,false,false,false,false,false,false,false,false] (by kernel_rfl) rfl rfl trivial (fun hHeld=> ?_);refine dl fk.Ls fk.Kx (fun I aq=> ?_)
 generalize w.drew=w8 at HB hHeld⊢
 refine a8 0 10 I.out ?_;refine a8 1 11 I.out ?_;refine a8 3 13 I.out ?_;refine a8 4 14 I.out ?_;refine a8 5 15 I.out ?_;refine a8 6 16 I.out ?_;refine KZ (σ:=Value) 2 #[true,true,true,true,true,true,true,true,true,false,false] (fun s_=>[(12,.string t107),(17,s_),(18,.string (strOfNums nV))]) (fun s_ w'=>(Kd.R (Kd.int .u8) 5 w' w.heap.size (fun _=>True) s_ nV)∧(Below w.heap.size w w')) ?_ ?_;rotate_left
 ·
  intro hCont;refine Ad (i:=2) (j:=7) (Ni:=some 12) (Nj:=some 17) #[true,true,true,true,true,true,true,false,false,false,false] #[true,true,false,true,true,true,true,true,false,false,false] rfl rfl rfl rfl (AC I.out (by kernel_rfl)) (by decide) (by decide) (fun K hK=> ?_) (fun K hK=> ?_)
  ·
   skip
   refine cZ abR (by kernel_rfl) rfl #[.int .i64 (F5 (aQ a0 10))] (by rfl) rfl rfl (by(try simp only[fT,gJ,j5]);first|done|rfl|(simp only[fF,ca];rfl)) ?_
   with_reducible refine(ih k (by omega) (F5 (aQ a0 10)) t107 _ A6.out).mono ?_
   rintro e w9 ⟨rfl,hb⟩;refine⟨_,rfl, ?_⟩;replace HB:=Ah (aM (bs HB) hb);(try clear hb);(try clear hb2);(try clear hk);(try clear hi);refine hK.out _ _ trivial (fun hHeld=> ?_);clear hK K;refine nq 12 ?_;refine cK (i:=7) (N:=some 17) #[true,true,true,true,true,true,true,true,false,false,false] rfl rfl (bz I.out (by kernel_rfl)) (by decide) (fun K hK=> ?_);refine Kd.Ns (Kd.int .u8) _ 5 ?hg (N:=17) ?hd (xs:=([(F5 (48+(GW a0 10))) %256]:List Int)) (inner:=[.int .u8 ((F5 (48+(GW a0 10))) %256)]) (ok:=fun _=>True) (okp:=fun _=>True) ?hr ?hp (fun _ hk=>hk) trivial (aag _ _) (kV _) (by simp) ?_;(case hd=>rfl);(case hg=>rfl);(case hr=>first|(go_simp;done)|(go_simp;rfl));(case hp=>exact(cR.one (show Kd.M (Kd.int .u8) _ _ _ ((F5 (48+(GW a0 10))) %256) [.int .u8 ((F5 (48+(GW a0 10))) %256)]from rfl) (cR.none _ _)));intro v109 FP E1 hb jW jJ;clear jW jJ;(first|rw[←Gy.out]at E1|(simp only[aba]at E1;rw[←Gy.out]at E1));have o6:=Ah (Kd.eZ E1 (eo (bs HB)));replace HB:=Ah (aM (bs HB) hb);clear hb E1;refine hK.out _ _ trivial (fun hHeld=> ?_);clear hK K;refine nq 17 ?_;refine cK (i:=8) (N:=some 18) #[true,true,true,true,true,true,true,true,true,false,false] rfl rfl (bz I.out (by kernel_rfl)) (by decide) (fun K hK=> ?_);have Ky:=BL (P:=aaf) aaS aa5 abl (Kd.wt o6.out);refine CS (w1:= ?_) (v:= ?_) (by rfl) rfl ?_ ?_;rotate_left 2
   ·
    go_simp
    constructor
    ·
     rfl
    ·
     rfl
   clear Ky;refine hK.out _ _ trivial (fun hHeld=> ?_);clear hK K;refine nq 18 ?_;exact nt (by simp only[l3,Act.put,aab,aai,aaj]) (hCont (v109) _ ⟨(rr o6.out),(bs HB)⟩)
  ·
   skip
   refine Kd.Ns (Kd.int .u8) _ 5 ?hg (N:=17) ?hd (xs:=([(F5 (48+(GW a0 10))) %256]:List Int)) (inner:=[.int .u8 ((F5 (48+(GW a0 10))) %256)]) (ok:=fun _=>True) (okp:=fun _=>True) ?hr ?hp (fun _ hk=>hk) trivial (aag _ _) (kV _) (by simp) ?_;(case hd=>rfl);(case hg=>rfl);(case hr=>first|(go_simp;done)|(go_simp;rfl));(case hp=>exact(cR.one (show Kd.M (Kd.int .u8) _ _ _ ((F5 (48+(GW a0 10))) %256) [.int .u8 ((F5 (48+(GW a0 10))) %256)]from rfl) (cR.none _ _)));intro v109 w9 E2 hb jW jJ;clear jW jJ;(first|rw[←Gy.out]at E2|(simp only[aba]at E2;rw[←Gy.out]at E2));have o6:=Ah (Kd.eZ E2 (eo (bs HB)));replace HB:=Ah (aM (bs HB) hb);clear hb E2;refine hK.out _ _ trivial (fun hHeld=> ?_);clear hK K;refine nq 17 ?_;refine Ad (i:=2) (j:=8) (Ni:=some 12) (Nj:=some 18) #[true,true,true,true,true,true,true,true,false,false,false] #[true,true,false,true,true,true,true,true,true,false,false] rfl rfl rfl rfl (AC I.out (by kernel_rfl)) (by decide) (by decide) (fun K hK=> ?_) (fun K hK=> ?_)
   ·
    skip
    refine cZ abR (by kernel_rfl) rfl #[.int .i64 (F5 (aQ a0 10))] (by rfl) rfl rfl (by(try simp only[fT,gJ,j5]);first|done|rfl|(simp only[fF,ca];rfl)) ?_
    with_reducible refine(ih k (by omega) (F5 (aQ a0 10)) t107 _ A6.out).mono ?_
    rintro e tw ⟨rfl,hb⟩;refine⟨_,rfl, ?_⟩;replace o6:=Ah (Kd.bB (rr o6.out) hb);replace HB:=Ah (aM (bs HB) hb);(try clear hb);(try clear hb2);(try clear hk);(try clear hi);refine hK.out _ _ trivial (fun hHeld=> ?_);clear hK K;refine nq 12 ?_;refine cK (i:=8) (N:=some 18) #[true,true,true,true,true,true,true,true,true,false,false] rfl rfl (bz I.out (by kernel_rfl)) (by decide) (fun K hK=> ?_);have Ky:=BL (P:=aaf) aaS aa5 abl (Kd.wt o6.out);refine CS (w1:= ?_) (v:= ?_) (by rfl) rfl ?_ ?_;rotate_left 2
    ·
     go_simp
     constructor
     ·
      rfl
     ·
      rfl
    clear Ky;refine hK.out _ _ trivial (fun hHeld=> ?_);clear hK K;refine nq 18 ?_;exact nt (by simp only[l3,Act.put,aab,aai,aaj]) (hCont (v109) _ ⟨(rr o6.out),(bs HB)⟩)
   ·
    skip
    have a3g:=BL (P:=aaf) aaS aa5 abl (Kd.wt o6.out);refine CS (w1:= ?_) (v:= ?_) (by rfl) rfl ?_ ?_;rotate_left 2
    ·
     go_simp
     constructor
     ·
      rfl
     ·
      rfl
    clear a3g;refine hK.out _ _ trivial (fun hHeld=> ?_);clear hK K;refine nq 18 ?_;refine cK (i:=2) (N:=some 12) #[true,true,true,true,true,true,true,true,true,false,false] rfl rfl (bz I.out (by kernel_rfl)) (by decide) (fun K hK=> ?_);refine cZ abR (by kernel_rfl) rfl #[.int .i64 (F5 (aQ a0 10))] (by rfl) rfl rfl (by(try simp only[fT,gJ,j5]);first|done|rfl|(simp only[fF,ca];rfl)) ?_
    with_reducible refine(ih k (by omega) (F5 (aQ a0 10)) t107 _ A6.out).mono ?_
    rintro e mU ⟨rfl,hb⟩;refine⟨_,rfl, ?_⟩;replace o6:=Ah (Kd.bB (rr o6.out) hb);replace HB:=Ah (aM (bs HB) hb);(try clear hb);(try clear hb2);(try clear hk);(try clear hi);refine hK.out _ _ trivial (fun hHeld=> ?_);clear hK K;refine nq 12 ?_;exact nt (by simp only[l3,Act.put,aab,aai,aaj]) (hCont (v109) _ ⟨(rr o6.out),(bs HB)⟩)
 rintro v109 lX ⟨wN,wO⟩;have o6:Z (Kd.R (Kd.int .u8) 5 lX w.heap.size (fun _=>True) v109 nV):=⟨wN⟩;replace HB:Z (Below w.heap.size w lX):=⟨wO⟩;clear wN wO;have hHeld:=trivial;refine nt (a':= ?_) ?_ ?_;rotate_left
 ·
  simp only[l3,Act.put,aab,aai,aaj]
  rfl
 refine a8 9 19 I.out ?_;refine a8 10 2 I.out ?_;refine dP (dW I.out (by kernel_rfl)) ?_
 try go_wp2
 go_ret
 exact⟨er,bs HB⟩
def dd.l0:Nat→ByteArray→Int→Int→Int→Option (Int)
 |0,_,_,_,_=>none
 |k+1,x3,x4,x5,x6=>if x6<(x3.size:Int)then(if 0≤x6 then(dd.l0 k x3 (GW (F5 (x4+(F5 (bt x3 x6)))) 251) (GW (F5 (x5+(GW (F5 (x4+(F5 (bt x3 x6)))) 251))) 251) (F5 (x6+1)))else(none))else(some (F5 ((F5 (256*x5))+x4)))
def dd.f(k:Nat)(bI:Int)(aA:Int)(aD:ByteArray)(aE:Int):Option (Int):=(lJ.f bI aA aD aE).bind fun E3=>(if E3=true then((fk.f k bI).bind fun hP=>(if hP.size+1≤9223372036854775807 then((fk.f k aA).bind fun iw=>(if(hP++(⟨#[46]⟩:ByteArray)).size+iw.size≤9223372036854775807 then(if((hP++(⟨#[46]⟩:ByteArray))++iw).size+1≤9223372036854775807 then(if(((hP++(⟨#[46]⟩:ByteArray))++iw)++(⟨#[46]⟩:ByteArray)).size+aD.size≤9223372036854775807 then(dd.l0 k ((((hP++(⟨#[46]⟩:ByteArray))++iw)++(⟨#[46]⟩:ByteArray))++aD) 1 0 0)else(none))else(none))else(none)))else(none)))else(some 0))
theorem dd.eC:∀k,(∀y0 y1 y2 y3,aJ (dd.l0 k y0 y1 y2 y3) (dd.l0 (k+1) y0 y1 y2 y3))
 |0=>fun _ _ _ _ r h=>by simp[dd.l0]at h
 |k+1=>by
  have cj:=dd.eC k
  ·
   intro y0 y1 y2 y3;unfold dd.l0
   repeat' with_reducible first|exact cj _ _ _ _|exact fk.mono _ _|exact aJ.refl _|exact aJ.none _|refine aJ.ite ?_ ?_|refine aJ.bind ?_ (fun _=> ?_)
theorem dd.mono:∀a0 a1 a2 a3 k,aJ (dd.f k a0 a1 a2 a3) (dd.f (k+1) a0 a1 a2 a3):=by
 intro a0 a1 a2 a3 k;have cj:=dd.eC k;unfold dd.f
 repeat' with_reducible first|exact cj _ _ _ _|exact fk.mono _ _|exact aJ.refl _|exact aJ.none _|refine aJ.ite ?_ ?_|refine aJ.bind ?_ (fun _=> ?_)
def dd.T3:Bool×List (List Nat×List Nat):=(true,[([],[]),([0],[0]),([1],[1]),([2],[2]),([],[]),([4],[4]),([5,2],[5]),([3,6],[3,6]),([7],[7]),([],[]),([9],[9]),([8,10],[8,10]),([11,6,0,1,2,3,4,5,6,7,8,9,10,11],[11])])
def dd.B3:List Nat:=[0,1,3,7,0,16,55,127,255,0,512,2047,4095]
theorem dd.Ls:dt .any (gN Tryd.f12 3)=dd.T3:=by kernel_rfl
theorem dd.Kx:fh dd.T3.2 dd.B3=true:=by kernel_rfl
theorem dd.calls(k:Nat)(bI:Int)(aA:Int)(aD:ByteArray)(aE:Int)(r:Int)(w:World)(h:dd.f k bI aA aD aE=some r):
 Calls aaf 12 #[.agg #[.int .i64 bI,.int .i64 aA,.string aD,.int .i64 aE]] w fun e w'=>e= .returned (.int .i64 r)∧Below w.heap.size w w':=by
 have kH:=aan;have HB:=Ah (aag w.heap.size w);have H:((lJ.f bI aA aD aE).bind fun E3=>(if E3=true then((fk.f k bI).bind fun hP=>(if hP.size+1≤9223372036854775807 then((fk.f k aA).bind fun iw=>(if(hP++(⟨#[46]⟩:ByteArray)).size+iw.size≤9223372036854775807 then(if((hP++(⟨#[46]⟩:ByteArray))++iw).size+1≤9223372036854775807 then(if(((hP++(⟨#[46]⟩:ByteArray))++iw)++(⟨#[46]⟩:ByteArray)).size+aD.size≤9223372036854775807 then(dd.l0 k ((((hP++(⟨#[46]⟩:ByteArray))++iw)++(⟨#[46]⟩:ByteArray))++aD) 1 0 0)else(none))else(none))else(none)))else(none)))else(some 0)))=some r:=h;clear h;replace H:=Ok.mp H;obtain⟨E3,eg,H⟩:=H
 try dsimp only at H
 have A2:=Ah eg;clear eg
 by_cases c3:E3=true
 rotate_left
 ·
  replace c3:=iK.mpr c3;subst c3;rw[if_neg dM]at H;obtain rfl:=qE H
  go_enter abJ,Tryd.ntmps12
  go_wp2_with (first|((with_reducible refine bY (N:=1) rfl ?_);refine br 1 36 #[.int .i64 bI,.int .i64 aA,.string aD,.int .i64 aE] ?_;intro AK hg Vk gP hb;have a3h:=gw hg (bs HB);have tA:=gw hg (bs HB);replace HB:=Ah (aM (bs HB) hb);clear hb hg;obtain⟨ou,ov,ow,ox⟩:=aT gP;obtain⟨oy,oz,p7,p8⟩:=aU gP)|((with_reducible refine bU (f:=29) rfl ?_);refine gL (some 8) rfl rfl abK (by kernel_rfl) rfl #[.agg #[.int .i64 bI,.int .i64 aA,.string aD,.int .i64 aE]] rfl ?_;(with_reducible refine(lJ.calls bI aA aD aE false _ A2.out).mono ?_);rintro e oe ⟨rfl,hb⟩;refine⟨_,rfl, ?_⟩;replace gP:=nb gP hb;replace HB:=Ah (aM (aX HB tA) hb);(try clear hb)))
  go_ret
  exact⟨er,aX HB tA⟩
 subst c3;rw[if_pos rfl]at H;replace H:=Ok.mp H;obtain⟨hP,fo,H⟩:=H
 try dsimp only at H
 have A4:=Ah fo;clear fo
 by_cases c5:hP.size+1≤9223372036854775807
 rotate_left
 ·
  rw[if_neg c5]at H;exact absurd H (by simp)
 rw[if_pos c5]at H;have rP:=eq_true c5;have Lt:=bV c5
 try have Lu:(9223372036854775807<hP.size+1)=False:=eq_false (abI.2 c5)
 replace H:=Ok.mp H;obtain⟨iw,iz,H⟩:=H
 try dsimp only at H
 have A6:=Ah iz;clear iz
 by_cases c7:(hP++(⟨#[46]⟩:ByteArray)).size+iw.size≤9223372036854775807
 rotate_left
 ·
  rw[if_neg c7]at H;exact absurd H (by simp)
 rw[if_pos c7]at H;have kI:=eq_true c7;have oE:=bV c7
 try have tW:(9223372036854775807<(hP++(⟨#[46]⟩:ByteArray)).size+iw.size)=False:=eq_false (abI.2 c7)
 (try(have Kz:=tW;simp only[aaH,show(⟨#[46]⟩:ByteArray).size=1 from rfl]at Kz))
 by_cases c8:((hP++(⟨#[46]⟩:ByteArray))++iw).size+1≤9223372036854775807
 rotate_left
 ·
  rw[if_neg c8]at H;exact absurd H (by simp)
 rw[if_pos c8]at H;have lQ:=eq_true c8;have rQ:=bV c8
 try have E4:(9223372036854775807<((hP++(⟨#[46]⟩:ByteArray))++iw).size+1)=False:=eq_false (abI.2 c8)
 (try(have L0:=E4;simp only[aaH,show(⟨#[46]⟩:ByteArray).size=1 from rfl]at L0))
 by_cases c9:(((hP++(⟨#[46]⟩:ByteArray))++iw)++(⟨#[46]⟩:ByteArray)).size+aD.size≤9223372036854775807
 rotate_left
 ·
  rw[if_neg c9]at H;exact absurd H (by simp)
 rw[if_pos c9]at H;have Hr:=eq_true c9;have Hs:=bV c9
 try have E5:(9223372036854775807<(((hP++(⟨#[46]⟩:ByteArray))++iw)++(⟨#[46]⟩:ByteArray)).size+aD.size)=False:=eq_false (abI.2 c9)
 (try(have L1:=E5;simp only[aaH,show(⟨#[46]⟩:ByteArray).size=1 from rfl]at L1));have H':=Ah H;clear H
 go_enter abJ,Tryd.ntmps12
 try go_wp2_with (first|((with_reducible refine bY (N:=1) rfl ?_);refine br 1 36 #[.int .i64 bI,.int .i64 aA,.string aD,.int .i64 aE] ?_;intro AK hg FP gP hb;have a3h:=gw hg (bs HB);have tA:=gw hg (bs HB);replace HB:=Ah (aM (bs HB) hb);clear hb hg;obtain⟨qL,qM,qN,qO⟩:=aT gP;obtain⟨qP,qQ,qR,qS⟩:=aU gP)|((with_reducible refine bU (f:=29) rfl ?_);refine gL (some 8) rfl rfl abK (by kernel_rfl) rfl #[.agg #[.int .i64 bI,.int .i64 aA,.string aD,.int .i64 aE]] rfl ?_;(with_reducible refine(lJ.calls bI aA aD aE true _ A2.out).mono ?_);rintro e mU ⟨rfl,hb⟩;refine⟨_,rfl, ?_⟩;replace gP:=nb gP hb;replace HB:=Ah (aM (aX HB tA) hb);(try clear hb)))
 replace gP:=Ah (aZ gP.out);replace HB:=Ah (bc HB.out);refine dk (n:=13) (S:=fun w'=>w'.cell? ⟨AK,0,none⟩=some (.int .i64 bI)∧w'.cell? ⟨AK,1,none⟩=some (.int .i64 aA)∧w'.cell? ⟨AK,2,none⟩=some (.string aD)∧w'.cell? ⟨AK,3,none⟩=some (.int .i64 aE)) (ds:=[]) #[false,false,false,false,false,false,false,false,false,false,false,false,false] (by kernel_rfl) rfl rfl ⟨(Y gP.out 0).trans rfl,(Y gP.out 1).trans rfl,(Y gP.out 2).trans rfl,(Y gP.out 3).trans rfl⟩ (fun hHeld=> ?_);refine dl dd.Ls dd.Kx (fun I aq=> ?_)
 generalize mU.drew=lX at gP HB hHeld⊢
 refine a8 0 10 I.out ?_;refine a8 4 14 I.out ?_;refine a8 9 19 I.out ?_;refine bM 1 11 I.out aq.out hHeld (hr:=by rintro w' ⟨s0,s1,s2,s3⟩;go_simp;with_reducible rfl) (h:= ?_);refine bM 5 15 I.out aq.out hHeld (hr:=by rintro w' ⟨s0,s1,s2,s3⟩;go_simp;with_reducible rfl) (h:= ?_);refine bM 10 20 I.out aq.out hHeld (hr:=by rintro w' ⟨s0,s1,s2,s3⟩;go_simp;with_reducible rfl) (h:= ?_);refine cK (i:=2) (N:=some 12) #[true,true,true,false,true,true,false,false,false,true,true,false,false] rfl rfl (bz I.out (by kernel_rfl)) (by decide) (fun K hK=> ?_);refine cZ Tryd.func30 (by kernel_rfl) rfl #[.int .i64 bI] (by rfl) rfl rfl (by(try simp only[List.map_toArray,List.map_cons,List.map_nil]);first|done|rfl|(simp only[List.length_drop,List.length_take];rfl)) ?_
 with_reducible refine(fk.calls k bI hP _ A4.out).mono ?_
 rintro e kP ⟨rfl,hb⟩;refine⟨_,rfl, ?_⟩;replace gP:=Ah (bb gP hb);replace HB:=Ah (aM (aX HB tA) hb);(try clear hb);(try clear hb2);(try clear hk);(try clear hi);refine hK.out _ _ ⟨(Y gP.out 0).trans rfl,(Y gP.out 1).trans rfl,(Y gP.out 2).trans rfl,(Y gP.out 3).trans rfl⟩ (fun hHeld=> ?_);clear hK K;refine nq 12 ?_;refine a8 3 13 I.out ?_;refine cK (i:=6) (N:=some 16) #[true,true,true,true,true,true,true,false,false,true,true,false,false] rfl rfl (bz I.out (by kernel_rfl)) (by decide) (fun K hK=> ?_);refine cZ abR (by kernel_rfl) rfl #[.int .i64 aA] (by rfl) rfl rfl (by(try simp only[fT,gJ,j5]);first|done|rfl|(simp only[fF,ca];rfl)) ?_
 with_reducible refine(fk.calls k aA iw _ A6.out).mono ?_
 rintro e rg ⟨rfl,hb⟩;refine⟨_,rfl, ?_⟩;replace gP:=Ah (bb gP hb);replace HB:=Ah (aM (aX HB tA) hb);(try clear hb);(try clear hb2);(try clear hk);(try clear hi);refine hK.out _ _ ⟨(Y gP.out 0).trans rfl,(Y gP.out 1).trans rfl,(Y gP.out 2).trans rfl,(Y gP.out 3).trans rfl⟩ (fun hHeld=> ?_);clear hK K;refine nq 16 ?_;refine a8 7 17 I.out ?_;refine a8 8 18 I.out ?_;refine a8 11 21 I.out ?_;refine a8 12 3 I.out ?_;refine dP (dW I.out (by kernel_rfl)) ?_
 try go_wp2
 go_loopg [4,5,6] k (fun kq v4 v5 v6 w'=>∃ (kJ:Int) (bQ:Int) (pr:Int),v4= .int .i64 kJ∧v5= .int .i64 bQ∧v6= .int .i64 pr∧Z (dd.l0 kq ((((hP++(⟨#[46]⟩:ByteArray))++iw)++(⟨#[46]⟩:ByteArray))++aD) kJ bQ pr=some r)∧Z (kq≤k)∧Z (w'.heap[AK]?=some (.cells #[.int .i64 bI,.int .i64 aA,.string aD,.int .i64 aE] 36 (0,0)))∧Z (Below w.heap.size w w'))
 case atStart=>exact⟨(1),(0),(0),e3,e3,e3,H',⟨kV _⟩,⟨bk gP⟩,⟨aX HB tA⟩⟩
 case round=>
  clear H'
  try clear c1
  try clear c2
  try clear p2
  try clear c3
  try clear c5
  try clear rP
  try clear Lt
  try clear Lu
  try clear c7
  try clear kI
  try clear oE
  try clear tW
  try clear c8
  try clear lQ
  try clear rQ
  try clear E4
  try clear c9
  try clear Hr
  try clear Hs
  try clear E5
  try clear c12
  try clear qL qM qN qO
  try clear qP qQ qR qS
  obtain⟨kJ,bQ,pr,rfl,rfl,rfl,HA,dp,gP,HB⟩:=hrel
  cases gk with
  |zero=>exact absurd HA.out (by simp[dd.l0])
  |succ k1=>
   have H:=HA.out;clear HA;simp only[dd.l0]at H
   by_cases c16:pr<(((((hP++(⟨#[46]⟩:ByteArray))++iw)++(⟨#[46]⟩:ByteArray))++aD).size:Int)
   rotate_left
   ·
    rw[if_neg c16]at H;have L2:=ev c16;(try(have KF:=L2;push_cast [aaH,show(⟨#[46]⟩:ByteArray).size=1 from rfl]at KF));clear c16;obtain rfl:=qE H
    go_wp2
    go_ret
    exact⟨er,aX HB tA⟩
   rw[if_pos c16]at H;have L2:=bV c16;(try(have KF:=L2;push_cast [aaH,show(⟨#[46]⟩:ByteArray).size=1 from rfl]at KF));clear c16
   by_cases c17:0≤pr
   rotate_left
   ·
    rw[if_neg c17]at H;exact absurd H (by simp)
   rw[if_pos c17]at H;have c17b0:=bV c17;clear c17;have H':=Ah H;clear H;have Vp:0≤(pr:Int):=od;have NK:pr<(((((hP++(⟨#[46]⟩:ByteArray))++iw)++(⟨#[46]⟩:ByteArray))++aD).size:Int):=od;(try(have Lv:=NK;push_cast [aaH,show(⟨#[46]⟩:ByteArray).size=1 from rfl]at Lv;replace Lv:=eq_true Lv));have hx18:=a2l ((((hP++(⟨#[46]⟩:ByteArray))++iw)++(⟨#[46]⟩:ByteArray))++aD) pr;replace Vp:=eq_true Vp;replace NK:=eq_true NK
   go_wp2
   go_roundg k1
   case measure=>have:=dp.out;omega
   case rel=>exact⟨(GW (F5 (kJ+(F5 (bt ((((hP++(⟨#[46]⟩:ByteArray))++iw)++(⟨#[46]⟩:ByteArray))++aD) pr)))) 251),(GW (F5 (bQ+(GW (F5 (kJ+(F5 (bt ((((hP++(⟨#[46]⟩:ByteArray))++iw)++(⟨#[46]⟩:ByteArray))++aD) pr)))) 251))) 251),(F5 (pr+1)),e3,e3,e3,H',⟨by have:=dp.out;omega⟩,⟨bk gP⟩,⟨aX HB tA⟩⟩
def fa.f(k:Nat)(bI:Int)(aA:Int)(aD:ByteArray)(aE:Int):Option (Bool):=(lJ.f bI aA aD aE).bind fun t116=>(if t116=true then((dd.f k bI aA aD aE).bind fun t117=>(some (aE==t117)))else(some false))
theorem fa.mono:∀a0 a1 a2 a3 k,aJ (fa.f k a0 a1 a2 a3) (fa.f (k+1) a0 a1 a2 a3):=by
 intro a0 a1 a2 a3 k;unfold fa.f
 repeat' with_reducible first|exact dd.mono _ _ _ _ _|exact aJ.refl _|exact aJ.none _|refine aJ.ite ?_ ?_|refine aJ.bind ?_ (fun _=> ?_)
def fa.T1:Bool×List (List Nat×List Nat):=(true,[([],[]),([0],[0]),([1,1],[1]),([2],[2]),([3,2],[2,3]),([2],[2]),([5,2,2],[2,5]),([4,6,2],[2,4,6]),([2,7],[2,7]),([8,6,0,1,2,3,4,5,6,7,8],[8])])
def fa.B1:List Nat:=[0,1,3,7,15,7,39,127,255,511]
theorem fa.Lw:dt .any (gN Tryd.f34 1)=fa.T1:=by kernel_rfl
theorem fa.L3:fh fa.T1.2 fa.B1=true:=by kernel_rfl
theorem fa.calls(k:Nat)(bI:Int)(aA:Int)(aD:ByteArray)(aE:Int)(r:Bool)(w:World)(h:fa.f k bI aA aD aE=some r):
 Calls aaf 34 #[.agg #[.int .i64 bI,.int .i64 aA,.string aD,.int .i64 aE]] w fun e w'=>e= .returned (.bool r)∧Below w.heap.size w w':=by
 have kH:=aan;have HB:=Ah (aag w.heap.size w);have H:((lJ.f bI aA aD aE).bind fun t116=>(if t116=true then((dd.f k bI aA aD aE).bind fun t117=>(some (aE==t117)))else(some false)))=some r:=h;clear h;replace H:=Ok.mp H;obtain⟨t116,eg,H⟩:=H
 try dsimp only at H
 have A2:=Ah eg;clear eg;have H_:=Ah H;clear H
 go_enter abn,Tryd.ntmps34
 try go_wp2_with (first|((with_reducible refine bY (N:=1) rfl ?_);refine br 1 36 #[.int .i64 bI,.int .i64 aA,.string aD,.int .i64 aE] ?_;intro Gz hg w5 iS hb;have GW115:=gw hg (bs HB);have Cu:=gw hg (bs HB);replace HB:=Ah (aM (bs HB) hb);clear hb hg))
 replace iS:=Ah (aZ iS.out);replace HB:=Ah (bc HB.out);refine dk (n:=10) (S:=fun w'=>w'.cell? ⟨Gz,0,none⟩=some (.int .i64 bI)∧w'.cell? ⟨Gz,1,none⟩=some (.int .i64 aA)∧w'.cell? ⟨Gz,2,none⟩=some (.string aD)∧w'.cell? ⟨Gz,3,none⟩=some (.int .i64 aE)) (ds:=[]) #[false,false,false,false,false,false,false,false,false,false] (by kernel_rfl) rfl rfl ⟨(Y iS.out 0).trans rfl,(Y iS.out 1).trans rfl,(Y iS.out 2).trans rfl,(Y iS.out 3).trans rfl⟩ (fun hHeld=> ?_);refine dl fa.Lw fa.L3 (fun I aq=> ?_)
 generalize w5.drew=w6 at iS HB hHeld⊢
 refine bM 0 3 I.out aq.out hHeld (hr:=by rintro w' ⟨s0,s1,s2,s3⟩;go_simp;with_reducible rfl) (h:= ?_);refine cK (i:=1) (N:=some 4) #[true,true,false,false,false,false,false,false,false,false] rfl rfl (bz I.out (by kernel_rfl)) (by decide) (fun K hK=> ?_);refine cZ abK (by kernel_rfl) rfl #[.agg #[.int .i64 bI,.int .i64 aA,.string aD,.int .i64 aE]] (by rfl) rfl rfl (by(try simp only[fT,gJ,j5]);first|done|rfl|(simp only[fF,ca];rfl)) ?_;have H:=H_.out;clear H_
 by_cases c3:t116=true
 rotate_left
 ·
  replace c3:=iK.mpr c3;subst c3;rw[if_neg dM]at H;obtain rfl:=qE H
  with_reducible refine(lJ.calls bI aA aD aE false _ A2.out).mono ?_
  rintro e tw ⟨rfl,hb⟩;refine⟨_,rfl, ?_⟩;replace iS:=Ah (bb iS hb);replace HB:=Ah (aM (aX HB Cu) hb);(try clear hb);(try clear hb2);(try clear hk);(try clear hi);refine hK.out _ _ ⟨(Y iS.out 0).trans rfl,(Y iS.out 1).trans rfl,(Y iS.out 2).trans rfl,(Y iS.out 3).trans rfl⟩ (fun hHeld=> ?_);clear hK K;refine nq 4 ?_;refine a8 2 5 I.out ?_;refine aV 3 6 I.out ?_;refine aV 4 7 I.out ?_;refine aV 5 8 I.out ?_;refine aV 6 9 I.out ?_;refine aV 7 10 I.out ?_;refine a8 8 11 I.out ?_;refine a8 9 2 I.out ?_;refine dP (dW I.out (by kernel_rfl)) ?_
  try go_wp2
  go_ret
  exact⟨er,aX HB Cu⟩
 subst c3;rw[if_pos rfl]at H;replace H:=Ok.mp H;obtain⟨t117,fo,H⟩:=H
 try dsimp only at H
 have A4:=Ah fo;clear fo;obtain rfl:=qE H
 with_reducible refine(lJ.calls bI aA aD aE true _ A2.out).mono ?_
 rintro e w7 ⟨rfl,hb⟩;refine⟨_,rfl, ?_⟩;replace iS:=Ah (bb iS hb);replace HB:=Ah (aM (aX HB Cu) hb);(try clear hb);(try clear hb2);(try clear hk);(try clear hi);refine hK.out _ _ ⟨(Y iS.out 0).trans rfl,(Y iS.out 1).trans rfl,(Y iS.out 2).trans rfl,(Y iS.out 3).trans rfl⟩ (fun hHeld=> ?_);clear hK K;refine nq 4 ?_;refine a8 2 5 I.out ?_;refine a8 3 6 I.out ?_;refine bM 4 7 I.out aq.out hHeld (hr:=by rintro w' ⟨s0,s1,s2,s3⟩;go_simp;with_reducible rfl) (h:= ?_);refine bM 5 8 I.out aq.out hHeld (hr:=by rintro w' ⟨s0,s1,s2,s3⟩;go_simp;with_reducible rfl) (h:= ?_);refine cK (i:=6) (N:=some 9) #[true,true,true,true,true,true,true,false,false,false] rfl rfl (bz I.out (by kernel_rfl)) (by decide) (fun K hK=> ?_);refine cZ Tryd.func12 (by kernel_rfl) rfl #[.agg #[.int .i64 bI,.int .i64 aA,.string aD,.int .i64 aE]] (by rfl) rfl rfl (by(try simp only[List.map_toArray,List.map_cons,List.map_nil]);first|done|rfl|(simp only[List.length_drop,List.length_take];rfl)) ?_
 with_reducible refine(dd.calls k bI aA aD aE t117 _ A4.out).mono ?_
 rintro e w8 ⟨rfl,hb⟩;refine⟨_,rfl, ?_⟩;replace iS:=Ah (bb iS hb);replace HB:=Ah (aM (aX HB Cu) hb);(try clear hb);(try clear hb2);(try clear hk);(try clear hi);refine hK.out _ _ ⟨(Y iS.out 0).trans rfl,(Y iS.out 1).trans rfl,(Y iS.out 2).trans rfl,(Y iS.out 3).trans rfl⟩ (fun hHeld=> ?_);clear hK K;refine nq 9 ?_;refine a8 7 10 I.out ?_;refine a8 8 11 I.out ?_;refine a8 9 2 I.out ?_;refine dP (dW I.out (by kernel_rfl)) ?_
 try go_wp2
 go_ret
 exact⟨er,aX HB Cu⟩
def ib.f(k:Nat):Option (Int×Int×ByteArray×Int):=(dd.f k 0 0 (⟨#[]⟩:ByteArray) 0).bind fun Ae=>(some (0,0,(⟨#[]⟩:ByteArray),Ae))
theorem ib.mono:∀k,aJ (ib.f k) (ib.f (k+1)):=by
 intro k;unfold ib.f
 repeat' with_reducible first|exact dd.mono _ _ _ _ _|exact aJ.refl _|exact aJ.none _|refine aJ.ite ?_ ?_|refine aJ.bind ?_ (fun _=> ?_)
theorem ib.calls(k:Nat)(r1:Int)(r2:Int)(r3:ByteArray)(r4:Int)(w:World)(h:ib.f k=some (r1,r2,r3,r4)):
 Calls aaf 41 #[] w fun e w'=>e= .returned (.agg #[.int .i64 r1,.int .i64 r2,.string r3,.int .i64 r4])∧Below w.heap.size w w':=by
 have kH:=aan;have HB:=Ah (aag w.heap.size w);have H:((dd.f k 0 0 (⟨#[]⟩:ByteArray) 0).bind fun Ae=>(some (0,0,(⟨#[]⟩:ByteArray),Ae)))=some (r1,r2,r3,r4):=h;clear h;replace H:=Ok.mp H;obtain⟨Ae,wQ,H⟩:=H
 try dsimp only at H
 have A1:=Ah wQ;clear wQ;simp only[aaa,Prod.mk.injEq]at H;obtain⟨rfl,rfl,rfl,rfl⟩:=H
 go_enter Tryd.func41,Tryd.ntmps41
 go_wp2_with (first|((with_reducible refine bY (N:=0) rfl ?_);refine br 0 36 #[.int .i64 0,.int .i64 0,.string (⟨#[]⟩:ByteArray),.int .i64 0] ?_;intro xg hg w2 tB hb;have GW118:=gw hg (bs HB);have Cv:=gw hg (bs HB);replace HB:=Ah (aM (bs HB) hb);clear hb hg)|((with_reducible refine bY (N:=1) rfl ?_);refine br 1 36 #[.int .i64 0,.int .i64 0,.string (⟨#[]⟩:ByteArray),.int .i64 0] ?_;intro AL hg w3 AM hb;have GW119:=gw hg (aX HB Cv);have Rx:=gw hg (aX HB Cv);replace HB:=Ah (aM (aX HB Cv) hb);have Ip:=Ah ((by rw[hg];exact ek (j7 (g:=xg) (o:= .cells #[.int .i64 0,.int .i64 0,.string (⟨#[]⟩:ByteArray),.int .i64 0] 36 (0,0)) (bk tB)):xg≠AL));have XU:=Ah ((by rw[hg];exact Nat.ne_of_gt (j7 (g:=xg) (o:= .cells #[.int .i64 0,.int .i64 0,.string (⟨#[]⟩:ByteArray),.int .i64 0] 36 (0,0)) (bk tB)):AL≠xg));replace tB:=Ah (bq (g:=xg) (o:= .cells #[.int .i64 0,.int .i64 0,.string (⟨#[]⟩:ByteArray),.int .i64 0] 36 (0,0)) (bk tB) hb);clear hb hg;have hnb4:=XU.out;have hnc4:=Ip.out;obtain⟨KG,KH,KI,Qu⟩:=aT AM;obtain⟨Qv,KJ,KK,Qw⟩:=aU AM)|((with_reducible refine bU (f:=12) rfl ?_);refine gL (some 4) rfl rfl abJ (by kernel_rfl) rfl #[.agg #[.int .i64 0,.int .i64 0,.string (⟨#[]⟩:ByteArray),.int .i64 0]] rfl ?_;(with_reducible refine(dd.calls k 0 0 (⟨#[]⟩:ByteArray) 0 Ae _ A1.out).mono ?_);rintro e w6 ⟨rfl,hb⟩;refine⟨_,rfl, ?_⟩;replace tB:=Ah (bq (g:=xg) (o:= .cells #[.int .i64 0,.int .i64 0,.string (⟨#[]⟩:ByteArray),.int .i64 0] 36 (0,0)) (bf tB Ip) hb);replace AM:=Ah (bq (g:=AL) (o:= .cells #[.int .i64 0,.int .i64 0,.string (⟨#[]⟩:ByteArray),.int .i64 0] 36 (0,0)) (pb AM) hb);replace HB:=Ah (aM (an HB Cv Rx) hb);(try clear hb);obtain⟨vD,vE,vF,vG⟩:=aT AM;obtain⟨vH,vI,vJ,vK⟩:=aU AM;obtain⟨Qx,Qy,Qz,a1D⟩:=aT tB;obtain⟨a1E,R0,R1,a1F⟩:=aU tB))
 refine bodyPost_ret (results_cell_row rfl _ _ xg 36 #[.int .i64 0,.int .i64 0,.string (⟨#[]⟩:ByteArray),.int .i64 Ae] (0,0) _ rfl (oZ tB Ip) aan rfl (by kernel_rfl)) rfl ?_;exact⟨er,an HB Cv Rx⟩
mutual
def aw.j0:Nat→Int→Bool→List (aK)→Int→Int→Int→Option (Bool)
 |0,_,_,_,_,_,_=>none
 |k+1,x3,x45,gf,mu,p9,mv=>if x45=true then(some false)else(aw.l0 k x3 0 (F5 (mu-x3)) gf mu p9 mv)
def aw.l0:Nat→Int→Int→Int→List (aK)→Int→Int→Int→Option (Bool)
 |0,_,_,_,_,_,_,_=>none
 |k+1,x3,x4,x5,gf,mu,p9,mv=>if x5<mu then(if x5<0 then(if 0≤(F5 (x5+x3))then(if(F5 (x5+x3))<(gf.length:Int)then((ib.f k).bind fun tC=>(if(!(((J gf (F5 (x5+x3))).f0)==tC.1)||(!(((J gf (F5 (x5+x3))).f1)==tC.2.1)||(!((((J gf (F5 (x5+x3))).f2).toList)==tC.2.2.1.toList)||(!(((J gf (F5 (x5+x3))).f3)==tC.2.2.2)))))=true then(some false)else(aw.l0 k x3 x4 (F5 (x5+1)) gf mu p9 mv)))else(none))else(none))else(if x3=0 then(none)else(if 0≤(GW x5 x3)then(if(GW x5 x3)<(gf.length:Int)then(if x5<mv then((ib.f k).bind fun tD=>(aw.j2 k x3 x4 x5 (((J gf (GW x5 x3)).f0)==tD.1&& (((J gf (GW x5 x3)).f1)==tD.2.1&& ((((J gf (GW x5 x3)).f2).toList)==tD.2.2.1.toList&& (((J gf (GW x5 x3)).f3)==tD.2.2.2)))) gf mu p9 mv ((J gf (GW x5 x3)).f0) ((J gf (GW x5 x3)).f1) ((J gf (GW x5 x3)).f2) ((J gf (GW x5 x3)).f3)))else(aw.j2 k x3 x4 x5 false gf mu p9 mv ((J gf (GW x5 x3)).f0) ((J gf (GW x5 x3)).f1) ((J gf (GW x5 x3)).f2) ((J gf (GW x5 x3)).f3)))else(none))else(none))))else(some true)
def aw.j2:Nat→Int→Int→Int→Bool→List (aK)→Int→Int→Int→Int→Int→ByteArray→Int→Option (Bool)
 |0,_,_,_,_,_,_,_,_,_,_,_,_=>none
 |k+1,x3,x4,x5,x82,gf,mu,p9,mv,Bx,uc,GD,GE=>if x82=true then(aw.l0 k x3 x4 (F5 (x5+1)) gf mu p9 mv)else((fa.f k Bx uc GD GE).bind fun Lx=>(if Lx=true then(if x3=0 then(none)else(aw.j3 k x3 x4 x5 (Bx !=(F5 ((F5 (aQ x5 x3))+1))) gf mu p9 mv Bx uc GD GE))else(aw.j3 k x3 x4 x5 true gf mu p9 mv Bx uc GD GE)))
def aw.j3:Nat→Int→Int→Int→Bool→List (aK)→Int→Int→Int→Int→Int→ByteArray→Int→Option (Bool)
 |0,_,_,_,_,_,_,_,_,_,_,_,_=>none
 |k+1,x3,x4,x5,x94,gf,mu,p9,mv,Bx,uc,GD,GE=>if x94=true then(some false)else(if uc<x4 then(some false)else(if uc>x5 then(some false)else(if uc>mv then(some false)else(aw.l0 k x3 uc (F5 (x5+1)) gf mu p9 mv))))
end
def aw.f(k:Nat)(U:List (aK))(aA:Int)(aD:Int)(aE:Int):Option (Bool):=(eu.f (U.length:Int) 2 24).bind fun E6=>(if E6=true then((eu.f aA 0 10000000).bind fun E7=>(if E7=true then((eu.f aE 0 aA).bind fun t124=>(if t124=true then(if(F5 (aA-aE))>(U.length:Int)then(aw.j0 k (U.length:Int) true U aA aD aE)else(if(U.length:Int)=0 then(none)else(aw.j0 k (U.length:Int) (aD !=(F5 ((F5 (aQ aA (U.length:Int)))+1))) U aA aD aE)))else(aw.j0 k (U.length:Int) true U aA aD aE)))else(aw.j0 k (U.length:Int) true U aA aD aE)))else(aw.j0 k (U.length:Int) true U aA aD aE))
theorem aw.eC:∀k,(∀y0 y1 y2 y3 y4 y5,aJ (aw.j0 k y0 y1 y2 y3 y4 y5) (aw.j0 (k+1) y0 y1 y2 y3 y4 y5))∧(∀y0 y1 y2 y3 y4 y5 y6,aJ (aw.l0 k y0 y1 y2 y3 y4 y5 y6) (aw.l0 (k+1) y0 y1 y2 y3 y4 y5 y6))∧(∀y0 y1 y2 y3 y4 y5 y6 y7 y8 y9 wR wS,aJ (aw.j2 k y0 y1 y2 y3 y4 y5 y6 y7 y8 y9 wR wS) (aw.j2 (k+1) y0 y1 y2 y3 y4 y5 y6 y7 y8 y9 wR wS))∧(∀y0 y1 y2 y3 y4 y5 y6 y7 y8 y9 wR wS,aJ (aw.j3 k y0 y1 y2 y3 y4 y5 y6 y7 y8 y9 wR wS) (aw.j3 (k+1) y0 y1 y2 y3 y4 y5 y6 y7 y8 y9 wR wS))
 |0=>⟨fun _ _ _ _ _ _ r h=>by simp[aw.j0]at h,fun _ _ _ _ _ _ _ r h=>by simp[aw.l0]at h,fun _ _ _ _ _ _ _ _ _ _ _ _ r h=>by simp[aw.j2]at h,fun _ _ _ _ _ _ _ _ _ _ _ _ r h=>by simp[aw.j3]at h⟩
 |k+1=>by
  obtain⟨cj,ih1,ih2,ih3⟩:=aw.eC k
  refine⟨?_, ?_, ?_, ?_⟩<;>intros<;>first|unfold aw.j0|unfold aw.l0|unfold aw.j2|unfold aw.j3
  all_goals repeat' first
   |(with_reducible exact cj _ _ _ _ _ _)
   |(with_reducible exact ih1 _ _ _ _ _ _ _)
   |(with_reducible exact ih2 _ _ _ _ _ _ _ _ _ _ _ _)
   |(with_reducible exact ih3 _ _ _ _ _ _ _ _ _ _ _ _)
   |(with_reducible exact fa.mono _ _ _ _ _)
   |(with_reducible exact ib.mono _)
   |(with_reducible exact aJ.refl _)
   |(with_reducible exact aJ.none _)
   |(with_reducible refine aJ.ite ?_ ?_)
   |(with_reducible refine aJ.bind ?_ (fun _=> ?_))
   |exact cj _ _ _ _ _ _
   |exact ih1 _ _ _ _ _ _ _
   |exact ih2 _ _ _ _ _ _ _ _ _ _ _ _
   |exact ih3 _ _ _ _ _ _ _ _ _ _ _ _
   |exact fa.mono _ _ _ _ _
   |exact ib.mono _
   |exact aJ.none _
   |refine aJ.ite ?_ ?_
   |refine aJ.bind ?_ (fun _=> ?_)
theorem aw.mono:∀a0 a1 a2 a3 k,aJ (aw.f k a0 a1 a2 a3) (aw.f (k+1) a0 a1 a2 a3):=by
 intro a0 a1 a2 a3 k;obtain⟨cj,ih1,ih2,ih3⟩:=aw.eC k;unfold aw.f
 repeat' with_reducible first|exact cj _ _ _ _ _ _|exact ih1 _ _ _ _ _ _ _|exact ih2 _ _ _ _ _ _ _ _ _ _ _ _|exact ih3 _ _ _ _ _ _ _ _ _ _ _ _|exact fa.mono _ _ _ _ _|exact ib.mono _|exact aJ.refl _|exact aJ.none _|refine aJ.ite ?_ ?_|refine aJ.bind ?_ (fun _=> ?_)
def aw.T2:Bool×List (List Nat×List Nat):=(true,[([],[]),([0],[0]),([1],[1]),([2,1],[2]),([3],[3]),([4,3],[3,4]),([5,3,3],[3,5]),([6,3],[3,6]),([3,7],[3,7]),([8,6],[8]),([9],[9]),([10,9],[9,10]),([9],[9]),([12,9],[9,12]),([11,13,9,9],[9,11,13]),([14,9],[9,14]),([9,15],[9,15]),([16,14],[16]),([17],[17]),([18,17],[17,18]),([17],[17]),([20,17],[17,20]),([19,21,17],[17,19,21]),([17],[17]),([22,23,17],[17,22,23]),([17,24],[17,24]),([25,17],[25]),([26],[26]),([27,26],[26,27]),([26],[26]),([29,26],[26,29]),([26],[26]),([30,31,26],[26,30,31]),([32,26],[26,32]),([28,33,26],[26,28,33]),([26,34],[26,34])])
def aw.B2:List Nat:=[0,1,3,7,15,31,63,127,255,511,1023,2047,1023,5119,16383,32767,65535,131071,262143,524287,262143,1310719,4194303,262143,16777215,33554431,67108863,134217727,268435455,134217727,671088639,134217727,3892314111,8187281407,17179869183,34359738367]
theorem aw.rR:dt .any (gN Tryd.f23 2)=aw.T2:=by kernel_rfl
theorem aw.r7:fh aw.T2.2 aw.B2=true:=by kernel_rfl
def aw.T9:Bool×List (List Nat×List Nat):=(true,[([],[]),([0],[0]),([],[]),([],[]),([2,3],[2,3]),([1,4],[1,4]),([5],[5]),([],[]),([6,7],[6,7])])
def aw.B9:List Nat:=[0,1,0,0,12,31,63,0,255]
theorem aw.E8:dt .any (gN Tryd.f23 9)=aw.T9:=by kernel_rfl
theorem aw.Cw:fh aw.T9.2 aw.B9=true:=by kernel_rfl
def aw.FR:Bool×List (List Nat×List Nat):=(true,[([],[]),([0],[0]),([],[]),([],[]),([2,3],[2,3]),([1,4],[1,4]),([5],[5]),([],[]),([7,6,0,1,2,3,4,5,6,7],[6,7])])
def aw.B11:List Nat:=[0,1,0,0,12,31,63,0,255]
theorem aw.L4:dt .any (gN Tryd.f23 11)=aw.FR:=by kernel_rfl
theorem aw.KL:fh aw.FR.2 aw.B11=true:=by kernel_rfl
def aw.FS:Bool×List (List Nat×List Nat):=(true,[([],[]),([],[]),([1],[1]),([0,2],[0,2]),([3],[3]),([4],[4]),([4,4],[4]),([5,6,4],[4,5,6]),([4,7],[4,7])])
def aw.NL:List Nat:=[0,0,2,7,15,31,31,127,255]
theorem aw.Cx:dt .any (gN Tryd.f23 12)=aw.FS:=by kernel_rfl
theorem aw.CW:fh aw.FS.2 aw.NL=true:=by kernel_rfl
def aw.wT:Bool×List (List Nat×List Nat):=(true,[([],[]),([0],[0]),([1],[1]),([2,1],[2]),([3],[3]),([4,3],[3,4]),([3],[3]),([3],[3]),([6,7,3],[3,6,7]),([8,3],[3,8]),([5,9,3],[3,5,9]),([3,10],[3,10])])
def aw.FT:List Nat:=[0,1,3,7,15,31,15,15,207,463,1023,2047]
theorem aw.pP:dt .any (gN Tryd.f23 13)=aw.wT:=by kernel_rfl
theorem aw.pN:fh aw.wT.2 aw.FT=true:=by kernel_rfl
theorem aw.calls(k:Nat)(cf:Option Addr)(cA:Nat)(U:List (aK))(aA:Int)(aD:Int)(aE:Int)(r:Bool)(w:World)(iB:Kd.C bD w cf U.length U)(iC:U.length≤cA)(h:aw.f k U aA aD aE=some r):
 Calls aaf 23 #[.agg #[.slice cf U.length cA,.int .i64 aA,.int .i64 aD,.int .i64 aE]] w fun e w'=>e= .returned (.bool r)∧Below w.heap.size w w':=by
 have lP:=aac;have kH:=aan;have fl:=Ah iB;have iT:=Ah iC;clear iB iC;have HB:=Ah (aag w.heap.size w);have H:((eu.f (U.length:Int) 2 24).bind fun E6=>(if E6=true then((eu.f aA 0 10000000).bind fun E7=>(if E7=true then((eu.f aE 0 aA).bind fun t124=>(if t124=true then(if(F5 (aA-aE))>(U.length:Int)then(aw.j0 k (U.length:Int) true U aA aD aE)else(if(U.length:Int)=0 then(none)else(aw.j0 k (U.length:Int) (aD !=(F5 ((F5 (aQ aA (U.length:Int)))+1))) U aA aD aE)))else(aw.j0 k (U.length:Int) true U aA aD aE)))else(aw.j0 k (U.length:Int) true U aA aD aE)))else(aw.j0 k (U.length:Int) true U aA aD aE)))=some r:=h;clear h;have z6:=Ah H;clear H
 go_enter Tryd.func23,Tryd.ntmps23
 go_upto_region 2 with(first|((with_reducible refine bY (N:=1) rfl ?_);refine br 1 25 #[.slice cf U.length cA,.int .i64 aA,.int .i64 aD,.int .i64 aE] ?_;intro fI hg w3 ar hb;have GW121:=gw hg (bs HB);have gb:=gw hg (bs HB);replace HB:=Ah (aM (bs HB) hb);clear hb hg;obtain⟨R2,R3,R4,R5⟩:=aT ar;obtain⟨R6,R7,R8,R9⟩:=aU ar))
 (try simp only[Act.put,aab,aai,aaj])
 go_cut [45] (fun v45 wc=>∃ (kq:Nat) (H0:Bool),v45= .bool H0∧Z (aw.j0 kq (U.length:Int) H0 U aA aD aE=some r)∧Z (kq≤k)∧Z (wc.heap[fI]?=some (.cells #[(.slice cf U.length cA),.int .i64 aA,.int .i64 aD,.int .i64 aE] 25 (0,0)))∧Z (Below w.heap.size w wc))
 case first=>
  have H:=z6.out;clear z6;replace H:=Ok.mp H;obtain⟨E6,iy,H⟩:=H
  try dsimp only at H
  have A5:=Ah iy;clear iy
  by_cases c6:E6=true
  rotate_left
  ·
   replace c6:=iK.mpr c6;subst c6;rw[if_neg dM]at H;have H':=Ah H;clear H
   try go_wp2
   replace ar:=Ah (aZ ar.out);replace HB:=Ah (bc HB.out);refine dk (n:=36) (S:=fun w'=>True) (ds:=[]) #[false,false,false,false,false,false,false,false,false,false,false,false,false,false,false,false,false,false,false,false,false,false,false,false,false,false,false,false,false,false,false,false,false,false,false,false] (by kernel_rfl) rfl rfl trivial (fun hHeld=> ?_);refine dl aw.rR aw.r7 (fun I aq=> ?_)
   generalize w3.drew=z7 at ar HB hHeld⊢
   refine a8 0 10 I.out ?_;refine cK (i:=1) (N:=some 11) #[true,true,false,false,false,false,false,false,false,false,false,false,false,false,false,false,false,false,false,false,false,false,false,false,false,false,false,false,false,false,false,false,false,false,false,false] rfl rfl (bz I.out (by kernel_rfl)) (by decide) (fun K hK=> ?_);refine cZ aaP (by kernel_rfl) rfl #[.int .i64 (U.length:Int),.int .i64 2,.int .i64 24] (by rfl) rfl rfl (by(try simp only[fT,gJ,j5]);first|done|rfl|(simp only[fF,ca];rfl)) ?_
   with_reducible refine(eu.calls (U.length:Int) 2 24 false _ A5.out).mono ?_
   rintro e w' ⟨rfl,⟨nd,rfl⟩⟩;refine⟨_,rfl, ?_⟩;refine hK.out _ _ trivial (fun hHeld=> ?_);clear hK K;refine nq 11 ?_;refine a8 2 12 I.out ?_;refine a8 3 13 I.out ?_;refine aV 4 14 I.out ?_;refine aV 5 15 I.out ?_;refine aV 6 16 I.out ?_;refine aV 7 17 I.out ?_;refine a8 8 18 I.out ?_;refine a8 9 19 I.out ?_;refine aV 10 20 I.out ?_;refine aV 11 21 I.out ?_;refine aV 12 22 I.out ?_;refine aV 13 23 I.out ?_;refine aV 14 24 I.out ?_;refine aV 15 25 I.out ?_;refine a8 16 26 I.out ?_;refine a8 17 27 I.out ?_;refine aV 18 28 I.out ?_;refine aV 19 29 I.out ?_;refine aV 20 30 I.out ?_;refine aV 21 31 I.out ?_;refine aV 22 32 I.out ?_;refine aV 23 33 I.out ?_;refine aV 24 34 I.out ?_;refine a8 25 35 I.out ?_;refine a8 26 36 I.out ?_;refine aV 27 37 I.out ?_;refine aV 28 38 I.out ?_;refine aV 29 39 I.out ?_;refine aV 30 40 I.out ?_;refine aV 31 41 I.out ?_;refine aV 32 42 I.out ?_;refine aV 33 43 I.out ?_;refine aV 34 44 I.out ?_;refine a8 35 45 I.out ?_;refine dP (dW I.out (by kernel_rfl)) ?_
   try go_wp2
   go_meet
   case rel=>exact⟨_,(true),e3,H',⟨by first|omega|exact kV _⟩,⟨bk ar⟩,⟨aX HB gb⟩⟩
  subst c6;rw[if_pos rfl]at H;replace H:=Ok.mp H;obtain⟨E7,wU,H⟩:=H
  try dsimp only at H
  have A7:=Ah wU;clear wU
  by_cases c8:E7=true
  rotate_left
  ·
   replace c8:=iK.mpr c8;subst c8;rw[if_neg dM]at H;have H':=Ah H;clear H
   try go_wp2
   replace ar:=Ah (aZ ar.out);replace HB:=Ah (bc HB.out);refine dk (n:=36) (S:=fun w'=>w'.cell? ⟨fI,0,none⟩=some (.slice cf U.length cA)∧w'.cell? ⟨fI,1,none⟩=some (.int .i64 aA)∧w'.cell? ⟨fI,2,none⟩=some (.int .i64 aD)∧w'.cell? ⟨fI,3,none⟩=some (.int .i64 aE)) (ds:=[]) #[false,false,false,false,false,false,false,false,false,false,false,false,false,false,false,false,false,false,false,false,false,false,false,false,false,false,false,false,false,false,false,false,false,false,false,false] (by kernel_rfl) rfl rfl ⟨(Y ar.out 0).trans rfl,(Y ar.out 1).trans rfl,(Y ar.out 2).trans rfl,(Y ar.out 3).trans rfl⟩ (fun hHeld=> ?_);refine dl aw.rR aw.r7 (fun I aq=> ?_)
   generalize w3.drew=w16 at ar HB hHeld⊢
   refine a8 0 10 I.out ?_;refine cK (i:=1) (N:=some 11) #[true,true,false,false,false,false,false,false,false,false,false,false,false,false,false,false,false,false,false,false,false,false,false,false,false,false,false,false,false,false,false,false,false,false,false,false] rfl rfl (bz I.out (by kernel_rfl)) (by decide) (fun K hK=> ?_);refine cZ aaP (by kernel_rfl) rfl #[.int .i64 (U.length:Int),.int .i64 2,.int .i64 24] (by rfl) rfl rfl (by(try simp only[fT,gJ,j5]);first|done|rfl|(simp only[fF,ca];rfl)) ?_
   with_reducible refine(eu.calls (U.length:Int) 2 24 true _ A5.out).mono ?_
   rintro e w' ⟨rfl,⟨nd,rfl⟩⟩;refine⟨_,rfl, ?_⟩;refine hK.out _ _ ⟨(Y ar.out 0).trans rfl,(Y ar.out 1).trans rfl,(Y ar.out 2).trans rfl,(Y ar.out 3).trans rfl⟩ (fun hHeld=> ?_);clear hK K;refine nq 11 ?_;refine a8 2 12 I.out ?_;refine a8 3 13 I.out ?_;refine a8 4 14 I.out ?_;refine bM 5 15 I.out aq.out hHeld (hr:=by rintro w' ⟨s0,s1,s2,s3⟩;go_simp;with_reducible rfl) (h:= ?_);refine cK (i:=6) (N:=some 16) #[true,true,true,true,true,true,true,false,false,false,false,false,false,false,false,false,false,false,false,false,false,false,false,false,false,false,false,false,false,false,false,false,false,false,false,false] rfl rfl (bz I.out (by kernel_rfl)) (by decide) (fun K hK=> ?_);refine cZ aaP (by kernel_rfl) rfl #[.int .i64 aA,.int .i64 0,.int .i64 10000000] (by rfl) rfl rfl (by(try simp only[fT,gJ,j5]);first|done|rfl|(simp only[fF,ca];rfl)) ?_
   with_reducible refine(eu.calls aA 0 10000000 false _ A7.out).mono ?_
   rintro e w' ⟨rfl,⟨nd,rfl⟩⟩;refine⟨_,rfl, ?_⟩;refine hK.out _ _ ⟨(Y ar.out 0).trans rfl,(Y ar.out 1).trans rfl,(Y ar.out 2).trans rfl,(Y ar.out 3).trans rfl⟩ (fun hHeld=> ?_);clear hK K;refine nq 16 ?_;refine a8 7 17 I.out ?_;refine a8 8 18 I.out ?_;refine a8 9 19 I.out ?_;refine aV 10 20 I.out ?_;refine aV 11 21 I.out ?_;refine aV 12 22 I.out ?_;refine aV 13 23 I.out ?_;refine aV 14 24 I.out ?_;refine aV 15 25 I.out ?_;refine a8 16 26 I.out ?_;refine a8 17 27 I.out ?_;refine aV 18 28 I.out ?_;refine aV 19 29 I.out ?_;refine aV 20 30 I.out ?_;refine aV 21 31 I.out ?_;refine aV 22 32 I.out ?_;refine aV 23 33 I.out ?_;refine aV 24 34 I.out ?_;refine a8 25 35 I.out ?_;refine a8 26 36 I.out ?_;refine aV 27 37 I.out ?_;refine aV 28 38 I.out ?_;refine aV 29 39 I.out ?_;refine aV 30 40 I.out ?_;refine aV 31 41 I.out ?_;refine aV 32 42 I.out ?_;refine aV 33 43 I.out ?_;refine aV 34 44 I.out ?_;refine a8 35 45 I.out ?_;refine dP (dW I.out (by kernel_rfl)) ?_
   try go_wp2
   go_meet
   case rel=>exact⟨_,(true),e3,H',⟨by first|omega|exact kV _⟩,⟨bk ar⟩,⟨aX HB gb⟩⟩
  subst c8;rw[if_pos rfl]at H;replace H:=Ok.mp H;obtain⟨t124,pz,H⟩:=H
  try dsimp only at H
  have A9:=Ah pz;clear pz
  by_cases c10:t124=true
  rotate_left
  ·
   replace c10:=iK.mpr c10;subst c10;rw[if_neg dM]at H;have H':=Ah H;clear H
   try go_wp2
   replace ar:=Ah (aZ ar.out);replace HB:=Ah (bc HB.out);refine dk (n:=36) (S:=fun w'=>w'.cell? ⟨fI,0,none⟩=some (.slice cf U.length cA)∧w'.cell? ⟨fI,1,none⟩=some (.int .i64 aA)∧w'.cell? ⟨fI,2,none⟩=some (.int .i64 aD)∧w'.cell? ⟨fI,3,none⟩=some (.int .i64 aE)) (ds:=[]) #[false,false,false,false,false,false,false,false,false,false,false,false,false,false,false,false,false,false,false,false,false,false,false,false,false,false,false,false,false,false,false,false,false,false,false,false] (by kernel_rfl) rfl rfl ⟨(Y ar.out 0).trans rfl,(Y ar.out 1).trans rfl,(Y ar.out 2).trans rfl,(Y ar.out 3).trans rfl⟩ (fun hHeld=> ?_);refine dl aw.rR aw.r7 (fun I aq=> ?_)
   generalize w3.drew=rg at ar HB hHeld⊢
   refine a8 0 10 I.out ?_;refine cK (i:=1) (N:=some 11) #[true,true,false,false,false,false,false,false,false,false,false,false,false,false,false,false,false,false,false,false,false,false,false,false,false,false,false,false,false,false,false,false,false,false,false,false] rfl rfl (bz I.out (by kernel_rfl)) (by decide) (fun K hK=> ?_);refine cZ aaP (by kernel_rfl) rfl #[.int .i64 (U.length:Int),.int .i64 2,.int .i64 24] (by rfl) rfl rfl (by(try simp only[fT,gJ,j5]);first|done|rfl|(simp only[fF,ca];rfl)) ?_
   with_reducible refine(eu.calls (U.length:Int) 2 24 true _ A5.out).mono ?_
   rintro e w' ⟨rfl,⟨nd,rfl⟩⟩;refine⟨_,rfl, ?_⟩;refine hK.out _ _ ⟨(Y ar.out 0).trans rfl,(Y ar.out 1).trans rfl,(Y ar.out 2).trans rfl,(Y ar.out 3).trans rfl⟩ (fun hHeld=> ?_);clear hK K;refine nq 11 ?_;refine a8 2 12 I.out ?_;refine a8 3 13 I.out ?_;refine a8 4 14 I.out ?_;refine bM 5 15 I.out aq.out hHeld (hr:=by rintro w' ⟨s0,s1,s2,s3⟩;go_simp;with_reducible rfl) (h:= ?_);refine cK (i:=6) (N:=some 16) #[true,true,true,true,true,true,true,false,false,false,false,false,false,false,false,false,false,false,false,false,false,false,false,false,false,false,false,false,false,false,false,false,false,false,false,false] rfl rfl (bz I.out (by kernel_rfl)) (by decide) (fun K hK=> ?_);refine cZ aaP (by kernel_rfl) rfl #[.int .i64 aA,.int .i64 0,.int .i64 10000000] (by rfl) rfl rfl (by(try simp only[fT,gJ,j5]);first|done|rfl|(simp only[fF,ca];rfl)) ?_
   with_reducible refine(eu.calls aA 0 10000000 true _ A7.out).mono ?_
   rintro e w' ⟨rfl,⟨nd,rfl⟩⟩;refine⟨_,rfl, ?_⟩;refine hK.out _ _ ⟨(Y ar.out 0).trans rfl,(Y ar.out 1).trans rfl,(Y ar.out 2).trans rfl,(Y ar.out 3).trans rfl⟩ (fun hHeld=> ?_);clear hK K;refine nq 16 ?_;refine a8 7 17 I.out ?_;refine a8 8 18 I.out ?_;refine a8 9 19 I.out ?_;refine a8 10 20 I.out ?_;refine a8 12 22 I.out ?_;refine bM 11 21 I.out aq.out hHeld (hr:=by rintro w' ⟨s0,s1,s2,s3⟩;go_simp;with_reducible rfl) (h:= ?_);refine bM 13 23 I.out aq.out hHeld (hr:=by rintro w' ⟨s0,s1,s2,s3⟩;go_simp;with_reducible rfl) (h:= ?_);refine cK (i:=14) (N:=some 24) #[true,true,true,true,true,true,true,true,true,true,true,true,true,true,true,false,false,false,false,false,false,false,false,false,false,false,false,false,false,false,false,false,false,false,false,false] rfl rfl (bz I.out (by kernel_rfl)) (by decide) (fun K hK=> ?_);refine cZ Tryd.func33 (by kernel_rfl) rfl #[.int .i64 aE,.int .i64 0,.int .i64 aA] (by rfl) rfl rfl (by(try simp only[List.map_toArray,List.map_cons,List.map_nil]);first|done|rfl|(simp only[List.length_drop,List.length_take];rfl)) ?_
   with_reducible refine(eu.calls aE 0 aA false _ A9.out).mono ?_
   rintro e w' ⟨rfl,⟨nd,rfl⟩⟩;refine⟨_,rfl, ?_⟩;refine hK.out _ _ ⟨(Y ar.out 0).trans rfl,(Y ar.out 1).trans rfl,(Y ar.out 2).trans rfl,(Y ar.out 3).trans rfl⟩ (fun hHeld=> ?_);clear hK K;refine nq 24 ?_;refine a8 15 25 I.out ?_;refine a8 16 26 I.out ?_;refine a8 17 27 I.out ?_;refine aV 18 28 I.out ?_;refine aV 19 29 I.out ?_;refine aV 20 30 I.out ?_;refine aV 21 31 I.out ?_;refine aV 22 32 I.out ?_;refine aV 23 33 I.out ?_;refine aV 24 34 I.out ?_;refine a8 25 35 I.out ?_;refine a8 26 36 I.out ?_;refine aV 27 37 I.out ?_;refine aV 28 38 I.out ?_;refine aV 29 39 I.out ?_;refine aV 30 40 I.out ?_;refine aV 31 41 I.out ?_;refine aV 32 42 I.out ?_;refine aV 33 43 I.out ?_;refine aV 34 44 I.out ?_;refine a8 35 45 I.out ?_;refine dP (dW I.out (by kernel_rfl)) ?_
   try go_wp2
   go_meet
   case rel=>exact⟨_,(true),e3,H',⟨by first|omega|exact kV _⟩,⟨bk ar⟩,⟨aX HB gb⟩⟩
  subst c10;rw[if_pos rfl]at H
  by_cases c11:(F5 (aA-aE))>(U.length:Int)
  ·
   rw[if_pos c11]at H;have lu:=bV c11;clear c11;(first|rw[lu]|(simp only[fx,gg];rw[lu])|(simp only[Ry,aaD,aaF])|skip);have H':=Ah H;clear H
   try go_wp2
   replace ar:=Ah (aZ ar.out);replace HB:=Ah (bc HB.out);refine dk (n:=36) (S:=fun w'=>w'.cell? ⟨fI,0,none⟩=some (.slice cf U.length cA)∧w'.cell? ⟨fI,1,none⟩=some (.int .i64 aA)∧w'.cell? ⟨fI,2,none⟩=some (.int .i64 aD)∧w'.cell? ⟨fI,3,none⟩=some (.int .i64 aE)) (ds:=[]) #[false,false,false,false,false,false,false,false,false,false,false,false,false,false,false,false,false,false,false,false,false,false,false,false,false,false,false,false,false,false,false,false,false,false,false,false] (by kernel_rfl) rfl rfl ⟨(Y ar.out 0).trans rfl,(Y ar.out 1).trans rfl,(Y ar.out 2).trans rfl,(Y ar.out 3).trans rfl⟩ (fun hHeld=> ?_);refine dl aw.rR aw.r7 (fun I aq=> ?_)
   generalize w3.drew=mU at ar HB hHeld⊢
   refine a8 0 10 I.out ?_;refine cK (i:=1) (N:=some 11) #[true,true,false,false,false,false,false,false,false,false,false,false,false,false,false,false,false,false,false,false,false,false,false,false,false,false,false,false,false,false,false,false,false,false,false,false] rfl rfl (bz I.out (by kernel_rfl)) (by decide) (fun K hK=> ?_);refine cZ aaP (by kernel_rfl) rfl #[.int .i64 (U.length:Int),.int .i64 2,.int .i64 24] (by rfl) rfl rfl (by(try simp only[fT,gJ,j5]);first|done|rfl|(simp only[fF,ca];rfl)) ?_
   with_reducible refine(eu.calls (U.length:Int) 2 24 true _ A5.out).mono ?_
   rintro e w' ⟨rfl,⟨nd,rfl⟩⟩;refine⟨_,rfl, ?_⟩;refine hK.out _ _ ⟨(Y ar.out 0).trans rfl,(Y ar.out 1).trans rfl,(Y ar.out 2).trans rfl,(Y ar.out 3).trans rfl⟩ (fun hHeld=> ?_);clear hK K;refine nq 11 ?_;refine a8 2 12 I.out ?_;refine a8 3 13 I.out ?_;refine a8 4 14 I.out ?_;refine bM 5 15 I.out aq.out hHeld (hr:=by rintro w' ⟨s0,s1,s2,s3⟩;go_simp;with_reducible rfl) (h:= ?_);refine cK (i:=6) (N:=some 16) #[true,true,true,true,true,true,true,false,false,false,false,false,false,false,false,false,false,false,false,false,false,false,false,false,false,false,false,false,false,false,false,false,false,false,false,false] rfl rfl (bz I.out (by kernel_rfl)) (by decide) (fun K hK=> ?_);refine cZ aaP (by kernel_rfl) rfl #[.int .i64 aA,.int .i64 0,.int .i64 10000000] (by rfl) rfl rfl (by(try simp only[fT,gJ,j5]);first|done|rfl|(simp only[fF,ca];rfl)) ?_
   with_reducible refine(eu.calls aA 0 10000000 true _ A7.out).mono ?_
   rintro e w' ⟨rfl,⟨nd,rfl⟩⟩;refine⟨_,rfl, ?_⟩;refine hK.out _ _ ⟨(Y ar.out 0).trans rfl,(Y ar.out 1).trans rfl,(Y ar.out 2).trans rfl,(Y ar.out 3).trans rfl⟩ (fun hHeld=> ?_);clear hK K;refine nq 16 ?_;refine a8 7 17 I.out ?_;refine a8 8 18 I.out ?_;refine a8 9 19 I.out ?_;refine a8 10 20 I.out ?_;refine a8 12 22 I.out ?_;refine bM 11 21 I.out aq.out hHeld (hr:=by rintro w' ⟨s0,s1,s2,s3⟩;go_simp;with_reducible rfl) (h:= ?_);refine bM 13 23 I.out aq.out hHeld (hr:=by rintro w' ⟨s0,s1,s2,s3⟩;go_simp;with_reducible rfl) (h:= ?_);refine cK (i:=14) (N:=some 24) #[true,true,true,true,true,true,true,true,true,true,true,true,true,true,true,false,false,false,false,false,false,false,false,false,false,false,false,false,false,false,false,false,false,false,false,false] rfl rfl (bz I.out (by kernel_rfl)) (by decide) (fun K hK=> ?_);refine cZ Tryd.func33 (by kernel_rfl) rfl #[.int .i64 aE,.int .i64 0,.int .i64 aA] (by rfl) rfl rfl (by(try simp only[List.map_toArray,List.map_cons,List.map_nil]);first|done|rfl|(simp only[List.length_drop,List.length_take];rfl)) ?_
   with_reducible refine(eu.calls aE 0 aA true _ A9.out).mono ?_
   rintro e w' ⟨rfl,⟨nd,rfl⟩⟩;refine⟨_,rfl, ?_⟩;refine hK.out _ _ ⟨(Y ar.out 0).trans rfl,(Y ar.out 1).trans rfl,(Y ar.out 2).trans rfl,(Y ar.out 3).trans rfl⟩ (fun hHeld=> ?_);clear hK K;refine nq 24 ?_;refine a8 15 25 I.out ?_;refine a8 16 26 I.out ?_;refine a8 17 27 I.out ?_;refine a8 18 28 I.out ?_;refine a8 20 30 I.out ?_;refine a8 23 33 I.out ?_;refine bM 19 29 I.out aq.out hHeld (hr:=by rintro w' ⟨s0,s1,s2,s3⟩;go_simp;with_reducible rfl) (h:= ?_);refine bM 21 31 I.out aq.out hHeld (hr:=by rintro w' ⟨s0,s1,s2,s3⟩;go_simp;with_reducible rfl) (h:= ?_);refine a8 22 32 I.out ?_;refine a8 24 34 I.out ?_;refine a8 25 35 I.out ?_;refine a8 26 36 I.out ?_;refine aV 27 37 I.out ?_;refine aV 28 38 I.out ?_;refine aV 29 39 I.out ?_;refine aV 30 40 I.out ?_;refine aV 31 41 I.out ?_;refine aV 32 42 I.out ?_;refine aV 33 43 I.out ?_;refine aV 34 44 I.out ?_;refine a8 35 45 I.out ?_;refine dP (dW I.out (by kernel_rfl)) ?_
   try go_wp2
   go_meet
   case rel=>exact⟨_,(true),e3,H',⟨by first|omega|exact kV _⟩,⟨bk ar⟩,⟨aX HB gb⟩⟩
  rw[if_neg c11]at H;have lu:=ev c11;clear c11;(first|rw[lu]|(simp only[fx,gg];rw[lu])|(simp only[Ry,aaD,aaF])|skip)
  by_cases c13:(U.length:Int)=0
  ·
   rw[if_pos c13]at H;exact absurd H (by simp)
  rw[if_neg c13]at H;have Rz:=g9 c13;have a3i:=gA c13
  have c13b2:¬(U=[]):=fun h_=>c13 (by rw[h_];rfl)
  have H':=Ah H;clear H
  try go_wp2
  replace ar:=Ah (aZ ar.out);replace HB:=Ah (bc HB.out);refine dk (n:=36) (S:=fun w'=>w'.cell? ⟨fI,0,none⟩=some (.slice cf U.length cA)∧w'.cell? ⟨fI,1,none⟩=some (.int .i64 aA)∧w'.cell? ⟨fI,2,none⟩=some (.int .i64 aD)∧w'.cell? ⟨fI,3,none⟩=some (.int .i64 aE)) (ds:=[]) #[false,false,false,false,false,false,false,false,false,false,false,false,false,false,false,false,false,false,false,false,false,false,false,false,false,false,false,false,false,false,false,false,false,false,false,false] (by kernel_rfl) rfl rfl ⟨(Y ar.out 0).trans rfl,(Y ar.out 1).trans rfl,(Y ar.out 2).trans rfl,(Y ar.out 3).trans rfl⟩ (fun hHeld=> ?_);refine dl aw.rR aw.r7 (fun I aq=> ?_)
  generalize w3.drew=kP at ar HB hHeld⊢
  refine a8 0 10 I.out ?_;refine cK (i:=1) (N:=some 11) #[true,true,false,false,false,false,false,false,false,false,false,false,false,false,false,false,false,false,false,false,false,false,false,false,false,false,false,false,false,false,false,false,false,false,false,false] rfl rfl (bz I.out (by kernel_rfl)) (by decide) (fun K hK=> ?_);refine cZ aaP (by kernel_rfl) rfl #[.int .i64 (U.length:Int),.int .i64 2,.int .i64 24] (by rfl) rfl rfl (by(try simp only[fT,gJ,j5]);first|done|rfl|(simp only[fF,ca];rfl)) ?_
  with_reducible refine(eu.calls (U.length:Int) 2 24 true _ A5.out).mono ?_
  rintro e w' ⟨rfl,⟨nd,rfl⟩⟩;refine⟨_,rfl, ?_⟩;refine hK.out _ _ ⟨(Y ar.out 0).trans rfl,(Y ar.out 1).trans rfl,(Y ar.out 2).trans rfl,(Y ar.out 3).trans rfl⟩ (fun hHeld=> ?_);clear hK K;refine nq 11 ?_;refine a8 2 12 I.out ?_;refine a8 3 13 I.out ?_;refine a8 4 14 I.out ?_;refine bM 5 15 I.out aq.out hHeld (hr:=by rintro w' ⟨s0,s1,s2,s3⟩;go_simp;with_reducible rfl) (h:= ?_);refine cK (i:=6) (N:=some 16) #[true,true,true,true,true,true,true,false,false,false,false,false,false,false,false,false,false,false,false,false,false,false,false,false,false,false,false,false,false,false,false,false,false,false,false,false] rfl rfl (bz I.out (by kernel_rfl)) (by decide) (fun K hK=> ?_);refine cZ aaP (by kernel_rfl) rfl #[.int .i64 aA,.int .i64 0,.int .i64 10000000] (by rfl) rfl rfl (by(try simp only[fT,gJ,j5]);first|done|rfl|(simp only[fF,ca];rfl)) ?_
  with_reducible refine(eu.calls aA 0 10000000 true _ A7.out).mono ?_
  rintro e w' ⟨rfl,⟨nd,rfl⟩⟩;refine⟨_,rfl, ?_⟩;refine hK.out _ _ ⟨(Y ar.out 0).trans rfl,(Y ar.out 1).trans rfl,(Y ar.out 2).trans rfl,(Y ar.out 3).trans rfl⟩ (fun hHeld=> ?_);clear hK K;refine nq 16 ?_;refine a8 7 17 I.out ?_;refine a8 8 18 I.out ?_;refine a8 9 19 I.out ?_;refine a8 10 20 I.out ?_;refine a8 12 22 I.out ?_;refine bM 11 21 I.out aq.out hHeld (hr:=by rintro w' ⟨s0,s1,s2,s3⟩;go_simp;with_reducible rfl) (h:= ?_);refine bM 13 23 I.out aq.out hHeld (hr:=by rintro w' ⟨s0,s1,s2,s3⟩;go_simp;with_reducible rfl) (h:= ?_);refine cK (i:=14) (N:=some 24) #[true,true,true,true,true,true,true,true,true,true,true,true,true,true,true,false,false,false,false,false,false,false,false,false,false,false,false,false,false,false,false,false,false,false,false,false] rfl rfl (bz I.out (by kernel_rfl)) (by decide) (fun K hK=> ?_);refine cZ Tryd.func33 (by kernel_rfl) rfl #[.int .i64 aE,.int .i64 0,.int .i64 aA] (by rfl) rfl rfl (by(try simp only[List.map_toArray,List.map_cons,List.map_nil]);first|done|rfl|(simp only[List.length_drop,List.length_take];rfl)) ?_
  with_reducible refine(eu.calls aE 0 aA true _ A9.out).mono ?_
  rintro e w' ⟨rfl,⟨nd,rfl⟩⟩;refine⟨_,rfl, ?_⟩;refine hK.out _ _ ⟨(Y ar.out 0).trans rfl,(Y ar.out 1).trans rfl,(Y ar.out 2).trans rfl,(Y ar.out 3).trans rfl⟩ (fun hHeld=> ?_);clear hK K;refine nq 24 ?_;refine a8 15 25 I.out ?_;refine a8 16 26 I.out ?_;refine a8 17 27 I.out ?_;refine a8 18 28 I.out ?_;refine a8 20 30 I.out ?_;refine a8 23 33 I.out ?_;refine bM 19 29 I.out aq.out hHeld (hr:=by rintro w' ⟨s0,s1,s2,s3⟩;go_simp;with_reducible rfl) (h:= ?_);refine bM 21 31 I.out aq.out hHeld (hr:=by rintro w' ⟨s0,s1,s2,s3⟩;go_simp;with_reducible rfl) (h:= ?_);refine a8 22 32 I.out ?_;refine a8 24 34 I.out ?_;refine a8 25 35 I.out ?_;refine a8 26 36 I.out ?_;refine a8 27 37 I.out ?_;refine a8 29 39 I.out ?_;refine a8 31 41 I.out ?_;refine bM 28 38 I.out aq.out hHeld (hr:=by rintro w' ⟨s0,s1,s2,s3⟩;go_simp;with_reducible rfl) (h:= ?_);refine bM 30 40 I.out aq.out hHeld (hr:=by rintro w' ⟨s0,s1,s2,s3⟩;go_simp;with_reducible rfl) (h:= ?_);refine a8 32 42 I.out ?_;refine a8 33 43 I.out ?_;refine a8 34 44 I.out ?_;refine a8 35 45 I.out ?_;refine dP (dW I.out (by kernel_rfl)) ?_
  try go_wp2
  go_meet
  case rel=>exact⟨_,((aD !=(F5 ((F5 (aQ aA (U.length:Int)))+1)))),e3,H',⟨by first|omega|exact kV _⟩,⟨bk ar⟩,⟨aX HB gb⟩⟩
 case rest=>
  clear z6
  try clear p2
  try clear c3
  try clear c6
  try clear c8
  obtain⟨kq,H0,rfl,HA,kQ,ar,HB⟩:=hcut
  cases kq with
  |zero=>exact absurd HA.out (by simp[aw.j0])
  |succ FU=>
   have H:=HA.out;clear HA;simp only[aw.j0]at H
   by_cases c18:H0=true
   ·
    subst c18;rw[if_pos rfl]at H;obtain rfl:=qE H
    go_wp2
    go_ret
    exact⟨er,aX HB gb⟩
   replace c18:=iK.mpr c18;subst c18;rw[if_neg dM]at H;have H':=Ah H;clear H;obtain⟨qT,qU,qV,qW⟩:=aT ar;obtain⟨qX,qY,qZ,qa⟩:=aU ar
   go_wp2
   go_loopg [4,5] FU (fun kq v4 v5 w'=>∃ (jC:Int) (fN:Int),v4= .int .i64 jC∧v5= .int .i64 fN∧Z (aw.l0 kq (U.length:Int) jC fN U aA aD aE=some r)∧Z (kq≤FU)∧Z (w'.heap[fI]?=some (.cells #[(.slice cf U.length cA),.int .i64 aA,.int .i64 aD,.int .i64 aE] 25 (0,0)))∧Z (Below w.heap.size w w'))
   case atStart=>exact⟨(0),(F5 (aA-(U.length:Int))),e3,e3,H',⟨kV _⟩,⟨bk ar⟩,⟨aX HB gb⟩⟩
   case round=>
    clear H'
    try clear c1
    try clear p2
    try clear c3
    try clear c6
    try clear p6
    try clear c8
    try clear c18
    try clear qT qU qV qW
    try clear qX qY qZ qa
    try clear p2
    obtain⟨jC,fN,rfl,rfl,HA,fp,ar,HB⟩:=hrel
    cases gk with
    |zero=>exact absurd HA.out (by simp[aw.l0])
    |succ k2=>
     have H:=HA.out;clear HA;simp only[aw.l0]at H
     by_cases c20:fN<aA
     rotate_left
     ·
      rw[if_neg c20]at H;have AN:=ev c20;clear c20;obtain rfl:=qE H;obtain⟨hcz75_0,hcz75_1,hcz75_2,hcz75_3⟩:=aT ar;obtain⟨hfz75_0,hfz75_1,hfz75_2,hfz75_3⟩:=aU ar
      go_wp2
      go_ret
      exact⟨er,aX HB gb⟩
     rw[if_pos c20]at H;have AN:=bV c20;clear c20
     by_cases c21:fN<0
     ·
      rw[if_pos c21]at H;have H1:=bV c21;clear c21;obtain⟨eT,H2⟩:∃j_:Int,(F5 (fN+(U.length:Int)))=j_:=⟨_,rfl⟩
      replace H:(if 0≤(eT)then(if(eT)<(U.length:Int)then((ib.f k2).bind fun tC=>(if(!(((J U (eT)).f0)==tC.1)||(!(((J U (eT)).f1)==tC.2.1)||(!((((J U (eT)).f2).toList)==tC.2.2.1.toList)||(!(((J U (eT)).f3)==tC.2.2.2)))))=true then(some false)else(aw.l0 k2 (U.length:Int) jC (F5 (fN+1)) U aA aD aE)))else(none))else(none))=some r:=by first|(rw[H2]at H;exact H)|(simp only[H2]at H⊢;exact H)
      have hji22w:(IntKind.i64.wrap (fN+(U.length:Int)))=eT:=(fx _).trans H2
      by_cases c23:0≤(eT)
      rotate_left
      ·
       rw[if_neg c23]at H;exact absurd H (by simp)
      rw[if_pos c23]at H;have a3j:=bV c23;clear c23
      by_cases c24:(eT)<(U.length:Int)
      rotate_left
      ·
       rw[if_neg c24]at H;exact absurd H (by simp)
      rw[if_pos c24]at H;have S0:=bV c24;clear c24;replace H:=Ok.mp H;obtain⟨⟨E9,t127,EA,EB⟩,U3,H⟩:=H
      try dsimp only at H
      have Vq:=Ah U3;clear U3
      by_cases iY:(!(((J U (eT)).f0)==E9)||(!(((J U (eT)).f1)==t127)||(!((((J U (eT)).f2).toList)==EA.toList)||(!(((J U (eT)).f3)==EB)))))=true
      ·
       rw[if_pos iY]at H;have H3:(!(((J U (eT)).f0)==E9)||(!(((J U (eT)).f1)==t127)||(!((((J U (eT)).f2).toList)==EA.toList)||(!(((J U (eT)).f3)==EB)))))=true:=iY;clear iY;obtain rfl:=qE H;obtain⟨hcz27_0,hcz27_1,hcz27_2,hcz27_3⟩:=aT ar;obtain⟨hfz27_0,hfz27_1,hfz27_2,hfz27_3⟩:=aU ar
       try go_wp2
       replace ar:=Ah (aZ ar.out);replace HB:=Ah (bc HB.out);have tZ:0≤((eT):Int):=od;have ta:(eT)<(U.length:Int):=od;obtain⟨l5,e125,pA,pB,pC,pD⟩:=fW fl.out (eT) tZ ta;have sH:=pD;have sI:=pC;have sJ:=pB;have sK:=pA
       cases e125
       replace pA:=hq HB pA;replace pB:=hq HB pB;replace pC:=hq HB pC;replace pD:=hq HB pD;replace tZ:=eq_true tZ;replace ta:=eq_true ta;refine dk (n:=9) (S:=fun w'=>w'.cell? ⟨fI,0,none⟩=some (.slice (some l5) U.length cA)∧w'.cell? ⟨fI,1,none⟩=some (.int .i64 aA)∧w'.cell? ⟨fI,2,none⟩=some (.int .i64 aD)∧w'.cell? ⟨fI,3,none⟩=some (.int .i64 aE)∧w'.cell? (l5.add (((eT)).toNat*4))=some (.int .i64 ((J U (eT)).f0))∧w'.cell? ⟨(l5.add (((eT)).toNat*4)).block,(l5.add (((eT)).toNat*4)).off+1,none⟩=some (.int .i64 ((J U (eT)).f1))∧w'.cell? ⟨(l5.add (((eT)).toNat*4)).block,(l5.add (((eT)).toNat*4)).off+2,none⟩=some (.string ((J U (eT)).f2))∧w'.cell? ⟨(l5.add (((eT)).toNat*4)).block,(l5.add (((eT)).toNat*4)).off+3,none⟩=some (.int .i64 ((J U (eT)).f3))) (ds:=[]) #[false,false,false,false,false,false,false,false,false] (by kernel_rfl) rfl rfl ⟨(Y ar.out 0).trans rfl,(Y ar.out 1).trans rfl,(Y ar.out 2).trans rfl,(Y ar.out 3).trans rfl,((HB.out.cell (Fe w _ sK)).trans sK),((HB.out.cell (Fe w _ sJ)).trans sJ),((HB.out.cell (Fe w _ sI)).trans sI),((HB.out.cell (Fe w _ sH)).trans sH)⟩ (fun hHeld=> ?_);refine dl aw.E8 aw.Cw (fun I aq=> ?_)
       generalize wr.drew=NM at ar HB pA pB pC pD hHeld⊢
       refine a8 0 58 I.out ?_;refine a8 2 60 I.out ?_;refine a8 3 61 I.out ?_;refine a8 4 62 I.out ?_;refine bM 1 59 I.out aq.out hHeld (hr:=by rintro w' ⟨s0,s1,s2,s3,s4,s5,s6,s7⟩;go_simp;with_reducible rfl) (h:= ?_);refine a8 5 63 I.out ?_;refine bM 6 64 I.out aq.out hHeld (hr:=by rintro w' ⟨s0,s1,s2,s3,s4,s5,s6,s7⟩;go_simp;with_reducible rfl) (h:= ?_);refine cK (i:=7) (N:=some 65) #[true,true,true,true,true,true,true,true,false] rfl rfl (bz I.out (by kernel_rfl)) (by decide) (fun K hK=> ?_);refine cZ Tryd.func41 (by kernel_rfl) rfl #[] (by rfl) rfl rfl (by(try simp only[List.map_toArray,List.map_cons,List.map_nil]);first|done|rfl|(simp only[List.length_drop,List.length_take];rfl)) ?_
       with_reducible refine(ib.calls k2 E9 t127 EA EB _ Vq.out).mono ?_
       rintro e F8 ⟨rfl,hb⟩;refine⟨_,rfl, ?_⟩;replace ar:=Ah (bb ar hb);replace HB:=Ah (aM (aX HB gb) hb);(try clear hb);(try clear hb2);(try clear hk);(try clear hi);refine hK.out _ _ ⟨(Y ar.out 0).trans rfl,(Y ar.out 1).trans rfl,(Y ar.out 2).trans rfl,(Y ar.out 3).trans rfl,((HB.out.cell (Fe w _ sK)).trans sK),((HB.out.cell (Fe w _ sJ)).trans sJ),((HB.out.cell (Fe w _ sI)).trans sI),((HB.out.cell (Fe w _ sH)).trans sH)⟩ (fun hHeld=> ?_);clear hK K;refine nq 65 ?_;refine a8 8 66 I.out ?_;refine dP (dW I.out (by kernel_rfl)) ?_
       try go_wp2
       go_ret
       exact⟨by first|rfl|(simp[cH,cI]<;>rfl)|(simp only[←H2];first|rfl|(simp[cH,cI]<;>rfl))|(simp[*,cH,cI]<;>rfl),aX HB gb⟩
      rw[if_neg iY]at H
      have H3:(!(((J U (eT)).f0)==E9)||(!(((J U (eT)).f1)==t127)||(!((((J U (eT)).f2).toList)==EA.toList)||(!(((J U (eT)).f3)==EB)))))=false:=by simpa using iY
      clear iY;have H':=Ah H;clear H;obtain⟨JZ,Ja,Jb,Jc⟩:=aT ar;obtain⟨Jd,Je,Jf,Jg⟩:=aU ar
      try go_wp2
      replace ar:=Ah (aZ ar.out);replace HB:=Ah (bc HB.out);have tZ:0≤((eT):Int):=od;have ta:(eT)<(U.length:Int):=od;obtain⟨l5,e125,pA,pB,pC,pD⟩:=fW fl.out (eT) tZ ta;have sH:=pD;have sI:=pC;have sJ:=pB;have sK:=pA
      cases e125
      replace pA:=hq HB pA;replace pB:=hq HB pB;replace pC:=hq HB pC;replace pD:=hq HB pD;replace tZ:=eq_true tZ;replace ta:=eq_true ta;refine dk (n:=9) (S:=fun w'=>w'.cell? ⟨fI,0,none⟩=some (.slice (some l5) U.length cA)∧w'.cell? ⟨fI,1,none⟩=some (.int .i64 aA)∧w'.cell? ⟨fI,2,none⟩=some (.int .i64 aD)∧w'.cell? ⟨fI,3,none⟩=some (.int .i64 aE)∧w'.cell? (l5.add (((eT)).toNat*4))=some (.int .i64 ((J U (eT)).f0))∧w'.cell? ⟨(l5.add (((eT)).toNat*4)).block,(l5.add (((eT)).toNat*4)).off+1,none⟩=some (.int .i64 ((J U (eT)).f1))∧w'.cell? ⟨(l5.add (((eT)).toNat*4)).block,(l5.add (((eT)).toNat*4)).off+2,none⟩=some (.string ((J U (eT)).f2))∧w'.cell? ⟨(l5.add (((eT)).toNat*4)).block,(l5.add (((eT)).toNat*4)).off+3,none⟩=some (.int .i64 ((J U (eT)).f3))) (ds:=[]) #[false,false,false,false,false,false,false,false,false] (by kernel_rfl) rfl rfl ⟨(Y ar.out 0).trans rfl,(Y ar.out 1).trans rfl,(Y ar.out 2).trans rfl,(Y ar.out 3).trans rfl,((HB.out.cell (Fe w _ sK)).trans sK),((HB.out.cell (Fe w _ sJ)).trans sJ),((HB.out.cell (Fe w _ sI)).trans sI),((HB.out.cell (Fe w _ sH)).trans sH)⟩ (fun hHeld=> ?_);refine dl aw.E8 aw.Cw (fun I aq=> ?_)
      generalize wr.drew=Vr at ar HB pA pB pC pD hHeld⊢
      refine a8 0 58 I.out ?_;refine a8 2 60 I.out ?_;refine a8 3 61 I.out ?_;refine a8 4 62 I.out ?_;refine bM 1 59 I.out aq.out hHeld (hr:=by rintro w' ⟨s0,s1,s2,s3,s4,s5,s6,s7⟩;go_simp;with_reducible rfl) (h:= ?_);refine a8 5 63 I.out ?_;refine bM 6 64 I.out aq.out hHeld (hr:=by rintro w' ⟨s0,s1,s2,s3,s4,s5,s6,s7⟩;go_simp;with_reducible rfl) (h:= ?_);refine cK (i:=7) (N:=some 65) #[true,true,true,true,true,true,true,true,false] rfl rfl (bz I.out (by kernel_rfl)) (by decide) (fun K hK=> ?_);refine cZ Tryd.func41 (by kernel_rfl) rfl #[] (by rfl) rfl rfl (by(try simp only[List.map_toArray,List.map_cons,List.map_nil]);first|done|rfl|(simp only[List.length_drop,List.length_take];rfl)) ?_
      with_reducible refine(ib.calls k2 E9 t127 EA EB _ Vq.out).mono ?_
      rintro e w32 ⟨rfl,hb⟩;refine⟨_,rfl, ?_⟩;replace ar:=Ah (bb ar hb);replace HB:=Ah (aM (aX HB gb) hb);(try clear hb);(try clear hb2);(try clear hk);(try clear hi);refine hK.out _ _ ⟨(Y ar.out 0).trans rfl,(Y ar.out 1).trans rfl,(Y ar.out 2).trans rfl,(Y ar.out 3).trans rfl,((HB.out.cell (Fe w _ sK)).trans sK),((HB.out.cell (Fe w _ sJ)).trans sJ),((HB.out.cell (Fe w _ sI)).trans sI),((HB.out.cell (Fe w _ sH)).trans sH)⟩ (fun hHeld=> ?_);clear hK K;refine nq 65 ?_;refine a8 8 66 I.out ?_;refine dP (dW I.out (by kernel_rfl)) ?_
      try go_wp2
      go_roundg k2
      case measure=>have:=kQ.out;have:=fp.out;omega
      case rel=>exact⟨(jC),(F5 (fN+1)),e3,e3,H',⟨by have:=kQ.out;have:=fp.out;omega⟩,⟨bk ar⟩,⟨aX HB gb⟩⟩
     rw[if_neg c21]at H;have H1:=ev c21;clear c21
     by_cases kR:(U.length:Int)=0
     ·
      rw[if_pos kR]at H;exact absurd H (by simp)
     rw[if_neg kR]at H;have H4:=g9 kR;have S1:=gA kR
     have S3:¬(U=[]):=fun h_=>kR (by rw[h_];rfl)
     obtain⟨bS,pQ⟩:∃j_:Int,(GW fN (U.length:Int))=j_:=⟨_,rfl⟩
     replace H:(if 0≤(bS)then(if(bS)<(U.length:Int)then(if fN<aE then((ib.f k2).bind fun tD=>(aw.j2 k2 (U.length:Int) jC fN (((J U (bS)).f0)==tD.1&& (((J U (bS)).f1)==tD.2.1&& ((((J U (bS)).f2).toList)==tD.2.2.1.toList&& (((J U (bS)).f3)==tD.2.2.2)))) U aA aD aE ((J U (bS)).f0) ((J U (bS)).f1) ((J U (bS)).f2) ((J U (bS)).f3)))else(aw.j2 k2 (U.length:Int) jC fN false U aA aD aE ((J U (bS)).f0) ((J U (bS)).f1) ((J U (bS)).f2) ((J U (bS)).f3)))else(none))else(none))=some r:=by first|(rw[pQ]at H;exact H)|(simp only[pQ]at H⊢;exact H)
     by_cases lZ:0≤(bS)
     rotate_left
     ·
      rw[if_neg lZ]at H;exact absurd H (by simp)
     rw[if_pos lZ]at H;have H5:=bV lZ;clear lZ
     by_cases wV:(bS)<(U.length:Int)
     rotate_left
     ·
      rw[if_neg wV]at H;exact absurd H (by simp)
     rw[if_pos wV]at H;have S4:=bV wV;clear wV;have Ly:=Ah H;clear H;obtain⟨zQ,zR,zS,zT⟩:=aT ar;obtain⟨zU,zV,zW,zX⟩:=aU ar
     try go_wp2
     replace ar:=Ah (aZ ar.out);replace HB:=Ah (bc HB.out);have EC:0≤((bS):Int):=od;have ED:(bS)<(U.length:Int):=od;obtain⟨mM,a5A,zY,zZ,za,zb⟩:=fW fl.out (bS) EC ED;have ja:=zb;have jb:=za;have jc:=zZ;have jd:=zY
     cases a5A
     replace zY:=hq HB zY;replace zZ:=hq HB zZ;replace za:=hq HB za;replace zb:=hq HB zb;replace EC:=eq_true EC;replace ED:=eq_true ED;refine dk (n:=9) (S:=fun w'=>w'.cell? ⟨fI,0,none⟩=some (.slice (some mM) U.length cA)∧w'.cell? ⟨fI,1,none⟩=some (.int .i64 aA)∧w'.cell? ⟨fI,2,none⟩=some (.int .i64 aD)∧w'.cell? ⟨fI,3,none⟩=some (.int .i64 aE)∧w'.cell? (mM.add (((bS)).toNat*4))=some (.int .i64 ((J U (bS)).f0))∧w'.cell? ⟨(mM.add (((bS)).toNat*4)).block,(mM.add (((bS)).toNat*4)).off+1,none⟩=some (.int .i64 ((J U (bS)).f1))∧w'.cell? ⟨(mM.add (((bS)).toNat*4)).block,(mM.add (((bS)).toNat*4)).off+2,none⟩=some (.string ((J U (bS)).f2))∧w'.cell? ⟨(mM.add (((bS)).toNat*4)).block,(mM.add (((bS)).toNat*4)).off+3,none⟩=some (.int .i64 ((J U (bS)).f3))) (ds:=[]) #[false,false,false,false,false,false,false,false,false] (by kernel_rfl) rfl rfl ⟨(Y ar.out 0).trans rfl,(Y ar.out 1).trans rfl,(Y ar.out 2).trans rfl,(Y ar.out 3).trans rfl,((HB.out.cell (Fe w _ jd)).trans jd),((HB.out.cell (Fe w _ jc)).trans jc),((HB.out.cell (Fe w _ jb)).trans jb),((HB.out.cell (Fe w _ ja)).trans ja)⟩ (fun hHeld=> ?_);refine dl aw.L4 aw.KL (fun I aq=> ?_)
     generalize wr.drew=mW at ar HB zY zZ za zb hHeld⊢
     refine a8 0 67 I.out ?_;refine a8 2 69 I.out ?_;refine a8 3 70 I.out ?_;refine a8 4 71 I.out ?_;refine bM 1 68 I.out aq.out hHeld (hr:=by rintro w' ⟨s0,s1,s2,s3,s4,s5,s6,s7⟩;go_simp;with_reducible rfl) (h:= ?_);refine a8 5 72 I.out ?_;refine bM 6 73 I.out aq.out hHeld (hr:=by rintro w' ⟨s0,s1,s2,s3,s4,s5,s6,s7⟩;go_simp;with_reducible rfl) (h:= ?_);refine cK (i:=7) (N:=some 6) #[true,true,true,true,true,true,true,true,false] rfl rfl (bz I.out (by kernel_rfl)) (by decide) (fun K hK=> ?_);refine uL ?hg (N:=6) ?hd (cs:= #[.int .i64 0,.int .i64 0,.string (⟨#[]⟩:ByteArray),.int .i64 0]) (t:=36) ?hr ?_;(case hd=>rfl);(case hg=>rfl);(case hr=>first|(go_simp;done)|(go_simp;rfl));intro cW hg na hbox hb;have d6:=Ah (hbox);have dQ:=gw hg (aX HB gb);have lv:=gw hg (aX HB gb);replace HB:=Ah (aM (aX HB gb) hb);have i6:=nn ar hg;have uD:=nm ar hg;replace ar:=Ah (bb ar hb);clear hb hbox hg;refine hK.out _ _ ⟨(Y ar.out 0).trans rfl,(Y ar.out 1).trans rfl,(Y ar.out 2).trans rfl,(Y ar.out 3).trans rfl,((HB.out.cell (World.block_lt_of_cell? w _ jd)).trans jd),((HB.out.cell (World.block_lt_of_cell? w _ jc)).trans jc),((HB.out.cell (World.block_lt_of_cell? w _ jb)).trans jb),((HB.out.cell (World.block_lt_of_cell? w _ ja)).trans ja)⟩ (fun hHeld=> ?_);clear hK K;refine nq 6 ?_;refine cK (i:=8) (N:=none) #[true,true,true,true,true,true,true,true,true] rfl rfl (bz I.out (by kernel_rfl)) (by decide) (fun K hK=> ?_);have a5B:na.cell? ⟨cW,0,none⟩=some (.int .i64 0):=(Y d6.out 0).trans rfl;have a3k:=dD d6.out 0;have Zf:=i6.out;have Zg:=uD.out;have a5C:na.cell? ⟨cW,1,none⟩=some (.int .i64 0):=(Y d6.out 1).trans rfl;have a3l:=dD d6.out 1;have Zh:=i6.out;have Zi:=uD.out;have a5D:na.cell? ⟨cW,2,none⟩=some (.string (⟨#[]⟩:ByteArray)):=(Y d6.out 2).trans rfl;have a3m:=dD d6.out 2;have Zj:=i6.out;have Zk:=uD.out;have hs44:na.cell? ⟨cW,3,none⟩=some (.int .i64 0):=(Y d6.out 3).trans rfl;have hfs44:=dD d6.out 3;have hns44_0:=i6.out;have hms44_0:=uD.out;refine ke (w1:= ?_) (by rfl) rfl ?_ ?_;rotate_left
     ·
      go_simp
      rfl
     refine hK.out _ _ ⟨((ah (p:=⟨cW,_,none⟩) i6.out _).trans (((ah (p:=⟨cW,_,none⟩) i6.out _).trans (((ah (p:=⟨cW,_,none⟩) i6.out _).trans (((ah (p:=⟨cW,_,none⟩) i6.out _).trans (hHeld.1)))))))),((ah (p:=⟨cW,_,none⟩) i6.out _).trans (((ah (p:=⟨cW,_,none⟩) i6.out _).trans (((ah (p:=⟨cW,_,none⟩) i6.out _).trans (((ah (p:=⟨cW,_,none⟩) i6.out _).trans (hHeld.2.1)))))))),((ah (p:=⟨cW,_,none⟩) i6.out _).trans (((ah (p:=⟨cW,_,none⟩) i6.out _).trans (((ah (p:=⟨cW,_,none⟩) i6.out _).trans (((ah (p:=⟨cW,_,none⟩) i6.out _).trans (hHeld.2.2.1)))))))),((ah (p:=⟨cW,_,none⟩) i6.out _).trans (((ah (p:=⟨cW,_,none⟩) i6.out _).trans (((ah (p:=⟨cW,_,none⟩) i6.out _).trans (((ah (p:=⟨cW,_,none⟩) i6.out _).trans (hHeld.2.2.2.1)))))))),((ah (p:=⟨cW,_,none⟩) (by first|exact ek (WR (by have:=Fe _ _ jd;first|rwa [aG]at this|exact this) dQ.out)|(rw[aG];exact ek (WR (by have:=Fe _ _ jd;first|rwa [aG]at this|exact this) dQ.out))|(show(ro _ _).block≠_;rw[aG];exact ek (WR (by have:=Fe _ _ jd;first|rwa [aG]at this|exact this) dQ.out))|(dsimp only;exact ek (WR (by have:=Fe _ _ jd;first|rwa [aG]at this|exact this) dQ.out))) _).trans (((ah (p:=⟨cW,_,none⟩) (by first|exact ek (WR (by have:=Fe _ _ jd;first|rwa [aG]at this|exact this) dQ.out)|(rw[aG];exact ek (WR (by have:=Fe _ _ jd;first|rwa [aG]at this|exact this) dQ.out))|(show(ro _ _).block≠_;rw[aG];exact ek (WR (by have:=Fe _ _ jd;first|rwa [aG]at this|exact this) dQ.out))|(dsimp only;exact ek (WR (by have:=Fe _ _ jd;first|rwa [aG]at this|exact this) dQ.out))) _).trans (((ah (p:=⟨cW,_,none⟩) (by first|exact ek (WR (by have:=Fe _ _ jd;first|rwa [aG]at this|exact this) dQ.out)|(rw[aG];exact ek (WR (by have:=Fe _ _ jd;first|rwa [aG]at this|exact this) dQ.out))|(show(ro _ _).block≠_;rw[aG];exact ek (WR (by have:=Fe _ _ jd;first|rwa [aG]at this|exact this) dQ.out))|(dsimp only;exact ek (WR (by have:=Fe _ _ jd;first|rwa [aG]at this|exact this) dQ.out))) _).trans (((ah (p:=⟨cW,_,none⟩) (by first|exact ek (WR (by have:=Fe _ _ jd;first|rwa [aG]at this|exact this) dQ.out)|(rw[aG];exact ek (WR (by have:=Fe _ _ jd;first|rwa [aG]at this|exact this) dQ.out))|(show(ro _ _).block≠_;rw[aG];exact ek (WR (by have:=Fe _ _ jd;first|rwa [aG]at this|exact this) dQ.out))|(dsimp only;exact ek (WR (by have:=Fe _ _ jd;first|rwa [aG]at this|exact this) dQ.out))) _).trans (hHeld.2.2.2.2.1)))))))),((ah (p:=⟨cW,_,none⟩) (by first|exact ek (WR (by have:=Fe _ _ jc;first|rwa [aG]at this|exact this) dQ.out)|(rw[aG];exact ek (WR (by have:=Fe _ _ jc;first|rwa [aG]at this|exact this) dQ.out))|(show(ro _ _).block≠_;rw[aG];exact ek (WR (by have:=Fe _ _ jc;first|rwa [aG]at this|exact this) dQ.out))|(dsimp only;exact ek (WR (by have:=Fe _ _ jc;first|rwa [aG]at this|exact this) dQ.out))) _).trans (((ah (p:=⟨cW,_,none⟩) (by first|exact ek (WR (by have:=Fe _ _ jc;first|rwa [aG]at this|exact this) dQ.out)|(rw[aG];exact ek (WR (by have:=Fe _ _ jc;first|rwa [aG]at this|exact this) dQ.out))|(show(ro _ _).block≠_;rw[aG];exact ek (WR (by have:=Fe _ _ jc;first|rwa [aG]at this|exact this) dQ.out))|(dsimp only;exact ek (WR (by have:=Fe _ _ jc;first|rwa [aG]at this|exact this) dQ.out))) _).trans (((ah (p:=⟨cW,_,none⟩) (by first|exact ek (WR (by have:=Fe _ _ jc;first|rwa [aG]at this|exact this) dQ.out)|(rw[aG];exact ek (WR (by have:=Fe _ _ jc;first|rwa [aG]at this|exact this) dQ.out))|(show(ro _ _).block≠_;rw[aG];exact ek (WR (by have:=Fe _ _ jc;first|rwa [aG]at this|exact this) dQ.out))|(dsimp only;exact ek (WR (by have:=Fe _ _ jc;first|rwa [aG]at this|exact this) dQ.out))) _).trans (((ah (p:=⟨cW,_,none⟩) (by first|exact ek (WR (by have:=Fe _ _ jc;first|rwa [aG]at this|exact this) dQ.out)|(rw[aG];exact ek (WR (by have:=Fe _ _ jc;first|rwa [aG]at this|exact this) dQ.out))|(show(ro _ _).block≠_;rw[aG];exact ek (WR (by have:=Fe _ _ jc;first|rwa [aG]at this|exact this) dQ.out))|(dsimp only;exact ek (WR (by have:=Fe _ _ jc;first|rwa [aG]at this|exact this) dQ.out))) _).trans (hHeld.2.2.2.2.2.1)))))))),((ah (p:=⟨cW,_,none⟩) (by first|exact ek (WR (by have:=Fe _ _ jb;first|rwa [aG]at this|exact this) dQ.out)|(rw[aG];exact ek (WR (by have:=Fe _ _ jb;first|rwa [aG]at this|exact this) dQ.out))|(show(ro _ _).block≠_;rw[aG];exact ek (WR (by have:=Fe _ _ jb;first|rwa [aG]at this|exact this) dQ.out))|(dsimp only;exact ek (WR (by have:=Fe _ _ jb;first|rwa [aG]at this|exact this) dQ.out))) _).trans (((ah (p:=⟨cW,_,none⟩) (by first|exact ek (WR (by have:=Fe _ _ jb;first|rwa [aG]at this|exact this) dQ.out)|(rw[aG];exact ek (WR (by have:=Fe _ _ jb;first|rwa [aG]at this|exact this) dQ.out))|(show(ro _ _).block≠_;rw[aG];exact ek (WR (by have:=Fe _ _ jb;first|rwa [aG]at this|exact this) dQ.out))|(dsimp only;exact ek (WR (by have:=Fe _ _ jb;first|rwa [aG]at this|exact this) dQ.out))) _).trans (((ah (p:=⟨cW,_,none⟩) (by first|exact ek (WR (by have:=Fe _ _ jb;first|rwa [aG]at this|exact this) dQ.out)|(rw[aG];exact ek (WR (by have:=Fe _ _ jb;first|rwa [aG]at this|exact this) dQ.out))|(show(ro _ _).block≠_;rw[aG];exact ek (WR (by have:=Fe _ _ jb;first|rwa [aG]at this|exact this) dQ.out))|(dsimp only;exact ek (WR (by have:=Fe _ _ jb;first|rwa [aG]at this|exact this) dQ.out))) _).trans (((ah (p:=⟨cW,_,none⟩) (by first|exact ek (WR (by have:=Fe _ _ jb;first|rwa [aG]at this|exact this) dQ.out)|(rw[aG];exact ek (WR (by have:=Fe _ _ jb;first|rwa [aG]at this|exact this) dQ.out))|(show(ro _ _).block≠_;rw[aG];exact ek (WR (by have:=Fe _ _ jb;first|rwa [aG]at this|exact this) dQ.out))|(dsimp only;exact ek (WR (by have:=Fe _ _ jb;first|rwa [aG]at this|exact this) dQ.out))) _).trans (hHeld.2.2.2.2.2.2.1)))))))),((ah (p:=⟨cW,_,none⟩) (by first|exact ek (WR (by have:=Fe _ _ ja;first|rwa [aG]at this|exact this) dQ.out)|(rw[aG];exact ek (WR (by have:=Fe _ _ ja;first|rwa [aG]at this|exact this) dQ.out))|(show(ro _ _).block≠_;rw[aG];exact ek (WR (by have:=Fe _ _ ja;first|rwa [aG]at this|exact this) dQ.out))|(dsimp only;exact ek (WR (by have:=Fe _ _ ja;first|rwa [aG]at this|exact this) dQ.out))) _).trans (((ah (p:=⟨cW,_,none⟩) (by first|exact ek (WR (by have:=Fe _ _ ja;first|rwa [aG]at this|exact this) dQ.out)|(rw[aG];exact ek (WR (by have:=Fe _ _ ja;first|rwa [aG]at this|exact this) dQ.out))|(show(ro _ _).block≠_;rw[aG];exact ek (WR (by have:=Fe _ _ ja;first|rwa [aG]at this|exact this) dQ.out))|(dsimp only;exact ek (WR (by have:=Fe _ _ ja;first|rwa [aG]at this|exact this) dQ.out))) _).trans (((ah (p:=⟨cW,_,none⟩) (by first|exact ek (WR (by have:=Fe _ _ ja;first|rwa [aG]at this|exact this) dQ.out)|(rw[aG];exact ek (WR (by have:=Fe _ _ ja;first|rwa [aG]at this|exact this) dQ.out))|(show(ro _ _).block≠_;rw[aG];exact ek (WR (by have:=Fe _ _ ja;first|rwa [aG]at this|exact this) dQ.out))|(dsimp only;exact ek (WR (by have:=Fe _ _ ja;first|rwa [aG]at this|exact this) dQ.out))) _).trans (((ah (p:=⟨cW,_,none⟩) (by first|exact ek (WR (by have:=Fe _ _ ja;first|rwa [aG]at this|exact this) dQ.out)|(rw[aG];exact ek (WR (by have:=Fe _ _ ja;first|rwa [aG]at this|exact this) dQ.out))|(show(ro _ _).block≠_;rw[aG];exact ek (WR (by have:=Fe _ _ ja;first|rwa [aG]at this|exact this) dQ.out))|(dsimp only;exact ek (WR (by have:=Fe _ _ ja;first|rwa [aG]at this|exact this) dQ.out))) _).trans (hHeld.2.2.2.2.2.2.2))))))))⟩ (fun hHeld=> ?_);clear hK K;refine dP (dW I.out (by kernel_rfl)) ?_
     go_upto_region 12 with(fail)
     go_cut [82] (fun v82 wc=>∃ (kq:Nat) (GY:Bool),v82= .bool GY∧Z (aw.j2 kq (U.length:Int) jC fN GY U aA aD aE ((J U (bS)).f0) ((J U (bS)).f1) ((J U (bS)).f2) ((J U (bS)).f3)=some r)∧Z (kq≤k2)∧Z (wc.heap[fI]?=some (.cells #[(.slice (some mM) U.length cA),.int .i64 aA,.int .i64 aD,.int .i64 aE] 25 (0,0)))∧Z (wc.heap[cW]?=some (.cells #[.int .i64 ((J U (bS)).f0),.int .i64 ((J U (bS)).f1),.string ((J U (bS)).f2),.int .i64 ((J U (bS)).f3)] 36 (0,0)))∧Z (Below w.heap.size w wc))
     case first=>
      have H:=Ly.out;clear Ly
      by_cases wW:fN<aE
      rotate_left
      ·
       rw[if_neg wW]at H;have xh:=ev wW;clear wW;(first|rw[xh]|(simp only[fx,gg];rw[xh])|(simp only[a3n,aaD,aaF])|skip);have H':=Ah H;clear H
       try go_wp2
       have bj:Z (((((na.setCell ⟨cW,0,none⟩ (.int .i64 ((J U (bS)).f0))).setCell ⟨cW,1,none⟩ (.int .i64 ((J U (bS)).f1))).setCell ⟨cW,2,none⟩ (.string ((J U (bS)).f2))).setCell ⟨cW,3,none⟩ (.int .i64 ((J U (bS)).f3))).heap[fI]?=some (.cells #[.slice (some mM) U.length cA,.int .i64 aA,.int .i64 aD,.int .i64 aE] 25 (0,0))):=⟨bf ar i6⟩;have be:Z (((((na.setCell ⟨cW,0,none⟩ (.int .i64 ((J U (bS)).f0))).setCell ⟨cW,1,none⟩ (.int .i64 ((J U (bS)).f1))).setCell ⟨cW,2,none⟩ (.string ((J U (bS)).f2))).setCell ⟨cW,3,none⟩ (.int .i64 ((J U (bS)).f3))).heap[cW]?=some (.cells #[.int .i64 ((J U (bS)).f0),.int .i64 ((J U (bS)).f1),.string ((J U (bS)).f2),.int .i64 ((J U (bS)).f3)] 36 (0,0))):=⟨by exact pb d6⟩;have cU:Z (Below w.heap.size w ((((na.setCell ⟨cW,0,none⟩ (.int .i64 ((J U (bS)).f0))).setCell ⟨cW,1,none⟩ (.int .i64 ((J U (bS)).f1))).setCell ⟨cW,2,none⟩ (.string ((J U (bS)).f2))).setCell ⟨cW,3,none⟩ (.int .i64 ((J U (bS)).f3)))):=⟨an HB gb lv⟩;(try clear ar);(try clear d6);(try clear HB)
       generalize ((((na.setCell ⟨cW,0,none⟩ (.int .i64 ((J U (bS)).f0))).setCell ⟨cW,1,none⟩ (.int .i64 ((J U (bS)).f1))).setCell ⟨cW,2,none⟩ (.string ((J U (bS)).f2))).setCell ⟨cW,3,none⟩ (.int .i64 ((J U (bS)).f3)))=jy at bj be cU⊢
       have ar:=bj;have d6:=be;have HB:=cU;clear bj be cU;replace ar:=Ah (aZ ar.out);replace d6:=Ah (aZ d6.out);replace HB:=Ah (bc HB.out);refine dk (n:=9) (S:=fun w'=>w'.cell? ⟨fI,0,none⟩=some (.slice (some mM) U.length cA)∧w'.cell? ⟨fI,1,none⟩=some (.int .i64 aA)∧w'.cell? ⟨fI,2,none⟩=some (.int .i64 aD)∧w'.cell? ⟨fI,3,none⟩=some (.int .i64 aE)) (ds:=[]) #[false,false,false,false,false,false,false,false,false] (by kernel_rfl) rfl rfl ⟨(Y ar.out 0).trans rfl,(Y ar.out 1).trans rfl,(Y ar.out 2).trans rfl,(Y ar.out 3).trans rfl⟩ (fun hHeld=> ?_);refine dl aw.Cx aw.CW (fun I aq=> ?_)
       generalize jy.drew=w51 at ar d6 HB hHeld⊢
       refine a8 0 74 I.out ?_;refine a8 1 75 I.out ?_;refine bM 2 76 I.out aq.out hHeld (hr:=by rintro w' ⟨s0,s1,s2,s3⟩;go_simp;with_reducible rfl) (h:= ?_);refine a8 3 77 I.out ?_;refine a8 4 78 I.out ?_;refine aV 5 79 I.out ?_;refine aV 6 80 I.out ?_;refine aV 7 81 I.out ?_;refine a8 8 82 I.out ?_;refine dP (dW I.out (by kernel_rfl)) ?_
       try go_wp2
       go_meet
       case rel=>exact⟨_,(false),e3,H',⟨by have:=kQ.out;have:=fp.out;first|omega|exact kV _⟩,⟨bk ar⟩,⟨bk d6⟩,⟨an HB gb lv⟩⟩
      rw[if_pos wW]at H;have xh:=bV wW;clear wW;(first|rw[xh]|(simp only[fx,gg];rw[xh])|(simp only[a3n,aaD,aaF])|skip);replace H:=Ok.mp H;obtain⟨⟨U4,U5,U6,U7⟩,U8,H⟩:=H
      try dsimp only at H
      have A46:=Ah U8;clear U8;have H':=Ah H;clear H
      try go_wp2
      have bj:Z (((((na.setCell ⟨cW,0,none⟩ (.int .i64 ((J U (bS)).f0))).setCell ⟨cW,1,none⟩ (.int .i64 ((J U (bS)).f1))).setCell ⟨cW,2,none⟩ (.string ((J U (bS)).f2))).setCell ⟨cW,3,none⟩ (.int .i64 ((J U (bS)).f3))).heap[fI]?=some (.cells #[.slice (some mM) U.length cA,.int .i64 aA,.int .i64 aD,.int .i64 aE] 25 (0,0))):=⟨bf ar i6⟩;have be:Z (((((na.setCell ⟨cW,0,none⟩ (.int .i64 ((J U (bS)).f0))).setCell ⟨cW,1,none⟩ (.int .i64 ((J U (bS)).f1))).setCell ⟨cW,2,none⟩ (.string ((J U (bS)).f2))).setCell ⟨cW,3,none⟩ (.int .i64 ((J U (bS)).f3))).heap[cW]?=some (.cells #[.int .i64 ((J U (bS)).f0),.int .i64 ((J U (bS)).f1),.string ((J U (bS)).f2),.int .i64 ((J U (bS)).f3)] 36 (0,0))):=⟨by exact pb d6⟩;have cU:Z (Below w.heap.size w ((((na.setCell ⟨cW,0,none⟩ (.int .i64 ((J U (bS)).f0))).setCell ⟨cW,1,none⟩ (.int .i64 ((J U (bS)).f1))).setCell ⟨cW,2,none⟩ (.string ((J U (bS)).f2))).setCell ⟨cW,3,none⟩ (.int .i64 ((J U (bS)).f3)))):=⟨an HB gb lv⟩;(try clear ar);(try clear d6);(try clear HB)
      generalize ((((na.setCell ⟨cW,0,none⟩ (.int .i64 ((J U (bS)).f0))).setCell ⟨cW,1,none⟩ (.int .i64 ((J U (bS)).f1))).setCell ⟨cW,2,none⟩ (.string ((J U (bS)).f2))).setCell ⟨cW,3,none⟩ (.int .i64 ((J U (bS)).f3)))=IF at bj be cU⊢
      have ar:=bj;have d6:=be;have HB:=cU;clear bj be cU;replace ar:=Ah (aZ ar.out);replace d6:=Ah (aZ d6.out);replace HB:=Ah (bc HB.out);refine dk (n:=9) (S:=fun w'=>w'.cell? ⟨fI,0,none⟩=some (.slice (some mM) U.length cA)∧w'.cell? ⟨fI,1,none⟩=some (.int .i64 aA)∧w'.cell? ⟨fI,2,none⟩=some (.int .i64 aD)∧w'.cell? ⟨fI,3,none⟩=some (.int .i64 aE)∧w'.cell? ⟨cW,0,none⟩=some (.int .i64 ((J U (bS)).f0))∧w'.cell? ⟨cW,1,none⟩=some (.int .i64 ((J U (bS)).f1))∧w'.cell? ⟨cW,2,none⟩=some (.string ((J U (bS)).f2))∧w'.cell? ⟨cW,3,none⟩=some (.int .i64 ((J U (bS)).f3))) (ds:=[]) #[false,false,false,false,false,false,false,false,false] (by kernel_rfl) rfl rfl ⟨(Y ar.out 0).trans rfl,(Y ar.out 1).trans rfl,(Y ar.out 2).trans rfl,(Y ar.out 3).trans rfl,(Y d6.out 0).trans rfl,(Y d6.out 1).trans rfl,(Y d6.out 2).trans rfl,(Y d6.out 3).trans rfl⟩ (fun hHeld=> ?_);refine dl aw.Cx aw.CW (fun I aq=> ?_)
      generalize IF.drew=wX at ar d6 HB hHeld⊢
      refine a8 0 74 I.out ?_;refine a8 1 75 I.out ?_;refine bM 2 76 I.out aq.out hHeld (hr:=by rintro w' ⟨s0,s1,s2,s3,s4,s5,s6,s7⟩;go_simp;with_reducible rfl) (h:= ?_);refine a8 3 77 I.out ?_;refine a8 4 78 I.out ?_;refine bM 5 79 I.out aq.out hHeld (hr:=by rintro w' ⟨s0,s1,s2,s3,s4,s5,s6,s7⟩;go_simp;with_reducible rfl) (h:= ?_);refine cK (i:=6) (N:=some 80) #[true,true,true,true,true,true,true,false,false] rfl rfl (bz I.out (by kernel_rfl)) (by decide) (fun K hK=> ?_);refine cZ Tryd.func41 (by kernel_rfl) rfl #[] (by rfl) rfl rfl (by(try simp only[List.map_toArray,List.map_cons,List.map_nil]);first|done|rfl|(simp only[List.length_drop,List.length_take];rfl)) ?_
      with_reducible refine(ib.calls k2 U4 U5 U6 U7 _ A46.out).mono ?_
      rintro e NH ⟨rfl,hb⟩;refine⟨_,rfl, ?_⟩;replace ar:=Ah (bb ar hb);replace d6:=Ah (bb d6 hb);replace HB:=Ah (aM (an HB gb lv) hb);(try clear hb);(try clear hb2);(try clear hk);(try clear hi);refine hK.out _ _ ⟨(Y ar.out 0).trans rfl,(Y ar.out 1).trans rfl,(Y ar.out 2).trans rfl,(Y ar.out 3).trans rfl,(Y d6.out 0).trans rfl,(Y d6.out 1).trans rfl,(Y d6.out 2).trans rfl,(Y d6.out 3).trans rfl⟩ (fun hHeld=> ?_);clear hK K;refine nq 80 ?_;refine a8 7 81 I.out ?_;refine a8 8 82 I.out ?_;refine dP (dW I.out (by kernel_rfl)) ?_
      try go_wp2
      go_meet
      case rel=>exact⟨_,((((J U (bS)).f0)==U4&& (((J U (bS)).f1)==U5&& ((((J U (bS)).f2).toList)==U6.toList&& (((J U (bS)).f3)==U7))))),(by first|rfl|(simp;done)|(simp only[←pQ]<;>(first|rfl|simp))|(simp[*];done)),H',⟨by have:=kQ.out;have:=fp.out;first|omega|exact kV _⟩,⟨bk ar⟩,⟨bk d6⟩,⟨an HB gb lv⟩⟩
     case rest=>
      clear Ly
      try clear p1
      try clear q1
      try clear hx1
      try clear c2
      try clear p2
      try clear c3
      try clear c4
      try clear p6
      try clear BA
      try clear BB
      try clear a5E
      try clear Vs
      try clear Vt
      try clear Tq
      try clear c21
      try clear H1
      try clear c23
      try clear c24
      try clear iY
      try clear H3
      try clear kR
      try clear H4
      try clear S1
      try clear S3
      try clear lZ
      try clear H5
      try clear wV
      try clear S4
      try clear mV
      try clear wW
      try clear xh
      try clear JZ Ja Jb Jc
      try clear zQ zR zS zT
      try clear Jd Je Jf Jg
      try clear zU zV zW zX
      try clear pA
      try clear pB
      try clear pC
      try clear pD
      try clear zY
      try clear zZ
      try clear za
      try clear zb
      try clear tZ
      try clear EC
      try clear ta
      try clear ED
      obtain⟨kq,GY,rfl,HA,Af,ar,d6,HB⟩:=hcut
      cases kq with
      |zero=>exact absurd HA.out (by simp[aw.j2])
      |succ Ht=>
       have H:=HA.out;clear HA;simp only[aw.j2]at H
       by_cases ob:GY=true
       ·
        subst ob;rw[if_pos rfl]at H;have H':=Ah H;clear H
        go_wp2
        go_roundg Ht
        case measure=>have:=kQ.out;have:=fp.out;have:=Af.out;omega
        case rel=>exact⟨(jC),(F5 (fN+1)),e3,e3,H',⟨by have:=kQ.out;have:=fp.out;have:=Af.out;omega⟩,⟨bk ar⟩,⟨an HB gb lv⟩⟩
       replace ob:=iK.mpr ob;subst ob;rw[if_neg dM]at H;have Lz:=Ah H;clear H
       go_upto_region 13 with(fail)
       go_cut [94] (fun v94 wc=>∃ (kq:Nat) (GZ:Bool),v94= .bool GZ∧Z (aw.j3 kq (U.length:Int) jC fN GZ U aA aD aE ((J U (bS)).f0) ((J U (bS)).f1) ((J U (bS)).f2) ((J U (bS)).f3)=some r)∧Z (kq≤Ht)∧Z (wc.heap[fI]?=some (.cells #[(.slice (some mM) U.length cA),.int .i64 aA,.int .i64 aD,.int .i64 aE] 25 (0,0)))∧Z (wc.heap[cW]?=some (.cells #[.int .i64 ((J U (bS)).f0),.int .i64 ((J U (bS)).f1),.string ((J U (bS)).f2),.int .i64 ((J U (bS)).f3)] 36 (0,0)))∧Z (Below w.heap.size w wc))
       case first=>
        have H:=Lz.out;clear Lz;replace H:=Ok.mp H;obtain⟨Lx,U9,H⟩:=H
        try dsimp only at H
        have Vu:=Ah U9;clear U9
        by_cases jG:Lx=true
        rotate_left
        ·
         replace jG:=iK.mpr jG;subst jG;rw[if_neg dM]at H;have H':=Ah H;clear H
         try go_wp2
         replace ar:=Ah (aZ ar.out);replace d6:=Ah (aZ d6.out);replace HB:=Ah (bc HB.out);refine dk (n:=12) (S:=fun w'=>w'.cell? ⟨cW,0,none⟩=some (.int .i64 ((J U (bS)).f0))∧w'.cell? ⟨cW,1,none⟩=some (.int .i64 ((J U (bS)).f1))∧w'.cell? ⟨cW,2,none⟩=some (.string ((J U (bS)).f2))∧w'.cell? ⟨cW,3,none⟩=some (.int .i64 ((J U (bS)).f3))) (ds:=[]) #[false,false,false,false,false,false,false,false,false,false,false,false] (by kernel_rfl) rfl rfl ⟨(Y d6.out 0).trans rfl,(Y d6.out 1).trans rfl,(Y d6.out 2).trans rfl,(Y d6.out 3).trans rfl⟩ (fun hHeld=> ?_);refine dl aw.pP aw.pN (fun I aq=> ?_)
         generalize wc.drew=Vn at ar d6 HB hHeld⊢
         refine bM 0 83 I.out aq.out hHeld (hr:=by rintro w' ⟨s0,s1,s2,s3⟩;go_simp;with_reducible rfl) (h:= ?_);refine cK (i:=1) (N:=some 84) #[true,true,false,false,false,false,false,false,false,false,false,false] rfl rfl (bz I.out (by kernel_rfl)) (by decide) (fun K hK=> ?_);refine cZ abn (by kernel_rfl) rfl #[.agg #[.int .i64 ((J U (bS)).f0),.int .i64 ((J U (bS)).f1),.string ((J U (bS)).f2),.int .i64 ((J U (bS)).f3)]] (by rfl) rfl rfl (by(try simp only[fT,gJ,j5]);first|done|(simp only[pQ];rfl)|rfl|(simp only[fF,ca];rfl)) ?_
         with_reducible refine(fa.calls Ht ((J U (bS)).f0) ((J U (bS)).f1) ((J U (bS)).f2) ((J U (bS)).f3) false _ Vu.out).mono ?_
         rintro e Vv ⟨rfl,hb⟩;refine⟨_,rfl, ?_⟩;replace ar:=Ah (bb ar hb);replace d6:=Ah (bb d6 hb);replace HB:=Ah (aM (an HB gb lv) hb);(try clear hb);(try clear hb2);(try clear hk);(try clear hi);refine hK.out _ _ ⟨(Y d6.out 0).trans rfl,(Y d6.out 1).trans rfl,(Y d6.out 2).trans rfl,(Y d6.out 3).trans rfl⟩ (fun hHeld=> ?_);clear hK K;refine nq 84 ?_;refine a8 2 85 I.out ?_;refine a8 3 86 I.out ?_;refine aV 4 87 I.out ?_;refine aV 5 88 I.out ?_;refine aV 6 89 I.out ?_;refine aV 7 90 I.out ?_;refine aV 8 91 I.out ?_;refine aV 9 92 I.out ?_;refine aV 10 93 I.out ?_;refine a8 11 94 I.out ?_;refine dP (dW I.out (by kernel_rfl)) ?_
         try go_wp2
         go_meet
         case rel=>exact⟨_,(true),e3,H',⟨by have:=kQ.out;have:=fp.out;have:=Af.out;first|omega|exact kV _⟩,⟨bk ar⟩,⟨bk d6⟩,⟨an HB gb lv⟩⟩
        subst jG;rw[if_pos rfl]at H
        by_cases kS:(U.length:Int)=0
        ·
         rw[if_pos kS]at H;exact absurd H (by simp)
        rw[if_neg kS]at H;have AO:=g9 kS;have a3o:=gA kS
        have S5:¬(U=[]):=fun h_=>kS (by rw[h_];rfl)
        (first|rw[AO]|(simp only[fx,gg];rw[AO])|(simp only[S5,aaD,aaF])|skip);have H':=Ah H;clear H
        try go_wp2
        replace ar:=Ah (aZ ar.out);replace d6:=Ah (aZ d6.out);replace HB:=Ah (bc HB.out);refine dk (n:=12) (S:=fun w'=>w'.cell? ⟨cW,0,none⟩=some (.int .i64 ((J U (bS)).f0))∧w'.cell? ⟨cW,1,none⟩=some (.int .i64 ((J U (bS)).f1))∧w'.cell? ⟨cW,2,none⟩=some (.string ((J U (bS)).f2))∧w'.cell? ⟨cW,3,none⟩=some (.int .i64 ((J U (bS)).f3))) (ds:=[]) #[false,false,false,false,false,false,false,false,false,false,false,false] (by kernel_rfl) rfl rfl ⟨(Y d6.out 0).trans rfl,(Y d6.out 1).trans rfl,(Y d6.out 2).trans rfl,(Y d6.out 3).trans rfl⟩ (fun hHeld=> ?_);refine dl aw.pP aw.pN (fun I aq=> ?_)
        generalize wc.drew=NI at ar d6 HB hHeld⊢
        refine bM 0 83 I.out aq.out hHeld (hr:=by rintro w' ⟨s0,s1,s2,s3⟩;go_simp;with_reducible rfl) (h:= ?_);refine cK (i:=1) (N:=some 84) #[true,true,false,false,false,false,false,false,false,false,false,false] rfl rfl (bz I.out (by kernel_rfl)) (by decide) (fun K hK=> ?_);refine cZ abn (by kernel_rfl) rfl #[.agg #[.int .i64 ((J U (bS)).f0),.int .i64 ((J U (bS)).f1),.string ((J U (bS)).f2),.int .i64 ((J U (bS)).f3)]] (by rfl) rfl rfl (by(try simp only[fT,gJ,j5]);first|done|(simp only[pQ];rfl)|rfl|(simp only[fF,ca];rfl)) ?_
        with_reducible refine(fa.calls Ht ((J U (bS)).f0) ((J U (bS)).f1) ((J U (bS)).f2) ((J U (bS)).f3) true _ Vu.out).mono ?_
        rintro e wY ⟨rfl,hb⟩;refine⟨_,rfl, ?_⟩;replace ar:=Ah (bb ar hb);replace d6:=Ah (bb d6 hb);replace HB:=Ah (aM (an HB gb lv) hb);(try clear hb);(try clear hb2);(try clear hk);(try clear hi);refine hK.out _ _ ⟨(Y d6.out 0).trans rfl,(Y d6.out 1).trans rfl,(Y d6.out 2).trans rfl,(Y d6.out 3).trans rfl⟩ (fun hHeld=> ?_);clear hK K;refine nq 84 ?_;refine a8 2 85 I.out ?_;refine a8 3 86 I.out ?_;refine a8 4 87 I.out ?_;refine a8 6 89 I.out ?_;refine a8 7 90 I.out ?_;refine a8 8 91 I.out ?_;refine a8 9 92 I.out ?_;refine bM 5 88 I.out aq.out hHeld (hr:=by rintro w' ⟨s0,s1,s2,s3⟩;go_simp;with_reducible rfl) (h:= ?_);refine a8 10 93 I.out ?_;refine a8 11 94 I.out ?_;refine dP (dW I.out (by kernel_rfl)) ?_
        try go_wp2
        go_meet
        case rel=>exact⟨_,((((J U (bS)).f0) !=(F5 ((F5 (aQ fN (U.length:Int)))+1)))),(by first|rfl|(simp;done)|(simp only[←pQ]<;>(first|rfl|simp))|(simp[*];done)),H',⟨by have:=kQ.out;have:=fp.out;have:=Af.out;first|omega|exact kV _⟩,⟨bk ar⟩,⟨bk d6⟩,⟨an HB gb lv⟩⟩
       case rest=>
        clear Lz
        try clear p1
        try clear q1
        try clear hx1
        try clear c2
        try clear p2
        try clear c3
        try clear c4
        try clear c5
        try clear p6
        try clear BA
        try clear BB
        try clear a5E
        try clear Vs
        try clear Vt
        try clear Tq
        try clear c21
        try clear H1
        try clear c23
        try clear c24
        try clear iY
        try clear H3
        try clear kR
        try clear H4
        try clear S1
        try clear S3
        try clear c34
        try clear lZ
        try clear H5
        try clear wV
        try clear S4
        try clear mV
        try clear wW
        try clear xh
        try clear ob
        try clear jG
        try clear kS
        try clear AO
        try clear a3o
        try clear S5
        try clear JZ Ja Jb Jc
        try clear zQ zR zS zT
        try clear Jd Je Jf Jg
        try clear zU zV zW zX
        try clear pA
        try clear pB
        try clear pC
        try clear pD
        try clear zY
        try clear zZ
        try clear za
        try clear zb
        try clear p1
        try clear BA
        try clear tZ
        try clear Vs
        try clear EC
        try clear p2
        try clear p6
        try clear q1
        try clear BB
        try clear ta
        try clear Vt
        try clear ED
        obtain⟨kq,GZ,rfl,HA,UA,ar,d6,HB⟩:=hcut
        cases kq with
        |zero=>exact absurd HA.out (by simp[aw.j3])
        |succ a5F=>
         have H:=HA.out;clear HA;simp only[aw.j3]at H
         by_cases jz:GZ=true
         ·
          subst jz;rw[if_pos rfl]at H;obtain rfl:=qE H
          go_wp2
          go_ret
          exact⟨by first|rfl|(simp[cH,cI]<;>rfl)|(simp only[←pQ];first|rfl|(simp[cH,cI]<;>rfl))|(simp[*,cH,cI]<;>rfl),an HB gb lv⟩
         replace jz:=iK.mpr jz;subst jz;rw[if_neg dM]at H
         by_cases kM:((J U (bS)).f1)<jC
         ·
          rw[if_pos kM]at H;have L5:=bV kM;clear kM;obtain rfl:=qE H;have a3p:=uD.out;have a3q:=i6.out;obtain⟨Zl,Zm,Zn,Zo⟩:=aT d6;obtain⟨Zp,Zq,Zr,Zs⟩:=aU d6
          go_wp2
          go_ret
          exact⟨by first|rfl|(simp[cH,cI]<;>rfl)|(simp only[←pQ];first|rfl|(simp[cH,cI]<;>rfl))|(simp[*,cH,cI]<;>rfl),an HB gb lv⟩
         rw[if_neg kM]at H;have L5:=ev kM;clear kM
         by_cases yz:((J U (bS)).f1)>fN
         ·
          rw[if_pos yz]at H;have a3r:=bV yz;clear yz;obtain rfl:=qE H;have RN:=uD.out;have RO:=i6.out;obtain⟨hcz67_0,hcz67_1,hcz67_2,hcz67_3⟩:=aT d6;obtain⟨hfz67_0,hfz67_1,hfz67_2,hfz67_3⟩:=aU d6
          go_wp2
          go_ret
          exact⟨by first|rfl|(simp[cH,cI]<;>rfl)|(simp only[←pQ];first|rfl|(simp[cH,cI]<;>rfl))|(simp[*,cH,cI]<;>rfl),an HB gb lv⟩
         rw[if_neg yz]at H;have a3r:=ev yz;clear yz
         by_cases z8:((J U (bS)).f1)>aE
         ·
          rw[if_pos z8]at H;have a3s:=bV z8;clear z8;obtain rfl:=qE H;have Km:=uD.out;have Kn:=i6.out;obtain⟨Jh,Ji,Jj,Jk⟩:=aT d6;obtain⟨Jl,Jm,Jn,Jo⟩:=aU d6;obtain⟨PI,PJ,PK,PL⟩:=aT ar;obtain⟨PM,PN,PO,PP⟩:=aU ar
          go_wp2
          go_ret
          exact⟨by first|rfl|(simp[cH,cI]<;>rfl)|(simp only[←pQ];first|rfl|(simp[cH,cI]<;>rfl))|(simp[*,cH,cI]<;>rfl),an HB gb lv⟩
         rw[if_neg z8]at H;have a3s:=ev z8;clear z8;have H':=Ah H;clear H;have a3t:=uD.out;have a3u:=i6.out;obtain⟨Pc,Pd,Pe,Pf⟩:=aT d6;obtain⟨Pg,Ph,Pi,Pj⟩:=aU d6;obtain⟨hcz74_0,hcz74_1,hcz74_2,hcz74_3⟩:=aT ar;obtain⟨hfz74_0,hfz74_1,hfz74_2,hfz74_3⟩:=aU ar
         go_wp2
         go_roundg a5F
         case measure=>have:=kQ.out;have:=fp.out;have:=Af.out;have:=UA.out;omega
         case rel=>exact⟨(((J U (bS)).f1)),(F5 (fN+1)),(by first|rfl|(simp;done)|(simp only[←pQ]<;>(first|rfl|simp))|(simp[*];done)),e3,H',⟨by have:=kQ.out;have:=fp.out;have:=Af.out;have:=UA.out;omega⟩,⟨bk ar⟩,⟨an HB gb lv⟩⟩
def rq.f(U:List (aK))(aA:Int)(aD:Int)(aE:Int):Option ((List (aK))×Int×Int×Int):=(some (([]:List (aK)):List (aK))).bind fun pt=>(if pt.length+U.length<3518437208883 then(some ((pt++U),aA,aD,aE))else(none))
theorem rq.calls(cf:Option Addr)(cA:Nat)(U:List (aK))(aA:Int)(aD:Int)(aE:Int)(r1:List (aK))(r2:Int)(r3:Int)(r4:Int)(w:World)(iB:Kd.C bD w cf U.length U)(iC:U.length≤cA)(h:rq.f U aA aD aE=some (r1,r2,r3,r4)):
 Calls aaf 24 #[.agg #[.slice cf U.length cA,.int .i64 aA,.int .i64 aD,.int .i64 aE]] w fun e w'=>∃fA:Value,e= .returned (.agg #[fA,.int .i64 r2,.int .i64 r3,.int .i64 r4])∧Kd.R bD 36 w' w.heap.size (fun _=>True) fA r1∧Below w.heap.size w w':=by
 have lP:=aac;have fl:=Ah iB;have iT:=Ah iC;clear iB iC;have HB:=Ah (aag w.heap.size w);have H:((some (([]:List (aK)):List (aK))).bind fun pt=>(if pt.length+U.length<3518437208883 then(some ((pt++U),aA,aD,aE))else(none)))=some (r1,r2,r3,r4):=h;clear h;obtain⟨pt,Cy⟩:∃y_:List (aK),y_=(([]:List (aK))):=⟨_,rfl⟩
 replace H:(if pt.length+U.length<3518437208883 then(some ((pt++U),aA,aD,aE))else(none))=some (r1,r2,r3,r4):=by first|(rw[Cy];with_reducible exact H)|(have cL:=(zD _ _).symm.trans H;rw[Cy];with_reducible exact cL)|(have cL:=(zD _ _).symm.trans H;with_reducible exact cL)|with_reducible exact H|(rw[Cy];exact H)|exact H
 have S6:=Ah Cy;clear Cy
 by_cases c2:pt.length+U.length<3518437208883
 rotate_left
 ·
  rw[if_neg c2]at H;exact absurd H (by simp)
 rw[if_pos c2]at H;have a5G:=Ah c2;clear c2;obtain⟨Hu,Cz⟩:∃y_:List (aK),y_=(pt++U):=⟨_,rfl⟩
 replace H:(some (Hu,aA,aD,aE))=some (r1,r2,r3,r4):=by first|(rw[Cz];with_reducible exact H)|(have cL:=(zD _ _).symm.trans H;rw[Cz];with_reducible exact cL)|(have cL:=(zD _ _).symm.trans H;with_reducible exact cL)|with_reducible exact H|(rw[Cz];exact H)|exact H
 have a3v:=Ah Cz;clear Cz;simp only[aaa,Prod.mk.injEq]at H;obtain⟨rfl,rfl,rfl,rfl⟩:=H
 go_enter Tryd.func24,Tryd.ntmps24
 go_wp2_with (first|((with_reducible refine bY (N:=1) rfl ?_);refine br 1 25 #[.slice cf U.length cA,.int .i64 aA,.int .i64 aD,.int .i64 aE] ?_;intro a3w hg w3 mN hb;have GW137:=gw hg (bs HB);have vk:=gw hg (bs HB);replace HB:=Ah (aM (bs HB) hb);clear hb hg)|((with_reducible refine bY (N:=2) rfl ?_);refine br 2 25 #[.slice none 0 0,.int .i64 0,.int .i64 0,.int .i64 0] ?_;intro D0 hg w4 tE hb;have GW138:=gw hg (aX HB vk);have D1:=gw hg (aX HB vk);replace HB:=Ah (aM (aX HB vk) hb);have XV:=nn mN hg;have O6:=nm mN hg;replace mN:=nb mN hb;clear hb hg)|((with_reducible refine bY (N:=3) rfl ?_);refine Kd.vP bD _ 36 ?hg (N:=3) ?hd (xs:=([]:List (aK))) (inner:=[]) (ok:=fun _=>True) (okp:=fun _=>True) ?hr ?hp (fun _ hk=>hk) trivial (aag _ _) (kV _) (by simp) ?_;(case hd=>rfl);(case hg=>rfl);(case hr=>first|(go_simp;done)|(go_simp;rfl));(case hp=>exact(cR.none _ _));intro a5H w5 q7 hb jW jJ;clear jW jJ;(first|rw[←S6.out]at q7|(simp only[aba]at q7;rw[←S6.out]at q7));have H6:=Ah (Kd.eZ q7 (eo (an HB vk D1)));replace mN:=nb mN hb;replace tE:=nb tE hb;replace HB:=Ah (aM (an HB vk D1) hb);clear hb q7;have hnb7:=XV.out;have hnc7:=O6.out;obtain⟨Qx,Qy,Qz,a1D⟩:=aT mN;obtain⟨a1E,R0,R1,a1F⟩:=aU mN)|((with_reducible refine BK (b:= .append) (xs:= #[.tmp 3,.tmp 5]) rfl ?_);at_builtin;refine Kd.Fh bD (w0:=w) w.heap.size rfl (.tmp 3) (.tmp 5) 23 36 (.agg #[(.int .i64 0),(.int .i64 0),(.string ⟨#[]⟩),(.int .i64 0)]) 40 rfl Tryd.underlying23 pK rfl (by decide) (by omega) a5H pt U _ _ _ (fun _=>True) (fun _=>False) rfl rfl ?aO ?aR (fun _ _ h=>h) (fun _ h=>h.elim) ?aF ?aB ?aS ?aL ?_;(case aR=>exact cb fl HB);(case aB=>exact(an HB vk D1));(case aF=>exact(fun _ _=>trivial));(case aO=>exact(rr H6.out));(case aS=>exact(eo (an HB vk D1)));(case aL=>have:=a5G.out;omega);intro v143 w9 ho hb hg hat;rw[←a3v.out]at ho;replace mN:=Ah (ic (bk mN) hg (Kd.d7 H6.out mN.out (by decide)));replace tE:=Ah (ic (bk tE) hg (Kd.d7 H6.out tE.out (by decide)));replace HB:=Ah (hb);have S7:=Ah (ho);clear H6;clear ho hb hg hat;obtain⟨oF,mR,nS⟩:=Kd.dI S7.out;subst nS;obtain⟨qL,qM,qN,qO⟩:=aT mN;obtain⟨qP,qQ,qR,qS⟩:=aU mN;obtain⟨sL,sM,sN,sO⟩:=aT tE;obtain⟨sP,sQ,sR,sS⟩:=aU tE))
 refine bodyPost_ret (results_cell_row rfl _ _ D0 25 #[.slice oF Hu.length mR,.int .i64 aA,.int .i64 aD,.int .i64 aE] (0,0) _ rfl (oZ tE O6) aac rfl (by kernel_rfl)) rfl ?_;exact⟨_,er,by(with_reducible repeat(first|apply Kd.bK|apply Kd.bL|apply Kd.au));exact Kd.am (Kd.aH (p:=⟨D0,3,none⟩) (Kd.aH (p:=⟨D0,2,none⟩) (Kd.aH (p:=⟨D0,1,none⟩) (Kd.aH (p:=⟨D0,0,none⟩) (Kd.aH (p:=⟨a3w,0,none⟩) (Kd.dv (Kd.dv S7.out mN.out (by decide)) tE.out (by decide)) (fun _ hk=>hk.1.2) (.slice oF Hu.length mR)) (fun _ hk=>hk.2) (.slice oF Hu.length mR)) (fun _ hk=>hk.2) (.int .i64 aA)) (fun _ hk=>hk.2) (.int .i64 aD)) (fun _ hk=>hk.2) (.int .i64 aE)) (fun _ hk=>trivial),an HB vk D1⟩
end Go.Proofs.YtgpjnkahgofpmaaDoor.G
