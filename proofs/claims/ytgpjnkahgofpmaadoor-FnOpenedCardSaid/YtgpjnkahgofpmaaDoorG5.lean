-- Printed by a program of this session (drive.py, by way of the kit's print). Not trusted: Lean checks it.
import Derived.Test.YtgpjnkahgofpmaaDoorG0
import Derived.Test.YtgpjnkahgofpmaaDoorG2
import Derived.Test.YtgpjnkahgofpmaaDoorG3
import Derived.Test.YtgpjnkahgofpmaaDoorG4
open Bool renaming eq_false_iff→iK,not_false→aaD
open ByteArray renaming empty→abG
open Go.Addr renaming add→ro
open Go.Proofs.Tryd renaming underlying25→aac,prog→aaf,underlying36→aan,func26→aa7,func21→aa8,func10→abt,func27→abu
open Go.RowKit renaming wrap64→F5
open Go.RowKit.Below renaming refl→aag
open Go.World renaming block_lt_of_cell?→Fe,cell?→aav,frozen?→aax,drewN→abf,cell?_alloc_lt→abs
open Int renaming tmod→GW,tdiv→aQ,reduceToNat→aba,toNat_natCast→abj
open List renaming length_take→ca,length_drop→fF,map_toArray→fT,map_cons→gJ,map_nil→j5,setIfInBounds_toArray→aab,set_cons_zero→aai,set_cons_succ→aaj,replicate→aaA
open Nat renaming lt_of_lt_of_le→WR,ne_of_lt→ek,le_refl→kV,le_of_eq→aah
open Option renaming bind_eq_some_iff→Ok,bind_some→zD
open Option.some renaming inj→qE,injEq→aaa
open Prod.mk renaming injEq→aad
namespace Go.Proofs.YtgpjnkahgofpmaaDoor.G
open Go.RowKit Go.Proofs.YtgpjnkahgofpmaaDoorW.PrintWords Go.Proofs.YtgpjnkahgofpmaaDoorW.PrintLast Go.Proofs.YtgpjnkahgofpmaaDoorW.PrintMore
attribute [local go_sem] uM uN uS uT u9 uA uO uP
set_option maxHeartbeats 8000000
set_option maxRecDepth 100000
set_option linter.unusedVariables false
set_option linter.unusedSimpArgs false
def rp.f(l0:List (aK))(a1:Int):Option (List (aK)):=if l0.length=1∧0≤a1∧a1≤4294967295∧a1.toNat*40≤140737488355328 then some (aaA a1.toNat (l0.getD 0 gr))else none
set_option maxRecDepth 100000 in
set_option maxHeartbeats 1000000 in
theorem rp.calls(A0:Option Addr)(c0:Nat)(l0:List (aK))(a1:Int)(r:List (aK))(w:World)(hr0:Kd.C bD w A0 l0.length l0)(hc0:l0.length≤c0)(h:rp.f l0 a1=some r):
 Calls aaf 42 #[.slice A0 l0.length c0,.int .i64 a1] w fun e w'=>∃fA:Value,e= .returned (fA)∧Kd.R bD 36 w' w.heap.size (fun _=>True) fA r∧Below w.heap.size w w':=by
 have hus:=Tryd.underlying23;have huu:∀w,Sem.run aaf (underlying 23) w= .ok (TypeDesc.slice 36) w:=run_underlying hus;unfold rp.f at h
 by_cases hl:l0.length=1∧0≤a1∧a1≤4294967295∧a1.toNat*40≤140737488355328
 ·rw[if_pos hl]at h
  obtain rfl:=qE h;obtain⟨h1,h2,h3,h4⟩:=hl;obtain⟨x,rfl⟩:=List.length_eq_one_iff.1 h1;obtain⟨K,rfl⟩:=Int.eq_ofNat_of_zero_le h2
  have hK:K<4294967296:=by omega
  have hKb:K*40≤140737488355328:=by simpa using h4
  have hR:=Z.mk hr0;clear hr0 h h1 h2 h3 h4;simp only[abj,List.getD_cons_zero];have hmul:=Z.mk (Rp.mul_one K hK w);have hwr:IntKind.u64.wrap (K:Int)=(K:Int):=Rp.a2t K hK;have hwi:IntKind.i64.wrap (K:Int)=(K:Int):=Rp.a1g K hK;obtain⟨q0,hq0⟩:∃q,Z (q=Nat.min 1 (K-0)):=⟨_,Z.mk rfl⟩
  go_enter Tryd.func42,Tryd.ntmps42
  go_wp2_with (first
   |(go_at_call 44;refine hmul.out.mono ?_;rintro e w' ⟨rfl,hw⟩;rw[hw])
   |((with_reducible refine bY (N:=30) rfl ?_);refine Kd.Qi bD (w0:=w) _ 36 rfl (N:=30) rfl 23 _ _ rfl (K:Int) rfl rfl hus (.agg #[(.int .i64 0),(.int .i64 0),(.string ⟨#[]⟩),(.int .i64 0)]) 40 pK rfl (by decide) (by omega) gr (ok:=fun _=>True) (okp:=fun _=>True) (ni _ _ _ gr) (fun _ hk=>hk) trivial (by omega) (by simp only[abj];omega) (aag _ _) (kV _) ?_;intro v1 w1 ho hb jW jJ;simp only[abj]at ho;obtain⟨A1,c1,hv1⟩:=Kd.dI ho;rw[List.length_replicate]at hv1;subst hv1;have a6v:=(Kd.cM ho).2.1;have bj:=Z.mk ho;have be:=Z.mk hb;clear ho hb jW jJ)
   |((with_reducible refine BK (b:= .copy) (xs:= #[.tmp 31,.tmp 32]) rfl ?_);refine Kd.X0 bD (w0:=w) w.heap.size rfl (.tmp 31) (.tmp 32) 23 23 36 rfl hus (.agg #[(.int .i64 0),(.int .i64 0),(.string ⟨#[]⟩),(.int .i64 0)]) 40 pK (by decide) (n:=K) (c:=c1) (k:=0) (m:=1) q0 hq0.out rfl rfl (Rp.a44 _ _ _) bj.out (Nat.zero_le _) (Kd.qG hR.out be.out) (fun _ _ h=>h) be.out be.out.size ?_;intro w2 ho hb hg;rw[Rp.XN x gr hq0.out]at ho;have BE:=Z.mk ho;have BF:=Z.mk hb;clear ho hb hg bj be hmul))
  have hq1:q0≤K:=by rw[hq0.out];exact Nat.min_le_right _ _
  have hq2:K≤q0∨1≤q0:=by
   have e:q0=if 1≤K-0 then 1 else K-0:=hq0.out
   split at e<;>omega
  clear hq0
  go_loopw [8] (fun v wr=>∃j:Nat,v= .int .i64 (j:Int)∧j≤K∧(K≤j∨1≤j)∧Z (Kd.R bD 36 wr w.heap.size (fun _=>True) (.slice A1 K c1) (Rp.jV x gr K j))∧Z (Below w.heap.size w wr)) (fun v _=>K-(intOf v).toNat)
  case atStart=>exact⟨q0,rfl,hq1,hq2,BE,BF⟩
  case round=>
   obtain⟨j,rfl,hj,hj1,HO,HB⟩:=hrel;clear BE BF;obtain⟨q,hq⟩:∃q,Z (q=Nat.min j (K-j)):=⟨_,Z.mk rfl⟩
   have hqj:q≤j:=by rw[hq.out];exact Nat.min_le_left _ _
   have hqK:q≤K-j:=by rw[hq.out];exact Nat.min_le_right _ _
   have hsum:IntKind.i64.wrap ((j:Int)+(q:Int))=((j+q:Nat):Int):=by rw[IntKind.wrap_i64];omega
   obtain⟨i0,hi,hzz⟩:=Option.map_eq_some_iff.1 pK;simp only[aad]at hzz;obtain⟨A2,hA2⟩:∃A2,Z (A2=if c1=j then A1 else A1.map (·.add (j*bD.sz))):=⟨_,Z.mk rfl⟩
   have hcf:∀W:World,(Instr.slice 23 (.slice A1 K c1) (some (.int .i64 (j:Int))) none none).run aaf W= .ok (.slice A2 (K-j) (c1-j)) W:=fun W=>by
    rw[hA2.out];exact G3 (P:=aaf) 23 36 .i64 hus hi _ hzz.2.1 A1 K c1 (j:Int) (by omega) (by omega) W
   have hct:∀W:World,(Instr.slice 23 (.slice A1 K c1) none (some (.int .i64 (j:Int))) none).run aaf W= .ok (.slice A1 j c1) W:=
    K9 (P:=aaf) 23 36 .i64 hus hi A1 K c1 (j:Int) (by omega) (by omega) a6v
   go_wp2
   ·go_region_law (refine Kd.WW bD (w0:=w) w.heap.size rfl (.tmp 41) (.tmp 44) 23 23 36 rfl hus (.agg #[(.int .i64 0),(.int .i64 0),(.string ⟨#[]⟩),(.int .i64 0)]) 40 pK (by decide) (n:=K) (c:=c1) (k:=j) (c2:=c1-j) (c':=c1) (m:=j) (A:=A2) (A':=A1) (xs:=Rp.jV x gr K j) (ys:=aaA j x) q hq.out (by simp[Act.eval,Act.put]) (by simp[Act.eval,Act.put]) hA2.out HO.out hj (Rp.Yl (Kd.cM HO.out).2.2 hj) (fun _ _ h=>h) (zG HB.out) HB.out.size ?_;intro w2 ho hb hg;rw[Rp.Y5 x gr hqj]at ho;have BE:=Z.mk ho;have BF:=Z.mk hb;clear ho hb hg HO HB)
    all_goals
     go_wp2
     simp only[Act.put,List.getElem_toArray,List.getElem_cons_zero,List.getElem_cons_succ,aab,aai,aaj]
     go_roundw
    case rel=>exact⟨j+q,by go_num,by omega,by omega,BE,BF⟩
    case measure=>
     have hq':q=if j≤K-j then j else K-j:=hq.out
     split at hq'<;>(simp[intOf];omega)
   ·go_ret
    have e:j=K:=by omega
    subst e;rw[Rp.Yk]at HO;exact⟨_,rfl,HO.out,HB.out⟩
 ·rw[if_neg hl]at h
  cases h
def kW.f(k:Nat)(a0:Int):Option ((List (aK))×Int×Int×Int×Bool):=(fb.f a0 2 24).bind fun Eh=>(if Eh=true then((ia.f k).bind fun tO=>((rp.f (([(⟨tO.1,tO.2.1,tO.2.2.1,tO.2.2.2⟩:aK)]:List (aK))) a0).bind fun td=>(some (td,0,1,0,true))))else(some (([]:List (aK)),0,0,0,false)))
theorem kW.mono:∀a0 k,aJ (kW.f k a0) (kW.f (k+1) a0):=by
 intro a0 k;unfold kW.f
 repeat' with_reducible first|exact ia.mono _|exact aJ.refl _|exact aJ.none _|refine aJ.ite ?_ ?_|refine aJ.bind ?_ (fun _=> ?_)
theorem kW.calls(k:Nat)(a0:Int)(r1:List (aK))(r2:Int)(r3:Int)(r4:Int)(r5:Bool)(w:World)(df:Z (Ito.lz w))(h:kW.f k a0=some (r1,r2,r3,r4,r5)):
 Calls aaf 25 #[.int .i64 a0] w fun e w'=>∃fA:Value,e= .returned (.tuple #[.agg #[fA,.int .i64 r2,.int .i64 r3,.int .i64 r4],.bool r5])∧Kd.R bD 36 w' w.heap.size (fun _=>True) fA r1∧Below w.heap.size w w':=by
 have lP:=aac;have HB:=Ah (aag w.heap.size w);have H:((fb.f a0 2 24).bind fun Eh=>(if Eh=true then((ia.f k).bind fun tO=>((rp.f (([(⟨tO.1,tO.2.1,tO.2.2.1,tO.2.2.2⟩:aK)]:List (aK))) a0).bind fun td=>(some (td,0,1,0,true))))else(some (([]:List (aK)),0,0,0,false))))=some (r1,r2,r3,r4,r5):=h;clear h;replace H:=Ok.mp H;obtain⟨Eh,eg,H⟩:=H
 try dsimp only at H
 have A2:=Ah eg;clear eg
 by_cases c3:Eh=true
 rotate_left
 ·
  replace c3:=iK.mpr c3;subst c3;rw[if_neg dM]at H;simp only[aaa,aad]at H;obtain⟨rfl,rfl,rfl,rfl,rfl⟩:=H
  go_enter Tryd.func25,Tryd.ntmps25
  go_wp2_with (first|((with_reducible refine bY (N:=2) rfl ?_);refine br 2 25 #[.slice none 0 0,.int .i64 0,.int .i64 0,.int .i64 0] ?_;intro tP hg kP jm hb;have a4e:=gw hg (bs HB);have rA:=gw hg (bs HB);replace HB:=Ah (aM (bs HB) hb);clear hb hg)|((with_reducible refine bU (f:=28) rfl ?_);refine gL (some 5) rfl rfl Tryd.func28 (by kernel_rfl) rfl #[.int .i64 a0,.int .i64 2,.int .i64 24] rfl ?_;(with_reducible refine(fb.calls a0 2 24 false _ A2.out).mono ?_);rintro e w' ⟨rfl,⟨nd,rfl⟩⟩;refine⟨_,rfl, ?_⟩;(try(rw[ru kP];generalize fS:abf kP _=kP;have bj:Z (kP.heap[tP]?=some (.cells #[.slice none 0 0,.int .i64 0,.int .i64 0,.int .i64 0] 25 (0,0))):=⟨by rw[←fS];exact(bk jm)⟩;have be:Z (Below w.heap.size w kP):=⟨by rw[←fS];exact(aX HB rA)⟩;clear jm HB fS;have jm:=bj;have HB:=be;clear bj be));obtain⟨Pp,Pq,Pr,Ps⟩:=aT jm;obtain⟨Pt,Pu,Pv,Pw⟩:=aU jm))
  refine bodyPost_ret (gC rfl _ _ tP 25 #[.slice none 0 0,.int .i64 0,.int .i64 0,.int .i64 0] (0,0) _ rfl (pb jm) aac rfl (by kernel_rfl)) rfl ?_;exact⟨_,er,by first|exact Kd.kA _ _ _ _ _|exact Kd.lm _ _ _ _ _|exact Kd.ln _ _ _ _ _|exact Kd.lh _ _ _ _ _|exact Kd.ll _ _ _ _ _,aX HB rA⟩
 subst c3;rw[if_pos rfl]at H;replace H:=Ok.mp H;obtain⟨⟨yW,yX,yY,yZ⟩,fo,H⟩:=H
 try dsimp only at H
 have A4:=Ah fo;clear fo;obtain⟨Mf,DO⟩:∃y_:List (aK),y_=(([(⟨yW,yX,yY,yZ⟩:aK)]:List (aK))):=⟨_,rfl⟩
 replace H:((rp.f Mf a0).bind fun td=>(some (td,0,1,0,true)))=some (r1,r2,r3,r4,r5):=by first|(rw[DO];with_reducible exact H)|(have cL:=(zD _ _).symm.trans H;rw[DO];with_reducible exact cL)|(have cL:=(zD _ _).symm.trans H;with_reducible exact cL)|with_reducible exact H|(rw[DO];exact H)|exact H
 have Sj:=Ah DO;clear DO;replace H:=Ok.mp H;obtain⟨td,iy,H⟩:=H
 try dsimp only at H
 have A5:=Ah iy;clear iy;simp only[aaa,aad]at H;obtain⟨rfl,rfl,rfl,rfl,rfl⟩:=H
 go_enter Tryd.func25,Tryd.ntmps25
 go_wp2_with (first|((with_reducible refine bY (N:=2) rfl ?_);refine br 2 25 #[.slice none 0 0,.int .i64 0,.int .i64 0,.int .i64 0] ?_;intro tP hg w6 jm hb;have a4e:=gw hg (bs HB);have rA:=gw hg (bs HB);replace HB:=Ah (aM (bs HB) hb);clear hb hg)|((with_reducible refine bU (f:=28) rfl ?_);refine gL (some 5) rfl rfl Tryd.func28 (by kernel_rfl) rfl #[.int .i64 a0,.int .i64 2,.int .i64 24] rfl ?_;(with_reducible refine(fb.calls a0 2 24 true _ A2.out).mono ?_);rintro e w' ⟨rfl,⟨nd,rfl⟩⟩;refine⟨_,rfl, ?_⟩;(try(rw[ru w6];generalize fS:abf w6 _=w6;have bj:Z (w6.heap[tP]?=some (.cells #[.slice none 0 0,.int .i64 0,.int .i64 0,.int .i64 0] 25 (0,0))):=⟨by rw[←fS];exact(bk jm)⟩;have be:Z (Below w.heap.size w w6):=⟨by rw[←fS];exact(aX HB rA)⟩;clear jm HB fS;have jm:=bj;have HB:=be;clear bj be)))|((with_reducible refine bU (f:=39) rfl ?_);refine gL (some 8) rfl rfl Tryd.func39 (by kernel_rfl) rfl #[] rfl ?_;(with_reducible refine(ia.calls k yW yX yY yZ _ ?sideT A4.out).mono ?_);(case sideT=>refine⟨Ito.ea df.out ?_⟩;first|exact bs HB|exact eJ|(repeat(first|(with_reducible first|exact HB.out|apply dH|apply dZ|apply bc|refine cn ?_ (Z.out (by assumption)))|exact HB.out)));rintro e w7 ⟨rfl,hb⟩;refine⟨_,rfl, ?_⟩;replace jm:=nb jm hb;replace HB:=Ah (aM (aX HB rA) hb);(try clear hb))|((with_reducible refine bY (N:=9) rfl ?_);refine Kd.vP bD _ 36 ?hg (N:=9) ?hd (xs:=([(⟨yW,yX,yY,yZ⟩:aK)]:List (aK))) (inner:=[.int .i64 yW,.int .i64 yX,.string yY,.int .i64 yZ]) (ok:=fun _=>True) (okp:=fun _=>True) ?hr ?hp (fun _ hk=>hk) trivial (aag _ _) (kV _) (by simp) ?_;(case hd=>rfl);(case hg=>rfl);(case hr=>first|(go_simp;done)|(go_simp;rfl));(case hp=>exact(cR.c4 (show Kd.M bD _ _ _ (⟨yW,yX,yY,yZ⟩:aK) [.int .i64 yW,.int .i64 yX,.string yY,.int .i64 yZ]from(ni _ _ _ (⟨yW,yX,yY,yZ⟩:aK))) (cR.none _ _)));intro v345 w8 FZ hb jW jJ;clear jW jJ;(first|rw[←Sj.out]at FZ|(simp only[aba]at FZ;rw[←Sj.out]at FZ));have AY:=Ah (Kd.eZ FZ (eo (aX HB rA)));replace jm:=nb jm hb;replace HB:=Ah (aM (aX HB rA) hb);clear hb FZ;obtain⟨oF,mR,nS⟩:=Kd.dI AY.out;subst nS)|((with_reducible refine bU (f:=42) rfl ?_);refine gL (some 11) rfl rfl Tryd.func42 (by kernel_rfl) rfl #[.slice oF Mf.length mR,.int .i64 a0] rfl ?_;(with_reducible refine(rp.calls _ _ Mf a0 td _ ?aa ?ab A5.out).mono ?_);(case aa=>exact kK AY);(case ab=>exact(Kd.cM AY.out).2.1);rintro e tw ⟨v348,rfl,ho0,hb⟩;refine⟨_,rfl, ?_⟩;have Sk:=Ah (Kd.eZ (Kd.eB ho0 (Kd.da (rr AY.out))) (eo (aX HB rA)));replace AY:=Ah (Kd.e7 (rr AY.out) (Kd.dr ho0) hb);replace jm:=nb jm hb;replace HB:=Ah (aM (aX HB rA) hb);(try clear hb ho0);obtain⟨Uf,M9,Hw⟩:=Kd.dI Sk.out;subst Hw;obtain⟨xK,xL,xM,xN⟩:=aT jm;obtain⟨xO,xP,xQ,xR⟩:=aU jm))
 refine bodyPost_ret (gC rfl _ _ tP 25 #[.slice Uf td.length M9,.int .i64 0,.int .i64 1,.int .i64 0] (0,0) _ rfl (pb jm) aac rfl (by kernel_rfl)) rfl ?_;exact⟨_,er,by(with_reducible repeat(first|apply Kd.bK|apply Kd.bL|apply Kd.au));exact Kd.am (Kd.aH (p:=⟨tP,3,none⟩) (Kd.aH (p:=⟨tP,2,none⟩) (Kd.aH (p:=⟨tP,1,none⟩) (Kd.aH (p:=⟨tP,0,none⟩) (Kd.dv Sk.out jm.out (by decide)) (fun _ hk=>hk.2) (.slice Uf td.length M9)) (fun _ hk=>hk.2) (.int .i64 0)) (fun _ hk=>hk.2) (.int .i64 1)) (fun _ hk=>hk.2) (.int .i64 0)) (fun _ hk=>trivial),aX HB rA⟩
mutual
def bX.l0:Nat→List (aK)→Int→Int→List (aK)→Int→Int→List (aK)→Int→Int→Int→Option ((List (aK))×Int×Int×Int×Bool)
 |0,_,_,_,_,_,_,_,_,_,_=>none
 |k+1,x0,x4,x7,nc,x24,x25,kx,ql,qm,qn=>if x25<x24 then(if 0≤x25 then(if x25<(nc.length:Int)then((ey.f k ((J nc x25).f0) ((J nc x25).f1) ((J nc x25).f2) ((J nc x25).f3)).bind fun Mg=>(if Mg=true then(if((J nc x25).f0)>0 then(bX.l0 k x0 x4 (mx x7 (F5 ((F5 ((F5 (((J nc x25).f0)-1))*x4))+x25))) nc x24 (F5 (x25+1)) kx ql qm qn)else(bX.l0 k x0 x4 x7 nc x24 (F5 (x25+1)) kx ql qm qn))else(bX.l0 k x0 x4 x7 nc x24 (F5 (x25+1)) kx ql qm qn)))else(none))else(none))else(if x7<0 then(some (kx,ql,qm,qn,true))else(bX.l1 k x0 x4 x7 x7 x7 kx ql qm qn))
def bX.l1:Nat→List (aK)→Int→Int→Int→Int→List (aK)→Int→Int→Int→Option ((List (aK))×Int×Int×Int×Bool)
 |0,_,_,_,_,_,_,_,_,_=>none
 |k+1,x0,x4,x7,j4,eY,kx,ql,qm,qn=>if eY≥0 then(bX.j2 k x0 x4 x7 j4 eY (decide (eY>(F5 (x7-x4)))) kx ql qm qn)else(bX.j2 k x0 x4 x7 j4 eY false kx ql qm qn)
def bX.j2:Nat→List (aK)→Int→Int→Int→Int→Bool→List (aK)→Int→Int→Int→Option ((List (aK))×Int×Int×Int×Bool)
 |0,_,_,_,_,_,_,_,_,_,_=>none
 |k+1,x0,x4,x7,j4,eY,x60,kx,ql,qm,qn=>if x60=true then(if x4=0 then(none)else(if 0≤(GW eY x4)then(if(GW eY x4)<(x0.length:Int)then((ey.f k ((J x0 (GW eY x4)).f0) ((J x0 (GW eY x4)).f1) ((J x0 (GW eY x4)).f2) ((J x0 (GW eY x4)).f3)).bind fun Ei=>(if Ei=true then(if((J x0 (GW eY x4)).f0)=(F5 ((F5 (aQ eY x4))+1))then(if(GW eY x4)<(kx.length:Int)then(bX.l1 k x0 x4 x7 eY (F5 (eY-1)) (kx.set ((GW eY x4):Int).toNat (⟨(J x0 (GW eY x4)).f0,(J x0 (GW eY x4)).f1,(J x0 (GW eY x4)).f2,(J x0 (GW eY x4)).f3⟩:aK)) ql qm qn)else(none))else(if 0≤(GW x7 x4)then(if(GW x7 x4)<(x0.length:Int)then((ao.f k kx (F5 (x7+1)) (F5 ((F5 (aQ (F5 (x7+1)) x4))+1)) (mx ((J x0 (GW x7 x4)).f1) j4)).bind fun te=>(if te=true then(some (kx,F5 (x7+1),F5 ((F5 (aQ (F5 (x7+1)) x4))+1),mx ((J x0 (GW x7 x4)).f1) j4,true))else(some (([]:List (aK)),0,0,0,false))))else(none))else(none)))else(if 0≤(GW x7 x4)then(if(GW x7 x4)<(x0.length:Int)then((ao.f k kx (F5 (x7+1)) (F5 ((F5 (aQ (F5 (x7+1)) x4))+1)) (mx ((J x0 (GW x7 x4)).f1) j4)).bind fun tf=>(if tf=true then(some (kx,F5 (x7+1),F5 ((F5 (aQ (F5 (x7+1)) x4))+1),mx ((J x0 (GW x7 x4)).f1) j4,true))else(some (([]:List (aK)),0,0,0,false))))else(none))else(none))))else(none))else(none)))else(if x4=0 then(none)else(if 0≤(GW x7 x4)then(if(GW x7 x4)<(x0.length:Int)then((ao.f k kx (F5 (x7+1)) (F5 ((F5 (aQ (F5 (x7+1)) x4))+1)) (mx ((J x0 (GW x7 x4)).f1) j4)).bind fun ya=>(if ya=true then(some (kx,F5 (x7+1),F5 ((F5 (aQ (F5 (x7+1)) x4))+1),mx ((J x0 (GW x7 x4)).f1) j4,true))else(some (([]:List (aK)),0,0,0,false))))else(none))else(none)))
end
def bX.f(k:Nat)(l0:List (aK)):Option ((List (aK))×Int×Int×Int×Bool):=(kW.f k (l0.length:Int)).bind fun pZ=>(if pZ.2.2.2.2=true then(bX.l0 k l0 (l0.length:Int) (-1) l0 (l0.length:Int) 0 pZ.1 pZ.2.1 pZ.2.2.1 pZ.2.2.2.1)else(some (([]:List (aK)),0,0,0,false)))
theorem bX.eC:∀k,(∀y0 y1 y2 y3 y4 y5 y6 y7 y8 y9,aJ (bX.l0 k y0 y1 y2 y3 y4 y5 y6 y7 y8 y9) (bX.l0 (k+1) y0 y1 y2 y3 y4 y5 y6 y7 y8 y9))∧(∀y0 y1 y2 y3 y4 y5 y6 y7 y8,aJ (bX.l1 k y0 y1 y2 y3 y4 y5 y6 y7 y8) (bX.l1 (k+1) y0 y1 y2 y3 y4 y5 y6 y7 y8))∧(∀y0 y1 y2 y3 y4 y5 y6 y7 y8 y9,aJ (bX.j2 k y0 y1 y2 y3 y4 y5 y6 y7 y8 y9) (bX.j2 (k+1) y0 y1 y2 y3 y4 y5 y6 y7 y8 y9))
 |0=>⟨fun _ _ _ _ _ _ _ _ _ _ r h=>by simp[bX.l0]at h,fun _ _ _ _ _ _ _ _ _ r h=>by simp[bX.l1]at h,fun _ _ _ _ _ _ _ _ _ _ r h=>by simp[bX.j2]at h⟩
 |k+1=>by
  obtain⟨cj,ih1,ih2⟩:=bX.eC k
  refine⟨?_, ?_, ?_⟩<;>intros<;>first|unfold bX.l0|unfold bX.l1|unfold bX.j2
  all_goals repeat' first
   |(with_reducible exact cj _ _ _ _ _ _ _ _ _ _)
   |(with_reducible exact ih1 _ _ _ _ _ _ _ _ _)
   |(with_reducible exact ih2 _ _ _ _ _ _ _ _ _ _)
   |(with_reducible exact ao.mono _ _ _ _ _)
   |(with_reducible exact kW.mono _ _)
   |(with_reducible exact ey.mono _ _ _ _ _)
   |(with_reducible exact aJ.refl _)
   |(with_reducible exact aJ.none _)
   |(with_reducible refine aJ.ite ?_ ?_)
   |(with_reducible refine aJ.bind ?_ (fun _=> ?_))
   |exact cj _ _ _ _ _ _ _ _ _ _
   |exact ih1 _ _ _ _ _ _ _ _ _
   |exact ih2 _ _ _ _ _ _ _ _ _ _
   |exact ao.mono _ _ _ _ _
   |exact kW.mono _ _
   |exact ey.mono _ _ _ _ _
   |exact aJ.none _
   |refine aJ.ite ?_ ?_
   |refine aJ.bind ?_ (fun _=> ?_)
theorem bX.mono:∀a0 k,aJ (bX.f k a0) (bX.f (k+1) a0):=by
 intro a0 k;obtain⟨cj,ih1,ih2⟩:=bX.eC k;unfold bX.f
 repeat' with_reducible first|exact cj _ _ _ _ _ _ _ _ _ _|exact ih1 _ _ _ _ _ _ _ _ _|exact ih2 _ _ _ _ _ _ _ _ _ _|exact ao.mono _ _ _ _ _|exact kW.mono _ _|exact ey.mono _ _ _ _ _|exact aJ.refl _|exact aJ.none _|refine aJ.ite ?_ ?_|refine aJ.bind ?_ (fun _=> ?_)
def bX.WB:Bool×List (List Nat×List Nat):=(true,[([],[]),([0],[0]),([1],[1]),([2,1],[2]),([3],[3]),([4,3],[3,4]),([3],[3]),([3],[3]),([6,7,3],[3,6,7]),([8,3],[3,8]),([5,9,3],[3,5,9]),([3,10],[3,10])])
def bX.B19:List Nat:=[0,1,3,7,15,31,15,15,207,463,1023,2047]
theorem bX.LM:dt .any (gN Tryd.f7 19)=bX.WB:=by kernel_rfl
theorem bX.KU:fh bX.WB.2 bX.B19=true:=by kernel_rfl
def bX.F7:Bool×List (List Nat×List Nat):=(true,[([],[]),([0],[0]),([],[]),([],[]),([2,3],[2,3]),([],[]),([1,4,0,1,2,3,4,5],[1,4]),([6,5,0,1,2,3,4,5],[5,6])])
def bX.NF:List Nat:=[0,1,0,0,12,0,63,127]
theorem bX.Gn:dt .any (gN Tryd.f7 20)=bX.F7:=by kernel_rfl
theorem bX.GX:fh bX.F7.2 bX.NF=true:=by kernel_rfl
theorem bX.calls(k:Nat)(A0:Option Addr)(c0:Nat)(l0:List (aK))(r1:List (aK))(r2:Int)(r3:Int)(r4:Int)(r5:Bool)(w:World)(df:Z (Ito.lz w))(hr0:Kd.C bD w A0 l0.length l0)(hc0:l0.length≤c0)(h:bX.f k l0=some (r1,r2,r3,r4,r5)):
 Calls aaf 7 #[.slice A0 l0.length c0] w fun e w'=>∃fA:Value,e= .returned (.tuple #[.agg #[fA,.int .i64 r2,.int .i64 r3,.int .i64 r4],.bool r5])∧Kd.R bD 36 w' w.heap.size (fun _=>True) fA r1∧Below w.heap.size w w':=by
 have lP:=aac;have kH:=aan;have fO:=Ah hr0;have tq:=Ah hc0;clear hr0 hc0;have HB:=Ah (aag w.heap.size w);have H:((kW.f k (l0.length:Int)).bind fun pZ=>(if pZ.2.2.2.2=true then(bX.l0 k l0 (l0.length:Int) (-1) l0 (l0.length:Int) 0 pZ.1 pZ.2.1 pZ.2.2.1 pZ.2.2.2.1)else(some (([]:List (aK)),0,0,0,false))))=some (r1,r2,r3,r4,r5):=h;clear h;replace H:=Ok.mp H;obtain⟨⟨oS,km,kn,ko,a6w⟩,eg,H⟩:=H
 try dsimp only at H
 have A2:=Ah eg;clear eg
 by_cases c3:a6w=true
 rotate_left
 ·
  replace c3:=iK.mpr c3;subst c3;rw[if_neg dM]at H;simp only[aaa,aad]at H;obtain⟨rfl,rfl,rfl,rfl,rfl⟩:=H
  go_enter Tryd.func7,Tryd.ntmps7
  go_wp2_with (first|((with_reducible refine bY (N:=2) rfl ?_);refine br 2 25 #[.slice none 0 0,.int .i64 0,.int .i64 0,.int .i64 0] ?_;intro gQ hg w139 bN hb;have a4f:=gw hg (bs HB);have dY:=gw hg (bs HB);replace HB:=Ah (aM (bs HB) hb);clear hb hg)|((with_reducible refine bU (f:=25) rfl ?_);refine gL (some 17) rfl rfl Tryd.func25 (by kernel_rfl) rfl #[.int .i64 (l0.length:Int)] rfl ?_;(with_reducible refine(kW.calls k (l0.length:Int) oS km kn ko false _ ?sideT A2.out).mono ?_);(case sideT=>refine⟨Ito.ea df.out ?_⟩;first|exact bs HB|exact eJ|(repeat(first|(with_reducible first|exact HB.out|apply dH|apply dZ|apply bc|refine cn ?_ (Z.out (by assumption)))|exact HB.out)));rintro e w140 ⟨a6x,rfl,ho0,hb⟩;refine⟨_,rfl, ?_⟩;have vr:=Ah (Kd.eZ ho0 (eo (aX HB dY)));replace bN:=nb bN hb;replace HB:=Ah (aM (aX HB dY) hb);(try clear hb ho0))|((with_reducible refine bY (N:=5) rfl ?_);refine br 5 25 #[.slice none 0 0,.int .i64 0,.int .i64 0,.int .i64 0] ?_;intro bo hg w141 bO hb;replace vr:=nr vr hb;have pa:=gw hg (aX HB dY);have eF:=gw hg (aX HB dY);replace HB:=Ah (aM (aX HB dY) hb);have kw:=nn bN hg;have rz:=nm bN hg;replace bN:=nb bN hb;clear hb hg;obtain⟨Ao142,co142,a4g⟩:=Kd.dI vr.out;subst a4g;have hnb143:=rz.out;have hnc143:=kw.out;obtain⟨hcz144_0,hcz144_1,hcz144_2,hcz144_3⟩:=aT bO;obtain⟨hfz144_0,hfz144_1,hfz144_2,hfz144_3⟩:=aU bO;obtain⟨hcz145_0,hcz145_1,hcz145_2,hcz145_3⟩:=aT bN;obtain⟨hfz145_0,hfz145_1,hfz145_2,hfz145_3⟩:=aU bN))
  refine bodyPost_ret (gC rfl _ _ gQ 25 #[.slice none 0 0,.int .i64 0,.int .i64 0,.int .i64 0] (0,0) _ rfl (oZ bN kw) aac rfl (by kernel_rfl)) rfl ?_;exact⟨_,er,by first|exact Kd.kA _ _ _ _ _|exact Kd.lm _ _ _ _ _|exact Kd.ln _ _ _ _ _|exact Kd.lh _ _ _ _ _|exact Kd.ll _ _ _ _ _,an HB dY eF⟩
 subst c3;rw[if_pos rfl]at H;have H':=Ah H;clear H
 go_enter Tryd.func7,Tryd.ntmps7
 go_wp2_with (first|((with_reducible refine bY (N:=2) rfl ?_);refine br 2 25 #[.slice none 0 0,.int .i64 0,.int .i64 0,.int .i64 0] ?_;intro gQ hg w4 bN hb;have a4f:=gw hg (bs HB);have dY:=gw hg (bs HB);replace HB:=Ah (aM (bs HB) hb);clear hb hg)|((with_reducible refine bU (f:=25) rfl ?_);refine gL (some 17) rfl rfl Tryd.func25 (by kernel_rfl) rfl #[.int .i64 (l0.length:Int)] rfl ?_;(with_reducible refine(kW.calls k (l0.length:Int) oS km kn ko true _ ?sideT A2.out).mono ?_);(case sideT=>refine⟨Ito.ea df.out ?_⟩;first|exact bs HB|exact eJ|(repeat(first|(with_reducible first|exact HB.out|apply dH|apply dZ|apply bc|refine cn ?_ (Z.out (by assumption)))|exact HB.out)));rintro e w5 ⟨a6x,rfl,ho0,hb⟩;refine⟨_,rfl, ?_⟩;have vr:=Ah (Kd.eZ ho0 (eo (aX HB dY)));replace bN:=nb bN hb;replace HB:=Ah (aM (aX HB dY) hb);(try clear hb ho0))|((with_reducible refine bY (N:=5) rfl ?_);refine br 5 25 #[.slice none 0 0,.int .i64 0,.int .i64 0,.int .i64 0] ?_;intro bo hg w6 bO hb;replace vr:=nr vr hb;have pa:=gw hg (aX HB dY);have eF:=gw hg (aX HB dY);replace HB:=Ah (aM (aX HB dY) hb);have kw:=nn bN hg;have rz:=nm bN hg;replace bN:=nb bN hb;clear hb hg;obtain⟨wb,tx,NO⟩:=Kd.dI vr.out;subst NO;have hnb8:=rz.out;have hnc8:=kw.out;obtain⟨so,sp,sq,vL⟩:=aT bO;obtain⟨vM,sr,st,vN⟩:=aU bO))
 go_loopg [7,25] k (fun kq v7 v25 w'=>∃ (ax:Int) (cp:Int),v7= .int .i64 ax∧v25= .int .i64 cp∧Z (bX.l0 kq l0 (l0.length:Int) ax l0 (l0.length:Int) cp oS km kn ko=some (r1,r2,r3,r4,r5))∧Z (kq≤k)∧Z (Kd.R bD 36 w' w.heap.size (fun _=>True) (.slice wb oS.length tx) oS)∧Z (w'.heap[gQ]?=some (.cells #[(.slice none 0 0),.int .i64 0,.int .i64 0,.int .i64 0] 25 (0,0)))∧Z (w'.heap[bo]?=some (.cells #[(.slice wb oS.length tx),.int .i64 km,.int .i64 kn,.int .i64 ko] 25 (0,0)))∧Z (Below w.heap.size w w'))
 case atStart=>exact⟨((-1)),(0),e3,e3,H',⟨kV _⟩,⟨by(with_reducible repeat(first|apply Kd.bK|apply Kd.bL|apply Kd.au));exact Kd.am (Kd.aH (p:=⟨bo,3,none⟩) (Kd.aH (p:=⟨bo,2,none⟩) (Kd.aH (p:=⟨bo,1,none⟩) (Kd.aH (p:=⟨bo,0,none⟩) (Kd.dv vr.out bO.out (by decide)) (fun _ hk=>hk.2) (.slice wb oS.length tx)) (fun _ hk=>hk.2) (.int .i64 km)) (fun _ hk=>hk.2) (.int .i64 kn)) (fun _ hk=>hk.2) (.int .i64 ko)) (fun _ hk=>trivial)⟩,⟨bf bN kw⟩,⟨by exact pb bO⟩,⟨an HB dY eF⟩⟩
 case round=>
  clear H'
  try clear c2
  try clear p2
  try clear c3
  try clear c7
  try clear c8
  try clear so sp sq vL
  try clear vM sr st vN
  obtain⟨ax,cp,rfl,rfl,HA,dp,bw,bN,bO,HB⟩:=hrel
  cases gk with
  |zero=>exact absurd HA.out (by simp[bX.l0])
  |succ k1=>
   have H:=HA.out;clear HA;simp only[bX.l0]at H
   by_cases c10:cp<(l0.length:Int)
   ·
    rw[if_pos c10]at H;have iU:=bV c10;clear c10
    by_cases c11:0≤cp
    rotate_left
    ·
     rw[if_neg c11]at H;exact absurd H (by simp)
    rw[if_pos c11]at H;have lu:=bV c11;clear c11
    by_cases c12:cp<(l0.length:Int)
    rotate_left
    ·
     rw[if_neg c12]at H;exact absurd H (by simp)
    rw[if_pos c12]at H;have DJ:=bV c12;clear c12;replace H:=Ok.mp H;obtain⟨Mg,Ug,H⟩:=H
    try dsimp only at H
    have IJ:=Ah Ug;clear Ug
    by_cases c14:Mg=true
    rotate_left
    ·
     replace c14:=iK.mpr c14;subst c14;rw[if_neg dM]at H;have H':=Ah H;clear H;have nY:0≤(cp:Int):=od;have nZ:cp<(l0.length:Int):=od;obtain⟨Sm,Ej,qo,qp,qq,qr⟩:=fW fO.out cp nY nZ
     cases Ej
     replace qo:=hq HB qo;replace qp:=hq HB qp;replace qq:=hq HB qq;replace qr:=hq HB qr;replace nY:=eq_true nY;replace nZ:=eq_true nZ
     go_wp2_with (first|((with_reducible refine bY (N:=9) rfl ?_);refine br 9 36 #[.int .i64 0,.int .i64 0,.string (⟨#[]⟩:ByteArray),.int .i64 0] ?_;intro it hg F8 kj hb;replace bw:=Ah (Kd.bB (Kd.e8 (rr bw.out) it (aah hg.symm)) hb);have Sn:=gw hg (an HB dY eF);have vt:=gw hg (an HB dY eF);replace HB:=Ah (aM (an HB dY eF) hb);have uF:=nn bN hg;have Bd:=nm bN hg;replace bN:=nb bN hb;have uG:=nn bO hg;have Be:=nm bO hg;replace bO:=nb bO hb;clear hb hg;have hnb30:=Bd.out;have hnc30:=uF.out;have hnb31:=Be.out;have hnc31:=uG.out;obtain⟨Px,Py,Pz,Q0⟩:=aT kj;obtain⟨Q1,Q2,Q3,Q4⟩:=aU kj)|((with_reducible refine bU (f:=26) rfl ?_);refine gL (some 31) rfl rfl aa7 (by kernel_rfl) rfl #[.agg #[.int .i64 ((J l0 cp).f0),.int .i64 ((J l0 cp).f1),.string ((J l0 cp).f2),.int .i64 ((J l0 cp).f3)]] rfl ?_;(with_reducible refine(ey.calls k1 ((J l0 cp).f0) ((J l0 cp).f1) ((J l0 cp).f2) ((J l0 cp).f3) false _ ?sideT IJ.out).mono ?_);(case sideT=>refine⟨Ito.ea df.out ?_⟩;first|exact bs HB|exact eJ|(repeat(first|(with_reducible first|exact HB.out|apply dH|apply dZ|apply bc|refine cn ?_ (Z.out (by assumption)))|exact HB.out)));rintro e w33 ⟨rfl,hb⟩;refine⟨_,rfl, ?_⟩;replace bw:=Ah (Kd.bB (by(with_reducible repeat(first|apply Kd.bK|apply Kd.bL|apply Kd.au));exact(Kd.am (Kd.aH (p:=⟨it,3,none⟩) (Kd.aH (p:=⟨it,2,none⟩) (Kd.aH (p:=⟨it,1,none⟩) (Kd.aH (p:=⟨it,0,none⟩) (Kd.am bw.out (fun k_ hk=>(⟨hk,hk.2⟩:_∧k_≠it))) (fun _ hk=>hk.2) (.int .i64 ((J l0 cp).f0))) (fun _ hk=>hk.2) (.int .i64 ((J l0 cp).f1))) (fun _ hk=>hk.2) (.string ((J l0 cp).f2))) (fun _ hk=>hk.2) (.int .i64 ((J l0 cp).f3))) (fun _ h_=>h_.1))) hb);replace bN:=Ah (bq (bf bN uF) hb);replace bO:=Ah (bq (bf bO uG) hb);replace kj:=Ah (bq (g:=it) (o:= .cells #[.int .i64 ((J l0 cp).f0),.int .i64 ((J l0 cp).f1),.string ((J l0 cp).f2),.int .i64 ((J l0 cp).f3)] 36 (0,0)) (pb kj) hb);replace HB:=Ah (aM (d9 HB dY eF vt) hb);(try clear hb hk)))
     go_roundg k1
     case measure=>have:=dp.out;omega
     case rel=>exact⟨(ax),(F5 (cp+1)),e3,e3,H',⟨by have:=dp.out;omega⟩,rm bw (fun _ hk=>trivial),⟨bk bN⟩,⟨bk bO⟩,⟨d9 HB dY eF vt⟩⟩
    subst c14;rw[if_pos rfl]at H
    by_cases c15:((J l0 cp).f0)>0
    rotate_left
    ·
     rw[if_neg c15]at H;have LN:=ev c15;clear c15;have H':=Ah H;clear H;have nY:0≤(cp:Int):=od;have nZ:cp<(l0.length:Int):=od;obtain⟨Sm,Ej,qo,qp,qq,qr⟩:=fW fO.out cp nY nZ
     cases Ej
     replace qo:=hq HB qo;replace qp:=hq HB qp;replace qq:=hq HB qq;replace qr:=hq HB qr;replace nY:=eq_true nY;replace nZ:=eq_true nZ
     go_wp2_with (first|((with_reducible refine bY (N:=9) rfl ?_);refine br 9 36 #[.int .i64 0,.int .i64 0,.string (⟨#[]⟩:ByteArray),.int .i64 0] ?_;intro it hg rj kj hb;replace bw:=Ah (Kd.bB (Kd.e8 (rr bw.out) it (aah hg.symm)) hb);have Sn:=gw hg (an HB dY eF);have vt:=gw hg (an HB dY eF);replace HB:=Ah (aM (an HB dY eF) hb);have uF:=nn bN hg;have Bd:=nm bN hg;replace bN:=nb bN hb;have uG:=nn bO hg;have Be:=nm bO hg;replace bO:=nb bO hb;clear hb hg;have a4h:=Bd.out;have a4i:=uF.out;have Sa:=Be.out;have Sb:=uG.out;obtain⟨ui,uj,uk,ul⟩:=aT kj;obtain⟨um,uo,uq,ur⟩:=aU kj)|((with_reducible refine bU (f:=26) rfl ?_);refine gL (some 31) rfl rfl aa7 (by kernel_rfl) rfl #[.agg #[.int .i64 ((J l0 cp).f0),.int .i64 ((J l0 cp).f1),.string ((J l0 cp).f2),.int .i64 ((J l0 cp).f3)]] rfl ?_;(with_reducible refine(ey.calls k1 ((J l0 cp).f0) ((J l0 cp).f1) ((J l0 cp).f2) ((J l0 cp).f3) true _ ?sideT IJ.out).mono ?_);(case sideT=>refine⟨Ito.ea df.out ?_⟩;first|exact bs HB|exact eJ|(repeat(first|(with_reducible first|exact HB.out|apply dH|apply dZ|apply bc|refine cn ?_ (Z.out (by assumption)))|exact HB.out)));rintro e IH ⟨rfl,hb⟩;refine⟨_,rfl, ?_⟩;replace bw:=Ah (Kd.bB (by(with_reducible repeat(first|apply Kd.bK|apply Kd.bL|apply Kd.au));exact(Kd.am (Kd.aH (p:=⟨it,3,none⟩) (Kd.aH (p:=⟨it,2,none⟩) (Kd.aH (p:=⟨it,1,none⟩) (Kd.aH (p:=⟨it,0,none⟩) (Kd.am bw.out (fun k_ hk=>(⟨hk,hk.2⟩:_∧k_≠it))) (fun _ hk=>hk.2) (.int .i64 ((J l0 cp).f0))) (fun _ hk=>hk.2) (.int .i64 ((J l0 cp).f1))) (fun _ hk=>hk.2) (.string ((J l0 cp).f2))) (fun _ hk=>hk.2) (.int .i64 ((J l0 cp).f3))) (fun _ h_=>h_.1))) hb);replace bN:=Ah (bq (bf bN uF) hb);replace bO:=Ah (bq (bf bO uG) hb);replace kj:=Ah (bq (g:=it) (o:= .cells #[.int .i64 ((J l0 cp).f0),.int .i64 ((J l0 cp).f1),.string ((J l0 cp).f2),.int .i64 ((J l0 cp).f3)] 36 (0,0)) (pb kj) hb);replace HB:=Ah (aM (d9 HB dY eF vt) hb);(try clear hb hk);obtain⟨uU,uV,uW,uX⟩:=aT kj;obtain⟨uY,uZ,ua,ub⟩:=aU kj))
     go_roundg k1
     case measure=>have:=dp.out;omega
     case rel=>exact⟨(ax),(F5 (cp+1)),e3,e3,H',⟨by have:=dp.out;omega⟩,rm bw (fun _ hk=>trivial),⟨bk bN⟩,⟨bk bO⟩,⟨d9 HB dY eF vt⟩⟩
    rw[if_pos c15]at H;have LN:=bV c15;clear c15;obtain⟨Mh,DP⟩:∃j_:Int,(mx ax (F5 ((F5 ((F5 (((J l0 cp).f0)-1))*(l0.length:Int)))+cp)))=j_:=⟨_,rfl⟩
    replace H:(bX.l0 k1 l0 (l0.length:Int) Mh l0 (l0.length:Int) (F5 (cp+1)) oS km kn ko)=some (r1,r2,r3,r4,r5):=by first|(rw[DP]at H;exact H)|(simp only[DP]at H⊢;exact H)
    (try rw[DP]at IJ);have hji16_:(if ax<(F5 ((F5 ((F5 (((J l0 cp).f0)-1))*(l0.length:Int)))+cp))then(F5 ((F5 ((F5 (((J l0 cp).f0)-1))*(l0.length:Int)))+cp))else ax)=Mh:=DP;have H':=Ah H;clear H;have nY:0≤(cp:Int):=od;have nZ:cp<(l0.length:Int):=od;obtain⟨Sm,Ej,qo,qp,qq,qr⟩:=fW fO.out cp nY nZ
    cases Ej
    replace qo:=hq HB qo;replace qp:=hq HB qp;replace qq:=hq HB qq;replace qr:=hq HB qr;replace nY:=eq_true nY;replace nZ:=eq_true nZ
    go_wp2_with (first|((with_reducible refine bY (N:=9) rfl ?_);refine br 9 36 #[.int .i64 0,.int .i64 0,.string (⟨#[]⟩:ByteArray),.int .i64 0] ?_;intro it hg z7 kj hb;replace bw:=Ah (Kd.bB (Kd.e8 (rr bw.out) it (aah hg.symm)) hb);have Sn:=gw hg (an HB dY eF);have vt:=gw hg (an HB dY eF);replace HB:=Ah (aM (an HB dY eF) hb);have uF:=nn bN hg;have Bd:=nm bN hg;replace bN:=nb bN hb;have uG:=nn bO hg;have Be:=nm bO hg;replace bO:=nb bO hb;clear hb hg;have LO:=Bd.out;have LP:=uF.out;have L9:=Be.out;have LA:=uG.out;obtain⟨ou,ov,ow,ox⟩:=aT kj;obtain⟨oy,oz,p7,p8⟩:=aU kj)|((with_reducible refine bU (f:=26) rfl ?_);refine gL (some 31) rfl rfl aa7 (by kernel_rfl) rfl #[.agg #[.int .i64 ((J l0 cp).f0),.int .i64 ((J l0 cp).f1),.string ((J l0 cp).f2),.int .i64 ((J l0 cp).f3)]] rfl ?_;(with_reducible refine(ey.calls k1 ((J l0 cp).f0) ((J l0 cp).f1) ((J l0 cp).f2) ((J l0 cp).f3) true _ ?sideT IJ.out).mono ?_);(case sideT=>refine⟨Ito.ea df.out ?_⟩;first|exact bs HB|exact eJ|(repeat(first|(with_reducible first|exact HB.out|apply dH|apply dZ|apply bc|refine cn ?_ (Z.out (by assumption)))|exact HB.out)));rintro e oe ⟨rfl,hb⟩;refine⟨_,rfl, ?_⟩;replace bw:=Ah (Kd.bB (by(with_reducible repeat(first|apply Kd.bK|apply Kd.bL|apply Kd.au));exact(Kd.am (Kd.aH (p:=⟨it,3,none⟩) (Kd.aH (p:=⟨it,2,none⟩) (Kd.aH (p:=⟨it,1,none⟩) (Kd.aH (p:=⟨it,0,none⟩) (Kd.am bw.out (fun k_ hk=>(⟨hk,hk.2⟩:_∧k_≠it))) (fun _ hk=>hk.2) (.int .i64 ((J l0 cp).f0))) (fun _ hk=>hk.2) (.int .i64 ((J l0 cp).f1))) (fun _ hk=>hk.2) (.string ((J l0 cp).f2))) (fun _ hk=>hk.2) (.int .i64 ((J l0 cp).f3))) (fun _ h_=>h_.1))) hb);replace bN:=Ah (bq (bf bN uF) hb);replace bO:=Ah (bq (bf bO uG) hb);replace kj:=Ah (bq (g:=it) (o:= .cells #[.int .i64 ((J l0 cp).f0),.int .i64 ((J l0 cp).f1),.string ((J l0 cp).f2),.int .i64 ((J l0 cp).f3)] 36 (0,0)) (pb kj) hb);replace HB:=Ah (aM (d9 HB dY eF vt) hb);(try clear hb hk);obtain⟨qb,qc,qd,qe⟩:=aT kj;obtain⟨qf,qg,qh,qi⟩:=aU kj))
    go_roundg k1
    case measure=>have:=dp.out;omega
    case rel=>exact⟨(Mh),(F5 (cp+1)),(by first|rfl|(simp;done)|(simp only[←DP]<;>(first|rfl|simp))|(simp[*];done)),e3,H',⟨by have:=dp.out;omega⟩,rm bw (fun _ hk=>trivial),⟨bk bN⟩,⟨bk bO⟩,⟨d9 HB dY eF vt⟩⟩
   rw[if_neg c10]at H;have iU:=ev c10;clear c10
   by_cases c34:ax<0
   ·
    rw[if_pos c34]at H;have xj:=bV c34;clear c34;simp only[aaa,aad]at H;obtain⟨rfl,rfl,rfl,rfl,rfl⟩:=H;have hnb35:=rz.out;have hnc35:=kw.out;obtain⟨Q5,Q6,Q7,Q8⟩:=aT bO;obtain⟨Q9,QA,QB,QC⟩:=aU bO;obtain⟨sU,sV,sW,sX⟩:=aT bN;obtain⟨sY,sZ,sa,sb⟩:=aU bN
    go_wp2
    refine bodyPost_ret (gC rfl _ _ gQ 25 #[.slice wb oS.length tx,.int .i64 km,.int .i64 kn,.int .i64 ko] (0,0) _ rfl (pb bN) aac rfl (by kernel_rfl)) rfl ?_;exact⟨_,er,by(with_reducible repeat(first|apply Kd.bK|apply Kd.bL|apply Kd.au));exact Kd.am (Kd.aH (p:=⟨gQ,3,none⟩) (Kd.aH (p:=⟨gQ,2,none⟩) (Kd.aH (p:=⟨gQ,1,none⟩) (Kd.aH (p:=⟨gQ,0,none⟩) (Kd.dv bw.out bN.out (by decide)) (fun _ hk=>hk.2) (.slice wb oS.length tx)) (fun _ hk=>hk.2) (.int .i64 km)) (fun _ hk=>hk.2) (.int .i64 kn)) (fun _ hk=>hk.2) (.int .i64 ko)) (fun _ hk=>trivial),an HB dY eF⟩
   rw[if_neg c34]at H;have xj:=ev c34;clear c34;have H':=Ah H;clear H
   go_wp2
   go_loopg [10,11] k1 (fun kq v10 v11 w'=>∃ (fz:Int) (gR:Int) (dE:List (aK)) (pF:Value),v10= .int .i64 fz∧v11= .int .i64 gR∧Z (bX.l1 kq l0 (l0.length:Int) ax fz gR dE km kn ko=some (r1,r2,r3,r4,r5))∧Z (kq≤k1)∧Z (Kd.R bD 36 w' w.heap.size (fun _=>True) pF dE)∧Z (w'.heap[gQ]?=some (.cells #[(.slice none 0 0),.int .i64 0,.int .i64 0,.int .i64 0] 25 (0,0)))∧Z (w'.heap[bo]?=some (.cells #[pF,.int .i64 km,.int .i64 kn,.int .i64 ko] 25 (0,0)))∧Z (Below w.heap.size w w'))
   case atStart=>exact⟨(ax),(ax),(oS),(.slice wb oS.length tx),e3,e3,H',⟨kV _⟩,⟨rr bw.out⟩,⟨bk bN⟩,⟨bk bO⟩,⟨an HB dY eF⟩⟩
   case round=>
    clear H'
    try clear c1
    try clear c2
    try clear p2
    try clear c3
    try clear p3
    try clear q3
    try clear hx3
    try clear p6
    try clear c7
    try clear c8
    try clear c10
    try clear iU
    try clear c11
    try clear lu
    try clear c12
    try clear DJ
    try clear c14
    try clear c15
    try clear LN
    try clear c18
    try clear c19
    try clear c24
    try clear mY
    try clear iY
    try clear Vo
    try clear c31
    try clear c34
    try clear xj
    try clear lZ
    try clear p35
    try clear rh
    try clear a6y
    try clear ou ov ow ox
    try clear qb qc qd qe
    try clear ui uj uk ul
    try clear uU uV uW uX
    try clear Px Py Pz Q0
    try clear Q5 Q6 Q7 Q8
    try clear sU sV sW sX
    try clear so sp sq vL
    try clear oy oz p7 p8
    try clear qf qg qh qi
    try clear um uo uq ur
    try clear uY uZ ua ub
    try clear Q1 Q2 Q3 Q4
    try clear Q9 QA QB QC
    try clear sY sZ sa sb
    try clear vM sr st vN
    try clear qo
    try clear qp
    try clear qq
    try clear qr
    try clear p2
    try clear nY
    try clear nZ
    obtain⟨fz,gR,dE,pF,rfl,rfl,HA,fp,bw,bN,bO,HB⟩:=hrel
    cases gk with
    |zero=>exact absurd HA.out (by simp[bX.l1])
    |succ k2=>
     have H:=HA.out;clear HA;simp only[bX.l1]at H;have Mi:=Ah H;clear H
     go_upto_region 16 with(fail)
     go_cut [60] (fun v60 wc=>∃ (kq:Nat) (Gb:Bool),v60= .bool Gb∧Z (bX.j2 kq l0 (l0.length:Int) ax fz gR Gb dE km kn ko=some (r1,r2,r3,r4,r5))∧Z (kq≤k2)∧Z (Kd.R bD 36 wc w.heap.size (fun _=>True) pF dE)∧Z (wc.heap[gQ]?=some (.cells #[(.slice none 0 0),.int .i64 0,.int .i64 0,.int .i64 0] 25 (0,0)))∧Z (wc.heap[bo]?=some (.cells #[pF,.int .i64 km,.int .i64 kn,.int .i64 ko] 25 (0,0)))∧Z (Below w.heap.size w wc))
     case first=>
      have H:=Mi.out;clear Mi
      by_cases lG:gR≥0
      rotate_left
      ·
       rw[if_neg lG]at H;have tQ:=ev lG;clear lG;(first|rw[tQ]|(simp only[fx,gg];rw[tQ])|(simp only[HS,aaD,Bool.not_true])|skip);have H':=Ah H;clear H
       go_wp2
       go_meet
       case rel=>exact⟨_,(false),e3,H',⟨by have:=dp.out;have:=fp.out;first|omega|exact kV _⟩,⟨rr bw.out⟩,⟨bk bN⟩,⟨bk bO⟩,⟨an HB dY eF⟩⟩
      rw[if_pos lG]at H;have tQ:=bV lG;clear lG;(first|rw[tQ]|(simp only[fx,gg];rw[tQ])|(simp only[HS,aaD,Bool.not_true])|skip);have H':=Ah H;clear H
      go_wp2
      go_meet
      case rel=>exact⟨_,(decide (gR>(F5 (ax-(l0.length:Int))))),e3,H',⟨by have:=dp.out;have:=fp.out;first|omega|exact kV _⟩,⟨rr bw.out⟩,⟨bk bN⟩,⟨bk bO⟩,⟨an HB dY eF⟩⟩
     case rest=>
      clear Mi
      try clear c1
      try clear c2
      try clear p2
      try clear c3
      try clear p3
      try clear q3
      try clear hx3
      try clear p6
      try clear c7
      try clear c8
      try clear c10
      try clear iU
      try clear c11
      try clear lu
      try clear c12
      try clear DJ
      try clear c14
      try clear c15
      try clear LN
      try clear c18
      try clear c19
      try clear c24
      try clear mY
      try clear iY
      try clear Vo
      try clear c31
      try clear c34
      try clear xj
      try clear lZ
      try clear p35
      try clear rh
      try clear a6y
      try clear lG
      try clear tQ
      try clear ou ov ow ox
      try clear qb qc qd qe
      try clear ui uj uk ul
      try clear uU uV uW uX
      try clear Px Py Pz Q0
      try clear Q5 Q6 Q7 Q8
      try clear sU sV sW sX
      try clear so sp sq vL
      try clear oy oz p7 p8
      try clear qf qg qh qi
      try clear um uo uq ur
      try clear uY uZ ua ub
      try clear Q1 Q2 Q3 Q4
      try clear Q9 QA QB QC
      try clear sY sZ sa sb
      try clear vM sr st vN
      try clear qo
      try clear qp
      try clear qq
      try clear qr
      try clear p2
      try clear p3
      try clear p35
      try clear nY
      try clear p6
      try clear q3
      try clear rh
      try clear nZ
      obtain⟨kq,Gb,rfl,HA,Uh,bw,bN,bO,HB⟩:=hcut
      cases kq with
      |zero=>exact absurd HA.out (by simp[bX.j2])
      |succ ix=>
       have H:=HA.out;clear HA;simp only[bX.j2]at H
       by_cases c40:Gb=true
       rotate_left
       ·
        replace c40:=iK.mpr c40;subst c40;rw[if_neg dM]at H
        by_cases Ek:(l0.length:Int)=0
        ·
         rw[if_pos Ek]at H;exact absurd H (by simp)
        rw[if_neg Ek]at H;have c121b0:=g9 Ek;have c121b1:=gA Ek
        have c121b2:¬(l0=[]):=fun h_=>Ek (by rw[h_];rfl)
        obtain⟨oB,Gc⟩:∃j_:Int,(GW ax (l0.length:Int))=j_:=⟨_,rfl⟩
        replace H:(if 0≤(oB)then(if(oB)<(l0.length:Int)then((ao.f ix dE (F5 (ax+1)) (F5 ((F5 (aQ (F5 (ax+1)) (l0.length:Int)))+1)) (mx ((J l0 (oB)).f1) fz)).bind fun ya=>(if ya=true then(some (dE,F5 (ax+1),F5 ((F5 (aQ (F5 (ax+1)) (l0.length:Int)))+1),mx ((J l0 (oB)).f1) fz,true))else(some (([]:List (aK)),0,0,0,false))))else(none))else(none))=some (r1,r2,r3,r4,r5):=by first|(rw[Gc]at H;exact H)|(simp only[Gc]at H⊢;exact H)
        by_cases I8:0≤(oB)
        rotate_left
        ·
         rw[if_neg I8]at H;exact absurd H (by simp)
        rw[if_pos I8]at H;have c123b0:=bV I8;clear I8
        by_cases c124:(oB)<(l0.length:Int)
        rotate_left
        ·
         rw[if_neg c124]at H;exact absurd H (by simp)
        rw[if_pos c124]at H;have c124b0:=bV c124;clear c124;obtain⟨ly,xa⟩:∃j_:Int,(mx ((J l0 (oB)).f1) fz)=j_:=⟨_,rfl⟩
        replace H:((ao.f ix dE (F5 (ax+1)) (F5 ((F5 (aQ (F5 (ax+1)) (l0.length:Int)))+1)) (ly)).bind fun ya=>(if ya=true then(some (dE,F5 (ax+1),F5 ((F5 (aQ (F5 (ax+1)) (l0.length:Int)))+1),ly,true))else(some (([]:List (aK)),0,0,0,false))))=some (r1,r2,r3,r4,r5):=by first|(rw[xa]at H;exact H)|(simp only[xa]at H⊢;exact H)
        have hji125_:(if((J l0 (oB)).f1)<fz then fz else((J l0 (oB)).f1))=ly:=xa;replace H:=Ok.mp H;obtain⟨ya,So,H⟩:=H
        try dsimp only at H
        have Ui:=Ah So;clear So;have H_:=Ah H;clear H;have a1s:=rz.out;have a1t:=kw.out;obtain⟨hcz129_0,hcz129_1,hcz129_2,hcz129_3⟩:=aT bO;obtain⟨hfz129_0,hfz129_1,hfz129_2,hfz129_3⟩:=aU bO;have Mj:0≤((oB):Int):=od;have Mk:(oB)<(l0.length:Int):=od;obtain⟨Sp,a6z,us,zv,zw,zx⟩:=fW fO.out (oB) Mj Mk
        cases a6z
        have mw:Sp.block≠bo:=ek (WR (by have:=Fe _ _ us;first|rwa [aG]at this|exact this) pa.out);have my:Sp.block≠bo:=ek (WR (by have:=Fe _ _ us;first|rwa [aG]at this|exact this) pa.out);replace us:=hq HB us;replace zv:=hq HB zv;replace zw:=hq HB zw;replace zx:=hq HB zx;replace us:=(ah (p:=⟨bo,1,none⟩) (by first|(rw[aG];exact mw)|(show(ro _ _).block≠_;rw[aG];exact mw)|exact mw) (.int .i64 (F5 (ax+1)))).trans us;replace zv:=(ah (p:=⟨bo,1,none⟩) (by first|(rw[aG];exact mw)|(show(ro _ _).block≠_;rw[aG];exact mw)|exact mw) (.int .i64 (F5 (ax+1)))).trans zv;replace zw:=(ah (p:=⟨bo,1,none⟩) (by first|(rw[aG];exact mw)|(show(ro _ _).block≠_;rw[aG];exact mw)|exact mw) (.int .i64 (F5 (ax+1)))).trans zw;replace zx:=(ah (p:=⟨bo,1,none⟩) (by first|(rw[aG];exact mw)|(show(ro _ _).block≠_;rw[aG];exact mw)|exact mw) (.int .i64 (F5 (ax+1)))).trans zx;replace us:=(ah (p:=⟨bo,2,none⟩) (by first|(rw[aG];exact my)|(show(ro _ _).block≠_;rw[aG];exact my)|exact my) (.int .i64 (F5 ((F5 (aQ (F5 (ax+1)) (l0.length:Int)))+1)))).trans us;replace zv:=(ah (p:=⟨bo,2,none⟩) (by first|(rw[aG];exact my)|(show(ro _ _).block≠_;rw[aG];exact my)|exact my) (.int .i64 (F5 ((F5 (aQ (F5 (ax+1)) (l0.length:Int)))+1)))).trans zv;replace zw:=(ah (p:=⟨bo,2,none⟩) (by first|(rw[aG];exact my)|(show(ro _ _).block≠_;rw[aG];exact my)|exact my) (.int .i64 (F5 ((F5 (aQ (F5 (ax+1)) (l0.length:Int)))+1)))).trans zw;replace zx:=(ah (p:=⟨bo,2,none⟩) (by first|(rw[aG];exact my)|(show(ro _ _).block≠_;rw[aG];exact my)|exact my) (.int .i64 (F5 ((F5 (aQ (F5 (ax+1)) (l0.length:Int)))+1)))).trans zx;clear mw my;replace Mj:=eq_true Mj;replace Mk:=eq_true Mk;obtain⟨AZ,vu,a4j⟩:=Kd.dI bw.out;subst a4j;have H:=H_.out;clear H_
        by_cases c127:ya=true
        rotate_left
        ·
         replace c127:=iK.mpr c127;subst c127;rw[if_neg dM]at H;simp only[aaa,aad]at H;obtain⟨rfl,rfl,rfl,rfl,rfl⟩:=H
         go_wp2_with (first|((with_reducible refine bU (f:=21) rfl ?_);refine sn (some 109) rfl rfl aa8 (by kernel_rfl) rfl #[.agg #[.slice AZ dE.length vu,.int .i64 (F5 (ax+1)),.int .i64 (F5 ((F5 (aQ (F5 (ax+1)) (l0.length:Int)))+1)),.int .i64 ly]] rfl (by(try simp only[fT,gJ,j5]);first|done|(simp only[xa];rfl)|rfl|(simp only[fF,ca];rfl)) ?_;(with_reducible refine(ao.calls ix _ _ dE (F5 (ax+1)) (F5 ((F5 (aQ (F5 (ax+1)) (l0.length:Int)))+1)) ly false _ ?sideT ?aa ?ab Ui.out).mono ?_);(case sideT=>refine⟨Ito.ea df.out ?_⟩;first|exact bs HB|exact eJ|(repeat(first|(with_reducible first|exact HB.out|apply dH|apply dZ|apply bc|refine cn ?_ (Z.out (by assumption)))|exact HB.out)));(case aa=>refine(Kd.cM (e:=36) (base:=w.heap.size) (ok:=fun k_=>True) (n:=dE.length) (c:=vu) ?_).2.2;exact(by(with_reducible repeat(first|apply Kd.bK|apply Kd.bL|apply Kd.au));exact(Kd.am (Kd.aH (p:=⟨bo,3,none⟩) (Kd.aH (p:=⟨bo,2,none⟩) (Kd.aH (p:=⟨bo,1,none⟩) (Kd.dv bw.out bO.out (by decide)) (fun _ hk=>hk.2) (.int .i64 (F5 (ax+1)))) (fun _ hk=>hk.2) (.int .i64 (F5 ((F5 (aQ (F5 (ax+1)) (l0.length:Int)))+1)))) (fun _ hk=>hk.2) (.int .i64 ly)) (fun _ h_=>h_.1))));(case ab=>exact(Kd.cM bw.out).2.1);rintro e a5m ⟨rfl,hb⟩;refine⟨_,rfl, ?_⟩;replace bw:=Ah (Kd.bB (by(with_reducible repeat(first|apply Kd.bK|apply Kd.bL|apply Kd.au));exact(Kd.am (Kd.aH (p:=⟨bo,3,none⟩) (Kd.aH (p:=⟨bo,2,none⟩) (Kd.aH (p:=⟨bo,1,none⟩) (Kd.dv bw.out bO.out (by decide)) (fun _ hk=>hk.2) (.int .i64 (F5 (ax+1)))) (fun _ hk=>hk.2) (.int .i64 (F5 ((F5 (aQ (F5 (ax+1)) (l0.length:Int)))+1)))) (fun _ hk=>hk.2) (.int .i64 ly)) (fun _ h_=>h_.1))) hb);replace bN:=Ah (bq (bf bN kw) hb);replace bO:=Ah (bq (g:=bo) (o:= .cells #[.slice AZ dE.length vu,.int .i64 (F5 (ax+1)),.int .i64 (F5 ((F5 (aQ (F5 (ax+1)) (l0.length:Int)))+1)),.int .i64 ly] 25 (0,0)) (pb bO) hb);replace HB:=Ah (aM (an HB dY eF) hb);(try clear hb hk);obtain⟨hcz138_0,hcz138_1,hcz138_2,hcz138_3⟩:=aT bN;obtain⟨hfz138_0,hfz138_1,hfz138_2,hfz138_3⟩:=aU bN))
         refine bodyPost_ret (gC rfl _ _ gQ 25 #[.slice none 0 0,.int .i64 0,.int .i64 0,.int .i64 0] (0,0) _ rfl (pb bN) aac rfl (by kernel_rfl)) rfl ?_;exact⟨_,by first|rfl|(simp[cH,cI]<;>rfl)|(simp only[←Gc,←xa];first|rfl|(simp[cH,cI]<;>rfl))|(simp[*,cH,cI]<;>rfl),by first|exact Kd.kA _ _ _ _ _|exact Kd.lm _ _ _ _ _|exact Kd.ln _ _ _ _ _|exact Kd.lh _ _ _ _ _|exact Kd.ll _ _ _ _ _,an HB dY eF⟩
        subst c127;rw[if_pos rfl]at H;simp only[aaa,aad]at H;obtain⟨rfl,rfl,rfl,rfl,rfl⟩:=H
        go_wp2_with (first|((with_reducible refine bU (f:=21) rfl ?_);refine sn (some 109) rfl rfl aa8 (by kernel_rfl) rfl #[.agg #[.slice AZ dE.length vu,.int .i64 (F5 (ax+1)),.int .i64 (F5 ((F5 (aQ (F5 (ax+1)) (l0.length:Int)))+1)),.int .i64 ly]] rfl (by(try simp only[fT,gJ,j5]);first|done|(simp only[xa];rfl)|rfl|(simp only[fF,ca];rfl)) ?_;(with_reducible refine(ao.calls ix _ _ dE (F5 (ax+1)) (F5 ((F5 (aQ (F5 (ax+1)) (l0.length:Int)))+1)) ly true _ ?sideT ?aa ?ab Ui.out).mono ?_);(case sideT=>refine⟨Ito.ea df.out ?_⟩;first|exact bs HB|exact eJ|(repeat(first|(with_reducible first|exact HB.out|apply dH|apply dZ|apply bc|refine cn ?_ (Z.out (by assumption)))|exact HB.out)));(case aa=>refine(Kd.cM (e:=36) (base:=w.heap.size) (ok:=fun k_=>True) (n:=dE.length) (c:=vu) ?_).2.2;exact(by(with_reducible repeat(first|apply Kd.bK|apply Kd.bL|apply Kd.au));exact(Kd.am (Kd.aH (p:=⟨bo,3,none⟩) (Kd.aH (p:=⟨bo,2,none⟩) (Kd.aH (p:=⟨bo,1,none⟩) (Kd.dv bw.out bO.out (by decide)) (fun _ hk=>hk.2) (.int .i64 (F5 (ax+1)))) (fun _ hk=>hk.2) (.int .i64 (F5 ((F5 (aQ (F5 (ax+1)) (l0.length:Int)))+1)))) (fun _ hk=>hk.2) (.int .i64 ly)) (fun _ h_=>h_.1))));(case ab=>exact(Kd.cM bw.out).2.1);rintro e w131 ⟨rfl,hb⟩;refine⟨_,rfl, ?_⟩;replace bw:=Ah (Kd.bB (by(with_reducible repeat(first|apply Kd.bK|apply Kd.bL|apply Kd.au));exact(Kd.am (Kd.aH (p:=⟨bo,3,none⟩) (Kd.aH (p:=⟨bo,2,none⟩) (Kd.aH (p:=⟨bo,1,none⟩) (Kd.dv bw.out bO.out (by decide)) (fun _ hk=>hk.2) (.int .i64 (F5 (ax+1)))) (fun _ hk=>hk.2) (.int .i64 (F5 ((F5 (aQ (F5 (ax+1)) (l0.length:Int)))+1)))) (fun _ hk=>hk.2) (.int .i64 ly)) (fun _ h_=>h_.1))) hb);replace bN:=Ah (bq (bf bN kw) hb);replace bO:=Ah (bq (g:=bo) (o:= .cells #[.slice AZ dE.length vu,.int .i64 (F5 (ax+1)),.int .i64 (F5 ((F5 (aQ (F5 (ax+1)) (l0.length:Int)))+1)),.int .i64 ly] 25 (0,0)) (pb bO) hb);replace HB:=Ah (aM (an HB dY eF) hb);(try clear hb hk);obtain⟨hcz132_0,hcz132_1,hcz132_2,hcz132_3⟩:=aT bO;obtain⟨hfz132_0,hfz132_1,hfz132_2,hfz132_3⟩:=aU bO;obtain⟨hcz133_0,hcz133_1,hcz133_2,hcz133_3⟩:=aT bN;obtain⟨hfz133_0,hfz133_1,hfz133_2,hfz133_3⟩:=aU bN))
        refine bodyPost_ret (gC rfl _ _ gQ 25 #[.slice AZ dE.length vu,.int .i64 (F5 (ax+1)),.int .i64 (F5 ((F5 (aQ (F5 (ax+1)) (l0.length:Int)))+1)),.int .i64 ly] (0,0) _ rfl (pb bN) aac rfl (by kernel_rfl)) rfl ?_;exact⟨_,by first|rfl|(simp[cH,cI]<;>rfl)|(simp only[←Gc,←xa];first|rfl|(simp[cH,cI]<;>rfl))|(simp[*,cH,cI]<;>rfl),by(with_reducible repeat(first|apply Kd.bK|apply Kd.bL|apply Kd.au));exact Kd.am (Kd.aH (p:=⟨gQ,3,none⟩) (Kd.aH (p:=⟨gQ,2,none⟩) (Kd.aH (p:=⟨gQ,1,none⟩) (Kd.aH (p:=⟨gQ,0,none⟩) (Kd.dv bw.out bN.out (by decide)) (fun _ hk=>hk.2) (.slice AZ dE.length vu)) (fun _ hk=>hk.2) (.int .i64 (F5 (ax+1)))) (fun _ hk=>hk.2) (.int .i64 (F5 ((F5 (aQ (F5 (ax+1)) (l0.length:Int)))+1)))) (fun _ hk=>hk.2) (.int .i64 ly)) (fun _ hk=>trivial),an HB dY eF⟩
       subst c40;rw[if_pos rfl]at H
       by_cases mV:(l0.length:Int)=0
       ·
        rw[if_pos mV]at H;exact absurd H (by simp)
       rw[if_neg mV]at H;have c41b0:=g9 mV;have c41b1:=gA mV
       have c41b2:¬(l0=[]):=fun h_=>mV (by rw[h_];rfl)
       obtain⟨ae,tR⟩:∃j_:Int,(GW gR (l0.length:Int))=j_:=⟨_,rfl⟩
       replace H:(if 0≤(ae)then(if(ae)<(l0.length:Int)then((ey.f ix ((J l0 (ae)).f0) ((J l0 (ae)).f1) ((J l0 (ae)).f2) ((J l0 (ae)).f3)).bind fun Ei=>(if Ei=true then(if((J l0 (ae)).f0)=(F5 ((F5 (aQ gR (l0.length:Int)))+1))then(if(ae)<(dE.length:Int)then(bX.l1 ix l0 (l0.length:Int) ax gR (F5 (gR-1)) (dE.set ((ae):Int).toNat (⟨(J l0 (ae)).f0,(J l0 (ae)).f1,(J l0 (ae)).f2,(J l0 (ae)).f3⟩:aK)) km kn ko)else(none))else(if 0≤(GW ax (l0.length:Int))then(if(GW ax (l0.length:Int))<(l0.length:Int)then((ao.f ix dE (F5 (ax+1)) (F5 ((F5 (aQ (F5 (ax+1)) (l0.length:Int)))+1)) (mx ((J l0 (GW ax (l0.length:Int))).f1) fz)).bind fun te=>(if te=true then(some (dE,F5 (ax+1),F5 ((F5 (aQ (F5 (ax+1)) (l0.length:Int)))+1),mx ((J l0 (GW ax (l0.length:Int))).f1) fz,true))else(some (([]:List (aK)),0,0,0,false))))else(none))else(none)))else(if 0≤(GW ax (l0.length:Int))then(if(GW ax (l0.length:Int))<(l0.length:Int)then((ao.f ix dE (F5 (ax+1)) (F5 ((F5 (aQ (F5 (ax+1)) (l0.length:Int)))+1)) (mx ((J l0 (GW ax (l0.length:Int))).f1) fz)).bind fun tf=>(if tf=true then(some (dE,F5 (ax+1),F5 ((F5 (aQ (F5 (ax+1)) (l0.length:Int)))+1),mx ((J l0 (GW ax (l0.length:Int))).f1) fz,true))else(some (([]:List (aK)),0,0,0,false))))else(none))else(none))))else(none))else(none))=some (r1,r2,r3,r4,r5):=by first|(rw[tR]at H;exact H)|(simp only[tR]at H⊢;exact H)
       by_cases rk:0≤(ae)
       rotate_left
       ·
        rw[if_neg rk]at H;exact absurd H (by simp)
       rw[if_pos rk]at H;have a4k:=bV rk;clear rk
       by_cases mZ:(ae)<(l0.length:Int)
       rotate_left
       ·
        rw[if_neg mZ]at H;exact absurd H (by simp)
       rw[if_pos mZ]at H;have xt:=bV mZ;clear mZ;replace H:=Ok.mp H;obtain⟨Ei,Ee,H⟩:=H
       try dsimp only at H
       have qD:=Ah Ee;clear Ee
       by_cases c46:Ei=true
       rotate_left
       ·
        replace c46:=iK.mpr c46;subst c46;rw[if_neg dM]at H;obtain⟨m6,DQ⟩:∃j_:Int,(GW ax (l0.length:Int))=j_:=⟨_,rfl⟩
        replace H:(if 0≤(m6)then(if(m6)<(l0.length:Int)then((ao.f ix dE (F5 (ax+1)) (F5 ((F5 (aQ (F5 (ax+1)) (l0.length:Int)))+1)) (mx ((J l0 (m6)).f1) fz)).bind fun tf=>(if tf=true then(some (dE,F5 (ax+1),F5 ((F5 (aQ (F5 (ax+1)) (l0.length:Int)))+1),mx ((J l0 (m6)).f1) fz,true))else(some (([]:List (aK)),0,0,0,false))))else(none))else(none))=some (r1,r2,r3,r4,r5):=by first|(rw[DQ]at H;exact H)|(simp only[DQ]at H⊢;exact H)
        (try rw[DQ]at qD)
        by_cases c91:0≤(m6)
        rotate_left
        ·
         rw[if_neg c91]at H;exact absurd H (by simp)
        rw[if_pos c91]at H;have c91b0:=bV c91;clear c91
        by_cases FC:(m6)<(l0.length:Int)
        rotate_left
        ·
         rw[if_neg FC]at H;exact absurd H (by simp)
        rw[if_pos FC]at H;have c92b0:=bV FC;clear FC;obtain⟨m7,vv⟩:∃j_:Int,(mx ((J l0 (m6)).f1) fz)=j_:=⟨_,rfl⟩
        replace H:((ao.f ix dE (F5 (ax+1)) (F5 ((F5 (aQ (F5 (ax+1)) (l0.length:Int)))+1)) (m7)).bind fun tf=>(if tf=true then(some (dE,F5 (ax+1),F5 ((F5 (aQ (F5 (ax+1)) (l0.length:Int)))+1),m7,true))else(some (([]:List (aK)),0,0,0,false))))=some (r1,r2,r3,r4,r5):=by first|(rw[vv]at H;exact H)|(simp only[vv]at H⊢;exact H)
        (try rw[vv]at qD);have hji93_:(if((J l0 (m6)).f1)<fz then fz else((J l0 (m6)).f1))=m7:=vv;replace H:=Ok.mp H;obtain⟨tf,Uj,H⟩:=H
        try dsimp only at H
        have WC:=Ah Uj;clear Uj;have H_:=Ah H;clear H;have pu:0≤((ae):Int):=od;have pv:(ae)<(l0.length:Int):=od;obtain⟨mQ,El,ut,uu,uv,uw⟩:=fW fO.out (ae) pu pv
        cases El
        replace ut:=hq HB ut;replace uu:=hq HB uu;replace uv:=hq HB uv;replace uw:=hq HB uw;replace pu:=eq_true pu;replace pv:=eq_true pv
        try go_wp2_with (first|((with_reducible refine bY (N:=12) rfl ?_);refine br 12 36 #[.int .i64 0,.int .i64 0,.string (⟨#[]⟩:ByteArray),.int .i64 0] ?_;intro bW hg qC cY hb;replace bw:=Ah (Kd.bB (Kd.e8 (rr bw.out) bW (aah hg.symm)) hb);have Sq:=gw hg (an HB dY eF);have kD:=gw hg (an HB dY eF);replace HB:=Ah (aM (an HB dY eF) hb);have uH:=nn bN hg;have Bf:=nm bN hg;replace bN:=nb bN hb;have uI:=nn bO hg;have sA:=nm bO hg;replace bO:=nb bO hb;clear hb hg;have hnb97:=Bf.out;have hnc97:=uH.out;have hnb98:=sA.out;have hnc98:=uI.out;obtain⟨hcz99_0,hcz99_1,hcz99_2,hcz99_3⟩:=aT cY;obtain⟨hfz99_0,hfz99_1,hfz99_2,hfz99_3⟩:=aU cY))
        have bj:Z (Kd.R bD 36 ((((qC.setCell ⟨bW,0,none⟩ (.int .i64 ((J l0 (ae)).f0))).setCell ⟨bW,1,none⟩ (.int .i64 ((J l0 (ae)).f1))).setCell ⟨bW,2,none⟩ (.string ((J l0 (ae)).f2))).setCell ⟨bW,3,none⟩ (.int .i64 ((J l0 (ae)).f3))) w.heap.size (fun k_=>k_≠bW) pF dE):=⟨by(with_reducible repeat(first|apply Kd.bK|apply Kd.bL|apply Kd.au));exact Kd.am (Kd.aH (p:=⟨bW,3,none⟩) (Kd.aH (p:=⟨bW,2,none⟩) (Kd.aH (p:=⟨bW,1,none⟩) (Kd.aH (p:=⟨bW,0,none⟩) (Kd.am bw.out (fun k_ hk=>(⟨hk,hk.2⟩:_∧k_≠bW))) (fun _ hk=>hk.2) (.int .i64 ((J l0 (ae)).f0))) (fun _ hk=>hk.2) (.int .i64 ((J l0 (ae)).f1))) (fun _ hk=>hk.2) (.string ((J l0 (ae)).f2))) (fun _ hk=>hk.2) (.int .i64 ((J l0 (ae)).f3))) (fun _ hk=>hk.1.2)⟩;have be:Z (((((qC.setCell ⟨bW,0,none⟩ (.int .i64 ((J l0 (ae)).f0))).setCell ⟨bW,1,none⟩ (.int .i64 ((J l0 (ae)).f1))).setCell ⟨bW,2,none⟩ (.string ((J l0 (ae)).f2))).setCell ⟨bW,3,none⟩ (.int .i64 ((J l0 (ae)).f3))).heap[gQ]?=some (.cells #[.slice none 0 0,.int .i64 0,.int .i64 0,.int .i64 0] 25 (0,0))):=⟨bf bN uH⟩;have cU:Z (((((qC.setCell ⟨bW,0,none⟩ (.int .i64 ((J l0 (ae)).f0))).setCell ⟨bW,1,none⟩ (.int .i64 ((J l0 (ae)).f1))).setCell ⟨bW,2,none⟩ (.string ((J l0 (ae)).f2))).setCell ⟨bW,3,none⟩ (.int .i64 ((J l0 (ae)).f3))).heap[bo]?=some (.cells #[pF,.int .i64 km,.int .i64 kn,.int .i64 ko] 25 (0,0))):=⟨bf bO uI⟩;have dh:Z (((((qC.setCell ⟨bW,0,none⟩ (.int .i64 ((J l0 (ae)).f0))).setCell ⟨bW,1,none⟩ (.int .i64 ((J l0 (ae)).f1))).setCell ⟨bW,2,none⟩ (.string ((J l0 (ae)).f2))).setCell ⟨bW,3,none⟩ (.int .i64 ((J l0 (ae)).f3))).heap[bW]?=some (.cells #[.int .i64 ((J l0 (ae)).f0),.int .i64 ((J l0 (ae)).f1),.string ((J l0 (ae)).f2),.int .i64 ((J l0 (ae)).f3)] 36 (0,0))):=⟨by exact pb cY⟩;have di:Z (Below w.heap.size w ((((qC.setCell ⟨bW,0,none⟩ (.int .i64 ((J l0 (ae)).f0))).setCell ⟨bW,1,none⟩ (.int .i64 ((J l0 (ae)).f1))).setCell ⟨bW,2,none⟩ (.string ((J l0 (ae)).f2))).setCell ⟨bW,3,none⟩ (.int .i64 ((J l0 (ae)).f3)))):=⟨d9 HB dY eF kD⟩;(try clear bw);(try clear bN);(try clear bO);(try clear cY);(try clear HB)
        generalize ((((qC.setCell ⟨bW,0,none⟩ (.int .i64 ((J l0 (ae)).f0))).setCell ⟨bW,1,none⟩ (.int .i64 ((J l0 (ae)).f1))).setCell ⟨bW,2,none⟩ (.string ((J l0 (ae)).f2))).setCell ⟨bW,3,none⟩ (.int .i64 ((J l0 (ae)).f3)))=a6A at bj be cU dh di⊢
        have bw:=bj;have bN:=be;have bO:=cU;have cY:=dh;have HB:=di;clear bj be cU dh di;replace bw:=Ah (Kd.au bw.out);replace bN:=Ah (aZ bN.out);replace bO:=Ah (aZ bO.out);replace cY:=Ah (aZ cY.out);replace HB:=Ah (bc HB.out);refine dk (n:=12) (S:=fun w'=>w'.cell? ⟨bW,0,none⟩=some (.int .i64 ((J l0 (ae)).f0))∧w'.cell? ⟨bW,1,none⟩=some (.int .i64 ((J l0 (ae)).f1))∧w'.cell? ⟨bW,2,none⟩=some (.string ((J l0 (ae)).f2))∧w'.cell? ⟨bW,3,none⟩=some (.int .i64 ((J l0 (ae)).f3))) (ds:=[]) #[false,false,false,false,false,false,false,false,false,false,false,false] (by kernel_rfl) rfl rfl ⟨(Y cY.out 0).trans rfl,(Y cY.out 1).trans rfl,(Y cY.out 2).trans rfl,(Y cY.out 3).trans rfl⟩ (fun hHeld=> ?_);refine dl bX.LM bX.KU (fun I aq=> ?_)
        generalize a6A.drew=w101 at bw bN bO cY HB hHeld⊢
        refine bM 0 69 I.out aq.out hHeld (hr:=by rintro w' ⟨s0,s1,s2,s3⟩;go_simp;with_reducible rfl) (h:= ?_);refine cK (i:=1) (N:=some 70) #[true,true,false,false,false,false,false,false,false,false,false,false] rfl rfl (bz I.out (by kernel_rfl)) (by decide) (fun K hK=> ?_);refine cZ aa7 (by kernel_rfl) rfl #[.agg #[.int .i64 ((J l0 (ae)).f0),.int .i64 ((J l0 (ae)).f1),.string ((J l0 (ae)).f2),.int .i64 ((J l0 (ae)).f3)]] (by rfl) rfl rfl (by(try simp only[fT,gJ,j5]);first|done|(simp only[tR];rfl)|rfl|(simp only[fF,ca];rfl)) ?_;have H:=H_.out;clear H_
        by_cases tt:tf=true
        rotate_left
        ·
         replace tt:=iK.mpr tt;subst tt;rw[if_neg dM]at H;simp only[aaa,aad]at H;obtain⟨rfl,rfl,rfl,rfl,rfl⟩:=H
         with_reducible refine(ey.calls ix ((J l0 (ae)).f0) ((J l0 (ae)).f1) ((J l0 (ae)).f2) ((J l0 (ae)).f3) false _ ?sideT qD.out).mono ?_
         case sideT=>refine⟨Ito.ea df.out ?_⟩;first|exact bs HB|exact eJ|(repeat(first|(with_reducible first|exact HB.out|apply dH|apply dZ|apply bc|refine cn ?_ (Z.out (by assumption)))|exact HB.out))
         rintro e w115 ⟨rfl,hb⟩;refine⟨_,rfl, ?_⟩;replace bw:=Ah (Kd.bB (rr bw.out) hb);replace bN:=Ah (bb bN hb);replace bO:=Ah (bb bO hb);replace cY:=Ah (bb cY hb);replace HB:=Ah (aM (d9 HB dY eF kD) hb);(try clear hb);(try clear hb2);(try clear hk);(try clear hi);refine hK.out _ _ ⟨(Y cY.out 0).trans rfl,(Y cY.out 1).trans rfl,(Y cY.out 2).trans rfl,(Y cY.out 3).trans rfl⟩ (fun hHeld=> ?_);clear hK K;refine nq 70 ?_;refine a8 2 71 I.out ?_;refine a8 3 72 I.out ?_;refine aV 4 73 I.out ?_;refine aV 5 74 I.out ?_;refine aV 6 75 I.out ?_;refine aV 7 76 I.out ?_;refine aV 8 77 I.out ?_;refine aV 9 78 I.out ?_;refine aV 10 79 I.out ?_;refine a8 11 80 I.out ?_;refine dP (dW I.out (by kernel_rfl)) ?_;have hnb116:=rz.out;have hnc116:=kw.out;obtain⟨hcz117_0,hcz117_1,hcz117_2,hcz117_3⟩:=aT bO;obtain⟨hfz117_0,hfz117_1,hfz117_2,hfz117_3⟩:=aU bO;have yb:0≤((m6):Int):=od;have yc:(m6)<(l0.length:Int):=od;obtain⟨LQ,Ml,ky,mz,n3,n4⟩:=fW fO.out (m6) yb yc;obtain rfl:mQ=LQ:=(by injection Ml);have gv:mQ.block≠bo:=ek (WR (by have:=Fe _ _ ky;first|rwa [aG]at this|exact this) pa.out);have gx:mQ.block≠bo:=ek (WR (by have:=Fe _ _ ky;first|rwa [aG]at this|exact this) pa.out);replace ky:=hq HB ky;replace mz:=hq HB mz;replace n3:=hq HB n3;replace n4:=hq HB n4;replace ky:=(ah (p:=⟨bo,1,none⟩) (by first|(rw[aG];exact gv)|(show(ro _ _).block≠_;rw[aG];exact gv)|exact gv) (.int .i64 (F5 (ax+1)))).trans ky;replace mz:=(ah (p:=⟨bo,1,none⟩) (by first|(rw[aG];exact gv)|(show(ro _ _).block≠_;rw[aG];exact gv)|exact gv) (.int .i64 (F5 (ax+1)))).trans mz;replace n3:=(ah (p:=⟨bo,1,none⟩) (by first|(rw[aG];exact gv)|(show(ro _ _).block≠_;rw[aG];exact gv)|exact gv) (.int .i64 (F5 (ax+1)))).trans n3;replace n4:=(ah (p:=⟨bo,1,none⟩) (by first|(rw[aG];exact gv)|(show(ro _ _).block≠_;rw[aG];exact gv)|exact gv) (.int .i64 (F5 (ax+1)))).trans n4;replace ky:=(ah (p:=⟨bo,2,none⟩) (by first|(rw[aG];exact gx)|(show(ro _ _).block≠_;rw[aG];exact gx)|exact gx) (.int .i64 (F5 ((F5 (aQ (F5 (ax+1)) (l0.length:Int)))+1)))).trans ky;replace mz:=(ah (p:=⟨bo,2,none⟩) (by first|(rw[aG];exact gx)|(show(ro _ _).block≠_;rw[aG];exact gx)|exact gx) (.int .i64 (F5 ((F5 (aQ (F5 (ax+1)) (l0.length:Int)))+1)))).trans mz;replace n3:=(ah (p:=⟨bo,2,none⟩) (by first|(rw[aG];exact gx)|(show(ro _ _).block≠_;rw[aG];exact gx)|exact gx) (.int .i64 (F5 ((F5 (aQ (F5 (ax+1)) (l0.length:Int)))+1)))).trans n3;replace n4:=(ah (p:=⟨bo,2,none⟩) (by first|(rw[aG];exact gx)|(show(ro _ _).block≠_;rw[aG];exact gx)|exact gx) (.int .i64 (F5 ((F5 (aQ (F5 (ax+1)) (l0.length:Int)))+1)))).trans n4;clear gv gx;replace yb:=eq_true yb;replace yc:=eq_true yc;obtain⟨Sr,LR,a4l⟩:=Kd.dI bw.out;subst a4l
         try go_wp2_with (first|((with_reducible refine bU (f:=21) rfl ?_);refine sn (some 109) rfl rfl aa8 (by kernel_rfl) rfl #[.agg #[.slice Sr dE.length LR,.int .i64 (F5 (ax+1)),.int .i64 (F5 ((F5 (aQ (F5 (ax+1)) (l0.length:Int)))+1)),.int .i64 m7]] rfl (by(try simp only[fT,gJ,j5]);first|done|(simp only[vv];rfl)|rfl|(simp only[fF,ca];rfl)) ?_;(with_reducible refine(ao.calls ix _ _ dE (F5 (ax+1)) (F5 ((F5 (aQ (F5 (ax+1)) (l0.length:Int)))+1)) m7 false _ ?sideT ?aa ?ab WC.out).mono ?_);(case sideT=>refine⟨Ito.ea df.out ?_⟩;first|exact bs HB|exact eJ|(repeat(first|(with_reducible first|exact HB.out|apply dH|apply dZ|apply bc|refine cn ?_ (Z.out (by assumption)))|exact HB.out)));(case aa=>refine(Kd.cM (e:=36) (base:=w.heap.size) (ok:=fun k_=>k_≠bW) (n:=dE.length) (c:=LR) ?_).2.2;exact(by(with_reducible repeat(first|apply Kd.bK|apply Kd.bL|apply Kd.au));exact(Kd.am (Kd.aH (p:=⟨bo,3,none⟩) (Kd.aH (p:=⟨bo,2,none⟩) (Kd.aH (p:=⟨bo,1,none⟩) (Kd.dv bw.out bO.out (by decide)) (fun _ hk=>hk.2) (.int .i64 (F5 (ax+1)))) (fun _ hk=>hk.2) (.int .i64 (F5 ((F5 (aQ (F5 (ax+1)) (l0.length:Int)))+1)))) (fun _ hk=>hk.2) (.int .i64 m7)) (fun _ h_=>h_.1))));(case ab=>exact(Kd.cM bw.out).2.1);rintro e Lp ⟨rfl,hb⟩;refine⟨_,rfl, ?_⟩;replace bw:=Ah (Kd.bB (by(with_reducible repeat(first|apply Kd.bK|apply Kd.bL|apply Kd.au));exact(Kd.am (Kd.aH (p:=⟨bo,3,none⟩) (Kd.aH (p:=⟨bo,2,none⟩) (Kd.aH (p:=⟨bo,1,none⟩) (Kd.dv bw.out bO.out (by decide)) (fun _ hk=>hk.2) (.int .i64 (F5 (ax+1)))) (fun _ hk=>hk.2) (.int .i64 (F5 ((F5 (aQ (F5 (ax+1)) (l0.length:Int)))+1)))) (fun _ hk=>hk.2) (.int .i64 m7)) (fun _ h_=>h_.1))) hb);replace bN:=Ah (bq (bf bN kw) hb);replace bO:=Ah (bq (g:=bo) (o:= .cells #[.slice Sr dE.length LR,.int .i64 (F5 (ax+1)),.int .i64 (F5 ((F5 (aQ (F5 (ax+1)) (l0.length:Int)))+1)),.int .i64 m7] 25 (0,0)) (pb bO) hb);replace cY:=Ah (bq (bf cY sA) hb);replace HB:=Ah (aM (d9 HB dY eF kD) hb);(try clear hb hk);obtain⟨hcz120_0,hcz120_1,hcz120_2,hcz120_3⟩:=aT bN;obtain⟨hfz120_0,hfz120_1,hfz120_2,hfz120_3⟩:=aU bN))
         refine bodyPost_ret (gC rfl _ _ gQ 25 #[.slice none 0 0,.int .i64 0,.int .i64 0,.int .i64 0] (0,0) _ rfl (pb bN) aac rfl (by kernel_rfl)) rfl ?_;exact⟨_,by first|rfl|(simp[cH,cI]<;>rfl)|(simp only[←tR,←DQ,←vv];first|rfl|(simp[cH,cI]<;>rfl))|(simp[*,cH,cI]<;>rfl),by first|exact Kd.kA _ _ _ _ _|exact Kd.lm _ _ _ _ _|exact Kd.ln _ _ _ _ _|exact Kd.lh _ _ _ _ _|exact Kd.ll _ _ _ _ _,d9 HB dY eF kD⟩
        subst tt;rw[if_pos rfl]at H;simp only[aaa,aad]at H;obtain⟨rfl,rfl,rfl,rfl,rfl⟩:=H
        with_reducible refine(ey.calls ix ((J l0 (ae)).f0) ((J l0 (ae)).f1) ((J l0 (ae)).f2) ((J l0 (ae)).f3) false _ ?sideT qD.out).mono ?_
        case sideT=>refine⟨Ito.ea df.out ?_⟩;first|exact bs HB|exact eJ|(repeat(first|(with_reducible first|exact HB.out|apply dH|apply dZ|apply bc|refine cn ?_ (Z.out (by assumption)))|exact HB.out))
        rintro e w102 ⟨rfl,hb⟩;refine⟨_,rfl, ?_⟩;replace bw:=Ah (Kd.bB (rr bw.out) hb);replace bN:=Ah (bb bN hb);replace bO:=Ah (bb bO hb);replace cY:=Ah (bb cY hb);replace HB:=Ah (aM (d9 HB dY eF kD) hb);(try clear hb);(try clear hb2);(try clear hk);(try clear hi);refine hK.out _ _ ⟨(Y cY.out 0).trans rfl,(Y cY.out 1).trans rfl,(Y cY.out 2).trans rfl,(Y cY.out 3).trans rfl⟩ (fun hHeld=> ?_);clear hK K;refine nq 70 ?_;refine a8 2 71 I.out ?_;refine a8 3 72 I.out ?_;refine aV 4 73 I.out ?_;refine aV 5 74 I.out ?_;refine aV 6 75 I.out ?_;refine aV 7 76 I.out ?_;refine aV 8 77 I.out ?_;refine aV 9 78 I.out ?_;refine aV 10 79 I.out ?_;refine a8 11 80 I.out ?_;refine dP (dW I.out (by kernel_rfl)) ?_;have hnb103:=rz.out;have hnc103:=kw.out;obtain⟨hcz104_0,hcz104_1,hcz104_2,hcz104_3⟩:=aT bO;obtain⟨hfz104_0,hfz104_1,hfz104_2,hfz104_3⟩:=aU bO;have yb:0≤((m6):Int):=od;have yc:(m6)<(l0.length:Int):=od;obtain⟨LQ,Ml,ky,mz,n3,n4⟩:=fW fO.out (m6) yb yc;obtain rfl:mQ=LQ:=(by injection Ml);have gv:mQ.block≠bo:=ek (WR (by have:=Fe _ _ ky;first|rwa [aG]at this|exact this) pa.out);have gx:mQ.block≠bo:=ek (WR (by have:=Fe _ _ ky;first|rwa [aG]at this|exact this) pa.out);replace ky:=hq HB ky;replace mz:=hq HB mz;replace n3:=hq HB n3;replace n4:=hq HB n4;replace ky:=(ah (p:=⟨bo,1,none⟩) (by first|(rw[aG];exact gv)|(show(ro _ _).block≠_;rw[aG];exact gv)|exact gv) (.int .i64 (F5 (ax+1)))).trans ky;replace mz:=(ah (p:=⟨bo,1,none⟩) (by first|(rw[aG];exact gv)|(show(ro _ _).block≠_;rw[aG];exact gv)|exact gv) (.int .i64 (F5 (ax+1)))).trans mz;replace n3:=(ah (p:=⟨bo,1,none⟩) (by first|(rw[aG];exact gv)|(show(ro _ _).block≠_;rw[aG];exact gv)|exact gv) (.int .i64 (F5 (ax+1)))).trans n3;replace n4:=(ah (p:=⟨bo,1,none⟩) (by first|(rw[aG];exact gv)|(show(ro _ _).block≠_;rw[aG];exact gv)|exact gv) (.int .i64 (F5 (ax+1)))).trans n4;replace ky:=(ah (p:=⟨bo,2,none⟩) (by first|(rw[aG];exact gx)|(show(ro _ _).block≠_;rw[aG];exact gx)|exact gx) (.int .i64 (F5 ((F5 (aQ (F5 (ax+1)) (l0.length:Int)))+1)))).trans ky;replace mz:=(ah (p:=⟨bo,2,none⟩) (by first|(rw[aG];exact gx)|(show(ro _ _).block≠_;rw[aG];exact gx)|exact gx) (.int .i64 (F5 ((F5 (aQ (F5 (ax+1)) (l0.length:Int)))+1)))).trans mz;replace n3:=(ah (p:=⟨bo,2,none⟩) (by first|(rw[aG];exact gx)|(show(ro _ _).block≠_;rw[aG];exact gx)|exact gx) (.int .i64 (F5 ((F5 (aQ (F5 (ax+1)) (l0.length:Int)))+1)))).trans n3;replace n4:=(ah (p:=⟨bo,2,none⟩) (by first|(rw[aG];exact gx)|(show(ro _ _).block≠_;rw[aG];exact gx)|exact gx) (.int .i64 (F5 ((F5 (aQ (F5 (ax+1)) (l0.length:Int)))+1)))).trans n4;clear gv gx;replace yb:=eq_true yb;replace yc:=eq_true yc;obtain⟨HT,DR,a4m⟩:=Kd.dI bw.out;subst a4m
        try go_wp2_with (first|((with_reducible refine bU (f:=21) rfl ?_);refine sn (some 109) rfl rfl aa8 (by kernel_rfl) rfl #[.agg #[.slice HT dE.length DR,.int .i64 (F5 (ax+1)),.int .i64 (F5 ((F5 (aQ (F5 (ax+1)) (l0.length:Int)))+1)),.int .i64 m7]] rfl (by(try simp only[fT,gJ,j5]);first|done|(simp only[vv];rfl)|rfl|(simp only[fF,ca];rfl)) ?_;(with_reducible refine(ao.calls ix _ _ dE (F5 (ax+1)) (F5 ((F5 (aQ (F5 (ax+1)) (l0.length:Int)))+1)) m7 true _ ?sideT ?aa ?ab WC.out).mono ?_);(case sideT=>refine⟨Ito.ea df.out ?_⟩;first|exact bs HB|exact eJ|(repeat(first|(with_reducible first|exact HB.out|apply dH|apply dZ|apply bc|refine cn ?_ (Z.out (by assumption)))|exact HB.out)));(case aa=>refine(Kd.cM (e:=36) (base:=w.heap.size) (ok:=fun k_=>k_≠bW) (n:=dE.length) (c:=DR) ?_).2.2;exact(by(with_reducible repeat(first|apply Kd.bK|apply Kd.bL|apply Kd.au));exact(Kd.am (Kd.aH (p:=⟨bo,3,none⟩) (Kd.aH (p:=⟨bo,2,none⟩) (Kd.aH (p:=⟨bo,1,none⟩) (Kd.dv bw.out bO.out (by decide)) (fun _ hk=>hk.2) (.int .i64 (F5 (ax+1)))) (fun _ hk=>hk.2) (.int .i64 (F5 ((F5 (aQ (F5 (ax+1)) (l0.length:Int)))+1)))) (fun _ hk=>hk.2) (.int .i64 m7)) (fun _ h_=>h_.1))));(case ab=>exact(Kd.cM bw.out).2.1);rintro e Tl ⟨rfl,hb⟩;refine⟨_,rfl, ?_⟩;replace bw:=Ah (Kd.bB (by(with_reducible repeat(first|apply Kd.bK|apply Kd.bL|apply Kd.au));exact(Kd.am (Kd.aH (p:=⟨bo,3,none⟩) (Kd.aH (p:=⟨bo,2,none⟩) (Kd.aH (p:=⟨bo,1,none⟩) (Kd.dv bw.out bO.out (by decide)) (fun _ hk=>hk.2) (.int .i64 (F5 (ax+1)))) (fun _ hk=>hk.2) (.int .i64 (F5 ((F5 (aQ (F5 (ax+1)) (l0.length:Int)))+1)))) (fun _ hk=>hk.2) (.int .i64 m7)) (fun _ h_=>h_.1))) hb);replace bN:=Ah (bq (bf bN kw) hb);replace bO:=Ah (bq (g:=bo) (o:= .cells #[.slice HT dE.length DR,.int .i64 (F5 (ax+1)),.int .i64 (F5 ((F5 (aQ (F5 (ax+1)) (l0.length:Int)))+1)),.int .i64 m7] 25 (0,0)) (pb bO) hb);replace cY:=Ah (bq (bf cY sA) hb);replace HB:=Ah (aM (d9 HB dY eF kD) hb);(try clear hb hk);obtain⟨hcz107_0,hcz107_1,hcz107_2,hcz107_3⟩:=aT bO;obtain⟨hfz107_0,hfz107_1,hfz107_2,hfz107_3⟩:=aU bO;obtain⟨YE,YF,YG,YH⟩:=aT bN;obtain⟨YI,YJ,YK,YL⟩:=aU bN))
        refine bodyPost_ret (gC rfl _ _ gQ 25 #[.slice HT dE.length DR,.int .i64 (F5 (ax+1)),.int .i64 (F5 ((F5 (aQ (F5 (ax+1)) (l0.length:Int)))+1)),.int .i64 m7] (0,0) _ rfl (pb bN) aac rfl (by kernel_rfl)) rfl ?_;exact⟨_,by first|rfl|(simp[cH,cI]<;>rfl)|(simp only[←tR,←DQ,←vv];first|rfl|(simp[cH,cI]<;>rfl))|(simp[*,cH,cI]<;>rfl),by(with_reducible repeat(first|apply Kd.bK|apply Kd.bL|apply Kd.au));exact Kd.am (Kd.aH (p:=⟨gQ,3,none⟩) (Kd.aH (p:=⟨gQ,2,none⟩) (Kd.aH (p:=⟨gQ,1,none⟩) (Kd.aH (p:=⟨gQ,0,none⟩) (Kd.dv bw.out bN.out (by decide)) (fun _ hk=>hk.2) (.slice HT dE.length DR)) (fun _ hk=>hk.2) (.int .i64 (F5 (ax+1)))) (fun _ hk=>hk.2) (.int .i64 (F5 ((F5 (aQ (F5 (ax+1)) (l0.length:Int)))+1)))) (fun _ hk=>hk.2) (.int .i64 m7)) (fun _ hk=>trivial),d9 HB dY eF kD⟩
       subst c46;rw[if_pos rfl]at H
       by_cases lY:((J l0 (ae)).f0)=(F5 ((F5 (aQ gR (l0.length:Int)))+1))
       ·
        rw[if_pos lY]at H;have vw:=lV lY;have a4n:=lW lY;clear lY
        by_cases rn:(ae)<(dE.length:Int)
        rotate_left
        ·
         rw[if_neg rn]at H;exact absurd H (by simp)
        rw[if_pos rn]at H;have c48b0:=bV rn;clear rn;obtain⟨Uk,DS⟩:∃y_:List (aK),y_=(dE.set ((ae):Int).toNat (⟨(J l0 (ae)).f0,(J l0 (ae)).f1,(J l0 (ae)).f2,(J l0 (ae)).f3⟩:aK)):=⟨_,rfl⟩
        replace H:(bX.l1 ix l0 (l0.length:Int) ax gR (F5 (gR-1)) Uk km kn ko)=some (r1,r2,r3,r4,r5):=by first|(rw[DS];with_reducible exact H)|(have cL:=(zD _ _).symm.trans H;rw[DS];with_reducible exact cL)|(have cL:=(zD _ _).symm.trans H;with_reducible exact cL)|with_reducible exact H|(rw[DS];exact H)|exact H
        have a4o:=Ah DS;clear DS;have H':=Ah H;clear H;have pu:0≤((ae):Int):=od;have pv:(ae)<(l0.length:Int):=od;obtain⟨mQ,El,ut,uu,uv,uw⟩:=fW fO.out (ae) pu pv
        cases El
        replace ut:=hq HB ut;replace uu:=hq HB uu;replace uv:=hq HB uv;replace uw:=hq HB uw;replace pu:=eq_true pu;replace pv:=eq_true pv
        try go_wp2_with (first|((with_reducible refine bY (N:=12) rfl ?_);refine br 12 36 #[.int .i64 0,.int .i64 0,.string (⟨#[]⟩:ByteArray),.int .i64 0] ?_;intro bW hg jy cY hb;replace bw:=Ah (Kd.bB (Kd.e8 (rr bw.out) bW (aah hg.symm)) hb);have Sq:=gw hg (an HB dY eF);have kD:=gw hg (an HB dY eF);replace HB:=Ah (aM (an HB dY eF) hb);have uH:=nn bN hg;have Bf:=nm bN hg;replace bN:=nb bN hb;have uI:=nn bO hg;have sA:=nm bO hg;replace bO:=nb bO hb;clear hb hg;have hnb51:=Bf.out;have hnc51:=uH.out;have a2E:=sA.out;have a2F:=uI.out;obtain⟨hcz53_0,hcz53_1,hcz53_2,hcz53_3⟩:=aT cY;obtain⟨hfz53_0,hfz53_1,hfz53_2,hfz53_3⟩:=aU cY))
        have bj:Z (Kd.R bD 36 ((((jy.setCell ⟨bW,0,none⟩ (.int .i64 ((J l0 (ae)).f0))).setCell ⟨bW,1,none⟩ (.int .i64 ((J l0 (ae)).f1))).setCell ⟨bW,2,none⟩ (.string ((J l0 (ae)).f2))).setCell ⟨bW,3,none⟩ (.int .i64 ((J l0 (ae)).f3))) w.heap.size (fun k_=>k_≠bW) pF dE):=⟨by(with_reducible repeat(first|apply Kd.bK|apply Kd.bL|apply Kd.au));exact Kd.am (Kd.aH (p:=⟨bW,3,none⟩) (Kd.aH (p:=⟨bW,2,none⟩) (Kd.aH (p:=⟨bW,1,none⟩) (Kd.aH (p:=⟨bW,0,none⟩) (Kd.am bw.out (fun k_ hk=>(⟨hk,hk.2⟩:_∧k_≠bW))) (fun _ hk=>hk.2) (.int .i64 ((J l0 (ae)).f0))) (fun _ hk=>hk.2) (.int .i64 ((J l0 (ae)).f1))) (fun _ hk=>hk.2) (.string ((J l0 (ae)).f2))) (fun _ hk=>hk.2) (.int .i64 ((J l0 (ae)).f3))) (fun _ hk=>hk.1.2)⟩;have be:Z (((((jy.setCell ⟨bW,0,none⟩ (.int .i64 ((J l0 (ae)).f0))).setCell ⟨bW,1,none⟩ (.int .i64 ((J l0 (ae)).f1))).setCell ⟨bW,2,none⟩ (.string ((J l0 (ae)).f2))).setCell ⟨bW,3,none⟩ (.int .i64 ((J l0 (ae)).f3))).heap[gQ]?=some (.cells #[.slice none 0 0,.int .i64 0,.int .i64 0,.int .i64 0] 25 (0,0))):=⟨bf bN uH⟩;have cU:Z (((((jy.setCell ⟨bW,0,none⟩ (.int .i64 ((J l0 (ae)).f0))).setCell ⟨bW,1,none⟩ (.int .i64 ((J l0 (ae)).f1))).setCell ⟨bW,2,none⟩ (.string ((J l0 (ae)).f2))).setCell ⟨bW,3,none⟩ (.int .i64 ((J l0 (ae)).f3))).heap[bo]?=some (.cells #[pF,.int .i64 km,.int .i64 kn,.int .i64 ko] 25 (0,0))):=⟨bf bO uI⟩;have dh:Z (((((jy.setCell ⟨bW,0,none⟩ (.int .i64 ((J l0 (ae)).f0))).setCell ⟨bW,1,none⟩ (.int .i64 ((J l0 (ae)).f1))).setCell ⟨bW,2,none⟩ (.string ((J l0 (ae)).f2))).setCell ⟨bW,3,none⟩ (.int .i64 ((J l0 (ae)).f3))).heap[bW]?=some (.cells #[.int .i64 ((J l0 (ae)).f0),.int .i64 ((J l0 (ae)).f1),.string ((J l0 (ae)).f2),.int .i64 ((J l0 (ae)).f3)] 36 (0,0))):=⟨by exact pb cY⟩;have di:Z (Below w.heap.size w ((((jy.setCell ⟨bW,0,none⟩ (.int .i64 ((J l0 (ae)).f0))).setCell ⟨bW,1,none⟩ (.int .i64 ((J l0 (ae)).f1))).setCell ⟨bW,2,none⟩ (.string ((J l0 (ae)).f2))).setCell ⟨bW,3,none⟩ (.int .i64 ((J l0 (ae)).f3)))):=⟨d9 HB dY eF kD⟩;(try clear bw);(try clear bN);(try clear bO);(try clear cY);(try clear HB)
        generalize ((((jy.setCell ⟨bW,0,none⟩ (.int .i64 ((J l0 (ae)).f0))).setCell ⟨bW,1,none⟩ (.int .i64 ((J l0 (ae)).f1))).setCell ⟨bW,2,none⟩ (.string ((J l0 (ae)).f2))).setCell ⟨bW,3,none⟩ (.int .i64 ((J l0 (ae)).f3)))=WD at bj be cU dh di⊢
        have bw:=bj;have bN:=be;have bO:=cU;have cY:=dh;have HB:=di;clear bj be cU dh di;replace bw:=Ah (Kd.au bw.out);replace bN:=Ah (aZ bN.out);replace bO:=Ah (aZ bO.out);replace cY:=Ah (aZ cY.out);replace HB:=Ah (bc HB.out);refine dk (n:=12) (S:=fun w'=>w'.cell? ⟨bW,0,none⟩=some (.int .i64 ((J l0 (ae)).f0))∧w'.cell? ⟨bW,1,none⟩=some (.int .i64 ((J l0 (ae)).f1))∧w'.cell? ⟨bW,2,none⟩=some (.string ((J l0 (ae)).f2))∧w'.cell? ⟨bW,3,none⟩=some (.int .i64 ((J l0 (ae)).f3))) (ds:=[]) #[false,false,false,false,false,false,false,false,false,false,false,false] (by kernel_rfl) rfl rfl ⟨(Y cY.out 0).trans rfl,(Y cY.out 1).trans rfl,(Y cY.out 2).trans rfl,(Y cY.out 3).trans rfl⟩ (fun hHeld=> ?_);refine dl bX.LM bX.KU (fun I aq=> ?_)
        generalize WD.drew=WA at bw bN bO cY HB hHeld⊢
        refine bM 0 69 I.out aq.out hHeld (hr:=by rintro w' ⟨s0,s1,s2,s3⟩;go_simp;with_reducible rfl) (h:= ?_);refine cK (i:=1) (N:=some 70) #[true,true,false,false,false,false,false,false,false,false,false,false] rfl rfl (bz I.out (by kernel_rfl)) (by decide) (fun K hK=> ?_);refine cZ aa7 (by kernel_rfl) rfl #[.agg #[.int .i64 ((J l0 (ae)).f0),.int .i64 ((J l0 (ae)).f1),.string ((J l0 (ae)).f2),.int .i64 ((J l0 (ae)).f3)]] (by rfl) rfl rfl (by(try simp only[fT,gJ,j5]);first|done|(simp only[tR];rfl)|rfl|(simp only[fF,ca];rfl)) ?_
        with_reducible refine(ey.calls ix ((J l0 (ae)).f0) ((J l0 (ae)).f1) ((J l0 (ae)).f2) ((J l0 (ae)).f3) true _ ?sideT qD.out).mono ?_
        case sideT=>refine⟨Ito.ea df.out ?_⟩;first|exact bs HB|exact eJ|(repeat(first|(with_reducible first|exact HB.out|apply dH|apply dZ|apply bc|refine cn ?_ (Z.out (by assumption)))|exact HB.out))
        rintro e w56 ⟨rfl,hb⟩;refine⟨_,rfl, ?_⟩;replace bw:=Ah (Kd.bB (rr bw.out) hb);replace bN:=Ah (bb bN hb);replace bO:=Ah (bb bO hb);replace cY:=Ah (bb cY hb);replace HB:=Ah (aM (d9 HB dY eF kD) hb);(try clear hb);(try clear hb2);(try clear hk);(try clear hi);refine hK.out _ _ ⟨(Y cY.out 0).trans rfl,(Y cY.out 1).trans rfl,(Y cY.out 2).trans rfl,(Y cY.out 3).trans rfl⟩ (fun hHeld=> ?_);clear hK K;refine nq 70 ?_;refine a8 2 71 I.out ?_;refine a8 3 72 I.out ?_;refine a8 4 73 I.out ?_;refine a8 6 75 I.out ?_;refine a8 7 76 I.out ?_;refine a8 8 77 I.out ?_;refine a8 9 78 I.out ?_;refine bM 5 74 I.out aq.out hHeld (hr:=by rintro w' ⟨s0,s1,s2,s3⟩;go_simp;with_reducible rfl) (h:= ?_);refine a8 10 79 I.out ?_;refine a8 11 80 I.out ?_;refine dP (dW I.out (by kernel_rfl)) ?_
        try go_wp2
        replace bw:=Ah (Kd.au bw.out);replace bN:=Ah (aZ bN.out);replace bO:=Ah (aZ bO.out);replace cY:=Ah (aZ cY.out);replace HB:=Ah (bc HB.out);have p49:0≤((ae):Int):=od;have NU:((ae):Int)<((dE.length:Int):Int):=od;obtain⟨rY,Ul,Um,Un,a6B,cl49,Uo⟩:=Kd.qu bw.out (by omega);(first|cases Um|(injection Um with eX kN kO;(first|subst eX|(injection eX with eX;subst eX));subst kO;clear kN));have I9:=Ah Un;have a6C:=Ah Uo;clear Un a6B Uo;obtain⟨a5L,H9,EL,vm,xk⟩:=Kd.kc bw.out gr ((ae):Int) p49 NU;obtain rfl:=kX EL;have a1Y:aav _ ⟨rY,((ae):Int).toNat*4,none⟩=some (.int .i64 ((J dE (ae)).f0)):=vm 0 _ rfl;have a1Z:aav _ ⟨rY,((ae):Int).toNat*4+1,none⟩=some (.int .i64 ((J dE (ae)).f1)):=vm 1 _ rfl;have a10:aav _ ⟨rY,((ae):Int).toNat*4+2,none⟩=some (.string ((J dE (ae)).f2)):=vm 2 _ rfl;have a11:aav _ ⟨rY,((ae):Int).toNat*4+3,none⟩=some (.int .i64 ((J dE (ae)).f3)):=vm 3 _ rfl;have a12:aax _ ⟨rY,((ae):Int).toNat*4,none⟩=false:=xk 0;have a13:aax _ ⟨rY,((ae):Int).toNat*4+1,none⟩=false:=xk 1;have a14:aax _ ⟨rY,((ae):Int).toNat*4+2,none⟩=false:=xk 2;have a15:aax _ ⟨rY,((ae):Int).toNat*4+3,none⟩=false:=xk 3;clear H9 vm xk EL;replace p49:=eq_true p49;replace NU:=eq_true NU;obtain⟨ce58,Ss,Up,St,a4p⟩:=Kd.kc bw.out gr ((ae):Int) (od) (by have h_:((ae):Int)<((dE.length:Int):Int):=od;first|exact h_|(have e_:=(Kd.cM bw.out).1;omega)|simpa using h_);obtain rfl:=kX Up;have Mm:=(Kd.su bw.out ((ae):Int) (od) (by have h_:((ae):Int)<((dE.length:Int):Int):=od;first|exact h_|(have e_:=(Kd.cM bw.out).1;omega)|simpa using h_) (seg:=[.int .i64 ((J l0 (ae)).f0),.int .i64 ((J l0 (ae)).f1),.string ((J l0 (ae)).f2),.int .i64 ((J l0 (ae)).f3)]) (j:=0) Ss St (show 4≤4 from by decide) (x':=(⟨(J l0 (ae)).f0,(J l0 (ae)).f1,(J l0 (ae)).f2,(J l0 (ae)).f3⟩:aK)) (ni _ _ _ (⟨(J l0 (ae)).f0,(J l0 (ae)).f1,(J l0 (ae)).f2,(J l0 (ae)).f3⟩:aK)) (fun _ hk=>hk)).1;rw[←a4o.out]at Mm;have Uq:=Ah Mm;clear Ss St a4p Up Mm;refine dk (n:=8) (S:=fun w'=>w'.cell? ⟨bo,0,none⟩=some (.slice (some ⟨rY,0,none⟩) dE.length Ul)∧w'.cell? ⟨bo,1,none⟩=some (.int .i64 km)∧w'.cell? ⟨bo,2,none⟩=some (.int .i64 kn)∧w'.cell? ⟨bo,3,none⟩=some (.int .i64 ko)∧w'.cell? ⟨bW,0,none⟩=some (.int .i64 ((J l0 (ae)).f0))∧w'.cell? ⟨bW,1,none⟩=some (.int .i64 ((J l0 (ae)).f1))∧w'.cell? ⟨bW,2,none⟩=some (.string ((J l0 (ae)).f2))∧w'.cell? ⟨bW,3,none⟩=some (.int .i64 ((J l0 (ae)).f3))) (ds:=[7]) #[false,false,false,false,false,false,false,false] (by kernel_rfl) rfl rfl ⟨(Y bO.out 0).trans rfl,(Y bO.out 1).trans rfl,(Y bO.out 2).trans rfl,(Y bO.out 3).trans rfl,(Y cY.out 0).trans rfl,(Y cY.out 1).trans rfl,(Y cY.out 2).trans rfl,(Y cY.out 3).trans rfl⟩ (fun hHeld=> ?_);refine dl bX.Gn bX.GX (fun I aq=> ?_)
        generalize w56.drew=NI at bw bN bO cY HB a6C Uq a12 a13 a14 a15 a1Y a1Z a10 a11 hHeld⊢
        refine a8 0 81 I.out ?_;refine a8 2 83 I.out ?_;refine a8 3 84 I.out ?_;refine a8 4 85 I.out ?_;refine bM 1 82 I.out aq.out hHeld (hr:=by rintro w' ⟨s0,s1,s2,s3,s4,s5,s6,s7⟩;go_simp;with_reducible rfl) (h:= ?_);refine bM 5 86 I.out aq.out hHeld (hr:=by rintro w' ⟨s0,s1,s2,s3,s4,s5,s6,s7⟩;go_simp;with_reducible rfl) (h:= ?_);refine a8 6 87 I.out ?_;refine qw (i:=7) (N:=none) #[true,true,true,true,true,true,true,true] rfl rfl (bz I.out (by kernel_rfl)) (by decide) (fun K hK=> ?_);refine ke (w1:= ?_) (by rfl) rfl ?_ ?_;rotate_left
        ·
         go_simp
         rfl
        refine hK.out _ _ ?_;clear hK K;refine dP (dW I.out (by kernel_rfl)) ?_
        try go_wp2
        go_roundg ix
        case measure=>have:=dp.out;have:=fp.out;have:=Uh.out;omega
        case rel=>exact⟨(gR),(F5 (gR-1)),(Uk),(.slice (some ⟨rY,0,none⟩) dE.length Ul),e3,e3,H',⟨by have:=dp.out;have:=fp.out;have:=Uh.out;omega⟩,⟨by(with_reducible repeat(first|apply Kd.bK|apply Kd.bL|apply Kd.au));exact Kd.am Uq.out (fun _ hk=>trivial)⟩,⟨by(with_reducible repeat(first|refine cS ?_ _|refine aZ ?_|refine cE ?_ _));refine ce ?_ (by have h_:=Kd.d7 bw.out bN.out (by decide);intro e_;exact h_ (by rw[e_];rfl)) _;(with_reducible repeat(first|refine cS ?_ _|refine aZ ?_|refine cE ?_ _));refine ce ?_ (by have h_:=Kd.d7 bw.out bN.out (by decide);intro e_;exact h_ (by rw[e_];rfl)) _;(with_reducible repeat(first|refine cS ?_ _|refine aZ ?_|refine cE ?_ _));refine ce ?_ (by have h_:=Kd.d7 bw.out bN.out (by decide);intro e_;exact h_ (by rw[e_];rfl)) _;(with_reducible repeat(first|refine cS ?_ _|refine aZ ?_|refine cE ?_ _));refine ce ?_ (by have h_:=Kd.d7 bw.out bN.out (by decide);intro e_;exact h_ (by rw[e_];rfl)) _;exact bk bN⟩,⟨by(with_reducible repeat(first|refine cS ?_ _|refine aZ ?_|refine cE ?_ _));refine ce ?_ (by have h_:=Kd.d7 bw.out bO.out (by decide);intro e_;exact h_ (by rw[e_];rfl)) _;(with_reducible repeat(first|refine cS ?_ _|refine aZ ?_|refine cE ?_ _));refine ce ?_ (by have h_:=Kd.d7 bw.out bO.out (by decide);intro e_;exact h_ (by rw[e_];rfl)) _;(with_reducible repeat(first|refine cS ?_ _|refine aZ ?_|refine cE ?_ _));refine ce ?_ (by have h_:=Kd.d7 bw.out bO.out (by decide);intro e_;exact h_ (by rw[e_];rfl)) _;(with_reducible repeat(first|refine cS ?_ _|refine aZ ?_|refine cE ?_ _));refine ce ?_ (by have h_:=Kd.d7 bw.out bO.out (by decide);intro e_;exact h_ (by rw[e_];rfl)) _;exact bk bO⟩,⟨ND HB I9 I9 I9 I9 dY eF kD⟩⟩
       rw[if_neg lY]at H;have vw:=g9 lY;have a4n:=gA lY;obtain⟨m8,DT⟩:∃j_:Int,(GW ax (l0.length:Int))=j_:=⟨_,rfl⟩
       replace H:(if 0≤(m8)then(if(m8)<(l0.length:Int)then((ao.f ix dE (F5 (ax+1)) (F5 ((F5 (aQ (F5 (ax+1)) (l0.length:Int)))+1)) (mx ((J l0 (m8)).f1) fz)).bind fun te=>(if te=true then(some (dE,F5 (ax+1),F5 ((F5 (aQ (F5 (ax+1)) (l0.length:Int)))+1),mx ((J l0 (m8)).f1) fz,true))else(some (([]:List (aK)),0,0,0,false))))else(none))else(none))=some (r1,r2,r3,r4,r5):=by first|(rw[DT]at H;exact H)|(simp only[DT]at H⊢;exact H)
       (try rw[DT]at qD)
       by_cases re:0≤(m8)
       rotate_left
       ·
        rw[if_neg re]at H;exact absurd H (by simp)
       rw[if_pos re]at H;have c60b0:=bV re;clear re
       by_cases jz:(m8)<(l0.length:Int)
       rotate_left
       ·
        rw[if_neg jz]at H;exact absurd H (by simp)
       rw[if_pos jz]at H;have c61b0:=bV jz;clear jz;obtain⟨m9,vx⟩:∃j_:Int,(mx ((J l0 (m8)).f1) fz)=j_:=⟨_,rfl⟩
       replace H:((ao.f ix dE (F5 (ax+1)) (F5 ((F5 (aQ (F5 (ax+1)) (l0.length:Int)))+1)) (m9)).bind fun te=>(if te=true then(some (dE,F5 (ax+1),F5 ((F5 (aQ (F5 (ax+1)) (l0.length:Int)))+1),m9,true))else(some (([]:List (aK)),0,0,0,false))))=some (r1,r2,r3,r4,r5):=by first|(rw[vx]at H;exact H)|(simp only[vx]at H⊢;exact H)
       (try rw[vx]at qD);have hji62_:(if((J l0 (m8)).f1)<fz then fz else((J l0 (m8)).f1))=m9:=vx;replace H:=Ok.mp H;obtain⟨te,Ur,H⟩:=H
       try dsimp only at H
       have WE:=Ah Ur;clear Ur;have H_:=Ah H;clear H;have pu:0≤((ae):Int):=od;have pv:(ae)<(l0.length:Int):=od;obtain⟨mQ,El,ut,uu,uv,uw⟩:=fW fO.out (ae) pu pv
       cases El
       replace ut:=hq HB ut;replace uu:=hq HB uu;replace uv:=hq HB uv;replace uw:=hq HB uw;replace pu:=eq_true pu;replace pv:=eq_true pv
       try go_wp2_with (first|((with_reducible refine bY (N:=12) rfl ?_);refine br 12 36 #[.int .i64 0,.int .i64 0,.string (⟨#[]⟩:ByteArray),.int .i64 0] ?_;intro bW hg u0 cY hb;replace bw:=Ah (Kd.bB (Kd.e8 (rr bw.out) bW (aah hg.symm)) hb);have Sq:=gw hg (an HB dY eF);have kD:=gw hg (an HB dY eF);replace HB:=Ah (aM (an HB dY eF) hb);have uH:=nn bN hg;have Bf:=nm bN hg;replace bN:=nb bN hb;have uI:=nn bO hg;have sA:=nm bO hg;replace bO:=nb bO hb;clear hb hg;have RN:=Bf.out;have RO:=uH.out;have Kk:=sA.out;have Kl:=uI.out;obtain⟨JK,JL,JM,JN⟩:=aT cY;obtain⟨JO,JP,JQ,JR⟩:=aU cY))
       have bj:Z (Kd.R bD 36 ((((u0.setCell ⟨bW,0,none⟩ (.int .i64 ((J l0 (ae)).f0))).setCell ⟨bW,1,none⟩ (.int .i64 ((J l0 (ae)).f1))).setCell ⟨bW,2,none⟩ (.string ((J l0 (ae)).f2))).setCell ⟨bW,3,none⟩ (.int .i64 ((J l0 (ae)).f3))) w.heap.size (fun k_=>k_≠bW) pF dE):=⟨by(with_reducible repeat(first|apply Kd.bK|apply Kd.bL|apply Kd.au));exact Kd.am (Kd.aH (p:=⟨bW,3,none⟩) (Kd.aH (p:=⟨bW,2,none⟩) (Kd.aH (p:=⟨bW,1,none⟩) (Kd.aH (p:=⟨bW,0,none⟩) (Kd.am bw.out (fun k_ hk=>(⟨hk,hk.2⟩:_∧k_≠bW))) (fun _ hk=>hk.2) (.int .i64 ((J l0 (ae)).f0))) (fun _ hk=>hk.2) (.int .i64 ((J l0 (ae)).f1))) (fun _ hk=>hk.2) (.string ((J l0 (ae)).f2))) (fun _ hk=>hk.2) (.int .i64 ((J l0 (ae)).f3))) (fun _ hk=>hk.1.2)⟩;have be:Z (((((u0.setCell ⟨bW,0,none⟩ (.int .i64 ((J l0 (ae)).f0))).setCell ⟨bW,1,none⟩ (.int .i64 ((J l0 (ae)).f1))).setCell ⟨bW,2,none⟩ (.string ((J l0 (ae)).f2))).setCell ⟨bW,3,none⟩ (.int .i64 ((J l0 (ae)).f3))).heap[gQ]?=some (.cells #[.slice none 0 0,.int .i64 0,.int .i64 0,.int .i64 0] 25 (0,0))):=⟨bf bN uH⟩;have cU:Z (((((u0.setCell ⟨bW,0,none⟩ (.int .i64 ((J l0 (ae)).f0))).setCell ⟨bW,1,none⟩ (.int .i64 ((J l0 (ae)).f1))).setCell ⟨bW,2,none⟩ (.string ((J l0 (ae)).f2))).setCell ⟨bW,3,none⟩ (.int .i64 ((J l0 (ae)).f3))).heap[bo]?=some (.cells #[pF,.int .i64 km,.int .i64 kn,.int .i64 ko] 25 (0,0))):=⟨bf bO uI⟩;have dh:Z (((((u0.setCell ⟨bW,0,none⟩ (.int .i64 ((J l0 (ae)).f0))).setCell ⟨bW,1,none⟩ (.int .i64 ((J l0 (ae)).f1))).setCell ⟨bW,2,none⟩ (.string ((J l0 (ae)).f2))).setCell ⟨bW,3,none⟩ (.int .i64 ((J l0 (ae)).f3))).heap[bW]?=some (.cells #[.int .i64 ((J l0 (ae)).f0),.int .i64 ((J l0 (ae)).f1),.string ((J l0 (ae)).f2),.int .i64 ((J l0 (ae)).f3)] 36 (0,0))):=⟨by exact pb cY⟩;have di:Z (Below w.heap.size w ((((u0.setCell ⟨bW,0,none⟩ (.int .i64 ((J l0 (ae)).f0))).setCell ⟨bW,1,none⟩ (.int .i64 ((J l0 (ae)).f1))).setCell ⟨bW,2,none⟩ (.string ((J l0 (ae)).f2))).setCell ⟨bW,3,none⟩ (.int .i64 ((J l0 (ae)).f3)))):=⟨d9 HB dY eF kD⟩;(try clear bw);(try clear bN);(try clear bO);(try clear cY);(try clear HB)
       generalize ((((u0.setCell ⟨bW,0,none⟩ (.int .i64 ((J l0 (ae)).f0))).setCell ⟨bW,1,none⟩ (.int .i64 ((J l0 (ae)).f1))).setCell ⟨bW,2,none⟩ (.string ((J l0 (ae)).f2))).setCell ⟨bW,3,none⟩ (.int .i64 ((J l0 (ae)).f3)))=W8 at bj be cU dh di⊢
       have bw:=bj;have bN:=be;have bO:=cU;have cY:=dh;have HB:=di;clear bj be cU dh di;replace bw:=Ah (Kd.au bw.out);replace bN:=Ah (aZ bN.out);replace bO:=Ah (aZ bO.out);replace cY:=Ah (aZ cY.out);replace HB:=Ah (bc HB.out);refine dk (n:=12) (S:=fun w'=>w'.cell? ⟨bW,0,none⟩=some (.int .i64 ((J l0 (ae)).f0))∧w'.cell? ⟨bW,1,none⟩=some (.int .i64 ((J l0 (ae)).f1))∧w'.cell? ⟨bW,2,none⟩=some (.string ((J l0 (ae)).f2))∧w'.cell? ⟨bW,3,none⟩=some (.int .i64 ((J l0 (ae)).f3))) (ds:=[]) #[false,false,false,false,false,false,false,false,false,false,false,false] (by kernel_rfl) rfl rfl ⟨(Y cY.out 0).trans rfl,(Y cY.out 1).trans rfl,(Y cY.out 2).trans rfl,(Y cY.out 3).trans rfl⟩ (fun hHeld=> ?_);refine dl bX.LM bX.KU (fun I aq=> ?_)
       generalize W8.drew=w70 at bw bN bO cY HB hHeld⊢
       refine bM 0 69 I.out aq.out hHeld (hr:=by rintro w' ⟨s0,s1,s2,s3⟩;go_simp;with_reducible rfl) (h:= ?_);refine cK (i:=1) (N:=some 70) #[true,true,false,false,false,false,false,false,false,false,false,false] rfl rfl (bz I.out (by kernel_rfl)) (by decide) (fun K hK=> ?_);refine cZ aa7 (by kernel_rfl) rfl #[.agg #[.int .i64 ((J l0 (ae)).f0),.int .i64 ((J l0 (ae)).f1),.string ((J l0 (ae)).f2),.int .i64 ((J l0 (ae)).f3)]] (by rfl) rfl rfl (by(try simp only[fT,gJ,j5]);first|done|(simp only[tR];rfl)|rfl|(simp only[fF,ca];rfl)) ?_;have H:=H_.out;clear H_
       by_cases c64:te=true
       rotate_left
       ·
        replace c64:=iK.mpr c64;subst c64;rw[if_neg dM]at H;simp only[aaa,aad]at H;obtain⟨rfl,rfl,rfl,rfl,rfl⟩:=H
        with_reducible refine(ey.calls ix ((J l0 (ae)).f0) ((J l0 (ae)).f1) ((J l0 (ae)).f2) ((J l0 (ae)).f3) true _ ?sideT qD.out).mono ?_
        case sideT=>refine⟨Ito.ea df.out ?_⟩;first|exact bs HB|exact eJ|(repeat(first|(with_reducible first|exact HB.out|apply dH|apply dZ|apply bc|refine cn ?_ (Z.out (by assumption)))|exact HB.out))
        rintro e w84 ⟨rfl,hb⟩;refine⟨_,rfl, ?_⟩;replace bw:=Ah (Kd.bB (rr bw.out) hb);replace bN:=Ah (bb bN hb);replace bO:=Ah (bb bO hb);replace cY:=Ah (bb cY hb);replace HB:=Ah (aM (d9 HB dY eF kD) hb);(try clear hb);(try clear hb2);(try clear hk);(try clear hi);refine hK.out _ _ ⟨(Y cY.out 0).trans rfl,(Y cY.out 1).trans rfl,(Y cY.out 2).trans rfl,(Y cY.out 3).trans rfl⟩ (fun hHeld=> ?_);clear hK K;refine nq 70 ?_;refine a8 2 71 I.out ?_;refine a8 3 72 I.out ?_;refine a8 4 73 I.out ?_;refine a8 6 75 I.out ?_;refine a8 7 76 I.out ?_;refine a8 8 77 I.out ?_;refine a8 9 78 I.out ?_;refine bM 5 74 I.out aq.out hHeld (hr:=by rintro w' ⟨s0,s1,s2,s3⟩;go_simp;with_reducible rfl) (h:= ?_);refine a8 10 79 I.out ?_;refine a8 11 80 I.out ?_;refine dP (dW I.out (by kernel_rfl)) ?_;have hnb85:=rz.out;have hnc85:=kw.out;obtain⟨hcz86_0,hcz86_1,hcz86_2,hcz86_3⟩:=aT bO;obtain⟨hfz86_0,hfz86_1,hfz86_2,hfz86_3⟩:=aU bO;have yd:0≤((m8):Int):=od;have ye:(m8)<(l0.length:Int):=od;obtain⟨LS,Mn,kz,n5,n6,n7⟩:=fW fO.out (m8) yd ye;obtain rfl:mQ=LS:=(by injection Mn);have gy:mQ.block≠bo:=ek (WR (by have:=Fe _ _ kz;first|rwa [aG]at this|exact this) pa.out);have gz:mQ.block≠bo:=ek (WR (by have:=Fe _ _ kz;first|rwa [aG]at this|exact this) pa.out);replace kz:=hq HB kz;replace n5:=hq HB n5;replace n6:=hq HB n6;replace n7:=hq HB n7;replace kz:=(ah (p:=⟨bo,1,none⟩) (by first|(rw[aG];exact gy)|(show(ro _ _).block≠_;rw[aG];exact gy)|exact gy) (.int .i64 (F5 (ax+1)))).trans kz;replace n5:=(ah (p:=⟨bo,1,none⟩) (by first|(rw[aG];exact gy)|(show(ro _ _).block≠_;rw[aG];exact gy)|exact gy) (.int .i64 (F5 (ax+1)))).trans n5;replace n6:=(ah (p:=⟨bo,1,none⟩) (by first|(rw[aG];exact gy)|(show(ro _ _).block≠_;rw[aG];exact gy)|exact gy) (.int .i64 (F5 (ax+1)))).trans n6;replace n7:=(ah (p:=⟨bo,1,none⟩) (by first|(rw[aG];exact gy)|(show(ro _ _).block≠_;rw[aG];exact gy)|exact gy) (.int .i64 (F5 (ax+1)))).trans n7;replace kz:=(ah (p:=⟨bo,2,none⟩) (by first|(rw[aG];exact gz)|(show(ro _ _).block≠_;rw[aG];exact gz)|exact gz) (.int .i64 (F5 ((F5 (aQ (F5 (ax+1)) (l0.length:Int)))+1)))).trans kz;replace n5:=(ah (p:=⟨bo,2,none⟩) (by first|(rw[aG];exact gz)|(show(ro _ _).block≠_;rw[aG];exact gz)|exact gz) (.int .i64 (F5 ((F5 (aQ (F5 (ax+1)) (l0.length:Int)))+1)))).trans n5;replace n6:=(ah (p:=⟨bo,2,none⟩) (by first|(rw[aG];exact gz)|(show(ro _ _).block≠_;rw[aG];exact gz)|exact gz) (.int .i64 (F5 ((F5 (aQ (F5 (ax+1)) (l0.length:Int)))+1)))).trans n6;replace n7:=(ah (p:=⟨bo,2,none⟩) (by first|(rw[aG];exact gz)|(show(ro _ _).block≠_;rw[aG];exact gz)|exact gz) (.int .i64 (F5 ((F5 (aQ (F5 (ax+1)) (l0.length:Int)))+1)))).trans n7;clear gy gz;replace yd:=eq_true yd;replace ye:=eq_true ye;obtain⟨Us,Mo,a6D⟩:=Kd.dI bw.out;subst a6D
        try go_wp2_with (first|((with_reducible refine bU (f:=21) rfl ?_);refine sn (some 109) rfl rfl aa8 (by kernel_rfl) rfl #[.agg #[.slice Us dE.length Mo,.int .i64 (F5 (ax+1)),.int .i64 (F5 ((F5 (aQ (F5 (ax+1)) (l0.length:Int)))+1)),.int .i64 m9]] rfl (by(try simp only[fT,gJ,j5]);first|done|(simp only[vx];rfl)|rfl|(simp only[fF,ca];rfl)) ?_;(with_reducible refine(ao.calls ix _ _ dE (F5 (ax+1)) (F5 ((F5 (aQ (F5 (ax+1)) (l0.length:Int)))+1)) m9 false _ ?sideT ?aa ?ab WE.out).mono ?_);(case sideT=>refine⟨Ito.ea df.out ?_⟩;first|exact bs HB|exact eJ|(repeat(first|(with_reducible first|exact HB.out|apply dH|apply dZ|apply bc|refine cn ?_ (Z.out (by assumption)))|exact HB.out)));(case aa=>refine(Kd.cM (e:=36) (base:=w.heap.size) (ok:=fun k_=>k_≠bW) (n:=dE.length) (c:=Mo) ?_).2.2;exact(by(with_reducible repeat(first|apply Kd.bK|apply Kd.bL|apply Kd.au));exact(Kd.am (Kd.aH (p:=⟨bo,3,none⟩) (Kd.aH (p:=⟨bo,2,none⟩) (Kd.aH (p:=⟨bo,1,none⟩) (Kd.dv bw.out bO.out (by decide)) (fun _ hk=>hk.2) (.int .i64 (F5 (ax+1)))) (fun _ hk=>hk.2) (.int .i64 (F5 ((F5 (aQ (F5 (ax+1)) (l0.length:Int)))+1)))) (fun _ hk=>hk.2) (.int .i64 m9)) (fun _ h_=>h_.1))));(case ab=>exact(Kd.cM bw.out).2.1);rintro e w88 ⟨rfl,hb⟩;refine⟨_,rfl, ?_⟩;replace bw:=Ah (Kd.bB (by(with_reducible repeat(first|apply Kd.bK|apply Kd.bL|apply Kd.au));exact(Kd.am (Kd.aH (p:=⟨bo,3,none⟩) (Kd.aH (p:=⟨bo,2,none⟩) (Kd.aH (p:=⟨bo,1,none⟩) (Kd.dv bw.out bO.out (by decide)) (fun _ hk=>hk.2) (.int .i64 (F5 (ax+1)))) (fun _ hk=>hk.2) (.int .i64 (F5 ((F5 (aQ (F5 (ax+1)) (l0.length:Int)))+1)))) (fun _ hk=>hk.2) (.int .i64 m9)) (fun _ h_=>h_.1))) hb);replace bN:=Ah (bq (bf bN kw) hb);replace bO:=Ah (bq (g:=bo) (o:= .cells #[.slice Us dE.length Mo,.int .i64 (F5 (ax+1)),.int .i64 (F5 ((F5 (aQ (F5 (ax+1)) (l0.length:Int)))+1)),.int .i64 m9] 25 (0,0)) (pb bO) hb);replace cY:=Ah (bq (bf cY sA) hb);replace HB:=Ah (aM (d9 HB dY eF kD) hb);(try clear hb hk);obtain⟨a0O,a0P,a0Q,a0R⟩:=aT bN;obtain⟨a0S,a0T,a0U,a0V⟩:=aU bN))
        refine bodyPost_ret (gC rfl _ _ gQ 25 #[.slice none 0 0,.int .i64 0,.int .i64 0,.int .i64 0] (0,0) _ rfl (pb bN) aac rfl (by kernel_rfl)) rfl ?_;exact⟨_,by first|rfl|(simp[cH,cI]<;>rfl)|(simp only[←tR,←DT,←vx];first|rfl|(simp[cH,cI]<;>rfl))|(simp[*,cH,cI]<;>rfl),by first|exact Kd.kA _ _ _ _ _|exact Kd.lm _ _ _ _ _|exact Kd.ln _ _ _ _ _|exact Kd.lh _ _ _ _ _|exact Kd.ll _ _ _ _ _,d9 HB dY eF kD⟩
       subst c64;rw[if_pos rfl]at H;simp only[aaa,aad]at H;obtain⟨rfl,rfl,rfl,rfl,rfl⟩:=H
       with_reducible refine(ey.calls ix ((J l0 (ae)).f0) ((J l0 (ae)).f1) ((J l0 (ae)).f2) ((J l0 (ae)).f3) true _ ?sideT qD.out).mono ?_
       case sideT=>refine⟨Ito.ea df.out ?_⟩;first|exact bs HB|exact eJ|(repeat(first|(with_reducible first|exact HB.out|apply dH|apply dZ|apply bc|refine cn ?_ (Z.out (by assumption)))|exact HB.out))
       rintro e FX ⟨rfl,hb⟩;refine⟨_,rfl, ?_⟩;replace bw:=Ah (Kd.bB (rr bw.out) hb);replace bN:=Ah (bb bN hb);replace bO:=Ah (bb bO hb);replace cY:=Ah (bb cY hb);replace HB:=Ah (aM (d9 HB dY eF kD) hb);(try clear hb);(try clear hb2);(try clear hk);(try clear hi);refine hK.out _ _ ⟨(Y cY.out 0).trans rfl,(Y cY.out 1).trans rfl,(Y cY.out 2).trans rfl,(Y cY.out 3).trans rfl⟩ (fun hHeld=> ?_);clear hK K;refine nq 70 ?_;refine a8 2 71 I.out ?_;refine a8 3 72 I.out ?_;refine a8 4 73 I.out ?_;refine a8 6 75 I.out ?_;refine a8 7 76 I.out ?_;refine a8 8 77 I.out ?_;refine a8 9 78 I.out ?_;refine bM 5 74 I.out aq.out hHeld (hr:=by rintro w' ⟨s0,s1,s2,s3⟩;go_simp;with_reducible rfl) (h:= ?_);refine a8 10 79 I.out ?_;refine a8 11 80 I.out ?_;refine dP (dW I.out (by kernel_rfl)) ?_;have a3t:=rz.out;have a3u:=kw.out;obtain⟨Pc,Pd,Pe,Pf⟩:=aT bO;obtain⟨Pg,Ph,Pi,Pj⟩:=aU bO;have yd:0≤((m8):Int):=od;have ye:(m8)<(l0.length:Int):=od;obtain⟨LS,Mn,kz,n5,n6,n7⟩:=fW fO.out (m8) yd ye;obtain rfl:mQ=LS:=(by injection Mn);have gy:mQ.block≠bo:=ek (WR (by have:=Fe _ _ kz;first|rwa [aG]at this|exact this) pa.out);have gz:mQ.block≠bo:=ek (WR (by have:=Fe _ _ kz;first|rwa [aG]at this|exact this) pa.out);replace kz:=hq HB kz;replace n5:=hq HB n5;replace n6:=hq HB n6;replace n7:=hq HB n7;replace kz:=(ah (p:=⟨bo,1,none⟩) (by first|(rw[aG];exact gy)|(show(ro _ _).block≠_;rw[aG];exact gy)|exact gy) (.int .i64 (F5 (ax+1)))).trans kz;replace n5:=(ah (p:=⟨bo,1,none⟩) (by first|(rw[aG];exact gy)|(show(ro _ _).block≠_;rw[aG];exact gy)|exact gy) (.int .i64 (F5 (ax+1)))).trans n5;replace n6:=(ah (p:=⟨bo,1,none⟩) (by first|(rw[aG];exact gy)|(show(ro _ _).block≠_;rw[aG];exact gy)|exact gy) (.int .i64 (F5 (ax+1)))).trans n6;replace n7:=(ah (p:=⟨bo,1,none⟩) (by first|(rw[aG];exact gy)|(show(ro _ _).block≠_;rw[aG];exact gy)|exact gy) (.int .i64 (F5 (ax+1)))).trans n7;replace kz:=(ah (p:=⟨bo,2,none⟩) (by first|(rw[aG];exact gz)|(show(ro _ _).block≠_;rw[aG];exact gz)|exact gz) (.int .i64 (F5 ((F5 (aQ (F5 (ax+1)) (l0.length:Int)))+1)))).trans kz;replace n5:=(ah (p:=⟨bo,2,none⟩) (by first|(rw[aG];exact gz)|(show(ro _ _).block≠_;rw[aG];exact gz)|exact gz) (.int .i64 (F5 ((F5 (aQ (F5 (ax+1)) (l0.length:Int)))+1)))).trans n5;replace n6:=(ah (p:=⟨bo,2,none⟩) (by first|(rw[aG];exact gz)|(show(ro _ _).block≠_;rw[aG];exact gz)|exact gz) (.int .i64 (F5 ((F5 (aQ (F5 (ax+1)) (l0.length:Int)))+1)))).trans n6;replace n7:=(ah (p:=⟨bo,2,none⟩) (by first|(rw[aG];exact gz)|(show(ro _ _).block≠_;rw[aG];exact gz)|exact gz) (.int .i64 (F5 ((F5 (aQ (F5 (ax+1)) (l0.length:Int)))+1)))).trans n7;clear gy gz;replace yd:=eq_true yd;replace ye:=eq_true ye;obtain⟨IA,Em,a6E⟩:=Kd.dI bw.out;subst a6E
       try go_wp2_with (first|((with_reducible refine bU (f:=21) rfl ?_);refine sn (some 109) rfl rfl aa8 (by kernel_rfl) rfl #[.agg #[.slice IA dE.length Em,.int .i64 (F5 (ax+1)),.int .i64 (F5 ((F5 (aQ (F5 (ax+1)) (l0.length:Int)))+1)),.int .i64 m9]] rfl (by(try simp only[fT,gJ,j5]);first|done|(simp only[vx];rfl)|rfl|(simp only[fF,ca];rfl)) ?_;(with_reducible refine(ao.calls ix _ _ dE (F5 (ax+1)) (F5 ((F5 (aQ (F5 (ax+1)) (l0.length:Int)))+1)) m9 true _ ?sideT ?aa ?ab WE.out).mono ?_);(case sideT=>refine⟨Ito.ea df.out ?_⟩;first|exact bs HB|exact eJ|(repeat(first|(with_reducible first|exact HB.out|apply dH|apply dZ|apply bc|refine cn ?_ (Z.out (by assumption)))|exact HB.out)));(case aa=>refine(Kd.cM (e:=36) (base:=w.heap.size) (ok:=fun k_=>k_≠bW) (n:=dE.length) (c:=Em) ?_).2.2;exact(by(with_reducible repeat(first|apply Kd.bK|apply Kd.bL|apply Kd.au));exact(Kd.am (Kd.aH (p:=⟨bo,3,none⟩) (Kd.aH (p:=⟨bo,2,none⟩) (Kd.aH (p:=⟨bo,1,none⟩) (Kd.dv bw.out bO.out (by decide)) (fun _ hk=>hk.2) (.int .i64 (F5 (ax+1)))) (fun _ hk=>hk.2) (.int .i64 (F5 ((F5 (aQ (F5 (ax+1)) (l0.length:Int)))+1)))) (fun _ hk=>hk.2) (.int .i64 m9)) (fun _ h_=>h_.1))));(case ab=>exact(Kd.cM bw.out).2.1);rintro e FY ⟨rfl,hb⟩;refine⟨_,rfl, ?_⟩;replace bw:=Ah (Kd.bB (by(with_reducible repeat(first|apply Kd.bK|apply Kd.bL|apply Kd.au));exact(Kd.am (Kd.aH (p:=⟨bo,3,none⟩) (Kd.aH (p:=⟨bo,2,none⟩) (Kd.aH (p:=⟨bo,1,none⟩) (Kd.dv bw.out bO.out (by decide)) (fun _ hk=>hk.2) (.int .i64 (F5 (ax+1)))) (fun _ hk=>hk.2) (.int .i64 (F5 ((F5 (aQ (F5 (ax+1)) (l0.length:Int)))+1)))) (fun _ hk=>hk.2) (.int .i64 m9)) (fun _ h_=>h_.1))) hb);replace bN:=Ah (bq (bf bN kw) hb);replace bO:=Ah (bq (g:=bo) (o:= .cells #[.slice IA dE.length Em,.int .i64 (F5 (ax+1)),.int .i64 (F5 ((F5 (aQ (F5 (ax+1)) (l0.length:Int)))+1)),.int .i64 m9] 25 (0,0)) (pb bO) hb);replace cY:=Ah (bq (bf cY sA) hb);replace HB:=Ah (aM (d9 HB dY eF kD) hb);(try clear hb hk);obtain⟨hcz76_0,hcz76_1,hcz76_2,hcz76_3⟩:=aT bO;obtain⟨hfz76_0,hfz76_1,hfz76_2,hfz76_3⟩:=aU bO;obtain⟨QD,QE,QF,QG⟩:=aT bN;obtain⟨QH,QI,QJ,QK⟩:=aU bN))
       refine bodyPost_ret (gC rfl _ _ gQ 25 #[.slice IA dE.length Em,.int .i64 (F5 (ax+1)),.int .i64 (F5 ((F5 (aQ (F5 (ax+1)) (l0.length:Int)))+1)),.int .i64 m9] (0,0) _ rfl (pb bN) aac rfl (by kernel_rfl)) rfl ?_;exact⟨_,by first|rfl|(simp[cH,cI]<;>rfl)|(simp only[←tR,←DT,←vx];first|rfl|(simp[cH,cI]<;>rfl))|(simp[*,cH,cI]<;>rfl),by(with_reducible repeat(first|apply Kd.bK|apply Kd.bL|apply Kd.au));exact Kd.am (Kd.aH (p:=⟨gQ,3,none⟩) (Kd.aH (p:=⟨gQ,2,none⟩) (Kd.aH (p:=⟨gQ,1,none⟩) (Kd.aH (p:=⟨gQ,0,none⟩) (Kd.dv bw.out bN.out (by decide)) (fun _ hk=>hk.2) (.slice IA dE.length Em)) (fun _ hk=>hk.2) (.int .i64 (F5 (ax+1)))) (fun _ hk=>hk.2) (.int .i64 (F5 ((F5 (aQ (F5 (ax+1)) (l0.length:Int)))+1)))) (fun _ hk=>hk.2) (.int .i64 m9)) (fun _ hk=>trivial),d9 HB dY eF kD⟩
def eH.l0:Nat→List ByteArray→Int→List (aK)→Int→Int→Int→Option (List ByteArray×Bool)
 |0,_,_,_,_,_,_=>none
 |k+1,x4,x5,xS,QL,a0W,a0X=>if x5<QL then(if(xS.length:Int)=0 then(none)else(if 0≤(GW x5 (xS.length:Int))then(if(GW x5 (xS.length:Int))<(xS.length:Int)then(if x4.length<8796093022208 then(eH.l0 k (x4++[(J xS (GW x5 (xS.length:Int))).f2]) (F5 (x5+1)) xS QL a0W a0X)else(none))else(none))else(none)))else(some (x4,true))
def eH.f(k:Nat)(U:List (aK))(aA:Int)(aD:Int)(aE:Int):Option (List ByteArray×Bool):=(ao.f k U aA aD aE).bind fun En=>(if En=true then(eH.l0 k (([]:List ByteArray)) aE U aA aD aE)else(some (([]:List ByteArray),false)))
theorem eH.eC:∀k,(∀y0 y1 y2 y3 y4 y5,aJ (eH.l0 k y0 y1 y2 y3 y4 y5) (eH.l0 (k+1) y0 y1 y2 y3 y4 y5))
 |0=>fun _ _ _ _ _ _ r h=>by simp[eH.l0]at h
 |k+1=>by
  have cj:=eH.eC k
  ·
   intro y0 y1 y2 y3 y4 y5;unfold eH.l0
   repeat' with_reducible first|exact cj _ _ _ _ _ _|exact ao.mono _ _ _ _ _|exact aJ.refl _|exact aJ.none _|refine aJ.ite ?_ ?_|refine aJ.bind ?_ (fun _=> ?_)
theorem eH.mono:∀a0 a1 a2 a3 k,aJ (eH.f k a0 a1 a2 a3) (eH.f (k+1) a0 a1 a2 a3):=by
 intro a0 a1 a2 a3 k;have cj:=eH.eC k;unfold eH.f
 repeat' with_reducible first|exact cj _ _ _ _ _ _|exact ao.mono _ _ _ _ _|exact aJ.refl _|exact aJ.none _|refine aJ.ite ?_ ?_|refine aJ.bind ?_ (fun _=> ?_)
def eH.T7:Bool×List (List Nat×List Nat):=(true,[([],[]),([],[]),([1],[1]),([],[]),([],[]),([4],[4]),([5],[5]),([3,6],[3,6]),([2,7],[2,7]),([8],[8]),([9],[9]),([10],[10]),([0,11],[0,11]),([12,12,0,1,2,3,4,5,6,7,8,9,10,11,12],[0,12])])
def eH.B7:List Nat:=[0,0,2,0,0,16,48,120,254,510,1022,2046,4095,8191]
theorem eH.yN:dt .any (gN Tryd.f8 7)=eH.T7:=by kernel_rfl
theorem eH.xi:fh eH.T7.2 eH.B7=true:=by kernel_rfl
theorem eH.calls(k:Nat)(cf:Option Addr)(cA:Nat)(U:List (aK))(aA:Int)(aD:Int)(aE:Int)(r1:List ByteArray)(r2:Bool)(w:World)(df:Z (Ito.lz w))(iB:Kd.C bD w cf U.length U)(iC:U.length≤cA)(h:eH.f k U aA aD aE=some (r1,r2)):
 Calls aaf 8 #[.agg #[.slice cf U.length cA,.int .i64 aA,.int .i64 aD,.int .i64 aE]] w fun e w'=>∃fA:Value,e= .returned (.tuple #[fA,.bool r2])∧Kd.R Kd.string 9 w' w.heap.size (fun _=>True) fA r1∧Below w.heap.size w w':=by
 have lP:=aac;have fl:=Ah iB;have iT:=Ah iC;clear iB iC;have HB:=Ah (aag w.heap.size w);have H:((ao.f k U aA aD aE).bind fun En=>(if En=true then(eH.l0 k (([]:List ByteArray)) aE U aA aD aE)else(some (([]:List ByteArray),false))))=some (r1,r2):=h;clear h;replace H:=Ok.mp H;obtain⟨En,eg,H⟩:=H
 try dsimp only at H
 have A2:=Ah eg;clear eg
 by_cases c3:En=true
 rotate_left
 ·
  replace c3:=iK.mpr c3;subst c3;rw[if_neg dM]at H;simp only[aaa,aad]at H;obtain⟨rfl,rfl⟩:=H
  go_enter Tryd.func8,Tryd.ntmps8
  go_wp2_with (first|((with_reducible refine bY (N:=1) rfl ?_);refine br 1 25 #[.slice cf U.length cA,.int .i64 aA,.int .i64 aD,.int .i64 aE] ?_;intro Aa hg tz fY hb;have a4q:=gw hg (bs HB);have pc:=gw hg (bs HB);replace HB:=Ah (aM (bs HB) hb);clear hb hg;obtain⟨GF,GG,GH,GI⟩:=aT fY;obtain⟨GJ,GK,GL,GM⟩:=aU fY)|((with_reducible refine bU (f:=21) rfl ?_);refine gL (some 7) rfl rfl aa8 (by kernel_rfl) rfl #[.agg #[.slice cf U.length cA,.int .i64 aA,.int .i64 aD,.int .i64 aE]] rfl ?_;(with_reducible refine(ao.calls k _ _ U aA aD aE false _ ?sideT ?aa ?ab A2.out).mono ?_);(case sideT=>refine⟨Ito.ea df.out ?_⟩;first|exact bs HB|exact eJ|(repeat(first|(with_reducible first|exact HB.out|apply dH|apply dZ|apply bc|refine cn ?_ (Z.out (by assumption)))|exact HB.out)));(case aa=>exact cb fl HB);(case ab=>exact iT.out);rintro e NP ⟨rfl,hb⟩;refine⟨_,rfl, ?_⟩;replace fY:=nb fY hb;replace HB:=Ah (aM (aX HB pc) hb);(try clear hb)))
  go_ret2
  exact⟨_,er,by first|exact Kd.kA _ _ _ _ _|exact Kd.lm _ _ _ _ _|exact Kd.ln _ _ _ _ _|exact Kd.lh _ _ _ _ _|exact Kd.ll _ _ _ _ _,aX HB pc⟩
 subst c3;rw[if_pos rfl]at H;obtain⟨Ut,DU⟩:∃y_:List ByteArray,y_=(([]:List ByteArray)):=⟨_,rfl⟩
 replace H:(eH.l0 k Ut aE U aA aD aE)=some (r1,r2):=by first|(rw[DU];with_reducible exact H)|(have cL:=(zD _ _).symm.trans H;rw[DU];with_reducible exact cL)|(have cL:=(zD _ _).symm.trans H;with_reducible exact cL)|with_reducible exact H|(rw[DU];exact H)|exact H
 have Su:=Ah DU;clear DU;have H':=Ah H;clear H
 go_enter Tryd.func8,Tryd.ntmps8
 go_wp2_with (first|((with_reducible refine bY (N:=1) rfl ?_);refine br 1 25 #[.slice cf U.length cA,.int .i64 aA,.int .i64 aD,.int .i64 aE] ?_;intro Aa hg w4 fY hb;have a4q:=gw hg (bs HB);have pc:=gw hg (bs HB);replace HB:=Ah (aM (bs HB) hb);clear hb hg;obtain⟨KG,KH,KI,Qu⟩:=aT fY;obtain⟨Qv,KJ,KK,Qw⟩:=aU fY)|((with_reducible refine bU (f:=21) rfl ?_);refine gL (some 7) rfl rfl aa8 (by kernel_rfl) rfl #[.agg #[.slice cf U.length cA,.int .i64 aA,.int .i64 aD,.int .i64 aE]] rfl ?_;(with_reducible refine(ao.calls k _ _ U aA aD aE true _ ?sideT ?aa ?ab A2.out).mono ?_);(case sideT=>refine⟨Ito.ea df.out ?_⟩;first|exact bs HB|exact eJ|(repeat(first|(with_reducible first|exact HB.out|apply dH|apply dZ|apply bc|refine cn ?_ (Z.out (by assumption)))|exact HB.out)));(case aa=>exact cb fl HB);(case ab=>exact iT.out);rintro e w6 ⟨rfl,hb⟩;refine⟨_,rfl, ?_⟩;replace fY:=nb fY hb;replace HB:=Ah (aM (aX HB pc) hb);(try clear hb))|((with_reducible refine bY (N:=9) rfl ?_);refine Kd.vP Kd.string _ 9 ?hg (N:=9) ?hd (xs:=([]:List ByteArray)) (inner:=[]) (ok:=fun _=>True) (okp:=fun _=>True) ?hr ?hp (fun _ hk=>hk) trivial (aag _ _) (kV _) (by simp) ?_;(case hd=>rfl);(case hg=>rfl);(case hr=>first|(go_simp;done)|(go_simp;rfl));(case hp=>exact(cR.none _ _));intro v375 w7 Fa hb jW jJ;clear jW jJ;(first|rw[←Su.out]at Fa|(simp only[aba]at Fa;rw[←Su.out]at Fa));have a4r:=Ah (Kd.eZ Fa (eo (aX HB pc)));replace fY:=nb fY hb;replace HB:=Ah (aM (aX HB pc) hb);clear hb Fa;obtain⟨so,sp,sq,vL⟩:=aT fY;obtain⟨vM,sr,st,vN⟩:=aU fY))
 go_loopg [4,5] k (fun kq v4 v5 w'=>∃ (kJ:List ByteArray) (bQ:Int),v5= .int .i64 bQ∧Z (eH.l0 kq kJ bQ U aA aD aE=some (r1,r2))∧Z (kq≤k)∧Z (Kd.R Kd.string 9 w' w.heap.size (fun _=>True) v4 kJ)∧Z (w'.heap[Aa]?=some (.cells #[(.slice cf U.length cA),.int .i64 aA,.int .i64 aD,.int .i64 aE] 25 (0,0)))∧Z (Below w.heap.size w w'))
 case atStart=>exact⟨(Ut),(aE),e3,H',⟨kV _⟩,⟨rr a4r.out⟩,⟨bk fY⟩,⟨aX HB pc⟩⟩
 case round=>
  clear H'
  try clear c2
  try clear p2
  try clear c3
  try clear c8
  try clear KG KH KI Qu
  try clear so sp sq vL
  try clear Qv KJ KK Qw
  try clear vM sr st vN
  obtain⟨kJ,bQ,rfl,HA,dp,yf,fY,HB⟩:=hrel
  cases gk with
  |zero=>exact absurd HA.out (by simp[eH.l0])
  |succ k1=>
   have H:=HA.out;clear HA;simp only[eH.l0]at H
   by_cases c10:bQ<aA
   rotate_left
   ·
    rw[if_neg c10]at H;have iU:=ev c10;clear c10;simp only[aaa,aad]at H;obtain⟨rfl,rfl⟩:=H;obtain⟨qT,qU,qV,qW⟩:=aT fY;obtain⟨qX,qY,qZ,qa⟩:=aU fY
    go_wp2
    go_ret2
    exact⟨_,er,by(with_reducible repeat(first|apply Kd.bK|apply Kd.bL|apply Kd.au));exact yf.out,aX HB pc⟩
   rw[if_pos c10]at H;have iU:=bV c10;clear c10
   by_cases c11:(U.length:Int)=0
   ·
    rw[if_pos c11]at H;exact absurd H (by simp)
   rw[if_neg c11]at H;have lu:=g9 c11;have c11b1:=gA c11
   have Ry:¬(U=[]):=fun h_=>c11 (by rw[h_];rfl)
   obtain⟨jE,Sv⟩:∃j_:Int,(GW bQ (U.length:Int))=j_:=⟨_,rfl⟩
   replace H:(if 0≤(jE)then(if(jE)<(U.length:Int)then(if kJ.length<8796093022208 then(eH.l0 k1 (kJ++[(J U (jE)).f2]) (F5 (bQ+1)) U aA aD aE)else(none))else(none))else(none))=some (r1,r2):=by first|(rw[Sv]at H;exact H)|(simp only[Sv]at H⊢;exact H)
   by_cases c13:0≤(jE)
   rotate_left
   ·
    rw[if_neg c13]at H;exact absurd H (by simp)
   rw[if_pos c13]at H;have Rz:=bV c13;clear c13
   by_cases c14:(jE)<(U.length:Int)
   rotate_left
   ·
    rw[if_neg c14]at H;exact absurd H (by simp)
   rw[if_pos c14]at H;have vl:=bV c14;clear c14
   by_cases c15:kJ.length<8796093022208
   rotate_left
   ·
    rw[if_neg c15]at H;exact absurd H (by simp)
   rw[if_pos c15]at H;have a4s:=Ah c15;clear c15;obtain⟨Uu,DV⟩:∃y_:List ByteArray,y_=(kJ++[(J U (jE)).f2]):=⟨_,rfl⟩
   replace H:(eH.l0 k1 Uu (F5 (bQ+1)) U aA aD aE)=some (r1,r2):=by first|(rw[DV];with_reducible exact H)|(have cL:=(zD _ _).symm.trans H;rw[DV];with_reducible exact cL)|(have cL:=(zD _ _).symm.trans H;with_reducible exact cL)|with_reducible exact H|(rw[DV];exact H)|exact H
   have a4t:=Ah DV;clear DV;have H':=Ah H;clear H;obtain⟨mf,mg,mh,mi⟩:=aT fY;obtain⟨mj,ml,mm,mo⟩:=aU fY
   try go_wp2
   replace yf:=Ah (Kd.au yf.out);replace fY:=Ah (aZ fY.out);replace HB:=Ah (bc HB.out);have Mp:0≤((jE):Int):=od;have Mq:(jE)<(U.length:Int):=od;obtain⟨vy,a6F,GO,GP,GQ,GR⟩:=fW fl.out (jE) Mp Mq;have ux:=GR;have uy:=GQ;have uz:=GP;have vA:=GO
   cases a6F
   replace GO:=hq HB GO;replace GP:=hq HB GP;replace GQ:=hq HB GQ;replace GR:=hq HB GR;replace Mp:=eq_true Mp;replace Mq:=eq_true Mq;refine dk (n:=14) (S:=fun w'=>w'.cell? ⟨Aa,0,none⟩=some (.slice (some vy) U.length cA)∧w'.cell? ⟨Aa,1,none⟩=some (.int .i64 aA)∧w'.cell? ⟨Aa,2,none⟩=some (.int .i64 aD)∧w'.cell? ⟨Aa,3,none⟩=some (.int .i64 aE)∧w'.cell? (vy.add (((jE)).toNat*4))=some (.int .i64 ((J U (jE)).f0))∧w'.cell? ⟨(vy.add (((jE)).toNat*4)).block,(vy.add (((jE)).toNat*4)).off+1,none⟩=some (.int .i64 ((J U (jE)).f1))∧w'.cell? ⟨(vy.add (((jE)).toNat*4)).block,(vy.add (((jE)).toNat*4)).off+2,none⟩=some (.string ((J U (jE)).f2))∧w'.cell? ⟨(vy.add (((jE)).toNat*4)).block,(vy.add (((jE)).toNat*4)).off+3,none⟩=some (.int .i64 ((J U (jE)).f3))) (ds:=[]) #[false,false,false,false,false,false,false,false,false,false,false,false,false,false] (by kernel_rfl) rfl rfl ⟨(Y fY.out 0).trans rfl,(Y fY.out 1).trans rfl,(Y fY.out 2).trans rfl,(Y fY.out 3).trans rfl,((HB.out.cell (Fe w _ vA)).trans vA),((HB.out.cell (Fe w _ uz)).trans uz),((HB.out.cell (Fe w _ uy)).trans uy),((HB.out.cell (Fe w _ ux)).trans ux)⟩ (fun hHeld=> ?_);refine dl eH.yN eH.xi (fun I aq=> ?_)
   generalize wr.drew=z7 at yf fY HB GO GP GQ GR hHeld⊢
   refine a8 0 18 I.out ?_;refine a8 1 19 I.out ?_;refine a8 3 21 I.out ?_;refine a8 4 22 I.out ?_;refine bM 2 20 I.out aq.out hHeld (hr:=by rintro w' ⟨s0,s1,s2,s3,s4,s5,s6,s7⟩;go_simp;with_reducible rfl) (h:= ?_);refine bM 5 23 I.out aq.out hHeld (hr:=by rintro w' ⟨s0,s1,s2,s3,s4,s5,s6,s7⟩;go_simp;with_reducible rfl) (h:= ?_);refine a8 6 24 I.out ?_;refine a8 7 25 I.out ?_;refine a8 8 26 I.out ?_;refine a8 9 27 I.out ?_;refine bM 10 28 I.out aq.out hHeld (hr:=by rintro w' ⟨s0,s1,s2,s3,s4,s5,s6,s7⟩;go_simp;with_reducible rfl) (h:= ?_);refine cK (i:=11) (N:=some 29) #[true,true,true,true,true,true,true,true,true,true,true,true,false,false] rfl rfl (bz I.out (by kernel_rfl)) (by decide) (fun K hK=> ?_);refine CS (w1:= ?_) (v:= ?_) (by rfl) rfl ?_ ?_;rotate_left 2
   ·
    go_simp
    constructor
    ·
     rfl
    ·
     rfl
   refine hK.out _ _ ⟨(Y (cE fY.out _) 0).trans rfl,(Y (cE fY.out _) 1).trans rfl,(Y (cE fY.out _) 2).trans rfl,(Y (cE fY.out _) 3).trans rfl,(abs _ _ _ (Fe _ _ (((HB.out.cell (Fe w _ vA)).trans vA)))).trans (((HB.out.cell (Fe w _ vA)).trans vA)),(abs _ _ _ (Fe _ _ (((HB.out.cell (Fe w _ uz)).trans uz)))).trans (((HB.out.cell (Fe w _ uz)).trans uz)),(abs _ _ _ (Fe _ _ (((HB.out.cell (Fe w _ uy)).trans uy)))).trans (((HB.out.cell (Fe w _ uy)).trans uy)),(abs _ _ _ (Fe _ _ (((HB.out.cell (Fe w _ ux)).trans ux)))).trans (((HB.out.cell (Fe w _ ux)).trans ux))⟩ (fun hHeld=> ?_);clear hK K;refine nq 29 ?_;refine cK (i:=12) (N:=some 30) #[true,true,true,true,true,true,true,true,true,true,true,true,true,false] rfl rfl (bz I.out (by kernel_rfl)) (by decide) (fun K hK=> ?_);refine Kd.Nb Kd.string (w0:=w) w.heap.size (by rfl) (.tmp 18) (.tmp 29) 31 9 (.string ⟨#[]⟩) 16 rfl Tryd.underlying31 Gk rfl (by decide) (by omega) u4 kJ ((J U (jE)).f2) [.string ((J U (jE)).f2)] (fun _=>True) (fun _=>False) rfl rfl ?aP (fun _ hk=>hk.elim) ?aF ?aO ?aB ?aS ?aL ?_;(case aP=>exact rfl);(case aB=>exact(aX HB pc));(case aF=>exact(fun _ _=>trivial));(case aO=>exact(rr yf.out));(case aS=>exact(eo (aX HB pc)));(case aL=>have:=a4s.out;omega);intro v379 Vj ho hb hg hat;rw[←a4t.out]at ho;replace fY:=Ah (ic (bk fY) hg (Kd.d7 yf.out fY.out (by decide)));replace HB:=Ah (hb);have a4u:=Ah (ho);clear yf ho hb hg hat;refine hK.out _ _ ⟨(Y fY.out 0).trans rfl,(Y fY.out 1).trans rfl,(Y fY.out 2).trans rfl,(Y fY.out 3).trans rfl,((HB.out.cell (Fe w _ vA)).trans vA),((HB.out.cell (Fe w _ uz)).trans uz),((HB.out.cell (Fe w _ uy)).trans uy),((HB.out.cell (Fe w _ ux)).trans ux)⟩ (fun hHeld=> ?_);clear hK K;refine nq 30 ?_;refine a8 13 4 I.out ?_;refine dP (dW I.out (by kernel_rfl)) ?_
   try go_wp2
   go_roundg k1
   case measure=>have:=dp.out;omega
   case rel=>exact⟨(Uu),(F5 (bQ+1)),e3,H',⟨by have:=dp.out;omega⟩,⟨rr a4u.out⟩,⟨bk fY⟩,⟨aX HB pc⟩⟩
def fU.l0:Nat→List ByteArray→List ByteArray→Int→Int→Option (Bool)
 |0,_,_,_,_=>none
 |k+1,x0,x1,WF,u3=>if u3<WF then(if 0≤u3 then(if u3<(x0.length:Int)then(if u3<(x1.length:Int)then(if(rF abG x0 u3).toList=(rF abG x1 u3).toList then(fU.l0 k x0 x1 WF (F5 (u3+1)))else(some false))else(none))else(none))else(none))else(some true)
def fU.f(k:Nat)(l0:List ByteArray)(l1:List ByteArray):Option (Bool):=if(l0.length:Int)=(l1.length:Int)then(fU.l0 k l0 l1 (l0.length:Int) 0)else(some false)
theorem fU.eC:∀k,(∀y0 y1 y2 y3,aJ (fU.l0 k y0 y1 y2 y3) (fU.l0 (k+1) y0 y1 y2 y3))
 |0=>fun _ _ _ _ r h=>by simp[fU.l0]at h
 |k+1=>by
  have cj:=fU.eC k
  ·
   intro y0 y1 y2 y3;unfold fU.l0
   repeat' with_reducible first|exact cj _ _ _ _|exact aJ.refl _|exact aJ.none _|refine aJ.ite ?_ ?_|refine aJ.bind ?_ (fun _=> ?_)
theorem fU.mono:∀a0 a1 k,aJ (fU.f k a0 a1) (fU.f (k+1) a0 a1):=by
 intro a0 a1 k;have cj:=fU.eC k;unfold fU.f
 repeat' with_reducible first|exact cj _ _ _ _|exact aJ.refl _|exact aJ.none _|refine aJ.ite ?_ ?_|refine aJ.bind ?_ (fun _=> ?_)
theorem fU.calls(k:Nat)(A0:Option Addr)(c0:Nat)(l0:List ByteArray)(A1:Option Addr)(c1:Nat)(l1:List ByteArray)(r:Bool)(w:World)(hr0:Kd.C Kd.string w A0 l0.length l0)(hc0:l0.length≤c0)(hr1:Kd.C Kd.string w A1 l1.length l1)(hc1:l1.length≤c1)(h:fU.f k l0 l1=some r):
 Calls aaf 9 #[.slice A0 l0.length c0,.slice A1 l1.length c1] w fun e w'=>e= .returned (.bool r)∧fQ w w':=by
 have fO:=Ah hr0;have tq:=Ah hc0;clear hr0 hc0;have HR1:=Ah hr1;have tr:=Ah hc1;clear hr1 hc1;have H:(if(l0.length:Int)=(l1.length:Int)then(fU.l0 k l0 l1 (l0.length:Int) 0)else(some false))=some r:=h;clear h
 by_cases c3:(l0.length:Int)=(l1.length:Int)
 rotate_left
 ·
  rw[if_neg c3]at H;have pk:=g9 c3;have Hv:=gA c3
  have Uv:(l0.length==l1.length)=false:=by first|simpa using c3|(simp at c3⊢;omega)
  obtain rfl:=qE H
  go_enter Tryd.func9,Tryd.ntmps9
  go_wp2
  repeat(go_quiet (fail);try go_wp2)
  go_ret
  exact⟨e3,by repeat(first|exact fQ.refl _|apply fQ.step)⟩
 rw[if_pos c3]at H;have pk:=lV c3;have Hv:=lW c3
 have Uv:(l0.length==l1.length)=true:=by first|simpa using c3|(simp at c3⊢;omega)
 clear c3;have H':=Ah H;clear H
 go_enter Tryd.func9,Tryd.ntmps9
 go_wp2
 repeat(go_quiet (fail);try go_wp2)
 go_loopg [13] k (fun kq v13 w'=>∃ (j9:Int),v13= .int .i64 j9∧Z (fU.l0 kq l0 l1 (l0.length:Int) j9=some r)∧Z (kq≤k)∧fQ w w')
 case atStart=>exact⟨(0),e3,H',⟨kV _⟩,by repeat(first|exact fQ.refl _|apply fQ.step)⟩
 case round=>
  clear H'
  try clear c1
  try clear p2
  try clear c3
  try clear pk
  try clear Hv
  try clear Uv
  obtain⟨j9,rfl,HA,dp,⟨m1,rfl⟩⟩:=hrel
  cases gk with
  |zero=>exact absurd HA.out (by simp[fU.l0])
  |succ k1=>
   have H:=HA.out;clear HA;simp only[fU.l0]at H
   by_cases c4:j9<(l0.length:Int)
   rotate_left
   ·
    rw[if_neg c4]at H;have rO:=ev c4;clear c4;obtain rfl:=qE H
    go_wp2
    repeat(go_quiet (fail);try go_wp2)
    go_ret
    exact⟨e3,by repeat(first|exact fQ.refl _|apply fQ.step)⟩
   rw[if_pos c4]at H;have rO:=bV c4;clear c4
   by_cases c5:0≤j9
   rotate_left
   ·
    rw[if_neg c5]at H;exact absurd H (by simp)
   rw[if_pos c5]at H;have rP:=bV c5;clear c5
   by_cases c6:j9<(l0.length:Int)
   rotate_left
   ·
    rw[if_neg c6]at H;exact absurd H (by simp)
   rw[if_pos c6]at H;have oT:=bV c6;clear c6
   by_cases c7:j9<(l1.length:Int)
   rotate_left
   ·
    rw[if_neg c7]at H;exact absurd H (by simp)
   rw[if_pos c7]at H;have kI:=bV c7;clear c7
   by_cases c8:(rF abG l0 j9).toList=(rF abG l1 j9).toList
   rotate_left
   ·
    rw[if_neg c8]at H;have lQ:=g9 c8;have rQ:=gA c8;obtain rfl:=qE H;have yg:0≤(j9:Int):=od;have yh:j9<(l0.length:Int):=od;obtain⟨a4v,Mr,a0Y⟩:=Kd.Ft fO.out j9 yg yh
    cases Mr
    replace yg:=eq_true yg;replace yh:=eq_true yh;have yi:0≤(j9:Int):=od;have yj:j9<(l1.length:Int):=od;obtain⟨a4w,Ms,a0Z⟩:=Kd.Ft HR1.out j9 yi yj
    cases Ms
    replace yi:=eq_true yi;replace yj:=eq_true yj
    go_wp2
    repeat(go_quiet (fail);try go_wp2)
    go_ret
    exact⟨e3,by repeat(first|exact fQ.refl _|apply fQ.step)⟩
   rw[if_pos c8]at H;have lQ:=lV c8;have rQ:=lW c8;clear c8;have H':=Ah H;clear H;have yg:0≤(j9:Int):=od;have yh:j9<(l0.length:Int):=od;obtain⟨a4v,Mr,a0Y⟩:=Kd.Ft fO.out j9 yg yh
   cases Mr
   replace yg:=eq_true yg;replace yh:=eq_true yh;have yi:0≤(j9:Int):=od;have yj:j9<(l1.length:Int):=od;obtain⟨a4w,Ms,a0Z⟩:=Kd.Ft HR1.out j9 yi yj
   cases Ms
   replace yi:=eq_true yi;replace yj:=eq_true yj
   go_wp2
   repeat(go_quiet (fail);try go_wp2)
   go_roundg k1
   case measure=>have:=dp.out;omega
   case rel=>exact⟨(F5 (j9+1)),e3,H',⟨by have:=dp.out;omega⟩,by repeat(first|exact fQ.refl _|apply fQ.step)⟩
def mI.f(bI:Int)(aA:Int)(aD:ByteArray)(aE:Int)(a1:Int):Option (Int×Int×ByteArray×Int×Bool):=(ku.f bI aA aD aE).bind fun Eo=>(if Eo=true then((fb.f a1 0 12).bind fun Ep=>(if Ep=true then(if 0≤(mn a1 (aD.size:Int))then(if(mn a1 (aD.size:Int))≤(aD.size:Int)then(some (bI,aA,aD.extract 0 ((mn a1 (aD.size:Int)):Int).toNat,aE,true))else(none))else(none))else(some (0,0,(⟨#[]⟩:ByteArray),0,false))))else(some (0,0,(⟨#[]⟩:ByteArray),0,false)))
theorem mI.calls(bI:Int)(aA:Int)(aD:ByteArray)(aE:Int)(a1:Int)(r1:Int)(r2:Int)(r3:ByteArray)(r4:Int)(r5:Bool)(w:World)(h:mI.f bI aA aD aE a1=some (r1,r2,r3,r4,r5)):
 Calls aaf 10 #[.agg #[.int .i64 bI,.int .i64 aA,.string aD,.int .i64 aE],.int .i64 a1] w fun e w'=>e= .returned (.tuple #[.agg #[.int .i64 r1,.int .i64 r2,.string r3,.int .i64 r4],.bool r5])∧Below w.heap.size w w':=by
 have kH:=aan;have HB:=Ah (aag w.heap.size w);have H:((ku.f bI aA aD aE).bind fun Eo=>(if Eo=true then((fb.f a1 0 12).bind fun Ep=>(if Ep=true then(if 0≤(mn a1 (aD.size:Int))then(if(mn a1 (aD.size:Int))≤(aD.size:Int)then(some (bI,aA,aD.extract 0 ((mn a1 (aD.size:Int)):Int).toNat,aE,true))else(none))else(none))else(some (0,0,(⟨#[]⟩:ByteArray),0,false))))else(some (0,0,(⟨#[]⟩:ByteArray),0,false))))=some (r1,r2,r3,r4,r5):=h;clear h;replace H:=Ok.mp H;obtain⟨Eo,iJ,H⟩:=H
 try dsimp only at H
 have A3:=Ah iJ;clear iJ
 by_cases c4:Eo=true
 rotate_left
 ·
  replace c4:=iK.mpr c4;subst c4;rw[if_neg dM]at H;simp only[aaa,aad]at H;obtain⟨rfl,rfl,rfl,rfl,rfl⟩:=H
  go_enter abt,Tryd.ntmps10
  go_wp2_with (first|((with_reducible refine bY (N:=2) rfl ?_);refine br 2 36 #[.int .i64 bI,.int .i64 aA,.string aD,.int .i64 aE] ?_;intro HU hg rj ft hb;have Sw:=gw hg (bs HB);have kE:=gw hg (bs HB);replace HB:=Ah (aM (bs HB) hb);clear hb hg)|((with_reducible refine bY (N:=4) rfl ?_);refine br 4 36 #[.int .i64 0,.int .i64 0,.string (⟨#[]⟩:ByteArray),.int .i64 0] ?_;intro rB hg W5 iu hb;have Sx:=gw hg (aX HB kE);have rC:=gw hg (aX HB kE);replace HB:=Ah (aM (aX HB kE) hb);have Bg:=nn ft hg;have zL:=nm ft hg;replace ft:=nb ft hb;clear hb hg;have Sa:=Bg.out;have Sb:=zL.out;obtain⟨ui,uj,uk,ul⟩:=aT ft;obtain⟨um,uo,uq,ur⟩:=aU ft)|((with_reducible refine bU (f:=27) rfl ?_);refine gL (some 7) rfl rfl abu (by kernel_rfl) rfl #[.agg #[.int .i64 bI,.int .i64 aA,.string aD,.int .i64 aE]] rfl ?_;(with_reducible refine(ku.calls bI aA aD aE false _ A3.out).mono ?_);rintro e IH ⟨rfl,hb⟩;refine⟨_,rfl, ?_⟩;replace ft:=nb ft hb;replace iu:=Ah (bq (g:=rB) (o:= .cells #[.int .i64 0,.int .i64 0,.string (⟨#[]⟩:ByteArray),.int .i64 0] 36 (0,0)) (bk iu) hb);replace HB:=Ah (aM (an HB kE rC) hb);(try clear hb);obtain⟨uU,uV,uW,uX⟩:=aT iu;obtain⟨uY,uZ,ua,ub⟩:=aU iu))
  refine bodyPost_ret (gC rfl _ _ rB 36 #[.int .i64 0,.int .i64 0,.string (⟨#[]⟩:ByteArray),.int .i64 0] (0,0) _ rfl (pb iu) aan rfl (by kernel_rfl)) rfl ?_;exact⟨er,an HB kE rC⟩
 subst c4;rw[if_pos rfl]at H;replace H:=Ok.mp H;obtain⟨Ep,iy,H⟩:=H
 try dsimp only at H
 have A5:=Ah iy;clear iy
 by_cases c6:Ep=true
 rotate_left
 ·
  replace c6:=iK.mpr c6;subst c6;rw[if_neg dM]at H;simp only[aaa,aad]at H;obtain⟨rfl,rfl,rfl,rfl,rfl⟩:=H
  go_enter abt,Tryd.ntmps10
  go_wp2_with (first|((with_reducible refine bY (N:=2) rfl ?_);refine br 2 36 #[.int .i64 bI,.int .i64 aA,.string aD,.int .i64 aE] ?_;intro HU hg z7 ft hb;have Sw:=gw hg (bs HB);have kE:=gw hg (bs HB);replace HB:=Ah (aM (bs HB) hb);clear hb hg)|((with_reducible refine bY (N:=4) rfl ?_);refine br 4 36 #[.int .i64 0,.int .i64 0,.string (⟨#[]⟩:ByteArray),.int .i64 0] ?_;intro rB hg Vj iu hb;have Sx:=gw hg (aX HB kE);have rC:=gw hg (aX HB kE);replace HB:=Ah (aM (aX HB kE) hb);have Bg:=nn ft hg;have zL:=nm ft hg;replace ft:=nb ft hb;clear hb hg;have L9:=Bg.out;have LA:=zL.out;obtain⟨ou,ov,ow,ox⟩:=aT ft;obtain⟨oy,oz,p7,p8⟩:=aU ft)|((with_reducible refine bU (f:=27) rfl ?_);refine gL (some 7) rfl rfl abu (by kernel_rfl) rfl #[.agg #[.int .i64 bI,.int .i64 aA,.string aD,.int .i64 aE]] rfl ?_;(with_reducible refine(ku.calls bI aA aD aE true _ A3.out).mono ?_);rintro e oe ⟨rfl,hb⟩;refine⟨_,rfl, ?_⟩;replace ft:=nb ft hb;replace iu:=Ah (bq (g:=rB) (o:= .cells #[.int .i64 0,.int .i64 0,.string (⟨#[]⟩:ByteArray),.int .i64 0] 36 (0,0)) (bk iu) hb);replace HB:=Ah (aM (an HB kE rC) hb);(try clear hb))|(go_at_call 28;(with_reducible refine(fb.calls a1 0 12 false _ A5.out).mono ?_);rintro e w' ⟨rfl,⟨nd,rfl⟩⟩;(try(rw[ru oe];generalize fS:abf oe _=oe;have bj:Z (oe.heap[HU]?=some (.cells #[.int .i64 bI,.int .i64 aA,.string aD,.int .i64 aE] 36 (0,0))):=⟨by rw[←fS];exact(bk ft)⟩;have be:Z (oe.heap[rB]?=some (.cells #[.int .i64 0,.int .i64 0,.string (⟨#[]⟩:ByteArray),.int .i64 0] 36 (0,0))):=⟨by rw[←fS];exact(bk iu)⟩;have cU:Z (Below w.heap.size w oe):=⟨by rw[←fS];exact(an HB kE rC)⟩;clear ft iu HB fS;have ft:=bj;have iu:=be;have HB:=cU;clear bj be cU));obtain⟨qb,qc,qd,qe⟩:=aT iu;obtain⟨qf,qg,qh,qi⟩:=aU iu))
  refine bodyPost_ret (gC rfl _ _ rB 36 #[.int .i64 0,.int .i64 0,.string (⟨#[]⟩:ByteArray),.int .i64 0] (0,0) _ rfl (pb iu) aan rfl (by kernel_rfl)) rfl ?_;exact⟨er,an HB kE rC⟩
 subst c6;rw[if_pos rfl]at H;obtain⟨zC,As⟩:∃j_:Int,(mn a1 (aD.size:Int))=j_:=⟨_,rfl⟩
 replace H:(if 0≤(zC)then(if(zC)≤(aD.size:Int)then(some (bI,aA,aD.extract 0 ((zC):Int).toNat,aE,true))else(none))else(none))=some (r1,r2,r3,r4,r5):=by first|(rw[As]at H;exact H)|(simp only[As]at H⊢;exact H)
 (try rw[As]at A3);(try rw[As]at A5);have hji7_:(if(aD.size:Int)<a1 then(aD.size:Int)else a1)=zC:=As
 by_cases c8:0≤(zC)
 rotate_left
 ·
  rw[if_neg c8]at H;exact absurd H (by simp)
 rw[if_pos c8]at H;have lQ:=eq_true c8;have rQ:=bV c8;clear c8
 by_cases c9:(zC)≤(aD.size:Int)
 rotate_left
 ·
  rw[if_neg c9]at H;exact absurd H (by simp)
 rw[if_pos c9]at H;have Hr:=eq_true c9;have Hs:=bV c9;clear c9;simp only[aaa,aad]at H;obtain⟨rfl,rfl,rfl,rfl,rfl⟩:=H
 go_enter abt,Tryd.ntmps10
 go_wp2_with (first|((with_reducible refine bY (N:=2) rfl ?_);refine br 2 36 #[.int .i64 bI,.int .i64 aA,.string aD,.int .i64 aE] ?_;intro HU hg FP ft hb;have Sw:=gw hg (bs HB);have kE:=gw hg (bs HB);replace HB:=Ah (aM (bs HB) hb);clear hb hg)|((with_reducible refine bY (N:=4) rfl ?_);refine br 4 36 #[.int .i64 0,.int .i64 0,.string (⟨#[]⟩:ByteArray),.int .i64 0] ?_;intro rB hg tw iu hb;have Sx:=gw hg (aX HB kE);have rC:=gw hg (aX HB kE);replace HB:=Ah (aM (aX HB kE) hb);have Bg:=nn ft hg;have zL:=nm ft hg;replace ft:=nb ft hb;clear hb hg;have Sy:=Bg.out;have Sz:=zL.out;obtain⟨xK,xL,xM,xN⟩:=aT ft;obtain⟨xO,xP,xQ,xR⟩:=aU ft)|((with_reducible refine bU (f:=27) rfl ?_);refine gL (some 7) rfl rfl abu (by kernel_rfl) rfl #[.agg #[.int .i64 bI,.int .i64 aA,.string aD,.int .i64 aE]] rfl ?_;(with_reducible refine(ku.calls bI aA aD aE true _ A3.out).mono ?_);rintro e kP ⟨rfl,hb⟩;refine⟨_,rfl, ?_⟩;replace ft:=nb ft hb;replace iu:=Ah (bq (g:=rB) (o:= .cells #[.int .i64 0,.int .i64 0,.string (⟨#[]⟩:ByteArray),.int .i64 0] 36 (0,0)) (bk iu) hb);replace HB:=Ah (aM (an HB kE rC) hb);(try clear hb))|(go_at_call 28;(with_reducible refine(fb.calls a1 0 12 true _ A5.out).mono ?_);rintro e w' ⟨rfl,⟨nd,rfl⟩⟩;(try(rw[ru kP];generalize fS:abf kP _=kP;have bj:Z (kP.heap[HU]?=some (.cells #[.int .i64 bI,.int .i64 aA,.string aD,.int .i64 aE] 36 (0,0))):=⟨by rw[←fS];exact(bk ft)⟩;have be:Z (kP.heap[rB]?=some (.cells #[.int .i64 0,.int .i64 0,.string (⟨#[]⟩:ByteArray),.int .i64 0] 36 (0,0))):=⟨by rw[←fS];exact(bk iu)⟩;have cU:Z (Below w.heap.size w kP):=⟨by rw[←fS];exact(an HB kE rC)⟩;clear ft iu HB fS;have ft:=bj;have iu:=be;have HB:=cU;clear bj be cU));obtain⟨Pp,Pq,Pr,Ps⟩:=aT ft;obtain⟨Pt,Pu,Pv,Pw⟩:=aU ft;obtain⟨mf,mg,mh,mi⟩:=aT iu;obtain⟨mj,ml,mm,mo⟩:=aU iu))
 refine bodyPost_ret (gC rfl _ _ rB 36 #[.int .i64 bI,.int .i64 aA,.string (aD.extract 0 ((zC):Int).toNat),.int .i64 aE] (0,0) _ rfl (oZ iu zL) aan rfl (by kernel_rfl)) rfl ?_;exact⟨by first|rfl|(simp[cH,cI]<;>rfl)|(simp only[←As];first|rfl|(simp[cH,cI]<;>rfl))|(simp[*,cH,cI]<;>rfl),an HB kE rC⟩
def fj.l0:Nat→Int→List Int→Int→Int→Option (Int)
 |0,_,_,_,_=>none
 |k+1,x3,x6,x7,x8=>if x8<x7 then(if 0≤x8 then(if x8<(x6.length:Int)then(fj.l0 k (GW (F5 ((F5 (31*x3))+(F5 (rd x6 x8)))) 1000003) x6 x7 (F5 (x8+1)))else(none))else(none))else(some x3)
def fj.f(k:Nat)(l0:List Int):Option (Int):=fj.l0 k 0 l0 (l0.length:Int) 0
theorem fj.eC:∀k,(∀y0 y1 y2 y3,aJ (fj.l0 k y0 y1 y2 y3) (fj.l0 (k+1) y0 y1 y2 y3))
 |0=>fun _ _ _ _ r h=>by simp[fj.l0]at h
 |k+1=>by
  have cj:=fj.eC k
  ·
   intro y0 y1 y2 y3;unfold fj.l0
   repeat' with_reducible first|exact cj _ _ _ _|exact aJ.refl _|exact aJ.none _|refine aJ.ite ?_ ?_|refine aJ.bind ?_ (fun _=> ?_)
theorem fj.mono:∀a0 k,aJ (fj.f k a0) (fj.f (k+1) a0):=by
 intro a0 k;have cj:=fj.eC k;unfold fj.f
 repeat' with_reducible first|exact cj _ _ _ _|exact aJ.refl _|exact aJ.none _|refine aJ.ite ?_ ?_|refine aJ.bind ?_ (fun _=> ?_)
theorem fj.calls(k:Nat)(A0:Option Addr)(c0:Nat)(l0:List Int)(r:Int)(w:World)(hr0:Kd.C (Kd.int .u8) w A0 l0.length l0)(hc0:l0.length≤c0)(h:fj.f k l0=some r):
 Calls aaf 11 #[.slice A0 l0.length c0] w fun e w'=>e= .returned (.int .i64 r)∧fQ w w':=by
 have fO:=Ah hr0;have tq:=Ah hc0;clear hr0 hc0;have H:(fj.l0 k 0 l0 (l0.length:Int) 0)=some r:=h;clear h;have H':=Ah H;clear H
 go_enter Tryd.func11,Tryd.ntmps11
 go_wp2
 go_loopg [3,8] k (fun kq v3 v8 w'=>∃ (rX:Int) (pw:Int),v3= .int .i64 rX∧v8= .int .i64 pw∧Z (fj.l0 kq rX l0 (l0.length:Int) pw=some r)∧Z (kq≤k)∧fQ w w')
 case atStart=>exact⟨(0),(0),e3,e3,H',⟨kV _⟩,by repeat(first|exact fQ.refl _|apply fQ.step)⟩
 case round=>
  clear H'
  try clear c1
  obtain⟨rX,pw,rfl,rfl,HA,dp,⟨m1,rfl⟩⟩:=hrel
  cases gk with
  |zero=>exact absurd HA.out (by simp[fj.l0])
  |succ k1=>
   have H:=HA.out;clear HA;simp only[fj.l0]at H
   by_cases c2:pw<(l0.length:Int)
   rotate_left
   ·
    rw[if_neg c2]at H;have E0:=ev c2;clear c2;obtain rfl:=qE H
    go_wp2
    go_ret
    exact⟨e3,by repeat(first|exact fQ.refl _|apply fQ.step)⟩
   rw[if_pos c2]at H;have E0:=bV c2;clear c2
   by_cases c3:0≤pw
   rotate_left
   ·
    rw[if_neg c3]at H;exact absurd H (by simp)
   rw[if_pos c3]at H;have pk:=bV c3;clear c3
   by_cases c4:pw<(l0.length:Int)
   rotate_left
   ·
    rw[if_neg c4]at H;exact absurd H (by simp)
   rw[if_pos c4]at H;have rO:=bV c4;clear c4;have H':=Ah H;clear H;have Mt:0≤(pw:Int):=od;have Mu:pw<(l0.length:Int):=od;obtain⟨ad387,a6G,hx387_0⟩:=Kd.GV fO.out pw Mt Mu
   cases a6G
   replace Mt:=eq_true Mt;replace Mu:=eq_true Mu
   go_wp2
   go_roundg k1
   case measure=>have:=dp.out;omega
   case rel=>exact⟨(GW (F5 ((F5 (31*rX))+(F5 (rd l0 pw)))) 1000003),(F5 (pw+1)),e3,e3,H',⟨by have:=dp.out;omega⟩,by repeat(first|exact fQ.refl _|apply fQ.step)⟩
def gB.j0:Nat→Int→Bool→Int→Int→ByteArray→Int→Option (Int×Int×ByteArray×Int×Bool)
 |0,_,_,_,_,_,_=>none
 |k+1,x1,u3,QM,QN,GS,QO=>if u3=true then(some (0,0,(⟨#[]⟩:ByteArray),0,false))else(if(GS.size:Int)>x1 then(if 0≤x1 then(if x1≤(GS.size:Int)then(some (QM,QN,GS.extract 0 (x1:Int).toNat,QO,true))else(none))else(none))else(some (QM,QN,GS,QO,true)))
def gB.f(k:Nat)(bI:Int)(aA:Int)(aD:ByteArray)(aE:Int)(a1:Int):Option (Int×Int×ByteArray×Int×Bool):=(lJ.f bI aA aD aE).bind fun Er=>(if Er=true then((eu.f a1 0 12).bind fun At=>(gB.j0 k a1 (!At) bI aA aD aE))else(gB.j0 k a1 true bI aA aD aE))
theorem gB.eC:∀k,(∀y0 y1 y2 y3 y4 y5,aJ (gB.j0 k y0 y1 y2 y3 y4 y5) (gB.j0 (k+1) y0 y1 y2 y3 y4 y5))
 |0=>fun _ _ _ _ _ _ r h=>by simp[gB.j0]at h
 |k+1=>by
  have cj:=gB.eC k
  ·
   intro y0 y1 y2 y3 y4 y5;unfold gB.j0
   repeat' with_reducible first|exact cj _ _ _ _ _ _|exact aJ.refl _|exact aJ.none _|refine aJ.ite ?_ ?_|refine aJ.bind ?_ (fun _=> ?_)
theorem gB.mono:∀a0 a1 a2 a3 a4 k,aJ (gB.f k a0 a1 a2 a3 a4) (gB.f (k+1) a0 a1 a2 a3 a4):=by
 intro a0 a1 a2 a3 a4 k;have cj:=gB.eC k;unfold gB.f
 repeat' with_reducible first|exact cj _ _ _ _ _ _|exact aJ.refl _|exact aJ.none _|refine aJ.ite ?_ ?_|refine aJ.bind ?_ (fun _=> ?_)
theorem gB.calls(k:Nat)(bI:Int)(aA:Int)(aD:ByteArray)(aE:Int)(a1:Int)(r1:Int)(r2:Int)(r3:ByteArray)(r4:Int)(r5:Bool)(w:World)(h:gB.f k bI aA aD aE a1=some (r1,r2,r3,r4,r5)):
 Calls aaf 32 #[.agg #[.int .i64 bI,.int .i64 aA,.string aD,.int .i64 aE],.int .i64 a1] w fun e w'=>e= .returned (.tuple #[.agg #[.int .i64 r1,.int .i64 r2,.string r3,.int .i64 r4],.bool r5])∧Below w.heap.size w w':=by
 have kH:=aan;have HB:=Ah (aag w.heap.size w);have H:((lJ.f bI aA aD aE).bind fun Er=>(if Er=true then((eu.f a1 0 12).bind fun At=>(gB.j0 k a1 (!At) bI aA aD aE))else(gB.j0 k a1 true bI aA aD aE)))=some (r1,r2,r3,r4,r5):=h;clear h;have mG:=Ah H;clear H
 go_enter Tryd.func32,Tryd.ntmps32
 go_upto_region 1 with(first|((with_reducible refine bY (N:=2) rfl ?_);refine br 2 36 #[.int .i64 bI,.int .i64 aA,.string aD,.int .i64 aE] ?_;intro a4x hg w4 kF hb;have GW388:=gw hg (bs HB);have rD:=gw hg (bs HB);replace HB:=Ah (aM (bs HB) hb);clear hb hg)|((with_reducible refine bY (N:=4) rfl ?_);refine br 4 36 #[.int .i64 0,.int .i64 0,.string (⟨#[]⟩:ByteArray),.int .i64 0] ?_;intro Ab hg w5 lO hb;have GW389:=gw hg (aX HB rD);have xv:=gw hg (aX HB rD);replace HB:=Ah (aM (aX HB rD) hb);have Bh:=nn kF hg;have zM:=nm kF hg;replace kF:=nb kF hb;clear hb hg))
 (try simp only[Act.put,aab,aai,aaj])
 go_cut [13] (fun v13 wc=>∃ (kq:Nat) (HV:Bool),v13= .bool HV∧Z (gB.j0 kq a1 HV bI aA aD aE=some (r1,r2,r3,r4,r5))∧Z (kq≤k)∧Z (wc.heap[a4x]?=some (.cells #[.int .i64 bI,.int .i64 aA,.string aD,.int .i64 aE] 36 (0,0)))∧Z (wc.heap[Ab]?=some (.cells #[.int .i64 0,.int .i64 0,.string (⟨#[]⟩:ByteArray),.int .i64 0] 36 (0,0)))∧Z (Below w.heap.size w wc))
 case first=>
  have H:=mG.out;clear mG;replace H:=Ok.mp H;obtain⟨Er,iz,H⟩:=H
  try dsimp only at H
  have A6:=Ah iz;clear iz
  by_cases c7:Er=true
  rotate_left
  ·
   replace c7:=iK.mpr c7;subst c7;rw[if_neg dM]at H;have H':=Ah H;clear H;have Sy:=Bh.out;have Sz:=zM.out;obtain⟨xK,xL,xM,xN⟩:=aT kF;obtain⟨xO,xP,xQ,xR⟩:=aU kF
   go_wp2_with (first|((with_reducible refine bU (f:=29) rfl ?_);refine gL (some 7) rfl rfl Tryd.func29 (by kernel_rfl) rfl #[.agg #[.int .i64 bI,.int .i64 aA,.string aD,.int .i64 aE]] rfl ?_;(with_reducible refine(lJ.calls bI aA aD aE false _ A6.out).mono ?_);rintro e kP ⟨rfl,hb⟩;refine⟨_,rfl, ?_⟩;replace kF:=nb kF hb;replace lO:=Ah (bq (g:=Ab) (o:= .cells #[.int .i64 0,.int .i64 0,.string (⟨#[]⟩:ByteArray),.int .i64 0] 36 (0,0)) (bk lO) hb);replace HB:=Ah (aM (an HB rD xv) hb);(try clear hb)))
   go_meet
   case rel=>exact⟨_,(true),e3,H',⟨by first|omega|exact kV _⟩,⟨bk kF⟩,⟨bk lO⟩,⟨an HB rD xv⟩⟩
  subst c7;rw[if_pos rfl]at H;replace H:=Ok.mp H;obtain⟨At,mX,H⟩:=H
  try dsimp only at H
  have A8:=Ah mX;clear mX;have H':=Ah H;clear H;have a6H:=Bh.out;have a6I:=zM.out;obtain⟨CC,CD,CE,CF⟩:=aT kF;obtain⟨CG,CH,CI,CJ⟩:=aU kF
  go_wp2_with (first|((with_reducible refine bU (f:=29) rfl ?_);refine gL (some 7) rfl rfl Tryd.func29 (by kernel_rfl) rfl #[.agg #[.int .i64 bI,.int .i64 aA,.string aD,.int .i64 aE]] rfl ?_;(with_reducible refine(lJ.calls bI aA aD aE true _ A6.out).mono ?_);rintro e tw ⟨rfl,hb⟩;refine⟨_,rfl, ?_⟩;replace kF:=nb kF hb;replace lO:=Ah (bq (g:=Ab) (o:= .cells #[.int .i64 0,.int .i64 0,.string (⟨#[]⟩:ByteArray),.int .i64 0] 36 (0,0)) (bk lO) hb);replace HB:=Ah (aM (an HB rD xv) hb);(try clear hb))|(go_at_call 33;(with_reducible refine(eu.calls a1 0 12 At _ A8.out).mono ?_);rintro e w' ⟨rfl,⟨nd,rfl⟩⟩))
  go_meet
  case rel=>exact⟨_,(!At),e3,H',⟨by first|omega|exact kV _⟩,⟨bk kF⟩,⟨bk lO⟩,⟨an HB rD xv⟩⟩
 case rest=>
  clear mG
  try clear c1
  try clear c2
  try clear p2
  try clear c3
  try clear c7
  try clear c9
  try clear c12
  try clear CC CD CE CF
  try clear xK xL xM xN
  try clear CG CH CI CJ
  try clear xO xP xQ xR
  obtain⟨kq,HV,rfl,HA,HJ2,kF,lO,HB⟩:=hcut
  cases kq with
  |zero=>exact absurd HA.out (by simp[gB.j0])
  |succ zA=>
   have H:=HA.out;clear HA;simp only[gB.j0]at H
   by_cases c15:HV=true
   ·
    subst c15;rw[if_pos rfl]at H;simp only[aaa,aad]at H;obtain⟨rfl,rfl,rfl,rfl,rfl⟩:=H;have a3G:=zM.out;have a3H:=Bh.out;obtain⟨wu,wv,wx,wy⟩:=aT lO;obtain⟨wz,x9,xA,xB⟩:=aU lO
    go_wp2
    refine bodyPost_ret (gC rfl _ _ Ab 36 #[.int .i64 0,.int .i64 0,.string (⟨#[]⟩:ByteArray),.int .i64 0] (0,0) _ rfl (pb lO) aan rfl (by kernel_rfl)) rfl ?_;exact⟨er,an HB rD xv⟩
   replace c15:=iK.mpr c15;subst c15;rw[if_neg dM]at H
   by_cases c18:(aD.size:Int)>a1
   rotate_left
   ·
    rw[if_neg c18]at H;have a4y:=ev c18;clear c18;simp only[aaa,aad]at H;obtain⟨rfl,rfl,rfl,rfl,rfl⟩:=H;have a4h:=Bh.out;have a4i:=zM.out;obtain⟨a0v,a0w,a0x,a0y⟩:=aT kF;obtain⟨a0z,a0A,a0B,a0C⟩:=aU kF;obtain⟨ui,uj,uk,ul⟩:=aT lO;obtain⟨um,uo,uq,ur⟩:=aU lO
    go_wp2
    refine bodyPost_ret (gC rfl _ _ Ab 36 #[.int .i64 bI,.int .i64 aA,.string aD,.int .i64 aE] (0,0) _ rfl (pb lO) aan rfl (by kernel_rfl)) rfl ?_;exact⟨er,an HB rD xv⟩
   rw[if_pos c18]at H;have a4y:=bV c18;clear c18
   by_cases c19:0≤a1
   rotate_left
   ·
    rw[if_neg c19]at H;exact absurd H (by simp)
   rw[if_pos c19]at H;have HH:=eq_true c19;have c19b1:=bV c19;clear c19
   by_cases c20:a1≤(aD.size:Int)
   rotate_left
   ·
    rw[if_neg c20]at H;exact absurd H (by simp)
   rw[if_pos c20]at H;have AN:=eq_true c20;have c20b1:=bV c20;clear c20;simp only[aaa,aad]at H;obtain⟨rfl,rfl,rfl,rfl,rfl⟩:=H;have Ki:=Bh.out;have Kj:=zM.out;obtain⟨qb,qc,qd,qe⟩:=aT kF;obtain⟨qf,qg,qh,qi⟩:=aU kF;obtain⟨Bp,Bq,Br,Bs⟩:=aT lO;obtain⟨Bt,Bu,Bv,Bw⟩:=aU lO
   go_wp2
   refine bodyPost_ret (gC rfl _ _ Ab 36 #[.int .i64 bI,.int .i64 aA,.string (aD.extract 0 (a1:Int).toNat),.int .i64 aE] (0,0) _ rfl (oZ lO zM) aan rfl (by kernel_rfl)) rfl ?_;exact⟨er,an HB rD xv⟩
end Go.Proofs.YtgpjnkahgofpmaaDoor.G
