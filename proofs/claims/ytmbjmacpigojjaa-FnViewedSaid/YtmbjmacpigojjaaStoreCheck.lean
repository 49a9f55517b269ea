import Derived.Test.YtmbjmacpigojjaaStoreSeen
import Derived.Test.YtmbjmacpigojjaaStorePerf
import Derived.Test.YtmbjmacpigojjaaG4
import Derived.Test.YtmbjmacpigojjaaG7
open ByteArray renaming empty→JZ
namespace Go.Proofs.Ytmbjmacpigojjaa.Q
open Go.RowKit Go.Proofs.YtmbjmacpigojjaaW.PrintWords Go.Proofs.Ytmbjmacpigojjaa.G
set_option linter.unusedVariables false
set_option linter.unusedSimpArgs false
theorem SV {α:Type}{a b:List α}(z:α)(hl:a.length=b.length)(h:∀i,i<a.length→a.getD i z=b.getD i z):a=b:=by
 apply List.ext_getElem hl;intro i h1 h2;have:=h i h1
 rwa [xL _ _ _ h1,xL _ _ _ h2]at this
noncomputable def Cw(a b:List ByteArray):Bool:=by
 classical
 exact decide (a=b)
theorem Ip {a b:List ByteArray}(h:a=b):Cw a b=true:=by
 classical
 unfold Cw;exact decide_eq_true h
theorem Iu {a b:List ByteArray}(h:¬a=b):Cw a b=false:=by
 classical
 unfold Cw;exact decide_eq_false h
theorem l11Same_ev(a b:List ByteArray)(hl:a.length=b.length)(ha:a.length≤1000000000):Ev (fun k=>iP.f k a b) (Cw a b):=by
 unfold iP.f;refine uG (L:=fun k i=>iP.l0 k a b (a.length:Int) (i:Int)) (n:=a.length) (p:=fun i=>a.getD i JZ=b.getD i JZ) ?_ ?_ ?_
 ·intro h
  refine Ev.step (fun k=>by rw[iP.l0]) ?_;refine Ev.neg (by omega) (Ev.now' ?_);rw[Ip (SV _ hl h),beq_iff_eq]
  omega
 ·intro i hi _ hp next
  refine Ev.step (fun k=>by rw[iP.l0]) ?_;rw[m9,m9,eD (x:=(i:Int)+1) (by omega) (by omega)];exact Ev.pos (by omega) (Ev.pos (by omega) (Ev.pos (by omega) (Ev.pos (by omega) (Ev.pos (by rw[hp]) next))))
 ·intro i hi _ hp
  refine Ev.step (fun k=>by rw[iP.l0]) ?_;rw[m9,m9,Iu (fun e=>hp (by rw[e]))];exact Ev.pos (by omega) (Ev.pos (by omega) (Ev.pos (by omega) (Ev.pos (by omega) (Ev.neg (fun e=>hp (CP e)) (Ev.now _)))))
theorem sEqual_ev(a b:List ByteArray)(hl:a.length=b.length)(ha:a.length≤1000000000):Ev (fun k=>iO.f k a b) (Cw a b):=by
 unfold iO.f;refine Ev.pos (by omega) ?_;refine uG (L:=fun k i=>iO.l0 k a b (a.length:Int) (i:Int)) (n:=a.length) (p:=fun i=>a.getD i JZ=b.getD i JZ) ?_ ?_ ?_
 ·intro h
  refine Ev.step (fun k=>by rw[iO.l0]) ?_;exact Ev.neg (by omega) (Ev.now' (Ip (SV _ hl h)).symm)
 ·intro i hi _ hp next
  refine Ev.step (fun k=>by rw[iO.l0]) ?_;rw[m9,m9,eD (x:=(i:Int)+1) (by omega) (by omega)];exact Ev.pos (by omega) (Ev.pos (by omega) (Ev.pos (by omega) (Ev.pos (by omega) (Ev.pos (by rw[hp]) next))))
 ·intro i hi _ hp
  refine Ev.step (fun k=>by rw[iO.l0]) ?_;rw[m9,m9,Iu (fun e=>hp (by rw[e]))];exact Ev.pos (by omega) (Ev.pos (by omega) (Ev.pos (by omega) (Ev.pos (by omega) (Ev.neg (fun e=>hp (CP e)) (Ev.now _)))))
noncomputable def rk(S:List ByteArray)(P:List Wr)(L:List ByteArray)(n:Int):List ByteArray×List Wr×List ByteArray×Int×Bool:=by
 classical
 exact if fd S P L n∧dq (dq S P) (dw (L.take n.toNat))=dq S P then(dq S P,[],L.drop n.toNat,0,true)else([],[],[],0,false)
theorem Im {S:List ByteArray}{P:List Wr}{L:List ByteArray}{n:Int}(h:fd S P L n)(h2:dq (dq S P) (dw (L.take n.toNat))=dq S P):rk S P L n=(dq S P,[],L.drop n.toNat,0,true):=by
 classical
 unfold rk;exact if_pos ⟨h,h2⟩
theorem It {S:List ByteArray}{P:List Wr}{L:List ByteArray}{n:Int}(h:¬(fd S P L n∧dq (dq S P) (dw (L.take n.toNat))=dq S P)):rk S P L n=([],[],[],0,false):=by
 classical
 unfold rk;exact if_neg h
theorem O7(S:List ByteArray)(P:List Wr)(L:List ByteArray)(n:Int)(hS:S.length≤1048576)(hP:P.length≤1048576)(hL:L.length≤1048576)(sL:jY L):Ev (fun k=>fv.f k S P L n) (rk S P L n)∧Ev (fun k=>lR.f k S P L n) (rk S P L n):=by
 have h1:=IM S P L n hS hP hL sL;have h2:=Dv S P L n hS hP hL sL;unfold fv.f lR.f
 by_cases c1:fd S P L n
 ·obtain⟨a,b,c,d⟩:=Sj c1
  have hn:=c1.1.2.2
  have hlt:(L.take n.toNat).length≤L.length:=by rw[List.length_take];omega
  have hw:=zO (L.take n.toNat);have IF:=c1.1.2.1
  have hD:wB (dq S P).length (dw (L.take n.toNat)):=by
   rw[mS];exact TP (JX c1).1 (Ib _ c1.2.1)
  have hf:Ev (fun k=>qF.f k S P) (dq S P,[],true):=by
   unfold qF.f;exact Ev.bind' _ (IL S P (by omega) (by omega)) (Ev.pos (sR.2 c1.1.1) (Ev.bind' _ (TO S P a.1 a.2 c) (Ev.now _)))
  have e1:=l11Same_ev (dq S P) (dq (dq S P) (dw (L.take n.toNat))) (by rw[mS (dq S P)]) (by omega);have e2:=sEqual_ev (dq (dq S P) (dw (L.take n.toNat))) (dq S P) (by rw[mS (dq S P)]) (by rw[mS];omega);have w1:=(IN (L.take n.toNat) (by omega) (C1 sL _) (S.length:Int)).1 (Ib _ c1.2.1);have w2:=IS (L.take n.toNat) (by omega) (C1 sL _);have p1:=Lu S P a.1 a.2 c;have p2:=SX (dq S P) (dw (L.take n.toNat)) b.1 (by omega) hD;have p3:=TO (dq S P) (dw (L.take n.toNat)) b.1 (by omega) hD
  have hdl:(L.drop n.toNat).length≤40:=by rw[List.length_drop];omega
  by_cases c2:dq (dq S P) (dw (L.take n.toNat))=dq S P
  ·rw[Im c1 c2]
   rw[Ip c2.symm]at e1;rw[Ip c2]at e2
   constructor
   ·refine Ev.bind' _ h1 (Ev.pos (jl.2 c1) (Ev.pos hn.1 (Ev.pos hn.2 (Ev.bind' _ w1 (Ev.bind' _ hf (Ev.bind' _ p3 (Ev.bind' _ e1 (Ev.pos rfl (Ev.eB _ rfl ?_)))))))))
    exact Ev.pos (by simp only[List.length_nil];omega) (Ev.now _)
   ·refine Ev.bind' _ h2 (Ev.pos (jl.2 c1) (Ev.bind' _ p1 (Ev.pos hn.1 (Ev.pos hn.2 (Ev.bind' _ w2 (Ev.bind' _ p2 (Ev.bind' _ e2 (Ev.pos rfl (Ev.eB (L.drop n.toNat) ?_ (Ev.now _))))))))))
    unfold mR.f;exact if_pos (by omega)
  ·rw[It (fun h=>c2 h.2)]
   rw[Iu (fun e=>c2 e.symm)]at e1;rw[Iu c2]at e2;exact⟨Ev.bind' _ h1 (Ev.pos (jl.2 c1) (Ev.pos hn.1 (Ev.pos hn.2 (Ev.bind' _ w1 (Ev.bind' _ hf (Ev.bind' _ p3 (Ev.bind' _ e1 (Ev.neg (by simp) (Ev.now _))))))))),Ev.bind' _ h2 (Ev.pos (jl.2 c1) (Ev.bind' _ p1 (Ev.pos hn.1 (Ev.pos hn.2 (Ev.bind' _ w2 (Ev.bind' _ p2 (Ev.bind' _ e2 (Ev.neg (by simp) (Ev.now _)))))))))⟩
 ·rw[It (fun h=>c1 h.1)]
  exact⟨Ev.bind' _ h1 (Ev.neg (fun e=>c1 (jl.1 e)) (Ev.now _)),Ev.bind' _ h2 (Ev.neg (fun e=>c1 (jl.1 e)) (Ev.now _))⟩
theorem checkpointLog_both(S:List ByteArray)(P:List Wr)(L:List ByteArray)(n:Int)(hS:S.length≤1048576)(hP:P.length≤1048576)(hL:L.length≤1048576)(sS:∀i,i<S.length→(S.getD i ByteArray.empty).size≤1048576)(sL:∀i,i<L.length→(L.getD i ByteArray.empty).size≤1048576):∃r,Ev (fun k=>fv.f k S P L n) r∧Ev (fun k=>lR.f k S P L n) r∧r.1.length≤2000000∧r.2.1.length≤2000000∧r.2.2.1.length≤2000000:=by
 obtain⟨h1,h2⟩:=O7 S P L n hS hP hL sL;refine⟨_,h1,h2, ?_⟩
 by_cases c1:fd S P L n∧dq (dq S P) (dw (L.take n.toNat))=dq S P
 ·rw[Im c1.1 c1.2]
  dsimp only;rw[mS,List.length_drop];refine⟨by omega,by simp,by omega⟩
 ·rw[It c1]
  simp
end Go.Proofs.Ytmbjmacpigojjaa.Q
