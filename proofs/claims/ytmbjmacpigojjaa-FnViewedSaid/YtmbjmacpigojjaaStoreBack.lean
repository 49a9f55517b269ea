import Derived.Test.YtmbjmacpigojjaaStoreDone
import Derived.Test.YtmbjmacpigojjaaStoreGood
import Derived.Test.YtmbjmacpigojjaaStoreOwn
import Derived.Test.YtmbjmacpigojjaaG4
import Derived.Test.YtmbjmacpigojjaaG7
open List renaming length_take→fu,length_append→uS
namespace Go.Proofs.Ytmbjmacpigojjaa.Q
open Go.RowKit Go.Proofs.YtmbjmacpigojjaaW.PrintWords Go.Proofs.Ytmbjmacpigojjaa.G
set_option linter.unusedVariables false
set_option linter.unusedSimpArgs false
theorem JY {S:List ByteArray}{P Y:List Wr}(h:qA S P)(hY:∀w,w∈Y→o6 (S.length:Int) w)(hl:P.length+Y.length≤60):qA S (P++Y):=by
 refine⟨⟨h.1.1,fun i hi=> ?_⟩,h.2.1,by rw[uS];exact hl⟩
 rcases List.mem_append.1 (yt (P++Y) i dl hi)with hm|hm
 ·obtain⟨j,hj,e⟩:=yu.1 hm
  rw[←e];exact h.1.2 j hj
 ·exact hY _ hm
theorem ownD_spec(S:List ByteArray)(P:List Wr)(hS:S.length≤1048576)(hP:P.length≤1048576):sI.f S P=some (S,P):=by
 unfold sI.f;simp only[Option.bind_some,List.nil_append,List.length_nil,Nat.zero_add];rw[if_pos (by omega),if_pos (by omega)]
noncomputable def rZ(S:List ByteArray)(P:List Wr)(L:List ByteArray)(n:Int):List ByteArray×List Wr×List ByteArray×Int×Bool:=by
 classical
 exact if fd S P L n∧P.length+(dw (L.take n.toNat)).length≤60 then(S,P++dw (L.take n.toNat),L,n,true)else([],[],[],0,false)
theorem back_loop(S:List ByteArray)(P W:List Wr)(L:List ByteArray)(n:Int)(hd:qA S P)(hW:∀w,w∈W→o6 (S.length:Int) w)(hl:W.length≤1000000):
 Ev (fun k=>gf.l0 k W (W.length:Int) 0 S P L n) (if P.length+W.length≤60 then(S,P++W,L,n,true)else([],[],[],0,false)):=by
 have hS:=hd.2.1;have hP:=hd.2.2;have loop:=uG (L:=fun k i=>gf.l0 k W (W.length:Int) (i:Int) S (P++W.take i) L n) (n:=W.length) (p:=fun i=>P.length+i<60) (r:=if P.length+W.length≤60 then(S,P++W,L,n,true)else([],[],[],0,false)) ?_ ?_ ?_
 ·simpa using loop
 ·intro h
  have hle:P.length+W.length≤60:=by
   rcases Nat.eq_zero_or_pos W.length with e|e
   ·omega
   ·have:=h (W.length-1) (by omega);omega
  rw[if_pos hle];refine Ev.step (fun k=>by rw[gf.l0]) ?_;exact Ev.neg (by omega) (Ev.now' (by rw[List.take_length]))
 ·intro i hi _ hp next
  have hw:=hW _ (yt W i dl hi);have hdi:qA S (P++W.take i):=JY hd (fun w hw=>hW w (List.mem_of_mem_take hw)) (by rw[fu];omega)
  have hpl:(P++W.take i).length=P.length+i:=by rw[uS,fu];omega
  have hst:Ev (fun k=>o8.f k S (P++W.take i) (W.getD i dl).f0 (W.getD i dl).f1) (S,(P++W.take i)++[W.getD i dl],true):=by
   unfold o8.f;refine Ev.bind' _ (IL S _ (by omega) (by omega)) (Ev.pos (sR.2 hdi) (Ev.eB _ (Dw _ _) (Ev.pos (decide_eq_true hw) ?_)));refine Ev.neg (by omega) (Ev.eB _ (ownD_spec S _ (by omega) (by omega)) (Ev.pos (by show(P++W.take i).length<5864062014805;omega) (Ev.now _)))
  refine Ev.step (fun k=>by rw[gf.l0]) ?_;rw[kG,eD (x:=(i:Int)+1) (by omega) (by omega)];refine Ev.pos (by omega) (Ev.pos (by omega) (Ev.pos (by omega) (Ev.bind' _ hst (Ev.pos rfl ?_))));rw[IK W i dl hi,←List.append_assoc]at next;exact next
 ·intro i hi hb hp
  have hno:¬P.length+W.length≤60:=by omega
  rw[if_neg hno]
  have h60:P.length+i=60:=by
   rcases Nat.eq_zero_or_pos i with e|e
   ·omega
   ·have:=hb (i-1) (by omega);omega
  have hw:=hW _ (yt W i dl hi);have hdi:qA S (P++W.take i):=JY hd (fun w hw=>hW w (List.mem_of_mem_take hw)) (by rw[fu];omega)
  have hpl:(P++W.take i).length=P.length+i:=by rw[uS,fu];omega
  have hst:Ev (fun k=>o8.f k S (P++W.take i) (W.getD i dl).f0 (W.getD i dl).f1) ([],[],false):=by
   unfold o8.f;refine Ev.bind' _ (IL S _ (by omega) (by omega)) (Ev.pos (sR.2 hdi) (Ev.eB _ (Dw _ _) (Ev.pos (decide_eq_true hw) ?_)));exact Ev.pos (by omega) (Ev.now _)
  refine Ev.step (fun k=>by rw[gf.l0]) ?_;rw[kG,eD (x:=(i:Int)+1) (by omega) (by omega)];exact Ev.pos (by omega) (Ev.pos (by omega) (Ev.pos (by omega) (Ev.bind' _ hst (Ev.neg (by simp) (Ev.now _)))))
theorem IY {S:List ByteArray}{P:List Wr}{L:List ByteArray}{n:Int}(h:fd S P L n):rZ S P L n=if P.length+(dw (L.take n.toNat)).length≤60 then(S,P++dw (L.take n.toNat),L,n,true)else([],[],[],0,false):=by
 classical
 unfold rZ
 by_cases h2:P.length+(dw (L.take n.toNat)).length≤60
 ·rw[if_pos ⟨h,h2⟩,if_pos h2]
 ·rw[if_neg (fun e=>h2 e.2),if_neg h2]
theorem Mf {S:List ByteArray}{P:List Wr}{L:List ByteArray}{n:Int}(h:¬fd S P L n):rZ S P L n=([],[],[],0,false):=by
 classical
 unfold rZ;exact if_neg (fun e=>h e.1)
theorem Mw(S:List ByteArray)(P:List Wr)(L:List ByteArray)(n:Int)(hS:S.length≤1048576)(hP:P.length≤1048576)(hL:L.length≤1048576)(sL:jY L):Ev (fun k=>o9.f k S P L n) (rZ S P L n)∧Ev (fun k=>kF.f k S P L n) (rZ S P L n):=by
 have h1:=IM S P L n hS hP hL sL;have h2:=Dv S P L n hS hP hL sL;unfold o9.f kF.f
 by_cases c1:fd S P L n
 ·have hn:=c1.1.2.2
  have IF:=c1.1.2.1;have h60:=c1.1.1.2.2
  have hlt:(L.take n.toNat).length≤L.length:=by rw[fu];omega
  have hwl:=zO (L.take n.toNat);have hW:=OO (Ib n.toNat c1.2.1);have w1:=(IN (L.take n.toNat) (by omega) (C1 sL _) (S.length:Int)).1 (Ib _ c1.2.1);have w2:=IS (L.take n.toNat) (by omega) (C1 sL _);have hb:=back_loop S P (dw (L.take n.toNat)) L n c1.1.1 hW (by omega);rw[IY c1]
  constructor
  ·refine Ev.bind' _ h1 (Ev.pos (jl.2 c1) (Ev.eB _ (My S P L n hS hP hL) (Ev.bind' _ ?_ (Ev.now _))))
   unfold gf.f;exact Ev.pos hn.1 (Ev.pos hn.2 (Ev.bind' _ w1 hb))
  ·refine Ev.bind' _ h2 (Ev.pos (jl.2 c1) (Ev.eB _ (Mz S P L n hS hP hL) (Ev.pos hn.1 (Ev.pos hn.2 (Ev.bind' _ w2 (Ev.pos (by show P.length+(dw (L.take n.toNat)).length<5864062014805;omega) (Ev.eB _ rfl ?_)))))))
   have hg:=SU S (P++dw (L.take n.toNat)) (by omega) (by rw[uS];omega);refine Ev.bind' _ hg ?_
   by_cases c2:P.length+(dw (L.take n.toNat)).length≤60
   ·rw[if_pos c2]
    exact Ev.pos (sR.2 (JY c1.1.1 hW c2)) (Ev.now _)
   ·rw[if_neg c2]
    refine Ev.neg (fun e=>c2 ?_) (Ev.now _);have:=(sR.1 e).2.2;rw[uS]at this;exact this
 ·rw[Mf c1]
  exact⟨Ev.bind' _ h1 (Ev.neg (fun e=>c1 (jl.1 e)) (Ev.now _)),Ev.bind' _ h2 (Ev.neg (fun e=>c1 (jl.1 e)) (Ev.now _))⟩
theorem writeBack_both(S:List ByteArray)(P:List Wr)(L:List ByteArray)(n:Int)(hS:S.length≤1048576)(hP:P.length≤1048576)(hL:L.length≤1048576)(sS:∀i,i<S.length→(S.getD i ByteArray.empty).size≤1048576)(sL:∀i,i<L.length→(L.getD i ByteArray.empty).size≤1048576):∃r,Ev (fun k=>o9.f k S P L n) r∧Ev (fun k=>kF.f k S P L n) r∧r.1.length≤2000000∧r.2.1.length≤2000000∧r.2.2.1.length≤2000000:=by
 obtain⟨h1,h2⟩:=Mw S P L n hS hP hL sL;refine⟨_,h1,h2, ?_⟩
 by_cases c1:fd S P L n
 ·rw[IY c1]
  split
  ·rename_i h
   dsimp only;rw[uS]
   omega
  ·simp
 ·rw[Mf c1]
  simp
end Go.Proofs.Ytmbjmacpigojjaa.Q
