/- What the reference answers to a sync, a write back, a checkpoint, a commit, a new store: for stores that are drawn. Printed by gen11.py. No statement. -/
import Derived.Test.YtfdpdocbpcnkaaaStoreSeen
import Derived.Test.YtfdpdocbpcnkaaaStorePerf
import Derived.Test.YtfdpdocbpcnkaaaG3
open List renaming length_take→bx,length_append→aac,replicate→aax,length_nil→aaS,nil_append→abn
open Option renaming bind_some→Ok
namespace Go.Proofs.Ytfdpdocbpcnkaaa.Q
open Go.RowKit Go.Proofs.YtfdpdocbpcnkaaaW.PrintWords Go.Proofs.Ytfdpdocbpcnkaaa.G
set_option linter.unusedVariables false
set_option linter.unusedSimpArgs false
theorem M6(S:List ByteArray)(P:List Wr)(L:List ByteArray)(n:Int)(hS:S.length≤1048576)(hP:P.length≤1048576)(hL:L.length≤1048576):q7.f S P L n=some (S,P,L,n):=by
 unfold q7.f ql.f;simp only[Ok,abn,aaS,Nat.zero_add];rw[if_pos (by omega),if_pos (by omega)];simp only[Ok];rw[if_pos (by omega)]
noncomputable def sV(S:List ByteArray)(P:List Wr)(L:List ByteArray)(n:Int):List ByteArray×List Wr×List ByteArray×Int×Bool:=by
 classical
 exact if ep S P L n then(S,P,L,(L.length:Int),true)else([],[],[],0,false)
theorem Ri {S:List ByteArray}{P:List Wr}{L:List ByteArray}{n:Int}(h:ep S P L n):sV S P L n=(S,P,L,(L.length:Int),true):=by
 classical
 unfold sV;exact if_pos h
theorem Rz {S:List ByteArray}{P:List Wr}{L:List ByteArray}{n:Int}(h:¬ep S P L n):sV S P L n=([],[],[],0,false):=by
 classical
 unfold sV;exact if_neg h
theorem a3e(S:List ByteArray)(P:List Wr)(L:List ByteArray)(n:Int)(hS:S.length≤1048576)(hP:P.length≤1048576)(hL:L.length≤1048576)(sL:ja L):Ev (fun k=>ou.f k S P L n) (sV S P L n):=by
 have h1:=Ai S P L n hS hP hL sL;unfold ou.f
 by_cases c1:ep S P L n
 ·rw[Ri c1]
  exact Ev.bind' _ h1 (Ev.pos (k8.2 c1) (Ev.cn _ (M6 S P L n hS hP hL) (Ev.now _)))
 ·rw[Rz c1]
  exact Ev.bind' _ h1 (Ev.neg (fun e=>c1 (k8.1 e)) (Ev.now _))
theorem UJ {S:List ByteArray}{P Y:List Wr}(h:oc S P)(hY:∀w,w∈Y→nw (S.length:Int) w)(hl:P.length+Y.length≤60):oc S (P++Y):=by
 refine⟨⟨h.1.1,fun i hi=> ?_⟩,h.2.1,by rw[aac];exact hl⟩
 rcases List.mem_append.1 (ul (P++Y) i dB hi)with hm|hm
 ·obtain⟨j,hj,e⟩:=Ay.1 hm
  rw[←e];exact h.1.2 j hj
 ·exact hY _ hm
theorem Zv(S:List ByteArray)(P:List Wr)(hS:S.length≤1048576)(hP:P.length≤1048576):ql.f S P=some (S,P):=by
 unfold ql.f;simp only[Ok,abn,aaS,Nat.zero_add];rw[if_pos (by omega),if_pos (by omega)]
noncomputable def sW(S:List ByteArray)(P:List Wr)(L:List ByteArray)(n:Int):List ByteArray×List Wr×List ByteArray×Int×Bool:=by
 classical
 exact if ep S P L n∧P.length+(eH (L.take n.toNat)).length≤60 then(S,P++eH (L.take n.toNat),L,n,true)else([],[],[],0,false)
theorem Zw(S:List ByteArray)(P W:List Wr)(L:List ByteArray)(n:Int)(hd:oc S P)(hW:∀w,w∈W→nw (S.length:Int) w)(hl:W.length≤1000000):
 Ev (fun k=>fW.l0 k W (W.length:Int) 0 S P L n) (if P.length+W.length≤60 then(S,P++W,L,n,true)else([],[],[],0,false)):=by
 have hS:=hd.2.1;have hP:=hd.2.2;have loop:=uX (L:=fun k i=>fW.l0 k W (W.length:Int) (i:Int) S (P++W.take i) L n) (n:=W.length) (p:=fun i=>P.length+i<60) (r:=if P.length+W.length≤60 then(S,P++W,L,n,true)else([],[],[],0,false)) ?_ ?_ ?_
 ·simpa using loop
 ·intro h
  have hle:P.length+W.length≤60:=by
   rcases Nat.eq_zero_or_pos W.length with e|e
   ·omega
   ·have:=h (W.length-1) (by omega);omega
  rw[if_pos hle];refine Ev.step (fun k=>by rw[fW.l0]) ?_;exact Ev.neg (by omega) (Ev.now' (by rw[List.take_length]))
 ·intro i hi _ hp next
  have hw:=hW _ (ul W i dB hi);have hdi:oc S (P++W.take i):=UJ hd (fun w hw=>hW w (List.mem_of_mem_take hw)) (by rw[bx];omega)
  have hpl:(P++W.take i).length=P.length+i:=by rw[aac,bx];omega
  have hst:Ev (fun k=>n3.f k S (P++W.take i) (W.getD i dB).f0 (W.getD i dB).f1) (S,(P++W.take i)++[W.getD i dB],true):=by
   unfold n3.f;refine Ev.bind' _ (D0 S _ (by omega) (by omega)) (Ev.pos (pE.2 hdi) (Ev.cn _ (D2 _ _) (Ev.pos (decide_eq_true hw) ?_)));refine Ev.neg (by omega) (Ev.cn _ (Zv S _ (by omega) (by omega)) (Ev.pos (by show(P++W.take i).length<5864062014805;omega) (Ev.now _)))
  refine Ev.step (fun k=>by rw[fW.l0]) ?_;rw[jV,dO (x:=(i:Int)+1) (by omega) (by omega)];refine Ev.pos (by omega) (Ev.pos (by omega) (Ev.pos (by omega) (Ev.bind' _ hst (Ev.pos rfl ?_))));rw[I5 W i dB hi,←List.append_assoc]at next;exact next
 ·intro i hi hb hp
  have hno:¬P.length+W.length≤60:=by omega
  rw[if_neg hno]
  have h60:P.length+i=60:=by
   rcases Nat.eq_zero_or_pos i with e|e
   ·omega
   ·have:=hb (i-1) (by omega);omega
  have hw:=hW _ (ul W i dB hi);have hdi:oc S (P++W.take i):=UJ hd (fun w hw=>hW w (List.mem_of_mem_take hw)) (by rw[bx];omega)
  have hpl:(P++W.take i).length=P.length+i:=by rw[aac,bx];omega
  have hst:Ev (fun k=>n3.f k S (P++W.take i) (W.getD i dB).f0 (W.getD i dB).f1) ([],[],false):=by
   unfold n3.f;refine Ev.bind' _ (D0 S _ (by omega) (by omega)) (Ev.pos (pE.2 hdi) (Ev.cn _ (D2 _ _) (Ev.pos (decide_eq_true hw) ?_)));exact Ev.pos (by omega) (Ev.now _)
  refine Ev.step (fun k=>by rw[fW.l0]) ?_;rw[jV,dO (x:=(i:Int)+1) (by omega) (by omega)];exact Ev.pos (by omega) (Ev.pos (by omega) (Ev.pos (by omega) (Ev.bind' _ hst (Ev.neg (by simp) (Ev.now _)))))
theorem Rj {S:List ByteArray}{P:List Wr}{L:List ByteArray}{n:Int}(h:ep S P L n):sW S P L n=if P.length+(eH (L.take n.toNat)).length≤60 then(S,P++eH (L.take n.toNat),L,n,true)else([],[],[],0,false):=by
 classical
 unfold sW
 by_cases h2:P.length+(eH (L.take n.toNat)).length≤60
 ·rw[if_pos ⟨h,h2⟩,if_pos h2]
 ·rw[if_neg (fun e=>h2 e.2),if_neg h2]
theorem S0 {S:List ByteArray}{P:List Wr}{L:List ByteArray}{n:Int}(h:¬ep S P L n):sW S P L n=([],[],[],0,false):=by
 classical
 unfold sW;exact if_neg (fun e=>h e.1)
theorem a3f(S:List ByteArray)(P:List Wr)(L:List ByteArray)(n:Int)(hS:S.length≤1048576)(hP:P.length≤1048576)(hL:L.length≤1048576)(sL:ja L):Ev (fun k=>oq.f k S P L n) (sW S P L n):=by
 have h1:=Ai S P L n hS hP hL sL;unfold oq.f
 by_cases c1:ep S P L n
 ·have hn:=c1.1.2.2
  have Hz:=c1.1.2.1;have h60:=c1.1.1.2.2
  have hlt:(L.take n.toNat).length≤L.length:=by rw[bx];omega
  have hwl:=xu (L.take n.toNat);have hW:=NJ (An n.toNat c1.2.1);have w1:=(D3 (L.take n.toNat) (by omega) (Am sL _) (S.length:Int)).1 (An _ c1.2.1);have hb:=Zw S P (eH (L.take n.toNat)) L n c1.1.1 hW (by omega);rw[Rj c1];refine Ev.bind' _ h1 (Ev.pos (k8.2 c1) (Ev.cn _ (M6 S P L n hS hP hL) (Ev.bind' _ ?_ (Ev.now _))));unfold fW.f;exact Ev.pos hn.1 (Ev.pos hn.2 (Ev.bind' _ w1 hb))
 ·rw[S0 c1]
  exact Ev.bind' _ h1 (Ev.neg (fun e=>c1 (k8.1 e)) (Ev.now _))
theorem Yw {α:Type}{a b:List α}(z:α)(hl:a.length=b.length)(h:∀i,i<a.length→a.getD i z=b.getD i z):a=b:=by
 apply List.ext_getElem hl;intro i h1 h2;have:=h i h1
 rwa [vC _ _ _ h1,vC _ _ _ h2]at this
noncomputable def G2(a b:List ByteArray):Bool:=by
 classical
 exact decide (a=b)
theorem S4 {a b:List ByteArray}(h:a=b):G2 a b=true:=by
 classical
 unfold G2;exact decide_eq_true h
theorem SM {a b:List ByteArray}(h:¬a=b):G2 a b=false:=by
 classical
 unfold G2;exact decide_eq_false h
theorem ZK(a b:List ByteArray)(hl:a.length=b.length)(ha:a.length≤1000000000):Ev (fun k=>gr.f k a b) (G2 a b):=by
 unfold gr.f;refine uX (L:=fun k i=>gr.l0 k a b (a.length:Int) (i:Int)) (n:=a.length) (p:=fun i=>a.getD i ByteArray.empty=b.getD i ByteArray.empty) ?_ ?_ ?_
 ·intro h
  refine Ev.step (fun k=>by rw[gr.l0]) ?_;refine Ev.neg (by omega) (Ev.now' ?_);rw[S4 (Yw _ hl h),beq_iff_eq]
  omega
 ·intro i hi _ hp next
  refine Ev.step (fun k=>by rw[gr.l0]) ?_;rw[nH,nH,dO (x:=(i:Int)+1) (by omega) (by omega)];exact Ev.pos (by omega) (Ev.pos (by omega) (Ev.pos (by omega) (Ev.pos (by omega) (Ev.pos (by rw[hp]) next))))
 ·intro i hi _ hp
  refine Ev.step (fun k=>by rw[gr.l0]) ?_;rw[nH,nH,SM (fun e=>hp (by rw[e]))];exact Ev.pos (by omega) (Ev.pos (by omega) (Ev.pos (by omega) (Ev.pos (by omega) (Ev.neg (fun e=>hp (EK e)) (Ev.now _)))))
noncomputable def sh(S:List ByteArray)(P:List Wr)(L:List ByteArray)(n:Int):List ByteArray×List Wr×List ByteArray×Int×Bool:=by
 classical
 exact if ep S P L n∧d4 (d4 S P) (eH (L.take n.toNat))=d4 S P then(d4 S P,[],L.drop n.toNat,0,true)else([],[],[],0,false)
theorem S1 {S:List ByteArray}{P:List Wr}{L:List ByteArray}{n:Int}(h:ep S P L n)(h2:d4 (d4 S P) (eH (L.take n.toNat))=d4 S P):sh S P L n=(d4 S P,[],L.drop n.toNat,0,true):=by
 classical
 unfold sh;exact if_pos ⟨h,h2⟩
theorem M5 {S:List ByteArray}{P:List Wr}{L:List ByteArray}{n:Int}(h:¬(ep S P L n∧d4 (d4 S P) (eH (L.take n.toNat))=d4 S P)):sh S P L n=([],[],[],0,false):=by
 classical
 unfold sh;exact if_neg h
theorem a6R(S:List ByteArray)(P:List Wr)(L:List ByteArray)(n:Int)(hS:S.length≤1048576)(hP:P.length≤1048576)(hL:L.length≤1048576)(sL:ja L):Ev (fun k=>et.f k S P L n) (sh S P L n):=by
 have h1:=Ai S P L n hS hP hL sL;unfold et.f
 by_cases c1:ep S P L n
 ·obtain⟨a,b,c,d⟩:=IA c1
  have hn:=c1.1.2.2
  have hlt:(L.take n.toNat).length≤L.length:=by rw[bx];omega
  have hw:=xu (L.take n.toNat);have Hz:=c1.1.2.1
  have hD:qT (d4 S P).length (eH (L.take n.toNat)):=by
   rw[ku];exact S5 (UK c1).1 (An _ c1.2.1)
  have hf:Ev (fun k=>om.f k S P) (d4 S P,[],true):=by
   unfold om.f;exact Ev.bind' _ (D0 S P (by omega) (by omega)) (Ev.pos (pE.2 c1.1.1) (Ev.bind' _ (Dc S P a.1 a.2 c) (Ev.now _)))
  have e1:=ZK (d4 S P) (d4 (d4 S P) (eH (L.take n.toNat))) (by rw[ku (d4 S P)]) (by omega);have w1:=(D3 (L.take n.toNat) (by omega) (Am sL _) (S.length:Int)).1 (An _ c1.2.1);have p3:=Dc (d4 S P) (eH (L.take n.toNat)) b.1 (by omega) hD
  have hdl:(L.drop n.toNat).length≤40:=by rw[List.length_drop];omega
  by_cases c2:d4 (d4 S P) (eH (L.take n.toNat))=d4 S P
  ·rw[S1 c1 c2]
   rw[S4 c2.symm]at e1;refine Ev.bind' _ h1 (Ev.pos (k8.2 c1) (Ev.pos hn.1 (Ev.pos hn.2 (Ev.bind' _ w1 (Ev.bind' _ hf (Ev.bind' _ p3 (Ev.bind' _ e1 (Ev.pos rfl (Ev.cn _ rfl ?_)))))))));exact Ev.pos (by simp only[aaS];omega) (Ev.now _)
  ·rw[M5 (fun h=>c2 h.2)]
   rw[SM (fun e=>c2 e.symm)]at e1;exact Ev.bind' _ h1 (Ev.pos (k8.2 c1) (Ev.pos hn.1 (Ev.pos hn.2 (Ev.bind' _ w1 (Ev.bind' _ hf (Ev.bind' _ p3 (Ev.bind' _ e1 (Ev.neg (by simp) (Ev.now _)))))))))
 ·rw[M5 (fun h=>c1 h.1)]
  exact Ev.bind' _ h1 (Ev.neg (fun e=>c1 (k8.1 e)) (Ev.now _))
noncomputable def qp(S:List ByteArray)(P:List Wr)(L:List ByteArray)(n:Int)(l:List Wr):List ByteArray×List Wr×List ByteArray×Int×Bool:=by
 classical
 exact if ep S P L n∧lF (S.length:Int) l∧L.length≠40 then(S,P,L++[strOfNums (lX l)],n,true)else([],[],[],0,false)
theorem a0N(S:List ByteArray)(P:List Wr)(L:List ByteArray)(n:Int)(l:List Wr)(hS:S.length≤1048576)(hP:P.length≤1048576)(hL:L.length≤1048576)(hl:l.length≤1048576)(sL:ja L):Ev (fun k=>fE.f k S P L n l) (qp S P L n l):=by
 classical
 have h1:=Ai S P L n hS hP hL sL;have h3:=IN l (by omega) (S.length:Int)
 have no:¬(ep S P L n∧lF (S.length:Int) l∧L.length≠40)→Ev (fun k=>fE.j0 k l true S P L n) (qp S P L n l):=fun h=>by
  unfold qp;rw[if_neg h];exact Ev.step (fun k=>by rw[fE.j0]) (Ev.pos rfl (Ev.now _))
 unfold fE.f
 by_cases c1:ep S P L n
 ·by_cases c2:lF (S.length:Int) l
  ·have e:((L.length:Int)==40)=decide (L.length=40):=by
    rw[Bool.eq_iff_iff,beq_iff_eq,decide_eq_true_iff];omega
   rw[e]
   by_cases c3:L.length=40
   ·rw[decide_eq_true c3]
    exact Ev.bind' _ h1 (Ev.pos (k8.2 c1) (Ev.bind' _ h3 (Ev.pos (qJ.2 c2) (no (fun h=>h.2.2 c3)))))
   ·rw[decide_eq_false c3]
    have e2:qp S P L n l=(S,P,L++[strOfNums (lX l)],n,true):=by
     unfold qp;exact if_pos ⟨c1,c2,c3⟩
    rw[e2];have Hz:=c1.1.2.1;refine Ev.bind' _ h1 (Ev.pos (k8.2 c1) (Ev.bind' _ h3 (Ev.pos (qJ.2 c2) ?_)));exact Ev.step (fun k=>by rw[fE.j0]) (Ev.neg (by simp) (Ev.cn _ (M6 S P L n hS hP hL) (Ev.bind' _ (Rk _ l c2) (Ev.pos (show L.length<8796093022208 by omega) (Ev.now _)))))
  ·exact Ev.bind' _ h1 (Ev.pos (k8.2 c1) (Ev.bind' _ h3 (Ev.neg (fun e=>c2 (qJ.1 e)) (no (fun h=>c2 h.2.1)))))
 ·exact Ev.bind' _ h1 (Ev.neg (fun e=>c1 (k8.1 e)) (no (fun h=>c1 h.1)))
theorem a3g(x lo hi:Int):jI.f x lo hi=some (decide (lo≤x∧x≤hi)):=by
 unfold jI.f
 by_cases h:x≥lo
 ·rw[if_pos h];simp[show lo≤x from h]
 ·rw[if_neg h];simp[show¬lo≤x from h]
def BX:ByteArray:=⟨#[0,0,0,0,0,0,0,0]⟩
theorem a2C:Ag.f 8=some BX:=by
 unfold Ag.f;rw[if_pos (by decide),if_pos (by decide)]
 rfl
theorem ZB(n:Int)(hn:n≤32):∀ (m:Nat) (x:Int) (acc:List ByteArray),(n-x).toNat=m→0≤x→acc.length≤x.toNat→x≤n→
 Ev (fun k=>hU.l0 k n x acc) (acc++aax m BX,[],true):=by
 intro m
 induction m with
 |zero=>
  intro x acc hm hx ha hxn;rw[List.replicate_zero,List.append_nil];exact Ev.step (fun k=>by rw[hU.l0]) (Ev.neg (by omega) (Ev.now _))
 |succ m ih=>
  intro x acc hm hx ha hxn;have hw:wrap64 (x+1)=x+1:=dO (by omega) (by omega);have h:=ih (x+1) (acc++[BX]) (by omega) (by omega) (by rw[aac,List.length_singleton];omega) (by omega);rw[List.append_assoc,List.singleton_append,←List.replicate_succ]at h;refine Ev.step (fun k=>by rw[hU.l0]) (Ev.pos (by omega) (Ev.cn _ a2C (Ev.pos (show acc.length<8796093022208 by omega) ?_)));rw[hw];exact h
theorem ZJ(n:Int)(c1:1≤n∧n≤32):Ev (fun k=>ot.f k n) (List.replicate n.toNat BX,[],[],0,true):=by
 unfold ot.f hU.f;have hl:=ZB n c1.2 n.toNat 0 [] (by omega) (Int.le_refl _) (by simp) (by omega);rw[abn]at hl;exact Ev.bind' (aax n.toNat BX,[],true) (Ev.cn _ (a3g _ _ _) (Ev.pos (by simpa using c1) hl)) (Ev.pos rfl (Ev.now _))
end Go.Proofs.Ytfdpdocbpcnkaaa.Q
