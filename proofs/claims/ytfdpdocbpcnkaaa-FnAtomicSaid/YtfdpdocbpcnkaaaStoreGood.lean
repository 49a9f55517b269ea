import Derived.Test.YtfdpdocbpcnkaaaStoreLog
import Derived.Test.YtfdpdocbpcnkaaaG2
import Derived.Test.YtfdpdocbpcnkaaaG7
open ByteArray renaming empty→bA
open List renaming length_take→bx
namespace Go.Proofs.Ytfdpdocbpcnkaaa.Q
open Go.RowKit Go.Proofs.YtfdpdocbpcnkaaaW.PrintWords Go.Proofs.Ytfdpdocbpcnkaaa.G
set_option linter.unusedVariables false
set_option linter.unusedSimpArgs false
def ep(S:List ByteArray)(P:List Wr)(L:List ByteArray)(n:Int):Prop:=
 (oc S P∧L.length≤40∧0≤n∧n≤(L.length:Int))∧(∀i,i<L.length→pe (S.length:Int) (L.getD i bA))∧∀i,i<P.length→P.getD i dB∈eH (L.take n.toNat)
noncomputable def sJ(S:List ByteArray)(P:List Wr)(L:List ByteArray)(n:Int):Bool:=by
 classical
 exact decide (ep S P L n)
theorem k8 {S:List ByteArray}{P:List Wr}{L:List ByteArray}{n:Int}:sJ S P L n=true↔ep S P L n:=by
 classical
 unfold sJ;exact decide_eq_true_iff
theorem N8 {S:List ByteArray}{P:List Wr}{L:List ByteArray}{n:Int}(h:ep S P L n):sJ S P L n=true:=k8.2 h
theorem xt {S:List ByteArray}{P:List Wr}{L:List ByteArray}{n:Int}(h:¬ep S P L n):sJ S P L n=false:=by
 classical
 unfold sJ;exact decide_eq_false h
theorem a6T(w:Wr)(a:Int)(s:ByteArray):(w.f0==a&& (w.f1.toList==s.toList))=true↔w=⟨a,s⟩:=by
 rw[Bool.and_eq_true,beq_iff_eq,beq_iff_eq]
 constructor
 ·intro h
  rw[←h.1,←EK h.2]
 ·intro h
  rw[h];exact⟨rfl,rfl⟩
theorem Ua(w:Wr)(a:Int)(s:ByteArray):(a==w.f0&& (s.toList==w.f1.toList))=true↔w=⟨a,s⟩:=by
 rw[Bool.and_eq_true,beq_iff_eq,beq_iff_eq]
 constructor
 ·intro h
  rw[h.1,EK h.2]
 ·intro h
  rw[h];exact⟨rfl,rfl⟩
theorem Ay {α:Type}{l:List α}{x z:α}:x∈l↔ ∃j,j<l.length∧l.getD j z=x:=by
 constructor
 ·intro h
  obtain⟨j,hj,e⟩:=List.mem_iff_getElem.1 h;exact⟨j,hj,by rw[vC l j z hj];exact e⟩
 ·rintro⟨j,hj,e⟩
  rw[←e];exact ul l j z hj
theorem S6(Y P:List Wr)(hY:Y.length≤1000000000)(i:Nat)(w:Wr)(r:Bool)(next:w∈Y→Ev (fun k=>bo.l0 k Y P (P.length:Int) (wrap64 ((i:Int)+1))) r)(no:¬w∈Y→r=false):
 Ev (fun k=>bo.l1 k Y false P (P.length:Int) (i:Int) Y (Y.length:Int) 0 w.f0 w.f1) r:=by
 have loop:∀d j (b:Bool),Y.length-j=d→j≤Y.length→(b=true↔ ∃j',j'<j∧Y.getD j' dB=w)→Ev (fun k=>bo.l1 k Y b P (P.length:Int) (i:Int) Y (Y.length:Int) (j:Int) w.f0 w.f1) r:=by
  intro d
  induction d with
  |zero=>
   intro j b hd hj hb
   have:j=Y.length:=by omega
   subst this;refine Ev.step (fun k=>by rw[bo.l1]) ?_;refine Ev.neg (by omega) ?_
   by_cases e:b=true
   ·exact Ev.pos e (next (Ay.2 (hb.1 e)))
   ·refine Ev.neg e (Ev.now' (no (fun h=>e (hb.2 (Ay.1 h)))).symm)
  |succ d ih=>
   intro j b hd hj hb
   have e1:Y.length-(j+1)=d:=by clear hb;omega
   have e2:j+1≤Y.length:=by clear hb;omega
   refine Ev.step (fun k=>by rw[bo.l1]) ?_;rw[jV,dO (x:=(j:Int)+1) (by omega) (by omega)];refine Ev.pos (by omega) (Ev.pos (by omega) (Ev.pos (by omega) ?_))
   by_cases e:b=true
   ·refine Ev.pos e (ih (j+1) true e1 e2 ?_)
    refine⟨fun _=> ?_,fun _=>rfl⟩;obtain⟨j',h1,h2⟩:=hb.1 e;exact⟨j',by omega,h2⟩
   ·refine Ev.neg e (ih (j+1) _ e1 e2 ?_)
    rw[a6T]
    constructor
    ·intro h
     exact⟨j,by omega,h⟩
    ·rintro⟨j',h1,h2⟩
     by_cases e2:j'=j
     ·subst e2;exact h2
     ·exact absurd (hb.2 ⟨j',by omega,h2⟩) e
 exact loop _ 0 false rfl (by omega) ⟨fun h=>(by cases h),fun⟨j',h,_⟩=>(by omega)⟩
theorem Ai(S:List ByteArray)(P:List Wr)(L:List ByteArray)(n:Int)(hS:S.length≤1048576)(hP:P.length≤1048576)(hL:L.length≤1048576)(hs:ja L):Ev (fun k=>bo.f k S P L n) (sJ S P L n):=by
 have hd:=D0 S P (by omega) (by omega)
 have no:¬(oc S P∧L.length≤40∧0≤n∧n≤(L.length:Int))→Ev (fun k=>bo.j0 k true S P L n) (sJ S P L n):=fun h=>by
  rw[xt (fun e=>h e.1)];refine Ev.step (fun k=>by rw[bo.j0]) ?_;exact Ev.pos rfl (Ev.now _)
 unfold bo.f;refine Ev.bind' _ hd ?_
 by_cases h1:oc S P
 ·refine Ev.pos (pE.2 h1) ?_
  by_cases h2:(L.length:Int)>40
  ·exact Ev.pos h2 (no (fun h=>by omega))
  ·refine Ev.neg h2 (Ev.cn _ (Aw _ _ _) ?_)
   by_cases h3:0≤n∧n≤(L.length:Int)
   ·rw[IS h3]
    refine Ev.step (fun k=>by rw[bo.j0]) ?_;refine Ev.neg (by simp) ?_;obtain⟨g1,g2⟩:=D3 L hL hs (S.length:Int)
    by_cases h4:∀i,i<L.length→pe (S.length:Int) (L.getD i bA)
    ·refine Ev.bind' _ (g1 h4) (Ev.pos rfl (Ev.pos h3.1 (Ev.pos h3.2 ?_)))
     have hlt:(L.take n.toNat).length≤40:=by rw[bx];omega
     obtain⟨g3,_⟩:=D3 (L.take n.toNat) (by omega) (Am hs _) (S.length:Int);have hw:=xu (L.take n.toNat);refine Ev.bind' _ (g3 ?_) ?_
     ·intro i hi
      rw[bx]at hi
      have e:(L.take n.toNat).getD i bA=L.getD i bA:=by simp[List.getD_eq_getElem?_getD,show i<n.toNat by omega]
      rw[e];exact h4 i (by omega)
     ·refine uX (L:=fun k i=>bo.l0 k (eH (L.take n.toNat)) P (P.length:Int) (i:Int)) (n:=P.length) (p:=fun i=>P.getD i dB∈eH (L.take n.toNat)) ?_ ?_ ?_
      ·intro h5
       refine Ev.step (fun k=>by rw[bo.l0]) ?_;exact Ev.neg (by omega) (Ev.now' (N8 ⟨⟨h1,by omega,h3⟩,h4,h5⟩).symm)
      ·intro i hi _ hp next
       refine Ev.step (fun k=>by rw[bo.l0]) ?_;rw[jV];refine Ev.pos (by omega) (Ev.pos (by omega) (Ev.pos (by omega) ?_));refine S6 _ P (by omega) i _ _ (fun _=> ?_) (fun h=>absurd hp h);rw[dO (x:=(i:Int)+1) (by omega) (by omega)];exact next
      ·intro i hi _ hp
       refine Ev.step (fun k=>by rw[bo.l0]) ?_;rw[jV];refine Ev.pos (by omega) (Ev.pos (by omega) (Ev.pos (by omega) ?_));exact S6 _ P (by omega) i _ _ (fun h=>absurd h hp) (fun _=>xt (fun e=>hp (e.2.2 i hi)))
    ·rw[xt (fun e=>h4 e.2.1)]
     exact Ev.bind' _ (g2 h4) (Ev.neg (by simp) (Ev.now _))
   ·rw[Db h3]
    exact no (fun h=>h3 h.2.2)
 ·exact Ev.neg (fun e=>h1 (pE.1 e)) (no (fun h=>h1 h.1))
theorem RM(Y:List Wr)(hY:Y.length≤1000000000)(w:Wr):Ev (fun k=>pz.f k Y w.f0 w.f1) (decide (w∈Y)):=by
 obtain⟨t,c1,c2⟩:∃t:Int,Ev (fun k=>hX.f k Y w.f0 w.f1) t∧(t≥0↔ ∃i,i<Y.length∧Y.getD i dB=w):=by
  unfold hX.f;refine JY (L:=fun k i=>hX.l0 k Y (Y.length:Int) (i:Int) w.f0 w.f1) ?_ ?_ ?_
  ·refine Ev.step (fun k=>by rw[hX.l0]) ?_
   exact Ev.neg (by omega) (Ev.now _)
  ·intro i hi hq t next
   refine Ev.step (fun k=>by rw[hX.l0]) ?_;rw[jV,dO (x:=(i:Int)+1) (by omega) (by omega)];refine Ev.pos (by omega) (Ev.pos (by omega) (Ev.pos (by omega) (Ev.neg (fun e=>hq ((Ua _ _ _).1 e)) next)))
  ·intro i hi hq
   refine Ev.step (fun k=>by rw[hX.l0]) ?_;rw[jV];refine Ev.pos (by omega) (Ev.pos (by omega) (Ev.pos (by omega) (Ev.pos ((Ua _ _ _).2 hq) (Ev.now _))))
 unfold pz.f;refine Ev.bind' t c1 (Ev.now' ?_);exact Zu (by rw[c2,Ay (z:=dB)])
theorem LE(S:List ByteArray)(P:List Wr)(L:List ByteArray)(n:Int)(hS:S.length≤1048576)(hP:P.length≤1048576)(hL:L.length≤1048576)(hs:ja L):Ev (fun k=>db.f k S P L n) (sJ S P L n):=by
 have hd:=RQ S P (by omega) (by omega)
 have no:¬(oc S P∧L.length≤40∧0≤n∧n≤(L.length:Int))→Ev (fun k=>db.j0 k true S P L n) (sJ S P L n):=fun h=>by
  rw[xt (fun e=>h e.1)];refine Ev.step (fun k=>by rw[db.j0]) ?_;exact Ev.pos rfl (Ev.now _)
 unfold db.f;refine Ev.bind' _ hd ?_
 by_cases h1:oc S P
 ·refine Ev.pos (pE.2 h1) ?_
  by_cases h2:(L.length:Int)>40
  ·exact Ev.pos h2 (no (fun h=>by omega))
  ·refine Ev.neg h2 (Ev.cn _ (xC _ _ _) ?_)
   by_cases h3:0≤n∧n≤(L.length:Int)
   ·rw[IS h3]
    refine Ev.step (fun k=>by rw[db.j0]) ?_;refine Ev.neg (by simp) ?_;refine uX (L:=fun k i=>db.l0 k L (L.length:Int) (i:Int) S P L n) (n:=L.length) (p:=fun i=>pe (S.length:Int) (L.getD i bA)) ?_ ?_ ?_
    ·intro h4
     refine Ev.step (fun k=>by rw[db.l0]) ?_;have hw:=xu (L.take n.toNat)
     have hlt:(L.take n.toNat).length≤40:=by rw[bx];omega
     refine Ev.neg (by omega) (Ev.pos h3.1 (Ev.pos h3.2 (Ev.bind' _ (RY (L.take n.toNat) (by omega) (Am hs _)) ?_)))
     obtain⟨t,c1,c2⟩:∃t:Int,Ev (fun k=>hJ.f k P (eH (L.take n.toNat))) t∧(t≥0↔ ∃i,i<P.length∧¬P.getD i dB∈eH (L.take n.toNat)):=by
      unfold hJ.f;refine JY (L:=fun k i=>hJ.l0 k P (P.length:Int) (i:Int) (eH (L.take n.toNat))) ?_ ?_ ?_
      ·refine Ev.step (fun k=>by rw[hJ.l0]) ?_
       exact Ev.neg (by omega) (Ev.now _)
      ·intro i hi hq t next
       refine Ev.step (fun k=>by rw[hJ.l0]) ?_;rw[jV,dO (x:=(i:Int)+1) (by omega) (by omega)];refine Ev.pos (by omega) (Ev.pos (by omega) (Ev.pos (by omega) (Ev.bind' (!decide (P.getD i dB∈eH (L.take n.toNat))) ?_ (Ev.neg ?_ next))))
       ·unfold ol.f
        exact Ev.bind' _ (RM _ (by omega) _) (Ev.now _)
       ·simpa using hq
      ·intro i hi hq
       refine Ev.step (fun k=>by rw[hJ.l0]) ?_;rw[jV];refine Ev.pos (by omega) (Ev.pos (by omega) (Ev.pos (by omega) (Ev.bind' (!decide (P.getD i dB∈eH (L.take n.toNat))) ?_ (Ev.pos ?_ (Ev.now _)))))
       ·unfold ol.f
        exact Ev.bind' _ (RM _ (by omega) _) (Ev.now _)
       ·simpa using hq
     refine Ev.bind' (decide (t≥0)) ?_ (Ev.now' ?_)
     ·unfold px.f
      exact Ev.bind' t c1 (Ev.now _)
     ·by_cases h5:t≥0
      ·rw[IS h5,xt]
       ·rfl
       ·intro e
        obtain⟨i,hi,h6⟩:=c2.1 h5;exact h6 (e.2.2 i hi)
      ·rw[Db h5,N8]
       ·rfl
       ·refine⟨⟨h1,by omega,h3⟩,h4,fun i hi=> ?_⟩
        by_cases h6:P.getD i dB∈eH (L.take n.toNat)
        ·exact h6
        ·exact absurd (c2.2 ⟨i,hi,h6⟩) h5
    ·intro i hi _ hp next
     have h2:=Ao (L.getD i bA);refine Ev.step (fun k=>by rw[db.l0]) ?_;rw[nH,dO (x:=(i:Int)+1) (by omega) (by omega)];exact Ev.pos (by omega) (Ev.pos (by omega) (Ev.pos (by omega) (Ev.bind' _ (LH _ (hs i hi)) (Ev.pos hp.1 (Ev.bind' _ (M7 _ (by omega) _) (Ev.pos (qJ.2 hp.2) next))))))
    ·intro i hi _ hp
     have h2:=Ao (L.getD i bA);refine Ev.step (fun k=>by rw[db.l0]) ?_;rw[nH,xt (fun e=>hp (e.2.1 i hi))];refine Ev.pos (by omega) (Ev.pos (by omega) (Ev.pos (by omega) (Ev.bind' _ (LH _ (hs i hi)) ?_)))
     by_cases h5:(mT (L.getD i bA)).2=true
     ·exact Ev.pos h5 (Ev.bind' _ (M7 _ (by omega) _) (Ev.neg (fun e=>hp ⟨h5,qJ.1 e⟩) (Ev.now _)))
     ·exact Ev.neg h5 (Ev.now _)
   ·rw[Db h3]
    exact no (fun h=>h3 h.2.2)
 ·exact Ev.neg (fun e=>h1 (pE.1 e)) (no (fun h=>h1 h.1))
end Go.Proofs.Ytfdpdocbpcnkaaa.Q
