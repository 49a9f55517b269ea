import Derived.Test.YtmbjmacpigojjaaScan
import Derived.Test.YtmbjmacpigojjaaTxnRead
import Derived.Test.YtmbjmacpigojjaaG2
import Derived.Test.YtmbjmacpigojjaaG6
open ByteArray renaming empty→JZ
namespace Go.Proofs.Ytmbjmacpigojjaa.Q
open Go.RowKit Go.Proofs.YtmbjmacpigojjaaW.PrintWords Go.Proofs.Ytmbjmacpigojjaa.G
set_option linter.unusedVariables false
set_option linter.unusedSimpArgs false
def qA(S:List ByteArray)(P:List Wr):Prop:=((∀i,i<S.length→(S.getD i JZ).size=8)∧(∀i,i<P.length→o6 (S.length:Int) (P.getD i dl)))∧(1≤S.length∧S.length≤32)∧P.length≤60
noncomputable def Bv(S:List ByteArray)(P:List Wr):Bool:=by
 classical
 exact decide (qA S P)
theorem sR {S:List ByteArray}{P:List Wr}:Bv S P=true↔qA S P:=by
 classical
 unfold Bv;exact decide_eq_true_iff
theorem zP {S:List ByteArray}{P:List Wr}(h:¬qA S P):Bv S P=false:=by
 classical
 unfold Bv;exact decide_eq_false h
theorem IL(S:List ByteArray)(P:List Wr)(hS:S.length≤1000000000)(hP:P.length≤1000000000):Ev (fun k=>eS.f k S P) (Bv S P):=by
 unfold eS.f;refine uG (L:=fun k i=>eS.l0 k S (S.length:Int) (i:Int) S P) (n:=S.length) (p:=fun i=>(S.getD i JZ).size=8) ?_ ?_ ?_
 ·intro h1
  refine Ev.step (fun k=>by rw[eS.l0]) ?_;refine Ev.neg (by omega) ?_;refine uG (L:=fun k i=>eS.l1 k P (P.length:Int) (i:Int) S P) (n:=P.length) (p:=fun i=>o6 (S.length:Int) (P.getD i dl)) ?_ ?_ ?_
  ·intro h2
   refine Ev.step (fun k=>by rw[eS.l1]) ?_;refine Ev.neg (by omega) (Ev.eB _ (In _ _ _) ?_)
   by_cases h3:(1:Int)≤(S.length:Int)∧(S.length:Int)≤32
   ·refine Ev.pos (by simpa using h3) (Ev.now' ?_)
    by_cases h4:P.length≤60
    ·rw[sR.2 ⟨⟨h1,h2⟩,by omega,h4⟩]
     exact decide_eq_true (by omega)
    ·rw[zP (fun h=>h4 h.2.2)]
     exact decide_eq_false (by omega)
   ·refine Ev.neg (by simpa using h3) (Ev.now' ?_)
    rw[zP];intro h;have:=h.2.1
    omega
  ·intro i hi _ hp next
   refine Ev.step (fun k=>by rw[eS.l1]) ?_;rw[kG,eD (x:=(i:Int)+1) (by omega) (by omega)];exact Ev.pos (by omega) (Ev.pos (by omega) (Ev.pos (by omega) (Ev.eB _ (Dw _ _) (Ev.pos (by simpa using hp) next))))
  ·intro i hi _ hp
   refine Ev.step (fun k=>by rw[eS.l1]) ?_;rw[kG,zP (fun h=>hp (h.1.2 i hi))];exact Ev.pos (by omega) (Ev.pos (by omega) (Ev.pos (by omega) (Ev.eB _ (Dw _ _) (Ev.neg (by simpa using hp) (Ev.now _)))))
 ·intro i hi _ hp next
  refine Ev.step (fun k=>by rw[eS.l0]) ?_;rw[m9,eD (x:=(i:Int)+1) (by omega) (by omega)];exact Ev.pos (by omega) (Ev.pos (by omega) (Ev.pos (by omega) (Ev.pos (by omega) next)))
 ·intro i hi _ hp
  refine Ev.step (fun k=>by rw[eS.l0]) ?_;rw[m9,zP (fun h=>hp (h.1.1 i hi))];exact Ev.pos (by omega) (Ev.pos (by omega) (Ev.pos (by omega) (Ev.neg (by omega) (Ev.now _))))
theorem SU(S:List ByteArray)(P:List Wr)(hS:S.length≤1000000000)(hP:P.length≤1000000000):Ev (fun k=>gc.f k S P) (Bv S P):=by
 obtain⟨t1,c1,c2⟩:∃t:Int,Ev (fun k=>iX.f k S) t∧(t≥0↔ ∃i,i<S.length∧(S.getD i JZ).size≠8):=by
  unfold iX.f;refine Jp (L:=fun k i=>iX.l0 k S (S.length:Int) (i:Int)) ?_ ?_ ?_
  ·refine Ev.step (fun k=>by rw[iX.l0]) ?_
   exact Ev.neg (by omega) (Ev.now _)
  ·intro i hi hq t next
   refine Ev.step (fun k=>by rw[iX.l0]) ?_;rw[m9,eD (x:=(i:Int)+1) (by omega) (by omega)];refine Ev.pos (by omega) (Ev.pos (by omega) (Ev.pos (by omega) (Ev.eB _ rfl (Ev.neg ?_ next))));rw[bne_iff_ne]
   omega
  ·intro i hi hq
   refine Ev.step (fun k=>by rw[iX.l0]) ?_;rw[m9];refine Ev.pos (by omega) (Ev.pos (by omega) (Ev.pos (by omega) (Ev.eB _ rfl (Ev.pos ?_ (Ev.now _)))));rw[bne_iff_ne]
   omega
 have f2:∀w:Wr,yX.f w.f0 w.f1 S P=some (!decide (o6 (S.length:Int) w)):=by
  intro w;unfold yX.f;rw[EP,Option.bind_some]
  by_cases h:0≤w.f0∧w.f0≤wrap64 ((S.length:Int)-1)
  ·rw[if_pos (by simpa using h)]
   refine congrArg some ?_;rw[Bool.eq_iff_iff,bne_iff_ne,Bool.not_eq_true',decide_eq_false_iff_not]
   constructor
   ·intro e h2;have:=h2.2;omega
   ·intro e e2;exact e ⟨h,by omega⟩
  ·rw[if_neg (by simpa using h),decide_eq_false fun e=>h e.1]
   rfl
 obtain⟨t2,c3,c4⟩:∃t:Int,Ev (fun k=>iY.f k P S P) t∧(t≥0↔ ∃i,i<P.length∧¬o6 (S.length:Int) (P.getD i dl)):=by
  unfold iY.f;refine Jp (L:=fun k i=>iY.l0 k P (P.length:Int) (i:Int) S P) ?_ ?_ ?_
  ·refine Ev.step (fun k=>by rw[iY.l0]) ?_
   exact Ev.neg (by omega) (Ev.now _)
  ·intro i hi hq t next
   refine Ev.step (fun k=>by rw[iY.l0]) ?_;rw[kG,eD (x:=(i:Int)+1) (by omega) (by omega)];refine Ev.pos (by omega) (Ev.pos (by omega) (Ev.pos (by omega) (Ev.eB _ (f2 _) (Ev.neg ?_ next))))
   simpa using hq
  ·intro i hi hq
   refine Ev.step (fun k=>by rw[iY.l0]) ?_;rw[kG];refine Ev.pos (by omega) (Ev.pos (by omega) (Ev.pos (by omega) (Ev.eB _ (f2 _) (Ev.pos ?_ (Ev.now _)))))
   simpa using hq
 have no:¬qA S P→Ev (fun k=>gc.j0 k true S P) (Bv S P):=by
  intro h;rw[zP h];refine Ev.step (fun k=>by rw[gc.j0]) ?_;exact Ev.pos rfl (Ev.now _)
 unfold gc.f;refine Ev.eB _ (EP _ _ _) ?_
 by_cases h1:(1:Int)≤(S.length:Int)∧(S.length:Int)≤32
 ·refine Ev.pos (by simpa using h1) ?_
  by_cases h2:(P.length:Int)>60
  ·rw[decide_eq_true h2]
   exact no (fun h=>by have:=h.2.2;omega)
  ·rw[decide_eq_false h2]
   refine Ev.step (fun k=>by rw[gc.j0]) ?_;refine Ev.neg (by decide) (Ev.bind' (decide (t1≥0)) ?_ ?_)
   ·unfold rD.f
    exact Ev.bind' t1 c1 (Ev.now _)
   ·by_cases h3:t1≥0
    ·refine Ev.pos (by simpa using h3) (Ev.now' ?_)
     rw[zP];intro h;obtain⟨i,hi,e⟩:=c2.1 h3;exact e (h.1.1 i hi)
    ·refine Ev.neg (by simpa using h3) (Ev.bind' (decide (t2≥0)) ?_ (Ev.now' ?_))
     ·unfold sE.f
      exact Ev.bind' t2 c3 (Ev.now _)
     ·by_cases h4:t2≥0
      ·rw[decide_eq_true h4,zP]
       ·rfl
       ·intro h
        obtain⟨i,hi,e⟩:=c4.1 h4;exact e (h.1.2 i hi)
      ·rw[decide_eq_false h4,sR.2]
       ·rfl
       ·refine⟨⟨fun i hi=> ?_,fun i hi=> ?_⟩,by omega,by omega⟩
        ·by_cases e:(S.getD i JZ).size=8
         ·exact e
         ·exact absurd (c2.2 ⟨i,hi,e⟩) h3
        ·by_cases e:o6 (S.length:Int) (P.getD i dl)
         ·exact e
         ·exact absurd (c4.2 ⟨i,hi,e⟩) h4
 ·refine Ev.neg (by simpa using h1) (no fun h=>h1 ?_)
  have:=h.2.1
  omega
end Go.Proofs.Ytmbjmacpigojjaa.Q
