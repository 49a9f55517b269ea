import Derived.Test.YtfdpdocbpcnkaaaScan
import Derived.Test.YtfdpdocbpcnkaaaTxnRead
import Derived.Test.YtfdpdocbpcnkaaaG2
import Derived.Test.YtfdpdocbpcnkaaaG6
open ByteArray renaming empty→bA
namespace Go.Proofs.Ytfdpdocbpcnkaaa.Q
open Go.RowKit Go.Proofs.YtfdpdocbpcnkaaaW.PrintWords Go.Proofs.Ytfdpdocbpcnkaaa.G
set_option linter.unusedVariables false
set_option linter.unusedSimpArgs false
def oc(S:List ByteArray)(P:List Wr):Prop:=((∀i,i<S.length→(S.getD i bA).size=8)∧(∀i,i<P.length→nw (S.length:Int) (P.getD i dB)))∧(1≤S.length∧S.length≤32)∧P.length≤60
noncomputable def Ac(S:List ByteArray)(P:List Wr):Bool:=by
 classical
 exact decide (oc S P)
theorem pE {S:List ByteArray}{P:List Wr}:Ac S P=true↔oc S P:=by
 classical
 unfold Ac;exact decide_eq_true_iff
theorem xv {S:List ByteArray}{P:List Wr}(h:¬oc S P):Ac S P=false:=by
 classical
 unfold Ac;exact decide_eq_false h
theorem D0(S:List ByteArray)(P:List Wr)(hS:S.length≤1000000000)(hP:P.length≤1000000000):Ev (fun k=>dC.f k S P) (Ac S P):=by
 unfold dC.f;refine uX (L:=fun k i=>dC.l0 k S (S.length:Int) (i:Int) S P) (n:=S.length) (p:=fun i=>(S.getD i bA).size=8) ?_ ?_ ?_
 ·intro h1
  refine Ev.step (fun k=>by rw[dC.l0]) ?_;refine Ev.neg (by omega) ?_;refine uX (L:=fun k i=>dC.l1 k P (P.length:Int) (i:Int) S P) (n:=P.length) (p:=fun i=>nw (S.length:Int) (P.getD i dB)) ?_ ?_ ?_
  ·intro h2
   refine Ev.step (fun k=>by rw[dC.l1]) ?_;refine Ev.neg (by omega) (Ev.cn _ (Aw _ _ _) ?_)
   by_cases h3:(1:Int)≤(S.length:Int)∧(S.length:Int)≤32
   ·refine Ev.pos (by simpa using h3) (Ev.now' ?_)
    by_cases h4:P.length≤60
    ·rw[pE.2 ⟨⟨h1,h2⟩,by omega,h4⟩]
     exact decide_eq_true (by omega)
    ·rw[xv (fun h=>h4 h.2.2)]
     exact decide_eq_false (by omega)
   ·refine Ev.neg (by simpa using h3) (Ev.now' ?_)
    rw[xv];intro h;have:=h.2.1
    omega
  ·intro i hi _ hp next
   refine Ev.step (fun k=>by rw[dC.l1]) ?_;rw[jV,dO (x:=(i:Int)+1) (by omega) (by omega)];exact Ev.pos (by omega) (Ev.pos (by omega) (Ev.pos (by omega) (Ev.cn _ (D2 _ _) (Ev.pos (by simpa using hp) next))))
  ·intro i hi _ hp
   refine Ev.step (fun k=>by rw[dC.l1]) ?_;rw[jV,xv (fun h=>hp (h.1.2 i hi))];exact Ev.pos (by omega) (Ev.pos (by omega) (Ev.pos (by omega) (Ev.cn _ (D2 _ _) (Ev.neg (by simpa using hp) (Ev.now _)))))
 ·intro i hi _ hp next
  refine Ev.step (fun k=>by rw[dC.l0]) ?_;rw[nH,dO (x:=(i:Int)+1) (by omega) (by omega)];exact Ev.pos (by omega) (Ev.pos (by omega) (Ev.pos (by omega) (Ev.pos (by omega) next)))
 ·intro i hi _ hp
  refine Ev.step (fun k=>by rw[dC.l0]) ?_;rw[nH,xv (fun h=>hp (h.1.1 i hi))];exact Ev.pos (by omega) (Ev.pos (by omega) (Ev.pos (by omega) (Ev.neg (by omega) (Ev.now _))))
theorem RQ(S:List ByteArray)(P:List Wr)(hS:S.length≤1000000000)(hP:P.length≤1000000000):Ev (fun k=>fV.f k S P) (Ac S P):=by
 obtain⟨t1,c1,c2⟩:∃t:Int,Ev (fun k=>hG.f k S) t∧(t≥0↔ ∃i,i<S.length∧(S.getD i bA).size≠8):=by
  unfold hG.f;refine JY (L:=fun k i=>hG.l0 k S (S.length:Int) (i:Int)) ?_ ?_ ?_
  ·refine Ev.step (fun k=>by rw[hG.l0]) ?_
   exact Ev.neg (by omega) (Ev.now _)
  ·intro i hi hq t next
   refine Ev.step (fun k=>by rw[hG.l0]) ?_;rw[nH,dO (x:=(i:Int)+1) (by omega) (by omega)];refine Ev.pos (by omega) (Ev.pos (by omega) (Ev.pos (by omega) (Ev.cn _ rfl (Ev.neg ?_ next))));rw[bne_iff_ne]
   omega
  ·intro i hi hq
   refine Ev.step (fun k=>by rw[hG.l0]) ?_;rw[nH];refine Ev.pos (by omega) (Ev.pos (by omega) (Ev.pos (by omega) (Ev.cn _ rfl (Ev.pos ?_ (Ev.now _)))));rw[bne_iff_ne]
   omega
 have f2:∀w:Wr,we.f w.f0 w.f1 S P=some (!decide (nw (S.length:Int) w)):=by
  intro w;unfold we.f;rw[xC,Option.bind_some]
  by_cases h:0≤w.f0∧w.f0≤wrap64 ((S.length:Int)-1)
  ·rw[if_pos (by simpa using h)]
   refine congrArg some ?_;rw[Bool.eq_iff_iff,bne_iff_ne,Bool.not_eq_true',decide_eq_false_iff_not]
   constructor
   ·intro e h2;have:=h2.2;omega
   ·intro e e2;exact e ⟨h,by omega⟩
  ·rw[if_neg (by simpa using h),decide_eq_false fun e=>h e.1]
   rfl
 obtain⟨t2,c3,c4⟩:∃t:Int,Ev (fun k=>hH.f k P S P) t∧(t≥0↔ ∃i,i<P.length∧¬nw (S.length:Int) (P.getD i dB)):=by
  unfold hH.f;refine JY (L:=fun k i=>hH.l0 k P (P.length:Int) (i:Int) S P) ?_ ?_ ?_
  ·refine Ev.step (fun k=>by rw[hH.l0]) ?_
   exact Ev.neg (by omega) (Ev.now _)
  ·intro i hi hq t next
   refine Ev.step (fun k=>by rw[hH.l0]) ?_;rw[jV,dO (x:=(i:Int)+1) (by omega) (by omega)];refine Ev.pos (by omega) (Ev.pos (by omega) (Ev.pos (by omega) (Ev.cn _ (f2 _) (Ev.neg ?_ next))))
   simpa using hq
  ·intro i hi hq
   refine Ev.step (fun k=>by rw[hH.l0]) ?_;rw[jV];refine Ev.pos (by omega) (Ev.pos (by omega) (Ev.pos (by omega) (Ev.cn _ (f2 _) (Ev.pos ?_ (Ev.now _)))))
   simpa using hq
 have no:¬oc S P→Ev (fun k=>fV.j0 k true S P) (Ac S P):=by
  intro h;rw[xv h];refine Ev.step (fun k=>by rw[fV.j0]) ?_;exact Ev.pos rfl (Ev.now _)
 unfold fV.f;refine Ev.cn _ (xC _ _ _) ?_
 by_cases h1:(1:Int)≤(S.length:Int)∧(S.length:Int)≤32
 ·refine Ev.pos (by simpa using h1) ?_
  by_cases h2:(P.length:Int)>60
  ·rw[decide_eq_true h2]
   exact no (fun h=>by have:=h.2.2;omega)
  ·rw[decide_eq_false h2]
   refine Ev.step (fun k=>by rw[fV.j0]) ?_;refine Ev.neg (by decide) (Ev.bind' (decide (t1≥0)) ?_ ?_)
   ·unfold pw.f
    exact Ev.bind' t1 c1 (Ev.now _)
   ·by_cases h3:t1≥0
    ·refine Ev.pos (by simpa using h3) (Ev.now' ?_)
     rw[xv];intro h;obtain⟨i,hi,e⟩:=c2.1 h3;exact e (h.1.1 i hi)
    ·refine Ev.neg (by simpa using h3) (Ev.bind' (decide (t2≥0)) ?_ (Ev.now' ?_))
     ·unfold qi.f
      exact Ev.bind' t2 c3 (Ev.now _)
     ·by_cases h4:t2≥0
      ·rw[decide_eq_true h4,xv]
       ·rfl
       ·intro h
        obtain⟨i,hi,e⟩:=c4.1 h4;exact e (h.1.2 i hi)
      ·rw[decide_eq_false h4,pE.2]
       ·rfl
       ·refine⟨⟨fun i hi=> ?_,fun i hi=> ?_⟩,by omega,by omega⟩
        ·by_cases e:(S.getD i bA).size=8
         ·exact e
         ·exact absurd (c2.2 ⟨i,hi,e⟩) h3
        ·by_cases e:nw (S.length:Int) (P.getD i dB)
         ·exact e
         ·exact absurd (c4.2 ⟨i,hi,e⟩) h4
 ·refine Ev.neg (by simpa using h1) (no fun h=>h1 ?_)
  have:=h.2.1
  omega
end Go.Proofs.Ytfdpdocbpcnkaaa.Q
