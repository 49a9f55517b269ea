import Derived.Test.YtmbjmacpigojjaaStoreLog
import Derived.Test.YtmbjmacpigojjaaG2
import Derived.Test.YtmbjmacpigojjaaG6
open ByteArray renaming empty→JZ
open List renaming length_take→fu
namespace Go.Proofs.Ytmbjmacpigojjaa.Q
open Go.RowKit Go.Proofs.YtmbjmacpigojjaaW.PrintWords Go.Proofs.Ytmbjmacpigojjaa.G
set_option linter.unusedVariables false
set_option linter.unusedSimpArgs false
def fd(S:List ByteArray)(P:List Wr)(L:List ByteArray)(n:Int):Prop:=
 (qA S P∧L.length≤40∧0≤n∧n≤(L.length:Int))∧(∀i,i<L.length→rl (S.length:Int) (L.getD i JZ))∧∀i,i<P.length→P.getD i dl∈dw (L.take n.toNat)
noncomputable def wZ(S:List ByteArray)(P:List Wr)(L:List ByteArray)(n:Int):Bool:=by
 classical
 exact decide (fd S P L n)
theorem jl {S:List ByteArray}{P:List Wr}{L:List ByteArray}{n:Int}:wZ S P L n=true↔fd S P L n:=by
 classical
 unfold wZ;exact decide_eq_true_iff
theorem XJ {S:List ByteArray}{P:List Wr}{L:List ByteArray}{n:Int}(h:fd S P L n):wZ S P L n=true:=jl.2 h
theorem CI {S:List ByteArray}{P:List Wr}{L:List ByteArray}{n:Int}(h:¬fd S P L n):wZ S P L n=false:=by
 classical
 unfold wZ;exact decide_eq_false h
theorem wr_eq(w:Wr)(a:Int)(s:ByteArray):(w.f0==a&& (w.f1.toList==s.toList))=true↔w=⟨a,s⟩:=by
 rw[Bool.and_eq_true,beq_iff_eq,beq_iff_eq]
 constructor
 ·intro h
  rw[←h.1,←CP h.2]
 ·intro h
  rw[h];exact⟨rfl,rfl⟩
theorem Xa(w:Wr)(a:Int)(s:ByteArray):(a==w.f0&& (s.toList==w.f1.toList))=true↔w=⟨a,s⟩:=by
 rw[Bool.and_eq_true,beq_iff_eq,beq_iff_eq]
 constructor
 ·intro h
  rw[h.1,CP h.2]
 ·intro h
  rw[h];exact⟨rfl,rfl⟩
theorem yu {α:Type}{l:List α}{x z:α}:x∈l↔ ∃j,j<l.length∧l.getD j z=x:=by
 constructor
 ·intro h
  obtain⟨j,hj,e⟩:=List.mem_iff_getElem.1 h;exact⟨j,hj,by rw[xL l j z hj];exact e⟩
 ·rintro⟨j,hj,e⟩
  rw[←e];exact yt l j z hj
theorem TJ(Y P:List Wr)(hY:Y.length≤1000000000)(i:Nat)(w:Wr)(r:Bool)(next:w∈Y→Ev (fun k=>cg.l0 k Y P (P.length:Int) (wrap64 ((i:Int)+1))) r)(no:¬w∈Y→r=false):
 Ev (fun k=>cg.l1 k Y false P (P.length:Int) (i:Int) Y (Y.length:Int) 0 w.f0 w.f1) r:=by
 have loop:∀d j (b:Bool),Y.length-j=d→j≤Y.length→(b=true↔ ∃j',j'<j∧Y.getD j' dl=w)→Ev (fun k=>cg.l1 k Y b P (P.length:Int) (i:Int) Y (Y.length:Int) (j:Int) w.f0 w.f1) r:=by
  intro d
  induction d with
  |zero=>
   intro j b hd hj hb
   have:j=Y.length:=by omega
   subst this;refine Ev.step (fun k=>by rw[cg.l1]) ?_;refine Ev.neg (by omega) ?_
   by_cases e:b=true
   ·exact Ev.pos e (next (yu.2 (hb.1 e)))
   ·refine Ev.neg e (Ev.now' (no (fun h=>e (hb.2 (yu.1 h)))).symm)
  |succ d ih=>
   intro j b hd hj hb
   have e1:Y.length-(j+1)=d:=by clear hb;omega
   have e2:j+1≤Y.length:=by clear hb;omega
   refine Ev.step (fun k=>by rw[cg.l1]) ?_;rw[kG,eD (x:=(j:Int)+1) (by omega) (by omega)];refine Ev.pos (by omega) (Ev.pos (by omega) (Ev.pos (by omega) ?_))
   by_cases e:b=true
   ·refine Ev.pos e (ih (j+1) true e1 e2 ?_)
    refine⟨fun _=> ?_,fun _=>rfl⟩;obtain⟨j',h1,h2⟩:=hb.1 e;exact⟨j',by omega,h2⟩
   ·refine Ev.neg e (ih (j+1) _ e1 e2 ?_)
    rw[wr_eq]
    constructor
    ·intro h
     exact⟨j,by omega,h⟩
    ·rintro⟨j',h1,h2⟩
     by_cases e2:j'=j
     ·subst e2;exact h2
     ·exact absurd (hb.2 ⟨j',by omega,h2⟩) e
 exact loop _ 0 false rfl (by omega) ⟨fun h=>(by cases h),fun⟨j',h,_⟩=>(by omega)⟩
theorem IM(S:List ByteArray)(P:List Wr)(L:List ByteArray)(n:Int)(hS:S.length≤1048576)(hP:P.length≤1048576)(hL:L.length≤1048576)(hs:jY L):Ev (fun k=>cg.f k S P L n) (wZ S P L n):=by
 have hd:=IL S P (by omega) (by omega)
 have no:¬(qA S P∧L.length≤40∧0≤n∧n≤(L.length:Int))→Ev (fun k=>cg.j0 k true S P L n) (wZ S P L n):=fun h=>by
  rw[CI (fun e=>h e.1)];refine Ev.step (fun k=>by rw[cg.j0]) ?_;exact Ev.pos rfl (Ev.now _)
 unfold cg.f;refine Ev.bind' _ hd ?_
 by_cases h1:qA S P
 ·refine Ev.pos (sR.2 h1) ?_
  by_cases h2:(L.length:Int)>40
  ·exact Ev.pos h2 (no (fun h=>by omega))
  ·refine Ev.neg h2 (Ev.eB _ (In _ _ _) ?_)
   by_cases h3:0≤n∧n≤(L.length:Int)
   ·rw[Mx h3]
    refine Ev.step (fun k=>by rw[cg.j0]) ?_;refine Ev.neg (by simp) ?_;obtain⟨g1,g2⟩:=IN L hL hs (S.length:Int)
    by_cases h4:∀i,i<L.length→rl (S.length:Int) (L.getD i JZ)
    ·refine Ev.bind' _ (g1 h4) (Ev.pos rfl (Ev.pos h3.1 (Ev.pos h3.2 ?_)))
     have hlt:(L.take n.toNat).length≤40:=by rw[fu];omega
     obtain⟨g3,_⟩:=IN (L.take n.toNat) (by omega) (C1 hs _) (S.length:Int);have hw:=zO (L.take n.toNat);refine Ev.bind' _ (g3 ?_) ?_
     ·intro i hi
      rw[fu]at hi
      have e:(L.take n.toNat).getD i JZ=L.getD i JZ:=by simp[List.getD_eq_getElem?_getD,show i<n.toNat by omega]
      rw[e];exact h4 i (by omega)
     ·refine uG (L:=fun k i=>cg.l0 k (dw (L.take n.toNat)) P (P.length:Int) (i:Int)) (n:=P.length) (p:=fun i=>P.getD i dl∈dw (L.take n.toNat)) ?_ ?_ ?_
      ·intro h5
       refine Ev.step (fun k=>by rw[cg.l0]) ?_;exact Ev.neg (by omega) (Ev.now' (XJ ⟨⟨h1,by omega,h3⟩,h4,h5⟩).symm)
      ·intro i hi _ hp next
       refine Ev.step (fun k=>by rw[cg.l0]) ?_;rw[kG];refine Ev.pos (by omega) (Ev.pos (by omega) (Ev.pos (by omega) ?_));refine TJ _ P (by omega) i _ _ (fun _=> ?_) (fun h=>absurd hp h);rw[eD (x:=(i:Int)+1) (by omega) (by omega)];exact next
      ·intro i hi _ hp
       refine Ev.step (fun k=>by rw[cg.l0]) ?_;rw[kG];refine Ev.pos (by omega) (Ev.pos (by omega) (Ev.pos (by omega) ?_));exact TJ _ P (by omega) i _ _ (fun h=>absurd h hp) (fun _=>CI (fun e=>hp (e.2.2 i hi)))
    ·rw[CI (fun e=>h4 e.2.1)]
     exact Ev.bind' _ (g2 h4) (Ev.neg (by simp) (Ev.now _))
   ·rw[Mg h3]
    exact no (fun h=>h3 h.2.2)
 ·exact Ev.neg (fun e=>h1 (sR.1 e)) (no (fun h=>h1 h.1))
theorem SP(Y:List Wr)(hY:Y.length≤1000000000)(w:Wr):Ev (fun k=>rF.f k Y w.f0 w.f1) (decide (w∈Y)):=by
 obtain⟨t,c1,c2⟩:∃t:Int,Ev (fun k=>ic.f k Y w.f0 w.f1) t∧(t≥0↔ ∃i,i<Y.length∧Y.getD i dl=w):=by
  unfold ic.f;refine Jp (L:=fun k i=>ic.l0 k Y (Y.length:Int) (i:Int) w.f0 w.f1) ?_ ?_ ?_
  ·refine Ev.step (fun k=>by rw[ic.l0]) ?_
   exact Ev.neg (by omega) (Ev.now _)
  ·intro i hi hq t next
   refine Ev.step (fun k=>by rw[ic.l0]) ?_;rw[kG,eD (x:=(i:Int)+1) (by omega) (by omega)];refine Ev.pos (by omega) (Ev.pos (by omega) (Ev.pos (by omega) (Ev.neg (fun e=>hq ((Xa _ _ _).1 e)) next)))
  ·intro i hi hq
   refine Ev.step (fun k=>by rw[ic.l0]) ?_;rw[kG];refine Ev.pos (by omega) (Ev.pos (by omega) (Ev.pos (by omega) (Ev.pos ((Xa _ _ _).2 hq) (Ev.now _))))
 unfold rF.f;refine Ev.bind' t c1 (Ev.now' ?_);exact dec_congr (by rw[c2,yu (z:=dl)])
theorem Dv(S:List ByteArray)(P:List Wr)(L:List ByteArray)(n:Int)(hS:S.length≤1048576)(hP:P.length≤1048576)(hL:L.length≤1048576)(hs:jY L):Ev (fun k=>dv.f k S P L n) (wZ S P L n):=by
 have hd:=SU S P (by omega) (by omega)
 have no:¬(qA S P∧L.length≤40∧0≤n∧n≤(L.length:Int))→Ev (fun k=>dv.j0 k true S P L n) (wZ S P L n):=fun h=>by
  rw[CI (fun e=>h e.1)];refine Ev.step (fun k=>by rw[dv.j0]) ?_;exact Ev.pos rfl (Ev.now _)
 unfold dv.f;refine Ev.bind' _ hd ?_
 by_cases h1:qA S P
 ·refine Ev.pos (sR.2 h1) ?_
  by_cases h2:(L.length:Int)>40
  ·exact Ev.pos h2 (no (fun h=>by omega))
  ·refine Ev.neg h2 (Ev.eB _ (EP _ _ _) ?_)
   by_cases h3:0≤n∧n≤(L.length:Int)
   ·rw[Mx h3]
    refine Ev.step (fun k=>by rw[dv.j0]) ?_;refine Ev.neg (by simp) ?_;refine uG (L:=fun k i=>dv.l0 k L (L.length:Int) (i:Int) S P L n) (n:=L.length) (p:=fun i=>rl (S.length:Int) (L.getD i JZ)) ?_ ?_ ?_
    ·intro h4
     refine Ev.step (fun k=>by rw[dv.l0]) ?_;have hw:=zO (L.take n.toNat)
     have hlt:(L.take n.toNat).length≤40:=by rw[fu];omega
     refine Ev.neg (by omega) (Ev.pos h3.1 (Ev.pos h3.2 (Ev.bind' _ (IS (L.take n.toNat) (by omega) (C1 hs _)) ?_)))
     obtain⟨t,c1,c2⟩:∃t:Int,Ev (fun k=>iZ.f k P (dw (L.take n.toNat))) t∧(t≥0↔ ∃i,i<P.length∧¬P.getD i dl∈dw (L.take n.toNat)):=by
      unfold iZ.f;refine Jp (L:=fun k i=>iZ.l0 k P (P.length:Int) (i:Int) (dw (L.take n.toNat))) ?_ ?_ ?_
      ·refine Ev.step (fun k=>by rw[iZ.l0]) ?_
       exact Ev.neg (by omega) (Ev.now _)
      ·intro i hi hq t next
       refine Ev.step (fun k=>by rw[iZ.l0]) ?_;rw[kG,eD (x:=(i:Int)+1) (by omega) (by omega)];refine Ev.pos (by omega) (Ev.pos (by omega) (Ev.pos (by omega) (Ev.bind' (!decide (P.getD i dl∈dw (L.take n.toNat))) ?_ (Ev.neg ?_ next))))
       ·unfold qG.f
        exact Ev.bind' _ (SP _ (by omega) _) (Ev.now _)
       ·simpa using hq
      ·intro i hi hq
       refine Ev.step (fun k=>by rw[iZ.l0]) ?_;rw[kG];refine Ev.pos (by omega) (Ev.pos (by omega) (Ev.pos (by omega) (Ev.bind' (!decide (P.getD i dl∈dw (L.take n.toNat))) ?_ (Ev.pos ?_ (Ev.now _)))))
       ·unfold qG.f
        exact Ev.bind' _ (SP _ (by omega) _) (Ev.now _)
       ·simpa using hq
     refine Ev.bind' (decide (t≥0)) ?_ (Ev.now' ?_)
     ·unfold rE.f
      exact Ev.bind' t c1 (Ev.now _)
     ·by_cases h5:t≥0
      ·rw[Mx h5,CI]
       ·rfl
       ·intro e
        obtain⟨i,hi,h6⟩:=c2.1 h5;exact h6 (e.2.2 i hi)
      ·rw[Mg h5,XJ]
       ·rfl
       ·refine⟨⟨h1,by omega,h3⟩,h4,fun i hi=> ?_⟩
        by_cases h6:P.getD i dl∈dw (L.take n.toNat)
        ·exact h6
        ·exact absurd (c2.2 ⟨i,hi,h6⟩) h5
    ·intro i hi _ hp next
     have h2:=C2 (L.getD i JZ);refine Ev.step (fun k=>by rw[dv.l0]) ?_;rw[m9,eD (x:=(i:Int)+1) (by omega) (by omega)];exact Ev.pos (by omega) (Ev.pos (by omega) (Ev.pos (by omega) (Ev.bind' _ (IR _ (hs i hi)) (Ev.pos hp.1 (Ev.bind' _ (yr _ (by omega) _) (Ev.pos (ki.2 hp.2) next))))))
    ·intro i hi _ hp
     have h2:=C2 (L.getD i JZ);refine Ev.step (fun k=>by rw[dv.l0]) ?_;rw[m9,CI (fun e=>hp (e.2.1 i hi))];refine Ev.pos (by omega) (Ev.pos (by omega) (Ev.pos (by omega) (Ev.bind' _ (IR _ (hs i hi)) ?_)))
     by_cases h5:(mA (L.getD i JZ)).2=true
     ·exact Ev.pos h5 (Ev.bind' _ (yr _ (by omega) _) (Ev.neg (fun e=>hp ⟨h5,ki.1 e⟩) (Ev.now _)))
     ·exact Ev.neg h5 (Ev.now _)
   ·rw[Mg h3]
    exact no (fun h=>h3 h.2.2)
 ·exact Ev.neg (fun e=>h1 (sR.1 e)) (no (fun h=>h1 h.1))
end Go.Proofs.Ytmbjmacpigojjaa.Q
