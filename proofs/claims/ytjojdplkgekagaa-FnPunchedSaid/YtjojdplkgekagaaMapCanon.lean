import Derived.Test.YtjojdplkgekagaaMapTheory
import Derived.Test.YtjojdplkgekagaaG6
open List renaming length_take→ao,getD_eq_getElem?_getD→vn,take_length→aaQ
namespace Go.Proofs.Ytjojdplkgekagaa.Q
open Go.RowKit Go.Proofs.YtjojdplkgekagaaW.PrintWords Go.Proofs.Ytjojdplkgekagaa.G
set_option linter.unusedVariables false
set_option linter.unusedSimpArgs false
theorem M8(cells:List mI)(l:List Pc)(hc:ja l)(hN:cells.length≤200)(hend:∀i,i<l.length→(l.getD i pz).f0+(l.getD i pz).f1≤(cells.length:Int))(hcell:∀n,n<cells.length→cells.getD n dO=bD l n):
 Ev (fun k=>dP.f k cells) (if dh l then(l,true)else([],false)):=by
 have hlen:=oz hc.1
 have rdc:∀n:Nat,n<cells.length→am cells (n:Int)=bD l n:=fun n hn=>by rw[←hcell n hn];simp[am]
 have fin:∀n:Nat,n=cells.length→Ev (fun k=>dP.l0 k cells (cells.length:Int) (n:Int) l) (if dh l then(l,true)else([],false)):=by
  rintro n rfl;refine Ev.step (fun k=>by rw[dP.l0]) ?_;refine Ev.neg (by omega) (Ev.bind' _ (yE l (by omega)) ?_)
  by_cases hg:dh l
  ·exact Ev.pos (by simpa using hg) (Ev.now' (by rw[if_pos hg]))
  ·exact Ev.neg (by simpa using hg) (Ev.now' (by rw[if_neg hg]))
 have key:∀d n,cells.length-n=d→n≤cells.length→
  (∀i,i≤l.length→(∀j,j<i→(l.getD j pz).f0+(l.getD j pz).f1≤(n:Int))→(i<l.length→(n:Int)≤(l.getD i pz).f0)→Ev (fun k=>dP.l0 k cells (cells.length:Int) (n:Int) (l.take i)) (if dh l then(l,true)else([],false)))∧
  (∀i x:Nat,i<l.length→1≤x→(x:Int)≤(l.getD i pz).f1→(n:Int)=(l.getD i pz).f0+(x:Int)→Ev (fun k=>dP.l0 k cells (cells.length:Int) (n:Int) (l.take i++[⟨(l.getD i pz).f0,(x:Int),(l.getD i pz).f2,(l.getD i pz).f3⟩])) (if dh l then(l,true)else([],false))):=by
  intro d
  induction d with
  |zero=>
   intro n hd hn
   have hn':n=cells.length:=by omega
   refine⟨fun i hi ha hb=> ?_,fun i x hi h1 h2 h3=> ?_⟩
   ·have:i=l.length:=by
     by_cases e:i<l.length
     ·have h1:=hb e
      have h2:=hend i e;have h3:=hc.1.1 i e;unfold eM at h3
      omega
     ·omega
    subst this;rw[aaQ];exact fin n hn'
   ·have h4:=hend i hi
    have h5:(x:Int)=(l.getD i pz).f1:=by omega
    have h6:i+1=l.length:=by
     by_cases e:i+1<l.length
     ·have h7:=hend (i+1) e
      have h8:=mT hc.1 i (i+1) (by omega) e;have h9:=hc.1.1 (i+1) e;unfold eM at h9
      omega
     ·omega
    have h7:l.take i++[⟨(l.getD i pz).f0,(x:Int),(l.getD i pz).f2,(l.getD i pz).f3⟩]=l:=by
     rw[h5];have:=lu l i pz hi;rw[h6,aaQ]at this;exact this.symm
    rw[h7];exact fin n hn'
  |succ d ih=>
   intro n hd hn;obtain⟨ihA,ihB⟩:=ih (n+1) (by omega) (by omega)
   have hlt:n<cells.length:=by omega
   have modeA:∀i,i≤l.length→(∀j,j<i→(l.getD j pz).f0+(l.getD j pz).f1≤(n:Int))→(i<l.length→(n:Int)≤(l.getD i pz).f0)→Ev (fun k=>dP.l0 k cells (cells.length:Int) (n:Int) (l.take i)) (if dh l then(l,true)else([],false)):=by
    intro i hi ha hb
    have hti:(l.take i).length=i:=by rw[ao];omega
    refine Ev.step (fun k=>by rw[dP.l0]) ?_;rw[rdc n hlt,bg (x:=(n:Int)+1) (by omega) (by omega)];refine Ev.pos (by omega) (Ev.pos (by omega) (Ev.pos (by omega) ?_))
    by_cases hs:i<l.length∧(l.getD i pz).f0=(n:Int)
    ·obtain⟨hil,h0⟩:=hs
     have hr:=hc.1.1 i hil;have hce:=yQ hc.1 i hil n (by unfold ce;unfold eM at hr;omega)
     have h0':(n:Int)-(l.getD i pz).f0=0:=by omega
     rw[h0',Int.add_zero]at hce;rw[hce];refine Ev.pos rfl ?_;have next:=ihB i 1 hil (by omega) (by unfold eM at hr;omega) (by omega)
     have e1:(⟨(n:Int),1,(l.getD i pz).f2,(l.getD i pz).f3⟩:Pc)=⟨(l.getD i pz).f0,((1:Nat):Int),(l.getD i pz).f2,(l.getD i pz).f3⟩:=by rw[h0];rfl
     have next':Ev (fun k=>dP.l0 k cells (cells.length:Int) ((n:Int)+1) (l.take i++[⟨(n:Int),1,(l.getD i pz).f2,(l.getD i pz).f3⟩])) (if dh l then(l,true)else([],false)):=by rw[e1];exact next
     by_cases hz:0<i
     ·have hp:=hc.1.1 (i-1) (by omega)
      have hg:=hc.2 (i-1) (by omega);rw[show i-1+1=i by omega]at hg
      have hrd:I (l.take i) (((l.take i).length-1:Nat):Int)=l.getD (i-1) pz:=by
       rw[kj,hti]
       simp[vn,show i-1<i by omega]
      rw[Aj _ (by omega) (by omega),hrd];refine Ev.pos (by omega) (Ev.pos (by omega) (Ev.pos (by omega) (Ev.cW _ (XB _ _ _ _ _ hp) ?_)));refine Ev.neg ?_ (Ev.pos (by omega) next');simp only[decide_eq_true_eq];intro hgo;refine hg ?_;unfold lE at hgo⊢;dsimp only at hgo⊢;exact⟨by omega,hgo.2.1,hgo.2.2⟩
     ·refine Ev.neg (by rw[hti,show i=0 by omega,bg (by omega) (by omega)];omega) (Ev.pos (by omega) next')
    ·have hce:bD l n=dO:=by
      refine XO n (fun j hj hh=> ?_);unfold ce at hh
      by_cases e:j<i
      ·have:=ha j e;omega
      ·by_cases e2:j=i
       ·subst e2
        have:=hb hj;exact hs ⟨hj,by omega⟩
       ·have h1:=mT hc.1 i j (by omega) hj
        have h2:=hb (by omega);have h3:=hc.1.1 i (by omega);unfold eM at h3
        omega
     rw[hce];refine Ev.neg (by simp[dO]) ?_;refine ihA i hi (fun j hj=>by have:=ha j hj;omega) (fun hil=> ?_);have h1:=hb hil
     have:(l.getD i pz).f0≠(n:Int):=fun e=>hs ⟨hil,e⟩
     omega
   refine⟨modeA,fun i x hi h1 h2 h3=> ?_⟩
   by_cases hx:(x:Int)=(l.getD i pz).f1
   ·have h4:l.take i++[⟨(l.getD i pz).f0,(x:Int),(l.getD i pz).f2,(l.getD i pz).f3⟩]=l.take (i+1):=by rw[hx,lu l i pz hi]
    rw[h4];refine modeA (i+1) (by omega) (fun j hj=> ?_) (fun hil=> ?_)
    ·by_cases e:j=i
     ·subst e;omega
     ·have:=mT hc.1 j i (by omega) hi
      omega
    ·have:=mT hc.1 i (i+1) (by omega) hil
     omega
   ·have hr:=hc.1.1 i hi
    unfold eM at hr;have hce:=yQ hc.1 i hi n (by unfold ce;omega)
    have hti:(l.take i).length=i:=by rw[ao];omega
    refine Ev.step (fun k=>by rw[dP.l0]) ?_;rw[rdc n hlt,hce,bg (x:=(n:Int)+1) (by omega) (by omega)];refine Ev.pos (by omega) (Ev.pos (by omega) (Ev.pos (by omega) (Ev.pos rfl ?_)))
    have hml:(l.take i++[(⟨(l.getD i pz).f0,(x:Int),(l.getD i pz).f2,(l.getD i pz).f3⟩:Pc)]).length=i+1:=by simp[hti]
    have hrd:I (l.take i++[(⟨(l.getD i pz).f0,(x:Int),(l.getD i pz).f2,(l.getD i pz).f3⟩:Pc)]) (((i+1)-1:Nat):Int)=⟨(l.getD i pz).f0,(x:Int),(l.getD i pz).f2,(l.getD i pz).f3⟩:=by
     rw[kj,show i+1-1=i by omega]
     simp[vn,List.getElem?_append_right,hti]
    rw[Aj _ (by omega) (by omega),hml,hrd];refine Ev.pos (by omega) (Ev.pos (by omega) (Ev.pos (by omega) (Ev.cW _ (XB ⟨(l.getD i pz).f0,(x:Int),(l.getD i pz).f2,(l.getD i pz).f3⟩ _ _ _ _ (by unfold eM;simp only;omega)) ?_)));refine Ev.pos ?_ ?_
    ·simp only[decide_eq_true_eq]
     unfold lE;simp only;exact⟨by omega,by omega,trivial⟩
    ·have next:=ihB i (x+1) hi (by omega) (by omega) (by omega)
     rw[bg (x:=(x:Int)+1) (by omega) (by omega),Int.toNat_natCast,show i+1-1=i by omega]
     have e2:(l.take i++[(⟨(l.getD i pz).f0,(x:Int),(l.getD i pz).f2,(l.getD i pz).f3⟩:Pc)]).set i ⟨(l.getD i pz).f0,(x:Int)+1,(l.getD i pz).f2,(l.getD i pz).f3⟩=l.take i++[⟨(l.getD i pz).f0,((x+1:Nat):Int),(l.getD i pz).f2,(l.getD i pz).f3⟩]:=by
      rw[List.set_append_right _ _ (by omega),hti]
      simp
     rw[e2];exact next
 unfold dP.f
 have:=(key cells.length 0 (by omega) (by omega)).1 0 (by omega) (by intro j hj;omega) (fun hi=>by
  have:=hc.1.1 0 hi;unfold eM at this
  omega)
 simpa using this
end Go.Proofs.Ytjojdplkgekagaa.Q
