import Derived.Test.YtjojdplkgekagaaMapTheory
open List renaming length_take→ao,length_append→lK,length_singleton→aaf,take_length→aaQ
namespace Go.Proofs.Ytjojdplkgekagaa.Q
open Go.RowKit Go.Proofs.YtjojdplkgekagaaW.PrintWords Go.Proofs.Ytjojdplkgekagaa.G
set_option linter.unusedVariables false
set_option linter.unusedSimpArgs false
theorem XT(L:Nat→List Ex→Nat→Option (List Ex))(N:Nat)(hN:N≤1000)(E:List Ex)(hE:jO (N:Int) E)
 (hend:∀out,Ev (fun k=>L k out N) out)
 (hskip:∀out n,n<N→¬gm E n→Ev (fun k=>L k out (n+1)) E→Ev (fun k=>L k out n) E)
 (hjoin:∀out n,n<N→gm E n→0<out.length→out.length≤1000→(out.getD (out.length-1) ez).f0+(out.getD (out.length-1) ez).f1=(n:Int)→0≤(out.getD (out.length-1) ez).f0→0≤(out.getD (out.length-1) ez).f1→Ev (fun k=>L k (out.set (out.length-1) ⟨(out.getD (out.length-1) ez).f0,(out.getD (out.length-1) ez).f1+1⟩) (n+1)) E→Ev (fun k=>L k out n) E)
 (hpush:∀out n,n<N→gm E n→out.length≤1000→(0<out.length→(out.getD (out.length-1) ez).f0+(out.getD (out.length-1) ez).f1≠(n:Int)∧0≤(out.getD (out.length-1) ez).f0∧0≤(out.getD (out.length-1) ez).f1∧(out.getD (out.length-1) ez).f0+(out.getD (out.length-1) ez).f1≤1000)→Ev (fun k=>L k (out++[⟨(n:Int),1⟩]) (n+1)) E→Ev (fun k=>L k out n) E):
 Ev (fun k=>L k [] 0) E:=by
 have hlen:E.length≤1000:=by rcases E2 hE.1 with h|h<;>omega
 have key:∀d n,N-n=d→n≤N→
  (∀i,i≤E.length→(∀j,j<i→(E.getD j ez).f0+(E.getD j ez).f1≤(n:Int))→(i<E.length→(n:Int)≤(E.getD i ez).f0)→Ev (fun k=>L k (E.take i) n) E)∧
  (∀i x,i<E.length→1≤x→(x:Int)≤(E.getD i ez).f1→(n:Int)=(E.getD i ez).f0+(x:Int)→Ev (fun k=>L k (E.take i++[⟨(E.getD i ez).f0,(x:Int)⟩]) n) E):=by
  intro d
  induction d with
  |zero=>
   intro n hd hn
   have hnN:n=N:=by omega
   subst hnN;refine⟨fun i hi ha hb=> ?_,fun i x hi h1 h2 h3=> ?_⟩
   ·have:i=E.length:=by
     by_cases e:i<E.length
     ·have h1:=hb e
      have h2:=hE.1.1 i e;unfold iS at h2
      omega
     ·omega
    subst this;rw[aaQ];exact hend E
   ·have h4:=hE.1.1 i hi
    unfold iS at h4
    have h5:(x:Int)=(E.getD i ez).f1:=by omega
    have h6:i+1=E.length:=by
     by_cases e:i+1<E.length
     ·have h7:=M1 hE i (i+1) (by omega) e
      have h8:=hE.1.1 (i+1) e;unfold iS at h8
      omega
     ·omega
    have h9:E.take i++[⟨(E.getD i ez).f0,(x:Int)⟩]=E:=by
     rw[h5];have:=lu E i ez hi;rw[h6,aaQ]at this;exact this.symm
    rw[h9];exact hend E
  |succ d ih=>
   intro n hd hn;obtain⟨ihA,ihB⟩:=ih (n+1) (by omega) (by omega)
   have hlt:n<N:=by omega
   have modeA:∀i,i≤E.length→(∀j,j<i→(E.getD j ez).f0+(E.getD j ez).f1≤(n:Int))→(i<E.length→(n:Int)≤(E.getD i ez).f0)→Ev (fun k=>L k (E.take i) n) E:=by
    intro i hi ha hb
    have hti:(E.take i).length=i:=by rw[ao];omega
    by_cases hs:i<E.length∧(E.getD i ez).f0=(n:Int)
    ·obtain⟨hil,h0⟩:=hs
     have hr:=hE.1.1 i hil;unfold iS at hr;refine hpush _ n hlt ⟨_,jB E i ez hil,by unfold lS;omega⟩ (by omega) (fun h=> ?_) ?_
     ·rw[hti,yV _ _ _ _ (by omega)]
      have h1:=M1 hE (i-1) i (by omega) hil;have h2:=hE.1.1 (i-1) (by omega);unfold iS at h2
      omega
     ·have next:=ihB i 1 hil (by omega) (by omega) (by omega)
      have e1:(⟨(E.getD i ez).f0,1⟩:Ex)=⟨(n:Int),1⟩:=by rw[h0]
      rw[e1]at next;exact next
    ·refine hskip _ n hlt ?_ (ihA i hi (fun j hj=>by have:=ha j hj;omega) (fun hil=> ?_))
     ·rintro⟨e,he,hn⟩
      obtain⟨j,hj,rfl⟩:=pD ez he;unfold lS at hn
      by_cases e:j<i
      ·have:=ha j e;omega
      ·by_cases e2:j=i
       ·subst e2
        have:=hb hj;exact hs ⟨hj,by omega⟩
       ·have h1:=Hb hE.1 i j (by omega) hj
        have h2:=hb (by omega);have h3:=hE.1.1 i (by omega);unfold iS at h3
        omega
     ·have h1:=hb hil
      have:(E.getD i ez).f0≠(n:Int):=fun e=>hs ⟨hil,e⟩
      omega
   refine⟨modeA,fun i x hi h1 h2 h3=> ?_⟩
   by_cases hx:(x:Int)=(E.getD i ez).f1
   ·have h4:E.take i++[⟨(E.getD i ez).f0,(x:Int)⟩]=E.take (i+1):=by rw[hx,lu E i ez hi]
    rw[h4];refine modeA (i+1) (by omega) (fun j hj=> ?_) (fun hil=> ?_)
    ·by_cases e:j=i
     ·subst e;omega
     ·have h5:=Hb hE.1 j i (by omega) hi
      have h6:=hE.1.1 i hi;unfold iS at h6
      omega
    ·have:=M1 hE i (i+1) (by omega) hil
     omega
   ·have hr:=hE.1.1 i hi
    unfold iS at hr
    have hti:(E.take i).length=i:=by rw[ao];omega
    have hl:(E.take i++[(⟨(E.getD i ez).f0,(x:Int)⟩:Ex)]).length-1=i:=by rw[List.length_append,hti,List.length_singleton];omega
    have hg:(E.take i++[(⟨(E.getD i ez).f0,(x:Int)⟩:Ex)]).getD i ez=⟨(E.getD i ez).f0,(x:Int)⟩:=by
     rw[lL _ _ _ _ (by omega),hti,Nat.sub_self]
     rfl
    refine hjoin _ n hlt ⟨_,jB E i ez hi,by unfold lS;omega⟩ (by simp) (by rw[lK,hti,aaf];omega) ?_ ?_ ?_ ?_
    ·rw[hl,hg];exact h3.symm
    ·rw[hl,hg];exact hr.1
    ·rw[hl,hg];show(0:Int)≤(x:Int);omega
    ·rw[hl,hg,List.set_append_right _ _ (by omega),hti,Nat.sub_self]
     have next:=ihB i (x+1) hi (by omega) (by omega) (by omega);exact next
 have:=(key N 0 rfl (by omega)).1 0 (by omega) (fun j h=>by omega) (fun h=>by
  have:=hE.1.1 0 h;unfold iS at this
  omega)
 rw[List.take_zero]at this;exact this
theorem LZ(out:List Ex)(h:0<out.length)(hb:out.length≤1000):wrap64 ((out.length:Int)-1)=((out.length-1:Nat):Int):=Aj out h (by omega)
end Go.Proofs.Ytjojdplkgekagaa.Q
