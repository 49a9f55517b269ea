/- Extents in order, none touching the next; places told one by one and joined. No program, no statement. -/
import Derived.Test.YtahnkgehlfdlkaaIntFree
open List renaming length_take→aN,length_append→oB,getD_eq_getElem?_getD→aag,length_singleton→aan,take_length→abs
namespace Go.Proofs.Ytahnkgehlfdlkaa.Q
open Go.RowKit Go.Proofs.YtahnkgehlfdlkaaW.PrintWords Go.Proofs.Ytahnkgehlfdlkaa.G
set_option linter.unusedVariables false
set_option linter.unusedSimpArgs false
theorem Tn {α:Type}{l:List α}{x:α}(z:α)(h:x∈l):∃i,i<l.length∧l.getD i z=x:=by
 obtain⟨i,hi,rfl⟩:=List.mem_iff_getElem.1 h;exact⟨i,hi,vK _ _ _ hi⟩
theorem Nm {α:Type}(l m:List α)(i:Nat)(z:α)(h:l.length≤i):(l++m).getD i z=m.getD (i-l.length) z:=by
 rw[aag,aag,List.getElem?_append_right h]
abbrev Ex:=X_
abbrev ez:Ex:=ey
def fW(e:Ex)(n:Nat):Prop:=e.f0≤(n:Int)∧(n:Int)<e.f0+e.f1
def fh(l:List Ex)(n:Nat):Prop:=∃e∈l,fW e n
def k7(N:Int)(e:Ex):Prop:=0≤e.f0∧1≤e.f1∧e.f0+e.f1≤N
def sR(N:Int)(l:List Ex):Prop:=(∀i,i<l.length→k7 N (l.getD i ez))∧∀i,i+1<l.length→(l.getD i ez).f0+(l.getD i ez).f1≤(l.getD (i+1) ez).f0
def uC(N:Int)(l:List Ex):Prop:=sR N l∧∀i,i+1<l.length→(l.getD i ez).f0+(l.getD i ez).f1≠(l.getD (i+1) ez).f0
theorem QD {N:Int}{l:List Ex}(h:sR N l)(i j:Nat)(hij:i<j)(hj:j<l.length):(l.getD i ez).f0+(l.getD i ez).f1≤(l.getD j ez).f0:=by
 obtain⟨d,rfl⟩:∃d,j=i+1+d:=⟨j-i-1,by omega⟩;clear hij
 induction d with
 |zero=>exact h.2 i hj
 |succ d ih=>
  have h1:=ih (by omega);have h2:=h.2 (i+1+d) hj;have h3:=h.1 (i+1+d) (by omega);unfold k7 at h3;rw[show i+1+(d+1)=i+1+d+1 by omega]
  omega
theorem Td {N:Int}{l:List Ex}(h:uC N l)(i j:Nat)(hij:i<j)(hj:j<l.length):(l.getD i ez).f0+(l.getD i ez).f1<(l.getD j ez).f0:=by
 have h1:=h.1.2 i (by omega);have h2:=h.2 i (by omega)
 by_cases e:j=i+1
 ·subst e;omega
 ·have h3:=QD h.1 (i+1) j (by omega) hj
  have h4:=h.1.1 (i+1) (by omega);unfold k7 at h4
  omega
theorem eord_length {N:Int}{l:List Ex}(h:sR N l):(l.length:Int)≤N∨l.length=0:=by
 have key:∀i,i<l.length→(i:Int)≤(l.getD i ez).f0:=by
  intro i
  induction i with
  |zero=>intro hi;have:=h.1 0 hi;unfold k7 at this;omega
  |succ i ih=>
   intro hi;have h1:=ih (by omega);have h2:=h.2 i hi;have h3:=h.1 i (by omega);unfold k7 at h3
   omega
 by_cases h0:l.length=0
 ·exact .inr h0
 ·have h1:=key (l.length-1) (by omega)
  have h2:=h.1 (l.length-1) (by omega);unfold k7 at h2
  omega
theorem eord_snoc {N:Int}{l:List Ex}{p:Ex}(h:sR N l)(hp:k7 N p)(hl:0<l.length→(l.getD (l.length-1) ez).f0+(l.getD (l.length-1) ez).f1≤p.f0):sR N (l++[p]):=by
 refine⟨fun i hi=> ?_,fun i hi=> ?_⟩
 ·rw[oB,aan]at hi
  by_cases e:i<l.length
  ·rw[Cf _ _ _ _ e];exact h.1 i e
  ·rw[Nm _ _ _ _ (by omega),show i-l.length=0 by omega];exact hp
 ·rw[oB,aan]at hi
  rw[Cf _ _ _ _ (by omega)]
  by_cases e:i+1<l.length
  ·rw[Cf _ _ _ _ e];exact h.2 i e
  ·rw[Nm _ _ _ _ (by omega),show i+1-l.length=0 by omega]
   have:=hl (by omega);rw[show l.length-1=i by omega]at this;exact this
theorem ecanon_snoc {N:Int}{l:List Ex}{p:Ex}(h:uC N l)(hp:k7 N p)(hl:0<l.length→(l.getD (l.length-1) ez).f0+(l.getD (l.length-1) ez).f1<p.f0):uC N (l++[p]):=by
 refine⟨eord_snoc h.1 hp fun h0=>by have:=hl h0;omega,fun i hi=> ?_⟩;rw[oB,aan]at hi;rw[Cf _ _ _ _ (by omega)]
 by_cases e:i+1<l.length
 ·rw[Cf _ _ _ _ e];exact h.2 i e
 ·rw[Nm _ _ _ _ (by omega),show i+1-l.length=0 by omega]
  have:=hl (by omega);rw[show l.length-1=i by omega]at this
  show _≠p.f0
  omega
theorem F9 {α:Type}(l:List α)(i j:Nat)(z:α)(h:j<i):(l.take i).getD j z=l.getD j z:=by
 simp[aag,h]
theorem eord_take {N:Int}{l:List Ex}(h:sR N l)(i:Nat):sR N (l.take i):=by
 refine⟨fun j hj=> ?_,fun j hj=> ?_⟩
 ·rw[aN]at hj
  rw[F9 _ _ _ _ (by omega)];exact h.1 j (by omega)
 ·rw[aN]at hj
  rw[F9 _ _ _ _ (by omega),F9 _ _ _ _ (by omega)];exact h.2 j (by omega)
theorem ecanon_take {N:Int}{l:List Ex}(h:uC N l)(i:Nat):uC N (l.take i):=by
 refine⟨eord_take h.1 i,fun j hj=> ?_⟩;rw[aN]at hj;rw[F9 _ _ _ _ (by omega),F9 _ _ _ _ (by omega)];exact h.2 j (by omega)
theorem ecanon_nil(N:Int):uC N []:=⟨⟨by intro i hi;simp at hi,by intro i hi;simp at hi⟩,by intro i hi;simp at hi⟩
theorem inE_snoc(l:List Ex)(p:Ex)(n:Nat):fh (l++[p]) n↔fh l n∨fW p n:=by
 unfold fh
 constructor
 ·rintro⟨e,he,hn⟩
  rcases List.mem_append.1 he with he|he
  ·exact .inl ⟨e,he,hn⟩
  ·rw[List.mem_singleton.1 he]at hn;exact .inr hn
 ·rintro(⟨e,he,hn⟩|hn)
  ·exact⟨e,List.mem_append_left _ he,hn⟩
  ·exact⟨p,by simp,hn⟩
theorem ein_mem {N:Int}{l:List Ex}(h:sR N l){e:Ex}(he:e∈l):k7 N e:=by
 obtain⟨i,hi,rfl⟩:=Tn ez he;exact h.1 i hi
theorem merged_abs(L:Nat→List Ex→Nat→Option (List Ex))(N:Nat)(hN:N≤1000)(E:List Ex)(hE:uC (N:Int) E)
 (hend:∀out,Ev (fun k=>L k out N) out)
 (hskip:∀out n,n<N→¬fh E n→Ev (fun k=>L k out (n+1)) E→Ev (fun k=>L k out n) E)
 (hjoin:∀out n,n<N→fh E n→0<out.length→out.length≤1000→(out.getD (out.length-1) ez).f0+(out.getD (out.length-1) ez).f1=(n:Int)→0≤(out.getD (out.length-1) ez).f0→0≤(out.getD (out.length-1) ez).f1→Ev (fun k=>L k (out.set (out.length-1) ⟨(out.getD (out.length-1) ez).f0,(out.getD (out.length-1) ez).f1+1⟩) (n+1)) E→Ev (fun k=>L k out n) E)
 (hpush:∀out n,n<N→fh E n→out.length≤1000→(0<out.length→(out.getD (out.length-1) ez).f0+(out.getD (out.length-1) ez).f1≠(n:Int)∧0≤(out.getD (out.length-1) ez).f0∧0≤(out.getD (out.length-1) ez).f1∧(out.getD (out.length-1) ez).f0+(out.getD (out.length-1) ez).f1≤1000)→Ev (fun k=>L k (out++[⟨(n:Int),1⟩]) (n+1)) E→Ev (fun k=>L k out n) E):
 Ev (fun k=>L k [] 0) E:=by
 have hlen:E.length≤1000:=by rcases eord_length hE.1 with h|h<;>omega
 have key:∀d n,N-n=d→n≤N→
  (∀i,i≤E.length→(∀j,j<i→(E.getD j ez).f0+(E.getD j ez).f1≤(n:Int))→(i<E.length→(n:Int)≤(E.getD i ez).f0)→Ev (fun k=>L k (E.take i) n) E)∧
  (∀i x,i<E.length→1≤x→(x:Int)≤(E.getD i ez).f1→(n:Int)=(E.getD i ez).f0+(x:Int)→Ev (fun k=>L k (E.take i++[⟨(E.getD i ez).f0,(x:Int)⟩]) n) E):=by
  intro d
  induction d with
  |zero=>
   intro n hd hn
   have hnN:n=N:=by omega
   subst hnN;refine⟨fun i hi ha hb=> ?_,fun i x hi h1 h2 h3=> ?_⟩
   ·have:i=E.length:=by
     by_cases e:i<E.length
     ·have h1:=hb e
      have h2:=hE.1.1 i e;unfold k7 at h2
      omega
     ·omega
    subst this;rw[abs];exact hend E
   ·have h4:=hE.1.1 i hi
    unfold k7 at h4
    have h5:(x:Int)=(E.getD i ez).f1:=by omega
    have h6:i+1=E.length:=by
     by_cases e:i+1<E.length
     ·have h7:=Td hE i (i+1) (by omega) e
      have h8:=hE.1.1 (i+1) e;unfold k7 at h8
      omega
     ·omega
    have h9:E.take i++[⟨(E.getD i ez).f0,(x:Int)⟩]=E:=by
     rw[h5];have:=Ho E i ez hi;rw[h6,abs]at this;exact this.symm
    rw[h9];exact hend E
  |succ d ih=>
   intro n hd hn;obtain⟨ihA,ihB⟩:=ih (n+1) (by omega) (by omega)
   have hlt:n<N:=by omega
   have modeA:∀i,i≤E.length→(∀j,j<i→(E.getD j ez).f0+(E.getD j ez).f1≤(n:Int))→(i<E.length→(n:Int)≤(E.getD i ez).f0)→Ev (fun k=>L k (E.take i) n) E:=by
    intro i hi ha hb
    have hti:(E.take i).length=i:=by rw[aN];omega
    by_cases hs:i<E.length∧(E.getD i ez).f0=(n:Int)
    ·obtain⟨hil,h0⟩:=hs
     have hr:=hE.1.1 i hil;unfold k7 at hr;refine hpush _ n hlt ⟨_,Cv E i ez hil,by unfold fW;omega⟩ (by omega) (fun h=> ?_) ?_
     ·rw[hti,F9 _ _ _ _ (by omega)]
      have h1:=Td hE (i-1) i (by omega) hil;have h2:=hE.1.1 (i-1) (by omega);unfold k7 at h2
      omega
     ·have next:=ihB i 1 hil (by omega) (by omega) (by omega)
      have e1:(⟨(E.getD i ez).f0,1⟩:Ex)=⟨(n:Int),1⟩:=by rw[h0]
      rw[e1]at next;exact next
    ·refine hskip _ n hlt ?_ (ihA i hi (fun j hj=>by have:=ha j hj;omega) (fun hil=> ?_))
     ·rintro⟨e,he,hn⟩
      obtain⟨j,hj,rfl⟩:=Tn ez he;unfold fW at hn
      by_cases e:j<i
      ·have:=ha j e;omega
      ·by_cases e2:j=i
       ·subst e2
        have:=hb hj;exact hs ⟨hj,by omega⟩
       ·have h1:=QD hE.1 i j (by omega) hj
        have h2:=hb (by omega);have h3:=hE.1.1 i (by omega);unfold k7 at h3
        omega
     ·have h1:=hb hil
      have:(E.getD i ez).f0≠(n:Int):=fun e=>hs ⟨hil,e⟩
      omega
   refine⟨modeA,fun i x hi h1 h2 h3=> ?_⟩
   by_cases hx:(x:Int)=(E.getD i ez).f1
   ·have h4:E.take i++[⟨(E.getD i ez).f0,(x:Int)⟩]=E.take (i+1):=by rw[hx,Ho E i ez hi]
    rw[h4];refine modeA (i+1) (by omega) (fun j hj=> ?_) (fun hil=> ?_)
    ·by_cases e:j=i
     ·subst e;omega
     ·have h5:=QD hE.1 j i (by omega) hi
      have h6:=hE.1.1 i hi;unfold k7 at h6
      omega
    ·have:=Td hE i (i+1) (by omega) hil
     omega
   ·have hr:=hE.1.1 i hi
    unfold k7 at hr
    have hti:(E.take i).length=i:=by rw[aN];omega
    have hl:(E.take i++[(⟨(E.getD i ez).f0,(x:Int)⟩:Ex)]).length-1=i:=by rw[List.length_append,hti,List.length_singleton];omega
    have hg:(E.take i++[(⟨(E.getD i ez).f0,(x:Int)⟩:Ex)]).getD i ez=⟨(E.getD i ez).f0,(x:Int)⟩:=by
     rw[Nm _ _ _ _ (by omega),hti,Nat.sub_self]
     rfl
    refine hjoin _ n hlt ⟨_,Cv E i ez hi,by unfold fW;omega⟩ (by simp) (by rw[oB,hti,aan];omega) ?_ ?_ ?_ ?_
    ·rw[hl,hg];exact h3.symm
    ·rw[hl,hg];exact hr.1
    ·rw[hl,hg];show(0:Int)≤(x:Int);omega
    ·rw[hl,hg,List.set_append_right _ _ (by omega),hti,Nat.sub_self]
     have next:=ihB i (x+1) hi (by omega) (by omega) (by omega);exact next
 have:=(key N 0 rfl (by omega)).1 0 (by omega) (fun j h=>by omega) (fun h=>by
  have:=hE.1.1 0 h;unfold k7 at this
  omega)
 rw[List.take_zero]at this;exact this
end Go.Proofs.Ytahnkgehlfdlkaa.Q
