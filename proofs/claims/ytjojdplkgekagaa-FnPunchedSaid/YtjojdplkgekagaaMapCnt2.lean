/- Counting: through an injection, and the lengths of extents in order. No statement. -/
import Derived.Test.YtjojdplkgekagaaMapCount
namespace Go.Proofs.Ytjojdplkgekagaa.Q
open Go.RowKit Go.Proofs.YtjojdplkgekagaaW.PrintWords Go.Proofs.Ytjojdplkgekagaa.G
set_option linter.unusedVariables false
set_option linter.unusedSimpArgs false
theorem cnt_one(c:Int)(M:Nat)(h0:0≤c)(h1:c<(M:Int)):dW (fun b:Nat=>c≤(b:Int)∧(b:Int)<c+1) M=1:=by
 rw[Mp c 1 h0 (by omega) M,if_neg (by omega)]
 by_cases d:(M:Int)≤c+1
 ·rw[if_pos d];omega
 ·rw[if_neg d]
theorem a0e {P:Nat→Prop}{g:Nat→Int}(M:Nat):∀N,(∀n,n<N→P n→0≤g n∧g n<(M:Int))→(∀n m,n<N→m<N→P n→P m→g n=g m→n=m)→dW (fun b=>∃n,n<N∧P n∧g n=(b:Int)) M=dW P N
 |0,_,_=>M9 M fun b _=>by
  rintro⟨n,h,_⟩
  omega
 |N+1,hr,hi=>by
  have ih:=a0e M N (fun n hn=>hr n (by omega)) (fun n m hn hm=>hi n m (by omega) (by omega));rw[dW,←ih]
  by_cases c:P N
  ·have hN:=hr N (by omega) c
   have e:dW (fun b=>∃n,n<N+1∧P n∧g n=(b:Int)) M=dW (fun b=>(∃n,n<N∧P n∧g n=(b:Int))∨(g N≤(b:Int)∧(b:Int)<g N+1)) M:=qN M fun b _=>by
    constructor
    ·rintro⟨n,h1,h2,h3⟩
     by_cases e:n=N
     ·subst e;exact .inr (by omega)
     ·exact .inl ⟨n,by omega,h2,h3⟩
    ·rintro(⟨n,h1,h2,h3⟩|h3)
     ·exact⟨n,by omega,h2,h3⟩
     ·exact⟨N,by omega,c,by omega⟩
   rw[e,Er M (fun b _=>by
    rintro⟨n,h1,h2,h3⟩ h4;have:=hi n N (by omega) (by omega) h2 c (by omega)
    omega),cnt_one _ _ hN.1 hN.2,if_pos c]
  ·rw[if_neg c,Int.add_zero]
   exact qN M fun b _=>by
    constructor
    ·rintro⟨n,h1,h2,h3⟩
     by_cases e:n=N
     ·subst e;exact absurd h2 c
     ·exact⟨n,by omega,h2,h3⟩
    ·rintro⟨n,h1,h2,h3⟩
     exact⟨n,by omega,h2,h3⟩
theorem a0d {P:Nat→Prop}:∀N:Nat,(∀n,n<N→P n)→dW P N=(N:Int)
 |0,_=>rfl
 |N+1,h=>by
  rw[dW,a0d N (fun n hn=>h n (by omega)),if_pos (h N (by omega))]
  omega
theorem a0c {P:Nat→Prop}(B:Nat):∀d,dW (fun n=>(n:Int)<(B:Int)∧P n) (B+d)=dW P B
 |0=>qN B fun n hn=>⟨fun h=>h.2,fun h=>⟨by omega,h⟩⟩
 |d+1=>by
  rw[show B+(d+1)=(B+d)+1 by omega,dW,a0c B d,if_neg (fun h=>by have:=h.1;omega)]
  omega
def mf(l:List Ex):Nat→Int
 |0=>0
 |i+1=>mf l i+(l.getD i ez).f1
theorem Qn {N:Nat}{l:List Ex}(h:me (N:Int) l):∀i,i≤l.length→mf l i=dW (fun b=>∃j,j<i∧lS (l.getD j ez) b) N
 |0,_=>(M9 N fun b _=>by
   rintro⟨j,h,_⟩
   omega).symm
 |i+1,hi=>by
  have hr:=h.1 i (by omega);unfold iS at hr
  have e:dW (fun b=>∃j,j<i+1∧lS (l.getD j ez) b) N=dW (fun b:Nat=>(∃j,j<i∧lS (l.getD j ez) b)∨((l.getD i ez).f0≤(b:Int)∧(b:Int)<(l.getD i ez).f0+(l.getD i ez).f1)) N:=qN N fun b _=>by
   constructor
   ·rintro⟨j,h1,h2⟩
    by_cases e:j=i
    ·subst e;exact .inr h2
    ·exact .inl ⟨j,by omega,h2⟩
   ·rintro(⟨j,h1,h2⟩|h2)
    ·exact⟨j,by omega,h2⟩
    ·exact⟨i,by omega,h2⟩
  rw[mf,Qn h i (by omega),e,Er N (fun b _=>by
   rintro⟨j,h1,h2⟩ h3;have h4:=Hb h j i h1 (by omega);unfold lS at h2
   omega),Mp _ _ (by omega) (by omega),if_neg (by omega)]
  by_cases d:(N:Int)≤(l.getD i ez).f0+(l.getD i ez).f1
  ·rw[if_pos d];omega
  ·rw[if_neg d]
theorem Yk {N:Nat}{l:List Ex}(h:me (N:Int) l):mf l l.length=dW (fun b=>gm l b) N:=by
 rw[Qn h _ (Nat.le_refl _)]
 exact qN N fun b _=>by
  constructor
  ·rintro⟨j,h1,h2⟩
   exact⟨_,jB l j ez h1,h2⟩
  ·rintro⟨e,he,h2⟩
   obtain⟨j,h1,rfl⟩:=pD ez he;exact⟨j,h1,h2⟩
theorem a0b {N:Nat}{l:List Ex}(h:me (N:Int) l)(i:Nat)(hi:i≤l.length):0≤mf l i∧mf l i≤(N:Int):=by
 rw[Qn h i hi];exact Ep _ N
end Go.Proofs.Ytjojdplkgekagaa.Q
