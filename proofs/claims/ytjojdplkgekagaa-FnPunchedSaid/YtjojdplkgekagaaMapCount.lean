/- How many blocks a map has: told by its cells. No statement. -/
import Derived.Test.YtjojdplkgekagaaMapPutG
import Derived.Test.YtjojdplkgekagaaG7
namespace Go.Proofs.Ytjojdplkgekagaa.Q
open Go.RowKit Go.Proofs.YtjojdplkgekagaaW.PrintWords Go.Proofs.Ytjojdplkgekagaa.G
set_option linter.unusedVariables false
set_option linter.unusedSimpArgs false
open Classical in
noncomputable def dW(P:Nat→Prop):Nat→Int
 |0=>0
 |n+1=>dW P n+if P n then 1 else 0
theorem qN {P Q:Nat→Prop}:∀N,(∀n,n<N→(P n↔Q n))→dW P N=dW Q N
 |0,_=>rfl
 |N+1,h=>by
  rw[dW,dW,qN N (fun n hn=>h n (by omega))]
  by_cases c:P N
  ·rw[if_pos c,if_pos ((h N (by omega)).1 c)]
  ·rw[if_neg c,if_neg (fun q=>c ((h N (by omega)).2 q))]
theorem cnt_mono {P Q:Nat→Prop}:∀N,(∀n,n<N→P n→Q n)→dW P N≤dW Q N
 |0,_=>Int.le_refl _
 |N+1,h=>by
  have:=cnt_mono N (fun n hn=>h n (by omega));rw[dW,dW]
  by_cases c:P N
  ·rw[if_pos c,if_pos (h N (by omega) c)];omega
  ·rw[if_neg c]
   by_cases d:Q N
   ·rw[if_pos d];omega
   ·rw[if_neg d];omega
theorem Er {P Q:Nat→Prop}:∀N,(∀n,n<N→P n→¬Q n)→dW (fun n=>P n∨Q n) N=dW P N+dW Q N
 |0,_=>rfl
 |N+1,h=>by
  have:=Er N (fun n hn=>h n (by omega));rw[dW,dW,dW,this]
  by_cases c:P N
  ·rw[if_pos (.inl c),if_pos c,if_neg (h N (by omega) c)];omega
  ·rw[if_neg c]
   by_cases d:Q N
   ·rw[if_pos (.inr d),if_pos d];omega
   ·rw[if_neg (fun q=>q.elim c d),if_neg d];omega
theorem M9 {P:Nat→Prop}:∀N,(∀n,n<N→¬P n)→dW P N=0
 |0,_=>rfl
 |N+1,h=>by rw[dW,M9 N (fun n hn=>h n (by omega)),if_neg (h N (by omega))];rfl
theorem Ep(P:Nat→Prop):∀N,0≤dW P N∧dW P N≤(N:Int)
 |0=>⟨Int.le_refl _,Int.le_refl _⟩
 |N+1=>by
  have:=Ep P N;rw[dW]
  by_cases c:P N
  ·rw[if_pos c];omega
  ·rw[if_neg c];omega
theorem Mp(a b:Int)(h0:0≤a)(h1:0≤b):∀N:Nat,dW (fun n=>a≤(n:Int)∧(n:Int)<a+b) N=if(N:Int)≤a then 0 else if(N:Int)≤a+b then(N:Int)-a else b
 |0=>by rw[dW,if_pos (by omega)]
 |N+1=>by
  rw[dW,Mp a b h0 h1 N]
  by_cases c:a≤(N:Int)∧(N:Int)<a+b
  ·rw[if_pos c,if_neg (show¬((N+1:Nat):Int)≤a by omega),if_pos (show((N+1:Nat):Int)≤a+b by omega)]
   by_cases d:(N:Int)≤a
   ·rw[if_pos d];omega
   ·rw[if_neg d,if_pos (by omega)];omega
  ·rw[if_neg c]
   by_cases d:(N:Int)≤a
   ·rw[if_pos d]
    by_cases e:((N+1:Nat):Int)≤a
    ·rw[if_pos e];rfl
    ·rw[if_neg e]
     by_cases f:((N+1:Nat):Int)≤a+b
     ·omega
     ·rw[if_neg f];omega
   ·rw[if_neg d,if_neg (show¬((N+1:Nat):Int)≤a by omega),if_neg (show¬((N+1:Nat):Int)≤a+b by omega)]
    by_cases f:(N:Int)≤a+b
    ·rw[if_pos f];omega
    ·rw[if_neg f];omega
def oY(g:Pc→Bool)(l:List Pc)(i n:Nat):Prop:=∃j,j<i∧j<l.length∧ce (l.getD j pz) n∧g (l.getD j pz)=true
theorem YC {g:Pc→Bool}{l:List Pc}(h:gi l)(i:Nat)(hi:i<l.length):dW (oY g l (i+1)) 200=dW (oY g l i) 200+if g (l.getD i pz)=true then(l.getD i pz).f1 else 0:=by
 have hr:=h.1 i hi;unfold eM at hr
 by_cases c:g (l.getD i pz)=true
 ·rw[if_pos c]
  have e:dW (oY g l (i+1)) 200=dW (fun n=>oY g l i n∨((l.getD i pz).f0≤(n:Int)∧(n:Int)<(l.getD i pz).f0+(l.getD i pz).f1)) 200:=qN 200 fun n _=>by
   constructor
   ·rintro⟨j,h1,h2,h3,h4⟩
    by_cases e:j=i
    ·subst e;exact .inr h3
    ·exact .inl ⟨j,by omega,h2,h3,h4⟩
   ·rintro(⟨j,h1,h2,h3,h4⟩|h3)
    ·exact⟨j,by omega,h2,h3,h4⟩
    ·exact⟨i,by omega,hi,h3,c⟩
  rw[e,Er 200 (fun n _=>by
   rintro⟨j,h1,h2,h3,h4⟩ h5;have h6:=mT h j i h1 hi;unfold ce at h3
   omega),Mp _ _ (by omega) (by omega),if_neg (by omega)]
  by_cases d:((200:Nat):Int)≤(l.getD i pz).f0+(l.getD i pz).f1
  ·rw[if_pos d];omega
  ·rw[if_neg d]
 ·rw[if_neg c,Int.add_zero]
  exact qN 200 fun n _=>by
   constructor
   ·rintro⟨j,h1,h2,h3,h4⟩
    by_cases e:j=i
    ·subst e;exact absurd h4 c
    ·exact⟨j,by omega,h2,h3,h4⟩
   ·rintro⟨j,h1,h2,h3,h4⟩
    exact⟨j,by omega,h2,h3,h4⟩
theorem YD(g:Pc→Bool)(l:List Pc):dW (oY g l 0) 200=0:=M9 200 fun n _=>by
 rintro⟨j,h1,_⟩
 omega
def G8(_:Pc):Bool:=true
def C7(p:Pc):Bool:=p.f3
theorem size_loop(l:List Pc)(h:gi l)(hl:l.length≤1000):∀ (d i:Nat),l.length-i=d→i≤l.length→
 Ev (fun k=>gb.l0 k (dW (oY G8 l i) 200) (dW (oY C7 l i) 200) l (l.length:Int) (i:Int)) (dW (oY G8 l l.length) 200,dW (oY C7 l l.length) 200,true):=by
 intro d
 induction d with
 |zero=>
  intro i hd hi
  obtain rfl:i=l.length:=by omega
  refine Ev.step (fun k=>by rw[gb.l0]) ?_;exact Ev.neg (by omega) (Ev.now _)
 |succ d ih=>
  intro i hd hi
  have hlt:i<l.length:=by omega
  have nx:=ih (i+1) (by omega) (by omega);have hr:=h.1 i hlt;unfold eM at hr;have b1:=Ep (oY G8 l i) 200;have b2:=Ep (oY C7 l i) 200;rw[YC h i hlt,YC h i hlt]at nx;have e1:G8 (l.getD i pz)=true:=rfl;rw[if_pos e1]at nx;refine Ev.step (fun k=>by rw[gb.l0]) (Ev.pos (by omega) (Ev.pos (by omega) (Ev.pos (by omega) ?_)));rw[kj,bg (x:=dW (oY G8 l i) 200+(l.getD i pz).f1) (by omega) (by omega),bg (x:=dW (oY C7 l i) 200+(l.getD i pz).f1) (by omega) (by omega),show wrap64 ((i:Int)+1)=((i+1:Nat):Int) by rw[bg (by omega) (by omega)];rfl]
  by_cases c:(l.getD i pz).f3=true
  ·have c':C7 (l.getD i pz)=true:=c
   rw[if_pos c']at nx;exact Ev.pos c nx
  ·have c':¬C7 (l.getD i pz)=true:=c
   rw[if_neg c',Int.add_zero]at nx;exact Ev.neg c nx
theorem Rs(l:List Pc)(hg:dh l):Ev (fun k=>gb.f k l) (dW (fun n=>(bD l n).f0=true) 200,dW (fun n=>(bD l n).f0=true∧(bD l n).f2=true) 200,true):=by
 have hl:l.length≤1048576:=by have:=hg.1;omega
 have ho:=(rn hg.2).1;have h1:=size_loop l ho (by have:=hg.1;omega) l.length 0 rfl (Nat.zero_le _);rw[YD,YD]at h1
 have e1:dW (oY G8 l l.length) 200=dW (fun n=>(bD l n).f0=true) 200:=qN 200 fun n _=>by
  constructor
  ·rintro⟨j,_,h2,h3,_⟩
   rw[yQ ho j h2 n h3]
  ·intro h
   obtain⟨q,hq,hn⟩:=(EG ho n).1 h;obtain⟨j,hj,rfl⟩:=pD pz hq;exact⟨j,hj,hj,hn,rfl⟩
 have e2:dW (oY C7 l l.length) 200=dW (fun n=>(bD l n).f0=true∧(bD l n).f2=true) 200:=qN 200 fun n _=>by
  constructor
  ·rintro⟨j,_,h2,h3,h4⟩
   rw[yQ ho j h2 n h3];exact⟨rfl,h4⟩
  ·rintro⟨h,h4⟩
   obtain⟨q,hq,hn⟩:=(EG ho n).1 h;obtain⟨j,hj,rfl⟩:=pD pz hq;rw[yQ ho j hj n hn]at h4;exact⟨j,hj,hj,hn,h4⟩
 rw[e1,e2]at h1;unfold gb.f;exact Ev.bind' _ (yE l hl) (Ev.pos (by simpa using hg) h1)
end Go.Proofs.Ytjojdplkgekagaa.Q
