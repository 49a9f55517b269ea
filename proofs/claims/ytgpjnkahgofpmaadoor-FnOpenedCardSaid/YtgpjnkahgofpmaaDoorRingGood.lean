import Derived.Test.YtgpjnkahgofpmaaDoorRingSum
import Derived.Test.YtgpjnkahgofpmaaDoorG2
import Derived.Test.YtgpjnkahgofpmaaDoorG4
open Bool renaming false_ne_true→aae
open Go.RowKit renaming wrap64→F5
open Int renaming tmod→GW,tdiv→aQ
namespace Go.Proofs.YtgpjnkahgofpmaaDoor.Q
open Go.RowKit Go.Proofs.YtgpjnkahgofpmaaDoorW.PrintWords Go.Proofs.YtgpjnkahgofpmaaDoor.G
set_option linter.unusedVariables false
set_option linter.unusedSimpArgs false
theorem J8:∃z,Ev (fun k=>ib.f k) (0,0,(⟨#[]⟩:ByteArray),z)∧Ev (fun k=>ia.f k) (0,0,(⟨#[]⟩:ByteArray),z):=by
 obtain⟨h1,h2⟩:=rt 0 0 ⟨#[]⟩ 0;exact⟨fw 0 0 ⟨#[]⟩,by unfold ib.f;exact Ev.bind' _ h1 (Ev.now _),by unfold ia.f;exact Ev.bind' _ h2 (Ev.now _)⟩
theorem J0(a b:Int)(s:ByteArray)(c:Int):∃w,Ev (fun k=>fa.f k a b s c) w∧Ev (fun k=>ey.f k a b s c) w:=by
 obtain⟨h1,h2⟩:=rt a b s c;unfold fa.f ey.f
 by_cases h:kd a b s
 ·exact⟨_,Ev.bh _ (u7 _ _ _ _) (Ev.pos (by simpa using h) (Ev.bind' _ h1 (Ev.now _))),Ev.bh _ (wh _ _ _ _) (Ev.pos (by simpa using h) (Ev.bind' _ h2 (Ev.now _)))⟩
 ·exact⟨_,Ev.bh _ (u7 _ _ _ _) (Ev.neg (by simpa using h) (Ev.now _)),Ev.bh _ (wh _ _ _ _) (Ev.neg (by simpa using h) (Ev.now _))⟩
theorem OB(l:List aK)(n x4 x5 h c t:Int)(hn:n≠0)(b:Bool)(a0 a1:Int)(a2:ByteArray)(a3:Int)
 (next:∀y,∃r,Ev (fun k=>aw.l0 k n y (F5 (x5+1)) l h c t) r∧Ev (fun k=>ao.l0 k n y (F5 (x5+1)) l h c t) r):
 ∃r,Ev (fun k=>aw.j2 k n x4 x5 b l h c t a0 a1 a2 a3) r∧Ev (fun k=>ao.j2 k n x4 x5 b l h c t a0 a1 a2 a3) r:=by
 have s2:∀r,Ev (fun k=>if b=true then(aw.l0 k n x4 (F5 (x5+1)) l h c t)else((fa.f k a0 a1 a2 a3).bind fun yR=>(if yR=true then(if n=0 then(none)else(aw.j3 k n x4 x5 (a0 !=(F5 ((F5 (aQ x5 n))+1))) l h c t a0 a1 a2 a3))else(aw.j3 k n x4 x5 true l h c t a0 a1 a2 a3)))) r→Ev (fun k=>aw.j2 k n x4 x5 b l h c t a0 a1 a2 a3) r:=fun r e=>Ev.step (fun k=>by rw[aw.j2]) e
 have i2:∀r,Ev (fun k=>if b=true then(ao.l0 k n x4 (F5 (x5+1)) l h c t)else((ey.f k a0 a1 a2 a3).bind fun ES=>(if ES=true then(if n=0 then(none)else(if a0=(F5 ((F5 (aQ x5 n))+1))then(if a1>x5 then(some false)else(if a1>t then(some false)else(if a1<x4 then(some false)else(ao.l0 k n a1 (F5 (x5+1)) l h c t))))else(some false)))else(some false)))) r→Ev (fun k=>ao.j2 k n x4 x5 b l h c t a0 a1 a2 a3) r:=fun r e=>Ev.step (fun k=>by rw[ao.j2]) e
 have bad:Ev (fun k=>aw.j3 k n x4 x5 true l h c t a0 a1 a2 a3) false:=Ev.step (fun k=>by rw[aw.j3]) (Ev.pos rfl (Ev.now _))
 cases b with
 |true=>
  obtain⟨r,e1,e2⟩:=next x4;exact⟨r,s2 r (Ev.pos rfl e1),i2 r (Ev.pos rfl e2)⟩
 |false=>
  obtain⟨w,w1,w2⟩:=J0 a0 a1 a2 a3
  cases w with
  |false=>exact⟨false,s2 _ (Ev.neg aae (Ev.bind' _ w1 (Ev.neg aae bad))),i2 _ (Ev.neg aae (Ev.bind' _ w2 (Ev.neg aae (Ev.now _))))⟩
  |true=>
   by_cases e:a0=F5 ((F5 (aQ x5 n))+1)
   ·have eb:(a0 !=(F5 ((F5 (aQ x5 n))+1)))=false:=by simp[←e]
    have go:∀r,Ev (fun k=>if a1<x4 then(some false)else(if a1>x5 then(some false)else(if a1>t then(some false)else(aw.l0 k n a1 (F5 (x5+1)) l h c t)))) r→Ev (fun k=>aw.j2 k n x4 x5 false l h c t a0 a1 a2 a3) r:=fun r q=>by
     refine s2 r (Ev.neg aae (Ev.bind' _ w1 (Ev.pos rfl (Ev.neg hn ?_))));rw[eb];exact Ev.step (fun k=>by rw[aw.j3]) (Ev.neg aae q)
    have IN:∀r,Ev (fun k=>if a1>x5 then(some false)else(if a1>t then(some false)else(if a1<x4 then(some false)else(ao.l0 k n a1 (F5 (x5+1)) l h c t)))) r→Ev (fun k=>ao.j2 k n x4 x5 false l h c t a0 a1 a2 a3) r:=fun r q=>
     i2 _ (Ev.neg aae (Ev.bind' _ w2 (Ev.pos rfl (Ev.neg hn (Ev.pos e q)))))
    by_cases c1:a1<x4
    ·refine⟨false,go _ (Ev.pos c1 (Ev.now _)),IN _ ?_⟩
     by_cases c2:a1>x5
     ·exact Ev.pos c2 (Ev.now _)
     ·by_cases c3:a1>t
      ·exact Ev.neg c2 (Ev.pos c3 (Ev.now _))
      ·exact Ev.neg c2 (Ev.neg c3 (Ev.pos c1 (Ev.now _)))
    ·by_cases c2:a1>x5
     ·exact⟨false,go _ (Ev.neg c1 (Ev.pos c2 (Ev.now _))),IN _ (Ev.pos c2 (Ev.now _))⟩
     ·by_cases c3:a1>t
      ·exact⟨false,go _ (Ev.neg c1 (Ev.neg c2 (Ev.pos c3 (Ev.now _)))),IN _ (Ev.neg c2 (Ev.pos c3 (Ev.now _)))⟩
      ·obtain⟨r,e1,e2⟩:=next a1
       exact⟨r,go _ (Ev.neg c1 (Ev.neg c2 (Ev.neg c3 e1))),IN _ (Ev.neg c2 (Ev.neg c3 (Ev.neg c1 e2)))⟩
   ·have eb:(a0 !=(F5 ((F5 (aQ x5 n))+1)))=true:=by simp[e]
    refine⟨false,s2 _ (Ev.neg aae (Ev.bind' _ w1 (Ev.pos rfl (Ev.neg hn ?_)))),i2 _ (Ev.neg aae (Ev.bind' _ w2 (Ev.pos rfl (Ev.neg hn (Ev.neg e (Ev.now _))))))⟩;rw[eb];exact bad
theorem Xk(l:List aK)(n h c t:Int)(hn:n=(l.length:Int))(h2:2≤n∧n≤24)(hh:0≤h∧h≤10000000):∀d:Nat,∀x4 x5:Int,(h-x5).toNat=d→h-n≤x5→x5≤h→
 ∃r,Ev (fun k=>aw.l0 k n x4 x5 l h c t) r∧Ev (fun k=>ao.l0 k n x4 x5 l h c t) r:=by
 obtain⟨z,z1,z2⟩:=J8;intro d
 induction d with
 |zero=>
  intro x4 x5 hd h3 h4;exact⟨true,Ev.step (fun k=>by rw[aw.l0]) (Ev.neg (by omega) (Ev.now _)),Ev.step (fun k=>by rw[ao.l0]) (Ev.neg (by omega) (Ev.now _))⟩
 |succ d ih=>
  intro x4 x5 hd h3 h4;have e1:F5 (x5+1)=x5+1:=dc (by omega) (by omega)
  have next:∀y,∃r,Ev (fun k=>aw.l0 k n y (F5 (x5+1)) l h c t) r∧Ev (fun k=>ao.l0 k n y (F5 (x5+1)) l h c t) r:=fun y=>by
   rw[e1];exact ih y (x5+1) (by omega) (by omega) (by omega)
  by_cases hneg:x5<0
  ·have e2:F5 (x5+n)=x5+n:=dc (by omega) (by omega)
   obtain⟨r,a,b⟩:=next x4
   by_cases cc:(!(((J l (x5+n)).f0)==(0:Int))||(!(((J l (x5+n)).f1)==(0:Int))||(!((((J l (x5+n)).f2).toList)==(⟨#[]⟩:ByteArray).toList)||(!(((J l (x5+n)).f3)==z)))))=true
   ·refine⟨false,Ev.step (fun k=>by rw[aw.l0]) ?_,Ev.step (fun k=>by rw[ao.l0]) ?_⟩
    ·rw[e2];exact Ev.pos (by omega) (Ev.pos hneg (Ev.pos (by omega) (Ev.pos (by omega) (Ev.bind' _ z1 (Ev.pos cc (Ev.now _))))))
    ·rw[e2];exact Ev.pos (by omega) (Ev.pos hneg (Ev.pos (by omega) (Ev.pos (by omega) (Ev.bind' _ z2 (Ev.pos cc (Ev.now _))))))
   ·refine⟨r,Ev.step (fun k=>by rw[aw.l0]) ?_,Ev.step (fun k=>by rw[ao.l0]) ?_⟩
    ·rw[e2];exact Ev.pos (by omega) (Ev.pos hneg (Ev.pos (by omega) (Ev.pos (by omega) (Ev.bind' _ z1 (Ev.neg cc a)))))
    ·rw[e2];exact Ev.pos (by omega) (Ev.pos hneg (Ev.pos (by omega) (Ev.pos (by omega) (Ev.bind' _ z2 (Ev.neg cc b)))))
  ·have m0:0≤GW x5 n:=Int.tmod_nonneg _ (by omega)
   have m1:GW x5 n<n:=Int.tmod_lt_of_pos _ (by omega)
   by_cases ct:x5<t
   ·obtain⟨r,a,b⟩:=OB l n x4 x5 h c t (by omega) ((J l (GW x5 n)).f0==(0:Int)&& (((J l (GW x5 n)).f1)==(0:Int)&& ((((J l (GW x5 n)).f2).toList)==(⟨#[]⟩:ByteArray).toList&& (((J l (GW x5 n)).f3)==z)))) (J l (GW x5 n)).f0 (J l (GW x5 n)).f1 (J l (GW x5 n)).f2 (J l (GW x5 n)).f3 next
    exact⟨r,Ev.step (fun k=>by rw[aw.l0]) (Ev.pos (by omega) (Ev.neg hneg (Ev.neg (by omega) (Ev.pos m0 (Ev.pos (by omega) (Ev.pos ct (Ev.bind' _ z1 a))))))),Ev.step (fun k=>by rw[ao.l0]) (Ev.pos (by omega) (Ev.neg hneg (Ev.neg (by omega) (Ev.pos m0 (Ev.pos (by omega) (Ev.pos ct (Ev.bind' _ z2 b)))))))⟩
   ·obtain⟨r,a,b⟩:=OB l n x4 x5 h c t (by omega) false (J l (GW x5 n)).f0 (J l (GW x5 n)).f1 (J l (GW x5 n)).f2 (J l (GW x5 n)).f3 next
    exact⟨r,Ev.step (fun k=>by rw[aw.l0]) (Ev.pos (by omega) (Ev.neg hneg (Ev.neg (by omega) (Ev.pos m0 (Ev.pos (by omega) (Ev.neg ct a)))))),Ev.step (fun k=>by rw[ao.l0]) (Ev.pos (by omega) (Ev.neg hneg (Ev.neg (by omega) (Ev.pos m0 (Ev.pos (by omega) (Ev.neg ct b))))))⟩
theorem XA(l:List aK)(n h c t:Int)(hn:n=(l.length:Int))(h2:2≤n∧n≤24)(hh:0≤h∧h≤10000000)(b:Bool):
 ∃r,Ev (fun k=>aw.j0 k n b l h c t) r∧Ev (fun k=>ao.j0 k n b l h c t) r:=by
 cases b with
 |true=>exact⟨false,Ev.step (fun k=>by rw[aw.j0]) (Ev.pos rfl (Ev.now _)),Ev.step (fun k=>by rw[ao.j0]) (Ev.pos rfl (Ev.now _))⟩
 |false=>
  obtain⟨r,a,b⟩:=Xk l n h c t hn h2 hh _ 0 (h-n) rfl (by omega) (by omega);have e:F5 (h-n)=h-n:=dc (by omega) (by omega);refine⟨r,Ev.step (fun k=>by rw[aw.j0]) (Ev.neg aae ?_),Ev.step (fun k=>by rw[ao.j0]) (Ev.neg aae ?_)⟩
  ·rw[e];exact a
  ·rw[e];exact b
theorem Nd(l:List aK)(h c t:Int)(hl:l.length≤1048576):∃r,Ev (fun k=>aw.f k l h c t) r∧Ev (fun k=>ao.f k l h c t) r∧(r=true→2≤(l.length:Int)∧(l.length:Int)≤24∧0≤h∧h≤10000000∧0≤t∧t≤h∧h-t≤(l.length:Int)):=by
 have n1:Ev (fun k=>aw.j0 k (l.length:Int) true l h c t) false:=Ev.step (fun k=>by rw[aw.j0]) (Ev.pos rfl (Ev.now _));have n2:Ev (fun k=>ao.j0 k (l.length:Int) true l h c t) false:=Ev.step (fun k=>by rw[ao.j0]) (Ev.pos rfl (Ev.now _));unfold aw.f ao.f
 by_cases c1:2≤(l.length:Int)∧(l.length:Int)≤24
 ·by_cases c2:0≤h∧h≤10000000
  ·have e1:F5 (h-(l.length:Int))=h-(l.length:Int):=dc (by omega) (by omega)
   have em:mx 0 (h-(l.length:Int))=if 0<h-(l.length:Int)then h-(l.length:Int)else 0:=rfl
   rw[e1,em]
   by_cases c3:0≤t∧t≤h
   ·have e2:F5 (h-t)=h-t:=dc (by omega) (by omega)
    rw[e2]
    by_cases c4:h-t>(l.length:Int)
    ·exact⟨false,Ev.bh _ (ii _ _ _) (Ev.pos (by simpa using c1) (Ev.bh _ (ii _ _ _) (Ev.pos (by simpa using c2) (Ev.bh _ (ii _ _ _) (Ev.pos (by simpa using c3) (Ev.pos c4 n1)))))),Ev.bh _ (gu _ _ _) (Ev.pos (by simpa using c1) (Ev.bh _ (gu _ _ _) (Ev.pos (by simpa using c2) (Ev.bh _ (gu _ _ _) (Ev.neg (by rw[decide_eq_true_eq];split<;>omega) n2))))),fun h=>by cases h⟩
    ·obtain⟨r,a,b⟩:=XA l (l.length:Int) h c t rfl c1 c2 (c !=(F5 ((F5 (aQ h (l.length:Int)))+1)))
     exact⟨r,Ev.bh _ (ii _ _ _) (Ev.pos (by simpa using c1) (Ev.bh _ (ii _ _ _) (Ev.pos (by simpa using c2) (Ev.bh _ (ii _ _ _) (Ev.pos (by simpa using c3) (Ev.neg c4 (Ev.neg (by omega) a))))))),Ev.bh _ (gu _ _ _) (Ev.pos (by simpa using c1) (Ev.bh _ (gu _ _ _) (Ev.pos (by simpa using c2) (Ev.bh _ (gu _ _ _) (Ev.pos (by rw[decide_eq_true_eq];split<;>omega) (Ev.neg (by omega) b)))))),fun _=>by omega⟩
   ·exact⟨false,Ev.bh _ (ii _ _ _) (Ev.pos (by simpa using c1) (Ev.bh _ (ii _ _ _) (Ev.pos (by simpa using c2) (Ev.bh _ (ii _ _ _) (Ev.neg (by simpa using c3) n1))))),Ev.bh _ (gu _ _ _) (Ev.pos (by simpa using c1) (Ev.bh _ (gu _ _ _) (Ev.pos (by simpa using c2) (Ev.bh _ (gu _ _ _) (Ev.neg (by rw[decide_eq_true_eq];split<;>omega) n2))))),fun h=>by cases h⟩
  ·exact⟨false,Ev.bh _ (ii _ _ _) (Ev.pos (by simpa using c1) (Ev.bh _ (ii _ _ _) (Ev.neg (by simpa using c2) n1))),Ev.bh _ (gu _ _ _) (Ev.pos (by simpa using c1) (Ev.bh _ (gu _ _ _) (Ev.neg (by simpa using c2) n2))),fun h=>by cases h⟩
 ·exact⟨false,Ev.bh _ (ii _ _ _) (Ev.neg (by simpa using c1) n1),Ev.bh _ (gu _ _ _) (Ev.neg (by simpa using c1) n2),fun h=>by cases h⟩
theorem Nf(l:List aK)(h c t:Int)(hl:l.length≤1048576):∃r,Ev (fun k=>aw.f k l h c t) r∧Ev (fun k=>ao.f k l h c t) r:=by
 obtain⟨r,a,b,_⟩:=Nd l h c t hl;exact⟨r,a,b⟩
end Go.Proofs.YtgpjnkahgofpmaaDoor.Q
