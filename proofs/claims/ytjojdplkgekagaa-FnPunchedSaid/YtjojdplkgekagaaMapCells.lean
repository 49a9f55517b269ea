import Derived.Test.YtjojdplkgekagaaMapGood
import Derived.Test.YtjojdplkgekagaaG6
open List renaming range→aa0,map_congr_left→abe
namespace Go.Proofs.Ytjojdplkgekagaa.Q
open Go.RowKit Go.Proofs.YtjojdplkgekagaaW.PrintWords Go.Proofs.Ytjojdplkgekagaa.G
set_option linter.unusedVariables false
set_option linter.unusedSimpArgs false
abbrev mI:=eW
def bD(l:List a7)(n:Nat):mI:=
 match l.find? (fun p=>decide (p.f0≤(n:Int))&&decide ((n:Int)<p.f0+p.f1))with
 |some p=>⟨true,p.f2+((n:Int)-p.f0),p.f3⟩
 |none=>dO
def cellsOf(l:List a7):List mI:=(aa0 200).map (bD l)
theorem Pm {α:Type}(m i:Nat)(f:Nat→α)(a:α)(h:i<m):((List.range m).map f).set i a=(List.range m).map (fun n=>if n=i then a else f n):=by
 apply List.ext_getElem
 ·simp
 ·intro j h1 h2
  simp only[List.getElem_set,List.getElem_map,List.getElem_range]
  by_cases e:i=j
  ·simp[e]
  ·simp[e,Ne.symm e]
theorem nM(l:List a7):(cellsOf l).length=200:=by simp[cellsOf]
theorem uc(l:List a7)(n:Nat)(h:n<200):(cellsOf l).getD n dO=bD l n:=by
 rw[wg _ _ _ (by rw[nM];exact h)]
 simp[cellsOf]
theorem cellAt_nil(n:Nat):bD [] n=dO:=rfl
theorem good_piece {l:List a7}(h:dh l)(i:Nat)(hi:i<l.length):iF (l.getD i pz):=(h.2 i hi).1
theorem good_order {l:List a7}(h:∀i,i<l.length→xn l i)(i:Nat):∀d,i+1+d<l.length→(l.getD i pz).f0+(l.getD i pz).f1≤(l.getD (i+1+d) pz).f0:=by
 intro d
 induction d with
 |zero=>
  intro hd;have:=((h (i+1) hd).2.1 (by omega)).1
  simpa using this
 |succ d ih=>
  intro hd;have h1:=ih (by omega);have h2:=((h (i+1+(d+1)) hd).2.1 (by omega)).1;have h3:=(h (i+1+d) (by omega)).1;unfold iF at h3;rw[show i+1+(d+1)-1=i+1+d by omega]at h2
  omega
theorem good_lt {l:List a7}(h:∀i,i<l.length→xn l i)(i j:Nat)(hij:i<j)(hj:j<l.length):(l.getD i pz).f0+(l.getD i pz).f1≤(l.getD j pz).f0:=by
 have:=good_order h i (j-i-1) (by omega)
 rwa [show i+1+(j-i-1)=j by omega]at this
theorem XJ {α:Type}(l m:List α)(p:α→Bool)(h:∀x∈l,p x=false):(l++m).find? p=m.find? p:=by
 rw[List.find?_append]
 have:l.find? p=none:=by
  rw[List.find?_eq_none];intro x hx
  simp[h x hx]
 rw[this]
 rfl
theorem GK {α:Type}{l:List α}{i:Nat}{x:α}(z:α)(h:x∈l.take i):∃j,j<i∧j<l.length∧x=l.getD j z:=by
 obtain⟨j,hj,rfl⟩:=List.mem_iff_getElem.1 h;rw[List.length_take]at hj;refine⟨j,by omega,by omega, ?_⟩;rw[wg _ _ _ (by omega)]
 simp
theorem cellAt_succ {l:List a7}(h:∀i,i<l.length→xn l i)(i:Nat)(hi:i<l.length)(n:Nat):
 bD (l.take (i+1)) n=if(l.getD i pz).f0≤(n:Int)∧(n:Int)<(l.getD i pz).f0+(l.getD i pz).f1 then⟨true,(l.getD i pz).f2+((n:Int)-(l.getD i pz).f0),(l.getD i pz).f3⟩else bD (l.take i) n:=by
 rw[lu l i pz hi];unfold bD
 by_cases hc:(l.getD i pz).f0≤(n:Int)∧(n:Int)<(l.getD i pz).f0+(l.getD i pz).f1
 ·have hno:∀x∈l.take i,(decide (x.f0≤(n:Int))&&decide ((n:Int)<x.f0+x.f1))=false:=by
   intro x hx;obtain⟨j,hj,hjl,rfl⟩:=GK pz hx;have:=good_lt h j i hj hi;simp only[Bool.and_eq_false_iff,decide_eq_false_iff_not]
   omega
  rw[if_pos hc,XJ _ _ _ hno]
  generalize l.getD i pz=p at *
  simp[List.find?_cons,hc.1,hc.2]
 ·rw[if_neg hc,List.find?_append]
  have:([l.getD i pz]:List a7).find? (fun p=>decide (p.f0≤(n:Int))&&decide ((n:Int)<p.f0+p.f1))=none:=by
   rw[List.find?_eq_none];intro x hx;rw[List.mem_singleton.1 hx]
   simpa using hc
  rw[this]
  simp
theorem EF(l:List a7)(h:∀i,i<l.length→xn l i)(hl:l.length≤1048576):Ev (fun k=>dJ.f k l) (cellsOf l):=by
 have inner:∀ (i:Nat) (hi:i<l.length) (_:Ev (fun k=>dJ.l0 k (cellsOf (l.take (i+1))) l (l.length:Int) ((i+1:Nat):Int)) (cellsOf l)) (d x:Nat),(l.getD i pz).f1.toNat-x=d→(x:Int)≤(l.getD i pz).f1→
  Ev (fun k=>dJ.l1 k ((List.range 200).map (fun n:Nat=>if(l.getD i pz).f0≤(n:Int)∧(n:Int)<(l.getD i pz).f0+(x:Int)then(⟨true,(l.getD i pz).f2+((n:Int)-(l.getD i pz).f0),(l.getD i pz).f3⟩:mI)else bD (l.take i) n)) l (l.length:Int) (i:Int) (l.getD i pz).f1 (x:Int) (l.getD i pz).f0 (l.getD i pz).f1 (l.getD i pz).f2 (l.getD i pz).f3) (cellsOf l):=by
  intro i hi hnext d;have hp:=(h i hi).1;unfold iF at hp
  induction d with
  |zero=>
   intro x hd hx
   have hxe:(x:Int)=(l.getD i pz).f1:=by omega
   refine Ev.step (fun k=>by rw[dJ.l1]) ?_;refine Ev.neg (by omega) ?_;rw[bg (by omega) (by omega)]
   have e:(List.range 200).map (fun n:Nat=>if(l.getD i pz).f0≤(n:Int)∧(n:Int)<(l.getD i pz).f0+(x:Int)then(⟨true,(l.getD i pz).f2+((n:Int)-(l.getD i pz).f0),(l.getD i pz).f3⟩:mI)else bD (l.take i) n)=cellsOf (l.take (i+1)):=by
    unfold cellsOf
    refine abe fun n _=> ?_
    rw[cellAt_succ h i hi,hxe]
   rw[e];exact hnext
  |succ d ih=>
   intro x hd hx;refine Ev.step (fun k=>by rw[dJ.l1]) ?_;rw[bg (x:=(l.getD i pz).f0+(x:Int)) (by omega) (by omega),bg (x:=(l.getD i pz).f2+(x:Int)) (by omega) (by omega),bg (x:=(x:Int)+1) (by omega) (by omega)];refine Ev.pos (by omega) (Ev.pos (by omega) (Ev.pos (by simp only[List.length_map,List.length_range];omega) ?_));have:=ih (x+1) (by omega) (by omega);rw[Pm _ _ _ _ (by omega)]
   have e:(aa0 200).map (fun n:Nat=>if n=((l.getD i pz).f0+(x:Int)).toNat then(⟨true,(l.getD i pz).f2+(x:Int),(l.getD i pz).f3⟩:mI)else if(l.getD i pz).f0≤(n:Int)∧(n:Int)<(l.getD i pz).f0+(x:Int)then(⟨true,(l.getD i pz).f2+((n:Int)-(l.getD i pz).f0),(l.getD i pz).f3⟩:mI)else bD (l.take i) n)
    =(List.range 200).map (fun n:Nat=>if(l.getD i pz).f0≤(n:Int)∧(n:Int)<(l.getD i pz).f0+((x+1:Nat):Int)then(⟨true,(l.getD i pz).f2+((n:Int)-(l.getD i pz).f0),(l.getD i pz).f3⟩:mI)else bD (l.take i) n):=by
    refine abe fun n _=> ?_
    by_cases e1:n=((l.getD i pz).f0+(x:Int)).toNat
    ·rw[if_pos e1,if_pos (by omega)]
     congr 1
     omega
    ·rw[if_neg e1]
     by_cases e2:(l.getD i pz).f0≤(n:Int)∧(n:Int)<(l.getD i pz).f0+(x:Int)
     ·rw[if_pos e2,if_pos (by omega)]
     ·rw[if_neg e2,if_neg (by omega)]
   rw[e];exact this
 have loop:∀d i,l.length-i=d→i≤l.length→Ev (fun k=>dJ.l0 k (cellsOf (l.take i)) l (l.length:Int) (i:Int)) (cellsOf l):=by
  intro d
  induction d with
  |zero=>
   intro i hd hi
   have:i=l.length:=by omega
   subst this;refine Ev.step (fun k=>by rw[dJ.l0]) ?_;refine Ev.neg (by omega) (Ev.now' (by rw[List.take_length]))
  |succ d ih=>
   intro i hd hi;have hp:=(h i (by omega)).1;unfold iF at hp;refine Ev.step (fun k=>by rw[dJ.l0]) ?_;rw[kj];refine Ev.pos (by omega) (Ev.pos (by omega) (Ev.pos (by omega) ?_));have:=inner i (by omega) (ih (i+1) (by omega) (by omega)) _ 0 rfl (by omega)
   have e:(List.range 200).map (fun n:Nat=>if(l.getD i pz).f0≤(n:Int)∧(n:Int)<(l.getD i pz).f0+((0:Nat):Int)then(⟨true,(l.getD i pz).f2+((n:Int)-(l.getD i pz).f0),(l.getD i pz).f3⟩:mI)else bD (l.take i) n)=cellsOf (l.take i):=by
    unfold cellsOf
    refine abe fun n _=> ?_
    rw[if_neg (by omega)]
   rw[e]at this;exact this
 unfold dJ.f;refine Ev.pos (by omega) ?_;have:=loop l.length 0 rfl (by omega)
 have e:cellsOf (l.take 0)=List.replicate 200 dO:=by
  unfold cellsOf;rw[List.take_zero,List.eq_replicate_iff]
  exact⟨by simp,fun b hb=>by
   obtain⟨n,_,rfl⟩:=List.mem_map.1 hb
   rfl⟩
 rw[e]at this;exact this
end Go.Proofs.Ytjojdplkgekagaa.Q
