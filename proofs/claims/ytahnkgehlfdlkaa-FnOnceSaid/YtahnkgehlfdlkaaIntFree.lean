/- GoodFree of the reference and of the program: the same answer. -/
import Derived.Test.YtahnkgehlfdlkaaKit
import Derived.Test.YtahnkgehlfdlkaaG2
import Derived.Test.YtahnkgehlfdlkaaG6
open Bool renaming false_ne_true→eI,or_eq_true→aa9
open Go.RowKit renaming wrap64→Ee
open List renaming length_nil→aar,drop_eq_nil_of_le→aaw,nil_append→aaH,drop_zero→aaL,append_assoc→aa2,Pairwise→abW
open Nat renaming zero_le→pu
open Option renaming bind_some→N6
namespace Go.Proofs.Ytahnkgehlfdlkaa.Q
open Go.RowKit Go.Proofs.YtahnkgehlfdlkaaW.PrintWords Go.Proofs.Ytahnkgehlfdlkaa.G
set_option linter.unusedVariables false
set_option linter.unusedSimpArgs false
abbrev X_:=X
instance decX(a b:X_):Decidable (a=b):=
 if h:a.f0=b.f0∧a.f1=b.f1 then isTrue (by
  obtain⟨a0,a1⟩:=a;obtain⟨b0,b1⟩:=b;obtain⟨h1,h2⟩:=h;simp only at h1 h2
  rw[h1,h2])else isFalse (fun e=>h (by rw[e];exact⟨rfl,rfl⟩))
theorem ou(l:List X_)(i:Nat):aC l (i:Int)=l.getD i ey:=by simp[aC]
theorem Gc(x lo hi:Int):n8.f x lo hi=some (decide (lo≤x∧x≤hi)):=by
 unfold n8.f
 by_cases h:x≥lo
 ·rw[if_pos h];simp[show lo≤x from h]
 ·rw[if_neg h];simp[show¬lo≤x from h]
theorem xM(x lo hi:Int):lS.f x lo hi=some (decide (lo≤x∧x≤hi)):=by
 unfold lS.f
 by_cases h:x≥lo
 ·rw[if_pos h];simp[show lo≤x from h]
 ·rw[if_neg h];simp[show¬lo≤x from h]
def Eo(y x:X_):Bool:=decide (y.f1<x.f1∨y.f1=x.f1∧y.f0<x.f0)
theorem less_eq(y x:X_):Cj.f y.f0 y.f1 x.f0 x.f1=some (Eo y x):=by
 unfold Cj.f Eo
 by_cases h:y.f1<x.f1
 ·rw[if_pos h];simp[h]
 ·rw[if_neg h]
  by_cases h2:y.f1=x.f1
  ·rw[if_pos h2];simp[h,h2]
  ·rw[if_neg h2];simp[h,h2]
def sX(x:X_):List X_→List X_
 |[]=>[x]
 |y::t=>if Eo y x=true then y::sX x t else x::y::t
theorem Sx(x:X_):∀l,(sX x l).length=l.length+1
 |[]=>rfl
 |y::t=>by
  unfold sX
  split
  ·simp[Sx x t]
  ·simp
theorem Tm(x:X_):∀l,(sX x l).Perm (x::l)
 |[]=>List.Perm.refl _
 |y::t=>by
  unfold sX
  split
  ·exact((Tm x t).cons y).trans (List.Perm.swap x y t)
  ·exact List.Perm.refl _
theorem ins_mem {x z:X_}{l:List X_}(h:z∈sX x l):z=x∨z∈l:=by
 have:=(Tm x l).mem_iff.1 h
 simpa using this
def AK(a b:X_):Prop:=Az a b=true
theorem zP(a b:X_):AK a b↔ (a.f1<b.f1∨a.f1=b.f1∧a.f0≤b.f0):=by unfold AK Az;simp
theorem ins_sorted(x:X_):∀l,abW AK l→abW AK (sX x l)
 |[],_=>by simp[sX]
 |y::t,h=>by
  obtain⟨h1,h2⟩:=List.pairwise_cons.1 h;unfold sX
  by_cases c:Eo y x=true
  ·rw[if_pos c]
   refine List.pairwise_cons.2 ⟨fun z hz=> ?_,ins_sorted x t h2⟩
   rcases ins_mem hz with rfl|hz
   ·rw[zP]
    unfold Eo at c
    simp at c
    omega
   ·exact h1 z hz
  ·rw[if_neg c]
   refine List.pairwise_cons.2 ⟨fun z hz=> ?_,h⟩
   have hxy:AK x y:=by
    rw[zP];unfold Eo at c
    simp at c
    omega
   rcases List.mem_cons.1 hz with rfl|hz
   ·exact hxy
   ·have:=h1 z hz
    rw[zP]at this hxy⊢
    omega
def fO:List X_→List X_→List X_
 |acc,[]=>acc
 |acc,x::t=>fO (sX x acc) t
theorem wy:∀ (l acc:List X_),(fO acc l).length=acc.length+l.length
 |[],acc=>by simp[fO]
 |x::t,acc=>by rw[fO,wy t,Sx,List.length_cons];omega
theorem isort_perm:∀ (l acc:List X_),(fO acc l).Perm (acc++l)
 |[],acc=>by simp[fO]
 |x::t,acc=>by
  rw[fO];exact(isort_perm t _).trans (((Tm x acc).append_right t).trans (by simpa using List.perm_middle.symm))
theorem isort_sorted:∀ (l acc:List X_),abW AK acc→abW AK (fO acc l)
 |[],acc,h=>h
 |x::t,acc,h=>isort_sorted t _ (ins_sorted x acc h)
theorem isort_eq(l:List X_):fO [] l=l.mergeSort Az:=by
 refine List.Perm.eq_of_pairwise (le:=AK) (fun a b _ _ h1 h2=> ?_) (isort_sorted l [] abW.nil) (List.pairwise_mergeSort (fun a b c h1 h2=> ?_) (fun a b=> ?_) l) ((isort_perm l []).trans (List.mergeSort_perm l Az).symm)
 ·rw[zP]at h1 h2
  obtain⟨a0,a1⟩:=a;obtain⟨b0,b1⟩:=b;simp only at h1 h2;rw[show a0=b0 by omega,show a1=b1 by omega]
 ·have h1':=(zP a b).1 h1
  have h2':=(zP b c).1 h2;exact(zP a c).2 (by omega)
 ·have e1:=zP a b
  have e2:=zP b a;unfold AK at e1 e2;rw[aa9,e1,e2]
  omega
theorem bysize_inner(x3 x8:List X_)(x9 i5:Int)(x:X_)(r:List X_)(h3:x3.length≤2000000):
 ∀ (d j:Nat),x3.length-j=d→j≤x3.length→Ev (fun k=>dV.l0 k (x3.take j++sX x (x3.drop j)) x8 x9 (Ee (i5+1))) r→
 Ev (fun k=>dV.l1 k x3 (j:Int) x8 x9 i5 x.f0 x.f1) r:=by
 have stop:∀ (j:Nat),j≤x3.length→Ev (fun k=>dV.l0 k (x3.take j++([x]++x3.drop j)) x8 x9 (Ee (i5+1))) r→
  Ev (fun k=>if(j:Int)≤(x3.length:Int)then((some (x3.take ((j:Int)).toNat:List (X_))).bind fun y107=>(if([]:List (X_)).length+y107.length<8796093022208 then((some (([]:List (X_))++y107:List (X_))).bind fun y111=>(if y111.length<8796093022208 then((some (y111++[(⟨x.f0,x.f1⟩:X_)]:List (X_))).bind fun y114=>((some (x3.drop ((j:Int)).toNat:List (X_))).bind fun y117=>(if y114.length+y117.length<8796093022208 then(dV.l0 k (y114++y117) x8 x9 (wrap64 (i5+1)))else(none))))else(none)))else(none)))else(none)) r:=by
  intro j hj h
  have hl:(x3.take j).length≤2000000:=by rw[List.length_take];omega
  have hd:(x3.drop j).length≤2000000:=by rw[List.length_drop];omega
  refine Ev.pos (by omega) ?_;simp only[N6,Int.toNat_natCast,aaH];refine Ev.pos (by simp only[aar];omega) (Ev.pos (by omega) (Ev.pos (by simp only[List.length_append,List.length_singleton];omega) ?_));rw[aa2];exact h
 intro d
 induction d with
 |zero=>
  intro j hd hj h;have e:x3.drop j=[]:=aaw (by omega);rw[e]at h;refine Ev.step (fun k=>by rw[dV.l1]) (Ev.neg (by omega) (Ev.pos (by omega) ?_));have:=stop j hj (by rw[e];exact h);exact this
 |succ d ih=>
  intro j hd hj h
  have hlt:j<x3.length:=by omega
  have ed:x3.drop j=x3.getD j ey::x3.drop (j+1):=oJ x3 j ey hlt;refine Ev.step (fun k=>by rw[dV.l1]) (Ev.pos (by omega) (Ev.pos (by omega) ?_));rw[ou];refine Ev.ct _ (less_eq _ x) ?_
  by_cases c:Eo (x3.getD j ey) x=true
  ·refine Ev.pos c ?_
   rw[show Ee ((j:Int)+1)=((j+1:Nat):Int) by rw[dO (by omega) (by omega)];rfl];refine ih (j+1) (by omega) (by omega) ?_;rw[Ho x3 j ey hlt,aa2,List.singleton_append];rw[ed,sX,if_pos c]at h;exact h
  ·refine Ev.neg c (stop j hj ?_)
   rw[ed]at h⊢;rw[sX,if_neg c]at h;exact h
theorem xL(l:List X_)(hl:l.length≤1048576):Ev (fun k=>dV.f k l) (fO [] l):=by
 have loop:∀ (d j:Nat) (acc:List X_),l.length-j=d→j≤l.length→acc.length=j→Ev (fun k=>dV.l0 k acc l (l.length:Int) (j:Int)) (fO acc (l.drop j)):=by
  intro d
  induction d with
  |zero=>
   intro j acc hd hj ha;have e:l.drop j=[]:=aaw (by omega);rw[e];refine Ev.step (fun k=>by rw[dV.l0]) (Ev.neg ?_ (Ev.now' (show acc=fO acc []from rfl)))
   omega
  |succ d ih=>
   intro j acc hd hj ha
   have hlt:j<l.length:=by omega
   have ed:l.drop j=l.getD j ey::l.drop (j+1):=oJ l j ey hlt;have h:=ih (j+1) (sX (l.getD j ey) acc) (by omega) (by omega) (by rw[Sx];omega);refine Ev.step (fun k=>by rw[dV.l0]) (Ev.pos (by omega) (Ev.pos (by omega) (Ev.pos (by omega) ?_)));rw[ou]
   have:=bysize_inner acc l (l.length:Int) (j:Int) (l.getD j ey) (fO acc (l.drop j)) (by omega) acc.length 0 rfl (pu _) (by
    rw[show Ee ((j:Int)+1)=((j+1:Nat):Int) by rw[dO (by omega) (by omega)];rfl,List.take_zero,aaH,aaL,ed,fO]
    exact h)
   exact this
 have:=loop l.length 0 [] rfl (pu _) rfl;unfold dV.f;exact this
theorem QL(a b:List X_)(ha:a.length≤2000000):Ev (fun k=>jN.f k a b) (decide (a=b)):=by
 unfold jN.f
 by_cases c:(a.length:Int)=(b.length:Int)
 ·refine Ev.pos c ?_
  have loop:∀ (d j:Nat),a.length-j=d→j≤a.length→Ev (fun k=>jN.l0 k a b (a.length:Int) (j:Int)) (decide (a.drop j=b.drop j)):=by
   intro d
   induction d with
   |zero=>
    intro j hd hj;rw[aaw (show a.length≤j by omega),aaw (show b.length≤j by omega)];exact Ev.step (fun k=>by rw[jN.l0]) (Ev.neg (by omega) (Ev.now' (by simp)))
   |succ d ih=>
    intro j hd hj;rw[oJ a j ey (by omega),oJ b j ey (by omega)];refine Ev.step (fun k=>by rw[jN.l0]) (Ev.pos (by omega) (Ev.pos (by omega) (Ev.pos (by omega) (Ev.pos (by omega) ?_))));rw[ou,ou]
    by_cases e:a.getD j ey=b.getD j ey
    ·rw[e]
     refine Ev.neg (by simp) ?_;rw[show Ee ((j:Int)+1)=((j+1:Nat):Int) by rw[dO (by omega) (by omega)];rfl];exact Ev.eq (ih (j+1) (by omega) (by omega)) (by simp)
    ·have ne:¬((a.getD j ey).f0=(b.getD j ey).f0∧(a.getD j ey).f1=(b.getD j ey).f1):=fun h=>e (by
      revert h
      generalize a.getD j ey=p
      generalize b.getD j ey=q
      obtain⟨p0,p1⟩:=p;obtain⟨q0,q1⟩:=q;rintro⟨h1,h2⟩;simp only at h1 h2
      rw[h1,h2])
     refine Ev.pos ?_ (Ev.now' ?_)
     ·simp only[aa9,Bool.not_eq_true',beq_eq_false_iff_ne,ne_eq]
      by_cases h1:(a.getD j ey).f0=(b.getD j ey).f0
      ·exact .inr (fun h2=>ne ⟨h1,h2⟩)
      ·exact .inl h1
     ·rw[decide_eq_false]
      intro h
      injection h with h1 h2
      exact e h1
  have:=loop a.length 0 rfl (pu _);rw[aaL,aaL]at this;exact this
 ·exact Ev.neg c (Ev.now' (by rw[decide_eq_false];intro h;exact c (by rw[h])))
theorem same_l(a b:List X_):∀k m j,kS.l0 k a b m j=jN.l0 k a b m j
 |0,m,j=>by rw[kS.l0,jN.l0]
 |k+1,m,j=>by rw[kS.l0,jN.l0,same_l a b k]
theorem same_i(a b:List X_)(ha:a.length≤2000000):Ev (fun k=>kS.f k a b) (decide (a=b)):=by
 have h:=QL a b ha;unfold jN.f at h;unfold kS.f;exact Ev.congr (fun k=>by rw[same_l]) h
def vr(l:List X_)(n:Int)(j:Nat):Prop:=
 ¬(0≤(l.getD j ey).f0∧1≤(l.getD j ey).f1∧(l.getD j ey).f1≤n∧(l.getD j ey).f0≤n-(l.getD j ey).f1)∨
 0<j∧Ee ((l.getD (j-1) ey).f0+(l.getD (j-1) ey).f1)≥ (l.getD j ey).f0
open Classical in
noncomputable def pV(l:List X_)(n:Int):Nat→Nat→Bool
 |0,_=>true
 |d+1,j=>if vr l n j then false else pV l n d (j+1)
theorem place_s(l:List X_)(n:Int)(hl:l.length≤1048576)(hn1:1≤n)(hn2:n≤400):∀ (d j:Nat),l.length-j=d→j≤l.length→
 Ev (fun k=>iH.l0 k l n l (l.length:Int) (j:Int)) (pV l n d j&&decide ((l.length:Int)≤60)):=by
 intro d
 induction d with
 |zero=>
  intro j hd hj;refine Ev.step (fun k=>by rw[iH.l0]) (Ev.neg (by omega) (Ev.ct _ (Gc _ _ _) ?_));exact Ev.pos (by simpa using And.intro hn1 hn2) (Ev.now' (by simp[pV]))
 |succ d ih=>
  intro j hd hj
  have hlt:j<l.length:=by omega
  have nx:Ev (fun k=>iH.l0 k l n l (l.length:Int) (wrap64 ((j:Int)+1))) (pV l n d (j+1)&&decide ((l.length:Int)≤60)):=by
   rw[show Ee ((j:Int)+1)=((j+1:Nat):Int) by rw[dO (by omega) (by omega)];rfl];exact ih (j+1) (by omega) (by omega)
  refine Ev.step (fun k=>by rw[iH.l0]) (Ev.pos (by omega) (Ev.pos (by omega) (Ev.pos (by omega) ?_)));rw[ou,pV];obtain⟨x,hx⟩:∃x,x=l.getD j ey:=⟨_,rfl⟩;rw[←hx]
  by_cases b:vr l n j
  ·rw[if_pos b]
   unfold vr at b;rw[←hx]at b
   by_cases c1:x.f0<0
   ·exact Ev.pos c1 (Ev.now' rfl)
   refine Ev.neg c1 ?_
   by_cases c2:x.f1<1
   ·exact Ev.pos c2 (Ev.now' rfl)
   refine Ev.neg c2 ?_
   by_cases c3:x.f1>n
   ·exact Ev.pos c3 (Ev.now' rfl)
   refine Ev.neg c3 ?_;rw[dO (show -9223372036854775808≤n-x.f1 by omega) (by omega)]
   by_cases c4:x.f0>n-x.f1
   ·exact Ev.pos c4 (Ev.now' rfl)
   refine Ev.neg c4 ?_
   rcases b with b|⟨b0,b1⟩
   ·exact absurd ⟨by omega,by omega,by omega,by omega⟩ b
   ·refine Ev.pos (by omega) ?_
    rw[show Ee ((j:Int)-1)=((j-1:Nat):Int) by rw[dO (by omega) (by omega)];omega];refine Ev.pos (by omega) (Ev.pos (by omega) ?_);rw[ou];exact Ev.pos b1 (Ev.now' rfl)
  ·rw[if_neg b]
   unfold vr at b;rw[←hx]at b
   have b1:0≤x.f0∧1≤x.f1∧x.f1≤n∧x.f0≤n-x.f1:=Classical.byContradiction fun h=>b (.inl h)
   refine Ev.neg (by omega) (Ev.neg (by omega) (Ev.neg (by omega) ?_));rw[dO (show -9223372036854775808≤n-x.f1 by omega) (by omega)];refine Ev.neg (by omega) ?_
   by_cases c5:(j:Int)>0
   ·refine Ev.pos c5 ?_
    rw[show Ee ((j:Int)-1)=((j-1:Nat):Int) by rw[dO (by omega) (by omega)];omega];refine Ev.pos (by omega) (Ev.pos (by omega) ?_);rw[ou];exact Ev.neg (fun h=>b (.inr ⟨by omega,h⟩)) nx
   ·exact Ev.neg c5 nx
theorem place_out(l:List X_)(n:Int)(hl:l.length≤1048576)(hn:¬(1≤n∧n≤400)):∀ (d j:Nat),l.length-j=d→j≤l.length→
 Ev (fun k=>iH.l0 k l n l (l.length:Int) (j:Int)) false:=by
 intro d
 induction d with
 |zero=>
  intro j hd hj;refine Ev.step (fun k=>by rw[iH.l0]) (Ev.neg (by omega) (Ev.ct _ (Gc _ _ _) (Ev.neg ?_ (Ev.now _))))
  simpa using hn
 |succ d ih=>
  intro j hd hj
  have nx:Ev (fun k=>iH.l0 k l n l (l.length:Int) (wrap64 ((j:Int)+1))) false:=by
   rw[show Ee ((j:Int)+1)=((j+1:Nat):Int) by rw[dO (by omega) (by omega)];rfl];exact ih (j+1) (by omega) (by omega)
  refine Ev.step (fun k=>by rw[iH.l0]) (Ev.pos (by omega) (Ev.pos (by omega) (Ev.pos (by omega) ?_)));refine Ev.ite (fun _=>Ev.now _) (fun _=>Ev.ite (fun _=>Ev.now _) (fun _=>Ev.ite (fun _=>Ev.now _) (fun _=>Ev.ite (fun _=>Ev.now _) (fun _=>Ev.ite (fun c=> ?_) (fun _=>nx)))));rw[show Ee ((j:Int)-1)=((j-1:Nat):Int) by rw[dO (by omega) (by omega)];omega];exact Ev.pos (by omega) (Ev.pos (by omega) (Ev.ite (fun _=>Ev.now _) (fun _=>nx)))
theorem place_i(l m:List X_)(n:Int)(hl:l.length≤60)(hn1:1≤n)(hn2:n≤400):∀ (d j:Nat),l.length-j=d→j≤l.length→
 Ev (fun k=>cH.l0 k l (l.length:Int) (j:Int) n l m) (pV l n d j&&decide (fO [] l=m)):=by
 intro d
 induction d with
 |zero=>
  intro j hd hj
  have e1:ya.f n l=some (n,l,fO [] l):=by
   unfold ya.f oE.f;rw[if_pos (by omega),N6];unfold ub.f;rw[if_pos (by omega),N6,isort_eq]
  refine Ev.step (fun k=>by rw[cH.l0]) (Ev.neg (by omega) (Ev.ct _ e1 ?_));exact Ev.bind' _ (same_i (fO [] l) m (by rw[wy,aar];omega)) (Ev.now' (by simp[pV]))
 |succ d ih=>
  intro j hd hj
  have hlt:j<l.length:=by omega
  have nx:Ev (fun k=>cH.l0 k l (l.length:Int) (wrap64 ((j:Int)+1)) n l m) (pV l n d (j+1)&&decide (fO [] l=m)):=by
   rw[show Ee ((j:Int)+1)=((j+1:Nat):Int) by rw[dO (by omega) (by omega)];rfl];exact ih (j+1) (by omega) (by omega)
  refine Ev.step (fun k=>by rw[cH.l0]) (Ev.pos (by omega) (Ev.pos (by omega) (Ev.pos (by omega) ?_)));rw[ou,pV];obtain⟨x,hx⟩:∃x,x=l.getD j ey:=⟨_,rfl⟩;rw[←hx]
  have e1:nJ.f x.f0 x.f1 n=some (decide (0≤x.f0∧1≤x.f1∧x.f1≤n∧x.f0≤n-x.f1)):=by
   unfold nJ.f;rw[xM,dO (show -9223372036854775808≤n-1 by omega) (by omega),N6]
   by_cases c:0≤x.f0∧x.f0≤n-1
   ·rw[if_pos (by simpa using c),xM,dO (show -9223372036854775808≤n-x.f0 by omega) (by omega),N6]
    congr 1
    exact ON ⟨fun h=>⟨by omega,by omega,by omega,by omega⟩,fun h=>⟨by omega,by omega⟩⟩
   ·rw[if_neg (by simpa using c)]
    congr 1
    exact(OM (fun h=>c ⟨h.1,by omega⟩)).symm
  refine Ev.ct _ e1 ?_
  by_cases b:vr l n j
  ·rw[if_pos b]
   unfold vr at b;rw[←hx]at b
   by_cases b2:0≤x.f0∧1≤x.f1∧x.f1≤n∧x.f0≤n-x.f1
   ·rcases b with b|⟨b0,b1⟩
    ·exact absurd b2 b
    refine Ev.pos (by simpa using b2) (Ev.pos (by omega) ?_);rw[show Ee ((j:Int)-1)=((j-1:Nat):Int) by rw[dO (by omega) (by omega)];omega];refine Ev.pos (by omega) (Ev.pos (by omega) ?_);rw[ou];exact Ev.pos b1 (Ev.now' rfl)
   ·exact Ev.neg (by simpa using b2) (Ev.now' rfl)
  ·rw[if_neg b]
   unfold vr at b;rw[←hx]at b
   have b1:0≤x.f0∧1≤x.f1∧x.f1≤n∧x.f0≤n-x.f1:=Classical.byContradiction fun h=>b (.inl h)
   refine Ev.pos (by simpa using b1) ?_
   by_cases c5:(j:Int)>0
   ·refine Ev.pos c5 ?_
    rw[show Ee ((j:Int)-1)=((j-1:Nat):Int) by rw[dO (by omega) (by omega)];omega];refine Ev.pos (by omega) (Ev.pos (by omega) ?_);rw[ou];exact Ev.neg (fun h=>b (.inr ⟨by omega,h⟩)) nx
   ·exact Ev.neg c5 nx
theorem yZ(n:Int)(l m:List X_)(hl:l.length≤1048576):∃r,Ev (fun k=>gb.f k n l m) r∧Ev (fun k=>cH.f k n l m) r∧(r=true→1≤n∧n≤400∧l.length≤60):=by
 have bad:Ev (fun k=>cH.j0 k true n l m) false:=Ev.step (fun k=>by rw[cH.j0]) (Ev.pos rfl (Ev.now _));unfold gb.f cH.f iH.f
 by_cases c1:1≤n∧n≤400
 ·have e1:Ev (fun k=>iH.l0 k l n l (l.length:Int) 0) (pV l n l.length 0&&decide ((l.length:Int)≤60)):=place_s l n hl c1.1 c1.2 l.length 0 rfl (pu _)
  by_cases c2:(l.length:Int)≤60
  ·have e2:Ev (fun k=>cH.l0 k l (l.length:Int) 0 n l m) (pV l n l.length 0&&decide (fO [] l=m)):=place_i l m n (by omega) c1.1 c1.2 l.length 0 rfl (pu _)
   have hd:decide ((l.length:Int)>60)=false:=decide_eq_false (by omega);rw[decide_eq_true c2,Bool.and_true]at e1;refine⟨_,Ev.bind' _ e1 ?_,Ev.ct _ (xM _ _ _) (Ev.pos (by simpa using c1) (by rw[hd];exact Ev.step (fun k=>by rw[cH.j0]) (Ev.neg eI e2))),fun _=>⟨c1.1,c1.2,by omega⟩⟩
   cases hp:pV l n l.length 0 with
   |false=>exact Ev.neg eI (Ev.now' rfl)
   |true=>exact Ev.pos rfl (Ev.bind' _ (xL l hl) (Ev.bind' _ (QL _ m (by rw[wy,aar];omega)) (Ev.now' (by rw[Bool.true_and]))))
  ·have hd:decide ((l.length:Int)>60)=true:=decide_eq_true (by omega)
   rw[decide_eq_false c2,Bool.and_false]at e1;exact⟨false,Ev.bind' _ e1 (Ev.neg eI (Ev.now _)),Ev.ct _ (xM _ _ _) (Ev.pos (by simpa using c1) (by rw[hd];exact bad)),fun h=>by cases h⟩
 ·exact⟨false,Ev.bind' _ (place_out l n hl c1 l.length 0 rfl (pu _)) (Ev.neg eI (Ev.now _)),Ev.ct _ (xM _ _ _) (Ev.neg (by simpa using c1) bad),fun h=>by cases h⟩
end Go.Proofs.Ytahnkgehlfdlkaa.Q
