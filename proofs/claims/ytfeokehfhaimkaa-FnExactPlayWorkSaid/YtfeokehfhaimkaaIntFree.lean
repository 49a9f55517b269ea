/- GoodFree of the reference and of the program: the same answer. -/
import Derived.Test.YtfeokehfhaimkaaKit
import Derived.Test.YtfeokehfhaimkaaG3
import Derived.Test.YtfeokehfhaimkaaG4
open Bool renaming false_ne_true→db,or_eq_true→aaS
open Go.RowKit renaming wrap64→Gj
open List renaming drop_eq_nil_of_le→aae,length_nil→aan,append_assoc→aas,drop_zero→aaz,nil_append→aaG,Pairwise→abQ
open Nat renaming zero_le→bp
open Option renaming bind_some→Gm
namespace Go.Proofs.Ytfeokehfhaimkaa.Q
open Go.RowKit Go.Proofs.YtfeokehfhaimkaaW.PrintWords Go.Proofs.Ytfeokehfhaimkaa.G
set_option linter.unusedVariables false
set_option linter.unusedSimpArgs false
abbrev X_:=Y
instance decX(a b:X_):Decidable (a=b):=
 if h:a.f0=b.f0∧a.f1=b.f1 then isTrue (by
  obtain⟨a0,a1⟩:=a;obtain⟨b0,b1⟩:=b;obtain⟨h1,h2⟩:=h;simp only at h1 h2
  rw[h1,h2])else isFalse (fun e=>h (by rw[e];exact⟨rfl,rfl⟩))
theorem ph(l:List X_)(i:Nat):aD l (i:Int)=l.getD i z45:=by simp[aD]
theorem Te(x lo hi:Int):lr.f x lo hi=some (decide (lo≤x∧x≤hi)):=by
 unfold lr.f
 by_cases h:x≥lo
 ·rw[if_pos h];simp[show lo≤x from h]
 ·rw[if_neg h];simp[show¬lo≤x from h]
theorem ua(x lo hi:Int):jH.f x lo hi=some (decide (lo≤x∧x≤hi)):=by
 unfold jH.f
 by_cases h:x≥lo
 ·rw[if_pos h];simp[show lo≤x from h]
 ·rw[if_neg h];simp[show¬lo≤x from h]
def Gg(y x:X_):Bool:=decide (y.f1<x.f1∨y.f1=x.f1∧y.f0<x.f0)
theorem less_eq(y x:X_):Dl.f y.f0 y.f1 x.f0 x.f1=some (Gg y x):=by
 unfold Dl.f Gg
 by_cases h:y.f1<x.f1
 ·rw[if_pos h];simp[h]
 ·rw[if_neg h]
  by_cases h2:y.f1=x.f1
  ·rw[if_pos h2];simp[h,h2]
  ·rw[if_neg h2];simp[h,h2]
def tF(x:X_):List X_→List X_
 |[]=>[x]
 |y::t=>if Gg y x=true then y::tF x t else x::y::t
theorem Ut(x:X_):∀l,(tF x l).length=l.length+1
 |[]=>rfl
 |y::t=>by
  unfold tF
  split
  ·simp[Ut x t]
  ·simp
theorem Vo(x:X_):∀l,(tF x l).Perm (x::l)
 |[]=>List.Perm.refl _
 |y::t=>by
  unfold tF
  split
  ·exact((Vo x t).cons y).trans (List.Perm.swap x y t)
  ·exact List.Perm.refl _
theorem ins_mem {x z:X_}{l:List X_}(h:z∈tF x l):z=x∨z∈l:=by
 have:=(Vo x l).mem_iff.1 h
 simpa using this
def BQ(a b:X_):Prop:=CP a b=true
theorem AF(a b:X_):BQ a b↔ (a.f1<b.f1∨a.f1=b.f1∧a.f0≤b.f0):=by unfold BQ CP;simp
theorem ins_sorted(x:X_):∀l,abQ BQ l→abQ BQ (tF x l)
 |[],_=>by simp[tF]
 |y::t,h=>by
  obtain⟨h1,h2⟩:=List.pairwise_cons.1 h;unfold tF
  by_cases c:Gg y x=true
  ·rw[if_pos c]
   refine List.pairwise_cons.2 ⟨fun z hz=> ?_,ins_sorted x t h2⟩
   rcases ins_mem hz with rfl|hz
   ·rw[AF]
    unfold Gg at c
    simp at c
    omega
   ·exact h1 z hz
  ·rw[if_neg c]
   refine List.pairwise_cons.2 ⟨fun z hz=> ?_,h⟩
   have hxy:BQ x y:=by
    rw[AF];unfold Gg at c
    simp at c
    omega
   rcases List.mem_cons.1 hz with rfl|hz
   ·exact hxy
   ·have:=h1 z hz
    rw[AF]at this hxy⊢
    omega
def ff:List X_→List X_→List X_
 |acc,[]=>acc
 |acc,x::t=>ff (tF x acc) t
theorem Bs:∀ (l acc:List X_),(ff acc l).length=acc.length+l.length
 |[],acc=>by simp[ff]
 |x::t,acc=>by rw[ff,Bs t,Ut,List.length_cons];omega
theorem isort_perm:∀ (l acc:List X_),(ff acc l).Perm (acc++l)
 |[],acc=>by simp[ff]
 |x::t,acc=>by
  rw[ff];exact(isort_perm t _).trans (((Vo x acc).append_right t).trans (by simpa using List.perm_middle.symm))
theorem isort_sorted:∀ (l acc:List X_),abQ BQ acc→abQ BQ (ff acc l)
 |[],acc,h=>h
 |x::t,acc,h=>isort_sorted t _ (ins_sorted x acc h)
theorem isort_eq(l:List X_):ff [] l=l.mergeSort CP:=by
 refine List.Perm.eq_of_pairwise (le:=BQ) (fun a b _ _ h1 h2=> ?_) (isort_sorted l [] abQ.nil) (List.pairwise_mergeSort (fun a b c h1 h2=> ?_) (fun a b=> ?_) l) ((isort_perm l []).trans (List.mergeSort_perm l CP).symm)
 ·rw[AF]at h1 h2
  obtain⟨a0,a1⟩:=a;obtain⟨b0,b1⟩:=b;simp only at h1 h2;rw[show a0=b0 by omega,show a1=b1 by omega]
 ·have h1':=(AF a b).1 h1
  have h2':=(AF b c).1 h2;exact(AF a c).2 (by omega)
 ·have e1:=AF a b
  have e2:=AF b a;unfold BQ at e1 e2;rw[aaS,e1,e2]
  omega
theorem bysize_inner(x3 x8:List X_)(x9 fy:Int)(x:X_)(r:List X_)(h3:x3.length≤2000000):
 ∀ (d j:Nat),x3.length-j=d→j≤x3.length→Ev (fun k=>dA.l0 k (x3.take j++tF x (x3.drop j)) x8 x9 (Gj (fy+1))) r→
 Ev (fun k=>dA.l1 k x3 (j:Int) x8 x9 fy x.f0 x.f1) r:=by
 have stop:∀ (j:Nat),j≤x3.length→Ev (fun k=>dA.l0 k (x3.take j++([x]++x3.drop j)) x8 x9 (Gj (fy+1))) r→
  Ev (fun k=>if(j:Int)≤(x3.length:Int)then((some (x3.take ((j:Int)).toNat:List (X_))).bind fun ot=>(if([]:List (X_)).length+ot.length<8796093022208 then((some (([]:List (X_))++ot:List (X_))).bind fun sl=>(if sl.length<8796093022208 then((some (sl++[(⟨x.f0,x.f1⟩:X_)]:List (X_))).bind fun y114=>((some (x3.drop ((j:Int)).toNat:List (X_))).bind fun ku=>(if y114.length+ku.length<8796093022208 then(dA.l0 k (y114++ku) x8 x9 (wrap64 (fy+1)))else(none))))else(none)))else(none)))else(none)) r:=by
  intro j hj h
  have hl:(x3.take j).length≤2000000:=by rw[List.length_take];omega
  have hd:(x3.drop j).length≤2000000:=by rw[List.length_drop];omega
  refine Ev.pos (by omega) ?_;simp only[Gm,Int.toNat_natCast,aaG];refine Ev.pos (by simp only[aan];omega) (Ev.pos (by omega) (Ev.pos (by simp only[List.length_append,List.length_singleton];omega) ?_));rw[aas];exact h
 intro d
 induction d with
 |zero=>
  intro j hd hj h;have e:x3.drop j=[]:=aae (by omega);rw[e]at h;refine Ev.step (fun k=>by rw[dA.l1]) (Ev.neg (by omega) (Ev.pos (by omega) ?_));have:=stop j hj (by rw[e];exact h);exact this
 |succ d ih=>
  intro j hd hj h
  have hlt:j<x3.length:=by omega
  have ed:x3.drop j=x3.getD j z45::x3.drop (j+1):=oI x3 j z45 hlt;refine Ev.step (fun k=>by rw[dA.l1]) (Ev.pos (by omega) (Ev.pos (by omega) ?_));rw[ph];refine Ev.dq _ (less_eq _ x) ?_
  by_cases c:Gg (x3.getD j z45) x=true
  ·refine Ev.pos c ?_
   rw[show Gj ((j:Int)+1)=((j+1:Nat):Int) by rw[bv (by omega) (by omega)];rfl];refine ih (j+1) (by omega) (by omega) ?_;rw[xx x3 j z45 hlt,aas,List.singleton_append];rw[ed,tF,if_pos c]at h;exact h
  ·refine Ev.neg c (stop j hj ?_)
   rw[ed]at h⊢;rw[tF,if_neg c]at h;exact h
theorem Gz(l:List X_)(hl:l.length≤1048576):Ev (fun k=>dA.f k l) (ff [] l):=by
 have loop:∀ (d j:Nat) (acc:List X_),l.length-j=d→j≤l.length→acc.length=j→Ev (fun k=>dA.l0 k acc l (l.length:Int) (j:Int)) (ff acc (l.drop j)):=by
  intro d
  induction d with
  |zero=>
   intro j acc hd hj ha;have e:l.drop j=[]:=aae (by omega);rw[e];refine Ev.step (fun k=>by rw[dA.l0]) (Ev.neg ?_ (Ev.now' (show acc=ff acc []from rfl)))
   omega
  |succ d ih=>
   intro j acc hd hj ha
   have hlt:j<l.length:=by omega
   have ed:l.drop j=l.getD j z45::l.drop (j+1):=oI l j z45 hlt;have h:=ih (j+1) (tF (l.getD j z45) acc) (by omega) (by omega) (by rw[Ut];omega);refine Ev.step (fun k=>by rw[dA.l0]) (Ev.pos (by omega) (Ev.pos (by omega) (Ev.pos (by omega) ?_)));rw[ph]
   have:=bysize_inner acc l (l.length:Int) (j:Int) (l.getD j z45) (ff acc (l.drop j)) (by omega) acc.length 0 rfl (bp _) (by
    rw[show Gj ((j:Int)+1)=((j+1:Nat):Int) by rw[bv (by omega) (by omega)];rfl,List.take_zero,aaG,aaz,ed,ff]
    exact h)
   exact this
 have:=loop l.length 0 [] rfl (bp _) rfl;unfold dA.f;exact this
theorem SY(a b:List X_)(ha:a.length≤2000000):Ev (fun k=>iT.f k a b) (decide (a=b)):=by
 unfold iT.f
 by_cases c:(a.length:Int)=(b.length:Int)
 ·refine Ev.pos c ?_
  have loop:∀ (d j:Nat),a.length-j=d→j≤a.length→Ev (fun k=>iT.l0 k a b (a.length:Int) (j:Int)) (decide (a.drop j=b.drop j)):=by
   intro d
   induction d with
   |zero=>
    intro j hd hj;rw[aae (show a.length≤j by omega),aae (show b.length≤j by omega)];exact Ev.step (fun k=>by rw[iT.l0]) (Ev.neg (by omega) (Ev.now' (by simp)))
   |succ d ih=>
    intro j hd hj;rw[oI a j z45 (by omega),oI b j z45 (by omega)];refine Ev.step (fun k=>by rw[iT.l0]) (Ev.pos (by omega) (Ev.pos (by omega) (Ev.pos (by omega) (Ev.pos (by omega) ?_))));rw[ph,ph]
    by_cases e:a.getD j z45=b.getD j z45
    ·rw[e]
     refine Ev.neg (by simp) ?_;rw[show Gj ((j:Int)+1)=((j+1:Nat):Int) by rw[bv (by omega) (by omega)];rfl];exact Ev.eq (ih (j+1) (by omega) (by omega)) (by simp)
    ·have ne:¬((a.getD j z45).f0=(b.getD j z45).f0∧(a.getD j z45).f1=(b.getD j z45).f1):=fun h=>e (by
      revert h
      generalize a.getD j z45=p
      generalize b.getD j z45=q
      obtain⟨p0,p1⟩:=p;obtain⟨q0,q1⟩:=q;rintro⟨h1,h2⟩;simp only at h1 h2
      rw[h1,h2])
     refine Ev.pos ?_ (Ev.now' ?_)
     ·simp only[aaS,Bool.not_eq_true',beq_eq_false_iff_ne,ne_eq]
      by_cases h1:(a.getD j z45).f0=(b.getD j z45).f0
      ·exact .inr (fun h2=>ne ⟨h1,h2⟩)
      ·exact .inl h1
     ·rw[decide_eq_false]
      intro h
      injection h with h1 h2
      exact e h1
  have:=loop a.length 0 rfl (bp _);rw[aaz,aaz]at this;exact this
 ·exact Ev.neg c (Ev.now' (by rw[decide_eq_false];intro h;exact c (by rw[h])))
theorem same_l(a b:List X_):∀k m j,jj.l0 k a b m j=iT.l0 k a b m j
 |0,m,j=>by rw[jj.l0,iT.l0]
 |k+1,m,j=>by rw[jj.l0,iT.l0,same_l a b k]
theorem same_i(a b:List X_)(ha:a.length≤2000000):Ev (fun k=>jj.f k a b) (decide (a=b)):=by
 have h:=SY a b ha;unfold iT.f at h;unfold jj.f;exact Ev.congr (fun k=>by rw[same_l]) h
def wm(l:List X_)(n:Int)(j:Nat):Prop:=
 ¬(0≤(l.getD j z45).f0∧1≤(l.getD j z45).f1∧(l.getD j z45).f1≤n∧(l.getD j z45).f0≤n-(l.getD j z45).f1)∨
 0<j∧Gj ((l.getD (j-1) z45).f0+(l.getD (j-1) z45).f1)≥ (l.getD j z45).f0
open Classical in
noncomputable def pl(l:List X_)(n:Int):Nat→Nat→Bool
 |0,_=>true
 |d+1,j=>if wm l n j then false else pl l n d (j+1)
theorem place_s(l:List X_)(n:Int)(hl:l.length≤1048576)(hn1:1≤n)(hn2:n≤400):∀ (d j:Nat),l.length-j=d→j≤l.length→
 Ev (fun k=>gI.l0 k l n l (l.length:Int) (j:Int)) (pl l n d j&&decide ((l.length:Int)≤60)):=by
 intro d
 induction d with
 |zero=>
  intro j hd hj;refine Ev.step (fun k=>by rw[gI.l0]) (Ev.neg (by omega) (Ev.dq _ (Te _ _ _) ?_));exact Ev.pos (by simpa using And.intro hn1 hn2) (Ev.now' (by simp[pl]))
 |succ d ih=>
  intro j hd hj
  have hlt:j<l.length:=by omega
  have nx:Ev (fun k=>gI.l0 k l n l (l.length:Int) (wrap64 ((j:Int)+1))) (pl l n d (j+1)&&decide ((l.length:Int)≤60)):=by
   rw[show Gj ((j:Int)+1)=((j+1:Nat):Int) by rw[bv (by omega) (by omega)];rfl];exact ih (j+1) (by omega) (by omega)
  refine Ev.step (fun k=>by rw[gI.l0]) (Ev.pos (by omega) (Ev.pos (by omega) (Ev.pos (by omega) ?_)));rw[ph,pl];obtain⟨x,hx⟩:∃x,x=l.getD j z45:=⟨_,rfl⟩;rw[←hx]
  by_cases b:wm l n j
  ·rw[if_pos b]
   unfold wm at b;rw[←hx]at b
   by_cases c1:x.f0<0
   ·exact Ev.pos c1 (Ev.now' rfl)
   refine Ev.neg c1 ?_
   by_cases c2:x.f1<1
   ·exact Ev.pos c2 (Ev.now' rfl)
   refine Ev.neg c2 ?_
   by_cases c3:x.f1>n
   ·exact Ev.pos c3 (Ev.now' rfl)
   refine Ev.neg c3 ?_;rw[bv (show -9223372036854775808≤n-x.f1 by omega) (by omega)]
   by_cases c4:x.f0>n-x.f1
   ·exact Ev.pos c4 (Ev.now' rfl)
   refine Ev.neg c4 ?_
   rcases b with b|⟨b0,b1⟩
   ·exact absurd ⟨by omega,by omega,by omega,by omega⟩ b
   ·refine Ev.pos (by omega) ?_
    rw[show Gj ((j:Int)-1)=((j-1:Nat):Int) by rw[bv (by omega) (by omega)];omega];refine Ev.pos (by omega) (Ev.pos (by omega) ?_);rw[ph];exact Ev.pos b1 (Ev.now' rfl)
  ·rw[if_neg b]
   unfold wm at b;rw[←hx]at b
   have b1:0≤x.f0∧1≤x.f1∧x.f1≤n∧x.f0≤n-x.f1:=Classical.byContradiction fun h=>b (.inl h)
   refine Ev.neg (by omega) (Ev.neg (by omega) (Ev.neg (by omega) ?_));rw[bv (show -9223372036854775808≤n-x.f1 by omega) (by omega)];refine Ev.neg (by omega) ?_
   by_cases c5:(j:Int)>0
   ·refine Ev.pos c5 ?_
    rw[show Gj ((j:Int)-1)=((j-1:Nat):Int) by rw[bv (by omega) (by omega)];omega];refine Ev.pos (by omega) (Ev.pos (by omega) ?_);rw[ph];exact Ev.neg (fun h=>b (.inr ⟨by omega,h⟩)) nx
   ·exact Ev.neg c5 nx
theorem place_out(l:List X_)(n:Int)(hl:l.length≤1048576)(hn:¬(1≤n∧n≤400)):∀ (d j:Nat),l.length-j=d→j≤l.length→
 Ev (fun k=>gI.l0 k l n l (l.length:Int) (j:Int)) false:=by
 intro d
 induction d with
 |zero=>
  intro j hd hj;refine Ev.step (fun k=>by rw[gI.l0]) (Ev.neg (by omega) (Ev.dq _ (Te _ _ _) (Ev.neg ?_ (Ev.now _))))
  simpa using hn
 |succ d ih=>
  intro j hd hj
  have nx:Ev (fun k=>gI.l0 k l n l (l.length:Int) (wrap64 ((j:Int)+1))) false:=by
   rw[show Gj ((j:Int)+1)=((j+1:Nat):Int) by rw[bv (by omega) (by omega)];rfl];exact ih (j+1) (by omega) (by omega)
  refine Ev.step (fun k=>by rw[gI.l0]) (Ev.pos (by omega) (Ev.pos (by omega) (Ev.pos (by omega) ?_)));refine Ev.ite (fun _=>Ev.now _) (fun _=>Ev.ite (fun _=>Ev.now _) (fun _=>Ev.ite (fun _=>Ev.now _) (fun _=>Ev.ite (fun _=>Ev.now _) (fun _=>Ev.ite (fun c=> ?_) (fun _=>nx)))));rw[show Gj ((j:Int)-1)=((j-1:Nat):Int) by rw[bv (by omega) (by omega)];omega];exact Ev.pos (by omega) (Ev.pos (by omega) (Ev.ite (fun _=>Ev.now _) (fun _=>nx)))
theorem place_i(l m:List X_)(n:Int)(hl:l.length≤60)(hn1:1≤n)(hn2:n≤400):∀ (d j:Nat),l.length-j=d→j≤l.length→
 Ev (fun k=>cV.l0 k l (l.length:Int) (j:Int) n l m) (pl l n d j&&decide (ff [] l=m)):=by
 intro d
 induction d with
 |zero=>
  intro j hd hj
  have e1:zD.f n l=some (n,l,ff [] l):=by
   unfold zD.f mq.f;rw[if_pos (by omega),Gm];unfold tG.f;rw[if_pos (by omega),Gm,isort_eq]
  refine Ev.step (fun k=>by rw[cV.l0]) (Ev.neg (by omega) (Ev.dq _ e1 ?_));exact Ev.bind' _ (same_i (ff [] l) m (by rw[Bs,aan];omega)) (Ev.now' (by simp[pl]))
 |succ d ih=>
  intro j hd hj
  have hlt:j<l.length:=by omega
  have nx:Ev (fun k=>cV.l0 k l (l.length:Int) (wrap64 ((j:Int)+1)) n l m) (pl l n d (j+1)&&decide (ff [] l=m)):=by
   rw[show Gj ((j:Int)+1)=((j+1:Nat):Int) by rw[bv (by omega) (by omega)];rfl];exact ih (j+1) (by omega) (by omega)
  refine Ev.step (fun k=>by rw[cV.l0]) (Ev.pos (by omega) (Ev.pos (by omega) (Ev.pos (by omega) ?_)));rw[ph,pl];obtain⟨x,hx⟩:∃x,x=l.getD j z45:=⟨_,rfl⟩;rw[←hx]
  have e1:n5.f x.f0 x.f1 n=some (decide (0≤x.f0∧1≤x.f1∧x.f1≤n∧x.f0≤n-x.f1)):=by
   unfold n5.f;rw[ua,bv (show -9223372036854775808≤n-1 by omega) (by omega),Gm]
   by_cases c:0≤x.f0∧x.f0≤n-1
   ·rw[if_pos (by simpa using c),ua,bv (show -9223372036854775808≤n-x.f0 by omega) (by omega),Gm]
    congr 1
    exact Qk ⟨fun h=>⟨by omega,by omega,by omega,by omega⟩,fun h=>⟨by omega,by omega⟩⟩
   ·rw[if_neg (by simpa using c)]
    congr 1
    exact(Ql (fun h=>c ⟨h.1,by omega⟩)).symm
  refine Ev.dq _ e1 ?_
  by_cases b:wm l n j
  ·rw[if_pos b]
   unfold wm at b;rw[←hx]at b
   by_cases b2:0≤x.f0∧1≤x.f1∧x.f1≤n∧x.f0≤n-x.f1
   ·rcases b with b|⟨b0,b1⟩
    ·exact absurd b2 b
    refine Ev.pos (by simpa using b2) (Ev.pos (by omega) ?_);rw[show Gj ((j:Int)-1)=((j-1:Nat):Int) by rw[bv (by omega) (by omega)];omega];refine Ev.pos (by omega) (Ev.pos (by omega) ?_);rw[ph];exact Ev.pos b1 (Ev.now' rfl)
   ·exact Ev.neg (by simpa using b2) (Ev.now' rfl)
  ·rw[if_neg b]
   unfold wm at b;rw[←hx]at b
   have b1:0≤x.f0∧1≤x.f1∧x.f1≤n∧x.f0≤n-x.f1:=Classical.byContradiction fun h=>b (.inl h)
   refine Ev.pos (by simpa using b1) ?_
   by_cases c5:(j:Int)>0
   ·refine Ev.pos c5 ?_
    rw[show Gj ((j:Int)-1)=((j-1:Nat):Int) by rw[bv (by omega) (by omega)];omega];refine Ev.pos (by omega) (Ev.pos (by omega) ?_);rw[ph];exact Ev.neg (fun h=>b (.inr ⟨by omega,h⟩)) nx
   ·exact Ev.neg c5 nx
theorem Dj(n:Int)(l m:List X_)(hl:l.length≤1048576):∃r,Ev (fun k=>fc.f k n l m) r∧Ev (fun k=>cV.f k n l m) r∧(r=true→1≤n∧n≤400∧l.length≤60):=by
 have bad:Ev (fun k=>cV.j0 k true n l m) false:=Ev.step (fun k=>by rw[cV.j0]) (Ev.pos rfl (Ev.now _));unfold fc.f cV.f gI.f
 by_cases c1:1≤n∧n≤400
 ·have e1:Ev (fun k=>gI.l0 k l n l (l.length:Int) 0) (pl l n l.length 0&&decide ((l.length:Int)≤60)):=place_s l n hl c1.1 c1.2 l.length 0 rfl (bp _)
  by_cases c2:(l.length:Int)≤60
  ·have e2:Ev (fun k=>cV.l0 k l (l.length:Int) 0 n l m) (pl l n l.length 0&&decide (ff [] l=m)):=place_i l m n (by omega) c1.1 c1.2 l.length 0 rfl (bp _)
   have hd:decide ((l.length:Int)>60)=false:=decide_eq_false (by omega);rw[decide_eq_true c2,Bool.and_true]at e1;refine⟨_,Ev.bind' _ e1 ?_,Ev.dq _ (ua _ _ _) (Ev.pos (by simpa using c1) (by rw[hd];exact Ev.step (fun k=>by rw[cV.j0]) (Ev.neg db e2))),fun _=>⟨c1.1,c1.2,by omega⟩⟩
   cases hp:pl l n l.length 0 with
   |false=>exact Ev.neg db (Ev.now' rfl)
   |true=>exact Ev.pos rfl (Ev.bind' _ (Gz l hl) (Ev.bind' _ (SY _ m (by rw[Bs,aan];omega)) (Ev.now' (by rw[Bool.true_and]))))
  ·have hd:decide ((l.length:Int)>60)=true:=decide_eq_true (by omega)
   rw[decide_eq_false c2,Bool.and_false]at e1;exact⟨false,Ev.bind' _ e1 (Ev.neg db (Ev.now _)),Ev.dq _ (ua _ _ _) (Ev.pos (by simpa using c1) (by rw[hd];exact bad)),fun h=>by cases h⟩
 ·exact⟨false,Ev.bind' _ (place_out l n hl c1 l.length 0 rfl (bp _)) (Ev.neg db (Ev.now _)),Ev.dq _ (ua _ _ _) (Ev.neg (by simpa using c1) bad),fun h=>by cases h⟩
end Go.Proofs.Ytfeokehfhaimkaa.Q
