import Derived.Test.YtjojdplkgekagaaKit
import Derived.Test.YtjojdplkgekagaaG3
import Derived.Test.YtjojdplkgekagaaG6
open Classical renaming propDecidable→abc
namespace Go.Proofs.Ytjojdplkgekagaa.Q
open Go.RowKit Go.Proofs.YtjojdplkgekagaaW.PrintWords Go.Proofs.Ytjojdplkgekagaa.G
set_option linter.unusedVariables false
set_option linter.unusedSimpArgs false
def iF(p:a7):Prop:=0≤p.f0∧1≤p.f1∧p.f0+p.f1≤200∧0≤p.f2∧p.f2+p.f1≤400
def lE(p q:a7):Prop:=p.f0+p.f1=q.f0∧p.f2+p.f1=q.f2∧p.f3=q.f3
def n8(p q:a7):Prop:=p.f2+p.f1≤q.f2∨q.f2+q.f1≤p.f2
abbrev pz:a7:=rW
def xn(l:List a7)(i:Nat):Prop:=
 iF (l.getD i pz)∧(0<i→(l.getD (i-1) pz).f0+(l.getD (i-1) pz).f1≤(l.getD i pz).f0∧¬lE (l.getD (i-1) pz) (l.getD i pz))∧∀j,j<i→n8 (l.getD j pz) (l.getD i pz)
def dh(l:List a7):Prop:=l.length≤40∧∀i,i<l.length→xn l i
noncomputable instance(l:List a7):Decidable (dh l):=abc _
noncomputable instance(p:a7):Decidable (iF p):=abc _
noncomputable instance(p q:a7):Decidable (lE p q):=abc _
theorem wrap_in(x:Int): -9223372036854775808≤wrap64 x∧wrap64 x≤9223372036854775807:=by unfold wrap64;omega
theorem Hc(n a b:Int):j7.f n a b=some (decide (a≤n∧n≤b)):=by
 unfold j7.f
 by_cases h:n≥a
 ·rw[if_pos h];simp[show a≤n from h]
 ·rw[if_neg h];simp[show¬a≤n from h]
theorem yP(n a b:Int):hF.f n a b=some (decide (a≤n∧n≤b)):=by
 unfold hF.f
 by_cases h:n≥a
 ·rw[if_pos h];simp[show a≤n from h]
 ·rw[if_neg h];simp[show¬a≤n from h]
theorem Lh(p:a7):oy.f p.f0 p.f1 p.f2 p.f3=some (decide (iF p)):=by
 unfold oy.f;simp only[Hc,Option.bind_some,decide_eq_true_eq];unfold iF
 by_cases h1:0≤p.f0∧p.f0≤200
 ·rw[if_pos h1]
  by_cases h2:1≤p.f1∧p.f1≤200
  ·rw[if_pos h2,bg (by omega) (by omega),bg (by omega) (by omega)]
   by_cases h3:p.f0+p.f1≤200
   ·rw[if_pos h3];congr 1;exact YB (by omega)
   ·rw[if_neg h3];congr 1;exact(Gw (by omega)).symm
  ·rw[if_neg h2];congr 1;exact(Gw (by omega)).symm
 ·rw[if_neg h1];congr 1;exact(Gw (by omega)).symm
theorem isPiece_eq(p:a7):AT.f p.f0 p.f1 p.f2 p.f3=some (decide (iF p)):=by
 unfold AT.f;simp only[yP,Option.bind_some,decide_eq_true_eq];unfold iF
 by_cases h1:0≤p.f0∧p.f0≤199
 ·rw[if_pos h1,bg (by omega) (by omega)]
  by_cases h2:1≤p.f1∧p.f1≤200-p.f0
  ·rw[if_pos h2,bg (by omega) (by omega)]
   congr 1;exact YB (by omega)
  ·rw[if_neg h2];congr 1;exact(Gw (by omega)).symm
 ·rw[if_neg h1];congr 1;exact(Gw (by omega)).symm
theorem M2(p q:a7)(h:iF p):ss.f p.f0 p.f1 p.f2 p.f3 q.f0 q.f1 q.f2 q.f3=some (decide (lE p q)):=by
 unfold iF at h;unfold ss.f lE;rw[bg (by omega) (by omega),bg (by omega) (by omega)]
 by_cases h1:p.f0+p.f1=q.f0
 ·rw[if_pos h1]
  by_cases h2:p.f2+p.f1=q.f2
  ·rw[if_pos h2];congr 1;simp[h1,h2];cases p.f3<;>cases q.f3<;>rfl
  ·rw[if_neg h2];simp[h2]
 ·rw[if_neg h1];simp[h1]
theorem XE(p q:a7)(h:iF p):ri.f p.f0 p.f1 p.f2 p.f3 q.f0 q.f1 q.f2 q.f3=some (decide (lE p q)):=by
 rw[←M2 p q h];rfl
theorem kj(l:List a7)(i:Nat):I l (i:Int)=l.getD i pz:=by simp[I]
theorem EI {l:List a7}{i:Nat}(hi:i<l.length)(h:¬xn l i):decide (dh l)=false:=decide_eq_false fun g=>h (g.2 i hi)
theorem vo(l:List a7)(hl:l.length≤1048576):Ev (fun k=>br.f k l) (decide (dh l)):=by
 have inner:∀ (i:Nat) (_:i<l.length) (_:∀j,j≤i→iF (l.getD j pz)) (_:(∀j,j<i→n8 (l.getD j pz) (l.getD i pz))→Ev (fun k=>br.l0 k l (l.length:Int) ((i+1:Nat):Int) l) (decide (dh l))) (d j:Nat),i-j=d→j≤i→(∀j',j'<j→n8 (l.getD j' pz) (l.getD i pz))→
  Ev (fun k=>br.l1 k l (l.length:Int) (i:Int) (l.take i) ((l.take i).length:Int) (j:Int) l (l.getD i pz).f0 (l.getD i pz).f1 (l.getD i pz).f2 (l.getD i pz).f3) (decide (dh l)):=by
  intro i hi hp hnext d
  induction d with
  |zero=>
   intro j hd hj ha
   have:j=i:=by omega
   subst this;refine Ev.step (fun k=>by rw[br.l1]) ?_;refine Ev.neg (by simp;omega) ?_;rw[bg (by omega) (by omega)];exact hnext ha
  |succ d ih=>
   intro j hd hj ha
   have hlt:(l.take i).length=i:=by rw[List.length_take];omega
   have hr:I (l.take i) (j:Int)=l.getD j pz:=by
    rw[kj]
    simp[List.getD_eq_getElem?_getD,show j<i by omega]
   refine Ev.step (fun k=>by rw[br.l1]) ?_;rw[hlt,hr];have hpi:=hp i (Nat.le_refl _);have hpj:=hp j (by omega);unfold iF at hpi hpj;refine Ev.pos (by omega) (Ev.pos (by omega) (Ev.pos (by omega) ?_));rw[bg (x:=(l.getD i pz).f2+(l.getD i pz).f1) (by omega) (by omega),bg (x:=(l.getD j pz).f2+(l.getD j pz).f1) (by omega) (by omega),bg (x:=(j:Int)+1) (by omega) (by omega)]
   have rest:n8 (l.getD j pz) (l.getD i pz)→Ev (fun k=>br.l1 k l (l.length:Int) (i:Int) (l.take i) (i:Int) ((j:Int)+1) l (l.getD i pz).f0 (l.getD i pz).f1 (l.getD i pz).f2 (l.getD i pz).f3) (decide (dh l)):=by
    intro hap
    have:=ih (j+1) (by omega) (by omega) (fun j' hj'=>by
     by_cases e:j'=j
     ·subst e;exact hap
     ·exact ha j' (by omega))
    rw[hlt]at this;exact this
   refine Ev.ite (fun h1=> ?_) (fun h1=> ?_)
   ·refine Ev.ite (fun h2=> ?_) (fun h2=> ?_)
    ·refine Ev.now' (EI hi ?_).symm
     rintro⟨_,_,h3⟩;have:=h3 j (by omega);unfold n8 at this
     omega
    ·exact rest (by unfold n8;omega)
   ·exact rest (by unfold n8;omega)
 have loop:∀d i,l.length-i=d→i≤l.length→(∀j,j<i→xn l j)→Ev (fun k=>br.l0 k l (l.length:Int) (i:Int) l) (decide (dh l)):=by
  intro d
  induction d with
  |zero=>
   intro i hd hi hs
   have:i=l.length:=by omega
   subst this;refine Ev.step (fun k=>by rw[br.l0]) ?_;refine Ev.neg (by omega) (Ev.now' (decide_eq_decide.2 ?_));unfold dh;exact⟨fun h=>⟨by omega,hs⟩,fun h=>by have:=h.1;omega⟩
  |succ d ih=>
   intro i hd hi hs;refine Ev.step (fun k=>by rw[br.l0]) ?_;rw[kj];refine Ev.pos (by omega) (Ev.pos (by omega) (Ev.pos (by omega) (Ev.cW _ (Lh _) ?_)))
   by_cases hp:iF (l.getD i pz)
   ·refine Ev.pos (by simpa using hp) ?_
    have hall:∀j,j≤i→iF (l.getD j pz):=fun j hj=>by
     by_cases e:j=i
     ·subst e;exact hp
     ·exact(hs j (by omega)).1
    have join:∀b:Bool,b=decide (0<i∧((l.getD i pz).f0<(l.getD (i-1) pz).f0+(l.getD (i-1) pz).f1∨lE (l.getD (i-1) pz) (l.getD i pz)))→
     Ev (fun k=>br.j1 k (i:Int) l (l.length:Int) (i:Int) b l (l.getD i pz).f0 (l.getD i pz).f1 (l.getD i pz).f2 (l.getD i pz).f3) (decide (dh l)):=by
     intro b hb;refine Ev.step (fun k=>by rw[br.j1]) ?_
     by_cases hbad:0<i∧((l.getD i pz).f0<(l.getD (i-1) pz).f0+(l.getD (i-1) pz).f1∨lE (l.getD (i-1) pz) (l.getD i pz))
     ·rw[hb]
      refine Ev.pos (by simpa using hbad) (Ev.now' (EI (l:=l) (i:=i) (by omega) ?_).symm);rintro⟨_,h2,_⟩;obtain⟨h3,h4⟩:=h2 hbad.1
      rcases hbad.2 with h5|h5
      ·omega
      ·exact h4 h5
     ·rw[hb]
      refine Ev.neg (by simpa using hbad) ?_;refine Ev.pos (by omega) (Ev.pos (by omega) (Ev.cW _ rfl ?_));rw[Int.toNat_natCast];refine inner i (by omega) hall (fun ha=> ?_) i 0 rfl (by omega) (by intro j hj;omega);refine ih (i+1) (by omega) (by omega) (fun j hj=> ?_)
      by_cases e:j=i
      ·subst e
       refine⟨hp,fun h0=> ?_,ha⟩
       constructor
       ·exact Int.not_lt.1 fun h=>hbad ⟨h0,.inl h⟩
       ·exact fun h=>hbad ⟨h0,.inr h⟩
      ·exact hs j (by omega)
    by_cases h0:0<i
    ·refine Ev.pos (by omega) ?_
     have e1:wrap64 ((i:Int)-1)=((i-1:Nat):Int):=by rw[bg (by omega) (by omega)];omega
     have hpp:=hall (i-1) (by omega);rw[e1,kj];have hpp':=hpp;unfold iF at hpp';rw[bg (x:=(l.getD (i-1) pz).f0+(l.getD (i-1) pz).f1) (by omega) (by omega)];refine Ev.pos (by omega) (Ev.pos (by omega) (Ev.ite (fun h1=> ?_) (fun h1=> ?_)))
     ·refine join true ?_
      symm;exact decide_eq_true ⟨h0,.inl (by omega)⟩
     ·refine Ev.cW _ (M2 _ _ hpp) (join _ ?_)
      apply decide_eq_decide.2;exact⟨fun h=>⟨h0,.inr h⟩,fun h=>h.2.resolve_left (by omega)⟩
    ·refine Ev.neg (by omega) (join false ?_)
     symm;exact decide_eq_false (by omega)
   ·refine Ev.neg (by simpa using hp) (Ev.now' (EI (l:=l) (i:=i) (by omega) fun h=>hp h.1).symm)
 unfold br.f;exact loop l.length 0 rfl (by omega) (by intro j hj;omega)
def G7(l:List a7)(i:Nat)(b:Nat):Prop:=∃j,j<i∧(l.getD j pz).f2≤(b:Int)∧(b:Int)<(l.getD j pz).f2+(l.getD j pz).f1
theorem yE(l:List a7)(hl:l.length≤1048576):Ev (fun k=>bh.f k l) (decide (dh l)):=by
 have inner:∀ (i:Nat) (_:i<l.length) (_:∀j,j≤i→iF (l.getD j pz)) (_:∀u:List Bool,u.length=400→(∀b,b<400→(u.getD b false=true↔G7 l (i+1) b))→(∀j,j<i→n8 (l.getD j pz) (l.getD i pz))→Ev (fun k=>bh.l0 k u l (l.length:Int) ((i+1:Nat):Int) l) (decide (dh l))) (d x:Nat) (u:List Bool),(l.getD i pz).f1.toNat-x=d→(x:Int)≤(l.getD i pz).f1→u.length=400→
  (∀b,b<400→(u.getD b false=true↔G7 l i b∨((l.getD i pz).f2≤(b:Int)∧(b:Int)<(l.getD i pz).f2+x)))→(∀b:Nat,(l.getD i pz).f2≤(b:Int)→(b:Int)<(l.getD i pz).f2+x→¬G7 l i b)→
  Ev (fun k=>bh.l1 k u l (l.length:Int) (i:Int) (l.getD i pz).f1 (x:Int) l (l.getD i pz).f0 (l.getD i pz).f1 (l.getD i pz).f2 (l.getD i pz).f3) (decide (dh l)):=by
  intro i hi hp hnext d;have hpi:=hp i (Nat.le_refl _);unfold iF at hpi
  induction d with
  |zero=>
   intro x u hd hx hu hub hno
   have hxe:(x:Int)=(l.getD i pz).f1:=by omega
   refine Ev.step (fun k=>by rw[bh.l1]) ?_;refine Ev.neg (by omega) ?_;rw[bg (by omega) (by omega)];refine hnext u hu (fun b hb=>(hub b hb).trans ?_) ?_
   ·unfold G7
    constructor
    ·rintro(⟨j,hj,h⟩|h)
     ·exact⟨j,by omega,h⟩
     ·exact⟨i,by omega,h.1,by omega⟩
    ·rintro⟨j,hj,h⟩
     by_cases e:j=i
     ·subst e;exact .inr ⟨h.1,by omega⟩
     ·exact .inl ⟨j,by omega,h⟩
   ·intro j hj
    have hpj:=hp j (by omega);unfold iF at hpj;unfold n8
    refine Classical.byContradiction fun hcon=> ?_
    by_cases hle:(l.getD i pz).f2≤(l.getD j pz).f2
    ·exact hno (l.getD j pz).f2.toNat (by omega) (by omega) ⟨j,hj,by omega,by omega⟩
    ·exact hno (l.getD i pz).f2.toNat (by omega) (by omega) ⟨j,hj,by omega,by omega⟩
  |succ d ih=>
   intro x u hd hx hu hub hno;refine Ev.step (fun k=>by rw[bh.l1]) ?_;rw[bg (x:=(l.getD i pz).f2+(x:Int)) (by omega) (by omega),bg (x:=(x:Int)+1) (by omega) (by omega)];refine Ev.pos (by omega) (Ev.pos (by omega) (Ev.pos (by omega) ?_))
   have hb:((l.getD i pz).f2+(x:Int)).toNat<400:=by omega
   have hrd:rD false u ((l.getD i pz).f2+(x:Int))=u.getD ((l.getD i pz).f2+(x:Int)).toNat false:=rfl
   by_cases hus:G7 l i ((l.getD i pz).f2+(x:Int)).toNat
   ·refine Ev.pos (by rw[hrd];exact(hub _ hb).2 (.inl hus)) (Ev.now' (EI hi ?_).symm)
    rintro⟨_,_,h3⟩;obtain⟨j,hj,h4,h5⟩:=hus;have h6:=h3 j hj;have hpj:=hp j (by omega);unfold iF at hpj;unfold n8 at h6
    omega
   ·refine Ev.neg (by rw[hrd];intro h;rcases(hub _ hb).1 h with h|h;exact hus h;omega) ?_
    have:=ih (x+1) (u.set ((l.getD i pz).f2+(x:Int)).toNat true) (by omega) (by omega) (by simpa using hu) (fun b hb'=> ?_) (fun b h1 h2=> ?_)
    ·exact this
    ·by_cases e:b=((l.getD i pz).f2+(x:Int)).toNat
     ·subst e
      have hset:(u.set ((l.getD i pz).f2+(x:Int)).toNat true).getD ((l.getD i pz).f2+(x:Int)).toNat false=true:=getD_set_self _ _ _ _ (by omega);rw[hset];exact⟨fun _=> .inr (by omega),fun _=>rfl⟩
     ·rw[getD_set_ne _ _ _ _ _ e,hub b hb']
      constructor
      ·rintro(h|h)
       ·exact .inl h
       ·exact .inr ⟨h.1,by omega⟩
      ·rintro(h|h)
       ·exact .inl h
       ·exact .inr ⟨h.1,by omega⟩
    ·by_cases e:b=((l.getD i pz).f2+(x:Int)).toNat
     ·subst e;exact hus
     ·exact hno b h1 (by omega)
 have loop:∀d i (u:List Bool),l.length≤40→l.length-i=d→i≤l.length→u.length=400→(∀b,b<400→(u.getD b false=true↔G7 l i b))→(∀j,j<i→xn l j)→Ev (fun k=>bh.l0 k u l (l.length:Int) (i:Int) l) (decide (dh l)):=by
  intro d
  induction d with
  |zero=>
   intro i u GH hd hi hu hub hs
   have:i=l.length:=by omega
   subst this;refine Ev.step (fun k=>by rw[bh.l0]) ?_;refine Ev.neg (by omega) (Ev.now' ?_)
   symm;exact decide_eq_true ⟨GH,hs⟩
  |succ d ih=>
   intro i u GH hd hi hu hub hs;refine Ev.step (fun k=>by rw[bh.l0]) ?_;rw[kj];refine Ev.pos (by omega) (Ev.pos (by omega) (Ev.pos (by omega) (Ev.cW _ (isPiece_eq _) ?_)))
   by_cases hp:iF (l.getD i pz)
   ·refine Ev.pos (by simpa using hp) ?_
    have hall:∀j,j≤i→iF (l.getD j pz):=fun j hj=>by
     by_cases e:j=i
     ·subst e;exact hp
     ·exact(hs j (by omega)).1
    have hpi:=hp;unfold iF at hpi
    have join:∀b:Bool,b=decide (0<i∧((l.getD i pz).f0<(l.getD (i-1) pz).f0+(l.getD (i-1) pz).f1∨lE (l.getD (i-1) pz) (l.getD i pz)))→
     Ev (fun k=>bh.j1 k u l (l.length:Int) (i:Int) b l (l.getD i pz).f0 (l.getD i pz).f1 (l.getD i pz).f2 (l.getD i pz).f3) (decide (dh l)):=by
     intro b hb;refine Ev.step (fun k=>by rw[bh.j1]) ?_
     by_cases hbad:0<i∧((l.getD i pz).f0<(l.getD (i-1) pz).f0+(l.getD (i-1) pz).f1∨lE (l.getD (i-1) pz) (l.getD i pz))
     ·rw[hb]
      refine Ev.pos (by simpa using hbad) (Ev.now' (EI (l:=l) (i:=i) (by omega) ?_).symm);rintro⟨_,h2,_⟩;obtain⟨h3,h4⟩:=h2 hbad.1
      rcases hbad.2 with h5|h5
      ·omega
      ·exact h4 h5
     ·rw[hb]
      refine Ev.neg (by simpa using hbad) ?_;refine inner i (by omega) hall (fun u' hu' hub' ha=> ?_) _ 0 u rfl (by omega) hu (fun b hb=> ?_) (by intro b h1 h2;omega)
      ·refine ih (i+1) u' GH (by omega) (by omega) hu' hub' (fun j hj=> ?_)
       by_cases e:j=i
       ·subst e
        refine⟨hp,fun h0=> ?_,ha⟩
        constructor
        ·exact Int.not_lt.1 fun h=>hbad ⟨h0,.inl h⟩
        ·exact fun h=>hbad ⟨h0,.inr h⟩
       ·exact hs j (by omega)
      ·rw[hub b hb]
       constructor
       ·exact .inl
       ·rintro(h|h)
        ·exact h
        ·omega
    by_cases h0:0<i
    ·refine Ev.pos (by omega) ?_
     have e1:wrap64 ((i:Int)-1)=((i-1:Nat):Int):=by rw[bg (by omega) (by omega)];omega
     have hpp:=hall (i-1) (by omega);rw[e1,kj];have hpp':=hpp;unfold iF at hpp';rw[bg (x:=(l.getD (i-1) pz).f0+(l.getD (i-1) pz).f1) (by omega) (by omega)];refine Ev.pos (by omega) (Ev.pos (by omega) (Ev.ite (fun h1=> ?_) (fun h1=> ?_)))
     ·refine join true ?_
      symm;exact decide_eq_true ⟨h0,.inl (by omega)⟩
     ·refine Ev.cW _ (XE _ _ hpp) (join _ ?_)
      apply decide_eq_decide.2;exact⟨fun h=>⟨h0,.inr h⟩,fun h=>h.2.resolve_left (by omega)⟩
    ·refine Ev.neg (by omega) (join false ?_)
     symm;exact decide_eq_false (by omega)
   ·refine Ev.neg (by simpa using hp) (Ev.now' (EI (l:=l) (i:=i) (by omega) fun h=>hp h.1).symm)
 unfold bh.f
 by_cases GH:l.length≤40
 ·refine Ev.neg (by omega) (Ev.pos (by omega) ?_)
  refine loop l.length 0 _ GH rfl (by omega) List.length_replicate (fun b hb=> ?_) (by intro j hj;omega);rw[getD_replicate]
  constructor
  ·intro h;cases h
  ·rintro⟨j,hj,_⟩;omega
 ·refine Ev.pos (by omega) (Ev.now' ?_)
  symm;exact decide_eq_false fun h=>GH h.1
end Go.Proofs.Ytjojdplkgekagaa.Q
