import Derived.Test.YtjojdplkgekagaaMapGood
import Derived.Test.YtjojdplkgekagaaMapCells
open List renaming length_take→ao,length_append→lK,getD_eq_getElem?_getD→vn,length_singleton→aaf
namespace Go.Proofs.Ytjojdplkgekagaa.Q
open Go.RowKit Go.Proofs.YtjojdplkgekagaaW.PrintWords Go.Proofs.Ytjojdplkgekagaa.G
set_option linter.unusedVariables false
set_option linter.unusedSimpArgs false
abbrev Pc:=a7
def eM(p:Pc):Prop:=0≤p.f0∧1≤p.f1∧p.f0+p.f1≤200∧0≤p.f2∧p.f2+p.f1≤400
def gi(l:List Pc):Prop:=(∀i,i<l.length→eM (l.getD i pz))∧∀i,i+1<l.length→(l.getD i pz).f0+(l.getD i pz).f1≤(l.getD (i+1) pz).f0
def ja(l:List Pc):Prop:=gi l∧∀i,i+1<l.length→¬lE (l.getD i pz) (l.getD (i+1) pz)
theorem InR_iff(p:Pc):eM p↔iF p:=Iff.rfl
theorem rn {l:List Pc}(h:∀i,i<l.length→xn l i):ja l:=by
 refine⟨⟨fun i hi=>(h i hi).1,fun i hi=> ?_⟩,fun i hi=> ?_⟩
 ·have:=((h (i+1) hi).2.1 (by omega)).1
  simpa using this
 ·have:=((h (i+1) hi).2.1 (by omega)).2
  simpa using this
theorem mT {l:List Pc}(h:gi l)(i j:Nat)(hij:i<j)(hj:j<l.length):(l.getD i pz).f0+(l.getD i pz).f1≤(l.getD j pz).f0:=by
 obtain⟨d,rfl⟩:∃d,j=i+1+d:=⟨j-i-1,by omega⟩;clear hij
 induction d with
 |zero=>exact h.2 i hj
 |succ d ih=>
  have h1:=ih (by omega);have h2:=h.2 (i+1+d) hj;have h3:=h.1 (i+1+d) (by omega);unfold eM at h3;rw[show i+1+(d+1)=i+1+d+1 by omega]
  omega
theorem oz {l:List Pc}(h:gi l):l.length≤200:=by
 have key:∀i,i<l.length→(i:Int)≤(l.getD i pz).f0:=by
  intro i
  induction i with
  |zero=>intro hi;have:=h.1 0 hi;unfold eM at this;omega
  |succ i ih=>
   intro hi;have h1:=ih (by omega);have h2:=h.2 i hi;have h3:=h.1 i (by omega);unfold eM at h3
   omega
 by_cases h0:l.length=0
 ·omega
 ·have h1:=key (l.length-1) (by omega)
  have h2:=h.1 (l.length-1) (by omega);unfold eM at h2
  omega
def ce(p:Pc)(n:Nat):Prop:=p.f0≤(n:Int)∧(n:Int)<p.f0+p.f1
instance(p:Pc)(n:Nat):Decidable (ce p n):=by unfold ce;infer_instance
theorem yQ {l:List Pc}(h:gi l)(i:Nat)(hi:i<l.length)(n:Nat)(hn:ce (l.getD i pz) n):bD l n=⟨true,(l.getD i pz).f2+((n:Int)-(l.getD i pz).f0),(l.getD i pz).f3⟩:=by
 unfold ce at hn
 have e:l=l.take i++l.getD i pz::l.drop (i+1):=by rw[←drop_getD l i pz hi,List.take_append_drop]
 have hno':∀x∈l.take i,(decide (x.f0≤(n:Int))&&decide ((n:Int)<x.f0+x.f1))=false:=by
  intro x hx;obtain⟨j,hj,hjl,rfl⟩:=GK pz hx;have:=mT h j i hj hi;simp only[Bool.and_eq_false_iff,decide_eq_false_iff_not]
  omega
 unfold bD
 generalize l.getD i pz=p at *
 rw[e,XJ _ _ _ hno']
 simp[List.find?_cons,hn.1,hn.2]
theorem XO {l:List Pc}(n:Nat)(hn:∀i,i<l.length→¬ce (l.getD i pz) n):bD l n=dO:=by
 have:l.find? (fun p=>decide (p.f0≤(n:Int))&&decide ((n:Int)<p.f0+p.f1))=none:=by
  rw[List.find?_eq_none];intro x hx;obtain⟨j,hj,rfl⟩:=List.mem_iff_getElem.1 hx;have:=hn j hj;rw[wg _ _ _ hj]at this;unfold ce at this
  simpa using this
 unfold bD;rw[this]
theorem Aj {α:Type}(l:List α)(h:0<l.length)(hb:l.length≤4000000000000000000):wrap64 ((l.length:Int)-1)=((l.length-1:Nat):Int):=by
 rw[bg (by omega) (by omega)];omega
theorem XB(p:Pc)(a b c:Int)(d:Bool)(h:eM p):ri.f p.f0 p.f1 p.f2 p.f3 a b c d=some (decide (lE p ⟨a,b,c,d⟩)):=XE p ⟨a,b,c,d⟩ h
theorem pD {α:Type}{l:List α}{x:α}(z:α)(h:x∈l):∃i,i<l.length∧l.getD i z=x:=by
 obtain⟨i,hi,rfl⟩:=List.mem_iff_getElem.1 h;exact⟨i,hi,wg _ _ _ hi⟩
theorem kv {l:List Pc}(h:gi l){p:Pc}(hp:p∈l){n:Nat}(hn:ce p n):bD l n=⟨true,p.f2+((n:Int)-p.f0),p.f3⟩:=by
 obtain⟨i,hi,rfl⟩:=pD pz hp;exact yQ h i hi n hn
theorem st {l:List Pc}{n:Nat}(h:∀p∈l,¬ce p n):bD l n=dO:=XO n fun i hi=>h _ (jB l i pz hi)
theorem z3 {l:List Pc}(h:gi l){p:Pc}(hp:p∈l):eM p:=by
 obtain⟨i,hi,rfl⟩:=pD pz hp;exact h.1 i hi
theorem o3 {l:List Pc}(h:gi l)(n:Nat):(∃p∈l,ce p n∧bD l n=⟨true,p.f2+((n:Int)-p.f0),p.f3⟩)∨((∀p∈l,¬ce p n)∧bD l n=dO):=by
 by_cases hx:∃p∈l,ce p n
 ·obtain⟨p,hp,hn⟩:=hx
  exact .inl ⟨p,hp,hn,kv h hp hn⟩
 ·have hx':∀p∈l,¬ce p n:=fun p hp hn=>hx ⟨p,hp,hn⟩
  exact .inr ⟨hx',st hx'⟩
theorem lL {α:Type}(l m:List α)(i:Nat)(z:α)(h:l.length≤i):(l++m).getD i z=m.getD (i-l.length) z:=by
 rw[vn,vn,List.getElem?_append_right h]
theorem Qk {l:List Pc}{p:Pc}(h:gi l)(hp:eM p)(hl:0<l.length→(l.getD (l.length-1) pz).f0+(l.getD (l.length-1) pz).f1≤p.f0):gi (l++[p]):=by
 refine⟨fun i hi=> ?_,fun i hi=> ?_⟩
 ·rw[lK,aaf]at hi
  by_cases e:i<l.length
  ·rw[ls _ _ _ _ e];exact h.1 i e
  ·rw[lL _ _ _ _ (by omega),show i-l.length=0 by omega];exact hp
 ·rw[lK,aaf]at hi
  rw[ls _ _ _ _ (by omega)]
  by_cases e:i+1<l.length
  ·rw[ls _ _ _ _ e];exact h.2 i e
  ·rw[lL _ _ _ _ (by omega),show i+1-l.length=0 by omega]
   have:=hl (by omega);rw[show l.length-1=i by omega]at this;exact this
theorem Li {l:List Pc}{p:Pc}(h:ja l)(hp:eM p)(hl:0<l.length→(l.getD (l.length-1) pz).f0+(l.getD (l.length-1) pz).f1≤p.f0∧¬lE (l.getD (l.length-1) pz) p):ja (l++[p]):=by
 refine⟨Qk h.1 hp fun h0=>(hl h0).1,fun i hi=> ?_⟩;rw[lK,aaf]at hi;rw[ls _ _ _ _ (by omega)]
 by_cases e:i+1<l.length
 ·rw[ls _ _ _ _ e];exact h.2 i e
 ·rw[lL _ _ _ _ (by omega),show i+1-l.length=0 by omega]
  have:=(hl (by omega)).2;rw[show l.length-1=i by omega]at this;exact this
theorem wG {l:List Pc}(h:gi l)(i:Nat):gi (l.take i):=by
 have hg:∀j,j<(l.take i).length→(l.take i).getD j pz=l.getD j pz:=fun j hj=>by
  rw[ao]at hj
  simp[vn,show j<i by omega]
 refine⟨fun j hj=> ?_,fun j hj=> ?_⟩
 ·rw[hg j hj]
  rw[ao]at hj;exact h.1 j (by omega)
 ·rw[hg j (by omega),hg (j+1) hj]
  rw[ao]at hj;exact h.2 j (by omega)
theorem canon_take {l:List Pc}(h:ja l)(i:Nat):ja (l.take i):=by
 refine⟨wG h.1 i,fun j hj=> ?_⟩
 have hg:∀j,j<(l.take i).length→(l.take i).getD j pz=l.getD j pz:=fun j hj=>by
  rw[ao]at hj
  simp[vn,show j<i by omega]
 rw[hg j (by omega),hg (j+1) hj];rw[ao]at hj;exact h.2 j (by omega)
abbrev Ex:=aT
abbrev ez:Ex:=kW
def lS(e:Ex)(n:Nat):Prop:=e.f0≤(n:Int)∧(n:Int)<e.f0+e.f1
def gm(l:List Ex)(n:Nat):Prop:=∃e∈l,lS e n
def iS(N:Int)(e:Ex):Prop:=0≤e.f0∧1≤e.f1∧e.f0+e.f1≤N
def me(N:Int)(l:List Ex):Prop:=(∀i,i<l.length→iS N (l.getD i ez))∧∀i,i+1<l.length→(l.getD i ez).f0+(l.getD i ez).f1≤(l.getD (i+1) ez).f0
def jO(N:Int)(l:List Ex):Prop:=me N l∧∀i,i+1<l.length→(l.getD i ez).f0+(l.getD i ez).f1≠(l.getD (i+1) ez).f0
theorem qP(l:List Ex)(i:Nat):aE l (i:Int)=l.getD i ez:=by simp[aE]
theorem Hb {N:Int}{l:List Ex}(h:me N l)(i j:Nat)(hij:i<j)(hj:j<l.length):(l.getD i ez).f0+(l.getD i ez).f1≤(l.getD j ez).f0:=by
 obtain⟨d,rfl⟩:∃d,j=i+1+d:=⟨j-i-1,by omega⟩;clear hij
 induction d with
 |zero=>exact h.2 i hj
 |succ d ih=>
  have h1:=ih (by omega);have h2:=h.2 (i+1+d) hj;have h3:=h.1 (i+1+d) (by omega);unfold iS at h3;rw[show i+1+(d+1)=i+1+d+1 by omega]
  omega
theorem M1 {N:Int}{l:List Ex}(h:jO N l)(i j:Nat)(hij:i<j)(hj:j<l.length):(l.getD i ez).f0+(l.getD i ez).f1<(l.getD j ez).f0:=by
 have h1:=h.1.2 i (by omega);have h2:=h.2 i (by omega)
 by_cases e:j=i+1
 ·subst e;omega
 ·have h3:=Hb h.1 (i+1) j (by omega) hj
  have h4:=h.1.1 (i+1) (by omega);unfold iS at h4
  omega
theorem E2 {N:Int}{l:List Ex}(h:me N l):(l.length:Int)≤N∨l.length=0:=by
 have key:∀i,i<l.length→(i:Int)≤(l.getD i ez).f0:=by
  intro i
  induction i with
  |zero=>intro hi;have:=h.1 0 hi;unfold iS at this;omega
  |succ i ih=>
   intro hi;have h1:=ih (by omega);have h2:=h.2 i hi;have h3:=h.1 i (by omega);unfold iS at h3
   omega
 by_cases h0:l.length=0
 ·exact .inr h0
 ·have h1:=key (l.length-1) (by omega)
  have h2:=h.1 (l.length-1) (by omega);unfold iS at h2
  omega
theorem Y9 {N:Int}{l:List Ex}{p:Ex}(h:me N l)(hp:iS N p)(hl:0<l.length→(l.getD (l.length-1) ez).f0+(l.getD (l.length-1) ez).f1≤p.f0):me N (l++[p]):=by
 refine⟨fun i hi=> ?_,fun i hi=> ?_⟩
 ·rw[lK,aaf]at hi
  by_cases e:i<l.length
  ·rw[ls _ _ _ _ e];exact h.1 i e
  ·rw[lL _ _ _ _ (by omega),show i-l.length=0 by omega];exact hp
 ·rw[lK,aaf]at hi
  rw[ls _ _ _ _ (by omega)]
  by_cases e:i+1<l.length
  ·rw[ls _ _ _ _ e];exact h.2 i e
  ·rw[lL _ _ _ _ (by omega),show i+1-l.length=0 by omega]
   have:=hl (by omega);rw[show l.length-1=i by omega]at this;exact this
theorem Lc {N:Int}{l:List Ex}{p:Ex}(h:jO N l)(hp:iS N p)(hl:0<l.length→(l.getD (l.length-1) ez).f0+(l.getD (l.length-1) ez).f1<p.f0):jO N (l++[p]):=by
 refine⟨Y9 h.1 hp fun h0=>by have:=hl h0;omega,fun i hi=> ?_⟩;rw[lK,aaf]at hi;rw[ls _ _ _ _ (by omega)]
 by_cases e:i+1<l.length
 ·rw[ls _ _ _ _ e];exact h.2 i e
 ·rw[lL _ _ _ _ (by omega),show i+1-l.length=0 by omega]
  have:=hl (by omega);rw[show l.length-1=i by omega]at this
  show _≠p.f0
  omega
theorem yV {α:Type}(l:List α)(i j:Nat)(z:α)(h:j<i):(l.take i).getD j z=l.getD j z:=by
 simp[vn,h]
theorem YA {N:Int}{l:List Ex}(h:me N l)(i:Nat):me N (l.take i):=by
 refine⟨fun j hj=> ?_,fun j hj=> ?_⟩
 ·rw[ao]at hj
  rw[yV _ _ _ _ (by omega)];exact h.1 j (by omega)
 ·rw[ao]at hj
  rw[yV _ _ _ _ (by omega),yV _ _ _ _ (by omega)];exact h.2 j (by omega)
theorem ecanon_take {N:Int}{l:List Ex}(h:jO N l)(i:Nat):jO N (l.take i):=by
 refine⟨YA h.1 i,fun j hj=> ?_⟩;rw[ao]at hj;rw[yV _ _ _ _ (by omega),yV _ _ _ _ (by omega)];exact h.2 j (by omega)
theorem Pu(N:Int):jO N []:=⟨⟨by intro i hi;simp at hi,by intro i hi;simp at hi⟩,by intro i hi;simp at hi⟩
theorem EH(l:List Ex)(p:Ex)(n:Nat):gm (l++[p]) n↔gm l n∨lS p n:=by
 unfold gm
 constructor
 ·rintro⟨e,he,hn⟩
  rcases List.mem_append.1 he with he|he
  ·exact .inl ⟨e,he,hn⟩
  ·rw[List.mem_singleton.1 he]at hn;exact .inr hn
 ·rintro(⟨e,he,hn⟩|hn)
  ·exact⟨e,List.mem_append_left _ he,hn⟩
  ·exact⟨p,by simp,hn⟩
theorem Ml {N:Int}{l:List Ex}(h:me N l){e:Ex}(he:e∈l):iS N e:=by
 obtain⟨i,hi,rfl⟩:=pD ez he;exact h.1 i hi
end Go.Proofs.Ytjojdplkgekagaa.Q
