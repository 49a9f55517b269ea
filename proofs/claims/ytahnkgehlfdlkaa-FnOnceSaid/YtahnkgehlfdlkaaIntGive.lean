/- Room given back: the lists of extents, told one after another from the left. No statement. -/
import Derived.Test.YtahnkgehlfdlkaaIntCanon
open Option.some renaming inj→Ok
namespace Go.Proofs.Ytahnkgehlfdlkaa.Q
open Go.RowKit Go.Proofs.YtahnkgehlfdlkaaW.PrintWords Go.Proofs.Ytahnkgehlfdlkaa.G
set_option linter.unusedVariables false
set_option linter.unusedSimpArgs false
def CF(n:Int):Int→List X_→Prop
 |_,[]=>True
 |lo,o::t=>lo<o.f0∧1≤o.f1∧o.f0+o.f1≤n∧CF n (o.f0+o.f1) t
theorem CF.mono {n lo lo':Int}{l:List X_}(h:CF n lo l)(hl:lo'≤lo):CF n lo' l:=by
 cases l with
 |nil=>trivial
 |cons o t=>exact⟨by have:=h.1;omega,h.2⟩
theorem qA(o:X_)(t:List X_)(k:Nat):fh (o::t) k↔fW o k∨fh t k:=by
 unfold fh
 simp
theorem Ve(k:Nat):¬fh [] k:=by unfold fh;simp
theorem CF.lt {n:Int}:∀ {l:List X_}{lo:Int},CF n lo l→∀k:Nat,fh l k→lo<(k:Int)∧(k:Int)<n
 |[],_,_,k,h=>absurd h (Ve k)
 |o::t,lo,h,k,hk=>by
  obtain⟨h1,h2,h3,h4⟩:=h
  rcases(qA o t k).1 hk with hk|hk
  ·unfold fW at hk;omega
  ·have:=CF.lt h4 k hk;omega
theorem CF.canon {n:Int}:∀ {l:List X_}{lo:Int},-1≤lo→CF n lo l→uC n l∧(0<l.length→lo<(l.getD 0 ez).f0)
 |[],_,_,_=>⟨ecanon_nil n,fun h=>absurd h (Nat.lt_irrefl _)⟩
 |o::t,lo,hlo,h=>by
  obtain⟨h1,h2,h3,h4⟩:=h;obtain⟨ih,i0⟩:=CF.canon (lo:=o.f0+o.f1) (by omega) h4;refine⟨⟨⟨fun i hi=> ?_,fun i hi=> ?_⟩,fun i hi=> ?_⟩,fun _=>h1⟩
  ·cases i with
   |zero=>show k7 n o;unfold k7;omega
   |succ i=>exact ih.1.1 i (by simpa using hi)
  ·cases i with
   |zero=>have:=i0 (by simpa using hi);show o.f0+o.f1≤(t.getD 0 ez).f0;omega
   |succ i=>exact ih.1.2 i (by simpa using hi)
  ·cases i with
   |zero=>have:=i0 (by simpa using hi);show o.f0+o.f1≠(t.getD 0 ez).f0;omega
   |succ i=>exact ih.2 i (by simpa using hi)
theorem CF.of_canon {n:Int}:∀ {l:List X_}{lo:Int},uC n l→(0<l.length→lo<(l.getD 0 ez).f0)→CF n lo l
 |[],_,_,_=>trivial
 |o::t,lo,h,h0=>by
  have e0:=h.1.1 0 (by simp);have e1:k7 n o:=e0;unfold k7 at e1;refine⟨h0 (by simp),e1.2.1,e1.2.2,CF.of_canon ⟨⟨fun i hi=>h.1.1 (i+1) (by simpa using hi),fun i hi=>h.1.2 (i+1) (by simpa using hi)⟩,fun i hi=>h.2 (i+1) (by simpa using hi)⟩ fun hl=> ?_⟩;have a1:o.f0+o.f1≤(t.getD 0 ez).f0:=h.1.2 0 (by simpa using hl);have a2:o.f0+o.f1≠(t.getD 0 ez).f0:=h.2 0 (by simpa using hl)
  omega
def uM(a b:Int):List X_→Option (List X_)
 |[]=>some [⟨a,b⟩]
 |o::t=>if o.f0+o.f1<a then(uM a b t).map (fun l=>o::l)
  else if o.f0>a+b then some (⟨a,b⟩::o::t)
  else if o.f0+o.f1=a then uM o.f0 (o.f1+b) t
  else if o.f0=a+b then uM a (b+o.f1) t
  else none
theorem Hr:∀ (l:List X_) (a b:Int) (l':List X_),uM a b l=some l'→l'.length≤l.length+1
 |[],a,b,l',h=>by obtain rfl:=Ok h;simp
 |o::t,a,b,l',h=>by
  rw[uM]at h
  split at h
  ·cases e:uM a b t with
   |none=>rw[e]at h;cases h
   |some q=>
    rw[e]at h;obtain rfl:=Ok h;have:=Hr t a b q e;simp only[List.length_cons]
    omega
  ·split at h
   ·obtain rfl:=Ok h
    simp
   ·split at h
    ·have:=Hr t _ _ l' h
     rw[List.length_cons];omega
    ·split at h
     ·have:=Hr t _ _ l' h
      rw[List.length_cons];omega
     ·cases h
theorem IX(n:Int):∀ (l:List X_) (lo a b:Int),-1≤lo→CF n lo l→lo<a→1≤b→a+b≤n→
 ((∃k:Nat,fW ⟨a,b⟩ k∧fh l k)→uM a b l=none)∧
 ((¬ ∃k:Nat,fW ⟨a,b⟩ k∧fh l k)→∃l',uM a b l=some l'∧CF n lo l'∧∀k:Nat,fh l' k↔fW ⟨a,b⟩ k∨fh l k)
 |[],lo,a,b,hlo,h,h1,h2,h3=>⟨fun⟨k,_,hk⟩=>absurd hk (Ve k),fun _=>⟨_,rfl,⟨h1,h2,h3,trivial⟩,fun k=>qA _ _ k⟩⟩
 |o::t,lo,a,b,hlo,h,h1,h2,h3=>by
  obtain⟨g1,g2,g3,g4⟩:=h;rw[uM]
  by_cases c1:o.f0+o.f1<a
  ·rw[if_pos c1]
   obtain⟨ih1,ih2⟩:=IX n t (o.f0+o.f1) a b (by omega) g4 c1 h2 h3
   have ov:(∃k:Nat,fW ⟨a,b⟩ k∧fh (o::t) k)↔ ∃k:Nat,fW ⟨a,b⟩ k∧fh t k:=by
    constructor
    ·rintro⟨k,hk,hk2⟩
     rcases(qA o t k).1 hk2 with hk2|hk2
     ·unfold fW at hk hk2;simp only at hk;omega
     ·exact⟨k,hk,hk2⟩
    ·rintro⟨k,hk,hk2⟩
     exact⟨k,hk,(qA o t k).2 (.inr hk2)⟩
   refine⟨fun hv=>by rw[ih1 (ov.1 hv)];rfl,fun hv=> ?_⟩;obtain⟨l',e,hc,hi⟩:=ih2 (fun q=>hv (ov.2 q));refine⟨o::l',by rw[e];rfl,⟨g1,g2,g3,hc⟩,fun k=> ?_⟩;rw[qA,qA,hi k]
   constructor
   ·rintro(q|q|q)
    ·exact .inr (.inl q)
    ·exact .inl q
    ·exact .inr (.inr q)
   ·rintro(q|q|q)
    ·exact .inr (.inl q)
    ·exact .inl q
    ·exact .inr (.inr q)
  rw[if_neg c1]
  by_cases c2:o.f0>a+b
  ·rw[if_pos c2]
   have hno:¬ ∃k:Nat,fW ⟨a,b⟩ k∧fh (o::t) k:=by
    rintro⟨k,hk,hk2⟩
    rcases(qA o t k).1 hk2 with hk2|hk2
    ·unfold fW at hk hk2;simp only at hk;omega
    ·have:=g4.lt k hk2
     unfold fW at hk;simp only at hk;omega
   exact⟨fun hv=>absurd hv hno,fun _=>⟨_,rfl,⟨h1,h2,h3,⟨c2,g2,g3,g4⟩⟩,fun k=>qA _ _ k⟩⟩
  rw[if_neg c2]
  by_cases c3:o.f0+o.f1=a
  ·rw[if_pos c3]
   obtain⟨ih1,ih2⟩:=IX n t lo o.f0 (o.f1+b) hlo (g4.mono (by omega)) g1 (by omega) (by omega)
   have eh:∀k:Nat,fW ⟨o.f0,o.f1+b⟩ k↔fW o k∨fW ⟨a,b⟩ k:=fun k=>by unfold fW;simp only;omega
   have ov:(∃k:Nat,fW ⟨a,b⟩ k∧fh (o::t) k)↔ ∃k:Nat,fW ⟨o.f0,o.f1+b⟩ k∧fh t k:=by
    constructor
    ·rintro⟨k,hk,hk2⟩
     rcases(qA o t k).1 hk2 with hk2|hk2
     ·unfold fW at hk hk2;simp only at hk;omega
     ·exact⟨k,(eh k).2 (.inr hk),hk2⟩
    ·rintro⟨k,hk,hk2⟩
     rcases(eh k).1 hk with hk|hk
     ·have:=g4.lt k hk2
      unfold fW at hk;omega
     ·exact⟨k,hk,(qA o t k).2 (.inr hk2)⟩
   refine⟨fun hv=>ih1 (ov.1 hv),fun hv=> ?_⟩;obtain⟨l',e,hc,hi⟩:=ih2 (fun q=>hv (ov.2 q));refine⟨l',e,hc,fun k=> ?_⟩;rw[hi k,eh k,qA]
   constructor
   ·rintro((q|q)|q)
    ·exact .inr (.inl q)
    ·exact .inl q
    ·exact .inr (.inr q)
   ·rintro(q|q|q)
    ·exact .inl (.inr q)
    ·exact .inl (.inl q)
    ·exact .inr q
  rw[if_neg c3]
  by_cases c4:o.f0=a+b
  ·rw[if_pos c4]
   obtain⟨ih1,ih2⟩:=IX n t lo a (b+o.f1) hlo (g4.mono (by omega)) h1 (by omega) (by omega)
   have eh:∀k:Nat,fW ⟨a,b+o.f1⟩ k↔fW o k∨fW ⟨a,b⟩ k:=fun k=>by unfold fW;simp only;omega
   have ov:(∃k:Nat,fW ⟨a,b⟩ k∧fh (o::t) k)↔ ∃k:Nat,fW ⟨a,b+o.f1⟩ k∧fh t k:=by
    constructor
    ·rintro⟨k,hk,hk2⟩
     rcases(qA o t k).1 hk2 with hk2|hk2
     ·unfold fW at hk hk2;simp only at hk;omega
     ·exact⟨k,(eh k).2 (.inr hk),hk2⟩
    ·rintro⟨k,hk,hk2⟩
     rcases(eh k).1 hk with hk|hk
     ·have:=g4.lt k hk2
      unfold fW at hk;omega
     ·exact⟨k,hk,(qA o t k).2 (.inr hk2)⟩
   refine⟨fun hv=>ih1 (ov.1 hv),fun hv=> ?_⟩;obtain⟨l',e,hc,hi⟩:=ih2 (fun q=>hv (ov.2 q));refine⟨l',e,hc,fun k=> ?_⟩;rw[hi k,eh k,qA]
   constructor
   ·rintro((q|q)|q)
    ·exact .inr (.inl q)
    ·exact .inl q
    ·exact .inr (.inr q)
   ·rintro(q|q|q)
    ·exact .inl (.inr q)
    ·exact .inl (.inl q)
    ·exact .inr q
  rw[if_neg c4];refine⟨fun _=>rfl,fun hv=>absurd ?_ hv⟩
  by_cases c5:a≤o.f0
  ·refine⟨o.f0.toNat, ?_,(qA o t _).2 (.inl ?_)⟩
   ·unfold fW;simp only;omega
   ·unfold fW;omega
  ·refine⟨a.toNat, ?_,(qA o t _).2 (.inl ?_)⟩
   ·unfold fW;simp only;omega
   ·unfold fW;omega
end Go.Proofs.Ytahnkgehlfdlkaa.Q
