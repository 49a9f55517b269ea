import Derived.Test.YtjojdplkgekagaaMapTheory
import Derived.Test.YtjojdplkgekagaaG3
open Int renaming toNat_natCast→aaX
open List renaming length_take→ao,length_drop→gy,length_append→lK,length_singleton→aaf,mem_singleton→aap,mem_append→aat,mem_append_left→aaE,take_length→aaQ
namespace Go.Proofs.Ytjojdplkgekagaa.Q
open Go.RowKit Go.Proofs.YtjojdplkgekagaaW.PrintWords Go.Proofs.Ytjojdplkgekagaa.G
set_option linter.unusedVariables false
set_option linter.unusedSimpArgs false
def wl(p:Pc)(b:Nat):Prop:=p.f2≤(b:Int)∧(b:Int)<p.f2+p.f1
theorem ejoin_ev(x:List Ex)(h:me 400 x):∃out,Ev (fun k=>bl.l2 k [] x (x.length:Int) ((0:Nat):Int)) out∧jO 400 out∧∀b,gm out b↔gm x b:=by
 have hlen:x.length≤400:=by rcases E2 h with h|h<;>omega
 have key:∀d i,x.length-i=d→i≤x.length→∀out:List Ex,jO 400 out→out.length≤i→(0<i→0<out.length∧(out.getD (out.length-1) ez).f0+(out.getD (out.length-1) ez).f1=(x.getD (i-1) ez).f0+(x.getD (i-1) ez).f1)→(∀b,gm out b↔gm (x.take i) b)→
  ∃out',Ev (fun k=>bl.l2 k out x (x.length:Int) (i:Int)) out'∧jO 400 out'∧∀b,gm out' b↔gm x b:=by
  intro d
  induction d with
  |zero=>
   intro i hd hi out ho hol hlast hin
   have:i=x.length:=by omega
   subst this;refine⟨out,Ev.step (fun k=>by rw[bl.l2]) (Ev.neg (by omega) (Ev.now _)),ho,fun b=>by rw[hin b,aaQ]⟩
  |succ d ih=>
   intro i hd hi out ho hol hlast hin
   have hil:i<x.length:=by omega
   have hp:=h.1 i hil
   have hts:∀b,gm (x.take (i+1)) b↔gm (x.take i) b∨lS (x.getD i ez) b:=fun b=>by rw[lu x i ez hil,EH]
   have eta:(⟨(x.getD i ez).f0,(x.getD i ez).f1⟩:Ex)=x.getD i ez:=rfl
   have app:(0<out.length→(out.getD (out.length-1) ez).f0+(out.getD (out.length-1) ez).f1≠(x.getD i ez).f0)→∃out',Ev (fun k=>bl.l2 k (out++[x.getD i ez]) x (x.length:Int) ((i:Int)+1)) out'∧jO 400 out'∧∀b,gm out' b↔gm x b:=by
    intro hne;refine ih (i+1) (by omega) (by omega) _ (Lc ho hp fun h0=> ?_) (by rw[lK,aaf];omega) (fun _=>⟨by rw[lK,aaf];omega, ?_⟩) (fun b=>by rw[hts b,EH,hin b])
    ·have hi0:0<i:=by omega
     have h1:=(hlast hi0).2;have h2:=Hb h (i-1) i (by omega) hil;have h3:=hne h0
     omega
    ·rw[lK,aaf,lL _ _ _ _ (by omega),show out.length+1-1-out.length=0 by omega]
     rfl
   by_cases h0:0<out.length
   ·have hrd:aE out ((out.length-1:Nat):Int)=out.getD (out.length-1) ez:=qP _ _
    have hq:=ho.1.1 (out.length-1) (by omega)
    have hi0:0<i:=by omega
    have hle:=(hlast hi0).2
    by_cases hgo:(out.getD (out.length-1) ez).f0+(out.getD (out.length-1) ez).f1=(x.getD i ez).f0
    ·have hq':=hq
     have hp':=hp;unfold iS at hq' hp'
     have hsplit:out=out.take (out.length-1)++[out.getD (out.length-1) ez]:=by
      have:=lu out (out.length-1) ez (by omega);rw[show out.length-1+1=out.length by omega,aaQ]at this;exact this
     have hprevlast:0<out.length-1→(out.getD (out.length-1-1) ez).f0+(out.getD (out.length-1-1) ez).f1<(out.getD (out.length-1) ez).f0:=fun hz=>M1 ho (out.length-1-1) (out.length-1) (by omega) (by omega)
     have hoc:jO 400 (out.take (out.length-1)):=ecanon_take ho _
     have L9:(out.take (out.length-1)).length=out.length-1:=by rw[ao];omega
     have hlo:0<(out.take (out.length-1)).length→((out.take (out.length-1)).getD ((out.take (out.length-1)).length-1) ez).f0+((out.take (out.length-1)).getD ((out.take (out.length-1)).length-1) ez).f1<(out.getD (out.length-1) ez).f0:=by
      intro hz;rw[L9]at hz⊢;rw[yV _ _ _ _ (by omega)];exact hprevlast hz
     have hinO:∀b,gm out b↔gm (out.take (out.length-1)) b∨lS (out.getD (out.length-1) ez) b:=fun b=>by
      conv=>lhs;rw[hsplit]
      rw[EH]
     have hset:∀y:Ex,out.set (out.length-1) y=out.take (out.length-1)++[y]:=by
      intro y
      conv=>lhs;arg 1;rw[hsplit]
      rw[List.set_append_right _ _ (by omega),L9,Nat.sub_self]
      rfl
     generalize out.getD (out.length-1) ez=q at *
     generalize out.take (out.length-1)=o at *
     have hn:jO 400 (o++[⟨q.f0,q.f1+(x.getD i ez).f1⟩]):=Lc hoc (by unfold iS;simp only;omega) hlo
     obtain⟨out',h1,h2,h3⟩:=ih (i+1) (by omega) (by omega) _ hn (by rw[lK,aaf];omega) (fun _=>⟨by rw[lK,aaf];omega,by
      rw[lK,aaf,lL _ _ _ _ (by omega),show o.length+1-1-o.length=0 by omega]
      show q.f0+(q.f1+(x.getD i ez).f1)=_
      rw[show i+1-1=i by omega]
      omega⟩) (fun b=>by
       rw[hts b,EH,←hin b,hinO b];unfold lS;simp only
       constructor
       ·rintro(hh|hh)
        ·exact .inl (.inl hh)
        ·by_cases hb:(b:Int)<q.f0+q.f1
         ·exact .inl (.inr ⟨hh.1,hb⟩)
         ·exact .inr ⟨by omega,by omega⟩
       ·rintro((hh|hh)|hh)
        ·exact .inl hh
        ·exact .inr ⟨hh.1,by omega⟩
        ·exact .inr ⟨by omega,by omega⟩)
     refine⟨out',Ev.step (fun k=>by rw[bl.l2]) ?_,h2,h3⟩;rw[qP x i,Aj out h0 (by omega),hrd,bg (x:=(i:Int)+1) (by omega) (by omega),bg (x:=q.f0+q.f1) (by omega) (by omega),bg (x:=q.f1+(x.getD i ez).f1) (by omega) (by omega),aaX,hset];exact Ev.pos (by omega) (Ev.pos (by omega) (Ev.pos (by omega) (Ev.pos (by omega) (Ev.pos (by omega) (Ev.pos (by omega) (Ev.pos hgo h1))))))
    ·obtain⟨out',h1,h2,h3⟩:=app fun _=>hgo
     have hq':=hq;unfold iS at hq';refine⟨out',Ev.step (fun k=>by rw[bl.l2]) ?_,h2,h3⟩;rw[qP x i,Aj out h0 (by omega),hrd,bg (x:=(i:Int)+1) (by omega) (by omega),bg (x:=(out.getD (out.length-1) ez).f0+(out.getD (out.length-1) ez).f1) (by omega) (by omega),eta];exact Ev.pos (by omega) (Ev.pos (by omega) (Ev.pos (by omega) (Ev.pos (by omega) (Ev.pos (by omega) (Ev.pos (by omega) (Ev.neg hgo (Ev.pos (by omega) h1)))))))
   ·obtain⟨out',h1,h2,h3⟩:=app fun h=>absurd h h0
    refine⟨out',Ev.step (fun k=>by rw[bl.l2]) ?_,h2,h3⟩;rw[qP x i,bg (x:=(i:Int)+1) (by omega) (by omega),eta];refine Ev.pos (by omega) (Ev.pos (by omega) (Ev.pos (by omega) (Ev.neg ?_ (Ev.pos (by omega) h1))));rw[show out.length=0 by omega,bg (by omega) (by omega)]
    omega
 exact key x.length 0 rfl (by omega) [] (Pu _) (by simp) (by intro h;omega) (by intro n;rw[List.take_zero])
theorem einsert {l:List Ex}{p:Ex}{k0:Nat}(h:me 400 l)(hp:iS 400 p)(hk:k0≤l.length)(h1:∀j,j<k0→(l.getD j ez).f0<p.f0)(h2:k0<l.length→p.f0≤(l.getD k0 ez).f0)(hap:∀q∈l,q.f0+q.f1≤p.f0∨p.f0+p.f1≤q.f0):me 400 (l.take k0++[p]++l.drop k0):=by
 have hpr:=hp;unfold iS at hpr
 have e1:(l.take k0).length=k0:=by rw[ao];omega
 have hto:me 400 (l.take k0++[p]):=Y9 (YA h k0) hp fun h0=>by
  rw[e1]at h0⊢;rw[yV _ _ _ _ (by omega)];have e3:=h1 (k0-1) (by omega);have e4:=hap _ (jB l (k0-1) ez (by omega));have e5:=h.1 (k0-1) (by omega);unfold iS at e5
  omega
 have hln:(l.take k0++[p]).length=k0+1:=by rw[lK,e1,aaf]
 have hd:∀j,(l.drop k0).getD j ez=l.getD (k0+j) ez:=fun j=>by simp[List.getD_eq_getElem?_getD]
 refine⟨fun i hi=> ?_,fun i hi=> ?_⟩
 ·by_cases e:i<k0+1
  ·rw[ls _ _ _ _ (by omega)];exact hto.1 i (by omega)
  ·rw[lL _ _ _ _ (by omega),hd,hln]
   rw[lK,hln,gy]at hi;exact h.1 _ (by omega)
 ·rw[lK,hln,gy]at hi
  by_cases e:i+1<k0+1
  ·rw[ls (l.take k0++[p]) _ i _ (by omega),ls (l.take k0++[p]) _ (i+1) _ (by omega)];exact hto.2 i (by omega)
  ·rw[lL (l.take k0++[p]) _ (i+1) _ (by omega),hd,hln]
   by_cases e2:i=k0
   ·subst e2
    rw[ls (l.take i++[p]) _ _ _ (by omega),lL (l.take i) _ _ _ (by rw[ao];omega),show i-(l.take i).length=0 by rw[ao];omega,show i+(i+1-(i+1))=i by omega]
    show p.f0+p.f1≤_
    have e3:=h2 (by omega);have e4:=hap _ (jB l i ez (by omega));have e5:=h.1 i (by omega);unfold iS at e5
    omega
   ·rw[lL _ _ _ _ (by omega),hd,hln]
    have:=h.2 (k0+(i-(k0+1))) (by omega);rw[show k0+(i+1-(k0+1))=k0+(i-(k0+1))+1 by omega];exact this
theorem XR(l:List Pc)(hr:∀p∈l,eM p)(hap:∀i j,i<j→j<l.length→n8 (l.getD i pz) (l.getD j pz))(hl:l.length≤1000):∃out,Ev (fun k=>bl.f k l) out∧jO 400 out∧∀b,gm out b↔ ∃p∈l,wl p b:=by
 have inner:∀ (i:Nat) (x:List Ex),i<l.length→x.length≤1000→∀d j,x.length-j=d→j≤x.length→(∀j',j'<j→(x.getD j' ez).f0<(l.getD i pz).f2)→(r:List Ex)→(∀k0:Nat,k0≤x.length→(∀j',j'<k0→(x.getD j' ez).f0<(l.getD i pz).f2)→(k0<x.length→(l.getD i pz).f2≤(x.getD k0 ez).f0)→Ev (fun k=>bl.l0 k (x.take k0++[⟨(l.getD i pz).f2,(l.getD i pz).f1⟩]++x.drop k0) l (l.length:Int) ((i+1:Nat):Int)) r)→
  Ev (fun k=>bl.l1 k x (j:Int) l (l.length:Int) (i:Int) (l.getD i pz).f2 (l.getD i pz).f1) r:=by
  intro i x hi hx d
  induction d with
  |zero=>
   intro j hd hj hlt r next
   have:j=x.length:=by omega
   subst this;have:=next x.length (Nat.le_refl _) hlt (by omega);refine Ev.step (fun k=>by rw[bl.l1]) ?_;rw[bg (x:=(i:Int)+1) (by omega) (by omega)];refine Ev.neg (by omega) (Ev.pos (by omega) (Ev.pos (by omega) (Ev.cW _ rfl (Ev.pos (by simp;omega) (Ev.cW _ rfl (Ev.pos (by simp;omega) (Ev.cW _ rfl (Ev.cW _ rfl (Ev.pos (by simp;omega) ?_)))))))));rw[aaX];exact this
  |succ d ih=>
   intro j hd hj hlt r next
   by_cases hc:(x.getD j ez).f0<(l.getD i pz).f2
   ·refine Ev.step (fun k=>by rw[bl.l1]) ?_
    rw[qP,bg (x:=(j:Int)+1) (by omega) (by omega)];refine Ev.pos (by omega) (Ev.pos (by omega) (Ev.pos hc ?_))
    exact ih (j+1) (by omega) (by omega) (fun j' hj'=>by
     by_cases e:j'=j
     ·subst e;exact hc
     ·exact hlt j' (by omega)) r next
   ·have:=next j hj hlt (fun _=>by omega)
    refine Ev.step (fun k=>by rw[bl.l1]) ?_;rw[qP,bg (x:=(i:Int)+1) (by omega) (by omega)];refine Ev.pos (by omega) (Ev.pos (by omega) (Ev.neg hc (Ev.pos (by omega) (Ev.cW _ rfl (Ev.pos (by simp;omega) (Ev.cW _ rfl (Ev.pos (by simp;omega) (Ev.cW _ rfl (Ev.cW _ rfl (Ev.pos (by simp;omega) ?_))))))))));rw[aaX];exact this
 have key:∀d i,l.length-i=d→i≤l.length→∀x:List Ex,me 400 x→x.length=i→(∀e,e∈x↔ ∃p∈l.take i,e=⟨p.f2,p.f1⟩)→∃out,Ev (fun k=>bl.l0 k x l (l.length:Int) (i:Int)) out∧jO 400 out∧∀b,gm out b↔ ∃p∈l,wl p b:=by
  intro d
  induction d with
  |zero=>
   intro i hd hi x ho hxl hm
   have:i=l.length:=by omega
   subst this;obtain⟨out,h1,h2,h3⟩:=ejoin_ev x ho;refine⟨out, ?_,h2,fun b=> ?_⟩
   ·refine Ev.step (fun k=>by rw[bl.l0]) ?_
    exact Ev.neg (by omega) h1
   rw[h3 b];rw[aaQ]at hm
   constructor
   ·rintro⟨e,he,hb⟩
    obtain⟨p,hp,rfl⟩:=(hm e).1 he;exact⟨p,hp,hb⟩
   ·rintro⟨p,hp,hb⟩
    exact⟨⟨p.f2,p.f1⟩,(hm _).2 ⟨p,hp,rfl⟩,hb⟩
  |succ d ih=>
   intro i hd hi x ho hxl hm
   have hil:i<l.length:=by omega
   have hp:=hr _ (jB l i pz hil);have hp':=hp;unfold eM at hp'
   have hapx:∀q∈x,q.f0+q.f1≤(l.getD i pz).f2∨(l.getD i pz).f2+(l.getD i pz).f1≤q.f0:=by
    intro q hq;obtain⟨p,hpm,rfl⟩:=(hm q).1 hq;obtain⟨j,hj,hjl,rfl⟩:=GK pz hpm;exact hap j i hj hil
   have hk:∃k0:Nat,k0≤x.length∧(∀j',j'<k0→(x.getD j' ez).f0<(l.getD i pz).f2)∧(k0<x.length→(l.getD i pz).f2≤(x.getD k0 ez).f0):=by
    have:∀m,m≤x.length→(∃k0:Nat,k0≤x.length∧(∀j',j'<k0→(x.getD j' ez).f0<(l.getD i pz).f2)∧(k0<x.length→(l.getD i pz).f2≤(x.getD k0 ez).f0))∨∀j',j'<m→(x.getD j' ez).f0<(l.getD i pz).f2:=by
     intro m
     induction m with
     |zero=>exact fun _=> .inr (by intro j hj;omega)
     |succ m ihm=>
      intro hm
      rcases ihm (by omega)with h|h
      ·exact .inl h
      ·by_cases hc:(x.getD m ez).f0<(l.getD i pz).f2
       ·exact .inr fun j' hj'=>by
         by_cases e:j'=m
         ·subst e;exact hc
         ·exact h j' (by omega)
       ·exact .inl ⟨m,by omega,h,fun _=>by omega⟩
    rcases this x.length (Nat.le_refl _)with h|h
    ·exact h
    ·exact⟨x.length,Nat.le_refl _,h,by omega⟩
   obtain⟨k0,hk1,hk2,hk3⟩:=hk;have hnew:me 400 (x.take k0++[⟨(l.getD i pz).f2,(l.getD i pz).f1⟩]++x.drop k0):=einsert ho (by unfold iS;simp only;omega) hk1 hk2 hk3 hapx
   obtain⟨out,h1,h2,h3⟩:=ih (i+1) (by omega) (by omega) _ hnew (by rw[lK,lK,ao,gy,aaf];omega) (fun e=>by
    rw[lu l i pz hil]
    constructor
    ·intro he
     rw[aat,aat,aap]at he
     rcases he with(he|he)|he
     ·obtain⟨p,hp,rfl⟩:=(hm e).1 (List.mem_of_mem_take he)
      exact⟨p,aaE _ hp,rfl⟩
     ·exact⟨l.getD i pz,by simp,he⟩
     ·obtain⟨p,hp,rfl⟩:=(hm e).1 (List.mem_of_mem_drop he)
      exact⟨p,aaE _ hp,rfl⟩
    ·rintro⟨p,hp,rfl⟩
     rcases aat.1 hp with hp|hp
     ·have:=(hm ⟨p.f2,p.f1⟩).2 ⟨p,hp,rfl⟩
      rw[←List.take_append_drop k0 x,aat]at this;rw[aat,aat]
      rcases this with h|h
      ·exact .inl (.inl h)
      ·exact .inr h
     ·rw[aap.1 hp]
      simp)
   refine⟨out,Ev.step (fun k=>by rw[bl.l0]) ?_,h2,h3⟩;rw[kj];refine Ev.pos (by omega) (Ev.pos (by omega) (Ev.pos (by omega) ?_));refine inner i x hil (by omega) _ 0 rfl (by omega) (by intro j hj;omega) out (fun k1 ha hb hc=> ?_)
   have:k1=k0:=by
    by_cases e:k1<k0
    ·have h4:=hk2 k1 e
     have h5:=hc (by omega)
     omega
    ·by_cases e2:k0<k1
     ·have h4:=hb k0 e2
      have h5:=hk3 (by omega)
      omega
     ·omega
   subst this;exact h1
 unfold bl.f;exact key l.length 0 rfl (by omega) [] (Pu _).1 rfl (by intro e;simp)
end Go.Proofs.Ytjojdplkgekagaa.Q
