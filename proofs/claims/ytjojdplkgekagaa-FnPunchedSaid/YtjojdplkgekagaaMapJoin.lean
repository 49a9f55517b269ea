import Derived.Test.YtjojdplkgekagaaMapTheory
import Derived.Test.YtjojdplkgekagaaG4
open List renaming length_take→ao,length_drop→gy,length_append→lK,getD_eq_getElem?_getD→vn,length_singleton→aaf,mem_singleton→aap,mem_append→aat,mem_append_left→aaE,take_length→aaQ
namespace Go.Proofs.Ytjojdplkgekagaa.Q
open Go.RowKit Go.Proofs.YtjojdplkgekagaaW.PrintWords Go.Proofs.Ytjojdplkgekagaa.G
set_option linter.unusedVariables false
set_option linter.unusedSimpArgs false
theorem Y8(l:List Pc)(h:gi l):∃out,Ev (fun k=>dK.f k l) out∧ja out∧(∀n,bD out n=bD l n)∧∀N:Int,(∀p∈l,p.f0+p.f1≤N)→∀p∈out,p.f0+p.f1≤N:=by
 have hlen:=oz h
 have key:∀d i,l.length-i=d→i≤l.length→∀out:List Pc,ja out→out.length≤i→(0<i→0<out.length∧(out.getD (out.length-1) pz).f0+(out.getD (out.length-1) pz).f1=(l.getD (i-1) pz).f0+(l.getD (i-1) pz).f1)→(∀n,bD out n=bD (l.take i) n)→(∀N:Int,(∀p∈l,p.f0+p.f1≤N)→∀p∈out,p.f0+p.f1≤N)→
  ∃out',Ev (fun k=>dK.l0 k out l (l.length:Int) (i:Int)) out'∧ja out'∧(∀n,bD out' n=bD l n)∧∀N:Int,(∀p∈l,p.f0+p.f1≤N)→∀p∈out',p.f0+p.f1≤N:=by
  intro d
  induction d with
  |zero=>
   intro i hd hi out ho hol hlast hcell hend
   have:i=l.length:=by omega
   subst this;refine⟨out,Ev.step (fun k=>by rw[dK.l0]) (Ev.neg (by omega) (Ev.now _)),ho,fun n=>by rw[hcell n,aaQ],hend⟩
  |succ d ih=>
   intro i hd hi out ho hol hlast hcell hend
   have hil:i<l.length:=by omega
   have hp:=h.1 i hil;have hpm:=jB l i pz hil
   have hts:∀n,bD (l.take (i+1)) n=if ce (l.getD i pz) n then⟨true,(l.getD i pz).f2+((n:Int)-(l.getD i pz).f0),(l.getD i pz).f3⟩else bD (l.take i) n:=by
    intro n
    have hm:l.getD i pz∈l.take (i+1):=by rw[lu l i pz hil];simp
    by_cases hh:ce (l.getD i pz) n
    ·rw[if_pos hh];exact kv (wG h _) hm hh
    ·rw[if_neg hh]
     rcases o3 (wG h i) n with⟨q,hq,hqn,e⟩|⟨hno,e⟩
     ·rw[e]
      exact kv (wG h _) (by rw[lu l i pz hil];exact aaE _ hq) hqn
     ·rw[e]
      refine st fun q hq=> ?_
      rw[lu l i pz hil]at hq
      rcases aat.1 hq with hq|hq
      ·exact hno q hq
      ·rw[aap.1 hq];exact hh
   have eta:(⟨(l.getD i pz).f0,(l.getD i pz).f1,(l.getD i pz).f2,(l.getD i pz).f3⟩:Pc)=l.getD i pz:=rfl
   have app:(0<out.length→¬lE (out.getD (out.length-1) pz) (l.getD i pz))→∃out',Ev (fun k=>dK.l0 k (out++[l.getD i pz]) l (l.length:Int) ((i:Int)+1)) out'∧ja out'∧(∀n,bD out' n=bD l n)∧∀N:Int,(∀p∈l,p.f0+p.f1≤N)→∀p∈out',p.f0+p.f1≤N:=by
    intro hng
    have hc':ja (out++[l.getD i pz]):=Li ho hp fun h0=>⟨by
     have hi0:0<i:=by omega
     have:=(hlast hi0).2;have:=mT h (i-1) i (by omega) hil
     omega,hng h0⟩
    refine ih (i+1) (by omega) (by omega) _ hc' (by simp;omega) (fun _=>⟨by simp, ?_⟩) (fun n=> ?_) (fun N hN p hp'=> ?_)
    ·rw[lK,aaf,lL _ _ _ _ (by omega),show out.length+1-1-out.length=0 by omega]
     rfl
    ·rw[hts n]
     by_cases hh:ce (l.getD i pz) n
     ·rw[if_pos hh];exact kv hc'.1 (by simp) hh
     ·rw[if_neg hh,←hcell n]
      rcases o3 ho.1 n with⟨q,hq,hqn,e⟩|⟨hno,e⟩
      ·rw[e];exact kv hc'.1 (aaE _ hq) hqn
      ·rw[e]
       refine st fun q hq=> ?_
       rcases aat.1 hq with hq|hq
       ·exact hno q hq
       ·rw[aap.1 hq];exact hh
    ·rcases aat.1 hp' with hq|hq
     ·exact hend N hN p hq
     ·rw[aap.1 hq];exact hN _ hpm
   by_cases h0:0<out.length
   ·have hol':out.length≤200:=by omega
    have hrd:I out ((out.length-1:Nat):Int)=out.getD (out.length-1) pz:=kj _ _;have hq:=ho.1.1 (out.length-1) (by omega)
    have hi0:0<i:=by
     by_cases e:0<i
     ·exact e
     ·omega
    have hle:=(hlast hi0).2;have hprev:=mT h (i-1) i (by omega) hil
    by_cases hgo:lE (out.getD (out.length-1) pz) (l.getD i pz)
    ·
     have hq':=hq;have hp':=hp;unfold eM at hq' hp';have hgo':=hgo;unfold lE at hgo'
     have hsplit:out=out.take (out.length-1)++[out.getD (out.length-1) pz]:=by
      have:=lu out (out.length-1) pz (by omega);rw[show out.length-1+1=out.length by omega,aaQ]at this;exact this
     generalize hQ:out.getD (out.length-1) pz=q at *
     generalize hO:out.take (out.length-1)=o at *
     have L9:o.length=out.length-1:=by rw[←hO,ao];omega
     have hoc:ja o:=by rw[←hO];exact canon_take ho _
     have hset:out.set (out.length-1) ⟨q.f0,q.f1+(l.getD i pz).f1,q.f2,q.f3⟩=o++[⟨q.f0,q.f1+(l.getD i pz).f1,q.f2,q.f3⟩]:=by
      conv=>lhs;arg 1;rw[hsplit]
      rw[List.set_append_right _ _ (by omega),L9,Nat.sub_self]
      rfl
     have hlo:0<o.length→(o.getD (o.length-1) pz).f0+(o.getD (o.length-1) pz).f1≤q.f0∧¬lE (o.getD (o.length-1) pz) q:=by
      intro ho0
      have e1:o.getD (o.length-1) pz=out.getD (out.length-1-1) pz:=by
       rw[hsplit,ls _ _ _ _ (by rw[←hsplit];omega)];rw[←hsplit,L9]
      have e2:=ho.1.2 (out.length-1-1) (by omega);have e3:=ho.2 (out.length-1-1) (by omega);rw[show out.length-1-1+1=out.length-1 by omega,hQ]at e2 e3;rw[e1];exact⟨e2,e3⟩
     have hn:ja (o++[⟨q.f0,q.f1+(l.getD i pz).f1,q.f2,q.f3⟩]):=Li hoc (by unfold eM;simp only;omega) fun ho0=>⟨(hlo ho0).1,fun hg=>(hlo ho0).2 (by unfold lE at hg⊢;exact hg)⟩
     obtain⟨out',h1,h2,h3,h4⟩:=ih (i+1) (by omega) (by omega) _ hn (by simp;omega) (fun _=>⟨by simp,by
      rw[lK,aaf,lL _ _ _ _ (by omega),show o.length+1-1-o.length=0 by omega]
      show q.f0+(q.f1+(l.getD i pz).f1)=_
      rw[show i+1-1=i by omega]
      omega⟩) (fun n=>by
       rw[hts n,←hcell n]
       by_cases hh:ce (l.getD i pz) n
       ·rw[if_pos hh,kv hn.1 (p:=⟨q.f0,q.f1+(l.getD i pz).f1,q.f2,q.f3⟩) (by simp) (by unfold ce at hh⊢;simp only;omega)]
        simp only
        congr 1
        ·omega
        ·exact hgo'.2.2
       ·rw[if_neg hh]
        by_cases AR:ce q n
        ·rw[kv hn.1 (p:=⟨q.f0,q.f1+(l.getD i pz).f1,q.f2,q.f3⟩) (by simp) (by unfold ce at AR⊢;simp only;omega),kv ho.1 (p:=q) (by rw[hsplit];simp) AR]
        ·rcases o3 hoc.1 n with⟨u,hu,hun,e⟩|⟨hno,e⟩
         ·rw[kv hn.1 (aaE _ hu) hun,kv ho.1 (p:=u) (by rw[hsplit];exact aaE _ hu) hun]
         ·have a1:bD (o++[(⟨q.f0,q.f1+(l.getD i pz).f1,q.f2,q.f3⟩:Pc)]) n=dO:=by
           refine st fun u hu=> ?_
           rcases aat.1 hu with hu|hu
           ·exact hno u hu
           ·rw[aap.1 hu]
            unfold ce at hh AR⊢;simp only
            omega
          have a2:bD out n=dO:=by
           refine st fun u hu=> ?_
           rw[hsplit]at hu
           rcases aat.1 hu with hu|hu
           ·exact hno u hu
           ·rw[aap.1 hu];exact AR
          rw[a1,a2]) (fun N hN u hu=>by
       rcases aat.1 hu with hu|hu
       ·exact hend N hN u (by rw[hsplit];exact aaE _ hu)
       ·rw[aap.1 hu]
        have:=hN _ hpm;simp only
        omega)
     refine⟨out',Ev.step (fun k=>by rw[dK.l0]) ?_,h2,h3,h4⟩;rw[kj l i,Aj out h0 (by omega),hrd,bg (x:=(i:Int)+1) (by omega) (by omega)];refine Ev.pos (by omega) (Ev.pos (by omega) (Ev.pos (by omega) (Ev.pos (by omega) (Ev.pos (by omega) (Ev.pos (by omega) (Ev.cW _ (M2 _ _ hq) ?_))))));refine Ev.pos (by simpa using hgo) ?_;rw[bg (x:=q.f1+(l.getD i pz).f1) (by omega) (by omega),Int.toNat_natCast,hset];exact h1
    ·obtain⟨out',h1,h2,h3,h4⟩:=app fun _=>hgo
     refine⟨out',Ev.step (fun k=>by rw[dK.l0]) ?_,h2,h3,h4⟩;rw[kj l i,Aj out h0 (by omega),hrd,bg (x:=(i:Int)+1) (by omega) (by omega),eta];refine Ev.pos (by omega) (Ev.pos (by omega) (Ev.pos (by omega) (Ev.pos (by omega) (Ev.pos (by omega) (Ev.pos (by omega) (Ev.cW _ (M2 _ _ hq) ?_))))));exact Ev.neg (by simpa using hgo) (Ev.pos (by omega) h1)
   ·obtain⟨out',h1,h2,h3,h4⟩:=app fun h=>absurd h h0
    refine⟨out',Ev.step (fun k=>by rw[dK.l0]) ?_,h2,h3,h4⟩;rw[kj l i,bg (x:=(i:Int)+1) (by omega) (by omega),eta];refine Ev.pos (by omega) (Ev.pos (by omega) (Ev.pos (by omega) (Ev.neg ?_ (Ev.pos (by omega) h1))));rw[show out.length=0 by omega,bg (by omega) (by omega)]
    omega
 unfold dK.f;exact key l.length 0 rfl (by omega) [] ⟨⟨by intro i hi;simp at hi,by intro i hi;simp at hi⟩,by intro i hi;simp at hi⟩ (by simp) (by intro h;omega) (by intro n;rw[List.take_zero]) (by intro N _ p hp;simp at hp)
theorem a0z(l:List Pc)(p:Pc)(hl:l.length≤1000):∃k0:Nat,k0≤l.length∧(∀j,j<k0→(l.getD j pz).f0<p.f0)∧(k0<l.length→p.f0≤(l.getD k0 pz).f0)∧Ev (fun k=>gW.f k l p.f0 p.f1 p.f2 p.f3) (l.take k0++[p]++l.drop k0):=by
 have key:∀d i,l.length-i=d→i≤l.length→(∀j,j<i→(l.getD j pz).f0<p.f0)→∃k0:Nat,k0≤l.length∧(∀j,j<k0→(l.getD j pz).f0<p.f0)∧(k0<l.length→p.f0≤(l.getD k0 pz).f0)∧Ev (fun k=>gW.l0 k l (i:Int) p.f0 p.f1 p.f2 p.f3) (l.take k0++[p]++l.drop k0):=by
  intro d
  induction d with
  |zero=>
   intro i hd hi hj
   have:i=l.length:=by omega
   subst this;refine⟨l.length,Nat.le_refl _,hj,by omega,Ev.step (fun k=>by rw[gW.l0]) ?_⟩;refine Ev.neg (by omega) (Ev.pos (by omega) (Ev.pos (by omega) (Ev.cW _ rfl (Ev.pos (by simp;omega) (Ev.cW _ rfl (Ev.pos (by simp;omega) (Ev.cW _ rfl (Ev.cW _ rfl (Ev.pos (by simp;omega) (Ev.now' (by simp)))))))))))
  |succ d ih=>
   intro i hd hi hj
   have hil:i<l.length:=by omega
   by_cases hlt:(l.getD i pz).f0<p.f0
   ·obtain⟨k0,h1,h2,h3,h4⟩:=ih (i+1) (by omega) (by omega) (fun j hj'=>by
     by_cases e:j=i
     ·subst e;exact hlt
     ·exact hj j (by omega))
    refine⟨k0,h1,h2,h3,Ev.step (fun k=>by rw[gW.l0]) ?_⟩;rw[kj,bg (x:=(i:Int)+1) (by omega) (by omega)];exact Ev.pos (by omega) (Ev.pos (by omega) (Ev.pos hlt h4))
   ·refine⟨i,hi,hj,fun _=>by omega,Ev.step (fun k=>by rw[gW.l0]) ?_⟩
    rw[kj];refine Ev.pos (by omega) (Ev.pos (by omega) (Ev.neg hlt (Ev.pos (by omega) (Ev.cW _ rfl (Ev.pos (by simp;omega) (Ev.cW _ rfl (Ev.pos (by simp;omega) (Ev.cW _ rfl (Ev.cW _ rfl (Ev.pos (by simp;omega) (Ev.now' (by simp))))))))))))
 unfold gW.f;exact key l.length 0 rfl (by omega) (by intro j hj;omega)
theorem a0h {l:List Pc}{p:Pc}{k0:Nat}(h:gi l)(hp:eM p)(hk:k0≤l.length)(h1:∀j,j<k0→(l.getD j pz).f0<p.f0)(h2:k0<l.length→p.f0≤(l.getD k0 pz).f0)(hap:∀q∈l,q.f0+q.f1≤p.f0∨p.f0+p.f1≤q.f0):gi (l.take k0++[p]++l.drop k0):=by
 have hpr:=hp;unfold eM at hpr
 have hto:gi (l.take k0++[p]):=Qk (wG h k0) hp fun h0=>by
  have e1:(l.take k0).length=k0:=by rw[ao];omega
  have e2:(l.take k0).getD ((l.take k0).length-1) pz=l.getD (k0-1) pz:=by
   rw[e1]
   simp[vn,show k0-1<k0 by omega]
  rw[e2];have e3:=h1 (k0-1) (by omega);have e4:=hap _ (jB l (k0-1) pz (by omega));have e5:=h.1 (k0-1) (by omega);unfold eM at e5
  omega
 have hln:(l.take k0++[p]).length=k0+1:=by rw[lK,ao,aaf];omega
 have hd:∀j,(l.drop k0).getD j pz=l.getD (k0+j) pz:=fun j=>by simp[vn]
 refine⟨fun i hi=> ?_,fun i hi=> ?_⟩
 ·by_cases e:i<k0+1
  ·rw[ls _ _ _ _ (by omega)];exact hto.1 i (by omega)
  ·rw[lL _ _ _ _ (by omega),hd,hln]
   rw[lK,hln,gy]at hi;exact h.1 _ (by omega)
 ·rw[lK,hln,gy]at hi
  by_cases e:i+1<k0+1
  ·rw[ls (l.take k0++[p]) _ i _ (by omega),ls (l.take k0++[p]) _ (i+1) _ (by omega)];exact hto.2 i (by omega)
  ·rw[lL (l.take k0++[p]) _ (i+1) _ (by omega),hd,hln]
   by_cases e2:i=k0
   ·subst e2
    rw[ls (l.take i++[p]) _ _ _ (by omega),lL (l.take i) _ _ _ (by rw[ao];omega),show i-(l.take i).length=0 by rw[ao];omega,show i+(i+1-(i+1))=i by omega]
    show p.f0+p.f1≤_
    have e3:=h2 (by omega);have e4:=hap _ (jB l i pz (by omega));have e5:=h.1 i (by omega);unfold eM at e5
    omega
   ·rw[lL (l.take k0++[p]) _ i _ (by omega),hd,hln]
    have:=h.2 (k0+(i-(k0+1))) (by omega);rw[show k0+(i+1-(k0+1))=k0+(i-(k0+1))+1 by omega];exact this
theorem Mm {l:List Pc}{p q:Pc}{k0:Nat}:q∈l.take k0++[p]++l.drop k0↔q=p∨q∈l:=by
 rw[aat,aat,aap]
 conv=>rhs;rw[←List.take_append_drop k0 l,aat]
 constructor
 ·rintro((h|h)|h)
  ·exact .inr (.inl h)
  ·exact .inl h
  ·exact .inr (.inr h)
 ·rintro(h|h|h)
  ·exact .inl (.inr h)
  ·exact .inl (.inl h)
  ·exact .inr h
theorem Yo {l:List Pc}{p:Pc}{k0:Nat}(h:gi l)(ho:gi (l.take k0++[p]++l.drop k0))(n:Nat):bD (l.take k0++[p]++l.drop k0) n=if ce p n then⟨true,p.f2+((n:Int)-p.f0),p.f3⟩else bD l n:=by
 by_cases hh:ce p n
 ·rw[if_pos hh];exact kv ho (Mm.2 (.inl rfl)) hh
 ·rw[if_neg hh]
  rcases o3 h n with⟨q,hq,hqn,e⟩|⟨hno,e⟩
  ·rw[e];exact kv ho (Mm.2 (.inr hq)) hqn
  ·rw[e]
   refine st fun q hq=> ?_
   rcases Mm.1 hq with rfl|hq
   ·exact hh
   ·exact hno q hq
end Go.Proofs.Ytjojdplkgekagaa.Q
