/- The plain law of FnPunched: a range that is punched is a hole and its blocks come back; what is written stays where it is; holes and blocks make up all. No condition. -/
import Derived.Test.YtjojdplkgekagaaMapDraw2
import Derived.Test.YtjojdplkgekagaaMapCnt2
import Derived.Test.YtjojdplkgekagaaMapHolesG
import Derived.Test.YtjojdplkgekagaaMapBlocksG
import Derived.Test.YtjojdplkgekagaaMapTruncG
import Derived.Test.YtjojdplkgekagaaG9
import Derived.Test.YtjojdplkgekagaaG7
import Derived.Test.YtjojdplkgekagaaG6
open Bool renaming false_ne_true→aaM
open Nat renaming zero_le→abB
namespace Go.Proofs.Ytjojdplkgekagaa.Q
open Go.RowKit Go.Proofs.YtjojdplkgekagaaW.PrintWords Go.Proofs.Ytjojdplkgekagaa.G
set_option linter.unusedVariables false
set_option linter.unusedSimpArgs false
theorem X9(l:List Pc)(hl:l.length≤2000000):Ev (fun k=>hD.f k l l) true:=by
 have key:∀d i,l.length-i=d→i≤l.length→Ev (fun k=>hD.l0 k (l.length:Int) (i:Int) l l) true:=by
  intro d
  induction d with
  |zero=>
   intro i hd hi;refine Ev.step (fun k=>by rw[hD.l0]) ?_;exact Ev.neg (by omega) (Ev.now _)
  |succ d ih=>
   intro i hd hi;refine Ev.step (fun k=>by rw[hD.l0]) ?_;refine Ev.pos (by omega) (Ev.pos (by omega) (Ev.pos (by omega) (Ev.pos (by omega) (Ev.neg (by simp) ?_))));rw[show wrap64 ((i:Int)+1)=((i+1:Nat):Int) by rw[bg (by omega) (by omega)];rfl];exact ih (i+1) (by omega) (by omega)
 unfold hD.f;exact Ev.pos rfl (key l.length 0 rfl (abB _))
theorem X5(l:List Ex)(hl:l.length≤2000000):Ev (fun k=>i4.f k l l) true:=by
 have key:∀d i,l.length-i=d→i≤l.length→Ev (fun k=>i4.l0 k l l (l.length:Int) (i:Int)) true:=by
  intro d
  induction d with
  |zero=>
   intro i hd hi;refine Ev.step (fun k=>by rw[i4.l0]) ?_;exact Ev.neg (by omega) (Ev.now _)
  |succ d ih=>
   intro i hd hi;refine Ev.step (fun k=>by rw[i4.l0]) ?_;refine Ev.pos (by omega) (Ev.pos (by omega) (Ev.pos (by omega) (Ev.pos (by omega) (Ev.neg (by simp) ?_))));rw[show wrap64 ((i:Int)+1)=((i+1:Nat):Int) by rw[bg (by omega) (by omega)];rfl];exact ih (i+1) (by omega) (by omega)
 unfold i4.f;exact Ev.pos rfl (key l.length 0 rfl (abB _))
theorem Ps(l:List Pc)(hg:dh l)(n:Nat)(hn:n<200):Ev (fun k=>ej.f k l (n:Int)) (if(bD l n).f0=true then((bD l n).f1,(bD l n).f2,true)else(-1,false,true)):=by
 have hl:l.length≤1048576:=by have:=hg.1;omega
 unfold ej.f;refine Ev.bind' _ (yE l hl) (Ev.pos (by simpa using hg) (Ev.cW _ (yP _ _ _) ?_));rw[decide_eq_true (show(0:Int)≤(n:Int)∧(n:Int)≤199 by omega)];refine Ev.step (fun k=>by rw[ej.j0]) ?_;refine Ev.neg aaM (Ev.bind' _ (EF l hg.2 hl) (Ev.pos (by omega) (Ev.pos (by rw[nM];omega) ?_)));rw[show am (cellsOf l) (n:Int)=bD l n from(rdcell_cast _ n).trans (uc l n hn)]
 by_cases c:(bD l n).f0=true
 ·exact Ev.pos c (Ev.now' (by rw[if_pos c]))
 ·exact Ev.neg c (Ev.now' (by rw[if_neg c]))
theorem punched_holes(x:List Int)(hb:qO x):Ev (fun k=>b8.j8 k x) true:=by
 obtain⟨m,b,ed,hml⟩:=drawHoles_ok x hb;obtain⟨⟨E,ok⟩,es,ei,hlen,hok⟩:=holes_ev m (by omega) b;have hlen':E.length≤1000:=hlen;refine Ev.step (fun k=>by rw[b8.j8]) ?_;refine Ev.bind' _ ed (Ev.bind' _ ei (Ev.bind' _ es (Ev.neg (by simp) (Ev.bind' _ (X5 E (by omega)) ?_))));refine Ev.step (fun k=>by rw[b8.j9]) (Ev.neg (by simp) ?_)
 cases ok with
 |false=>
  have hE:E=[]:=hok.2 rfl;exact Ev.neg aaM (Ev.now' (by rw[hE];rfl))
 |true=>
  obtain⟨hg,hb2,hE,hI⟩:=hok.1 rfl;simp only at hE hI;obtain⟨o,F,et,hgo,hco⟩:=trunc_ev m hg b hb2
  have hB:((b.toNat:Nat):Int)=b:=by omega
  have hEo:me ((b.toNat:Nat):Int) E:=by rw[hB];exact hE.1
  have hle:=fun i hi=>a0b hEo i hi
  have c0:=Ep (fun n=>(bD o n).f0=true) 200
  have tot:dW (fun n=>(bD o n).f0=true) 200+mf E E.length=b:=by
   rw[Yk hEo]
   have e1:dW (fun n=>(bD o n).f0=true) 200=dW (fun n=>(n:Int)<((b.toNat:Nat):Int)∧(bD m n).f0=true) (b.toNat+(200-b.toNat)):=by
    rw[show b.toNat+(200-b.toNat)=200 by omega]
    refine qN 200 fun n hn=> ?_
    rw[hco n]
    by_cases c:b≤(n:Int)∧(n:Int)<200
    ·rw[if_pos c]
     exact⟨fun h=>by simp[dO]at h,fun h=>absurd h.1 (by omega)⟩
    ·rw[if_neg c]
     exact⟨fun h=>⟨by omega,h⟩,fun h=>h.2⟩
   rw[e1,a0c,←Er (P:=fun n=>(bD m n).f0=true) (Q:=fun n=>gm E n) b.toNat (fun n hn h1 h2=>by
    rw[(hI n (by omega)).1 h2]at h1
    cases h1),a0d b.toNat (fun n hn=>by
    cases c:(bD m n).f0 with
    |true=>exact .inl rfl
    |false=>exact .inr ((hI n (by omega)).2 c)),hB]
  refine Ev.pos rfl (Ev.bind' _ et (Ev.bind' _ (Rs o hgo) ?_))
  have loop:∀d i:Nat,E.length-i=d→i≤E.length→Ev (fun k=>b8.l4 k b true (dW (fun n=>(bD o n).f0=true) 200+mf E i) true E (E.length:Int) (i:Int)) true:=by
   intro d
   induction d with
   |zero=>
    intro i hd hi
    obtain rfl:i=E.length:=by omega
    refine Ev.step (fun k=>by rw[b8.l4]) ?_;exact Ev.neg (by omega) (Ev.pos rfl (Ev.pos rfl (Ev.now' (by rw[tot];simp))))
   |succ d ih=>
    intro i hd hi;have h1:=hle i hi;have h2:=hle (i+1) (by omega);rw[mf]at h2;refine Ev.step (fun k=>by rw[b8.l4]) ?_;refine Ev.pos (by omega) (Ev.pos (by omega) (Ev.pos (by omega) ?_));rw[qP,bg (x:=dW (fun n=>(bD o n).f0=true) 200+mf E i+(E.getD i ez).f1) (by omega) (by omega),bg (x:=(i:Int)+1) (by omega) (by omega),Int.add_assoc];exact ih (i+1) (by omega) (by omega)
  have:=loop E.length 0 rfl (abB _);rw[mf,Int.add_zero]at this;exact this
theorem punched_written(x:List Int)(hb:qO x):Ev (fun k=>b8.j5 k x) true:=by
 obtain⟨m,f,n,ed,hml⟩:=drawWr_ok x hb;obtain⟨⟨w,ok⟩,es,ei,hlen,hok⟩:=X6 m f n (by omega);have hlen':w.length≤2000000:=hlen;have last:=punched_holes x hb;refine Ev.step (fun k=>by rw[b8.j5]) ?_;refine Ev.bind' _ ed (Ev.bind' _ ei (Ev.bind' _ es (Ev.neg (by simp) (Ev.bind' _ (X9 w hlen') ?_))));refine Ev.step (fun k=>by rw[b8.j6]) (Ev.neg (by simp) ?_)
 cases ok with
 |false=>exact Ev.neg aaM last
 |true=>
  obtain⟨hg,hs,hgw,hall,hc⟩:=hok rfl;simp only at hgw hc;unfold o1 at hs;refine Ev.pos rfl ?_
  have loop:∀d i:Nat,60-i=d→i≤60→Ev (fun k=>b8.l3 k x f n (i:Int) m w) true:=by
   intro d
   induction d with
   |zero=>
    intro i hd hi;refine Ev.step (fun k=>by rw[b8.l3]) ?_;exact Ev.neg (by omega) last
   |succ d ih=>
    intro i hd hi;have nx:=ih (i+1) (by omega) (by omega)
    have hw:wrap64 ((i:Int)+1)=((i+1:Nat):Int):=by rw[bg (by omega) (by omega)];rfl
    have b1:=Ps m hg i (by omega);have b2:=Ps w hgw i (by omega);rw[hc i (by omega)]at b2;refine Ev.step (fun k=>by rw[b8.l3]) ?_;rw[bg (x:=f+n) (by omega) (by omega),hw]
    by_cases c:f≤(i:Int)∧(i:Int)<f+n
    ·have hf:=hall i c.1 c.2
     have hr:=Lg (rn hg.2).1 i hf;rw[if_pos c]at b2;rw[if_pos hf]at b1;rw[if_pos hf]at b2;exact Ev.pos (by omega) (Ev.bind' _ b1 (Ev.bind' _ b2 (Ev.pos rfl (Ev.pos rfl (Ev.pos rfl (Ev.pos c.1 (Ev.pos c.2 (Ev.neg aaM (Ev.neg (by simp only;omega) nx)))))))))
    ·rw[if_neg c]at b2
     have fin:∀ (v:Int×Bool×Bool),v.2.2=true→Ev (fun k=>ej.f k m (i:Int)) v→Ev (fun k=>ej.f k w (i:Int)) v→Ev (fun k=>(if(i:Int)<60 then((ej.f k m (i:Int)).bind fun C8=>((ej.f k w (i:Int)).bind fun C9=>(if C8.2.2=true then(if C9.2.2=true then(if C8.1=C9.1 then(if(i:Int)≥f then(if(i:Int)<f+n then(if C9.2.1=true then(some false)else(if C8.1=(-1)then(some false)else(b8.l3 k x f n ((i+1:Nat):Int) m w)))else(b8.l3 k x f n ((i+1:Nat):Int) m w))else(b8.l3 k x f n ((i+1:Nat):Int) m w))else(some false))else(some false))else(some false))))else(b8.j8 k x))) true:=fun v hv h1 h2=>
      Ev.pos (by omega) (Ev.bind' _ h1 (Ev.bind' _ h2 (Ev.pos hv (Ev.pos hv (Ev.pos rfl (Ev.ite (fun q=>Ev.neg (fun r=>c ⟨q,r⟩) nx) (fun _=>nx)))))))
     refine fin _ ?_ b1 b2
     by_cases q:(bD m i).f0=true
     ·rw[if_pos q]
     ·rw[if_neg q]
  exact loop 60 0 rfl (by omega)
theorem Yl {l:List Pc}{n:Nat}(h:(bD l n).f0=true):bD l n=⟨true,(bD l n).f1,(bD l n).f2⟩:=by
 have e:bD l n=⟨(bD l n).f0,(bD l n).f1,(bD l n).f2⟩:=rfl;rw[h]at e;exact e
theorem Ym {l:List Pc}(hg:dh l){n m:Nat}(hn:(bD l n).f0=true)(hm:(bD l m).f0=true)(h:(bD l n).f1=(bD l m).f1):n=m:=by
 have e:=Yl hn;rw[h]at e;exact good_inj hg e (Yl hm)
theorem punched_apart {m x:List Pc}{gone left:List Ex}{a b:Int}(hp:Mk m a b (x,gone,true))(hl:jO 400 left)(hI:∀c,gm left c↔ ∃p∈x,wl p c):∀e,e∈gone→∀o,o∈left→¬(e.f0<o.f0+o.f1∧o.f0<e.f0+e.f1):=by
 obtain⟨hg,hs,hx,hc,hE,hG⟩:=hp;simp only at hx hc hE hG;intro e he o ho h;have i1:=Ml hE.1 he;have i2:=Ml hl.1 ho;unfold iS at i1 i2
 obtain⟨c,h1,h2⟩:∃c:Nat,lS e c∧lS o c:=by
  by_cases q:e.f0≤o.f0
  ·exact⟨o.f0.toNat,by unfold lS;omega,by unfold lS;omega⟩
  ·exact⟨e.f0.toNat,by unfold lS;omega,by unfold lS;omega⟩
 obtain⟨n,hn,hf,hv⟩:=(hG c).1 ⟨e,he,h1⟩;obtain⟨p,hp,hpc⟩:=(hI c).1 ⟨o,ho,h2⟩;have hox:=(rn hx.2).1;have hpi:=z3 hox hp;unfold eM at hpi;unfold wl at hpc;have hat:=kv hox hp (n:=(p.f0+((c:Int)-p.f2)).toNat) (by unfold ce;omega);rw[hc]at hat
 by_cases q:a≤(((p.f0+((c:Int)-p.f2)).toNat:Nat):Int)∧(((p.f0+((c:Int)-p.f2)).toNat:Nat):Int)<a+b
 ·rw[if_pos q]at hat
  simp[dO]at hat
 ·rw[if_neg q]at hat
  have:n=(p.f0+((c:Int)-p.f2)).toNat:=Ym hg hf (by rw[hat]) (by rw[hv,hat];simp only;omega);rw[←this]at q;exact q hn
theorem punched_sum {m x:List Pc}{gone:List Ex}{a b:Int}(hp:Mk m a b (x,gone,true)):dW (fun n=>(bD m n).f0=true) 200=dW (fun n=>(bD x n).f0=true) 200+mf gone gone.length:=by
 obtain⟨hg,hs,hx,hc,hE,hG⟩:=hp;simp only at hx hc hE hG;unfold o1 at hs;have e0:mf gone gone.length=dW (fun b=>gm gone b) 400:=Yk (N:=400) hE.1
 have e1:dW (fun b=>gm gone b) 400=dW (fun c=>∃n:Nat,n<200∧((a≤(n:Int)∧(n:Int)<a+b)∧(bD m n).f0=true)∧(bD m n).f1=(c:Int)) 400:=qN 400 fun c _=>by
  rw[hG c]
  constructor
  ·rintro⟨n,h1,h2,h3⟩
   exact⟨n,by omega,⟨h1,h2⟩,h3⟩
  ·rintro⟨n,_,⟨h1,h2⟩,h3⟩
   exact⟨n,h1,h2,h3⟩
 rw[e0,e1,a0e (P:=fun n:Nat=>(a≤(n:Int)∧(n:Int)<a+b)∧(bD m n).f0=true) (g:=fun n=>(bD m n).f1) 400 200 (fun n _ h=>Lg (rn hg.2).1 n h.2) (fun n k _ _ h1 h2 h3=>Ym hg h1.2 h2.2 h3),←Er 200 (fun n _ h1 h2=>by
  rw[hc n,if_pos h2.1]at h1
  simp[dO]at h1)]
 refine qN 200 fun n _=> ?_
 rw[hc n]
 by_cases q:a≤(n:Int)∧(n:Int)<a+b
 ·rw[if_pos q]
  exact⟨fun h=> .inr ⟨q,h⟩,fun h=>h.elim (fun h=>by simp[dO]at h) (fun h=>h.2)⟩
 ·rw[if_neg q]
  exact⟨.inl,fun h=>h.elim id (fun h=>h.2)⟩
theorem punched_first(y:List Int)(m x:List Pc)(gone:List Ex)(a b:Int)(hp:Mk m a b (x,gone,true))(next:Ev (fun k=>b8.j5 k y) true):Ev (fun k=>b8.j0 k y a b gone true false m x) true:=by
 have hp0:=hp;obtain⟨hg,hs,hx,hc,hE,hG⟩:=hp;simp only at hx hc hE hG;unfold o1 at hs;obtain⟨left,eb,hL,hI⟩:=blocks_ev x hx;have apart:=punched_apart hp0 hL hI;have sum:=punched_sum hp0
 have hle:=fun i hi=>a0b (N:=400) hE.1 i hi
 have c0:=Ep (fun n=>(bD x n).f0=true) 200;have hgl:=E2 hE.1;have hll:=E2 hL.1
 have hxl:x.length≤1048576:=by have:=hx.1;omega
 refine Ev.step (fun k=>by rw[b8.j0]) (Ev.neg aaM (Ev.pos rfl (Ev.bind' _ (Rs m hg) (Ev.bind' _ (Rs x hx) (Ev.bind' _ eb ?_)))))
 have l2:∀d n:Nat,(a+b).toNat-n=d→a≤(n:Int)→(n:Int)≤a+b→Ev (fun k=>b8.l2 k y a b (n:Int) x) true:=by
  intro d
  induction d with
  |zero=>
   intro n hd h1 h2;refine Ev.step (fun k=>by rw[b8.l2]) ?_;rw[bg (x:=a+b) (by omega) (by omega)];exact Ev.neg (by omega) next
  |succ d ih=>
   intro n hd h1 h2;have b1:=Ps x hx n (by omega);rw[hc n,if_pos (show a≤(n:Int)∧(n:Int)<a+b from⟨h1,by omega⟩),if_neg (by simp[dO])]at b1;refine Ev.step (fun k=>by rw[b8.l2]) ?_;rw[bg (x:=a+b) (by omega) (by omega),show wrap64 ((n:Int)+1)=((n+1:Nat):Int) by rw[bg (by omega) (by omega)];rfl];exact Ev.pos (by omega) (Ev.bind' _ b1 (Ev.pos rfl (Ev.pos rfl (ih (n+1) (by omega) (by omega) (by omega)))))
 have j3:Ev (fun k=>b8.j3 k y a b false x) true:=by
  refine Ev.step (fun k=>by rw[b8.j3]) (Ev.neg aaM ?_);have:=l2 ((a+b).toNat-a.toNat) a.toNat rfl (by omega) (by omega);rw[show((a.toNat:Nat):Int)=a by omega]at this;exact this
 have l0:∀d i:Nat,gone.length-i=d→i≤gone.length→Ev (fun k=>b8.l0 k y a b (dW (fun n=>(bD m n).f0=true) 200) true (dW (fun n=>(bD x n).f0=true) 200) true left true (mf gone i) gone (gone.length:Int) (i:Int) x) true:=by
  intro d
  induction d with
  |zero=>
   intro i hd hi
   obtain rfl:i=gone.length:=by omega
   have h1:=hle _ (Nat.le_refl _);refine Ev.step (fun k=>by rw[b8.l0]) ?_;rw[bg (x:=dW (fun n=>(bD x n).f0=true) 200+mf gone gone.length) (by omega) (by omega)];refine Ev.neg (by omega) (Ev.pos rfl (Ev.pos rfl (Ev.pos rfl (Ev.pos sum (Ev.bind' _ (yE x hxl) ?_)))));rw[decide_eq_true hx];exact j3
  |succ d ih=>
   intro i hd hi;have h1:=hle i hi;have h2:=hle (i+1) (by omega)
   have hi':i<gone.length:=by omega
   have nx:=ih (i+1) (by omega) (by omega);have hin:=Ml hE.1 (jB gone i ez hi');unfold iS at hin;rw[mf]at h2 nx;refine Ev.step (fun k=>by rw[b8.l0]) ?_;refine Ev.pos (by omega) (Ev.pos (by omega) (Ev.pos (by omega) ?_));rw[qP,bg (x:=mf gone i+(gone.getD i ez).f1) (by omega) (by omega)]
   have l1:∀d j:Nat,left.length-j=d→j≤left.length→Ev (fun k=>b8.l1 k y a b (dW (fun n=>(bD m n).f0=true) 200) true (dW (fun n=>(bD x n).f0=true) 200) true left true (mf gone i+(gone.getD i ez).f1) gone (gone.length:Int) (i:Int) left (left.length:Int) (j:Int) x (gone.getD i ez).f0 (gone.getD i ez).f1) true:=by
    intro d
    induction d with
    |zero=>
     intro j hd hj;refine Ev.step (fun k=>by rw[b8.l1]) ?_;rw[show wrap64 ((i:Int)+1)=((i+1:Nat):Int) by rw[bg (by omega) (by omega)];rfl];exact Ev.neg (by omega) nx
    |succ d ih2=>
     intro j hd hj
     have hj':j<left.length:=by omega
     have hno:=apart _ (jB gone i ez hi') _ (jB left j ez hj');have hin2:=Ml hL.1 (jB left j ez hj');unfold iS at hin2;have nx2:=ih2 (j+1) (by omega) (by omega);refine Ev.step (fun k=>by rw[b8.l1]) ?_;rw[qP,bg (x:=(left.getD j ez).f0+(left.getD j ez).f1) (by omega) (by omega),bg (x:=(gone.getD i ez).f0+(gone.getD i ez).f1) (by omega) (by omega),show wrap64 ((j:Int)+1)=((j+1:Nat):Int) by rw[bg (by omega) (by omega)];rfl];exact Ev.pos (by omega) (Ev.pos (by omega) (Ev.pos (by omega) (Ev.ite (fun q=>Ev.neg (fun r=>hno ⟨q,r⟩) nx2) (fun _=>nx2))))
   exact l1 left.length 0 rfl (abB _)
 exact l0 gone.length 0 rfl (abB _)
theorem FnPunched:b8.Pure:=by
 intro l0 l1 ho ho1;have hb:=Yn ho.2;have next:=punched_written l1 (Yn ho1.2)
 suffices h:Ev (fun k=>b8.f k l0 l1) true by
  obtain⟨K,h⟩:=h;exact⟨K,h K (Nat.le_refl _)⟩
 unfold b8.f;refine Ev.ite (fun _=>Ev.now _) (fun _=> ?_);obtain⟨m,a,b,ed,hml⟩:=drawPunch_ok l0 hb;obtain⟨⟨x,gone,ok⟩,es,ei,h1,h2,hok⟩:=XA m a b (by omega);refine Ev.bind' _ ed (Ev.bind' _ ei (Ev.bind' _ es (Ev.neg (by simp) (Ev.bind' _ (X9 x h1) (Ev.pos rfl (Ev.bind' _ (X5 gone h2) ?_))))))
 show Ev (fun k=>b8.j0 k l1 a b gone ok false m x) true
 cases ok with
 |true=>exact punched_first l1 m x gone a b (hok rfl) next
 |false=>exact Ev.step (fun k=>by rw[b8.j0]) (Ev.neg aaM (Ev.neg aaM next))
end Go.Proofs.Ytjojdplkgekagaa.Q
