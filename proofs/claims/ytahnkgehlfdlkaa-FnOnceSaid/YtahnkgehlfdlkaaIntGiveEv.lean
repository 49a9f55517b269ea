/- GiveRoom of both: the same answer, for all arguments. No statement. -/
import Derived.Test.YtahnkgehlfdlkaaIntGive
import Derived.Test.YtahnkgehlfdlkaaIntItems
import Derived.Test.YtahnkgehlfdlkaaG3
import Derived.Test.YtahnkgehlfdlkaaG8
import Derived.Test.YtahnkgehlfdlkaaG7
open Bool renaming false_ne_true→eI
open List renaming length_append→oB,length_singleton→aan,length_nil→aar,nil_append→aaH,length_cons→aaQ,append_assoc→aa2
open Nat renaming zero_le→pu
namespace Go.Proofs.Ytahnkgehlfdlkaa.Q
open Go.RowKit Go.Proofs.YtahnkgehlfdlkaaW.PrintWords Go.Proofs.Ytahnkgehlfdlkaa.G
set_option linter.unusedVariables false
set_option linter.unusedSimpArgs false
theorem Ev.uniq {α:Type}{g:Nat→Option α}{a b:α}(h:Ev g a)(h2:Ev g b):a=b:=by
 obtain⟨K1,h1⟩:=h;obtain⟨K2,h2⟩:=h2;have e1:=h1 (K1+K2) (by omega);rw[h2 (K1+K2) (by omega)]at e1;exact(Option.some.inj e1).symm
theorem place_all(l:List X_)(n:Int):∀ (d j:Nat),l.length-j=d→pV l n d j=true→∀i,j≤i→i<l.length→¬vr l n i:=by
 intro d
 induction d with
 |zero=>intro j hd _ i h1 h2;omega
 |succ d ih=>
  intro j hd h i h1 h2;rw[pV]at h
  by_cases b:vr l n j
  ·rw[if_pos b]at h;cases h
  ·rw[if_neg b]at h
   by_cases e:i=j
   ·rw[e];exact b
   ·exact ih (j+1) (by omega) h i (by omega) h2
theorem Gb(n:Int)(l m:List X_)(hl:l.length≤1048576)(h:Ev (fun k=>gb.f k n l m) true):1≤n∧n≤400∧l.length≤60∧CF n (-1) l∧fO [] l=m:=by
 obtain⟨r,h1,_,h3⟩:=yZ n l m hl;obtain rfl:=Ev.uniq h1 h;obtain⟨n1,n2,sY⟩:=h3 rfl
 have e1:Ev (fun k=>iH.f k l n) (pV l n l.length 0&&decide ((l.length:Int)≤60)):=by
  unfold iH.f;exact place_s l n hl n1 n2 l.length 0 rfl (pu _)
 have e2:Ev (fun k=>gb.f k n l m) (pV l n l.length 0&&decide (fO [] l=m)):=by
  unfold gb.f;rw[decide_eq_true (show(l.length:Int)≤60 by omega),Bool.and_true]at e1;refine Ev.bind' _ e1 ?_
  cases hp:pV l n l.length 0 with
  |false=>exact Ev.neg eI (Ev.now' rfl)
  |true=>exact Ev.pos rfl (Ev.bind' _ (xL l hl) (Ev.bind' _ (QL _ m (by rw[wy,aar];omega)) (Ev.now' (by rw[Bool.true_and]))))
 have e3:=Ev.uniq e2 h;rw[Bool.and_eq_true,decide_eq_true_iff]at e3;have nb:=place_all l n l.length 0 (by omega) e3.1
 have rng:∀i,i<l.length→k7 n (l.getD i ez):=fun i hi=>by
  have:=nb i (pu _) hi;unfold vr at this
  have h4:0≤(l.getD i ez).f0∧1≤(l.getD i ez).f1∧(l.getD i ez).f1≤n∧(l.getD i ez).f0≤n-(l.getD i ez).f1:=Classical.byContradiction fun q=>this (.inl q)
  unfold k7
  omega
 have stp:∀i,i+1<l.length→(l.getD i ez).f0+(l.getD i ez).f1<(l.getD (i+1) ez).f0:=fun i hi=>by
  have:=nb (i+1) (pu _) hi;unfold vr at this;have h5:=rng i (by omega);unfold k7 at h5
  have h6:¬(wrap64 ((l.getD i ez).f0+(l.getD i ez).f1)≥ (l.getD (i+1) ez).f0):=fun q=>this (.inr ⟨by omega,q⟩)
  rw[dO (by omega) (by omega)]at h6
  omega
 refine⟨n1,n2,sY,CF.of_canon ⟨⟨rng,fun i hi=>Int.le_of_lt (stp i hi)⟩,fun i hi=>Int.ne_of_lt (stp i hi)⟩ fun h0=> ?_,e3.2⟩;have:=rng 0 h0;unfold k7 at this
 omega
abbrev F4:=Int×List X_×List X_×Bool
abbrev zF:F4:=(0,[],[],false)
theorem rounds_put(l:List X_)(n:Int)(fp m:List X_)(a b:Int)(r:F4)(hl:l.length≤60)(hab:0≤a∧1≤b∧a+b≤400):∀ (t acc:List X_) (j:Nat) (lo:Int),l.drop j=t→j+t.length=l.length→CF 400 lo t→a+b≤lo→acc.length≤200+j→
 Ev (fun k=>d8.j2 k (acc++t) n fp m) r→Ev (fun k=>d8.l0 k acc true l (l.length:Int) (j:Int) n fp m a b) r
 |[],acc,j,lo,hd,hj,hc,hlo,ha,h=>by
  rw[List.append_nil]at h;rw[aar]at hj;exact Ev.step (fun k=>by rw[d8.l0]) (Ev.neg (by omega) (Ev.pos rfl h))
 |o::t,acc,j,lo,hd,hj,hc,hlo,ha,h=>by
  rw[aaQ]at hj;obtain⟨g1,g2,g3,g4⟩:=hc
  have hlt:j<l.length:=by omega
  rw[oJ l j ey hlt]at hd
  injection hd with ho ht
  have nx:=rounds_put l n fp m a b r hl hab t (acc++[o]) (j+1) (o.f0+o.f1) ht (by omega) g4 (by omega) (by rw[oB,aan];omega) (by rw[aa2];exact h);refine Ev.step (fun k=>by rw[d8.l0]) (Ev.pos (by omega) (Ev.pos (by omega) (Ev.pos (by omega) ?_)));rw[ou,ho,dO (x:=o.f0+o.f1) (by omega) (by omega),dO (x:=a+b) (by omega) (by omega),show wrap64 ((j:Int)+1)=((j+1:Nat):Int) by rw[dO (by omega) (by omega)];rfl];exact Ev.neg (by omega) (Ev.pos (by omega) (Ev.pos rfl (Ev.pos (by omega) nx)))
def fin(r:F4)(R:List X_→Prop):Option (List X_)→Prop
 |some l=>R l
 |none=>r=zF
theorem Cw(l:List X_)(n:Int)(fp m:List X_)(r:F4)(hl:l.length≤60):∀ (t acc:List X_) (j:Nat) (lo a b:Int),l.drop j=t→j+t.length=l.length→ -1≤lo→CF 400 lo t→lo<a→1≤b→a+b≤400→acc.length≤j→
 fin r (fun q=>Ev (fun k=>d8.j2 k (acc++q) n fp m) r) (uM a b t)→Ev (fun k=>d8.l0 k acc false l (l.length:Int) (j:Int) n fp m a b) r
 |[],acc,j,lo,a,b,hd,hj,hlo,hc,h1,h2,h3,ha,h=>by
  rw[aar]at hj;exact Ev.step (fun k=>by rw[d8.l0]) (Ev.neg (by omega) (Ev.neg eI (Ev.pos (by omega) h)))
 |o::t,acc,j,lo,a,b,hd,hj,hlo,hc,h1,h2,h3,ha,h=>by
  rw[aaQ]at hj;obtain⟨g1,g2,g3,g4⟩:=hc
  have hlt:j<l.length:=by omega
  rw[oJ l j ey hlt]at hd
  injection hd with ho ht
  rw[uM]at h;refine Ev.step (fun k=>by rw[d8.l0]) (Ev.pos (by omega) (Ev.pos (by omega) (Ev.pos (by omega) ?_)));rw[ou,ho,dO (x:=o.f0+o.f1) (by omega) (by omega),dO (x:=a+b) (by omega) (by omega),show wrap64 ((j:Int)+1)=((j+1:Nat):Int) by rw[dO (by omega) (by omega)];rfl]
  by_cases c1:o.f0+o.f1<a
  ·rw[if_pos c1]at h
   refine Ev.pos c1 (Ev.pos (by omega) (Cw l n fp m r hl t (acc++[o]) (j+1) (o.f0+o.f1) a b ht (by omega) (by omega) g4 c1 h2 h3 (by rw[oB,aan];omega) ?_))
   cases e:uM a b t with
   |none=>rw[e]at h;exact h
   |some q=>
    rw[e]at h;have h':Ev (fun k=>d8.j2 k (acc++o::q) n fp m) r:=h
    show Ev (fun k=>d8.j2 k (acc++[o]++q) n fp m) r
    rw[aa2];exact h'
  rw[if_neg c1]at h;refine Ev.neg c1 ?_
  by_cases c2:o.f0>a+b
  ·rw[if_pos c2]at h
   have h':Ev (fun k=>d8.j2 k (acc++⟨a,b⟩::o::t) n fp m) r:=h;refine Ev.pos c2 (Ev.neg eI (Ev.pos (by omega) (Ev.ct _ rfl (Ev.pos (by rw[oB,aan];omega) ?_))));exact rounds_put l n fp m a b r hl ⟨by omega,h2,h3⟩ t (acc++[⟨a,b⟩]++[o]) (j+1) (o.f0+o.f1) ht (by omega) g4 (by omega) (by simp only[oB,aan];omega) (by rw[aa2,aa2];exact h')
  rw[if_neg c2]at h;refine Ev.neg c2 ?_
  by_cases c3:o.f0+o.f1=a
  ·rw[if_pos c3]at h
   rw[dO (x:=o.f1+b) (by omega) (by omega)];exact Ev.pos c3 (Cw l n fp m r hl t acc (j+1) lo o.f0 (o.f1+b) ht (by omega) hlo (g4.mono (by omega)) g1 (by omega) (by omega) (by omega) h)
  rw[if_neg c3]at h;refine Ev.neg c3 ?_
  by_cases c4:o.f0=a+b
  ·rw[if_pos c4]at h
   rw[dO (x:=b+o.f1) (by omega) (by omega)];exact Ev.pos c4 (Cw l n fp m r hl t acc (j+1) lo a (b+o.f1) ht (by omega) hlo (g4.mono (by omega)) h1 (by omega) (by omega) (by omega) h)
  rw[if_neg c4]at h;exact Ev.neg c4 (Ev.now' (Eq.symm h))
def sQ(N:Nat)(bs:List Bool)(S:Nat→Prop):Prop:=bs.length=N∧∀i,i<N→(bs.getD i false=true↔S i)
theorem rdB(bs:List Bool)(i:Nat):mq false bs (i:Int)=bs.getD i false:=by simp[mq]
theorem sQ.put {N:Nat}{bs:List Bool}{S S':Nat→Prop}(h:sQ N bs S)(i:Nat)(hi:i<N)(hs:∀j,S' j↔S j∨j=i):sQ N (bs.set i true) S':=by
 refine⟨by rw[List.length_set];exact h.1,fun j hj=> ?_⟩;rw[hs j]
 by_cases e:j=i
 ·subst e
  rw[Sk _ _ _ _ (by rw[h.1];exact hi)]
  simp
 ·rw[getD_set_ne _ _ _ _ _ e,h.2 j hj]
  simp[e]
theorem isFree_in(n:Int)(l:List X_)(N:Nat)(hN:N≤400)(j:Nat)(o:X_)(ho:k7 (N:Int) o)(r:List Bool)(hlen:l.length≤60):∀ (d q:Nat) (bs:List Bool) (S:Nat→Prop),o.f1.toNat-q=d→(q:Int)≤o.f1→sQ N bs (fun i=>S i∨(o.f0≤(i:Int)∧(i:Int)<o.f0+(q:Int)))→
 (∀bs',sQ N bs' (fun i=>S i∨fW o i)→Ev (fun k=>fZ.l0 k bs' l (l.length:Int) (wrap64 ((j:Int)+1))) r)→
 Ev (fun k=>fZ.l1 k bs l (l.length:Int) (j:Int) o.f1 (q:Int) o.f0 o.f1) r:=by
 unfold k7 at ho;intro d
 induction d with
 |zero=>
  intro q bs S hd hq hb h;refine Ev.step (fun k=>by rw[fZ.l1]) (Ev.neg (by omega) (h bs ⟨hb.1,fun i hi=> ?_⟩));rw[hb.2 i hi];unfold fW;rw[show(q:Int)=o.f1 by omega]
 |succ d ih=>
  intro q bs S hd hq hb h
  have hi:((o.f0+(q:Int)).toNat:Int)=o.f0+(q:Int):=by omega
  refine Ev.step (fun k=>by rw[fZ.l1]) (Ev.pos (by omega) ?_);rw[dO (x:=o.f0+(q:Int)) (by omega) (by omega),show wrap64 ((q:Int)+1)=((q+1:Nat):Int) by rw[dO (by omega) (by omega)];rfl];refine Ev.pos (by omega) (Ev.pos (by rw[hb.1];omega) (ih (q+1) _ S (by omega) (by omega) (hb.put _ (by omega) fun i=> ?_) h))
  constructor
  ·rintro(s|s)
   ·exact .inl (.inl s)
   ·by_cases e:i=(o.f0+(q:Int)).toNat
    ·exact .inr e
    ·exact .inl (.inr (by omega))
  ·rintro((s|s)|s)
   ·exact .inl s
   ·exact .inr (by omega)
   ·exact .inr (by omega)
theorem isFree_out(n:Int)(l:List X_)(N:Nat)(hN:N≤400)(hlen:l.length≤60)(hc:∀i,i<l.length→k7 (N:Int) (l.getD i ez)):∀ (d j:Nat) (bs:List Bool),l.length-j=d→j≤l.length→sQ N bs (fh (l.take j))→
 ∃r,Ev (fun k=>fZ.l0 k bs l (l.length:Int) (j:Int)) r∧sQ N r (fh l):=by
 intro d
 induction d with
 |zero=>
  intro j bs hd hj hb;rw[List.take_of_length_le (by omega)]at hb;exact⟨bs,Ev.step (fun k=>by rw[fZ.l0]) (Ev.neg (by omega) (Ev.now _)),hb⟩
 |succ d ih=>
  intro j bs hd hj hb
  have hlt:j<l.length:=by omega
  have ho:=hc j hlt
  obtain⟨N2,hN2⟩:∃bs',sQ N bs' (fh (l.take (j+1)))∧∀r,Ev (fun k=>fZ.l0 k bs' l (l.length:Int) ((j+1:Nat):Int)) r→Ev (fun k=>fZ.l0 k bs l (l.length:Int) (j:Int)) r:=by
   obtain⟨bs',hb'⟩:∃bs',sQ N bs' (fh (l.take (j+1))):=⟨(List.range N).map (fun i=>(@decide (fh (l.take (j+1)) i) (Classical.propDecidable _))),by simp,fun i hi=>by
    rw[List.getD_eq_getElem?_getD,List.getElem?_map,List.getElem?_range hi]
    simp⟩
   refine⟨bs',hb',fun r hr=> ?_⟩;refine Ev.step (fun k=>by rw[fZ.l0]) (Ev.pos (by omega) (Ev.pos (by omega) (Ev.pos (by omega) ?_)));rw[ou]
   refine isFree_in n l N hN j _ ho r hlen _ 0 bs (fh (l.take j)) rfl (by unfold k7 at ho;omega) ⟨hb.1,fun i hi=> ?_⟩ fun aa h2=> ?_
   ·rw[hb.2 i hi]
    constructor
    ·exact .inl
    ·rintro(s|s)
     ·exact s
     ·omega
   ·rw[show wrap64 ((j:Int)+1)=((j+1:Nat):Int) by rw[dO (by omega) (by omega)];rfl]
    have:aa=bs':=by
     apply List.ext_getElem
     ·rw[h2.1,hb'.1]
     ·intro i h3 h4
      have h5:i<N:=by rw[←h2.1];exact h3
      have h6:=h2.2 i h5;have h7:=hb'.2 i h5;rw[Ho l j ez hlt,inE_snoc]at h7;rw[vK _ _ _ h3]at h6;rw[vK _ _ _ h4]at h7;rw[Bool.eq_iff_iff,h6,h7]
    rw[this];exact hr
  obtain⟨r,hr,hbr⟩:=ih (j+1) N2 (by omega) (by omega) hN2.1;exact⟨r,hN2.2 r hr,hbr⟩
theorem isFree_ev(n:Int)(l m:List X_)(n1:1≤n)(n2:n≤400)(hlen:l.length≤60)(hc:uC n l):∃r,Ev (fun k=>fZ.f k n l m) r∧sQ n.toNat r (fh l):=by
 have hn:(n.toNat:Int)=n:=by omega
 obtain⟨r,h1,h2⟩:=isFree_out n l n.toNat (by omega) hlen (fun i hi=>by rw[hn];exact hc.1.1 i hi) l.length 0 (List.replicate n.toNat false) rfl (pu _) ⟨by simp,fun i hi=>by
  rw[getD_replicate,List.take_zero]
  exact⟨fun h=>(by cases h),fun h=>absurd h (Ve i)⟩⟩
 refine⟨r, ?_,h2⟩;unfold fZ.f;exact Ev.pos (by omega) (Ev.pos (by omega) h1)
theorem merged_ev(E:List X_)(N:Nat)(hN:N≤1000)(hE:uC (N:Int) E)(bs:List Bool)(hb:sQ N bs (fh E)):Ev (fun k=>hU.f k (N:Int) bs) E:=by
 have rdc:∀n:Nat,n<N→pS.f (n:Int) bs=some (bs.getD n false):=by
  intro n hn;unfold pS.f;rw[if_pos (by omega),if_pos (by rw[hb.1];omega),rdB]
 have lastc:∀out:List X_,0<out.length→out.length≤1000→wrap64 ((out.length:Int)-1)=((out.length-1:Nat):Int):=fun out h1 h2=>by rw[dO (by omega) (by omega)];omega
 unfold hU.f;refine merged_abs (fun k out n=>hU.l0 k out (N:Int) (n:Int) bs) N hN E hE ?_ ?_ ?_ ?_
 ·intro out
  refine Ev.step (fun k=>by rw[hU.l0]) ?_;exact Ev.neg (by omega) (Ev.now _)
 ·intro out n hn hno next
  refine Ev.step (fun k=>by rw[hU.l0]) ?_;rw[dO (x:=(n:Int)+1) (by omega) (by omega)];exact Ev.pos (by omega) (Ev.ct _ (rdc n hn) (Ev.neg (fun h=>hno ((hb.2 n hn).1 h)) next))
 ·intro out n hn hin h0 hl he hf0 hf1 next
  refine Ev.step (fun k=>by rw[hU.l0]) ?_;rw[dO (x:=(n:Int)+1) (by omega) (by omega),lastc out h0 hl,ou,he,dO (x:=(n:Int)) (by omega) (by omega),dO (x:=(out.getD (out.length-1) ez).f1+1) (by omega) (by omega),Int.toNat_natCast];exact Ev.pos (by omega) (Ev.ct _ (rdc n hn) (Ev.pos ((hb.2 n hn).2 hin) (Ev.pos (by omega) (Ev.pos (by omega) (Ev.pos (by omega) (Ev.pos rfl next))))))
 ·intro out n hn hin hl h0 next
  refine Ev.step (fun k=>by rw[hU.l0]) ?_;rw[dO (x:=(n:Int)+1) (by omega) (by omega)];refine Ev.pos (by omega) (Ev.ct _ (rdc n hn) (Ev.pos ((hb.2 n hn).2 hin) ?_))
  by_cases hz:0<out.length
  ·obtain⟨h1,h2,h3,h4⟩:=h0 hz
   rw[lastc out hz hl,ou,dO (x:=(out.getD (out.length-1) ez).f0+(out.getD (out.length-1) ez).f1) (by omega) (by omega)];exact Ev.pos (by omega) (Ev.pos (by omega) (Ev.pos (by omega) (Ev.neg h1 (Ev.pos (by omega) next))))
  ·refine Ev.neg ?_ (Ev.pos (by omega) next)
   rw[show out.length=0 by omega,dO (by omega) (by omega)]
   omega
def ansF(n:Int)(l m:List X_):Bool→F4
 |true=>(n,l,m,true)
 |false=>zF
theorem changed_ev(n:Int)(l m:List X_)(a b:Int)(r:F4)(n1:1≤n)(n2:n≤400)(ha:0≤a)(hb1:1≤b)(hab:a+b≤n)(hE:List X_→Prop)
 (hov:(∃k:Nat,fW ⟨a,b⟩ k∧fh l k)→r=zF)
 (hno:∀bs,sQ n.toNat bs (fun k=>fh l k∨fW ⟨a,b⟩ k)→(¬ ∃k:Nat,fW ⟨a,b⟩ k∧fh l k)→Ev (fun k=>(hU.f k n bs).bind fun t443=>((ya.f n t443).bind fun Ge=>((cH.f k Ge.1 Ge.2.1 Ge.2.2).bind fun t454=>(if t454=true then(some (Ge.1,Ge.2.1,Ge.2.2,true))else(some (0,([]:List X_),([]:List X_),false)))))) r):
 ∀ (d q:Nat) (bs:List Bool),b.toNat-q=d→(q:Int)≤b→sQ n.toNat bs (fun i=>fh l i∨(a≤(i:Int)∧(i:Int)<a+(q:Int)))→(¬ ∃k:Nat,(a≤(k:Int)∧(k:Int)<a+(q:Int))∧fh l k)→
 Ev (fun k=>hX.l0 k true b (q:Int) n l m a b bs) r:=by
 intro d
 induction d with
 |zero=>
  intro q bs hd hq hbs hn
  have e:(q:Int)=b:=by omega
  rw[e]at hbs hn;refine Ev.step (fun k=>by rw[hX.l0]) ?_;exact Ev.neg (by omega) (hno bs ⟨hbs.1,fun i hi=>hbs.2 i hi⟩ hn)
 |succ d ih=>
  intro q bs hd hq hbs hn
  have hi:((a+(q:Int)).toNat:Int)=a+(q:Int):=by omega
  refine Ev.step (fun k=>by rw[hX.l0]) (Ev.pos (by omega) ?_);rw[dO (x:=a+(q:Int)) (by omega) (by omega),show wrap64 ((q:Int)+1)=((q+1:Nat):Int) by rw[dO (by omega) (by omega)];rfl];refine Ev.pos (by omega) (Ev.pos (by rw[hbs.1];omega) ?_);rw[show mq false bs (a+(q:Int))=bs.getD (a+(q:Int)).toNat false by rw[←hi,rdB,Int.toNat_natCast]];have hb:=hbs.2 (a+(q:Int)).toNat (by omega)
  by_cases c:bs.getD (a+(q:Int)).toNat false=true
  ·rw[c]
   refine Ev.pos rfl (Ev.now' (Eq.symm (hov ?_)))
   rcases hb.1 c with s|s
   ·exact⟨_,by unfold fW;simp only;omega,s⟩
   ·omega
  ·rw[Bool.not_eq_true]at c
   rw[c];refine Ev.neg (by decide) (ih (q+1) _ (by omega) (by omega) (hbs.put _ (by omega) fun i=> ?_) ?_)
   ·constructor
    ·rintro(s|s)
     ·exact .inl (.inl s)
     ·by_cases e:i=(a+(q:Int)).toNat
      ·exact .inr e
      ·exact .inl (.inr (by omega))
    ·rintro((s|s)|s)
     ·exact .inl s
     ·exact .inr (by omega)
     ·exact .inr (by omega)
   ·rintro⟨k,hk,hk2⟩
    by_cases e:k=(a+(q:Int)).toNat
    ·subst e
     exact absurd (hb.2 (.inl hk2)) (by rw[c];exact eI)
    ·exact hn ⟨k,by omega,hk2⟩
theorem giveRoom_both(n:Int)(l m:List X_)(x:X_)(hl:l.length≤1048576):
 ∃r:F4,Ev (fun k=>d8.f k n l m x.f0 x.f1) r∧Ev (fun k=>qc.f k n l m x.f0 x.f1) r∧r.2.1.length≤60∧r.2.2.1.length≤60∧(r.2.2.2=true→fO [] r.2.1=r.2.2.1):=by
 obtain⟨g,e1,e2,hg⟩:=yZ n l m hl;have badj:Ev (fun k=>d8.j0 k true n l m x.f0 x.f1) zF:=Ev.step (fun k=>by rw[d8.j0]) (Ev.pos rfl (Ev.now _));unfold d8.f qc.f
 cases g with
 |false=>exact⟨zF,Ev.bind' _ e1 (Ev.neg eI badj),Ev.bind' _ e2 (Ev.neg eI (Ev.now _)),pu _,pu _,fun h=>(by cases h)⟩
 |true=>
  obtain⟨n1,n2,sY,hcf,hso⟩:=Gb n l m hl e1
  by_cases hx:nG n x
  ·have hx':=hx
   unfold nG at hx';obtain⟨x0,x1,x2,x3⟩:=hx';have hcan:=(hcf.canon (by omega)).1;obtain⟨q1,q2⟩:=IX n l (-1) x.f0 x.f1 (by omega) hcf (by omega) x1 (by omega)
   have NF:CF 400 (-1) l:=by
    have:∀ (t:List X_) (lo:Int),CF n lo t→CF 400 lo t:=fun t=>by
     induction t with
     |nil=>intro _ _;trivial
     |cons o t ih=>exact fun lo h=>⟨h.1,h.2.1,by have:=h.2.2.1;omega,ih _ h.2.2.2⟩
    exact this l (-1) hcf
   obtain⟨Si,hb0,hB0⟩:=isFree_ev n l m n1 n2 sY hcan
   have hB0':sQ n.toNat Si (fun i=>fh l i∨(x.f0≤(i:Int)∧(i:Int)<x.f0+((0:Nat):Int))):=⟨hB0.1,fun i hi=>by
    rw[hB0.2 i hi]
    constructor
    ·exact .inl
    ·rintro(s|s)
     ·exact s
     ·omega⟩
   have NG:∀r:F4,Ev (fun k=>d8.l0 k [] false l (l.length:Int) ((0:Nat):Int) n l m x.f0 x.f1) r→Ev (fun k=>hX.l0 k true x.f1 ((0:Nat):Int) n l m x.f0 x.f1 Si) r→r.2.1.length≤60→r.2.2.1.length≤60→(r.2.2.2=true→fO [] r.2.1=r.2.2.1)→
    ∃r:F4,Ev (fun k=>(gb.f k n l m).bind fun qX=>(if qX=true then((ud.f x.f0 x.f1 n).bind fun yN=>(d8.j0 k (!yN) n l m x.f0 x.f1))else(d8.j0 k true n l m x.f0 x.f1))) r∧Ev (fun k=>(cH.f k n l m).bind fun t458=>(if t458=true then((nJ.f x.f0 x.f1 n).bind fun t459=>(if t459=true then((hX.f k n l m x.f0 x.f1 true).bind fun RJ=>(some (RJ.1,RJ.2.1,RJ.2.2.1,RJ.2.2.2)))else(some (0,([]:List X_),([]:List X_),false))))else(some (0,([]:List X_),([]:List X_),false)))) r∧r.2.1.length≤60∧r.2.2.1.length≤60∧(r.2.2.2=true→fO [] r.2.1=r.2.2.1):=by
    intro r h1 h2 h3 h4 h5
    have hch:Ev (fun k=>hX.f k n l m x.f0 x.f1 true) r:=by
     unfold hX.f;exact Ev.bind' _ hb0 h2
    refine⟨r,Ev.bind' _ e1 (Ev.pos rfl (Ev.ct _ (Lg n x n1 n2) ?_)),Ev.bind' _ e2 (Ev.pos rfl (Ev.ct _ (Xh n x n1 n2) (Ev.pos (decide_eq_true hx) (Ev.bind' _ hch (Ev.now _))))),h3,h4,h5⟩;rw[decide_eq_true hx];refine Ev.step (fun k=>by rw[d8.j0]) ?_;exact Ev.neg eI h1
   have hn':(n.toNat:Int)=n:=by omega
   by_cases hov:∃k:Nat,fW ⟨x.f0,x.f1⟩ k∧fh l k
   ·refine NG zF ?_ ?_ (pu _) (pu _) (fun h=>(by cases h))
    ·exact Cw l n l m zF sY l [] 0 (-1) x.f0 x.f1 rfl (by omega) (by omega) NF (by omega) x1 (by omega) (Nat.le_refl _) (by rw[q1 hov];rfl)
    ·exact changed_ev n l m x.f0 x.f1 zF n1 n2 x0 x1 (by omega) (fun _=>True) (fun _=>rfl) (fun bs hbs hno=>absurd hov hno) x.f1.toNat 0 Si (by omega) (by omega) hB0' (by rintro⟨k,hk,_⟩;omega)
   ·obtain⟨l',el,hcl,hil⟩:=q2 hov
    have hll:=Hr l x.f0 x.f1 l' el;obtain⟨g2,f1,f2,hg2⟩:=yZ n l' (fO [] l') (by omega)
    have hsl:(fO [] l').length=l'.length:=by rw[wy,aar];omega
    refine NG (ansF n l' (fO [] l') g2) ?_ ?_ ?_ ?_ ?_
    ·refine Cw l n l m _ sY l [] 0 (-1) x.f0 x.f1 rfl (by omega) (by omega) NF (by omega) x1 (by omega) (Nat.le_refl _) ?_
     rw[el]
     show Ev (fun k=>d8.j2 k ([]++l') n l m) _
     rw[aaH];refine Ev.step (fun k=>by rw[d8.j2]) ?_
     have h5:Ev (fun k=>ip.f k n l') (n,l',fO [] l'):=by
      unfold ip.f;exact Ev.ct [] rfl (Ev.pos (by rw[aar];omega) (Ev.bind' _ (xL l' (by omega)) (Ev.now' (by rw[aaH]))))
     refine Ev.bind' _ h5 (Ev.bind' _ f1 ?_)
     cases g2 with
     |true=>exact Ev.pos rfl (Ev.now _)
     |false=>exact Ev.neg eI (Ev.now _)
    ·refine changed_ev n l m x.f0 x.f1 _ n1 n2 x0 x1 (by omega) (fun _=>True) (fun h=>absurd h hov) (fun bs hbs hno=> ?_) x.f1.toNat 0 Si (by omega) (by omega) hB0' (by rintro⟨k,hk,_⟩;omega)
     have hm:=merged_ev l' n.toNat (by omega) (by rw[hn'];exact(hcl.canon (by omega)).1) bs ⟨hbs.1,fun i hi=>by
      rw[hbs.2 i hi,hil i]
      exact Or.comm⟩
     rw[hn']at hm
     have hf:ya.f n l'=some (n,l',fO [] l'):=by
      unfold ya.f oE.f ub.f;rw[if_pos (by omega),Option.bind_some,if_pos (by omega),Option.bind_some,isort_eq]
     refine Ev.bind' _ hm (Ev.ct _ hf (Ev.bind' _ f2 ?_))
     cases g2 with
     |true=>exact Ev.pos rfl (Ev.now _)
     |false=>exact Ev.neg eI (Ev.now _)
    ·cases g2 with
     |true=>exact(hg2 rfl).2.2
     |false=>exact pu _
    ·cases g2 with
     |true=>show(fO [] l').length≤60;rw[hsl];exact(hg2 rfl).2.2
     |false=>exact pu _
    ·cases g2 with
     |true=>exact fun _=>rfl
     |false=>exact fun h=>(by cases h)
  ·refine⟨zF,Ev.bind' _ e1 (Ev.pos rfl (Ev.ct _ (Lg n x n1 n2) ?_)),Ev.bind' _ e2 (Ev.pos rfl (Ev.ct _ (Xh n x n1 n2) (Ev.neg (by rw[decide_eq_false hx];exact eI) (Ev.now _)))),pu _,pu _,fun h=>(by cases h)⟩
   rw[decide_eq_false hx];exact badj
end Go.Proofs.Ytahnkgehlfdlkaa.Q
