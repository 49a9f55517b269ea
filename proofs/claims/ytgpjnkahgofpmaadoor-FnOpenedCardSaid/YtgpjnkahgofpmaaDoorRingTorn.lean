/- A ring that is opened anew: whole, or with its newest slot torn. The draws of FnOpened. -/
import Derived.Test.YtgpjnkahgofpmaaDoorRingBack
import Derived.Test.YtgpjnkahgofpmaaDoorRingVal
import Derived.Test.YtgpjnkahgofpmaaDoorRingDraw
import Derived.Test.YtgpjnkahgofpmaaDoorG5
import Derived.Test.YtgpjnkahgofpmaaDoorG6
open Int renaming tmod→GW,tmod_nonneg→aat,tmod_lt_of_pos→aaw
namespace Go.Proofs.YtgpjnkahgofpmaaDoor.Q
open Go.RowKit Go.Proofs.YtgpjnkahgofpmaaDoorW.PrintWords Go.Proofs.YtgpjnkahgofpmaaDoor.G
set_option linter.unusedVariables false
set_option linter.unusedSimpArgs false
theorem zF(l:List Sl)(n t:Int)(hn:0<n):∀ (m:Nat) (last k:Int),gH l n t m last k=true→
 (∀q,k≤q→q<k+(m:Int)→(q<0→gM (at_ l (q+n))=true)∧(0≤q→(q<t∧gM (at_ l (GW q n))=true)∨(jI (at_ l (GW q n))=true∧(at_ l (GW q n)).f0=Int.tdiv q n+1∧(at_ l (GW q n)).f1≤q∧(at_ l (GW q n)).f1≤t∧last≤(at_ l (GW q n)).f1)))∧
 (∀i j,0≤i→k≤i→i<j→j<k+(m:Int)→gM (at_ l (GW i n))=false→gM (at_ l (GW j n))=false→(at_ l (GW i n)).f1≤(at_ l (GW j n)).f1)
 |0,_,_,_=>⟨fun q a b=>absurd b (by omega),fun i j _ a b c=>absurd c (by omega)⟩
 |m+1,last,k,h=>by
  rw[gH]at h
  by_cases c1:k<0
  ·rw[if_pos c1]at h
   by_cases z:gM (at_ l (k+n))=true
   ·rw[if_pos z]at h
    obtain⟨f,g⟩:=zF l n t hn m last (k+1) h;refine⟨fun q a b=> ?_,fun i j i0 a b c=>g i j i0 (by omega) b (by omega)⟩
    by_cases e:q=k
    ·subst e;exact⟨fun _=>z,fun q0=>absurd q0 (by omega)⟩
    ·exact f q (by omega) (by omega)
   ·rw[if_neg z]at h
    cases h
  ·rw[if_neg c1]at h
   by_cases z:k<t∧gM (at_ l (GW k n))=true
   ·rw[if_pos z]at h
    obtain⟨f,g⟩:=zF l n t hn m last (k+1) h;refine⟨fun q a b=> ?_,fun i j i0 a b c zi zj=> ?_⟩
    ·by_cases e:q=k
     ·subst e;exact⟨fun q0=>absurd q0 c1,fun _=> .inl z⟩
     ·exact f q (by omega) (by omega)
    ·by_cases e:i=k
     ·subst e;rw[z.2]at zi;cases zi
     ·exact g i j i0 (by omega) b (by omega) zi zj
   ·rw[if_neg z]at h
    by_cases o:jI (at_ l (GW k n))=true∧rb (at_ l (GW k n)) n t k last
    ·rw[if_pos o]at h
     obtain⟨f,g⟩:=zF l n t hn m _ (k+1) h;obtain⟨o1,o2,o3,o4,o5⟩:=o;refine⟨fun q a b=> ?_,fun i j i0 a b c zi zj=> ?_⟩
     ·by_cases e:q=k
      ·subst e;exact⟨fun q0=>absurd q0 c1,fun _=> .inr ⟨o1,o2,by omega,by omega,by omega⟩⟩
      ·obtain⟨f1,f2⟩:=f q (by omega) (by omega)
       refine⟨f1,fun q0=> ?_⟩
       rcases f2 q0 with x|⟨x1,x2,x3,x4,x5⟩
       ·exact .inl x
       ·exact .inr ⟨x1,x2,x3,x4,by omega⟩
     ·by_cases e:i=k
      ·subst e
       rcases(f j (by omega) (by omega)).2 (by omega)with x|⟨x1,x2,x3,x4,x5⟩
       ·rw[x.2]at zj;cases zj
       ·exact x5
      ·exact g i j i0 (by omega) b (by omega) zi zj
    ·rw[if_neg o]at h
     cases h
theorem Iw {x:Sl}(h:gM x=true):px x:=fun q=>by
 unfold gM at h;rw[Bool.and_eq_true,beq_iff_eq]at h;have:=q.2
 omega
theorem OV {l:List Sl}{k:Int}(hk:0≤k)(h:jp l k):gM (eW l k)=false:=by
 rw[Bool.eq_false_iff]
 exact fun q=>Bl hk (Iw q) h
theorem Bm {l:List Sl}{h c t:Int}(G:Good l h c t)(k:Int)(k0:0≤k)(k1:h-(l.length:Int)≤k)(k2:k<h):(k<t∧px (eW l k))∨(jp l k∧(eW l k).f1≤k∧(eW l k).f1≤t):=by
 have n1:=G.n1
 rcases((zF l (l.length:Int) t (by omega) l.length 0 _ G.sc).1 k (by omega) (by omega)).2 k0 with x|⟨x1,x2,x3,x4,x5⟩
 ·exact .inl ⟨x.1,Iw x.2⟩
 ·exact .inr ⟨⟨x1,x2⟩,x3,x4⟩
theorem OW {l:List Sl}{h c t:Int}(G:Good l h c t)(i j:Int)(i0:0≤i)(i1:h-(l.length:Int)≤i)(ij:i<j)(jh:j<h)(ai:jp l i)(aj:jp l j):(eW l i).f1≤(eW l j).f1:=by
 have n1:=G.n1;exact(zF l (l.length:Int) t (by omega) l.length 0 _ G.sc).2 i j i0 (by omega) ij (by omega) (OV i0 ai) (OV (by omega) aj)
theorem Qa {l:List Sl}{h c t:Int}(G:Good l h c t)(j:Int)(j0:h≤j)(j1:j<(l.length:Int)):px (at_ l j):=by
 have n1:=G.n1;have h0:=G.h0;have f:=((zF l (l.length:Int) t (by omega) l.length 0 _ G.sc).1 (j-(l.length:Int)) (by omega) (by omega)).1 (by omega);rw[show j-(l.length:Int)+(l.length:Int)=j by omega]at f;exact Iw f
theorem Qb {l:List Sl}{h c t:Int}(G:Good l h c t)(k:Int)(k0:t≤k)(k1:k<h):jp l k:=by
 have t0:=G.t0;have ht:=G.ht
 rcases Bm G k (by omega) (by omega) k1 with x|x
 ·omega
 ·exact x.1
theorem YP {l:List Sl}{h c t:Int}(G:Good l h c t)(h1:t<h):BH l h t:=by
 have n1:=G.n1;have t0:=G.t0;have h0:=G.h0;have ht:=G.ht;refine⟨n1,G.n2,G.h1,t0,h1,ht,fun k a b c=> ?_,fun j a b=>Qa G j a b,fun k a b=>Qb G k a b,fun i j a b c d e f=>OW G i j a b c d e f, ?_⟩
 ·rcases Bm G k a b c with x|x
  ·exact .inl x.2
  ·exact .inr ⟨x.1,x.2.1⟩
 ·rcases Bm G (h-1) (by omega) (by omega) (by omega)with x|x
  ·omega
  ·exact x.2.2
theorem YN {l:List Sl}{h c t:Int}(G:Good l h c t)(h1:t<h)(hroom:h-t<(l.length:Int))(x:Sl)(hx:px x):BH (l.set (Int.tmod h (l.length:Int)).toNat x) h t:=by
 have n1:=G.n1;have t0:=G.t0;have h0:=G.h0;have ht:=G.ht;have m0:0≤GW h (l.length:Int):=aat _ h0;have m1:GW h (l.length:Int)<(l.length:Int):=aaw _ (by omega);have len:(l.set (GW h (l.length:Int)).toNat x).length=l.length:=List.length_set ..
 have at2:∀i,0≤i→at_ (l.set (GW h (l.length:Int)).toNat x) i=if i=GW h (l.length:Int)then x else at_ l i:=fun i hi=>AG l _ i _ m0 m1 hi
 have same:∀k,0≤k→h-(l.length:Int)<k→k<h→eW (l.set (GW h (l.length:Int)).toNat x) k=eW l k:=fun k a b c=>by
  unfold eW;rw[len,at2 _ (aat _ a),if_neg (zy n1 a c (by omega))]
 have alv:∀k,0≤k→h-(l.length:Int)<k→k<h→(jp (l.set (GW h (l.length:Int)).toNat x) k↔jp l k):=fun k a b c=>by
  unfold jp;rw[same k a b c,len]
 have edge:∀k,0≤k→k=h-(l.length:Int)→px (eW (l.set (GW h (l.length:Int)).toNat x) k):=fun k a b=>by
  unfold eW;rw[len,at2 _ (aat _ a)]
  have:GW k (l.length:Int)=GW h (l.length:Int):=by
   rw[Int.tmod_eq_emod_of_nonneg a,Int.tmod_eq_emod_of_nonneg h0,b];rw[←Int.add_mul_emod_self_left (h-(l.length:Int)) (l.length:Int) 1]
   congr 1
   omega
  rw[if_pos this];exact hx
 refine⟨by rw[len];exact n1,by rw[len];exact G.n2,G.h1,t0,h1,by rw[len];exact ht,fun k a b c=> ?_,fun j a b=> ?_,fun k a b=> ?_,fun i j a b c d e f=> ?_, ?_⟩
 ·rw[len]at b
  by_cases g:k=h-(l.length:Int)
  ·exact .inl (edge k a g)
  ·rw[same k a (by omega) c,alv k a (by omega) c]
   rcases Bm G k a b c with x|x
   ·exact .inl x.2
   ·exact .inr ⟨x.1,x.2.1⟩
 ·rw[len]at b
  rw[at2 j (by omega)]
  by_cases g:j=GW h (l.length:Int)
  ·rw[if_pos g];exact hx
  ·rw[if_neg g];exact Qa G j a b
 ·exact(alv k (by omega) (by omega) b).2 (Qb G k a b)
 ·rw[len]at b
  have gi:i≠h-(l.length:Int):=fun q=>Bl a (edge i a q) e
  rw[same i a (by omega) (by omega),same j (by omega) (by omega) d];exact OW G i j a b c d ((alv i a (by omega) (by omega)).1 e) ((alv j (by omega) (by omega) d).1 f)
 ·rw[same (h-1) (by omega) (by omega) (by omega)]
  rcases Bm G (h-1) (by omega) (by omega) (by omega)with x|x
  ·omega
  ·exact x.2.2
theorem Xf {l:List Sl}{h c t:Int}(G:Good l h c t)(hroom:h-t<(l.length:Int))(x:Sl):
 ff (l.set (GW h (l.length:Int)).toNat x) (l.length:Int) (h-t).toNat t=ff l (l.length:Int) (h-t).toNat t:=by
 have n1:=G.n1;have h0:=G.h0;have t0:=G.t0;have t1:=G.t1;have m0:0≤GW h (l.length:Int):=aat _ h0;have m1:GW h (l.length:Int)<(l.length:Int):=aaw _ (by omega);exact Ix l _ (l.length:Int) (by omega) (GW h (l.length:Int)) (h-t).toNat t t0 (fun i i0 _ ine=>by rw[AG l _ i _ m0 m1 i0,if_neg ine]) (fun q a b=>zy n1 (by omega) (by omega) (by omega))
theorem OT {l:List Sl}{H T:Int}{r:List Sl×Int×Int×Int×Bool}(hT:T<H)(A:Fd l H T r):
 ∃b:List ByteArray,Ev (fun k=>eH.f k r.1 r.2.1 r.2.2.1 r.2.2.2.1) (b,true)∧(b.length:Int)=H-r.2.2.2.1∧b.drop (T-r.2.2.2.1).toNat=ff l (l.length:Int) (H-T).toNat T:=by
 obtain⟨a1,a2,a3,a4,a5,a6⟩:=A;have e:=K5 a3;rw[a2,a5]at e;have t0:=a3.t0;refine⟨_,by rw[a2];exact e,by rw[Fl];omega, ?_⟩;rw[Iy _ _ (T-r.2.2.2.1).toNat (H-r.2.2.2.1).toNat r.2.2.2.1 (by omega),show(H-r.2.2.2.1).toNat-(T-r.2.2.2.1).toNat=(H-T).toNat by omega,show r.2.2.2.1+((T-r.2.2.2.1).toNat:Int)=T by omega];exact a6
theorem a01(a b:Int)(s:ByteArray)(z m:Int)(h:kd a b s)(m0:0≤m)(m1:m≤12):mI.f a b s z m=some (a,b,s.extract 0 (mn m (s.size:Int)).toNat,z,true):=by
 have hm:0≤mn m (s.size:Int)∧mn m (s.size:Int)≤(s.size:Int):=by unfold mn;split<;>omega
 unfold mI.f;rw[wh,Option.bind_some,if_pos (by simpa using h),gu,Option.bind_some,if_pos (by rw[decide_eq_true_iff];exact⟨m0,m1⟩),if_pos hm.1,if_pos hm.2]
theorem Xg(l:List Int)(hl:l.length≤9223372036854775807)(hb:lL l):∃r,Ev (fun k=>fj.f k l) r∧0≤r:=by
 have loop:∀ (d i:Nat) (x:Int),l.length-i=d→i≤l.length→0≤x→x<1000003→∃r,Ev (fun k=>fj.l0 k x l (l.length:Int) (i:Int)) r∧0≤r:=by
  intro d
  induction d with
  |zero=>
   intro i x hd hi x0 x1;exact⟨x,Ev.step (fun k=>by rw[fj.l0]) (Ev.neg (by omega) (Ev.now _)),x0⟩
  |succ d ih=>
   intro i x hd hi x0 x1;have hy:=hb _ (OX l i 0 (by omega))
   have er:rd l (i:Int)=l.getD i 0:=by simp[rd]
   have e0:0≤GW (31*x+l.getD i 0) 1000003:=aat _ (by omega);have e1:GW (31*x+l.getD i 0) 1000003<1000003:=aaw _ (by omega);obtain⟨r,u5,h⟩:=ih (i+1) (GW (31*x+l.getD i 0) 1000003) (by omega) (by omega) e0 e1;refine⟨r,Ev.step (fun k=>by rw[fj.l0]) (Ev.pos (by omega) (Ev.pos (by omega) (Ev.pos (by omega) ?_))),h⟩;rw[er,dc (x:=31*x) (by omega) (by omega),dc (x:=l.getD i 0) (by omega) (by omega),dc (x:=31*x+l.getD i 0) (by omega) (by omega),show wrap64 ((i:Int)+1)=((i+1:Nat):Int)from by rw[dc (by omega) (by omega)];omega];exact u5
 exact loop _ 0 0 rfl (by omega) (by omega) (by omega)
theorem YM(a b:Int)(s:ByteArray)(z m:Int):∃r,Ev (fun k=>gB.f k a b s z m) r:=by
 unfold gB.f;have bad:Ev (fun k=>gB.j0 k m true a b s z) (0,0,(⟨#[]⟩:ByteArray),0,false):=Ev.step (fun k=>by rw[gB.j0]) (Ev.pos rfl (Ev.now _))
 by_cases c:kd a b s
 rotate_left
 ·exact⟨_,Ev.bh _ (u7 _ _ _ _) (Ev.neg (by simpa using c) bad)⟩
 by_cases d:0≤m∧m≤12
 rotate_left
 ·refine⟨(0,0,(⟨#[]⟩:ByteArray),0,false),Ev.bh _ (u7 _ _ _ _) (Ev.pos (by simpa using c) (Ev.bh _ (ii _ _ _) ?_))⟩
  rw[decide_eq_false d];exact bad
 by_cases e:(s.size:Int)>m
 ·refine⟨(a,b,s.extract 0 m.toNat,z,true),Ev.bh _ (u7 _ _ _ _) (Ev.pos (by simpa using c) (Ev.bh _ (ii _ _ _) ?_))⟩
  rw[decide_eq_true d];exact Ev.step (fun k=>by rw[gB.j0]) (Ev.neg (by simp) (Ev.pos e (Ev.pos d.1 (Ev.pos (by omega) (Ev.now _)))))
 ·refine⟨(a,b,s,z,true),Ev.bh _ (u7 _ _ _ _) (Ev.pos (by simpa using c) (Ev.bh _ (ii _ _ _) ?_))⟩
  rw[decide_eq_true d];exact Ev.step (fun k=>by rw[gB.j0]) (Ev.neg (by simp) (Ev.neg e (Ev.now _)))
end Go.Proofs.YtgpjnkahgofpmaaDoor.Q
