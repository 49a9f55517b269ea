/- The plain law of FnViewed: neither syncing nor writing back nor a checkpoint changes what is seen, a commit changes just what it writes, and a transaction's text read back is the transaction. No condition. -/
import Derived.Test.YtmbjmacpigojjaaStoreDraw
import Derived.Test.YtmbjmacpigojjaaStoreSeq
import Derived.Test.YtmbjmacpigojjaaTxnText
import Derived.Test.YtmbjmacpigojjaaG8
import Derived.Test.YtmbjmacpigojjaaG5
import Derived.Test.YtmbjmacpigojjaaG7
open Bool renaming false_ne_true→aaO
open Nat renaming zero_le→aaM
namespace Go.Proofs.Ytmbjmacpigojjaa.Q
open Go.RowKit Go.Proofs.YtmbjmacpigojjaaW.PrintWords Go.Proofs.Ytmbjmacpigojjaa.G
set_option linter.unusedVariables false
set_option linter.unusedSimpArgs false
theorem Dr(l:List ByteArray)(hl:l.length≤2000000):Ev (fun k=>fY.f k l l) true:=by
 have key:∀d i,l.length-i=d→i≤l.length→Ev (fun k=>fY.l0 k l l (l.length:Int) (i:Int)) true:=by
  intro d
  induction d with
  |zero=>
   intro i hd hi;exact Ev.step (fun k=>by rw[fY.l0]) (Ev.neg (by omega) (Ev.now _))
  |succ d ih=>
   intro i hd hi;refine Ev.step (fun k=>by rw[fY.l0]) (Ev.pos (by omega) (Ev.pos (by omega) (Ev.pos (by omega) (Ev.pos (by omega) (Ev.pos rfl ?_)))));rw[show wrap64 ((i:Int)+1)=((i+1:Nat):Int) by rw[eD (by omega) (by omega)];rfl];exact ih (i+1) (by omega) (by omega)
 unfold fY.f;exact Ev.pos rfl (key l.length 0 rfl (aaM _))
theorem SN(l:List Wr)(hl:l.length≤2000000):Ev (fun k=>i9.f k l l) true:=by
 have key:∀d i,l.length-i=d→i≤l.length→Ev (fun k=>i9.l0 k l l (l.length:Int) (i:Int)) true:=by
  intro d
  induction d with
  |zero=>
   intro i hd hi;exact Ev.step (fun k=>by rw[i9.l0]) (Ev.neg (by omega) (Ev.now _))
  |succ d ih=>
   intro i hd hi;refine Ev.step (fun k=>by rw[i9.l0]) (Ev.pos (by omega) (Ev.pos (by omega) (Ev.pos (by omega) (Ev.pos (by omega) (Ev.neg (by simp) ?_)))));rw[show wrap64 ((i:Int)+1)=((i+1:Nat):Int) by rw[eD (by omega) (by omega)];rfl];exact ih (i+1) (by omega) (by omega)
 unfold i9.f;exact Ev.pos rfl (key l.length 0 rfl (aaM _))
theorem SO(S:List ByteArray)(P:List Wr)(L:List ByteArray)(n:Int)(hS:S.length≤2000000)(hP:P.length≤2000000)(hL:L.length≤2000000):Ev (fun k=>pQ.f k S P L n S P L n) true:=by
 unfold pQ.f;exact Ev.pos rfl (Ev.bind' _ (Dr L hL) (Ev.pos rfl (Ev.bind' _ (Dr S hS) (Ev.pos rfl (Ev.bind' _ (SN P hP) (Ev.now _))))))
theorem viewed_text(x:List Int)(hb:qO x):Ev (fun k=>cK.j5 k x) true:=by
 obtain⟨m,p,q,em,hm,_⟩:=OM x hb 0 0 4 (by omega) (by omega) (by omega)
 have ed:Ev (fun k=>qE.f k x) m:=by
  unfold qE.f;exact Ev.bind' _ em (Ev.now _)
 have g1:=yr m (by omega) 32;have g2:=yp m (by omega) 32;refine Ev.step (fun k=>by rw[cK.j5]) ?_
 by_cases c:hZ 32 m
 ·have t1:Ev (fun k=>mt.f k m) (strOfNums (eg m),true):=by
   unfold mt.f;exact Ev.bind' _ g1 (Ev.pos (ki.2 c) (Ev.bind' _ (IV _ m c) (Ev.now _)))
  have t2:Ev (fun k=>mu.f k m) (strOfNums (eg m),true):=by
   unfold mu.f;exact Ev.bind' _ g2 (Ev.pos (ki.2 c) (Ev.bind' _ (IW _ m c) (Ev.now _)))
  have sz:=wb _ m c;have h8:=c.2.2;have rd:=IR (strOfNums (eg m)) (by rw[pS];omega);rw[TH 32 m c (by omega) (by omega)]at rd;refine Ev.bind' _ ed (Ev.bind' _ t1 (Ev.bind' _ t2 (Ev.neg (by simp) ?_)));refine Ev.step (fun k=>by rw[cK.j6]) (Ev.neg (by simp) (Ev.pos rfl (Ev.bind' _ rd (Ev.pos rfl (Ev.bind' _ (SN m (by omega)) (Ev.now _))))))
 ·have t1:Ev (fun k=>mt.f k m) ((⟨#[]⟩:ByteArray),false):=by
   unfold mt.f;exact Ev.bind' _ g1 (Ev.neg (fun e=>c (ki.1 e)) (Ev.now _))
  have t2:Ev (fun k=>mu.f k m) ((⟨#[]⟩:ByteArray),false):=by
   unfold mu.f;exact Ev.bind' _ g2 (Ev.neg (fun e=>c (ki.1 e)) (Ev.now _))
  refine Ev.bind' _ ed (Ev.bind' _ t1 (Ev.bind' _ t2 (Ev.neg (by simp) ?_)));refine Ev.step (fun k=>by rw[cK.j6]) (Ev.neg (by simp) (Ev.neg aaO (Ev.now' ?_)))
  simp[ByteArray.toList_eq]
theorem viewed_rest(y:List Int)(next:Ev (fun k=>cK.j5 k y) true)(S:List ByteArray)(P:List Wr)(L:List ByteArray)(n:Int)(h:fd S P L n)(hL:jY L)(a:List ByteArray)(l:List Wr)(i:Int)(hi:¬i<(a.length:Int)):
 Ev (fun k=>cK.l0 k y l a (k6 S P L) (a.length:Int) i S P L n) true:=by
 have hd:=JX h;have IF:=h.1.2.1;have hg2:=sync_good h;have s1:=(Mv S P L n (by omega) (by omega) (by omega) hL).2;rw[IX h]at s1;have v1:=Dx S P L (L.length:Int) (by omega) (by omega) (by omega) hL;rw[By hg2]at v1;have b1:=(Mw S P L (L.length:Int) (by omega) (by omega) (by omega) hL).2
 have ht:L.take ((L.length:Nat):Int).toNat=L:=by rw[Int.toNat_natCast,List.take_length]
 rw[IY hg2,ht]at b1
 have hvl:(k6 S P L).length≤2000000:=by rw[Sg];omega
 refine Ev.step (fun k=>by rw[cK.l0]) (Ev.neg hi (Ev.bind' _ s1 (Ev.bind' _ v1 (Ev.bind' _ b1 (Ev.pos rfl (Ev.pos rfl (Ev.bind' _ (Dr (k6 S P L) hvl) ?_)))))))
 by_cases c:P.length+(dw L).length≤60
 ·rw[if_pos c]
  have hg3:=back_good hg2 c
  have hPl:(P++dw L).length≤60:=by rw[List.length_append];exact c
  have v2:=Dx S (P++dw L) L (L.length:Int) (by omega) (by omega) (by omega) hL;rw[By hg3,back_view]at v2;have k1:=(O7 S (P++dw L) L (L.length:Int) (by omega) (by omega) (by omega) hL).2;rw[Im hg3 (by rw[ht,Ir,Sh]),Int.toNat_natCast,List.drop_length]at k1;have hg4:=flat_good hg3;have v3:=Dx (dq S (P++dw L)) [] [] 0 (by rw[mS];omega) (aaM _) (aaM _) (fun i hi=>absurd hi (Nat.not_lt_zero _))
  have e3:k6 (dq S (P++dw L)) [] []=k6 S P L:=by
   show dq S (P++dw L)=_
   rw[Ir]
   rfl
  rw[By hg4,e3]at v3;refine Ev.step (fun k=>by rw[cK.j4]) (Ev.neg (by simp) (Ev.pos rfl (Ev.bind' _ v2 (Ev.bind' _ k1 (Ev.bind' _ v3 (Ev.pos rfl (Ev.pos rfl (Ev.pos rfl (Ev.bind' _ (Dr (k6 S P L) hvl) (Ev.pos rfl (Ev.bind' _ (Dr (k6 S P L) hvl) (Ev.pos rfl (Ev.pos rfl next)))))))))))))
 ·rw[if_neg c]
  exact Ev.step (fun k=>by rw[cK.j4]) (Ev.neg (by simp) (Ev.neg aaO next))
theorem viewed_loop(y:List Int)(next:Ev (fun k=>cK.j5 k y) true)(S:List ByteArray)(P:List Wr)(L:List ByteArray)(n:Int)(h:fd S P L n)(hL:jY L)(a:List ByteArray)(ha:a.length≤100)(l:List Wr)(hl:l.length≤8)(hw:∀j,j<l.length→0≤(l.getD j dl).f0)(hv:k6 S P L=dq a l):
 ∀d i:Nat,a.length-i=d→i≤a.length→Ev (fun k=>cK.l0 k y l a (k6 S P L) (a.length:Int) (i:Int) S P L n) true:=by
 intro d
 induction d with
 |zero=>exact fun i hd hi=>viewed_rest y next S P L n h hL a l (i:Int) (by omega)
 |succ d ih=>
  intro i hd hi
  have hi':i<a.length:=by omega
  have nx:=ih (i+1) (by omega) (by omega)
  have hvl:(k6 S P L).length=a.length:=by rw[hv,mS]
  refine Ev.step (fun k=>by rw[cK.l0]) (Ev.pos (by omega) (Ev.pos (by omega) (Ev.pos (by omega) ?_)))
  have inner:∀d j:Nat,l.length-j=d→j≤l.length→Ev (fun k=>cK.l1 k y l a (k6 S P L) (i:Int) ((dq a (l.take j)).getD i ByteArray.empty) (a.length:Int) (i:Int) l (l.length:Int) (j:Int) S P L n) true:=by
   intro d
   induction d with
   |zero=>
    intro j hd hj
    obtain rfl:j=l.length:=by omega
    refine Ev.step (fun k=>by rw[cK.l1]) (Ev.neg (by omega) (Ev.pos (by omega) (Ev.pos (by omega) (Ev.pos ?_ ?_))))
    ·rw[m9,List.take_length,hv]
    ·rw[show wrap64 ((i:Int)+1)=((i+1:Nat):Int) by rw[eD (by omega) (by omega)];rfl]
     exact nx
   |succ d ih2=>
    intro j hd hj
    have hj':j<l.length:=by omega
    have h0:=hw j hj';have IG:=ih2 (j+1) (by omega) (by omega);rw[Lw a l j hj',ER _ _ _ _ _ (by rw[mS];exact hi')]at IG;refine Ev.step (fun k=>by rw[cK.l1]) (Ev.pos (by omega) (Ev.pos (by omega) (Ev.pos (by omega) ?_)));rw[kG,show wrap64 ((j:Int)+1)=((j+1:Nat):Int) by rw[eD (by omega) (by omega)];rfl]
    by_cases c:(l.getD j dl).f0=(i:Int)
    ·rw[if_pos (by omega)]at IG
     exact Ev.pos c IG
    ·rw[if_neg (by omega)]at IG
     exact Ev.neg c IG
  have:=inner l.length 0 rfl (aaM _);rw[List.take_zero]at this;rw[m9];exact this
theorem FnViewed:cK.Pure:=by
 intro l0 l1 ho ho1;have hb:=Vh ho.2;have next:=viewed_text l1 (Vh ho1.2)
 suffices h:Ev (fun k=>cK.f k l0 l1) true by
  obtain⟨K,h⟩:=h;exact⟨K,h K (Nat.le_refl _)⟩
 unfold cK.f;refine Ev.ite (fun _=>Ev.now _) (fun _=> ?_);obtain⟨⟨S,P,L,n,p,q⟩,es,h1,h2,h3,h4,h5,h6⟩:=txnStore_ok l0 hb;simp only at h1 h2 h3 h4 h5 h6;obtain⟨l,p1,q1,el,hl,_⟩:=OM l0 hb p q (S.length:Int) h5 (by omega) (by omega)
 have ed:Ev (fun k=>kE.f k l0) (S,P,L,n,l):=by
  unfold kE.f;exact Ev.bind' _ es (Ev.bind' _ el (Ev.now _))
 obtain⟨cs,ci⟩:=Ly S P L n l (by omega) (by omega) (by omega) (by omega) h4
 by_cases c:fd S P L n∧hZ (S.length:Int) l∧L.length≠40
 ·rw[commitOf_yes c]at cs ci
  have hg:=commit_good c;have hv:=commit_view c;have h8:=c.2.1.2.2;have sz:=wb _ l c.2.1;have IF:=hg.1.2.1;have hsh:=Lz h4 (strOfNums (eg l)) (by rw[pS];omega);have v0:=Dx S P L n (by omega) (by omega) (by omega) h4;rw[By c.1]at v0;have v1:=Dx S P (L++[strOfNums (eg l)]) n (by omega) (by omega) (by omega) hsh;rw[By hg]at v1;have hvl:(k6 S P L).length=S.length:=Sg S P L;have loop:=viewed_loop l1 next S P (L++[strOfNums (eg l)]) n hg hsh (k6 S P L) (by omega) l h8 (fun j hj=>(c.2.1.1 j hj).1.1.1) hv (k6 S P L).length 0 rfl (aaM _);refine Ev.bind' _ ed (Ev.bind' _ ci (Ev.bind' _ cs (Ev.neg (by simp) (Ev.bind' _ (SO S P (L++[strOfNums (eg l)]) n (by omega) (by omega) (by omega)) ?_))));refine Ev.step (fun k=>by rw[cK.j0]) (Ev.neg (by simp) (Ev.pos rfl (Ev.bind' _ v0 (Ev.bind' _ v1 (Ev.pos rfl ?_)))));refine Ev.step (fun k=>by rw[cK.j1]) (Ev.neg (by simp) ?_);exact loop
 ·rw[commitOf_no c]at cs ci
  refine Ev.bind' _ ed (Ev.bind' _ ci (Ev.bind' _ cs (Ev.neg (by simp) (Ev.bind' _ (SO [] [] [] 0 (aaM _) (aaM _) (aaM _)) ?_))));exact Ev.step (fun k=>by rw[cK.j0]) (Ev.neg (by simp) (Ev.neg aaO next))
end Go.Proofs.Ytmbjmacpigojjaa.Q
