/- A map's holes, both sides alike: by cells. No statement. -/
import Derived.Test.YtjojdplkgekagaaMapMergeAbs
import Derived.Test.YtjojdplkgekagaaG7
import Derived.Test.YtjojdplkgekagaaG8
namespace Go.Proofs.Ytjojdplkgekagaa.Q
open Go.RowKit Go.Proofs.YtjojdplkgekagaaW.PrintWords Go.Proofs.Ytjojdplkgekagaa.G
set_option linter.unusedVariables false
set_option linter.unusedSimpArgs false
theorem merged_holes_ev(E:List Ex)(N:Nat)(hN:N≤1000)(hE:jO (N:Int) E)(cells:List mI)(hc:N≤cells.length)(hh:∀n,n<N→(gm E n↔ (cells.getD n dO).f0=false)):Ev (fun k=>gC.f k (N:Int) cells) E:=by
 have rdc:∀n:Nat,n<N→ml.f (n:Int) cells=some (!(cells.getD n dO).f0):=by
  intro n hn;unfold ml.f;rw[if_pos (by omega),if_pos (by omega)]
  simp[am]
 unfold gC.f;refine XT (fun k out n=>gC.l0 k out (N:Int) (n:Int) cells) N hN E hE ?_ ?_ ?_ ?_
 ·intro out
  refine Ev.step (fun k=>by rw[gC.l0]) ?_;exact Ev.neg (by omega) (Ev.now _)
 ·intro out n hn hno next
  refine Ev.step (fun k=>by rw[gC.l0]) ?_;rw[bg (x:=(n:Int)+1) (by omega) (by omega)];refine Ev.pos (by omega) (Ev.cW _ (rdc n hn) (Ev.neg ?_ next));intro h;exact hno ((hh n hn).2 (by simpa using h))
 ·intro out n hn hin h0 hl he hf0 hf1 next
  refine Ev.step (fun k=>by rw[gC.l0]) ?_;rw[bg (x:=(n:Int)+1) (by omega) (by omega),LZ out h0 hl,qP,he,bg (x:=(n:Int)) (by omega) (by omega),bg (x:=(out.getD (out.length-1) ez).f1+1) (by omega) (by omega),Int.toNat_natCast];refine Ev.pos (by omega) (Ev.cW _ (rdc n hn) (Ev.pos ?_ (Ev.pos (by omega) (Ev.pos (by omega) (Ev.pos (by omega) (Ev.pos rfl next))))));rw[(hh n hn).1 hin]
  rfl
 ·intro out n hn hin hl h0 next
  refine Ev.step (fun k=>by rw[gC.l0]) ?_;rw[bg (x:=(n:Int)+1) (by omega) (by omega)];refine Ev.pos (by omega) (Ev.cW _ (rdc n hn) (Ev.pos ?_ ?_))
  ·rw[(hh n hn).1 hin]
   rfl
  ·by_cases hz:0<out.length
   ·obtain⟨h1,h2,h3,h4⟩:=h0 hz
    rw[LZ out hz hl,qP,bg (x:=(out.getD (out.length-1) ez).f0+(out.getD (out.length-1) ez).f1) (by omega) (by omega)];exact Ev.pos (by omega) (Ev.pos (by omega) (Ev.pos (by omega) (Ev.neg h1 (Ev.pos (by omega) next))))
   ·refine Ev.neg ?_ (Ev.pos (by omega) next)
    rw[show out.length=0 by omega,bg (by omega) (by omega)]
    omega
theorem specHoles_ev(l:List Pc)(hl:gi l)(b:Nat)(hb:b≤200):∃E,Ev (fun k=>eh.l0 k (b:Int) [] 0 l (l.length:Int) 0) (E,true)∧jO (b:Int) E∧∀n,n<b→(gm E n↔ ∀p∈l,¬ce p n):=by
 have hlen:=oz hl
 have key:∀d i,l.length-i=d→i≤l.length→∀ (out:List Ex) (at_:Nat),(at_:Int)≤200→out.length≤i→(i<l.length→(at_:Int)≤(l.getD i pz).f0)→jO (b:Int) out→(0<out.length→(out.getD (out.length-1) ez).f0+(out.getD (out.length-1) ez).f1<(at_:Int))→(∀j,j<i→(l.getD j pz).f0+(l.getD j pz).f1≤(at_:Int))→(∀n:Nat,gm out n↔ (n<b∧n<at_∧∀j,j<i→¬ce (l.getD j pz) n))→
  ∃E,Ev (fun k=>eh.l0 k (b:Int) out (at_:Int) l (l.length:Int) (i:Int)) (E,true)∧jO (b:Int) E∧∀n,n<b→(gm E n↔ ∀p∈l,¬ce p n):=by
  intro d
  induction d with
  |zero=>
   intro i hd hi out at_ hat hol hnx ho hlast hends hin
   have hil:i=l.length:=by omega
   subst hil
   have hmem:∀n:Nat,(∀j,j<l.length→¬ce (l.getD j pz) n)↔ ∀p∈l,¬ce p n:=by
    intro n
    constructor
    ·intro h p hp
     obtain⟨j,hj,rfl⟩:=pD pz hp;exact h j hj
    ·intro h j hj
     exact h _ (jB l j pz hj)
   by_cases hc:at_<b
   ·refine⟨out++[⟨(at_:Int),(b:Int)-(at_:Int)⟩], ?_, ?_,fun n hn=> ?_⟩
    ·refine Ev.step (fun k=>by rw[eh.l0]) ?_
     rw[bg (x:=(b:Int)-(at_:Int)) (by omega) (by omega)];exact Ev.neg (by omega) (Ev.pos (by omega) (Ev.pos (by omega) (Ev.now _)))
    ·exact Lc ho (by unfold iS;simp only;omega) hlast
    ·rw[EH,hin n,←hmem]
     unfold lS;simp only
     constructor
     ·rintro(h|h)
      ·exact h.2.2
      ·intro j hj hh
       have:=hends j hj;unfold ce at hh
       omega
     ·intro h
      by_cases e:n<at_
      ·exact .inl ⟨hn,e,h⟩
      ·exact .inr (by omega)
   ·refine⟨out, ?_,ho,fun n hn=> ?_⟩
    ·refine Ev.step (fun k=>by rw[eh.l0]) ?_
     exact Ev.neg (by omega) (Ev.neg (by omega) (Ev.now _))
    ·rw[hin n,←hmem]
     exact⟨fun h=>h.2.2,fun h=>⟨hn,by omega,h⟩⟩
  |succ d ih=>
   intro i hd hi out at_ hat hol hnx ho hlast hends hin
   have hil:i<l.length:=by omega
   have hp:=hl.1 i hil;unfold eM at hp;have h1:=hnx hil;obtain⟨at2,h2⟩:∃at2:Nat,(at2:Int)=(l.getD i pz).f0+(l.getD i pz).f1:=⟨((l.getD i pz).f0+(l.getD i pz).f1).toNat,by omega⟩
   have hends':∀j,j<i+1→(l.getD j pz).f0+(l.getD j pz).f1≤(at2:Int):=by
    intro j hj
    by_cases e:j=i
    ·subst e;omega
    ·have:=hends j (by omega);omega
   have hnx':i+1<l.length→(at2:Int)≤(l.getD (i+1) pz).f0:=fun h=>by
    have:=hl.2 i h
    omega
   obtain⟨en,h3⟩:∃en:Nat,(en:Int)=if(l.getD i pz).f0>(b:Int)then(b:Int)else(l.getD i pz).f0:=⟨(if(l.getD i pz).f0>(b:Int)then(b:Int)else(l.getD i pz).f0).toNat,by split<;>omega⟩
   have h4:(en:Int)≤(b:Int)∧(en:Int)≤(l.getD i pz).f0∧((en:Int)=(b:Int)∨(en:Int)=(l.getD i pz).f0):=by
    split at h3<;>omega
   have goon:∃ (uT:List Ex),jO (b:Int) uT∧uT.length≤i+1∧(0<uT.length→(uT.getD (uT.length-1) ez).f0+(uT.getD (uT.length-1) ez).f1<(at2:Int))∧(∀n:Nat,gm uT n↔ (n<b∧n<at2∧∀j,j<i+1→¬ce (l.getD j pz) n))∧uT=(if at_<en then out++[⟨(at_:Int),(en:Int)-(at_:Int)⟩]else out):=by
    have hmem:∀n:Nat,(n<b∧n<at2∧∀j,j<i+1→¬ce (l.getD j pz) n)↔ ((n<b∧n<at_∧∀j,j<i→¬ce (l.getD j pz) n)∨(at_≤n∧n<en)):=by
     intro n
     constructor
     ·rintro⟨a1,a2,a3⟩
      have a4:=a3 i (by omega);unfold ce at a4
      by_cases e:n<at_
      ·exact .inl ⟨a1,e,fun j hj=>a3 j (by omega)⟩
      ·exact .inr ⟨by omega,by omega⟩
     ·rintro(⟨a1,a2,a3⟩|⟨a1,a2⟩)
      ·refine⟨a1,by omega,fun j hj=> ?_⟩
       by_cases e:j=i
       ·subst e
        unfold ce
        omega
       ·exact a3 j (by omega)
      ·refine⟨by omega,by omega,fun j hj=> ?_⟩
       unfold ce
       by_cases e:j=i
       ·subst e;omega
       ·have:=hends j (by omega);omega
    by_cases hc:at_<en
    ·refine⟨out++[⟨(at_:Int),(en:Int)-(at_:Int)⟩],Lc ho (by unfold iS;simp only;omega) hlast,by simp;omega,fun _=> ?_,fun n=> ?_,by rw[if_pos hc]⟩
     ·rw[List.length_append,List.length_singleton,lL _ _ _ _ (by omega),show out.length+1-1-out.length=0 by omega]
      show(at_:Int)+((en:Int)-(at_:Int))<_
      omega
     ·rw[EH,hin n,hmem n]
      unfold lS;simp only
      constructor
      ·rintro(h|h)
       ·exact .inl h
       ·exact .inr (by omega)
      ·rintro(h|h)
       ·exact .inl h
       ·exact .inr (by omega)
    ·refine⟨out,ho,by omega,fun h=>by have:=hlast h;omega,fun n=> ?_,by rw[if_neg hc]⟩
     rw[hin n,hmem n]
     constructor
     ·exact .inl
     ·rintro(h|h)
      ·exact h
      ·omega
   obtain⟨uT,g1,g2,g3,g4,g5⟩:=goon;obtain⟨E,h5,h6,h7⟩:=ih (i+1) (by omega) (by omega) uT at2 (by omega) g2 hnx' g1 g3 hends' g4;refine⟨E, ?_,h6,h7⟩;refine Ev.step (fun k=>by rw[eh.l0]) ?_;rw[kj,bg (x:=(i:Int)+1) (by omega) (by omega),bg (x:=(l.getD i pz).f0+(l.getD i pz).f1) (by omega) (by omega),←h2,bg (x:=(b:Int)-(at_:Int)) (by omega) (by omega),bg (x:=(l.getD i pz).f0-(at_:Int)) (by omega) (by omega)];refine Ev.pos (by omega) (Ev.pos (by omega) (Ev.pos (by omega) (Ev.ite (fun hb2=> ?_) (fun hb2=> ?_))))
   ·rw[if_pos hb2]at h3
    by_cases hc:at_<en
    ·rw[if_pos hc]at g5
     rw[g5,h3]at h5;exact Ev.pos (by omega) (Ev.pos (by omega) h5)
    ·rw[if_neg hc]at g5
     rw[g5]at h5;exact Ev.neg (by omega) h5
   ·rw[if_neg hb2]at h3
    by_cases hc:at_<en
    ·rw[if_pos hc]at g5
     rw[g5,h3]at h5;exact Ev.pos (by omega) (Ev.pos (by omega) h5)
    ·rw[if_neg hc]at g5
     rw[g5]at h5;exact Ev.neg (by omega) h5
 exact key l.length 0 rfl (by omega) [] 0 (by omega) (by simp) (fun h=>by have:=hl.1 0 h;unfold eM at this;omega) (Pu _) (fun h=>by simp at h) (fun j h=>by omega) (fun n=>by
  constructor
  ·rintro⟨e,he,_⟩;simp at he
  ·rintro⟨_,h,_⟩;omega)
theorem YE {l:List Pc}(h:gi l)(n:Nat):(bD l n).f0=false↔ ∀p∈l,¬ce p n:=by
 rcases o3 h n with⟨p,hp,hn,e⟩|⟨hno,e⟩
 ·rw[e]
  constructor
  ·intro h;cases h
  ·intro h;exact absurd hn (h p hp)
 ·rw[e]
  exact⟨fun _=>hno,fun _=>rfl⟩
def HolesOk(l:List Pc)(b:Int)(r:List Ex×Bool):Prop:=(r.2=true→dh l∧(0≤b∧b≤200)∧jO b r.1∧∀n:Nat,(n:Int)<b→(gm r.1 n↔ (bD l n).f0=false))∧(r.2=false→r.1=[])
theorem holes_ev(l:List Pc)(hl:l.length≤1048576)(b:Int):∃r,Ev (fun k=>eh.f k l b) r∧Ev (fun k=>i5.f k l b) r∧r.1.length≤1000∧HolesOk l b r:=by
 have g1:=vo l hl;have g2:=yE l hl
 have no1:Ev (fun k=>eh.j0 k b true l) ([],false):=by
  refine Ev.step (fun k=>by rw[eh.j0]) ?_;exact Ev.pos rfl (Ev.now _)
 have no2:Ev (fun k=>i5.j0 k b true l) ([],false):=by
  refine Ev.step (fun k=>by rw[i5.j0]) ?_;exact Ev.pos rfl (Ev.now _)
 by_cases hg:dh l
 ·by_cases hb:0≤b∧b≤200
  ·have ho:=(rn hg.2).1
   obtain⟨E,h1,h2,h3⟩:=specHoles_ev l ho b.toNat (by omega)
   have hbn:((b.toNat:Nat):Int)=b:=by omega
   rw[hbn]at h1 h2;refine⟨(E,true), ?_, ?_, ?_,fun _=>⟨hg,hb,h2,fun n hn=>(h3 n (by omega)).trans (YE ho n).symm⟩,fun h=>by cases h⟩
   ·unfold eh.f
    refine Ev.bind' _ g1 (Ev.pos (by simpa using hg) (Ev.cW _ (Hc _ _ _) ?_));rw[decide_eq_true hb];refine Ev.step (fun k=>by rw[eh.j0]) ?_;exact Ev.neg (by decide) h1
   ·unfold i5.f
    refine Ev.bind' _ g2 (Ev.pos (by simpa using hg) (Ev.cW _ (yP _ _ _) ?_));rw[decide_eq_true hb];refine Ev.step (fun k=>by rw[i5.j0]) ?_;refine Ev.neg (by decide) (Ev.bind' _ (EF l hg.2 hl) (Ev.bind' E ?_ (Ev.now _)))
    have hm:=merged_holes_ev E b.toNat (by omega) (by rw[hbn];exact h2) (cellsOf l) (by rw[nM];omega) (fun n hn=>by
     rw[h3 n hn,uc l n (by omega),YE ho])
    rw[hbn]at hm;exact hm
   ·have:=E2 h2.1
    show E.length≤1000
    omega
  ·refine⟨([],false), ?_, ?_,by simp,fun h=>(by cases h),fun _=>rfl⟩
   ·unfold eh.f
    refine Ev.bind' _ g1 (Ev.pos (by simpa using hg) (Ev.cW _ (Hc _ _ _) ?_));rw[decide_eq_false hb];exact no1
   ·unfold i5.f
    refine Ev.bind' _ g2 (Ev.pos (by simpa using hg) (Ev.cW _ (yP _ _ _) ?_));rw[decide_eq_false hb];exact no2
 ·refine⟨([],false), ?_, ?_,by simp,fun h=>(by cases h),fun _=>rfl⟩
  ·unfold eh.f
   exact Ev.bind' _ g1 (Ev.neg (by simpa using hg) no1)
  ·unfold i5.f
   exact Ev.bind' _ g2 (Ev.neg (by simpa using hg) no2)
end Go.Proofs.Ytjojdplkgekagaa.Q
