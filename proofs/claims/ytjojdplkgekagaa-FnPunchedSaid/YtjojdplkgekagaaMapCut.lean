import Derived.Test.YtjojdplkgekagaaMapCutInv
import Derived.Test.YtjojdplkgekagaaG3
namespace Go.Proofs.Ytjojdplkgekagaa.Q
open Go.RowKit Go.Proofs.YtjojdplkgekagaaW.PrintWords Go.Proofs.Ytjojdplkgekagaa.G
set_option linter.unusedVariables false
set_option linter.unusedSimpArgs false
theorem cut_j2 {r:List Pc×List Pc}(P:Pc)(hP:eM P)(lo hi' fr en:Int)(o q l:List Pc)(ol:o.length≤200)(ql:q.length≤200)(i:Nat)(hi:i<200)(hlt:lo<hi')(hlo:P.f0≤lo)(hhi:hi'≤P.f0+P.f1)
 (a:Ev (fun k=>dC.l0 k fr (o++(if P.f0<lo then [⟨P.f0,lo-P.f0,P.f2,P.f3⟩]else [])++(if hi'<P.f0+P.f1 then [⟨hi',P.f0+P.f1-hi',P.f2+hi'-P.f0,P.f3⟩]else [])) (q++[⟨lo,hi'-lo,P.f2+lo-P.f0,P.f3⟩]) en l (l.length:Int) ((i+1:Nat):Int)) r):
 Ev (fun k=>dC.j2 k fr o q en P.f0 (P.f0+P.f1) lo hi' l (l.length:Int) (i:Int) P.f0 P.f1 P.f2 P.f3) r:=by
 unfold eM at hP;refine Ev.step (fun k=>by rw[dC.j2]) ?_;rw[bg (x:=(i:Int)+1) (by omega) (by omega),bg (x:=lo-P.f0) (by omega) (by omega),bg (x:=hi'-lo) (by omega) (by omega),bg (x:=P.f2+lo) (by omega) (by omega),bg (x:=P.f2+lo-P.f0) (by omega) (by omega),bg (x:=P.f0+P.f1-hi') (by omega) (by omega),bg (x:=P.f2+hi') (by omega) (by omega),bg (x:=P.f2+hi'-P.f0) (by omega) (by omega)];refine Ev.neg (by omega) ?_
 by_cases c1:P.f0<lo
 ·rw[if_pos c1]at a
  refine Ev.pos c1 ?_;refine Ev.pos (by omega) ?_;refine Ev.cW (o++[⟨P.f0,lo-P.f0,P.f2,P.f3⟩]) rfl ?_;refine Ev.pos (by omega) ?_;refine Ev.cW (q++[⟨lo,hi'-lo,P.f2+lo-P.f0,P.f3⟩]) rfl ?_
  by_cases c2:hi'<P.f0+P.f1
  ·rw[if_pos c2]at a
   refine Ev.pos c2 ?_;refine Ev.pos (by rw[List.length_append,List.length_singleton];omega) ?_;exact a
  ·rw[if_neg c2,List.append_nil]at a
   refine Ev.neg c2 ?_;exact a
 ·rw[if_neg c1,List.append_nil]at a
  refine Ev.neg c1 ?_;refine Ev.pos (by omega) ?_;refine Ev.cW (q++[⟨lo,hi'-lo,P.f2+lo-P.f0,P.f3⟩]) rfl ?_
  by_cases c2:hi'<P.f0+P.f1
  ·rw[if_pos c2]at a
   refine Ev.pos c2 ?_;refine Ev.pos (by omega) ?_;exact a
  ·rw[if_neg c2,List.append_nil]at a
   refine Ev.neg c2 ?_;exact a
theorem SB(l:List Pc)(hc:ja l)(fr lg:Int)(h0:0≤fr)(h1:0≤lg)(h2:fr+lg≤200):∃o q,Ev (fun k=>dC.f k l fr lg) (o,q)∧sG l fr (fr+lg) l.length o q:=by
 have hlen:=oz hc.1
 have key:∀d i,l.length-i=d→i≤l.length→∀o q,sG l fr (fr+lg) i o q→∃o' q',Ev (fun k=>dC.l0 k fr o q (fr+lg) l (l.length:Int) (i:Int)) (o',q')∧sG l fr (fr+lg) l.length o' q':=by
  intro d
  induction d with
  |zero=>
   intro i hd hi o q h
   have:i=l.length:=by omega
   subst this;exact⟨o,q,Ev.step (fun k=>by rw[dC.l0]) (Ev.neg (by omega) (Ev.now _)),h⟩
  |succ d ih=>
   intro i hd hi o q h
   have hil:i<l.length:=by omega
   have hq:=hc.1.1 i hil;unfold eM at hq;have ol:=oz h.co.1;have ql:=oz h.oq;have ih':=ih (i+1) (by omega) (by omega)
   have j2:∀lo hi':Int,(lo=fr∧(l.getD i pz).f0<fr∨lo=(l.getD i pz).f0∧fr≤(l.getD i pz).f0)→(hi'=fr+lg∧fr+lg<(l.getD i pz).f0+(l.getD i pz).f1∨hi'=(l.getD i pz).f0+(l.getD i pz).f1∧(l.getD i pz).f0+(l.getD i pz).f1≤fr+lg)→
    ∃o' q',Ev (fun k=>dC.j2 k fr o q (fr+lg) (l.getD i pz).f0 ((l.getD i pz).f0+(l.getD i pz).f1) lo hi' l (l.length:Int) (i:Int) (l.getD i pz).f0 (l.getD i pz).f1 (l.getD i pz).f2 (l.getD i pz).f3) (o',q')∧sG l fr (fr+lg) l.length o' q':=by
    intro lo hi' hl hh
    by_cases c:lo≥hi'
    ·obtain⟨o',q',a,b⟩:=ih' _ _ (inv_out hc hil h (by omega) (by omega))
     refine⟨o',q',Ev.step (fun k=>by rw[dC.j2]) ?_,b⟩;rw[bg (x:=(i:Int)+1) (by omega) (by omega)];refine Ev.pos c ?_;refine Ev.pos (by omega) ?_;exact a
    ·obtain⟨o',q',a,b⟩:=ih' _ _ (inv_mid hc hil h lo hi' hl hh (by omega) (if(l.getD i pz).f0<lo then [⟨(l.getD i pz).f0,lo-(l.getD i pz).f0,(l.getD i pz).f2,(l.getD i pz).f3⟩]else []) (if hi'<(l.getD i pz).f0+(l.getD i pz).f1 then [⟨hi',(l.getD i pz).f0+(l.getD i pz).f1-hi',(l.getD i pz).f2+hi'-(l.getD i pz).f0,(l.getD i pz).f3⟩]else [])
      (by
        by_cases c1:(l.getD i pz).f0<lo
        ·rw[if_pos c1];exact .inl ⟨rfl,c1⟩
        ·rw[if_neg c1];exact .inr ⟨rfl,by omega⟩)
      (by
        by_cases c1:hi'<(l.getD i pz).f0+(l.getD i pz).f1
        ·rw[if_pos c1];exact .inl ⟨rfl,c1⟩
        ·rw[if_neg c1];exact .inr ⟨rfl,by omega⟩))
     exact⟨o',q',cut_j2 (l.getD i pz) (hc.1.1 i hil) lo hi' fr (fr+lg) o q l ol ql i (by omega) (by omega) (by omega) (by omega) a,b⟩
   have j1:∀lo:Int,(lo=fr∧(l.getD i pz).f0<fr∨lo=(l.getD i pz).f0∧fr≤(l.getD i pz).f0)→∃o' q',Ev (fun k=>dC.j1 k fr o q (fr+lg) (l.getD i pz).f0 ((l.getD i pz).f0+(l.getD i pz).f1) lo l (l.length:Int) (i:Int) (l.getD i pz).f0 (l.getD i pz).f1 (l.getD i pz).f2 (l.getD i pz).f3) (o',q')∧sG l fr (fr+lg) l.length o' q':=by
    intro lo hl
    by_cases c:(l.getD i pz).f0+(l.getD i pz).f1>fr+lg
    ·obtain⟨o',q',a,b⟩:=j2 lo (fr+lg) hl (.inl ⟨rfl,by omega⟩)
     exact⟨o',q',Ev.step (fun k=>by rw[dC.j1]) (Ev.pos c a),b⟩
    ·obtain⟨o',q',a,b⟩:=j2 lo _ hl (.inr ⟨rfl,by omega⟩)
     exact⟨o',q',Ev.step (fun k=>by rw[dC.j1]) (Ev.neg c a),b⟩
   by_cases c:(l.getD i pz).f0<fr
   ·obtain⟨o',q',a,b⟩:=j1 fr (.inl ⟨rfl,c⟩)
    refine⟨o',q',Ev.step (fun k=>by rw[dC.l0]) ?_,b⟩;rw[kj,bg (x:=(l.getD i pz).f0+(l.getD i pz).f1) (by omega) (by omega)];exact Ev.pos (by omega) (Ev.pos (by omega) (Ev.pos (by omega) (Ev.pos c a)))
   ·obtain⟨o',q',a,b⟩:=j1 _ (.inr ⟨rfl,by omega⟩)
    refine⟨o',q',Ev.step (fun k=>by rw[dC.l0]) ?_,b⟩;rw[kj,bg (x:=(l.getD i pz).f0+(l.getD i pz).f1) (by omega) (by omega)];exact Ev.pos (by omega) (Ev.pos (by omega) (Ev.pos (by omega) (Ev.neg c a)))
 unfold dC.f;rw[bg (x:=fr+lg) (by omega) (by omega)]
 have nil:∀p:Pc,¬p∈([]:List Pc):=fun p h=>by cases h
 exact key l.length 0 rfl (by omega) [] [] ⟨⟨⟨by intro i hi;simp at hi,by intro i hi;simp at hi⟩,by intro i hi;simp at hi⟩,⟨by intro i hi;simp at hi,by intro i hi;simp at hi⟩,fun p h=>absurd h (nil p),fun p h=>absurd h (nil p),fun p h=>absurd h (nil p),fun p h=>absurd h (nil p),fun j h=>absurd h (by omega),fun _=>Nat.le_refl _,fun j h=>absurd h (by omega)⟩
end Go.Proofs.Ytjojdplkgekagaa.Q
