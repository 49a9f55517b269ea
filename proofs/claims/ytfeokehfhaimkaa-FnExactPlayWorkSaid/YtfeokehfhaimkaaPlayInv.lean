/- What a step of PlayWork keeps: the state's room is canonical, all is short. No statement. -/
import Derived.Test.YtfeokehfhaimkaaIntWorkOn
import Derived.Test.YtfeokehfhaimkaaIntRecover
import Derived.Test.YtfeokehfhaimkaaPlayImpl
open Bool renaming false_ne_true→db
open Option renaming bind_eq_some_iff→Gl,bind_some→Gm
namespace Go.Proofs.Ytfeokehfhaimkaa.Q
open Go.RowKit Go.Proofs.YtfeokehfhaimkaaW.PrintWords Go.Proofs.Ytfeokehfhaimkaa.G
set_option linter.unusedVariables false
set_option linter.unusedSimpArgs false
abbrev St:=bg
structure J(fp m:List X_)(l:List It):Prop where
 a:fp.length≤1000
 b:m.length≤1000
 c:l.length≤1000
 d:ff [] fp=m
theorem good_J(n:Int)(fp m:List X_)(nxt:Int)(l:List It)(h1:fp.length≤1048576)(h2:m.length≤1048576)(h3:l.length≤1048576)(k:Nat)(h:gH.f k n fp m nxt l=some true):J fp m l:=by
 obtain⟨o,i1,i2,i3⟩:=QG n fp m nxt l h1 h3;obtain⟨g,gs,gi⟩:=QI n fp m nxt l h1 h2 h3
 have eg:g=true:=by
  obtain⟨K,hK⟩:=gi
  have e:=Ev.uniq (⟨K+k,fun q hq=>by
   obtain⟨d,rfl⟩:∃d,q=k+d:=⟨q-k,by omega⟩;clear hq
   induction d with
   |zero=>exact h
   |succ d ih=>exact gH.mono _ _ _ _ _ _ _ ih⟩:Ev (fun k=>gH.f k n fp m nxt l) true) ⟨K,hK⟩
  exact e.symm
 subst eg;have eo:=Ev.uniq gs i2
 cases o with
 |none=>cases eo
 |some out=>
  obtain⟨_,_,l30,_,_,f60,_⟩:=i3 out rfl;have hs:=Xn n fp m nxt l h1 gs
  have hl:(ff [] fp).length=fp.length:=by rw[Bs,List.length_nil];omega
  exact⟨by omega,by rw[←hs];omega,by omega,hs⟩
theorem with_J(k:Nat)(n:Int)(fp m:List X_)(nxt:Int)(l:List It)(a b c d e nx:Int)(n':Int)(fp' m':List X_)(nx':Int)(l':List It)(H:J fp m l)
 (h:ij.f k n fp m nxt l a b c d e nx=some (n',fp',m',nx',l',true)):J fp' m' l':=by
 have HA:=H.a;have HB:=H.b;have HC:=H.c
 have e1:kZ.f n fp m=some (n,fp,m):=by
  unfold kZ.f mq.f;rw[if_pos (by omega),Gm,if_pos (by omega),Gm]
 have e2:qt.f l=some l:=by
  unfold qt.f;rw[if_pos (by omega)]
 unfold ij.f at h;rw[e1,Gm,e2,Gm,Gm,if_pos (by rw[List.length_singleton];omega),Gm]at h;obtain⟨t1,_,h⟩:=Gl.mp h
 cases t1 with
 |false=>rw[if_neg db]at h;cases h
 |true=>
  rw[if_pos rfl]at h;obtain⟨t2,hg,h⟩:=Gl.mp h
  cases t2 with
  |false=>rw[if_neg db]at h;cases h
  |true=>
   rw[if_pos rfl]at h
   cases h
   exact good_J n fp m _ _ (by omega) (by omega) (by rw[List.length_append,List.length_singleton];omega) k hg
theorem promise_J(k:Nat)(n:Int)(fp m:List X_)(nxt:Int)(l:List It)(x0 x1:Int)(n':Int)(fp' m':List X_)(nx':Int)(l':List It)(id:Int)(H:J fp m l)
 (h:tH.f k n fp m nxt l x0 x1=some (n',fp',m',nx',l',id,true)):J fp' m' l':=by
 unfold tH.f at h;obtain⟨⟨q0,q1,q2,q3,q4,q5⟩,hw,h⟩:=Gl.mp h
 cases q5 with
 |false=>rw[if_neg db]at h;cases h
 |true=>
  rw[if_pos rfl]at h
  cases h
  exact with_J k n fp m nxt l _ _ _ _ _ _ _ _ _ _ _ H hw
theorem workOn_J(k:Nat)(n:Int)(fp m:List X_)(nxt:Int)(l:List It)(id many:Int)(n':Int)(fp' m':List X_)(nx':Int)(l':List It)(H:J fp m l)
 (h:gq.f k n fp m nxt l id many=some (n',fp',m',nx',l',true)):J fp' m' l':=by
 have key:∀ (k:Nat) (o:List It) (c:Bool),gq.j0 k id many o c n fp m nxt l=some (n',fp',m',nx',l',true)→J fp' m' l':=by
  intro k o c h
  cases k with
  |zero=>simp[gq.j0]at h
  |succ k=>
   rw[gq.j0]at h
   split at h
   ·cases h
   ·split at h
    ·split at h
     ·split at h
      ·cases h
      ·split at h
       ·cases h
       ·obtain⟨⟨q0,q1,q2,q3,q4,q5⟩,hw,h⟩:=Gl.mp h
        cases h
        exact with_J k n fp m nxt l _ _ _ _ _ _ _ _ _ _ _ H hw
     ·cases h
    ·cases h
 unfold gq.f at h;obtain⟨⟨o,c⟩,_,h⟩:=Gl.mp h
 split at h
 ·obtain⟨c2,_,h⟩:=Gl.mp h
  exact key _ _ _ h
 ·exact key _ _ _ h
theorem Ev.at {α:Type}{g:Nat→Option α}{r:α}(h:Ev g r):∃k,g k=some r:=by
 obtain⟨K,h⟩:=h;exact⟨K,h K (Nat.le_refl _)⟩
end Go.Proofs.Ytfeokehfhaimkaa.Q
