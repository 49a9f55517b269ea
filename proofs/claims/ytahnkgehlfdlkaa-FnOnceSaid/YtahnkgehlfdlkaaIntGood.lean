/- GoodWork of the reference and of the program: the same answer; the intents of a state. -/
import Derived.Test.YtahnkgehlfdlkaaIntItems
import Derived.Test.YtahnkgehlfdlkaaG2
import Derived.Test.YtahnkgehlfdlkaaG7
open Bool renaming false_ne_true→eI
open Nat renaming zero_le→pu
namespace Go.Proofs.Ytahnkgehlfdlkaa.Q
open Go.RowKit Go.Proofs.YtahnkgehlfdlkaaW.PrintWords Go.Proofs.Ytahnkgehlfdlkaa.G
set_option linter.unusedVariables false
theorem Nu {n:Int}{fp:List X_}:∀ (l out o:List It),gC n fp out l=some o→o.length≤out.length+l.length
 |[],out,o,h=>by rw[gC]at h;obtain rfl:=Option.some.inj h;simp
 |x::t,out,o,h=>by
  rw[gC]at h
  cases e:gx n fp out x with
  |none=>rw[e]at h;cases h
  |some o1=>
   rw[e]at h;have h1:=Sm e;have h2:=Nu t o1 o h;rw[List.length_cons]
   omega
theorem goodIntents_full(n:Int)(fp m:List X_)(nxt:Int)(l:List It)(hfp:fp.length≤1048576)(hl:l.length≤1048576):
 ∃o:Option (List It),Ev (fun k=>tc.f k n fp m nxt l) (qZ o)∧Ev (fun k=>f9.f k n fp m nxt l) o.isSome∧
  (∀out,o=some out→out.length≤30∧gC n fp [] l=some out∧l.length≤30∧1≤n∧n≤400∧fp.length≤60∧nxt=(out.length:Int)+1):=by
 obtain⟨g,e1,e2,hg⟩:=yZ n fp m hfp
 have badj:Ev (fun k=>dH.j0 k l true n fp m) (qZ none):=
  Ev.step (fun k=>by rw[dH.j0]) (Ev.pos rfl (Ev.now' (show(([]:List It),false)=qZ none from rfl)))
 unfold tc.f dH.f f9.f
 cases g with
 |false=>
  exact⟨none,Ev.bind' _ (Ev.bind' _ e2 (Ev.neg eI badj)) (Ev.neg eI (Ev.now _)),Ev.bind' _ e1 (Ev.neg eI (Ev.now _)),fun _ h=>by cases h⟩
 |true=>
  obtain⟨n1,n2,f60⟩:=hg rfl
  have hs:Ev (fun k=>cD.l0 k l 1 l (l.length:Int) 0 n fp m) (uW (decide ((l.length:Int)≤30)) (gC n fp [] l)):=
   Vu n fp m l n1 n2 f60 hl l.length 0 [] rfl (pu _) (pu _) Inv.start
  have hs':Ev (fun k=>cD.f k n fp m l) (uW (decide ((l.length:Int)≤30)) (gC n fp [] l)):=by
   unfold cD.f;exact hs
  by_cases c:(l.length:Int)≤30
  ·have hi:Ev (fun k=>dH.l0 k [] l (l.length:Int) 0 n fp m) (qZ (gC n fp [] l)):=
    Vv n fp m l n1 n2 f60 (by omega) l.length 0 [] rfl (pu _) (pu _)
   have hd:decide ((l.length:Int)>30)=false:=decide_eq_false (by omega)
   have hi':Ev (fun k=>(cH.f k n fp m).bind fun t382=>(if t382=true then(dH.j0 k l (decide ((l.length:Int)>30)) n fp m)else(dH.j0 k l true n fp m))) (qZ (gC n fp [] l)):=
    Ev.bind' _ e2 (Ev.pos rfl (by rw[hd];exact Ev.step (fun k=>by rw[dH.j0]) (Ev.neg eI hi)))
   rw[decide_eq_true c]at hs'
   cases e:gC n fp [] l with
   |none=>
    rw[e]at hs' hi';exact⟨none,Ev.bind' _ hi' (Ev.neg eI (Ev.now _)),Ev.bind' _ e1 (Ev.pos rfl (Ev.bind' _ hs' (Ev.neg eI (Ev.now _)))),fun _ h=>by cases h⟩
   |some out=>
    rw[e]at hs' hi';have hol:=Nu l [] out e;rw[List.length_nil]at hol;have hw:wrap64 ((out.length:Int)+1)=(out.length:Int)+1:=dO (by omega) (by omega)
    by_cases d:nxt=(out.length:Int)+1
    ·exact⟨some out,Ev.bind' _ hi' (Ev.pos rfl (Ev.pos (by rw[d];exact hw.symm) (Ev.now _))),Ev.bind' _ e1 (Ev.pos rfl (Ev.bind' _ hs' (Ev.pos rfl (Ev.now' (by simp[uW,d]))))),fun o h=>by
      obtain rfl:=Option.some.inj h
      exact⟨by omega,rfl,by omega,n1,n2,f60,d⟩⟩
    ·exact⟨none,Ev.bind' _ hi' (Ev.pos rfl (Ev.neg (fun h=>d (h.trans hw)) (Ev.now _))),Ev.bind' _ e1 (Ev.pos rfl (Ev.bind' _ hs' (Ev.pos rfl (Ev.now' (by
      simp only[uW,Option.isSome_none,beq_eq_false_iff_ne,ne_eq]
      exact fun h=>d h.symm))))),fun _ h=>by cases h⟩
  ·have hd:decide ((l.length:Int)>30)=true:=decide_eq_true (by omega)
   rw[decide_eq_false c]at hs';refine⟨none,Ev.bind' _ (Ev.bind' _ e2 (Ev.pos rfl (by rw[hd];exact badj))) (Ev.neg eI (Ev.now _)),Ev.bind' _ e1 (Ev.pos rfl (Ev.bind' _ hs' ?_)),fun _ h=>by cases h⟩
   cases e:gC n fp [] l with
   |none=>exact Ev.neg eI (Ev.now _)
   |some out=>exact Ev.neg eI (Ev.now _)
theorem Cg(n:Int)(fp m:List X_)(nxt:Int)(l:List It)(hfp:fp.length≤1048576)(hm:m.length≤1048576)(hl:l.length≤1048576):
 ∃r,Ev (fun k=>f9.f k n fp m nxt l) r∧Ev (fun k=>mN.f k n fp m nxt l) r:=by
 obtain⟨o,h1,h2,_⟩:=goodIntents_full n fp m nxt l hfp hl;refine⟨o.isSome,h2, ?_⟩;unfold mN.f;refine Ev.bind' _ h1 (Ev.now' ?_)
 cases o<;>rfl
end Go.Proofs.Ytahnkgehlfdlkaa.Q
