/- GoodWork of the reference and of the program: the same answer; the intents of a state. -/
import Derived.Test.YtfeokehfhaimkaaIntItems
import Derived.Test.YtfeokehfhaimkaaG3
import Derived.Test.YtfeokehfhaimkaaG5
open Bool renaming false_ne_true→db
open Nat renaming zero_le→bp
namespace Go.Proofs.Ytfeokehfhaimkaa.Q
open Go.RowKit Go.Proofs.YtfeokehfhaimkaaW.PrintWords Go.Proofs.Ytfeokehfhaimkaa.G
set_option linter.unusedVariables false
theorem Un {n:Int}{fp:List X_}:∀ (l out o:List It),gU n fp out l=some o→o.length≤out.length+l.length
 |[],out,o,h=>by rw[gU]at h;obtain rfl:=Option.some.inj h;simp
 |x::t,out,o,h=>by
  rw[gU]at h
  cases e:fP n fp out x with
  |none=>rw[e]at h;cases h
  |some o1=>
   rw[e]at h;have h1:=Ul e;have h2:=Un t o1 o h;rw[List.length_cons]
   omega
theorem QG(n:Int)(fp m:List X_)(nxt:Int)(l:List It)(hfp:fp.length≤1048576)(hl:l.length≤1048576):
 ∃o:Option (List It),Ev (fun k=>pj.f k n fp m nxt l) (su o)∧Ev (fun k=>eM.f k n fp m nxt l) o.isSome∧
  (∀out,o=some out→out.length≤30∧gU n fp [] l=some out∧l.length≤30∧1≤n∧n≤400∧fp.length≤60∧nxt=(out.length:Int)+1):=by
 obtain⟨g,e1,e2,hg⟩:=Dj n fp m hfp
 have badj:Ev (fun k=>d9.j0 k l true n fp m) (su none):=
  Ev.step (fun k=>by rw[d9.j0]) (Ev.pos rfl (Ev.now' (show(([]:List It),false)=su none from rfl)))
 unfold pj.f d9.f eM.f
 cases g with
 |false=>
  exact⟨none,Ev.bind' _ (Ev.bind' _ e2 (Ev.neg db badj)) (Ev.neg db (Ev.now _)),Ev.bind' _ e1 (Ev.neg db (Ev.now _)),fun _ h=>by cases h⟩
 |true=>
  obtain⟨n1,n2,f60⟩:=hg rfl
  have hs:Ev (fun k=>br.l0 k l 1 l (l.length:Int) 0 n fp m) (xV (decide ((l.length:Int)≤30)) (gU n fp [] l)):=
   scan_s n fp m l n1 n2 f60 hl l.length 0 [] rfl (bp _) (bp _) Inv.start
  have hs':Ev (fun k=>br.f k n fp m l) (xV (decide ((l.length:Int)≤30)) (gU n fp [] l)):=by
   unfold br.f;exact hs
  by_cases c:(l.length:Int)≤30
  ·have hi:Ev (fun k=>d9.l0 k [] l (l.length:Int) 0 n fp m) (su (gU n fp [] l)):=
    scan_i n fp m l n1 n2 f60 (by omega) l.length 0 [] rfl (bp _) (bp _)
   have hd:decide ((l.length:Int)>30)=false:=decide_eq_false (by omega)
   have hi':Ev (fun k=>(cV.f k n fp m).bind fun t382=>(if t382=true then(d9.j0 k l (decide ((l.length:Int)>30)) n fp m)else(d9.j0 k l true n fp m))) (su (gU n fp [] l)):=
    Ev.bind' _ e2 (Ev.pos rfl (by rw[hd];exact Ev.step (fun k=>by rw[d9.j0]) (Ev.neg db hi)))
   rw[decide_eq_true c]at hs'
   cases e:gU n fp [] l with
   |none=>
    rw[e]at hs' hi';exact⟨none,Ev.bind' _ hi' (Ev.neg db (Ev.now _)),Ev.bind' _ e1 (Ev.pos rfl (Ev.bind' _ hs' (Ev.neg db (Ev.now _)))),fun _ h=>by cases h⟩
   |some out=>
    rw[e]at hs' hi';have hol:=Un l [] out e;rw[List.length_nil]at hol;have hw:wrap64 ((out.length:Int)+1)=(out.length:Int)+1:=bv (by omega) (by omega)
    by_cases d:nxt=(out.length:Int)+1
    ·exact⟨some out,Ev.bind' _ hi' (Ev.pos rfl (Ev.pos (by rw[d];exact hw.symm) (Ev.now _))),Ev.bind' _ e1 (Ev.pos rfl (Ev.bind' _ hs' (Ev.pos rfl (Ev.now' (by simp[xV,d]))))),fun o h=>by
      obtain rfl:=Option.some.inj h
      exact⟨by omega,rfl,by omega,n1,n2,f60,d⟩⟩
    ·exact⟨none,Ev.bind' _ hi' (Ev.pos rfl (Ev.neg (fun h=>d (h.trans hw)) (Ev.now _))),Ev.bind' _ e1 (Ev.pos rfl (Ev.bind' _ hs' (Ev.pos rfl (Ev.now' (by
      simp only[xV,Option.isSome_none,beq_eq_false_iff_ne,ne_eq]
      exact fun h=>d h.symm))))),fun _ h=>by cases h⟩
  ·have hd:decide ((l.length:Int)>30)=true:=decide_eq_true (by omega)
   rw[decide_eq_false c]at hs';refine⟨none,Ev.bind' _ (Ev.bind' _ e2 (Ev.pos rfl (by rw[hd];exact badj))) (Ev.neg db (Ev.now _)),Ev.bind' _ e1 (Ev.pos rfl (Ev.bind' _ hs' ?_)),fun _ h=>by cases h⟩
   cases e:gU n fp [] l with
   |none=>exact Ev.neg db (Ev.now _)
   |some out=>exact Ev.neg db (Ev.now _)
theorem QI(n:Int)(fp m:List X_)(nxt:Int)(l:List It)(hfp:fp.length≤1048576)(hm:m.length≤1048576)(hl:l.length≤1048576):
 ∃r,Ev (fun k=>eM.f k n fp m nxt l) r∧Ev (fun k=>gH.f k n fp m nxt l) r:=by
 obtain⟨o,h1,h2,_⟩:=QG n fp m nxt l hfp hl;refine⟨o.isSome,h2, ?_⟩;unfold gH.f;refine Ev.bind' _ h1 (Ev.now' ?_)
 cases o<;>rfl
end Go.Proofs.Ytfeokehfhaimkaa.Q
