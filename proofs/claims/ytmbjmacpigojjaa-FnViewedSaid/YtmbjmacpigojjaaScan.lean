/- A loop that tests one place after another. No program, no statement. -/
import Derived.Test.YtmbjmacpigojjaaKit
namespace Go.Proofs.Ytmbjmacpigojjaa.Q
open Go.RowKit Go.Proofs.YtmbjmacpigojjaaW.PrintWords
set_option linter.unusedVariables false
theorem uG {β:Type}{L:Nat→Nat→Option β}{n:Nat}{p:Nat→Prop}{r:β}(h1:(∀i,i<n→p i)→Ev (fun k=>L k n) r)(h2:∀i,i<n→(∀j,j<i→p j)→p i→Ev (fun k=>L k (i+1)) r→Ev (fun k=>L k i) r)(h3:∀i,i<n→(∀j,j<i→p j)→¬p i→Ev (fun k=>L k i) r):Ev (fun k=>L k 0) r:=by
 have key:∀d i,n-i=d→i≤n→(∀j,j<i→p j)→Ev (fun k=>L k i) r:=by
  intro d
  induction d with
  |zero=>
   intro i hd hi hp
   have:i=n:=by omega
   subst this;exact h1 hp
  |succ d ih=>
   intro i hd hi hp
   by_cases e:p i
   ·refine h2 i (by omega) hp e (ih (i+1) (by omega) (by omega) fun j hj=> ?_)
    by_cases e2:j=i
    ·subst e2;exact e
    ·exact hp j (by omega)
   ·exact h3 i (by omega) hp e
 exact key n 0 rfl (by omega) (fun j h=>by omega)
theorem Jp {L:Nat→Nat→Option Int}{n:Nat}{q:Nat→Prop}(h1:Ev (fun k=>L k n) (-1))(h2:∀i,i<n→¬q i→∀t,Ev (fun k=>L k (i+1)) t→Ev (fun k=>L k i) t)(h3:∀i,i<n→q i→Ev (fun k=>L k i) (i:Int)):∃t:Int,Ev (fun k=>L k 0) t∧(t≥0↔ ∃i,i<n∧q i):=by
 have key:∀d i,n-i=d→i≤n→(∀j,j<i→¬q j)→∃t:Int,Ev (fun k=>L k i) t∧(t≥0↔ ∃i,i<n∧q i):=by
  intro d
  induction d with
  |zero=>
   intro i hd hi hp
   have:i=n:=by omega
   subst this;exact⟨-1,h1,⟨fun h=>by omega,fun⟨j,hj,e⟩=>absurd e (hp j hj)⟩⟩
  |succ d ih=>
   intro i hd hi hp
   by_cases e:q i
   ·exact⟨(i:Int),h3 i (by omega) e,⟨fun _=>⟨i,by omega,e⟩,fun _=>by omega⟩⟩
   ·obtain⟨t,h4,h5⟩:=ih (i+1) (by omega) (by omega) fun j hj=>by
     by_cases e2:j=i
     ·subst e2;exact e
     ·exact hp j (by omega)
    exact⟨t,h2 i (by omega) e t h4,h5⟩
 exact key n 0 rfl (by omega) (fun j h=>by omega)
end Go.Proofs.Ytmbjmacpigojjaa.Q
