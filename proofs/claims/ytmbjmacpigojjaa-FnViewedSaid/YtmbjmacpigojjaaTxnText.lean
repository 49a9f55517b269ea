import Derived.Test.YtmbjmacpigojjaaTxnBase
import Derived.Test.YtmbjmacpigojjaaG7
namespace Go.Proofs.Ytmbjmacpigojjaa.Q
open Go.RowKit Go.Proofs.YtmbjmacpigojjaaW.PrintWords Go.Proofs.Ytmbjmacpigojjaa.G
set_option linter.unusedVariables false
set_option linter.unusedSimpArgs false
theorem specTxnText_ev(l:List Wr)(hl:l.length≤1000000000):∃r,Ev (fun k=>mu.f k l) r∧Ev (fun k=>mt.f k l) r:=by
 unfold mu.f mt.f
 by_cases h:hZ 32 l
 ·exact⟨_,Ev.bind' _ (yp l hl 32) (Ev.pos (ki.2 h) (Ev.bind' _ (IW 32 l h) (Ev.now _))),Ev.bind' _ (yr l hl 32) (Ev.pos (ki.2 h) (Ev.bind' _ (IV 32 l h) (Ev.now _)))⟩
 ·have e:¬sD 32 l=true:=fun e=>h (ki.1 e)
  exact⟨_,Ev.bind' _ (yp l hl 32) (Ev.neg e (Ev.now _)),Ev.bind' _ (yr l hl 32) (Ev.neg e (Ev.now _))⟩
end Go.Proofs.Ytmbjmacpigojjaa.Q
