/- Lemmas on the laws' own helpers, printed by a program of this session (gen_help.py). No statement. -/
import Derived.Test.YtfeokehfhaimkaaHBase
import Derived.Test.YtfeokehfhaimkaaHFree
import Derived.Test.YtfeokehfhaimkaaHItem
import Derived.Test.YtfeokehfhaimkaaG7
import Derived.Test.YtfeokehfhaimkaaG8
namespace Go.Proofs.Ytfeokehfhaimkaa.Q
open Go.RowKit Go.Proofs.YtfeokehfhaimkaaW.PrintWords Go.Proofs.Ytfeokehfhaimkaa.G
set_option linter.unusedVariables false
set_option linter.unusedSimpArgs false
theorem eqWork_refl(x0:Int)(x1:List Y)(x2:List Y)(x3:Int)(x4:List aJ)(h1:x1.length≤4611686018427387904)(h2:x2.length≤4611686018427387904)(h4:x4.length≤4611686018427387904):Ev (fun k=>uV.f k x0 x1 x2 x3 x4 x0 x1 x2 x3 x4) true:=by
 unfold uV.f;exact Ev.bind' _ (eqFree_refl x0 x1 x2 h1 h2) (Ev.pos rfl (Ev.pos rfl (Ev.bind' _ (eqItemS_refl x4 h4) (Ev.pos rfl (Ev.now _)))))
theorem markWork_ev(x0:Int)(x1:List Y)(x2:List Y)(x3:Int)(x4:List aJ)(a:Int)(g0:0≤a)(g1:a+2*(x1.length:Int)+2*(x2.length:Int)+5*(x4.length:Int)≤1152921504606846976):∃ (q:Int) (m1:List Y) (m2:List Y) (m4:List aJ),Ev (fun k=>xy.f k x0 x1 x2 x3 x4 a) (q,m1,m2,m4)∧Ev (fun k=>vV.f k x0 m1 m2 x3 m4 a) q∧a≤q∧q=a+2*(x1.length:Int)+2*(x2.length:Int)+5*(x4.length:Int)∧m1.length=x1.length∧m2.length=x2.length∧m4.length=x4.length:=by
 obtain⟨q0,m1,m2,e0,f0,b0,c0,l1,l2⟩:=markFree_ev x0 x1 x2 a (by omega) (by omega);obtain⟨q1,m4,e1,f1,b1,c1,l4⟩:=markItemS_ev x4 q0 (by omega) (by omega);refine⟨q1,m1,m2,m4, ?_, ?_,by omega,by omega,l1,l2,l4⟩
 ·unfold xy.f
  exact Ev.bind' _ e0 (Ev.bind' _ e1 (Ev.now _))
 ·unfold vV.f
  exact Tg f0 (by omega) (Tg f1 (by omega) (Ev.now _))
end Go.Proofs.Ytfeokehfhaimkaa.Q
