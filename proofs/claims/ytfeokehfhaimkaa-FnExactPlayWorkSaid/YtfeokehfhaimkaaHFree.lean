/- Lemmas on the laws' own helpers, printed by a program of this session (gen_help.py). No statement. -/
import Derived.Test.YtfeokehfhaimkaaHBase
import Derived.Test.YtfeokehfhaimkaaHExtent
import Derived.Test.YtfeokehfhaimkaaG7
import Derived.Test.YtfeokehfhaimkaaG8
namespace Go.Proofs.Ytfeokehfhaimkaa.Q
open Go.RowKit Go.Proofs.YtfeokehfhaimkaaW.PrintWords Go.Proofs.Ytfeokehfhaimkaa.G
set_option linter.unusedVariables false
set_option linter.unusedSimpArgs false
theorem eqFree_refl(x0:Int)(x1:List Y)(x2:List Y)(h1:x1.length≤4611686018427387904)(h2:x2.length≤4611686018427387904):Ev (fun k=>qu.f k x0 x1 x2 x0 x1 x2) true:=by
 unfold qu.f;exact Ev.pos rfl (Ev.bind' _ (eqExtentS_refl x1 h1) (Ev.pos rfl (Ev.bind' _ (eqExtentS_refl x2 h2) (Ev.pos rfl (Ev.now _)))))
theorem markFree_ev(x0:Int)(x1:List Y)(x2:List Y)(a:Int)(g0:0≤a)(g1:a+2*(x1.length:Int)+2*(x2.length:Int)≤1152921504606846976):∃ (q:Int) (m1:List Y) (m2:List Y),Ev (fun k=>uU.f k x0 x1 x2 a) (q,m1,m2)∧Ev (fun k=>rz.f k x0 m1 m2 a) q∧a≤q∧q=a+2*(x1.length:Int)+2*(x2.length:Int)∧m1.length=x1.length∧m2.length=x2.length:=by
 obtain⟨q0,m1,e0,f0,b0,c0,l1⟩:=markExtentS_ev x1 a (by omega) (by omega);obtain⟨q1,m2,e1,f1,b1,c1,l2⟩:=markExtentS_ev x2 q0 (by omega) (by omega);refine⟨q1,m1,m2, ?_, ?_,by omega,by omega,l1,l2⟩
 ·unfold uU.f
  exact Ev.bind' _ e0 (Ev.bind' _ e1 (Ev.now _))
 ·unfold rz.f
  exact Tg f0 (by omega) (Tg f1 (by omega) (Ev.now _))
end Go.Proofs.Ytfeokehfhaimkaa.Q
