import Derived.Test.YtjojdplkgekagaaMapCut
import Derived.Test.YtjojdplkgekagaaG3
import Derived.Test.YtjojdplkgekagaaG6
namespace Go.Proofs.Ytjojdplkgekagaa.Q
open Go.RowKit Go.Proofs.YtjojdplkgekagaaW.PrintWords Go.Proofs.Ytjojdplkgekagaa.G
set_option linter.unusedVariables false
set_option linter.unusedSimpArgs false
def o1(a b:Int):Prop:=(0≤a∧a≤200)∧0≤b∧b≤200-a
theorem XP(a b:Int):∃x:Bool,sr.f a b=some x∧(x=true↔o1 a b):=by
 unfold sr.f;rw[Hc,Option.bind_some]
 by_cases h:0≤a∧a≤200
 ·rw[if_pos (by simpa using h),Hc,bg (x:=200-a) (by omega) (by omega)]
  exact⟨_,rfl,by unfold o1;simp only[decide_eq_true_eq];omega⟩
 ·rw[if_neg (by simpa using h)]
  exact⟨_,rfl,by unfold o1;simp only[Bool.false_eq_true,false_iff];omega⟩
theorem XQ(l:List Pc)(hl:l.length≤1048576)(a b:Int):∃x:Bool,Ev (fun k=>ku.f k l a b) x∧(x=true↔dh l∧o1 a b):=by
 unfold ku.f;have g:=yE l hl
 by_cases hg:dh l
 ·by_cases h:0≤a∧a≤200
  ·refine⟨_,Ev.bind' _ g (Ev.pos (by simpa using hg) (Ev.cW _ (yP _ _ _) (Ev.pos (by simpa using h) (Ev.cW _ (yP _ _ _) (Ev.now _))))), ?_⟩
   rw[bg (x:=200-a) (by omega) (by omega)];unfold o1;simp only[decide_eq_true_eq]
   constructor
   ·intro e;exact⟨hg,by omega,by omega,by omega⟩
   ·intro e;omega
  ·refine⟨_,Ev.bind' _ g (Ev.pos (by simpa using hg) (Ev.cW _ (yP _ _ _) (Ev.neg (by simpa using h) (Ev.now _)))), ?_⟩
   unfold o1;simp only[Bool.false_eq_true,false_iff]
   omega
 ·exact⟨_,Ev.bind' _ g (Ev.neg (by simpa using hg) (Ev.now _)),by simp only[Bool.false_eq_true,false_iff];exact fun e=>hg e.1⟩
end Go.Proofs.Ytjojdplkgekagaa.Q
