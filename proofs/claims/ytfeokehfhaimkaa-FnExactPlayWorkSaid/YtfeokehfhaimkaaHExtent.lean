/- Lemmas on the laws' own helpers, printed by a program of this session (gen_help.py). No statement. -/
import Derived.Test.YtfeokehfhaimkaaHBase
import Derived.Test.YtfeokehfhaimkaaG7
import Derived.Test.YtfeokehfhaimkaaG8
namespace Go.Proofs.Ytfeokehfhaimkaa.Q
open Go.RowKit Go.Proofs.YtfeokehfhaimkaaW.PrintWords Go.Proofs.Ytfeokehfhaimkaa.G
set_option linter.unusedVariables false
set_option linter.unusedSimpArgs false
theorem rdiExtent(l:List Y)(i:Nat):aD l (i:Int)=l.getD i z45:=by simp[aD]
theorem eqExtent_refl(x0:Int)(x1:Int):nY.f x0 x1 x0 x1=some true:=by
 simp[nY.f]
theorem eqExtentS_refl(l:List Y)(h:l.length≤4611686018427387904):Ev (fun k=>fW.f k l l) true:=by
 have loop:∀d i,l.length-i=d→i≤l.length→Ev (fun k=>fW.l0 k l l (i:Int)) true:=by
  intro d
  induction d with
  |zero=>
   intro i hd hi
   have:i=l.length:=by omega
   subst this;exact Ev.step (fun k=>by rw[fW.l0]) (Ev.neg (by omega) (Ev.now _))
  |succ d ih=>
   intro i hd hi;refine Ev.step (fun k=>by rw[fW.l0]) ?_;rw[bv (x:=(i:Int)+1) (by omega) (by omega)];refine Ev.pos (by omega) (Ev.pos (by omega) (Ev.pos (by omega) (Ev.dq _ (eqExtent_refl _ _) (Ev.pos rfl ?_))));exact ih (i+1) (by omega) (by omega)
 unfold fW.f;exact Ev.pos rfl (loop l.length 0 rfl (by omega))
def KT(a:Int):Y:=(⟨a,a+1⟩:Y)
theorem markExtentS_ev(l:List Y)(a:Int)(h0:0≤a)(h1:a+2*(l.length:Int)≤1152921504606846976):∃ (q:Int) (m:List Y),Ev (fun k=>iR.f k l a) (q,m)∧Ev (fun k=>iJ.f k m a) q∧a≤q∧q=a+2*(l.length:Int)∧m.length=l.length:=by
 have hM:((List.range l.length).map (fun i:Nat=>KT (a+2*(i:Int)))).length=l.length:=QS _ _
 generalize hm:(List.range l.length).map (fun i:Nat=>KT (a+2*(i:Int)))=m at hM
 have hg:∀i,i<l.length→m.getD i z45=KT (a+2*(i:Int)):=fun i hi=>by rw[←hm];exact QT _ _ _ _ hi
 refine⟨a+2*(l.length:Int),m, ?_, ?_,by omega,rfl,hM⟩
 ·have loop:∀d i,l.length-i=d→i≤l.length→Ev (fun k=>iR.l0 k (m.take i++l.drop i) (a+2*(i:Int)) (i:Int)) (a+2*(l.length:Int),m):=by
   intro d
   induction d with
   |zero=>
    intro i hd hi
    have:i=l.length:=by omega
    subst this;refine Ev.step (fun k=>by rw[iR.l0]) ?_;refine Ev.neg (by simp[hM]) (Ev.now' ?_);rw[List.drop_length,List.append_nil,List.take_of_length_le (by omega)]
   |succ d ih=>
    intro i hd hi
    have hL:(m.take i++l.drop i).length=l.length:=by rw[List.length_append,List.length_take,List.length_drop];omega
    have next:=ih (i+1) (by omega) (by omega);rw[xx m i z45 (by omega),hg i (by omega),List.append_assoc,List.singleton_append]at next;refine Ev.step (fun k=>by rw[iR.l0]) ?_
    have hb0:0≤a+2*(i:Int):=by omega
    have hb1:a+2*(i:Int)+2≤1152921504606846976:=by omega
    have hn:a+2*((i+1:Nat):Int)=a+2*(i:Int)+1+1:=by omega
    rw[hn]at next
    generalize a+2*(i:Int)=b at hb0 hb1 next⊢
    unfold KT at next;rw[bv (x:=b+1) (by omega) (by omega),bv (x:=b+1+1) (by omega) (by omega),bv (x:=(i:Int)+1) (by omega) (by omega),Int.toNat_natCast];refine Ev.pos (by rw[hL];omega) ?_;refine Ev.pos (by omega) ?_;refine Ev.dq _ rfl ?_;simp only[rdiExtent,SZ m l i _ hM (by omega),SG m l i _ _ hM (by omega),Sa m l i _ _ hM (by omega),SH m l i _ hM (by omega)];exact next
  have:=loop l.length 0 rfl (by omega);unfold iR.f
  simpa using this
 ·have loop:∀d i,l.length-i=d→i≤l.length→Ev (fun k=>iJ.l0 k m (a+2*(i:Int)) (i:Int)) (a+2*(l.length:Int)):=by
   intro d
   induction d with
   |zero=>
    intro i hd hi
    have:i=l.length:=by omega
    subst this;refine Ev.step (fun k=>by rw[iJ.l0]) ?_;exact Ev.neg (by rw[hM];omega) (Ev.now _)
   |succ d ih=>
    intro i hd hi;have next:=ih (i+1) (by omega) (by omega);refine Ev.step (fun k=>by rw[iJ.l0]) ?_
    have hr:aD m (i:Int)=KT (a+2*(i:Int)):=by rw[rdiExtent,hg i (by omega)]
    have hb0:0≤a+2*(i:Int):=by omega
    have hb1:a+2*(i:Int)+2≤1152921504606846976:=by omega
    have hn:a+2*((i+1:Nat):Int)=a+2*(i:Int)+1+1:=by omega
    rw[hn]at next;rw[hr,hM]
    generalize a+2*(i:Int)=b at hb0 hb1 next⊢
    rw[bv (x:=b+1) (by omega) (by omega),bv (x:=b+1+1) (by omega) (by omega),bv (x:=(i:Int)+1) (by omega) (by omega)];refine Ev.pos (by omega) (Ev.pos (by omega) ?_);refine Ev.pos rfl ?_;refine Ev.pos rfl ?_;exact next
  have:=loop l.length 0 rfl (by omega);unfold iJ.f
  simpa using this
end Go.Proofs.Ytfeokehfhaimkaa.Q
