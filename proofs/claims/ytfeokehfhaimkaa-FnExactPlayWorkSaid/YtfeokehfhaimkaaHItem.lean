/- Lemmas on the laws' own helpers, printed by a program of this session (gen_help.py). No statement. -/
import Derived.Test.YtfeokehfhaimkaaHBase
import Derived.Test.YtfeokehfhaimkaaG7
import Derived.Test.YtfeokehfhaimkaaG8
namespace Go.Proofs.Ytfeokehfhaimkaa.Q
open Go.RowKit Go.Proofs.YtfeokehfhaimkaaW.PrintWords Go.Proofs.Ytfeokehfhaimkaa.G
set_option linter.unusedVariables false
set_option linter.unusedSimpArgs false
theorem rdiItem(l:List aJ)(i:Nat):U l (i:Int)=l.getD i z66:=by simp[U]
theorem eqItem_refl(x0:Int)(x1:Int)(x2:Int)(x3:Int)(x4:Int):Dm.f x0 x1 x2 x3 x4 x0 x1 x2 x3 x4=some true:=by
 simp[Dm.f,nY.f]
theorem eqItemS_refl(l:List aJ)(h:l.length≤4611686018427387904):Ev (fun k=>gW.f k l l) true:=by
 have loop:∀d i,l.length-i=d→i≤l.length→Ev (fun k=>gW.l0 k l l (i:Int)) true:=by
  intro d
  induction d with
  |zero=>
   intro i hd hi
   have:i=l.length:=by omega
   subst this;exact Ev.step (fun k=>by rw[gW.l0]) (Ev.neg (by omega) (Ev.now _))
  |succ d ih=>
   intro i hd hi;refine Ev.step (fun k=>by rw[gW.l0]) ?_;rw[bv (x:=(i:Int)+1) (by omega) (by omega)];refine Ev.pos (by omega) (Ev.pos (by omega) (Ev.pos (by omega) (Ev.dq _ (eqItem_refl _ _ _ _ _) (Ev.pos rfl ?_))));exact ih (i+1) (by omega) (by omega)
 unfold gW.f;exact Ev.pos rfl (loop l.length 0 rfl (by omega))
def La(a:Int):aJ:=(⟨a,a+1,(⟨a+1+1,a+1+1+1⟩:Y),a+1+1+1+1⟩:aJ)
theorem markItemS_ev(l:List aJ)(a:Int)(h0:0≤a)(h1:a+5*(l.length:Int)≤1152921504606846976):∃ (q:Int) (m:List aJ),Ev (fun k=>iS.f k l a) (q,m)∧Ev (fun k=>jk.f k m a) q∧a≤q∧q=a+5*(l.length:Int)∧m.length=l.length:=by
 have hM:((List.range l.length).map (fun i:Nat=>La (a+5*(i:Int)))).length=l.length:=QS _ _
 generalize hm:(List.range l.length).map (fun i:Nat=>La (a+5*(i:Int)))=m at hM
 have hg:∀i,i<l.length→m.getD i z66=La (a+5*(i:Int)):=fun i hi=>by rw[←hm];exact QT _ _ _ _ hi
 refine⟨a+5*(l.length:Int),m, ?_, ?_,by omega,rfl,hM⟩
 ·have loop:∀d i,l.length-i=d→i≤l.length→Ev (fun k=>iS.l0 k (m.take i++l.drop i) (a+5*(i:Int)) (i:Int)) (a+5*(l.length:Int),m):=by
   intro d
   induction d with
   |zero=>
    intro i hd hi
    have:i=l.length:=by omega
    subst this;refine Ev.step (fun k=>by rw[iS.l0]) ?_;refine Ev.neg (by simp[hM]) (Ev.now' ?_);rw[List.drop_length,List.append_nil,List.take_of_length_le (by omega)]
   |succ d ih=>
    intro i hd hi
    have hL:(m.take i++l.drop i).length=l.length:=by rw[List.length_append,List.length_take,List.length_drop];omega
    have next:=ih (i+1) (by omega) (by omega);rw[xx m i z66 (by omega),hg i (by omega),List.append_assoc,List.singleton_append]at next;refine Ev.step (fun k=>by rw[iS.l0]) ?_
    have hb0:0≤a+5*(i:Int):=by omega
    have hb1:a+5*(i:Int)+5≤1152921504606846976:=by omega
    have hn:a+5*((i+1:Nat):Int)=a+5*(i:Int)+1+1+1+1+1:=by omega
    rw[hn]at next
    generalize a+5*(i:Int)=b at hb0 hb1 next⊢
    unfold La at next;rw[bv (x:=b+1) (by omega) (by omega),bv (x:=b+1+1) (by omega) (by omega),bv (x:=b+1+1+1) (by omega) (by omega),bv (x:=b+1+1+1+1) (by omega) (by omega),bv (x:=b+1+1+1+1+1) (by omega) (by omega),bv (x:=(i:Int)+1) (by omega) (by omega),Int.toNat_natCast];refine Ev.pos (by rw[hL];omega) ?_;refine Ev.pos (by omega) ?_;refine Ev.dq _ rfl ?_;refine Ev.dq _ rfl ?_;refine Ev.dq _ rfl ?_;refine Ev.dq _ rfl ?_;simp only[rdiItem,SZ m l i _ hM (by omega),SG m l i _ _ hM (by omega),Sa m l i _ _ hM (by omega),SH m l i _ hM (by omega)];exact next
  have:=loop l.length 0 rfl (by omega);unfold iS.f
  simpa using this
 ·have loop:∀d i,l.length-i=d→i≤l.length→Ev (fun k=>jk.l0 k m (a+5*(i:Int)) (i:Int)) (a+5*(l.length:Int)):=by
   intro d
   induction d with
   |zero=>
    intro i hd hi
    have:i=l.length:=by omega
    subst this;refine Ev.step (fun k=>by rw[jk.l0]) ?_;exact Ev.neg (by rw[hM];omega) (Ev.now _)
   |succ d ih=>
    intro i hd hi;have next:=ih (i+1) (by omega) (by omega);refine Ev.step (fun k=>by rw[jk.l0]) ?_
    have hr:U m (i:Int)=La (a+5*(i:Int)):=by rw[rdiItem,hg i (by omega)]
    have hb0:0≤a+5*(i:Int):=by omega
    have hb1:a+5*(i:Int)+5≤1152921504606846976:=by omega
    have hn:a+5*((i+1:Nat):Int)=a+5*(i:Int)+1+1+1+1+1:=by omega
    rw[hn]at next;rw[hr,hM]
    generalize a+5*(i:Int)=b at hb0 hb1 next⊢
    rw[bv (x:=b+1) (by omega) (by omega),bv (x:=b+1+1) (by omega) (by omega),bv (x:=b+1+1+1) (by omega) (by omega),bv (x:=b+1+1+1+1) (by omega) (by omega),bv (x:=b+1+1+1+1+1) (by omega) (by omega),bv (x:=(i:Int)+1) (by omega) (by omega)];refine Ev.pos (by omega) (Ev.pos (by omega) ?_);refine Ev.pos rfl ?_;refine Ev.pos rfl ?_;refine Ev.pos rfl ?_;refine Ev.pos rfl ?_;refine Ev.pos rfl ?_;exact next
  have:=loop l.length 0 rfl (by omega);unfold jk.f
  simpa using this
end Go.Proofs.Ytfeokehfhaimkaa.Q
