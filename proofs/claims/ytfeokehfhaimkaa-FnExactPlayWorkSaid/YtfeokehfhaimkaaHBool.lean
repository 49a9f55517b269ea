/- Lemmas on the laws' own helpers, printed by a program of this session (gen_help.py). No statement. -/
import Derived.Test.YtfeokehfhaimkaaHBase
import Derived.Test.YtfeokehfhaimkaaG7
import Derived.Test.YtfeokehfhaimkaaG8
namespace Go.Proofs.Ytfeokehfhaimkaa.Q
open Go.RowKit Go.Proofs.YtfeokehfhaimkaaW.PrintWords Go.Proofs.Ytfeokehfhaimkaa.G
set_option linter.unusedVariables false
set_option linter.unusedSimpArgs false
theorem eqBoolS_refl(l:List Bool)(h:l.length≤4611686018427387904):Ev (fun k=>jx.f k l l) true:=by
 have loop:∀d i,l.length-i=d→i≤l.length→Ev (fun k=>jx.l0 k l l (i:Int)) true:=by
  intro d
  induction d with
  |zero=>
   intro i hd hi
   have:i=l.length:=by omega
   subst this;exact Ev.step (fun k=>by rw[jx.l0]) (Ev.neg (by omega) (Ev.now _))
  |succ d ih=>
   intro i hd hi;refine Ev.step (fun k=>by rw[jx.l0]) ?_;rw[bv (x:=(i:Int)+1) (by omega) (by omega)];refine Ev.pos (by omega) (Ev.pos (by omega) (Ev.pos (by omega) (Ev.neg (by simp) ?_)));exact ih (i+1) (by omega) (by omega)
 unfold jx.f;exact Ev.pos rfl (loop l.length 0 rfl (by omega))
def IP(a:Int):Bool:=(Int.tmod (a) 3==0)
theorem markBoolS_ev(l:List Bool)(a:Int)(h0:0≤a)(h1:a+1*(l.length:Int)≤1152921504606846976):∃ (q:Int) (m:List Bool),Ev (fun k=>kL.f k l a) (q,m)∧Ev (fun k=>kM.f k m a) q∧a≤q∧q=a+1*(l.length:Int)∧m.length=l.length:=by
 have hM:((List.range l.length).map (fun i:Nat=>IP (a+1*(i:Int)))).length=l.length:=QS _ _
 generalize hm:(List.range l.length).map (fun i:Nat=>IP (a+1*(i:Int)))=m at hM
 have hg:∀i,i<l.length→m.getD i false=IP (a+1*(i:Int)):=fun i hi=>by rw[←hm];exact QT _ _ _ _ hi
 refine⟨a+1*(l.length:Int),m, ?_, ?_,by omega,rfl,hM⟩
 ·have loop:∀d i,l.length-i=d→i≤l.length→Ev (fun k=>kL.l0 k (m.take i++l.drop i) (a+1*(i:Int)) (i:Int)) (a+1*(l.length:Int),m):=by
   intro d
   induction d with
   |zero=>
    intro i hd hi
    have:i=l.length:=by omega
    subst this;refine Ev.step (fun k=>by rw[kL.l0]) ?_;refine Ev.neg (by simp[hM]) (Ev.now' ?_);rw[List.drop_length,List.append_nil,List.take_of_length_le (by omega)]
   |succ d ih=>
    intro i hd hi
    have hL:(m.take i++l.drop i).length=l.length:=by rw[List.length_append,List.length_take,List.length_drop];omega
    have next:=ih (i+1) (by omega) (by omega);rw[xx m i false (by omega),hg i (by omega),List.append_assoc,List.singleton_append]at next;refine Ev.step (fun k=>by rw[kL.l0]) ?_
    have hb0:0≤a+1*(i:Int):=by omega
    have hb1:a+1*(i:Int)+1≤1152921504606846976:=by omega
    have hn:a+1*((i+1:Nat):Int)=a+1*(i:Int)+1:=by omega
    rw[hn]at next
    generalize a+1*(i:Int)=b at hb0 hb1 next⊢
    unfold IP at next;rw[bv (x:=b+1) (by omega) (by omega),bv (x:=(i:Int)+1) (by omega) (by omega),Int.toNat_natCast];refine Ev.pos (by rw[hL];omega) ?_;refine Ev.pos (by omega) ?_;simp only[SZ m l i _ hM (by omega),SG m l i _ _ hM (by omega),Sa m l i _ _ hM (by omega),SH m l i _ hM (by omega)];exact next
  have:=loop l.length 0 rfl (by omega);unfold kL.f
  simpa using this
 ·have loop:∀d i,l.length-i=d→i≤l.length→Ev (fun k=>kM.l0 k m (a+1*(i:Int)) (i:Int)) (a+1*(l.length:Int)):=by
   intro d
   induction d with
   |zero=>
    intro i hd hi
    have:i=l.length:=by omega
    subst this;refine Ev.step (fun k=>by rw[kM.l0]) ?_;exact Ev.neg (by rw[hM];omega) (Ev.now _)
   |succ d ih=>
    intro i hd hi;have next:=ih (i+1) (by omega) (by omega);refine Ev.step (fun k=>by rw[kM.l0]) ?_
    have hr:eO false m (i:Int)=IP (a+1*(i:Int)):=by rw[rdw_of,hg i (by omega)]
    have hb0:0≤a+1*(i:Int):=by omega
    have hb1:a+1*(i:Int)+1≤1152921504606846976:=by omega
    have hn:a+1*((i+1:Nat):Int)=a+1*(i:Int)+1:=by omega
    rw[hn]at next;rw[hr,hM]
    generalize a+1*(i:Int)=b at hb0 hb1 next⊢
    rw[bv (x:=b+1) (by omega) (by omega),bv (x:=(i:Int)+1) (by omega) (by omega)];refine Ev.pos (by omega) (Ev.pos (by omega) ?_);refine Ev.neg (by simp[IP]) ?_;exact next
  have:=loop l.length 0 rfl (by omega);unfold kM.f
  simpa using this
end Go.Proofs.Ytfeokehfhaimkaa.Q
