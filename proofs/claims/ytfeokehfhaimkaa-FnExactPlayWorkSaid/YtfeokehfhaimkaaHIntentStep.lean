/- Lemmas on the laws' own helpers, printed by a program of this session (gen_help.py). No statement. -/
import Derived.Test.YtfeokehfhaimkaaHBase
import Derived.Test.YtfeokehfhaimkaaG2
import Derived.Test.YtfeokehfhaimkaaG4
import Derived.Test.YtfeokehfhaimkaaG8
open List renaming append_assoc→aas,replicate→aat
namespace Go.Proofs.Ytfeokehfhaimkaa.Q
open Go.RowKit Go.Proofs.YtfeokehfhaimkaaW.PrintWords Go.Proofs.Ytfeokehfhaimkaa.G
set_option linter.unusedVariables false
set_option linter.unusedSimpArgs false
theorem rdiIntentStep(l:List bg)(i:Nat):ar l (i:Int)=l.getD i lH:=by simp[ar]
theorem szIntentStepS_ev(l:List kE)(hl:l.length≤maxLen)(a:Int)(h0:0≤a)(h1:a≤4611686018427387904):∃r,Ev (fun k=>Bq.f l a) r∧(¬r<0→0≤r∧r≤a∧(l.length:Int)≤a):=by
 unfold maxLen at hl;unfold Bq.f;rw[bv (x:=a-(l.length:Int)) (by omega) (by omega)]
 exact szd fun h=>⟨_,Ev.now _,fun _=>by omega⟩
def mB(x:kE):bg:=(⟨x.f0,(⟨x.f1.f0,x.f1.f1⟩:Y),x.f2,x.f3⟩:bg)
theorem toIntentStepS_ev(l:List kE)(h:l.length≤1048576):Ev (fun k=>ii.f k l) (l.map mB):=by
 have loop:∀d i,l.length-i=d→i≤l.length→Ev (fun k=>ii.l0 k l (((l.take i).map mB)++List.replicate (l.length-i) lH) (i:Int)) (l.map mB):=by
  intro d
  induction d with
  |zero=>
   intro i hd hi
   have:i=l.length:=by omega
   subst this;refine Ev.step (fun k=>by rw[ii.l0]) ?_;refine Ev.neg (by omega) (Ev.now' (by simp))
  |succ d ih=>
   intro i hd hi;have next:=ih (i+1) (by omega) (by omega)
   have e:(((l.take i).map mB)++aat (l.length-i) lH).set i (mB (l.getD i PU))=((l.take (i+1)).map mB)++aat (l.length-(i+1)) lH:=by
    rw[xx l i PU (by omega),show l.length-i=(l.length-(i+1))+1 by omega,List.replicate_succ,List.map_append,aas,List.set_append_right _ _ (by simp;omega)]
    simp[Nat.min_eq_left hi]
   have next':Ev (fun k=>ii.l0 k l ((((l.take i).map mB)++List.replicate (l.length-i) lH).set i (mB (l.getD i PU))) ((i:Int)+1)) (l.map mB):=by rw[e];exact next
   refine Ev.step (fun k=>by rw[ii.l0]) ?_;rw[bv (x:=(i:Int)+1) (by omega) (by omega)];exact Ev.pos (by omega) (Ev.pos (by omega) (Ev.dq _ rfl (Ev.pos (by simp;omega) next')))
 unfold ii.f;refine Ev.pos (by omega) (Ev.pos (by omega) ?_);have:=loop l.length 0 rfl (by omega)
 simpa using this
theorem eqIntentStep_refl(x0:Int)(x1:Int)(x2:Int)(x3:Int)(x4:Int):Df.f x0 x1 x2 x3 x4 x0 x1 x2 x3 x4=some true:=by
 simp[Df.f,nY.f]
theorem eqIntentStepS_refl(l:List bg)(h:l.length≤4611686018427387904):Ev (fun k=>iA.f k l l) true:=by
 have loop:∀d i,l.length-i=d→i≤l.length→Ev (fun k=>iA.l0 k l l (i:Int)) true:=by
  intro d
  induction d with
  |zero=>
   intro i hd hi
   have:i=l.length:=by omega
   subst this;exact Ev.step (fun k=>by rw[iA.l0]) (Ev.neg (by omega) (Ev.now _))
  |succ d ih=>
   intro i hd hi;refine Ev.step (fun k=>by rw[iA.l0]) ?_;rw[bv (x:=(i:Int)+1) (by omega) (by omega)];refine Ev.pos (by omega) (Ev.pos (by omega) (Ev.pos (by omega) (Ev.dq _ (eqIntentStep_refl _ _ _ _ _) (Ev.pos rfl ?_))));exact ih (i+1) (by omega) (by omega)
 unfold iA.f;exact Ev.pos rfl (loop l.length 0 rfl (by omega))
def QM(a:Int):bg:=(⟨a,(⟨a+1,a+1+1⟩:Y),a+1+1+1,a+1+1+1+1⟩:bg)
theorem markIntentStepS_ev(l:List bg)(a:Int)(h0:0≤a)(h1:a+5*(l.length:Int)≤1152921504606846976):∃ (q:Int) (m:List bg),Ev (fun k=>j6.f k l a) (q,m)∧True∧a≤q∧q=a+5*(l.length:Int)∧m.length=l.length:=by
 have hM:((List.range l.length).map (fun i:Nat=>QM (a+5*(i:Int)))).length=l.length:=QS _ _
 generalize hm:(List.range l.length).map (fun i:Nat=>QM (a+5*(i:Int)))=m at hM
 have hg:∀i,i<l.length→m.getD i lH=QM (a+5*(i:Int)):=fun i hi=>by rw[←hm];exact QT _ _ _ _ hi
 refine⟨a+5*(l.length:Int),m, ?_, ?_,by omega,rfl,hM⟩
 ·have loop:∀d i,l.length-i=d→i≤l.length→Ev (fun k=>j6.l0 k (m.take i++l.drop i) (a+5*(i:Int)) (i:Int)) (a+5*(l.length:Int),m):=by
   intro d
   induction d with
   |zero=>
    intro i hd hi
    have:i=l.length:=by omega
    subst this;refine Ev.step (fun k=>by rw[j6.l0]) ?_;refine Ev.neg (by simp[hM]) (Ev.now' ?_);rw[List.drop_length,List.append_nil,List.take_of_length_le (by omega)]
   |succ d ih=>
    intro i hd hi
    have hL:(m.take i++l.drop i).length=l.length:=by rw[List.length_append,List.length_take,List.length_drop];omega
    have next:=ih (i+1) (by omega) (by omega);rw[xx m i lH (by omega),hg i (by omega),aas,List.singleton_append]at next;refine Ev.step (fun k=>by rw[j6.l0]) ?_
    have hb0:0≤a+5*(i:Int):=by omega
    have hb1:a+5*(i:Int)+5≤1152921504606846976:=by omega
    have hn:a+5*((i+1:Nat):Int)=a+5*(i:Int)+1+1+1+1+1:=by omega
    rw[hn]at next
    generalize a+5*(i:Int)=b at hb0 hb1 next⊢
    unfold QM at next;rw[bv (x:=b+1) (by omega) (by omega),bv (x:=b+1+1) (by omega) (by omega),bv (x:=b+1+1+1) (by omega) (by omega),bv (x:=b+1+1+1+1) (by omega) (by omega),bv (x:=b+1+1+1+1+1) (by omega) (by omega),bv (x:=(i:Int)+1) (by omega) (by omega),Int.toNat_natCast];refine Ev.pos (by rw[hL];omega) ?_;refine Ev.pos (by omega) ?_;refine Ev.dq _ rfl ?_;refine Ev.dq _ rfl ?_;refine Ev.dq _ rfl ?_;refine Ev.dq _ rfl ?_;simp only[rdiIntentStep,SZ m l i _ hM (by omega),SG m l i _ _ hM (by omega),Sa m l i _ _ hM (by omega),SH m l i _ hM (by omega)];exact next
  have:=loop l.length 0 rfl (by omega);unfold j6.f
  simpa using this
 ·trivial
end Go.Proofs.Ytfeokehfhaimkaa.Q
