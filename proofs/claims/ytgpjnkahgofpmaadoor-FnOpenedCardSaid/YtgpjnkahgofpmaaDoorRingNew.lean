/- NewRing of the reference and of the program: the same ring. -/
import Derived.Test.YtgpjnkahgofpmaaDoorRingGood
import Derived.Test.YtgpjnkahgofpmaaDoorG3
import Derived.Test.YtgpjnkahgofpmaaDoorG5
namespace Go.Proofs.YtgpjnkahgofpmaaDoor.Q
open Go.RowKit Go.Proofs.YtgpjnkahgofpmaaDoorW.PrintWords Go.Proofs.YtgpjnkahgofpmaaDoor.G
set_option linter.unusedVariables false
theorem YV(z:Int)(hz:Ev (fun k=>ib.f k) (0,0,(⟨#[]⟩:ByteArray),z))(n a b c:Int)(hn:n≤24):∀ (m:Nat) (x:Int) (acc:List aK),(n-x).toNat=m→0≤x→acc.length≤x.toNat→x≤n→
 Ev (fun k=>f4.l0 k n x acc a b c) (acc++List.replicate m (⟨0,0,⟨#[]⟩,z⟩:aK),a,b,c,true):=by
 intro m
 induction m with
 |zero=>
  intro x acc hm hx ha hxn;rw[List.replicate_zero,List.append_nil];exact Ev.step (fun k=>by rw[f4.l0]) (Ev.neg (by omega) (Ev.now _))
 |succ m ih=>
  intro x acc hm hx ha hxn;have hw:wrap64 (x+1)=x+1:=dc (by omega) (by omega);have h:=ih (x+1) (acc++[(⟨0,0,⟨#[]⟩,z⟩:aK)]) (by omega) (by omega) (by rw[List.length_append,List.length_singleton];omega) (by omega);rw[List.append_assoc,List.singleton_append,←List.replicate_succ]at h;refine Ev.step (fun k=>by rw[f4.l0]) (Ev.pos (by omega) (Ev.bind' _ hz (Ev.pos (show acc.length<3518437208883 by omega) ?_)));rw[hw];exact h
theorem Nl(n:Int):∃r,Ev (fun k=>f4.f k n) r∧Ev (fun k=>kW.f k n) r∧r.1.length≤2000000∧(2≤n∧n≤24→(r.1.length:Int)=n∧r.2=(0,1,0,true))∧(¬(2≤n∧n≤24)→r=([],0,0,0,false)):=by
 unfold f4.f kW.f
 by_cases c1:2≤n∧n≤24
 ·obtain⟨z,h1,h2⟩:=J8
  have hl:=YV z h1 n 0 1 0 c1.2 n.toNat 0 [] (by omega) (Int.le_refl _) (by simp) (by omega);rw[List.nil_append]at hl;refine⟨_,Ev.bh _ (ii _ _ _) (Ev.pos (by simpa using c1) hl),Ev.bh _ (gu _ _ _) (Ev.pos (by simpa using c1) (Ev.bind' _ h2 (Ev.bh (List.replicate n.toNat (⟨0,0,⟨#[]⟩,z⟩:aK)) ?_ (Ev.now _)))), ?_,fun _=>⟨?_,rfl⟩,fun h=>absurd c1 h⟩
  ·first|unfold rp.f|unfold impl_Slot.f
   rw[if_pos (by refine⟨rfl,by omega,by omega,by omega⟩)]
   rfl
  ·rw[List.length_replicate];omega
  ·rw[List.length_replicate];omega
 ·exact⟨([],0,0,0,false),Ev.bh _ (ii _ _ _) (Ev.neg (by simpa using c1) (Ev.now _)),Ev.bh _ (gu _ _ _) (Ev.neg (by simpa using c1) (Ev.now _)),by simp,fun h=>absurd h c1,fun _=>rfl⟩
theorem newRing_both(n:Int):∃r,Ev (fun k=>f4.f k n) r∧Ev (fun k=>kW.f k n) r∧r.1.length≤2000000:=by
 obtain⟨r,a,b,c,_⟩:=Nl n;exact⟨r,a,b,c⟩
end Go.Proofs.YtgpjnkahgofpmaaDoor.Q
