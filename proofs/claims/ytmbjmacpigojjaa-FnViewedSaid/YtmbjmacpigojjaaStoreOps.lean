/- The reference's answers alone. No statement. -/
import Derived.Test.YtmbjmacpigojjaaStoreSync
import Derived.Test.YtmbjmacpigojjaaStoreBack
import Derived.Test.YtmbjmacpigojjaaStoreCheck
import Derived.Test.YtmbjmacpigojjaaStoreCommit
import Derived.Test.YtmbjmacpigojjaaG3
namespace Go.Proofs.Ytmbjmacpigojjaa.Q
open Go.RowKit Go.Proofs.YtmbjmacpigojjaaW.PrintWords Go.Proofs.Ytmbjmacpigojjaa.G
set_option linter.unusedVariables false
set_option linter.unusedSimpArgs false
theorem sync_s(S:List ByteArray)(P:List Wr)(L:List ByteArray)(n:Int)(hS:S.length≤1048576)(hP:P.length≤1048576)(hL:L.length≤1048576)(sL:jY L):Ev (fun k=>oC.f k S P L n) (rY S P L n):=(Mv S P L n hS hP hL sL).1
theorem back_s(S:List ByteArray)(P:List Wr)(L:List ByteArray)(n:Int)(hS:S.length≤1048576)(hP:P.length≤1048576)(hL:L.length≤1048576)(sL:jY L):Ev (fun k=>o9.f k S P L n) (rZ S P L n):=(Mw S P L n hS hP hL sL).1
theorem chk_s(S:List ByteArray)(P:List Wr)(L:List ByteArray)(n:Int)(hS:S.length≤1048576)(hP:P.length≤1048576)(hL:L.length≤1048576)(sL:jY L):Ev (fun k=>fv.f k S P L n) (rk S P L n):=(O7 S P L n hS hP hL sL).1
theorem commit_s(S:List ByteArray)(P:List Wr)(L:List ByteArray)(n:Int)(l:List Wr)(hS:S.length≤1048576)(hP:P.length≤1048576)(hL:L.length≤1048576)(hl:l.length≤1048576)(sL:jY L):Ev (fun k=>fR.f k S P L n l) (kb S P L n l):=(Ly S P L n l hS hP hL hl sL).1
theorem nin_eq(x lo hi:Int):kX.f x lo hi=some (decide (lo≤x∧x≤hi)):=by
 unfold kX.f
 by_cases h:x≥lo
 ·rw[if_pos h];simp[show lo≤x from h]
 ·rw[if_neg h];simp[show¬lo≤x from h]
def CO:ByteArray:=⟨#[0,0,0,0,0,0,0,0]⟩
theorem zeros_s:Bx.f 8=some CO:=by
 unfold Bx.f;rw[if_pos (by decide),if_pos (by decide)]
 rfl
theorem newDev_loop(n:Int)(hn:n≤32):∀ (m:Nat) (x:Int) (acc:List ByteArray),(n-x).toNat=m→0≤x→acc.length≤x.toNat→x≤n→
 Ev (fun k=>ib.l0 k n x acc) (acc++List.replicate m CO,[],true):=by
 intro m
 induction m with
 |zero=>
  intro x acc hm hx ha hxn;rw[List.replicate_zero,List.append_nil];exact Ev.step (fun k=>by rw[ib.l0]) (Ev.neg (by omega) (Ev.now _))
 |succ m ih=>
  intro x acc hm hx ha hxn;have hw:wrap64 (x+1)=x+1:=eD (by omega) (by omega);have h:=ih (x+1) (acc++[CO]) (by omega) (by omega) (by rw[List.length_append,List.length_singleton];omega) (by omega);rw[List.append_assoc,List.singleton_append,←List.replicate_succ]at h;refine Ev.step (fun k=>by rw[ib.l0]) (Ev.pos (by omega) (Ev.eB _ zeros_s (Ev.pos (show acc.length<8796093022208 by omega) ?_)));rw[hw];exact h
theorem newStore_s(n:Int)(c1:1≤n∧n≤32):Ev (fun k=>qH.f k n) (List.replicate n.toNat CO,[],[],0,true):=by
 unfold qH.f ib.f;have hl:=newDev_loop n c1.2 n.toNat 0 [] (by omega) (Int.le_refl _) (by simp) (by omega);rw[List.nil_append]at hl;exact Ev.bind' (List.replicate n.toNat CO,[],true) (Ev.eB _ (nin_eq _ _ _) (Ev.pos (by simpa using c1) hl)) (Ev.pos rfl (Ev.now _))
end Go.Proofs.Ytmbjmacpigojjaa.Q
