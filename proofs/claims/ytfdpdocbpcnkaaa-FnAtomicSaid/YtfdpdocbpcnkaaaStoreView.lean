import Derived.Test.YtfdpdocbpcnkaaaStoreViewI
import Derived.Test.YtfdpdocbpcnkaaaG8
namespace Go.Proofs.Ytfdpdocbpcnkaaa.Q
open Go.RowKit Go.Proofs.YtfdpdocbpcnkaaaW.PrintWords Go.Proofs.Ytfdpdocbpcnkaaa.G
set_option linter.unusedVariables false
set_option linter.unusedSimpArgs false
theorem RX(S:List ByteArray)(P:List Wr)(L:List ByteArray)(n:Int)(hS:S.length≤1048576)(hP:P.length≤1048576)(hL:L.length≤1048576)(sL:ja L):Ev (fun k=>n5.f k S P L n) (tc S P L n):=by
 have h1:=Ai S P L n hS hP hL sL;unfold n5.f
 by_cases c1:ep S P L n
 ·rw[uc c1]
  obtain⟨a,b,c,d⟩:=IA c1;exact Ev.bind' _ h1 (Ev.pos (k8.2 c1) (Ev.bind' _ ((D3 L hL sL _).1 c1.2.1) (Ev.bind' _ (Dc S P a.1 a.2 c) (Ev.bind' _ (Dc _ _ b.1 b.2 d) (Ev.now _)))))
 ·rw[Al c1]
  exact Ev.bind' _ h1 (Ev.neg (fun e=>c1 (k8.1 e)) (Ev.now _))
theorem viewOf_both(S:List ByteArray)(P:List Wr)(L:List ByteArray)(n:Int)(hS:S.length≤1048576)(hP:P.length≤1048576)(hL:L.length≤1048576)(sS:∀i,i<S.length→(S.getD i ByteArray.empty).size≤1048576)(sL:∀i,i<L.length→(L.getD i ByteArray.empty).size≤1048576):∃r,Ev (fun k=>n5.f k S P L n) r∧Ev (fun k=>gF.f k S P L n) r∧r.1.length≤2000000:=by
 refine⟨_,RX S P L n hS hP hL sL,D5 S P L n hS hP hL sL, ?_⟩
 by_cases c1:ep S P L n
 ·rw[uc c1]
  show(lJ S P L).length≤2000000
  rw[D9]
  omega
 ·rw[Al c1]
  simp
end Go.Proofs.Ytfdpdocbpcnkaaa.Q
