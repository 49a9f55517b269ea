import Derived.Test.YtfdpdocbpcnkaaaStoreSeen
import Derived.Test.YtfdpdocbpcnkaaaStorePerf
import Derived.Test.YtfdpdocbpcnkaaaG7
namespace Go.Proofs.Ytfdpdocbpcnkaaa.Q
open Go.RowKit Go.Proofs.YtfdpdocbpcnkaaaW.PrintWords Go.Proofs.Ytfdpdocbpcnkaaa.G
set_option linter.unusedVariables false
set_option linter.unusedSimpArgs false
theorem D5(S:List ByteArray)(P:List Wr)(L:List ByteArray)(n:Int)(hS:S.length≤1048576)(hP:P.length≤1048576)(hL:L.length≤1048576)(sL:ja L):Ev (fun k=>gF.f k S P L n) (tc S P L n):=by
 have h1:=LE S P L n hS hP hL sL;unfold gF.f
 by_cases c1:ep S P L n
 ·rw[uc c1]
  obtain⟨a,b,c,d⟩:=IA c1;exact Ev.bind' _ h1 (Ev.pos (k8.2 c1) (Ev.bind' _ (RS S P a.1 a.2 c) (Ev.bind' _ (RY L hL sL) (Ev.bind' _ (Z3 _ _ b.1 b.2 d) (Ev.now _)))))
 ·rw[Al c1]
  exact Ev.bind' _ h1 (Ev.neg (fun e=>c1 (k8.1 e)) (Ev.now _))
end Go.Proofs.Ytfdpdocbpcnkaaa.Q
