/- What the program answers to a recovery. Printed by gen11.py. No statement. -/
import Derived.Test.YtfdpdocbpcnkaaaStoreViewI
import Derived.Test.YtfdpdocbpcnkaaaG8
namespace Go.Proofs.Ytfdpdocbpcnkaaa.Q
open Go.RowKit Go.Proofs.YtfdpdocbpcnkaaaW.PrintWords Go.Proofs.Ytfdpdocbpcnkaaa.G
set_option linter.unusedVariables false
set_option linter.unusedSimpArgs false
noncomputable def G4(S:List ByteArray)(P:List Wr)(L:List ByteArray)(n:Int):List ByteArray×List Wr×List ByteArray×Int×Bool:=by
 classical
 exact if ep S P L n∧n=(L.length:Int)then(lJ S P L,[],[],0,true)else([],[],[],0,false)
theorem Lz {S:List ByteArray}{P:List Wr}{L:List ByteArray}{n:Int}(h:ep S P L n)(h2:n=(L.length:Int)):G4 S P L n=(lJ S P L,[],[],0,true):=by
 classical
 unfold G4;exact if_pos ⟨h,h2⟩
theorem SP {S:List ByteArray}{P:List Wr}{L:List ByteArray}{n:Int}(h:¬(ep S P L n∧n=(L.length:Int))):G4 S P L n=([],[],[],0,false):=by
 classical
 unfold G4;exact if_neg h
theorem Ws(S:List ByteArray)(P:List Wr)(L:List ByteArray)(n:Int)(hS:S.length≤1048576)(hP:P.length≤1048576)(hL:L.length≤1048576)(sL:ja L):Ev (fun k=>mN.f k S P L n) (G4 S P L n):=by
 have h2:=D5 S P L n hS hP hL sL;unfold mN.f
 by_cases c1:ep S P L n
 ·rw[uc c1]at h2
  by_cases c2:n=(L.length:Int)
  ·rw[Lz c1 c2]
   exact Ev.bind' _ h2 (Ev.pos rfl (Ev.pos c2 (Ev.now _)))
  ·rw[SP (fun h=>c2 h.2)]
   exact Ev.bind' _ h2 (Ev.pos rfl (Ev.neg c2 (Ev.now _)))
 ·rw[Al c1]at h2
  rw[SP (fun h=>c1 h.1)];exact Ev.bind' _ h2 (Ev.neg (by simp) (Ev.now _))
end Go.Proofs.Ytfdpdocbpcnkaaa.Q
