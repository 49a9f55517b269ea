/- A row of writes, read. No statement. -/
import Derived.Test.YtfdpdocbpcnkaaaHBase
import Derived.Test.YtfdpdocbpcnkaaaG0
namespace Go.Proofs.Ytfdpdocbpcnkaaa.Q
open Go.RowKit Go.Proofs.YtfdpdocbpcnkaaaW.PrintWords Go.Proofs.Ytfdpdocbpcnkaaa.G
theorem jV(l:List S64)(i:Nat):aH l (i:Int)=l.getD i dB:=by simp[aH]
end Go.Proofs.Ytfdpdocbpcnkaaa.Q
