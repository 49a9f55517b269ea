/- A row of writes, read. No statement. -/
import Derived.Test.YtmbjmacpigojjaaHBase
import Derived.Test.YtmbjmacpigojjaaG0
namespace Go.Proofs.Ytmbjmacpigojjaa.Q
open Go.RowKit Go.Proofs.YtmbjmacpigojjaaW.PrintWords Go.Proofs.Ytmbjmacpigojjaa.G
theorem kG(l:List aQ)(i:Nat):aM l (i:Int)=l.getD i dl:=by simp[aM]
end Go.Proofs.Ytmbjmacpigojjaa.Q
