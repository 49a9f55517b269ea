/- The plain law of FnRing. No condition. -/
import Derived.Test.YthlifcbkpafofaaDoorRingLaw
namespace Go.Proofs.YthlifcbkpafofaaDoor.Q
open Go.RowKit Go.Proofs.YthlifcbkpafofaaDoorW.PrintWords Go.Proofs.YthlifcbkpafofaaDoor.G
theorem FnRing : laws_FnRing.Pure := fnRing_pure
end Go.Proofs.YthlifcbkpafofaaDoor.Q
