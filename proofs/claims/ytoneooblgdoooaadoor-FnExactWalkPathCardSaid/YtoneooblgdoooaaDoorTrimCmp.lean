/- strings.Trim at an ASCII cutset and strings.Compare, by the shelf's contracts, at this program. No statement. -/
import Derived.Test.YtoneooblgdoooaaDoorWWords
import Derived.Test.YtoneooblgdoooaaDoorTrimLay
namespace Go.Proofs.YtoneooblgdoooaaDoor.Rt
open Go.Shelf Go.RowKit Go.Lib
theorem trim_calls (s cs : ByteArray) (w : World) (hs : s.size ≤ 9223372036854775807) (hcs : cs.size < 4294967281) (ha : (cs.data.toList.all fun b => decide (b.toNat < 128)) = true) :
    Calls Tryd.prog 36 #[.string s, .string cs] w fun e w' => e = .returned (.string ⟨(Lib.trimS s.data.toList cs.data.toList).toArray⟩) ∧ Below w.heap.size w w' :=
  Any.strings_Trim_laid trimEx (by kernel_rfl) s cs w hs hcs (ascii_of_all ha)
theorem cmp_calls (a b : ByteArray) (w : World) :
    Calls Tryd.prog 42 #[.string a, .string b] w fun e w' => e = .returned (.int .i64 (Lib.compareBytes a.data.toList b.data.toList)) ∧ w' = w :=
  Any.strings_Compare cmpEx a b w
end Go.Proofs.YtoneooblgdoooaaDoor.Rt
