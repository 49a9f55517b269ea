/- strings.Repeat, by the shelf's contract, at this program. No statement. -/
import Derived.Test.YtdclpgcmeabmbaaWWords
import Derived.Test.YtdclpgcmeabmbaaStrLay
namespace Go.Proofs.Ytdclpgcmeabmbaa.Rs
open Go.Shelf Go.RowKit
theorem extra : Builder.Extra Try.prog repEx_ren where
  sizeBuilder := by kernel_rfl
  liesBuilder := by kernel_rfl
  t5 := repEx.t5
  a5 := repEx.a5
  z5 := repEx.z5
  v5 := repEx.v5
  infoByte := by kernel_rfl
  cellsByte := by kernel_rfl
  sizeByte := by kernel_rfl
  neB5 := by decide
theorem rep_calls (s : ByteArray) (c : Nat) (w : World) (hc : c ≤ 9223372036854775807) (hlen : s.size * c ≤ 140737488355328) :
    Calls Try.prog 42 #[.string s, .int .i64 c] w fun e w' => e = .returned (.string ⟨(Lib.repeatL s.data.toList c).toArray⟩) ∧ Below w.heap.size w w' :=
  Any.strings_Repeat { repEx with } extra s c w hc hlen
end Go.Proofs.Ytdclpgcmeabmbaa.Rs
