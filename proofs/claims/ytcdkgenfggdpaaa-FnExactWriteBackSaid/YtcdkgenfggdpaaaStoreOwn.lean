import Derived.Test.YtcdkgenfggdpaaaTxnBase
import Derived.Test.YtcdkgenfggdpaaaG13
namespace Go.Proofs.Ytcdkgenfggdpaaa.Q
open Go.RowKit Go.Proofs.YtcdkgenfggdpaaaW.PrintWords Go.Proofs.Ytcdkgenfggdpaaa.G
set_option linter.unusedVariables false
set_option linter.unusedSimpArgs false

theorem own_spec (S : List ByteArray) (P : List Wr) (L : List ByteArray) (n : Int) (hS : S.length ≤ 1048576) (hP : P.length ≤ 1048576) (hL : L.length ≤ 1048576) : spec_l11Own.f S P L n = some (S, P, L, n) := by
  unfold spec_l11Own.f spec_l1Own.f
  simp only [Option.bind_some, List.nil_append, List.length_nil, Nat.zero_add]
  rw [if_pos (by omega), if_pos (by omega)]
  simp only [Option.bind_some]
  rw [if_pos (by omega)]
theorem own_impl (S : List ByteArray) (P : List Wr) (L : List ByteArray) (n : Int) (hS : S.length ≤ 1048576) (hP : P.length ≤ 1048576) (hL : L.length ≤ 1048576) : impl_ownStore.f S P L n = some (S, P, L, n) := by
  unfold impl_ownStore.f slices_Clone_string_string.f impl_Write_116.f
  rw [if_pos (by omega), if_pos (by omega), if_pos (by omega)]
  rfl
end Go.Proofs.Ytcdkgenfggdpaaa.Q
