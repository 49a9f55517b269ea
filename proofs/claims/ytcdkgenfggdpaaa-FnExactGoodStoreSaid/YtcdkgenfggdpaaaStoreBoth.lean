import Derived.Test.YtcdkgenfggdpaaaStoreGood
namespace Go.Proofs.Ytcdkgenfggdpaaa.Q
open Go.RowKit Go.Proofs.YtcdkgenfggdpaaaW.PrintWords Go.Proofs.Ytcdkgenfggdpaaa.G
set_option linter.unusedVariables false

theorem goodStore_both (S : List ByteArray) (P : List Wr) (L : List ByteArray) (n : Int) (hS : S.length ≤ 1048576) (hP : P.length ≤ 1048576) (hL : L.length ≤ 1048576) (sS : ∀ i, i < S.length → (S.getD i ByteArray.empty).size ≤ 1048576) (sL : ∀ i, i < L.length → (L.getD i ByteArray.empty).size ≤ 1048576) : ∃ r, Ev (fun k => spec_GoodStore.f k S P L n) r ∧ Ev (fun k => impl_GoodStore.f k S P L n) r :=
  ⟨_, specStore_ev S P L n hS hP hL sL, implStore_ev S P L n hS hP hL sL⟩
end Go.Proofs.Ytcdkgenfggdpaaa.Q
