import Derived.Test.YtcdkgenfggdpaaaStoreGood
import Derived.Test.YtcdkgenfggdpaaaStoreDone
namespace Go.Proofs.Ytcdkgenfggdpaaa.Q
open Go.RowKit Go.Proofs.YtcdkgenfggdpaaaW.PrintWords Go.Proofs.Ytcdkgenfggdpaaa.G
set_option linter.unusedVariables false
set_option linter.unusedSimpArgs false

theorem sok_dev {S : List ByteArray} {P : List Wr} {L : List ByteArray} {n : Int} (h : SOk S P L n) : (1 ≤ S.length ∧ S.length ≤ 32) ∧ P.length ≤ 60 ∧ OnDev S.length P :=
  ⟨h.1.1.2.1, h.1.1.2.2, onDev_of h.1.1.2.1 h.1.1.1.2⟩
/-- What is seen of a store. -/
noncomputable def viewOf (S : List ByteArray) (P : List Wr) (L : List ByteArray) : List ByteArray := doneOf (doneOf S P) (wrs L)
theorem viewOf_len (S : List ByteArray) (P : List Wr) (L : List ByteArray) : (viewOf S P L).length = S.length := by
  unfold viewOf
  rw [doneOf_len, doneOf_len]
noncomputable def viewRes (S : List ByteArray) (P : List Wr) (L : List ByteArray) (n : Int) : List ByteArray × Bool := by
  classical
  exact if SOk S P L n then (viewOf S P L, true) else ([], false)
theorem viewRes_yes {S : List ByteArray} {P : List Wr} {L : List ByteArray} {n : Int} (h : SOk S P L n) : viewRes S P L n = (viewOf S P L, true) := by
  classical
  unfold viewRes
  exact if_pos h
theorem viewRes_no {S : List ByteArray} {P : List Wr} {L : List ByteArray} {n : Int} (h : ¬ SOk S P L n) : viewRes S P L n = ([], false) := by
  classical
  unfold viewRes
  exact if_neg h
theorem view_parts {S : List ByteArray} {P : List Wr} {L : List ByteArray} {n : Int} (h : SOk S P L n) : (S.length ≤ 1048576 ∧ P.length ≤ 1000000000) ∧ ((doneOf S P).length ≤ 1048576 ∧ (wrs L).length ≤ 1000000000) ∧ OnDev S.length P ∧ OnDev (doneOf S P).length (wrs L) := by
  obtain ⟨h1, h2, h3⟩ := sok_dev h
  have h4 := h.1.2.1
  have h5 := wrs_len L
  rw [doneOf_len]
  exact ⟨⟨by omega, by omega⟩, ⟨by omega, by omega⟩, h3, wrs_onDev h1 h.2.1⟩
end Go.Proofs.Ytcdkgenfggdpaaa.Q
