/- What the laws' size tests tell of a directory. No statement. -/
import Derived.Test.YtfbjeppfnlfejaaDoorHDir
import Derived.Test.YtfbjeppfnlfejaaDoorDirSpec
namespace Go.Proofs.YtfbjeppfnlfejaaDoor.Q
open Go.RowKit Go.Proofs.YtfbjeppfnlfejaaDoorW.PrintWords Go.Proofs.YtfbjeppfnlfejaaDoor.G
set_option linter.unusedVariables false
set_option linter.unusedSimpArgs false
/-- Sizes of the laws' directory are those of the program's. -/
theorem dir_sizes (x1 : List Int) (x2 : List S60) (h1 : (x1.length : Int) ≤ 1048576) (h2 : (x2.length : Int) ≤ 1048576)
    (h3 : ∀ j, j < x2.length → ((x2.getD j z60).f1.length : Int) ≤ 1048576 ∧ ∀ q, q < (x2.getD j z60).f1.length → (((x2.getD j z60).f1.getD q z87).f0.size : Int) ≤ 1048576) :
    SzOk x1 (x2.map convBucket) ∧ ∀ j, j < (x2.map convBucket).length → ((x2.map convBucket).getD j z46).f1.length ≤ 1048576 := by
  have len : (x2.map convBucket).length = x2.length := List.length_map ..
  have at_ : ∀ j, j < x2.length → (x2.map convBucket).getD j z46 = convBucket (x2.getD j z60) := fun j hj => by
    rw [List.getD_eq_getElem?_getD, List.getElem?_map, List.getD_eq_getElem?_getD, List.getElem?_eq_getElem hj]; rfl
  have nat_ : ∀ (l : List S87) (j : Nat), j < l.length → (l.map convName).getD j z53 = convName (l.getD j z87) := fun l j hj => by
    rw [List.getD_eq_getElem?_getD, List.getElem?_map, List.getD_eq_getElem?_getD, List.getElem?_eq_getElem hj]; rfl
  refine ⟨⟨by omega, by omega, fun b hb => ?_, fun b hb i hi => ?_⟩, fun j hj => ?_⟩
  · have e : buc (x2.map convBucket) (b : Int) = convBucket (x2.getD b z60) := (rdiBucket _ b).trans (at_ b (by omega))
    rw [e]
    have := (h3 b (by omega)).1
    show ((x2.getD b z60).f1.map convName).length ≤ _
    rw [List.length_map]; omega
  · have e : buc (x2.map convBucket) (b : Int) = convBucket (x2.getD b z60) := (rdiBucket _ b).trans (at_ b (by omega))
    rw [e] at hi ⊢
    have hi' : i < (x2.getD b z60).f1.length := by
      have h : i < ((x2.getD b z60).f1.map convName).length := hi
      rwa [List.length_map] at h
    have := (h3 b (by omega)).2 i hi'
    have e2 : nmAt ((x2.getD b z60).f1.map convName) (i : Int) = convName ((x2.getD b z60).f1.getD i z87) := (rdiName _ i).trans (nat_ _ i hi')
    show (nmAt ((x2.getD b z60).f1.map convName) (i : Int)).f0.size ≤ _
    rw [e2]
    show ((x2.getD b z60).f1.getD i z87).f0.size ≤ _
    omega
  · rw [len] at hj
    rw [at_ j hj]
    have := (h3 j hj).1
    show ((x2.getD j z60).f1.map convName).length ≤ _
    rw [List.length_map]; omega
end Go.Proofs.YtfbjeppfnlfejaaDoor.Q
