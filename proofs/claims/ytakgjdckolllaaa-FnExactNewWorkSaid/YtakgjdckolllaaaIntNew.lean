/- NewWork of the reference and of the program: the same state. -/
import Derived.Test.YtakgjdckolllaaaKit
import Derived.Test.YtakgjdckolllaaaG1
namespace Go.Proofs.Ytakgjdckolllaaa.Q
open Go.RowKit Go.Proofs.YtakgjdckolllaaaW.PrintWords Go.Proofs.Ytakgjdckolllaaa.G
set_option linter.unusedVariables false
theorem nin_eq (x lo hi : Int) : spec_l1In.f x lo hi = some (decide (lo ≤ x ∧ x ≤ hi)) := by
  unfold spec_l1In.f
  by_cases h : x ≥ lo
  · rw [if_pos h]; simp [show lo ≤ x from h]
  · rw [if_neg h]; simp [show ¬ lo ≤ x from h]
theorem nwithin_eq (x lo hi : Int) : impl_within.f x lo hi = some (decide (lo ≤ x ∧ x ≤ hi)) := by
  unfold impl_within.f
  by_cases h : x ≥ lo
  · rw [if_pos h]; simp [show lo ≤ x from h]
  · rw [if_neg h]; simp [show ¬ lo ≤ x from h]
theorem free_nil_s (n : Int) : Ev (fun k => spec_l5Of.f k n ([] : List S53)) (n, [], []) := by
  unfold spec_l5Of.f spec_l5BySize.f
  simp only [Option.bind_some]
  refine Ev.pos (by simp) (Ev.bind' ([] : List S53) (Ev.step (fun k => by rw [spec_l5BySize.l0]) (Ev.neg (by simp) (Ev.now _))) (Ev.now _))
theorem free_nil_i (n : Int) : impl_freeOf.f n ([] : List S53) = some (n, [], []) := by
  have e1 : slices_SortFunc_impl_Extent_at_impl_compareSizes.f ([] : List S53) = some [] := by
    unfold slices_SortFunc_impl_Extent_at_impl_compareSizes.f
    rw [if_pos (by simp)]
    simp
  unfold impl_freeOf.f
  first | unfold impl_Extent_51.f | unfold impl_Extent.f | unfold slices_Clone_impl_Extent_impl_Extent.f
  rw [if_pos (by simp), Option.bind_some, e1]
  rfl
theorem newWork_both (n : Int) : ∃ r, Ev (fun k => spec_NewWork.f k n) r ∧ Ev (fun _ => impl_NewWork.f n) r ∧ r.2.1.length ≤ 2000000 ∧ r.2.2.1.length ≤ 2000000 ∧ r.2.2.2.2.1.length ≤ 2000000 := by
  unfold spec_NewWork.f impl_NewWork.f
  by_cases c1 : 1 ≤ n ∧ n ≤ 400
  · exact ⟨(n, [], [], 1, [], true), Ev.bindc _ (nin_eq _ _ _) (Ev.pos (by simpa using c1) (Ev.bind' _ (free_nil_s n) (Ev.now _))), Ev.bindc _ (nwithin_eq _ _ _) (Ev.pos (by simpa using c1) (Ev.bindc _ (free_nil_i n) (Ev.now _))), by simp, by simp, by simp⟩
  · exact ⟨(0, [], [], 0, [], false), Ev.bindc _ (nin_eq _ _ _) (Ev.neg (by simpa using c1) (Ev.now _)), Ev.bindc _ (nwithin_eq _ _ _) (Ev.neg (by simpa using c1) (Ev.now _)), by simp, by simp, by simp⟩
end Go.Proofs.Ytakgjdckolllaaa.Q
