/- The plain law of FnExactNameHash: both sum the same bytes the same way. No condition. -/
import Derived.Test.YtmiimbihneallaaKit
import Derived.Test.YtmiimbihneallaaG1
namespace Go.Proofs.Ytmiimbihneallaa.Q
open Go.RowKit Go.Proofs.YtmiimbihneallaaW.PrintWords Go.Proofs.Ytmiimbihneallaa.G
set_option linter.unusedVariables false
set_option linter.unusedSimpArgs false

theorem NameHash_loops (s : ByteArray) (hs : s.size ≤ 1048576) : ∀ d i, s.size - i = d → i ≤ s.size → ∀ h : Int, ∃ r, Ev (fun k => spec_NameHash.l0 k s h (i : Int)) r ∧ Ev (fun k => impl_NameHash.l0 k s h (s.size : Int) (i : Int)) r := by
  intro d
  induction d with
  | zero =>
    intro i hd hi h
    have : i = s.size := by omega
    subst this
    exact ⟨_, Ev.step (fun k => by rw [spec_NameHash.l0]) (Ev.neg (by omega) (Ev.now _)), Ev.step (fun k => by rw [impl_NameHash.l0]) (Ev.neg (by omega) (Ev.now _))⟩
  | succ d ih =>
    intro i hd hi h
    obtain ⟨r, h1, h2⟩ := ih (i + 1) (by omega) (by omega) (Int.tmod (wrap64 ((wrap64 (31 * h)) + (wrap64 (bt s (i : Int))))) 65536)
    refine ⟨r, Ev.step (fun k => by rw [spec_NameHash.l0]) ?_, Ev.step (fun k => by rw [impl_NameHash.l0]) ?_⟩
    · rw [w64 (x := (i : Int) + 1) (by omega) (by omega)]
      exact Ev.pos (by omega) (Ev.pos (by omega) h1)
    · rw [w64 (x := (i : Int) + 1) (by omega) (by omega)]
      exact Ev.pos (by omega) (Ev.pos (by omega) (Ev.pos (by omega) h2))
theorem FnExactNameHash : laws_FnExactNameHash.Pure := by
  intro a0 _
  refine Ev.rounds (r := true) ?_
  unfold laws_FnExactNameHash.f
  by_cases hl : (a0.size : Int) > 1048576
  · exact Ev.pos hl (Ev.now _)
  · refine Ev.neg hl ?_
    obtain ⟨r, h1, h2⟩ := NameHash_loops a0 (by omega) a0.size 0 rfl (by omega) 7
    refine Ev.bind' r ?_ (Ev.bind' r ?_ (Ev.pos rfl (Ev.now _)))
    · unfold spec_NameHash.f; exact h1
    · unfold impl_NameHash.f; exact h2
end Go.Proofs.Ytmiimbihneallaa.Q
