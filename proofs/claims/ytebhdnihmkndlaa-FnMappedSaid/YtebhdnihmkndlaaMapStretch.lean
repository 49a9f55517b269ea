import Derived.Test.YtebhdnihmkndlaaMapCut
import Derived.Test.YtebhdnihmkndlaaG4
import Derived.Test.YtebhdnihmkndlaaG7
namespace Go.Proofs.Ytebhdnihmkndlaa.Q
open Go.RowKit Go.Proofs.YtebhdnihmkndlaaW.PrintWords Go.Proofs.Ytebhdnihmkndlaa.G
set_option linter.unusedVariables false
set_option linter.unusedSimpArgs false

/-- A stretch of file blocks. -/
def Str (a b : Int) : Prop := (0 ≤ a ∧ a ≤ 200) ∧ 0 ≤ b ∧ b ≤ 200 - a
theorem stretch_eq (a b : Int) : ∃ x : Bool, spec_l9Stretch.f a b = some x ∧ (x = true ↔ Str a b) := by
  unfold spec_l9Stretch.f;rw [l1In_eq, Option.bind_some]
  by_cases h : 0 ≤ a ∧ a ≤ 200
  · rw [if_pos (by simpa using h), l1In_eq, w64 (x := 200 - a) (by omega) (by omega)]
    exact ⟨_, rfl, by unfold Str; simp only [decide_eq_true_eq]; omega⟩
  · rw [if_neg (by simpa using h)]
    exact ⟨_, rfl, by unfold Str; simp only [Bool.false_eq_true, false_iff]; omega⟩
theorem isRange_ev (l : List Pc) (hl : l.length ≤ 1048576) (a b : Int) : ∃ x : Bool, Ev (fun k => impl_isRange.f k l a b) x ∧ (x = true ↔ Good l ∧ Str a b) := by
  unfold impl_isRange.f;have g := impl_GoodMap_ev l hl
  by_cases hg : Good l
  · by_cases h : 0 ≤ a ∧ a ≤ 200
    · refine ⟨_, Ev.bind' _ g (Ev.pos (by simpa using hg) (Ev.bindc _ (within_eq _ _ _) (Ev.pos (by simpa using h) (Ev.bindc _ (within_eq _ _ _) (Ev.now _))))), ?_⟩
      rw [w64 (x := 200 - a) (by omega) (by omega)];unfold Str;simp only [decide_eq_true_eq]
      constructor
      · intro e; exact ⟨hg, by omega, by omega, by omega⟩
      · intro e; omega
    · refine ⟨_, Ev.bind' _ g (Ev.pos (by simpa using hg) (Ev.bindc _ (within_eq _ _ _) (Ev.neg (by simpa using h) (Ev.now _)))), ?_⟩
      unfold Str;simp only [Bool.false_eq_true, false_iff]
      omega
  · exact ⟨_, Ev.bind' _ g (Ev.neg (by simpa using hg) (Ev.now _)), by simp only [Bool.false_eq_true, false_iff]; exact fun e => hg e.1⟩
end Go.Proofs.Ytebhdnihmkndlaa.Q
