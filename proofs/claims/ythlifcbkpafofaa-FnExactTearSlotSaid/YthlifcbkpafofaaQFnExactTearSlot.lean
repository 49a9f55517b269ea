/- The plain law of FnExactTearSlot: both cut the data at the smaller of keep and its length, within the same ranges. No condition. -/
import Derived.Test.YthlifcbkpafofaaKit
import Derived.Test.YthlifcbkpafofaaG1
namespace Go.Proofs.Ythlifcbkpafofaa.Q
open Go.RowKit Go.Proofs.YthlifcbkpafofaaW.PrintWords Go.Proofs.Ythlifcbkpafofaa.G
set_option linter.unusedVariables false
set_option linter.unusedSimpArgs false

theorem TearSlot_loops (c t : Int) (d : ByteArray) (u a : Int) : ∃ r, Ev (fun k => spec_TearSlot.f k c t d u a) r ∧ Ev (fun k => impl_TearSlot.f c t d u a) r := by
  have e1 : ∀ x lo hi : Int, spec_l1In.f x lo hi = some (decide (lo ≤ x ∧ x ≤ hi)) := by
    intro x lo hi
    unfold spec_l1In.f
    by_cases h : x ≥ lo
    · rw [if_pos h]; congr 1; simp only [decide_eq_decide]; omega
    · rw [if_neg h]; congr 1; symm; simp only [decide_eq_false_iff_not]; omega
  have e2 : ∀ x lo hi : Int, impl_within.f x lo hi = some (decide (lo ≤ x ∧ x ≤ hi)) := by
    intro x lo hi
    unfold impl_within.f
    by_cases h : x ≥ lo
    · rw [if_pos h]; congr 1; simp only [decide_eq_decide]; omega
    · rw [if_neg h]; congr 1; symm; simp only [decide_eq_false_iff_not]; omega
  have e3 : ∃ b, spec_l10Slot.f c t d u = some b ∧ impl_isInRange.f c t d u = some b := by
    unfold spec_l10Slot.f impl_isInRange.f
    simp only [e1, e2, Option.bind_some]
    by_cases h : decide ((0 : Int) ≤ c ∧ c ≤ 1000000) = true
    · rw [if_pos h]
      by_cases h : decide ((0 : Int) ≤ t ∧ t ≤ 10000000) = true
      · rw [if_pos h]; exact ⟨_, rfl, rfl⟩
      · rw [if_neg h]; exact ⟨_, rfl, rfl⟩
    · rw [if_neg h]; exact ⟨_, rfl, rfl⟩
  obtain ⟨b, e3, e4⟩ := e3
  have e5 : ∀ r, Ev (fun k => spec_TearSlot.j0 k a true c t d u) r ↔ r = (0, 0, (⟨#[]⟩ : ByteArray), 0, false) := by
    intro r
    constructor
    · intro h
      obtain ⟨k, hk⟩ := Ev.rounds h
      cases k with
      | zero => simp [spec_TearSlot.j0] at hk
      | succ k => simp [spec_TearSlot.j0] at hk; exact hk.symm
    · rintro rfl
      exact Ev.step (fun k => by rw [spec_TearSlot.j0]) (Ev.pos rfl (Ev.now _))
  unfold spec_TearSlot.f impl_TearSlot.f
  simp only [e1, e2, e3, e4, Option.bind_some]
  by_cases hb : b = true
  · simp only [hb, if_true]
    by_cases ha : (0 : Int) ≤ a ∧ a ≤ 12
    · simp only [ha, and_self, decide_true, Bool.not_true, if_true]
      by_cases hd : (d.size : Int) > a
      · have hm : mn a (d.size : Int) = a := by unfold mn; omega
        rw [hm]
        exact ⟨_, Ev.step (fun k => by rw [spec_TearSlot.j0]) (Ev.neg (by simp) (Ev.pos hd (Ev.pos ha.1 (Ev.pos (by omega) (Ev.now _))))), Ev.pos ha.1 (Ev.pos (by omega) (Ev.now _))⟩
      · have hm : mn a (d.size : Int) = (d.size : Int) := by unfold mn; omega
        rw [hm]
        refine ⟨_, Ev.step (fun k => by rw [spec_TearSlot.j0]) (Ev.neg (by simp) (Ev.neg hd (Ev.now _))), Ev.pos (by omega) (Ev.pos (by omega) (Ev.now' ?_))⟩
        rw [Int.toNat_natCast, ByteArray.extract_zero_size]
    · simp only [ha, decide_false, Bool.not_false]
      exact ⟨_, (e5 _).2 rfl, Ev.neg (by simp) (Ev.now _)⟩
  · simp only [hb]
    exact ⟨_, Ev.neg (by simp) ((e5 _).2 rfl), Ev.neg (by simp) (Ev.now _)⟩
theorem FnExactTearSlot : laws_FnExactTearSlot.Pure := by
  intro c t d u a _ _
  refine Ev.rounds (r := true) ?_
  unfold laws_FnExactTearSlot.f laws_szSlot.f laws_toSlot.f
  by_cases hl : wrap64 (1048576 - (d.size : Int)) < 0
  · simp only [hl, if_true, Option.bind_some]
    exact Ev.pos (by omega) (Ev.now _)
  · simp only [hl, if_false, Option.bind_some]
    obtain ⟨r, h1, h2⟩ := TearSlot_loops c t d u a
    refine Ev.bind' r h1 (Ev.bind' r h2 ?_)
    unfold laws_eqSlot.f
    simp only [if_true, Option.bind_some]
    exact Ev.neg (by simp) (Ev.now _)
end Go.Proofs.Ythlifcbkpafofaa.Q
