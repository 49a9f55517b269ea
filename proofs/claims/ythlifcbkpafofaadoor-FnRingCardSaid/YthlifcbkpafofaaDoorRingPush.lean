/- PushTail of the reference and of the program: the same ring. -/
import Derived.Test.YthlifcbkpafofaaDoorRingGood
import Derived.Test.YthlifcbkpafofaaDoorG5
import Derived.Test.YthlifcbkpafofaaDoorG6
import Derived.Test.YthlifcbkpafofaaDoorG4
namespace Go.Proofs.YthlifcbkpafofaaDoor.Q
open Go.RowKit Go.Proofs.YthlifcbkpafofaaDoorW.PrintWords Go.Proofs.YthlifcbkpafofaaDoor.G
set_option linter.unusedVariables false
theorem own_s (l : List S26) (h c t : Int) (hl : l.length ≤ 1048576) : spec_l10Own.f l h c t = some (l, h, c, t) := by
  unfold spec_l10Own.f
  simp only [Option.bind_some, List.length_nil, Nat.zero_add, List.nil_append]
  rw [if_pos (by omega)]
theorem own_i (l : List S26) (h c t : Int) (hl : l.length ≤ 1048576) : impl_ownRing.f l h c t = some (l, h, c, t) := by
  unfold impl_ownRing.f
  first | unfold impl_Slot_75.f | unfold impl_Slot.f
  rw [if_pos (by omega)]
  rfl
theorem pushTail_both (l : List S26) (h c t m : Int) (hl : l.length ≤ 1048576) : ∃ r, Ev (fun k => spec_PushTail.f k l h c t m) r ∧ Ev (fun k => impl_PushTail.f k l h c t m) r ∧ r.1.length ≤ 2000000 := by
  obtain ⟨b, e1, e2⟩ := goodRing_both l h c t hl
  unfold spec_PushTail.f impl_PushTail.f
  cases b with
  | true =>
    by_cases c1 : 0 ≤ m ∧ m ≤ wrap64 (h - t)
    · exact ⟨_, Ev.bind' _ e1 (Ev.pos rfl (Ev.bindc _ (in_eq _ _ _) (Ev.pos (by simpa using c1) (Ev.bindc _ (own_s l h c t hl) (Ev.now _))))), Ev.bind' _ e2 (Ev.pos rfl (Ev.bindc _ (within_eq' _ _ _) (Ev.pos (by simpa using c1) (Ev.bindc _ (own_i l h c t hl) (Ev.now _))))), by dsimp only; omega⟩
    · exact ⟨_, Ev.bind' _ e1 (Ev.pos rfl (Ev.bindc _ (in_eq _ _ _) (Ev.neg (by simpa using c1) (Ev.now _)))), Ev.bind' _ e2 (Ev.pos rfl (Ev.bindc _ (within_eq' _ _ _) (Ev.neg (by simpa using c1) (Ev.now _)))), by simp⟩
  | false => exact ⟨_, Ev.bind' _ e1 (Ev.neg Bool.false_ne_true (Ev.now _)), Ev.bind' _ e2 (Ev.neg Bool.false_ne_true (Ev.now _)), by simp⟩
end Go.Proofs.YthlifcbkpafofaaDoor.Q
