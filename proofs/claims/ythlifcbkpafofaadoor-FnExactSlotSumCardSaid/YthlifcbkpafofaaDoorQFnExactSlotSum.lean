/- The plain law of FnExactSlotSum: the reference and the program give the same answer. No condition. -/
import Derived.Test.YthlifcbkpafofaaDoorRingSum
import Derived.Test.YthlifcbkpafofaaDoorG14
namespace Go.Proofs.YthlifcbkpafofaaDoor.Q
open Go.RowKit Go.Proofs.YthlifcbkpafofaaDoorW.PrintWords Go.Proofs.YthlifcbkpafofaaDoor.G
set_option linter.unusedVariables false
set_option linter.unusedSimpArgs false

theorem szSlot_some (a b : Int) (s : ByteArray) (c n : Int) : ∃ t, laws_szSlot.f a b s c n = some t := by
  unfold laws_szSlot.f
  split
  · exact ⟨_, rfl⟩
  · exact ⟨_, rfl⟩
theorem FnExactSlotSum : laws_FnExactSlotSum.Pure := by
  intro a b s c o
  refine Ev.rounds (r := true) ?_
  unfold laws_FnExactSlotSum.f
  obtain ⟨t, ht⟩ := szSlot_some a b s c 1048576
  obtain ⟨r, hs, hi⟩ := slotSum_both a b s c
  refine Ev.bindc _ ht ?_
  by_cases h : t < 0
  · exact Ev.pos h (Ev.now _)
  · exact Ev.neg h (Ev.bindc (a, b, s, c) rfl (Ev.bind' r hs (Ev.bindc (a, b, s, c) rfl (Ev.bind' r hi (Ev.pos rfl (Ev.now _))))))
end Go.Proofs.YthlifcbkpafofaaDoor.Q
