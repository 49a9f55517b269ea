/- A law on stores more for the printed walks. No program, no statement. -/
import Derived.Test.YtoneooblgdoooaaDoorWWords
namespace Go.Proofs.YtoneooblgdoooaaDoorW.PrintWords
open Go.RowKit
set_option linter.unusedVariables false
set_option linter.unusedSimpArgs false
/-- A place that is written twice, read: what was written last. -/
@[go_sem] theorem cell_set_twice (w : World) (p : Addr) (a b : Value) : ((w.setCell p a).setCell p b).cell? p = (w.setCell p b).cell? p := by
  simp only [World.setCell, World.cell?, Array.getElem?_modify]
  by_cases h : ∃ o, w.heap[p.block]? = some o
  · obtain ⟨o, h⟩ := h
    simp only [h, if_true, Option.map_some]
    by_cases hs : p.spot.isSome = true
    all_goals (cases o <;> simp [hs, Array.getElem?_setIfInBounds])
    try (split <;> simp_all)
  · have h' : w.heap[p.block]? = none := by
      cases e : w.heap[p.block]? with
      | none => rfl
      | some o => exact absurd ⟨o, e⟩ h
    simp [h']
/-- A place that was just written, read: what is written elsewhere below doesn't matter. -/
theorem cell_set_over (w : World) (g o g2 o2 : Nat) (a b : Value) : ((w.setCell ⟨g2, o2, none⟩ a).setCell ⟨g, o, none⟩ b).cell? ⟨g, o, none⟩ = (w.setCell ⟨g, o, none⟩ b).cell? ⟨g, o, none⟩ := by
  by_cases hg : g2 = g
  · subst hg
    simp only [World.setCell, World.cell?, Array.getElem?_modify]
    cases h : w.heap[g2]? with
    | none => simp [h]
    | some x => cases x <;> simp [h, Array.getElem?_setIfInBounds]
  · simp only [World.setCell, World.cell?, Array.getElem?_modify]
    simp [hg, Ne.symm hg]
attribute [go_sem high] cell_set_over
end Go.Proofs.YtoneooblgdoooaaDoorW.PrintWords
