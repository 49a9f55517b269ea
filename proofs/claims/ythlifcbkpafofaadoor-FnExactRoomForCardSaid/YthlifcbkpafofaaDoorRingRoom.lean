/- RoomFor of the reference and of the program: the same answer. -/
import Derived.Test.YthlifcbkpafofaaDoorRingGood
import Derived.Test.YthlifcbkpafofaaDoorG18
import Derived.Test.YthlifcbkpafofaaDoorG10
namespace Go.Proofs.YthlifcbkpafofaaDoor.Q
open Go.RowKit Go.Proofs.YthlifcbkpafofaaDoorW.PrintWords Go.Proofs.YthlifcbkpafofaaDoor.G
theorem roomFor_both (l : List S26) (h c t : Int) (hl : l.length ≤ 1048576) : ∃ r, Ev (fun k => spec_RoomFor.f k l h c t) r ∧ Ev (fun k => impl_RoomFor.f k l h c t) r := by
  obtain ⟨b, e1, e2⟩ := goodRing_both l h c t hl
  unfold spec_RoomFor.f impl_RoomFor.f
  cases b with
  | true => exact ⟨_, Ev.bind' _ e1 (Ev.pos rfl (Ev.now _)), Ev.bind' _ e2 (Ev.pos rfl (Ev.now _))⟩
  | false => exact ⟨_, Ev.bind' _ e1 (Ev.neg Bool.false_ne_true (Ev.now _)), Ev.bind' _ e2 (Ev.neg Bool.false_ne_true (Ev.now _))⟩
end Go.Proofs.YthlifcbkpafofaaDoor.Q
