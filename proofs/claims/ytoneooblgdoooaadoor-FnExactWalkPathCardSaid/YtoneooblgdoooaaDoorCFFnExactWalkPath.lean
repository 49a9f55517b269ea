/- The card of FnExactWalkPath: the row, its tables tied to the text. -/
import Derived.Test.YtoneooblgdoooaaDoorCRFnExactWalkPath
import Derived.Test.YtoneooblgdoooaaDoorCards
import Derived.Test.YtoneooblgdoooaaDoorTie
import Derived.SevenTiedAt
namespace Go.Proofs.YtoneooblgdoooaaDoor
theorem fnExactWalkPath_card : Rows.FnExactWalkPathCardSaid :=
  Claim7.holds_tied_plain_at .later [] [.data, .pinned] true (true, "b83ef5047efac66b71d17c567d8c6ee73b4dccaf7c4c6d00c9b27aa99f456b5d") false
    fnExactWalkPath_holds (fun _ h => by cases h) (by kernel_rfl) (fun _ h => by cases h) fnExactWalkPath_row_tie rfl ⟨rfl, rfl⟩ (by kernel_rfl) rfl
    (fun f fn hf hfn => by
      obtain rfl : f = 4 := Option.some.inj ((show Tryd.prog.funcNamed "loop.example/g00261/laws.FnExactWalkPath" = some 4 by kernel_rfl).symm.trans hf) |>.symm
      obtain rfl : fn = Tryd.f4 := (Option.some.inj (Tryd.func4.symm.trans hfn)).symm
      exact ⟨by kernel_rfl, fun j t ht => by
          rw [Tryd.params4] at ht
          rcases j with _ | j
          · have h3 : t = 24 := by simpa using ht.symm
            subst h3
            exact (show Tryd.prog.wantsStandIn 24 = false by kernel_rfl)
          rcases j with _ | j
          · have h3 : t = 9 := by simpa using ht.symm
            subst h3
            exact (show Tryd.prog.wantsStandIn 9 = false by kernel_rfl)
          simp at ht⟩)
    (by kernel_rfl)
#print axioms fnExactWalkPath_card
end Go.Proofs.YtoneooblgdoooaaDoor
