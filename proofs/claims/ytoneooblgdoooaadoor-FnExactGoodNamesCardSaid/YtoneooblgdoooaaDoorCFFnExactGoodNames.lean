/- The card of FnExactGoodNames: the row, its tables tied to the text. -/
import Derived.Test.YtoneooblgdoooaaDoorCRFnExactGoodNames
import Derived.Test.YtoneooblgdoooaaDoorCards
import Derived.Test.YtoneooblgdoooaaDoorTie
import Derived.SevenTiedAt
namespace Go.Proofs.YtoneooblgdoooaaDoor
theorem fnExactGoodNames_card : Rows.FnExactGoodNamesCardSaid :=
  Claim7.holds_tied_plain_at .later [] [.data, .pinned] true (true, "b83ef5047efac66b71d17c567d8c6ee73b4dccaf7c4c6d00c9b27aa99f456b5d") false
    fnExactGoodNames_holds (fun _ h => by cases h) (by kernel_rfl) (fun _ h => by cases h) fnExactGoodNames_row_tie rfl ⟨rfl, rfl⟩ (by kernel_rfl) rfl
    (fun f fn hf hfn => by
      obtain rfl : f = 3 := Option.some.inj ((show Tryd.prog.funcNamed "loop.example/g00261/laws.FnExactGoodNames" = some 3 by kernel_rfl).symm.trans hf) |>.symm
      obtain rfl : fn = Tryd.f3 := (Option.some.inj (Tryd.func3.symm.trans hfn)).symm
      exact ⟨by kernel_rfl, fun j t ht => by
          rw [Tryd.params3] at ht
          rcases j with _ | j
          · have h3 : t = 24 := by simpa using ht.symm
            subst h3
            exact (show Tryd.prog.wantsStandIn 24 = false by kernel_rfl)
          simp at ht⟩)
    (by kernel_rfl)
#print axioms fnExactGoodNames_card
end Go.Proofs.YtoneooblgdoooaaDoor
