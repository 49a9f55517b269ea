/- The card of FnExactLookName: the row, its tables tied to the text. -/
import Derived.Test.YtnjnlocndalpjaaDoorCRFnExactLookName
import Derived.Test.YtnjnlocndalpjaaDoorCards
import Derived.Test.YtnjnlocndalpjaaDoorTie
import Derived.SevenTiedAt
namespace Go.Proofs.YtnjnlocndalpjaaDoor
theorem fnExactLookName_card : Rows.FnExactLookNameCardSaid :=
  Claim7.holds_tied_plain_at .later [] [.data, .pinned] true (true, "39d65241d7c73e1e8e2e405cd781635a72e8fb66b48c975ba48f356bdf9b4e70") false
    fnExactLookName_holds (fun _ h => by cases h) (by kernel_rfl) (fun _ h => by cases h) fnExactLookName_row_tie rfl ⟨rfl, rfl⟩ (by kernel_rfl) rfl
    (fun f fn hf hfn => by
      obtain rfl : f = 5 := Option.some.inj ((show Tryd.prog.funcNamed "loop.example/g00261/laws.FnExactLookName" = some 5 by kernel_rfl).symm.trans hf) |>.symm
      obtain rfl : fn = Tryd.f5 := (Option.some.inj (Tryd.func5.symm.trans hfn)).symm
      exact ⟨by kernel_rfl, fun j t ht => by
          rw [Tryd.params5] at ht
          rcases j with _ | j
          · have h3 : t = 25 := by simpa using ht.symm
            subst h3
            exact (show Tryd.prog.wantsStandIn 25 = false by kernel_rfl)
          rcases j with _ | j
          · have h3 : t = 9 := by simpa using ht.symm
            subst h3
            exact (show Tryd.prog.wantsStandIn 9 = false by kernel_rfl)
          simp at ht⟩)
    (by kernel_rfl)
#print axioms fnExactLookName_card
end Go.Proofs.YtnjnlocndalpjaaDoor
