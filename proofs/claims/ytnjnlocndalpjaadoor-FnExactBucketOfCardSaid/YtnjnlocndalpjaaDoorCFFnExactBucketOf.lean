/- The card of FnExactBucketOf: the row, its tables tied to the text. -/
import Derived.Test.YtnjnlocndalpjaaDoorCRFnExactBucketOf
import Derived.Test.YtnjnlocndalpjaaDoorCards
import Derived.Test.YtnjnlocndalpjaaDoorTie
import Derived.SevenTiedAt
namespace Go.Proofs.YtnjnlocndalpjaaDoor
theorem fnExactBucketOf_card : Rows.FnExactBucketOfCardSaid :=
  Claim7.holds_tied_plain_at .later [] [.data, .pinned] true (true, "39d65241d7c73e1e8e2e405cd781635a72e8fb66b48c975ba48f356bdf9b4e70") false
    fnExactBucketOf_holds (fun _ h => by cases h) (by kernel_rfl) (fun _ h => by cases h) fnExactBucketOf_row_tie rfl ⟨rfl, rfl⟩ (by kernel_rfl) rfl
    (fun f fn hf hfn => by
      obtain rfl : f = 4 := Option.some.inj ((show Tryd.prog.funcNamed "loop.example/g00261/laws.FnExactBucketOf" = some 4 by kernel_rfl).symm.trans hf) |>.symm
      obtain rfl : fn = Tryd.f4 := (Option.some.inj (Tryd.func4.symm.trans hfn)).symm
      exact ⟨by kernel_rfl, fun j t ht => by
          rw [Tryd.params4] at ht
          rcases j with _ | j
          · have h3 : t = 25 := by simpa using ht.symm
            subst h3
            exact (show Tryd.prog.wantsStandIn 25 = false by kernel_rfl)
          rcases j with _ | j
          · have h3 : t = 9 := by simpa using ht.symm
            subst h3
            exact (show Tryd.prog.wantsStandIn 9 = false by kernel_rfl)
          simp at ht⟩)
    (by kernel_rfl)
#print axioms fnExactBucketOf_card
end Go.Proofs.YtnjnlocndalpjaaDoor
