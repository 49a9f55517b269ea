/- The card of FnExactPushTail: the row, its tables tied to the text. -/
import Derived.Test.YthlifcbkpafofaaDoorCRFnExactPushTail
import Derived.Test.YthlifcbkpafofaaDoorCards
import Derived.Test.YthlifcbkpafofaaDoorTie
import Derived.SevenTiedAt
namespace Go.Proofs.YthlifcbkpafofaaDoor
theorem fnExactPushTail_card : Rows.FnExactPushTailCardSaid :=
  Claim7.holds_tied_plain_at .later [] [.data, .data, .data] true (true, "715fa9b2d76881898adb9ef1448945f5df72018ac579d0a99f78038e143eaeaf") false
    fnExactPushTail_holds (fun _ h => by cases h) (by kernel_rfl) (fun _ h => by cases h) fnExactPushTail_row_tie rfl ⟨rfl, rfl⟩ (by kernel_rfl) rfl
    (fun f fn hf hfn => by
      obtain rfl : f = 9 := Option.some.inj ((show Tryd.prog.funcNamed "loop.example/g00261/laws.FnExactPushTail" = some 9 by kernel_rfl).symm.trans hf) |>.symm
      obtain rfl : fn = Tryd.f9 := (Option.some.inj (Tryd.func9.symm.trans hfn)).symm
      exact ⟨by kernel_rfl, fun j t ht => by
          rw [Tryd.params9] at ht
          rcases j with _ | j
          · have h3 : t = 31 := by simpa using ht.symm
            subst h3
            exact (show Tryd.prog.wantsStandIn 31 = false by kernel_rfl)
          rcases j with _ | j
          · have h3 : t = 3 := by simpa using ht.symm
            subst h3
            exact (show Tryd.prog.wantsStandIn 3 = false by kernel_rfl)
          simp at ht⟩)
    (by kernel_rfl)
#print axioms fnExactPushTail_card
end Go.Proofs.YthlifcbkpafofaaDoor
