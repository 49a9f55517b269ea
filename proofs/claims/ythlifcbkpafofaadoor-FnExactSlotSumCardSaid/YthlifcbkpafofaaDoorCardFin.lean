/- The card of FnExactSlotSum. -/
import Derived.Test.YthlifcbkpafofaaDoorCardRow
import Derived.Test.YthlifcbkpafofaaDoorCards
import Derived.Test.YthlifcbkpafofaaDoorTie
import Derived.SevenTiedAt
namespace Go.Proofs.YthlifcbkpafofaaDoor
theorem fnExactSlotSum_card : Rows.FnExactSlotSumCardSaid :=
  Claim7.holds_tied_plain_at .later [] [.data, .data, .data] true (true, "715fa9b2d76881898adb9ef1448945f5df72018ac579d0a99f78038e143eaeaf") false
    fnExactSlotSum_holds (fun _ h => by cases h) (by kernel_rfl) (fun _ h => by cases h) fnExactSlotSum_row_tie rfl ⟨rfl, rfl⟩ (by kernel_rfl) rfl
    (fun f fn hf hfn => by
      obtain rfl : f = 3 := Option.some.inj ((show Tryd.prog.funcNamed "loop.example/g00261/laws.FnExactSlotSum" = some 3 by kernel_rfl).symm.trans hf) |>.symm
      obtain rfl : fn = Tryd.f3 := (Option.some.inj (Tryd.func3.symm.trans hfn)).symm
      exact ⟨by kernel_rfl, fun j t ht => by
        rw [Tryd.params3] at ht
        have h3 : t = 23 := by
          rcases j with _ | j
          · simpa using ht.symm
          · simp at ht
        subst h3
        exact (show Tryd.prog.wantsStandIn 23 = false by kernel_rfl)⟩)
    (by kernel_rfl)
#print axioms fnExactSlotSum_card
end Go.Proofs.YthlifcbkpafofaaDoor
