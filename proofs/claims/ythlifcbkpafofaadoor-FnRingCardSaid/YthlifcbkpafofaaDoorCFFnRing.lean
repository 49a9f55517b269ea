/- The card of FnRing: the row, its tables tied to the text. -/
import Derived.Test.YthlifcbkpafofaaDoorCRFnRing
import Derived.Test.YthlifcbkpafofaaDoorCards
import Derived.Test.YthlifcbkpafofaaDoorTie
import Derived.SevenTiedAt
namespace Go.Proofs.YthlifcbkpafofaaDoor
theorem fnRing_card : Rows.FnRingCardSaid :=
  Claim7.holds_tied_plain_at .later [] [.data, .data, .data] true (true, "715fa9b2d76881898adb9ef1448945f5df72018ac579d0a99f78038e143eaeaf") false
    fnRing_holds (fun _ h => by cases h) (by kernel_rfl) (fun _ h => by cases h) fnRing_row_tie rfl ⟨rfl, rfl⟩ (by kernel_rfl) rfl
    (fun f fn hf hfn => by
      obtain rfl : f = 8 := Option.some.inj ((show Tryd.prog.funcNamed "loop.example/g00261/laws.FnRing" = some 8 by kernel_rfl).symm.trans hf) |>.symm
      obtain rfl : fn = Tryd.f8 := (Option.some.inj (Tryd.func8.symm.trans hfn)).symm
      exact ⟨by kernel_rfl, fun j t ht => by
          rw [Tryd.params8] at ht
          rcases j with _ | j
          · have h3 : t = 51 := by simpa using ht.symm
            subst h3
            exact (show Tryd.prog.wantsStandIn 51 = false by kernel_rfl)
          rcases j with _ | j
          · have h3 : t = 51 := by simpa using ht.symm
            subst h3
            exact (show Tryd.prog.wantsStandIn 51 = false by kernel_rfl)
          simp at ht⟩)
    (by kernel_rfl)
#print axioms fnRing_card
end Go.Proofs.YthlifcbkpafofaaDoor
