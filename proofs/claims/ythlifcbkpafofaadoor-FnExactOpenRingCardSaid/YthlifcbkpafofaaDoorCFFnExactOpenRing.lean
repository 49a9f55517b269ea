/- The card of FnExactOpenRing: the row, its tables tied to the text. -/
import Derived.Test.YthlifcbkpafofaaDoorCRFnExactOpenRing
import Derived.Test.YthlifcbkpafofaaDoorCards
import Derived.Test.YthlifcbkpafofaaDoorTie
import Derived.SevenTiedAt
namespace Go.Proofs.YthlifcbkpafofaaDoor
theorem fnExactOpenRing_card : Rows.FnExactOpenRingCardSaid :=
  Claim7.holds_tied_plain_at .later [] [.data, .data, .data] true (true, "715fa9b2d76881898adb9ef1448945f5df72018ac579d0a99f78038e143eaeaf") false
    fnExactOpenRing_holds (fun _ h => by cases h) (by kernel_rfl) (fun _ h => by cases h) fnExactOpenRing_row_tie rfl ⟨rfl, rfl⟩ (by kernel_rfl) rfl
    (fun f fn hf hfn => by
      obtain rfl : f = 11 := Option.some.inj ((show Tryd.prog.funcNamed "loop.example/g00261/laws.FnExactOpenRing" = some 11 by kernel_rfl).symm.trans hf) |>.symm
      obtain rfl : fn = Tryd.f11 := (Option.some.inj (Tryd.func11.symm.trans hfn)).symm
      exact ⟨by kernel_rfl, fun j t ht => by
          rw [Tryd.params11] at ht
          rcases j with _ | j
          · have h3 : t = 29 := by simpa using ht.symm
            subst h3
            exact (show Tryd.prog.wantsStandIn 29 = false by kernel_rfl)
          simp at ht⟩)
    (by kernel_rfl)
#print axioms fnExactOpenRing_card
end Go.Proofs.YthlifcbkpafofaaDoor
