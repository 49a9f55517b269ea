/- The card of FnExactDropName: the row, its tables tied to the text. -/
import Derived.Test.YtfbjeppfnlfejaaDoorCRFnExactDropName
import Derived.Test.YtfbjeppfnlfejaaDoorCards
import Derived.Test.YtfbjeppfnlfejaaDoorTie
import Derived.SevenTiedAt
namespace Go.Proofs.YtfbjeppfnlfejaaDoor
theorem fnExactDropName_card : Rows.FnExactDropNameCardSaid :=
  Claim7.holds_tied_plain_at .later [] [.data, .pinned] true (true, "0459f967016ca8ef5ba1c9e2958dbda96a59d9e67058093553010936714748dc") false
    fnExactDropName_holds (fun _ h => by cases h) (by kernel_rfl) (fun _ h => by cases h) fnExactDropName_row_tie rfl ⟨rfl, rfl⟩ (by kernel_rfl) rfl
    (fun f fn hf hfn => by
      obtain rfl : f = 3 := Option.some.inj ((show Tryd.prog.funcNamed "loop.example/g00261/laws.FnExactDropName" = some 3 by kernel_rfl).symm.trans hf) |>.symm
      obtain rfl : fn = Tryd.f3 := (Option.some.inj (Tryd.func3.symm.trans hfn)).symm
      exact ⟨by kernel_rfl, fun j t ht => by
          rw [Tryd.params3] at ht
          rcases j with _ | j
          · have h3 : t = 25 := by simpa using ht.symm
            subst h3
            exact (show Tryd.prog.wantsStandIn 25 = false by kernel_rfl)
          rcases j with _ | j
          · have h3 : t = 9 := by simpa using ht.symm
            subst h3
            exact (show Tryd.prog.wantsStandIn 9 = false by kernel_rfl)
          simp at ht⟩)
    (by kernel_rfl)
#print axioms fnExactDropName_card
end Go.Proofs.YtfbjeppfnlfejaaDoor
