/- The card of FnExactNamesOf: the row, its tables tied to the text. -/
import Derived.Test.YtggkhamidkmjpaaDoorCRFnExactNamesOf
import Derived.Test.YtggkhamidkmjpaaDoorCards
import Derived.Test.YtggkhamidkmjpaaDoorTie
import Derived.SevenTiedAt
namespace Go.Proofs.YtggkhamidkmjpaaDoor
theorem fnExactNamesOf_card : Rows.FnExactNamesOfCardSaid :=
  Claim7.holds_tied_plain_at .later [] [.data, .pinned] true (true, "c1216046a9b65590f5cee98a0ef45baa81891eaa1ccbeecff21963ad0b4cff91") false
    fnExactNamesOf_holds (fun _ h => by cases h) (by kernel_rfl) (fun _ h => by cases h) fnExactNamesOf_row_tie rfl ⟨rfl, rfl⟩ (by kernel_rfl) rfl
    (fun f fn hf hfn => by
      obtain rfl : f = 3 := Option.some.inj ((show Tryd.prog.funcNamed "loop.example/g00261/laws.FnExactNamesOf" = some 3 by kernel_rfl).symm.trans hf) |>.symm
      obtain rfl : fn = Tryd.f3 := (Option.some.inj (Tryd.func3.symm.trans hfn)).symm
      exact ⟨by kernel_rfl, fun j t ht => by
          rw [Tryd.params3] at ht
          rcases j with _ | j
          · have h3 : t = 25 := by simpa using ht.symm
            subst h3
            exact (show Tryd.prog.wantsStandIn 25 = false by kernel_rfl)
          simp at ht⟩)
    (by kernel_rfl)
#print axioms fnExactNamesOf_card
end Go.Proofs.YtggkhamidkmjpaaDoor
