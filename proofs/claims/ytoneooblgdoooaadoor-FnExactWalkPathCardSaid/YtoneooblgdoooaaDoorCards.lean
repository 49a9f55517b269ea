/-
  DERIVED. GIVEN WITH THE SEED: THE CARDS: each row of YtoneooblgdoooaaDoorRows.lean that lists a variable, with what it lists TIED to the program's text (the seventh form; the later family's looks); each row that meets fmt, with fmt's text TOLD by the authors' own Lean function (tested against real Go, not proved from fmt's source: count such statements apart). THE CARD IS WHAT COUNTS. Prove the row's statement (the work); the ties are given (YtoneooblgdoooaaDoorTie.lean); close each card by the builder's one call (the guide's Derived/Test/ToyasCard.lean, 'card_holds'). Laid BY PROGRAM, IN A SANDBOX (cutbox-door.mjs). By AI agents, Wed Nov 11 2026. No macro, syntax, notation, axiom, sorry.
-/
import Derived.Test.YtoneooblgdoooaaDoorRows
import GoSem.ClaimSeven
namespace Go.Proofs.YtoneooblgdoooaaDoor
namespace Rows

/-- THE TIED CARD OF 'laws.FnExactGoodNames'. -/
def fnExactGoodNamesCard : Claim7 := { stood := { row := fnExactGoodNamesRow, standIns := [], harness := (true, "b83ef5047efac66b71d17c567d8c6ee73b4dccaf7c4c6d00c9b27aa99f456b5d"), looks := false }, kinds := [], alts := [], laidByText := true, laidKinds := [.data, .pinned], laidTests := true, laidLooks := .later }
def FnExactGoodNamesCardSaid : Prop := Claim7.holds Tryd.pinned (.plain (OpenSpec.ofChange fnExactGoodNamesSpec)) fnExactGoodNamesCard

/-- THE TIED CARD OF 'laws.FnExactWalkPath'. -/
def fnExactWalkPathCard : Claim7 := { stood := { row := fnExactWalkPathRow, standIns := [], harness := (true, "b83ef5047efac66b71d17c567d8c6ee73b4dccaf7c4c6d00c9b27aa99f456b5d"), looks := false }, kinds := [], alts := [], laidByText := true, laidKinds := [.data, .pinned], laidTests := true, laidLooks := .later }
def FnExactWalkPathCardSaid : Prop := Claim7.holds Tryd.pinned (.plain (OpenSpec.ofChange fnExactWalkPathSpec)) fnExactWalkPathCard

/-- THE SECOND FORM's CARD OF 'laws.FnExactGoodNames'. -/
def fnExactGoodNamesUptoCard : Claim7 := { stood := { row := fnExactGoodNamesUptoRow, standIns := [], harness := (true, "b83ef5047efac66b71d17c567d8c6ee73b4dccaf7c4c6d00c9b27aa99f456b5d"), looks := false }, kinds := [], alts := [], laidByText := true, laidKinds := [.data, .pinned], laidTests := true, laidLooks := .later }
def FnExactGoodNamesUptoCardSaid : Prop := Claim7.holds Tryd.pinned (.plain (OpenSpec.upto fnExactGoodNamesSpec)) fnExactGoodNamesUptoCard

/-- THE SECOND FORM's CARD OF 'laws.FnExactWalkPath'. -/
def fnExactWalkPathUptoCard : Claim7 := { stood := { row := fnExactWalkPathUptoRow, standIns := [], harness := (true, "b83ef5047efac66b71d17c567d8c6ee73b4dccaf7c4c6d00c9b27aa99f456b5d"), looks := false }, kinds := [], alts := [], laidByText := true, laidKinds := [.data, .pinned], laidTests := true, laidLooks := .later }
def FnExactWalkPathUptoCardSaid : Prop := Claim7.holds Tryd.pinned (.plain (OpenSpec.upto fnExactWalkPathSpec)) fnExactWalkPathUptoCard
end Rows
end Go.Proofs.YtoneooblgdoooaaDoor
