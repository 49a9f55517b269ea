/-
  DERIVED. GIVEN WITH THE SEED: THE CARDS: each row of YtggkhamidkmjpaaDoorRows.lean that lists a variable, with what it lists TIED to the program's text (the seventh form; the later family's looks); each row that meets fmt, with fmt's text TOLD by the authors' own Lean function (tested against real Go, not proved from fmt's source: count such statements apart). THE CARD IS WHAT COUNTS. Prove the row's statement (the work); the ties are given (YtggkhamidkmjpaaDoorTie.lean); close each card by the builder's one call (the guide's Derived/Test/ToyasCard.lean, 'card_holds'). Laid BY PROGRAM, IN A SANDBOX (cutbox-door.mjs). By AI agents, Wed Nov 11 2026. No macro, syntax, notation, axiom, sorry.
-/
import Derived.Test.YtggkhamidkmjpaaDoorRows
import GoSem.ClaimSeven
namespace Go.Proofs.YtggkhamidkmjpaaDoor
namespace Rows

/-- THE TIED CARD OF 'laws.FnExactNamesOf'. -/
def fnExactNamesOfCard : Claim7 := { stood := { row := fnExactNamesOfRow, standIns := [], harness := (true, "c1216046a9b65590f5cee98a0ef45baa81891eaa1ccbeecff21963ad0b4cff91"), looks := false }, kinds := [], alts := [], laidByText := true, laidKinds := [.data, .pinned], laidTests := true, laidLooks := .later }
def FnExactNamesOfCardSaid : Prop := Claim7.holds Tryd.pinned (.plain (OpenSpec.ofChange fnExactNamesOfSpec)) fnExactNamesOfCard

/-- THE SECOND FORM's CARD OF 'laws.FnExactNamesOf'. -/
def fnExactNamesOfUptoCard : Claim7 := { stood := { row := fnExactNamesOfUptoRow, standIns := [], harness := (true, "c1216046a9b65590f5cee98a0ef45baa81891eaa1ccbeecff21963ad0b4cff91"), looks := false }, kinds := [], alts := [], laidByText := true, laidKinds := [.data, .pinned], laidTests := true, laidLooks := .later }
def FnExactNamesOfUptoCardSaid : Prop := Claim7.holds Tryd.pinned (.plain (OpenSpec.upto fnExactNamesOfSpec)) fnExactNamesOfUptoCard
end Rows
end Go.Proofs.YtggkhamidkmjpaaDoor
