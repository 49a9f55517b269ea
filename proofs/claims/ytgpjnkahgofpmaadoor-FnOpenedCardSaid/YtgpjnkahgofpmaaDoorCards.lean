/-
  DERIVED. GIVEN WITH THE SEED: THE CARDS: each row of YtgpjnkahgofpmaaDoorRows.lean that lists a variable, with what it lists TIED to the program's text (the seventh form; the later family's looks); each row that meets fmt, with fmt's text TOLD by the authors' own Lean function (tested against real Go, not proved from fmt's source: count such statements apart). THE CARD IS WHAT COUNTS. Prove the row's statement (the work); the ties are given (YtgpjnkahgofpmaaDoorTie.lean); close each card by the builder's one call (the guide's Derived/Test/ToyasCard.lean, 'card_holds'). Laid BY PROGRAM, IN A SANDBOX (cutbox-door.mjs). By AI agents, Wed Nov 11 2026. No macro, syntax, notation, axiom, sorry.
-/
import Derived.Test.YtgpjnkahgofpmaaDoorRows
import GoSem.ClaimSeven
namespace Go.Proofs.YtgpjnkahgofpmaaDoor
namespace Rows

/-- THE TIED CARD OF 'laws.FnOpened'. -/
def fnOpenedCard : Claim7 := { stood := { row := fnOpenedRow, standIns := [], harness := (true, "65a53b946acbb36aef2fde7dd41ec2fbab730a397bd673daa0cd4d4ab7460383"), looks := false }, kinds := [], alts := [], laidByText := true, laidKinds := [.data, .data, .data], laidTests := true, laidLooks := .later }
def FnOpenedCardSaid : Prop := Claim7.holds Tryd.pinned (.plain (OpenSpec.ofChange fnOpenedSpec)) fnOpenedCard

/-- THE SECOND FORM's CARD OF 'laws.FnOpened'. -/
def fnOpenedUptoCard : Claim7 := { stood := { row := fnOpenedUptoRow, standIns := [], harness := (true, "65a53b946acbb36aef2fde7dd41ec2fbab730a397bd673daa0cd4d4ab7460383"), looks := false }, kinds := [], alts := [], laidByText := true, laidKinds := [.data, .data, .data], laidTests := true, laidLooks := .later }
def FnOpenedUptoCardSaid : Prop := Claim7.holds Tryd.pinned (.plain (OpenSpec.upto fnOpenedSpec)) fnOpenedUptoCard
end Rows
end Go.Proofs.YtgpjnkahgofpmaaDoor
