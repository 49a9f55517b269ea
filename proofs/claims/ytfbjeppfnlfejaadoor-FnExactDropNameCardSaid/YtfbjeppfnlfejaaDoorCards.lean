/-
  DERIVED. GIVEN WITH THE SEED: THE CARDS: each row of YtfbjeppfnlfejaaDoorRows.lean that lists a variable, with what it lists TIED to the program's text (the seventh form; the later family's looks); each row that meets fmt, with fmt's text TOLD by the authors' own Lean function (tested against real Go, not proved from fmt's source: count such statements apart). THE CARD IS WHAT COUNTS. Prove the row's statement (the work); the ties are given (YtfbjeppfnlfejaaDoorTie.lean); close each card by the builder's one call (the guide's Derived/Test/ToyasCard.lean, 'card_holds'). Laid BY PROGRAM, IN A SANDBOX (cutbox-door.mjs). By AI agents, Wed Nov 11 2026. No macro, syntax, notation, axiom, sorry.
-/
import Derived.Test.YtfbjeppfnlfejaaDoorRows
import GoSem.ClaimSeven
namespace Go.Proofs.YtfbjeppfnlfejaaDoor
namespace Rows

/-- THE TIED CARD OF 'laws.FnExactDropName'. -/
def fnExactDropNameCard : Claim7 := { stood := { row := fnExactDropNameRow, standIns := [], harness := (true, "0459f967016ca8ef5ba1c9e2958dbda96a59d9e67058093553010936714748dc"), looks := false }, kinds := [], alts := [], laidByText := true, laidKinds := [.data, .pinned], laidTests := true, laidLooks := .later }
def FnExactDropNameCardSaid : Prop := Claim7.holds Tryd.pinned (.plain (OpenSpec.ofChange fnExactDropNameSpec)) fnExactDropNameCard

/-- THE SECOND FORM's CARD OF 'laws.FnExactDropName'. -/
def fnExactDropNameUptoCard : Claim7 := { stood := { row := fnExactDropNameUptoRow, standIns := [], harness := (true, "0459f967016ca8ef5ba1c9e2958dbda96a59d9e67058093553010936714748dc"), looks := false }, kinds := [], alts := [], laidByText := true, laidKinds := [.data, .pinned], laidTests := true, laidLooks := .later }
def FnExactDropNameUptoCardSaid : Prop := Claim7.holds Tryd.pinned (.plain (OpenSpec.upto fnExactDropNameSpec)) fnExactDropNameUptoCard
end Rows
end Go.Proofs.YtfbjeppfnlfejaaDoor
