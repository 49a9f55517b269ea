/-
  DERIVED. GIVEN WITH THE SEED: THE CARDS: each row of YtnjnlocndalpjaaDoorRows.lean that lists a variable, with what it lists TIED to the program's text (the seventh form; the later family's looks); each row that meets fmt, with fmt's text TOLD by the authors' own Lean function (tested against real Go, not proved from fmt's source: count such statements apart). THE CARD IS WHAT COUNTS. Prove the row's statement (the work); the ties are given (YtnjnlocndalpjaaDoorTie.lean); close each card by the builder's one call (the guide's Derived/Test/ToyasCard.lean, 'card_holds'). Laid BY PROGRAM, IN A SANDBOX (cutbox-door.mjs). By AI agents, Wed Nov 11 2026. No macro, syntax, notation, axiom, sorry.
-/
import Derived.Test.YtnjnlocndalpjaaDoorRows
import GoSem.ClaimSeven
namespace Go.Proofs.YtnjnlocndalpjaaDoor
namespace Rows

/-- THE TIED CARD OF 'laws.FnExactGoodDir'. -/
def fnExactGoodDirCard : Claim7 := { stood := { row := fnExactGoodDirRow, standIns := [], harness := (true, "39d65241d7c73e1e8e2e405cd781635a72e8fb66b48c975ba48f356bdf9b4e70"), looks := false }, kinds := [], alts := [], laidByText := true, laidKinds := [.data, .pinned], laidTests := true, laidLooks := .later }
def FnExactGoodDirCardSaid : Prop := Claim7.holds Tryd.pinned (.plain (OpenSpec.ofChange fnExactGoodDirSpec)) fnExactGoodDirCard

/-- THE TIED CARD OF 'laws.FnExactBucketOf'. -/
def fnExactBucketOfCard : Claim7 := { stood := { row := fnExactBucketOfRow, standIns := [], harness := (true, "39d65241d7c73e1e8e2e405cd781635a72e8fb66b48c975ba48f356bdf9b4e70"), looks := false }, kinds := [], alts := [], laidByText := true, laidKinds := [.data, .pinned], laidTests := true, laidLooks := .later }
def FnExactBucketOfCardSaid : Prop := Claim7.holds Tryd.pinned (.plain (OpenSpec.ofChange fnExactBucketOfSpec)) fnExactBucketOfCard

/-- THE TIED CARD OF 'laws.FnExactLookName'. -/
def fnExactLookNameCard : Claim7 := { stood := { row := fnExactLookNameRow, standIns := [], harness := (true, "39d65241d7c73e1e8e2e405cd781635a72e8fb66b48c975ba48f356bdf9b4e70"), looks := false }, kinds := [], alts := [], laidByText := true, laidKinds := [.data, .pinned], laidTests := true, laidLooks := .later }
def FnExactLookNameCardSaid : Prop := Claim7.holds Tryd.pinned (.plain (OpenSpec.ofChange fnExactLookNameSpec)) fnExactLookNameCard

/-- THE SECOND FORM's CARD OF 'laws.FnExactGoodDir'. -/
def fnExactGoodDirUptoCard : Claim7 := { stood := { row := fnExactGoodDirUptoRow, standIns := [], harness := (true, "39d65241d7c73e1e8e2e405cd781635a72e8fb66b48c975ba48f356bdf9b4e70"), looks := false }, kinds := [], alts := [], laidByText := true, laidKinds := [.data, .pinned], laidTests := true, laidLooks := .later }
def FnExactGoodDirUptoCardSaid : Prop := Claim7.holds Tryd.pinned (.plain (OpenSpec.upto fnExactGoodDirSpec)) fnExactGoodDirUptoCard

/-- THE SECOND FORM's CARD OF 'laws.FnExactBucketOf'. -/
def fnExactBucketOfUptoCard : Claim7 := { stood := { row := fnExactBucketOfUptoRow, standIns := [], harness := (true, "39d65241d7c73e1e8e2e405cd781635a72e8fb66b48c975ba48f356bdf9b4e70"), looks := false }, kinds := [], alts := [], laidByText := true, laidKinds := [.data, .pinned], laidTests := true, laidLooks := .later }
def FnExactBucketOfUptoCardSaid : Prop := Claim7.holds Tryd.pinned (.plain (OpenSpec.upto fnExactBucketOfSpec)) fnExactBucketOfUptoCard

/-- THE SECOND FORM's CARD OF 'laws.FnExactLookName'. -/
def fnExactLookNameUptoCard : Claim7 := { stood := { row := fnExactLookNameUptoRow, standIns := [], harness := (true, "39d65241d7c73e1e8e2e405cd781635a72e8fb66b48c975ba48f356bdf9b4e70"), looks := false }, kinds := [], alts := [], laidByText := true, laidKinds := [.data, .pinned], laidTests := true, laidLooks := .later }
def FnExactLookNameUptoCardSaid : Prop := Claim7.holds Tryd.pinned (.plain (OpenSpec.upto fnExactLookNameSpec)) fnExactLookNameUptoCard
end Rows
end Go.Proofs.YtnjnlocndalpjaaDoor
