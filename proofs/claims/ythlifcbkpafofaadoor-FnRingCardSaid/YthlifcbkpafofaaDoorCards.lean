/-
  DERIVED. GIVEN WITH THE SEED: THE CARDS: each row of YthlifcbkpafofaaDoorRows.lean that lists a variable, with what it lists TIED to the program's text (the seventh form; the later family's looks); each row that meets fmt, with fmt's text TOLD by the authors' own Lean function (tested against real Go, not proved from fmt's source: count such statements apart). THE CARD IS WHAT COUNTS. Prove the row's statement (the work); the ties are given (YthlifcbkpafofaaDoorTie.lean); close each card by the builder's one call (the guide's Derived/Test/ToyasCard.lean, 'card_holds'). Laid BY PROGRAM, IN A SANDBOX (cutbox-door.mjs). By AI agents, Wed Nov 11 2026. No macro, syntax, notation, axiom, sorry.
-/
import Derived.Test.YthlifcbkpafofaaDoorRows
import GoSem.ClaimSeven
namespace Go.Proofs.YthlifcbkpafofaaDoor
namespace Rows

/-- THE TIED CARD OF 'laws.FnExactSlotSum'. -/
def fnExactSlotSumCard : Claim7 := { stood := { row := fnExactSlotSumRow, standIns := [], harness := (true, "715fa9b2d76881898adb9ef1448945f5df72018ac579d0a99f78038e143eaeaf"), looks := false }, kinds := [], alts := [], laidByText := true, laidKinds := [.data, .data, .data], laidTests := true, laidLooks := .later }
def FnExactSlotSumCardSaid : Prop := Claim7.holds Tryd.pinned (.plain (OpenSpec.ofChange fnExactSlotSumSpec)) fnExactSlotSumCard

/-- THE TIED CARD OF 'laws.FnExactGoodRing'. -/
def fnExactGoodRingCard : Claim7 := { stood := { row := fnExactGoodRingRow, standIns := [], harness := (true, "715fa9b2d76881898adb9ef1448945f5df72018ac579d0a99f78038e143eaeaf"), looks := false }, kinds := [], alts := [], laidByText := true, laidKinds := [.data, .data, .data], laidTests := true, laidLooks := .later }
def FnExactGoodRingCardSaid : Prop := Claim7.holds Tryd.pinned (.plain (OpenSpec.ofChange fnExactGoodRingSpec)) fnExactGoodRingCard

/-- THE TIED CARD OF 'laws.FnExactNewRing'. -/
def fnExactNewRingCard : Claim7 := { stood := { row := fnExactNewRingRow, standIns := [], harness := (true, "715fa9b2d76881898adb9ef1448945f5df72018ac579d0a99f78038e143eaeaf"), looks := false }, kinds := [], alts := [], laidByText := true, laidKinds := [.data, .data, .data], laidTests := true, laidLooks := .later }
def FnExactNewRingCardSaid : Prop := Claim7.holds Tryd.pinned (.plain (OpenSpec.ofChange fnExactNewRingSpec)) fnExactNewRingCard

/-- THE TIED CARD OF 'laws.FnExactRoomFor'. -/
def fnExactRoomForCard : Claim7 := { stood := { row := fnExactRoomForRow, standIns := [], harness := (true, "715fa9b2d76881898adb9ef1448945f5df72018ac579d0a99f78038e143eaeaf"), looks := false }, kinds := [], alts := [], laidByText := true, laidKinds := [.data, .data, .data], laidTests := true, laidLooks := .later }
def FnExactRoomForCardSaid : Prop := Claim7.holds Tryd.pinned (.plain (OpenSpec.ofChange fnExactRoomForSpec)) fnExactRoomForCard

/-- THE TIED CARD OF 'laws.FnExactRecordsOf'. -/
def fnExactRecordsOfCard : Claim7 := { stood := { row := fnExactRecordsOfRow, standIns := [], harness := (true, "715fa9b2d76881898adb9ef1448945f5df72018ac579d0a99f78038e143eaeaf"), looks := false }, kinds := [], alts := [], laidByText := true, laidKinds := [.data, .data, .data], laidTests := true, laidLooks := .later }
def FnExactRecordsOfCardSaid : Prop := Claim7.holds Tryd.pinned (.plain (OpenSpec.ofChange fnExactRecordsOfSpec)) fnExactRecordsOfCard

/-- THE TIED CARD OF 'laws.FnRing'. -/
def fnRingCard : Claim7 := { stood := { row := fnRingRow, standIns := [], harness := (true, "715fa9b2d76881898adb9ef1448945f5df72018ac579d0a99f78038e143eaeaf"), looks := false }, kinds := [], alts := [], laidByText := true, laidKinds := [.data, .data, .data], laidTests := true, laidLooks := .later }
def FnRingCardSaid : Prop := Claim7.holds Tryd.pinned (.plain (OpenSpec.ofChange fnRingSpec)) fnRingCard

/-- THE TIED CARD OF 'laws.FnExactPushTail'. -/
def fnExactPushTailCard : Claim7 := { stood := { row := fnExactPushTailRow, standIns := [], harness := (true, "715fa9b2d76881898adb9ef1448945f5df72018ac579d0a99f78038e143eaeaf"), looks := false }, kinds := [], alts := [], laidByText := true, laidKinds := [.data, .data, .data], laidTests := true, laidLooks := .later }
def FnExactPushTailCardSaid : Prop := Claim7.holds Tryd.pinned (.plain (OpenSpec.ofChange fnExactPushTailSpec)) fnExactPushTailCard

/-- THE TIED CARD OF 'laws.FnExactPutRecord'. -/
def fnExactPutRecordCard : Claim7 := { stood := { row := fnExactPutRecordRow, standIns := [], harness := (true, "715fa9b2d76881898adb9ef1448945f5df72018ac579d0a99f78038e143eaeaf"), looks := false }, kinds := [], alts := [], laidByText := true, laidKinds := [.data, .data, .data], laidTests := true, laidLooks := .later }
def FnExactPutRecordCardSaid : Prop := Claim7.holds Tryd.pinned (.plain (OpenSpec.ofChange fnExactPutRecordSpec)) fnExactPutRecordCard

/-- THE TIED CARD OF 'laws.FnExactOpenRing'. -/
def fnExactOpenRingCard : Claim7 := { stood := { row := fnExactOpenRingRow, standIns := [], harness := (true, "715fa9b2d76881898adb9ef1448945f5df72018ac579d0a99f78038e143eaeaf"), looks := false }, kinds := [], alts := [], laidByText := true, laidKinds := [.data, .data, .data], laidTests := true, laidLooks := .later }
def FnExactOpenRingCardSaid : Prop := Claim7.holds Tryd.pinned (.plain (OpenSpec.ofChange fnExactOpenRingSpec)) fnExactOpenRingCard

/-- THE TIED CARD OF 'laws.FnOpened'. -/
def fnOpenedCard : Claim7 := { stood := { row := fnOpenedRow, standIns := [], harness := (true, "715fa9b2d76881898adb9ef1448945f5df72018ac579d0a99f78038e143eaeaf"), looks := false }, kinds := [], alts := [], laidByText := true, laidKinds := [.data, .data, .data], laidTests := true, laidLooks := .later }
def FnOpenedCardSaid : Prop := Claim7.holds Tryd.pinned (.plain (OpenSpec.ofChange fnOpenedSpec)) fnOpenedCard

/-- THE SECOND FORM's CARD OF 'laws.FnExactSlotSum'. -/
def fnExactSlotSumUptoCard : Claim7 := { stood := { row := fnExactSlotSumUptoRow, standIns := [], harness := (true, "715fa9b2d76881898adb9ef1448945f5df72018ac579d0a99f78038e143eaeaf"), looks := false }, kinds := [], alts := [], laidByText := true, laidKinds := [.data, .data, .data], laidTests := true, laidLooks := .later }
def FnExactSlotSumUptoCardSaid : Prop := Claim7.holds Tryd.pinned (.plain (OpenSpec.upto fnExactSlotSumSpec)) fnExactSlotSumUptoCard

/-- THE SECOND FORM's CARD OF 'laws.FnExactGoodRing'. -/
def fnExactGoodRingUptoCard : Claim7 := { stood := { row := fnExactGoodRingUptoRow, standIns := [], harness := (true, "715fa9b2d76881898adb9ef1448945f5df72018ac579d0a99f78038e143eaeaf"), looks := false }, kinds := [], alts := [], laidByText := true, laidKinds := [.data, .data, .data], laidTests := true, laidLooks := .later }
def FnExactGoodRingUptoCardSaid : Prop := Claim7.holds Tryd.pinned (.plain (OpenSpec.upto fnExactGoodRingSpec)) fnExactGoodRingUptoCard

/-- THE SECOND FORM's CARD OF 'laws.FnExactNewRing'. -/
def fnExactNewRingUptoCard : Claim7 := { stood := { row := fnExactNewRingUptoRow, standIns := [], harness := (true, "715fa9b2d76881898adb9ef1448945f5df72018ac579d0a99f78038e143eaeaf"), looks := false }, kinds := [], alts := [], laidByText := true, laidKinds := [.data, .data, .data], laidTests := true, laidLooks := .later }
def FnExactNewRingUptoCardSaid : Prop := Claim7.holds Tryd.pinned (.plain (OpenSpec.upto fnExactNewRingSpec)) fnExactNewRingUptoCard

/-- THE SECOND FORM's CARD OF 'laws.FnExactRoomFor'. -/
def fnExactRoomForUptoCard : Claim7 := { stood := { row := fnExactRoomForUptoRow, standIns := [], harness := (true, "715fa9b2d76881898adb9ef1448945f5df72018ac579d0a99f78038e143eaeaf"), looks := false }, kinds := [], alts := [], laidByText := true, laidKinds := [.data, .data, .data], laidTests := true, laidLooks := .later }
def FnExactRoomForUptoCardSaid : Prop := Claim7.holds Tryd.pinned (.plain (OpenSpec.upto fnExactRoomForSpec)) fnExactRoomForUptoCard

/-- THE SECOND FORM's CARD OF 'laws.FnExactRecordsOf'. -/
def fnExactRecordsOfUptoCard : Claim7 := { stood := { row := fnExactRecordsOfUptoRow, standIns := [], harness := (true, "715fa9b2d76881898adb9ef1448945f5df72018ac579d0a99f78038e143eaeaf"), looks := false }, kinds := [], alts := [], laidByText := true, laidKinds := [.data, .data, .data], laidTests := true, laidLooks := .later }
def FnExactRecordsOfUptoCardSaid : Prop := Claim7.holds Tryd.pinned (.plain (OpenSpec.upto fnExactRecordsOfSpec)) fnExactRecordsOfUptoCard

/-- THE SECOND FORM's CARD OF 'laws.FnRing'. -/
def fnRingUptoCard : Claim7 := { stood := { row := fnRingUptoRow, standIns := [], harness := (true, "715fa9b2d76881898adb9ef1448945f5df72018ac579d0a99f78038e143eaeaf"), looks := false }, kinds := [], alts := [], laidByText := true, laidKinds := [.data, .data, .data], laidTests := true, laidLooks := .later }
def FnRingUptoCardSaid : Prop := Claim7.holds Tryd.pinned (.plain (OpenSpec.upto fnRingSpec)) fnRingUptoCard

/-- THE SECOND FORM's CARD OF 'laws.FnExactPushTail'. -/
def fnExactPushTailUptoCard : Claim7 := { stood := { row := fnExactPushTailUptoRow, standIns := [], harness := (true, "715fa9b2d76881898adb9ef1448945f5df72018ac579d0a99f78038e143eaeaf"), looks := false }, kinds := [], alts := [], laidByText := true, laidKinds := [.data, .data, .data], laidTests := true, laidLooks := .later }
def FnExactPushTailUptoCardSaid : Prop := Claim7.holds Tryd.pinned (.plain (OpenSpec.upto fnExactPushTailSpec)) fnExactPushTailUptoCard

/-- THE SECOND FORM's CARD OF 'laws.FnExactPutRecord'. -/
def fnExactPutRecordUptoCard : Claim7 := { stood := { row := fnExactPutRecordUptoRow, standIns := [], harness := (true, "715fa9b2d76881898adb9ef1448945f5df72018ac579d0a99f78038e143eaeaf"), looks := false }, kinds := [], alts := [], laidByText := true, laidKinds := [.data, .data, .data], laidTests := true, laidLooks := .later }
def FnExactPutRecordUptoCardSaid : Prop := Claim7.holds Tryd.pinned (.plain (OpenSpec.upto fnExactPutRecordSpec)) fnExactPutRecordUptoCard

/-- THE SECOND FORM's CARD OF 'laws.FnExactOpenRing'. -/
def fnExactOpenRingUptoCard : Claim7 := { stood := { row := fnExactOpenRingUptoRow, standIns := [], harness := (true, "715fa9b2d76881898adb9ef1448945f5df72018ac579d0a99f78038e143eaeaf"), looks := false }, kinds := [], alts := [], laidByText := true, laidKinds := [.data, .data, .data], laidTests := true, laidLooks := .later }
def FnExactOpenRingUptoCardSaid : Prop := Claim7.holds Tryd.pinned (.plain (OpenSpec.upto fnExactOpenRingSpec)) fnExactOpenRingUptoCard

/-- THE SECOND FORM's CARD OF 'laws.FnOpened'. -/
def fnOpenedUptoCard : Claim7 := { stood := { row := fnOpenedUptoRow, standIns := [], harness := (true, "715fa9b2d76881898adb9ef1448945f5df72018ac579d0a99f78038e143eaeaf"), looks := false }, kinds := [], alts := [], laidByText := true, laidKinds := [.data, .data, .data], laidTests := true, laidLooks := .later }
def FnOpenedUptoCardSaid : Prop := Claim7.holds Tryd.pinned (.plain (OpenSpec.upto fnOpenedSpec)) fnOpenedUptoCard
end Rows
end Go.Proofs.YthlifcbkpafofaaDoor
