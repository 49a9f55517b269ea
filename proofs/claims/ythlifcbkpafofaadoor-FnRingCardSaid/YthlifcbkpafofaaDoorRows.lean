/-
  NARROWER THAN 'FOR EVERY INPUT', by the rows' own cells (each row's printed sentence says how): FnExactSlotSum: laid · FnExactGoodRing: laid · FnExactNewRing: laid · FnExactRoomFor: laid · FnExactRecordsOf: laid · FnRing: laid · FnExactPushTail: laid · FnExactPutRecord: laid · FnExactOpenRing: laid · FnOpened: laid.
  DERIVED. THE GIVEN ROWS OF THIS SEAT. 10 by the template 'for every input the law returns true; each argument reads behind the call as it read before'; 0 by the template 'total and deterministic' (their statements: YthlifcbkpafofaaDoorTotals.lean).
  GIVEN WITH THE SEED: the statements are not yours to turn. If you find one false, say at which input.
  Laid BY PROGRAM, IN A SANDBOX (cutbox-rows.mjs): the forced cells as the released guide's own fill.sh prints them over the translation f8eb168abadc940c… (all of the seat's roots in one cut). By AI agents, Wed Nov 11 2026. No macro, syntax, notation, axiom, sorry.
-/
import Derived.Test.YthlifcbkpafofaaDoorChecked
import GoSem.Claim
import GoSem.ClaimJoined
import GoSem.ClaimMapViews
import Derived.JoinedTies
import Derived.KernelRfl
namespace Go.Proofs.YthlifcbkpafofaaDoor
/- THE CELL 'sum', in the pinned program and in every row, IS THE sha256 OF THE DUMP (.gsa) THAT YthlifcbkpafofaaDoorProg.lean LOADS. Nothing in Lean hashes anything: it is a label: what it is worth is what the hold of that sum in a sandbox is worth. -/
noncomputable def Tryd.pinned : Pinned := { name := "ythlifcbkpafofaadoor", sum := "f8eb168abadc940c75cfa6e49f33186efeef33521bf2b79df35bc4a05a8d1ad0", checked := Tryd.checked }
namespace Rows
def none {H : Type} : Left H := { results := [], args := [] }

/- WHAT THE LISTED PACKAGE-LEVEL VARIABLES READ AS WHEN THE CALL BEGINS. Each datum BY PROGRAM (the guide's laid-datum.mjs) off the statement by which the dump's own 'gosem.cut.vars' lays the variable. In a bare row this is a premise. The card (YthlifcbkpafofaaDoorCards.lean) ties it to the program's text. -/
def laid_math_bits_deBruijn32tab {H : Type} : DataW H := .agg [.lit (.int .u8 0), .lit (.int .u8 1), .lit (.int .u8 28), .lit (.int .u8 2), .lit (.int .u8 29), .lit (.int .u8 14), .lit (.int .u8 24), .lit (.int .u8 3), .lit (.int .u8 30), .lit (.int .u8 22), .lit (.int .u8 20), .lit (.int .u8 15), .lit (.int .u8 25), .lit (.int .u8 17), .lit (.int .u8 4), .lit (.int .u8 8), .lit (.int .u8 31), .lit (.int .u8 27), .lit (.int .u8 13), .lit (.int .u8 23), .lit (.int .u8 21), .lit (.int .u8 19), .lit (.int .u8 16), .lit (.int .u8 7), .lit (.int .u8 26), .lit (.int .u8 12), .lit (.int .u8 18), .lit (.int .u8 6), .lit (.int .u8 11), .lit (.int .u8 5), .lit (.int .u8 10), .lit (.int .u8 9)]
def laid_math_bits_deBruijn64tab {H : Type} : DataW H := .agg [.lit (.int .u8 0), .lit (.int .u8 1), .lit (.int .u8 56), .lit (.int .u8 2), .lit (.int .u8 57), .lit (.int .u8 49), .lit (.int .u8 28), .lit (.int .u8 3), .lit (.int .u8 61), .lit (.int .u8 58), .lit (.int .u8 42), .lit (.int .u8 50), .lit (.int .u8 38), .lit (.int .u8 29), .lit (.int .u8 17), .lit (.int .u8 4), .lit (.int .u8 62), .lit (.int .u8 47), .lit (.int .u8 59), .lit (.int .u8 36), .lit (.int .u8 45), .lit (.int .u8 43), .lit (.int .u8 51), .lit (.int .u8 22), .lit (.int .u8 53), .lit (.int .u8 39), .lit (.int .u8 33), .lit (.int .u8 30), .lit (.int .u8 24), .lit (.int .u8 18), .lit (.int .u8 12), .lit (.int .u8 5), .lit (.int .u8 63), .lit (.int .u8 55), .lit (.int .u8 48), .lit (.int .u8 27), .lit (.int .u8 60), .lit (.int .u8 41), .lit (.int .u8 37), .lit (.int .u8 16), .lit (.int .u8 46), .lit (.int .u8 35), .lit (.int .u8 44), .lit (.int .u8 21), .lit (.int .u8 52), .lit (.int .u8 32), .lit (.int .u8 23), .lit (.int .u8 11), .lit (.int .u8 54), .lit (.int .u8 26), .lit (.int .u8 40), .lit (.int .u8 15), .lit (.int .u8 34), .lit (.int .u8 20), .lit (.int .u8 31), .lit (.int .u8 10), .lit (.int .u8 25), .lit (.int .u8 14), .lit (.int .u8 19), .lit (.int .u8 9), .lit (.int .u8 13), .lit (.int .u8 8), .lit (.int .u8 7), .lit (.int .u8 6)]
def laid_internal_strconv_uint64pow10 {H : Type} : DataW H := .agg [.lit (.int .u64 1), .lit (.int .u64 10), .lit (.int .u64 100), .lit (.int .u64 1000), .lit (.int .u64 10000), .lit (.int .u64 100000), .lit (.int .u64 1000000), .lit (.int .u64 10000000), .lit (.int .u64 100000000), .lit (.int .u64 1000000000), .lit (.int .u64 10000000000), .lit (.int .u64 100000000000), .lit (.int .u64 1000000000000), .lit (.int .u64 10000000000000), .lit (.int .u64 100000000000000), .lit (.int .u64 1000000000000000), .lit (.int .u64 10000000000000000), .lit (.int .u64 100000000000000000), .lit (.int .u64 1000000000000000000), .lit (.int .u64 10000000000000000000)]

/-- 'laws.FnExactSlotSum': WHATEVER THE INPUT: true; the input reads as it did. -/
def fnExactSlotSumSpec : ChangeSpec := { name := "fnExactSlotSum", fn := fun _ => fun
  | [d] => { results := [.lit (.bool true)], args := [d] }
  | _ => none }
def fnExactSlotSumRow : OpenClaim := { program := "ythlifcbkpafofaadoor", sum := "f8eb168abadc940c75cfa6e49f33186efeef33521bf2b79df35bc4a05a8d1ad0", func := "loop.example/g00261/laws.FnExactSlotSum", spec := "fnExactSlotSum", recurses := true, named := ["internal/strconv.uint64pow10", "math/bits.deBruijn32tab", "math/bits.deBruijn64tab"], apart := false, laid := [("math/bits.deBruijn32tab", laid_math_bits_deBruijn32tab), ("math/bits.deBruijn64tab", laid_math_bits_deBruijn64tab), ("internal/strconv.uint64pow10", laid_internal_strconv_uint64pow10)] }
def FnExactSlotSumSaid : Prop := fnExactSlotSumRow.holds Tryd.pinned (OpenSpec.ofChange fnExactSlotSumSpec)

/-- ITS FALSE NEIGHBOUR: 'it returns false'. Refute it at one input. -/
def fnExactSlotSumWrong : ChangeSpec := { name := "fnExactSlotSum", fn := fun _ => fun
  | [d] => { results := [.lit (.bool false)], args := [d] }
  | _ => none }
def FnExactSlotSumWrongFalsely : Prop := fnExactSlotSumRow.holds Tryd.pinned (OpenSpec.ofChange fnExactSlotSumWrong)

/-- 'laws.FnExactGoodRing': WHATEVER THE INPUT: true; the input reads as it did. -/
def fnExactGoodRingSpec : ChangeSpec := { name := "fnExactGoodRing", fn := fun _ => fun
  | [d] => { results := [.lit (.bool true)], args := [d] }
  | _ => none }
def fnExactGoodRingRow : OpenClaim := { program := "ythlifcbkpafofaadoor", sum := "f8eb168abadc940c75cfa6e49f33186efeef33521bf2b79df35bc4a05a8d1ad0", func := "loop.example/g00261/laws.FnExactGoodRing", spec := "fnExactGoodRing", recurses := true, named := ["internal/strconv.uint64pow10", "math/bits.deBruijn32tab", "math/bits.deBruijn64tab"], apart := false, laid := [("math/bits.deBruijn32tab", laid_math_bits_deBruijn32tab), ("math/bits.deBruijn64tab", laid_math_bits_deBruijn64tab), ("internal/strconv.uint64pow10", laid_internal_strconv_uint64pow10)] }
def FnExactGoodRingSaid : Prop := fnExactGoodRingRow.holds Tryd.pinned (OpenSpec.ofChange fnExactGoodRingSpec)

/-- ITS FALSE NEIGHBOUR: 'it returns false'. Refute it at one input. -/
def fnExactGoodRingWrong : ChangeSpec := { name := "fnExactGoodRing", fn := fun _ => fun
  | [d] => { results := [.lit (.bool false)], args := [d] }
  | _ => none }
def FnExactGoodRingWrongFalsely : Prop := fnExactGoodRingRow.holds Tryd.pinned (OpenSpec.ofChange fnExactGoodRingWrong)

/-- 'laws.FnExactNewRing': WHATEVER THE INPUT: true; the input reads as it did. -/
def fnExactNewRingSpec : ChangeSpec := { name := "fnExactNewRing", fn := fun _ => fun
  | [d] => { results := [.lit (.bool true)], args := [d] }
  | _ => none }
def fnExactNewRingRow : OpenClaim := { program := "ythlifcbkpafofaadoor", sum := "f8eb168abadc940c75cfa6e49f33186efeef33521bf2b79df35bc4a05a8d1ad0", func := "loop.example/g00261/laws.FnExactNewRing", spec := "fnExactNewRing", recurses := true, named := ["internal/strconv.uint64pow10", "math/bits.deBruijn32tab", "math/bits.deBruijn64tab"], apart := false, laid := [("math/bits.deBruijn32tab", laid_math_bits_deBruijn32tab), ("math/bits.deBruijn64tab", laid_math_bits_deBruijn64tab), ("internal/strconv.uint64pow10", laid_internal_strconv_uint64pow10)] }
def FnExactNewRingSaid : Prop := fnExactNewRingRow.holds Tryd.pinned (OpenSpec.ofChange fnExactNewRingSpec)

/-- ITS FALSE NEIGHBOUR: 'it returns false'. Refute it at one input. -/
def fnExactNewRingWrong : ChangeSpec := { name := "fnExactNewRing", fn := fun _ => fun
  | [d] => { results := [.lit (.bool false)], args := [d] }
  | _ => none }
def FnExactNewRingWrongFalsely : Prop := fnExactNewRingRow.holds Tryd.pinned (OpenSpec.ofChange fnExactNewRingWrong)

/-- 'laws.FnExactRoomFor': WHATEVER THE INPUT: true; the input reads as it did. -/
def fnExactRoomForSpec : ChangeSpec := { name := "fnExactRoomFor", fn := fun _ => fun
  | [d] => { results := [.lit (.bool true)], args := [d] }
  | _ => none }
def fnExactRoomForRow : OpenClaim := { program := "ythlifcbkpafofaadoor", sum := "f8eb168abadc940c75cfa6e49f33186efeef33521bf2b79df35bc4a05a8d1ad0", func := "loop.example/g00261/laws.FnExactRoomFor", spec := "fnExactRoomFor", recurses := true, named := ["internal/strconv.uint64pow10", "math/bits.deBruijn32tab", "math/bits.deBruijn64tab"], apart := false, laid := [("math/bits.deBruijn32tab", laid_math_bits_deBruijn32tab), ("math/bits.deBruijn64tab", laid_math_bits_deBruijn64tab), ("internal/strconv.uint64pow10", laid_internal_strconv_uint64pow10)] }
def FnExactRoomForSaid : Prop := fnExactRoomForRow.holds Tryd.pinned (OpenSpec.ofChange fnExactRoomForSpec)

/-- ITS FALSE NEIGHBOUR: 'it returns false'. Refute it at one input. -/
def fnExactRoomForWrong : ChangeSpec := { name := "fnExactRoomFor", fn := fun _ => fun
  | [d] => { results := [.lit (.bool false)], args := [d] }
  | _ => none }
def FnExactRoomForWrongFalsely : Prop := fnExactRoomForRow.holds Tryd.pinned (OpenSpec.ofChange fnExactRoomForWrong)

/-- 'laws.FnExactRecordsOf': WHATEVER THE INPUT: true; the input reads as it did. -/
def fnExactRecordsOfSpec : ChangeSpec := { name := "fnExactRecordsOf", fn := fun _ => fun
  | [d] => { results := [.lit (.bool true)], args := [d] }
  | _ => none }
def fnExactRecordsOfRow : OpenClaim := { program := "ythlifcbkpafofaadoor", sum := "f8eb168abadc940c75cfa6e49f33186efeef33521bf2b79df35bc4a05a8d1ad0", func := "loop.example/g00261/laws.FnExactRecordsOf", spec := "fnExactRecordsOf", recurses := true, named := ["internal/strconv.uint64pow10", "math/bits.deBruijn32tab", "math/bits.deBruijn64tab"], apart := false, laid := [("math/bits.deBruijn32tab", laid_math_bits_deBruijn32tab), ("math/bits.deBruijn64tab", laid_math_bits_deBruijn64tab), ("internal/strconv.uint64pow10", laid_internal_strconv_uint64pow10)] }
def FnExactRecordsOfSaid : Prop := fnExactRecordsOfRow.holds Tryd.pinned (OpenSpec.ofChange fnExactRecordsOfSpec)

/-- ITS FALSE NEIGHBOUR: 'it returns false'. Refute it at one input. -/
def fnExactRecordsOfWrong : ChangeSpec := { name := "fnExactRecordsOf", fn := fun _ => fun
  | [d] => { results := [.lit (.bool false)], args := [d] }
  | _ => none }
def FnExactRecordsOfWrongFalsely : Prop := fnExactRecordsOfRow.holds Tryd.pinned (OpenSpec.ofChange fnExactRecordsOfWrong)

/-- 'laws.FnRing': WHATEVER THE INPUT: true; the input reads as it did. -/
def fnRingSpec : ChangeSpec := { name := "fnRing", fn := fun _ => fun
  | [d1, d2] => { results := [.lit (.bool true)], args := [d1, d2] }
  | _ => none }
def fnRingRow : OpenClaim := { program := "ythlifcbkpafofaadoor", sum := "f8eb168abadc940c75cfa6e49f33186efeef33521bf2b79df35bc4a05a8d1ad0", func := "loop.example/g00261/laws.FnRing", spec := "fnRing", recurses := true, named := ["internal/strconv.uint64pow10", "math/bits.deBruijn32tab", "math/bits.deBruijn64tab"], apart := false, laid := [("math/bits.deBruijn32tab", laid_math_bits_deBruijn32tab), ("math/bits.deBruijn64tab", laid_math_bits_deBruijn64tab), ("internal/strconv.uint64pow10", laid_internal_strconv_uint64pow10)] }
def FnRingSaid : Prop := fnRingRow.holds Tryd.pinned (OpenSpec.ofChange fnRingSpec)

/-- ITS FALSE NEIGHBOUR: 'it returns false'. Refute it at one input. -/
def fnRingWrong : ChangeSpec := { name := "fnRing", fn := fun _ => fun
  | [d1, d2] => { results := [.lit (.bool false)], args := [d1, d2] }
  | _ => none }
def FnRingWrongFalsely : Prop := fnRingRow.holds Tryd.pinned (OpenSpec.ofChange fnRingWrong)

/-- 'laws.FnExactPushTail': WHATEVER THE INPUT: true; the input reads as it did. -/
def fnExactPushTailSpec : ChangeSpec := { name := "fnExactPushTail", fn := fun _ => fun
  | [d1, d2] => { results := [.lit (.bool true)], args := [d1, d2] }
  | _ => none }
def fnExactPushTailRow : OpenClaim := { program := "ythlifcbkpafofaadoor", sum := "f8eb168abadc940c75cfa6e49f33186efeef33521bf2b79df35bc4a05a8d1ad0", func := "loop.example/g00261/laws.FnExactPushTail", spec := "fnExactPushTail", recurses := true, named := ["internal/strconv.uint64pow10", "math/bits.deBruijn32tab", "math/bits.deBruijn64tab"], apart := false, laid := [("math/bits.deBruijn32tab", laid_math_bits_deBruijn32tab), ("math/bits.deBruijn64tab", laid_math_bits_deBruijn64tab), ("internal/strconv.uint64pow10", laid_internal_strconv_uint64pow10)] }
def FnExactPushTailSaid : Prop := fnExactPushTailRow.holds Tryd.pinned (OpenSpec.ofChange fnExactPushTailSpec)

/-- ITS FALSE NEIGHBOUR: 'it returns false'. Refute it at one input. -/
def fnExactPushTailWrong : ChangeSpec := { name := "fnExactPushTail", fn := fun _ => fun
  | [d1, d2] => { results := [.lit (.bool false)], args := [d1, d2] }
  | _ => none }
def FnExactPushTailWrongFalsely : Prop := fnExactPushTailRow.holds Tryd.pinned (OpenSpec.ofChange fnExactPushTailWrong)

/-- 'laws.FnExactPutRecord': WHATEVER THE INPUT: true; the input reads as it did. -/
def fnExactPutRecordSpec : ChangeSpec := { name := "fnExactPutRecord", fn := fun _ => fun
  | [d1, d2] => { results := [.lit (.bool true)], args := [d1, d2] }
  | _ => none }
def fnExactPutRecordRow : OpenClaim := { program := "ythlifcbkpafofaadoor", sum := "f8eb168abadc940c75cfa6e49f33186efeef33521bf2b79df35bc4a05a8d1ad0", func := "loop.example/g00261/laws.FnExactPutRecord", spec := "fnExactPutRecord", recurses := true, named := ["internal/strconv.uint64pow10", "math/bits.deBruijn32tab", "math/bits.deBruijn64tab"], apart := false, laid := [("math/bits.deBruijn32tab", laid_math_bits_deBruijn32tab), ("math/bits.deBruijn64tab", laid_math_bits_deBruijn64tab), ("internal/strconv.uint64pow10", laid_internal_strconv_uint64pow10)] }
def FnExactPutRecordSaid : Prop := fnExactPutRecordRow.holds Tryd.pinned (OpenSpec.ofChange fnExactPutRecordSpec)

/-- ITS FALSE NEIGHBOUR: 'it returns false'. Refute it at one input. -/
def fnExactPutRecordWrong : ChangeSpec := { name := "fnExactPutRecord", fn := fun _ => fun
  | [d1, d2] => { results := [.lit (.bool false)], args := [d1, d2] }
  | _ => none }
def FnExactPutRecordWrongFalsely : Prop := fnExactPutRecordRow.holds Tryd.pinned (OpenSpec.ofChange fnExactPutRecordWrong)

/-- 'laws.FnExactOpenRing': WHATEVER THE INPUT: true; the input reads as it did. -/
def fnExactOpenRingSpec : ChangeSpec := { name := "fnExactOpenRing", fn := fun _ => fun
  | [d] => { results := [.lit (.bool true)], args := [d] }
  | _ => none }
def fnExactOpenRingRow : OpenClaim := { program := "ythlifcbkpafofaadoor", sum := "f8eb168abadc940c75cfa6e49f33186efeef33521bf2b79df35bc4a05a8d1ad0", func := "loop.example/g00261/laws.FnExactOpenRing", spec := "fnExactOpenRing", recurses := true, named := ["internal/strconv.uint64pow10", "math/bits.deBruijn32tab", "math/bits.deBruijn64tab"], apart := false, laid := [("math/bits.deBruijn32tab", laid_math_bits_deBruijn32tab), ("math/bits.deBruijn64tab", laid_math_bits_deBruijn64tab), ("internal/strconv.uint64pow10", laid_internal_strconv_uint64pow10)] }
def FnExactOpenRingSaid : Prop := fnExactOpenRingRow.holds Tryd.pinned (OpenSpec.ofChange fnExactOpenRingSpec)

/-- ITS FALSE NEIGHBOUR: 'it returns false'. Refute it at one input. -/
def fnExactOpenRingWrong : ChangeSpec := { name := "fnExactOpenRing", fn := fun _ => fun
  | [d] => { results := [.lit (.bool false)], args := [d] }
  | _ => none }
def FnExactOpenRingWrongFalsely : Prop := fnExactOpenRingRow.holds Tryd.pinned (OpenSpec.ofChange fnExactOpenRingWrong)

/-- 'laws.FnOpened': WHATEVER THE INPUT: true; the input reads as it did. -/
def fnOpenedSpec : ChangeSpec := { name := "fnOpened", fn := fun _ => fun
  | [d1, d2] => { results := [.lit (.bool true)], args := [d1, d2] }
  | _ => none }
def fnOpenedRow : OpenClaim := { program := "ythlifcbkpafofaadoor", sum := "f8eb168abadc940c75cfa6e49f33186efeef33521bf2b79df35bc4a05a8d1ad0", func := "loop.example/g00261/laws.FnOpened", spec := "fnOpened", recurses := true, named := ["internal/strconv.uint64pow10", "math/bits.deBruijn32tab", "math/bits.deBruijn64tab"], apart := false, laid := [("math/bits.deBruijn32tab", laid_math_bits_deBruijn32tab), ("math/bits.deBruijn64tab", laid_math_bits_deBruijn64tab), ("internal/strconv.uint64pow10", laid_internal_strconv_uint64pow10)] }
def FnOpenedSaid : Prop := fnOpenedRow.holds Tryd.pinned (OpenSpec.ofChange fnOpenedSpec)

/-- ITS FALSE NEIGHBOUR: 'it returns false'. Refute it at one input. -/
def fnOpenedWrong : ChangeSpec := { name := "fnOpened", fn := fun _ => fun
  | [d1, d2] => { results := [.lit (.bool false)], args := [d1, d2] }
  | _ => none }
def FnOpenedWrongFalsely : Prop := fnOpenedRow.holds Tryd.pinned (OpenSpec.ofChange fnOpenedWrong)

/- THE SECOND FORM. 'bulk': how many values and letters a reading holds, each counted each time it is reached (what is shared counts as often as it is met; a slice's spare places count too). A statement '..UptoSaid' is the law's where the arguments, and the package variables that the reading takes, are together of bulk at most 1048576: NARROWER than '..Said'. Prove '..Said' where nothing that the law and all that it calls make is longer than what came in: it says more and counts as full. Else prove '..UptoSaid'. A law counts once. -/
mutual
def uptoBulk {H : Type} : DataW H → Nat
  | .lit (.string bytes) => bytes.length + 1
  | .lit _ => 1
  | .nil => 1
  | .ptr d => uptoBulk d + 1
  | .slice elems spare => uptoBulkAll elems + uptoBulkAll spare + 1
  | .agg parts => uptoBulkAll parts + 1
  | .iface _ d => uptoBulk d + 1
  | .map entries => uptoBulkEntries entries + 1
  | .held _ => 1
def uptoBulkAll {H : Type} : List (DataW H) → Nat
  | [] => 0
  | d :: r => uptoBulk d + uptoBulkAll r
def uptoBulkEntries {H : Type} : List (Lit × DataW H) → Nat
  | [] => 0
  | x :: r => uptoBulkEntry x + uptoBulkEntries r
def uptoBulkEntry {H : Type} : Lit × DataW H → Nat
  | (.string bytes, d) => bytes.length + uptoBulk d + 1
  | (_, d) => uptoBulk d + 1
 end
def uptoSmall : (H : Type) → List (DataW H) → Bool := fun _ ds => decide (uptoBulkAll ds ≤ 1048576)
def OpenSpec.upto (s : _root_.Go.ChangeSpec) : _root_.Go.OpenSpec := { _root_.Go.OpenSpec.ofChange s with cond := some uptoSmall }

/-- 'laws.FnExactSlotSum', WHERE WHAT IT READS IS OF BULK AT MOST 1048576: true; the input reads as it did. -/
def fnExactSlotSumUptoRow : OpenClaim := { program := "ythlifcbkpafofaadoor", sum := "f8eb168abadc940c75cfa6e49f33186efeef33521bf2b79df35bc4a05a8d1ad0", func := "loop.example/g00261/laws.FnExactSlotSum", spec := "fnExactSlotSum", recurses := true, named := ["internal/strconv.uint64pow10", "math/bits.deBruijn32tab", "math/bits.deBruijn64tab"], apart := false, laid := [("math/bits.deBruijn32tab", laid_math_bits_deBruijn32tab), ("math/bits.deBruijn64tab", laid_math_bits_deBruijn64tab), ("internal/strconv.uint64pow10", laid_internal_strconv_uint64pow10)], narrowed := true }
def FnExactSlotSumUptoSaid : Prop := fnExactSlotSumUptoRow.holds Tryd.pinned (OpenSpec.upto fnExactSlotSumSpec)

/-- 'laws.FnExactGoodRing', WHERE WHAT IT READS IS OF BULK AT MOST 1048576: true; the input reads as it did. -/
def fnExactGoodRingUptoRow : OpenClaim := { program := "ythlifcbkpafofaadoor", sum := "f8eb168abadc940c75cfa6e49f33186efeef33521bf2b79df35bc4a05a8d1ad0", func := "loop.example/g00261/laws.FnExactGoodRing", spec := "fnExactGoodRing", recurses := true, named := ["internal/strconv.uint64pow10", "math/bits.deBruijn32tab", "math/bits.deBruijn64tab"], apart := false, laid := [("math/bits.deBruijn32tab", laid_math_bits_deBruijn32tab), ("math/bits.deBruijn64tab", laid_math_bits_deBruijn64tab), ("internal/strconv.uint64pow10", laid_internal_strconv_uint64pow10)], narrowed := true }
def FnExactGoodRingUptoSaid : Prop := fnExactGoodRingUptoRow.holds Tryd.pinned (OpenSpec.upto fnExactGoodRingSpec)

/-- 'laws.FnExactNewRing', WHERE WHAT IT READS IS OF BULK AT MOST 1048576: true; the input reads as it did. -/
def fnExactNewRingUptoRow : OpenClaim := { program := "ythlifcbkpafofaadoor", sum := "f8eb168abadc940c75cfa6e49f33186efeef33521bf2b79df35bc4a05a8d1ad0", func := "loop.example/g00261/laws.FnExactNewRing", spec := "fnExactNewRing", recurses := true, named := ["internal/strconv.uint64pow10", "math/bits.deBruijn32tab", "math/bits.deBruijn64tab"], apart := false, laid := [("math/bits.deBruijn32tab", laid_math_bits_deBruijn32tab), ("math/bits.deBruijn64tab", laid_math_bits_deBruijn64tab), ("internal/strconv.uint64pow10", laid_internal_strconv_uint64pow10)], narrowed := true }
def FnExactNewRingUptoSaid : Prop := fnExactNewRingUptoRow.holds Tryd.pinned (OpenSpec.upto fnExactNewRingSpec)

/-- 'laws.FnExactRoomFor', WHERE WHAT IT READS IS OF BULK AT MOST 1048576: true; the input reads as it did. -/
def fnExactRoomForUptoRow : OpenClaim := { program := "ythlifcbkpafofaadoor", sum := "f8eb168abadc940c75cfa6e49f33186efeef33521bf2b79df35bc4a05a8d1ad0", func := "loop.example/g00261/laws.FnExactRoomFor", spec := "fnExactRoomFor", recurses := true, named := ["internal/strconv.uint64pow10", "math/bits.deBruijn32tab", "math/bits.deBruijn64tab"], apart := false, laid := [("math/bits.deBruijn32tab", laid_math_bits_deBruijn32tab), ("math/bits.deBruijn64tab", laid_math_bits_deBruijn64tab), ("internal/strconv.uint64pow10", laid_internal_strconv_uint64pow10)], narrowed := true }
def FnExactRoomForUptoSaid : Prop := fnExactRoomForUptoRow.holds Tryd.pinned (OpenSpec.upto fnExactRoomForSpec)

/-- 'laws.FnExactRecordsOf', WHERE WHAT IT READS IS OF BULK AT MOST 1048576: true; the input reads as it did. -/
def fnExactRecordsOfUptoRow : OpenClaim := { program := "ythlifcbkpafofaadoor", sum := "f8eb168abadc940c75cfa6e49f33186efeef33521bf2b79df35bc4a05a8d1ad0", func := "loop.example/g00261/laws.FnExactRecordsOf", spec := "fnExactRecordsOf", recurses := true, named := ["internal/strconv.uint64pow10", "math/bits.deBruijn32tab", "math/bits.deBruijn64tab"], apart := false, laid := [("math/bits.deBruijn32tab", laid_math_bits_deBruijn32tab), ("math/bits.deBruijn64tab", laid_math_bits_deBruijn64tab), ("internal/strconv.uint64pow10", laid_internal_strconv_uint64pow10)], narrowed := true }
def FnExactRecordsOfUptoSaid : Prop := fnExactRecordsOfUptoRow.holds Tryd.pinned (OpenSpec.upto fnExactRecordsOfSpec)

/-- 'laws.FnRing', WHERE WHAT IT READS IS OF BULK AT MOST 1048576: true; the input reads as it did. -/
def fnRingUptoRow : OpenClaim := { program := "ythlifcbkpafofaadoor", sum := "f8eb168abadc940c75cfa6e49f33186efeef33521bf2b79df35bc4a05a8d1ad0", func := "loop.example/g00261/laws.FnRing", spec := "fnRing", recurses := true, named := ["internal/strconv.uint64pow10", "math/bits.deBruijn32tab", "math/bits.deBruijn64tab"], apart := false, laid := [("math/bits.deBruijn32tab", laid_math_bits_deBruijn32tab), ("math/bits.deBruijn64tab", laid_math_bits_deBruijn64tab), ("internal/strconv.uint64pow10", laid_internal_strconv_uint64pow10)], narrowed := true }
def FnRingUptoSaid : Prop := fnRingUptoRow.holds Tryd.pinned (OpenSpec.upto fnRingSpec)

/-- 'laws.FnExactPushTail', WHERE WHAT IT READS IS OF BULK AT MOST 1048576: true; the input reads as it did. -/
def fnExactPushTailUptoRow : OpenClaim := { program := "ythlifcbkpafofaadoor", sum := "f8eb168abadc940c75cfa6e49f33186efeef33521bf2b79df35bc4a05a8d1ad0", func := "loop.example/g00261/laws.FnExactPushTail", spec := "fnExactPushTail", recurses := true, named := ["internal/strconv.uint64pow10", "math/bits.deBruijn32tab", "math/bits.deBruijn64tab"], apart := false, laid := [("math/bits.deBruijn32tab", laid_math_bits_deBruijn32tab), ("math/bits.deBruijn64tab", laid_math_bits_deBruijn64tab), ("internal/strconv.uint64pow10", laid_internal_strconv_uint64pow10)], narrowed := true }
def FnExactPushTailUptoSaid : Prop := fnExactPushTailUptoRow.holds Tryd.pinned (OpenSpec.upto fnExactPushTailSpec)

/-- 'laws.FnExactPutRecord', WHERE WHAT IT READS IS OF BULK AT MOST 1048576: true; the input reads as it did. -/
def fnExactPutRecordUptoRow : OpenClaim := { program := "ythlifcbkpafofaadoor", sum := "f8eb168abadc940c75cfa6e49f33186efeef33521bf2b79df35bc4a05a8d1ad0", func := "loop.example/g00261/laws.FnExactPutRecord", spec := "fnExactPutRecord", recurses := true, named := ["internal/strconv.uint64pow10", "math/bits.deBruijn32tab", "math/bits.deBruijn64tab"], apart := false, laid := [("math/bits.deBruijn32tab", laid_math_bits_deBruijn32tab), ("math/bits.deBruijn64tab", laid_math_bits_deBruijn64tab), ("internal/strconv.uint64pow10", laid_internal_strconv_uint64pow10)], narrowed := true }
def FnExactPutRecordUptoSaid : Prop := fnExactPutRecordUptoRow.holds Tryd.pinned (OpenSpec.upto fnExactPutRecordSpec)

/-- 'laws.FnExactOpenRing', WHERE WHAT IT READS IS OF BULK AT MOST 1048576: true; the input reads as it did. -/
def fnExactOpenRingUptoRow : OpenClaim := { program := "ythlifcbkpafofaadoor", sum := "f8eb168abadc940c75cfa6e49f33186efeef33521bf2b79df35bc4a05a8d1ad0", func := "loop.example/g00261/laws.FnExactOpenRing", spec := "fnExactOpenRing", recurses := true, named := ["internal/strconv.uint64pow10", "math/bits.deBruijn32tab", "math/bits.deBruijn64tab"], apart := false, laid := [("math/bits.deBruijn32tab", laid_math_bits_deBruijn32tab), ("math/bits.deBruijn64tab", laid_math_bits_deBruijn64tab), ("internal/strconv.uint64pow10", laid_internal_strconv_uint64pow10)], narrowed := true }
def FnExactOpenRingUptoSaid : Prop := fnExactOpenRingUptoRow.holds Tryd.pinned (OpenSpec.upto fnExactOpenRingSpec)

/-- 'laws.FnOpened', WHERE WHAT IT READS IS OF BULK AT MOST 1048576: true; the input reads as it did. -/
def fnOpenedUptoRow : OpenClaim := { program := "ythlifcbkpafofaadoor", sum := "f8eb168abadc940c75cfa6e49f33186efeef33521bf2b79df35bc4a05a8d1ad0", func := "loop.example/g00261/laws.FnOpened", spec := "fnOpened", recurses := true, named := ["internal/strconv.uint64pow10", "math/bits.deBruijn32tab", "math/bits.deBruijn64tab"], apart := false, laid := [("math/bits.deBruijn32tab", laid_math_bits_deBruijn32tab), ("math/bits.deBruijn64tab", laid_math_bits_deBruijn64tab), ("internal/strconv.uint64pow10", laid_internal_strconv_uint64pow10)], narrowed := true }
def FnOpenedUptoSaid : Prop := fnOpenedUptoRow.holds Tryd.pinned (OpenSpec.upto fnOpenedSpec)

end Rows
end Go.Proofs.YthlifcbkpafofaaDoor
