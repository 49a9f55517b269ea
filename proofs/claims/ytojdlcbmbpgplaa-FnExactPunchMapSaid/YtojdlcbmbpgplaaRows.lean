/-
  No cell of these rows narrows 'for every input' (looked for: loops, veiled, ifaces, maps, wideKeys, modest, calm, conditions, laid).
  DERIVED. THE GIVEN ROWS OF THIS SEAT. 11 by the template 'for every input the law returns true; each argument reads behind the call as it read before'; 0 by the template 'total and deterministic' (their statements: YtojdlcbmbpgplaaTotals.lean).
  GIVEN WITH THE SEED: the statements are not yours to turn. If you find one false, say at which input.
  Laid BY PROGRAM, IN A SANDBOX (cutbox-rows.mjs): the forced cells as the released guide's own fill.sh prints them over the translation fc97cfb147695c1e… (all of the seat's roots in one cut). By AI agents, Wed Nov 11 2026. No macro, syntax, notation, axiom, sorry.
-/
import Derived.Test.YtojdlcbmbpgplaaChecked
import GoSem.Claim
import GoSem.ClaimJoined
import GoSem.ClaimMapViews
import Derived.JoinedTies
import Derived.KernelRfl
namespace Go.Proofs.Ytojdlcbmbpgplaa
/- THE CELL 'sum', in the pinned program and in every row, IS THE sha256 OF THE DUMP (.gsa) THAT YtojdlcbmbpgplaaProg.lean LOADS. Nothing in Lean hashes anything: it is a label: what it is worth is what the hold of that sum in a sandbox is worth. -/
noncomputable def Try.pinned : Pinned := { name := "ytojdlcbmbpgplaa", sum := "fc97cfb147695c1e3a9d2b0a0859efd4d8e67a6d4e6aadbadd46112d4c1ba34b", checked := Try.checked }
namespace Rows
def none {H : Type} : Left H := { results := [], args := [] }

/-- 'laws.FnExactGoodMap': WHATEVER THE INPUT: true; the input reads as it did. -/
def fnExactGoodMapSpec : ChangeSpec := { name := "fnExactGoodMap", fn := fun _ => fun
  | [d] => { results := [.lit (.bool true)], args := [d] }
  | _ => none }
def fnExactGoodMapRow : OpenClaim := { program := "ytojdlcbmbpgplaa", sum := "fc97cfb147695c1e3a9d2b0a0859efd4d8e67a6d4e6aadbadd46112d4c1ba34b", func := "loop.example/g00261/laws.FnExactGoodMap", spec := "fnExactGoodMap", apart := false }
def FnExactGoodMapSaid : Prop := fnExactGoodMapRow.holds Try.pinned (OpenSpec.ofChange fnExactGoodMapSpec)

/-- ITS FALSE NEIGHBOUR: 'it returns false'. Refute it at one input. -/
def fnExactGoodMapWrong : ChangeSpec := { name := "fnExactGoodMap", fn := fun _ => fun
  | [d] => { results := [.lit (.bool false)], args := [d] }
  | _ => none }
def FnExactGoodMapWrongFalsely : Prop := fnExactGoodMapRow.holds Try.pinned (OpenSpec.ofChange fnExactGoodMapWrong)

/-- 'laws.FnExactMapSize': WHATEVER THE INPUT: true; the input reads as it did. -/
def fnExactMapSizeSpec : ChangeSpec := { name := "fnExactMapSize", fn := fun _ => fun
  | [d] => { results := [.lit (.bool true)], args := [d] }
  | _ => none }
def fnExactMapSizeRow : OpenClaim := { program := "ytojdlcbmbpgplaa", sum := "fc97cfb147695c1e3a9d2b0a0859efd4d8e67a6d4e6aadbadd46112d4c1ba34b", func := "loop.example/g00261/laws.FnExactMapSize", spec := "fnExactMapSize", apart := false }
def FnExactMapSizeSaid : Prop := fnExactMapSizeRow.holds Try.pinned (OpenSpec.ofChange fnExactMapSizeSpec)

/-- ITS FALSE NEIGHBOUR: 'it returns false'. Refute it at one input. -/
def fnExactMapSizeWrong : ChangeSpec := { name := "fnExactMapSize", fn := fun _ => fun
  | [d] => { results := [.lit (.bool false)], args := [d] }
  | _ => none }
def FnExactMapSizeWrongFalsely : Prop := fnExactMapSizeRow.holds Try.pinned (OpenSpec.ofChange fnExactMapSizeWrong)

/-- 'laws.FnExactBlockAt': WHATEVER THE INPUT: true; the input reads as it did. -/
def fnExactBlockAtSpec : ChangeSpec := { name := "fnExactBlockAt", fn := fun _ => fun
  | [d1, d2] => { results := [.lit (.bool true)], args := [d1, d2] }
  | _ => none }
def fnExactBlockAtRow : OpenClaim := { program := "ytojdlcbmbpgplaa", sum := "fc97cfb147695c1e3a9d2b0a0859efd4d8e67a6d4e6aadbadd46112d4c1ba34b", func := "loop.example/g00261/laws.FnExactBlockAt", spec := "fnExactBlockAt", apart := false }
def FnExactBlockAtSaid : Prop := fnExactBlockAtRow.holds Try.pinned (OpenSpec.ofChange fnExactBlockAtSpec)

/-- ITS FALSE NEIGHBOUR: 'it returns false'. Refute it at one input. -/
def fnExactBlockAtWrong : ChangeSpec := { name := "fnExactBlockAt", fn := fun _ => fun
  | [d1, d2] => { results := [.lit (.bool false)], args := [d1, d2] }
  | _ => none }
def FnExactBlockAtWrongFalsely : Prop := fnExactBlockAtRow.holds Try.pinned (OpenSpec.ofChange fnExactBlockAtWrong)

/-- 'laws.FnExactHolesOf': WHATEVER THE INPUT: true; the input reads as it did. -/
def fnExactHolesOfSpec : ChangeSpec := { name := "fnExactHolesOf", fn := fun _ => fun
  | [d1, d2] => { results := [.lit (.bool true)], args := [d1, d2] }
  | _ => none }
def fnExactHolesOfRow : OpenClaim := { program := "ytojdlcbmbpgplaa", sum := "fc97cfb147695c1e3a9d2b0a0859efd4d8e67a6d4e6aadbadd46112d4c1ba34b", func := "loop.example/g00261/laws.FnExactHolesOf", spec := "fnExactHolesOf", unfollowed := true, recurses := true, apart := false }
def FnExactHolesOfSaid : Prop := fnExactHolesOfRow.holds Try.pinned (OpenSpec.ofChange fnExactHolesOfSpec)

/-- ITS FALSE NEIGHBOUR: 'it returns false'. Refute it at one input. -/
def fnExactHolesOfWrong : ChangeSpec := { name := "fnExactHolesOf", fn := fun _ => fun
  | [d1, d2] => { results := [.lit (.bool false)], args := [d1, d2] }
  | _ => none }
def FnExactHolesOfWrongFalsely : Prop := fnExactHolesOfRow.holds Try.pinned (OpenSpec.ofChange fnExactHolesOfWrong)

/-- 'laws.FnExactMapPiece': WHATEVER THE INPUT: true; the input reads as it did. -/
def fnExactMapPieceSpec : ChangeSpec := { name := "fnExactMapPiece", fn := fun _ => fun
  | [d1, d2] => { results := [.lit (.bool true)], args := [d1, d2] }
  | _ => none }
def fnExactMapPieceRow : OpenClaim := { program := "ytojdlcbmbpgplaa", sum := "fc97cfb147695c1e3a9d2b0a0859efd4d8e67a6d4e6aadbadd46112d4c1ba34b", func := "loop.example/g00261/laws.FnExactMapPiece", spec := "fnExactMapPiece", apart := false }
def FnExactMapPieceSaid : Prop := fnExactMapPieceRow.holds Try.pinned (OpenSpec.ofChange fnExactMapPieceSpec)

/-- ITS FALSE NEIGHBOUR: 'it returns false'. Refute it at one input. -/
def fnExactMapPieceWrong : ChangeSpec := { name := "fnExactMapPiece", fn := fun _ => fun
  | [d1, d2] => { results := [.lit (.bool false)], args := [d1, d2] }
  | _ => none }
def FnExactMapPieceWrongFalsely : Prop := fnExactMapPieceRow.holds Try.pinned (OpenSpec.ofChange fnExactMapPieceWrong)

/-- 'laws.FnExactBlocksOf': WHATEVER THE INPUT: true; the input reads as it did. -/
def fnExactBlocksOfSpec : ChangeSpec := { name := "fnExactBlocksOf", fn := fun _ => fun
  | [d] => { results := [.lit (.bool true)], args := [d] }
  | _ => none }
def fnExactBlocksOfRow : OpenClaim := { program := "ytojdlcbmbpgplaa", sum := "fc97cfb147695c1e3a9d2b0a0859efd4d8e67a6d4e6aadbadd46112d4c1ba34b", func := "loop.example/g00261/laws.FnExactBlocksOf", spec := "fnExactBlocksOf", unfollowed := true, recurses := true, apart := false }
def FnExactBlocksOfSaid : Prop := fnExactBlocksOfRow.holds Try.pinned (OpenSpec.ofChange fnExactBlocksOfSpec)

/-- ITS FALSE NEIGHBOUR: 'it returns false'. Refute it at one input. -/
def fnExactBlocksOfWrong : ChangeSpec := { name := "fnExactBlocksOf", fn := fun _ => fun
  | [d] => { results := [.lit (.bool false)], args := [d] }
  | _ => none }
def FnExactBlocksOfWrongFalsely : Prop := fnExactBlocksOfRow.holds Try.pinned (OpenSpec.ofChange fnExactBlocksOfWrong)

/-- 'laws.FnExactWrittenMap': WHATEVER THE INPUT: true; the input reads as it did. -/
def fnExactWrittenMapSpec : ChangeSpec := { name := "fnExactWrittenMap", fn := fun _ => fun
  | [d1, d2, d3] => { results := [.lit (.bool true)], args := [d1, d2, d3] }
  | _ => none }
def fnExactWrittenMapRow : OpenClaim := { program := "ytojdlcbmbpgplaa", sum := "fc97cfb147695c1e3a9d2b0a0859efd4d8e67a6d4e6aadbadd46112d4c1ba34b", func := "loop.example/g00261/laws.FnExactWrittenMap", spec := "fnExactWrittenMap", apart := false }
def FnExactWrittenMapSaid : Prop := fnExactWrittenMapRow.holds Try.pinned (OpenSpec.ofChange fnExactWrittenMapSpec)

/-- ITS FALSE NEIGHBOUR: 'it returns false'. Refute it at one input. -/
def fnExactWrittenMapWrong : ChangeSpec := { name := "fnExactWrittenMap", fn := fun _ => fun
  | [d1, d2, d3] => { results := [.lit (.bool false)], args := [d1, d2, d3] }
  | _ => none }
def FnExactWrittenMapWrongFalsely : Prop := fnExactWrittenMapRow.holds Try.pinned (OpenSpec.ofChange fnExactWrittenMapWrong)

/-- 'laws.FnExactTruncateMap': WHATEVER THE INPUT: true; the input reads as it did. -/
def fnExactTruncateMapSpec : ChangeSpec := { name := "fnExactTruncateMap", fn := fun _ => fun
  | [d1, d2] => { results := [.lit (.bool true)], args := [d1, d2] }
  | _ => none }
def fnExactTruncateMapRow : OpenClaim := { program := "ytojdlcbmbpgplaa", sum := "fc97cfb147695c1e3a9d2b0a0859efd4d8e67a6d4e6aadbadd46112d4c1ba34b", func := "loop.example/g00261/laws.FnExactTruncateMap", spec := "fnExactTruncateMap", unfollowed := true, recurses := true, apart := false }
def FnExactTruncateMapSaid : Prop := fnExactTruncateMapRow.holds Try.pinned (OpenSpec.ofChange fnExactTruncateMapSpec)

/-- ITS FALSE NEIGHBOUR: 'it returns false'. Refute it at one input. -/
def fnExactTruncateMapWrong : ChangeSpec := { name := "fnExactTruncateMap", fn := fun _ => fun
  | [d1, d2] => { results := [.lit (.bool false)], args := [d1, d2] }
  | _ => none }
def FnExactTruncateMapWrongFalsely : Prop := fnExactTruncateMapRow.holds Try.pinned (OpenSpec.ofChange fnExactTruncateMapWrong)

/-- 'laws.FnExactPunchMap': WHATEVER THE INPUT: true; the input reads as it did. -/
def fnExactPunchMapSpec : ChangeSpec := { name := "fnExactPunchMap", fn := fun _ => fun
  | [d1, d2, d3] => { results := [.lit (.bool true)], args := [d1, d2, d3] }
  | _ => none }
def fnExactPunchMapRow : OpenClaim := { program := "ytojdlcbmbpgplaa", sum := "fc97cfb147695c1e3a9d2b0a0859efd4d8e67a6d4e6aadbadd46112d4c1ba34b", func := "loop.example/g00261/laws.FnExactPunchMap", spec := "fnExactPunchMap", unfollowed := true, recurses := true, apart := false }
def FnExactPunchMapSaid : Prop := fnExactPunchMapRow.holds Try.pinned (OpenSpec.ofChange fnExactPunchMapSpec)

/-- ITS FALSE NEIGHBOUR: 'it returns false'. Refute it at one input. -/
def fnExactPunchMapWrong : ChangeSpec := { name := "fnExactPunchMap", fn := fun _ => fun
  | [d1, d2, d3] => { results := [.lit (.bool false)], args := [d1, d2, d3] }
  | _ => none }
def FnExactPunchMapWrongFalsely : Prop := fnExactPunchMapRow.holds Try.pinned (OpenSpec.ofChange fnExactPunchMapWrong)

/-- 'laws.FnMapped': WHATEVER THE INPUT: true; the input reads as it did. -/
def fnMappedSpec : ChangeSpec := { name := "fnMapped", fn := fun _ => fun
  | [d] => { results := [.lit (.bool true)], args := [d] }
  | _ => none }
def fnMappedRow : OpenClaim := { program := "ytojdlcbmbpgplaa", sum := "fc97cfb147695c1e3a9d2b0a0859efd4d8e67a6d4e6aadbadd46112d4c1ba34b", func := "loop.example/g00261/laws.FnMapped", spec := "fnMapped", unfollowed := true, recurses := true, apart := false }
def FnMappedSaid : Prop := fnMappedRow.holds Try.pinned (OpenSpec.ofChange fnMappedSpec)

/-- ITS FALSE NEIGHBOUR: 'it returns false'. Refute it at one input. -/
def fnMappedWrong : ChangeSpec := { name := "fnMapped", fn := fun _ => fun
  | [d] => { results := [.lit (.bool false)], args := [d] }
  | _ => none }
def FnMappedWrongFalsely : Prop := fnMappedRow.holds Try.pinned (OpenSpec.ofChange fnMappedWrong)

/-- 'laws.FnPunched': WHATEVER THE INPUT: true; the input reads as it did. -/
def fnPunchedSpec : ChangeSpec := { name := "fnPunched", fn := fun _ => fun
  | [d1, d2] => { results := [.lit (.bool true)], args := [d1, d2] }
  | _ => none }
def fnPunchedRow : OpenClaim := { program := "ytojdlcbmbpgplaa", sum := "fc97cfb147695c1e3a9d2b0a0859efd4d8e67a6d4e6aadbadd46112d4c1ba34b", func := "loop.example/g00261/laws.FnPunched", spec := "fnPunched", unfollowed := true, recurses := true, apart := false }
def FnPunchedSaid : Prop := fnPunchedRow.holds Try.pinned (OpenSpec.ofChange fnPunchedSpec)

/-- ITS FALSE NEIGHBOUR: 'it returns false'. Refute it at one input. -/
def fnPunchedWrong : ChangeSpec := { name := "fnPunched", fn := fun _ => fun
  | [d1, d2] => { results := [.lit (.bool false)], args := [d1, d2] }
  | _ => none }
def FnPunchedWrongFalsely : Prop := fnPunchedRow.holds Try.pinned (OpenSpec.ofChange fnPunchedWrong)

/- THE SECOND FORM. 'bulk': how many values and letters a reading holds, each counted each time it is reached (what is shared counts as often as it is met; a slice's spare places count too). A statement '..UptoSaid' is the law's where the arguments, and the package variables that the reading takes, are together of bulk at most 1048576: NARROWER than '..Said'. Prove '..Said' where nothing that the law and all that it calls make is longer than what came in: it says more and counts as full. Else prove '..UptoSaid'. A law counts once. -/
mutual
def uptoBulk {H : Type} : DataW H → Nat
  | .lit (.string bytes) => bytes.length + 1
  | .lit _ => 1
  | .nil => 1
  | .ptr d => uptoBulk d + 1
  | .slice elems spare => uptoBulkAll elems + uptoBulkAll spare + 1
  | .agg parts => uptoBulkAll parts + 1
  | .iface _ d => uptoBulk d + 1
  | .map entries => uptoBulkEntries entries + 1
  | .held _ => 1
def uptoBulkAll {H : Type} : List (DataW H) → Nat
  | [] => 0
  | d :: r => uptoBulk d + uptoBulkAll r
def uptoBulkEntries {H : Type} : List (Lit × DataW H) → Nat
  | [] => 0
  | x :: r => uptoBulkEntry x + uptoBulkEntries r
def uptoBulkEntry {H : Type} : Lit × DataW H → Nat
  | (.string bytes, d) => bytes.length + uptoBulk d + 1
  | (_, d) => uptoBulk d + 1
 end
def uptoSmall : (H : Type) → List (DataW H) → Bool := fun _ ds => decide (uptoBulkAll ds ≤ 1048576)
def OpenSpec.upto (s : _root_.Go.ChangeSpec) : _root_.Go.OpenSpec := { _root_.Go.OpenSpec.ofChange s with cond := some uptoSmall }

/-- 'laws.FnExactGoodMap', WHERE WHAT IT READS IS OF BULK AT MOST 1048576: true; the input reads as it did. -/
def fnExactGoodMapUptoRow : OpenClaim := { program := "ytojdlcbmbpgplaa", sum := "fc97cfb147695c1e3a9d2b0a0859efd4d8e67a6d4e6aadbadd46112d4c1ba34b", func := "loop.example/g00261/laws.FnExactGoodMap", spec := "fnExactGoodMap", apart := false, narrowed := true }
def FnExactGoodMapUptoSaid : Prop := fnExactGoodMapUptoRow.holds Try.pinned (OpenSpec.upto fnExactGoodMapSpec)

/-- 'laws.FnExactMapSize', WHERE WHAT IT READS IS OF BULK AT MOST 1048576: true; the input reads as it did. -/
def fnExactMapSizeUptoRow : OpenClaim := { program := "ytojdlcbmbpgplaa", sum := "fc97cfb147695c1e3a9d2b0a0859efd4d8e67a6d4e6aadbadd46112d4c1ba34b", func := "loop.example/g00261/laws.FnExactMapSize", spec := "fnExactMapSize", apart := false, narrowed := true }
def FnExactMapSizeUptoSaid : Prop := fnExactMapSizeUptoRow.holds Try.pinned (OpenSpec.upto fnExactMapSizeSpec)

/-- 'laws.FnExactBlockAt', WHERE WHAT IT READS IS OF BULK AT MOST 1048576: true; the input reads as it did. -/
def fnExactBlockAtUptoRow : OpenClaim := { program := "ytojdlcbmbpgplaa", sum := "fc97cfb147695c1e3a9d2b0a0859efd4d8e67a6d4e6aadbadd46112d4c1ba34b", func := "loop.example/g00261/laws.FnExactBlockAt", spec := "fnExactBlockAt", apart := false, narrowed := true }
def FnExactBlockAtUptoSaid : Prop := fnExactBlockAtUptoRow.holds Try.pinned (OpenSpec.upto fnExactBlockAtSpec)

/-- 'laws.FnExactHolesOf', WHERE WHAT IT READS IS OF BULK AT MOST 1048576: true; the input reads as it did. -/
def fnExactHolesOfUptoRow : OpenClaim := { program := "ytojdlcbmbpgplaa", sum := "fc97cfb147695c1e3a9d2b0a0859efd4d8e67a6d4e6aadbadd46112d4c1ba34b", func := "loop.example/g00261/laws.FnExactHolesOf", spec := "fnExactHolesOf", unfollowed := true, recurses := true, apart := false, narrowed := true }
def FnExactHolesOfUptoSaid : Prop := fnExactHolesOfUptoRow.holds Try.pinned (OpenSpec.upto fnExactHolesOfSpec)

/-- 'laws.FnExactMapPiece', WHERE WHAT IT READS IS OF BULK AT MOST 1048576: true; the input reads as it did. -/
def fnExactMapPieceUptoRow : OpenClaim := { program := "ytojdlcbmbpgplaa", sum := "fc97cfb147695c1e3a9d2b0a0859efd4d8e67a6d4e6aadbadd46112d4c1ba34b", func := "loop.example/g00261/laws.FnExactMapPiece", spec := "fnExactMapPiece", apart := false, narrowed := true }
def FnExactMapPieceUptoSaid : Prop := fnExactMapPieceUptoRow.holds Try.pinned (OpenSpec.upto fnExactMapPieceSpec)

/-- 'laws.FnExactBlocksOf', WHERE WHAT IT READS IS OF BULK AT MOST 1048576: true; the input reads as it did. -/
def fnExactBlocksOfUptoRow : OpenClaim := { program := "ytojdlcbmbpgplaa", sum := "fc97cfb147695c1e3a9d2b0a0859efd4d8e67a6d4e6aadbadd46112d4c1ba34b", func := "loop.example/g00261/laws.FnExactBlocksOf", spec := "fnExactBlocksOf", unfollowed := true, recurses := true, apart := false, narrowed := true }
def FnExactBlocksOfUptoSaid : Prop := fnExactBlocksOfUptoRow.holds Try.pinned (OpenSpec.upto fnExactBlocksOfSpec)

/-- 'laws.FnExactWrittenMap', WHERE WHAT IT READS IS OF BULK AT MOST 1048576: true; the input reads as it did. -/
def fnExactWrittenMapUptoRow : OpenClaim := { program := "ytojdlcbmbpgplaa", sum := "fc97cfb147695c1e3a9d2b0a0859efd4d8e67a6d4e6aadbadd46112d4c1ba34b", func := "loop.example/g00261/laws.FnExactWrittenMap", spec := "fnExactWrittenMap", apart := false, narrowed := true }
def FnExactWrittenMapUptoSaid : Prop := fnExactWrittenMapUptoRow.holds Try.pinned (OpenSpec.upto fnExactWrittenMapSpec)

/-- 'laws.FnExactTruncateMap', WHERE WHAT IT READS IS OF BULK AT MOST 1048576: true; the input reads as it did. -/
def fnExactTruncateMapUptoRow : OpenClaim := { program := "ytojdlcbmbpgplaa", sum := "fc97cfb147695c1e3a9d2b0a0859efd4d8e67a6d4e6aadbadd46112d4c1ba34b", func := "loop.example/g00261/laws.FnExactTruncateMap", spec := "fnExactTruncateMap", unfollowed := true, recurses := true, apart := false, narrowed := true }
def FnExactTruncateMapUptoSaid : Prop := fnExactTruncateMapUptoRow.holds Try.pinned (OpenSpec.upto fnExactTruncateMapSpec)

/-- 'laws.FnExactPunchMap', WHERE WHAT IT READS IS OF BULK AT MOST 1048576: true; the input reads as it did. -/
def fnExactPunchMapUptoRow : OpenClaim := { program := "ytojdlcbmbpgplaa", sum := "fc97cfb147695c1e3a9d2b0a0859efd4d8e67a6d4e6aadbadd46112d4c1ba34b", func := "loop.example/g00261/laws.FnExactPunchMap", spec := "fnExactPunchMap", unfollowed := true, recurses := true, apart := false, narrowed := true }
def FnExactPunchMapUptoSaid : Prop := fnExactPunchMapUptoRow.holds Try.pinned (OpenSpec.upto fnExactPunchMapSpec)

/-- 'laws.FnMapped', WHERE WHAT IT READS IS OF BULK AT MOST 1048576: true; the input reads as it did. -/
def fnMappedUptoRow : OpenClaim := { program := "ytojdlcbmbpgplaa", sum := "fc97cfb147695c1e3a9d2b0a0859efd4d8e67a6d4e6aadbadd46112d4c1ba34b", func := "loop.example/g00261/laws.FnMapped", spec := "fnMapped", unfollowed := true, recurses := true, apart := false, narrowed := true }
def FnMappedUptoSaid : Prop := fnMappedUptoRow.holds Try.pinned (OpenSpec.upto fnMappedSpec)

/-- 'laws.FnPunched', WHERE WHAT IT READS IS OF BULK AT MOST 1048576: true; the input reads as it did. -/
def fnPunchedUptoRow : OpenClaim := { program := "ytojdlcbmbpgplaa", sum := "fc97cfb147695c1e3a9d2b0a0859efd4d8e67a6d4e6aadbadd46112d4c1ba34b", func := "loop.example/g00261/laws.FnPunched", spec := "fnPunched", unfollowed := true, recurses := true, apart := false, narrowed := true }
def FnPunchedUptoSaid : Prop := fnPunchedUptoRow.holds Try.pinned (OpenSpec.upto fnPunchedSpec)

end Rows
end Go.Proofs.Ytojdlcbmbpgplaa
