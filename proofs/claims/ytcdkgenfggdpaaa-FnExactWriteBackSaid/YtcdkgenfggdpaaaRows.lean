/-
  No cell of these rows narrows 'for every input' (looked for: loops, veiled, ifaces, maps, wideKeys, modest, calm, conditions, laid).
  DERIVED. THE GIVEN ROWS OF THIS SEAT. 13 by the template 'for every input the law returns true; each argument reads behind the call as it read before'; 0 by the template 'total and deterministic' (their statements: YtcdkgenfggdpaaaTotals.lean).
  GIVEN WITH THE SEED: the statements are not yours to turn. If you find one false, say at which input.
  Laid BY PROGRAM, IN A SANDBOX (cutbox-rows.mjs): the forced cells as the released guide's own fill.sh prints them over the translation d252ea63bae82267… (all of the seat's roots in one cut). By AI agents, Wed Nov 11 2026. No macro, syntax, notation, axiom, sorry.
-/
import Derived.Test.YtcdkgenfggdpaaaChecked
import GoSem.Claim
import GoSem.ClaimJoined
import GoSem.ClaimMapViews
import Derived.JoinedTies
import Derived.KernelRfl
namespace Go.Proofs.Ytcdkgenfggdpaaa
/- THE CELL 'sum', in the pinned program and in every row, IS THE sha256 OF THE DUMP (.gsa) THAT YtcdkgenfggdpaaaProg.lean LOADS. Nothing in Lean hashes anything: it is a label: what it is worth is what the hold of that sum in a sandbox is worth. -/
noncomputable def Try.pinned : Pinned := { name := "ytcdkgenfggdpaaa", sum := "d252ea63bae82267cbcf54349774576eb20355a7ad92f211483eace5254a3aaf", checked := Try.checked }
namespace Rows
def none {H : Type} : Left H := { results := [], args := [] }

/-- 'laws.FnExactTxnText': WHATEVER THE INPUT: true; the input reads as it did. -/
def fnExactTxnTextSpec : ChangeSpec := { name := "fnExactTxnText", fn := fun _ => fun
  | [d] => { results := [.lit (.bool true)], args := [d] }
  | _ => none }
def fnExactTxnTextRow : OpenClaim := { program := "ytcdkgenfggdpaaa", sum := "d252ea63bae82267cbcf54349774576eb20355a7ad92f211483eace5254a3aaf", func := "loop.example/g00261/laws.FnExactTxnText", spec := "fnExactTxnText", unfollowed := true, recurses := true, apart := false }
def FnExactTxnTextSaid : Prop := fnExactTxnTextRow.holds Try.pinned (OpenSpec.ofChange fnExactTxnTextSpec)

/-- ITS FALSE NEIGHBOUR: 'it returns false'. Refute it at one input. -/
def fnExactTxnTextWrong : ChangeSpec := { name := "fnExactTxnText", fn := fun _ => fun
  | [d] => { results := [.lit (.bool false)], args := [d] }
  | _ => none }
def FnExactTxnTextWrongFalsely : Prop := fnExactTxnTextRow.holds Try.pinned (OpenSpec.ofChange fnExactTxnTextWrong)

/-- 'laws.FnExactReadTxn': WHATEVER THE INPUT: true; the input reads as it did. -/
def fnExactReadTxnSpec : ChangeSpec := { name := "fnExactReadTxn", fn := fun _ => fun
  | [d] => { results := [.lit (.bool true)], args := [d] }
  | _ => none }
def fnExactReadTxnRow : OpenClaim := { program := "ytcdkgenfggdpaaa", sum := "d252ea63bae82267cbcf54349774576eb20355a7ad92f211483eace5254a3aaf", func := "loop.example/g00261/laws.FnExactReadTxn", spec := "fnExactReadTxn", unfollowed := true, recurses := true, apart := false }
def FnExactReadTxnSaid : Prop := fnExactReadTxnRow.holds Try.pinned (OpenSpec.ofChange fnExactReadTxnSpec)

/-- ITS FALSE NEIGHBOUR: 'it returns false'. Refute it at one input. -/
def fnExactReadTxnWrong : ChangeSpec := { name := "fnExactReadTxn", fn := fun _ => fun
  | [d] => { results := [.lit (.bool false)], args := [d] }
  | _ => none }
def FnExactReadTxnWrongFalsely : Prop := fnExactReadTxnRow.holds Try.pinned (OpenSpec.ofChange fnExactReadTxnWrong)

/-- 'laws.FnExactGoodStore': WHATEVER THE INPUT: true; the input reads as it did. -/
def fnExactGoodStoreSpec : ChangeSpec := { name := "fnExactGoodStore", fn := fun _ => fun
  | [d] => { results := [.lit (.bool true)], args := [d] }
  | _ => none }
def fnExactGoodStoreRow : OpenClaim := { program := "ytcdkgenfggdpaaa", sum := "d252ea63bae82267cbcf54349774576eb20355a7ad92f211483eace5254a3aaf", func := "loop.example/g00261/laws.FnExactGoodStore", spec := "fnExactGoodStore", unfollowed := true, recurses := true, apart := false }
def FnExactGoodStoreSaid : Prop := fnExactGoodStoreRow.holds Try.pinned (OpenSpec.ofChange fnExactGoodStoreSpec)

/-- ITS FALSE NEIGHBOUR: 'it returns false'. Refute it at one input. -/
def fnExactGoodStoreWrong : ChangeSpec := { name := "fnExactGoodStore", fn := fun _ => fun
  | [d] => { results := [.lit (.bool false)], args := [d] }
  | _ => none }
def FnExactGoodStoreWrongFalsely : Prop := fnExactGoodStoreRow.holds Try.pinned (OpenSpec.ofChange fnExactGoodStoreWrong)

/-- 'laws.FnExactNewStore': WHATEVER THE INPUT: true; the input reads as it did. -/
def fnExactNewStoreSpec : ChangeSpec := { name := "fnExactNewStore", fn := fun _ => fun
  | [d] => { results := [.lit (.bool true)], args := [d] }
  | _ => none }
def fnExactNewStoreRow : OpenClaim := { program := "ytcdkgenfggdpaaa", sum := "d252ea63bae82267cbcf54349774576eb20355a7ad92f211483eace5254a3aaf", func := "loop.example/g00261/laws.FnExactNewStore", spec := "fnExactNewStore", inPlace := ["internal/abi.NoEscape", "internal/bytealg.MakeNoZero"], apart := false }
def FnExactNewStoreSaid : Prop := fnExactNewStoreRow.holds Try.pinned (OpenSpec.ofChange fnExactNewStoreSpec)

/-- ITS FALSE NEIGHBOUR: 'it returns false'. Refute it at one input. -/
def fnExactNewStoreWrong : ChangeSpec := { name := "fnExactNewStore", fn := fun _ => fun
  | [d] => { results := [.lit (.bool false)], args := [d] }
  | _ => none }
def FnExactNewStoreWrongFalsely : Prop := fnExactNewStoreRow.holds Try.pinned (OpenSpec.ofChange fnExactNewStoreWrong)

/-- 'laws.FnExactViewOf': WHATEVER THE INPUT: true; the input reads as it did. -/
def fnExactViewOfSpec : ChangeSpec := { name := "fnExactViewOf", fn := fun _ => fun
  | [d] => { results := [.lit (.bool true)], args := [d] }
  | _ => none }
def fnExactViewOfRow : OpenClaim := { program := "ytcdkgenfggdpaaa", sum := "d252ea63bae82267cbcf54349774576eb20355a7ad92f211483eace5254a3aaf", func := "loop.example/g00261/laws.FnExactViewOf", spec := "fnExactViewOf", unfollowed := true, recurses := true, apart := false }
def FnExactViewOfSaid : Prop := fnExactViewOfRow.holds Try.pinned (OpenSpec.ofChange fnExactViewOfSpec)

/-- ITS FALSE NEIGHBOUR: 'it returns false'. Refute it at one input. -/
def fnExactViewOfWrong : ChangeSpec := { name := "fnExactViewOf", fn := fun _ => fun
  | [d] => { results := [.lit (.bool false)], args := [d] }
  | _ => none }
def FnExactViewOfWrongFalsely : Prop := fnExactViewOfRow.holds Try.pinned (OpenSpec.ofChange fnExactViewOfWrong)

/-- 'laws.FnExactCommit': WHATEVER THE INPUT: true; the input reads as it did. -/
def fnExactCommitSpec : ChangeSpec := { name := "fnExactCommit", fn := fun _ => fun
  | [d1, d2] => { results := [.lit (.bool true)], args := [d1, d2] }
  | _ => none }
def fnExactCommitRow : OpenClaim := { program := "ytcdkgenfggdpaaa", sum := "d252ea63bae82267cbcf54349774576eb20355a7ad92f211483eace5254a3aaf", func := "loop.example/g00261/laws.FnExactCommit", spec := "fnExactCommit", unfollowed := true, recurses := true, apart := false }
def FnExactCommitSaid : Prop := fnExactCommitRow.holds Try.pinned (OpenSpec.ofChange fnExactCommitSpec)

/-- ITS FALSE NEIGHBOUR: 'it returns false'. Refute it at one input. -/
def fnExactCommitWrong : ChangeSpec := { name := "fnExactCommit", fn := fun _ => fun
  | [d1, d2] => { results := [.lit (.bool false)], args := [d1, d2] }
  | _ => none }
def FnExactCommitWrongFalsely : Prop := fnExactCommitRow.holds Try.pinned (OpenSpec.ofChange fnExactCommitWrong)

/-- 'laws.FnExactSyncLog': WHATEVER THE INPUT: true; the input reads as it did. -/
def fnExactSyncLogSpec : ChangeSpec := { name := "fnExactSyncLog", fn := fun _ => fun
  | [d] => { results := [.lit (.bool true)], args := [d] }
  | _ => none }
def fnExactSyncLogRow : OpenClaim := { program := "ytcdkgenfggdpaaa", sum := "d252ea63bae82267cbcf54349774576eb20355a7ad92f211483eace5254a3aaf", func := "loop.example/g00261/laws.FnExactSyncLog", spec := "fnExactSyncLog", unfollowed := true, recurses := true, apart := false }
def FnExactSyncLogSaid : Prop := fnExactSyncLogRow.holds Try.pinned (OpenSpec.ofChange fnExactSyncLogSpec)

/-- ITS FALSE NEIGHBOUR: 'it returns false'. Refute it at one input. -/
def fnExactSyncLogWrong : ChangeSpec := { name := "fnExactSyncLog", fn := fun _ => fun
  | [d] => { results := [.lit (.bool false)], args := [d] }
  | _ => none }
def FnExactSyncLogWrongFalsely : Prop := fnExactSyncLogRow.holds Try.pinned (OpenSpec.ofChange fnExactSyncLogWrong)

/-- 'laws.FnExactRecoverStore': WHATEVER THE INPUT: true; the input reads as it did. -/
def fnExactRecoverStoreSpec : ChangeSpec := { name := "fnExactRecoverStore", fn := fun _ => fun
  | [d] => { results := [.lit (.bool true)], args := [d] }
  | _ => none }
def fnExactRecoverStoreRow : OpenClaim := { program := "ytcdkgenfggdpaaa", sum := "d252ea63bae82267cbcf54349774576eb20355a7ad92f211483eace5254a3aaf", func := "loop.example/g00261/laws.FnExactRecoverStore", spec := "fnExactRecoverStore", unfollowed := true, recurses := true, apart := false }
def FnExactRecoverStoreSaid : Prop := fnExactRecoverStoreRow.holds Try.pinned (OpenSpec.ofChange fnExactRecoverStoreSpec)

/-- ITS FALSE NEIGHBOUR: 'it returns false'. Refute it at one input. -/
def fnExactRecoverStoreWrong : ChangeSpec := { name := "fnExactRecoverStore", fn := fun _ => fun
  | [d] => { results := [.lit (.bool false)], args := [d] }
  | _ => none }
def FnExactRecoverStoreWrongFalsely : Prop := fnExactRecoverStoreRow.holds Try.pinned (OpenSpec.ofChange fnExactRecoverStoreWrong)

/-- 'laws.FnExactWriteBack': WHATEVER THE INPUT: true; the input reads as it did. -/
def fnExactWriteBackSpec : ChangeSpec := { name := "fnExactWriteBack", fn := fun _ => fun
  | [d] => { results := [.lit (.bool true)], args := [d] }
  | _ => none }
def fnExactWriteBackRow : OpenClaim := { program := "ytcdkgenfggdpaaa", sum := "d252ea63bae82267cbcf54349774576eb20355a7ad92f211483eace5254a3aaf", func := "loop.example/g00261/laws.FnExactWriteBack", spec := "fnExactWriteBack", unfollowed := true, recurses := true, apart := false }
def FnExactWriteBackSaid : Prop := fnExactWriteBackRow.holds Try.pinned (OpenSpec.ofChange fnExactWriteBackSpec)

/-- ITS FALSE NEIGHBOUR: 'it returns false'. Refute it at one input. -/
def fnExactWriteBackWrong : ChangeSpec := { name := "fnExactWriteBack", fn := fun _ => fun
  | [d] => { results := [.lit (.bool false)], args := [d] }
  | _ => none }
def FnExactWriteBackWrongFalsely : Prop := fnExactWriteBackRow.holds Try.pinned (OpenSpec.ofChange fnExactWriteBackWrong)

/-- 'laws.FnExactCheckpointLog': WHATEVER THE INPUT: true; the input reads as it did. -/
def fnExactCheckpointLogSpec : ChangeSpec := { name := "fnExactCheckpointLog", fn := fun _ => fun
  | [d] => { results := [.lit (.bool true)], args := [d] }
  | _ => none }
def fnExactCheckpointLogRow : OpenClaim := { program := "ytcdkgenfggdpaaa", sum := "d252ea63bae82267cbcf54349774576eb20355a7ad92f211483eace5254a3aaf", func := "loop.example/g00261/laws.FnExactCheckpointLog", spec := "fnExactCheckpointLog", unfollowed := true, recurses := true, apart := false }
def FnExactCheckpointLogSaid : Prop := fnExactCheckpointLogRow.holds Try.pinned (OpenSpec.ofChange fnExactCheckpointLogSpec)

/-- ITS FALSE NEIGHBOUR: 'it returns false'. Refute it at one input. -/
def fnExactCheckpointLogWrong : ChangeSpec := { name := "fnExactCheckpointLog", fn := fun _ => fun
  | [d] => { results := [.lit (.bool false)], args := [d] }
  | _ => none }
def FnExactCheckpointLogWrongFalsely : Prop := fnExactCheckpointLogRow.holds Try.pinned (OpenSpec.ofChange fnExactCheckpointLogWrong)

/-- 'laws.FnExactCrashStore': WHATEVER THE INPUT: true; the input reads as it did. -/
def fnExactCrashStoreSpec : ChangeSpec := { name := "fnExactCrashStore", fn := fun _ => fun
  | [d1, d2, d3] => { results := [.lit (.bool true)], args := [d1, d2, d3] }
  | _ => none }
def fnExactCrashStoreRow : OpenClaim := { program := "ytcdkgenfggdpaaa", sum := "d252ea63bae82267cbcf54349774576eb20355a7ad92f211483eace5254a3aaf", func := "loop.example/g00261/laws.FnExactCrashStore", spec := "fnExactCrashStore", unfollowed := true, recurses := true, apart := false }
def FnExactCrashStoreSaid : Prop := fnExactCrashStoreRow.holds Try.pinned (OpenSpec.ofChange fnExactCrashStoreSpec)

/-- ITS FALSE NEIGHBOUR: 'it returns false'. Refute it at one input. -/
def fnExactCrashStoreWrong : ChangeSpec := { name := "fnExactCrashStore", fn := fun _ => fun
  | [d1, d2, d3] => { results := [.lit (.bool false)], args := [d1, d2, d3] }
  | _ => none }
def FnExactCrashStoreWrongFalsely : Prop := fnExactCrashStoreRow.holds Try.pinned (OpenSpec.ofChange fnExactCrashStoreWrong)

/-- 'laws.FnAtomic': WHATEVER THE INPUT: true; the input reads as it did. -/
def fnAtomicSpec : ChangeSpec := { name := "fnAtomic", fn := fun _ => fun
  | [d] => { results := [.lit (.bool true)], args := [d] }
  | _ => none }
def fnAtomicRow : OpenClaim := { program := "ytcdkgenfggdpaaa", sum := "d252ea63bae82267cbcf54349774576eb20355a7ad92f211483eace5254a3aaf", func := "loop.example/g00261/laws.FnAtomic", spec := "fnAtomic", unfollowed := true, recurses := true, apart := false }
def FnAtomicSaid : Prop := fnAtomicRow.holds Try.pinned (OpenSpec.ofChange fnAtomicSpec)

/-- ITS FALSE NEIGHBOUR: 'it returns false'. Refute it at one input. -/
def fnAtomicWrong : ChangeSpec := { name := "fnAtomic", fn := fun _ => fun
  | [d] => { results := [.lit (.bool false)], args := [d] }
  | _ => none }
def FnAtomicWrongFalsely : Prop := fnAtomicRow.holds Try.pinned (OpenSpec.ofChange fnAtomicWrong)

/-- 'laws.FnViewed': WHATEVER THE INPUT: true; the input reads as it did. -/
def fnViewedSpec : ChangeSpec := { name := "fnViewed", fn := fun _ => fun
  | [d1, d2] => { results := [.lit (.bool true)], args := [d1, d2] }
  | _ => none }
def fnViewedRow : OpenClaim := { program := "ytcdkgenfggdpaaa", sum := "d252ea63bae82267cbcf54349774576eb20355a7ad92f211483eace5254a3aaf", func := "loop.example/g00261/laws.FnViewed", spec := "fnViewed", unfollowed := true, recurses := true, apart := false }
def FnViewedSaid : Prop := fnViewedRow.holds Try.pinned (OpenSpec.ofChange fnViewedSpec)

/-- ITS FALSE NEIGHBOUR: 'it returns false'. Refute it at one input. -/
def fnViewedWrong : ChangeSpec := { name := "fnViewed", fn := fun _ => fun
  | [d1, d2] => { results := [.lit (.bool false)], args := [d1, d2] }
  | _ => none }
def FnViewedWrongFalsely : Prop := fnViewedRow.holds Try.pinned (OpenSpec.ofChange fnViewedWrong)

/- THE SECOND FORM. 'bulk': how many values and letters a reading holds, each counted each time it is reached (what is shared counts as often as it is met; a slice's spare places count too). A statement '..UptoSaid' is the law's where the arguments, and the package variables that the reading takes, are together of bulk at most 1048576: NARROWER than '..Said'. Prove '..Said' where nothing that the law and all that it calls make is longer than what came in: it says more and counts as full. Else prove '..UptoSaid'. A law counts once. -/
mutual
def uptoBulk {H : Type} : DataW H → Nat
  | .lit (.string bytes) => bytes.length + 1
  | .lit _ => 1
  | .nil => 1
  | .ptr d => uptoBulk d + 1
  | .slice elems spare => uptoBulkAll elems + uptoBulkAll spare + 1
  | .agg parts => uptoBulkAll parts + 1
  | .iface _ d => uptoBulk d + 1
  | .map entries => uptoBulkEntries entries + 1
  | .held _ => 1
def uptoBulkAll {H : Type} : List (DataW H) → Nat
  | [] => 0
  | d :: r => uptoBulk d + uptoBulkAll r
def uptoBulkEntries {H : Type} : List (Lit × DataW H) → Nat
  | [] => 0
  | x :: r => uptoBulkEntry x + uptoBulkEntries r
def uptoBulkEntry {H : Type} : Lit × DataW H → Nat
  | (.string bytes, d) => bytes.length + uptoBulk d + 1
  | (_, d) => uptoBulk d + 1
 end
def uptoSmall : (H : Type) → List (DataW H) → Bool := fun _ ds => decide (uptoBulkAll ds ≤ 1048576)
def OpenSpec.upto (s : _root_.Go.ChangeSpec) : _root_.Go.OpenSpec := { _root_.Go.OpenSpec.ofChange s with cond := some uptoSmall }

/-- 'laws.FnExactTxnText', WHERE WHAT IT READS IS OF BULK AT MOST 1048576: true; the input reads as it did. -/
def fnExactTxnTextUptoRow : OpenClaim := { program := "ytcdkgenfggdpaaa", sum := "d252ea63bae82267cbcf54349774576eb20355a7ad92f211483eace5254a3aaf", func := "loop.example/g00261/laws.FnExactTxnText", spec := "fnExactTxnText", unfollowed := true, recurses := true, apart := false, narrowed := true }
def FnExactTxnTextUptoSaid : Prop := fnExactTxnTextUptoRow.holds Try.pinned (OpenSpec.upto fnExactTxnTextSpec)

/-- 'laws.FnExactReadTxn', WHERE WHAT IT READS IS OF BULK AT MOST 1048576: true; the input reads as it did. -/
def fnExactReadTxnUptoRow : OpenClaim := { program := "ytcdkgenfggdpaaa", sum := "d252ea63bae82267cbcf54349774576eb20355a7ad92f211483eace5254a3aaf", func := "loop.example/g00261/laws.FnExactReadTxn", spec := "fnExactReadTxn", unfollowed := true, recurses := true, apart := false, narrowed := true }
def FnExactReadTxnUptoSaid : Prop := fnExactReadTxnUptoRow.holds Try.pinned (OpenSpec.upto fnExactReadTxnSpec)

/-- 'laws.FnExactGoodStore', WHERE WHAT IT READS IS OF BULK AT MOST 1048576: true; the input reads as it did. -/
def fnExactGoodStoreUptoRow : OpenClaim := { program := "ytcdkgenfggdpaaa", sum := "d252ea63bae82267cbcf54349774576eb20355a7ad92f211483eace5254a3aaf", func := "loop.example/g00261/laws.FnExactGoodStore", spec := "fnExactGoodStore", unfollowed := true, recurses := true, apart := false, narrowed := true }
def FnExactGoodStoreUptoSaid : Prop := fnExactGoodStoreUptoRow.holds Try.pinned (OpenSpec.upto fnExactGoodStoreSpec)

/-- 'laws.FnExactNewStore', WHERE WHAT IT READS IS OF BULK AT MOST 1048576: true; the input reads as it did. -/
def fnExactNewStoreUptoRow : OpenClaim := { program := "ytcdkgenfggdpaaa", sum := "d252ea63bae82267cbcf54349774576eb20355a7ad92f211483eace5254a3aaf", func := "loop.example/g00261/laws.FnExactNewStore", spec := "fnExactNewStore", inPlace := ["internal/abi.NoEscape", "internal/bytealg.MakeNoZero"], apart := false, narrowed := true }
def FnExactNewStoreUptoSaid : Prop := fnExactNewStoreUptoRow.holds Try.pinned (OpenSpec.upto fnExactNewStoreSpec)

/-- 'laws.FnExactViewOf', WHERE WHAT IT READS IS OF BULK AT MOST 1048576: true; the input reads as it did. -/
def fnExactViewOfUptoRow : OpenClaim := { program := "ytcdkgenfggdpaaa", sum := "d252ea63bae82267cbcf54349774576eb20355a7ad92f211483eace5254a3aaf", func := "loop.example/g00261/laws.FnExactViewOf", spec := "fnExactViewOf", unfollowed := true, recurses := true, apart := false, narrowed := true }
def FnExactViewOfUptoSaid : Prop := fnExactViewOfUptoRow.holds Try.pinned (OpenSpec.upto fnExactViewOfSpec)

/-- 'laws.FnExactCommit', WHERE WHAT IT READS IS OF BULK AT MOST 1048576: true; the input reads as it did. -/
def fnExactCommitUptoRow : OpenClaim := { program := "ytcdkgenfggdpaaa", sum := "d252ea63bae82267cbcf54349774576eb20355a7ad92f211483eace5254a3aaf", func := "loop.example/g00261/laws.FnExactCommit", spec := "fnExactCommit", unfollowed := true, recurses := true, apart := false, narrowed := true }
def FnExactCommitUptoSaid : Prop := fnExactCommitUptoRow.holds Try.pinned (OpenSpec.upto fnExactCommitSpec)

/-- 'laws.FnExactSyncLog', WHERE WHAT IT READS IS OF BULK AT MOST 1048576: true; the input reads as it did. -/
def fnExactSyncLogUptoRow : OpenClaim := { program := "ytcdkgenfggdpaaa", sum := "d252ea63bae82267cbcf54349774576eb20355a7ad92f211483eace5254a3aaf", func := "loop.example/g00261/laws.FnExactSyncLog", spec := "fnExactSyncLog", unfollowed := true, recurses := true, apart := false, narrowed := true }
def FnExactSyncLogUptoSaid : Prop := fnExactSyncLogUptoRow.holds Try.pinned (OpenSpec.upto fnExactSyncLogSpec)

/-- 'laws.FnExactRecoverStore', WHERE WHAT IT READS IS OF BULK AT MOST 1048576: true; the input reads as it did. -/
def fnExactRecoverStoreUptoRow : OpenClaim := { program := "ytcdkgenfggdpaaa", sum := "d252ea63bae82267cbcf54349774576eb20355a7ad92f211483eace5254a3aaf", func := "loop.example/g00261/laws.FnExactRecoverStore", spec := "fnExactRecoverStore", unfollowed := true, recurses := true, apart := false, narrowed := true }
def FnExactRecoverStoreUptoSaid : Prop := fnExactRecoverStoreUptoRow.holds Try.pinned (OpenSpec.upto fnExactRecoverStoreSpec)

/-- 'laws.FnExactWriteBack', WHERE WHAT IT READS IS OF BULK AT MOST 1048576: true; the input reads as it did. -/
def fnExactWriteBackUptoRow : OpenClaim := { program := "ytcdkgenfggdpaaa", sum := "d252ea63bae82267cbcf54349774576eb20355a7ad92f211483eace5254a3aaf", func := "loop.example/g00261/laws.FnExactWriteBack", spec := "fnExactWriteBack", unfollowed := true, recurses := true, apart := false, narrowed := true }
def FnExactWriteBackUptoSaid : Prop := fnExactWriteBackUptoRow.holds Try.pinned (OpenSpec.upto fnExactWriteBackSpec)

/-- 'laws.FnExactCheckpointLog', WHERE WHAT IT READS IS OF BULK AT MOST 1048576: true; the input reads as it did. -/
def fnExactCheckpointLogUptoRow : OpenClaim := { program := "ytcdkgenfggdpaaa", sum := "d252ea63bae82267cbcf54349774576eb20355a7ad92f211483eace5254a3aaf", func := "loop.example/g00261/laws.FnExactCheckpointLog", spec := "fnExactCheckpointLog", unfollowed := true, recurses := true, apart := false, narrowed := true }
def FnExactCheckpointLogUptoSaid : Prop := fnExactCheckpointLogUptoRow.holds Try.pinned (OpenSpec.upto fnExactCheckpointLogSpec)

/-- 'laws.FnExactCrashStore', WHERE WHAT IT READS IS OF BULK AT MOST 1048576: true; the input reads as it did. -/
def fnExactCrashStoreUptoRow : OpenClaim := { program := "ytcdkgenfggdpaaa", sum := "d252ea63bae82267cbcf54349774576eb20355a7ad92f211483eace5254a3aaf", func := "loop.example/g00261/laws.FnExactCrashStore", spec := "fnExactCrashStore", unfollowed := true, recurses := true, apart := false, narrowed := true }
def FnExactCrashStoreUptoSaid : Prop := fnExactCrashStoreUptoRow.holds Try.pinned (OpenSpec.upto fnExactCrashStoreSpec)

/-- 'laws.FnAtomic', WHERE WHAT IT READS IS OF BULK AT MOST 1048576: true; the input reads as it did. -/
def fnAtomicUptoRow : OpenClaim := { program := "ytcdkgenfggdpaaa", sum := "d252ea63bae82267cbcf54349774576eb20355a7ad92f211483eace5254a3aaf", func := "loop.example/g00261/laws.FnAtomic", spec := "fnAtomic", unfollowed := true, recurses := true, apart := false, narrowed := true }
def FnAtomicUptoSaid : Prop := fnAtomicUptoRow.holds Try.pinned (OpenSpec.upto fnAtomicSpec)

/-- 'laws.FnViewed', WHERE WHAT IT READS IS OF BULK AT MOST 1048576: true; the input reads as it did. -/
def fnViewedUptoRow : OpenClaim := { program := "ytcdkgenfggdpaaa", sum := "d252ea63bae82267cbcf54349774576eb20355a7ad92f211483eace5254a3aaf", func := "loop.example/g00261/laws.FnViewed", spec := "fnViewed", unfollowed := true, recurses := true, apart := false, narrowed := true }
def FnViewedUptoSaid : Prop := fnViewedUptoRow.holds Try.pinned (OpenSpec.upto fnViewedSpec)

end Rows
end Go.Proofs.Ytcdkgenfggdpaaa
