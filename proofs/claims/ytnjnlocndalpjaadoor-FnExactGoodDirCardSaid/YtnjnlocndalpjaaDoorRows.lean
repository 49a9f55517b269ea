/-
  NARROWER THAN 'FOR EVERY INPUT', by the rows' own cells (each row's printed sentence says how): FnExactGoodDir: laid · FnExactBucketOf: laid · FnExactLookName: laid.
  DERIVED. THE GIVEN ROWS OF THIS SEAT. 3 by the template 'for every input the law returns true; each argument reads behind the call as it read before'; 0 by the template 'total and deterministic' (their statements: YtnjnlocndalpjaaDoorTotals.lean).
  GIVEN WITH THE SEED: the statements are not yours to turn. If you find one false, say at which input.
  Laid BY PROGRAM, IN A SANDBOX (cutbox-rows.mjs): the forced cells as the released guide's own fill.sh prints them over the translation 03815d9d6e68190d… (all of the seat's roots in one cut). By AI agents, Wed Nov 11 2026. No macro, syntax, notation, axiom, sorry.
-/
import Derived.Test.YtnjnlocndalpjaaDoorChecked
import GoSem.PinnedTables
import GoSem.Claim
import GoSem.ClaimJoined
import GoSem.ClaimMapViews
import Derived.JoinedTies
import Derived.KernelRfl
namespace Go.Proofs.YtnjnlocndalpjaaDoor
/- THE CELL 'sum', in the pinned program and in every row, IS THE sha256 OF THE DUMP (.gsa) THAT YtnjnlocndalpjaaDoorProg.lean LOADS. Nothing in Lean hashes anything: it is a label: what it is worth is what the hold of that sum in a sandbox is worth. -/
noncomputable def Tryd.pinned : Pinned := { name := "ytnjnlocndalpjaadoor", sum := "03815d9d6e68190d6c674d1eea0fbcb9774230a891b8a29cc663ad4a803cf45c", checked := Tryd.checked }
namespace Rows
def none {H : Type} : Left H := { results := [], args := [] }

/- WHAT THE LISTED PACKAGE-LEVEL VARIABLES READ AS WHEN THE CALL BEGINS. Each datum BY PROGRAM (the guide's laid-datum.mjs) off the statement by which the dump's own 'gosem.cut.vars' lays the variable. In a bare row this is a premise. The card (YtnjnlocndalpjaaDoorCards.lean) ties it to the program's text. -/
def laid_unicode_utf8_acceptRanges {H : Type} : DataW H := .agg [.agg [.lit (.int .u8 128), .lit (.int .u8 191)], .agg [.lit (.int .u8 160), .lit (.int .u8 191)], .agg [.lit (.int .u8 128), .lit (.int .u8 159)], .agg [.lit (.int .u8 144), .lit (.int .u8 191)], .agg [.lit (.int .u8 128), .lit (.int .u8 143)], .agg [.lit (.int .u8 0), .lit (.int .u8 0)], .agg [.lit (.int .u8 0), .lit (.int .u8 0)], .agg [.lit (.int .u8 0), .lit (.int .u8 0)], .agg [.lit (.int .u8 0), .lit (.int .u8 0)], .agg [.lit (.int .u8 0), .lit (.int .u8 0)], .agg [.lit (.int .u8 0), .lit (.int .u8 0)], .agg [.lit (.int .u8 0), .lit (.int .u8 0)], .agg [.lit (.int .u8 0), .lit (.int .u8 0)], .agg [.lit (.int .u8 0), .lit (.int .u8 0)], .agg [.lit (.int .u8 0), .lit (.int .u8 0)], .agg [.lit (.int .u8 0), .lit (.int .u8 0)]]
/-- One of Go's own tables, pinned by name: the form's constant. -/
def laid_unicode_utf8_first : DataW Unit := Go.Pinned.utf8First

/-- 'laws.FnExactGoodDir': WHATEVER THE INPUT: true; the input reads as it did. -/
def fnExactGoodDirSpec : ChangeSpec := { name := "fnExactGoodDir", fn := fun _ => fun
  | [d] => { results := [.lit (.bool true)], args := [d] }
  | _ => none }
def fnExactGoodDirRow : OpenClaim := { program := "ytnjnlocndalpjaadoor", sum := "03815d9d6e68190d6c674d1eea0fbcb9774230a891b8a29cc663ad4a803cf45c", func := "loop.example/g00261/laws.FnExactGoodDir", spec := "fnExactGoodDir", inPlace := ["internal/bytealg.IndexByteString", "internal/bytealg.IndexString"], named := ["unicode/utf8.first", "unicode/utf8.acceptRanges", "internal/bytealg.MaxLen"], apart := false, laid := [("unicode/utf8.acceptRanges", laid_unicode_utf8_acceptRanges), ("unicode/utf8.first", laid_unicode_utf8_first)] }
def FnExactGoodDirSaid : Prop := fnExactGoodDirRow.holds Tryd.pinned (OpenSpec.ofChange fnExactGoodDirSpec)

/-- ITS FALSE NEIGHBOUR: 'it returns false'. Refute it at one input. -/
def fnExactGoodDirWrong : ChangeSpec := { name := "fnExactGoodDir", fn := fun _ => fun
  | [d] => { results := [.lit (.bool false)], args := [d] }
  | _ => none }
def FnExactGoodDirWrongFalsely : Prop := fnExactGoodDirRow.holds Tryd.pinned (OpenSpec.ofChange fnExactGoodDirWrong)

/-- 'laws.FnExactBucketOf': WHATEVER THE INPUT: true; the input reads as it did. -/
def fnExactBucketOfSpec : ChangeSpec := { name := "fnExactBucketOf", fn := fun _ => fun
  | [d1, d2] => { results := [.lit (.bool true)], args := [d1, d2] }
  | _ => none }
def fnExactBucketOfRow : OpenClaim := { program := "ytnjnlocndalpjaadoor", sum := "03815d9d6e68190d6c674d1eea0fbcb9774230a891b8a29cc663ad4a803cf45c", func := "loop.example/g00261/laws.FnExactBucketOf", spec := "fnExactBucketOf", inPlace := ["internal/bytealg.IndexByteString", "internal/bytealg.IndexString"], named := ["unicode/utf8.first", "unicode/utf8.acceptRanges", "internal/bytealg.MaxLen"], apart := false, laid := [("unicode/utf8.acceptRanges", laid_unicode_utf8_acceptRanges), ("unicode/utf8.first", laid_unicode_utf8_first)] }
def FnExactBucketOfSaid : Prop := fnExactBucketOfRow.holds Tryd.pinned (OpenSpec.ofChange fnExactBucketOfSpec)

/-- ITS FALSE NEIGHBOUR: 'it returns false'. Refute it at one input. -/
def fnExactBucketOfWrong : ChangeSpec := { name := "fnExactBucketOf", fn := fun _ => fun
  | [d1, d2] => { results := [.lit (.bool false)], args := [d1, d2] }
  | _ => none }
def FnExactBucketOfWrongFalsely : Prop := fnExactBucketOfRow.holds Tryd.pinned (OpenSpec.ofChange fnExactBucketOfWrong)

/-- 'laws.FnExactLookName': WHATEVER THE INPUT: true; the input reads as it did. -/
def fnExactLookNameSpec : ChangeSpec := { name := "fnExactLookName", fn := fun _ => fun
  | [d1, d2] => { results := [.lit (.bool true)], args := [d1, d2] }
  | _ => none }
def fnExactLookNameRow : OpenClaim := { program := "ytnjnlocndalpjaadoor", sum := "03815d9d6e68190d6c674d1eea0fbcb9774230a891b8a29cc663ad4a803cf45c", func := "loop.example/g00261/laws.FnExactLookName", spec := "fnExactLookName", inPlace := ["internal/bytealg.IndexByteString", "internal/bytealg.IndexString", "internal/bytealg.abigen_runtime_cmpstring"], unfollowed := true, recurses := true, named := ["unicode/utf8.first", "unicode/utf8.acceptRanges", "internal/bytealg.MaxLen"], apart := false, laid := [("unicode/utf8.acceptRanges", laid_unicode_utf8_acceptRanges), ("unicode/utf8.first", laid_unicode_utf8_first)] }
def FnExactLookNameSaid : Prop := fnExactLookNameRow.holds Tryd.pinned (OpenSpec.ofChange fnExactLookNameSpec)

/-- ITS FALSE NEIGHBOUR: 'it returns false'. Refute it at one input. -/
def fnExactLookNameWrong : ChangeSpec := { name := "fnExactLookName", fn := fun _ => fun
  | [d1, d2] => { results := [.lit (.bool false)], args := [d1, d2] }
  | _ => none }
def FnExactLookNameWrongFalsely : Prop := fnExactLookNameRow.holds Tryd.pinned (OpenSpec.ofChange fnExactLookNameWrong)

/- THE SECOND FORM. 'bulk': how many values and letters a reading holds, each counted each time it is reached (what is shared counts as often as it is met; a slice's spare places count too). A statement '..UptoSaid' is the law's where the arguments, and the package variables that the reading takes, are together of bulk at most 1048576: NARROWER than '..Said'. Prove '..Said' where nothing that the law and all that it calls make is longer than what came in: it says more and counts as full. Else prove '..UptoSaid'. A law counts once. -/
mutual
def uptoBulk {H : Type} : DataW H → Nat
  | .lit (.string bytes) => bytes.length + 1
  | .lit _ => 1
  | .nil => 1
  | .ptr d => uptoBulk d + 1
  | .slice elems spare => uptoBulkAll elems + uptoBulkAll spare + 1
  | .agg parts => uptoBulkAll parts + 1
  | .iface _ d => uptoBulk d + 1
  | .map entries => uptoBulkEntries entries + 1
  | .held _ => 1
def uptoBulkAll {H : Type} : List (DataW H) → Nat
  | [] => 0
  | d :: r => uptoBulk d + uptoBulkAll r
def uptoBulkEntries {H : Type} : List (Lit × DataW H) → Nat
  | [] => 0
  | x :: r => uptoBulkEntry x + uptoBulkEntries r
def uptoBulkEntry {H : Type} : Lit × DataW H → Nat
  | (.string bytes, d) => bytes.length + uptoBulk d + 1
  | (_, d) => uptoBulk d + 1
 end
def uptoSmall : (H : Type) → List (DataW H) → Bool := fun _ ds => decide (uptoBulkAll ds ≤ 1048576)
def OpenSpec.upto (s : _root_.Go.ChangeSpec) : _root_.Go.OpenSpec := { _root_.Go.OpenSpec.ofChange s with cond := some uptoSmall }

/-- 'laws.FnExactGoodDir', WHERE WHAT IT READS IS OF BULK AT MOST 1048576: true; the input reads as it did. -/
def fnExactGoodDirUptoRow : OpenClaim := { program := "ytnjnlocndalpjaadoor", sum := "03815d9d6e68190d6c674d1eea0fbcb9774230a891b8a29cc663ad4a803cf45c", func := "loop.example/g00261/laws.FnExactGoodDir", spec := "fnExactGoodDir", inPlace := ["internal/bytealg.IndexByteString", "internal/bytealg.IndexString"], named := ["unicode/utf8.first", "unicode/utf8.acceptRanges", "internal/bytealg.MaxLen"], apart := false, laid := [("unicode/utf8.acceptRanges", laid_unicode_utf8_acceptRanges), ("unicode/utf8.first", laid_unicode_utf8_first)], narrowed := true }
def FnExactGoodDirUptoSaid : Prop := fnExactGoodDirUptoRow.holds Tryd.pinned (OpenSpec.upto fnExactGoodDirSpec)

/-- 'laws.FnExactBucketOf', WHERE WHAT IT READS IS OF BULK AT MOST 1048576: true; the input reads as it did. -/
def fnExactBucketOfUptoRow : OpenClaim := { program := "ytnjnlocndalpjaadoor", sum := "03815d9d6e68190d6c674d1eea0fbcb9774230a891b8a29cc663ad4a803cf45c", func := "loop.example/g00261/laws.FnExactBucketOf", spec := "fnExactBucketOf", inPlace := ["internal/bytealg.IndexByteString", "internal/bytealg.IndexString"], named := ["unicode/utf8.first", "unicode/utf8.acceptRanges", "internal/bytealg.MaxLen"], apart := false, laid := [("unicode/utf8.acceptRanges", laid_unicode_utf8_acceptRanges), ("unicode/utf8.first", laid_unicode_utf8_first)], narrowed := true }
def FnExactBucketOfUptoSaid : Prop := fnExactBucketOfUptoRow.holds Tryd.pinned (OpenSpec.upto fnExactBucketOfSpec)

/-- 'laws.FnExactLookName', WHERE WHAT IT READS IS OF BULK AT MOST 1048576: true; the input reads as it did. -/
def fnExactLookNameUptoRow : OpenClaim := { program := "ytnjnlocndalpjaadoor", sum := "03815d9d6e68190d6c674d1eea0fbcb9774230a891b8a29cc663ad4a803cf45c", func := "loop.example/g00261/laws.FnExactLookName", spec := "fnExactLookName", inPlace := ["internal/bytealg.IndexByteString", "internal/bytealg.IndexString", "internal/bytealg.abigen_runtime_cmpstring"], unfollowed := true, recurses := true, named := ["unicode/utf8.first", "unicode/utf8.acceptRanges", "internal/bytealg.MaxLen"], apart := false, laid := [("unicode/utf8.acceptRanges", laid_unicode_utf8_acceptRanges), ("unicode/utf8.first", laid_unicode_utf8_first)], narrowed := true }
def FnExactLookNameUptoSaid : Prop := fnExactLookNameUptoRow.holds Tryd.pinned (OpenSpec.upto fnExactLookNameSpec)

end Rows
end Go.Proofs.YtnjnlocndalpjaaDoor
