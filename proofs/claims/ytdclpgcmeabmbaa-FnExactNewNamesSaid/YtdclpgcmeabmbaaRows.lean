/-
  No cell of these rows narrows 'for every input' (looked for: loops, veiled, ifaces, maps, wideKeys, modest, calm, conditions, laid).
  DERIVED. THE GIVEN ROWS OF THIS SEAT. 3 by the template 'for every input the law returns true; each argument reads behind the call as it read before'; 0 by the template 'total and deterministic' (their statements: YtdclpgcmeabmbaaTotals.lean).
  GIVEN WITH THE SEED: the statements are not yours to turn. If you find one false, say at which input.
  Laid BY PROGRAM, IN A SANDBOX (cutbox-rows.mjs): the forced cells as the released guide's own fill.sh prints them over the translation b9d19dadb91e28a4… (all of the seat's roots in one cut). By AI agents, Wed Nov 11 2026. No macro, syntax, notation, axiom, sorry.
-/
import Derived.Test.YtdclpgcmeabmbaaChecked
import GoSem.Claim
import GoSem.ClaimJoined
import GoSem.ClaimMapViews
import Derived.JoinedTies
import Derived.KernelRfl
namespace Go.Proofs.Ytdclpgcmeabmbaa
/- THE CELL 'sum', in the pinned program and in every row, IS THE sha256 OF THE DUMP (.gsa) THAT YtdclpgcmeabmbaaProg.lean LOADS. Nothing in Lean hashes anything: it is a label: what it is worth is what the hold of that sum in a sandbox is worth. -/
noncomputable def Try.pinned : Pinned := { name := "ytdclpgcmeabmbaa", sum := "b9d19dadb91e28a490a6b34404144752981e160a85d1d40b0d9d51d7a8afa93b", checked := Try.checked }
namespace Rows
def none {H : Type} : Left H := { results := [], args := [] }

/-- 'laws.FnExactNewStore': WHATEVER THE INPUT: true; the input reads as it did. -/
def fnExactNewStoreSpec : ChangeSpec := { name := "fnExactNewStore", fn := fun _ => fun
  | [d] => { results := [.lit (.bool true)], args := [d] }
  | _ => none }
def fnExactNewStoreRow : OpenClaim := { program := "ytdclpgcmeabmbaa", sum := "b9d19dadb91e28a490a6b34404144752981e160a85d1d40b0d9d51d7a8afa93b", func := "loop.example/g00261/laws.FnExactNewStore", spec := "fnExactNewStore", inPlace := ["internal/abi.NoEscape", "internal/bytealg.MakeNoZero"], apart := false }
def FnExactNewStoreSaid : Prop := fnExactNewStoreRow.holds Try.pinned (OpenSpec.ofChange fnExactNewStoreSpec)

/-- ITS FALSE NEIGHBOUR: 'it returns false'. Refute it at one input. -/
def fnExactNewStoreWrong : ChangeSpec := { name := "fnExactNewStore", fn := fun _ => fun
  | [d] => { results := [.lit (.bool false)], args := [d] }
  | _ => none }
def FnExactNewStoreWrongFalsely : Prop := fnExactNewStoreRow.holds Try.pinned (OpenSpec.ofChange fnExactNewStoreWrong)

/-- 'laws.FnExactNewDir': WHATEVER THE INPUT: true; the input reads as it did. -/
def fnExactNewDirSpec : ChangeSpec := { name := "fnExactNewDir", fn := fun _ => fun
  | [] => { results := [.lit (.bool true)], args := [] }
  | _ => none }
def fnExactNewDirRow : OpenClaim := { program := "ytdclpgcmeabmbaa", sum := "b9d19dadb91e28a490a6b34404144752981e160a85d1d40b0d9d51d7a8afa93b", func := "loop.example/g00261/laws.FnExactNewDir", spec := "fnExactNewDir", apart := false }
def FnExactNewDirSaid : Prop := fnExactNewDirRow.holds Try.pinned (OpenSpec.ofChange fnExactNewDirSpec)

/-- ITS FALSE NEIGHBOUR: 'it returns false'. Refute it at one input. -/
def fnExactNewDirWrong : ChangeSpec := { name := "fnExactNewDir", fn := fun _ => fun
  | [] => { results := [.lit (.bool false)], args := [] }
  | _ => none }
def FnExactNewDirWrongFalsely : Prop := fnExactNewDirRow.holds Try.pinned (OpenSpec.ofChange fnExactNewDirWrong)

/-- 'laws.FnExactNewNames': WHATEVER THE INPUT: true; the input reads as it did. -/
def fnExactNewNamesSpec : ChangeSpec := { name := "fnExactNewNames", fn := fun _ => fun
  | [] => { results := [.lit (.bool true)], args := [] }
  | _ => none }
def fnExactNewNamesRow : OpenClaim := { program := "ytdclpgcmeabmbaa", sum := "b9d19dadb91e28a490a6b34404144752981e160a85d1d40b0d9d51d7a8afa93b", func := "loop.example/g00261/laws.FnExactNewNames", spec := "fnExactNewNames", apart := false }
def FnExactNewNamesSaid : Prop := fnExactNewNamesRow.holds Try.pinned (OpenSpec.ofChange fnExactNewNamesSpec)

/-- ITS FALSE NEIGHBOUR: 'it returns false'. Refute it at one input. -/
def fnExactNewNamesWrong : ChangeSpec := { name := "fnExactNewNames", fn := fun _ => fun
  | [] => { results := [.lit (.bool false)], args := [] }
  | _ => none }
def FnExactNewNamesWrongFalsely : Prop := fnExactNewNamesRow.holds Try.pinned (OpenSpec.ofChange fnExactNewNamesWrong)

/- THE SECOND FORM. 'bulk': how many values and letters a reading holds, each counted each time it is reached (what is shared counts as often as it is met; a slice's spare places count too). A statement '..UptoSaid' is the law's where the arguments, and the package variables that the reading takes, are together of bulk at most 1048576: NARROWER than '..Said'. Prove '..Said' where nothing that the law and all that it calls make is longer than what came in: it says more and counts as full. Else prove '..UptoSaid'. A law counts once. -/
mutual
def uptoBulk {H : Type} : DataW H → Nat
  | .lit (.string bytes) => bytes.length + 1
  | .lit _ => 1
  | .nil => 1
  | .ptr d => uptoBulk d + 1
  | .slice elems spare => uptoBulkAll elems + uptoBulkAll spare + 1
  | .agg parts => uptoBulkAll parts + 1
  | .iface _ d => uptoBulk d + 1
  | .map entries => uptoBulkEntries entries + 1
  | .held _ => 1
def uptoBulkAll {H : Type} : List (DataW H) → Nat
  | [] => 0
  | d :: r => uptoBulk d + uptoBulkAll r
def uptoBulkEntries {H : Type} : List (Lit × DataW H) → Nat
  | [] => 0
  | x :: r => uptoBulkEntry x + uptoBulkEntries r
def uptoBulkEntry {H : Type} : Lit × DataW H → Nat
  | (.string bytes, d) => bytes.length + uptoBulk d + 1
  | (_, d) => uptoBulk d + 1
 end
def uptoSmall : (H : Type) → List (DataW H) → Bool := fun _ ds => decide (uptoBulkAll ds ≤ 1048576)
def OpenSpec.upto (s : _root_.Go.ChangeSpec) : _root_.Go.OpenSpec := { _root_.Go.OpenSpec.ofChange s with cond := some uptoSmall }

/-- 'laws.FnExactNewStore', WHERE WHAT IT READS IS OF BULK AT MOST 1048576: true; the input reads as it did. -/
def fnExactNewStoreUptoRow : OpenClaim := { program := "ytdclpgcmeabmbaa", sum := "b9d19dadb91e28a490a6b34404144752981e160a85d1d40b0d9d51d7a8afa93b", func := "loop.example/g00261/laws.FnExactNewStore", spec := "fnExactNewStore", inPlace := ["internal/abi.NoEscape", "internal/bytealg.MakeNoZero"], apart := false, narrowed := true }
def FnExactNewStoreUptoSaid : Prop := fnExactNewStoreUptoRow.holds Try.pinned (OpenSpec.upto fnExactNewStoreSpec)

/-- 'laws.FnExactNewDir', WHERE WHAT IT READS IS OF BULK AT MOST 1048576: true; the input reads as it did. -/
def fnExactNewDirUptoRow : OpenClaim := { program := "ytdclpgcmeabmbaa", sum := "b9d19dadb91e28a490a6b34404144752981e160a85d1d40b0d9d51d7a8afa93b", func := "loop.example/g00261/laws.FnExactNewDir", spec := "fnExactNewDir", apart := false, narrowed := true }
def FnExactNewDirUptoSaid : Prop := fnExactNewDirUptoRow.holds Try.pinned (OpenSpec.upto fnExactNewDirSpec)

/-- 'laws.FnExactNewNames', WHERE WHAT IT READS IS OF BULK AT MOST 1048576: true; the input reads as it did. -/
def fnExactNewNamesUptoRow : OpenClaim := { program := "ytdclpgcmeabmbaa", sum := "b9d19dadb91e28a490a6b34404144752981e160a85d1d40b0d9d51d7a8afa93b", func := "loop.example/g00261/laws.FnExactNewNames", spec := "fnExactNewNames", apart := false, narrowed := true }
def FnExactNewNamesUptoSaid : Prop := fnExactNewNamesUptoRow.holds Try.pinned (OpenSpec.upto fnExactNewNamesSpec)

end Rows
end Go.Proofs.Ytdclpgcmeabmbaa
