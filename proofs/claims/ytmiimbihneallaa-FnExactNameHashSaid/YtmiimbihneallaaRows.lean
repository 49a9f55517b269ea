/-
  No cell of these rows narrows 'for every input' (looked for: loops, veiled, ifaces, maps, wideKeys, modest, calm, conditions, laid).
  DERIVED. THE GIVEN ROWS OF THIS SEAT. 2 by the template 'for every input the law returns true; each argument reads behind the call as it read before'; 0 by the template 'total and deterministic' (their statements: YtmiimbihneallaaTotals.lean).
  GIVEN WITH THE SEED: the statements are not yours to turn. If you find one false, say at which input.
  Laid BY PROGRAM, IN A SANDBOX (cutbox-rows.mjs): the forced cells as the released guide's own fill.sh prints them over the translation d5a3148657ba56bb… (all of the seat's roots in one cut). By AI agents, Wed Nov 11 2026. No macro, syntax, notation, axiom, sorry.
-/
import Derived.Test.YtmiimbihneallaaChecked
import GoSem.Claim
import GoSem.ClaimJoined
import GoSem.ClaimMapViews
import Derived.JoinedTies
import Derived.KernelRfl
namespace Go.Proofs.Ytmiimbihneallaa
/- THE CELL 'sum', in the pinned program and in every row, IS THE sha256 OF THE DUMP (.gsa) THAT YtmiimbihneallaaProg.lean LOADS. Nothing in Lean hashes anything: it is a label: what it is worth is what the hold of that sum in a sandbox is worth. -/
noncomputable def Try.pinned : Pinned := { name := "ytmiimbihneallaa", sum := "d5a3148657ba56bb54d3a6d85c3711622d93e95e4ac693a86b4cad99bf9b2471", checked := Try.checked }
namespace Rows
def none {H : Type} : Left H := { results := [], args := [] }

/-- 'laws.FnExactNameHash': WHATEVER THE INPUT: true; the input reads as it did. -/
def fnExactNameHashSpec : ChangeSpec := { name := "fnExactNameHash", fn := fun _ => fun
  | [d] => { results := [.lit (.bool true)], args := [d] }
  | _ => none }
def fnExactNameHashRow : OpenClaim := { program := "ytmiimbihneallaa", sum := "d5a3148657ba56bb54d3a6d85c3711622d93e95e4ac693a86b4cad99bf9b2471", func := "loop.example/g00261/laws.FnExactNameHash", spec := "fnExactNameHash", apart := false }
def FnExactNameHashSaid : Prop := fnExactNameHashRow.holds Try.pinned (OpenSpec.ofChange fnExactNameHashSpec)

/-- ITS FALSE NEIGHBOUR: 'it returns false'. Refute it at one input. -/
def fnExactNameHashWrong : ChangeSpec := { name := "fnExactNameHash", fn := fun _ => fun
  | [d] => { results := [.lit (.bool false)], args := [d] }
  | _ => none }
def FnExactNameHashWrongFalsely : Prop := fnExactNameHashRow.holds Try.pinned (OpenSpec.ofChange fnExactNameHashWrong)

/-- 'laws.FnExactNewDir': WHATEVER THE INPUT: true; the input reads as it did. -/
def fnExactNewDirSpec : ChangeSpec := { name := "fnExactNewDir", fn := fun _ => fun
  | [] => { results := [.lit (.bool true)], args := [] }
  | _ => none }
def fnExactNewDirRow : OpenClaim := { program := "ytmiimbihneallaa", sum := "d5a3148657ba56bb54d3a6d85c3711622d93e95e4ac693a86b4cad99bf9b2471", func := "loop.example/g00261/laws.FnExactNewDir", spec := "fnExactNewDir", apart := false }
def FnExactNewDirSaid : Prop := fnExactNewDirRow.holds Try.pinned (OpenSpec.ofChange fnExactNewDirSpec)

/-- ITS FALSE NEIGHBOUR: 'it returns false'. Refute it at one input. -/
def fnExactNewDirWrong : ChangeSpec := { name := "fnExactNewDir", fn := fun _ => fun
  | [] => { results := [.lit (.bool false)], args := [] }
  | _ => none }
def FnExactNewDirWrongFalsely : Prop := fnExactNewDirRow.holds Try.pinned (OpenSpec.ofChange fnExactNewDirWrong)

/- THE SECOND FORM. 'bulk': how many values and letters a reading holds, each counted each time it is reached (what is shared counts as often as it is met; a slice's spare places count too). A statement '..UptoSaid' is the law's where the arguments, and the package variables that the reading takes, are together of bulk at most 1048576: NARROWER than '..Said'. Prove '..Said' where nothing that the law and all that it calls make is longer than what came in: it says more and counts as full. Else prove '..UptoSaid'. A law counts once. -/
mutual
def uptoBulk {H : Type} : DataW H → Nat
  | .lit (.string bytes) => bytes.length + 1
  | .lit _ => 1
  | .nil => 1
  | .ptr d => uptoBulk d + 1
  | .slice elems spare => uptoBulkAll elems + uptoBulkAll spare + 1
  | .agg parts => uptoBulkAll parts + 1
  | .iface _ d => uptoBulk d + 1
  | .map entries => uptoBulkEntries entries + 1
  | .held _ => 1
def uptoBulkAll {H : Type} : List (DataW H) → Nat
  | [] => 0
  | d :: r => uptoBulk d + uptoBulkAll r
def uptoBulkEntries {H : Type} : List (Lit × DataW H) → Nat
  | [] => 0
  | x :: r => uptoBulkEntry x + uptoBulkEntries r
def uptoBulkEntry {H : Type} : Lit × DataW H → Nat
  | (.string bytes, d) => bytes.length + uptoBulk d + 1
  | (_, d) => uptoBulk d + 1
 end
def uptoSmall : (H : Type) → List (DataW H) → Bool := fun _ ds => decide (uptoBulkAll ds ≤ 1048576)
def OpenSpec.upto (s : _root_.Go.ChangeSpec) : _root_.Go.OpenSpec := { _root_.Go.OpenSpec.ofChange s with cond := some uptoSmall }

/-- 'laws.FnExactNameHash', WHERE WHAT IT READS IS OF BULK AT MOST 1048576: true; the input reads as it did. -/
def fnExactNameHashUptoRow : OpenClaim := { program := "ytmiimbihneallaa", sum := "d5a3148657ba56bb54d3a6d85c3711622d93e95e4ac693a86b4cad99bf9b2471", func := "loop.example/g00261/laws.FnExactNameHash", spec := "fnExactNameHash", apart := false, narrowed := true }
def FnExactNameHashUptoSaid : Prop := fnExactNameHashUptoRow.holds Try.pinned (OpenSpec.upto fnExactNameHashSpec)

/-- 'laws.FnExactNewDir', WHERE WHAT IT READS IS OF BULK AT MOST 1048576: true; the input reads as it did. -/
def fnExactNewDirUptoRow : OpenClaim := { program := "ytmiimbihneallaa", sum := "d5a3148657ba56bb54d3a6d85c3711622d93e95e4ac693a86b4cad99bf9b2471", func := "loop.example/g00261/laws.FnExactNewDir", spec := "fnExactNewDir", apart := false, narrowed := true }
def FnExactNewDirUptoSaid : Prop := fnExactNewDirUptoRow.holds Try.pinned (OpenSpec.upto fnExactNewDirSpec)

end Rows
end Go.Proofs.Ytmiimbihneallaa
