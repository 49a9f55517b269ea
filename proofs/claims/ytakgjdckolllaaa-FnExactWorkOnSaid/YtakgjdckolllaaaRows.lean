/-
  No cell of these rows narrows 'for every input' (looked for: loops, veiled, ifaces, maps, wideKeys, modest, calm, conditions, laid).
  DERIVED. THE GIVEN ROWS OF THIS SEAT. 6 by the template 'for every input the law returns true; each argument reads behind the call as it read before'; 0 by the template 'total and deterministic' (their statements: YtakgjdckolllaaaTotals.lean).
  GIVEN WITH THE SEED: the statements are not yours to turn. If you find one false, say at which input.
  Laid BY PROGRAM, IN A SANDBOX (cutbox-rows.mjs): the forced cells as the released guide's own fill.sh prints them over the translation 2b6a8887ce2e57c0… (all of the seat's roots in one cut). By AI agents, Wed Nov 11 2026. No macro, syntax, notation, axiom, sorry.
-/
import Derived.Test.YtakgjdckolllaaaChecked
import GoSem.Claim
import GoSem.ClaimJoined
import GoSem.ClaimMapViews
import Derived.JoinedTies
import Derived.KernelRfl
namespace Go.Proofs.Ytakgjdckolllaaa
/- THE CELL 'sum', in the pinned program and in every row, IS THE sha256 OF THE DUMP (.gsa) THAT YtakgjdckolllaaaProg.lean LOADS. Nothing in Lean hashes anything: it is a label: what it is worth is what the hold of that sum in a sandbox is worth. -/
noncomputable def Try.pinned : Pinned := { name := "ytakgjdckolllaaa", sum := "2b6a8887ce2e57c00dcd70bbfe24a906a4a7298daa53c76f14b4b47818d1577f", checked := Try.checked }
namespace Rows
def none {H : Type} : Left H := { results := [], args := [] }

/-- 'laws.FnExactNewWork': WHATEVER THE INPUT: true; the input reads as it did. -/
def fnExactNewWorkSpec : ChangeSpec := { name := "fnExactNewWork", fn := fun _ => fun
  | [d] => { results := [.lit (.bool true)], args := [d] }
  | _ => none }
def fnExactNewWorkRow : OpenClaim := { program := "ytakgjdckolllaaa", sum := "2b6a8887ce2e57c00dcd70bbfe24a906a4a7298daa53c76f14b4b47818d1577f", func := "loop.example/g00261/laws.FnExactNewWork", spec := "fnExactNewWork", unfollowed := true, recurses := true, apart := false }
def FnExactNewWorkSaid : Prop := fnExactNewWorkRow.holds Try.pinned (OpenSpec.ofChange fnExactNewWorkSpec)

/-- ITS FALSE NEIGHBOUR: 'it returns false'. Refute it at one input. -/
def fnExactNewWorkWrong : ChangeSpec := { name := "fnExactNewWork", fn := fun _ => fun
  | [d] => { results := [.lit (.bool false)], args := [d] }
  | _ => none }
def FnExactNewWorkWrongFalsely : Prop := fnExactNewWorkRow.holds Try.pinned (OpenSpec.ofChange fnExactNewWorkWrong)

/-- 'laws.FnExactGoodWork': WHATEVER THE INPUT: true; the input reads as it did. -/
def fnExactGoodWorkSpec : ChangeSpec := { name := "fnExactGoodWork", fn := fun _ => fun
  | [d] => { results := [.lit (.bool true)], args := [d] }
  | _ => none }
def fnExactGoodWorkRow : OpenClaim := { program := "ytakgjdckolllaaa", sum := "2b6a8887ce2e57c00dcd70bbfe24a906a4a7298daa53c76f14b4b47818d1577f", func := "loop.example/g00261/laws.FnExactGoodWork", spec := "fnExactGoodWork", unfollowed := true, recurses := true, apart := false }
def FnExactGoodWorkSaid : Prop := fnExactGoodWorkRow.holds Try.pinned (OpenSpec.ofChange fnExactGoodWorkSpec)

/-- ITS FALSE NEIGHBOUR: 'it returns false'. Refute it at one input. -/
def fnExactGoodWorkWrong : ChangeSpec := { name := "fnExactGoodWork", fn := fun _ => fun
  | [d] => { results := [.lit (.bool false)], args := [d] }
  | _ => none }
def FnExactGoodWorkWrongFalsely : Prop := fnExactGoodWorkRow.holds Try.pinned (OpenSpec.ofChange fnExactGoodWorkWrong)

/-- 'laws.FnExactOpenOf': WHATEVER THE INPUT: true; the input reads as it did. -/
def fnExactOpenOfSpec : ChangeSpec := { name := "fnExactOpenOf", fn := fun _ => fun
  | [d] => { results := [.lit (.bool true)], args := [d] }
  | _ => none }
def fnExactOpenOfRow : OpenClaim := { program := "ytakgjdckolllaaa", sum := "2b6a8887ce2e57c00dcd70bbfe24a906a4a7298daa53c76f14b4b47818d1577f", func := "loop.example/g00261/laws.FnExactOpenOf", spec := "fnExactOpenOf", unfollowed := true, recurses := true, apart := false }
def FnExactOpenOfSaid : Prop := fnExactOpenOfRow.holds Try.pinned (OpenSpec.ofChange fnExactOpenOfSpec)

/-- ITS FALSE NEIGHBOUR: 'it returns false'. Refute it at one input. -/
def fnExactOpenOfWrong : ChangeSpec := { name := "fnExactOpenOf", fn := fun _ => fun
  | [d] => { results := [.lit (.bool false)], args := [d] }
  | _ => none }
def FnExactOpenOfWrongFalsely : Prop := fnExactOpenOfRow.holds Try.pinned (OpenSpec.ofChange fnExactOpenOfWrong)

/-- 'laws.FnExactPromisedIn': WHATEVER THE INPUT: true; the input reads as it did. -/
def fnExactPromisedInSpec : ChangeSpec := { name := "fnExactPromisedIn", fn := fun _ => fun
  | [d] => { results := [.lit (.bool true)], args := [d] }
  | _ => none }
def fnExactPromisedInRow : OpenClaim := { program := "ytakgjdckolllaaa", sum := "2b6a8887ce2e57c00dcd70bbfe24a906a4a7298daa53c76f14b4b47818d1577f", func := "loop.example/g00261/laws.FnExactPromisedIn", spec := "fnExactPromisedIn", unfollowed := true, recurses := true, apart := false }
def FnExactPromisedInSaid : Prop := fnExactPromisedInRow.holds Try.pinned (OpenSpec.ofChange fnExactPromisedInSpec)

/-- ITS FALSE NEIGHBOUR: 'it returns false'. Refute it at one input. -/
def fnExactPromisedInWrong : ChangeSpec := { name := "fnExactPromisedIn", fn := fun _ => fun
  | [d] => { results := [.lit (.bool false)], args := [d] }
  | _ => none }
def FnExactPromisedInWrongFalsely : Prop := fnExactPromisedInRow.holds Try.pinned (OpenSpec.ofChange fnExactPromisedInWrong)

/-- 'laws.FnExactPromiseFree': WHATEVER THE INPUT: true; the input reads as it did. -/
def fnExactPromiseFreeSpec : ChangeSpec := { name := "fnExactPromiseFree", fn := fun _ => fun
  | [d1, d2] => { results := [.lit (.bool true)], args := [d1, d2] }
  | _ => none }
def fnExactPromiseFreeRow : OpenClaim := { program := "ytakgjdckolllaaa", sum := "2b6a8887ce2e57c00dcd70bbfe24a906a4a7298daa53c76f14b4b47818d1577f", func := "loop.example/g00261/laws.FnExactPromiseFree", spec := "fnExactPromiseFree", unfollowed := true, recurses := true, apart := false }
def FnExactPromiseFreeSaid : Prop := fnExactPromiseFreeRow.holds Try.pinned (OpenSpec.ofChange fnExactPromiseFreeSpec)

/-- ITS FALSE NEIGHBOUR: 'it returns false'. Refute it at one input. -/
def fnExactPromiseFreeWrong : ChangeSpec := { name := "fnExactPromiseFree", fn := fun _ => fun
  | [d1, d2] => { results := [.lit (.bool false)], args := [d1, d2] }
  | _ => none }
def FnExactPromiseFreeWrongFalsely : Prop := fnExactPromiseFreeRow.holds Try.pinned (OpenSpec.ofChange fnExactPromiseFreeWrong)

/-- 'laws.FnExactWorkOn': WHATEVER THE INPUT: true; the input reads as it did. -/
def fnExactWorkOnSpec : ChangeSpec := { name := "fnExactWorkOn", fn := fun _ => fun
  | [d1, d2, d3] => { results := [.lit (.bool true)], args := [d1, d2, d3] }
  | _ => none }
def fnExactWorkOnRow : OpenClaim := { program := "ytakgjdckolllaaa", sum := "2b6a8887ce2e57c00dcd70bbfe24a906a4a7298daa53c76f14b4b47818d1577f", func := "loop.example/g00261/laws.FnExactWorkOn", spec := "fnExactWorkOn", unfollowed := true, recurses := true, apart := false }
def FnExactWorkOnSaid : Prop := fnExactWorkOnRow.holds Try.pinned (OpenSpec.ofChange fnExactWorkOnSpec)

/-- ITS FALSE NEIGHBOUR: 'it returns false'. Refute it at one input. -/
def fnExactWorkOnWrong : ChangeSpec := { name := "fnExactWorkOn", fn := fun _ => fun
  | [d1, d2, d3] => { results := [.lit (.bool false)], args := [d1, d2, d3] }
  | _ => none }
def FnExactWorkOnWrongFalsely : Prop := fnExactWorkOnRow.holds Try.pinned (OpenSpec.ofChange fnExactWorkOnWrong)

/- THE SECOND FORM. 'bulk': how many values and letters a reading holds, each counted each time it is reached (what is shared counts as often as it is met; a slice's spare places count too). A statement '..UptoSaid' is the law's where the arguments, and the package variables that the reading takes, are together of bulk at most 1048576: NARROWER than '..Said'. Prove '..Said' where nothing that the law and all that it calls make is longer than what came in: it says more and counts as full. Else prove '..UptoSaid'. A law counts once. -/
mutual
def uptoBulk {H : Type} : DataW H → Nat
  | .lit (.string bytes) => bytes.length + 1
  | .lit _ => 1
  | .nil => 1
  | .ptr d => uptoBulk d + 1
  | .slice elems spare => uptoBulkAll elems + uptoBulkAll spare + 1
  | .agg parts => uptoBulkAll parts + 1
  | .iface _ d => uptoBulk d + 1
  | .map entries => uptoBulkEntries entries + 1
  | .held _ => 1
def uptoBulkAll {H : Type} : List (DataW H) → Nat
  | [] => 0
  | d :: r => uptoBulk d + uptoBulkAll r
def uptoBulkEntries {H : Type} : List (Lit × DataW H) → Nat
  | [] => 0
  | x :: r => uptoBulkEntry x + uptoBulkEntries r
def uptoBulkEntry {H : Type} : Lit × DataW H → Nat
  | (.string bytes, d) => bytes.length + uptoBulk d + 1
  | (_, d) => uptoBulk d + 1
 end
def uptoSmall : (H : Type) → List (DataW H) → Bool := fun _ ds => decide (uptoBulkAll ds ≤ 1048576)
def OpenSpec.upto (s : _root_.Go.ChangeSpec) : _root_.Go.OpenSpec := { _root_.Go.OpenSpec.ofChange s with cond := some uptoSmall }

/-- 'laws.FnExactNewWork', WHERE WHAT IT READS IS OF BULK AT MOST 1048576: true; the input reads as it did. -/
def fnExactNewWorkUptoRow : OpenClaim := { program := "ytakgjdckolllaaa", sum := "2b6a8887ce2e57c00dcd70bbfe24a906a4a7298daa53c76f14b4b47818d1577f", func := "loop.example/g00261/laws.FnExactNewWork", spec := "fnExactNewWork", unfollowed := true, recurses := true, apart := false, narrowed := true }
def FnExactNewWorkUptoSaid : Prop := fnExactNewWorkUptoRow.holds Try.pinned (OpenSpec.upto fnExactNewWorkSpec)

/-- 'laws.FnExactGoodWork', WHERE WHAT IT READS IS OF BULK AT MOST 1048576: true; the input reads as it did. -/
def fnExactGoodWorkUptoRow : OpenClaim := { program := "ytakgjdckolllaaa", sum := "2b6a8887ce2e57c00dcd70bbfe24a906a4a7298daa53c76f14b4b47818d1577f", func := "loop.example/g00261/laws.FnExactGoodWork", spec := "fnExactGoodWork", unfollowed := true, recurses := true, apart := false, narrowed := true }
def FnExactGoodWorkUptoSaid : Prop := fnExactGoodWorkUptoRow.holds Try.pinned (OpenSpec.upto fnExactGoodWorkSpec)

/-- 'laws.FnExactOpenOf', WHERE WHAT IT READS IS OF BULK AT MOST 1048576: true; the input reads as it did. -/
def fnExactOpenOfUptoRow : OpenClaim := { program := "ytakgjdckolllaaa", sum := "2b6a8887ce2e57c00dcd70bbfe24a906a4a7298daa53c76f14b4b47818d1577f", func := "loop.example/g00261/laws.FnExactOpenOf", spec := "fnExactOpenOf", unfollowed := true, recurses := true, apart := false, narrowed := true }
def FnExactOpenOfUptoSaid : Prop := fnExactOpenOfUptoRow.holds Try.pinned (OpenSpec.upto fnExactOpenOfSpec)

/-- 'laws.FnExactPromisedIn', WHERE WHAT IT READS IS OF BULK AT MOST 1048576: true; the input reads as it did. -/
def fnExactPromisedInUptoRow : OpenClaim := { program := "ytakgjdckolllaaa", sum := "2b6a8887ce2e57c00dcd70bbfe24a906a4a7298daa53c76f14b4b47818d1577f", func := "loop.example/g00261/laws.FnExactPromisedIn", spec := "fnExactPromisedIn", unfollowed := true, recurses := true, apart := false, narrowed := true }
def FnExactPromisedInUptoSaid : Prop := fnExactPromisedInUptoRow.holds Try.pinned (OpenSpec.upto fnExactPromisedInSpec)

/-- 'laws.FnExactPromiseFree', WHERE WHAT IT READS IS OF BULK AT MOST 1048576: true; the input reads as it did. -/
def fnExactPromiseFreeUptoRow : OpenClaim := { program := "ytakgjdckolllaaa", sum := "2b6a8887ce2e57c00dcd70bbfe24a906a4a7298daa53c76f14b4b47818d1577f", func := "loop.example/g00261/laws.FnExactPromiseFree", spec := "fnExactPromiseFree", unfollowed := true, recurses := true, apart := false, narrowed := true }
def FnExactPromiseFreeUptoSaid : Prop := fnExactPromiseFreeUptoRow.holds Try.pinned (OpenSpec.upto fnExactPromiseFreeSpec)

/-- 'laws.FnExactWorkOn', WHERE WHAT IT READS IS OF BULK AT MOST 1048576: true; the input reads as it did. -/
def fnExactWorkOnUptoRow : OpenClaim := { program := "ytakgjdckolllaaa", sum := "2b6a8887ce2e57c00dcd70bbfe24a906a4a7298daa53c76f14b4b47818d1577f", func := "loop.example/g00261/laws.FnExactWorkOn", spec := "fnExactWorkOn", unfollowed := true, recurses := true, apart := false, narrowed := true }
def FnExactWorkOnUptoSaid : Prop := fnExactWorkOnUptoRow.holds Try.pinned (OpenSpec.upto fnExactWorkOnSpec)

end Rows
end Go.Proofs.Ytakgjdckolllaaa
