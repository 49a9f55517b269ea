/- The statement FnExactNewNamesSaid: the law FnExactNewNames returns true. No condition. -/
import Derived.Test.YtdclpgcmeabmbaaRows
import Derived.Test.YtdclpgcmeabmbaaOpens
import Derived.Test.YtdclpgcmeabmbaaNewLawNames
import Derived.WalkKit
import Derived.ProofKit
import Derived.OpenShut
import Derived.ShutString
import Derived.ChangeOld
import Derived.Below
import Derived.SizedLaws
namespace Go.Proofs.Ytdclpgcmeabmbaa.fnExactNewNames
open Go.ChangeShapes Go.WideShapes Go.ChangeAt Go.RowKit Go.Proofs.Ytdclpgcmeabmbaa.Opens Go.Proofs.Ytdclpgcmeabmbaa.G Go.Proofs.YtdclpgcmeabmbaaW.PrintWords
open Go.ChangeMaps (open_string shut_string)
set_option linter.unusedVariables false
theorem own : ownKnob Try.prog.godebug = none := by kernel_rfl
theorem run_ (w : World) : Calls Try.prog 5 #[] w fun e w' => e = .returned (.bool true) ∧ Below w.heap.size w w' :=
  laws_FnExactNewNames.calls 9 9 9 9 [(⟨true, 1, []⟩ : S61)] [(⟨false, 2, []⟩ : S61)] 0 3 rfl rfl (by kernel_rfl) (by kernel_rfl) rfl (by kernel_rfl) (by decide) w
set_option maxRecDepth 100000 in
theorem lifted (os : Os) (started : os.Started) (H : Type) (enc : TypeId × Value → H) :
    ReturnsInHanded {} Try.checked os 5 .any (Rows.fnExactNewNamesSpec.pre6 enc Try.prog Try.f5 Rows.fnExactNewNamesRow.domain false) (Rows.fnExactNewNamesSpec.post enc Try.prog Try.f5 false true false false) := by
  refine returnsInHanded_of_change_sized (C := Try.checked) own started (by kernel_rfl) Try.func5
    (ChangeSpec.witness6 (enc := enc) (C := Try.checked) false ⟨#[], #[], []⟩ 8 (by kernel_rfl) (by kernel_rfl) (by kernel_rfl) (by kernel_rfl)) ?_
  intro W base args ds gs before hval0 hW hcnd hsz0 _
  have hW' := hW
  obtain ⟨p, q, hA0, hV, rfl, hfz, hnd⟩ := hW
  have hA : DataW.TrodAll enc Try.prog W 0 (fun _ => true) true Try.f5.params.toList args.toList ds p := hA0
  rw [Try.params5] at hA
  obtain ⟨hargs, rfl, rfl⟩ := trodAll_nil hA
  obtain rfl : args = #[] := by cases args; simp_all
  obtain ⟨rfl, rfl⟩ := trodVars_none hV
  clear hA0 hval0 hsz0
  refine (run_ W).mono fun e W' hp => ?_
  obtain ⟨rfl, bel0⟩ := hp
  have bel : Below W.heap.size W W' := bel0
  exact ⟨_, rfl, _, _, _, [], _, [], hW', trodAll_mk1 (shut_bool Try.underlying4 _), trodAll_mk0, rfl, bel.frame _, fun h => by cases h⟩
theorem over : Rows.fnExactNewNamesRow.holds Try.pinned (OpenSpec.ofChange Rows.fnExactNewNamesSpec) :=
  OpenClaim.holds_of_wide 5 Try.f5 rfl rfl rfl rfl rfl rfl rfl ⟨rfl, rfl, rfl, rfl, rfl⟩ rfl rfl rfl rfl rfl (by kernel_rfl) Try.func5 (by kernel_rfl)
    (of_decide_eq_true (by kernel_rfl)) (by unfold Func.isWrapper; first | (rw [if_pos (by decide +kernel)]; kernel_rfl) | (rw [if_neg (by decide +kernel)]; exact ⟨rfl, rfl⟩))
    (fun os started H enc _ => lifted os started H enc)
theorem proved : Rows.FnExactNewNamesSaid := over
#print axioms proved
end Go.Proofs.Ytdclpgcmeabmbaa.fnExactNewNames
namespace Go.Proofs.Ytdclpgcmeabmbaa
/-- The row, under a short name, for the claim. -/
theorem fnExactNewNames_holds : Rows.FnExactNewNamesSaid := fnExactNewNames.proved
end Go.Proofs.Ytdclpgcmeabmbaa
