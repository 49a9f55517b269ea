/- The statement FnExactOpenOfSaid: the law FnExactOpenOf returns true for every input and leaves its arguments as they were. No condition. Printed by a program of this session out of the walk (YtakgjdckolllaaaG*.lean) and the plain law (YtakgjdckolllaaaQFnExactOpenOf.lean). -/
import Derived.Test.YtakgjdckolllaaaRows
import Derived.Test.YtakgjdckolllaaaGO
import Derived.Test.YtakgjdckolllaaaG7
import Derived.Test.YtakgjdckolllaaaQFnExactOpenOf
import Derived.WalkKit
import Derived.ProofKit
import Derived.OpenShut
import Derived.ShutString
import Derived.ChangeOld
import Derived.Below
import Derived.SizedLaws
namespace Go.Proofs.Ytakgjdckolllaaa.fnExactOpenOf
open Go.ChangeShapes Go.WideShapes Go.ChangeAt Go.RowKit Go.Proofs.Ytakgjdckolllaaa.Opens Go.Proofs.Ytakgjdckolllaaa.G Go.Proofs.YtakgjdckolllaaaW.PrintWords
open Go.ChangeMaps (open_string shut_string)
set_option linter.unusedVariables false
theorem own : ownKnob Try.prog.godebug = none := by kernel_rfl
theorem laidOut : laidOutB Try.prog = true := by kernel_rfl
set_option maxRecDepth 100000 in
theorem lifted (os : Os) (started : os.Started) (H : Type) (enc : TypeId × Value → H) :
    ReturnsInHanded {} Try.checked os 5 .any (Rows.fnExactOpenOfSpec.pre6 enc Try.prog Try.f5 Rows.fnExactOpenOfRow.domain false) (Rows.fnExactOpenOfSpec.post enc Try.prog Try.f5 false true false false) := by
  refine returnsInHanded_of_change_sized (C := Try.checked) own started (by kernel_rfl) Try.func5
    (ChangeSpec.witness6 (enc := enc) (C := Try.checked) false ⟨#[], #[(.agg #[(.int .i64 0), (.slice none 0 0), (.slice none 0 0), (.int .i64 0), (.slice none 0 0)])], []⟩ 8 (by kernel_rfl) (by kernel_rfl) (by kernel_rfl) (by kernel_rfl)) ?_
  intro W base args ds gs before hval0 hW hcnd hsz0 _
  have hval : ∀ (j : Nat) t v, Try.f5.params[j]? = some t → args[j]? = some v → Value.okWide Try.prog W .any base t v := hval0
  have hW' := hW
  obtain ⟨p, q, hA0, hV, rfl, hfz, hnd⟩ := hW
  have hA : DataW.TrodAll enc Try.prog W 0 (fun _ => true) true Try.f5.params.toList args.toList ds p := hA0
  rw [Try.params5] at hA hval
  obtain ⟨v0, vs0, d0, ds0, p0, q0, hargs, rfl, rfl, h0, r0⟩ := trodAll_cons hA
  obtain ⟨rfl, rfl, rfl⟩ := trodAll_nil r0
  obtain rfl : args = #[v0] := by cases args; simp_all
  obtain ⟨rfl, rfl⟩ := trodVars_none hV
  have k0 := h0
  have lt0 : ∀ x ∈ p0, x.block < W.heap.size := by obtain ⟨m, hm⟩ := k0; exact DataW.trod_lt m _ _ _ hm
  obtain ⟨cs0, rfl, _⟩ := okWide_struct Try.underlying38 (hval 0 38 v0 rfl rfl)
  obtain ⟨x0, hk0, ho0⟩ := opens_arg opens38 h0
  obtain ⟨A0_1, c0_1, A0_2, c0_2, A0_4, c0_4, he0, hc0_1, hr0_1, hc0_2, hr0_2, hc0_4, hr0_4⟩ := k38_open hk0
  obtain rfl : cs0 = #[.int .i64 x0.f0.f0, .slice A0_1 x0.f0.f1.length c0_1, .slice A0_2 x0.f0.f2.length c0_2, .int .i64 x0.f1, .slice A0_4 x0.f2.length c0_4] := by cases cs0; simpa [Value.cells] using he0
  clear hA0 hval0 hsz0
  obtain ⟨k, hq⟩ := Q.FnExactOpenOf x0.f0.f0 x0.f0.f1 x0.f0.f2 x0.f1 x0.f2 ho0
  refine (laws_FnExactOpenOf.calls (k := k) (a0_0 := x0.f0.f0) (A0_1 := A0_1) (c0_1 := c0_1) (l0_1 := x0.f0.f1) (hr0_1 := hr0_1) (hc0_1 := hc0_1) (A0_2 := A0_2) (c0_2 := c0_2) (l0_2 := x0.f0.f2) (hr0_2 := hr0_2) (hc0_2 := hc0_2) (a0_3 := x0.f1) (A0_4 := A0_4) (c0_4 := c0_4) (l0_4 := x0.f2) (hr0_4 := hr0_4) (hc0_4 := hc0_4) (r := true) (w := W) (h := hq)).mono fun e W' hp => ?_
  obtain ⟨rfl, bel0⟩ := hp
  have bel : Below W.heap.size W W' := bel0
  exact ⟨_, rfl, _, _, _, [], _, [], hW', trodAll_mk1 (shut_bool Try.underlying4 _), (trodAll_cons_mk (Below.trod laidOut (by kernel_rfl) (of_decide_eq_true (by kernel_rfl)) k0 bel lt0) trodAll_mk0), rfl, bel.frame _, fun h => by cases h⟩
theorem over : Rows.fnExactOpenOfRow.holds Try.pinned (OpenSpec.ofChange Rows.fnExactOpenOfSpec) :=
  OpenClaim.holds_of_wide 5 Try.f5 rfl rfl rfl rfl rfl rfl rfl ⟨rfl, rfl, rfl, rfl, rfl⟩ rfl rfl rfl rfl rfl (by kernel_rfl) Try.func5 (by kernel_rfl)
    (of_decide_eq_true (by kernel_rfl)) (by unfold Func.isWrapper; first | (rw [if_pos (by decide +kernel)]; kernel_rfl) | (rw [if_neg (by decide +kernel)]; exact ⟨rfl, rfl⟩))
    (fun os started H enc _ => lifted os started H enc)
theorem proved : Rows.FnExactOpenOfSaid := over
#print axioms proved
end Go.Proofs.Ytakgjdckolllaaa.fnExactOpenOf
namespace Go.Proofs.Ytakgjdckolllaaa
/-- The row, under a short name, for the claim. -/
theorem fnExactOpenOf_holds : Rows.FnExactOpenOfSaid := fnExactOpenOf.proved
end Go.Proofs.Ytakgjdckolllaaa
