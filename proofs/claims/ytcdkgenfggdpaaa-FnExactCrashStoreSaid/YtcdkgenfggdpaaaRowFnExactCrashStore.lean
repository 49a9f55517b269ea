/- The statement FnExactCrashStoreSaid: the law FnExactCrashStore returns true for every input and leaves its arguments as they were. No condition. Printed by a program of this session out of the walk (YtcdkgenfggdpaaaG*.lean) and the plain law (YtcdkgenfggdpaaaQFnExactCrashStore.lean). -/
import Derived.Test.YtcdkgenfggdpaaaRows
import Derived.Test.YtcdkgenfggdpaaaGO
import Derived.Test.YtcdkgenfggdpaaaG26
import Derived.Test.YtcdkgenfggdpaaaQFnExactCrashStore
import Derived.WalkKit
import Derived.ProofKit
import Derived.OpenShut
import Derived.ShutString
import Derived.ChangeOld
import Derived.Below
import Derived.SizedLaws
namespace Go.Proofs.Ytcdkgenfggdpaaa.fnExactCrashStore
open Go.ChangeShapes Go.WideShapes Go.ChangeAt Go.RowKit Go.Proofs.Ytcdkgenfggdpaaa.Opens Go.Proofs.Ytcdkgenfggdpaaa.G Go.Proofs.YtcdkgenfggdpaaaW.PrintWords
open Go.ChangeMaps (open_string shut_string)
set_option linter.unusedVariables false
theorem own : ownKnob Try.prog.godebug = none := by kernel_rfl
theorem laidOut : laidOutB Try.prog = true := by kernel_rfl
set_option maxRecDepth 100000 in
theorem lifted (os : Os) (started : os.Started) (H : Type) (enc : TypeId × Value → H) :
    ReturnsInHanded {} Try.checked os 13 .any (Rows.fnExactCrashStoreSpec.pre6 enc Try.prog Try.f13 Rows.fnExactCrashStoreRow.domain false) (Rows.fnExactCrashStoreSpec.post enc Try.prog Try.f13 false true false false) := by
  refine returnsInHanded_of_change_sized (C := Try.checked) own started (by kernel_rfl) Try.func13
    (ChangeSpec.witness6 (enc := enc) (C := Try.checked) false ⟨#[], #[(.agg #[(.slice none 0 0), (.slice none 0 0), (.slice none 0 0), (.int .i64 0)]), .slice none 0 0, .int .i64 0], []⟩ 8 (by kernel_rfl) (by kernel_rfl) (by kernel_rfl) (by kernel_rfl)) ?_
  intro W base args ds gs before hval0 hW hcnd hsz0 _
  have hval : ∀ (j : Nat) t v, Try.f13.params[j]? = some t → args[j]? = some v → Value.okWide Try.prog W .any base t v := hval0
  have hW' := hW
  obtain ⟨p, q, hA0, hV, rfl, hfz, hnd⟩ := hW
  have hA : DataW.TrodAll enc Try.prog W 0 (fun _ => true) true Try.f13.params.toList args.toList ds p := hA0
  rw [Try.params13] at hA hval
  obtain ⟨v0, vs0, d0, ds0, p0, q0, hargs, rfl, rfl, h0, r0⟩ := trodAll_cons hA
  obtain ⟨v1, vs1, d1, ds1, p1, q1, rfl, rfl, rfl, h1, r1⟩ := trodAll_cons r0
  obtain ⟨v2, vs2, d2, ds2, p2, q2, rfl, rfl, rfl, h2, r2⟩ := trodAll_cons r1
  obtain ⟨rfl, rfl, rfl⟩ := trodAll_nil r2
  obtain rfl : args = #[v0, v1, v2] := by cases args; simp_all
  obtain ⟨rfl, rfl⟩ := trodVars_none hV
  have k0 := h0
  have lt0 : ∀ x ∈ p0, x.block < W.heap.size := by obtain ⟨m, hm⟩ := k0; exact DataW.trod_lt m _ _ _ hm
  obtain ⟨cs0, rfl, _⟩ := okWide_struct Try.underlying38 (hval 0 38 v0 rfl rfl)
  obtain ⟨x0, hk0, ho0⟩ := opens_arg opens38 h0
  obtain ⟨A0_0, c0_0, A0_1, c0_1, A0_2, c0_2, he0, hc0_0, hr0_0, hc0_1, hr0_1, hc0_2, hr0_2⟩ := k38_open hk0
  obtain rfl : cs0 = #[.slice A0_0 x0.f0.f0.length c0_0, .slice A0_1 x0.f0.f1.length c0_1, .slice A0_2 x0.f1.length c0_2, .int .i64 x0.f2] := by cases cs0; simpa [Value.cells] using he0
  have k1 := h1
  have lt1 : ∀ x ∈ p1, x.block < W.heap.size := by obtain ⟨m, hm⟩ := k1; exact DataW.trod_lt m _ _ _ hm
  obtain ⟨a1, len1, cap1, rfl⟩ := okWide_slice Try.underlying59 (hval 1 59 v1 rfl rfl)
  obtain ⟨l1, hk1, ho1⟩ := opens_arg (opens_slice Try.underlying59 (by kernel_rfl) (opens_bool Try.underlying4)) h1
  obtain ⟨A1, c1, he1, hc1, hr1⟩ := hk1
  obtain ⟨rfl, rfl, rfl⟩ : a1 = A1 ∧ len1 = l1.length ∧ cap1 = c1 := by simpa [Value.cells] using he1
  obtain ⟨a2, rfl, rfl, rfl, w2⟩ := open_int Try.underlying3 (hval 2 3 v2 rfl rfl) h2
  clear hA0 hval0 hsz0
  obtain ⟨k, hq⟩ := Q.FnExactCrashStore x0.f0.f0 x0.f0.f1 x0.f1 x0.f2 l1 a2 ho0 ho1 w2
  refine (laws_FnExactCrashStore.calls (k := k) (A0_0 := A0_0) (c0_0 := c0_0) (l0_0 := x0.f0.f0) (hr0_0 := hr0_0) (hc0_0 := hc0_0) (A0_1 := A0_1) (c0_1 := c0_1) (l0_1 := x0.f0.f1) (hr0_1 := hr0_1) (hc0_1 := hc0_1) (A0_2 := A0_2) (c0_2 := c0_2) (l0_2 := x0.f1) (hr0_2 := hr0_2) (hc0_2 := hc0_2) (a0_3 := x0.f2) (A1 := a1) (c1 := cap1) (l1 := l1) (hr1 := hr1) (hc1 := hc1) (a2 := a2) (r := true) (w := W) (h := hq)).mono fun e W' hp => ?_
  obtain ⟨rfl, bel0⟩ := hp
  have bel : Below W.heap.size W W' := bel0
  exact ⟨_, rfl, _, _, _, [], _, [], hW', trodAll_mk1 (shut_bool Try.underlying4 _), (trodAll_cons_mk (Below.trod laidOut (by kernel_rfl) (of_decide_eq_true (by kernel_rfl)) k0 bel lt0) (trodAll_cons_mk (Below.trod laidOut (by kernel_rfl) (of_decide_eq_true (by kernel_rfl)) k1 bel lt1) (trodAll_cons_mk (shut_int Try.underlying3 w2) trodAll_mk0))), rfl, bel.frame _, fun h => by cases h⟩
theorem over : Rows.fnExactCrashStoreRow.holds Try.pinned (OpenSpec.ofChange Rows.fnExactCrashStoreSpec) :=
  OpenClaim.holds_of_wide 13 Try.f13 rfl rfl rfl rfl rfl rfl rfl ⟨rfl, rfl, rfl, rfl, rfl⟩ rfl rfl rfl rfl rfl (by kernel_rfl) Try.func13 (by kernel_rfl)
    (of_decide_eq_true (by kernel_rfl)) (by unfold Func.isWrapper; first | (rw [if_pos (by decide +kernel)]; kernel_rfl) | (rw [if_neg (by decide +kernel)]; exact ⟨rfl, rfl⟩))
    (fun os started H enc _ => lifted os started H enc)
theorem proved : Rows.FnExactCrashStoreSaid := over
#print axioms proved
end Go.Proofs.Ytcdkgenfggdpaaa.fnExactCrashStore
namespace Go.Proofs.Ytcdkgenfggdpaaa
/-- The row, under a short name, for the claim. -/
theorem fnExactCrashStore_holds : Rows.FnExactCrashStoreSaid := fnExactCrashStore.proved
end Go.Proofs.Ytcdkgenfggdpaaa
