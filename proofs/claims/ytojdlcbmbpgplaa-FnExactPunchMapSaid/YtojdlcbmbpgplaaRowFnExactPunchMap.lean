/- The statement FnExactPunchMapSaid: the law FnExactPunchMap returns true for every input and leaves its arguments as they were. No condition. Printed by a program of this session out of the walk (YtojdlcbmbpgplaaG*.lean) and the plain law (YtojdlcbmbpgplaaQFnExactPunchMap.lean). -/
import Derived.Test.YtojdlcbmbpgplaaRows
import Derived.Test.YtojdlcbmbpgplaaGO
import Derived.Test.YtojdlcbmbpgplaaG23
import Derived.Test.YtojdlcbmbpgplaaQFnExactPunchMap
import Derived.WalkKit
import Derived.ProofKit
import Derived.OpenShut
import Derived.ShutString
import Derived.ChangeOld
import Derived.Below
import Derived.SizedLaws
namespace Go.Proofs.Ytojdlcbmbpgplaa.fnExactPunchMap
open Go.ChangeShapes Go.WideShapes Go.ChangeAt Go.RowKit Go.Proofs.Ytojdlcbmbpgplaa.Opens Go.Proofs.Ytojdlcbmbpgplaa.G Go.Proofs.YtojdlcbmbpgplaaW.PrintWords
open Go.ChangeMaps (open_string shut_string)
set_option linter.unusedVariables false
theorem own : ownKnob Try.prog.godebug = none := by kernel_rfl
theorem laidOut : laidOutB Try.prog = true := by kernel_rfl
set_option maxRecDepth 100000 in
theorem lifted (os : Os) (started : os.Started) (H : Type) (enc : TypeId × Value → H) :
    ReturnsInHanded {} Try.checked os 11 .any (Rows.fnExactPunchMapSpec.pre6 enc Try.prog Try.f11 Rows.fnExactPunchMapRow.domain false) (Rows.fnExactPunchMapSpec.post enc Try.prog Try.f11 false true false false) := by
  refine returnsInHanded_of_change_sized (C := Try.checked) own started (by kernel_rfl) Try.func11
    (ChangeSpec.witness6 (enc := enc) (C := Try.checked) false ⟨#[], #[(.agg #[(.slice none 0 0)]), .int .i64 0, .int .i64 0], []⟩ 8 (by kernel_rfl) (by kernel_rfl) (by kernel_rfl) (by kernel_rfl)) ?_
  intro W base args ds gs before hval0 hW hcnd hsz0 _
  have hval : ∀ (j : Nat) t v, Try.f11.params[j]? = some t → args[j]? = some v → Value.okWide Try.prog W .any base t v := hval0
  have hW' := hW
  obtain ⟨p, q, hA0, hV, rfl, hfz, hnd⟩ := hW
  have hA : DataW.TrodAll enc Try.prog W 0 (fun _ => true) true Try.f11.params.toList args.toList ds p := hA0
  rw [Try.params11] at hA hval
  obtain ⟨v0, vs0, d0, ds0, p0, q0, hargs, rfl, rfl, h0, r0⟩ := trodAll_cons hA
  obtain ⟨v1, vs1, d1, ds1, p1, q1, rfl, rfl, rfl, h1, r1⟩ := trodAll_cons r0
  obtain ⟨v2, vs2, d2, ds2, p2, q2, rfl, rfl, rfl, h2, r2⟩ := trodAll_cons r1
  obtain ⟨rfl, rfl, rfl⟩ := trodAll_nil r2
  obtain rfl : args = #[v0, v1, v2] := by cases args; simp_all
  obtain ⟨rfl, rfl⟩ := trodVars_none hV
  have k0 := h0
  have lt0 : ∀ x ∈ p0, x.block < W.heap.size := by obtain ⟨m, hm⟩ := k0; exact DataW.trod_lt m _ _ _ hm
  obtain ⟨cs0, rfl, _⟩ := okWide_struct Try.underlying24 (hval 0 24 v0 rfl rfl)
  obtain ⟨x0, hk0, ho0⟩ := opens_arg opens24 h0
  obtain ⟨A0_0, c0_0, he0, hc0_0, hr0_0⟩ := k24_open hk0
  obtain rfl : cs0 = #[.slice A0_0 x0.f0.length c0_0] := by cases cs0; simpa [Value.cells] using he0
  obtain ⟨a1, rfl, rfl, rfl, w1⟩ := open_int Try.underlying3 (hval 1 3 v1 rfl rfl) h1
  obtain ⟨a2, rfl, rfl, rfl, w2⟩ := open_int Try.underlying3 (hval 2 3 v2 rfl rfl) h2
  clear hA0 hval0 hsz0
  obtain ⟨k, hq⟩ := Q.FnExactPunchMap x0.f0 a1 a2 ho0 w1 w2
  refine (laws_FnExactPunchMap.calls (k := k) (A0_0 := A0_0) (c0_0 := c0_0) (l0_0 := x0.f0) (hr0_0 := hr0_0) (hc0_0 := hc0_0) (a1 := a1) (a2 := a2) (r := true) (w := W) (h := hq)).mono fun e W' hp => ?_
  obtain ⟨rfl, bel0⟩ := hp
  have bel : Below W.heap.size W W' := bel0
  exact ⟨_, rfl, _, _, _, [], _, [], hW', trodAll_mk1 (shut_bool Try.underlying4 _), (trodAll_cons_mk (Below.trod laidOut (by kernel_rfl) (of_decide_eq_true (by kernel_rfl)) k0 bel lt0) (trodAll_cons_mk (shut_int Try.underlying3 w1) (trodAll_cons_mk (shut_int Try.underlying3 w2) trodAll_mk0))), rfl, bel.frame _, fun h => by cases h⟩
theorem over : Rows.fnExactPunchMapRow.holds Try.pinned (OpenSpec.ofChange Rows.fnExactPunchMapSpec) :=
  OpenClaim.holds_of_wide 11 Try.f11 rfl rfl rfl rfl rfl rfl rfl ⟨rfl, rfl, rfl, rfl, rfl⟩ rfl rfl rfl rfl rfl (by kernel_rfl) Try.func11 (by kernel_rfl)
    (of_decide_eq_true (by kernel_rfl)) (by unfold Func.isWrapper; first | (rw [if_pos (by decide +kernel)]; kernel_rfl) | (rw [if_neg (by decide +kernel)]; exact ⟨rfl, rfl⟩))
    (fun os started H enc _ => lifted os started H enc)
theorem proved : Rows.FnExactPunchMapSaid := over
#print axioms proved
end Go.Proofs.Ytojdlcbmbpgplaa.fnExactPunchMap
namespace Go.Proofs.Ytojdlcbmbpgplaa
/-- The row, under a short name, for the claim. -/
theorem fnExactPunchMap_holds : Rows.FnExactPunchMapSaid := fnExactPunchMap.proved
end Go.Proofs.Ytojdlcbmbpgplaa
