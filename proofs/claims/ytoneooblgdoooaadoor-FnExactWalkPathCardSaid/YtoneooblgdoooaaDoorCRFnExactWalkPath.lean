/- The statement FnExactWalkPathSaid: the law FnExactWalkPath returns true for every input and leaves its arguments as they were. The listed tables lie as the text lays them. Printed by a program of this session out of the walk (YtoneooblgdoooaaDoorG*.lean) and the plain law (YtoneooblgdoooaaDoorQFnExactWalkPath.lean). -/
import Derived.Test.YtoneooblgdoooaaDoorRows
import Derived.Test.YtoneooblgdoooaaDoorCardLaid
import Derived.Test.YtoneooblgdoooaaDoorGO
import Derived.Test.YtoneooblgdoooaaDoorG4
import Derived.Test.YtoneooblgdoooaaDoorQFnExactWalkPath
import Derived.WalkKit
import Derived.ProofKit
import Derived.OpenShut
import Derived.ShutString
import Derived.ChangeOld
import Derived.Below
import Derived.SizedLaws
namespace Go.Proofs.YtoneooblgdoooaaDoor.fnExactWalkPath
open Go.ChangeShapes Go.WideShapes Go.ChangeAt Go.RowKit Go.Proofs.YtoneooblgdoooaaDoor.Opens Go.Proofs.YtoneooblgdoooaaDoor.G Go.Proofs.YtoneooblgdoooaaDoorW.PrintWords
open Go.ChangeMaps (open_string shut_string)
set_option linter.unusedVariables false
theorem own : ownKnob Tryd.prog.godebug = none := by kernel_rfl
theorem laidOut : laidOutB Tryd.prog = true := by kernel_rfl
def args0 : Array Value := #[(.agg #[(.slice none 0 0)]), .string ByteArray.empty]
theorem witness_row (os : Os) {H : Type} (enc : TypeId × Value → H) :
    (OpenSpec.ofChange Rows.fnExactWalkPathSpec).preRow enc Tryd.prog Tryd.f4 Rows.fnExactWalkPathRow.domain false Rows.fnExactWalkPathRow.laid ((Laid.laidWorld os).forCall (fun _ _ => 0) ⟨#[], args0, []⟩).memory args0 := by
  have hw : (DataW.whole enc Tryd.prog ((Laid.laidWorld os).forCall (fun _ _ => 0) ⟨#[], args0, []⟩).memory Tryd.f4.params.toList (OpenSpec.ofChange Rows.fnExactWalkPathSpec).vars false args0.toList 8).map (fun x => (x.1, x.2.1)) =
      some ([.agg [.nil], .lit (.string [])], []) := by kernel_rfl
  obtain ⟨⟨x1, x2, x3⟩, hx, hx1⟩ := Option.map_eq_some_iff.1 hw
  simp only [Prod.mk.injEq] at hx1
  obtain ⟨rfl, rfl⟩ := hx1
  exact OpenSpec.preRow_of_cond 8 hx (by kernel_rfl) (fun k hk => by cases hk) (by kernel_rfl) (Laid.laid_met os _)
set_option maxRecDepth 100000 in
theorem lifted (os : Os) (started : os.Started) (H : Type) (enc : TypeId × Value → H) (F : Stop.Interp) :
    ReturnsInHanded {} Tryd.checked os 4 .any ((OpenSpec.ofChange Rows.fnExactWalkPathSpec).preRow enc Tryd.prog Tryd.f4 Rows.fnExactWalkPathRow.domain false Rows.fnExactWalkPathRow.laid) (((OpenSpec.ofChange Rows.fnExactWalkPathSpec).at F).post enc Tryd.prog Tryd.f4 false true false false) := by
  refine returnsInHanded_of_row (C := Tryd.checked) (s := (OpenSpec.ofChange Rows.fnExactWalkPathSpec)) own started (by kernel_rfl) Tryd.func4
    (witness_row_at (enc := enc) (C := Tryd.checked) false (Laid.laidWorld os) args0 rfl (by kernel_rfl) (by kernel_rfl) (by kernel_rfl) (witness_row os enc)) ?_
  intro W base args ds gs before hval0 hW hcnd _ hsz0 hL hsh _
  have hval : ∀ (j : Nat) t v, Tryd.f4.params[j]? = some t → args[j]? = some v → Value.okWide Tryd.prog W .any base t v := hval0
  have hW' := hW
  obtain ⟨p, q, hA0, hV, rfl, hfz, hnd⟩ := hW
  have hA : DataW.TrodAll enc Tryd.prog W 0 (fun _ => true) true Tryd.f4.params.toList args.toList ds p := hA0
  rw [Tryd.params4] at hA hval
  obtain ⟨v0, vs0, d0, ds0, p0, q0, hargs, rfl, rfl, h0, r0⟩ := trodAll_cons hA
  obtain ⟨v1, vs1, d1, ds1, p1, q1, rfl, rfl, rfl, h1, r1⟩ := trodAll_cons r0
  obtain ⟨rfl, rfl, rfl⟩ := trodAll_nil r1
  obtain rfl : args = #[v0, v1] := by cases args; simp_all
  obtain ⟨rfl, rfl⟩ := trodVars_none hV
  have k0 := h0
  have lt0 : ∀ x ∈ p0, x.block < W.heap.size := by obtain ⟨m, hm⟩ := k0; exact DataW.trod_lt m _ _ _ hm
  obtain ⟨cs0, rfl, _⟩ := okWide_struct Tryd.underlying24 (hval 0 24 v0 rfl rfl)
  obtain ⟨x0, hk0, ho0⟩ := opens_arg opens24 h0
  obtain ⟨A0_0, c0_0, he0, hc0_0, hr0_0⟩ := k24_open hk0
  obtain rfl : cs0 = #[.slice A0_0 x0.f0.length c0_0] := by cases cs0; simpa [Value.cells] using he0
  obtain ⟨a1, rfl, rfl, rfl, y1⟩ := open_string Tryd.underlying9 (hval 1 9 v1 rfl rfl) h1
  clear hA0 hval0 hsz0
  obtain ⟨k, hq⟩ := Q.FnExactWalkPath x0.f0 a1 ho0 y1
  refine (laws_FnExactWalkPath.calls (k := k) (A0_0 := A0_0) (c0_0 := c0_0) (l0_0 := x0.f0) (hr0_0 := hr0_0) (hc0_0 := hc0_0) (a1 := a1) (r := true) (w := W) (hTab_ := Aside0.mk (Ito.tab_of_shaped hsh)) (h := hq)).mono fun e W' hp => ?_
  obtain ⟨rfl, bel0⟩ := hp
  have bel : Below W.heap.size W W' := bel0
  exact ⟨_, rfl, _, _, _, [], _, [], hW', trodAll_mk1 (shut_bool Tryd.underlying4 _), (trodAll_cons_mk (Below.trod laidOut (by kernel_rfl) (of_decide_eq_true (by kernel_rfl)) k0 bel lt0) (trodAll_cons_mk (shut_string Tryd.underlying9 y1) trodAll_mk0)), rfl, bel.frame _, fun h => by cases h⟩
theorem over : Rows.fnExactWalkPathRow.holds Tryd.pinned (OpenSpec.ofChange Rows.fnExactWalkPathSpec) :=
  OpenClaim.holds_of_cond 4 Tryd.f4 rfl rfl rfl rfl rfl rfl rfl ⟨rfl, rfl, rfl, rfl, rfl⟩ rfl rfl rfl rfl rfl (by kernel_rfl) Tryd.func4 (by kernel_rfl)
    (of_decide_eq_true (by kernel_rfl)) (by unfold Func.isWrapper; first | (rw [if_pos (by decide +kernel)]; kernel_rfl) | (rw [if_neg (by decide +kernel)]; exact ⟨rfl, rfl⟩))
    (fun os started H enc _ F0 => by rw [OpenClaim.pre_eq_preRow]; exact lifted os started H enc F0)
theorem proved : Rows.FnExactWalkPathSaid := over
#print axioms proved
end Go.Proofs.YtoneooblgdoooaaDoor.fnExactWalkPath
namespace Go.Proofs.YtoneooblgdoooaaDoor
/-- The row, under a short name, for the claim. -/
theorem fnExactWalkPath_holds : Rows.FnExactWalkPathSaid := fnExactWalkPath.proved
end Go.Proofs.YtoneooblgdoooaaDoor
