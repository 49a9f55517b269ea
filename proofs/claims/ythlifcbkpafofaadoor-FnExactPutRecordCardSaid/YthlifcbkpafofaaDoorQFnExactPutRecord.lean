/- The plain law of FnExactPutRecord: the reference and the program give the same answer, the arguments stay, and the answer's memory is its own. No condition. Printed by a program of this session (genq.py) behind putRecord_both. -/
import Derived.Test.YthlifcbkpafofaaDoorRingPut
import Derived.Test.YthlifcbkpafofaaDoorHRing
import Derived.Test.YthlifcbkpafofaaDoorG9
namespace Go.Proofs.YthlifcbkpafofaaDoor.Q
open Go.RowKit Go.Proofs.YthlifcbkpafofaaDoorW.PrintWords Go.Proofs.YthlifcbkpafofaaDoor.G
set_option linter.unusedVariables false
set_option linter.unusedSimpArgs false

set_option maxHeartbeats 2000000 in
theorem FnExactPutRecord : laws_FnExactPutRecord.Pure := by
  intro x0_0 x0_1 x0_2 x0_3 x1_0 o0 o1
  refine Ev.rounds (r := true) ?_
  unfold laws_FnExactPutRecord.f
  by_cases g1 : (x1_0.size : Int) > 1048576
  · exact Ev.pos g1 (Ev.now _)
  obtain ⟨t0, e0, n0⟩ := szRing_ev x0_0 x0_1 x0_2 x0_3 (o0.1).1 (o0.1).2 (1048576) (by omega) (by omega)
  by_cases c0 : t0 < 0
  · exact Ev.neg g1 (Ev.bind' _ e0 (Ev.pos c0 (Ev.now _)))
  obtain ⟨⟨a0, b0⟩, lx0_0, sx0_0⟩ := n0 c0
  have kx0_0 : (x0_0.map convSlot).length ≤ 1048576 := by rw [List.length_map]; omega
  have to0 := toRing_ev x0_0 x0_1 x0_2 x0_3 (by omega)
  have ea0 := eqRing_refl (x0_0.map convSlot) x0_1 x0_2 x0_3 (by omega)
  obtain ⟨r, hs, hi, r0⟩ := putRecord_both (x0_0.map convSlot) x0_1 x0_2 x0_3 x1_0 kx0_0
  obtain ⟨qa0, mx0_0, ma0, ha0, ba0, va0, _⟩ := markRing_ev (x0_0.map convSlot) x0_1 x0_2 x0_3 (1) (by omega) (by omega)
  have er0 := eqRing_refl (r.1) (r.2.1) (r.2.2.1) (r.2.2.2.1) (by omega)
  obtain ⟨qr0, mr0_0, mr0, hr0, br0, vr0, _⟩ := markRing_ev (r.1) (r.2.1) (r.2.2.1) (r.2.2.2.1) (1) (by omega) (by omega)
  refine Ev.neg g1 (Ev.bind' _ e0 (Ev.neg c0 (?_)))
  repeat (first
    | exact Ev.now _
    | refine Ev.bind' _ to0 ?_
    | refine Ev.bind' _ ea0 ?_
    | refine Ev.bind' _ hs ?_
    | refine Ev.bind' _ hi ?_
    | refine Ev.bind' _ ma0 ?_
    | refine Ev.bind' _ er0 ?_
    | refine Ev.bind' _ mr0 ?_
    | refine Ev.bind' _ hr0 ?_
    | refine Ev.pos rfl ?_
    | refine Ev.neg (by omega) ?_
    | refine Ev.neg (by dsimp only; omega) ?_
    | refine Ev.neg (by simp) ?_
    | refine Ev.pos (by simp) ?_
    | refine Ev.step (fun k => by rw [laws_FnExactPutRecord.j0]) ?_
    | refine Ev.step (fun k => by rw [laws_FnExactPutRecord.j1]) ?_
    | refine Ev.step (fun k => by rw [laws_FnExactPutRecord.j2]) ?_)
end Go.Proofs.YthlifcbkpafofaaDoor.Q
