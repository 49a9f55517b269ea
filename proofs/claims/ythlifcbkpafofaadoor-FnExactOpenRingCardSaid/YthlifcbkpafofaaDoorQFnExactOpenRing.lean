/- The plain law of FnExactOpenRing: the reference and the program give the same answer, the arguments stay, and the answer's memory is its own. No condition. Printed by a program of this session (genq.py) behind openRing_both. -/
import Derived.Test.YthlifcbkpafofaaDoorRingOpen
import Derived.Test.YthlifcbkpafofaaDoorHRing
import Derived.Test.YthlifcbkpafofaaDoorHSlot
import Derived.Test.YthlifcbkpafofaaDoorG6
namespace Go.Proofs.YthlifcbkpafofaaDoor.Q
open Go.RowKit Go.Proofs.YthlifcbkpafofaaDoorW.PrintWords Go.Proofs.YthlifcbkpafofaaDoor.G
set_option linter.unusedVariables false
set_option linter.unusedSimpArgs false

set_option maxHeartbeats 2000000 in
theorem FnExactOpenRing : laws_FnExactOpenRing.Pure := by
  intro x0_0 o0
  refine Ev.rounds (r := true) ?_
  unfold laws_FnExactOpenRing.f
  obtain ⟨t0, e0, n0⟩ := szSlotS_ev x0_0 o0.1 o0.2 (1048576) (by omega) (by omega)
  by_cases c0 : t0 < 0
  · exact Ev.bind' _ e0 (Ev.pos c0 (Ev.now _))
  obtain ⟨⟨a0, b0, lx0_0⟩, sx0_0⟩ := n0 c0
  have kx0_0 : (x0_0.map convSlot).length ≤ 1048576 := by rw [List.length_map]; omega
  have to0 := toSlotS_ev x0_0 (by omega)
  have ea0 := eqSlotS_refl (x0_0.map convSlot) (by omega)
  obtain ⟨r, hs, hi, r0⟩ := openRing_both (x0_0.map convSlot) kx0_0
  obtain ⟨qa0, mx0_0, ma0, ha0, ba0, va0, _⟩ := markSlotS_ev (x0_0.map convSlot) (1) (by omega) (by omega)
  have er0 := eqRing_refl (r.1) (r.2.1) (r.2.2.1) (r.2.2.2.1) (by omega)
  obtain ⟨qr0, mr0_0, mr0, hr0, br0, vr0, _⟩ := markRing_ev (r.1) (r.2.1) (r.2.2.1) (r.2.2.2.1) (1) (by omega) (by omega)
  refine Ev.bind' _ e0 (Ev.neg c0 (?_))
  repeat (first
    | exact Ev.now _
    | refine Ev.bind' _ to0 ?_
    | refine Ev.bind' _ ea0 ?_
    | refine Ev.bind' _ hs ?_
    | refine Ev.bind' _ hi ?_
    | refine Ev.bind' _ ma0 ?_
    | refine Ev.bind' _ er0 ?_
    | refine Ev.bind' _ mr0 ?_
    | refine Ev.bind' _ hr0 ?_
    | refine Ev.pos rfl ?_
    | refine Ev.neg (by omega) ?_
    | refine Ev.neg (by dsimp only; omega) ?_
    | refine Ev.neg (by simp) ?_
    | refine Ev.pos (by simp) ?_
    | refine Ev.step (fun k => by rw [laws_FnExactOpenRing.j0]) ?_
    | refine Ev.step (fun k => by rw [laws_FnExactOpenRing.j1]) ?_
    | refine Ev.step (fun k => by rw [laws_FnExactOpenRing.j2]) ?_)
end Go.Proofs.YthlifcbkpafofaaDoor.Q
