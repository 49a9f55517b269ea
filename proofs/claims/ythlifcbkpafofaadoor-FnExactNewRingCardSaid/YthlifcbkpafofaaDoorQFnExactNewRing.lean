/- The plain law of FnExactNewRing: the reference and the program give the same answer, the arguments stay, and the answer's memory is its own. No condition. Printed by a program of this session (genq.py) behind newRing_both. -/
import Derived.Test.YthlifcbkpafofaaDoorRingNew
import Derived.Test.YthlifcbkpafofaaDoorHRing
import Derived.Test.YthlifcbkpafofaaDoorG7
namespace Go.Proofs.YthlifcbkpafofaaDoor.Q
open Go.RowKit Go.Proofs.YthlifcbkpafofaaDoorW.PrintWords Go.Proofs.YthlifcbkpafofaaDoor.G
set_option linter.unusedVariables false
set_option linter.unusedSimpArgs false

set_option maxHeartbeats 2000000 in
theorem FnExactNewRing : laws_FnExactNewRing.Pure := by
  intro x0_0 o0
  refine Ev.rounds (r := true) ?_
  unfold laws_FnExactNewRing.f
  obtain ⟨r, hs, hi, r0⟩ := newRing_both x0_0
  have er0 := eqRing_refl (r.1) (r.2.1) (r.2.2.1) (r.2.2.2.1) (by omega)
  obtain ⟨qr0, mr0_0, mr0, hr0, br0, vr0, _⟩ := markRing_ev (r.1) (r.2.1) (r.2.2.1) (r.2.2.2.1) (1) (by omega) (by omega)
  repeat (first
    | exact Ev.now _
    | refine Ev.bind' _ hs ?_
    | refine Ev.bind' _ hi ?_
    | refine Ev.bind' _ er0 ?_
    | refine Ev.bind' _ mr0 ?_
    | refine Ev.bind' _ hr0 ?_
    | refine Ev.pos rfl ?_
    | refine Ev.neg (by omega) ?_
    | refine Ev.neg (by dsimp only; omega) ?_
    | refine Ev.neg (by simp) ?_
    | refine Ev.pos (by simp) ?_
    | refine Ev.step (fun k => by rw [laws_FnExactNewRing.j0]) ?_
    | refine Ev.step (fun k => by rw [laws_FnExactNewRing.j1]) ?_
    | refine Ev.step (fun k => by rw [laws_FnExactNewRing.j2]) ?_)
end Go.Proofs.YthlifcbkpafofaaDoor.Q
