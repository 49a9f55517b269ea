/- The plain law of FnExactNewWork: the reference and the program give the same answer, the arguments stay, and the answer's memory is its own. No condition. Printed by a program of this session (genq.py) behind newWork_both. -/
import Derived.Test.YtakgjdckolllaaaIntNew
import Derived.Test.YtakgjdckolllaaaHWork
import Derived.Test.YtakgjdckolllaaaG2
namespace Go.Proofs.Ytakgjdckolllaaa.Q
open Go.RowKit Go.Proofs.YtakgjdckolllaaaW.PrintWords Go.Proofs.Ytakgjdckolllaaa.G
set_option linter.unusedVariables false
set_option linter.unusedSimpArgs false

set_option maxHeartbeats 2000000 in
theorem FnExactNewWork : laws_FnExactNewWork.Pure := by
  intro x0_0 o0
  refine Ev.rounds (r := true) ?_
  unfold laws_FnExactNewWork.f
  obtain ⟨r, hs, hi, r0, r1, r2⟩ := newWork_both x0_0
  have er0 := eqWork_refl (r.1) (r.2.1) (r.2.2.1) (r.2.2.2.1) (r.2.2.2.2.1) (by omega) (by omega) (by omega)
  obtain ⟨qr0, mr0_0, mr0_1, mr0_2, mr0, hr0, br0, vr0, _, _, _⟩ := markWork_ev (r.1) (r.2.1) (r.2.2.1) (r.2.2.2.1) (r.2.2.2.2.1) (1) (by omega) (by omega)
  repeat (first
    | exact Ev.now _
    | refine Ev.bind' _ hs ?_
    | refine Ev.bind' _ hi ?_
    | refine Ev.bind' _ er0 ?_
    | refine Ev.bind' _ mr0 ?_
    | refine Ev.bind' _ hr0 ?_
    | refine Ev.pos rfl ?_
    | refine Ev.neg (by omega) ?_
    | refine Ev.neg (by dsimp only; omega) ?_
    | refine Ev.neg (by simp) ?_
    | refine Ev.pos (by simp) ?_
    | refine Ev.step (fun k => by rw [laws_FnExactNewWork.j0]) ?_
    | refine Ev.step (fun k => by rw [laws_FnExactNewWork.j1]) ?_
    | refine Ev.step (fun k => by rw [laws_FnExactNewWork.j2]) ?_)
end Go.Proofs.Ytakgjdckolllaaa.Q
