/- The plain law of FnExactOpenOf: the reference and the program give the same answer, the arguments stay, and the answer's memory is its own. No condition. Printed by a program of this session (genq.py) behind openOf_both. -/
import Derived.Test.YtakgjdckolllaaaIntOpen
import Derived.Test.YtakgjdckolllaaaHItem
import Derived.Test.YtakgjdckolllaaaHWork
import Derived.Test.YtakgjdckolllaaaG7
namespace Go.Proofs.Ytakgjdckolllaaa.Q
open Go.RowKit Go.Proofs.YtakgjdckolllaaaW.PrintWords Go.Proofs.Ytakgjdckolllaaa.G
set_option linter.unusedVariables false
set_option linter.unusedSimpArgs false

set_option maxHeartbeats 2000000 in
theorem FnExactOpenOf : laws_FnExactOpenOf.Pure := by
  intro x0_0 x0_1 x0_2 x0_3 x0_4 o0
  refine Ev.rounds (r := true) ?_
  unfold laws_FnExactOpenOf.f
  obtain ⟨t0, e0, n0⟩ := szWork_ev x0_0 x0_1 x0_2 x0_3 x0_4 (o0.1.2.1).1 (o0.1.2.2).1 (o0.2.2).1 (1048576) (by omega) (by omega)
  by_cases c0 : t0 < 0
  · exact Ev.bind' _ e0 (Ev.pos c0 (Ev.now _))
  obtain ⟨⟨a0, b0⟩, lx0_1, lx0_2, lx0_4⟩ := n0 c0
  have kx0_1 : (x0_1.map convExtent).length ≤ 1048576 := by rw [List.length_map]; omega
  have kx0_2 : (x0_2.map convExtent).length ≤ 1048576 := by rw [List.length_map]; omega
  have kx0_4 : (x0_4.map convItem).length ≤ 1048576 := by rw [List.length_map]; omega
  have to0 := toWork_ev x0_0 x0_1 x0_2 x0_3 x0_4 (by omega) (by omega) (by omega)
  have ea0 := eqWork_refl x0_0 (x0_1.map convExtent) (x0_2.map convExtent) x0_3 (x0_4.map convItem) (by omega) (by omega) (by omega)
  obtain ⟨r, hs, hi, r0⟩ := openOf_both x0_0 (x0_1.map convExtent) (x0_2.map convExtent) x0_3 (x0_4.map convItem) kx0_1 kx0_2 kx0_4
  obtain ⟨qa0, mx0_1, mx0_2, mx0_4, ma0, ha0, ba0, va0, _, _, _⟩ := markWork_ev x0_0 (x0_1.map convExtent) (x0_2.map convExtent) x0_3 (x0_4.map convItem) (1) (by omega) (by omega)
  have er0 := eqItemS_refl (r.1) (by omega)
  obtain ⟨qr0, mr0_0, mr0, hr0, br0, vr0, _⟩ := markItemS_ev (r.1) (1) (by omega) (by omega)
  refine Ev.bind' _ e0 (Ev.neg c0 (?_))
  repeat (first
    | exact Ev.now _
    | refine Ev.bind' _ to0 ?_
    | refine Ev.bind' _ ea0 ?_
    | refine Ev.bind' _ hs ?_
    | refine Ev.bind' _ hi ?_
    | refine Ev.bind' _ ma0 ?_
    | refine Ev.bind' _ er0 ?_
    | refine Ev.bind' _ mr0 ?_
    | refine Ev.bind' _ hr0 ?_
    | refine Ev.pos rfl ?_
    | refine Ev.neg (by omega) ?_
    | refine Ev.neg (by dsimp only; omega) ?_
    | refine Ev.neg (by simp) ?_
    | refine Ev.pos (by simp) ?_
    | refine Ev.step (fun k => by rw [laws_FnExactOpenOf.j0]) ?_
    | refine Ev.step (fun k => by rw [laws_FnExactOpenOf.j1]) ?_
    | refine Ev.step (fun k => by rw [laws_FnExactOpenOf.j2]) ?_)
end Go.Proofs.Ytakgjdckolllaaa.Q
