/- The plain law of FnExactWriteBack: the reference and the program give the same answer, the arguments stay, and the answer's memory is its own. No condition. Printed by a program of this session (genq.py) behind writeBack_both. -/
import Derived.Test.YtcdkgenfggdpaaaStoreBack
import Derived.Test.YtcdkgenfggdpaaaHStore
import Derived.Test.YtcdkgenfggdpaaaG24
namespace Go.Proofs.Ytcdkgenfggdpaaa.Q
open Go.RowKit Go.Proofs.YtcdkgenfggdpaaaW.PrintWords Go.Proofs.Ytcdkgenfggdpaaa.G
set_option linter.unusedVariables false
set_option linter.unusedSimpArgs false

set_option maxHeartbeats 2000000 in
theorem FnExactWriteBack : laws_FnExactWriteBack.Pure := by
  intro x0_0 x0_1 x0_2 x0_3 o0
  refine Ev.rounds (r := true) ?_
  unfold laws_FnExactWriteBack.f
  obtain ⟨t0, e0, n0⟩ := szStore_ev x0_0 x0_1 x0_2 x0_3 (o0.1.1).1 (o0.1.1).2 (o0.1.2).1 (o0.1.2).2 (o0.2.1).1 (o0.2.1).2 (1048576) (by omega) (by omega)
  by_cases c0 : t0 < 0
  · exact Ev.bind' _ e0 (Ev.pos c0 (Ev.now _))
  obtain ⟨⟨a0, b0⟩, lx0_0, lx0_1, lx0_2, sx0_0, sx0_1, sx0_2⟩ := n0 c0
  have kx0_0 : x0_0.length ≤ 1048576 := by omega
  have kx0_1 : (x0_1.map convWrite).length ≤ 1048576 := by rw [List.length_map]; omega
  have kx0_2 : x0_2.length ≤ 1048576 := by omega
  have to0 := toStore_ev x0_0 x0_1 x0_2 x0_3 (by omega) (by omega) (by omega)
  have ea0 := eqStore_refl x0_0 (x0_1.map convWrite) x0_2 x0_3 (by omega) (by omega) (by omega)
  obtain ⟨r, hs, hi, r0, r1, r2⟩ := writeBack_both x0_0 (x0_1.map convWrite) x0_2 x0_3 kx0_0 kx0_1 kx0_2 (fun j hj => (by have := sx0_0 j hj; omega)) (fun j hj => (by have := sx0_2 j hj; omega))
  obtain ⟨qa0, mx0_0, mx0_1, mx0_2, ma0, ha0, ba0, va0, _, _, _⟩ := markStore_ev x0_0 (x0_1.map convWrite) x0_2 x0_3 (1) (by omega) (by omega)
  have er0 := eqStore_refl (r.1) (r.2.1) (r.2.2.1) (r.2.2.2.1) (by omega) (by omega) (by omega)
  obtain ⟨qr0, mr0_0, mr0_1, mr0_2, mr0, hr0, br0, vr0, _, _, _⟩ := markStore_ev (r.1) (r.2.1) (r.2.2.1) (r.2.2.2.1) (1) (by omega) (by omega)
  refine Ev.bind' _ e0 (Ev.neg c0 (?_))
  repeat (first
    | exact Ev.now _
    | refine Ev.bind' _ to0 ?_
    | refine Ev.bind' _ ea0 ?_
    | refine Ev.bind' _ hs ?_
    | refine Ev.bind' _ hi ?_
    | refine Ev.bind' _ ma0 ?_
    | refine Ev.bind' _ er0 ?_
    | refine Ev.bind' _ mr0 ?_
    | refine Ev.bind' _ hr0 ?_
    | refine Ev.pos rfl ?_
    | refine Ev.neg (by omega) ?_
    | refine Ev.neg (by dsimp only; omega) ?_
    | refine Ev.neg (by simp) ?_
    | refine Ev.pos (by simp) ?_
    | refine Ev.step (fun k => by rw [laws_FnExactWriteBack.j0]) ?_
    | refine Ev.step (fun k => by rw [laws_FnExactWriteBack.j1]) ?_
    | refine Ev.step (fun k => by rw [laws_FnExactWriteBack.j2]) ?_)
end Go.Proofs.Ytcdkgenfggdpaaa.Q
