/- The plain law of FnExactPunchMap: the reference and the program give the same answer, the arguments stay, and the answer's memory is its own. No condition. Printed by a program of this session (genq.py) behind punchMap_both. -/
import Derived.Test.YtojdlcbmbpgplaaMapPunch
import Derived.Test.YtojdlcbmbpgplaaHExtent
import Derived.Test.YtojdlcbmbpgplaaHFileMap
import Derived.Test.YtojdlcbmbpgplaaG23
namespace Go.Proofs.Ytojdlcbmbpgplaa.Q
open Go.RowKit Go.Proofs.YtojdlcbmbpgplaaW.PrintWords Go.Proofs.Ytojdlcbmbpgplaa.G
set_option linter.unusedVariables false
set_option linter.unusedSimpArgs false

set_option maxHeartbeats 2000000 in
theorem FnExactPunchMap : laws_FnExactPunchMap.Pure := by
  intro x0_0 x1_0 x2_0 o0 o1 o2
  refine Ev.rounds (r := true) ?_
  unfold laws_FnExactPunchMap.f
  obtain ⟨t0, e0, n0⟩ := szFileMap_ev x0_0 (o0).1 (1048576) (by omega) (by omega)
  by_cases c0 : t0 < 0
  · exact Ev.bind' _ e0 (Ev.pos c0 (Ev.now _))
  obtain ⟨⟨a0, b0⟩, lx0_0⟩ := n0 c0
  have kx0_0 : (x0_0.map convPiece).length ≤ 1048576 := by rw [List.length_map]; omega
  have to0 := toFileMap_ev x0_0 (by omega)
  have ea0 := eqFileMap_refl (x0_0.map convPiece) (by omega)
  obtain ⟨r, hs, hi, r0, r1⟩ := punchMap_both (x0_0.map convPiece) x1_0 x2_0 kx0_0
  obtain ⟨qa0, mx0_0, ma0, ha0, ba0, va0, _⟩ := markFileMap_ev (x0_0.map convPiece) (1) (by omega) (by omega)
  have er0 := eqFileMap_refl (r.1) (by omega)
  obtain ⟨qr0, mr0_0, mr0, hr0, br0, vr0, _⟩ := markFileMap_ev (r.1) (1) (by omega) (by omega)
  have er1 := eqExtentS_refl (r.2.1) (by omega)
  obtain ⟨qr1, mr1_0, mr1, hr1, br1, vr1, _⟩ := markExtentS_ev (r.2.1) (qr0) (by omega) (by omega)
  refine Ev.bind' _ e0 (Ev.neg c0 (?_))
  repeat (first
    | exact Ev.now _
    | refine Ev.bind' _ to0 ?_
    | refine Ev.bind' _ ea0 ?_
    | refine Ev.bind' _ hs ?_
    | refine Ev.bind' _ hi ?_
    | refine Ev.bind' _ ma0 ?_
    | refine Ev.bind' _ er0 ?_
    | refine Ev.bind' _ mr0 ?_
    | refine Ev.bind' _ hr0 ?_
    | refine Ev.bind' _ er1 ?_
    | refine Ev.bind' _ mr1 ?_
    | refine Ev.bind' _ hr1 ?_
    | refine Ev.pos rfl ?_
    | refine Ev.neg (by omega) ?_
    | refine Ev.neg (by dsimp only; omega) ?_
    | refine Ev.neg (by simp) ?_
    | refine Ev.pos (by simp) ?_
    | refine Ev.step (fun k => by rw [laws_FnExactPunchMap.j0]) ?_
    | refine Ev.step (fun k => by rw [laws_FnExactPunchMap.j1]) ?_
    | refine Ev.step (fun k => by rw [laws_FnExactPunchMap.j2]) ?_)
end Go.Proofs.Ytojdlcbmbpgplaa.Q
