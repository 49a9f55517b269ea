/- The plain law of FnExactNewStore: the reference and the program give the same answer, the arguments stay, and the answer's memory is its own. No condition. Printed by a program of this session (genq.py) behind newStore_both. -/
import Derived.Test.YtdclpgcmeabmbaaStoreNew
import Derived.Test.YtdclpgcmeabmbaaHStore
import Derived.Test.YtdclpgcmeabmbaaG2
namespace Go.Proofs.Ytdclpgcmeabmbaa.Q
open Go.RowKit Go.Proofs.YtdclpgcmeabmbaaW.PrintWords Go.Proofs.Ytdclpgcmeabmbaa.G
set_option linter.unusedVariables false
set_option linter.unusedSimpArgs false

set_option maxHeartbeats 2000000 in
theorem FnExactNewStore : laws_FnExactNewStore.Pure := by
  intro x0_0 o0
  refine Ev.rounds (r := true) ?_
  unfold laws_FnExactNewStore.f
  obtain ⟨r, hs, hi, r0, r1, r2⟩ := newStore_both x0_0
  have er0 := eqStore_refl (r.1) (r.2.1) (r.2.2.1) (r.2.2.2.1) (by omega) (by omega) (by omega)
  obtain ⟨qr0, mr0_0, mr0_1, mr0_2, mr0, hr0, br0, vr0, _, _, _⟩ := markStore_ev (r.1) (r.2.1) (r.2.2.1) (r.2.2.2.1) (1) (by omega) (by omega)
  repeat (first
    | exact Ev.now _
    | refine Ev.bind' _ hs ?_
    | refine Ev.bind' _ hi ?_
    | refine Ev.bind' _ er0 ?_
    | refine Ev.bind' _ mr0 ?_
    | refine Ev.bind' _ hr0 ?_
    | refine Ev.pos rfl ?_
    | refine Ev.neg (by omega) ?_
    | refine Ev.neg (by dsimp only; omega) ?_
    | refine Ev.neg (by simp) ?_
    | refine Ev.pos (by simp) ?_
    | refine Ev.step (fun k => by rw [laws_FnExactNewStore.j0]) ?_
    | refine Ev.step (fun k => by rw [laws_FnExactNewStore.j1]) ?_
    | refine Ev.step (fun k => by rw [laws_FnExactNewStore.j2]) ?_)
end Go.Proofs.Ytdclpgcmeabmbaa.Q
