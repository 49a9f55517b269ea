/- Lemmas on the laws' own helpers, printed by a program of this session (gen_help.py). No statement. -/
import Derived.Test.YthlifcbkpafofaaDoorHBase
import Derived.Test.YthlifcbkpafofaaDoorHSlot
import Derived.Test.YthlifcbkpafofaaDoorG4
import Derived.Test.YthlifcbkpafofaaDoorG5
namespace Go.Proofs.YthlifcbkpafofaaDoor.Q
open Go.RowKit Go.Proofs.YthlifcbkpafofaaDoorW.PrintWords Go.Proofs.YthlifcbkpafofaaDoor.G
set_option linter.unusedVariables false
set_option linter.unusedSimpArgs false
theorem eqRing_refl (x0 : List S26) (x1 : Int) (x2 : Int) (x3 : Int) (h0 : x0.length ≤ 4611686018427387904) : Ev (fun k => laws_eqRing.f k x0 x1 x2 x3 x0 x1 x2 x3) true := by
  unfold laws_eqRing.f
  exact Ev.bind' _ (eqSlotS_refl x0 h0) (Ev.pos rfl (Ev.pos rfl (Ev.pos rfl (Ev.pos rfl (Ev.now _)))))
theorem markRing_ev (x0 : List S26) (x1 : Int) (x2 : Int) (x3 : Int) (a : Int) (g0 : 0 ≤ a) (g1 : a + 4 * (x0.length : Int) ≤ 1152921504606846976) : ∃ (q : Int) (m0 : List S26), Ev (fun k => laws_markRing.f k x0 x1 x2 x3 a) (q, m0) ∧ Ev (fun k => laws_heldRing.f k m0 x1 x2 x3 a) q ∧ a ≤ q ∧ q = a + 4 * (x0.length : Int) ∧ m0.length = x0.length := by
  obtain ⟨q0, m0, e0, f0, b0, c0, l0⟩ := markSlotS_ev x0 a (by omega) (by omega)
  refine ⟨q0, m0, ?_, ?_, by omega, by omega, l0⟩
  · unfold laws_markRing.f
    exact Ev.bind' _ e0 (Ev.now _)
  · unfold laws_heldRing.f
    exact heldc f0 (by omega) (Ev.now _)
end Go.Proofs.YthlifcbkpafofaaDoor.Q
