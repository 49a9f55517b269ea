/- Lemmas on the laws' own helpers, printed by a program of this session (gen_help.py). No statement. -/
import Derived.Test.YtpfimjgfojdhhaaHBase
import Derived.Test.YtpfimjgfojdhhaaHExtent
import Derived.Test.YtpfimjgfojdhhaaG2
namespace Go.Proofs.Ytpfimjgfojdhhaa.Q
open Go.RowKit Go.Proofs.YtpfimjgfojdhhaaW.PrintWords Go.Proofs.Ytpfimjgfojdhhaa.G
set_option linter.unusedVariables false
set_option linter.unusedSimpArgs false
theorem szFree_ev (x0 : Int) (x1 : List S29) (x2 : List S29) (h1 : x1.length ≤ maxLen) (h2 : x2.length ≤ maxLen) (a : Int) (g0 : 0 ≤ a) (g1 : a ≤ 4611686018427387904) : ∃ r, Ev (fun k => laws_szFree.f x0 x1 x2 a) r ∧ (¬ r < 0 → (0 ≤ r ∧ r ≤ a) ∧ (x1.length : Int) ≤ a ∧ (x2.length : Int) ≤ a) := by
  unfold laws_szFree.f
  refine szc (szExtentS_ev x1 h1 a (by omega) (by omega)) fun t0 n0 p0 => ?_
  obtain ⟨b0, c0, d0⟩ := p0
  refine szc (szExtentS_ev x2 h2 t0 (by omega) (by omega)) fun t1 n1 p1 => ?_
  obtain ⟨b1, c1, d1⟩ := p1;refine ⟨_, Ev.now _, fun _ => ⟨by omega, by omega, by omega⟩⟩
theorem toFree_ev (x0 : Int) (x1 : List S29) (x2 : List S29) (h1 : x1.length ≤ 1048576) (h2 : x2.length ≤ 1048576) : Ev (fun k => laws_toFree.f k x0 x1 x2) (x0, x1.map convExtent, x2.map convExtent) := by
  unfold laws_toFree.f;exact Ev.bind' _ (toExtentS_ev x1 h1) (Ev.bind' _ (toExtentS_ev x2 h2) (Ev.now _))
theorem eqFree_refl (x0 : Int) (x1 : List S40) (x2 : List S40) (h1 : x1.length ≤ 4611686018427387904) (h2 : x2.length ≤ 4611686018427387904) : Ev (fun k => laws_eqFree.f k x0 x1 x2 x0 x1 x2) true := by
  unfold laws_eqFree.f;exact Ev.pos rfl (Ev.bind' _ (eqExtentS_refl x1 h1) (Ev.pos rfl (Ev.bind' _ (eqExtentS_refl x2 h2) (Ev.pos rfl (Ev.now _)))))
theorem markFree_ev (x0 : Int) (x1 : List S40) (x2 : List S40) (a : Int) (g0 : 0 ≤ a) (g1 : a + 2 * (x1.length : Int) + 2 * (x2.length : Int) ≤ 1152921504606846976) : ∃ (q : Int) (m1 : List S40) (m2 : List S40), Ev (fun k => laws_markFree.f k x0 x1 x2 a) (q, m1, m2) ∧ Ev (fun k => laws_heldFree.f k x0 m1 m2 a) q ∧ a ≤ q ∧ q = a + 2 * (x1.length : Int) + 2 * (x2.length : Int) ∧ m1.length = x1.length ∧ m2.length = x2.length := by
  obtain ⟨q0, m1, e0, f0, b0, c0, l1⟩ := markExtentS_ev x1 a (by omega) (by omega);obtain ⟨q1, m2, e1, f1, b1, c1, l2⟩ := markExtentS_ev x2 q0 (by omega) (by omega);refine ⟨q1, m1, m2, ?_, ?_, by omega, by omega, l1, l2⟩
  · unfold laws_markFree.f
    exact Ev.bind' _ e0 (Ev.bind' _ e1 (Ev.now _))
  · unfold laws_heldFree.f
    exact heldc f0 (by omega) (heldc f1 (by omega) (Ev.now _))
end Go.Proofs.Ytpfimjgfojdhhaa.Q
