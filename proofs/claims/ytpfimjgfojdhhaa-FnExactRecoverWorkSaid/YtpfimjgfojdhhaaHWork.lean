/- Lemmas on the laws' own helpers, printed by a program of this session (gen_help.py). No statement. -/
import Derived.Test.YtpfimjgfojdhhaaHBase
import Derived.Test.YtpfimjgfojdhhaaHFree
import Derived.Test.YtpfimjgfojdhhaaHItem
import Derived.Test.YtpfimjgfojdhhaaG2
namespace Go.Proofs.Ytpfimjgfojdhhaa.Q
open Go.RowKit Go.Proofs.YtpfimjgfojdhhaaW.PrintWords Go.Proofs.Ytpfimjgfojdhhaa.G
set_option linter.unusedVariables false
set_option linter.unusedSimpArgs false
theorem szWork_ev (x0 : Int) (x1 : List S29) (x2 : List S29) (x3 : Int) (x4 : List S68) (h1 : x1.length ≤ maxLen) (h2 : x2.length ≤ maxLen) (h4 : x4.length ≤ maxLen) (a : Int) (g0 : 0 ≤ a) (g1 : a ≤ 4611686018427387904) : ∃ r, Ev (fun k => laws_szWork.f x0 x1 x2 x3 x4 a) r ∧ (¬ r < 0 → (0 ≤ r ∧ r ≤ a) ∧ (x1.length : Int) ≤ a ∧ (x2.length : Int) ≤ a ∧ (x4.length : Int) ≤ a) := by
  unfold laws_szWork.f
  refine szc (szFree_ev x0 x1 x2 h1 h2 a (by omega) (by omega)) fun t0 n0 p0 => ?_
  obtain ⟨⟨b0, c0⟩, e1, e2⟩ := p0
  refine szc (szItemS_ev x4 h4 t0 (by omega) (by omega)) fun t1 n1 p1 => ?_
  obtain ⟨b1, c1, d1⟩ := p1;refine ⟨_, Ev.now _, fun _ => ⟨by omega, by omega, by omega, by omega⟩⟩
theorem toWork_ev (x0 : Int) (x1 : List S29) (x2 : List S29) (x3 : Int) (x4 : List S68) (h1 : x1.length ≤ 1048576) (h2 : x2.length ≤ 1048576) (h4 : x4.length ≤ 1048576) : Ev (fun k => laws_toWork.f k x0 x1 x2 x3 x4) (x0, x1.map convExtent, x2.map convExtent, x3, x4.map convItem) := by
  unfold laws_toWork.f;exact Ev.bind' _ (toFree_ev x0 x1 x2 h1 h2) (Ev.bind' _ (toItemS_ev x4 h4) (Ev.now _))
theorem eqWork_refl (x0 : Int) (x1 : List S40) (x2 : List S40) (x3 : Int) (x4 : List S56) (h1 : x1.length ≤ 4611686018427387904) (h2 : x2.length ≤ 4611686018427387904) (h4 : x4.length ≤ 4611686018427387904) : Ev (fun k => laws_eqWork.f k x0 x1 x2 x3 x4 x0 x1 x2 x3 x4) true := by
  unfold laws_eqWork.f;exact Ev.bind' _ (eqFree_refl x0 x1 x2 h1 h2) (Ev.pos rfl (Ev.pos rfl (Ev.bind' _ (eqItemS_refl x4 h4) (Ev.pos rfl (Ev.now _)))))
theorem markWork_ev (x0 : Int) (x1 : List S40) (x2 : List S40) (x3 : Int) (x4 : List S56) (a : Int) (g0 : 0 ≤ a) (g1 : a + 2 * (x1.length : Int) + 2 * (x2.length : Int) + 5 * (x4.length : Int) ≤ 1152921504606846976) : ∃ (q : Int) (m1 : List S40) (m2 : List S40) (m4 : List S56), Ev (fun k => laws_markWork.f k x0 x1 x2 x3 x4 a) (q, m1, m2, m4) ∧ Ev (fun k => laws_heldWork.f k x0 m1 m2 x3 m4 a) q ∧ a ≤ q ∧ q = a + 2 * (x1.length : Int) + 2 * (x2.length : Int) + 5 * (x4.length : Int) ∧ m1.length = x1.length ∧ m2.length = x2.length ∧ m4.length = x4.length := by
  obtain ⟨q0, m1, m2, e0, f0, b0, c0, l1, l2⟩ := markFree_ev x0 x1 x2 a (by omega) (by omega);obtain ⟨q1, m4, e1, f1, b1, c1, l4⟩ := markItemS_ev x4 q0 (by omega) (by omega);refine ⟨q1, m1, m2, m4, ?_, ?_, by omega, by omega, l1, l2, l4⟩
  · unfold laws_markWork.f
    exact Ev.bind' _ e0 (Ev.bind' _ e1 (Ev.now _))
  · unfold laws_heldWork.f
    exact heldc f0 (by omega) (heldc f1 (by omega) (Ev.now _))
end Go.Proofs.Ytpfimjgfojdhhaa.Q
