/- Lemmas on the laws' own helpers, printed by a program of this session (gen_help.py). No statement. -/
import Derived.Test.YtdclpgcmeabmbaaHBase
import Derived.Test.YtdclpgcmeabmbaaHDevice
import Derived.Test.YtdclpgcmeabmbaaHString
import Derived.Test.YtdclpgcmeabmbaaG1
namespace Go.Proofs.Ytdclpgcmeabmbaa.Q
open Go.RowKit Go.Proofs.YtdclpgcmeabmbaaW.PrintWords Go.Proofs.Ytdclpgcmeabmbaa.G
set_option linter.unusedVariables false
set_option linter.unusedSimpArgs false
theorem eqStore_refl (x0 : List ByteArray) (x1 : List S90) (x2 : List ByteArray) (x3 : Int) (h0 : x0.length ≤ 4611686018427387904) (h1 : x1.length ≤ 4611686018427387904) (h2 : x2.length ≤ 4611686018427387904) : Ev (fun k => laws_eqStore.f k x0 x1 x2 x3 x0 x1 x2 x3) true := by
  unfold laws_eqStore.f
  exact Ev.bind' _ (eqDevice_refl x0 x1 h0 h1) (Ev.pos rfl (Ev.bind' _ (eqStringS_refl x2 h2) (Ev.pos rfl (Ev.pos rfl (Ev.now _)))))
theorem markStore_ev (x0 : List ByteArray) (x1 : List S90) (x2 : List ByteArray) (x3 : Int) (a : Int) (g0 : 0 ≤ a) (g1 : a + 1 * (x0.length : Int) + 2 * (x1.length : Int) + 1 * (x2.length : Int) ≤ 1152921504606846976) : ∃ (q : Int) (m0 : List ByteArray) (m1 : List S90) (m2 : List ByteArray), Ev (fun k => laws_markStore.f k x0 x1 x2 x3 a) (q, m0, m1, m2) ∧ Ev (fun k => laws_heldStore.f k m0 m1 m2 x3 a) q ∧ a ≤ q ∧ q = a + 1 * (x0.length : Int) + 2 * (x1.length : Int) + 1 * (x2.length : Int) ∧ m0.length = x0.length ∧ m1.length = x1.length ∧ m2.length = x2.length := by
  obtain ⟨q0, m0, m1, e0, f0, b0, c0, l0, l1⟩ := markDevice_ev x0 x1 a (by omega) (by omega)
  obtain ⟨q1, m2, e1, f1, b1, c1, l2⟩ := markStringS_ev x2 q0 (by omega) (by omega)
  refine ⟨q1, m0, m1, m2, ?_, ?_, by omega, by omega, l0, l1, l2⟩
  · unfold laws_markStore.f
    exact Ev.bind' _ e0 (Ev.bind' _ e1 (Ev.now _))
  · unfold laws_heldStore.f
    exact heldc f0 (by omega) (heldc f1 (by omega) (Ev.now _))
end Go.Proofs.Ytdclpgcmeabmbaa.Q
