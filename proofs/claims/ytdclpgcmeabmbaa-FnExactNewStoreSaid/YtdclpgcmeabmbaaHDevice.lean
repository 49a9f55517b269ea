/- Lemmas on the laws' own helpers, printed by a program of this session (gen_help.py). No statement. -/
import Derived.Test.YtdclpgcmeabmbaaHBase
import Derived.Test.YtdclpgcmeabmbaaHString
import Derived.Test.YtdclpgcmeabmbaaHWrite
import Derived.Test.YtdclpgcmeabmbaaG1
namespace Go.Proofs.Ytdclpgcmeabmbaa.Q
open Go.RowKit Go.Proofs.YtdclpgcmeabmbaaW.PrintWords Go.Proofs.Ytdclpgcmeabmbaa.G
set_option linter.unusedVariables false
set_option linter.unusedSimpArgs false
theorem eqDevice_refl (x0 : List ByteArray) (x1 : List S90) (h0 : x0.length ≤ 4611686018427387904) (h1 : x1.length ≤ 4611686018427387904) : Ev (fun k => laws_eqDevice.f k x0 x1 x0 x1) true := by
  unfold laws_eqDevice.f
  exact Ev.bind' _ (eqStringS_refl x0 h0) (Ev.pos rfl (Ev.bind' _ (eqWriteS_refl x1 h1) (Ev.pos rfl (Ev.now _))))
theorem markDevice_ev (x0 : List ByteArray) (x1 : List S90) (a : Int) (g0 : 0 ≤ a) (g1 : a + 1 * (x0.length : Int) + 2 * (x1.length : Int) ≤ 1152921504606846976) : ∃ (q : Int) (m0 : List ByteArray) (m1 : List S90), Ev (fun k => laws_markDevice.f k x0 x1 a) (q, m0, m1) ∧ Ev (fun k => laws_heldDevice.f k m0 m1 a) q ∧ a ≤ q ∧ q = a + 1 * (x0.length : Int) + 2 * (x1.length : Int) ∧ m0.length = x0.length ∧ m1.length = x1.length := by
  obtain ⟨q0, m0, e0, f0, b0, c0, l0⟩ := markStringS_ev x0 a (by omega) (by omega)
  obtain ⟨q1, m1, e1, f1, b1, c1, l1⟩ := markWriteS_ev x1 q0 (by omega) (by omega)
  refine ⟨q1, m0, m1, ?_, ?_, by omega, by omega, l0, l1⟩
  · unfold laws_markDevice.f
    exact Ev.bind' _ e0 (Ev.bind' _ e1 (Ev.now _))
  · unfold laws_heldDevice.f
    exact heldc f0 (by omega) (heldc f1 (by omega) (Ev.now _))
end Go.Proofs.Ytdclpgcmeabmbaa.Q
