/- Lemmas on the laws' own helpers, printed by a program of this session (gen_help.py). No statement. -/
import Derived.Test.YtcdkgenfggdpaaaHBase
import Derived.Test.YtcdkgenfggdpaaaHString
import Derived.Test.YtcdkgenfggdpaaaHWrite
import Derived.Test.YtcdkgenfggdpaaaG6
import Derived.Test.YtcdkgenfggdpaaaG7
import Derived.Test.YtcdkgenfggdpaaaG9
import Derived.Test.YtcdkgenfggdpaaaG10
namespace Go.Proofs.Ytcdkgenfggdpaaa.Q
open Go.RowKit Go.Proofs.YtcdkgenfggdpaaaW.PrintWords Go.Proofs.Ytcdkgenfggdpaaa.G
set_option linter.unusedVariables false
set_option linter.unusedSimpArgs false
theorem szDevice_ev (x0 : List ByteArray) (x1 : List S76) (h0 : x0.length ≤ maxLen) (o0 : ∀ y ∈ x0, y.size ≤ maxLen) (h1 : x1.length ≤ maxLen) (o1 : ∀ y ∈ x1, ok76 y) (a : Int) (g0 : 0 ≤ a) (g1 : a ≤ 4611686018427387904) : ∃ r, Ev (fun k => laws_szDevice.f k x0 x1 a) r ∧ (¬ r < 0 → (0 ≤ r ∧ r ≤ a) ∧ (x0.length : Int) ≤ a ∧ (x1.length : Int) ≤ a ∧ (∀ j, j < x0.length → ((x0.getD j ByteArray.empty).size : Int) ≤ a) ∧ (∀ j, j < x1.length → ((x1.getD j z76).f1.size : Int) ≤ a)) := by
  unfold laws_szDevice.f
  refine szc (szStringS_ev x0 h0 o0 a (by omega) (by omega)) fun t0 n0 p0 => ?_
  obtain ⟨⟨b0, c0, d0⟩, s0⟩ := p0
  refine szc (szWriteS_ev x1 h1 o1 t0 (by omega) (by omega)) fun t1 n1 p1 => ?_
  obtain ⟨⟨b1, c1, d1⟩, s1⟩ := p1
  refine ⟨_, Ev.now _, fun _ => ⟨by omega, by omega, by omega, fun j hj => (by have := s0 j hj; omega), fun j hj => (by have := s1 j hj; omega)⟩⟩
theorem toDevice_ev (x0 : List ByteArray) (x1 : List S76) (h0 : x0.length ≤ 1048576) (h1 : x1.length ≤ 1048576) : Ev (fun k => laws_toDevice.f k x0 x1) (x0, x1.map convWrite) := by
  unfold laws_toDevice.f
  exact Ev.bind' _ (toStringS_ev x0 h0) (Ev.bind' _ (toWriteS_ev x1 h1) (Ev.now _))
theorem eqDevice_refl (x0 : List ByteArray) (x1 : List S72) (h0 : x0.length ≤ 4611686018427387904) (h1 : x1.length ≤ 4611686018427387904) : Ev (fun k => laws_eqDevice.f k x0 x1 x0 x1) true := by
  unfold laws_eqDevice.f
  exact Ev.bind' _ (eqStringS_refl x0 h0) (Ev.pos rfl (Ev.bind' _ (eqWriteS_refl x1 h1) (Ev.pos rfl (Ev.now _))))
theorem markDevice_ev (x0 : List ByteArray) (x1 : List S72) (a : Int) (g0 : 0 ≤ a) (g1 : a + 1 * (x0.length : Int) + 2 * (x1.length : Int) ≤ 1152921504606846976) : ∃ (q : Int) (m0 : List ByteArray) (m1 : List S72), Ev (fun k => laws_markDevice.f k x0 x1 a) (q, m0, m1) ∧ Ev (fun k => laws_heldDevice.f k m0 m1 a) q ∧ a ≤ q ∧ q = a + 1 * (x0.length : Int) + 2 * (x1.length : Int) ∧ m0.length = x0.length ∧ m1.length = x1.length := by
  obtain ⟨q0, m0, e0, f0, b0, c0, l0⟩ := markStringS_ev x0 a (by omega) (by omega)
  obtain ⟨q1, m1, e1, f1, b1, c1, l1⟩ := markWriteS_ev x1 q0 (by omega) (by omega)
  refine ⟨q1, m0, m1, ?_, ?_, by omega, by omega, l0, l1⟩
  · unfold laws_markDevice.f
    exact Ev.bind' _ e0 (Ev.bind' _ e1 (Ev.now _))
  · unfold laws_heldDevice.f
    exact heldc f0 (by omega) (heldc f1 (by omega) (Ev.now _))
end Go.Proofs.Ytcdkgenfggdpaaa.Q
