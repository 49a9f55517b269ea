/- Lemmas on the laws' own helpers, printed by a program of this session (gen_help.py). No statement. -/
import Derived.Test.YtcdkgenfggdpaaaHBase
import Derived.Test.YtcdkgenfggdpaaaHDevice
import Derived.Test.YtcdkgenfggdpaaaHString
import Derived.Test.YtcdkgenfggdpaaaG6
import Derived.Test.YtcdkgenfggdpaaaG7
import Derived.Test.YtcdkgenfggdpaaaG9
import Derived.Test.YtcdkgenfggdpaaaG10
namespace Go.Proofs.Ytcdkgenfggdpaaa.Q
open Go.RowKit Go.Proofs.YtcdkgenfggdpaaaW.PrintWords Go.Proofs.Ytcdkgenfggdpaaa.G
set_option linter.unusedVariables false
set_option linter.unusedSimpArgs false
theorem szStore_ev (x0 : List ByteArray) (x1 : List S76) (x2 : List ByteArray) (x3 : Int) (h0 : x0.length ≤ maxLen) (o0 : ∀ y ∈ x0, y.size ≤ maxLen) (h1 : x1.length ≤ maxLen) (o1 : ∀ y ∈ x1, ok76 y) (h2 : x2.length ≤ maxLen) (o2 : ∀ y ∈ x2, y.size ≤ maxLen) (a : Int) (g0 : 0 ≤ a) (g1 : a ≤ 4611686018427387904) : ∃ r, Ev (fun k => laws_szStore.f k x0 x1 x2 x3 a) r ∧ (¬ r < 0 → (0 ≤ r ∧ r ≤ a) ∧ (x0.length : Int) ≤ a ∧ (x1.length : Int) ≤ a ∧ (x2.length : Int) ≤ a ∧ (∀ j, j < x0.length → ((x0.getD j ByteArray.empty).size : Int) ≤ a) ∧ (∀ j, j < x1.length → ((x1.getD j z76).f1.size : Int) ≤ a) ∧ (∀ j, j < x2.length → ((x2.getD j ByteArray.empty).size : Int) ≤ a)) := by
  unfold laws_szStore.f
  refine szc (szDevice_ev x0 x1 h0 o0 h1 o1 a (by omega) (by omega)) fun t0 n0 p0 => ?_
  obtain ⟨⟨b0, c0⟩, e0, e1, s0, s1⟩ := p0
  refine szc (szStringS_ev x2 h2 o2 t0 (by omega) (by omega)) fun t1 n1 p1 => ?_
  obtain ⟨⟨b1, c1, d1⟩, s2⟩ := p1
  refine ⟨_, Ev.now _, fun _ => ⟨by omega, by omega, by omega, by omega, fun j hj => (by have := s0 j hj; omega), fun j hj => (by have := s1 j hj; omega), fun j hj => (by have := s2 j hj; omega)⟩⟩
theorem toStore_ev (x0 : List ByteArray) (x1 : List S76) (x2 : List ByteArray) (x3 : Int) (h0 : x0.length ≤ 1048576) (h1 : x1.length ≤ 1048576) (h2 : x2.length ≤ 1048576) : Ev (fun k => laws_toStore.f k x0 x1 x2 x3) (x0, x1.map convWrite, x2, x3) := by
  unfold laws_toStore.f
  exact Ev.bind' _ (toDevice_ev x0 x1 h0 h1) (Ev.bind' _ (toStringS_ev x2 h2) (Ev.now _))
theorem eqStore_refl (x0 : List ByteArray) (x1 : List S72) (x2 : List ByteArray) (x3 : Int) (h0 : x0.length ≤ 4611686018427387904) (h1 : x1.length ≤ 4611686018427387904) (h2 : x2.length ≤ 4611686018427387904) : Ev (fun k => laws_eqStore.f k x0 x1 x2 x3 x0 x1 x2 x3) true := by
  unfold laws_eqStore.f
  exact Ev.bind' _ (eqDevice_refl x0 x1 h0 h1) (Ev.pos rfl (Ev.bind' _ (eqStringS_refl x2 h2) (Ev.pos rfl (Ev.pos rfl (Ev.now _)))))
theorem markStore_ev (x0 : List ByteArray) (x1 : List S72) (x2 : List ByteArray) (x3 : Int) (a : Int) (g0 : 0 ≤ a) (g1 : a + 1 * (x0.length : Int) + 2 * (x1.length : Int) + 1 * (x2.length : Int) ≤ 1152921504606846976) : ∃ (q : Int) (m0 : List ByteArray) (m1 : List S72) (m2 : List ByteArray), Ev (fun k => laws_markStore.f k x0 x1 x2 x3 a) (q, m0, m1, m2) ∧ Ev (fun k => laws_heldStore.f k m0 m1 m2 x3 a) q ∧ a ≤ q ∧ q = a + 1 * (x0.length : Int) + 2 * (x1.length : Int) + 1 * (x2.length : Int) ∧ m0.length = x0.length ∧ m1.length = x1.length ∧ m2.length = x2.length := by
  obtain ⟨q0, m0, m1, e0, f0, b0, c0, l0, l1⟩ := markDevice_ev x0 x1 a (by omega) (by omega)
  obtain ⟨q1, m2, e1, f1, b1, c1, l2⟩ := markStringS_ev x2 q0 (by omega) (by omega)
  refine ⟨q1, m0, m1, m2, ?_, ?_, by omega, by omega, l0, l1, l2⟩
  · unfold laws_markStore.f
    exact Ev.bind' _ e0 (Ev.bind' _ e1 (Ev.now _))
  · unfold laws_heldStore.f
    exact heldc f0 (by omega) (heldc f1 (by omega) (Ev.now _))
end Go.Proofs.Ytcdkgenfggdpaaa.Q
