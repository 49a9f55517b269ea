/- Lemmas on the laws' own helpers, printed by a program of this session (gen_help.py). No statement. -/
import Derived.Test.YtfbjeppfnlfejaaDoorHBase
import Derived.Test.YtfbjeppfnlfejaaDoorHName
import Derived.Test.YtfbjeppfnlfejaaDoorG1
import Derived.Test.YtfbjeppfnlfejaaDoorG3
import Derived.Test.YtfbjeppfnlfejaaDoorG5
namespace Go.Proofs.YtfbjeppfnlfejaaDoor.Q
open Go.RowKit Go.Proofs.YtfbjeppfnlfejaaDoorW.PrintWords Go.Proofs.YtfbjeppfnlfejaaDoor.G
set_option linter.unusedVariables false
set_option linter.unusedSimpArgs false
theorem szBucket_ev (x0 : Int) (x1 : List S87) (h1 : x1.length ≤ maxLen) (o1 : ∀ y ∈ x1, ok87 y) (a : Int) (g0 : 0 ≤ a) (g1 : a ≤ 4611686018427387904) : ∃ r, Ev (fun k => laws_szBucket.f k x0 x1 a) r ∧ (¬ r < 0 → (0 ≤ r ∧ r ≤ a) ∧ (x1.length : Int) ≤ a ∧ (∀ j, j < x1.length → ((x1.getD j z87).f0.size : Int) ≤ a)) := by
  unfold laws_szBucket.f
  refine szc (szNameS_ev x1 h1 o1 a (by omega) (by omega)) fun t0 n0 p0 => ?_
  obtain ⟨⟨b0, c0, d0⟩, s1⟩ := p0
  refine ⟨_, Ev.now _, fun _ => ⟨by omega, by omega, fun j hj => (by have := s1 j hj; omega)⟩⟩
theorem toBucket_ev (x0 : Int) (x1 : List S87) (h1 : x1.length ≤ 1048576) : Ev (fun k => laws_toBucket.f k x0 x1) (x0, x1.map convName) := by
  unfold laws_toBucket.f
  exact Ev.bind' _ (toNameS_ev x1 h1) (Ev.now _)
theorem eqBucket_refl (x0 : Int) (x1 : List S53) (h1 : x1.length ≤ 4611686018427387904) : Ev (fun k => laws_eqBucket.f k x0 x1 x0 x1) true := by
  unfold laws_eqBucket.f
  exact Ev.pos rfl (Ev.bind' _ (eqNameS_refl x1 h1) (Ev.pos rfl (Ev.now _)))
end Go.Proofs.YtfbjeppfnlfejaaDoor.Q
