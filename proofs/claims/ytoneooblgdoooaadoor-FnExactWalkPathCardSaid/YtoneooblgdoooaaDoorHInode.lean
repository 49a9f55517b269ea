/- Lemmas on the laws' own helpers, printed by a program of this session (gen_help.py). No statement. -/
import Derived.Test.YtoneooblgdoooaaDoorHBase
import Derived.Test.YtoneooblgdoooaaDoorHName
import Derived.Test.YtoneooblgdoooaaDoorG1
import Derived.Test.YtoneooblgdoooaaDoorG2
namespace Go.Proofs.YtoneooblgdoooaaDoor.Q
open Go.RowKit Go.Proofs.YtoneooblgdoooaaDoorW.PrintWords Go.Proofs.YtoneooblgdoooaaDoor.G
set_option linter.unusedVariables false
set_option linter.unusedSimpArgs false
theorem szInode_ev (x0 : Bool) (x1 : Int) (x2 : List S80) (h2 : x2.length ≤ maxLen) (o2 : ∀ y ∈ x2, ok80 y) (a : Int) (g0 : 0 ≤ a) (g1 : a ≤ 4611686018427387904) : ∃ r, Ev (fun k => laws_szInode.f k x0 x1 x2 a) r ∧ (¬ r < 0 → (0 ≤ r ∧ r ≤ a) ∧ (x2.length : Int) ≤ a ∧ (∀ j, j < x2.length → ((x2.getD j z80).f0.size : Int) ≤ a)) := by
  unfold laws_szInode.f
  refine szc (szNameS_ev x2 h2 o2 a (by omega) (by omega)) fun t0 n0 p0 => ?_
  obtain ⟨⟨b0, c0, d0⟩, s2⟩ := p0
  refine ⟨_, Ev.now _, fun _ => ⟨by omega, by omega, fun j hj => (by have := s2 j hj; omega)⟩⟩
theorem toInode_ev (x0 : Bool) (x1 : Int) (x2 : List S80) (h2 : x2.length ≤ 1048576) : Ev (fun k => laws_toInode.f k x0 x1 x2) (x0, x1, x2.map convName) := by
  unfold laws_toInode.f
  exact Ev.bind' _ (toNameS_ev x2 h2) (Ev.now _)
theorem eqInode_refl (x0 : Bool) (x1 : Int) (x2 : List S42) (h2 : x2.length ≤ 4611686018427387904) : Ev (fun k => laws_eqInode.f k x0 x1 x2 x0 x1 x2) true := by
  unfold laws_eqInode.f
  exact Ev.neg (by simp) (Ev.pos rfl (Ev.bind' _ (eqNameS_refl x2 h2) (Ev.pos rfl (Ev.now _))))
end Go.Proofs.YtoneooblgdoooaaDoor.Q
