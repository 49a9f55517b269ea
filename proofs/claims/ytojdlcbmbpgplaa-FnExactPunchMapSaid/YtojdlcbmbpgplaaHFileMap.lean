/- Lemmas on the laws' own helpers, printed by a program of this session (gen_help.py). No statement. -/
import Derived.Test.YtojdlcbmbpgplaaHBase
import Derived.Test.YtojdlcbmbpgplaaHPiece
import Derived.Test.YtojdlcbmbpgplaaG3
import Derived.Test.YtojdlcbmbpgplaaG4
import Derived.Test.YtojdlcbmbpgplaaG6
import Derived.Test.YtojdlcbmbpgplaaG8
namespace Go.Proofs.Ytojdlcbmbpgplaa.Q
open Go.RowKit Go.Proofs.YtojdlcbmbpgplaaW.PrintWords Go.Proofs.Ytojdlcbmbpgplaa.G
set_option linter.unusedVariables false
set_option linter.unusedSimpArgs false
theorem szFileMap_ev (x0 : List S45) (h0 : x0.length ≤ maxLen) (a : Int) (g0 : 0 ≤ a) (g1 : a ≤ 4611686018427387904) : ∃ r, Ev (fun k => laws_szFileMap.f x0 a) r ∧ (¬ r < 0 → (0 ≤ r ∧ r ≤ a) ∧ (x0.length : Int) ≤ a) := by
  unfold laws_szFileMap.f
  refine szc (szPieceS_ev x0 h0 a (by omega) (by omega)) fun t0 n0 p0 => ?_
  obtain ⟨b0, c0, d0⟩ := p0
  refine ⟨_, Ev.now _, fun _ => ⟨by omega, by omega⟩⟩
theorem toFileMap_ev (x0 : List S45) (h0 : x0.length ≤ 1048576) : Ev (fun k => laws_toFileMap.f k x0) (x0.map convPiece) := by
  unfold laws_toFileMap.f
  exact Ev.bind' _ (toPieceS_ev x0 h0) (Ev.now _)
theorem eqFileMap_refl (x0 : List S48) (h0 : x0.length ≤ 4611686018427387904) : Ev (fun k => laws_eqFileMap.f k x0 x0) true := by
  unfold laws_eqFileMap.f
  exact Ev.bind' _ (eqPieceS_refl x0 h0) (Ev.pos rfl (Ev.now _))
theorem markFileMap_ev (x0 : List S48) (a : Int) (g0 : 0 ≤ a) (g1 : a + 4 * (x0.length : Int) ≤ 1152921504606846976) : ∃ (q : Int) (m0 : List S48), Ev (fun k => laws_markFileMap.f k x0 a) (q, m0) ∧ Ev (fun k => laws_heldFileMap.f k m0 a) q ∧ a ≤ q ∧ q = a + 4 * (x0.length : Int) ∧ m0.length = x0.length := by
  obtain ⟨q0, m0, e0, f0, b0, c0, l0⟩ := markPieceS_ev x0 a (by omega) (by omega)
  refine ⟨q0, m0, ?_, ?_, by omega, by omega, l0⟩
  · unfold laws_markFileMap.f
    exact Ev.bind' _ e0 (Ev.now _)
  · unfold laws_heldFileMap.f
    exact heldc f0 (by omega) (Ev.now _)
end Go.Proofs.Ytojdlcbmbpgplaa.Q
