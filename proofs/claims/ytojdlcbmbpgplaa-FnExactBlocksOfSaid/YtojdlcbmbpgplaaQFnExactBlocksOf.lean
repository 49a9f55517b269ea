/- The plain law of FnExactBlocksOf: the reference sorts the pieces by their place on the device and joins what touches, the program marks the blocks and joins them: the same row of extents. No condition. -/
import Derived.Test.YtojdlcbmbpgplaaMapSz
import Derived.Test.YtojdlcbmbpgplaaMapMark
import Derived.Test.YtojdlcbmbpgplaaMapBlocks
import Derived.Test.YtojdlcbmbpgplaaHExtent
import Derived.Test.YtojdlcbmbpgplaaG27
namespace Go.Proofs.Ytojdlcbmbpgplaa.Q
open Go.RowKit Go.Proofs.YtojdlcbmbpgplaaW.PrintWords Go.Proofs.Ytojdlcbmbpgplaa.G
set_option linter.unusedVariables false
set_option linter.unusedSimpArgs false

theorem FnExactBlocksOf : laws_FnExactBlocksOf.Pure := by
  intro l0 h0
  refine Ev.rounds (r := true) ?_
  unfold laws_FnExactBlocksOf.f
  refine Ev.bindc _ (szFileMap_eq l0 h0.1) ?_
  by_cases hc : 1048576 - (l0.length : Int) < 0
  · rw [if_pos hc]
    exact Ev.pos (by omega) (Ev.now _)
  · rw [if_neg hc]
    have hl : l0.length ≤ 1048576 := by omega
    have ht := toFileMap_ev l0 hl
    obtain ⟨r, h1, h2, h3⟩ := blocks_ev (l0.map toPiece) (by rw [List.length_map]; omega)
    have he := eqExtentS_refl r.1 (by omega)
    have hm := markFileMap_ev (l0.map toPiece) (by rw [List.length_map]; omega)
    have hq := eqFileMap_ev (l0.map toPiece) (l0.map toPiece) (by rw [List.length_map]; omega)
    obtain ⟨q, m, h4, h5, h6, h7, h8⟩ := markExtentS_ev r.1 1 (by omega) (by omega)
    refine Ev.neg hc (Ev.bind' _ ht (Ev.bind' _ h1 (Ev.bind' _ ht (Ev.bind' _ h2 (Ev.bind' _ he (Ev.pos rfl ?_))))))
    refine Ev.step (fun k => by rw [laws_FnExactBlocksOf.j0]) ?_
    refine Ev.neg (by simp) (Ev.bind' _ ht (Ev.bind' _ hq (Ev.pos (by simp) (Ev.bind' _ hm (Ev.neg (by rw [List.length_map]; show ¬ (1 + 4 * (l0.length : Int) < 0); omega) (Ev.bind' _ he (Ev.pos rfl ?_)))))))
    refine Ev.step (fun k => by rw [laws_FnExactBlocksOf.j1]) ?_
    refine Ev.neg (by simp) (Ev.bind' _ h4 (Ev.bind' _ h5 (Ev.neg (by omega) (Ev.pos rfl (Ev.bind' _ ht (Ev.bind' _ h2 (Ev.bind' _ he (Ev.pos rfl ?_))))))))
    refine Ev.step (fun k => by rw [laws_FnExactBlocksOf.j2]) ?_
    exact Ev.neg (by simp) (Ev.bind' _ h5 (Ev.neg (by omega) (Ev.pos rfl (Ev.now _))))
end Go.Proofs.Ytojdlcbmbpgplaa.Q
