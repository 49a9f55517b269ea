/- The plain law of FnExactMapSize, over numbers and lists: both sum the same lengths over the same pieces. No condition. -/
import Derived.Test.YtojdlcbmbpgplaaMapSz
import Derived.Test.YtojdlcbmbpgplaaMapGood
import Derived.Test.YtojdlcbmbpgplaaG9
import Derived.Test.YtojdlcbmbpgplaaG8
namespace Go.Proofs.Ytojdlcbmbpgplaa.Q
open Go.RowKit Go.Proofs.YtojdlcbmbpgplaaW.PrintWords Go.Proofs.Ytojdlcbmbpgplaa.G
set_option linter.unusedVariables false
set_option linter.unusedSimpArgs false

theorem MapSize_loops (l : List S48) (hl : l.length ≤ 1048576) : ∀ d i, l.length - i = d → i ≤ l.length → ∀ x y : Int, ∃ r, Ev (fun k => spec_MapSize.l0 k x y l (l.length : Int) (i : Int)) r ∧ Ev (fun k => impl_MapSize.l0 k x y l (l.length : Int) (i : Int)) r := by
  intro d
  induction d with
  | zero =>
    intro i hd hi x y
    have : i = l.length := by omega
    subst this
    refine ⟨(x, y, true), Ev.step (fun k => by rw [spec_MapSize.l0]) (Ev.neg (by omega) (Ev.now _)), Ev.step (fun k => by rw [impl_MapSize.l0]) (Ev.neg (by omega) (Ev.now _))⟩
  | succ d ih =>
    intro i hd hi x y
    by_cases hf : (l.getD i pz).f3 = true
    · obtain ⟨r, h1, h2⟩ := ih (i + 1) (by omega) (by omega) (wrap64 (x + (l.getD i pz).f1)) (wrap64 (y + (l.getD i pz).f1))
      refine ⟨r, Ev.step (fun k => by rw [spec_MapSize.l0]) ?_, Ev.step (fun k => by rw [impl_MapSize.l0]) ?_⟩
      all_goals
        rw [rd_cast, w64 (x := (i : Int) + 1) (by omega) (by omega)]
        refine Ev.pos (by omega) (Ev.pos (by omega) (Ev.pos (by omega) (Ev.pos hf ?_)))
        first | exact h1 | exact h2
    · obtain ⟨r, h1, h2⟩ := ih (i + 1) (by omega) (by omega) (wrap64 (x + (l.getD i pz).f1)) y
      refine ⟨r, Ev.step (fun k => by rw [spec_MapSize.l0]) ?_, Ev.step (fun k => by rw [impl_MapSize.l0]) ?_⟩
      all_goals
        rw [rd_cast, w64 (x := (i : Int) + 1) (by omega) (by omega)]
        refine Ev.pos (by omega) (Ev.pos (by omega) (Ev.pos (by omega) (Ev.neg hf ?_)))
        first | exact h1 | exact h2
theorem MapSize_alike (l : List S48) (hl : l.length ≤ 1048576) : ∃ r, Ev (fun k => spec_MapSize.f k l) r ∧ Ev (fun k => impl_MapSize.f k l) r := by
  unfold spec_MapSize.f impl_MapSize.f
  by_cases hg : Good l
  · obtain ⟨r, h1, h2⟩ := MapSize_loops l hl l.length 0 rfl (by omega) 0 0
    exact ⟨r, Ev.bind' _ (spec_GoodMap_ev l hl) (Ev.pos (by simpa using hg) h1), Ev.bind' _ (impl_GoodMap_ev l hl) (Ev.pos (by simpa using hg) h2)⟩
  · exact ⟨_, Ev.bind' _ (spec_GoodMap_ev l hl) (Ev.neg (by simpa using hg) (Ev.now _)), Ev.bind' _ (impl_GoodMap_ev l hl) (Ev.neg (by simpa using hg) (Ev.now _))⟩
theorem FnExactMapSize : laws_FnExactMapSize.Pure := by
  intro l hok
  have hl : l.length ≤ maxLen := hok.1
  refine Ev.rounds (r := true) ?_
  unfold laws_FnExactMapSize.f
  refine Ev.bindc _ (szFileMap_eq l hl) ?_
  by_cases hs : 1048576 - (l.length : Int) < 0
  · rw [if_pos hs]
    exact Ev.pos (by omega) (Ev.now _)
  · rw [if_neg hs]
    have hl1 : l.length ≤ 1048576 := by omega
    have hl2 : (l.map toPiece).length ≤ 1048576 := by rw [List.length_map]; exact hl1
    obtain ⟨r, h1, h2⟩ := MapSize_alike (l.map toPiece) hl2
    refine Ev.neg (by omega) (Ev.bind' _ (toFileMap_ev l hl1) (Ev.bind' _ h1 (Ev.bind' _ (toFileMap_ev l hl1) (Ev.bind' _ h2 ?_))))
    refine Ev.pos rfl (Ev.pos rfl ?_)
    refine Ev.step (fun k => by rw [laws_FnExactMapSize.j0]) ?_
    refine Ev.neg (by simp) (Ev.bind' _ (toFileMap_ev l hl1) (Ev.bind' _ (eqFileMap_ev _ _ hl2) ?_))
    exact Ev.pos (by simp) (Ev.now _)
end Go.Proofs.Ytojdlcbmbpgplaa.Q
