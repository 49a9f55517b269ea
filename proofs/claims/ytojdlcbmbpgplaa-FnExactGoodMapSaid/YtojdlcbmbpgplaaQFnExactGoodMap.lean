/- The plain law of FnExactGoodMap, over numbers and lists: both answers are 'the map is valid', and the copies are alike. No condition. -/
import Derived.Test.YtojdlcbmbpgplaaMapSz
import Derived.Test.YtojdlcbmbpgplaaMapGood
import Derived.Test.YtojdlcbmbpgplaaG8
namespace Go.Proofs.Ytojdlcbmbpgplaa.Q
open Go.RowKit Go.Proofs.YtojdlcbmbpgplaaW.PrintWords Go.Proofs.Ytojdlcbmbpgplaa.G

theorem FnExactGoodMap : laws_FnExactGoodMap.Pure := by
  intro l hok
  have hl : l.length ≤ maxLen := hok.1
  refine Ev.rounds (r := true) ?_
  unfold laws_FnExactGoodMap.f
  refine Ev.bindc _ (szFileMap_eq l hl) ?_
  by_cases hs : 1048576 - (l.length : Int) < 0
  · rw [if_pos hs]
    exact Ev.pos (by omega) (Ev.now _)
  · rw [if_neg hs]
    have hl1 : l.length ≤ 1048576 := by omega
    have hl2 : (l.map toPiece).length ≤ 1048576 := by rw [List.length_map]; exact hl1
    refine Ev.neg (by omega) ?_
    refine Ev.bind' _ (toFileMap_ev l hl1) (Ev.bind' _ (spec_GoodMap_ev _ hl2) (Ev.bind' _ (toFileMap_ev l hl1) (Ev.bind' _ (impl_GoodMap_ev _ hl2) ?_)))
    refine Ev.neg (by simp) (Ev.bind' _ (toFileMap_ev l hl1) (Ev.bind' _ (eqFileMap_ev _ _ hl2) ?_))
    exact Ev.pos (by simp) (Ev.now _)
end Go.Proofs.Ytojdlcbmbpgplaa.Q
