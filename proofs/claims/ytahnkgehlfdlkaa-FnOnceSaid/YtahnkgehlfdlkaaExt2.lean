/- A law on stores more for the printed walks. No program, no statement. -/
import Derived.Test.YtahnkgehlfdlkaaWWords
open Array renaming getElem?_modify→abF
open Go.World renaming setCell→abb,cell?→abD
namespace Go.Proofs.YtahnkgehlfdlkaaW.PrintWords
open Go.RowKit
set_option linter.unusedVariables false
set_option linter.unusedSimpArgs false
@[go_sem] theorem cell_set_twice (w : World) (p : Addr) (a b : Value) : ((w.setCell p a).setCell p b).cell? p = (w.setCell p b).cell? p := by
 simp only[abb,abD,abF]
 by_cases h:∃o,w.heap[p.block]?=some o
 ·obtain⟨o,h⟩:=h
  simp only[h,if_true,Option.map_some]
  by_cases hs:p.spot.isSome=true
  all_goals(cases o<;>simp[hs,Array.getElem?_setIfInBounds])
  try(split<;>simp_all)
 ·have h':w.heap[p.block]?=none:=by
   cases e:w.heap[p.block]? with
   |none=>rfl
   |some o=>exact absurd ⟨o,e⟩ h
  simp[h']
theorem cell_set_over(w:World)(g o g2 o2:Nat)(a b:Value):((w.setCell ⟨g2,o2,none⟩ a).setCell ⟨g,o,none⟩ b).cell? ⟨g,o,none⟩=(w.setCell ⟨g,o,none⟩ b).cell? ⟨g,o,none⟩:=by
 by_cases hg:g2=g
 ·subst hg
  simp only[abb,abD,abF]
  cases h:w.heap[g2]? with
  |none=>simp[h]
  |some x=>cases x<;>simp[h,Array.getElem?_setIfInBounds]
 ·simp only[abb,abD,abF]
  simp[hg,Ne.symm hg]
attribute [go_sem high] cell_set_over
end Go.Proofs.YtahnkgehlfdlkaaW.PrintWords
