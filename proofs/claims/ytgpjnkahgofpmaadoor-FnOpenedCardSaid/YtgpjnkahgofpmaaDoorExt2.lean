/- A law on stores more for the printed walks. No program, no statement. -/
import Derived.Test.YtgpjnkahgofpmaaDoorWWords
open Array renaming getElem?_modify→abO
open Go.World renaming cell?→aav,setCell→abd
namespace Go.Proofs.YtgpjnkahgofpmaaDoorW.PrintWords
open Go.RowKit
set_option linter.unusedVariables false
set_option linter.unusedSimpArgs false
@[go_sem] theorem cell_set_twice (w : World) (p : Addr) (a b : Value) : ((w.setCell p a).setCell p b).cell? p = (w.setCell p b).cell? p := by
 simp only[abd,aav,abO]
 by_cases h:∃o,w.heap[p.block]?=some o
 ·obtain⟨o,h⟩:=h
  simp only[h,if_true,Option.map_some]
  by_cases hs:p.spot.isSome=true
  all_goals(cases o<;>simp[hs,Array.getElem?_setIfInBounds])
  try(split<;>simp_all)
 ·have h':w.heap[p.block]?=none:=by
   cases e:w.heap[p.block]? with
   |none=>rfl
   |some o=>exact absurd ⟨o,e⟩ h
  simp[h']
theorem Wf(w:World)(g o g2 o2:Nat)(a b:Value):((w.setCell ⟨g2,o2,none⟩ a).setCell ⟨g,o,none⟩ b).cell? ⟨g,o,none⟩=(w.setCell ⟨g,o,none⟩ b).cell? ⟨g,o,none⟩:=by
 by_cases hg:g2=g
 ·subst hg
  simp only[abd,aav,abO]
  cases h:w.heap[g2]? with
  |none=>simp[h]
  |some x=>cases x<;>simp[h,Array.getElem?_setIfInBounds]
 ·simp only[abd,aav,abO]
  simp[hg,Ne.symm hg]
attribute [go_sem high] Wf
end Go.Proofs.YtgpjnkahgofpmaaDoorW.PrintWords
