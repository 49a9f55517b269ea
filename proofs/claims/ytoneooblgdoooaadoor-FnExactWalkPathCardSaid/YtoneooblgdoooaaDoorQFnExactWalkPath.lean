/- The plain law of FnExactWalkPath: the reference and the program give the same answer, and the arguments stay. No condition. -/
import Derived.Test.YtoneooblgdoooaaDoorNameWalk
import Derived.Test.YtoneooblgdoooaaDoorG4
namespace Go.Proofs.YtoneooblgdoooaaDoor.Q
open Go.RowKit Go.Proofs.YtoneooblgdoooaaDoorW.PrintWords Go.Proofs.YtoneooblgdoooaaDoor.G
set_option linter.unusedVariables false
set_option linter.unusedSimpArgs false
/-- Sizes of the laws' name space are those of the program's. -/
theorem names_sizes (x : List S59) (h1 : (x.length : Int) ≤ 1048576)
    (h3 : ∀ j, j < x.length → ((x.getD j z59).f2.length : Int) ≤ 1048576 ∧ ∀ q, q < (x.getD j z59).f2.length → (((x.getD j z59).f2.getD q z80).f0.size : Int) ≤ 1048576) :
    SzN (x.map convInode) ∧ ∀ j, j < (x.map convInode).length → ((x.map convInode).getD j zI).f2.length ≤ 1048576 := by
  have len : (x.map convInode).length = x.length := List.length_map ..
  have at_ : ∀ j, j < x.length → (x.map convInode).getD j zI = convInode (x.getD j z59) := fun j hj => by
    rw [List.getD_eq_getElem?_getD, List.getElem?_map, List.getD_eq_getElem?_getD, List.getElem?_eq_getElem hj]; rfl
  have nat_ : ∀ (l : List S80) (j : Nat), j < l.length → (l.map convName).getD j zN = convName (l.getD j z80) := fun l j hj => by
    rw [List.getD_eq_getElem?_getD, List.getElem?_map, List.getD_eq_getElem?_getD, List.getElem?_eq_getElem hj]; rfl
  have nl : ∀ j, j < (x.map convInode).length → ((x.map convInode).getD j zI).f2.length ≤ 1048576 := fun j hj => by
    rw [at_ j (by omega)]
    have := (h3 j (by omega)).1
    show ((x.getD j z59).f2.map convName).length ≤ _
    rw [List.length_map]; omega
  refine ⟨⟨nl, fun k hk i hi => ?_⟩, nl⟩
  unfold nms at hi ⊢
  rw [at_ k (by omega)] at hi ⊢
  have hi' : i < (x.getD k z59).f2.length := by
    have h : i < ((x.getD k z59).f2.map convName).length := hi
    rwa [List.length_map] at h
  have := (h3 k (by omega)).2 i hi'
  show (((x.getD k z59).f2.map convName).getD i zN).f0.size ≤ _
  rw [nat_ _ i hi']
  show ((x.getD k z59).f2.getD i z80).f0.size ≤ _
  omega
theorem FnExactWalkPath : laws_FnExactWalkPath.Pure := by
  intro x0 a o0 oa
  refine Ev.rounds (r := true) ?_
  unfold laws_FnExactWalkPath.f
  refine Ev.ite (fun _ => Ev.now _) (fun ha => ?_)
  obtain ⟨t0, e0, n0⟩ := szNames_ev x0 o0.1 o0.2 1048576 (by omega) (by omega)
  by_cases c0 : t0 < 0
  · exact Ev.bind' _ e0 (Ev.pos c0 (Ev.now _))
  obtain ⟨_, l1, l3⟩ := n0 c0
  obtain ⟨Z, hn⟩ := names_sizes x0 l1 l3
  have to0 := toNames_ev x0 (by omega) (fun j hj => by have := (l3 j hj).1; omega)
  have len : (x0.map convInode).length = x0.length := List.length_map ..
  have ea0 := eqNames_refl (x0.map convInode) (by omega) hn
  obtain ⟨r, hs, hi⟩ := walkPath_both (x0.map convInode) Z (by omega) a (by omega)
  refine Ev.bind' _ e0 (Ev.neg c0 (Ev.bind' _ to0 (Ev.bind' _ hs (Ev.bind' _ to0 (Ev.bind' _ hi (Ev.pos rfl ?_))))))
  rw [show (r.2 != r.2) = false from by simp]
  refine Ev.step (fun k => by rw [laws_FnExactWalkPath.j0]) (Ev.neg (by simp) ?_)
  exact Ev.bind' _ to0 (Ev.bind' _ ea0 (Ev.pos rfl (Ev.now _)))
end Go.Proofs.YtoneooblgdoooaaDoor.Q
