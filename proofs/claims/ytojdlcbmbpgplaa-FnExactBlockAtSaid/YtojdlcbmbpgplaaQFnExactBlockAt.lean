/- The plain law of FnExactBlockAt, over numbers and lists: the first piece that holds a block decides in both. No condition. -/
import Derived.Test.YtojdlcbmbpgplaaMapSz
import Derived.Test.YtojdlcbmbpgplaaMapCells
import Derived.Test.YtojdlcbmbpgplaaG11
import Derived.Test.YtojdlcbmbpgplaaG9
import Derived.Test.YtojdlcbmbpgplaaG10
namespace Go.Proofs.Ytojdlcbmbpgplaa.Q
open Go.RowKit Go.Proofs.YtojdlcbmbpgplaaW.PrintWords Go.Proofs.Ytojdlcbmbpgplaa.G
set_option linter.unusedVariables false
set_option linter.unusedSimpArgs false

/-- What a block is at. -/
def atOf (c : Cell) : Int × Bool := if c.f0 = true then (c.f1, c.f2) else (-1, false)
theorem l9At_ev (l : List S48) (h : ∀ i, i < l.length → Step l i) (hl : l.length ≤ 1048576) (n : Nat) (hn : n < 200) : Ev (fun k => spec_l9At.f k l (n : Int)) (atOf (cellAt l n)) := by
  have loop : ∀ d i, l.length - i = d → i ≤ l.length → (∀ j, j < i → ¬ ((l.getD j pz).f0 ≤ (n : Int) ∧ (n : Int) < (l.getD j pz).f0 + (l.getD j pz).f1)) → Ev (fun k => spec_l9At.l0 k (n : Int) l (l.length : Int) (i : Int)) (atOf (cellAt l n)) := by
    intro d
    induction d with
    | zero =>
      intro i hd hi hno
      have : i = l.length := by omega
      subst this
      refine Ev.step (fun k => by rw [spec_l9At.l0]) ?_
      refine Ev.neg (by omega) (Ev.now' ?_)
      have : l.find? (fun p => decide (p.f0 ≤ (n : Int)) && decide ((n : Int) < p.f0 + p.f1)) = none := by
        rw [List.find?_eq_none]
        intro x hx
        obtain ⟨j, hj, rfl⟩ := List.mem_iff_getElem.1 hx
        have := hno j hj
        rw [getD_eq _ _ _ hj] at this
        simpa using this
      unfold cellAt atOf
      rw [this]
      rfl
    | succ d ih =>
      intro i hd hi hno
      have hp := (h i (by omega)).1
      unfold IsPiece at hp
      refine Ev.step (fun k => by rw [spec_l9At.l0]) ?_
      rw [rd_cast, w64 (x := (i : Int) + 1) (by omega) (by omega), w64 (x := (l.getD i pz).f0 + (l.getD i pz).f1) (by omega) (by omega), w64 (x := (l.getD i pz).f2 + (n : Int)) (by omega) (by omega), w64 (x := (l.getD i pz).f2 + (n : Int) - (l.getD i pz).f0) (by omega) (by omega)]
      have rest : ¬ ((l.getD i pz).f0 ≤ (n : Int) ∧ (n : Int) < (l.getD i pz).f0 + (l.getD i pz).f1) → Ev (fun k => spec_l9At.l0 k (n : Int) l (l.length : Int) ((i : Int) + 1)) (atOf (cellAt l n)) := fun hc =>
        ih (i + 1) (by omega) (by omega) (fun j hj => by
          by_cases e : j = i
          · subst e; exact hc
          · exact hno j (by omega))
      refine Ev.pos (by omega) (Ev.pos (by omega) (Ev.pos (by omega) (Ev.ite (fun h1 => Ev.ite (fun h2 => ?_) (fun h2 => rest (by omega))) (fun h1 => rest (by omega)))))
      refine Ev.now' ?_
      have hf : l.find? (fun p => decide (p.f0 ≤ (n : Int)) && decide ((n : Int) < p.f0 + p.f1)) = some (l.getD i pz) := by
        have e : l = l.take i ++ l.getD i pz :: l.drop (i + 1) := by rw [← drop_getD l i pz (by omega), List.take_append_drop]
        have hno' : ∀ x ∈ l.take i, (decide (x.f0 ≤ (n : Int)) && decide ((n : Int) < x.f0 + x.f1)) = false := by
          intro x hx
          obtain ⟨j, hj, hjl, rfl⟩ := mem_take_getD pz hx
          have := hno j hj
          simp only [Bool.and_eq_false_iff, decide_eq_false_iff_not]
          omega
        generalize l.getD i pz = p at *
        rw [e, find_append _ _ _ hno']
        simp [List.find?_cons, h1, h2]
      unfold cellAt atOf
      rw [hf]
      simp only [if_true]
      congr 1
      omega
  unfold spec_l9At.f
  exact loop l.length 0 rfl (by omega) (by intro j hj; omega)
theorem BlockAt_alike (l : List S48) (hl : l.length ≤ 1048576) (n : Int) : ∃ r, Ev (fun k => spec_BlockAt.f k l n) r ∧ Ev (fun k => impl_BlockAt.f k l n) r := by
  unfold spec_BlockAt.f impl_BlockAt.f
  by_cases hg : Good l
  · by_cases hn : 0 ≤ n ∧ n ≤ 199
    · obtain ⟨m, rfl⟩ := Int.eq_ofNat_of_zero_le hn.1
      have h1 := l9At_ev l hg.2 hl m (by omega)
      have h2 := cells_ev l hg.2 hl
      have hlen : (cellsOf l).length = 200 := cellsOf_length l
      have hrd : rd_T78 (cellsOf l) (m : Int) = cellAt l m := by
        rw [← cellsOf_get l m (by omega)]
        simp [rd_T78]
      refine ⟨((atOf (cellAt l m)).1, (atOf (cellAt l m)).2, true), Ev.bind' _ (spec_GoodMap_ev l hl) (Ev.pos (by simpa using hg) (Ev.bindc _ (l1In_eq _ _ _) (Ev.pos (by simpa using hn) (Ev.bind' _ h1 (Ev.now _))))), Ev.bind' _ (impl_GoodMap_ev l hl) (Ev.pos (by simpa using hg) (Ev.bindc _ (within_eq _ _ _) ?_))⟩
      refine Ev.step (fun k => by rw [impl_BlockAt.j0]) ?_
      refine Ev.neg (by simpa using hn) (Ev.bind' _ h2 (Ev.pos (by omega) (Ev.pos (by omega) ?_)))
      rw [hrd]
      unfold atOf
      refine Ev.ite (fun h => ?_) (fun h => ?_)
      · rw [if_pos h]; exact Ev.now _
      · rw [if_neg h]; exact Ev.now _
    · refine ⟨_, Ev.bind' _ (spec_GoodMap_ev l hl) (Ev.pos (by simpa using hg) (Ev.bindc _ (l1In_eq _ _ _) (Ev.neg (by simpa using hn) (Ev.now _)))), Ev.bind' _ (impl_GoodMap_ev l hl) (Ev.pos (by simpa using hg) (Ev.bindc _ (within_eq _ _ _) ?_))⟩
      refine Ev.step (fun k => by rw [impl_BlockAt.j0]) ?_
      exact Ev.pos (by rw [dec_false hn]; rfl) (Ev.now _)
  · refine ⟨_, Ev.bind' _ (spec_GoodMap_ev l hl) (Ev.neg (by simpa using hg) (Ev.now _)), Ev.bind' _ (impl_GoodMap_ev l hl) (Ev.neg (by simpa using hg) ?_)⟩
    refine Ev.step (fun k => by rw [impl_BlockAt.j0]) ?_
    exact Ev.pos rfl (Ev.now _)
theorem FnExactBlockAt : laws_FnExactBlockAt.Pure := by
  intro l n hok hn
  have hl : l.length ≤ maxLen := hok.1
  refine Ev.rounds (r := true) ?_
  unfold laws_FnExactBlockAt.f
  refine Ev.bindc _ (szFileMap_eq l hl) ?_
  by_cases hs : 1048576 - (l.length : Int) < 0
  · rw [if_pos hs]
    exact Ev.pos (by omega) (Ev.now _)
  · rw [if_neg hs]
    have hl1 : l.length ≤ 1048576 := by omega
    have hl2 : (l.map toPiece).length ≤ 1048576 := by rw [List.length_map]; exact hl1
    obtain ⟨r, h1, h2⟩ := BlockAt_alike (l.map toPiece) hl2 n
    refine Ev.neg (by omega) (Ev.bind' _ (toFileMap_ev l hl1) (Ev.bind' _ h1 (Ev.bind' _ (toFileMap_ev l hl1) (Ev.bind' _ h2 ?_))))
    refine Ev.pos rfl (Ev.neg (by simp) ?_)
    refine Ev.step (fun k => by rw [laws_FnExactBlockAt.j0]) ?_
    refine Ev.neg (by simp) (Ev.bind' _ (toFileMap_ev l hl1) (Ev.bind' _ (eqFileMap_ev _ _ hl2) ?_))
    exact Ev.pos (by simp) (Ev.now _)
end Go.Proofs.Ytojdlcbmbpgplaa.Q
