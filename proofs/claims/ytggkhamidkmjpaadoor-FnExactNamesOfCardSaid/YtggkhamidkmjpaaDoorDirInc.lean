/- Rows of names in order: one of a kind; a name put where it belongs. -/
import Derived.Test.YtggkhamidkmjpaaDoorDirAt
import Derived.Test.YtggkhamidkmjpaaDoorG3
namespace Go.Proofs.YtggkhamidkmjpaaDoor.Q
open Go.RowKit Go.Proofs.YtggkhamidkmjpaaDoorW.PrintWords Go.Proofs.YtggkhamidkmjpaaDoor.G
set_option linter.unusedVariables false
set_option linter.unusedSimpArgs false
abbrev lt (a b : Nm) : Bool := Op.bytesLess a.f0.toList b.f0.toList
/-- In order, no name twice. -/
def Inc (l : List Nm) : Prop := l.Pairwise (fun a b => lt a b = true)
/-- No name twice. -/
def Dis (l : List Nm) : Prop := l.Pairwise (fun a b => a.f0 ≠ b.f0)
theorem less_irrefl (x : List UInt8) : ¬ Op.bytesLess x x = true := fun h => by
  have h1 := (cmp_eq x x).2 rfl
  have h2 := (cmp_lt x x).2 h
  omega
theorem less_total : ∀ x y : List UInt8, ¬ Op.bytesLess x y = true → ¬ Op.bytesLess y x = true → x = y
  | [], [], _, _ => rfl
  | [], _ :: _, h, _ => absurd (by simp [Op.bytesLess]) h
  | _ :: _, [], _, h => absurd (by simp [Op.bytesLess]) h
  | a :: x, b :: y, h1, h2 => by
    have ih := less_total x y
    unfold Op.bytesLess at h1 h2
    simp only [Bool.or_eq_true, decide_eq_true_iff, Bool.and_eq_true, beq_iff_eq] at h1 h2
    have e : a = b := by
      by_cases q : a = b
      · exact q
      · rcases UInt8.lt_or_lt_of_ne q with h | h
        · exact absurd (Or.inl h) h1
        · exact absurd (Or.inl h) h2
    subst e
    rw [ih (fun h => h1 (Or.inr ⟨rfl, h⟩)) (fun h => h2 (Or.inr ⟨rfl, h⟩))]
theorem text_eq {a b : ByteArray} (h : a.toList = b.toList) : a = b := by
  rw [Lib.toList_data, Lib.toList_data] at h
  cases a; cases b
  congr 1
  exact Array.toList_inj.1 h
theorem inc_unique : ∀ l m : List Nm, Inc l → Inc m → l.Perm m → l = m
  | [], m, _, _, p => (List.Perm.nil_eq p)
  | a :: l, [], _, _, p => absurd p.length_eq (by simp)
  | a :: l, b :: m, hl, hm, p => by
    have e : a = b := by
      by_cases q : a = b
      · exact q
      · have ha : a ∈ m := by
          rcases List.mem_cons.1 (p.mem_iff.1 (List.mem_cons_self (a := a) (l := l))) with h | h
          · exact absurd h q
          · exact h
        have hb : b ∈ l := by
          rcases List.mem_cons.1 (p.mem_iff.2 (List.mem_cons_self (a := b) (l := m))) with h | h
          · exact absurd h.symm q
          · exact h
        exact absurd (less_trans _ _ _ ((List.pairwise_cons.1 hm).1 a ha) ((List.pairwise_cons.1 hl).1 b hb)) (less_irrefl _)
    subst e
    rw [inc_unique l m (List.pairwise_cons.1 hl).2 (List.pairwise_cons.1 hm).2 p.cons_inv]
theorem nmAt_get (l : List Nm) (i : Nat) (h : i < l.length) : nmAt l (i : Int) = l[i] := by
  show l.getD (i : Int).toNat _ = _
  rw [Int.toNat_natCast, List.getD_eq_getElem?_getD, List.getElem?_eq_getElem h]
  rfl
theorem inc_ord {l : List Nm} (h : Inc l) : Ord l := fun i h0 hi => by
  rw [show ((i : Int) - 1) = ((i - 1 : Nat) : Int) by omega, nmAt_get l (i - 1) (by omega), nmAt_get l i hi]
  exact (List.pairwise_iff_getElem.1 h) (i - 1) i (by omega) hi (by omega)
theorem put_ev (l : List Nm) (x : Nm) (hi : Inc l) (hn : ∀ y, y ∈ l → y.f0 ≠ x.f0) (zl : l.length ≤ 1048576) :
    ∃ r, Ev (fun k => spec_l8Put.f k l x.f0 x.f1) r ∧ r.Perm (x :: l) ∧ Inc r := by
  obtain ⟨p, hp⟩ := ord_at l x.f0 (inc_ord hi)
  have hle := hp.le
  have hh : hasAt l x.f0 p = false := by
    unfold hasAt
    by_cases c : p < l.length
    · rw [decide_eq_true c, Bool.true_and, nmAt_get l p c]
      have := hn l[p] (List.getElem_mem c)
      rw [beq_eq_false_iff_ne]
      exact fun e => this (text_eq e)
    · rw [decide_eq_false c, Bool.false_and]
  have ha := l8At_ev l x.f0 zl p hp
  rw [hh] at ha
  refine ⟨(l.take p ++ [x]) ++ l.drop p, ?_, ?_, ?_⟩
  · unfold spec_l8Put.f
    refine Ev.bind' _ ha ?_
    refine Ev.pos (by omega) (Ev.pos (by omega) ?_)
    refine Ev.bindc _ rfl (Ev.pos (by simp; omega) (Ev.bindc _ rfl (Ev.pos (by simp; omega) (Ev.bindc _ rfl (Ev.neg (by simp) (Ev.bindc _ rfl (Ev.pos (by simp; omega) (Ev.now' ?_))))))))
    simp
  · refine (List.perm_append_comm (l₁ := l.take p) (l₂ := [x])).append_right _ |>.trans ?_
    simp [List.take_append_drop]
  · have e1 : ∀ y, y ∈ l.take p → lt y x = true := fun y hy => by
      obtain ⟨i, hi', rfl⟩ := List.mem_iff_getElem.1 hy
      rw [List.length_take] at hi'
      have := hp.lo i (by omega)
      rw [nmAt_get l i (by omega)] at this
      rw [List.getElem_take]
      exact this
    have e2 : ∀ y, y ∈ l.drop p → lt x y = true := fun y hy => by
      obtain ⟨i, hi', rfl⟩ := List.mem_iff_getElem.1 hy
      rw [List.length_drop] at hi'
      have h1 := hp.hi (p + i) (by omega) (by omega)
      rw [nmAt_get l (p + i) (by omega)] at h1
      rw [List.getElem_drop]
      by_cases c : lt x l[p + i] = true
      · exact c
      · exact absurd (text_eq (less_total _ _ h1 c)) (hn _ (List.getElem_mem _))
    have e3 := hi
    rw [← List.take_append_drop p l] at e3
    obtain ⟨i1, i2, i3⟩ := List.pairwise_append.1 e3
    unfold Inc
    rw [List.append_assoc, List.pairwise_append]
    refine ⟨i1, List.pairwise_cons.2 ⟨e2, i2⟩, fun a h1 b h2 => ?_⟩
    rcases List.mem_cons.1 h2 with rfl | h2
    · exact e1 a h1
    · exact i3 a h1 b h2
end Go.Proofs.YtggkhamidkmjpaaDoor.Q
