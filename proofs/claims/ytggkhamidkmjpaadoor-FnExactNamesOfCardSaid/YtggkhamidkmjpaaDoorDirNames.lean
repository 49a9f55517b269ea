/- NamesOf's two ways: one sorted row. -/
import Derived.Test.YtggkhamidkmjpaaDoorDirInc
import Derived.Test.YtggkhamidkmjpaaDoorG3
import Derived.Test.YtggkhamidkmjpaaDoorG4
namespace Go.Proofs.YtggkhamidkmjpaaDoor.Q
open Go.RowKit Go.Proofs.YtggkhamidkmjpaaDoorW.PrintWords Go.Proofs.YtggkhamidkmjpaaDoor.G
set_option linter.unusedVariables false
set_option linter.unusedSimpArgs false
def flat (bs : List Bu) : List Nm := bs.flatMap (fun b => b.f1)
theorem dis_perm {l m : List Nm} (p : l.Perm m) (h : Dis l) : Dis m := (p.pairwise_iff (fun q => Ne.symm q)).1 h
theorem inc_dis {l : List Nm} (h : Inc l) : Dis l := List.Pairwise.imp (R := fun a b => lt a b = true) (S := fun a b : Nm => a.f0 ≠ b.f0) (fun {a b} q e => less_irrefl b.f0.toList (by unfold lt at q; rw [e] at q; exact q)) h
theorem nam1 (bs : List Bu) (n x15 : Int) (l : List Nm) (zl : l.length ≤ 1048576) : ∀ m i : Nat, l.length - i = m → i ≤ l.length → ∀ acc : List Nm, Inc acc → Dis (acc ++ l.drop i) → acc.length + (l.length - i) ≤ 1048576 →
    ∃ a2 : List Nm, Inc a2 ∧ a2.Perm (acc ++ l.drop i) ∧ ∀ R, Ev (fun k => spec_NamesOf.l0 k a2 bs n (wrap64 (x15 + 1))) R → Ev (fun k => spec_NamesOf.l1 k acc bs n x15 l (l.length : Int) (i : Int)) R := by
  intro m
  induction m with
  | zero =>
    intro i hd hi acc h1 h2 h3
    have e : i = l.length := by omega
    subst e
    refine ⟨acc, h1, by simp, fun R h => Ev.step (fun k => by rw [spec_NamesOf.l1]) (Ev.neg (by omega) h)⟩
  | succ m ih =>
    intro i hd hi acc h1 h2 h3
    have hlt : i < l.length := by omega
    rw [List.drop_eq_getElem_cons hlt] at h2
    have hne : ∀ y, y ∈ acc → y.f0 ≠ l[i].f0 := fun y hy => (List.pairwise_append.1 h2).2.2 y hy _ List.mem_cons_self
    obtain ⟨r, r1, r2, r3⟩ := put_ev acc l[i] h1 hne (by omega)
    have hp : (acc ++ l[i] :: l.drop (i + 1)).Perm (r ++ l.drop (i + 1)) := by
      refine List.Perm.trans ?_ (r2.symm.append_right _)
      exact List.perm_middle
    obtain ⟨a2, b1, b2, b3⟩ := ih (i + 1) (by omega) (by omega) r r3 (dis_perm hp h2) (by have := r2.length_eq; simp at this; omega)
    refine ⟨a2, b1, ?_, fun R h => ?_⟩
    · rw [List.drop_eq_getElem_cons hlt]
      exact b2.trans hp.symm
    · have hw : wrap64 ((i : Int) + 1) = ((i + 1 : Nat) : Int) := by rw [w64 (by omega) (by omega)]; omega
      have e : rd_T45 l (i : Int) = l[i] := nmAt_get l i hlt
      refine Ev.step (fun k => by rw [spec_NamesOf.l1]) (Ev.pos (by omega) (Ev.pos (by omega) (Ev.pos (by omega) ?_)))
      rw [e]
      refine Ev.bind' r r1 ?_
      rw [hw]
      exact b3 R h
theorem buc_get (bs : List Bu) (i : Nat) (h : i < bs.length) : rd_T43 bs (i : Int) = bs[i] := by
  show bs.getD (i : Int).toNat _ = _
  rw [Int.toNat_natCast, List.getD_eq_getElem?_getD, List.getElem?_eq_getElem h]
  rfl
theorem flat_drop (bs : List Bu) (i : Nat) (h : i < bs.length) : flat (bs.drop i) = bs[i].f1 ++ flat (bs.drop (i + 1)) := by
  unfold flat
  rw [List.drop_eq_getElem_cons h, List.flatMap_cons]
theorem nam0 (bs : List Bu) (zb : bs.length ≤ 1048576) : ∀ m i : Nat, bs.length - i = m → i ≤ bs.length → ∀ acc : List Nm, Inc acc → Dis (acc ++ flat (bs.drop i)) → (acc ++ flat (bs.drop i)).length ≤ 1048576 →
    ∃ r : List Nm, Inc r ∧ r.Perm (acc ++ flat (bs.drop i)) ∧ Ev (fun k => spec_NamesOf.l0 k acc bs (bs.length : Int) (i : Int)) (r, true) := by
  intro m
  induction m with
  | zero =>
    intro i hd hi acc h1 h2 h3
    have e : i = bs.length := by omega
    subst e
    refine ⟨acc, h1, by simp [flat], Ev.step (fun k => by rw [spec_NamesOf.l0]) (Ev.neg (by omega) (Ev.now _))⟩
  | succ m ih =>
    intro i hd hi acc h1 h2 h3
    have hlt : i < bs.length := by omega
    rw [flat_drop bs i hlt] at h2 h3
    have h3' := h3
    simp only [List.length_append] at h3'
    rw [← List.append_assoc] at h2 h3
    obtain ⟨a2, b1, b2, b3⟩ := nam1 bs (bs.length : Int) (i : Int) bs[i].f1 (by omega) bs[i].f1.length 0 (by omega) (by omega) acc h1 (List.pairwise_append.1 h2).1 (by omega)
    rw [List.drop_zero] at b2
    have hp : ((acc ++ bs[i].f1) ++ flat (bs.drop (i + 1))).Perm (a2 ++ flat (bs.drop (i + 1))) := b2.symm.append_right _
    obtain ⟨r, r1, r2, r3⟩ := ih (i + 1) (by omega) (by omega) a2 b1 (dis_perm hp h2) (by rw [← hp.length_eq]; exact h3)
    refine ⟨r, r1, ?_, ?_⟩
    · rw [flat_drop bs i hlt, ← List.append_assoc]
      exact r2.trans hp.symm
    · have hw : wrap64 ((i : Int) + 1) = ((i + 1 : Nat) : Int) := by rw [w64 (by omega) (by omega)]; omega
      refine Ev.step (fun k => by rw [spec_NamesOf.l0]) (Ev.pos (by omega) (Ev.pos (by omega) (Ev.pos (by omega) ?_)))
      rw [buc_get bs i hlt]
      refine b3 _ ?_
      rw [hw]
      exact r3
/-- The program's way: the rows joined, then sorted. -/
theorem join_ev (bs : List Bu) (zb : bs.length ≤ 1048576) (r : List Nm) : ∀ m i : Nat, bs.length - i = m → i ≤ bs.length → ∀ acc : List Nm, (acc ++ flat (bs.drop i)).length ≤ 1048576 → slices_SortFunc_impl_Name_at_impl_NamesOf_1.f (acc ++ flat (bs.drop i)) = some r →
    Ev (fun k => impl_NamesOf.l0 k acc bs (bs.length : Int) (i : Int)) (r, true) := by
  intro m
  induction m with
  | zero =>
    intro i hd hi acc h3 h
    have e : i = bs.length := by omega
    subst e
    rw [List.drop_length, show flat [] = [] from rfl, List.append_nil] at h
    exact Ev.step (fun k => by rw [impl_NamesOf.l0]) (Ev.neg (by omega) (Ev.bindc _ h (Ev.now _)))
  | succ m ih =>
    intro i hd hi acc h3 h
    have hlt : i < bs.length := by omega
    rw [flat_drop bs i hlt, ← List.append_assoc] at h h3
    have h4 := h3
    simp only [List.length_append] at h4
    have hw : wrap64 ((i : Int) + 1) = ((i + 1 : Nat) : Int) := by rw [w64 (by omega) (by omega)]; omega
    refine Ev.step (fun k => by rw [impl_NamesOf.l0]) (Ev.pos (by omega) (Ev.pos (by omega) (Ev.pos (by omega) ?_)))
    rw [buc_get bs i hlt, hw]
    exact Ev.pos (by omega) (ih (i + 1) (by omega) (by omega) _ h3 h)
end Go.Proofs.YtggkhamidkmjpaaDoor.Q
