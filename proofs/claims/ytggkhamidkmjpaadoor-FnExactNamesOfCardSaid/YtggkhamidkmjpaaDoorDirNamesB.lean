/- NamesOf: the reference's answer is the program's. -/
import Derived.Test.YtggkhamidkmjpaaDoorDirNames
namespace Go.Proofs.YtggkhamidkmjpaaDoor.Q
open Go.RowKit Go.Proofs.YtggkhamidkmjpaaDoorW.PrintWords Go.Proofs.YtggkhamidkmjpaaDoor.G
set_option linter.unusedVariables false
set_option linter.unusedSimpArgs false
theorem sort_ev (l : List Nm) (hd : Dis l) (zl : l.length ≤ 1048576) : ∃ r, slices_SortFunc_impl_Name_at_impl_NamesOf_1.f l = some r ∧ r.Perm l ∧ Inc r := by
  obtain ⟨⟨s1, s2, s3⟩, s4⟩ := sortedNames l
  unfold slices_SortFunc_impl_Name_at_impl_NamesOf_1.f
  rw [if_pos zl]
  generalize Go.Sort.pdq (Go.Proofs.ltOf cmpNames) l.toArray 0 l.toArray.size (Lib.bitLen l.toArray.size) true true = d at s1 s2 s3 s4 ⊢
  have p : d.toList.Perm l := by
    rw [← s1, Array.extract_size] at s3
    rw [s1, Array.extract_size] at s3
    exact s3
  refine ⟨_, rfl, p, ?_⟩
  rw [Inc, List.pairwise_iff_getElem]
  intro i j hi hj hij
  have hi' : i < d.size := by simpa using hi
  have hj' : j < d.size := by simpa using hj
  have h := s4 i j (Nat.zero_le _) hij (by rw [← s1]; exact hj')
  rw [ltNames, getElem!_pos d j hj', getElem!_pos d i hi', ← Lib.toList_data, ← Lib.toList_data] at h
  have hne : (d.toList[i]).f0 ≠ (d.toList[j]).f0 := (List.pairwise_iff_getElem.1 (dis_perm p.symm hd)) i j hi hj hij
  rw [Array.getElem_toList, Array.getElem_toList] at hne ⊢
  by_cases c : lt d[i] d[j] = true
  · exact c
  · exact absurd (text_eq (less_total _ _ c (by rw [h]; decide))) hne
theorem ord_inc (l : List Nm) (h : Ord l) : Inc l := by
  rw [Inc, List.pairwise_iff_getElem]
  have key : ∀ m i j (hi : i < l.length) (hj : j < l.length), j = i + m + 1 → lt l[i] l[j] = true := by
    intro m
    induction m with
    | zero =>
      intro i j hi hj e
      have := h j (by omega) hj
      rw [show ((j : Int) - 1) = (i : Int) by omega, nmAt_get l i hi, nmAt_get l j hj] at this
      exact this
    | succ m ih =>
      intro i j hi hj e
      have h1 := ih i (j - 1) hi (by omega) (by omega)
      have h2 := h j (by omega) hj
      rw [show ((j : Int) - 1) = ((j - 1 : Nat) : Int) by omega, nmAt_get l (j - 1) (by omega), nmAt_get l j hj] at h2
      exact less_trans _ _ _ h1 h2
  intro i j hi hj hij
  exact key (j - i - 1) i j hi hj (by omega)
theorem flat_len : ∀ bs : List Bu, (∀ b, b ∈ bs → b.f1.length ≤ 4) → (flat bs).length ≤ 4 * bs.length
  | [], _ => by simp [flat]
  | b :: bs, h => by
    have h1 := h b List.mem_cons_self
    have h2 := flat_len bs (fun x hx => h x (List.mem_cons_of_mem _ hx))
    show ((b :: bs).flatMap (fun b => b.f1)).length ≤ _
    rw [List.flatMap_cons, List.length_append, List.length_cons]
    have : (bs.flatMap (fun b => b.f1)).length = (flat bs).length := rfl
    omega
section
variable {D : Int} {sl : List Int} {bs : List Bu}
theorem good_dis (G : GoodS D sl bs) : Dis (flat bs) := by
  unfold Dis flat
  rw [List.pairwise_flatMap]
  refine ⟨fun b hb => ?_, ?_⟩
  · obtain ⟨i, hi, rfl⟩ := List.mem_iff_getElem.1 hb
    have o : Ord bs[i].f1 := fun j h0 hj => by
      have := ((G.N i hi).1 j (by rw [buc, buc_get bs i hi]; exact hj)).or_ h0
      rw [buc, buc_get bs i hi] at this
      exact this
    exact inc_dis (ord_inc _ o)
  · rw [List.pairwise_iff_getElem]
    intro a b ha hb hab x hx y hy e
    obtain ⟨i, hi, rfl⟩ := List.mem_iff_getElem.1 hx
    obtain ⟨j, hj, rfl⟩ := List.mem_iff_getElem.1 hy
    have h1 := ((G.N a ha).1 i (by rw [buc, buc_get bs a ha]; exact hi)).hs
    have h2 := ((G.N b hb).1 j (by rw [buc, buc_get bs b hb]; exact hj)).hs
    rw [buc, buc_get bs a ha, nmAt_get _ i hi] at h1
    rw [buc, buc_get bs b hb, nmAt_get _ j hj, ← e, h1] at h2
    omega
theorem good_len (G : GoodS D sl bs) : (flat bs).length ≤ 1024 := by
  have h := flat_len bs (fun b hb => by
    obtain ⟨i, hi, rfl⟩ := List.mem_iff_getElem.1 hb
    have := (G.N i hi).2
    rw [buc, buc_get bs i hi] at this
    exact this)
  have h1 := pw_le D G.D1
  have h2 := G.B
  have h3 := G.n
  omega
theorem namesOf_both (D : Int) (sl : List Int) (bs : List Bu) (Z : SzOk sl bs) : ∃ (r : List Nm) (b : Bool), Ev (fun k => spec_NamesOf.f k D sl bs) (r, b) ∧ Ev (fun k => impl_NamesOf.f k D sl bs) (r, b) ∧ r.length ≤ 1024 := by
  obtain ⟨g, ⟨g1, g2⟩, g3⟩ := goodDir_ev D sl bs Z
  cases g with
  | false =>
    refine ⟨[], false, ?_, ?_, by simp⟩
    · unfold spec_NamesOf.f
      exact Ev.bind' _ g1 (Ev.neg (by decide) (Ev.now _))
    · unfold impl_NamesOf.f
      exact Ev.bind' _ g2 (Ev.neg (by decide) (Ev.now _))
  | true =>
    have G := g3.1 rfl
    have hd := good_dis G
    have hl := good_len G
    obtain ⟨r, r1, r2, r3⟩ := nam0 bs Z.b bs.length 0 (by omega) (by omega) [] List.Pairwise.nil (by rw [List.drop_zero, List.nil_append]; exact hd) (by rw [List.drop_zero, List.nil_append]; omega)
    rw [List.drop_zero, List.nil_append] at r2
    obtain ⟨s, s1, s2, s3⟩ := sort_ev (flat bs) hd (by omega)
    have e : s = r := inc_unique s r s3 r1 (s2.trans r2.symm)
    subst e
    refine ⟨s, true, ?_, ?_, by rw [s2.length_eq]; exact hl⟩
    · unfold spec_NamesOf.f
      exact Ev.bind' _ g1 (Ev.pos rfl r3)
    · unfold impl_NamesOf.f
      refine Ev.bind' _ g2 (Ev.pos rfl ?_)
      have := join_ev bs Z.b s bs.length 0 (by omega) (by omega) [] (by rw [List.drop_zero, List.nil_append]; omega) (by rw [List.drop_zero, List.nil_append]; exact s1)
      exact this
end
end Go.Proofs.YtggkhamidkmjpaaDoor.Q
